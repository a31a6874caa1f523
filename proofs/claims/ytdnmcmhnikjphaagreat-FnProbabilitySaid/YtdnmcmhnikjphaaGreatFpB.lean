/- How Go values lie in memory, and an evaluator of code with its soundness (part 2 of 7). Conditions: those that stand in each theorem; nothing is assumed of any program. -/
import Derived.Test.YtdnmcmhnikjphaaGreatFpA
import Derived.Tactics
import Derived.WalkKit
import Derived.Laws.StructEq
import Derived.Laws.Cells
import Derived.Laws.MakeOwn
import Derived.Laws.OwnMore
import Derived.Laws.AppendOwnNone

set_option linter.unusedVariables false
set_option linter.unusedSimpArgs false
set_option linter.unnecessarySimpa false

namespace Go.FP
open Go.RowKit
variable {T : Tab} {S : Nat -> Prop} {w : World} {env : Env} {tmps : Array Value} {vs : Nat -> Value} {ps : Nat -> AV} {cs : Nat -> List Value} {bs : Nat -> Nat -> List Nat} {c : Cx} {s : St} {caps : FuncId -> List Ty} {sig : FuncId -> Option Sig} {orc : Orc} {ls : List Leaf} {x : Operand} {t : Ty} {v : Value} {d : Nat} {f : FuncId} {e : TypeId} {cells : List Value} {lf : Leaf} {n : Nat} {u : Value} {rs : List (Ty × Lvl)} {k : Kind} {av : AV} {sg : Sig} {τ : Ty} {w' : World} {xs : List (Σ t : Ty, t.D)} {te : TE}
theorem Y1l (c : Cx) (s : St) : ∀ (t : Ty) (cs : List Value) (ls : List Leaf) (g : List Value), constLeaves t cs = some (ls, g) ->
  ∃ m, cs = m ++ g /\ ls.length = m.length /\ ls.map Leaf.t = flat t /\ (∀ l ∈ ls, l.m.settled = true) /\ ∀ (l : Nat) (lf : Leaf) (u : Value), ls[l]? = some lf -> m[l]? = some u -> LeafV c s u lf
 | .unit, cs, ls, g, h => by
  simp [constLeaves] at h;obtain ⟨rfl, rfl⟩ := h;exact ⟨[], rfl, rfl, rfl, sm, sm⟩
 | .pair a b, cs, ls, g, h => by
  simp [constLeaves] at h;cases p : constLeaves a cs with
  | none => rw [p] at h; simp at h
  | some q =>
   obtain ⟨x, r⟩ := q;rw [p] at h;simp only at h;cases z : constLeaves b r with
   | none => rw [z] at h; simp at h
   | some q =>
    obtain ⟨y, r'⟩ := q;rw [z] at h;simp at h;obtain ⟨rfl, rfl⟩ := h;obtain ⟨A, C, I, E, L, N⟩ := Y1l c s a cs x r p;obtain ⟨B, D, l2, F, M, k2⟩ := Y1l c s b r y r' z;refine ⟨A ++ B, by rw [C, D, X7], by simp [I, l2], by rw [List.map_append, E, F]; rfl, fun l i => ?_, fun l lf u i j => ?_⟩
    ·rcases X5.1 i with i | i
     ·exact L l i
     ·exact M l i
    ·grind
 | .int k, cs, ls, g, h => by
  unfold constLeaves at h;split at h
  ·split at h
   ·rename_i G;subst G;simp at h;obtain ⟨rfl, rfl⟩ := h;refine ⟨[_], rfl, rfl, rfl, by simp [Mode.settled], fun l lf u i j => ?_⟩;cases l with
    | zero => simp only [Xi, X0] at i j; subst i; subst j; exact ⟨⟨rfl, rfl⟩, trivial⟩
    | succ l => simp at i
   ·simp at h
  ·simp at h
 | .bool, cs, ls, g, h => by
  unfold constLeaves at h;split at h
  ·simp at h;obtain ⟨rfl, rfl⟩ := h;refine ⟨[_], rfl, rfl, rfl, by simp [Mode.settled], fun l lf u i j => ?_⟩;cases l with
   | zero => simp only [Xi, X0] at i j; subst i; subst j; exact ⟨⟨rfl, rfl⟩, trivial⟩
   | succ l => simp at i
  ·simp at h
 | .str, cs, ls, g, h => by
  unfold constLeaves at h;split at h
  ·simp at h;obtain ⟨rfl, rfl⟩ := h;refine ⟨[_], rfl, rfl, rfl, by simp [Mode.settled], fun l lf u i j => ?_⟩;cases l with
   | zero => simp only [Xi, X0] at i j; subst i; subst j; exact ⟨⟨rfl, rfl⟩, trivial⟩
   | succ l => simp at i
  ·simp at h
 | .slice e t, cs, ls, g, h => by
  unfold constLeaves at h;split at h
  ·simp at h;obtain ⟨rfl, rfl⟩ := h;refine ⟨[_], rfl, rfl, rfl, by simp [Mode.settled], fun l lf u i j => ?_⟩;cases l with
   | zero => simp only [Xi, X0] at i j; subst i; subst j; exact ⟨Rep.zero (RoS c s) s.w (.slice e t) .dp, trivial⟩
   | succ l => simp at i
  ·simp at h
theorem Y2c : ∀ (s n : Nat) (ls : List Leaf), (borrowFrom s n ls).length = ls.length
 | s, n, [] => rfl
 | s, n, l :: ls => by simp [borrowFrom, Y2c s (n + 1) ls]
theorem Y1o : ∀ (s n : Nat) (ls : List Leaf) (l : Nat), (borrowFrom s n ls)[l]? = (ls[l]?).map fun lf => if lf.m.own then ⟨lf.t, lf.x, .bor s (n + l) []⟩ else lf
 | s, n, [], l => by simp [borrowFrom]
 | s, n, l0 :: ls, 0 => by simp [borrowFrom]
 | s, n, l0 :: ls, l + 1 => by simp [borrowFrom, Y1o s (n + 1) ls l, X1y, Nat.add_comm 1 l]
theorem Y6e {r l : Nat} (i : s.env r = .con k ls) (j : ls[l]? = some lf) (q : (s.cs r)[l]? = some u) (h : LeafRel c s r l u lf) :
  (if lf.m.own then (⟨lf.t, lf.x, .bor r l []⟩ : Leaf) else lf).m.own = false /\ Held c s u (if lf.m.own then ⟨lf.t, lf.x, .bor r l []⟩ else lf) := by
 by_cases b : lf.m.own = true
 ·rw [X3 b];refine ⟨rfl, ?_, ⟨lf, u, ⟨by rw [i]; simp only [AV.leaf?]; rw [Y2]; exact j, b, q⟩, fun _ => ⟨lf.m, rfl, rfl⟩⟩, fun _ _ p => by simp at p⟩;obtain ⟨t, x, m⟩ := lf;cases m with
  | at_ lv => exact h.rep.ro
  | bor _ _ _ => simp [Mode.own] at b
  | dead => simp [Mode.own] at b
 ·rw [X4 b];have g : lf.m.own = false := by simpa using b
  exact ⟨g, (h.held g).2⟩
abbrev SS (env : Env) (ps : Nat -> AV) (tmps : Array Value) (vs : Nat -> Value) (w : World) (cs : Nat -> List Value) (bs : Nat -> Nat -> List Nat) : St := ⟨ovl env ps, ovlT tmps vs, w, cs, bs⟩
def evT (tmps : Array Value) : Operand -> Value
 | .tmp t => tmps.getD t undef
 | .const v => v
 | .global g => .pointer (some ⟨g, 0, none⟩)
 | .func f => .func (.func f) #[] #[]
theorem Y5 (a : Act) : a.eval = evT a.tmps := by
 funext x;cases x <;> rfl
theorem KCells.noBox {j : List Nat} (h : KCells c w j k v cells) (g : (∀ e, k ≠ .box e) /\ ∀ i n b, k ≠ .tupB i n b) : KCells c w [] k v cells := by
 cases k with
 | val => exact ⟨h.1, rfl⟩
 | agg => exact ⟨h.1, rfl⟩
 | tup b => exact ⟨rfl, h.2⟩
 | box e => exact absurd rfl (g.1 e)
 | tupB i n b => exact absurd rfl (g.2 i n b)
theorem Yj (E : env.length = tmps.size) (h : Rel c (SS env ps tmps vs w cs bs)) (ty : Option Ty) (x : Operand) :
  ∃ cells, ValC c (SS env ps tmps vs w cs bs) (rd ty env x) (evT tmps x) cells := by
 cases x with
 | tmp t =>
  by_cases M : t < env.length
  ·have N : t < tmps.size := E ▸ M;have j := h.av t;have I : (SS env ps tmps vs w cs bs).env t = get env t := Y8 M;have V : (SS env ps tmps vs w cs bs).tm t = tmps.getD t undef := X3 N;rw [I, V] at j;have con : ∀ k ls, get env t = .con k ls -> ((∀ e, k ≠ .box e) /\ ∀ i n U, k ≠ .tupB i n U) -> ∃ cells, ValC c (SS env ps tmps vs w cs bs) (.con k (borrowFrom t 0 ls)) (tmps.getD t undef) cells := by
    intro k ls m hb;rw [m] at j;obtain ⟨G, W, Y, Z⟩ := j;refine ⟨_, G.noBox hb, by rw [Y2c]; exact W, fun l lf u y z => ?_⟩;rw [Y2, Y1o, X13] at y;obtain ⟨O, D, rfl⟩ := Xw.1 y;have := Y6e (c := c) (s := SS env ps tmps vs w cs bs) (by rw [I, m]) D z (Z l O u (by rw [Y2]; exact D) z);exact LeafV.of_held this.1 this.2
   simp only [rd, evT];cases m : get env t with
   | con k ls =>
    cases k with
    | val => exact con _ _ m sm
    | agg => exact con _ _ m sm
    | tup U => exact con _ _ m sm
    | tupB i n U => exact ⟨[], trivial⟩
    | box e =>
     rw [m] at j;obtain ⟨⟨B, G, W, Y⟩, _⟩ := j;exact ⟨[], e, ls, B, by rw [I, m], by rw [V]; exact G, G⟩
   | undef => exact ⟨[], trivial⟩
   | skip => rw [m] at j; exact ⟨[], j.1⟩
   | path r off => rw [m] at j; exact ⟨[], j.2⟩
   | eptr ls wr => rw [m] at j; exact ⟨[], j.2⟩
   | clo f caps => rw [m] at j; exact ⟨[], j.2⟩
   | cloR f xs => rw [m] at j; exact ⟨[], j.2⟩
   | fptr f caps => rw [m] at j; exact ⟨[], j.2⟩
   | cloS f caps => rw [m] at j; exact ⟨[], j.2⟩
   | grow _ _ _ _ _ => exact ⟨[], trivial⟩
   | sel _ _ _ _ _ _ _ => exact ⟨[], trivial⟩
   | part _ _ _ _ => exact ⟨[], trivial⟩
   | eown _ => exact ⟨[], trivial⟩
   | junk => exact ⟨[], trivial⟩
  ·have : get env t = .undef := Y18 _ _ (X1g M);simp only [rd, this];exact ⟨[], trivial⟩
 | const v =>
  have C : ∃ cells, ValC c (SS env ps tmps vs w cs bs) (constAV ty v) v cells := by
   unfold constAV;cases ty with
   | none => exact ⟨[], trivial⟩
   | some t =>
    simp only;cases hc : constLeaves t v.cells.toList with
    | none => exact ⟨[], trivial⟩
    | some q =>
     obtain ⟨ls, F⟩ := q;cases F with
     | cons _ _ => exact ⟨[], trivial⟩
     | nil =>
      simp only;split
      ·rename_i p;have p : t.isAgg = Value.isAgg' v := by simpa using p
       obtain ⟨c0, e, l, _, _, k⟩ := Y1l c (SS env ps tmps vs w cs bs) t _ _ _ hc;rw [Xf] at e;subst e;refine ⟨v.cells.toList, ?_, l, fun l lf u y z => k l lf u (by rw [<- Y2]; exact y) z⟩;cases v with
       | agg X =>
        have : t.isAgg = true := p;rw [this];exact ⟨by simp [Value.cells], rfl⟩
       | _ =>
        have : t.isAgg = false := p;rw [this];exact ⟨rfl, rfl⟩
      ·exact ⟨[], trivial⟩
  have A : ∀ lf : Leaf, LeafV c (SS env ps tmps vs w cs bs) v lf -> ∃ cells, ValC c (SS env ps tmps vs w cs bs) (.con .val [lf]) v cells := by
   intro lf L;refine ⟨[v], ⟨rfl, rfl⟩, rfl, fun l lf' u y z => ?_⟩;rw [Y2] at y;cases l with
   | zero => simp only [Xi, X0] at y z; subst y; subst z; exact L
   | succ l => simp at y
  simp only [rd, evT];cases v with
  | int k n => exact A _ ⟨⟨rfl, rfl⟩, trivial⟩
  | bool b => exact A _ ⟨⟨rfl, rfl⟩, trivial⟩
  | string s => exact A _ ⟨⟨rfl, rfl⟩, trivial⟩
  | _ => exact C
 | func f => exact ⟨[], [], rfl, rfl⟩
 | global g => exact ⟨[], trivial⟩
theorem Y67 (h : RP c env tmps w ps vs) (ty : Option Ty) (x : Operand) : (∀ q ∈ (rd ty env x).refs, q.1 < env.length) /\ (∀ q ∈ (rd ty env x).ptrs, q < env.length) := by
 obtain ⟨_, _, _, _, C⟩ := h;cases x with
 | tmp t =>
  by_cases y : t < env.length
  ·have := C t;rw [Y8 y] at this;have bor : ∀ ls : List Leaf, (∀ q ∈ ls.flatMap Leaf.refs, q.1 < env.length) -> ∀ q ∈ (borrowFrom t 0 ls).flatMap Leaf.refs, q.1 < env.length := by
    intro ls B q j;simp only [Xn] at j;obtain ⟨lf, I, j⟩ := j;obtain ⟨l, G⟩ := X11 I;rw [Y1o] at G;obtain ⟨E, A, rfl⟩ := Xw.1 G;split at j
    ·simp only [Leaf.refs, Xa] at j;rw [j]; exact y
    ·exact B q (by simp only [Xn]; exact ⟨E, X8 A, j⟩)
   simp only [rd];cases F : get env t with
   | con k ls =>
    rw [F] at this;cases k with
    | val => exact ⟨bor ls this.1, by simp [AV.ptrs]⟩
    | agg => exact ⟨bor ls this.1, by simp [AV.ptrs]⟩
    | tup L => exact ⟨bor ls this.1, by simp [AV.ptrs]⟩
    | box e => exact ⟨by simp [AV.refs], by simp [AV.ptrs]; exact y⟩
    | tupB i n L => exact ⟨by simp [AV.refs], by simp [AV.ptrs]⟩
   | grow _ _ _ _ _ => exact ⟨by simp [AV.refs], by simp [AV.ptrs]⟩
   | sel _ _ _ _ _ _ _ => exact ⟨by simp [AV.refs], by simp [AV.ptrs]⟩
   | part _ _ _ _ => exact ⟨by simp [AV.refs], by simp [AV.ptrs]⟩
   | eown _ => exact ⟨by simp [AV.refs], by simp [AV.ptrs]⟩
   | junk => exact ⟨by simp [AV.refs], by simp [AV.ptrs]⟩
   | _ => rw [F] at this; exact this
  ·have : get env t = .undef := Y18 _ _ (X1g y);simp only [rd, this];exact ⟨by simp [AV.refs], by simp [AV.ptrs]⟩
 | const v =>
  have m : ∀ av, av = constAV ty v -> (∀ q ∈ av.refs, q.1 < env.length) /\ (∀ q ∈ av.ptrs, q < env.length) := by
   intro av b;unfold constAV at b;cases ty with
   | none => rw [b]; exact ⟨by simp [AV.refs], by simp [AV.ptrs]⟩
   | some t =>
    simp only at b;cases z : constLeaves t v.cells.toList with
    | none => rw [z] at b; rw [b]; exact ⟨by simp [AV.refs], by simp [AV.ptrs]⟩
    | some q =>
     obtain ⟨ls, p⟩ := q;rw [z] at b;cases p with
     | cons _ _ => rw [b]; exact ⟨by simp [AV.refs], by simp [AV.ptrs]⟩
     | nil =>
      simp only at b;obtain ⟨_, _, _, _, D, _⟩ := Y1l c ⟨noP, noV, w, fun _ => [], fun _ _ => []⟩ t _ _ _ z;split at b
      ·rw [b];have := Settled.refs (v := mkCon t.isAgg ls) (.inr ⟨_, _, rfl, D⟩);rw [this.1, this.2];exact ⟨sm, sm⟩
      ·rw [b]; exact ⟨by simp [AV.refs], by simp [AV.ptrs]⟩
  simp only [rd];cases v <;> first | (refine ⟨?_, ?_⟩ <;> simp [AV.refs, AV.ptrs, Leaf.refs]; done) | exact m _ rfl
 | func f => exact ⟨by simp [rd, AV.refs], by simp [rd, AV.ptrs]⟩
 | global g => exact ⟨by simp [rd, AV.refs], by simp [rd, AV.ptrs]⟩
theorem Ybr {r j : Nat} (b : r < env.length) (g : ∀ r, Settled (ps r)) : freezeE r j (ovl env ps) = ovl (freeze r j env) ps := by
 unfold freezeE freeze;rw [Y8 b];cases h : (get env r).leaf? j with
 | none => rfl
 | some l =>
  simp only;split
  ·have := Y1v (freezeG r j) env ps g;have e : (fun r' => (ovl env ps r').chg (freezeG r j)) = ovl (chgEnv (freezeG r j) env) ps := this;rw [e, Ys (by rw [Y7]; exact b)];congr 1;rw [Y15]
  ·rfl
theorem Y1i : ∀ (ls : List Leaf) {env : Env} {ps : Nat -> AV}, (∀ l ∈ ls, ∀ q ∈ l.refs, q.1 < env.length) -> (∀ r, Settled (ps r)) -> freezeAllE ls (ovl env ps) = ovl (freezeAll ls env) ps
 | [], env, ps, _, _ => rfl
 | l :: ls, env, ps, hl, hs => by
  obtain ⟨t, x, m⟩ := l;cases m with
  | bor r j p =>
   simp [freezeAll, freezeAllE];rw [Ybr (hl _ Xp (r, j) (by simp [Leaf.refs])) hs];exact Y1i ls (fun l b q g => by rw [(Y3s r j env).2]; exact hl l (X2 _ b) q g) hs
  | at_ lv => exact Y1i ls (fun l b => hl l (X2 _ b)) hs
  | dead => exact Y1i ls (fun l b => hl l (X2 _ b)) hs
theorem Y3t {j : Nat} {l : Leaf} (h : l.refs = []) : ∀ q ∈ (setAt ls j l).flatMap Leaf.refs, q ∈ ls.flatMap Leaf.refs := by
 intro q b;rw [Yd] at b;simp at b ⊢;obtain ⟨lf, g, b⟩ := b;rcases List.mem_or_eq_of_mem_set g with g | rfl
 ·grind
 ·grind
theorem Y9j (r j : Nat) (E : Nat -> AV) (r' : Nat) : (∀ q ∈ (freezeE r j E r').refs, q ∈ (E r').refs) /\ (∀ q ∈ (freezeE r j E r').ptrs, q ∈ (E r').ptrs) := by
 unfold freezeE;cases m : (E r).leaf? j with
 | none => grind
 | some l =>
  simp only;split
  ·have g := Yg (Y9i r j);simp only [upd];split
   ·rename_i i;subst i;have := g (E r');cases b : (E r').chg (freezeG r' j) with
    | con k ls =>
     rw [b] at this;exact ⟨fun q h => this.1 q (Y3t rfl q h), by simp [AV.setLeaf, AV.ptrs]⟩
    | _ => rw [b] at this; exact this
   ·grind
  ·grind
theorem Y1a : ∀ (ls : List Leaf) (E : Nat -> AV) (r' : Nat), (∀ q ∈ (freezeAllE ls E r').refs, q ∈ (E r').refs) /\ (∀ q ∈ (freezeAllE ls E r').ptrs, q ∈ (E r').ptrs)
 | [], E, r' => ⟨fun q h => h, fun q h => h⟩
 | l :: ls, E, r' => by
  obtain ⟨t, x, m⟩ := l;cases m with
  | bor r j p =>
   have g := Y1a ls (freezeE r j E) r';have i := Y9j r j E r';exact ⟨fun q b => i.1 q (g.1 q b), fun q b => i.2 q (g.2 q b)⟩
  | at_ lv => exact Y1a ls E r'
  | dead => exact Y1a ls E r'
theorem RP.freezeAll (h : RP c env tmps w ps vs) (ls : List Leaf) (p : ∀ l ∈ ls, ∀ q ∈ l.refs, q.1 < env.length) (y : ∀ r, Settled (ps r)) : RP c (freezeAll ls env) tmps w ps vs := by
 obtain ⟨b, cs, bs, j, i⟩ := h;obtain ⟨bs', m, _, _⟩ := j.freezeAll_ ls;have e := Y1i ls p y;refine ⟨by rw [(Ym ls env).2]; exact b, _, _, Rel.congr m e rfl, fun r => ?_⟩;rw [(Ym ls env).2, <- e];have := Y1a ls (ovl env ps) r;exact ⟨fun q g => (i r).1 q (this.1 q g), fun q g => (i r).2 q (this.2 q g)⟩
theorem Yax (b : ∀ r, Settled (ps r)) {v : AV} (g : Settled v) : ∀ r, Settled (upd ps n v r) := by
 intro r;simp [upd];split
 ·exact g
 ·exact b r
theorem Yay {env env' : Env} (h : RP c env tmps w ps vs) (hs : ∀ r, Settled (ps r)) {ty : Option Ty} (b : takeIn0 ty env x = some (env', av)) (hn : env.length <= n) (hp : ps n = .undef) :
  env'.length = env.length /\ RP c env' tmps w (upd ps n av) (upd vs n (evT tmps x)) := by
 have m : rd ty env x = av -> env' = env -> env'.length = env.length /\ RP c env' tmps w (upd ps n av) (upd vs n (evT tmps x)) := by
  intro M N;subst M; subst N;exact ⟨rfl, h.addVal hn hp (fun cs bs W => Yj h.len W ty x) (Y67 h ty x)⟩
 cases x with
 | const v => simp only [takeIn0, X0, Xy] at b; exact m b.2 b.1.symm
 | func f => simp only [takeIn0, X0, Xy] at b; exact m b.2 b.1.symm
 | global g => simp only [takeIn0, X0, Xy] at b; exact m b.2 b.1.symm
 | tmp s =>
  simp only [takeIn0] at b;cases z : get env s with
  | con k ls =>
   rw [z] at b;simp only at b;split at b
   ·rename_i I;cases D : get (freezeAll ls env) s with
    | con k' y =>
     rw [D] at b;simp only at b;split at b
     ·rename_i G;obtain ⟨rfl, p⟩ := G;have p : ∀ l ∈ y, l.m.settled = true := by simpa using p
      simp only [X0, Xy] at b;obtain ⟨X, rfl⟩ := b;have L : s < env.length := Yu z;have hls : ∀ l ∈ ls, ∀ q ∈ l.refs, q.1 < env.length := by
       intro l Y q V;obtain ⟨_, _, _, _, F⟩ := h;have := (F s).1;rw [Y8 L, z] at this;exact this q (by simp only [AV.refs, Xn]; exact ⟨l, Y, V⟩)
      have Z := h.freezeAll ls hls hs;have j : (freezeAll ls env).length = env.length := (Ym ls env).2;have C : s < (Go.FP.freezeAll ls env).length := by rw [j]; exact L
      have E : (Go.FP.freezeAll ls env).length <= n := by rw [j]; exact hn
      have hsn : s ≠ n := X1c (X1a L hn);generalize Go.FP.freezeAll ls env = env1 at *;have U : (∀ e, k' ≠ .box e) /\ ∀ i n sh, k' ≠ .tupB i n sh := by constructor <;> (intros; rintro rfl; simp [Kind.plain] at I)
      by_cases B : y.any (fun l => l.m.own) = true
      ·rw [X3 B] at X;subst X;refine ⟨by rw [Y9, j], ?_⟩;obtain ⟨A, cs, bs, W, F⟩ := Z;obtain ⟨hk2, hk3⟩ := W.killRoot_ s;have hEn : chgE (killG s) (ovl env1 ps) n = .undef := by simp only [chgE]; rw [Yr E, hp]; rfl
       have hEs : chgE (killG s) (ovl env1 ps) s = .con k' y := by simp only [chgE]; rw [Y8 C, D]; simp only [AV.chg, Y4j _ p]
       have h5 := hk2.move hsn (by show (chgE (killG s) (ovl env1 ps) n).quiet = true; rw [hEn]; rfl) hk3;simp only [hEs] at h5;have M : upd (upd (chgE (killG s) (ovl env1 ps)) s .undef) n (.con k' y) = ovl (killRoot s env1) (upd ps n (.con k' y)) := by
        rw [Ya (by rw [Y9]; exact E)];unfold killRoot;rw [Ys (by rw [Y7]; exact C), Y1v _ _ _ hs]
       have N : upd (ovlT tmps vs) n (ovlT tmps vs s) = ovlT tmps (upd vs n (evT tmps (.tmp s))) := by
        rw [Yt (A ▸ E)];congr 1;exact X3 (A ▸ C)
       refine ⟨by rw [Y9]; exact A, _, _, Rel.congr h5 M N, fun r => ?_⟩;rw [Y9, <- M];simp only [upd];split
       ·have := Settled.refs (v := .con k' y) (.inr ⟨_, _, rfl, p⟩);rw [this.1, this.2];exact ⟨sm, sm⟩
       ·split
        ·exact ⟨by simp [AV.refs], by simp [AV.ptrs]⟩
        ·have := Yg (Yy s) (ovl env1 ps r);exact ⟨fun q V => (F r).1 q (this.1 q V), fun q V => (F r).2 q (this.2 q V)⟩
      ·rw [X4 B] at X;subst X;refine ⟨j, Z.addVal E hp (fun cs bs W => ?_) ?_⟩
       ·have O := W.av s;have M : ovl env1 ps s = .con k' y := by rw [Y8 C, D]
        have N : ovlT tmps vs s = evT tmps (.tmp s) := X3 (Z.len ▸ C);simp only [M, N] at O;obtain ⟨g1, g2, g3, g4⟩ := O;refine ⟨_, g1.noBox U, g2, fun l lf u Y hu => ?_⟩;have := g4 l lf u Y hu;have ho : lf.m.own = false := by
         cases hb : lf.m.own with
         | false => rfl
         | true => exact absurd (X1p.2 ⟨lf, Ye Y, hb⟩) B
        exact LeafV.of_held ho (this.held ho).2
       ·have := Settled.refs (v := .con k' y) (.inr ⟨_, _, rfl, p⟩);rw [this.1, this.2];exact ⟨sm, sm⟩
     ·simp at b
    | _ => rw [D] at b; simp at b
   ·simp at b
  | undef => rw [z] at b; simp at b
  | grow _ _ _ _ _ => rw [z] at b; simp at b
  | sel _ _ _ _ _ _ _ => rw [z] at b; simp at b
  | part _ _ _ _ => rw [z] at b; simp at b
  | eown _ => rw [z] at b; simp at b
  | junk => rw [z] at b; simp at b
  | _ =>
   rw [z] at b;simp only [X0, Xy] at b;exact m (by simp only [rd, z]; exact b.2) b.1.symm
theorem Y75 {ty : Option Ty} {env env' : Env} (i : takeIn0 ty env x = some (env', .con k ls)) : ∀ l ∈ ls, l.m.settled = true := by
 have con : ∀ v, rd ty env (.const v) = .con k ls -> ∀ l ∈ ls, l.m.settled = true := by
  intro v b;have h : constAV ty v = .con k ls -> ∀ l ∈ ls, l.m.settled = true := by
   intro b;unfold constAV at b;cases ty with
   | none => simp at b
   | some t =>
    simp only at b;cases p : constLeaves t v.cells.toList with
    | none => grind
    | some q =>
     obtain ⟨y, j⟩ := q;rw [p] at b;cases j with
     | cons _ _ => simp at b
     | nil =>
      simp only at b;obtain ⟨_, _, _, _, m, _⟩ := Y1l ⟨fun _ => False, 0, default, fun _ => default, fun _ => False, default, fun _ => default⟩ ⟨noP, noV, default, fun _ => [], fun _ _ => []⟩ t _ _ _ p;split at b
      ·simp [mkCon] at b;rw [<- b.2]; exact m
      ·simp at b
  simp [rd] at b;cases v <;> first | (simp at b; rw [<- b.2]; simp [Mode.settled]; done) | exact h b
 cases x with
 | const v => simp [takeIn0] at i; exact con v i.2
 | func f => simp [takeIn0, rd] at i
 | global g => simp [takeIn0, rd] at i
 | tmp s =>
  simp [takeIn0] at i;cases A : get env s with
  | con B z => grind
  | _ => grind
theorem RP.pull (h : RP c env tmps w ps vs) (U : ∀ r, Settled (ps r)) (s q : Nat) : RP c (pull s q env) tmps w ps vs /\ (Go.FP.pull s q env).length = env.length := by
 unfold Go.FP.pull;split
 ·rename_i t x r j y;split
  ·rename_i lp I;split
   ·rename_i lv N;split
    ·rename_i M;obtain ⟨B, l⟩ := M;have g : s < env.length := Y1g y;have A : r < env.length := Y1g I;obtain ⟨k, ls, G⟩ : ∃ k ls, get env s = .con k ls := by
      cases V : get env s with
      | con k ls => exact ⟨k, ls, rfl⟩
      | _ => rw [V] at y; simp [AV.leaf?] at y
     obtain ⟨i, cs, bs, C, m⟩ := h;have C : Rel c (SS env ps tmps vs w cs bs) := C;obtain ⟨bs', L, F⟩ := C.pull_ (s0 := s) (r := r) (j := j) (q := q) (k := k) (ls := ls) (t := t) (x := x) (lv := lv) (lp := lp) (by show ovl env ps s = _; rw [Y8 g]; exact G) (by rw [G] at y; exact y) l (by show (ovl env ps r).leaf? j = _; rw [Y8 A]; exact I) N B;have b : (killPlace r j env).length = env.length := Y7 _ _;have e : pullE r j s q ⟨lp.t, lp.x, .dead⟩ ⟨t, x, .at_ lv⟩ (ovl env ps) = ovl (put (put (killPlace r j env) r ((get (killPlace r j env) r).setLeaf j ⟨lp.t, lp.x, .dead⟩)) s ((get (put (killPlace r j env) r ((get (killPlace r j env) r).setLeaf j ⟨lp.t, lp.x, .dead⟩)) s).setLeaf q ⟨t, x, .at_ lv⟩)) ps := by
      unfold pullE;rw [Ys (by rw [Y6, b]; exact g), Ys gr, Y13, X4 (fun h => l h.1)];have E : ∀ p, p < env.length -> chgE (killPG r j) (ovl env ps) p = get (killPlace r j env) p := fun p O => by
       show (ovl env ps p).chg _ = _;rw [Y8 O]; unfold killPlace; rw [Y15]
      rw [E r A, E s g];congr 2;exact Y1v _ _ _ U
     refine ⟨⟨by rw [Y6, Y6, b]; exact i, cs, bs', Rel.congr L e rfl, fun p => ?_⟩, by rw [Y6, Y6, b]⟩;rw [Y6, Y6, b, <- e];exact ⟨fun z D => (m p).1 z ((F p).1 z D), fun z D => (m p).2 z ((F p).2 z D)⟩
    ·exact ⟨h, rfl⟩
   ·exact ⟨h, rfl⟩
  ·exact ⟨h, rfl⟩
 ·exact ⟨h, rfl⟩
theorem RP.pulls (h : RP c env tmps w ps vs) (b : ∀ r, Settled (ps r)) (s : Nat) : ∀ n, RP c (pulls s n env) tmps w ps vs /\ (Go.FP.pulls s n env).length = env.length
 | 0 => ⟨h, rfl⟩
 | n + 1 => by
  obtain ⟨g, i⟩ := RP.pulls h b s n;obtain ⟨j, l⟩ := g.pull b s n;exact ⟨j, l.trans i⟩
theorem RP.pullAll (h : RP c env tmps w ps vs) (b : ∀ r, Settled (ps r)) (x : Operand) : RP c (pullAll x env) tmps w ps vs /\ (Go.FP.pullAll x env).length = env.length := by
 unfold Go.FP.pullAll;split
 ·split
  ·split
   ·exact h.pulls b _ _
   ·exact ⟨h, rfl⟩
  ·exact ⟨h, rfl⟩
 ·exact ⟨h, rfl⟩
theorem Y16 {env env' : Env} (h : RP c env tmps w ps vs) (b : ∀ r, Settled (ps r)) {ty : Option Ty} (p : takeIn ty env x = some (env', av)) (q : env.length <= n) (m : ps n = .undef) :
  env'.length = env.length /\ RP c env' tmps w (upd ps n av) (upd vs n (evT tmps x)) := by
 obtain ⟨g, i⟩ := h.pullAll b x;obtain ⟨j, l⟩ := Yay g b p (n := n) gr m;exact ⟨j.trans i, l⟩
theorem Yz {ty : Option Ty} {env env' : Env} (b : takeIn ty env x = some (env', .con k ls)) : ∀ l ∈ ls, l.m.settled = true := Y75 b
theorem El.pick {α D : Type} {P : List Value -> α -> List Nat -> Prop} {Q : List Value -> D -> List Nat -> Prop} : ∀ {l : List α} {cells : List Value} {bs : List Nat} (off : Nat) (ix : List Int) (us : List Value) (ys : List D), El P 1 cells l bs -> ix.Pairwise (· < ·) -> (∀ i ∈ ix, (off : Int) <= i /\ i < (off : Int) + l.length) -> us.length = ix.length -> ys.length = ix.length ->
  (∀ (k : Nat) (i : Int), ix[k]? = some i -> us[k]? = cells[(i - off).toNat]?) -> (∀ (k : Nat) (u : Value) (y : D), us[k]? = some u -> ys[k]? = some y -> ∀ x b, P [u] x b -> Q [u] y b) -> ∃ g, El Q 1 us ys g /\ g.Sublist bs
 | l, cells, bs, off, [], us, ys, h, hs, hr, hu, hy, hc, hq => by
  obtain rfl : us = [] := Xq.1 hu;obtain rfl : ys = [] := Xq.1 hy;exact ⟨[], ⟨rfl, rfl⟩, List.nil_sublist _⟩
 | [], cells, bs, off, i :: ix, us, ys, h, hs, hr, hu, hy, hc, hq => by
  have := hr i sm;simp at this;omega
 | x :: l, cells, bs, off, i :: ix, us, ys, ⟨c, xs', b, bs', e, lc, eb, p, t⟩, hs, hr, hu, hy, hc, hq => by
  obtain ⟨E, rfl⟩ := X27.1 lc;subst e;subst eb;rw [X1l] at hs;have N := hr i sm;by_cases F : i = (off : Int)
  ·match us, ys, hu, hy with
   | u :: us, y :: ys, hu, hy =>
    have B : u = E := by
     have := hc 0 i rfl;rw [F, show (((off : Int) - off).toNat) = 0 by omega] at this;simpa using this
    subst B;have I := hq 0 u y rfl rfl x b p;obtain ⟨g, C, k2⟩ := El.pick (off + 1) ix us ys t hs.2 (fun j m => by
     have A := hs.1 j m;have q := hr j (by simp [m]);simp at q;omega) (by simpa using hu) (by simpa using hy) (fun k j z => by
     have := hc (k + 1) j z;have A := hs.1 j (X8 z);rw [X1o] at this;rw [this, show (j - (off : Int)).toNat = (j - ((off + 1 : Nat) : Int)).toNat + 1 by omega];rfl) (fun k L M A q => hq (k + 1) L M A q)
    exact ⟨b ++ g, ⟨[u], us, b, g, rfl, rfl, rfl, I, C⟩, X1x (X21 _) k2⟩
  ·obtain ⟨g, C, k2⟩ := El.pick (off + 1) (i :: ix) us ys t (X1l.2 hs) (fun j m => by
    have q := hr j m;simp at q;have : i <= j :=gr;omega) hu hy (fun k j z => by
    have G := hc k j z;have : i <= j := by
     rcases Xm.1 (X8 z) with rfl | m
     ·grind
     ·grind
    rw [G, show (j - (off : Int)).toNat = (j - ((off + 1 : Nat) : Int)).toNat + 1 by omega];rfl) hq
   exact ⟨g, C, k2.trans (List.sublist_append_right _ _)⟩
theorem RP.pullN (h : RP c env tmps w ps vs) (b : ∀ r, Settled (ps r)) (s : Nat) : RP c (pullN s env) tmps w ps vs /\ (Go.FP.pullN s env).length = env.length := ⟨h, rfl⟩
theorem RP.pullRes (g : ∀ r, Settled (ps r)) : ∀ (rs : List (Ty × Lvl)) (b : List ResultVar) {env : Env}, RP c env tmps w ps vs -> RP c (pullRes rs b env) tmps w ps vs
 | [], b, env, h => by cases b <;> exact h
 | p :: rs, [], env, h => h
 | (t, fr) :: rs, v :: b, env, h => by
  refine RP.pullRes g rs b ?_;split
  ·exact (h.pullN g _).1
  ·exact h
def zeroVal (t : Ty) : Value := if t.isAgg then .agg (zeroCells t).toArray else (zeroCells t).headD undef
def EqFs (P : Program) : List Field -> List Ty -> Nat -> Prop
 | [], [], _ => True
 | f :: fs, t :: ts, off => (f.name ≠ "_" /\ f.offset = off /\ (∀ w, (isAgg f.type).run P w = .ok false w) /\ match t with
   | .int k => P.underlying f.type = some (.int k)
   | .bool => P.underlying f.type = some .bool
   | .str => P.underlying f.type = some .string
   | _ => False) /\ EqFs P fs ts (off + 1)
 | _, _, _ => False
structure TEOk (P : Program) (e : TE) : Prop where
 func : e.fn = true -> ∃ i z ps rs v, P.info? e.id = some i /\ i.size = 1 /\ i.zero = some z /\ z.oneCell' = true /\ P.underlying e.id = some (.func ps rs v)
 info : e.fn = false -> ∃ i, P.info? e.id = some i /\ i.size = e.ty.sz /\ i.bytes = e.bytes /\ i.zero = some (zeroVal e.ty)
 desc : e.fn = false -> match e.ty with
  | .int k => P.underlying e.id = some (.int k)
  | .bool => P.underlying e.id = some .bool
  | .str => P.underlying e.id = some .string
  | .slice el _ => P.underlying e.id = some (.slice el)
  | _ => ∃ fs, P.underlying e.id = some (.struct fs) /\ ∀ (i off ft : Nat), e.fields[i]? = some (off, ft) -> ∃ f : Field, fs[i]? = some f /\ f.offset = off /\ f.type = ft
 places : e.fn = false -> e.ty.isAgg = true -> ∃ (fs : Array Field) (pl : List (Nat × Nat)), P.underlying e.id = some (.struct fs) /\ fs.toList.mapM (fun f => (P.info? f.type).map fun i => (f.offset, i.size)) = some pl
 eqs : e.eq = true -> (P.eqGuardType P.depth e.id = false /\ P.stoodInHeld e.id = false) /\ ∃ fs : Array Field, P.underlying e.id = some (.struct fs) /\ EqFs P fs.toList (flat e.ty) 0
def TabOk (P : Program) (T : Tab) : Prop := ∀ e ∈ T, TEOk P e
theorem Tab.isFn_mem : ∀ {T : Tab} {t : TypeId}, T.isFn t = true -> ∃ e ∈ T, e.fn = true /\ e.id = t
 | [], t, h => by simp [Tab.isFn] at h
 | e0 :: T, t, h => by
  simp [Tab.isFn] at h;rcases h with h | h
  ·grind
  ·obtain ⟨e, b, g⟩ := Tab.isFn_mem h;exact ⟨e, X2 _ b, g⟩
theorem Tab.te_mem : ∀ {T : Tab} {t : TypeId} {e : TE}, T.te t = some e -> e ∈ T /\ (e.id = t /\ e.fn = false)
 | [], t, e, h => by simp [Tab.te] at h
 | e0 :: T, t, e, h => by
  unfold Tab.te at h;split at h
  ·grind
  ·have := Tab.te_mem h;exact ⟨X2 _ this.1, this.2⟩
theorem Tab.ty_te {t : TypeId} (h : T.ty t = some τ) : ∃ e, T.te t = some e /\ e.ty = τ := by
 unfold Tab.ty at h;split at h
 ·grind
 ·simp at h
section
variable {P : Program} {T : Tab} (hT : TabOk P T)
include hT
theorem TabOk.info {t : TypeId} (h : T.ty t = some τ) : ∃ i, P.info? t = some i /\ i.size = τ.sz /\ i.zero = some (zeroVal τ) := by
 obtain ⟨e, g, rfl⟩ := Tab.ty_te h;obtain ⟨j, rfl, b⟩ := Tab.te_mem g;obtain ⟨i, l, k2, _, m⟩ := (hT e j).info b;exact ⟨i, l, k2, m⟩
theorem TabOk.fn {t : TypeId} (h : T.isFn t = true) : ∃ i z ps rs v, P.info? t = some i /\ i.size = 1 /\ i.zero = some z /\ z.oneCell' = true /\ P.underlying t = some (.func ps rs v) := by
 obtain ⟨e, b, g, rfl⟩ := Tab.isFn_mem h;exact (hT e b).func g
theorem TabOk.agg {t : TypeId} (h : T.ty t = some τ) (w : World) : (isAgg t).run P w = .ok τ.isAgg w := by
 obtain ⟨e, l, rfl⟩ := Tab.ty_te h;obtain ⟨m, rfl, j⟩ := Tab.te_mem l;have := (hT e m).desc j;unfold isAgg;cases g : e.ty with
 | int k => rw [g] at this; simp [run_underlying this, Ty.isAgg]
 | bool => rw [g] at this; simp [run_underlying this, Ty.isAgg]
 | str => rw [g] at this; simp [run_underlying this, Ty.isAgg]
 | slice p τ => rw [g] at this; simp [run_underlying this, Ty.isAgg]
 | unit => rw [g] at this; obtain ⟨fs, i, _⟩ := this; simp [run_underlying i, Ty.isAgg]
 | pair a b => rw [g] at this; obtain ⟨fs, i, _⟩ := this; simp [run_underlying i, Ty.isAgg]
theorem TabOk.sizeOf {t : TypeId} (h : T.ty t = some τ) (w : World) : (sizeOf t).run P w = .ok τ.sz w := by
 obtain ⟨i, b, g, _⟩ := TabOk.info hT h;simp [Go.sizeOf, typeInfo, b, g]
theorem TabOk.zero {t : TypeId} (h : T.ty t = some τ) (w : World) : (zeroValue t).run P w = .ok (zeroVal τ) w := by
 obtain ⟨i, b, _, g⟩ := TabOk.info hT h;simp [zeroValue, typeInfo, b, g]
theorem TabOk.slice {t : TypeId} {g : TypeId} (h : T.ty t = some (.slice g τ)) : P.underlying t = some (.slice g) := by
 obtain ⟨e, i, l⟩ := Tab.ty_te h;obtain ⟨j, rfl, b⟩ := Tab.te_mem i;have := (hT e j).desc b;rw [l] at this;exact this
theorem TabOk.str {t : TypeId} (h : T.ty t = some .str) : P.underlying t = some .string := by
 obtain ⟨e, g, j⟩ := Tab.ty_te h;obtain ⟨i, rfl, b⟩ := Tab.te_mem g;have := (hT e i).desc b;rw [j] at this;exact this
theorem TabOk.int {t : TypeId} {k : IntKind} (h : T.ty t = some (.int k)) : P.underlying t = some (.int k) := by
 obtain ⟨e, g, j⟩ := Tab.ty_te h;obtain ⟨i, rfl, b⟩ := Tab.te_mem g;have := (hT e i).desc b;rw [j] at this;exact this
theorem TabOk.field {s : TypeId} {f off : Nat} (h : fieldAt T s f = some (off, τ)) : ∃ fs j, P.underlying s = some (.struct fs) /\ fs[f]? = some j /\ j.offset = off /\ T.ty j.type = some τ /\ τ.sz ≠ 0 := by
 unfold fieldAt at h;split at h
 ·rename_i e q;obtain ⟨p, rfl, l⟩ := Tab.te_mem q;split at h
  ·rename_i m z A;split at h
   ·rename_i t B;split at h
    ·simp at h
    ·rename_i i;simp at h;obtain ⟨rfl, rfl⟩ := h;have := (hT e p).desc l;cases g : e.ty with
     | int k => exact absurd (.inr (by rw [g]; rfl)) i
     | bool => exact absurd (.inr (by rw [g]; rfl)) i
     | str => exact absurd (.inr (by rw [g]; rfl)) i
     | slice y τ => exact absurd (.inr (by rw [g]; rfl)) i
     | unit => grind
     | pair a b => grind
   ·simp at h
  ·simp at h
 ·simp at h
theorem TabOk.elem {t : TypeId} (h : elemAt T t = some te) : T.ty t = some (.slice te.id te.ty) /\ P.underlying t = some (.slice te.id) /\ T.ty te.id = some te.ty /\ 0 < te.ty.sz /\ 0 < te.bytes /\ ∃ i, P.info? te.id = some i /\ i.size = te.ty.sz /\ i.bytes = te.bytes /\ i.zero = some (zeroVal te.ty) := by
 unfold elemAt at h;split at h
 ·rename_i e τ j;split at h
  ·rename_i y b;split at h
   ·rename_i q;simp at h;subst h;obtain ⟨l, rfl, g⟩ := Tab.te_mem b;obtain ⟨rfl, m, p⟩ := q;exact ⟨j, TabOk.slice hT j, by unfold Tab.ty; rw [b], m, p, (hT _ l).info g⟩
   ·simp at h
  ·simp at h
 ·simp at h
end
theorem RE.commit (h : RP c env tmps w (upd noP env.length av) vs) (b : d < env.length) : RE c (setD (some d) env av) (tmps.setIfInBounds d (vs env.length)) w := by
 have := h.commit (Xg _) b (fun r g => by rw [Y1 _ _ g]; exact .inl rfl);rw [Y0] at this;have e : upd (upd noP env.length av) env.length .undef = noP := by funext r; simp only [upd, noP]; split <;> rfl
 rw [e] at this;exact ⟨vs, this⟩
section
variable {P : Program} {o : Oper} {a : Act} {w : World} {R : Type} {K : Env -> Option R} {r : R} {next : Act -> World -> Prop} {Q : Exit -> Act -> World -> Prop} {c : Cx} {d : Nat}
def Next (c : Cx) (a : Act) (K : Env -> Option R) (r : R) (N : Nat) (next : Act -> World -> Prop) : Prop :=
 ∀ env' b w', K env' = some r -> RE c env' b.tmps w' -> env'.length = N -> b.defers = a.defers -> next b w'
theorem Y1e (b : Option Nat) (env : Env) (v : AV) : (setD b env v).length = env.length := by
 unfold setD;split
 ·split <;> simp [Y6, Y1h]
 ·rfl
theorem fin {env1 : Env} {N : Nat} (b : o.dst = some d) (g : (execOp a.eval o).run P w = .ok (.value v) w') (l : d < env1.length) (j : env1.length = N)
  (h : RP c env1 a.tmps w' (upd noP env1.length av) vs) (p : vs env1.length = v) (i : K (setD (some d) env1 av) = some r) (m : Next c a K r N next) : o.wp P a w next Q := by
 unfold Oper.wp;rw [g];show next (a.put o.dst v) w'
 rw [b];have := RE.commit h l;rw [p] at this;exact m _ _ _ i this (by rw [Y1e, j]) rfl
theorem finV (j : RE c env a.tmps w) (b : o.dst = some d) (i : (execOp a.eval o).run P w = .ok (.value v) w) (m : d < env.length)
  (y : ∀ vs cs bs, Rel c (SS env noP a.tmps vs w cs bs) -> ∃ cells, ValC c (SS env noP a.tmps vs w cs bs) av v cells) (g : (∀ q ∈ av.refs, q.1 < env.length) /\ (∀ q ∈ av.ptrs, q < env.length))
  (l : K (setD (some d) env av) = some r) (p : Next c a K r env.length next) : o.wp P a w next Q := by
 obtain ⟨vs, h⟩ := j;have := h.addVal (Xg _) rfl (fun cs bs j => y vs cs bs j) g;exact fin b i m rfl this (Y0 _ _ _) l p
theorem RE.val (b : RE c env tmps w) (ty : Option Ty) (x : Operand) : ∀ vs cs bs, Rel c (SS env noP tmps vs w cs bs) -> ∃ cells, ValC c (SS env noP tmps vs w cs bs) (rd ty env x) (evT tmps x) cells :=
 fun vs cs bs h => Yj b.choose_spec.len h ty x
theorem RE.refs (b : RE c env tmps w) (ty : Option Ty) (x : Operand) : (∀ q ∈ (rd ty env x).refs, q.1 < env.length) /\ (∀ q ∈ (rd ty env x).ptrs, q < env.length) :=
 Y67 b.choose_spec ty x
theorem Y2i (h : ValC c s (.con .val [lf]) v cells) (g : lf.m.live = true) : ∃ S, Rep S s.w lf.t .ro [v] lf.x [] := by
 obtain ⟨⟨rfl, _⟩, _, b⟩ := h;have := b 0 lf v rfl rfl;obtain ⟨t, x, m⟩ := lf;cases m with
 | at_ lv => exact ⟨_, Rep.ro this.1⟩
 | bor r j p => exact ⟨_, this.1⟩
 | dead => simp [Mode.live] at g
theorem RE.int1 (m : RE c env tmps w) {ty : Option Ty} {k : IntKind} {n : Int} (h : int1 (rd ty env x) = some (k, n)) : evT tmps x = .int k n := by
 obtain ⟨vs, g⟩ := m;obtain ⟨cs, bs, j, _⟩ := g.rel;obtain ⟨cells, i⟩ := Yj g.len j ty x;unfold Go.FP.int1 at h;split at h
 ·rename_i k' p lv b;rw [b] at i;simp at h;obtain ⟨rfl, rfl⟩ := h;obtain ⟨S, l⟩ := Y2i i rfl;simpa using l.1
 ·simp at h
theorem RE.bool1 (p : RE c env tmps w) {ty : Option Ty} {b : Bool} (h : bool1 (rd ty env x) = some b) : evT tmps x = .bool b := by
 obtain ⟨vs, i⟩ := p;obtain ⟨cs, bs, l, _⟩ := i.rel;obtain ⟨cells, j⟩ := Yj i.len l ty x;unfold Go.FP.bool1 at h;split at h
 ·rename_i q lv g;rw [g] at j;simp at h;subst h;obtain ⟨S, m⟩ := Y2i j rfl;simpa using m.1
 ·simp at h
theorem RE.str1 (p : RE c env tmps w) {ty : Option Ty} {b : ByteArray} (h : str1 (rd ty env x) = some b) : evT tmps x = .string b := by
 obtain ⟨vs, i⟩ := p;obtain ⟨cs, bs, l, _⟩ := i.rel;obtain ⟨cells, j⟩ := Yj i.len l ty x;unfold Go.FP.str1 at h;split at h
 ·rename_i q lv g;rw [g] at j;simp at h;subst h;obtain ⟨S, m⟩ := Y2i j rfl;simpa using m.1
 ·simp at h
theorem Y28 (c : Cx) (s : St) (k : IntKind) (n : Int) : ∃ cells, ValC c s (vInt k n) (.int k n) cells := ⟨[.int k n], ⟨rfl, rfl⟩, rfl, fun l lf u b g => by
 rw [Y2] at b;cases l with
 | zero => simp only [Xi, X0] at b g; subst b; subst g; exact ⟨⟨rfl, rfl⟩, trivial⟩
 | succ l => simp at b⟩
theorem Y2j (c : Cx) (s : St) (b : Bool) : ∃ cells, ValC c s (vBool b) (.bool b) cells := ⟨[.bool b], ⟨rfl, rfl⟩, rfl, fun l lf u g h => by
 rw [Y2] at g;cases l with
 | zero => simp only [Xi, X0] at g h; subst g; subst h; exact ⟨⟨rfl, rfl⟩, trivial⟩
 | succ l => simp at g⟩
theorem Y83 (c : Cx) (s : St) (b : ByteArray) : ∃ cells, ValC c s (vStr b) (.string b) cells := ⟨[.string b], ⟨rfl, rfl⟩, rfl, fun l lf u g h => by
 rw [Y2] at g;cases l with
 | zero => simp only [Xi, X0] at g h; subst g; subst h; exact ⟨⟨rfl, rfl⟩, trivial⟩
 | succ l => simp at g⟩
theorem Y1s {k : IntKind} {n : Int} {N : Nat} : (∀ q ∈ (vInt k n).refs, q.1 < N) /\ (∀ q ∈ (vInt k n).ptrs, q < N) := ⟨by simp [vInt, AV.refs, Leaf.refs], by simp [vInt, AV.ptrs]⟩
theorem Y2k {b : Bool} {N : Nat} : (∀ q ∈ (vBool b).refs, q.1 < N) /\ (∀ q ∈ (vBool b).ptrs, q < N) := ⟨by simp [vBool, AV.refs, Leaf.refs], by simp [vBool, AV.ptrs]⟩
theorem Y9k {b : ByteArray} {N : Nat} : (∀ q ∈ (vStr b).refs, q.1 < N) /\ (∀ q ∈ (vStr b).ptrs, q < N) := ⟨by simp [vStr, AV.refs, Leaf.refs], by simp [vStr, AV.ptrs]⟩
theorem Yes (g : o.op = .move x) (b : o.dst = some d) (h : RE c env a.tmps w) (j : d < env.length) (i : K (setD (some d) env (rd (T.ty o.type) env x)) = some r) (l : Next c a K r env.length next) : o.wp P a w next Q :=
 finV h b (v := evT a.tmps x) (by simp [execOp, g, Y5]) j (h.val _ x) (h.refs _ x) i l
theorem Yd4 {env env' : Env} (g : o.op = .assign x) (b : o.dst = some d) (p : RE c env a.tmps w) (y : d < env.length) (q : takeIn (T.ty o.type) env x = some (env', av)) (l : K (setD (some d) env' av) = some r) (m : Next c a K r env.length next) : o.wp P a w next Q := by
 obtain ⟨vs, h⟩ := p;obtain ⟨j, i⟩ := Y16 h (fun r => .inl rfl) q (Xg _) rfl;rw [<- j] at i;exact fin b (v := evT a.tmps x) (by simp [execOp, g, Y5]) gr j i (Y0 _ _ _) l m
theorem Ybs (g : o.op = .assign x) (b : o.dst = some d) (h : RE c env a.tmps w) (j : d < env.length) (i : K (setD (some d) env (rd (T.ty o.type) env x)) = some r) (l : Next c a K r env.length next) : o.wp P a w next Q :=
 finV h b (v := evT a.tmps x) (by simp [execOp, g, Y5]) j (h.val _ x) (h.refs _ x) i l
theorem Yet {i x y : Operand} {t : Bool} (h : o.op = .pick i x y) (b : o.dst = some d) (g : RE c env a.tmps w) (m : d < env.length) (q : bool1 (rd none env i) = some t)
  (j : (bif t then K (setD (some d) env (rd (T.ty o.type) env x)) else K (setD (some d) env (rd (T.ty o.type) env y))) = some r) (p : Next c a K r env.length next) : o.wp P a w next Q := by
 have l := g.bool1 q;cases t with
 | true => exact finV g b (v := evT a.tmps x) (by simp [execOp, h, Y5, l, asBool]) m (g.val _ x) (g.refs _ x) j p
 | false => exact finV g b (v := evT a.tmps y) (by simp [execOp, h, Y5, l, asBool]) m (g.val _ y) (g.refs _ y) j p
end
theorem Y1n {α : Type} {b : Bool} {x : Option α} {r : α} (h : (bif b then x else none) = some r) : b = true /\ x = some r :=gr
theorem Y31 {α : Type} {b : Bool} {x : Option α} {r : α} (h : (bif b then none else x) = some r) : b = false /\ x = some r :=gr
section
variable {P : Program} {o : Oper} {a : Act} {w : World} {R : Type} {K : Env -> Option R} {r : R} {next : Act -> World -> Prop} {Q : Exit -> Act -> World -> Prop} {c : Cx} {d : Nat} {T : Tab} {env : Env}
theorem Yf3 {j : BinOp} {k : IntKind} {x y : Int} {K : AV -> Option R} (h : intOp j k x y K = some r) :
  ∃ av v, K av = some r /\ (∀ w, (Go.binOp j 0 (.int k x) (.int k y)).run P w = .ok v w) /\ (∀ t w, (Go.binOp j t (.int k x) (.int k y)).run P w = .ok v w) /\ (∀ c s, ∃ cells, ValC c s av v cells) /\ (∀ N : Nat, (∀ q ∈ av.refs, q.1 < N) /\ (∀ q ∈ av.ptrs, q < N)) := by
 have i : ∀ n, K (vInt k n) = some r -> (∀ t w, (Go.binOp j t (.int k x) (.int k y)).run P w = .ok (.int k n) w) -> _ := fun n b g =>
  (⟨vInt k n, .int k n, b, g 0, g, fun c s => Y28 c s k n, fun N => Y1s⟩ : ∃ av v, K av = some r /\ (∀ w, (Go.binOp j 0 (.int k x) (.int k y)).run P w = .ok v w) /\ (∀ t w, (Go.binOp j t (.int k x) (.int k y)).run P w = .ok v w) /\ (∀ c s, ∃ cells, ValC c s av v cells) /\ (∀ N : Nat, (∀ q ∈ av.refs, q.1 < N) /\ (∀ q ∈ av.ptrs, q < N)))
 have l : ∀ n, K (vBool n) = some r -> (∀ t w, (Go.binOp j t (.int k x) (.int k y)).run P w = .ok (.bool n) w) -> _ := fun n b g =>
  (⟨vBool n, .bool n, b, g 0, g, fun c s => Y2j c s n, fun N => Y2k⟩ : ∃ av v, K av = some r /\ (∀ w, (Go.binOp j 0 (.int k x) (.int k y)).run P w = .ok v w) /\ (∀ t w, (Go.binOp j t (.int k x) (.int k y)).run P w = .ok v w) /\ (∀ c s, ∃ cells, ValC c s av v cells) /\ (∀ N : Nat, (∀ q ∈ av.refs, q.1 < N) /\ (∀ q ∈ av.ptrs, q < N)))
 cases j with
 | add => exact i _ h (fun t w => by simp [Go.binOp, Op.intArith])
 | sub => exact i _ h (fun t w => by simp [Go.binOp, Op.intArith])
 | mul => exact i _ h (fun t w => by simp [Go.binOp, Op.intArith])
 | quo =>
  obtain ⟨b, g⟩ := Y31 h;have b : y ≠ 0 := by simpa using b
  exact i _ g (fun t w => by simp [Go.binOp, Op.intDiv, b])
 | rem =>
  obtain ⟨b, g⟩ := Y31 h;have b : y ≠ 0 := by simpa using b
  exact i _ g (fun t w => by simp [Go.binOp, Op.intDiv, b])
 | and => exact i _ h (fun t w => by simp [Go.binOp, Op.intBits])
 | xor => exact i _ h (fun t w => by simp [Go.binOp, Op.intBits])
 | or => exact i _ h (fun t w => by simp [Go.binOp, Op.intBits])
 | shr =>
  obtain ⟨b, g⟩ := Y31 h;have b : ¬ y < 0 := by simpa using b
  exact i _ g (fun t w => by simp [Go.binOp, Op.shift, b])
 | shl =>
  obtain ⟨b, g⟩ := Y31 h;have b : ¬ y < 0 := by simpa using b
  exact i _ g (fun t w => by simp [Go.binOp, Op.shift, b])
 | eql => exact l _ h (fun t w => by simp [Go.binOp, Op.intCmp])
 | neq => exact l _ h (fun t w => by simp [Go.binOp, Op.intCmp])
 | lss => exact l _ h (fun t w => by simp [Go.binOp, Op.intCmp])
 | leq => exact l _ h (fun t w => by simp [Go.binOp, Op.intCmp])
 | gtr => exact l _ h (fun t w => by simp [Go.binOp, Op.intCmp])
 | geq => exact l _ h (fun t w => by simp [Go.binOp, Op.intCmp])
 | _ => simp [intOp] at h
theorem Ydu {i : BinOp} {k k' : IntKind} {x y : Int} {K : AV -> Option R} (h : shiftOp i k x y K = some r) :
  ∃ av v, K av = some r /\ (∀ t w, (Go.binOp i t (.int k x) (.int k' y)).run P w = .ok v w) /\ (∀ c s, ∃ cells, ValC c s av v cells) /\ (∀ N : Nat, (∀ q ∈ av.refs, q.1 < N) /\ (∀ q ∈ av.ptrs, q < N)) := by
 cases i with
 | shr =>
  obtain ⟨b, g⟩ := Y31 h;have b : ¬ y < 0 := by simpa using b
  exact ⟨_, _, g, fun t w => by simp [Go.binOp, Op.shift, b], fun c s => Y28 c s k _, fun N => Y1s⟩
 | shl =>
  obtain ⟨b, g⟩ := Y31 h;have b : ¬ y < 0 := by simpa using b
  exact ⟨_, _, g, fun t w => by simp [Go.binOp, Op.shift, b], fun c s => Y28 c s k _, fun N => Y1s⟩
 | _ => simp [shiftOp] at h
theorem Yf4 {b : BinOp} {x y : ByteArray} {K : AV -> Option R} (h : strOp b x y K = some r) :
  ∃ av v, K av = some r /\ (∀ t w, (Go.binOp b t (.string x) (.string y)).run P w = .ok v w) /\ (∀ c s, ∃ cells, ValC c s av v cells) /\ (∀ N : Nat, (∀ q ∈ av.refs, q.1 < N) /\ (∀ q ∈ av.ptrs, q < N)) := by
 have g : ∀ n, K (vBool n) = some r -> (∀ t w, (Go.binOp b t (.string x) (.string y)).run P w = .ok (.bool n) w) -> _ := fun n i j =>
  (⟨vBool n, .bool n, i, j, fun c s => Y2j c s n, fun N => Y2k⟩ : ∃ av v, K av = some r /\ (∀ t w, (Go.binOp b t (.string x) (.string y)).run P w = .ok v w) /\ (∀ c s, ∃ cells, ValC c s av v cells) /\ (∀ N : Nat, (∀ q ∈ av.refs, q.1 < N) /\ (∀ q ∈ av.ptrs, q < N)))
 cases b with
 | add =>
  obtain ⟨i, j⟩ := Y1n h;have i : x.size + y.size <= 140737488355328 := by simpa using i
  refine ⟨vStr (x ++ y), .string (x ++ y), j, fun t w => ?_, fun c s => Y83 c s _, fun N => Y9k⟩;simp [Go.binOp, Op.stringOp];omega
 | eql => exact g _ h (fun t w => by simp [Go.binOp, Op.stringOp])
 | neq => exact g _ h (fun t w => by simp [Go.binOp, Op.stringOp])
 | lss => exact g _ h (fun t w => by simp [Go.binOp, Op.stringOp])
 | geq => exact g _ h (fun t w => by simp [Go.binOp, Op.stringOp])
 | _ => simp [strOp] at h
theorem Y8i (b : BinOp) (t : TypeId) (x y : Operand) (k k' : IntKind) (n m : Int) (w : World) : (eqGuard b t x y (.int k n) (.int k' m)).run P w = .ok () w := by
 unfold eqGuard; cases b <;> simp
theorem Yd5 (b : BinOp) (t : TypeId) (x y : Operand) (n m : ByteArray) (w : World) : (eqGuard b t x y (.string n) (.string m)).run P w = .ok () w := by
 unfold eqGuard; cases b <;> simp
theorem Y76 (b : BinOp) (t : TypeId) (x y : Operand) (n m : Bool) (w : World) : (eqGuard b t x y (.bool n) (.bool m)).run P w = .ok () w := by
 unfold eqGuard; cases b <;> simp
def Leaf.cell (l : Leaf) : Value := match l with
 | ⟨.int k, a, _⟩ => .int k a
 | ⟨.bool, a, _⟩ => .bool a
 | ⟨.str, a, _⟩ => .string a
 | _ => undef
theorem Y8j {t : TypeId} (b : ∀ w, (isAgg t).run P w = .ok false w) {xs : Array Value} {off : Nat} (h : xs[off]? = some v) (w : World) : (part t xs off).run P w = .ok v w := by
 unfold part;simp [X29, b, X1v, h, Sem.run_pure]
theorem Ybt {l m : Leaf} {z : Bool} (h : eqLeaf l m = some z) {b : TypeId} (g : match l.t with
   | .int k => P.underlying b = some (.int k)
   | .bool => P.underlying b = some .bool
   | .str => P.underlying b = some .string
   | _ => False) (w : World) (d : Nat) : (Op.equalIn (d + 1) b l.cell m.cell).run P w = .ok z w := by
 unfold eqLeaf at h;split at h
 ·split at h
  ·rename_i i;subst i;simp at h;subst h;exact run_equalIn_int w d b _ _ _ _ g
  ·cases h
 ·simp at h;subst h;exact run_equalIn_bool' w d b _ _ g
 ·simp at h;subst h;exact run_equalIn_string w d b _ _ g
 ·cases h
theorem Y8k {l m : Leaf} {ls g : List Leaf} {z : Bool} (h : eqLs (l :: ls) (m :: g) = some z) : ∃ a, eqLeaf l m = some a /\ ((ls = [] /\ g = [] /\ z = a) \/ ∃ b, eqLs ls g = some b /\ z = (a && b)) := by
 cases ls with
 | nil => cases g with
  | nil => exact ⟨z, h, .inl ⟨rfl, rfl, rfl⟩⟩
  | cons m' g =>
   simp only [eqLs] at h;split at h
   ·grind
   ·cases h
 | cons i ls => cases g with
  | nil =>
   simp only [eqLs] at h;split at h
   ·simp_all
   ·cases h
  | cons m' g =>
   simp [eqLs] at h;split at h
   ·grind
   ·cases h
theorem Y5h {xs q : Array Value} (w : World) (d : Nat) : ∀ {fs : List Field} {ls ms : List Leaf} {off : Nat} {z : Bool}, EqFs P fs (ls.map Leaf.t) off -> (∀ i l, ls[i]? = some l -> xs[off + i]? = some l.cell) -> (∀ i l, ms[i]? = some l -> q[off + i]? = some l.cell) -> eqLs ls ms = some z -> (Op.eqFields (d + 1) xs q fs).run P w = .ok z w
 | fs, [], ms, off, z, hf, hx, hy, h => by simp [eqLs] at h
 | fs, l :: ls, [], off, z, hf, hx, hy, h => by
  cases ls <;> simp [eqLs] at h
 | [], l :: ls, m :: ms, off, z, hf, hx, hy, h => by cases hf
 | f :: fs, l :: ls, m :: ms, off, z, hf, hx, hy, h => by
  obtain ⟨⟨C, y, A, D⟩, B⟩ := hf;obtain ⟨a, E, j⟩ := Y8k h;have G := Y8j A (xs := xs) (off := f.offset) (v := l.cell) (by rw [y]; exact hx 0 l rfl) w;have I := Y8j A (xs := q) (off := f.offset) (v := m.cell) (by rw [y]; exact hy 0 m rfl) w;have L := Ybt (P := P) E D w d;simp only [Op.eqFields, Sem.run_ite, X3 C, X29, G, I, L, X1v];rcases j with ⟨rfl, rfl, rfl⟩ | ⟨b, j, rfl⟩
  ·cases fs with
   | nil => cases z <;> simp [Op.eqFields]
   | cons g M => cases B
  ·have F := Y5h w d (fs := fs) B (fun i l p => by have := hx (i + 1) l p; rw [<- X1y, Nat.add_right_comm] at this; exact this) (fun i l p => by have := hy (i + 1) l p; rw [<- X1y, Nat.add_right_comm] at this; exact this) j;cases a with
   | false => simp
   | true => simp; exact F
theorem Yd6 (i : eqLeaf lf lf ≠ none \/ True) (g : match lf.t with | .int _ => True | .bool => True | .str => True | _ => False) (h : Rep S w lf.t .ro [u] lf.x []) : u = lf.cell := by
 obtain ⟨t, x, m⟩ := lf;cases t with
 | int k => have b := h.1; simp at b; exact b
 | bool => have b := h.1; simp at b; exact b
 | str => have b := h.1; simp at b; exact b
 | _ => exact g.elim
theorem Yaz {l m : Leaf} {z : Bool} (h : eqLeaf l m = some z) : (l.m.live = true /\ m.m.live = true) /\ (match l.t with | .int _ => True | .bool => True | .str => True | _ => False) /\ match m.t with | .int _ => True | .bool => True | .str => True | _ => False := by
 unfold eqLeaf at h;split at h
 ·exact ⟨⟨rfl, rfl⟩, trivial, trivial⟩
 ·exact ⟨⟨rfl, rfl⟩, trivial, trivial⟩
 ·exact ⟨⟨rfl, rfl⟩, trivial, trivial⟩
 ·cases h
theorem Y8l : ∀ {ls i : List Leaf} {z : Bool}, eqLs ls i = some z -> (∀ l ∈ ls, l.m.live = true /\ match l.t with | .int _ => True | .bool => True | .str => True | _ => False) /\ ∀ l ∈ i, l.m.live = true /\ match l.t with | .int _ => True | .bool => True | .str => True | _ => False
 | [], i, z, h => by simp [eqLs] at h
 | l :: ls, [], z, h => by cases ls <;> simp [eqLs] at h
 | l :: ls, m :: i, z, h => by
  obtain ⟨a, C, j⟩ := Y8k h;obtain ⟨⟨p, y⟩, A, B⟩ := Yaz C;rcases j with ⟨rfl, rfl, _⟩ | ⟨b, j, _⟩
  ·grind
  ·obtain ⟨D, k2⟩ := Y8l j;exact ⟨fun q g => by
    rcases Xm.1 g with rfl | g
    ·exact ⟨p, A⟩
    ·exact D q g, fun q g => by
    rcases Xm.1 g with rfl | g
    ·exact ⟨y, B⟩
    ·exact k2 q g⟩
theorem RE.aggV (F : RE c env tmps w) {ty : Option Ty} (h : rd ty env x = .con .agg ls) (E : ∀ l ∈ ls, l.m.live = true /\ match l.t with | .int _ => True | .bool => True | .str => True | _ => False) : evT tmps x = .agg (ls.map Leaf.cell).toArray := by
 obtain ⟨vs, q⟩ := F;obtain ⟨cs, bs, C, _⟩ := q.rel;obtain ⟨cells, y⟩ := Yj q.len C ty x;rw [h] at y;obtain ⟨⟨A, _⟩, G, B⟩ := y;rw [A];congr 1;congr 1;apply X22;intro i;rw [X16];by_cases g : i < ls.length
 ·rw [X1 om, X1 g];have b := B i _ cells[i] (by rw [Y2]; exact X1 g) (X1 om);obtain ⟨z, k2⟩ := E _ (List.getElem_mem g);have : ∃ S, Rep S w ls[i].t .ro [cells[i]] ls[i].x [] := by
   generalize ls[i] = lf at b z;obtain ⟨t, x, m⟩ := lf;cases m with
   | at_ lv => exact ⟨_, Rep.ro b.1⟩
   | bor r j p => exact ⟨_, b.1⟩
   | dead => cases z
  obtain ⟨S, D⟩ := this;rw [Yd6 (.inr trivial) k2 D];rfl
 ·grind
theorem Ydv (hT : TabOk P T) {D : BinOp} {t t' : TypeId} {x y : Operand} (p : o.op = .binOp D t x y t') (j : o.dst = some d) (q : RE c env a.tmps w) (I : d < env.length)
  (b : aggOp T D t (rd none env x) (rd none env y) (fun v => K (setD (some d) env v)) = some r) (L : Next c a K r env.length next) : o.wp P a w next Q := by
 unfold aggOp at b;split at b
 ·rename_i ls N hx hy;split at b
  ·rename_i e W;split at b
   ·rename_i A;simp at A;split at b
    ·rename_i z M;obtain ⟨B, C⟩ := Y8l M;have ex := q.aggV hx B;have F := q.aggV hy C;obtain ⟨Y, rfl, X⟩ := Tab.te_mem W;obtain ⟨⟨G, O⟩, fs, U, g4⟩ := (hT e Y).eqs A.1;have Z : ls.map Leaf.t = flat e.ty := of_decide_eq_true A.2.1;have V : P.fieldsOf e.id = fs := by unfold Program.fieldsOf; rw [U]
     have g : ∀ (E : List Leaf) (i : Nat) (l : Leaf), E[i]? = some l -> (E.map Leaf.cell).toArray[0 + i]? = some l.cell := fun E i l h => gr;have m : ∀ w, (Op.equalIn 10000 e.id (.agg (ls.map Leaf.cell).toArray) (.agg (N.map Leaf.cell).toArray)).run P w = .ok z w := fun w => by
      rw [show (10000 : Nat) = 9999 + 1 from rfl, run_equalIn_struct w 9999 e.id _ _ gr O, V];exact Y5h w 9998 gr (g ls) (g N) M
     cases D with
     | eql =>
      refine finV q j (v := .bool z) ?_ I (fun vs cs bs _ => Y2j _ _ _) Y2k b L;simp only [execOp, p, Y5, ex, F, X29, run_eqGuard_agg w _ e.id x y _ _ G, X1v, run_eql_struct, m, Sem.run_pure]
     | neq =>
      refine finV q j (v := .bool (!z)) ?_ I (fun vs cs bs _ => Y2j _ _ _) Y2k b L;simp only [execOp, p, Y5, ex, F, X29, run_eqGuard_agg w _ e.id x y _ _ G, X1v, run_neq_struct, m, Sem.run_pure]
     | _ => simp at b
    ·simp at b
   ·simp at b
  ·simp at b
 ·simp at b
theorem Ydw (hT : TabOk P T) {F : BinOp} {t N : TypeId} {x y : Operand} (i : o.op = .binOp F t x y N) (b : o.dst = some d) (g : RE c env a.tmps w) (A : d < env.length)
  (h : binOp1 T F t (rd none env x) (rd none env y) (fun v => K (setD (some d) env v)) = some r) (B : Next c a K r env.length next) : o.wp P a w next Q := by
 unfold binOp1 at h;split at h
 ·rename_i k n k' m q z;split at h
  ·rename_i I;subst I;obtain ⟨av, v, j, _, l, p, C⟩ := Yf3 (P := P) h;refine finV g b (v := v) ?_ A (fun vs cs bs _ => p _ _) (C _) j B;simp [execOp, i, Y5, g.int1 q, g.int1 z, Y8i, l]
  ·obtain ⟨av, v, j, l, p, C⟩ := Ydu (P := P) (k' := k') h;refine finV g b (v := v) ?_ A (fun vs cs bs _ => p _ _) (C _) j B;simp [execOp, i, Y5, g.int1 q, g.int1 z, Y8i, l]
 ·split at h
  ·rename_i n m q z;obtain ⟨av, v, j, l, p, C⟩ := Yf4 (P := P) h;refine finV g b (v := v) ?_ A (fun vs cs bs _ => p _ _) (C _) j B;simp [execOp, i, Y5, g.str1 q, g.str1 z, Yd5, l]
  ·split at h
   ·rename_i n m q z;split at h
    ·rename_i L;have M : P.underlying t = some .bool := by
      obtain ⟨e, j, p⟩ := Tab.ty_te L;obtain ⟨l, rfl, E⟩ := Tab.te_mem j;have := (hT e l).desc E;rw [p] at this;exact this
     have D : (Op.equal t (.bool n) (.bool m)).run P w = .ok (n == m) w := by
      have : ∀ G, (Op.equalIn (G + 1) t (.bool n) (.bool m)).run P w = .ok (n == m) w := fun G => by simp [Op.equalIn, run_underlying M]
      exact this 9999
     cases F with
     | eql =>
      refine finV g b (v := .bool (n == m)) ?_ A (fun vs cs bs _ => Y2j _ _ _) Y2k h B;simp only [execOp, i, Y5, g.bool1 q, g.bool1 z, X29, Y76, X1v, Go.binOp, D, Sem.run_pure]
     | neq =>
      refine finV g b (v := .bool (!(n == m))) ?_ A (fun vs cs bs _ => Y2j _ _ _) Y2k h B;simp only [execOp, i, Y5, g.bool1 q, g.bool1 z, X29, Y76, X1v, Go.binOp, D, Sem.run_pure]
     | _ => simp at h
    ·simp at h
   ·exact Ydv hT i b g A h B
theorem Yeu {m : UnOp} {t : TypeId} (i : o.op = .unOp m t x) (h : o.dst = some d) (j : RE c env a.tmps w) (p : d < env.length)
  (g : unOp1 m (rd none env x) (fun v => K (setD (some d) env v)) = some r) (q : Next c a K r env.length next) : o.wp P a w next Q := by
 unfold unOp1 at g;cases m with
 | not =>
  simp only at g;split at g
  ·rename_i b l;exact finV j h (v := .bool (!b)) (by simp [execOp, i, Y5, j.bool1 l, Op.unary]) p (fun vs cs bs _ => Y2j _ _ _) Y2k g q
  ·simp at g
 | neg =>
  simp only at g;split at g
  ·rename_i k n l;exact finV j h (v := .int k (k.wrap (0 - n))) (by simp [execOp, i, Y5, j.int1 l, Op.unary, Op.intArith]) p (fun vs cs bs _ => Y28 _ _ _ _) Y1s g q
  ·simp at g
 | _ => simp at g
theorem Ybu (hT : TabOk P T) {s h : TypeId} {k k' k2 : IntKind} {n : Int} (g : o.op = .convert s h x) (b : o.dst = some d) (i : RE c env a.tmps w) (l : d < env.length) (q : T.ty s = some (.int k)) (y : T.ty h = some (.int k'))
  (m : int1 (rd none env x) = some (k2, n)) (j : K (setD (some d) env (vInt k' (k'.wrap n))) = some r) (p : Next c a K r env.length next) : o.wp P a w next Q := by
 refine finV i b (v := .int k' (k'.wrap n)) ?_ l (fun vs cs bs _ => Y28 _ _ _ _) Y1s j p;simp [execOp, g, Y5, i.int1 m, Go.convert, run_underlying (TabOk.int hT q), run_underlying (TabOk.int hT y), Conv.intToInt]
theorem Ydx (hT : TabOk P T) {t : TypeId} {x i : Operand} {s : ByteArray} {k : IntKind} {n : Int} (j : o.op = .index t x i) (g : o.dst = some d) (l : RE c env a.tmps w) (p : d < env.length) (A : T.ty t = some .str) (z : str1 (rd none env x) = some s) (q : int1 (rd none env i) = some (k, n))
  (h : ((if 0 <= n then s[n.toNat]? else none).bind fun b => K (setD (some d) env (vInt .u8 b.toNat))) = some r) (y : Next c a K r env.length next) : o.wp P a w next Q := by
 obtain ⟨b, m, h⟩ := Xx.1 h;refine finV l g (v := .int .u8 b.toNat) ?_ p (fun vs cs bs _ => Y28 _ _ _ _) Y1s h y;simp [execOp, j, Y5, l.str1 z, l.int1 q, Instr.index, asIntOf, run_underlying (TabOk.str hT A), m]
theorem Y8m {t : TypeId} {x y : Operand} {j : Call} {mx : Bool} {k : IntKind} {n m : Int} (h : o.op = .call j) (p : j.callee = .builtin (if mx then .max else .min)) (l : j.args.toList = [x, y]) (g : o.dst = some d) (i : RE c env a.tmps w) (B : d < env.length)
  (q : int1 (rd none env x) = some (k, n)) (z : int1 (rd none env y) = some (k, m)) (A : K (setD (some d) env (vInt k (if mx then (if m > n then m else n) else (if m < n then m else n)))) = some r) (C : Next c a K r env.length next) : o.wp P a w next Q := by
 have b : j.args = #[x, y] :=gr;refine finV i g (v := .int k (if mx then (if m > n then m else n) else (if m < n then m else n))) ?_ B (fun vs cs bs _ => Y28 _ _ _ _) Y1s A C;cases mx with
 | true => simp [execOp, h, resolve, p, b, invoke, builtin, Builtin.max_, Builtin.max2, Y5, i.int1 q, i.int1 z]
 | false => simp [execOp, h, resolve, p, b, invoke, builtin, Builtin.min_, Builtin.min2, Y5, i.int1 q, i.int1 z]
theorem Ybv (hT : TabOk P T) {t : TypeId} {h : Call} {s : ByteArray} (l : o.op = .call h) (y : h.callee = .builtin .len) (j : h.args.toList = [x]) (p : h.argTypes.toList = [t]) (i : o.dst = some d) (m : RE c env a.tmps w) (z : d < env.length)
  (C : str1 (rd none env x) = some s) (B : T.ty t = some .str) (q : K (setD (some d) env (vInt .i64 (s.size : Int))) = some r) (A : Next c a K r env.length next) : o.wp P a w next Q := by
 have b : h.args = #[x] :=gr;have g : h.argTypes = #[t] :=gr;refine finV m i (v := .int .i64 (s.size : Int)) ?_ z (fun vs cs bs _ => Y28 _ _ _ _) Y1s q A;simp [execOp, l, resolve, y, b, g, invoke, builtin, Builtin.len_, Y5, m.str1 C, run_underlying (TabOk.str hT B), goInt]
theorem RE.slice (F : RE c env tmps w) {ty : Option Ty} {xs : List τ.D} (h : rd ty env x = .con .val [lf]) (b : lf.as (.slice e τ) = some xs) (j : lf.m.live = true) : ∃ A i, evT tmps x = .slice A xs.length i /\ xs.length <= i := by
 obtain ⟨vs, l⟩ := F;obtain ⟨cs, bs, D, _⟩ := l.rel;obtain ⟨cells, q⟩ := Yj l.len D ty x;rw [h] at q;obtain ⟨S, E⟩ := Y2i q j;obtain ⟨t, y, m⟩ := lf;unfold Leaf.as at b;split at b
 ·rename_i p;simp only at p;subst p;simp at b;subst b;obtain ⟨v, z, G, I, B, _, _, g⟩ := E;obtain ⟨A, i, C, j⟩ := g.slice;have : evT tmps x = v := by simpa using B
  rw [this];exact ⟨A, i, C, j⟩
 ·simp at b
theorem Y9l (hT : TabOk P T) {t e : TypeId} {g : Call} {lx : Leaf} {xs : List τ.D} (m : o.op = .call g) (B : g.callee = .builtin .len) (h : g.args.toList = [x]) (l : g.argTypes.toList = [t]) (j : o.dst = some d) (p : RE c env a.tmps w) (C : d < env.length)
  (F : T.ty t = some (.slice e τ)) (G : rd (some (.slice e τ)) env x = .con .val [lx]) (z : lx.as (.slice e τ) = some xs) (D : lx.m.live = true) (y : K (setD (some d) env (vInt .i64 (xs.length : Int))) = some r) (E : Next c a K r env.length next) : o.wp P a w next Q := by
 have b : g.args = #[x] := by rw [<- X1e (xs := g.args), h]
 have i : g.argTypes = #[t] := by rw [<- X1e (xs := g.argTypes), l]
 obtain ⟨A, I, q, _⟩ := p.slice G z D;refine finV p j (v := .int .i64 (xs.length : Int)) ?_ C (fun vs cs bs _ => Y28 _ _ _ _) Y1s y E;simp [execOp, m, resolve, B, b, i, invoke, builtin, Builtin.len_, Y5, q, run_underlying (TabOk.slice hT F), goInt]
theorem Y1c (b o n : Nat) : (⟨b, o, none⟩ : Addr).add n = ⟨b, o + n, none⟩ := by unfold Addr.add; split <;> simp_all
theorem Y68 (x : Addr) (n m : Nat) : (x.add n).add m = x.add (n + m) := by
 unfold Addr.add;by_cases b : n = 0 <;> by_cases g : m = 0 <;> simp_all;omega
theorem Y6f (hT : TabOk P T) {s : TypeId} {f off : Nat} (h : fieldAt T s f = some (off, τ)) (x : Addr) (w : World) : (Instr.fieldAt s (.pointer (some x)) f).run P w = .ok (.pointer (some (x.add off))) w := by
 obtain ⟨fs, l, b, g, rfl, i, j⟩ := TabOk.field hT h;simp [Instr.fieldAt, run_underlying b, g, Instr.sureAddr, fieldPlace, TabOk.sizeOf hT i, j]
theorem Y4k (n : Nat) (ls : List Leaf) (l : Nat) : leafAt (dropLs n ls) l = leafAt ls (n + l) := by rw [Y2, Y2, Yp, X1m]
theorem Y4l {l : Nat} (h : leafAt (takeLs n ls) l = some lf) : leafAt ls l = some lf := by
 rw [Y2, Yo, X1k] at h;rw [Y2];split at h
 ·exact h
 ·simp at h
theorem Y5i (n : Nat) (ls : List Leaf) : ∀ q ∈ (dropLs n ls).flatMap Leaf.refs, q ∈ ls.flatMap Leaf.refs := by
 intro q b;rw [Yp] at b;simp at b ⊢;obtain ⟨l, g, b⟩ := b;exact ⟨l, X2e g, b⟩
theorem Y5j (n : Nat) (ls : List Leaf) : ∀ q ∈ (takeLs n ls).flatMap Leaf.refs, q ∈ ls.flatMap Leaf.refs := by
 intro q b;rw [Yo] at b;simp at b ⊢;obtain ⟨l, g, b⟩ := b;exact ⟨l, X2f g, b⟩
theorem Y6d (hT : TabOk P T) {s : TypeId} {f off r' l : Nat} (m : o.op = .fieldAddr s x f) (b : o.dst = some d) (j : RE c env a.tmps w) (I : d < env.length) (L : fieldAt T s f = some (off, τ)) (p : rd none env x = .path r' l)
  (G : K (setD (some d) env (.path r' (l + off))) = some r) (M : Next c a K r env.length next) : o.wp P a w next Q := by
 obtain ⟨vs, i⟩ := j;have j : RE c env a.tmps w := ⟨vs, i⟩;obtain ⟨cs, bs, E, _⟩ := i.rel;obtain ⟨cells, z⟩ := Yj i.len E none x;rw [p] at z;obtain ⟨e, ls, B, O, U, y⟩ := z;refine finV j b (v := .pointer (some ⟨B, l + off, none⟩)) ?_ I (fun vs cs bs g => ?_) ?_ G M
 ·have := Y6f hT L ⟨B, l, none⟩ w;simp [execOp, m, Y5, y, this, Y1c]
 ·obtain ⟨cells, h⟩ := Yj i.len g none x;rw [p] at h;obtain ⟨D, q, C, N, k2, A⟩ := h;rw [y] at A;have F : B = C := by simpa using A
  subst F;exact ⟨[], D, q, B, N, k2, rfl⟩
 ·have := j.refs none x;rw [p] at this;exact this
theorem Y3r (hT : TabOk P T) {s : TypeId} {f off : Nat} {G : Option (Nat × Nat × List (Int × Nat) × Int × Nat)} (N : o.op = .fieldAddr s x f) (g : o.dst = some d) (E : RE c env a.tmps w) (hd : d < env.length) (hf : fieldAt T s f = some (off, τ)) (U : rd none env x = .eptr ls G)
  (hK : K (setD (some d) env (.eptr (dropLs off ls) (match G with | some (r, j, p, i, q) => some (r, j, p, i, q + off) | none => none))) = some r) (hn : Next c a K r env.length next) : o.wp P a w next Q := by
 obtain ⟨vs, D⟩ := E;have E : RE c env a.tmps w := ⟨vs, D⟩;obtain ⟨cs, bs, h1, _⟩ := D.rel;obtain ⟨cells, hv⟩ := Yj D.len h1 none x;rw [U] at hv;obtain ⟨I, C, _, _⟩ := hv;refine finV E g (v := .pointer (some (I.add off))) ?_ hd (fun vs cs bs h => ?_) ?_ hK hn
 ·have := Y6f hT hf I w;simp [execOp, N, Y5, C, this]
 ·obtain ⟨cells, y⟩ := Yj D.len h none x;rw [U] at y;obtain ⟨x1, k1, k2, W⟩ := y;rw [C] at k1;have V : I = x1 := by simpa using k1
  subst V;refine ⟨[], I.add off, rfl, fun l lf Z => ?_, ?_⟩
  ·rw [Y4k] at Z;obtain ⟨X, u, Y, F⟩ := k2 _ _ Z;exact ⟨X, u, by rw [Y68]; exact Y, F⟩
  ·cases G with
   | none => exact ⟨by rw [Addr.add_block]; exact W.1, by rw [Addr.add_block]; exact W.2⟩
   | some q =>
    obtain ⟨r', j, p, i, q⟩ := q;obtain ⟨X, lf, u, Y, F⟩ := W;refine ⟨by rw [Addr.add_block]; exact X, lf, u, Y, fun O => ?_, fun i0 o0 z O => ?_⟩
    ·obtain ⟨e, t, xs, m, B, n, L, n1, n2, n3, n4, n5⟩ := F.1 O;exact ⟨e, t, xs, m, B, n, L, n1, n2, n3, n4, by rw [n5, Y1c, X1y]⟩
    ·obtain ⟨e, t, xs, m, B, n, L, A, n', M, C, g2, g3, g4, g5, g6, g7⟩ := F.2 i0 o0 z O;exact ⟨e, t, xs, m, B, n, L, A, n', M, C, g2, g3, g4, g5, g6, by rw [g7, Addr.add_add, X1y]⟩
 ·have := E.refs none x;rw [U] at this;simp only [AV.refs, AV.ptrs] at this ⊢;refine ⟨fun q b => ?_, sm⟩;simp only [X5] at b;rcases b with b | b
  ·exact this.1 q (Xc _ (Y5i _ _ q b))
  ·refine this.1 q (Xd _ ?_);cases G with
   | none => simp at b
   | some q' => obtain ⟨r', j, p, i, q'⟩ := q'; exact b
theorem Y6q {r' m : Nat} (i : o.op = .nilCheck x) (b : o.dst = some d) (g : RE c env a.tmps w) (z : d < env.length) (j : rd none env x = .path r' m) (y : K (setD (some d) env (.path r' m)) = some r) (A : Next c a K r env.length next) : o.wp P a w next Q := by
 obtain ⟨vs, h⟩ := g;have g : RE c env a.tmps w := ⟨vs, h⟩;obtain ⟨cs, bs, q, _⟩ := h.rel;obtain ⟨cells, l⟩ := Yj h.len q none x;rw [j] at l;obtain ⟨e, ls, B, C, D, p⟩ := l;refine finV g b (v := evT a.tmps x) ?_ z (j ▸ g.val none x) (j ▸ g.refs none x) y A;simp [execOp, i, Y5, p]
theorem Y77 {cs : List (Nat × Nat)} (i : o.op = .nilCheck x) (b : o.dst = some d) (g : RE c env a.tmps w) (z : d < env.length) (j : rd none env x = .clo f cs) (y : K (setD (some d) env (.clo f cs)) = some r) (A : Next c a K r env.length next) : o.wp P a w next Q := by
 obtain ⟨vs, h⟩ := g;have g : RE c env a.tmps w := ⟨vs, h⟩;obtain ⟨m, bs, q, _⟩ := h.rel;obtain ⟨cells, l⟩ := Yj h.len q none x;rw [j] at l;obtain ⟨B, p, C⟩ := l;refine finV g b (v := evT a.tmps x) ?_ z (j ▸ g.val none x) (j ▸ g.refs none x) y A;simp [execOp, i, Y5, p]
theorem Y6r (i : o.op = .nilCheck x) (b : o.dst = some d) (g : RE c env a.tmps w) (z : d < env.length) (j : rd none env x = .cloR f xs) (y : K (setD (some d) env (.cloR f xs)) = some r) (A : Next c a K r env.length next) : o.wp P a w next Q := by
 obtain ⟨vs, h⟩ := g;have g : RE c env a.tmps w := ⟨vs, h⟩;obtain ⟨m, bs, q, _⟩ := h.rel;obtain ⟨cells, l⟩ := Yj h.len q none x;rw [j] at l;obtain ⟨B, p, C⟩ := l;refine finV g b (v := evT a.tmps x) ?_ z (j ▸ g.val none x) (j ▸ g.refs none x) y A;simp [execOp, i, Y5, p]
theorem Y6s {m : Option (Nat × Nat × List (Int × Nat) × Int × Nat)} (i : o.op = .nilCheck x) (b : o.dst = some d) (g : RE c env a.tmps w) (A : d < env.length) (j : rd none env x = .eptr ls m) (z : K (setD (some d) env (.eptr ls m)) = some r) (B : Next c a K r env.length next) : o.wp P a w next Q := by
 obtain ⟨vs, h⟩ := g;have g : RE c env a.tmps w := ⟨vs, h⟩;obtain ⟨p, bs, y, _⟩ := h.rel;obtain ⟨cells, l⟩ := Yj h.len y none x;rw [j] at l;obtain ⟨C, q, D⟩ := l;refine finV g b (v := evT a.tmps x) ?_ A (j ▸ g.val none x) (j ▸ g.refs none x) z B;simp [execOp, i, Y5, q]
end
theorem Y1r : ∀ (t : Ty) {cs : List Value} {x : t.D} (md : Nat -> Mode) (n : Nat), Rep S w t .ro cs x [] ->
  (leaves t x md n).length = cs.length /\ ∀ (l : Nat) (lf : Leaf) (u : Value), (leaves t x md n)[l]? = some lf -> cs[l]? = some u -> Rep S w lf.t .ro [u] lf.x [] /\ ((lf.m = .at_ .ro /\ lf.t.flatB = true) \/ lf.m = md (n + l))
 | .int k, cs, x, md, n, h => by
  obtain ⟨rfl, _⟩ := h;refine ⟨rfl, fun l lf u g i => ?_⟩;cases l with
  | zero => simp only [leaves, Xi, X0] at g i; subst g; subst i; exact ⟨⟨rfl, rfl⟩, .inl ⟨rfl, rfl⟩⟩
  | succ l => simp [leaves] at g
 | .bool, cs, x, md, n, h => by
  obtain ⟨rfl, _⟩ := h;refine ⟨rfl, fun l lf u g i => ?_⟩;cases l with
  | zero => simp only [leaves, Xi, X0] at g i; subst g; subst i; exact ⟨⟨rfl, rfl⟩, .inl ⟨rfl, rfl⟩⟩
  | succ l => simp [leaves] at g
 | .str, cs, x, md, n, h => by
  obtain ⟨rfl, _⟩ := h;refine ⟨rfl, fun l lf u g i => ?_⟩;cases l with
  | zero => simp only [leaves, Xi, X0] at g i; subst g; subst i; exact ⟨⟨rfl, rfl⟩, .inl ⟨rfl, rfl⟩⟩
  | succ l => simp [leaves] at g
 | .slice e t, cs, x, md, n, h => by
  have q := h;obtain ⟨v, xs, D, p, rfl, _⟩ := h;refine ⟨rfl, fun l lf u g i => ?_⟩;cases l with
  | zero => simp only [leaves, Xi, X0] at g i; subst g; subst i; exact ⟨q, .inr rfl⟩
  | succ l => simp [leaves] at g
 | .unit, cs, x, md, n, h => by
  obtain ⟨rfl, _⟩ := h;exact ⟨rfl, fun l lf u g i => gr⟩
 | .pair a b, cs, x, md, n, h => by
  obtain ⟨j, F, p, E, rfl, z, m, y⟩ := h;obtain ⟨rfl, rfl⟩ := X28.1 z.symm;obtain ⟨C, G⟩ := Y1r a md n m;obtain ⟨l2, k2⟩ := Y1r b md (n + a.sz) y;have B : j.length = a.sz := Rep.len m;refine ⟨by simp [leaves, C, l2], fun l lf u g i => ?_⟩;simp [leaves] at g;by_cases A : l < j.length
  ·grind
  ·grind
theorem Y12 : ∀ (t : Ty) (x : t.D) (g : Nat -> Mode) (n : Nat), (leaves t x g n).map Leaf.t = flat t
 | .int k, x, g, n => rfl
 | .bool, x, g, n => rfl
 | .str, x, g, n => rfl
 | .slice e t, x, g, n => rfl
 | .unit, x, g, n => rfl
 | .pair a b, x, g, n => by simp only [leaves, List.map_append, Y12 a, Y12 b]; rfl
theorem Y2q (lv : Lvl) : ∀ (t : Ty) {cs : List Value} {x : t.D} {bs : List Nat} (n : Nat), Rep S w t lv cs x bs ->
  (leaves t x (fun _ => .at_ lv) n).length = cs.length /\ (∀ lf ∈ leaves t x (fun _ => .at_ lv) n, lf.m.settled = true) /\ ∃ j : List (List Nat), j.length = cs.length /\ bs = j.flatten /\
   ∀ (l : Nat) (lf : Leaf) (u : Value), (leaves t x (fun _ => .at_ lv) n)[l]? = some lf -> cs[l]? = some u -> ∃ m, lf.m = .at_ m /\ Rep S w lf.t m [u] lf.x (j.getD l [])
 | .int k, cs, x, bs, n, h => by
  obtain ⟨rfl, rfl⟩ := h;refine ⟨rfl, by simp [leaves, Mode.settled], [[]], rfl, rfl, fun l lf u g i => ?_⟩;cases l with
  | zero => simp only [leaves, Xi, X0] at g i; subst g; subst i; exact ⟨.ro, rfl, rfl, rfl⟩
  | succ l => simp [leaves] at g
 | .bool, cs, x, bs, n, h => by
  obtain ⟨rfl, rfl⟩ := h;refine ⟨rfl, by simp [leaves, Mode.settled], [[]], rfl, rfl, fun l lf u g i => ?_⟩;cases l with
  | zero => simp only [leaves, Xi, X0] at g i; subst g; subst i; exact ⟨.ro, rfl, rfl, rfl⟩
  | succ l => simp [leaves] at g
 | .str, cs, x, bs, n, h => by
  obtain ⟨rfl, rfl⟩ := h;refine ⟨rfl, by simp [leaves, Mode.settled], [[]], rfl, rfl, fun l lf u g i => ?_⟩;cases l with
  | zero => simp only [leaves, Xi, X0] at g i; subst g; subst i; exact ⟨.ro, rfl, rfl, rfl⟩
  | succ l => simp [leaves] at g
 | .slice e t, cs, x, bs, n, h => by
  have F := h;obtain ⟨v, xs, U, q, rfl, _⟩ := h;refine ⟨rfl, by simp [leaves, Mode.settled], [bs], rfl, sm, fun l lf u g i => ?_⟩;cases l with
  | zero => simp only [leaves, Xi, X0] at g i; subst g; subst i; exact ⟨lv, rfl, F⟩
  | succ l => simp [leaves] at g
 | .unit, cs, x, bs, n, h => by
  obtain ⟨rfl, rfl⟩ := h;exact ⟨rfl, by simp [leaves], [], rfl, rfl, fun l lf u g i => gr⟩
 | .pair a b, cs, x, bs, n, h => by
  obtain ⟨y, W, q, V, rfl, rfl, G, I⟩ := h;obtain ⟨M, N, z, B, D, X⟩ := Y2q lv a n G;obtain ⟨l2, O, A, C, E, k2⟩ := Y2q lv b (n + a.sz) I;refine ⟨by simp [leaves, M, l2], fun lf p => ?_, z ++ A, by simp [B, C], by rw [D, E, List.flatten_append], fun l lf u g i => ?_⟩
  ·simp only [leaves] at p;exact (X5.1 p).elim (N lf) (O lf)
  ·simp [leaves] at g;by_cases L : l < y.length
   ·grind
   ·grind
theorem Y1x {lv : Lvl} : ∀ (t : Ty) (x : t.D) (n : Nat), ∀ lf ∈ leaves t x (fun _ => .at_ lv) n, lf.m = .at_ .ro \/ lf.m = .at_ lv
 | .int k, x, n, lf, h => by simp [leaves] at h; rw [h]; exact .inl rfl
 | .bool, x, n, lf, h => by simp [leaves] at h; rw [h]; exact .inl rfl
 | .str, x, n, lf, h => by simp [leaves] at h; rw [h]; exact .inl rfl
 | .slice e t, x, n, lf, h => by simp [leaves] at h; rw [h]; exact .inr rfl
 | .unit, x, n, lf, h => by simp [leaves] at h
 | .pair a b, x, n, lf, h => by
  simp [leaves] at h;rcases h with h | h
  ·exact Y1x a _ _ _ h
  ·exact Y1x b _ _ _ h
theorem Y9m {lv m : Lvl} {M : Mode} (b : M = .at_ m) (h : M = .at_ .ro \/ M = .at_ lv) (g : lv.pinOk c u) : m.pinOk c u := by
 rcases h with h | h
 ·rw [h] at b; cases b; trivial
 ·grind
section
variable {P : Program} {o : Oper} {a : Act} {w : World} {R : Type} {K : Env -> Option R} {r : R} {next : Act -> World -> Prop} {Q : Exit -> Act -> World -> Prop} {c : Cx} {d : Nat} {T : Tab} {env : Env}
theorem Leaf.as_eq {x : t.D} (h : lf.as t = some x) : lf = ⟨t, x, lf.m⟩ := by
 obtain ⟨b, y, m⟩ := lf;unfold Leaf.as at h;split at h
 ·grind
 ·simp at h
theorem Y9n {xs : List τ.D} (h : Rep S w (.slice e τ) .ro [v] xs []) {i : Nat} (C : i < xs.length) (Y : 0 < τ.sz) :
  ∃ A c ch, v = .slice (some A) xs.length c /\ ch.length = τ.sz /\ S A.block /\ A.block < w.heap.size /\ (∀ (l : Nat) (u : Value), ch[l]? = some u -> w.cell? ((A.add (i * τ.sz)).add l) = some u) /\ Rep S w τ .ro ch (xs.getD i τ.dflt) [] := by
 obtain ⟨v', cs, E, F, q, I, z, m⟩ := h;have q : v = v' := by simpa using q
 subst q;obtain ⟨rfl, rfl⟩ := X28.1 I.symm;obtain ⟨_, A, G, L, hl, hz, X⟩ := m;obtain ⟨Z, ch, D, E, b, F, N, O, U, f4, B, _⟩ := z.at_ i C;have g : ∀ (l : Nat) (u : Value), ch[l]? = some u -> ∃ a, A = some a /\ S a.block /\ w.cell? (a.add (i * τ.sz + l)) = some u := by
  intro l u p;have j := (X6.1 p).1;refine X _ u ?_;rw [N, X7, Xe om, Xk om, O, show i * τ.sz + l - i * τ.sz = l by omega];exact p
 obtain ⟨A0, rfl, W, y⟩ := g 0 ch[0] (X1 om);have j := X2x w _ y;rw [Addr.add_block] at j;refine ⟨A0, G, ch, L, U, W, j, fun l u p => ?_, ?_⟩
 ·obtain ⟨a', M, _, V⟩ := g l u p;cases M;rw [Y68];exact V
 ·have : xs.getD i τ.dflt = xs[i] := by rw [Xl, X1 C]; rfl
  rw [this];have := Rep.ro_bs B;subst this;exact B
theorem Y94 {m : Mode} {i : Int} {l : Nat} : ∀ q : Nat × Nat, (∃ p, elemMode m i l = .bor q.1 q.2 p) -> ∃ p, m = .bor q.1 q.2 p := by
 rintro q ⟨p, b⟩
 unfold elemMode at b;split at b
 ·grind
 ·simp at b
theorem Y4m : ∀ (t : Ty) (x : t.D) (h : Nat -> Mode) (n : Nat), ∀ q ∈ (leaves t x h n).flatMap Leaf.refs, ∃ l p, h l = .bor q.1 q.2 p
 | .int k, x, h, n, q, g => by simp [leaves, Leaf.refs] at g
 | .bool, x, h, n, q, g => by simp [leaves, Leaf.refs] at g
 | .str, x, h, n, q, g => by simp [leaves, Leaf.refs] at g
 | .slice e t, x, h, n, q, g => by
  simp [leaves, Leaf.refs] at g;split at g
  ·grind
  ·simp at g
 | .unit, x, h, n, q, g => by simp [leaves] at g
 | .pair a b, x, h, n, q, g => by
  simp only [leaves, List.flatMap_append, X5] at g;rcases g with g | g
  ·exact Y4m a x.1 h n q g
  ·exact Y4m b x.2 h _ q g
theorem Y9o (hT : TabOk P T) {t : TypeId} {x i : Operand} {lx : Leaf} {n : Int} {xs : List te.ty.D} (hop : o.op = .indexAddr t x i) (hdst : o.dst = some d) (hr : RE c env a.tmps w) (hd : d < env.length) (ht : elemAt T t = some te)
  (hx : rd (some (.slice te.id te.ty)) env x = .con .val [lx]) (hi : int1 (rd none env i) = some (.i64, n)) (ha : lx.as (.slice te.id te.ty) = some xs) (hl : lx.m.live = true) (h0 : 0 <= n) (h1 : n < (xs.length : Int))
  (hK : K (setD (some d) env (.eptr (leaves te.ty (xs.getD n.toNat te.ty.dflt) (elemMode lx.m n) 0) (match lx.m with | .bor r j p => some (r, j, nestP te.ty.sz p, n, 0) | _ => none))) = some r) (hn : Next c a K r env.length next) : o.wp P a w next Q := by
 obtain ⟨hty, hund, _, hsz, hby, i0, hi0, hi1, _⟩ := TabOk.elem hT ht;obtain ⟨k, rfl⟩ : ∃ k : Nat, n = k := ⟨n.toNat, om⟩;have hk : k < xs.length :=om;simp only [X37] at hK;have hlx := Leaf.as_eq ha
 -- the value, in any state of this kind
 have X : ∀ vs cs bs, Rel c (SS env noP a.tmps vs w cs bs) -> ∃ A V, evT a.tmps x = .slice (some A) xs.length V /\
   ∃ cells, ValC c (SS env noP a.tmps vs w cs bs) (.eptr (leaves te.ty (xs.getD k te.ty.dflt) (elemMode lx.m k) 0) (match lx.m with | .bor r j p => some (r, j, nestP te.ty.sz p, (k : Int), 0) | _ => none)) (.pointer (some (A.add (k * te.ty.sz)))) cells := by
  intro vs cs bs E;obtain ⟨cells, hv⟩ := hr.val (some (.slice te.id te.ty)) x vs cs bs E;rw [hx, hlx] at hv;obtain ⟨⟨rfl, _⟩, _, hv3⟩ := hv;have hlv := hv3 0 _ _ rfl rfl;generalize hm : lx.m = m at hlv hl;cases m with
  | dead => simp [Mode.live] at hl
  | at_ lv =>
   obtain ⟨A, V, ch, U, e2, e3, e4, e5, e6⟩ := Y9n (Rep.move (S' := RoS c (SS env noP a.tmps vs w cs bs)) (fun b hb _ => ⟨by simpa using hb, rfl⟩) sm (Rep.ro hlv.1)) hk hsz;obtain ⟨f1, f2⟩ := Y1r te.ty (x := xs.getD k te.ty.dflt) (elemMode (.at_ lv) k) 0 e6;refine ⟨A, V, U, [], _, rfl, fun l lf I => ?_, by rw [Addr.add_block]; exact e3, by rw [Addr.add_block]; exact e4⟩;rw [Y2] at I;have hlt := (X6.1 I).1;have hu := X1 (l := ch) (i := l) om;obtain ⟨M, g2⟩ := f2 l lf _ I hu;have F : lf.m = .at_ .ro := g2.elim (·.1) (fun h => by rw [h]; rfl);refine ⟨by rw [F]; rfl, _, e5 l _ hu, ?_⟩;obtain ⟨t, y, m⟩ := lf;simp only at F;subst F;exact M
  | bor r' j p =>
   obtain ⟨hrep, ⟨O, u', ho, hp⟩, hb3⟩ := hlv;obtain ⟨A, V, ch, U, e2, e3, e4, e5, e6⟩ := Y9n hrep hk hsz;obtain ⟨f1, f2⟩ := Y1r te.ty (x := xs.getD k te.ty.dflt) (elemMode (.bor r' j p) k) 0 e6;have Y : p = [] -> ∃ e t G m B n V, O = ⟨.slice e t, G, m⟩ /\ u' = .slice (some ⟨B, 0, none⟩) n V /\ 0 <= (k : Int) /\ (k : Int).toNat < G.length /\ ∀ l, (A.add (k * te.ty.sz)).add l = ⟨B, (k : Int).toNat * t.sz + l, none⟩ := fun C => by
    obtain ⟨m, rfl, rfl⟩ := hp C
    -- the row of the place itself
    have hrow : ∃ B D, evT a.tmps x = .slice (some ⟨B, 0, none⟩) xs.length D := by
     have hlr := (E.av r');obtain ⟨M, g2, g3⟩ := ho;cases hev : (SS env noP a.tmps vs w cs bs).env r' with
     | con kk ls =>
      rw [hev] at hlr M;have h4 := hlr.2.2.2 j _ _ M g3;cases m with
      | bor _ _ _ => simp [Mode.own] at g2
      | dead => simp [Mode.own] at g2
      | at_ lv =>
       have hrp := h4.rep;obtain ⟨v', cs', b0, b1, q1, _, _, q2⟩ := hrp;have q1 : evT a.tmps x = v' := by simpa using q1
       rw [q1];have own : (SS env noP a.tmps vs w cs bs).w.ownsRow 0 te.id te.ty.sz v' xs.length cs' := by
        cases lv with
        | ro => simp [Mode.own] at g2
        | sh => exact q2.2
        | dp => exact q2.2
        | pn _ => exact q2.2
       rcases own.2 with ⟨_, h0⟩ | ⟨g, cap, cur, q3, _⟩
       ·omega
       ·exact ⟨g, cap, q3⟩
     | _ => rw [hev] at M; simp [AV.leaf?] at M
    obtain ⟨B, D, q⟩ := hrow;have hA : A = ⟨B, 0, none⟩ := by rw [q] at U; simp at U; exact U.1.symm
    exact ⟨te.id, te.ty, xs, m, B, xs.length, D, rfl, q, om, by simpa using hk, fun l => by rw [hA, Y1c, Y1c]; simp⟩
   refine ⟨A, V, U, [], _, rfl, fun l lf I => ?_, ⟨by rw [Addr.add_block]; exact e3, by rw [Addr.add_block]; exact e4⟩, O, u', ho, fun C => ?_, fun i0 o0 z C => ?_⟩
   ·rw [Y2] at I;have hlt := (X6.1 I).1;have hu := X1 (l := ch) (i := l) om;obtain ⟨M, g2⟩ := f2 l lf _ I hu;obtain ⟨t, y, m⟩ := lf;rcases g2 with ⟨F, hf⟩ | F
    ·simp only at F hf M;subst F;exact ⟨rfl, _, e5 l _ hu, (Rep.flat hf M).2⟩
    ·simp only [elemMode, X13] at F M;subst F;refine ⟨rfl, _, e5 l _ hu, M, ⟨O, u', ho, fun h => by simp at h⟩, fun i o N => ?_⟩;have N : p ++ [((k : Int), l)] = [(i, o)] := N;cases p with
     | cons p0 p => simp at N
     | nil =>
      simp only [X2q, X2s, Xy, and_true] at N;obtain ⟨rfl, rfl⟩ := N;obtain ⟨e, t', G, m, B, n, D, s1, s2, s3, s4, s5⟩ := Y rfl;exact ⟨_, ⟨⟨by rw [Addr.add_block, Addr.add_block]; exact e3, by rw [Addr.add_block, Addr.add_block]; exact e4⟩, O, u', ho, (fun _ => ⟨e, t', G, m, B, n, D, s1, s2, s3, s4, s5 l⟩), fun _ _ _ e => by cases e⟩, e5 l _ hu⟩
   ·have C : p = [] := by
     cases p with
     | nil => rfl
     | cons q p => cases p <;> simp [nestP] at C
    obtain ⟨e, t', G, m, B, n, D, s1, s2, s3, s4, s5⟩ := Y C;refine ⟨e, t', G, m, B, n, D, s1, s2, s3, s4, ?_⟩;have := s5 0
    rwa [Y68, X2h] at this
   ·have C : p = [(i0, o0)] /\ z = te.ty.sz := by
     cases p with
     | nil => simp [nestP] at C
     | cons q p =>
      cases p with
      | nil =>
       simp only [nestP, X2s, Xy, true_and, and_true] at C;exact ⟨by rw [C.1], C.2.symm⟩
      | cons q2 p => simp [nestP] at C
    obtain ⟨a0, ⟨⟨w1, w2⟩, lf2, u2, w3, w4⟩, w5⟩ := hb3 i0 o0 C.1;obtain rfl : O = lf2 := Xs (ho.1.symm.trans w3.1);obtain rfl : u' = u2 := Xs (ho.2.2.symm.trans w3.2.2);obtain ⟨e, t', G, m, B, n, D, s1, s2, s3, s4, s5⟩ := w4.1 rfl;subst s5;exact ⟨e, t', G, m, B, n, D, A, xs.length, V, s1, s2, ⟨s3, s4⟩, ⟨w1, w2⟩, by rw [<- U]; exact w5, ⟨om, by simpa using hk⟩, by rw [C.2, X37, X2h]⟩
 obtain ⟨vs, h0'⟩ := hr;have hr : RE c env a.tmps w := ⟨vs, h0'⟩;obtain ⟨cs, bs, E, _⟩ := h0'.rel;obtain ⟨A, V, U, _⟩ := X vs cs bs E;refine finV hr hdst (v := .pointer (some (A.add (k * te.ty.sz)))) ?_ hd (fun vs cs bs E => ?_) ?_ hK hn
 ·have hsize : (Go.sizeOf te.id).run P w = .ok te.ty.sz w := by simp [Go.sizeOf, typeInfo, hi0, hi1]
  simp [execOp, hop, Y5, U, hr.int1 hi, Instr.indexAt, asIntOf, run_underlying hund, hsize, hk]
 ·obtain ⟨A', D, Z, h⟩ := X vs cs bs E;rw [U] at Z;have : A = A' := by simp at Z; exact Z.1
  subst this;exact h
 ·have hrf := hr.refs (some (.slice te.id te.ty)) x;rw [hx] at hrf;have W : ∀ q : Nat × Nat, (∃ p, lx.m = .bor q.1 q.2 p) -> q.1 < env.length := by
   rintro q ⟨p, hp⟩
   exact hrf.1 q (by simp only [AV.refs, X1w, List.flatMap_nil, Xf, Leaf.refs, hp, Xa])
  refine ⟨fun q L => ?_, by simp [AV.ptrs]⟩;simp only [AV.refs, X5] at L;rcases L with L | L
  ·obtain ⟨l, p, hp⟩ := Y4m _ _ _ _ q L;exact W q (Y94 q ⟨p, hp⟩)
  ·cases hm : lx.m with
   | bor r' j p =>
    rw [hm] at L;simp only [Xa] at L;rw [L];exact W (r', j) ⟨p, hm⟩
   | at_ lv => rw [hm] at L; simp at L
   | dead => rw [hm] at L; simp at L
end
def mkV (agg : Bool) (ch : List Value) : Value := if agg then .agg ch.toArray else ch.headD undef
theorem Y1y : ∀ t : Ty, (flat t).length = t.sz
 | .int _ => rfl
 | .bool => rfl
 | .str => rfl
 | .slice _ _ => rfl
 | .unit => rfl
 | .pair a b => by simp [flat, Ty.sz, Y1y a, Y1y b]
theorem Y2s (h : t.isAgg = false) : t.sz = 1 := by cases t <;> first | rfl | simp [Ty.isAgg] at h
theorem Y17 (h : typedAs ls t = true) : ls.length = t.sz := by
 have : ls.map Leaf.t = flat t := by simpa [typedAs] using h
 rw [<- Y1y, <- this, X2r]
theorem Y1t {agg : Bool} {ch : List Value} (h : agg = false -> ch.length = 1) : KCells c w [] (if agg then .agg else .val) (mkV agg ch) ch := by
 cases agg with
 | true => exact ⟨rfl, rfl⟩
 | false =>
  obtain ⟨u, rfl⟩ := X27.1 (h rfl);exact ⟨rfl, rfl⟩
section
variable {P : Program} {o : Oper} {a : Act} {w : World} {R : Type} {K : Env -> Option R} {r : R} {next : Act -> World -> Prop} {Q : Exit -> Act -> World -> Prop} {c : Cx} {d : Nat} {T : Tab} {env : Env}
theorem Y3u (hT : TabOk P T) {t : TypeId} (g : T.ty t = some τ) {x : Addr} {ch : List Value} (i : ch.length = τ.sz) (h : ∀ (j : Nat) (u : Value), ch[j]? = some u -> w.cell? (x.add j) = some u) : (Instr.loadAt t (.pointer (some x))).run P w = .ok (mkV τ.isAgg ch) w := by
 unfold Instr.loadAt loadVar;cases b : τ.isAgg with
 | true =>
  have := run_loadCells_list (P := P) (w := w) x ch h;simp [Instr.sureAddr, TabOk.agg hT g, TabOk.sizeOf hT g, b, <- i, this, mkV]
 | false =>
  have l := Y2s b;obtain ⟨u, rfl⟩ := X27.1 (i.trans l);have := h 0 u rfl;simp [Instr.sureAddr, TabOk.agg hT g, b, load, Sem.run, mkV];rw [show x.add 0 = x from rfl] at this;rw [this]
theorem Y9p (hT : TabOk P T) {t : TypeId} {r' off : Nat} {e : BoxK} (U : o.op = .load t x) (E : o.dst = some d) (L : RE c env a.tmps w) (hd : d < env.length) (ht : T.ty t = some τ) (hx : rd none env x = .path r' off) (N : get env r' = .con (.box e) ls)
  (V : typedAs (takeLs τ.sz (dropLs off ls)) τ = true) (hK : K (setD (some d) env (mkCon τ.isAgg (borrowFrom r' off (takeLs τ.sz (dropLs off ls))))) = some r) (hn : Next c a K r env.length next) : o.wp P a w next Q := by
 have i := Y17 V;have z : r' < env.length := Yu N;have m : ∀ vs cs bs, Rel c (SS env noP a.tmps vs w cs bs) -> ∃ B ch, evT a.tmps x = .pointer (some ⟨B, off, none⟩) /\ ch.length = τ.sz /\ (∀ (j : Nat) (u : Value), ch[j]? = some u -> w.cell? ((⟨B, off, none⟩ : Addr).add j) = some u) /\
   ValC c (SS env noP a.tmps vs w cs bs) (mkCon τ.isAgg (borrowFrom r' off (takeLs τ.sz (dropLs off ls)))) (mkV τ.isAgg ch) ch := by
  intro vs cs bs b;obtain ⟨cells, Z⟩ := L.val none x vs cs bs b;rw [hx] at Z;obtain ⟨e', ls', B, g1, g2, g3⟩ := Z;have D : (SS env noP a.tmps vs w cs bs).env r' = .con (.box e) ls := by show ovl env noP r' = _; rw [Y8 z]; exact N
  have C := b.av r';rw [D] at C;obtain ⟨⟨M, k1, k2, k3⟩, h2, h3, h4⟩ := C;rw [g2] at k1;have : B = M := by simpa using k1
  subst this;have p : (takeLs τ.sz (dropLs off ls)).length = (((cs r').drop off).take τ.sz).length := by
   rw [Yo, Yp, Xj, Xz, Xj, Xz, h2]
  refine ⟨B, ((cs r').drop off).take τ.sz, g3, by rw [<- p]; exact i, fun j u A => ?_, ?_, by rw [Y2c]; exact p, fun l lf u G A => ?_⟩
  ·have F : j < τ.sz := by have := (X6.1 A).1; simp at this; omega
   rw [X1k, X3 F, X1m] at A;rw [Y1c];unfold World.cell?;rw [k2];simpa using A
  ·exact Y1t (fun h => by rw [<- p, i]; exact Y2s h)
  ·rw [Y2, Y1o] at G;obtain ⟨I, g, rfl⟩ := Xw.1 G;have F : l < τ.sz :=gr;rw [Yo, Yp, X1k, X3 F, X1m] at g;rw [X1k, X3 F, X1m] at A;have := Y6e D g A (h4 _ _ _ (by rw [Y2]; exact g) A);exact LeafV.of_held this.1 this.2
 obtain ⟨vs, Y⟩ := L;have L : RE c env a.tmps w := ⟨vs, Y⟩;obtain ⟨cs, bs, b, O⟩ := Y.rel;obtain ⟨B, ch, W, e2, e3, e4⟩ := m vs cs bs b;refine finV L E (v := mkV τ.isAgg ch) ?_ hd (fun vs cs bs b => ?_) ?_ hK hn
 ·simp [execOp, U, Y5, W, Y3u hT ht e2 e3]
 ·obtain ⟨M, ch', X, f2, f3, f4⟩ := m vs cs bs b;rw [W] at X;have : B = M := by simpa using X
  subst this;have : ch = ch' := by
   apply X22;intro j;by_cases F : j < τ.sz
   ·grind
   ·grind
  subst this;exact ⟨ch, f4⟩
 ·refine ⟨fun q y => ?_, by simp [mkCon, AV.ptrs]⟩;simp only [mkCon, AV.refs, Xn] at y;obtain ⟨lf, hm, y⟩ := y;obtain ⟨l, G⟩ := X11 hm;rw [Y1o] at G;obtain ⟨I, g, rfl⟩ := Xw.1 G;split at y
  ·simp [Leaf.refs] at y;rw [y]; exact z
  ·have := (O r').1 q;rw [Y8 z, N] at this;refine this ?_;simp only [AV.refs, Xn];rw [Yo, Yp] at g;exact ⟨I, X2e (X2f (X8 g)), y⟩
theorem Y9q (hT : TabOk P T) {t : TypeId} {wr : Option (Nat × Nat × List (Int × Nat) × Int × Nat)} (C : o.op = .load t x) (z : o.dst = some d) (A : RE c env a.tmps w) (Z : d < env.length) (ht : T.ty t = some τ) (N : rd none env x = .eptr ls wr)
  (D : typedAs (takeLs τ.sz ls) τ = true) (X : K (setD (some d) env (mkCon τ.isAgg (takeLs τ.sz ls))) = some r) (hn : Next c a K r env.length next) : o.wp P a w next Q := by
 have i := Y17 D;have m : ∀ vs cs bs, Rel c (SS env noP a.tmps vs w cs bs) -> ∃ g, evT a.tmps x = .pointer (some g) /\ ∀ l lf, leafAt ls l = some lf -> lf.m.own = false /\ ∃ u, w.cell? (g.add l) = some u /\ Held c (SS env noP a.tmps vs w cs bs) u lf := by
  intro vs cs bs b;obtain ⟨cells, M⟩ := A.val none x vs cs bs b;rw [N] at M;obtain ⟨g, V, W, g3⟩ := M;exact ⟨g, V, W⟩
 obtain ⟨vs, G⟩ := A;have A : RE c env a.tmps w := ⟨vs, G⟩;obtain ⟨cs, bs, b, hno⟩ := G.rel;obtain ⟨g, E, O⟩ := m vs cs bs b;have hll : τ.sz <= ls.length := by rw [Yo, Xj] at i; omega
 let ch := (List.range τ.sz).map fun l => (w.cell? (g.add l)).getD undef
 have Y : ∀ l < τ.sz, ∃ u, ch[l]? = some u /\ w.cell? (g.add l) = some u := by
  intro l I;obtain ⟨_, u, L, _⟩ := O l _ (by rw [Y2]; exact X1 om);exact ⟨u, gr⟩
 have p : ch.length = τ.sz := by simp [ch]
 have y : ∀ (j : Nat) (u : Value), ch[j]? = some u -> w.cell? (g.add j) = some u :=gr;refine finV A z (v := mkV τ.isAgg ch) ?_ Z (fun vs cs bs b => ?_) ?_ X hn
 ·simp [execOp, C, Y5, E, Y3u hT ht p y]
 ·obtain ⟨x1, F, U⟩ := m vs cs bs b;rw [E] at F;have : g = x1 := by simpa using F
  subst this;refine ⟨ch, Y1t (fun h => by rw [p]; exact Y2s h), by rw [i, p], fun l lf u I L => ?_⟩;have B := Y4l I;obtain ⟨k1, u', k2, k3⟩ := U l lf B;have := y l u L;rw [k2] at this;have : u' = u :=gr;subst this;exact LeafV.of_held k1 k3
 ·have := A.refs none x;rw [N] at this;exact ⟨fun q hq => this.1 q (by simp only [AV.refs, X5]; exact .inl (Y5j _ _ q hq)), by simp [mkCon, AV.ptrs]⟩
theorem Ydy (hT : TabOk P T) {t : TypeId} (g : T.ty t = some τ) {cs : List Value} {off : Nat} (j : off + τ.sz <= cs.length) : (part t cs.toArray off).run P w = .ok (mkV τ.isAgg ((cs.drop off).take τ.sz)) w := by
 unfold part;cases b : τ.isAgg with
 | true =>
  simp [TabOk.agg hT g, TabOk.sizeOf hT g, b, mkV]
 | false =>
  have h := Y2s b;have : cs[off]? = some cs[off] := X1 om;have i : (cs.drop off).take 1 = [cs[off]] := by
   rw [List.drop_eq_getElem_cons om];rfl
  simp [TabOk.agg hT g, b, mkV, this, h, i]
theorem Ydz (hT : TabOk P T) {s : TypeId} {f off : Nat} (C : o.op = .field s x f) (m : o.dst = some d) (j : RE c env a.tmps w) (W : d < env.length) (X : fieldAt T s f = some (off, τ)) (F : rd none env x = .con .agg ls)
  (D : typedAs (takeLs τ.sz (dropLs off ls)) τ = true) (V : K (setD (some d) env (mkCon τ.isAgg (takeLs τ.sz (dropLs off ls)))) = some r) (hn : Next c a K r env.length next) : o.wp P a w next Q := by
 have i := Y17 D;obtain ⟨fs, z, N, O, rfl, U, h5⟩ := TabOk.field hT X;have hll : z.offset + τ.sz <= ls.length := by
  rw [Yo, Yp, Xj, Xz] at i;omega
 obtain ⟨vs, I⟩ := j;have j : RE c env a.tmps w := ⟨vs, I⟩;obtain ⟨cs, bs, b, hno⟩ := I.rel;obtain ⟨cells, L⟩ := j.val none x vs cs bs b;rw [F] at L;obtain ⟨⟨G, _⟩, e2, e3⟩ := L;refine finV j m (v := mkV τ.isAgg ((cells.drop z.offset).take τ.sz)) ?_ W (fun vs cs bs b => ?_) ?_ V hn
 ·have hp := Ydy (w := w) hT U (cs := cells) (off := z.offset) om;simp [execOp, C, Y5, G, Instr.field, run_underlying N, O, asAgg, hp]
 ·obtain ⟨g, y⟩ := j.val none x vs cs bs b;rw [F] at y;obtain ⟨⟨A, _⟩, M, B⟩ := y;rw [G] at A;have : cells = g :=gr;subst this;refine ⟨(cells.drop z.offset).take τ.sz, Y1t (fun h => by rw [Xj, Xz, Y2s h]; have := Y2s h; omega), by rw [i, Xj, Xz]; omega, fun l lf u Z E => ?_⟩;have p := Y4l Z;rw [Y4k] at p;have Y : l < τ.sz := by have := (X6.1 E).1; simp at this; omega
  rw [X1k, X3 Y, X1m] at E;exact B _ _ _ p E
 ·have := j.refs none x;rw [F] at this;exact ⟨fun q hq => this.1 q (Y5i _ _ q (Y5j _ _ q hq)), by simp [mkCon, AV.ptrs]⟩
theorem Y78 : ∀ {b : List (Bool × Nat)} {vs cs : List Value} {i off n : Nat} {agg : Bool}, TupCells b vs cs -> tupOff b i = some (off, agg, n) -> ∃ v, vs[i]? = some v /\ off + n <= cs.length /\ v = mkV agg ((cs.drop off).take n) /\ (agg = false -> n = 1)
 | [], vs, cs, i, off, n, agg, h, ho => by simp [tupOff] at ho
 | (ag, m) :: b, vs, cs, 0, off, n, agg, ⟨v, vs', c0, cs', e1, e2, hl, hv, ht⟩, ho => by
  subst e1; subst e2;simp [tupOff] at ho;obtain ⟨rfl, rfl, rfl⟩ := ho;refine ⟨v, rfl, by simp [hl], ?_, ?_⟩
  ·rw [X34, <- hl, List.take_left];cases ag with
   | true => simpa [mkV] using hv
   | false => simp at hv; rw [hv.1]; rfl
  ·grind
 | (ag, m) :: b, vs, cs, i + 1, off, n, agg, ⟨v, vs', c0, cs', e1, e2, hl, hv, ht⟩, ho => by
  subst e1; subst e2;simp [tupOff] at ho;split at ho
  ·rename_i j q g;simp at ho;obtain ⟨rfl, rfl⟩ := ho;obtain ⟨z, l, A, p, y⟩ := Y78 ht g;refine ⟨z, l, by simp [hl]; omega, ?_, y⟩;rw [p, List.drop_append, X2y (show c0.length <= m + j by omega), X2q, show m + j - c0.length = j by omega]
  ·simp at ho
theorem Y95 {s i off n : Nat} {agg : Bool} {E : List (Bool × Nat)} (I : o.op = .extract (.tmp s) i) (z : o.dst = some d) (D : RE c env a.tmps w) (hd : d < env.length) (M : get env s = .con (.tup E) ls) (X : tupOff E i = some (off, agg, n))
  (B : (takeLs n (dropLs off ls)).any (fun l => l.m.own) = false) (hK : K (setD (some d) env (mkCon agg (takeLs n (dropLs off ls)))) = some r) (hn : Next c a K r env.length next) : o.wp P a w next Q := by
 have m : s < env.length := Yu M;have j : ∀ vs cs bs, Rel c (SS env noP a.tmps vs w cs bs) -> ∃ p, evT a.tmps (.tmp s) = .tuple p.toArray /\ TupCells E p (cs s) /\ ls.length = (cs s).length /\ ∀ l lf u, leafAt ls l = some lf -> (cs s)[l]? = some u -> LeafRel c (SS env noP a.tmps vs w cs bs) s l u lf := by
  intro vs cs bs b;have y := b.av s;have C : (SS env noP a.tmps vs w cs bs).env s = .con (.tup E) ls := by show ovl env noP s = _; rw [Y8 m]; exact M
  have F : (SS env noP a.tmps vs w cs bs).tm s = evT a.tmps (.tmp s) := X3 (D.choose_spec.len ▸ m);rw [C, F] at y;obtain ⟨⟨_, p, h1, h2⟩, h3, _, h4⟩ := y;exact ⟨p, h1, h2, h3, h4⟩
 obtain ⟨vs, V⟩ := D;have D : RE c env a.tmps w := ⟨vs, V⟩;obtain ⟨cs, bs, b, g⟩ := V.rel;obtain ⟨p, C, F, e3, e4⟩ := j vs cs bs b;obtain ⟨v, O, f2, f3, f4⟩ := Y78 F X;refine finV D z (v := v) ?_ hd (fun vs cs bs b => ?_) ?_ hK hn
 ·simp [execOp, I, Y5, C, Instr.extract, O]
 ·obtain ⟨N, U, g2, g3, g4⟩ := j vs cs bs b;rw [C] at U;have : p = N := by simpa using U
  subst this;obtain ⟨v', Z, k2, k3, k4⟩ := Y78 g2 X;rw [O] at Z;have : v = v' := by simpa using Z
  subst this;have G : (takeLs n (dropLs off ls)).length = (((cs s).drop off).take n).length := by rw [Yo, Yp, Xj, Xz, Xj, Xz, g3]
  refine ⟨((cs s).drop off).take n, ?_, G, fun l lf u W Y => ?_⟩
  ·rw [k3];exact Y1t (fun h => gr)
  ·have A := Y4l W;rw [Y4k] at A;have hj : l < n :=gr;rw [X1k, X3 hj, X1m] at Y;have L := g4 _ _ _ A Y;have g : lf.m.own = false := by
    cases hb : lf.m.own with
    | false => rfl
    | true =>
     have : (takeLs n (dropLs off ls)).any (fun l => l.m.own) = true := X1p.2 ⟨lf, Ye W, hb⟩;rw [B] at this;simp at this
   exact LeafV.of_held g (L.held g).2
 ·have := g s;rw [Y8 m, M] at this;exact ⟨fun q hq => this.1 q (Y5i _ _ q (Y5j _ _ q hq)), by simp [mkCon, AV.ptrs]⟩
theorem Y9r (b : env.length = tmps.size) (h : Rel c (SS env noP tmps vs w cs bs)) : ∀ {xs : List Operand} {ps : List (Nat × Nat)}, xs.mapM (fun x => match rd none env x with | .path r off => some (r, off) | _ => none) = some ps -> PtrRels (SS env noP tmps vs w cs bs) ps (xs.map (evT tmps))
 | [], ps, hm => by simp at hm; subst hm; rfl
 | x :: xs, ps, hm => by
  rw [X2v] at hm;cases j : rd none env x with
  | path r off =>
   rw [j] at hm;cases g : xs.mapM (fun x => match rd none env x with | .path r off => some (r, off) | _ => none) with
   | none => simp_all
   | some l =>
    rw [g] at hm;simp at hm;subst hm;obtain ⟨cells, i⟩ := Yj b h none x;rw [j] at i;exact ⟨_, _, rfl, i, Y9r b h g⟩
  | _ => grind
theorem Ybk (i : RE c env a.tmps w) : ∀ {xs : List Operand} {ps : List (Nat × Nat)}, xs.mapM (fun x => match rd none env x with | .path r off => some (r, off) | _ => none) = some ps -> ∀ q ∈ ps.map (·.1), q < env.length
 | [], ps, hm => gr
 | x :: xs, ps, hm => by
  rw [X2v] at hm;cases j : rd none env x with
  | path r off =>
   rw [j] at hm;cases b : xs.mapM (fun x => match rd none env x with | .path r off => some (r, off) | _ => none) with
   | none => grind
   | some l =>
    rw [b] at hm;simp at hm;subst hm;have h := i.refs none x;rw [j] at h;intro q g;simp only [X23, Xm] at g;rcases g with rfl | g
    ·exact h.2 _ (by simp [AV.ptrs])
    ·exact Ybk i b q g
  | _ => simp_all
theorem Yb0 {first b : Array Operand} {ps : List (Nat × Nat)} (j : o.op = .makeFunc (.func f) first b) (g : o.dst = some d) (l : RE c env a.tmps w) (y : d < env.length) (z : first.size = 0)
  (m : b.toList.mapM (fun x => match rd none env x with | .path r off => some (r, off) | _ => none) = some ps) (p : K (setD (some d) env (.clo f ps)) = some r) (A : Next c a K r env.length next) : o.wp P a w next Q := by
 have i : first = #[] := Array.eq_empty_of_size_eq_zero z
 refine finV l g (av := .clo f ps) (v := .func (.func f) #[] (b.map (evT a.tmps))) ?_ y (fun vs cs bs h => ⟨[], b.toList.map (evT a.tmps), by rw [<- X2z, X1e], Y9r l.choose_spec.len h m⟩) ⟨by simp [AV.refs], fun q B => Ybk l m q (by simpa [AV.ptrs] using B)⟩ p A;simp [execOp, j, Y5, i, Instr.makeFunc]
end
theorem Rep.dpS {S S' : Nat -> Prop} {w : World} : ∀ {t : Ty} {cs : List Value} {x : t.D} {bs : List Nat}, Rep S w t .dp cs x bs -> Rep S' w t .dp cs x bs
 | .int k, _, _, _, h => h
 | .bool, _, _, _, h => h
 | .str, _, _, _, h => h
 | .slice e t, _, _, _, ⟨v, xs, b0, b1, h1, h2, h3, h4⟩ => ⟨v, xs, b0, b1, h1, h2, El.imp (fun c x b _ h => Rep.dpS h) h3, h4⟩
 | .unit, _, _, _, h => h
 | .pair a b, _, _, _, ⟨c1, c2, b1, b2, h1, h2, h3, h4⟩ => ⟨c1, c2, b1, b2, h1, h2, Rep.dpS h3, Rep.dpS h4⟩
theorem Rel.reform (h : Rel c s) {n m : Nat} (V : ∀ r, (∀ q ∈ (s.env r).refs, q.1 ≠ n /\ q.1 ≠ m) /\ (∀ q ∈ (s.env r).ptrs, q ≠ n /\ q ≠ m)) (hb : Below c.base s.w w')
  (y : ∀ b, b < s.w.heap.size -> (∀ l, b ∉ s.bs n l) -> w'.heap[b]? = s.w.heap[b]?) (av : AV) (v : Value) (cd : List Value) (bd : Nat -> List Nat)
  (M : ∀ l b, b ∈ bd l -> b < w'.heap.size /\ (s.w.heap.size <= b \/ ∃ z, b ∈ s.bs n z \/ b ∈ s.bs m z)) (O : ∀ l z b, b ∈ bd l -> b ∈ bd z -> l = z) (hnd : ∀ l, (bd l).Nodup)
  (L : let s' : St := ⟨upd (upd s.env m .undef) n av, upd s.tm n v, w', upd s.cs n cd, upd (upd s.bs m (fun _ => [])) n bd⟩; Keeps c s s' -> AVRel c s' n av v) :
  Rel c ⟨upd (upd s.env m .undef) n av, upd s.tm n v, w', upd s.cs n cd, upd (upd s.bs m (fun _ => [])) n bd⟩ := by
 let s' : St := ⟨upd (upd s.env m .undef) n av, upd s.tm n v, w', upd s.cs n cd, upd (upd s.bs m (fun _ => [])) n bd⟩
 have i : ∀ r, ¬ (r = n \/ r = m) -> s'.env r = (s.env r).chg noG /\ s'.tm r = s.tm r /\ s'.cs r = s.cs r /\ s'.bs r = s.bs r := fun r g => by
  simp at g;refine ⟨by rw [AV.chg_no]; show upd _ _ _ r = _; rw [Y1 _ _ g.1, Y1 _ _ g.2], Y1 _ _ g.1, Y1 _ _ g.1, ?_⟩;show upd _ _ _ r = _;rw [Y1 _ _ g.1, Y1 _ _ g.2]
 have E : s'.bs n = bd := Y0 _ _ _;have N : m ≠ n -> ∀ l, s'.bs m l = [] := fun hm l => by
  have : s'.bs m = fun _ => [] := by show upd _ _ _ m = _; rw [Y1 _ _ hm, Y0]
  rw [this]
 have F : ∀ r j, r ≠ n /\ r ≠ m -> SamePl s s' r j := fun r j g => by
  have B := i r (by simp; exact g);refine ⟨fun lf u ho => ho.chg B.1 B.2.2.1, by rw [B.2.2.2], fun b p => y b (h.own _ _ _ p).2 (fun l U => ?_)⟩;exact g.1 (h.disj _ _ _ _ _ p U).1
 have W : ∀ r, r ≠ n /\ r ≠ m -> SamePtr s s' r := fun r g => by
  have B := i r (by simp; exact g);exact SamePtr.chg B.1 B.2.1
 refine Rel.step (s' := s') noG h (fun r => r = n \/ r = m) (fun r _ => r ≠ n /\ r ≠ m) (fun r => r ≠ n /\ r ≠ m) i hb (fun b U A => y b U (fun l => A n l (.inl rfl)))
  (fun r l b A p => ?_) (fun r l r' z b A Z C D => ?_) (fun r l A => ?_) (fun r _ => V r) (fun G => ⟨Yw G F, Y1b G F, fun r hL _ => W r hL⟩) (fun G r A => ?_)
 ·by_cases g : r = n
  ·subst g;rw [E] at p;obtain ⟨k1, k2⟩ := M l b p;exact ⟨k1, k2.imp id (fun ⟨z, k3⟩ => k3.elim (fun k => ⟨r, z, .inl rfl, k⟩) (fun k => ⟨m, z, .inr rfl, k⟩))⟩
  ·grind
 ·by_cases g : r = n
  ·by_cases X : r' = n
   ·subst g; subst X;rw [E] at C D;exact ⟨rfl, O _ _ _ C D⟩
   ·grind
  ·grind
 ·by_cases g : r = n
  ·simp_all
  ·grind
 ·by_cases g : r = n
  ·subst g;have I : s'.env r = av := Y0 _ _ _;have Y : s'.tm r = v := Y0 _ _ _;rw [I, Y];exact L G
  ·have e := A.resolve_left g;subst e;have I : s'.env r = .undef := by show upd _ _ _ r = _; rw [Y1 _ _ g, Y0]
   rw [I];exact N g
theorem RP.reform (h : RP c env tmps w ps vs) {n m : Nat} (z : env.length <= n) (E : env.length <= m) (F : av.refs = [] /\ av.ptrs = [])
  (G : ∀ cs bs, Rel c (SS env ps tmps vs w cs bs) -> Below c.base w w' /\ (∀ b, b < w.heap.size -> (∀ l, b ∉ bs n l) -> w'.heap[b]? = w.heap[b]?) /\ ∃ (cd : List Value) (bd : Nat -> List Nat),
   (∀ l b, b ∈ bd l -> b < w'.heap.size /\ (w.heap.size <= b \/ ∃ g, b ∈ bs n g \/ b ∈ bs m g)) /\ (∀ l g b, b ∈ bd l -> b ∈ bd g -> l = g) /\ (∀ l, (bd l).Nodup) /\
   (let s' : St := ⟨upd (upd (ovl env ps) m .undef) n av, upd (ovlT tmps vs) n v, w', upd cs n cd, upd (upd bs m (fun _ => [])) n bd⟩; Keeps c (SS env ps tmps vs w cs bs) s' -> AVRel c s' n av v)) :
  RP c env tmps w' (upd (upd ps m .undef) n av) (upd vs n v) := by
 obtain ⟨y, cs, bs, j, p⟩ := h;obtain ⟨C, D, cd, bd, I, k2, L, M⟩ := G cs bs j;have i : ∀ r, (∀ q ∈ (ovl env ps r).refs, q.1 ≠ n /\ q.1 ≠ m) /\ (∀ q ∈ (ovl env ps r).ptrs, q ≠ n /\ q ≠ m) := fun r =>
  ⟨fun q A => by have := (p r).1 q A; omega, fun q A => gr⟩
 have B := j.reform i C D av v cd bd I k2 L M;have e : upd (upd (ovl env ps) m .undef) n av = ovl env (upd (upd ps m .undef) n av) := by rw [Ya z, Ya E]
 refine ⟨y, _, _, Rel.congr B e (Yt (y ▸ z) v).symm, fun r => ?_⟩;rw [<- e];simp only [upd];split
 ·grind
 ·split
  ·exact ⟨by simp [AV.refs], by simp [AV.ptrs]⟩
  ·exact p r
theorem Yb (h : ∀ l ∈ ls, l.m.settled = true) : (AV.con k ls).refs = [] /\ (AV.con k ls).ptrs = [] := Settled.refs (.inr ⟨k, ls, rfl, h⟩)
theorem Y84 (h : Rel c (SS env ps tmps vs w cs bs)) (b : env.length <= n) (g : ps n = .undef) : ∀ l, bs n l = [] := by
 have := h.av n;have e : (SS env ps tmps vs w cs bs).env n = .undef := by show ovl env ps n = _; rw [Yr b, g]
 rw [e] at this;exact this
theorem Yc {α : Type} (f : Nat -> α) (n : Nat) (x y : α) : upd (upd f n x) n y = upd f n y := by funext r; simp [upd]; split <;> rfl
section
variable {P : Program} {o : Oper} {a : Act} {w : World} {R : Type} {K : Env -> Option R} {r : R} {next : Act -> World -> Prop} {Q : Exit -> Act -> World -> Prop} {c : Cx} {d : Nat} {T : Tab} {env : Env}
theorem Y1d : ∀ t : Ty, (zeroCells t).length = t.sz
 | .int _ => rfl
 | .bool => rfl
 | .str => rfl
 | .slice _ _ => rfl
 | .unit => rfl
 | .pair a b => by simp [zeroCells, Ty.sz, Y1d a, Y1d b]
theorem Y1j (t : Ty) : (zeroVal t).cells.toList = zeroCells t := by
 cases t <;> simp [zeroVal, Ty.isAgg, zeroCells, Value.cells, undef]
theorem Y3j (S : Nat -> Prop) (w : World) (τ : Ty) : (zeros τ).length = (zeroCells τ).length /\ (∀ lf ∈ zeros τ, lf.m.settled = true) /\
  ∀ (l : Nat) (lf : Leaf) (u : Value), (zeros τ)[l]? = some lf -> (zeroCells τ)[l]? = some u -> ∃ m, lf.m = .at_ m /\ Rep S w lf.t m [u] lf.x [] := by
 obtain ⟨h, i, g, B, j, p⟩ := Y2q .dp τ 0 (Rep.zero S w τ .dp);refine ⟨h, i, fun l lf u y z => ?_⟩;obtain ⟨m, A, k2⟩ := p l lf u y z;refine ⟨m, A, ?_⟩;have : g.getD l [] = [] := by
  rw [Xl];cases q : g[l]? with
  | none => rfl
  | some b =>
   have := List.flatten_eq_nil_iff.1 j.symm b (X8 q);rw [this]; rfl
 rw [this] at k2;exact k2
theorem Y4n (w : World) (o : Obj) : (w.alloc o).heap[w.heap.size]? = some o := by
 show (w.heap.push o)[w.heap.size]? = _;simp
theorem Yx (w : World) (o : Obj) : Below w.heap.size w (w.alloc o) := (X1f _ _).alloc (Xg _) o
theorem Y3v (w : World) (o : Obj) : (w.alloc o).heap.size = w.heap.size + 1 := by show (w.heap.push o).size = _; simp
theorem RP.boxed (h : RP c env tmps w ps vs) (L : env.length <= n) (hp : ps n = .con k ls) (M : ∀ l ∈ ls, l.m.settled = true) (I : k.plain = true) (e : TypeId) {cells : Array Value} (p : cells = (vs n).cells) :
  RP c env tmps (w.alloc (.cells cells e (0, 0))) (upd ps n (.con (.box ⟨e, false, []⟩) ls)) (upd vs n (.pointer (some ⟨w.heap.size, 0, none⟩))) := by
 have := h.reform (m := n) L L (av := .con (.box ⟨e, false, []⟩) ls) (v := .pointer (some ⟨w.heap.size, 0, none⟩)) (w' := w.alloc (.cells cells e (0, 0))) (Yb M) (fun cs bs A => ?_)
 ·rw [Yc] at this;exact this
 ·have E := A.av n;have W : (SS env ps tmps vs w cs bs).env n = .con k ls := by show ovl env ps n = _; rw [Yr L, hp]
  have X : (SS env ps tmps vs w cs bs).tm n = vs n := X4 (by have := h.len; omega);rw [W, X] at E;obtain ⟨N, O, Y, U⟩ := E;have G : (cs n) = cells.toList /\ bs n 0 = [] := by
   cases k with
   | val =>
    obtain ⟨y, D⟩ := N;refine ⟨?_, D⟩;have F : cs n = [vs n] := y;rw [F, p]
    -- one cell
    have Z : ls.length = 1 := by rw [O, y]; rfl
    have := U 0 _ (vs n) (by rw [Y2]; exact X1 om) (by rw [y]; rfl);have z : (vs n).oneCell' = true := by
     generalize ls[0]' om = lf at this;obtain ⟨t, x, m⟩ := lf;cases m with
     | at_ lv => exact Rep.one this.rep _ sm
     | bor _ _ _ => exact Held.one this.2
     | dead => exact this.2
    cases hv : vs n <;> first | rfl | (rw [hv] at z; simp [Value.oneCell'] at z)
   | agg =>
    obtain ⟨y, D⟩ := N;refine ⟨?_, D⟩;rw [p, y];simp [Value.cells]
   | tup sh => simp [Kind.plain] at I
   | box e => simp [Kind.plain] at I
   | tupB i n sh => simp [Kind.plain] at I
  refine ⟨(Yx _ _).mono A.base, fun b g _ => (Yx _ _).block b g, cs n, fun l => if l = 0 then [w.heap.size] else bs n l, fun l b g => ?_, fun l l' b g q => ?_, fun l => ?_, fun B => ?_⟩
  ·by_cases j : l = 0
   ·subst j;simp only [X1q, Xa] at g;rw [g, Y3v];exact ⟨om, .inl (Xg _)⟩
   ·simp only [X4 j] at g;rw [Y3v];exact ⟨by have : b < w.heap.size := (A.own _ _ _ g).2; omega, .inr ⟨l, .inl g⟩⟩
  ·by_cases j : l = 0 <;> by_cases C : l' = 0
   ·omega
   ·simp only [j, C, X1q, X19, Xa] at g q;have : b < w.heap.size := (A.own _ _ _ q).2;omega
   ·simp only [j, C, X1q, X19, Xa] at g q;have : b < w.heap.size := (A.own _ _ _ g).2;omega
   ·simp only [j, C, X19] at g q;exact (A.disj _ _ _ _ _ g q).2
  ·by_cases j : l = 0
   ·simp [j]
   ·simp only [j, X19]; exact A.nodup _ _
  ·refine ⟨⟨w.heap.size, rfl, ?_, by simp [upd, nthB]⟩, by simp only [Y0]; exact O, fun l j => ?_, fun l lf u j V => ?_⟩
   ·simp only [Y0];rw [G.1, X1e];exact Y4n _ _
   ·simp only [Y0];rw [X4 om];exact Y l j
   ·simp only [Y0] at V;have y := U l lf u j V;obtain ⟨t, x, m⟩ := lf;cases m with
    | at_ lv =>
     have D := y.rep;refine LeafRel.of_rep y.pin ?_;simp only [Y0, X4 (show l + 1 ≠ 0 by omega)];exact Rep.move (fun b g j => B b g j) (fun b g => (Yx _ _).block b (A.own _ _ _ g).2) D
    | bor _ _ _ => have := M _ (Ye j); simp [Mode.settled] at this
    | dead => have := M _ (Ye j); simp [Mode.settled] at this
theorem Ye0 (hT : TabOk P T) (z : o.op = .alloc e) (i : o.dst = some d) (L : RE c env a.tmps w) (F : d < env.length) (G : T.ty e = some τ) (D : K (setD (some d) env (.con (.box ⟨e, false, []⟩) (zeros τ))) = some r) (I : Next c a K r env.length next) : o.wp P a w next Q := by
 obtain ⟨vs, h⟩ := L;have A := h.reform (n := env.length) (m := env.length) (Xg _) (Xg _) (av := .con (.box ⟨e, false, []⟩) (zeros τ)) (v := .pointer (some ⟨w.heap.size, 0, none⟩)) (w' := w.alloc (.cells (zeroVal τ).cells e (0, 0))) (Yb (Y3j (fun _ => True) w τ).2.1) (fun cs bs j => ?_)
 ·refine fin i (v := .pointer (some ⟨w.heap.size, 0, none⟩)) (w' := w.alloc (.cells (zeroVal τ).cells e (0, 0))) ?_ F rfl (by rw [Yc] at A; exact A) (Y0 _ _ _) D I;simp [execOp, z, Instr.alloc, TabOk.zero hT G, newVar, newRow, newObj, Sem.run]
  try rfl
 ·obtain ⟨M, U, N⟩ := Y3j (RoS c ⟨upd (upd (ovl env noP) env.length .undef) env.length (.con (.box ⟨e, false, []⟩) (zeros τ)), upd (ovlT a.tmps vs) env.length (.pointer (some ⟨w.heap.size, 0, none⟩)), w.alloc (.cells (zeroVal τ).cells e (0, 0)), upd cs env.length (zeroCells τ), upd (upd bs env.length (fun _ => [])) env.length (fun l => if l = 0 then [w.heap.size] else [])⟩) (w.alloc (.cells (zeroVal τ).cells e (0, 0))) τ;refine ⟨(Yx _ _).mono j.base, fun b p _ => (Yx _ _).block b p, zeroCells τ, fun l => if l = 0 then [w.heap.size] else [], fun l b p => ?_, fun l O b p E => ?_, fun l => ?_, fun q => ?_⟩
  ·simp_all
  ·grind
  ·grind
  ·refine ⟨⟨w.heap.size, rfl, ?_, by simp [upd, nthB]⟩, by simp [Y0]; exact M, fun l y => ?_, fun l lf u y B => ?_⟩
   ·simp only [Y0];rw [<- Y1j, X1e];exact Y4n _ _
   ·simp only [Y0];rw [X4 om]
   ·simp [Y0] at B;obtain ⟨m, C, k2⟩ := N l lf u (by rw [<- Y2]; exact y) B;obtain ⟨t, x, m'⟩ := lf;simp only at C;have g := Y1x (lv := .dp) τ τ.dflt 0 _ (Ye y);subst C;refine LeafRel.of_rep (Y9m rfl g trivial) ?_;simp only [Y0, X4 (show l + 1 ≠ 0 by omega)];exact k2
theorem Y1z {env' : Env} (b : takeAs τ env x = some (env', ls)) : takeIn (some τ) env x = some (env', .con τ.kind ls) /\ typedAs ls τ = true := by
 unfold takeAs at b;cases g : takeIn (some τ) env x with
 | none => grind
 | some q => grind
theorem Y1m (τ : Ty) : τ.kind.plain = true := by unfold Ty.kind; split <;> rfl
theorem Yf5 (hT : TabOk P T) {env' : Env} (l : o.op = .box e x) (b : o.dst = some d) (z : RE c env a.tmps w) (C : d < env.length) (D : T.ty e = some τ) (A : takeAs τ env x = some (env', ls)) (q : K (setD (some d) env' (.con (.box ⟨e, false, []⟩) ls)) = some r) (y : Next c a K r env.length next) : o.wp P a w next Q := by
 obtain ⟨i, B⟩ := Y1z A;obtain ⟨vs, h⟩ := z;obtain ⟨m, p⟩ := Y16 h (fun r => .inl rfl) i (Xg _) rfl;have g := Yz i;have j := p.boxed (n := env.length) om (Y0 _ _ _) g (Y1m τ) e (cells := (evT a.tmps x).cells) (by rw [Y0]);rw [Yc] at j;rw [<- m] at j;refine fin b (v := .pointer (some ⟨w.heap.size, 0, none⟩)) (w' := w.alloc (.cells (evT a.tmps x).cells e (0, 0))) ?_ gr m j (Y0 _ _ _) q y;simp [execOp, l, Y5, Instr.box, newVar, newRow, newObj, Sem.run]
 try rfl
end
def RVRel (S : Nat -> Prop) (w : World) : RV -> Value -> Prop
 | .val t x, v => ∃ ch, v = mkV t.isAgg ch /\ Rep S w t .ro ch x []
 | .ptr t x, v => PtrV S w t x v
 | .clo f caps, v => ∃ vs, v = .func (.func f) #[] vs.toArray /\ PtrVs S w caps vs
 | .fptr _ _, _ => False
def RVRels (S : Nat -> Prop) (w : World) : List RV -> List Value -> Prop
 | [], vs => vs = []
 | x :: xs, vs => ∃ v b, vs = v :: b /\ RVRel S w x v /\ RVRels S w xs b
def ResRel (S : Nat -> Prop) (base : Nat) (w : World) (B : List Nat) : List (Ty × Lvl) -> List (Σ t : Ty, t.D) -> List (List Value) -> List Nat -> Prop
 | [], xs, chs, bs => xs = [] /\ chs = [] /\ bs = []
 | p :: ps, xs, chs, bs => ∃ (x : p.1.D) (h : List (Σ t : Ty, t.D)) (ch : List Value) (g : List (List Value)) (b i : List Nat), xs = ⟨p.1, x⟩ :: h /\ chs = ch :: g /\ bs = b ++ i /\
   Rep (fun k => (S k \/ base <= k) /\ k ∉ B) w p.1 p.2.res ch x b /\ ResRel S base w B ps h g i
def resVals : List (Ty × Lvl) -> List (List Value) -> List Value
 | p :: ps, ch :: chs => mkV p.1.isAgg ch :: resVals ps chs
 | _, _ => []
def resVal (rs : List (Ty × Lvl)) (b : List (List Value)) : Value := match resVals rs b with
 | [v] => v
 | vs => .tuple vs.toArray
def FnSpec (P : Program) (f : FuncId) (rs : List (Ty × Lvl)) (args : List RV) (i : List (Σ t : Ty, t.D)) : Prop :=
 ∀ (S : Nat -> Prop) (w : World) (g : List Value), RVRels S w args g -> Calls P f g.toArray w (fun e w' => ∃ h bs, e = .returned (resVal rs h) /\ Below w.heap.size w w' /\ ResRel S w.heap.size w' bs rs i h bs /\ bs.Nodup /\ ∀ b ∈ bs, w.heap.size <= b)
def RCapRel (S : Nat -> Prop) (w : World) (b v : Value) : RCap -> Value -> Prop
 | .ro x, u => PtrV S w x.1 x.2 u
 | .pin, u => u = b
 | .self, u => u = v
def RCapRels (S : Nat -> Prop) (w : World) (g v : Value) : List RCap -> List Value -> Prop
 | [], vs => vs = []
 | c :: cs, vs => ∃ u b, vs = u :: b /\ RCapRel S w g v c u /\ RCapRels S w g v cs b
def RVRelX (S : Nat -> Prop) (w : World) (b : Value) : RV -> Value -> Prop
 | .fptr f caps, v => ∃ B us, v = .pointer (some ⟨B, 0, none⟩) /\ S B /\ B < w.heap.size /\ w.cell? ⟨B, 0, none⟩ = some (.func (.func f) #[] us.toArray) /\ RCapRels S w b v caps us
 | rv, v => RVRel S w rv v
def RVRelsY (S : Nat -> Prop) (w : World) (g : Value) : List RV -> List Value -> Prop
 | [], vs => vs = []
 | x :: xs, vs => ∃ v b, vs = v :: b /\ RVRelX S w g x v /\ RVRelsY S w g xs b
def RVRelsX (S : Nat -> Prop) (w : World) (g : Value) : Nat -> List RV -> List Value -> Prop
 | _, [], vs => vs = []
 | 0, _ :: xs, vs => ∃ v b, vs = v :: b /\ RVRelsY S w g xs b
 | k + 1, x :: xs, vs => ∃ v b, vs = v :: b /\ RVRelX S w g x v /\ RVRelsX S w g k xs b
def LvsRel (S : Nat -> Prop) (w : World) (p : Nat -> Prop) (ls : List Leaf) (ch : List Value) (b : List (List Nat)) : Prop :=
 ls.length = ch.length /\ b.length = ch.length /\ ∀ (l : Nat) (lf : Leaf) (u : Value), p l -> ls[l]? = some lf -> ch[l]? = some u -> ∃ m, lf.m = .at_ m /\ Rep S w lf.t m [u] lf.x (b.getD l [])
def BoxSig.free (b : BoxSig) (l : Nat) : Prop := (slotAt b.lv l).isFx = false
def FnSpecBox (P : Program) (f : FuncId) (rs : List (Ty × Lvl)) (b : BoxSig) (t : Ty) (x : t.D) (args : List RV) (y : t.D) (m : List (Σ t : Ty, t.D)) : Prop :=
 ∀ (S : Nat -> Prop) (w : World) (i : List Value) (B : Nat) (ch : List Value) (h : List (List Nat)) (base : Nat),
  i[b.k]? = some (.pointer (some ⟨B, 0, none⟩)) -> w.heap[B]? = some (.cells ch.toArray b.id (0, 0)) -> LvsRel S w (fun _ => True) (leaves t x b.md 0) ch h -> (B :: h.flatten).Nodup -> (∀ k ∈ B :: h.flatten, base <= k) -> base <= w.heap.size ->
  RVRelsX S w (.pointer (some ⟨B, 0, none⟩)) b.k args i -> (∀ k, S k -> k ∉ B :: h.flatten) ->
  Calls P f i.toArray w (fun e w' => ∃ ch' g j bs, e = .returned (resVal rs j) /\ Below base w w' /\ (∀ k, k < w.heap.size -> k ∉ B :: h.flatten -> w'.heap[k]? = w.heap[k]?) /\ w'.heap[B]? = some (.cells ch'.toArray b.id (0, 0)) /\ ch'.length = ch.length /\ (∀ l, (slotAt b.lv l).isFx = true -> ch'[l]? = ch[l]?) /\
   LvsRel (fun k => (S k \/ k ∈ h.flatten \/ w.heap.size <= k) /\ k ∉ B :: (g.flatten ++ bs)) w' b.free (leaves t y b.md 0) ch' g /\ (∀ l, (slotAt b.lv l).isFx = true -> g.getD l [] = []) /\ (B :: (g.flatten ++ bs)).Nodup /\ (∀ k ∈ g.flatten ++ bs, k ∈ h.flatten \/ w.heap.size <= k) /\
   ResRel (fun k => S k \/ k ∈ B :: h.flatten) w.heap.size w' (B :: (g.flatten ++ bs)) rs m j bs)
def FnSpecMut (P : Program) (f : FuncId) (rs : List (Ty × Lvl)) (t : Ty) (x : t.D) (args : List RV) (y : t.D) (l : List (Σ t : Ty, t.D)) : Prop :=
 ∀ (S : Nat -> Prop) (w : World) (ch : List Value) (g : List Value) (h : List Nat) (base : Nat), Rep (fun _ => False) w t .dp ch x h -> h.Nodup -> (∀ b ∈ h, base <= b) -> base <= w.heap.size -> RVRels S w args g -> (∀ b, S b -> b ∉ h) ->
  Calls P f (mkV t.isAgg ch :: g).toArray w (fun e w' => ∃ i bs j, e = .returned (resVal rs i) /\ Below base w w' /\ (∀ b, b < w.heap.size -> b ∉ h -> w'.heap[b]? = w.heap[b]?) /\ Rep (fun _ => False) w' t .dp ch y j /\ j.Nodup /\ (∀ b ∈ j, b ∈ h \/ w.heap.size <= b) /\ ResRel S w.heap.size w' bs rs l i bs)
def FnSpecOwn (P : Program) (f : FuncId) (t : Ty) (x : t.D) (args : List RV) (y : t.D) : Prop :=
 ∀ (S : Nat -> Prop) (w : World) (v : Value) (g : List Value) (h : List Nat) (base : Nat), Rep (fun _ => False) w t .dp [v] x h -> h.Nodup -> (∀ b ∈ h, base <= b) -> base <= w.heap.size -> RVRels S w args g -> (∀ b, S b -> b ∉ h) ->
  Calls P f (v :: g).toArray w (fun e w' => ∃ j i, e = .returned j /\ Below base w w' /\ (∀ b, b < w.heap.size -> b ∉ h -> w'.heap[b]? = w.heap[b]?) /\ Rep (fun _ => False) w' t .dp [j] y i /\ i.Nodup /\ (∀ b ∈ i, b ∈ h \/ w.heap.size <= b))
def FnSpecSh (P : Program) (f : FuncId) (t : Ty) (x : t.D) : Prop :=
 ∀ (S : Nat -> Prop) (w : World) (v : Value), Rep S w t .ro [v] x [] -> Calls P f #[v] w (fun e w' => ∃ h g, e = .returned h /\ Below w.heap.size w w' /\ Rep S w' t .sh [h] x g /\ g.Nodup /\ ∀ b ∈ g, w.heap.size <= b)
def FnSpecG (P : Program) (f : FuncId) (rs : List (Ty × Lvl)) (k : Nat) (t : Ty) (x : t.D) (args : List RV) (j : List (Σ t : Ty, t.D)) : Prop :=
 ∀ (S : Nat -> Prop) (w : World) (v : Value) (g : List Value) (h : List Nat) (base : Nat), Rep (fun _ => False) w t .dp [v] x h -> h.Nodup -> (∀ b ∈ h, base <= b) -> base <= w.heap.size -> RVRels S w args g -> (∀ b, S b -> b ∉ h) ->
  Calls P f (insN k v g).toArray w (fun e w' => ∃ i bs, e = .returned (resVal rs i) /\ Below base w w' /\ (∀ b, b < w.heap.size -> b ∉ h -> w'.heap[b]? = w.heap[b]?) /\ ResRel (fun _ => True) 0 w' bs rs j i bs /\ bs.Nodup /\ ∀ b ∈ bs, b ∈ h \/ w.heap.size <= b)
def newRes (B : Nat) (rs : List (Ty × Lvl)) (b : List (List Value)) : Value := match rs with
 | [] => .pointer (some ⟨B, 0, none⟩)
 | _ :: _ => .tuple (.pointer (some ⟨B, 0, none⟩) :: resVals rs b).toArray
def FnSpecNew (P : Program) (f : FuncId) (id : TypeId) (rs : List (Ty × Lvl)) (t : Ty) (args : List RV) (y : t.D) (i : List (Σ t : Ty, t.D)) : Prop :=
 ∀ (S : Nat -> Prop) (w : World) (g : List Value), RVRels S w args g -> Calls P f g.toArray w (fun e w' => ∃ B ch h bs, e = .returned (newRes B rs h) /\ Below w.heap.size w w' /\ w.heap.size <= B /\ w'.heap[B]? = some (.cells ch.toArray id (0, 0)) /\ Rep (fun k => (S k \/ w.heap.size <= k) /\ k ∉ B :: bs) w' t .ro ch y [] /\
  ResRel S w.heap.size w' (B :: bs) rs i h bs /\ (B :: bs).Nodup /\ ∀ b ∈ bs, w.heap.size <= b)
def Enterable (P : Program) (f : FuncId) : Prop := ∃ fn, P.funcs[f]? = some fn /\ fn.body.isNone = false /\ (fn.name == "runtime.NumGoroutine") = false
def OrcOk (P : Program) (sig : FuncId -> Option Sig) (orc : Orc) : Prop :=
 ∀ f sg args q x, sig f = some sg -> orc f args = some q -> q.run = some x -> Enterable P f /\
  (match sg.box with
   | some b => ∃ t h y i, nthL args b.k = some (.ptr t h) /\ q.pk x = ⟨t, y⟩ :: i /\ FnSpecBox P f sg.results b t h args y i
   | none => match sg.newb with
   | some id => ∃ t y i, q.pk x = ⟨t, y⟩ :: i /\ FnSpecNew P f id sg.results t args y i
   | none => match sg.muts with
   | false => if sg.own then (match sg.give with
    | none => ∃ t h, args = [.val t h] /\ q.pk x = [⟨t, h⟩] /\ FnSpecSh P f t h
    | some k => ∃ t h g, args = insN k (.val t h) g /\ FnSpecG P f sg.results k t h g (q.pk x)) else FnSpec P f sg.results args (q.pk x)
   | true => if sg.own then ∃ t h g y, args = .val t h :: g /\ q.pk x = [⟨t, y⟩] /\ FnSpecOwn P f t h g y else ∃ t h g y i, args = .val t h :: g /\ q.pk x = ⟨t, y⟩ :: i /\ FnSpecMut P f sg.results t h g y i)
theorem Y32 {S : Nat -> Prop} {w : World} : ∀ (t : Ty) {ls : List Leaf} {x : t.D} {rest : List Leaf} {cells : List Value}, asm t ls = some (x, rest) -> ls.length = cells.length ->
  (∀ (l : Nat) (lf : Leaf) (u : Value), ls[l]? = some lf -> cells[l]? = some u -> Rep S w lf.t .ro [u] lf.x []) -> ∃ z A, cells = z ++ A /\ rest.length = A.length /\ Rep S w t .ro z x [] /\ (∀ (l : Nat) (lf : Leaf) (u : Value), rest[l]? = some lf -> A[l]? = some u -> Rep S w lf.t .ro [u] lf.x []) /\ (∀ l ∈ rest, l ∈ ls)
 | .unit, ls, x, rest, cells, h, hl, hr => by
  simp [asm] at h;obtain ⟨_, rfl⟩ := h;exact ⟨[], cells, rfl, hl, ⟨rfl, rfl⟩, hr, fun l h => h⟩
 | .pair a b, ls, x, rest, cells, h, hl, hr => by
  simp [asm] at h;cases B : asm a ls with
  | none => rw [B] at h; simp at h
  | some q =>
   obtain ⟨V, O⟩ := q;rw [B] at h;simp only at h;cases C : asm b O with
   | none => rw [C] at h; simp at h
   | some q =>
    obtain ⟨W, U⟩ := q;rw [C] at h;simp at h;obtain ⟨rfl, rfl⟩ := h;obtain ⟨z, A, rfl, G, F, I, M⟩ := Y32 a B hl hr;obtain ⟨D, E, rfl, l2, k2, L, N⟩ := Y32 b C G I;exact ⟨z ++ D, E, by rw [X7], l2, ⟨z, D, [], [], rfl, rfl, F, k2⟩, L, fun l h => M l (N l h)⟩
 | .int k, ls, x, rest, cells, h, hl, hr => by
  cases ls with
  | nil => simp [asm] at h
  | cons l ls =>
   simp [asm] at h;cases g : l.as (.int k) with
   | none => rw [g] at h; simp at h
   | some y =>
    rw [g] at h;simp at h;obtain ⟨rfl, rfl⟩ := h;cases cells with
    | nil => simp at hl
    | cons u cells =>
     have := hr 0 l u rfl rfl;rw [Leaf.as_eq g] at this;exact ⟨[u], cells, rfl, by simpa using hl, this, fun i lf p j m => hr (i + 1) lf p j m, fun i h => X2 _ h⟩
 | .bool, ls, x, rest, cells, h, hl, hr => by
  cases ls with
  | nil => simp [asm] at h
  | cons l ls =>
   simp [asm] at h;cases g : l.as .bool with
   | none => rw [g] at h; simp at h
   | some y =>
    rw [g] at h;simp at h;obtain ⟨rfl, rfl⟩ := h;cases cells with
    | nil => simp at hl
    | cons u cells =>
     have := hr 0 l u rfl rfl;rw [Leaf.as_eq g] at this;exact ⟨[u], cells, rfl, by simpa using hl, this, fun i lf p j m => hr (i + 1) lf p j m, fun i h => X2 _ h⟩
 | .str, ls, x, rest, cells, h, hl, hr => by
  cases ls with
  | nil => simp [asm] at h
  | cons l ls =>
   simp [asm] at h;cases g : l.as .str with
   | none => rw [g] at h; simp at h
   | some y =>
    rw [g] at h;simp at h;obtain ⟨rfl, rfl⟩ := h;cases cells with
    | nil => simp at hl
    | cons u cells =>
     have := hr 0 l u rfl rfl;rw [Leaf.as_eq g] at this;exact ⟨[u], cells, rfl, by simpa using hl, this, fun i lf p j m => hr (i + 1) lf p j m, fun i h => X2 _ h⟩
 | .slice e t, ls, x, rest, cells, h, hl, hr => by
  cases ls with
  | nil => simp [asm] at h
  | cons l ls =>
   simp [asm] at h;cases g : l.as (.slice e t) with
   | none => rw [g] at h; simp at h
   | some y =>
    rw [g] at h;simp at h;obtain ⟨rfl, rfl⟩ := h;cases cells with
    | nil => simp at hl
    | cons u cells =>
     have := hr 0 l u rfl rfl;rw [Leaf.as_eq g] at this;exact ⟨[u], cells, rfl, by simpa using hl, this, fun i lf p j m => hr (i + 1) lf p j m, fun i h => X2 _ h⟩
theorem Held.rep (h : Held c s u lf) (y : lf.m.live = true) (i : ∀ b, RoS c s b -> S b) (l : ∀ q ∈ lf.refs, ∀ b ∈ s.bs q.1 (q.2 + 1), S b) : Rep S s.w lf.t .ro [u] lf.x [] := by
 obtain ⟨t, x, m⟩ := lf;cases m with
 | at_ lv => exact Rep.move (fun b g _ => ⟨i b g, rfl⟩) sm h
 | bor r j p => exact Rep.move (fun b g _ => ⟨g.elim (i b) (l (r, j) (by simp [Leaf.refs]) b), rfl⟩) sm h.1
 | dead => simp [Mode.live] at y
theorem LeafV.rep (h : LeafV c s u lf) (i : lf.m.live = true) (g : ∀ b, RoS c s b -> S b) (l : ∀ q ∈ lf.refs, ∀ b ∈ s.bs q.1 (q.2 + 1), S b) : Rep S s.w lf.t .ro [u] lf.x [] := by
 obtain ⟨t, x, m⟩ := lf;cases m with
 | at_ lv => exact Rep.move (S := fun b => RoS c s b \/ b ∈ []) (fun b y _ => ⟨y.elim (g b) sm, rfl⟩) sm (Rep.ro h.1)
 | bor r j p => exact Held.rep (lf := ⟨t, x, .bor r j p⟩) h i g l
 | dead => simp [Mode.live] at i
section
variable {c : Cx} {env : Env} {tmps : Array Value} {w : World} {ps : Nat -> AV} {vs : Nat -> Value} {cs : Nat -> List Value} {bs : Nat -> Nat -> List Nat} {caps : FuncId -> List Ty} {S : Nat -> Prop}
theorem Y5k (h : Rel c (SS env ps tmps vs w cs bs)) {r off : Nat} {x : t.D} (g : ptrOf env t r off = some x) (hp : PtrRel (SS env ps tmps vs w cs bs) r off v) (I : ∀ b, RoS c (SS env ps tmps vs w cs bs) b -> S b) (L : ∀ l, ∀ b ∈ bs r l, S b) : PtrV S w t x v := by
 unfold ptrOf at g;split at g
 ·rename_i e ls i;have E : r < env.length := Yu i;split at g
  ·rename_i x' q;split at g
   ·rename_i D;simp at g;subst g;obtain ⟨e', ls', B, g1, X, Y⟩ := hp;have A : (SS env ps tmps vs w cs bs).env r = .con (.box e) ls := by show ovl env ps r = _; rw [Y8 E]; exact i
    have y := h.av r;rw [A] at y;obtain ⟨⟨O, N, k2, k3⟩, Z, h4, h5⟩ := y;rw [X] at N;have : B = O := by simpa using N
    subst this;obtain ⟨c0, U, G, V, W, _⟩ := Y32 (S := S) (w := w) t q Z (fun l lf u hl F => by
     have M := h5 l lf u (by rw [Y2]; exact hl) F;have z : lf.m.settled = true :=gr;by_cases g : lf.m.own = true
     ·obtain ⟨t, x, m⟩ := lf;cases m with
      | at_ lv => exact Rep.move (S := fun b => RoS c (SS env ps tmps vs w cs bs) b \/ b ∈ bs r (l + 1)) (fun b i _ => ⟨i.elim (I b) (L _ b), rfl⟩) sm (Rep.ro M.rep)
      | bor _ _ _ => simp [Mode.own] at g
      | dead => simp [Mode.own] at g
     ·have := M.held (by simpa using g);obtain ⟨t, x, m⟩ := lf;cases m with
      | at_ lv => exact Rep.move (fun b i _ => ⟨I b i, rfl⟩) sm this.2
      | bor r' j' p => simp [Mode.settled] at z
      | dead => simp [Mode.settled] at z)
    have C : U = [] := Xq.1 (by rw [<- V]; rfl);subst C;rw [Xf] at G;subst G;refine ⟨⟨B, 0, none⟩, cs r, Y, L 0 B gr, (Xu.1 k2).1, fun j u F => ?_, W⟩;rw [Y1c];unfold World.cell?;rw [show w.heap[B]? = _ from k2];simpa using F
   ·simp at g
  ·simp at g
 ·simp at g
theorem Y79 (h : Rel c (SS env ps tmps vs w cs bs)) (j : ∀ b, RoS c (SS env ps tmps vs w cs bs) b -> S b) : ∀ {g : List (Nat × Nat)} {ts : List Ty} {xs : List (Σ t : Ty, t.D)} {us : List Value}, capsOf env g ts = some xs -> PtrRels (SS env ps tmps vs w cs bs) g us -> (∀ q ∈ g.map (·.1), ∀ l, ∀ b ∈ bs q l, S b) -> PtrVs S w xs us
 | [], [], xs, us, ho, hp, h2 => by simp [capsOf] at ho; subst ho; exact hp
 | [], t :: ts, xs, us, ho, hp, h2 => by simp [capsOf] at ho
 | q :: g, [], xs, us, ho, hp, h2 => by simp [capsOf] at ho
 | (r, off) :: g, t :: ts, xs, us, ho, ⟨v, vs', e, hp1, hp2⟩, h2 => by
  simp [capsOf] at ho;cases p : ptrOf env t r off with
  | none => grind
  | some x =>
   rw [p] at ho;cases i : capsOf env g ts with
   | none => simp_all
   | some y =>
    rw [i] at ho;simp at ho;subst ho;exact ⟨v, vs', e, Y5k h p hp1 j (h2 r sm), Y79 h j i hp2 (fun q m => h2 q (by simp at m ⊢; exact .inr m))⟩
theorem Y9s (h : Rel c (SS env ps tmps vs w cs bs)) {p : PTy} {rv : RV} (L : ValC c (SS env ps tmps vs w cs bs) av v cells) (g : RVof caps env p av = some rv) (C : ∀ b, RoS c (SS env ps tmps vs w cs bs) b -> S b) (h2 : ∀ q ∈ av.refs, ∀ b ∈ bs q.1 (q.2 + 1), S b) (h3 : ∀ q ∈ av.ptrs, ∀ l, ∀ b ∈ bs q l, S b) : RVRel S w rv v := by
 unfold RVof at g;split at g
 ·rename_i t k ls;split at g
  ·rename_i hc;simp only [X9, X17] at hc;obtain ⟨rfl, m⟩ := hc;split at g
   ·rename_i x i;simp only [X0] at g;subst g;obtain ⟨B, N, O⟩ := L;obtain ⟨c0, U, M, V, e2, _⟩ := Y32 (S := S) (w := w) t i N (fun l lf u D y => by
     have h6 := O l lf u (by rw [Y2]; exact D) y;have A : lf.m.live = true :=gr;exact h6.rep A C (fun q I => h2 q (by simp only [AV.refs, Xn]; exact ⟨lf, X8 D, I⟩)))
    have z : U = [] := Xq.1 (by rw [<- V]; rfl);subst z;rw [Xf] at M;subst M;refine ⟨cells, ?_, e2⟩;unfold Ty.kind at B;cases E : t.isAgg with
    | true => rw [E] at B; simpa [mkV] using B.1
    | false =>
     rw [E] at B;simp at B;rw [B.1];rfl
   ·simp at g
  ·simp at g
 ·rename_i t r off;split at g
  ·rename_i x Y;simp at g;subst g;exact Y5k h Y L C (h3 r (by simp [AV.ptrs]))
  ·simp at g
 ·rename_i t ls;split at g
  ·rename_i m;split at g
   ·rename_i x i;simp at g;subst g;obtain ⟨a, rfl, N, O⟩ := L
    let ch : List Value := (List.range ls.length).map fun l => (w.cell? (a.add l)).getD undef
    have F : ∀ (l : Nat) (u : Value), ch[l]? = some u -> l < ls.length /\ w.cell? (a.add l) = some u := by
     intro l u y;simp only [ch, X16, Xw] at y;obtain ⟨Z, hl', rfl⟩ := y;have G : l < ls.length :=gr;have : Z = l :=gr;subst this;obtain ⟨_, u', X, _⟩ := N Z ls[Z] (by rw [Y2]; exact X1 G);exact ⟨G, by rw [X]; rfl⟩
    obtain ⟨c0, U, M, V, e2, _⟩ := Y32 (S := S) (w := w) (cells := ch) t i (by simp [ch]) (fun l lf u D y => by
     obtain ⟨k1, u', k2, k3⟩ := N l lf (by rw [Y2]; exact D);obtain ⟨_, k4⟩ := F l u y;rw [k4] at k2;have : u = u' := Xs k2;subst this;have A : lf.m.live = true := by simpa using Xb.1 m lf (X8 D)
     exact k3.rep A C (fun q I => h2 q (by simp only [AV.refs, Xf, Xn]; exact ⟨lf, X8 D, I⟩)))
    have z : U = [] := Xq.1 (by rw [<- V]; rfl);subst z;rw [Xf] at M;exact ⟨a, ch, rfl, C _ O.1, O.2, fun j u y => (F j u y).2, gr⟩
   ·simp at g
  ·simp at g
 ·rename_i f xs;simp at g;subst g;obtain ⟨us, e, W⟩ := L;exact ⟨us, e, W.move (fun b hb _ => ⟨C b hb, rfl⟩)⟩
 ·rename_i f qs;split at g
  ·rename_i xs Y;simp at g;subst g;obtain ⟨us, e, W⟩ := L;exact ⟨us, e, Y79 h C Y W (fun q I => h3 q (by simpa [AV.ptrs] using I))⟩
  ·simp at g
 ·simp at g
def ValCs (c : Cx) (s : St) : List AV -> List Value -> Prop
 | [], us => us = []
 | v :: vs, us => ∃ u b, us = u :: b /\ (∃ cells, ValC c s v u cells) /\ ValCs c s vs b
theorem Y4v (h : Rel c (SS env ps tmps vs w cs bs)) (j : ∀ b, RoS c (SS env ps tmps vs w cs bs) b -> S b) : ∀ {ptys : List PTy} {avs : List AV} {us : List Value} {rvs : List RV}, ValCs c (SS env ps tmps vs w cs bs) avs us -> RVs caps env ptys avs = some rvs ->
  (∀ v ∈ avs, ∀ q ∈ v.refs, ∀ b ∈ bs q.1 (q.2 + 1), S b) -> (∀ v ∈ avs, ∀ q ∈ v.ptrs, ∀ l, ∀ b ∈ bs q l, S b) -> RVRels S w rvs us
 | [], [], us, rvs, g, ho, h2, h3 => by simp [RVs] at ho; subst ho; exact g
 | [], v :: avs, us, rvs, g, ho, h2, h3 => by simp [RVs] at ho
 | p :: ptys, [], us, rvs, g, ho, h2, h3 => by simp [RVs] at ho
 | p :: ptys, v :: avs, us, rvs, ⟨u, us', e, ⟨cells, hv1⟩, hv2⟩, ho, h2, h3 => by
  simp [RVs] at ho;cases m : RVof caps env p v with
  | none => simp_all
  | some x =>
   rw [m] at ho;cases i : RVs caps env ptys avs with
   | none => grind
   | some y =>
    rw [i] at ho;simp at ho;subst ho;exact ⟨u, us', e, Y9s h hv1 m j (h2 v Xp) (h3 v Xp), Y4v h j hv2 i (fun v g => h2 v (X2 _ g)) (fun v g => h3 v (X2 _ g))⟩
end
theorem Yf {g : List (List Nat)} {l b : Nat} (h : b ∈ g.getD l []) : b ∈ g.flatten := by
 rw [Xl] at h;cases i : g[l]? with
 | none => rw [i] at h; simp at h
 | some x => rw [i] at h; exact X39.2 ⟨x, X8 i, h⟩
theorem Y14 : ∀ {g : List (List Nat)}, g.flatten.Nodup -> (∀ l, (g.getD l []).Nodup) /\ ∀ l i b, b ∈ g.getD l [] -> b ∈ g.getD i [] -> l = i
 | [], h => ⟨fun l => by simp, fun l i b m => by simp at m⟩
 | x :: g, h => by
  simp only [List.flatten_cons, Xt] at h;obtain ⟨y, q, p⟩ := h;obtain ⟨z, k2⟩ := Y14 q;refine ⟨fun l => ?_, fun l i b m j => ?_⟩
  ·grind
  ·cases l with
   | zero => cases i with
    | zero => rfl
    | succ i => exact absurd rfl (p b m b (Yf (l := i) j))
   | succ l => cases i with
    | zero => exact absurd rfl (p b j b (Yf (l := l) m))
    | succ i => rw [k2 l i b m j]
theorem Ybw (fr : Lvl) (t : Ty) {ch : List Value} {x : t.D} {b : List Nat} (h : Rep S w t fr.res ch x b) :
  (leaves t x (newMode fr) 0).length = ch.length /\ (∀ lf ∈ leaves t x (newMode fr) 0, lf.m.settled = true) /\ ∃ g : List (List Nat), g.length = ch.length /\ b = g.flatten /\
   ∀ (l : Nat) (lf : Leaf) (u : Value), (leaves t x (newMode fr) 0)[l]? = some lf -> ch[l]? = some u -> ∃ m, lf.m = .at_ m /\ Rep S w lf.t m [u] lf.x (g.getD l []) := by
 exact Y2q fr.res t 0 h
theorem Yev {m : Lvl} {x : t.D} {b : List Nat} (h : Rep S w t m [u] x b) : ∃ m', upgM t (.at_ m) = .at_ m' /\ Rep S w t m' [u] x b := by
 cases t with
 | slice e te =>
  simp only [upgM];by_cases g : (te.flatB && (Mode.at_ m == .at_ .sh)) = true
  ·rw [X3 g];simp only [X9, beq_iff_eq, Mode.at_.injEq] at g;obtain ⟨B, rfl⟩ := g;obtain ⟨v, xs, i, j, q, y, z, A⟩ := h;refine ⟨.dp, rfl, v, xs, i, j, q, y, El.imp (fun c x b _ h => ?_) z, A⟩;obtain ⟨l, p⟩ := Rep.flat (S' := S) (w' := w) (m' := .dp) B h;rw [l]; exact p
  ·grind
 | _ => exact ⟨m, rfl, h⟩
theorem Yb1 {m : Mode} (h : m.settled = true) : (upgM t m).settled = true := by
 unfold upgM;split
 ·split
  ·rfl
  ·exact h
 ·exact h
theorem Yf6 {m : Mode} (h : ∀ k, m ≠ .at_ (.pn k)) : ∀ k, upgM t m ≠ .at_ (.pn k) := by
 intro k;unfold upgM;split
 ·grind
 ·exact h k
theorem Y3n {base : Nat} {B : List Nat} : ∀ {rs : List (Ty × Lvl)} {xs : List (Σ t : Ty, t.D)} {chs : List (List Value)} {bs : List Nat} {sh : List (Bool × Nat)} {ls : List Leaf}, ResRel S base w B rs xs chs bs -> resLeaves rs xs = some (sh, ls) ->
  TupCells sh (resVals rs chs) chs.flatten /\ ls.length = chs.flatten.length /\ (∀ lf ∈ ls, lf.m.settled = true) /\ ∃ g : List (List Nat), g.length = ls.length /\ bs = g.flatten /\
   ∀ (l : Nat) (lf : Leaf) (u : Value), ls[l]? = some lf -> chs.flatten[l]? = some u -> ∃ m, lf.m = .at_ m /\ Rep (fun k => (S k \/ base <= k) /\ k ∉ B) w lf.t m [u] lf.x (g.getD l [])
 | [], xs, chs, bs, sh, ls, ⟨e1, e2, e3⟩, h => by
  subst e1; subst e2; subst e3;simp [resLeaves] at h;obtain ⟨rfl, rfl⟩ := h;exact ⟨⟨rfl, rfl⟩, rfl, sm, [], rfl, rfl, sm⟩
 | (t, fr) :: rs, xs, chs, bs, sh, ls, ⟨x, xs', ch, chs', b, b', e1, e2, e3, h1, h2⟩, h => by
  subst e1; subst e2; subst e3;simp [resLeaves] at h;cases E : resLeaves rs xs' with
  | none => rw [E] at h; simp at h
  | some q =>
   obtain ⟨sh', O⟩ := q;rw [E] at h;simp [dif_pos] at h;obtain ⟨rfl, rfl⟩ := h;obtain ⟨L, k2, k3, p, M, N, k6⟩ := Y3n h2 E;obtain ⟨G, V, g, W, X, Y⟩ := Ybw fr t h1;have y : ch.length = t.sz := Rep.len h1;refine ⟨?_, by simp [G, k2], fun lf j => ?_, g ++ p, by simp [W, G, M], by rw [List.flatten_append, X, N], fun l lf u A F => ?_⟩
   ·refine ⟨mkV t.isAgg ch, resVals rs chs', ch, chs'.flatten, rfl, sm, y, ?_, L⟩;cases z : t.isAgg with
    | true => simp [mkV]
    | false =>
     obtain ⟨u, rfl⟩ := X27.1 (y.trans (Y2s z));simp [mkV];exact Rep.one h1 u sm
   ·rcases X5.1 j with j | j
    ·obtain ⟨i, I, rfl⟩ := X1b.1 j;exact Yb1 (V i I)
    ·grind
   ·simp at F;have U : ((leaves t x (newMode fr) 0).map Leaf.upg).length = ch.length :=gr;by_cases D : l < ch.length
    ·rw [Xk om] at A;rw [Xk D] at F;rw [X16] at A;obtain ⟨i, C, rfl⟩ := Xw.1 A;obtain ⟨m, Z, n2⟩ := Y l i u C F;obtain ⟨m', n3, n4⟩ := Yev n2;refine ⟨m', by show upgM i.t i.m = _; rw [Z]; exact n3, ?_⟩;rw [Xl, Xk om, <- Xl];exact n4
    ·grind
theorem Y29 : ∀ {rs : List (Ty × Lvl)} {xs : List (Σ t : Ty, t.D)} {sh : List (Bool × Nat)} {ls : List Leaf}, resLeaves rs xs = some (sh, ls) -> ∀ lf ∈ ls, ∀ h, lf.m ≠ .at_ (.pn h)
 | [], [], sh, ls, h, lf, b => by
  simp [resLeaves] at h;obtain ⟨rfl, rfl⟩ := h;simp at b
 | [], _ :: _, sh, ls, h, lf, b => by simp [resLeaves] at h
 | _ :: _, [], sh, ls, h, lf, b => by simp [resLeaves] at h
 | (t, fr) :: rs, x :: xs, sh, ls, h, lf, b => by
  simp only [resLeaves] at h;split at h
  ·cases i : resLeaves rs xs with
   | none => rw [i] at h; simp at h
   | some q =>
    obtain ⟨p, m⟩ := q;rw [i] at h;simp at h;obtain ⟨rfl, rfl⟩ := h;rcases X5.1 b with b | b
    ·obtain ⟨j, g, rfl⟩ := X1b.1 b;refine Yf6 (fun y e => ?_);rcases Y1x (lv := fr.res) t _ 0 j g with l | l
     ·grind
     ·rw [l] at e; cases fr <;> cases e
    ·exact Y29 i lf b
  ·simp at h
theorem Y50 (b : resAV rs xs = some (.con k ls)) : ∀ lf ∈ ls, ∀ h, lf.m ≠ .at_ (.pn h) := by
 unfold resAV at b;cases g : resLeaves rs xs with
 | none => simp_all
 | some q =>
  obtain ⟨j, i⟩ := q;rw [g] at b;simp [mkCon] at b;split at b
  ·simp at b;rw [<- b.2]; exact Y29 g
  ·simp at b;rw [<- b.2]; exact Y29 g
theorem Y5l {base : Nat} {B : List Nat} {b : List (List Value)} {bs : List Nat} (h : ResRel S base w B rs xs b bs) (i : resAV rs xs = some av) :
  ∃ k ls, av = .con k ls /\ KCells c w [] k (resVal rs b) b.flatten /\ ls.length = b.flatten.length /\ (∀ lf ∈ ls, lf.m.settled = true) /\ ∃ j : List (List Nat), j.length = ls.length /\ bs = j.flatten /\
   ∀ (l : Nat) (lf : Leaf) (u : Value), ls[l]? = some lf -> b.flatten[l]? = some u -> ∃ m, lf.m = .at_ m /\ Rep (fun k => (S k \/ base <= k) /\ k ∉ B) w lf.t m [u] lf.x (j.getD l []) := by
 unfold resAV at i;cases F : resLeaves rs xs with
 | none => grind
 | some q =>
  obtain ⟨y, ls⟩ := q;rw [F] at i;obtain ⟨D, k2, G, I⟩ := Y3n h F;have tup : ∀ {y : List (Bool × Nat)} {us cs : List Value}, TupCells y us cs -> us.length = y.length := by
   intro y
   induction y with
   | nil => intro us cs h; rw [h.1]; rfl
   | cons p y X => intro us cs h; obtain ⟨v, E, c, A, e, _, _, _, h⟩ := h; rw [e, X1u, X h, X1u]
  have V := tup D;have g : y.length ≠ 1 -> resVal rs b = .tuple (resVals rs b).toArray := by
   intro z;unfold resVal;split
   ·grind
   ·rfl
  simp only at i;split at i
  ·rename_i agg n;simp at i;subst i;refine ⟨_, ls, rfl, ?_, k2, G, I⟩;obtain ⟨v, E, c, A, L, M, Y, C, N, O⟩ := D;have W : resVals rs b = [v] := by rw [L, N]
   have : resVal rs b = v := by unfold resVal; rw [W]
   rw [this, M, O, Xf];cases agg with
   | true => exact ⟨by simpa using C, rfl⟩
   | false => simp at C; exact ⟨C.1, rfl⟩
  ·rename_i z;simp at i;subst i;refine ⟨_, ls, rfl, ⟨rfl, resVals rs b, g (fun U => ?_), D⟩, k2, G, I⟩;obtain ⟨⟨agg, n⟩, rfl⟩ := X27.1 U;exact z agg n rfl
def freezeArgsE (rs : List (Ty × Lvl)) : List AV -> (Nat -> AV) -> (Nat -> AV)
 | [], E => E
 | v :: vs, E => freezeArgsE rs vs (match v with
  | .con _ ls => freezeAllE ls E
  | _ => E)
theorem Y2d (rs : List (Ty × Lvl)) : ∀ (vs : List AV) (env : Env), (freezeArgs rs vs env).length = env.length
 | [], env => rfl
 | v :: vs, env => by
  simp [freezeArgs];rw [Y2d rs vs];cases v <;> first | rfl | exact (Ym _ _).2
theorem Y2a (rs : List (Ty × Lvl)) : ∀ (vs : List AV) {env : Env} {ps : Nat -> AV}, (∀ v ∈ vs, ∀ q ∈ v.refs, q.1 < env.length) -> (∀ r, Settled (ps r)) -> freezeArgsE rs vs (ovl env ps) = ovl (freezeArgs rs vs env) ps
 | [], env, ps, _, _ => rfl
 | v :: vs, env, ps, hv, hs => by
  simp [freezeArgs, freezeArgsE];cases v with
  | con k ls =>
   simp only;rw [Y1i ls (fun l h q g => hv _ Xp q (by simp only [AV.refs, Xn]; exact ⟨l, h, g⟩)) hs];exact Y2a rs vs (fun v b q g => by rw [(Ym ls env).2]; exact hv v (X2 _ b) q g) hs
  | _ => exact Y2a rs vs (fun v b => hv v (X2 _ b)) hs
theorem Y1u (rs : List (Ty × Lvl)) : ∀ (vs : List AV) (E : Nat -> AV) (r : Nat), (∀ q ∈ (freezeArgsE rs vs E r).refs, q ∈ (E r).refs) /\ (∀ q ∈ (freezeArgsE rs vs E r).ptrs, q ∈ (E r).ptrs)
 | [], E, r => ⟨fun q h => h, fun q h => h⟩
 | v :: vs, E, r => by
  cases v with
  | con k ls =>
   have g := Y1u rs vs (freezeAllE ls E) r;have i := Y1a ls E r;exact ⟨fun q b => i.1 q (g.1 q b), fun q b => i.2 q (g.2 q b)⟩
  | _ => exact Y1u rs vs E r
theorem Rel.freezeArgs_ (rs : List (Ty × Lvl)) : ∀ (vs : List AV) {s : St} (h : Rel c s), allCon vs = true -> ∃ bs', Rel c { s with env := freezeArgsE rs vs s.env, bs := bs' } /\ (∀ r l b, b ∈ bs' r l -> b ∈ s.bs r l) /\ (∀ v ∈ vs, ∀ q ∈ v.refs, bs' q.1 (q.2 + 1) = [])
 | [], s, h, _ => ⟨s.bs, h, fun _ _ _ h => h, sm⟩
 | v :: vs, s, h, hc => by
  cases v with
  | con k ls =>
   simp [allCon] at hc;obtain ⟨B, D, F, C⟩ := h.freezeAll_ ls;obtain ⟨i, E, k2, G⟩ := Rel.freezeArgs_ rs vs D hc;refine ⟨i, E, fun r l b z => F _ _ _ (k2 _ _ _ z), fun v A q g => ?_⟩;rcases Xm.1 A with rfl | A
   ·simp only [AV.refs, Xn] at g;obtain ⟨lf, y, g⟩ := g;obtain ⟨t, x, m⟩ := lf;cases m with
    | bor r j p =>
     simp [Leaf.refs] at g;subst g;have := C _ y r j p rfl;exact X2i.2 (fun b z => gr)
    | at_ _ => simp [Leaf.refs] at g
    | dead => simp [Leaf.refs] at g
   ·grind
  | _ => simp [allCon] at hc
theorem Y4o {S S' : Nat -> Prop} {base : Nat} {B : List Nat} : ∀ {rs : List (Ty × Lvl)} {xs : List (Σ t : Ty, t.D)} {chs : List (List Value)} {bs : List Nat}, allFresh rs = true -> ResRel S base w B rs xs chs bs -> ResRel S' base w B rs xs chs bs
 | [], xs, chs, bs, _, h => h
 | (t, fr) :: rs, xs, chs, bs, ha, ⟨x, xs', ch, chs', b, b', e1, e2, e3, h1, h2⟩ => by
  simp [allFresh] at ha;refine ⟨x, xs', ch, chs', b, b', e1, e2, e3, ?_, Y4o ha.2 h2⟩;by_cases g : fr = .dp
  ·subst g; exact Rep.dpS h1
  ·have j : t.flatB = true := ha.1.resolve_left g;obtain ⟨rfl, i⟩ := Rep.flat (S' := fun k => (S' k \/ base <= k) /\ k ∉ B) (w' := w) (m' := fr.res) j h1;exact i
theorem Y2e (t : Ty) : ∀ (x : t.D) (n : Nat), ∀ lf ∈ leaves t x (fun _ => .at_ .ro) n, lf.m = .at_ .ro := by
 induction t with
 | int k => intro x n lf h; simp [leaves] at h; rw [h]
 | bool => intro x n lf h; simp [leaves] at h; rw [h]
 | str => intro x n lf h; simp [leaves] at h; rw [h]
 | slice e t j => intro x n lf h; simp [leaves] at h; rw [h]
 | unit => intro x n lf h; simp [leaves] at h
 | pair a b g i =>
  intro x n lf h;simp [leaves] at h;rcases h with h | h
  ·grind
  ·grind
theorem Y33 (t : Ty) (x : t.D) (n : Nat) : (leaves t x (fun _ => .at_ .ro) n).flatMap Leaf.refs = [] := by
 rw [List.flatMap_eq_nil_iff];intro lf h;have := Y2e t x n lf h;obtain ⟨b, g, m⟩ := lf;subst this;rfl
theorem Y7a (x : Σ t : Ty, t.D) : (ptrAV x).refs = [] := by
 unfold ptrAV;simp only [AV.refs, Xf];exact Y33 x.1 x.2 0
theorem Yd7 {x : Σ t : Ty, t.D} (h : PtrV (RoS c s) s.w x.1 x.2 v) : ValC c s (ptrAV x) v [] := by
 obtain ⟨a, ch, rfl, p, q, b, j⟩ := h;obtain ⟨B, A⟩ := Y1r x.1 (fun _ => .at_ .ro) 0 j;refine ⟨a, rfl, fun l lf y => ?_, p, q⟩;have z := Y2e x.1 x.2 0 lf (Ye y);refine ⟨by rw [z]; rfl, ?_⟩;have g := y;rw [Y2] at g;have i : l < ch.length :=gr;refine ⟨ch[l], b l _ (X1 i), ?_⟩;have := (A l lf ch[l] g (X1 i)).1;obtain ⟨C, D, m⟩ := lf;subst z;exact this
theorem Y51 {c : Cx} {s : St} : ∀ {xs : List (Σ t : Ty, t.D)} {vs : List Value}, PtrVs (RoS c s) s.w xs vs -> ValCs c s (xs.map ptrAV) vs
 | [], vs, h => h
 | x :: xs, vs, ⟨v, vs', e, h1, h2⟩ => ⟨v, vs', e, ⟨[], Yd7 h1⟩, Y51 h2⟩
section
variable {P : Program} {o : Oper} {a : Act} {w : World} {R : Type} {K : Env -> Option R} {r : R} {next : Act -> World -> Prop} {Q : Exit -> Act -> World -> Prop} {c : Cx} {d : Nat} {T : Tab} {env : Env}
theorem RP.resultL {w w' : World} {rv : Value} {g : List (List Nat)}
  (h : RP c env tmps w noP vs) (hS : ∀ cs bs, Rel c (SS env noP tmps vs w cs bs) -> ∃ y q, Rel c (SS env noP tmps vs w y q) /\ ∀ b, S b -> b < w'.heap.size -> RoS c (SS env noP tmps vs w y q) b) (C : Below w.heap.size w w') (h1 : KCells c w' [] k rv cells) (h2 : ls.length = cells.length) (h3 : ∀ lf ∈ ls, lf.m.settled = true) (h4 : g.length = ls.length)
  (h6 : ∀ (l : Nat) (lf : Leaf) (u : Value), ls[l]? = some lf -> cells[l]? = some u -> ∃ m, lf.m = .at_ m /\ Rep (fun k => (S k \/ w.heap.size <= k) /\ k ∉ g.flatten) w' lf.t m [u] lf.x (g.getD l [])) (hnd : g.flatten.Nodup) (Y : ∀ b ∈ g.flatten, w.heap.size <= b) (j : ∀ lf ∈ ls, ∀ h, lf.m ≠ .at_ (.pn h)) :
  RP c env tmps w' (upd noP env.length (.con k ls)) (upd vs env.length rv) := by
 obtain ⟨n1, n2⟩ := Y14 hnd;obtain ⟨F, cs, bs, hr, L⟩ := h;obtain ⟨y, q, B, U⟩ := hS cs bs hr;have h : RP c env tmps w noP vs := ⟨F, y, q, B, L⟩;have hq : (ovl env noP env.length).quiet = true := by rw [Yr (Xg _)]; rfl
 have I : ∀ l b, b ∈ g.getD l [] -> b < w'.heap.size := by
  intro l b C;have G : l < g.length :=gr;obtain ⟨m, _, A⟩ := h6 l _ _ (X1 om) (X1 om);exact Rep.lt A b C
 have X : ∀ l b, b ∈ (fun l => match l with | 0 => [] | l + 1 => g.getD l []) l -> w.heap.size <= b /\ b < w'.heap.size := by
  intro l b C;cases l with
  | zero => simp at C
  | succ l => exact ⟨Y b (Yf C), I l b C⟩
 have N := B.setNew (s := SS env noP tmps vs w y q) (d := env.length) hq C (.con k ls) rv cells (fun l => match l with | 0 => [] | l + 1 => g.getD l []) X
  (fun l O b C hb' => gr)
  (fun l => gr)
  (fun D hpl hpt => by
   refine ⟨?_, by simp [Y0]; exact h2, fun l F => ?_, fun l lf u F hu => ?_⟩
   ·simp [Y0];exact h1.bare rfl
   ·simp only [Y0];rw [Xl, X2b om];rfl
   ·simp [Y0] at hu;obtain ⟨m, e1, A⟩ := h6 l lf u (by rw [<- Y2]; exact F) hu;obtain ⟨t, x, m'⟩ := lf;simp only at e1;have j := j _ (Ye F);subst e1;refine LeafRel.of_rep (by cases m <;> first | trivial | exact absurd rfl (j _)) ?_;simp [Y0];refine Rep.move (fun b V Z => ⟨?_, rfl⟩) (fun _ _ => rfl) A;obtain ⟨z, W⟩ := V;have i : ∀ l, b ∉ (fun l => match l with | 0 => [] | l + 1 => g.getD l []) l := by
     intro l p;cases l with
     | zero => simp at p
     | succ l => exact W (Yf p)
    rcases z with z | z
    ·have E := U b z Z;by_cases G : b < w.heap.size
     ·exact (D b E G).1
     ·refine ⟨fun r' O p => ?_, E.2⟩;simp [upd] at p;split at p
      ·exact i O p
      ·exact E.1 _ _ p
    ·refine ⟨fun r' O p => ?_, .inr (B.mine_new z)⟩;simp [upd] at p;split at p
     ·exact i O p
     ·have : b < w.heap.size := (B.own _ _ _ p).2;omega)
 refine ⟨F, _, _, Rel.congr N (Ya (Xg _) _).symm (Yt om _).symm, fun r => ?_⟩;rw [Ya (Xg _)];by_cases M : r = env.length
 ·subst M;rw [Y0, (Yb h3).1, (Yb h3).2];exact ⟨sm, sm⟩
 ·rw [Y1 _ _ M]; exact L r
theorem RP.result {c : Cx} {env : Env} {tmps : Array Value} {w w' : World} {vs : Nat -> Value} {S : Nat -> Prop} {rs : List (Ty × Lvl)} {xs : List (Σ t : Ty, t.D)} {j : List (List Value)} {g : List Nat} {av : AV}
  (h : RP c env tmps w noP vs) (G : ∀ cs bs, Rel c (SS env noP tmps vs w cs bs) -> ∃ l i, Rel c (SS env noP tmps vs w l i) /\ ∀ b, S b -> b < w'.heap.size -> RoS c (SS env noP tmps vs w l i) b) (I : Below w.heap.size w w') (m : ResRel S w.heap.size w' g rs xs j g) (q : g.Nodup) (p : ∀ b ∈ g, w.heap.size <= b) (y : resAV rs xs = some av) :
  RP c env tmps w' (upd noP env.length av) (upd vs env.length (resVal rs j)) := by
 obtain ⟨k, ls, rfl, A, B, C, z, D, E, F⟩ := Y5l m y;subst E;exact h.resultL G I A B C D F q p (Y50 y)
theorem Y2t (he : Enterable P f) (args : Array Value) (w : World) : (callFunc f args).run P w = .ok (.enter f args) w := by
 obtain ⟨fn, h1, h2, h3⟩ := he;have h3' : ¬ fn.name = "runtime.NumGoroutine" := by simpa using h3
 have h2' : ¬ fn.body = none :=gr;simp [callFunc, program, Sem.run, h1, h2', h3']
theorem Y2u (b : env.length = tmps.size) (h : Rel c (SS env noP tmps vs w cs bs)) : ∀ {ptys : List PTy} {args : List Operand}, args.length <= ptys.length -> ValCs c (SS env noP tmps vs w cs bs) (rdArgs env ptys args) (args.map (evT tmps)) /\ (rdArgs env ptys args).length = args.length
 | [], [], _ => ⟨rfl, rfl⟩
 | p :: ptys, [], _ => ⟨rfl, rfl⟩
 | [], x :: args, hl => by simp at hl
 | p :: ptys, x :: args, hl => by
  obtain ⟨g, i⟩ := Y2u b h (ptys := ptys) (args := args) (by simpa using hl);exact ⟨⟨_, _, rfl, Yj b h _ x, g⟩, by simp [rdArgs, i]⟩
theorem Y4p (g : RE c env a.tmps w) : ∀ {ptys : List PTy} {args : List Operand}, ∀ v ∈ rdArgs env ptys args, (∀ q ∈ v.refs, q.1 < env.length) /\ (∀ q ∈ v.ptrs, q < env.length)
 | [], args, v, b => by cases args <;> simp [rdArgs] at b
 | p :: ptys, [], v, b => by simp [rdArgs] at b
 | p :: ptys, x :: args, v, b => by
  simp [rdArgs] at b;rcases b with rfl | b
  ·exact g.refs _ x
  ·exact Y4p g v b
theorem ValCs.append {s : St} : ∀ {avs b : List AV} {us us' : List Value}, ValCs c s avs us -> ValCs c s b us' -> ValCs c s (avs ++ b) (us ++ us')
 | [], b, us, us', h, h' => by rw [show us = [] from h]; exact h'
 | v :: avs, b, us, us', ⟨u, us2, e, h1, h2⟩, h' => ⟨u, us2 ++ us', by rw [e]; rfl, h1, h2.append h'⟩
theorem Yew (hO : OrcOk P sig orc) {j : Call} {extra : List AV} {ex : List Value} (hop : o.op = .call j) (X : o.dst = some d) (hr : RE c env a.tmps w) (hd : d < env.length)
  (hrun : Enterable P f -> (execOp a.eval o).run P w = .ok (.enter f (j.args.map (evT a.tmps) ++ ex.toArray)) w) (hex : ∀ vs cs bs, Rel c (SS env noP a.tmps vs w cs bs) -> ValCs c (SS env noP a.tmps vs w cs bs) extra ex) (hexr : ∀ v ∈ extra, (∀ q ∈ v.refs, q.1 < env.length)) (hsg : sig f = some sg) (W : sg.box = none /\ sg.newb = none) (V : sg.muts = false) (how : sg.own = false) (hlen1 : (rdArgs env sg.params j.args.toList ++ extra).length = sg.params.length) (hlen2 : (rdArgs env sg.params j.args.toList ++ extra).length = j.args.toList.length + extra.length) (Z : allFresh sg.results = true \/ allCon (rdArgs env sg.params j.args.toList ++ extra) = true) {rvs : List RV} (hrv : RVs caps env sg.params (rdArgs env sg.params j.args.toList ++ extra) = some rvs) {q : OrcRes} (A : orc f rvs = some q) (G : (q.run.bind fun xs => match resAV sg.results (q.pk xs) with
     | none => none
     | some v => K (setD (some d) (if allFresh sg.results then env else freezeArgs sg.results (rdArgs env sg.params j.args.toList ++ extra) env) v)) = some r) (hn : Next c a K r env.length next) : o.wp P a w next Q := by
 obtain ⟨x0, m, G⟩ := Xx.1 G;obtain ⟨Y, B⟩ := hO f sg rvs q x0 hsg A m;generalize q.pk x0 = res at *;rw [W.1, W.2, V, how] at B;cases N : resAV sg.results res with
 | none => grind
 | some av =>
  rw [N] at G;obtain ⟨vs, h⟩ := hr;have hr : RE c env a.tmps w := ⟨vs, h⟩;obtain ⟨z, cs, bs, g, M⟩ := h;have h : RP c env a.tmps w noP vs := ⟨z, cs, bs, g, M⟩;generalize hvs : rdArgs env sg.params j.args.toList ++ extra = avs at *;have I : j.args.toList.length <= sg.params.length :=gr;have U : ValCs c (SS env noP a.tmps vs w cs bs) avs (j.args.toList.map (evT a.tmps) ++ ex) := by
   rw [<- hvs];exact (Y2u z g I).1.append (hex vs cs bs g)
  have O : ∀ v ∈ avs, ∀ q ∈ v.refs, q.1 < env.length := by
   intro v p;rw [<- hvs] at p;rcases X5.1 p with p | p
   ·exact (Y4p hr v p).1
   ·grind
  let S : Nat -> Prop := fun b => RoS c (SS env noP a.tmps vs w cs bs) b \/ (if allFresh sg.results then True else ∃ v ∈ avs, ∃ q ∈ v.refs, b ∈ bs q.1 (q.2 + 1))
  have hrvr : RVRels S w rvs (j.args.toList.map (evT a.tmps) ++ ex) := by
   refine Y4v g (fun b i => .inl i) U hrv (fun v p q A b i => .inr ?_) (fun v p q A l b i => .inr ?_)
   ·grind
   ·split
    ·trivial
    ·rename_i hnf;exfalso;have D := Z.resolve_left hnf;have : ∀ {avs : List AV}, allCon avs = true -> ∀ v ∈ avs, v.ptrs = [] := by
      intro avs
      induction avs with
      | nil => simp
      | cons u avs ih =>
       intro D v p;cases u with
       | con k ls =>
        rcases Xm.1 p with rfl | p
        ·rfl
        ·exact ih D v p
       | _ => simp [allCon] at D
     rw [this D v p] at A;simp at A
  unfold Oper.wp;rw [hrun Y];have L : j.args.map (evT a.tmps) ++ ex.toArray = (j.args.toList.map (evT a.tmps) ++ ex).toArray :=gr;rw [L];refine X2w (B S w _ hrvr) ?_
  rintro e w' ⟨chs, bsx, rfl, i, m, hnd, F⟩
  rw [X];by_cases y : allFresh sg.results = true
  ·rw [X3 y] at G;have hp := h.result (S := fun _ => False) (fun cs bs hr => ⟨cs, bs, hr, fun b i => i.elim⟩) i (Y4o y m) hnd F N;have := RE.commit hp hd;rw [Y0] at this;exact hn _ _ _ G this (by rw [Y1e]) rfl
  ·rw [X4 y] at G;obtain ⟨C, hr1, k1, k2⟩ := g.freezeArgs_ sg.results avs (Z.resolve_left y);have e := Y2a sg.results avs (ps := noP) O (fun r => .inl rfl);have E := Y2d sg.results avs env;have hr2 : Rel c (SS (freezeArgs sg.results avs env) noP a.tmps vs w cs C) := Rel.congr hr1 e rfl;have h1 : RP c (freezeArgs sg.results avs env) a.tmps w noP vs := by
    refine ⟨E.trans z, cs, C, hr2, fun r => ?_⟩;rw [E, <- e];have := Y1u sg.results avs (ovl env noP) r;exact ⟨fun q A => (M r).1 q (this.1 q A), fun q A => (M r).2 q (this.2 q A)⟩
   have hp := h1.result (S := S) (fun cs' bs' hr' => ⟨cs, C, hr2, fun b i _ => ?_⟩) i m hnd F N
   ·have := RE.commit hp (by rw [E]; exact hd);rw [Y0] at this;exact hn _ _ _ G this (by rw [Y1e, E]) rfl
   ·rcases i with i | i
    ·exact ⟨fun r l V => i.1 r l (k1 r l b V), i.2⟩
    ·rw [X4 y] at i;obtain ⟨v, p, q, A, i⟩ := i;refine ⟨fun r l V => ?_, .inr (g.own _ _ _ i).1⟩;have hm' : b ∈ bs r l := k1 r l b V;obtain ⟨rfl, rfl⟩ := g.disj _ _ _ _ _ hm' i;have : b ∈ C q.1 (q.2 + 1) := V;rw [k2 v p q A] at this;simp at this
end
end Go.FP
