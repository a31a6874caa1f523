/- How Go values lie in memory, and an evaluator of code with its soundness (part 2 of 7). Conditions: those that stand in each theorem; nothing is assumed of any program. -/
import Derived.Test.YtdnmcmhnikjphaaGreatFpA
import Derived.Tactics
import Derived.WalkKit
import Derived.Laws.StructEq
import Derived.Laws.Cells
import Derived.Laws.MakeOwn
import Derived.Laws.OwnMore
import Derived.Laws.AppendOwnNone

set_option linter.unusedVariables false
set_option linter.unusedSimpArgs false
set_option linter.unnecessarySimpa false

namespace Go.FP
open Go.RowKit
variable {T : Tab} {S : Nat -> Prop} {w : World} {env : Env} {tmps : Array Value} {vs : Nat -> Value} {ps : Nat -> AV} {cs : Nat -> List Value} {bs : Nat -> Nat -> List Nat} {c : Cx} {s : St} {caps : FuncId -> List Ty} {sig : FuncId -> Option Sig} {orc : Orc} {ls : List Leaf} {x : Operand} {t : Ty} {v : Value} {d : Nat} {f : FuncId} {e : TypeId} {cells : List Value} {lf : Leaf} {n : Nat} {u : Value} {rs : List (Ty × Lvl)} {k : Kind} {av : AV} {sg : Sig} {τ : Ty} {w' : World} {xs : List (Σ t : Ty, t.D)} {te : TE}
theorem Y1n (c : Cx) (s : St) : ∀ (t : Ty) (cs : List Value) (ls : List Leaf) (rest : List Value), constLeaves t cs = some (ls, rest) ->
  ∃ j, cs = j ++ rest /\ ls.length = j.length /\ ls.map Leaf.t = flat t /\ (∀ l ∈ ls, l.m.settled = true) /\ ∀ (l : Nat) (lf : Leaf) (u : Value), ls[l]? = some lf -> j[l]? = some u -> LeafV c s u lf
 | .unit, cs, ls, rest, h => by
  simp [constLeaves] at h;obtain ⟨rfl, rfl⟩ := h;exact ⟨[], rfl, rfl, rfl, sm, sm⟩
 | .pair a b, cs, ls, rest, h => by
  simp [constLeaves] at h;cases m : constLeaves a cs with
  | none => rw [m] at h; simp at h
  | some q =>
   obtain ⟨x, r⟩ := q;rw [m] at h;simp only at h;cases p : constLeaves b r with
   | none => rw [p] at h; simp at h
   | some q =>
    obtain ⟨y, r'⟩ := q;rw [p] at h;simp at h;obtain ⟨rfl, rfl⟩ := h;obtain ⟨z, B, F, C, G, L⟩ := Y1n c s a cs x r m;obtain ⟨A, e2, l2, D, I, k2⟩ := Y1n c s b r y r' p;refine ⟨z ++ A, by rw [B, e2, X7], by simp [F, l2], by rw [List.map_append, C, D]; rfl, fun l g => ?_, fun l lf u g i => ?_⟩
    ·rcases X6.1 g with g | g
     ·exact G l g
     ·exact I l g
    ·grind
 | .int k, cs, ls, rest, h => by
  unfold constLeaves at h;split at h
  ·split at h
   ·rename_i E;subst E;simp at h;obtain ⟨rfl, rfl⟩ := h;refine ⟨[_], rfl, rfl, rfl, by simp [Mode.settled], fun l lf u g i => ?_⟩;cases l with
    | zero => simp only [Xg, X0] at g i; subst g; subst i; exact ⟨⟨rfl, rfl⟩, trivial⟩
    | succ l => simp at g
   ·simp at h
  ·simp at h
 | .bool, cs, ls, rest, h => by
  unfold constLeaves at h;split at h
  ·simp at h;obtain ⟨rfl, rfl⟩ := h;refine ⟨[_], rfl, rfl, rfl, by simp [Mode.settled], fun l lf u g i => ?_⟩;cases l with
   | zero => simp only [Xg, X0] at g i; subst g; subst i; exact ⟨⟨rfl, rfl⟩, trivial⟩
   | succ l => simp at g
  ·simp at h
 | .str, cs, ls, rest, h => by
  unfold constLeaves at h;split at h
  ·simp at h;obtain ⟨rfl, rfl⟩ := h;refine ⟨[_], rfl, rfl, rfl, by simp [Mode.settled], fun l lf u g i => ?_⟩;cases l with
   | zero => simp only [Xg, X0] at g i; subst g; subst i; exact ⟨⟨rfl, rfl⟩, trivial⟩
   | succ l => simp at g
  ·simp at h
 | .slice e t, cs, ls, rest, h => by
  unfold constLeaves at h;split at h
  ·simp at h;obtain ⟨rfl, rfl⟩ := h;refine ⟨[_], rfl, rfl, rfl, by simp [Mode.settled], fun l lf u g i => ?_⟩;cases l with
   | zero => simp only [Xg, X0] at g i; subst g; subst i; exact ⟨Rep.zero (RoS c s) s.w (.slice e t) .dp, trivial⟩
   | succ l => simp at g
  ·simp at h
theorem Y2e : ∀ (s n : Nat) (ls : List Leaf), (borrowFrom s n ls).length = ls.length
 | s, n, [] => rfl
 | s, n, l :: ls => by simp [borrowFrom, Y2e s (n + 1) ls]
theorem Y1t : ∀ (s n : Nat) (ls : List Leaf) (l : Nat), (borrowFrom s n ls)[l]? = (ls[l]?).map fun lf => if lf.m.own then ⟨lf.t, lf.x, .bor s (n + l) []⟩ else lf
 | s, n, [], l => by simp [borrowFrom]
 | s, n, l0 :: ls, 0 => by simp [borrowFrom]
 | s, n, l0 :: ls, l + 1 => by simp [borrowFrom, Y1t s (n + 1) ls l, X2b, Nat.add_comm 1 l]
theorem Y6l {r l : Nat} (i : s.env r = .con k ls) (j : ls[l]? = some lf) (q : (s.cs r)[l]? = some u) (h : LeafRel c s r l u lf) :
  (if lf.m.own then (⟨lf.t, lf.x, .bor r l []⟩ : Leaf) else lf).m.own = false /\ Held c s u (if lf.m.own then ⟨lf.t, lf.x, .bor r l []⟩ else lf) := by
 by_cases b : lf.m.own = true
 ·rw [X4 b];refine ⟨rfl, ?_, ⟨lf, u, ⟨by rw [i]; simp only [AV.leaf?]; rw [Y2]; exact j, b, q⟩, fun _ => ⟨lf.m, rfl, rfl⟩⟩, fun _ _ p => by simp at p⟩;obtain ⟨t, x, m⟩ := lf;cases m with
  | at_ lv => exact h.rep.ro
  | bor _ _ _ => simp [Mode.own] at b
  | dead => simp [Mode.own] at b
 ·rw [X2 b];have g : lf.m.own = false := by simpa using b
  exact ⟨g, (h.held g).2⟩
abbrev SS (env : Env) (ps : Nat -> AV) (tmps : Array Value) (vs : Nat -> Value) (w : World) (cs : Nat -> List Value) (bs : Nat -> Nat -> List Nat) : St := ⟨ovl env ps, ovlT tmps vs, w, cs, bs⟩
def evT (tmps : Array Value) : Operand -> Value
 | .tmp t => tmps.getD t undef
 | .const v => v
 | .global g => .pointer (some ⟨g, 0, none⟩)
 | .func f => .func (.func f) #[] #[]
theorem Y6 (a : Act) : a.eval = evT a.tmps := by
 funext x;cases x <;> rfl
theorem KCells.noBox {j : List Nat} (h : KCells c w j k v cells) (g : (∀ e, k ≠ .box e) /\ ∀ i n b, k ≠ .tupB i n b) : KCells c w [] k v cells := by
 cases k with
 | val => exact ⟨h.1, rfl⟩
 | agg => exact ⟨h.1, rfl⟩
 | tup b => exact ⟨rfl, h.2⟩
 | box e => exact absurd rfl (g.1 e)
 | tupB i n b => exact absurd rfl (g.2 i n b)
theorem Yo (E : env.length = tmps.size) (h : Rel c (SS env ps tmps vs w cs bs)) (ty : Option Ty) (x : Operand) :
  ∃ cells, ValC c (SS env ps tmps vs w cs bs) (rd ty env x) (evT tmps x) cells := by
 cases x with
 | tmp t =>
  by_cases L : t < env.length
  ·have M : t < tmps.size := E ▸ L;have j := h.av t;have G : (SS env ps tmps vs w cs bs).env t = get env t := Y7 L;have e2 : (SS env ps tmps vs w cs bs).tm t = tmps.getD t undef := X4 M;rw [G, e2] at j;have con : ∀ k ls, get env t = .con k ls -> ((∀ e, k ≠ .box e) /\ ∀ i n O, k ≠ .tupB i n O) -> ∃ cells, ValC c (SS env ps tmps vs w cs bs) (.con k (borrowFrom t 0 ls)) (tmps.getD t undef) cells := by
    intro k ls m Y;rw [m] at j;obtain ⟨F, U, W, X⟩ := j;refine ⟨_, F.noBox Y, by rw [Y2e]; exact U, fun l lf u y z => ?_⟩;rw [Y2, Y1t, X14] at y;obtain ⟨N, D, rfl⟩ := Xv.1 y;have := Y6l (c := c) (s := SS env ps tmps vs w cs bs) (by rw [G, m]) D z (X l N u (by rw [Y2]; exact D) z);exact LeafV.of_held this.1 this.2
   simp only [rd, evT];cases m : get env t with
   | con k ls =>
    cases k with
    | val => exact con _ _ m sm
    | agg => exact con _ _ m sm
    | tup O => exact con _ _ m sm
    | tupB i n O => exact ⟨[], trivial⟩
    | box e =>
     rw [m] at j;obtain ⟨⟨B, F, U, W⟩, _⟩ := j;exact ⟨[], e, ls, B, by rw [G, m], by rw [e2]; exact F, F⟩
   | undef => exact ⟨[], trivial⟩
   | skip => rw [m] at j; exact ⟨[], j.1⟩
   | path r off => rw [m] at j; exact ⟨[], j.2⟩
   | eptr ls wr => rw [m] at j; exact ⟨[], j.2⟩
   | clo f caps => rw [m] at j; exact ⟨[], j.2⟩
   | cloR f xs => rw [m] at j; exact ⟨[], j.2⟩
   | fptr f caps => rw [m] at j; exact ⟨[], j.2⟩
   | cloS f caps => rw [m] at j; exact ⟨[], j.2⟩
   | grow _ _ _ _ _ => exact ⟨[], trivial⟩
   | sel _ _ _ _ _ _ _ => exact ⟨[], trivial⟩
   | part _ _ _ _ => exact ⟨[], trivial⟩
   | eown _ => exact ⟨[], trivial⟩
   | junk => exact ⟨[], trivial⟩
  ·have : get env t = .undef := Y11 _ _ (X15 L);simp only [rd, this];exact ⟨[], trivial⟩
 | const v =>
  have C : ∃ cells, ValC c (SS env ps tmps vs w cs bs) (constAV ty v) v cells := by
   unfold constAV;cases ty with
   | none => exact ⟨[], trivial⟩
   | some t =>
    simp only;cases Z : constLeaves t v.cells.toList with
    | none => exact ⟨[], trivial⟩
    | some q =>
     obtain ⟨ls, rest⟩ := q;cases rest with
     | cons _ _ => exact ⟨[], trivial⟩
     | nil =>
      simp only;split
      ·rename_i p;have p : t.isAgg = Value.isAgg' v := by simpa using p
       obtain ⟨c0, e, l, _, _, k⟩ := Y1n c (SS env ps tmps vs w cs bs) t _ _ _ Z;rw [Xh] at e;subst e;refine ⟨v.cells.toList, ?_, l, fun l lf u y z => k l lf u (by rw [<- Y2]; exact y) z⟩;cases v with
       | agg V =>
        have : t.isAgg = true := p;rw [this];exact ⟨by simp [Value.cells], rfl⟩
       | _ =>
        have : t.isAgg = false := p;rw [this];exact ⟨rfl, rfl⟩
      ·exact ⟨[], trivial⟩
  have A : ∀ lf : Leaf, LeafV c (SS env ps tmps vs w cs bs) v lf -> ∃ cells, ValC c (SS env ps tmps vs w cs bs) (.con .val [lf]) v cells := by
   intro lf I;refine ⟨[v], ⟨rfl, rfl⟩, rfl, fun l lf' u y z => ?_⟩;rw [Y2] at y;cases l with
   | zero => simp only [Xg, X0] at y z; subst y; subst z; exact I
   | succ l => simp at y
  simp only [rd, evT];cases v with
  | int k n => exact A _ ⟨⟨rfl, rfl⟩, trivial⟩
  | bool b => exact A _ ⟨⟨rfl, rfl⟩, trivial⟩
  | string s => exact A _ ⟨⟨rfl, rfl⟩, trivial⟩
  | _ => exact C
 | func f => exact ⟨[], [], rfl, rfl⟩
 | global g => exact ⟨[], trivial⟩
theorem Y6b (h : RP c env tmps w ps vs) (ty : Option Ty) (x : Operand) : (∀ q ∈ (rd ty env x).refs, q.1 < env.length) /\ (∀ q ∈ (rd ty env x).ptrs, q < env.length) := by
 obtain ⟨_, _, _, _, B⟩ := h;cases x with
 | tmp t =>
  by_cases p : t < env.length
  ·have := B t;rw [Y7 p] at this;have bor : ∀ ls : List Leaf, (∀ q ∈ ls.flatMap Leaf.refs, q.1 < env.length) -> ∀ q ∈ (borrowFrom t 0 ls).flatMap Leaf.refs, q.1 < env.length := by
    intro ls A q j;simp only [Xi] at j;obtain ⟨lf, G, j⟩ := j;obtain ⟨l, F⟩ := Xx G;rw [Y1t] at F;obtain ⟨D, z, rfl⟩ := Xv.1 F;split at j
    ·simp only [Leaf.refs, Xb] at j;rw [j]; exact p
    ·exact A q (by simp only [Xi]; exact ⟨D, X8 z, j⟩)
   simp only [rd];cases E : get env t with
   | con k ls =>
    rw [E] at this;cases k with
    | val => exact ⟨bor ls this.1, by simp [AV.ptrs]⟩
    | agg => exact ⟨bor ls this.1, by simp [AV.ptrs]⟩
    | tup I => exact ⟨bor ls this.1, by simp [AV.ptrs]⟩
    | box e => exact ⟨by simp [AV.refs], by simp [AV.ptrs]; exact p⟩
    | tupB i n I => exact ⟨by simp [AV.refs], by simp [AV.ptrs]⟩
   | grow _ _ _ _ _ => exact ⟨by simp [AV.refs], by simp [AV.ptrs]⟩
   | sel _ _ _ _ _ _ _ => exact ⟨by simp [AV.refs], by simp [AV.ptrs]⟩
   | part _ _ _ _ => exact ⟨by simp [AV.refs], by simp [AV.ptrs]⟩
   | eown _ => exact ⟨by simp [AV.refs], by simp [AV.ptrs]⟩
   | junk => exact ⟨by simp [AV.refs], by simp [AV.ptrs]⟩
   | _ => rw [E] at this; exact this
  ·have : get env t = .undef := Y11 _ _ (X15 p);simp only [rd, this];exact ⟨by simp [AV.refs], by simp [AV.ptrs]⟩
 | const v =>
  have m : ∀ av, av = constAV ty v -> (∀ q ∈ av.refs, q.1 < env.length) /\ (∀ q ∈ av.ptrs, q < env.length) := by
   intro av b;unfold constAV at b;cases ty with
   | none => rw [b]; exact ⟨by simp [AV.refs], by simp [AV.ptrs]⟩
   | some t =>
    simp only at b;cases y : constLeaves t v.cells.toList with
    | none => rw [y] at b; rw [b]; exact ⟨by simp [AV.refs], by simp [AV.ptrs]⟩
    | some q =>
     obtain ⟨ls, rest⟩ := q;rw [y] at b;cases rest with
     | cons _ _ => rw [b]; exact ⟨by simp [AV.refs], by simp [AV.ptrs]⟩
     | nil =>
      simp only at b;obtain ⟨_, _, _, _, C, _⟩ := Y1n c ⟨noP, noV, w, fun _ => [], fun _ _ => []⟩ t _ _ _ y;split at b
      ·rw [b];have := Settled.refs (v := mkCon t.isAgg ls) (.inr ⟨_, _, rfl, C⟩);rw [this.1, this.2];exact ⟨sm, sm⟩
      ·rw [b]; exact ⟨by simp [AV.refs], by simp [AV.ptrs]⟩
  simp only [rd];cases v <;> first | (refine ⟨?_, ?_⟩ <;> simp [AV.refs, AV.ptrs, Leaf.refs]; done) | exact m _ rfl
 | func f => exact ⟨by simp [rd, AV.refs], by simp [rd, AV.ptrs]⟩
 | global g => exact ⟨by simp [rd, AV.refs], by simp [rd, AV.ptrs]⟩
theorem Ybq {r j : Nat} (b : r < env.length) (g : ∀ r, Settled (ps r)) : freezeE r j (ovl env ps) = ovl (freeze r j env) ps := by
 unfold freezeE freeze;rw [Y7 b];cases h : (get env r).leaf? j with
 | none => rfl
 | some l =>
  simp only;split
  ·have := Y1s (freezeG r j) env ps g;have e : (fun r' => (ovl env ps r').chg (freezeG r j)) = ovl (chgEnv (freezeG r j) env) ps := this;rw [e, Yt (by rw [Y8]; exact b)];congr 1;rw [Y12]
  ·rfl
theorem Y1k : ∀ (ls : List Leaf) {env : Env} {ps : Nat -> AV}, (∀ l ∈ ls, ∀ q ∈ l.refs, q.1 < env.length) -> (∀ r, Settled (ps r)) -> freezeAllE ls (ovl env ps) = ovl (freezeAll ls env) ps
 | [], env, ps, _, _ => rfl
 | l :: ls, env, ps, hl, hs => by
  obtain ⟨t, x, m⟩ := l;cases m with
  | bor r j p =>
   simp [freezeAll, freezeAllE];rw [Ybq (hl _ Xp (r, j) (by simp [Leaf.refs])) hs];exact Y1k ls (fun l b q g => by rw [(Y3s r j env).2]; exact hl l (X3 _ b) q g) hs
  | at_ lv => exact Y1k ls (fun l b => hl l (X3 _ b)) hs
  | dead => exact Y1k ls (fun l b => hl l (X3 _ b)) hs
theorem Y3t {j : Nat} {l : Leaf} (h : l.refs = []) : ∀ q ∈ (setAt ls j l).flatMap Leaf.refs, q ∈ ls.flatMap Leaf.refs := by
 intro q b;rw [Y9] at b;simp at b ⊢;obtain ⟨lf, g, b⟩ := b;rcases X25 g with g | rfl
 ·grind
 ·grind
theorem Y9c (r j : Nat) (E : Nat -> AV) (r' : Nat) : (∀ q ∈ (freezeE r j E r').refs, q ∈ (E r').refs) /\ (∀ q ∈ (freezeE r j E r').ptrs, q ∈ (E r').ptrs) := by
 unfold freezeE;cases m : (E r).leaf? j with
 | none => grind
 | some l =>
  simp only;split
  ·have g := Yi (Y9b r j);simp only [upd];split
   ·rename_i i;subst i;have := g (E r');cases b : (E r').chg (freezeG r' j) with
    | con k ls =>
     rw [b] at this;exact ⟨fun q h => this.1 q (Y3t rfl q h), by simp [AV.setLeaf, AV.ptrs]⟩
    | _ => rw [b] at this; exact this
   ·grind
  ·grind
theorem Y1b : ∀ (ls : List Leaf) (E : Nat -> AV) (r' : Nat), (∀ q ∈ (freezeAllE ls E r').refs, q ∈ (E r').refs) /\ (∀ q ∈ (freezeAllE ls E r').ptrs, q ∈ (E r').ptrs)
 | [], E, r' => ⟨fun q h => h, fun q h => h⟩
 | l :: ls, E, r' => by
  obtain ⟨t, x, m⟩ := l;cases m with
  | bor r j p =>
   have g := Y1b ls (freezeE r j E) r';have i := Y9c r j E r';exact ⟨fun q b => i.1 q (g.1 q b), fun q b => i.2 q (g.2 q b)⟩
  | at_ lv => exact Y1b ls E r'
  | dead => exact Y1b ls E r'
theorem RP.freezeAll (h : RP c env tmps w ps vs) (ls : List Leaf) (p : ∀ l ∈ ls, ∀ q ∈ l.refs, q.1 < env.length) (y : ∀ r, Settled (ps r)) : RP c (freezeAll ls env) tmps w ps vs := by
 obtain ⟨b, cs, bs, j, i⟩ := h;obtain ⟨bs', m, _, _⟩ := j.freezeAll_ ls;have e := Y1k ls p y;refine ⟨by rw [(Yn ls env).2]; exact b, _, _, Rel.congr m e rfl, fun r => ?_⟩;rw [(Yn ls env).2, <- e];have := Y1b ls (ovl env ps) r;exact ⟨fun q g => (i r).1 q (this.1 q g), fun q g => (i r).2 q (this.2 q g)⟩
theorem Yaw (b : ∀ r, Settled (ps r)) {v : AV} (g : Settled v) : ∀ r, Settled (upd ps n v r) := by
 intro r;simp [upd];split
 ·exact g
 ·exact b r
theorem Yax {env env' : Env} (h : RP c env tmps w ps vs) (hs : ∀ r, Settled (ps r)) {ty : Option Ty} (b : takeIn0 ty env x = some (env', av)) (hn : env.length <= n) (hp : ps n = .undef) :
  env'.length = env.length /\ RP c env' tmps w (upd ps n av) (upd vs n (evT tmps x)) := by
 have m : rd ty env x = av -> env' = env -> env'.length = env.length /\ RP c env' tmps w (upd ps n av) (upd vs n (evT tmps x)) := by
  intro M e2;subst M; subst e2;exact ⟨rfl, h.addVal hn hp (fun cs bs V => Yo h.len V ty x) (Y6b h ty x)⟩
 cases x with
 | const v => simp only [takeIn0, X0, Xw] at b; exact m b.2 b.1.symm
 | func f => simp only [takeIn0, X0, Xw] at b; exact m b.2 b.1.symm
 | global g => simp only [takeIn0, X0, Xw] at b; exact m b.2 b.1.symm
 | tmp s =>
  simp only [takeIn0] at b;cases z : get env s with
  | con k ls =>
   rw [z] at b;simp only at b;split at b
   ·rename_i I;cases D : get (freezeAll ls env) s with
    | con k' y =>
     rw [D] at b;simp only at b;split at b
     ·rename_i G;obtain ⟨rfl, p⟩ := G;have p : ∀ l ∈ y, l.m.settled = true := by simpa using p
      simp only [X0, Xw] at b;obtain ⟨W, rfl⟩ := b;have L : s < env.length := Yx z;have hls : ∀ l ∈ ls, ∀ q ∈ l.refs, q.1 < env.length := by
       intro l X q U;obtain ⟨_, _, _, _, F⟩ := h;have := (F s).1;rw [Y7 L, z] at this;exact this q (by simp only [AV.refs, Xi]; exact ⟨l, X, U⟩)
      have Y := h.freezeAll ls hls hs;have j : (freezeAll ls env).length = env.length := (Yn ls env).2;have C : s < (Go.FP.freezeAll ls env).length := by rw [j]; exact L
      have E : (Go.FP.freezeAll ls env).length <= n := by rw [j]; exact hn
      have hsn : s ≠ n := X1c (X1e L hn);generalize Go.FP.freezeAll ls env = env1 at *;have O : (∀ e, k' ≠ .box e) /\ ∀ i n sh, k' ≠ .tupB i n sh := by constructor <;> (intros; rintro rfl; simp [Kind.plain] at I)
      by_cases B : y.any (fun l => l.m.own) = true
      ·rw [X4 B] at W;subst W;refine ⟨by rw [Ya, j], ?_⟩;obtain ⟨A, cs, bs, V, F⟩ := Y;obtain ⟨hk2, hk3⟩ := V.killRoot_ s;have Z : chgE (killG s) (ovl env1 ps) n = .undef := by simp only [chgE]; rw [Yg E, hp]; rfl
       have hEs : chgE (killG s) (ovl env1 ps) s = .con k' y := by simp only [chgE]; rw [Y7 C, D]; simp only [AV.chg, Y4l _ p]
       have h5 := hk2.move hsn (by show (chgE (killG s) (ovl env1 ps) n).quiet = true; rw [Z]; rfl) hk3;simp only [hEs] at h5;have M : upd (upd (chgE (killG s) (ovl env1 ps)) s .undef) n (.con k' y) = ovl (killRoot s env1) (upd ps n (.con k' y)) := by
        rw [Yb (by rw [Ya]; exact E)];unfold killRoot;rw [Yt (by rw [Y8]; exact C), Y1s _ _ _ hs]
       have e2 : upd (ovlT tmps vs) n (ovlT tmps vs s) = ovlT tmps (upd vs n (evT tmps (.tmp s))) := by
        rw [Yv (A ▸ E)];congr 1;exact X4 (A ▸ C)
       refine ⟨by rw [Ya]; exact A, _, _, Rel.congr h5 M e2, fun r => ?_⟩;rw [Ya, <- M];simp only [upd];split
       ·have := Settled.refs (v := .con k' y) (.inr ⟨_, _, rfl, p⟩);rw [this.1, this.2];exact ⟨sm, sm⟩
       ·split
        ·exact ⟨by simp [AV.refs], by simp [AV.ptrs]⟩
        ·have := Yi (Y14 s) (ovl env1 ps r);exact ⟨fun q U => (F r).1 q (this.1 q U), fun q U => (F r).2 q (this.2 q U)⟩
      ·rw [X2 B] at W;subst W;refine ⟨j, Y.addVal E hp (fun cs bs V => ?_) ?_⟩
       ·have N := V.av s;have M : ovl env1 ps s = .con k' y := by rw [Y7 C, D]
        have e2 : ovlT tmps vs s = evT tmps (.tmp s) := X4 (Y.len ▸ C);simp only [M, e2] at N;obtain ⟨g1, g2, g3, g4⟩ := N;refine ⟨_, g1.noBox O, g2, fun l lf u X hu => ?_⟩;have := g4 l lf u X hu;have ho : lf.m.own = false := by
         cases hb : lf.m.own with
         | false => rfl
         | true => exact absurd (X1o.2 ⟨lf, Yc X, hb⟩) B
        exact LeafV.of_held ho (this.held ho).2
       ·have := Settled.refs (v := .con k' y) (.inr ⟨_, _, rfl, p⟩);rw [this.1, this.2];exact ⟨sm, sm⟩
     ·simp at b
    | _ => rw [D] at b; simp at b
   ·simp at b
  | undef => rw [z] at b; simp at b
  | grow _ _ _ _ _ => rw [z] at b; simp at b
  | sel _ _ _ _ _ _ _ => rw [z] at b; simp at b
  | part _ _ _ _ => rw [z] at b; simp at b
  | eown _ => rw [z] at b; simp at b
  | junk => rw [z] at b; simp at b
  | _ =>
   rw [z] at b;simp only [X0, Xw] at b;exact m (by simp only [rd, z]; exact b.2) b.1.symm
theorem Y79 {ty : Option Ty} {env env' : Env} (i : takeIn0 ty env x = some (env', .con k ls)) : ∀ l ∈ ls, l.m.settled = true := by
 have con : ∀ v, rd ty env (.const v) = .con k ls -> ∀ l ∈ ls, l.m.settled = true := by
  intro v b;have h : constAV ty v = .con k ls -> ∀ l ∈ ls, l.m.settled = true := by
   intro b;unfold constAV at b;cases ty with
   | none => simp at b
   | some t =>
    simp only at b;cases m : constLeaves t v.cells.toList with
    | none => grind
    | some q =>
     obtain ⟨p, rest⟩ := q;rw [m] at b;cases rest with
     | cons _ _ => simp at b
     | nil =>
      simp only at b;obtain ⟨_, _, _, _, j, _⟩ := Y1n ⟨fun _ => False, 0, default, fun _ => default, fun _ => False, default, fun _ => default⟩ ⟨noP, noV, default, fun _ => [], fun _ _ => []⟩ t _ _ _ m;split at b
      ·simp [mkCon] at b;rw [<- b.2]; exact j
      ·simp at b
  simp [rd] at b;cases v <;> first | (simp at b; rw [<- b.2]; simp [Mode.settled]; done) | exact h b
 cases x with
 | const v => simp [takeIn0] at i; exact con v i.2
 | func f => simp [takeIn0, rd] at i
 | global g => simp [takeIn0, rd] at i
 | tmp s =>
  simp [takeIn0] at i;cases z : get env s with
  | con A y => grind
  | _ => grind
theorem RP.pull (h : RP c env tmps w ps vs) (U : ∀ r, Settled (ps r)) (s q : Nat) : RP c (pull s q env) tmps w ps vs /\ (Go.FP.pull s q env).length = env.length := by
 unfold Go.FP.pull;split
 ·rename_i t x r j y;split
  ·rename_i lp I;split
   ·rename_i lv N;split
    ·rename_i M;obtain ⟨B, l⟩ := M;have g : s < env.length := Y1g y;have A : r < env.length := Y1g I;obtain ⟨k, ls, G⟩ : ∃ k ls, get env s = .con k ls := by
      cases V : get env s with
      | con k ls => exact ⟨k, ls, rfl⟩
      | _ => rw [V] at y; simp [AV.leaf?] at y
     obtain ⟨i, cs, bs, C, m⟩ := h;have C : Rel c (SS env ps tmps vs w cs bs) := C;obtain ⟨bs', L, F⟩ := C.pull_ (s0 := s) (r := r) (j := j) (q := q) (k := k) (ls := ls) (t := t) (x := x) (lv := lv) (lp := lp) (by show ovl env ps s = _; rw [Y7 g]; exact G) (by rw [G] at y; exact y) l (by show (ovl env ps r).leaf? j = _; rw [Y7 A]; exact I) N B;have b : (killPlace r j env).length = env.length := Y8 _ _;have e : pullE r j s q ⟨lp.t, lp.x, .dead⟩ ⟨t, x, .at_ lv⟩ (ovl env ps) = ovl (put (put (killPlace r j env) r ((get (killPlace r j env) r).setLeaf j ⟨lp.t, lp.x, .dead⟩)) s ((get (put (killPlace r j env) r ((get (killPlace r j env) r).setLeaf j ⟨lp.t, lp.x, .dead⟩)) s).setLeaf q ⟨t, x, .at_ lv⟩)) ps := by
      unfold pullE;rw [Yt (by rw [Y5, b]; exact g), Yt gr, Y16, X2 (fun h => l h.1)];have E : ∀ p, p < env.length -> chgE (killPG r j) (ovl env ps) p = get (killPlace r j env) p := fun p O => by
       show (ovl env ps p).chg _ = _;rw [Y7 O]; unfold killPlace; rw [Y12]
      rw [E r A, E s g];congr 2;exact Y1s _ _ _ U
     refine ⟨⟨by rw [Y5, Y5, b]; exact i, cs, bs', Rel.congr L e rfl, fun p => ?_⟩, by rw [Y5, Y5, b]⟩;rw [Y5, Y5, b, <- e];exact ⟨fun z D => (m p).1 z ((F p).1 z D), fun z D => (m p).2 z ((F p).2 z D)⟩
    ·exact ⟨h, rfl⟩
   ·exact ⟨h, rfl⟩
  ·exact ⟨h, rfl⟩
 ·exact ⟨h, rfl⟩
theorem RP.pulls (h : RP c env tmps w ps vs) (b : ∀ r, Settled (ps r)) (s : Nat) : ∀ n, RP c (pulls s n env) tmps w ps vs /\ (Go.FP.pulls s n env).length = env.length
 | 0 => ⟨h, rfl⟩
 | n + 1 => by
  obtain ⟨g, i⟩ := RP.pulls h b s n;obtain ⟨j, l⟩ := g.pull b s n;exact ⟨j, l.trans i⟩
theorem RP.pullAll (h : RP c env tmps w ps vs) (b : ∀ r, Settled (ps r)) (x : Operand) : RP c (pullAll x env) tmps w ps vs /\ (Go.FP.pullAll x env).length = env.length := by
 unfold Go.FP.pullAll;split
 ·split
  ·split
   ·exact h.pulls b _ _
   ·exact ⟨h, rfl⟩
  ·exact ⟨h, rfl⟩
 ·exact ⟨h, rfl⟩
theorem Y18 {env env' : Env} (h : RP c env tmps w ps vs) (b : ∀ r, Settled (ps r)) {ty : Option Ty} (p : takeIn ty env x = some (env', av)) (q : env.length <= n) (m : ps n = .undef) :
  env'.length = env.length /\ RP c env' tmps w (upd ps n av) (upd vs n (evT tmps x)) := by
 obtain ⟨g, i⟩ := h.pullAll b x;obtain ⟨j, l⟩ := Yax g b p (n := n) gr m;exact ⟨j.trans i, l⟩
theorem Yy {ty : Option Ty} {env env' : Env} (b : takeIn ty env x = some (env', .con k ls)) : ∀ l ∈ ls, l.m.settled = true := Y79 b
theorem Y9d {S B : Nat -> Prop} (N : t.flatB = true) {x y : List t.D} {b : List Nat} (h1 : Rep S w (.slice e t) .ro [u] x []) (h2 : Rep B w (.slice e t) .dp [u] y b) : Rep B w (.slice e t) .dp [u] x b := by
 obtain ⟨v1, j, b0, b1, X, e2, l, p⟩ := h1;obtain ⟨v2, q, L, W, f1, f2, m, h⟩ := h2;obtain rfl : u = v1 := by simpa using X
 obtain rfl : u = v2 := by simpa using f1
 obtain ⟨rfl, rfl⟩ := X21.1 e2.symm;obtain ⟨_, A, cp, C, hcp, hA, hc⟩ := p;have h : L = u.ownBlock.toList /\ w.ownsRow 0 e t.sz u y.length q := h;have F : W = [] := El.noB (fun V x' U D => (Rep.flat (S' := B) (w' := w) (m' := .dp) N D).1) m;subst F;have l1 := l.len;have l2 := m.len;have z := h.2;have I : x.length = y.length /\ j = q := by
  obtain ⟨_, ⟨rfl, hn0⟩ | ⟨g, cap, cur, rfl, _, hh, hn, hmx, hcs, ht⟩⟩ := h.2
  ·simp at C;have : x.length = 0 := C.2.1.symm;refine ⟨om, ?_⟩;have Y : j = [] := Xo.1 gr;have Z : q = [] := Xo.1 gr;rw [Y, Z]
  ·simp at C;obtain ⟨E, G, _⟩ := C;refine ⟨G.symm, ?_⟩;apply X24;intro k;by_cases O : k < j.length
   ·obtain ⟨a, M, _, i⟩ := hc k _ (X1 O);rw [<- E] at M;obtain rfl := Xq M;have : (⟨g, 0, none⟩ : Addr).add k = ⟨g, k, none⟩ := by
     simp [Addr.add];omega
    rw [this] at i;rw [X1 O, <- i];exact z.cellAt k gr
   ·grind
 obtain ⟨k1, rfl⟩ := I;refine ⟨u, j, L, [], rfl, f2, ?_, h.1, gr⟩;exact El.bare (P := Rep S w t Lvl.ro.sub) (Q := Rep B w t Lvl.dp.sub) (fun V x' U D => (Rep.flat N D).2) l
def pullNE (r j s0 q : Nat) (b g : Leaf) (E : Nat -> AV) : Nat -> AV :=
 upd (upd (chgE (killPG r j) E) r ((chgE (killPG r j) E r).setLeaf j b)) s0 ((chgE (killPG r j) E s0).setLeaf q g)
theorem Rel.pullN_ (h : Rel c s) {r j q s0 : Nat} {e e' : TypeId} {x : List t.D} {xs : List (List t.D)} {i : Int} (hf : t.flatB = true) (hs : s.env s0 = .con k ls) (hq : leafAt ls q = some ⟨.slice e t, x, .bor r j [(i, 0)]⟩) (hne : s0 ≠ r) (hl : (s.env r).leaf? j = some ⟨.slice e' (.slice e t), xs, .at_ .dp⟩) :
  ∃ bs', Rel c ⟨pullNE r j s0 q ⟨.slice e' (.slice e t), xs, .dead⟩ ⟨.slice e t, x, .at_ .dp⟩ s.env, s.tm, s.w, s.cs, bs'⟩ /\
   ∀ p, (∀ z ∈ (pullNE r j s0 q ⟨.slice e' (.slice e t), xs, .dead⟩ ⟨.slice e t, x, .at_ .dp⟩ s.env p).refs, z ∈ (s.env p).refs) /\ (∀ z ∈ (pullNE r j s0 q ⟨.slice e' (.slice e t), xs, .dead⟩ ⟨.slice e t, x, .at_ .dp⟩ s.env p).ptrs, z ∈ (s.env p).ptrs) := by
 obtain ⟨env, tm, w, cs, bs⟩ := s;simp only at hs hl ⊢
 -- what is borrowed is the place itself
 have hav0 := h.av s0;simp only [hs] at hav0;obtain ⟨_, g2, _, g4⟩ := hav0;have hqlt : q < ls.length := by rw [Y2] at hq; exact (X5.1 hq).1
 have g2 : ls.length = (cs s0).length := g2;obtain ⟨u, hu⟩ : ∃ u, (cs s0)[q]? = some u := ⟨_, X1 om⟩;obtain ⟨u0, hcj, grep, a0, B, n, cp, hu0, hi0, hi1, ha0, Y⟩ : ∃ u0, (cs r)[j]? = some u0 /\ Rep (fun b => RoS c ⟨env, tm, w, cs, bs⟩ b \/ b ∈ bs r (j + 1)) w (.slice e t) .ro [u] x [] /\ ∃ a B n cp, u0 = .slice (some ⟨B, 0, none⟩) n cp /\ 0 <= i /\ i.toNat < xs.length /\ a = (⟨B, i.toNat, none⟩ : Addr) /\ w.cell? a = some u := by
  have := g4 q _ u hq hu;obtain ⟨_, grep, ⟨lf', u', ⟨g5, g6, g7⟩, _⟩, g9⟩ := this;obtain ⟨a, ⟨_, lf2, u2, ⟨F, o2, o3⟩, o4⟩, Y⟩ := g9 i 0 rfl;obtain ⟨e1, t1, xs1, m1, B, n, cp, p1, p2, p3, p4, p5⟩ := o4.1 rfl;have F : (env r).leaf? j = some lf2 := F;rw [hl] at F;simp only [X0] at F;rw [p1] at F;simp only [Leaf.mk.injEq, Ty.slice.injEq] at F;obtain ⟨⟨rfl, rfl⟩, o1x, _⟩ := F;have o1x := X2z o1x;subst o1x;refine ⟨u2, o3, grep, a, B, n, cp, p2, p3, p4, ?_, Y⟩;rw [p5];simp [Ty.sz]
 obtain ⟨D, hk3⟩ := h.killPlace_ r j;simp only at D hk3;obtain ⟨k0, ls0, hv0⟩ : ∃ k ls, env r = .con k ls := by
  cases hv : env r with
  | con k ls => exact ⟨k, ls, rfl⟩
  | _ => rw [hv] at hl; simp [AV.leaf?] at hl
 have hl' : leafAt ls0 j = some ⟨.slice e' (.slice e t), xs, .at_ .dp⟩ := by rw [hv0] at hl; exact hl
 let E := chgE (killPG r j) env
 have W : E r = .con k0 (chgs (killPG r j) ls0) := by show (env r).chg _ = _; rw [hv0]; rfl
 have X : E s0 = .con k (chgs (killPG r j) ls) := by show (env s0).chg _ = _; rw [hs]; rfl
 have hlj : leafAt (chgs (killPG r j) ls0) j = some ⟨.slice e' (.slice e t), xs, .at_ .dp⟩ := by
  rw [Yf, hl'];rfl
 have hjlt : j < (chgs (killPG r j) ls0).length := by rw [Y2] at hlj; exact (X5.1 hlj).1
 have hrepj : Rep (RoS c ⟨E, tm, w, cs, bs⟩) w (.slice e' (.slice e t)) .dp [u0] xs (bs r (j + 1)) := by
  have G := D.av r;simp only [show chgE (killPG r j) env r = _ from W] at G;have h6 := G.2.2.2 j _ _ hlj hcj;exact LeafRel.rep h6
 obtain ⟨bq, hrepq, M, hbqn⟩ : ∃ bq, Rep (RoS c ⟨E, tm, w, cs, bs⟩) w (.slice e t) .dp [u] x bq /\ (∀ k ∈ bq, k ∈ bs r (j + 1)) /\ bq.Nodup := by
  obtain ⟨v, xc, b0, b1, f1, f2, hel, hrow⟩ := hrepj;obtain rfl : u0 = v := by simpa using f1
  have hrow : b0 = u0.ownBlock.toList /\ w.ownsRow 0 e' 1 u0 xs.length xc := hrow;obtain ⟨pre, cc, post, c0, b, c1, x1, x2, x3, x4, x5, _⟩ := El.at_ i.toNat hi1 hel;have x3 : cc.length = 1 := x3;obtain ⟨cv, rfl⟩ := X1r.1 x3;have hcv : cv = u := by
   have hw := hrow.2;subst hu0;obtain ⟨_, ⟨y1, _⟩ | ⟨g, cap, cur, y1, _⟩⟩ := hrow.2
   ·simp at y1
   ·simp only [Value.slice.injEq, X0, X2x, and_true] at y1;obtain ⟨rfl, rfl, rfl⟩ := y1;have := hw.cellAt i.toNat om;rw [<- ha0, Y, x1] at this;have x2 : pre.length = i.toNat := by rw [x2]; simp [Ty.sz]
    rw [X7, Xc om, x2, Nat.sub_self] at this;simpa using this.symm
  subst hcv;refine ⟨b, Y9d hf grep x5, fun k hk => ?_, ?_⟩
  ·rw [f2, x4];simp [hk]
  ·have hn := D.nodup r (j + 1);rw [show (⟨chgE (killPG r j) env, tm, w, cs, bs⟩ : St).bs r (j + 1) = b0 ++ b1 from f2, x4] at hn;exact (X12.1 (X12.1 (X12.1 hn).2.1).1).2.1
 let dl : Leaf := ⟨.slice e' (.slice e t), xs, .dead⟩
 let nl : Leaf := ⟨.slice e t, x, .at_ .dp⟩
 let bs' : Nat -> Nat -> List Nat := updP (updP bs r (j + 1) []) s0 (q + 1) bq
 let s' : St := ⟨pullNE r j s0 q dl nl env, tm, w, cs, bs'⟩
 have hEs' : s'.env s0 = .con k (setAt (chgs (killPG r j) ls) q nl) := by
  show upd _ s0 _ s0 = _;rw [Y0, show chgE (killPG r j) env s0 = _ from X]; rfl
 have hEr' : s'.env r = .con k0 (setAt (chgs (killPG r j) ls0) j dl) := by
  show upd _ s0 _ r = _;rw [Y1 _ _ (Ne.symm hne), Y0, show chgE (killPG r j) env r = _ from W]; rfl
 have I : bs' r = fun l => if l = j + 1 then [] else bs r l := by
  show updP _ s0 _ _ r = _;rw [Y20 _ _ _ (Ne.symm hne)];funext l;simp [updP]
 have L : bs' s0 = fun l => if l = q + 1 then bq else bs s0 l := by
  funext l;show (if s0 = s0 /\ l = q + 1 then _ else updP bs r (j + 1) [] s0 l) = _;rw [Y20 _ _ _ hne];simp
 have hbsq : bs s0 (q + 1) = [] := by
  have := g4 q _ u hq hu;exact this.1
 have Z : ∀ p, ¬ (p = r \/ p = s0) -> s'.env p = (E p).chg noG /\ s'.tm p = tm p /\ s'.cs p = cs p /\ s'.bs p = bs p := fun p hp => by
  simp only [X2h] at hp;refine ⟨by rw [AV.chg_no]; show upd _ s0 _ p = _; rw [Y1 _ _ hp.2, Y1 _ _ hp.1], rfl, rfl, ?_⟩;show updP _ s0 _ _ p = _;rw [Y20 _ _ _ hp.2, Y20 _ _ _ hp.1]
 have hnoq : ∀ lf v, ¬ OwnPlace ⟨E, tm, w, cs, bs⟩ s0 q lf v := by
  rintro lf v ⟨F, o2, o3⟩
  have F : (E s0).leaf? q = some lf := F;rw [X] at F;simp only [AV.leaf?] at F;rw [Yf, hq] at F;simp only [X1w, X0] at F;subst F;simp [Leaf.chg, killPG, Leaf.lost, Mode.own] at o2
 have hown : ∀ p i, ¬ (p = r /\ i = j) /\ ¬ (p = s0 /\ i = q) -> SamePl ⟨E, tm, w, cs, bs⟩ s' p i := by
  intro p i ⟨hpi, hpq⟩;by_cases O : p = r
  ·subst O;refine ⟨fun lf v ⟨F, o2, o3⟩ => ⟨?_, o2, o3⟩, by show bs' p (i + 1) = _; rw [I]; exact X2 (fun h => hpi ⟨rfl, om⟩), fun _ _ => rfl⟩;rw [hEr'];have F : (E p).leaf? i = some lf := F;rw [W] at F;simp only [AV.leaf?] at F ⊢;rw [Y2, Y9, Xy (fun h => hpi ⟨rfl, h.symm⟩), <- Y2];exact F
  ·by_cases U : p = s0
   ·subst U;have hiq : i ≠ q := fun h => hpq ⟨rfl, h⟩;refine ⟨fun lf v ⟨F, o2, o3⟩ => ⟨?_, o2, o3⟩, by show bs' p (i + 1) = _; rw [L]; exact X2 om, fun _ _ => rfl⟩;rw [hEs'];have F : (E p).leaf? i = some lf := F;rw [X] at F;simp only [AV.leaf?] at F ⊢;rw [Y2, Y9, Xy (Ne.symm hiq), <- Y2];exact F
   ·have hs4 := Z p (by simp only [X2h]; exact ⟨O, U⟩);exact ⟨fun lf v ho => ho.chg hs4.1 hs4.2.2.1, by rw [hs4.2.2.2], fun _ _ => rfl⟩
 have hptr : ∀ p, SamePtr ⟨E, tm, w, cs, bs⟩ s' p := by
  intro p;by_cases O : p = r
  ·subst O;refine ⟨rfl, fun e ls he => ?_⟩;have he : E p = _ := he;rw [W] at he;cases he;exact ⟨e, _, hEr'⟩
  ·by_cases U : p = s0
   ·subst U;refine ⟨rfl, fun e ls he => ?_⟩;have he : E p = _ := he;rw [X] at he;cases he;exact ⟨e, _, hEs'⟩
   ·have hs4 := Z p (by simp only [X2h]; exact ⟨O, U⟩);exact SamePtr.chg hs4.1 hs4.2.1
 have hLr : ∀ p, (∀ z ∈ (E p).refs, ¬ (z.1 = r /\ z.2 = j) /\ ¬ (z.1 = s0 /\ z.2 = q)) /\ (∀ z ∈ (E p).ptrs, True) := fun p =>
  ⟨fun z V => ⟨fun h2 => hk3 p z V (Prod.ext h2.1 h2.2), fun h2 => by
   obtain ⟨lf, v, ho⟩ := (D.av p).refs_own.1 z V;rw [h2.1, h2.2] at ho;exact hnoq lf v ho⟩, fun _ _ => trivial⟩
 have hrs : r ≠ s0 := Ne.symm hne;have hmain : Rel c s' := by
  refine Rel.step (s' := s') noG D (fun p => p = r \/ p = s0) (fun p i => ¬ (p = r /\ i = j) /\ ¬ (p = s0 /\ i = q)) (fun _ => True) Z (X1f _ _) (fun b _ _ => rfl)
   (fun p l b hD N => ?_) (fun p1 l1 p2 l2 b hD hD' A y => ?_) (fun p l hD => ?_) (fun p _ => hLr p) (fun hkp => ⟨Yl hkp hown, Y13 hkp hown, fun p _ _ => hptr p⟩) (fun hkp p hD => ?_)
  ·rcases hD with rfl | rfl
   ·rw [show s'.bs p = _ from I] at N
    replace N : b ∈ (if l = j + 1 then [] else bs p l) := N
    split at N
    ·simp at N
    ·exact ⟨(D.own _ _ _ N).2, .inr ⟨p, l, .inl rfl, N⟩⟩
   ·rw [show s'.bs p = _ from L] at N
    replace N : b ∈ (if l = q + 1 then bq else bs p l) := N
    split at N
    ·exact ⟨(D.own _ _ _ (M _ N)).2, .inr ⟨r, j + 1, .inl rfl, M _ N⟩⟩
    ·exact ⟨(D.own _ _ _ N).2, .inr ⟨p, l, .inr rfl, N⟩⟩
  ·rcases hD with rfl | rfl <;> rcases hD' with rfl | rfl
   ·rw [show s'.bs p2 = _ from I] at A y
    replace A : b ∈ (if l1 = j + 1 then [] else bs p2 l1) := A
    replace y : b ∈ (if l2 = j + 1 then [] else bs p2 l2) := y
    split at A
    ·simp at A
    ·split at y
     ·simp at y
     ·exact D.disj _ _ _ _ _ A y
   ·exfalso;rw [show s'.bs p1 = _ from I] at A;rw [show s'.bs p2 = _ from L] at y
    replace A : b ∈ (if l1 = j + 1 then [] else bs p1 l1) := A
    replace y : b ∈ (if l2 = q + 1 then bq else bs p2 l2) := y
    split at A
    ·simp at A
    ·rename_i hn1;split at y
     ·exact hn1 (D.disj _ _ _ _ _ A (M _ y)).2
     ·exact hrs (D.disj _ _ _ _ _ A y).1
   ·exfalso;rw [show s'.bs p2 = _ from I] at y;rw [show s'.bs p1 = _ from L] at A
    replace y : b ∈ (if l2 = j + 1 then [] else bs p2 l2) := y
    replace A : b ∈ (if l1 = q + 1 then bq else bs p1 l1) := A
    split at y
    ·simp at y
    ·rename_i hn1;split at A
     ·exact hn1 (D.disj _ _ _ _ _ y (M _ A)).2
     ·exact hrs (D.disj _ _ _ _ _ y A).1
   ·rw [show s'.bs p2 = _ from L] at A y
    replace A : b ∈ (if l1 = q + 1 then bq else bs p2 l1) := A
    replace y : b ∈ (if l2 = q + 1 then bq else bs p2 l2) := y
    split at A
    ·split at y
     ·exact ⟨rfl, om⟩
     ·exact (hrs (D.disj _ _ _ _ _ (M _ A) y).1).elim
    ·split at y
     ·exact (hrs (D.disj _ _ _ _ _ (M _ y) A).1).elim
     ·exact D.disj _ _ _ _ _ A y
  ·rcases hD with rfl | rfl
   ·rw [show s'.bs p = _ from I];show (if l = j + 1 then [] else bs p l).Nodup;split
    ·exact X13
    ·exact D.nodup _ _
   ·rw [show s'.bs p = _ from L];show (if l = q + 1 then bq else bs p l).Nodup;split
    ·exact hbqn
    ·exact D.nodup _ _
  ·have leaf : ∀ (p l : Nat) (lf : Leaf) (v : Value), (∃ k ls, E p = .con k ls /\ leafAt ls l = some lf) -> s'.bs p (l + 1) = bs p (l + 1) -> LeafRel c ⟨E, tm, w, cs, bs⟩ p l v lf -> LeafRel c s' p l v lf := by
    intro p l lf v ⟨k1, ls1, e1, e2⟩ N h6;have := h6.chg (g := noG) (r' := p) hkp (Yl hkp hown) (fun z V => by
     have := (hLr p).1 z (by rw [e1]; simp only [AV.refs, Xi]; exact ⟨lf, Yc e2, V⟩);exact this) N (fun _ _ => rfl)
    have hno1 : lf.chg noG = lf := by obtain ⟨t, x, m⟩ := lf; cases m <;> rfl
    rw [hno1] at this;exact this
   rcases hD with rfl | rfl
   ·have G := D.av p;simp only [show chgE (killPG p j) env p = _ from W] at G;obtain ⟨g1, g2, g3, g4⟩ := G;rw [hEr'];refine ⟨?_, by rw [Y9, Xz]; exact g2, fun l C => ?_, fun l lf v C hu2 => ?_⟩
    ·rw [show s'.bs p = _ from I];exact g1
    ·rw [Y9, Xz] at C;rw [show s'.bs p = _ from I];show (if l + 1 = j + 1 then [] else bs p (l + 1)) = [];split
     ·rfl
     ·exact g3 l C
    ·rw [Y2, Y9] at C;by_cases hlj2 : l = j
     ·subst hlj2;rw [X1i hjlt] at C;simp only [X0] at C;subst C;refine ⟨by rw [show s'.bs p = _ from I]; simp, ?_⟩;have hu' : v = u0 := by rw [show (s'.cs p)[l]? = some u0 from hcj] at hu2; exact (Xq hu2).symm
      rw [hu'];exact Rep.one hrepj _ sm
     ·rw [Xy (fun h => hlj2 h.symm), <- Y2] at C;exact leaf p l lf v ⟨_, _, W, C⟩ (by rw [show s'.bs p = _ from I]; show (if l + 1 = j + 1 then [] else bs p (l + 1)) = _; rw [X2 om]) (g4 l lf v C hu2)
   ·have G := D.av p;simp only [show chgE (killPG r j) env p = _ from X] at G;obtain ⟨g1, g2, g3, g4⟩ := G;rw [hEs'];refine ⟨?_, by rw [Y9, Xz]; exact g2, fun l C => ?_, fun l lf v C hu2 => ?_⟩
    ·rw [show s'.bs p = _ from L];exact g1
    ·rw [Y9, Xz] at C;rw [show s'.bs p = _ from L];show (if l + 1 = q + 1 then bq else bs p (l + 1)) = [];rw [X2 (by rw [Yu] at C; omega)];exact g3 l C
    ·rw [Y2, Y9] at C;by_cases hlq : l = q
     ·subst hlq;rw [X1i (by rw [Yu]; exact hqlt)] at C;simp only [X0] at C;subst C;have hu' : v = u := by rw [show (s'.cs p)[l]? = some u from hu] at hu2; exact (Xq hu2).symm
      rw [hu'];refine LeafRel.of_rep (lv := .dp) trivial ?_;rw [show s'.bs p = _ from L];simp only [X1p];exact Rep.move (fun b N hl => hkp b N hl) (fun _ _ => rfl) hrepq
     ·rw [Xy (fun h => hlq h.symm), <- Y2] at C;exact leaf p l lf v ⟨_, _, X, C⟩ (by rw [show s'.bs p = _ from L]; show (if l + 1 = q + 1 then _ else bs p (l + 1)) = _; rw [X2 om]) (g4 l lf v C hu2)
 refine ⟨bs', hmain, fun p => ?_⟩;have hc := Yi (Y1d r j) (env p);have setR : ∀ (k1 : Kind) (ls1 : List Leaf) (i : Nat) (l : Leaf), l.refs = [] -> ∀ z ∈ (AV.con k1 (setAt ls1 i l)).refs, z ∈ (AV.con k1 ls1).refs := by
  intro k1 ls1 i l hl z V;rw [Y9] at V;simp only [AV.refs, Xi] at V ⊢;obtain ⟨lf, hmm, V⟩ := V;rcases X25 hmm with hmm | rfl
  ·exact ⟨lf, hmm, V⟩
  ·rw [hl] at V; simp at V
 by_cases U : p = s0
 ·subst U;rw [show pullNE r j p q _ _ env p = _ from hEs'];refine ⟨fun z V => ?_, by simp [AV.ptrs]⟩;have := setR _ _ _ _ rfl z V;rw [<- X] at this;exact hc.1 z this
 ·by_cases O : p = r
  ·subst O;rw [show pullNE p j s0 q _ _ env p = _ from hEr'];refine ⟨fun z V => ?_, by simp [AV.ptrs]⟩;have := setR _ _ _ _ rfl z V;rw [<- W] at this;exact hc.1 z this
  ·rw [show pullNE r j s0 q _ _ env p = E p from by show upd _ s0 _ p = _; rw [Y1 _ _ U, Y1 _ _ O]];exact hc
theorem El.pick {α D : Type} {P : List Value -> α -> List Nat -> Prop} {Q : List Value -> D -> List Nat -> Prop} : ∀ {l : List α} {cells : List Value} {bs : List Nat} (off : Nat) (ix : List Int) (us : List Value) (ys : List D), El P 1 cells l bs -> ix.Pairwise (· < ·) -> (∀ i ∈ ix, (off : Int) <= i /\ i < (off : Int) + l.length) -> us.length = ix.length -> ys.length = ix.length ->
  (∀ (k : Nat) (i : Int), ix[k]? = some i -> us[k]? = cells[(i - off).toNat]?) -> (∀ (k : Nat) (u : Value) (y : D), us[k]? = some u -> ys[k]? = some y -> ∀ x b, P [u] x b -> Q [u] y b) -> ∃ g, El Q 1 us ys g /\ g.Sublist bs
 | l, cells, bs, off, [], us, ys, h, hs, hr, hu, hy, hc, hq => by
  obtain rfl : us = [] := Xo.1 hu;obtain rfl : ys = [] := Xo.1 hy;exact ⟨[], ⟨rfl, rfl⟩, List.nil_sublist _⟩
 | [], cells, bs, off, i :: ix, us, ys, h, hs, hr, hu, hy, hc, hq => by
  have := hr i sm;simp at this;omega
 | x :: l, cells, bs, off, i :: ix, us, ys, ⟨c, xs', b, bs', e, lc, eb, p, t⟩, hs, hr, hu, hy, hc, hq => by
  obtain ⟨E, rfl⟩ := X1r.1 lc;subst e;subst eb;rw [X1j] at hs;have N := hr i sm;by_cases F : i = (off : Int)
  ·match us, ys, hu, hy with
   | u :: us, y :: ys, hu, hy =>
    have B : u = E := by
     have := hc 0 i rfl;rw [F, show (((off : Int) - off).toNat) = 0 by omega] at this;simpa using this
    subst B;have I := hq 0 u y rfl rfl x b p;obtain ⟨g, C, k2⟩ := El.pick (off + 1) ix us ys t hs.2 (fun j m => by
     have A := hs.1 j m;have q := hr j (by simp [m]);simp at q;omega) (by simpa using hu) (by simpa using hy) (fun k j z => by
     have := hc (k + 1) j z;have A := hs.1 j (X8 z);rw [X1l] at this;rw [this, show (j - (off : Int)).toNat = (j - ((off + 1 : Nat) : Int)).toNat + 1 by omega];rfl) (fun k L M A q => hq (k + 1) L M A q)
    exact ⟨b ++ g, ⟨[u], us, b, g, rfl, rfl, rfl, I, C⟩, X2n (X2u _) k2⟩
  ·obtain ⟨g, C, k2⟩ := El.pick (off + 1) (i :: ix) us ys t (X1j.2 hs) (fun j m => by
    have q := hr j m;simp at q;have : i <= j :=gr;omega) hu hy (fun k j z => by
    have G := hc k j z;have : i <= j := by
     rcases Xr.1 (X8 z) with rfl | m
     ·grind
     ·grind
    rw [G, show (j - (off : Int)).toNat = (j - ((off + 1 : Nat) : Int)).toNat + 1 by omega];rfl) hq
   exact ⟨g, C, k2.trans (List.sublist_append_right _ _)⟩
def pullSE (r j s0 : Nat) (b g : Leaf) (E : Nat -> AV) : Nat -> AV :=
 upd (upd (chgE (killPG r j) E) r ((chgE (killPG r j) E r).setLeaf j b)) s0 (.con .val [g])
theorem Rel.pullS_ (h : Rel c s) {r j s0 : Nat} {e e' e2 : TypeId} {ix : List Int} {x xs : List (List t.D)} (hf : t.flatB = true) (hs : s.env s0 = .sel r j e e2 t ix x) (hne : s0 ≠ r) (hl : (s.env r).leaf? j = some ⟨.slice e' (.slice e2 t), xs, .at_ .dp⟩) :
  ∃ I bs', Rel c ⟨pullSE r j s0 ⟨.slice e' (.slice e2 t), xs, .dead⟩ ⟨.slice e (.slice e2 t), x, .at_ .dp⟩ s.env, s.tm, s.w, I, bs'⟩ /\
   ∀ p, (∀ z ∈ (pullSE r j s0 ⟨.slice e' (.slice e2 t), xs, .dead⟩ ⟨.slice e (.slice e2 t), x, .at_ .dp⟩ s.env p).refs, z ∈ (s.env p).refs) /\ (∀ z ∈ (pullSE r j s0 ⟨.slice e' (.slice e2 t), xs, .dead⟩ ⟨.slice e (.slice e2 t), x, .at_ .dp⟩ s.env p).ptrs, z ∈ (s.env p).ptrs) := by
 obtain ⟨env, tm, w, cs, bs⟩ := s;simp only at hs hl ⊢;have hav0 := h.av s0;simp only [hs] at hav0;obtain ⟨⟨A, hb0⟩, ⟨ad0, hanch⟩, W, hown, hixl, hso, hrow⟩ := hav0;have hb0 : bs s0 0 = (tm s0).ownBlock.toList := hb0;have hown : w.ownsRow 0 e 1 (tm s0) x.length W := hown;have hxl : W.length = x.length := by simpa using hown.1
 obtain ⟨G, hk3⟩ := h.killPlace_ r j;simp only at G hk3;obtain ⟨k0, ls0, hv0⟩ : ∃ k ls, env r = .con k ls := by
  cases hv : env r with
  | con k ls => exact ⟨k, ls, rfl⟩
  | _ => rw [hv] at hl; simp [AV.leaf?] at hl
 have hl' : leafAt ls0 j = some ⟨.slice e' (.slice e2 t), xs, .at_ .dp⟩ := by rw [hv0] at hl; exact hl
 let E := chgE (killPG r j) env
 have hEr : E r = .con k0 (chgs (killPG r j) ls0) := by show (env r).chg _ = _; rw [hv0]; rfl
 have hEs : E s0 = .junk := by show (env s0).chg _ = _; rw [hs]; simp [AV.chg, killPG]
 have hlj : leafAt (chgs (killPG r j) ls0) j = some ⟨.slice e' (.slice e2 t), xs, .at_ .dp⟩ := by
  rw [Yf, hl'];rfl
 have hjlt : j < (chgs (killPG r j) ls0).length := by rw [Y2] at hlj; exact (X5.1 hlj).1
 have havr := G.av r;simp only [show chgE (killPG r j) env r = _ from hEr] at havr;obtain ⟨g1, g2, g3, g4⟩ := havr;have g2 : (chgs (killPG r j) ls0).length = (cs r).length := g2;obtain ⟨u0, hcj⟩ : ∃ u0, (cs r)[j]? = some u0 := ⟨_, X1 om⟩;have hrepj : Rep (RoS c ⟨E, tm, w, cs, bs⟩) w (.slice e' (.slice e2 t)) .dp [u0] xs (bs r (j + 1)) := LeafRel.rep (g4 j _ _ hlj hcj);have hrepj0 := hrepj;obtain ⟨v0, xc, b0, b1, f1, f2, hel, hrw⟩ := hrepj;obtain rfl : u0 = v0 := by simpa using f1
 have hrw : b0 = u0.ownBlock.toList /\ w.ownsRow 0 e' 1 u0 xs.length xc := hrw
 -- each row that was gathered
 have hat : ∀ (k : Nat) (i : Int) (y : List t.D), ix[k]? = some i -> x[k]? = some y -> (0 <= i /\ i.toNat < xs.length) /\ ∃ u, W[k]? = some u /\ xc[i.toNat]? = some u /\ ∃ S : Nat -> Prop, Rep S w (.slice e2 t) .ro [u] y [] := by
  intro k i y hi hy;obtain ⟨u, hu, grep, _, g9⟩ := hrow k i y hi hy;obtain ⟨a, ⟨_, lf2, u2, ⟨O, o2, o3⟩, o4⟩, Z⟩ := g9 i 0 rfl;obtain ⟨e1, t1, xs1, m1, B, n, cp, p1, p2, p3, p4, p5⟩ := o4.1 rfl;have O : (env r).leaf? j = some lf2 := O;rw [hl] at O;simp only [X0] at O;rw [p1] at O;simp only [Leaf.mk.injEq, Ty.slice.injEq] at O;obtain ⟨⟨rfl, rfl⟩, o1x, _⟩ := O;have o1x := X2z o1x;subst o1x;have o3 : (cs r)[j]? = some u2 := o3;have e0 : u2 = u0 := by rw [hcj] at o3; exact (Xq o3).symm
  subst e0;refine ⟨⟨p3, p4⟩, u, hu, ?_, _, grep⟩;have hw := hrw.2;have Z : w.cell? a = some u := Z;have p5 : a = ⟨B, i.toNat, none⟩ := by rw [p5]; simp [Ty.sz]
  subst p2;obtain ⟨_, ⟨y1, _⟩ | ⟨g, cap, cur, y1, _⟩⟩ := hrw.2
  ·simp at y1
  ·simp only [Value.slice.injEq, X0, X2x, and_true] at y1;obtain ⟨rfl, rfl, rfl⟩ := y1;have := hw.cellAt i.toNat om;rw [<- p5, Z] at this;exact this.symm
 have hyk : ∀ (k : Nat) (i : Int), ix[k]? = some i -> ∃ y, x[k]? = some y := fun k i hk => ⟨_, X1 (by rw [<- hixl]; exact (X5.1 hk).1)⟩;obtain ⟨q, q1, q2⟩ := El.pick (P := Rep (RoS c ⟨E, tm, w, cs, bs⟩) w (.slice e2 t) .dp) (Q := Rep (RoS c ⟨E, tm, w, cs, bs⟩) w (.slice e2 t) .dp) 0 ix W x hel hso
  (fun i hi => by
   obtain ⟨k, hk⟩ := Xx hi;obtain ⟨y, hy⟩ := hyk k i hk;have := (hat k i y hk hy).1;omega) om om
  (fun k i hk => by
   obtain ⟨y, hy⟩ := hyk k i hk;obtain ⟨_, u, h1, X, _⟩ := hat k i y hk hy;rw [h1, show (i - ((0 : Nat) : Int)).toNat = i.toNat by omega, X])
  (fun k u y hu hy x' b hP => by
   have hk : k < ix.length := by rw [hixl]; exact (X5.1 hy).1
   obtain ⟨_, u', h1, _, S, h3⟩ := hat k _ y (X1 hk) hy;rw [hu] at h1;obtain rfl := Xq h1;exact Y9d hf h3 hP)
 have M : ∀ b ∈ q, b ∈ bs r (j + 1) := fun b F => by rw [f2]; exact Xf _ (q2.subset F)
 have hownm : ∀ b, (tm s0).ownBlock = some b -> b ∈ bs s0 0 := fun b F => by rw [hb0]; exact Yk.2 F
 let ow := (tm s0).ownBlock.toList
 have howm : ∀ b ∈ ow, b ∈ bs s0 0 := fun b F => hownm b (Yk.1 F);have hnd : (ow ++ q).Nodup := by
  refine X12.2 ⟨?_, ?_, fun b F b' hb' e => ?_⟩
  ·show ((tm s0).ownBlock.toList).Nodup;cases (tm s0).ownBlock <;> simp
  ·refine q2.nodup ?_;have := G.nodup r (j + 1);rw [show (⟨chgE (killPG r j) env, tm, w, cs, bs⟩ : St).bs r (j + 1) = b0 ++ b1 from f2] at this;exact (X12.1 this).2.1
  ·subst e;exact hne (G.disj _ _ _ _ _ (howm b F) (M b hb')).1
 have hrepS : Rep (RoS c ⟨E, tm, w, cs, bs⟩) w (.slice e (.slice e2 t)) .dp [tm s0] x (ow ++ q) := ⟨tm s0, W, ow, q, rfl, rfl, q1, rfl, hown⟩
 let dl : Leaf := ⟨.slice e' (.slice e2 t), xs, .dead⟩
 let nl : Leaf := ⟨.slice e (.slice e2 t), x, .at_ .dp⟩
 let bs' : Nat -> Nat -> List Nat := upd (upd bs r (fun l => if l = j + 1 then [] else bs r l)) s0 (fun l => if l = 1 then ow ++ q else [])
 let I : Nat -> List Value := upd cs s0 [tm s0]
 let s' : St := ⟨pullSE r j s0 dl nl env, tm, w, I, bs'⟩
 have hEs' : s'.env s0 = .con .val [nl] := Y0 _ _ _;have hEr' : s'.env r = .con k0 (setAt (chgs (killPG r j) ls0) j dl) := by
  show upd _ s0 _ r = _;rw [Y1 _ _ (Ne.symm hne), Y0, show chgE (killPG r j) env r = _ from hEr]; rfl
 have L : bs' r = fun l => if l = j + 1 then [] else bs r l := by
  show upd _ s0 _ r = _;rw [Y1 _ _ (Ne.symm hne), Y0]
 have U : bs' s0 = fun l => if l = 1 then ow ++ q else [] := Y0 _ _ _
 have hcr : I r = cs r := Y1 _ _ (Ne.symm hne);have hcs : I s0 = [tm s0] := Y0 _ _ _;have hsame : ∀ p, ¬ (p = r \/ p = s0) -> s'.env p = (E p).chg noG /\ s'.tm p = tm p /\ s'.cs p = cs p /\ s'.bs p = bs p := fun p hp => by
  simp only [X2h] at hp;refine ⟨by rw [AV.chg_no]; show upd _ s0 _ p = _; rw [Y1 _ _ hp.2, Y1 _ _ hp.1], rfl, Y1 _ _ hp.2, ?_⟩;show upd _ s0 _ p = _;rw [Y1 _ _ hp.2, Y1 _ _ hp.1]
 have hnos : ∀ i lf v, ¬ OwnPlace ⟨E, tm, w, cs, bs⟩ s0 i lf v := by
  rintro i lf v ⟨O, _⟩
  have O : (E s0).leaf? i = some lf := O;rw [hEs] at O;simp [AV.leaf?] at O
 have hownP : ∀ p i, ¬ (p = r /\ i = j) /\ p ≠ s0 -> SamePl ⟨E, tm, w, cs, bs⟩ s' p i := by
  intro p i ⟨hpi, hps⟩;by_cases V : p = r
  ·subst V;refine ⟨fun lf v ⟨O, o2, o3⟩ => ⟨?_, o2, by show (I p)[i]? = _; rw [hcr]; exact o3⟩, by show bs' p (i + 1) = _; rw [L]; exact X2 (fun h => hpi ⟨rfl, om⟩), fun _ _ => rfl⟩;rw [hEr'];have O : (E p).leaf? i = some lf := O;rw [hEr] at O;simp only [AV.leaf?] at O ⊢;rw [Y2, Y9, Xy (fun h => hpi ⟨rfl, h.symm⟩), <- Y2];exact O
  ·have hs4 := hsame p (by simp only [X2h]; exact ⟨V, hps⟩);exact ⟨fun lf v ho => ho.chg hs4.1 hs4.2.2.1, by rw [hs4.2.2.2], fun _ _ => rfl⟩
 have hptr : ∀ p, p ≠ s0 -> SamePtr ⟨E, tm, w, cs, bs⟩ s' p := by
  intro p hps;by_cases V : p = r
  ·subst V;refine ⟨rfl, fun e ls he => ?_⟩;have he : E p = _ := he;rw [hEr] at he;cases he;exact ⟨e, _, hEr'⟩
  ·have hs4 := hsame p (by simp only [X2h]; exact ⟨V, hps⟩);exact SamePtr.chg hs4.1 hs4.2.1
 have hLr : ∀ p, (∀ z ∈ (E p).refs, ¬ (z.1 = r /\ z.2 = j) /\ z.1 ≠ s0) /\ (∀ z ∈ (E p).ptrs, z ≠ s0) := fun p =>
  ⟨fun z Y => ⟨fun X => hk3 p z Y (Prod.ext X.1 X.2), fun X => by
   obtain ⟨lf, v, ho⟩ := (G.av p).refs_own.1 z Y;rw [X] at ho;exact hnos _ lf v ho⟩, fun z Y X => by
   obtain ⟨off, v, e3, ls, B, ho, _⟩ := (G.av p).refs_own.2 z Y;have ho : E z = _ := ho;rw [X, hEs] at ho;cases ho⟩
 have hrs : r ≠ s0 := Ne.symm hne;have hmain : Rel c s' := by
  refine Rel.step (s' := s') noG G (fun p => p = r \/ p = s0) (fun p i => ¬ (p = r /\ i = j) /\ p ≠ s0) (fun p => p ≠ s0) hsame (X1f _ _) (fun b _ _ => rfl)
   (fun p l b hD F => ?_) (fun p1 l1 p2 l2 b hD hD' A D => ?_) (fun p l hD => ?_) (fun p _ => hLr p) (fun hkp => ⟨Yl hkp hownP, Y13 hkp hownP, fun p hp _ => hptr p hp⟩) (fun hkp p hD => ?_)
  ·rcases hD with rfl | rfl
   ·rw [show s'.bs p = _ from L] at F
    replace F : b ∈ (if l = j + 1 then [] else bs p l) := F
    split at F
    ·simp at F
    ·exact ⟨(G.own _ _ _ F).2, .inr ⟨p, l, .inl rfl, F⟩⟩
   ·rw [show s'.bs p = _ from U] at F
    replace F : b ∈ (if l = 1 then ow ++ q else []) := F
    split at F
    ·rcases X6.1 F with F | F
     ·exact ⟨(G.own _ _ _ (howm b F)).2, .inr ⟨p, 0, .inr rfl, howm b F⟩⟩
     ·exact ⟨(G.own _ _ _ (M b F)).2, .inr ⟨r, j + 1, .inl rfl, M b F⟩⟩
    ·simp at F
  ·have hsr : ∀ b l1 l2, b ∈ (if l1 = j + 1 then [] else bs r l1) -> b ∈ (if l2 = 1 then ow ++ q else []) -> False := fun b l1 l2 h1 X => by
    split at h1
    ·simp at h1
    ·rename_i hn1;split at X
     ·rcases X6.1 X with X | X
      ·exact hrs (G.disj _ _ _ _ _ h1 (howm b X)).1
      ·exact hn1 (G.disj _ _ _ _ _ h1 (M b X)).2
     ·simp at X
   rcases hD with rfl | rfl <;> rcases hD' with rfl | rfl
   ·rw [show s'.bs p2 = _ from L] at A D
    replace A : b ∈ (if l1 = j + 1 then [] else bs p2 l1) := A
    replace D : b ∈ (if l2 = j + 1 then [] else bs p2 l2) := D
    split at A
    ·simp at A
    ·split at D
     ·simp at D
     ·exact G.disj _ _ _ _ _ A D
   ·exfalso;rw [show s'.bs p1 = _ from L] at A;rw [show s'.bs p2 = _ from U] at D;exact hsr b l1 l2 A D
   ·exfalso;rw [show s'.bs p2 = _ from L] at D;rw [show s'.bs p1 = _ from U] at A;exact hsr b l2 l1 D A
   ·rw [show s'.bs p2 = _ from U] at A D
    replace A : b ∈ (if l1 = 1 then ow ++ q else []) := A
    replace D : b ∈ (if l2 = 1 then ow ++ q else []) := D
    split at A
    ·split at D
     ·exact ⟨rfl, om⟩
     ·simp at D
    ·simp at A
  ·rcases hD with rfl | rfl
   ·rw [show s'.bs p = _ from L];show (if l = j + 1 then [] else bs p l).Nodup;split
    ·exact X13
    ·exact G.nodup _ _
   ·rw [show s'.bs p = _ from U];show (if l = 1 then ow ++ q else []).Nodup;split
    ·exact hnd
    ·exact X13
  ·rcases hD with rfl | rfl
   ·rw [hEr'];refine ⟨?_, by rw [Y9, Xz]; show _ = (I p).length; rw [hcr]; exact g2, fun l C => ?_, fun l lf v C N => ?_⟩
    ·rw [show s'.bs p = _ from L, show s'.cs p = _ from hcr];exact g1
    ·rw [Y9, Xz] at C;rw [show s'.bs p = _ from L];show (if l + 1 = j + 1 then [] else bs p (l + 1)) = [];split
     ·rfl
     ·exact g3 l C
    ·rw [Y2, Y9] at C;rw [show s'.cs p = _ from hcr] at N;by_cases hlj2 : l = j
     ·subst hlj2;rw [X1i hjlt] at C;simp only [X0] at C;subst C;refine ⟨by rw [show s'.bs p = _ from L]; simp, ?_⟩;have hu' : v = u0 := by rw [hcj] at N; exact (Xq N).symm
      rw [hu'];exact Rep.one hrepj0 _ sm
     ·rw [Xy (fun h => hlj2 h.symm), <- Y2] at C;have h6 := g4 l lf v C N;have := h6.chg (g := noG) (r' := p) (s' := s') hkp (Yl hkp hownP) (fun z Y => (hLr p).1 z (by rw [hEr]; simp only [AV.refs, Xi]; exact ⟨lf, Yc C, Y⟩)) (by rw [show s'.bs p = _ from L]; show (if l + 1 = j + 1 then [] else bs p (l + 1)) = _; rw [X2 om]) (fun _ _ => rfl);have hno1 : lf.chg noG = lf := by obtain ⟨t, x, m⟩ := lf; cases m <;> rfl
      rw [hno1] at this;exact this
   ·rw [hEs'];refine ⟨⟨hcs, by rw [show s'.bs p = _ from U]; rfl⟩, by show 1 = (I p).length; rw [hcs]; rfl, fun l C => ?_, fun l lf v C N => ?_⟩
    ·rw [show s'.bs p = _ from U];exact X2 (by simp only [X30] at C; omega)
    ·cases l with
     | zero =>
      simp only [leafAt, X0] at C;subst C;have N : (I p)[0]? = some v := N;rw [hcs] at N;have hu' : v = tm p := by simpa using N.symm
      rw [hu'];refine LeafRel.of_rep (lv := .dp) trivial ?_;rw [show s'.bs p = _ from U];simp only [X14, X1p];exact Rep.move (fun b F hl => hkp b F hl) (fun _ _ => rfl) hrepS
     | succ l => simp [leafAt] at C
 refine ⟨I, bs', hmain, fun p => ?_⟩;have hc := Yi (Y1d r j) (env p);have setR : ∀ (k1 : Kind) (ls1 : List Leaf) (i : Nat) (l : Leaf), l.refs = [] -> ∀ z ∈ (AV.con k1 (setAt ls1 i l)).refs, z ∈ (AV.con k1 ls1).refs := by
  intro k1 ls1 i l hl z Y;rw [Y9] at Y;simp only [AV.refs, Xi] at Y ⊢;obtain ⟨lf, hmm, Y⟩ := Y;rcases X25 hmm with hmm | rfl
  ·exact ⟨lf, hmm, Y⟩
  ·rw [hl] at Y; simp at Y
 by_cases hps : p = s0
 ·subst hps;rw [show pullSE r j p _ _ env p = _ from hEs'];exact ⟨by simp [AV.refs, Leaf.refs, nl], by simp [AV.ptrs]⟩
 ·by_cases V : p = r
  ·subst V;rw [show pullSE p j s0 _ _ env p = _ from hEr'];refine ⟨fun z Y => ?_, by simp [AV.ptrs]⟩;have := setR _ _ _ _ rfl z Y;rw [<- hEr] at this;exact hc.1 z this
  ·rw [show pullSE r j s0 _ _ env p = E p from by show upd _ s0 _ p = _; rw [Y1 _ _ hps, Y1 _ _ V]];exact hc
theorem RP.pullN (h : RP c env tmps w ps vs) (U : ∀ r, Settled (ps r)) (s : Nat) : RP c (pullN s env) tmps w ps vs /\ (Go.FP.pullN s env).length = env.length := by
 unfold Go.FP.pullN;split
 ·rename_i e t x r j i C;split
  ·rename_i e' te xs G;split
   ·rename_i M;obtain ⟨rfl, N, B⟩ := M;have g : s < env.length := Xs fun V => by rw [Y11 env s om] at C; cases C
    have y : r < env.length := Y1g G;obtain ⟨l, cs, bs, D, m⟩ := h;have D : Rel c (SS env ps tmps vs w cs bs) := D;obtain ⟨bs', L, F⟩ := D.pullN_ (s0 := s) (r := r) (j := j) (q := 0) (k := .val) (ls := [⟨.slice e t, x, .bor r j [(i, 0)]⟩]) (e := e) (e' := e') (t := t) (x := x) (xs := xs) (i := i) N (by show ovl env ps s = _; rw [Y7 g]; exact C) rfl B (by show (ovl env ps r).leaf? j = _; rw [Y7 y]; exact G);have b : (killPlace r j env).length = env.length := Y8 _ _;have A : pullNE r j s 0 ⟨.slice e' (.slice e t), xs, .dead⟩ ⟨.slice e t, x, .at_ .dp⟩ (ovl env ps) = ovl (put (put (killPlace r j env) r ((get (killPlace r j env) r).setLeaf j ⟨.slice e' (.slice e t), xs, .dead⟩)) s ((get (put (killPlace r j env) r ((get (killPlace r j env) r).setLeaf j ⟨.slice e' (.slice e t), xs, .dead⟩)) s).setLeaf 0 ⟨.slice e t, x, .at_ .dp⟩)) ps := by
     unfold pullNE;rw [Yt (by rw [Y5, b]; exact g), Yt gr, Y16, X2 (fun h => B h.1)];have A : ∀ p, p < env.length -> chgE (killPG r j) (ovl env ps) p = get (killPlace r j env) p := fun p O => by
      show (ovl env ps p).chg _ = _;rw [Y7 O]; unfold killPlace; rw [Y12]
     rw [A r y, A s g];congr 2;exact Y1s _ _ _ U
    refine ⟨⟨by rw [Y5, Y5, b]; exact l, cs, bs', Rel.congr L A rfl, fun p => ?_⟩, by rw [Y5, Y5, b]⟩;rw [Y5, Y5, b, <- A];exact ⟨fun z E => (m p).1 z ((F p).1 z E), fun z E => (m p).2 z ((F p).2 z E)⟩
   ·exact ⟨h, rfl⟩
  ·exact ⟨h, rfl⟩
 ·rename_i r j e e2 t ix x C;split
  ·rename_i e' te xs G;split
   ·rename_i M;obtain ⟨rfl, N, B⟩ := M;have g : s < env.length := Xs fun V => by rw [Y11 env s om] at C; cases C
    have y : r < env.length := Y1g G;obtain ⟨l, cs, bs, D, m⟩ := h;have D : Rel c (SS env ps tmps vs w cs bs) := D;obtain ⟨I, bs', L, F⟩ := D.pullS_ (s0 := s) (r := r) (j := j) (e := e) (e' := e') (e2 := e2) (t := t) (ix := ix) (x := x) (xs := xs) N (by show ovl env ps s = _; rw [Y7 g]; exact C) B (by show (ovl env ps r).leaf? j = _; rw [Y7 y]; exact G);have b : (killPlace r j env).length = env.length := Y8 _ _;have A : pullSE r j s ⟨.slice e' (.slice e2 t), xs, .dead⟩ ⟨.slice e (.slice e2 t), x, .at_ .dp⟩ (ovl env ps) = ovl (put (put (killPlace r j env) r ((get (killPlace r j env) r).setLeaf j ⟨.slice e' (.slice e2 t), xs, .dead⟩)) s (.con .val [⟨.slice e (.slice e2 t), x, .at_ .dp⟩])) ps := by
     unfold pullSE;rw [Yt (by rw [Y5, b]; exact g), Yt gr];have A : ∀ p, p < env.length -> chgE (killPG r j) (ovl env ps) p = get (killPlace r j env) p := fun p O => by
      show (ovl env ps p).chg _ = _;rw [Y7 O]; unfold killPlace; rw [Y12]
     rw [A r y];congr 2;exact Y1s _ _ _ U
    refine ⟨⟨by rw [Y5, Y5, b]; exact l, I, bs', Rel.congr L A rfl, fun p => ?_⟩, by rw [Y5, Y5, b]⟩;rw [Y5, Y5, b, <- A];exact ⟨fun z E => (m p).1 z ((F p).1 z E), fun z E => (m p).2 z ((F p).2 z E)⟩
   ·exact ⟨h, rfl⟩
  ·exact ⟨h, rfl⟩
 ·exact ⟨h, rfl⟩
theorem RP.pullRes (g : ∀ r, Settled (ps r)) : ∀ (rs : List (Ty × Lvl)) (b : List ResultVar) {env : Env}, RP c env tmps w ps vs -> RP c (pullRes rs b env) tmps w ps vs
 | [], b, env, h => by cases b <;> exact h
 | p :: rs, [], env, h => h
 | (t, fr) :: rs, v :: b, env, h => by
  refine RP.pullRes g rs b ?_;split
  ·exact (h.pullN g _).1
  ·exact h
def zeroVal (t : Ty) : Value := if t.isAgg then .agg (zeroCells t).toArray else (zeroCells t).headD undef
def EqFs (P : Program) : List Field -> List Ty -> Nat -> Prop
 | [], [], _ => True
 | f :: fs, t :: ts, off => (f.name ≠ "_" /\ f.offset = off /\ (∀ w, (isAgg f.type).run P w = .ok false w) /\ match t with
   | .int k => P.underlying f.type = some (.int k)
   | .bool => P.underlying f.type = some .bool
   | .str => P.underlying f.type = some .string
   | _ => False) /\ EqFs P fs ts (off + 1)
 | _, _, _ => False
structure TEOk (P : Program) (e : TE) : Prop where
 func : e.fn = true -> ∃ i z ps rs v, P.info? e.id = some i /\ i.size = 1 /\ i.zero = some z /\ z.oneCell' = true /\ P.underlying e.id = some (.func ps rs v)
 info : e.fn = false -> ∃ i, P.info? e.id = some i /\ i.size = e.ty.sz /\ i.bytes = e.bytes /\ i.zero = some (zeroVal e.ty)
 desc : e.fn = false -> match e.ty with
  | .int k => P.underlying e.id = some (.int k)
  | .bool => P.underlying e.id = some .bool
  | .str => P.underlying e.id = some .string
  | .slice el _ => P.underlying e.id = some (.slice el)
  | _ => ∃ fs, P.underlying e.id = some (.struct fs) /\ ∀ (i off ft : Nat), e.fields[i]? = some (off, ft) -> ∃ f : Field, fs[i]? = some f /\ f.offset = off /\ f.type = ft
 places : e.fn = false -> e.ty.isAgg = true -> ∃ (fs : Array Field) (pl : List (Nat × Nat)), P.underlying e.id = some (.struct fs) /\ fs.toList.mapM (fun f => (P.info? f.type).map fun i => (f.offset, i.size)) = some pl
 eqs : e.eq = true -> (P.eqGuardType P.depth e.id = false /\ P.stoodInHeld e.id = false) /\ ∃ fs : Array Field, P.underlying e.id = some (.struct fs) /\ EqFs P fs.toList (flat e.ty) 0
def TabOk (P : Program) (T : Tab) : Prop := ∀ e ∈ T, TEOk P e
theorem Tab.isFn_mem : ∀ {T : Tab} {t : TypeId}, T.isFn t = true -> ∃ e ∈ T, e.fn = true /\ e.id = t
 | [], t, h => by simp [Tab.isFn] at h
 | e0 :: T, t, h => by
  simp [Tab.isFn] at h;rcases h with h | h
  ·grind
  ·obtain ⟨e, b, g⟩ := Tab.isFn_mem h;exact ⟨e, X3 _ b, g⟩
theorem Tab.te_mem : ∀ {T : Tab} {t : TypeId} {e : TE}, T.te t = some e -> e ∈ T /\ (e.id = t /\ e.fn = false)
 | [], t, e, h => by simp [Tab.te] at h
 | e0 :: T, t, e, h => by
  unfold Tab.te at h;split at h
  ·grind
  ·have := Tab.te_mem h;exact ⟨X3 _ this.1, this.2⟩
theorem Tab.ty_te {t : TypeId} (h : T.ty t = some τ) : ∃ e, T.te t = some e /\ e.ty = τ := by
 unfold Tab.ty at h;split at h
 ·grind
 ·simp at h
section
variable {P : Program} {T : Tab} (hT : TabOk P T)
include hT
theorem TabOk.info {t : TypeId} (h : T.ty t = some τ) : ∃ i, P.info? t = some i /\ i.size = τ.sz /\ i.zero = some (zeroVal τ) := by
 obtain ⟨e, g, rfl⟩ := Tab.ty_te h;obtain ⟨j, rfl, b⟩ := Tab.te_mem g;obtain ⟨i, l, k2, _, m⟩ := (hT e j).info b;exact ⟨i, l, k2, m⟩
theorem TabOk.fn {t : TypeId} (h : T.isFn t = true) : ∃ i z ps rs v, P.info? t = some i /\ i.size = 1 /\ i.zero = some z /\ z.oneCell' = true /\ P.underlying t = some (.func ps rs v) := by
 obtain ⟨e, b, g, rfl⟩ := Tab.isFn_mem h;exact (hT e b).func g
theorem TabOk.agg {t : TypeId} (h : T.ty t = some τ) (w : World) : (isAgg t).run P w = .ok τ.isAgg w := by
 obtain ⟨e, l, rfl⟩ := Tab.ty_te h;obtain ⟨m, rfl, j⟩ := Tab.te_mem l;have := (hT e m).desc j;unfold isAgg;cases g : e.ty with
 | int k => rw [g] at this; simp [run_underlying this, Ty.isAgg]
 | bool => rw [g] at this; simp [run_underlying this, Ty.isAgg]
 | str => rw [g] at this; simp [run_underlying this, Ty.isAgg]
 | slice p τ => rw [g] at this; simp [run_underlying this, Ty.isAgg]
 | unit => rw [g] at this; obtain ⟨fs, i, _⟩ := this; simp [run_underlying i, Ty.isAgg]
 | pair a b => rw [g] at this; obtain ⟨fs, i, _⟩ := this; simp [run_underlying i, Ty.isAgg]
theorem TabOk.sizeOf {t : TypeId} (h : T.ty t = some τ) (w : World) : (sizeOf t).run P w = .ok τ.sz w := by
 obtain ⟨i, b, g, _⟩ := TabOk.info hT h;simp [Go.sizeOf, typeInfo, b, g]
theorem TabOk.zero {t : TypeId} (h : T.ty t = some τ) (w : World) : (zeroValue t).run P w = .ok (zeroVal τ) w := by
 obtain ⟨i, b, _, g⟩ := TabOk.info hT h;simp [zeroValue, typeInfo, b, g]
theorem TabOk.slice {t : TypeId} {g : TypeId} (h : T.ty t = some (.slice g τ)) : P.underlying t = some (.slice g) := by
 obtain ⟨e, i, l⟩ := Tab.ty_te h;obtain ⟨j, rfl, b⟩ := Tab.te_mem i;have := (hT e j).desc b;rw [l] at this;exact this
theorem TabOk.str {t : TypeId} (h : T.ty t = some .str) : P.underlying t = some .string := by
 obtain ⟨e, g, j⟩ := Tab.ty_te h;obtain ⟨i, rfl, b⟩ := Tab.te_mem g;have := (hT e i).desc b;rw [j] at this;exact this
theorem TabOk.int {t : TypeId} {k : IntKind} (h : T.ty t = some (.int k)) : P.underlying t = some (.int k) := by
 obtain ⟨e, g, j⟩ := Tab.ty_te h;obtain ⟨i, rfl, b⟩ := Tab.te_mem g;have := (hT e i).desc b;rw [j] at this;exact this
theorem TabOk.field {s : TypeId} {f off : Nat} (h : fieldAt T s f = some (off, τ)) : ∃ fs j, P.underlying s = some (.struct fs) /\ fs[f]? = some j /\ j.offset = off /\ T.ty j.type = some τ /\ τ.sz ≠ 0 := by
 unfold fieldAt at h;split at h
 ·rename_i e q;obtain ⟨p, rfl, l⟩ := Tab.te_mem q;split at h
  ·rename_i m z A;split at h
   ·rename_i t B;split at h
    ·simp at h
    ·rename_i i;simp at h;obtain ⟨rfl, rfl⟩ := h;have := (hT e p).desc l;cases g : e.ty with
     | int k => exact absurd (.inr (by rw [g]; rfl)) i
     | bool => exact absurd (.inr (by rw [g]; rfl)) i
     | str => exact absurd (.inr (by rw [g]; rfl)) i
     | slice y τ => exact absurd (.inr (by rw [g]; rfl)) i
     | unit => grind
     | pair a b => grind
   ·simp at h
  ·simp at h
 ·simp at h
theorem TabOk.elem {t : TypeId} (h : elemAt T t = some te) : T.ty t = some (.slice te.id te.ty) /\ P.underlying t = some (.slice te.id) /\ T.ty te.id = some te.ty /\ 0 < te.ty.sz /\ 0 < te.bytes /\ ∃ i, P.info? te.id = some i /\ i.size = te.ty.sz /\ i.bytes = te.bytes /\ i.zero = some (zeroVal te.ty) := by
 unfold elemAt at h;split at h
 ·rename_i e τ j;split at h
  ·rename_i y b;split at h
   ·rename_i q;simp at h;subst h;obtain ⟨l, rfl, g⟩ := Tab.te_mem b;obtain ⟨rfl, m, p⟩ := q;exact ⟨j, TabOk.slice hT j, by unfold Tab.ty; rw [b], m, p, (hT _ l).info g⟩
   ·simp at h
  ·simp at h
 ·simp at h
end
theorem RE.commit (h : RP c env tmps w (upd noP env.length av) vs) (b : d < env.length) : RE c (setD (some d) env av) (tmps.setIfInBounds d (vs env.length)) w := by
 have := h.commit (Xd _) b (fun r g => by rw [Y1 _ _ g]; exact .inl rfl);rw [Y0] at this;have e : upd (upd noP env.length av) env.length .undef = noP := by funext r; simp only [upd, noP]; split <;> rfl
 rw [e] at this;exact ⟨vs, this⟩
section
variable {P : Program} {o : Oper} {a : Act} {w : World} {R : Type} {K : Env -> Option R} {r : R} {next : Act -> World -> Prop} {Q : Exit -> Act -> World -> Prop} {c : Cx} {d : Nat}
def Next (c : Cx) (a : Act) (K : Env -> Option R) (r : R) (N : Nat) (next : Act -> World -> Prop) : Prop :=
 ∀ env' b w', K env' = some r -> RE c env' b.tmps w' -> env'.length = N -> b.defers = a.defers -> next b w'
theorem Y19 (b : Option Nat) (env : Env) (v : AV) : (setD b env v).length = env.length := by
 unfold setD;split
 ·split <;> simp [Y5, Y1j]
 ·rfl
theorem fin {b : Env} {N : Nat} (g : o.dst = some d) (i : (execOp a.eval o).run P w = .ok (.value v) w') (m : d < b.length) (l : b.length = N)
  (h : RP c b a.tmps w' (upd noP b.length av) vs) (q : vs b.length = v) (j : K (setD (some d) b av) = some r) (p : Next c a K r N next) : o.wp P a w next Q := by
 unfold Oper.wp;rw [i];show next (a.put o.dst v) w'
 rw [g];have := RE.commit h m;rw [q] at this;exact p _ _ _ j this (by rw [Y19, l]) rfl
theorem finV (j : RE c env a.tmps w) (b : o.dst = some d) (i : (execOp a.eval o).run P w = .ok (.value v) w) (m : d < env.length)
  (y : ∀ vs cs bs, Rel c (SS env noP a.tmps vs w cs bs) -> ∃ cells, ValC c (SS env noP a.tmps vs w cs bs) av v cells) (g : (∀ q ∈ av.refs, q.1 < env.length) /\ (∀ q ∈ av.ptrs, q < env.length))
  (l : K (setD (some d) env av) = some r) (p : Next c a K r env.length next) : o.wp P a w next Q := by
 obtain ⟨vs, h⟩ := j;have := h.addVal (Xd _) rfl (fun cs bs j => y vs cs bs j) g;exact fin b i m rfl this (Y0 _ _ _) l p
theorem RE.val (b : RE c env tmps w) (ty : Option Ty) (x : Operand) : ∀ vs cs bs, Rel c (SS env noP tmps vs w cs bs) -> ∃ cells, ValC c (SS env noP tmps vs w cs bs) (rd ty env x) (evT tmps x) cells :=
 fun vs cs bs h => Yo b.choose_spec.len h ty x
theorem RE.refs (b : RE c env tmps w) (ty : Option Ty) (x : Operand) : (∀ q ∈ (rd ty env x).refs, q.1 < env.length) /\ (∀ q ∈ (rd ty env x).ptrs, q < env.length) :=
 Y6b b.choose_spec ty x
theorem Y2z (h : ValC c s (.con .val [lf]) v cells) (g : lf.m.live = true) : ∃ S, Rep S s.w lf.t .ro [v] lf.x [] := by
 obtain ⟨⟨rfl, _⟩, _, b⟩ := h;have := b 0 lf v rfl rfl;obtain ⟨t, x, m⟩ := lf;cases m with
 | at_ lv => exact ⟨_, Rep.ro this.1⟩
 | bor r j p => exact ⟨_, this.1⟩
 | dead => simp [Mode.live] at g
theorem RE.int1 (m : RE c env tmps w) {ty : Option Ty} {k : IntKind} {n : Int} (h : int1 (rd ty env x) = some (k, n)) : evT tmps x = .int k n := by
 obtain ⟨vs, g⟩ := m;obtain ⟨cs, bs, j, _⟩ := g.rel;obtain ⟨cells, i⟩ := Yo g.len j ty x;unfold Go.FP.int1 at h;split at h
 ·rename_i k' p lv b;rw [b] at i;simp at h;obtain ⟨rfl, rfl⟩ := h;obtain ⟨S, l⟩ := Y2z i rfl;simpa using l.1
 ·simp at h
theorem RE.bool1 (p : RE c env tmps w) {ty : Option Ty} {b : Bool} (h : bool1 (rd ty env x) = some b) : evT tmps x = .bool b := by
 obtain ⟨vs, i⟩ := p;obtain ⟨cs, bs, l, _⟩ := i.rel;obtain ⟨cells, j⟩ := Yo i.len l ty x;unfold Go.FP.bool1 at h;split at h
 ·rename_i q lv g;rw [g] at j;simp at h;subst h;obtain ⟨S, m⟩ := Y2z j rfl;simpa using m.1
 ·simp at h
theorem RE.str1 (p : RE c env tmps w) {ty : Option Ty} {b : ByteArray} (h : str1 (rd ty env x) = some b) : evT tmps x = .string b := by
 obtain ⟨vs, i⟩ := p;obtain ⟨cs, bs, l, _⟩ := i.rel;obtain ⟨cells, j⟩ := Yo i.len l ty x;unfold Go.FP.str1 at h;split at h
 ·rename_i q lv g;rw [g] at j;simp at h;subst h;obtain ⟨S, m⟩ := Y2z j rfl;simpa using m.1
 ·simp at h
theorem Y2a (c : Cx) (s : St) (k : IntKind) (n : Int) : ∃ cells, ValC c s (vInt k n) (.int k n) cells := ⟨[.int k n], ⟨rfl, rfl⟩, rfl, fun l lf u b g => by
 rw [Y2] at b;cases l with
 | zero => simp only [Xg, X0] at b g; subst b; subst g; exact ⟨⟨rfl, rfl⟩, trivial⟩
 | succ l => simp at b⟩
theorem Y42 (c : Cx) (s : St) (b : Bool) : ∃ cells, ValC c s (vBool b) (.bool b) cells := ⟨[.bool b], ⟨rfl, rfl⟩, rfl, fun l lf u g h => by
 rw [Y2] at g;cases l with
 | zero => simp only [Xg, X0] at g h; subst g; subst h; exact ⟨⟨rfl, rfl⟩, trivial⟩
 | succ l => simp at g⟩
theorem Y86 (c : Cx) (s : St) (b : ByteArray) : ∃ cells, ValC c s (vStr b) (.string b) cells := ⟨[.string b], ⟨rfl, rfl⟩, rfl, fun l lf u g h => by
 rw [Y2] at g;cases l with
 | zero => simp only [Xg, X0] at g h; subst g; subst h; exact ⟨⟨rfl, rfl⟩, trivial⟩
 | succ l => simp at g⟩
theorem Y1y {k : IntKind} {n : Int} {N : Nat} : (∀ q ∈ (vInt k n).refs, q.1 < N) /\ (∀ q ∈ (vInt k n).ptrs, q < N) := ⟨by simp [vInt, AV.refs, Leaf.refs], by simp [vInt, AV.ptrs]⟩
theorem Y43 {b : Bool} {N : Nat} : (∀ q ∈ (vBool b).refs, q.1 < N) /\ (∀ q ∈ (vBool b).ptrs, q < N) := ⟨by simp [vBool, AV.refs, Leaf.refs], by simp [vBool, AV.ptrs]⟩
theorem Y9e {b : ByteArray} {N : Nat} : (∀ q ∈ (vStr b).refs, q.1 < N) /\ (∀ q ∈ (vStr b).ptrs, q < N) := ⟨by simp [vStr, AV.refs, Leaf.refs], by simp [vStr, AV.ptrs]⟩
theorem Yer (g : o.op = .move x) (b : o.dst = some d) (h : RE c env a.tmps w) (j : d < env.length) (i : K (setD (some d) env (rd (T.ty o.type) env x)) = some r) (l : Next c a K r env.length next) : o.wp P a w next Q :=
 finV h b (v := evT a.tmps x) (by simp [execOp, g, Y6]) j (h.val _ x) (h.refs _ x) i l
theorem Yd1 {env env' : Env} (g : o.op = .assign x) (b : o.dst = some d) (p : RE c env a.tmps w) (y : d < env.length) (q : takeIn (T.ty o.type) env x = some (env', av)) (l : K (setD (some d) env' av) = some r) (m : Next c a K r env.length next) : o.wp P a w next Q := by
 obtain ⟨vs, h⟩ := p;obtain ⟨j, i⟩ := Y18 h (fun r => .inl rfl) q (Xd _) rfl;rw [<- j] at i;exact fin b (v := evT a.tmps x) (by simp [execOp, g, Y6]) gr j i (Y0 _ _ _) l m
theorem Ybr (g : o.op = .assign x) (b : o.dst = some d) (h : RE c env a.tmps w) (j : d < env.length) (i : K (setD (some d) env (rd (T.ty o.type) env x)) = some r) (l : Next c a K r env.length next) : o.wp P a w next Q :=
 finV h b (v := evT a.tmps x) (by simp [execOp, g, Y6]) j (h.val _ x) (h.refs _ x) i l
theorem Yes {i x y : Operand} {t : Bool} (h : o.op = .pick i x y) (b : o.dst = some d) (g : RE c env a.tmps w) (m : d < env.length) (q : bool1 (rd none env i) = some t)
  (j : (bif t then K (setD (some d) env (rd (T.ty o.type) env x)) else K (setD (some d) env (rd (T.ty o.type) env y))) = some r) (p : Next c a K r env.length next) : o.wp P a w next Q := by
 have l := g.bool1 q;cases t with
 | true => exact finV g b (v := evT a.tmps x) (by simp [execOp, h, Y6, l, asBool]) m (g.val _ x) (g.refs _ x) j p
 | false => exact finV g b (v := evT a.tmps y) (by simp [execOp, h, Y6, l, asBool]) m (g.val _ y) (g.refs _ y) j p
end
theorem Y1p {α : Type} {b : Bool} {x : Option α} {r : α} (h : (bif b then x else none) = some r) : b = true /\ x = some r :=gr
theorem Y30 {α : Type} {b : Bool} {x : Option α} {r : α} (h : (bif b then none else x) = some r) : b = false /\ x = some r :=gr
section
variable {P : Program} {o : Oper} {a : Act} {w : World} {R : Type} {K : Env -> Option R} {r : R} {next : Act -> World -> Prop} {Q : Exit -> Act -> World -> Prop} {c : Cx} {d : Nat} {T : Tab} {env : Env}
theorem Yf2 {j : BinOp} {k : IntKind} {x y : Int} {K : AV -> Option R} (h : intOp j k x y K = some r) :
  ∃ av v, K av = some r /\ (∀ w, (Go.binOp j 0 (.int k x) (.int k y)).run P w = .ok v w) /\ (∀ t w, (Go.binOp j t (.int k x) (.int k y)).run P w = .ok v w) /\ (∀ c s, ∃ cells, ValC c s av v cells) /\ (∀ N : Nat, (∀ q ∈ av.refs, q.1 < N) /\ (∀ q ∈ av.ptrs, q < N)) := by
 have i : ∀ n, K (vInt k n) = some r -> (∀ t w, (Go.binOp j t (.int k x) (.int k y)).run P w = .ok (.int k n) w) -> _ := fun n b g =>
  (⟨vInt k n, .int k n, b, g 0, g, fun c s => Y2a c s k n, fun N => Y1y⟩ : ∃ av v, K av = some r /\ (∀ w, (Go.binOp j 0 (.int k x) (.int k y)).run P w = .ok v w) /\ (∀ t w, (Go.binOp j t (.int k x) (.int k y)).run P w = .ok v w) /\ (∀ c s, ∃ cells, ValC c s av v cells) /\ (∀ N : Nat, (∀ q ∈ av.refs, q.1 < N) /\ (∀ q ∈ av.ptrs, q < N)))
 have l : ∀ n, K (vBool n) = some r -> (∀ t w, (Go.binOp j t (.int k x) (.int k y)).run P w = .ok (.bool n) w) -> _ := fun n b g =>
  (⟨vBool n, .bool n, b, g 0, g, fun c s => Y42 c s n, fun N => Y43⟩ : ∃ av v, K av = some r /\ (∀ w, (Go.binOp j 0 (.int k x) (.int k y)).run P w = .ok v w) /\ (∀ t w, (Go.binOp j t (.int k x) (.int k y)).run P w = .ok v w) /\ (∀ c s, ∃ cells, ValC c s av v cells) /\ (∀ N : Nat, (∀ q ∈ av.refs, q.1 < N) /\ (∀ q ∈ av.ptrs, q < N)))
 cases j with
 | add => exact i _ h (fun t w => by simp [Go.binOp, Op.intArith])
 | sub => exact i _ h (fun t w => by simp [Go.binOp, Op.intArith])
 | mul => exact i _ h (fun t w => by simp [Go.binOp, Op.intArith])
 | quo =>
  obtain ⟨b, g⟩ := Y30 h;have b : y ≠ 0 := by simpa using b
  exact i _ g (fun t w => by simp [Go.binOp, Op.intDiv, b])
 | rem =>
  obtain ⟨b, g⟩ := Y30 h;have b : y ≠ 0 := by simpa using b
  exact i _ g (fun t w => by simp [Go.binOp, Op.intDiv, b])
 | and => exact i _ h (fun t w => by simp [Go.binOp, Op.intBits])
 | xor => exact i _ h (fun t w => by simp [Go.binOp, Op.intBits])
 | or => exact i _ h (fun t w => by simp [Go.binOp, Op.intBits])
 | shr =>
  obtain ⟨b, g⟩ := Y30 h;have b : ¬ y < 0 := by simpa using b
  exact i _ g (fun t w => by simp [Go.binOp, Op.shift, b])
 | shl =>
  obtain ⟨b, g⟩ := Y30 h;have b : ¬ y < 0 := by simpa using b
  exact i _ g (fun t w => by simp [Go.binOp, Op.shift, b])
 | eql => exact l _ h (fun t w => by simp [Go.binOp, Op.intCmp])
 | neq => exact l _ h (fun t w => by simp [Go.binOp, Op.intCmp])
 | lss => exact l _ h (fun t w => by simp [Go.binOp, Op.intCmp])
 | leq => exact l _ h (fun t w => by simp [Go.binOp, Op.intCmp])
 | gtr => exact l _ h (fun t w => by simp [Go.binOp, Op.intCmp])
 | geq => exact l _ h (fun t w => by simp [Go.binOp, Op.intCmp])
 | _ => simp [intOp] at h
theorem Ydr {i : BinOp} {k k' : IntKind} {x y : Int} {K : AV -> Option R} (h : shiftOp i k x y K = some r) :
  ∃ av v, K av = some r /\ (∀ t w, (Go.binOp i t (.int k x) (.int k' y)).run P w = .ok v w) /\ (∀ c s, ∃ cells, ValC c s av v cells) /\ (∀ N : Nat, (∀ q ∈ av.refs, q.1 < N) /\ (∀ q ∈ av.ptrs, q < N)) := by
 cases i with
 | shr =>
  obtain ⟨b, g⟩ := Y30 h;have b : ¬ y < 0 := by simpa using b
  exact ⟨_, _, g, fun t w => by simp [Go.binOp, Op.shift, b], fun c s => Y2a c s k _, fun N => Y1y⟩
 | shl =>
  obtain ⟨b, g⟩ := Y30 h;have b : ¬ y < 0 := by simpa using b
  exact ⟨_, _, g, fun t w => by simp [Go.binOp, Op.shift, b], fun c s => Y2a c s k _, fun N => Y1y⟩
 | _ => simp [shiftOp] at h
theorem Yf3 {b : BinOp} {x y : ByteArray} {K : AV -> Option R} (h : strOp b x y K = some r) :
  ∃ av v, K av = some r /\ (∀ t w, (Go.binOp b t (.string x) (.string y)).run P w = .ok v w) /\ (∀ c s, ∃ cells, ValC c s av v cells) /\ (∀ N : Nat, (∀ q ∈ av.refs, q.1 < N) /\ (∀ q ∈ av.ptrs, q < N)) := by
 have g : ∀ n, K (vBool n) = some r -> (∀ t w, (Go.binOp b t (.string x) (.string y)).run P w = .ok (.bool n) w) -> _ := fun n i j =>
  (⟨vBool n, .bool n, i, j, fun c s => Y42 c s n, fun N => Y43⟩ : ∃ av v, K av = some r /\ (∀ t w, (Go.binOp b t (.string x) (.string y)).run P w = .ok v w) /\ (∀ c s, ∃ cells, ValC c s av v cells) /\ (∀ N : Nat, (∀ q ∈ av.refs, q.1 < N) /\ (∀ q ∈ av.ptrs, q < N)))
 cases b with
 | add =>
  obtain ⟨i, j⟩ := Y1p h;have i : x.size + y.size <= 140737488355328 := by simpa using i
  refine ⟨vStr (x ++ y), .string (x ++ y), j, fun t w => ?_, fun c s => Y86 c s _, fun N => Y9e⟩;simp [Go.binOp, Op.stringOp];omega
 | eql => exact g _ h (fun t w => by simp [Go.binOp, Op.stringOp])
 | neq => exact g _ h (fun t w => by simp [Go.binOp, Op.stringOp])
 | lss => exact g _ h (fun t w => by simp [Go.binOp, Op.stringOp])
 | geq => exact g _ h (fun t w => by simp [Go.binOp, Op.stringOp])
 | _ => simp [strOp] at h
theorem Y8g (b : BinOp) (t : TypeId) (x y : Operand) (k k' : IntKind) (n m : Int) (w : World) : (eqGuard b t x y (.int k n) (.int k' m)).run P w = .ok () w := by
 unfold eqGuard; cases b <;> simp
theorem Yd2 (b : BinOp) (t : TypeId) (x y : Operand) (n m : ByteArray) (w : World) : (eqGuard b t x y (.string n) (.string m)).run P w = .ok () w := by
 unfold eqGuard; cases b <;> simp
theorem Y7a (b : BinOp) (t : TypeId) (x y : Operand) (n m : Bool) (w : World) : (eqGuard b t x y (.bool n) (.bool m)).run P w = .ok () w := by
 unfold eqGuard; cases b <;> simp
def Leaf.cell (l : Leaf) : Value := match l with
 | ⟨.int k, a, _⟩ => .int k a
 | ⟨.bool, a, _⟩ => .bool a
 | ⟨.str, a, _⟩ => .string a
 | _ => undef
theorem Yds (hT : TabOk P T) {g : BinOp} {t j : TypeId} {x y : Operand} (i : o.op = .binOp g t x y j) (b : o.dst = some d) (p : RE c env a.tmps w) (l : d < env.length)
  (h : aggOp T g t (rd none env x) (rd none env y) (fun v => K (setD (some d) env v)) = some r) (m : Next c a K r env.length next) : o.wp P a w next Q := by simp [aggOp] at h
theorem Ydt (hT : TabOk P T) {F : BinOp} {t N : TypeId} {x y : Operand} (i : o.op = .binOp F t x y N) (b : o.dst = some d) (g : RE c env a.tmps w) (A : d < env.length)
  (h : binOp1 T F t (rd none env x) (rd none env y) (fun v => K (setD (some d) env v)) = some r) (B : Next c a K r env.length next) : o.wp P a w next Q := by
 unfold binOp1 at h;split at h
 ·rename_i k n k' m q z;split at h
  ·rename_i I;subst I;obtain ⟨av, v, j, _, l, p, C⟩ := Yf2 (P := P) h;refine finV g b (v := v) ?_ A (fun vs cs bs _ => p _ _) (C _) j B;simp [execOp, i, Y6, g.int1 q, g.int1 z, Y8g, l]
  ·obtain ⟨av, v, j, l, p, C⟩ := Ydr (P := P) (k' := k') h;refine finV g b (v := v) ?_ A (fun vs cs bs _ => p _ _) (C _) j B;simp [execOp, i, Y6, g.int1 q, g.int1 z, Y8g, l]
 ·split at h
  ·rename_i n m q z;obtain ⟨av, v, j, l, p, C⟩ := Yf3 (P := P) h;refine finV g b (v := v) ?_ A (fun vs cs bs _ => p _ _) (C _) j B;simp [execOp, i, Y6, g.str1 q, g.str1 z, Yd2, l]
  ·split at h
   ·rename_i n m q z;split at h
    ·rename_i L;have M : P.underlying t = some .bool := by
      obtain ⟨e, j, p⟩ := Tab.ty_te L;obtain ⟨l, rfl, E⟩ := Tab.te_mem j;have := (hT e l).desc E;rw [p] at this;exact this
     have D : (Op.equal t (.bool n) (.bool m)).run P w = .ok (n == m) w := by
      have : ∀ G, (Op.equalIn (G + 1) t (.bool n) (.bool m)).run P w = .ok (n == m) w := fun G => by simp [Op.equalIn, run_underlying M]
      exact this 9999
     cases F with
     | eql =>
      refine finV g b (v := .bool (n == m)) ?_ A (fun vs cs bs _ => Y42 _ _ _) Y43 h B;simp only [execOp, i, Y6, g.bool1 q, g.bool1 z, X34, Y7a, X2v, Go.binOp, D, Sem.run_pure]
     | neq =>
      refine finV g b (v := .bool (!(n == m))) ?_ A (fun vs cs bs _ => Y42 _ _ _) Y43 h B;simp only [execOp, i, Y6, g.bool1 q, g.bool1 z, X34, Y7a, X2v, Go.binOp, D, Sem.run_pure]
     | _ => simp at h
    ·simp at h
   ·exact Yds hT i b g A h B
theorem Yet {m : UnOp} {t : TypeId} (i : o.op = .unOp m t x) (h : o.dst = some d) (j : RE c env a.tmps w) (p : d < env.length)
  (g : unOp1 m (rd none env x) (fun v => K (setD (some d) env v)) = some r) (q : Next c a K r env.length next) : o.wp P a w next Q := by
 unfold unOp1 at g;cases m with
 | not =>
  simp only at g;split at g
  ·rename_i b l;exact finV j h (v := .bool (!b)) (by simp [execOp, i, Y6, j.bool1 l, Op.unary]) p (fun vs cs bs _ => Y42 _ _ _) Y43 g q
  ·simp at g
 | neg =>
  simp only at g;split at g
  ·rename_i k n l;exact finV j h (v := .int k (k.wrap (0 - n))) (by simp [execOp, i, Y6, j.int1 l, Op.unary, Op.intArith]) p (fun vs cs bs _ => Y2a _ _ _ _) Y1y g q
  ·simp at g
 | _ => simp at g
theorem Ybs (hT : TabOk P T) {s h : TypeId} {k k' k2 : IntKind} {n : Int} (g : o.op = .convert s h x) (b : o.dst = some d) (i : RE c env a.tmps w) (l : d < env.length) (q : T.ty s = some (.int k)) (y : T.ty h = some (.int k'))
  (m : int1 (rd none env x) = some (k2, n)) (j : K (setD (some d) env (vInt k' (k'.wrap n))) = some r) (p : Next c a K r env.length next) : o.wp P a w next Q := by
 refine finV i b (v := .int k' (k'.wrap n)) ?_ l (fun vs cs bs _ => Y2a _ _ _ _) Y1y j p;simp [execOp, g, Y6, i.int1 m, Go.convert, run_underlying (TabOk.int hT q), run_underlying (TabOk.int hT y), Conv.intToInt]
theorem Ydu (hT : TabOk P T) {t : TypeId} {x i : Operand} {s : ByteArray} {k : IntKind} {n : Int} (j : o.op = .index t x i) (g : o.dst = some d) (l : RE c env a.tmps w) (p : d < env.length) (A : T.ty t = some .str) (z : str1 (rd none env x) = some s) (q : int1 (rd none env i) = some (k, n))
  (h : ((if 0 <= n then s[n.toNat]? else none).bind fun b => K (setD (some d) env (vInt .u8 b.toNat))) = some r) (y : Next c a K r env.length next) : o.wp P a w next Q := by
 obtain ⟨b, m, h⟩ := Xt.1 h;refine finV l g (v := .int .u8 b.toNat) ?_ p (fun vs cs bs _ => Y2a _ _ _ _) Y1y h y;simp [execOp, j, Y6, l.str1 z, l.int1 q, Instr.index, asIntOf, run_underlying (TabOk.str hT A), m]
theorem Y8h {t : TypeId} {x y : Operand} {j : Call} {mx : Bool} {k : IntKind} {n m : Int} (h : o.op = .call j) (p : j.callee = .builtin (if mx then .max else .min)) (l : j.args.toList = [x, y]) (g : o.dst = some d) (i : RE c env a.tmps w) (B : d < env.length)
  (q : int1 (rd none env x) = some (k, n)) (z : int1 (rd none env y) = some (k, m)) (A : K (setD (some d) env (vInt k (if mx then (if m > n then m else n) else (if m < n then m else n)))) = some r) (C : Next c a K r env.length next) : o.wp P a w next Q := by
 have b : j.args = #[x, y] :=gr;refine finV i g (v := .int k (if mx then (if m > n then m else n) else (if m < n then m else n))) ?_ B (fun vs cs bs _ => Y2a _ _ _ _) Y1y A C;cases mx with
 | true => simp [execOp, h, resolve, p, b, invoke, builtin, Builtin.max_, Builtin.max2, Y6, i.int1 q, i.int1 z]
 | false => simp [execOp, h, resolve, p, b, invoke, builtin, Builtin.min_, Builtin.min2, Y6, i.int1 q, i.int1 z]
theorem Ybt (hT : TabOk P T) {t : TypeId} {h : Call} {s : ByteArray} (l : o.op = .call h) (y : h.callee = .builtin .len) (j : h.args.toList = [x]) (p : h.argTypes.toList = [t]) (i : o.dst = some d) (m : RE c env a.tmps w) (z : d < env.length)
  (C : str1 (rd none env x) = some s) (B : T.ty t = some .str) (q : K (setD (some d) env (vInt .i64 (s.size : Int))) = some r) (A : Next c a K r env.length next) : o.wp P a w next Q := by
 have b : h.args = #[x] :=gr;have g : h.argTypes = #[t] :=gr;refine finV m i (v := .int .i64 (s.size : Int)) ?_ z (fun vs cs bs _ => Y2a _ _ _ _) Y1y q A;simp [execOp, l, resolve, y, b, g, invoke, builtin, Builtin.len_, Y6, m.str1 C, run_underlying (TabOk.str hT B), goInt]
theorem RE.slice (E : RE c env tmps w) {ty : Option Ty} {xs : List τ.D} (h : rd ty env x = .con .val [lf]) (b : lf.as (.slice e τ) = some xs) (j : lf.m.live = true) : ∃ A i, evT tmps x = .slice A xs.length i /\ xs.length <= i := by
 obtain ⟨vs, l⟩ := E;obtain ⟨cs, bs, C, _⟩ := l.rel;obtain ⟨cells, q⟩ := Yo l.len C ty x;rw [h] at q;obtain ⟨S, D⟩ := Y2z q j;obtain ⟨t, y, m⟩ := lf;unfold Leaf.as at b;split at b
 ·rename_i p;simp only at p;subst p;simp at b;subst b;obtain ⟨v, z, F, G, B, _, _, g⟩ := D;obtain ⟨A, i, e2, j⟩ := g.slice;have : evT tmps x = v := by simpa using B
  rw [this];exact ⟨A, i, e2, j⟩
 ·simp at b
theorem Y9f (hT : TabOk P T) {t e : TypeId} {g : Call} {lx : Leaf} {xs : List τ.D} (m : o.op = .call g) (B : g.callee = .builtin .len) (h : g.args.toList = [x]) (l : g.argTypes.toList = [t]) (j : o.dst = some d) (p : RE c env a.tmps w) (C : d < env.length)
  (F : T.ty t = some (.slice e τ)) (G : rd (some (.slice e τ)) env x = .con .val [lx]) (z : lx.as (.slice e τ) = some xs) (D : lx.m.live = true) (y : K (setD (some d) env (vInt .i64 (xs.length : Int))) = some r) (E : Next c a K r env.length next) : o.wp P a w next Q := by
 have b : g.args = #[x] := by rw [<- X1g (xs := g.args), h]
 have i : g.argTypes = #[t] := by rw [<- X1g (xs := g.argTypes), l]
 obtain ⟨A, I, q, _⟩ := p.slice G z D;refine finV p j (v := .int .i64 (xs.length : Int)) ?_ C (fun vs cs bs _ => Y2a _ _ _ _) Y1y y E;simp [execOp, m, resolve, B, b, i, invoke, builtin, Builtin.len_, Y6, q, run_underlying (TabOk.slice hT F), goInt]
theorem Y1h (b o n : Nat) : (⟨b, o, none⟩ : Addr).add n = ⟨b, o + n, none⟩ := by unfold Addr.add; split <;> simp_all
theorem Y6c (x : Addr) (n m : Nat) : (x.add n).add m = x.add (n + m) := by
 unfold Addr.add;by_cases b : n = 0 <;> by_cases g : m = 0 <;> simp_all;omega
theorem Y6m (hT : TabOk P T) {s : TypeId} {f off : Nat} (h : fieldAt T s f = some (off, τ)) (x : Addr) (w : World) : (Instr.fieldAt s (.pointer (some x)) f).run P w = .ok (.pointer (some (x.add off))) w := by
 obtain ⟨fs, l, b, g, rfl, i, j⟩ := TabOk.field hT h;simp [Instr.fieldAt, run_underlying b, g, Instr.sureAddr, fieldPlace, TabOk.sizeOf hT i, j]
theorem Y4m (n : Nat) (ls : List Leaf) (l : Nat) : leafAt (dropLs n ls) l = leafAt ls (n + l) := by rw [Y2, Y2, Yr, X1n]
theorem Y4n {l : Nat} (h : leafAt (takeLs n ls) l = some lf) : leafAt ls l = some lf := by
 rw [Y2, Yq, X1m] at h;rw [Y2];split at h
 ·exact h
 ·simp at h
theorem Y5h (n : Nat) (ls : List Leaf) : ∀ q ∈ (dropLs n ls).flatMap Leaf.refs, q ∈ ls.flatMap Leaf.refs := by
 intro q b;rw [Yr] at b;simp at b ⊢;obtain ⟨l, g, b⟩ := b;exact ⟨l, X26 g, b⟩
theorem Y5i (n : Nat) (ls : List Leaf) : ∀ q ∈ (takeLs n ls).flatMap Leaf.refs, q ∈ ls.flatMap Leaf.refs := by
 intro q b;rw [Yq] at b;simp at b ⊢;obtain ⟨l, g, b⟩ := b;exact ⟨l, X27 g, b⟩
theorem Y6k (hT : TabOk P T) {s : TypeId} {f off r' l : Nat} (m : o.op = .fieldAddr s x f) (b : o.dst = some d) (j : RE c env a.tmps w) (F : d < env.length) (G : fieldAt T s f = some (off, τ)) (p : rd none env x = .path r' l)
  (E : K (setD (some d) env (.path r' (l + off))) = some r) (I : Next c a K r env.length next) : o.wp P a w next Q := by
 obtain ⟨vs, i⟩ := j;have j : RE c env a.tmps w := ⟨vs, i⟩;obtain ⟨cs, bs, C, _⟩ := i.rel;obtain ⟨cells, z⟩ := Yo i.len C none x;rw [p] at z;obtain ⟨e, ls, B, M, N, y⟩ := z;refine finV j b (v := .pointer (some ⟨B, l + off, none⟩)) ?_ F (fun vs cs bs g => ?_) ?_ E I
 ·have := Y6m hT G ⟨B, l, none⟩ w;simp [execOp, m, Y6, y, this, Y1h]
 ·obtain ⟨cells, h⟩ := Yo i.len g none x;rw [p] at h;obtain ⟨e', q, B', L, k2, A⟩ := h;rw [y] at A;have D : B = B' := by simpa using A
  subst D;exact ⟨[], e', q, B, L, k2, rfl⟩
 ·have := j.refs none x;rw [p] at this;exact this
theorem Y3r (hT : TabOk P T) {s : TypeId} {f off : Nat} {G : Option (Nat × Nat × List (Int × Nat) × Int × Nat)} (M : o.op = .fieldAddr s x f) (g : o.dst = some d) (E : RE c env a.tmps w) (hd : d < env.length) (hf : fieldAt T s f = some (off, τ)) (O : rd none env x = .eptr ls G)
  (hK : K (setD (some d) env (.eptr (dropLs off ls) (match G with | some (r, j, p, i, q) => some (r, j, p, i, q + off) | none => none))) = some r) (hn : Next c a K r env.length next) : o.wp P a w next Q := by
 obtain ⟨vs, D⟩ := E;have E : RE c env a.tmps w := ⟨vs, D⟩;obtain ⟨cs, bs, h1, _⟩ := D.rel;obtain ⟨cells, Z⟩ := Yo D.len h1 none x;rw [O] at Z;obtain ⟨x0, C, _, _⟩ := Z;refine finV E g (v := .pointer (some (x0.add off))) ?_ hd (fun vs cs bs h => ?_) ?_ hK hn
 ·have := Y6m hT hf x0 w;simp [execOp, M, Y6, C, this]
 ·obtain ⟨cells, y⟩ := Yo D.len h none x;rw [O] at y;obtain ⟨x1, k1, k2, V⟩ := y;rw [C] at k1;have U : x0 = x1 := by simpa using k1
  subst U;refine ⟨[], x0.add off, rfl, fun l lf Y => ?_, ?_⟩
  ·rw [Y4m] at Y;obtain ⟨W, u, X, F⟩ := k2 _ _ Y;exact ⟨W, u, by rw [Y6c]; exact X, F⟩
  ·cases G with
   | none => exact ⟨by rw [Addr.add_block]; exact V.1, by rw [Addr.add_block]; exact V.2⟩
   | some q =>
    obtain ⟨r', j, p, i, q⟩ := q;obtain ⟨W, lf, u, X, F⟩ := V;refine ⟨by rw [Addr.add_block]; exact W, lf, u, X, fun N => ?_, fun i0 o0 z N => ?_⟩
    ·obtain ⟨e, t, xs, m, B, n, I, n1, n2, n3, n4, n5⟩ := F.1 N;exact ⟨e, t, xs, m, B, n, I, n1, n2, n3, n4, by rw [n5, Y1h, X2b]⟩
    ·obtain ⟨e, t, xs, m, B, n, I, A, n', L, C, g2, g3, g4, g5, g6, g7⟩ := F.2 i0 o0 z N;exact ⟨e, t, xs, m, B, n, I, A, n', L, C, g2, g3, g4, g5, g6, by rw [g7, Addr.add_add, X2b]⟩
 ·have := E.refs none x;rw [O] at this;simp only [AV.refs, AV.ptrs] at this ⊢;refine ⟨fun q b => ?_, sm⟩;simp only [X6] at b;rcases b with b | b
  ·exact this.1 q (Xe _ (Y5h _ _ q b))
  ·refine this.1 q (Xf _ ?_);cases G with
   | none => simp at b
   | some q' => obtain ⟨r', j, p, i, q'⟩ := q'; exact b
theorem Y6w {r' m : Nat} (i : o.op = .nilCheck x) (b : o.dst = some d) (g : RE c env a.tmps w) (z : d < env.length) (j : rd none env x = .path r' m) (y : K (setD (some d) env (.path r' m)) = some r) (A : Next c a K r env.length next) : o.wp P a w next Q := by
 obtain ⟨vs, h⟩ := g;have g : RE c env a.tmps w := ⟨vs, h⟩;obtain ⟨cs, bs, q, _⟩ := h.rel;obtain ⟨cells, l⟩ := Yo h.len q none x;rw [j] at l;obtain ⟨e, ls, B, C, D, p⟩ := l;refine finV g b (v := evT a.tmps x) ?_ z (j ▸ g.val none x) (j ▸ g.refs none x) y A;simp [execOp, i, Y6, p]
theorem Y7b {cs : List (Nat × Nat)} (i : o.op = .nilCheck x) (b : o.dst = some d) (g : RE c env a.tmps w) (z : d < env.length) (j : rd none env x = .clo f cs) (y : K (setD (some d) env (.clo f cs)) = some r) (A : Next c a K r env.length next) : o.wp P a w next Q := by
 obtain ⟨vs, h⟩ := g;have g : RE c env a.tmps w := ⟨vs, h⟩;obtain ⟨m, bs, q, _⟩ := h.rel;obtain ⟨cells, l⟩ := Yo h.len q none x;rw [j] at l;obtain ⟨B, p, C⟩ := l;refine finV g b (v := evT a.tmps x) ?_ z (j ▸ g.val none x) (j ▸ g.refs none x) y A;simp [execOp, i, Y6, p]
theorem Y6x (i : o.op = .nilCheck x) (b : o.dst = some d) (g : RE c env a.tmps w) (z : d < env.length) (j : rd none env x = .cloR f xs) (y : K (setD (some d) env (.cloR f xs)) = some r) (A : Next c a K r env.length next) : o.wp P a w next Q := by
 obtain ⟨vs, h⟩ := g;have g : RE c env a.tmps w := ⟨vs, h⟩;obtain ⟨m, bs, q, _⟩ := h.rel;obtain ⟨cells, l⟩ := Yo h.len q none x;rw [j] at l;obtain ⟨B, p, C⟩ := l;refine finV g b (v := evT a.tmps x) ?_ z (j ▸ g.val none x) (j ▸ g.refs none x) y A;simp [execOp, i, Y6, p]
theorem Y6y {m : Option (Nat × Nat × List (Int × Nat) × Int × Nat)} (i : o.op = .nilCheck x) (b : o.dst = some d) (g : RE c env a.tmps w) (A : d < env.length) (j : rd none env x = .eptr ls m) (z : K (setD (some d) env (.eptr ls m)) = some r) (B : Next c a K r env.length next) : o.wp P a w next Q := by
 obtain ⟨vs, h⟩ := g;have g : RE c env a.tmps w := ⟨vs, h⟩;obtain ⟨p, bs, y, _⟩ := h.rel;obtain ⟨cells, l⟩ := Yo h.len y none x;rw [j] at l;obtain ⟨C, q, D⟩ := l;refine finV g b (v := evT a.tmps x) ?_ A (j ▸ g.val none x) (j ▸ g.refs none x) z B;simp [execOp, i, Y6, q]
end
theorem Y1x : ∀ (t : Ty) {cs : List Value} {x : t.D} (md : Nat -> Mode) (n : Nat), Rep S w t .ro cs x [] ->
  (leaves t x md n).length = cs.length /\ ∀ (l : Nat) (lf : Leaf) (u : Value), (leaves t x md n)[l]? = some lf -> cs[l]? = some u -> Rep S w lf.t .ro [u] lf.x [] /\ ((lf.m = .at_ .ro /\ lf.t.flatB = true) \/ lf.m = md (n + l))
 | .int k, cs, x, md, n, h => by
  obtain ⟨rfl, _⟩ := h;refine ⟨rfl, fun l lf u g i => ?_⟩;cases l with
  | zero => simp only [leaves, Xg, X0] at g i; subst g; subst i; exact ⟨⟨rfl, rfl⟩, .inl ⟨rfl, rfl⟩⟩
  | succ l => simp [leaves] at g
 | .bool, cs, x, md, n, h => by
  obtain ⟨rfl, _⟩ := h;refine ⟨rfl, fun l lf u g i => ?_⟩;cases l with
  | zero => simp only [leaves, Xg, X0] at g i; subst g; subst i; exact ⟨⟨rfl, rfl⟩, .inl ⟨rfl, rfl⟩⟩
  | succ l => simp [leaves] at g
 | .str, cs, x, md, n, h => by
  obtain ⟨rfl, _⟩ := h;refine ⟨rfl, fun l lf u g i => ?_⟩;cases l with
  | zero => simp only [leaves, Xg, X0] at g i; subst g; subst i; exact ⟨⟨rfl, rfl⟩, .inl ⟨rfl, rfl⟩⟩
  | succ l => simp [leaves] at g
 | .slice e t, cs, x, md, n, h => by
  have q := h;obtain ⟨v, xs, D, p, rfl, _⟩ := h;refine ⟨rfl, fun l lf u g i => ?_⟩;cases l with
  | zero => simp only [leaves, Xg, X0] at g i; subst g; subst i; exact ⟨q, .inr rfl⟩
  | succ l => simp [leaves] at g
 | .unit, cs, x, md, n, h => by
  obtain ⟨rfl, _⟩ := h;exact ⟨rfl, fun l lf u g i => gr⟩
 | .pair a b, cs, x, md, n, h => by
  obtain ⟨j, F, p, E, rfl, z, m, y⟩ := h;obtain ⟨rfl, rfl⟩ := X21.1 z.symm;obtain ⟨C, G⟩ := Y1x a md n m;obtain ⟨l2, k2⟩ := Y1x b md (n + a.sz) y;have B : j.length = a.sz := Rep.len m;refine ⟨by simp [leaves, C, l2], fun l lf u g i => ?_⟩;simp [leaves] at g;by_cases A : l < j.length
  ·grind
  ·grind
theorem Y15 : ∀ (t : Ty) (x : t.D) (g : Nat -> Mode) (n : Nat), (leaves t x g n).map Leaf.t = flat t
 | .int k, x, g, n => rfl
 | .bool, x, g, n => rfl
 | .str, x, g, n => rfl
 | .slice e t, x, g, n => rfl
 | .unit, x, g, n => rfl
 | .pair a b, x, g, n => by simp only [leaves, List.map_append, Y15 a, Y15 b]; rfl
theorem Y3j (lv : Lvl) : ∀ (t : Ty) {cs : List Value} {x : t.D} {bs : List Nat} (n : Nat), Rep S w t lv cs x bs ->
  (leaves t x (fun _ => .at_ lv) n).length = cs.length /\ (∀ lf ∈ leaves t x (fun _ => .at_ lv) n, lf.m.settled = true) /\ ∃ j : List (List Nat), j.length = cs.length /\ bs = j.flatten /\
   ∀ (l : Nat) (lf : Leaf) (u : Value), (leaves t x (fun _ => .at_ lv) n)[l]? = some lf -> cs[l]? = some u -> ∃ m, lf.m = .at_ m /\ Rep S w lf.t m [u] lf.x (j.getD l [])
 | .int k, cs, x, bs, n, h => by
  obtain ⟨rfl, rfl⟩ := h;refine ⟨rfl, by simp [leaves, Mode.settled], [[]], rfl, rfl, fun l lf u g i => ?_⟩;cases l with
  | zero => simp only [leaves, Xg, X0] at g i; subst g; subst i; exact ⟨.ro, rfl, rfl, rfl⟩
  | succ l => simp [leaves] at g
 | .bool, cs, x, bs, n, h => by
  obtain ⟨rfl, rfl⟩ := h;refine ⟨rfl, by simp [leaves, Mode.settled], [[]], rfl, rfl, fun l lf u g i => ?_⟩;cases l with
  | zero => simp only [leaves, Xg, X0] at g i; subst g; subst i; exact ⟨.ro, rfl, rfl, rfl⟩
  | succ l => simp [leaves] at g
 | .str, cs, x, bs, n, h => by
  obtain ⟨rfl, rfl⟩ := h;refine ⟨rfl, by simp [leaves, Mode.settled], [[]], rfl, rfl, fun l lf u g i => ?_⟩;cases l with
  | zero => simp only [leaves, Xg, X0] at g i; subst g; subst i; exact ⟨.ro, rfl, rfl, rfl⟩
  | succ l => simp [leaves] at g
 | .slice e t, cs, x, bs, n, h => by
  have E := h;obtain ⟨v, xs, O, q, rfl, _⟩ := h;refine ⟨rfl, by simp [leaves, Mode.settled], [bs], rfl, sm, fun l lf u g i => ?_⟩;cases l with
  | zero => simp only [leaves, Xg, X0] at g i; subst g; subst i; exact ⟨lv, rfl, E⟩
  | succ l => simp [leaves] at g
 | .unit, cs, x, bs, n, h => by
  obtain ⟨rfl, rfl⟩ := h;exact ⟨rfl, by simp [leaves], [], rfl, rfl, fun l lf u g i => gr⟩
 | .pair a b, cs, x, bs, n, h => by
  obtain ⟨y, V, q, U, rfl, rfl, F, G⟩ := h;obtain ⟨L, M, z, B, C, W⟩ := Y3j lv a n F;obtain ⟨l2, N, A, e2, D, k2⟩ := Y3j lv b (n + a.sz) G;refine ⟨by simp [leaves, L, l2], fun lf p => ?_, z ++ A, by simp [B, e2], by rw [C, D, List.flatten_append], fun l lf u g i => ?_⟩
  ·simp only [leaves] at p;exact (X6.1 p).elim (M lf) (N lf)
  ·simp [leaves] at g;by_cases I : l < y.length
   ·grind
   ·grind
theorem Y21 {lv : Lvl} : ∀ (t : Ty) (x : t.D) (n : Nat), ∀ lf ∈ leaves t x (fun _ => .at_ lv) n, lf.m = .at_ .ro \/ lf.m = .at_ lv
 | .int k, x, n, lf, h => by simp [leaves] at h; rw [h]; exact .inl rfl
 | .bool, x, n, lf, h => by simp [leaves] at h; rw [h]; exact .inl rfl
 | .str, x, n, lf, h => by simp [leaves] at h; rw [h]; exact .inl rfl
 | .slice e t, x, n, lf, h => by simp [leaves] at h; rw [h]; exact .inr rfl
 | .unit, x, n, lf, h => by simp [leaves] at h
 | .pair a b, x, n, lf, h => by
  simp [leaves] at h;rcases h with h | h
  ·exact Y21 a _ _ _ h
  ·exact Y21 b _ _ _ h
theorem Y9g {lv m : Lvl} {M : Mode} (b : M = .at_ m) (h : M = .at_ .ro \/ M = .at_ lv) (g : lv.pinOk c u) : m.pinOk c u := by
 rcases h with h | h
 ·rw [h] at b; cases b; trivial
 ·grind
section
variable {P : Program} {o : Oper} {a : Act} {w : World} {R : Type} {K : Env -> Option R} {r : R} {next : Act -> World -> Prop} {Q : Exit -> Act -> World -> Prop} {c : Cx} {d : Nat} {T : Tab} {env : Env}
theorem Leaf.as_eq {x : t.D} (h : lf.as t = some x) : lf = ⟨t, x, lf.m⟩ := by
 obtain ⟨b, y, m⟩ := lf;unfold Leaf.as at h;split at h
 ·grind
 ·simp at h
theorem Y9h {xs : List τ.D} (h : Rep S w (.slice e τ) .ro [v] xs []) {i : Nat} (D : i < xs.length) (Y : 0 < τ.sz) :
  ∃ A c j, v = .slice (some A) xs.length c /\ j.length = τ.sz /\ S A.block /\ A.block < w.heap.size /\ (∀ (l : Nat) (u : Value), j[l]? = some u -> w.cell? ((A.add (i * τ.sz)).add l) = some u) /\ Rep S w τ .ro j (xs.getD i τ.dflt) [] := by
 obtain ⟨v', cs, F, G, y, e2, B, p⟩ := h;have y : v = v' := by simpa using y
 subst y;obtain ⟨rfl, rfl⟩ := X21.1 e2.symm;obtain ⟨_, A, I, L, hl, hz, X⟩ := p;obtain ⟨Z, j, E, F, b, G, N, O, U, f4, C, _⟩ := B.at_ i D;have g : ∀ (l : Nat) (u : Value), j[l]? = some u -> ∃ a, A = some a /\ S a.block /\ w.cell? (a.add (i * τ.sz + l)) = some u := by
  intro l u q;have m := (X5.1 q).1;refine X _ u ?_;rw [N, X7, Xc om, Xj om, O, show i * τ.sz + l - i * τ.sz = l by omega];exact q
 obtain ⟨A0, rfl, W, z⟩ := g 0 j[0] (X1 om);have m := X2t w _ z;rw [Addr.add_block] at m;refine ⟨A0, I, j, L, U, W, m, fun l u q => ?_, ?_⟩
 ·obtain ⟨a', M, _, V⟩ := g l u q;cases M;rw [Y6c];exact V
 ·have : xs.getD i τ.dflt = xs[i] := by rw [Xk, X1 D]; rfl
  rw [this];have := Rep.ro_bs C;subst this;exact C
theorem Y8x {m : Mode} {i : Int} {l : Nat} : ∀ q : Nat × Nat, (∃ p, elemMode m i l = .bor q.1 q.2 p) -> ∃ p, m = .bor q.1 q.2 p := by
 rintro q ⟨p, b⟩
 unfold elemMode at b;split at b
 ·grind
 ·simp at b
theorem Y4o : ∀ (t : Ty) (x : t.D) (h : Nat -> Mode) (n : Nat), ∀ q ∈ (leaves t x h n).flatMap Leaf.refs, ∃ l p, h l = .bor q.1 q.2 p
 | .int k, x, h, n, q, g => by simp [leaves, Leaf.refs] at g
 | .bool, x, h, n, q, g => by simp [leaves, Leaf.refs] at g
 | .str, x, h, n, q, g => by simp [leaves, Leaf.refs] at g
 | .slice e t, x, h, n, q, g => by
  simp [leaves, Leaf.refs] at g;split at g
  ·grind
  ·simp at g
 | .unit, x, h, n, q, g => by simp [leaves] at g
 | .pair a b, x, h, n, q, g => by
  simp only [leaves, List.flatMap_append, X6] at g;rcases g with g | g
  ·exact Y4o a x.1 h n q g
  ·exact Y4o b x.2 h _ q g
theorem Y9i (hT : TabOk P T) {t : TypeId} {x i : Operand} {lx : Leaf} {n : Int} {xs : List te.ty.D} (hop : o.op = .indexAddr t x i) (hdst : o.dst = some d) (hr : RE c env a.tmps w) (hd : d < env.length) (ht : elemAt T t = some te)
  (hx : rd (some (.slice te.id te.ty)) env x = .con .val [lx]) (hi : int1 (rd none env i) = some (.i64, n)) (ha : lx.as (.slice te.id te.ty) = some xs) (hl : lx.m.live = true) (h0 : 0 <= n) (h1 : n < (xs.length : Int))
  (hK : K (setD (some d) env (.eptr (leaves te.ty (xs.getD n.toNat te.ty.dflt) (elemMode lx.m n) 0) (match lx.m with | .bor r j p => some (r, j, nestP te.ty.sz p, n, 0) | _ => none))) = some r) (hn : Next c a K r env.length next) : o.wp P a w next Q := by
 obtain ⟨hty, hund, _, hsz, hby, i0, hi0, hi1, _⟩ := TabOk.elem hT ht;obtain ⟨k, rfl⟩ : ∃ k : Nat, n = k := ⟨n.toNat, om⟩;have hk : k < xs.length :=om;simp only [Int.toNat_natCast] at hK;have hlx := Leaf.as_eq ha
 -- the value, in any state of this kind
 have X : ∀ vs cs bs, Rel c (SS env noP a.tmps vs w cs bs) -> ∃ A V, evT a.tmps x = .slice (some A) xs.length V /\
   ∃ cells, ValC c (SS env noP a.tmps vs w cs bs) (.eptr (leaves te.ty (xs.getD k te.ty.dflt) (elemMode lx.m k) 0) (match lx.m with | .bor r j p => some (r, j, nestP te.ty.sz p, (k : Int), 0) | _ => none)) (.pointer (some (A.add (k * te.ty.sz)))) cells := by
  intro vs cs bs E;obtain ⟨cells, hv⟩ := hr.val (some (.slice te.id te.ty)) x vs cs bs E;rw [hx, hlx] at hv;obtain ⟨⟨rfl, _⟩, _, hv3⟩ := hv;have hlv := hv3 0 _ _ rfl rfl;generalize hm : lx.m = m at hlv hl;cases m with
  | dead => simp [Mode.live] at hl
  | at_ lv =>
   obtain ⟨A, V, ch, U, e2, e3, e4, e5, e6⟩ := Y9h (Rep.move (S' := RoS c (SS env noP a.tmps vs w cs bs)) (fun b hb _ => ⟨by simpa using hb, rfl⟩) sm (Rep.ro hlv.1)) hk hsz;obtain ⟨f1, f2⟩ := Y1x te.ty (x := xs.getD k te.ty.dflt) (elemMode (.at_ lv) k) 0 e6;refine ⟨A, V, U, [], _, rfl, fun l lf I => ?_, by rw [Addr.add_block]; exact e3, by rw [Addr.add_block]; exact e4⟩;rw [Y2] at I;have hlt := (X5.1 I).1;have hu := X1 (l := ch) (i := l) om;obtain ⟨M, g2⟩ := f2 l lf _ I hu;have F : lf.m = .at_ .ro := g2.elim (·.1) (fun h => by rw [h]; rfl);refine ⟨by rw [F]; rfl, _, e5 l _ hu, ?_⟩;obtain ⟨t, y, m⟩ := lf;simp only at F;subst F;exact M
  | bor r' j p =>
   obtain ⟨hrep, ⟨O, u', ho, hp⟩, hb3⟩ := hlv;obtain ⟨A, V, ch, U, e2, e3, e4, e5, e6⟩ := Y9h hrep hk hsz;obtain ⟨f1, f2⟩ := Y1x te.ty (x := xs.getD k te.ty.dflt) (elemMode (.bor r' j p) k) 0 e6;have Y : p = [] -> ∃ e t G m B n V, O = ⟨.slice e t, G, m⟩ /\ u' = .slice (some ⟨B, 0, none⟩) n V /\ 0 <= (k : Int) /\ (k : Int).toNat < G.length /\ ∀ l, (A.add (k * te.ty.sz)).add l = ⟨B, (k : Int).toNat * t.sz + l, none⟩ := fun C => by
    obtain ⟨m, rfl, rfl⟩ := hp C
    -- the row of the place itself
    have hrow : ∃ B D, evT a.tmps x = .slice (some ⟨B, 0, none⟩) xs.length D := by
     have hlr := (E.av r');obtain ⟨M, g2, g3⟩ := ho;cases hev : (SS env noP a.tmps vs w cs bs).env r' with
     | con kk ls =>
      rw [hev] at hlr M;have h4 := hlr.2.2.2 j _ _ M g3;cases m with
      | bor _ _ _ => simp [Mode.own] at g2
      | dead => simp [Mode.own] at g2
      | at_ lv =>
       have hrp := h4.rep;obtain ⟨v', cs', b0, b1, q1, _, _, q2⟩ := hrp;have q1 : evT a.tmps x = v' := by simpa using q1
       rw [q1];have own : (SS env noP a.tmps vs w cs bs).w.ownsRow 0 te.id te.ty.sz v' xs.length cs' := by
        cases lv with
        | ro => simp [Mode.own] at g2
        | sh => exact q2.2
        | dp => exact q2.2
        | pn _ => exact q2.2
       rcases own.2 with ⟨_, h0⟩ | ⟨g, cap, cur, q3, _⟩
       ·omega
       ·exact ⟨g, cap, q3⟩
     | _ => rw [hev] at M; simp [AV.leaf?] at M
    obtain ⟨B, D, q⟩ := hrow;have hA : A = ⟨B, 0, none⟩ := by rw [q] at U; simp at U; exact U.1.symm
    exact ⟨te.id, te.ty, xs, m, B, xs.length, D, rfl, q, om, by simpa using hk, fun l => by rw [hA, Y1h, Y1h]; simp⟩
   refine ⟨A, V, U, [], _, rfl, fun l lf I => ?_, ⟨by rw [Addr.add_block]; exact e3, by rw [Addr.add_block]; exact e4⟩, O, u', ho, fun C => ?_, fun i0 o0 z C => ?_⟩
   ·rw [Y2] at I;have hlt := (X5.1 I).1;have hu := X1 (l := ch) (i := l) om;obtain ⟨M, g2⟩ := f2 l lf _ I hu;obtain ⟨t, y, m⟩ := lf;rcases g2 with ⟨F, hf⟩ | F
    ·simp only at F hf M;subst F;exact ⟨rfl, _, e5 l _ hu, (Rep.flat hf M).2⟩
    ·simp only [elemMode, X14] at F M;subst F;refine ⟨rfl, _, e5 l _ hu, M, ⟨O, u', ho, fun h => by simp at h⟩, fun i o N => ?_⟩;have N : p ++ [((k : Int), l)] = [(i, o)] := N;cases p with
     | cons p0 p => simp at N
     | nil =>
      simp only [X2o, X2q, Xw, and_true] at N;obtain ⟨rfl, rfl⟩ := N;obtain ⟨e, t', G, m, B, n, D, s1, s2, s3, s4, s5⟩ := Y rfl;exact ⟨_, ⟨⟨by rw [Addr.add_block, Addr.add_block]; exact e3, by rw [Addr.add_block, Addr.add_block]; exact e4⟩, O, u', ho, (fun _ => ⟨e, t', G, m, B, n, D, s1, s2, s3, s4, s5 l⟩), fun _ _ _ e => by cases e⟩, e5 l _ hu⟩
   ·have C : p = [] := by
     cases p with
     | nil => rfl
     | cons q p => cases p <;> simp [nestP] at C
    obtain ⟨e, t', G, m, B, n, D, s1, s2, s3, s4, s5⟩ := Y C;refine ⟨e, t', G, m, B, n, D, s1, s2, s3, s4, ?_⟩;have := s5 0
    rwa [Y6c, X2i] at this
   ·have C : p = [(i0, o0)] /\ z = te.ty.sz := by
     cases p with
     | nil => simp [nestP] at C
     | cons q p =>
      cases p with
      | nil =>
       simp only [nestP, X2q, Xw, true_and, and_true] at C;exact ⟨by rw [C.1], C.2.symm⟩
      | cons q2 p => simp [nestP] at C
    obtain ⟨a0, ⟨⟨w1, w2⟩, lf2, u2, w3, w4⟩, w5⟩ := hb3 i0 o0 C.1;obtain rfl : O = lf2 := Xq (ho.1.symm.trans w3.1);obtain rfl : u' = u2 := Xq (ho.2.2.symm.trans w3.2.2);obtain ⟨e, t', G, m, B, n, D, s1, s2, s3, s4, s5⟩ := w4.1 rfl;subst s5;exact ⟨e, t', G, m, B, n, D, A, xs.length, V, s1, s2, ⟨s3, s4⟩, ⟨w1, w2⟩, by rw [<- U]; exact w5, ⟨om, by simpa using hk⟩, by rw [C.2, Int.toNat_natCast, X2i]⟩
 obtain ⟨vs, h0'⟩ := hr;have hr : RE c env a.tmps w := ⟨vs, h0'⟩;obtain ⟨cs, bs, E, _⟩ := h0'.rel;obtain ⟨A, V, U, _⟩ := X vs cs bs E;refine finV hr hdst (v := .pointer (some (A.add (k * te.ty.sz)))) ?_ hd (fun vs cs bs E => ?_) ?_ hK hn
 ·have hsize : (Go.sizeOf te.id).run P w = .ok te.ty.sz w := by simp [Go.sizeOf, typeInfo, hi0, hi1]
  simp [execOp, hop, Y6, U, hr.int1 hi, Instr.indexAt, asIntOf, run_underlying hund, hsize, hk]
 ·obtain ⟨A', D, Z, h⟩ := X vs cs bs E;rw [U] at Z;have : A = A' := by simp at Z; exact Z.1
  subst this;exact h
 ·have hrf := hr.refs (some (.slice te.id te.ty)) x;rw [hx] at hrf;have W : ∀ q : Nat × Nat, (∃ p, lx.m = .bor q.1 q.2 p) -> q.1 < env.length := by
   rintro q ⟨p, hp⟩
   exact hrf.1 q (by simp only [AV.refs, X1u, List.flatMap_nil, Xh, Leaf.refs, hp, Xb])
  refine ⟨fun q L => ?_, by simp [AV.ptrs]⟩;simp only [AV.refs, X6] at L;rcases L with L | L
  ·obtain ⟨l, p, hp⟩ := Y4o _ _ _ _ q L;exact W q (Y8x q ⟨p, hp⟩)
  ·cases hm : lx.m with
   | bor r' j p =>
    rw [hm] at L;simp only [Xb] at L;rw [L];exact W (r', j) ⟨p, hm⟩
   | at_ lv => rw [hm] at L; simp at L
   | dead => rw [hm] at L; simp at L
end
def mkV (agg : Bool) (b : List Value) : Value := if agg then .agg b.toArray else b.headD undef
theorem Y22 : ∀ t : Ty, (flat t).length = t.sz
 | .int _ => rfl
 | .bool => rfl
 | .str => rfl
 | .slice _ _ => rfl
 | .unit => rfl
 | .pair a b => by simp [flat, Ty.sz, Y22 a, Y22 b]
theorem Y3k (h : t.isAgg = false) : t.sz = 1 := by cases t <;> first | rfl | simp [Ty.isAgg] at h
theorem Y1e (h : typedAs ls t = true) : ls.length = t.sz := by
 have : ls.map Leaf.t = flat t := by simpa [typedAs] using h
 rw [<- Y22, <- this, X2p]
theorem Y2b {agg : Bool} {b : List Value} (h : agg = false -> b.length = 1) : KCells c w [] (if agg then .agg else .val) (mkV agg b) b := by
 cases agg with
 | true => exact ⟨rfl, rfl⟩
 | false =>
  obtain ⟨u, rfl⟩ := X1r.1 (h rfl);exact ⟨rfl, rfl⟩
section
variable {P : Program} {o : Oper} {a : Act} {w : World} {R : Type} {K : Env -> Option R} {r : R} {next : Act -> World -> Prop} {Q : Exit -> Act -> World -> Prop} {c : Cx} {d : Nat} {T : Tab} {env : Env}
theorem Y52 (hT : TabOk P T) {t : TypeId} (h : T.ty t = some τ) {x : Addr} {g : List Value} (l : g.length = τ.sz) (i : ∀ (j : Nat) (u : Value), g[j]? = some u -> w.cell? (x.add j) = some u) : (Instr.loadAt t (.pointer (some x))).run P w = .ok (mkV τ.isAgg g) w := by
 unfold Instr.loadAt loadVar;cases b : τ.isAgg with
 | true =>
  have := run_loadCells_list (P := P) (w := w) x g i;simp [Instr.sureAddr, TabOk.agg hT h, TabOk.sizeOf hT h, b, <- l, this, mkV]
 | false =>
  have m := Y3k b;obtain ⟨u, rfl⟩ := X1r.1 (l.trans m);have := i 0 u rfl;simp [Instr.sureAddr, TabOk.agg hT h, b, load, Sem.run, mkV];rw [show x.add 0 = x from rfl] at this;rw [this]
theorem Y9j (hT : TabOk P T) {t : TypeId} {r' off : Nat} {e : BoxK} (U : o.op = .load t x) (F : o.dst = some d) (M : RE c env a.tmps w) (hd : d < env.length) (ht : T.ty t = some τ) (hx : rd none env x = .path r' off) (N : get env r' = .con (.box e) ls)
  (V : typedAs (takeLs τ.sz (dropLs off ls)) τ = true) (hK : K (setD (some d) env (mkCon τ.isAgg (borrowFrom r' off (takeLs τ.sz (dropLs off ls))))) = some r) (hn : Next c a K r env.length next) : o.wp P a w next Q := by
 have m := Y1e V;have A : r' < env.length := Yx N;have p : ∀ vs cs bs, Rel c (SS env noP a.tmps vs w cs bs) -> ∃ B i, evT a.tmps x = .pointer (some ⟨B, off, none⟩) /\ i.length = τ.sz /\ (∀ (j : Nat) (u : Value), i[j]? = some u -> w.cell? ((⟨B, off, none⟩ : Addr).add j) = some u) /\
   ValC c (SS env noP a.tmps vs w cs bs) (mkCon τ.isAgg (borrowFrom r' off (takeLs τ.sz (dropLs off ls)))) (mkV τ.isAgg i) i := by
  intro vs cs bs b;obtain ⟨cells, Z⟩ := M.val none x vs cs bs b;rw [hx] at Z;obtain ⟨e', ls', B, g1, g2, g3⟩ := Z;have E : (SS env noP a.tmps vs w cs bs).env r' = .con (.box e) ls := by show ovl env noP r' = _; rw [Y7 A]; exact N
  have D := b.av r';rw [E] at D;obtain ⟨⟨B', k1, k2, k3⟩, h2, h3, h4⟩ := D;rw [g2] at k1;have : B = B' := by simpa using k1
  subst this;have y : (takeLs τ.sz (dropLs off ls)).length = (((cs r').drop off).take τ.sz).length := by
   rw [Yq, Yr, Xn, X16, Xn, X16, h2]
  refine ⟨B, ((cs r').drop off).take τ.sz, g3, by rw [<- y]; exact m, fun j u C => ?_, ?_, by rw [Y2e]; exact y, fun l lf u I C => ?_⟩
  ·have G : j < τ.sz := by have := (X5.1 C).1; simp at this; omega
   rw [X1m, X4 G, X1n] at C;rw [Y1h];unfold World.cell?;rw [k2];simpa using C
  ·exact Y2b (fun h => by rw [<- y, m]; exact Y3k h)
  ·rw [Y2, Y1t] at I;obtain ⟨L, g, rfl⟩ := Xv.1 I;have G : l < τ.sz :=gr;rw [Yq, Yr, X1m, X4 G, X1n] at g;rw [X1m, X4 G, X1n] at C;have := Y6l E g C (h4 _ _ _ (by rw [Y2]; exact g) C);exact LeafV.of_held this.1 this.2
 obtain ⟨vs, Y⟩ := M;have M : RE c env a.tmps w := ⟨vs, Y⟩;obtain ⟨cs, bs, b, O⟩ := Y.rel;obtain ⟨B, i, W, e2, e3, e4⟩ := p vs cs bs b;refine finV M F (v := mkV τ.isAgg i) ?_ hd (fun vs cs bs b => ?_) ?_ hK hn
 ·simp [execOp, U, Y6, W, Y52 hT ht e2 e3]
 ·obtain ⟨B', ch', X, f2, f3, f4⟩ := p vs cs bs b;rw [W] at X;have : B = B' := by simpa using X
  subst this;have : i = ch' := by
   apply X24;intro j;by_cases G : j < τ.sz
   ·grind
   ·grind
  subst this;exact ⟨i, f4⟩
 ·refine ⟨fun q z => ?_, by simp [mkCon, AV.ptrs]⟩;simp only [mkCon, AV.refs, Xi] at z;obtain ⟨lf, hm, z⟩ := z;obtain ⟨l, I⟩ := Xx hm;rw [Y1t] at I;obtain ⟨L, g, rfl⟩ := Xv.1 I;split at z
  ·simp [Leaf.refs] at z;rw [z]; exact A
  ·have := (O r').1 q;rw [Y7 A, N] at this;refine this ?_;simp only [AV.refs, Xi];rw [Yq, Yr] at g;exact ⟨L, X26 (X27 (X8 g)), z⟩
theorem Y9k (hT : TabOk P T) {t : TypeId} {wr : Option (Nat × Nat × List (Int × Nat) × Int × Nat)} (C : o.op = .load t x) (z : o.dst = some d) (A : RE c env a.tmps w) (Y : d < env.length) (ht : T.ty t = some τ) (N : rd none env x = .eptr ls wr)
  (D : typedAs (takeLs τ.sz ls) τ = true) (W : K (setD (some d) env (mkCon τ.isAgg (takeLs τ.sz ls))) = some r) (hn : Next c a K r env.length next) : o.wp P a w next Q := by
 have g := Y1e D;have i : ∀ vs cs bs, Rel c (SS env noP a.tmps vs w cs bs) -> ∃ x0, evT a.tmps x = .pointer (some x0) /\ ∀ l lf, leafAt ls l = some lf -> lf.m.own = false /\ ∃ u, w.cell? (x0.add l) = some u /\ Held c (SS env noP a.tmps vs w cs bs) u lf := by
  intro vs cs bs b;obtain ⟨cells, M⟩ := A.val none x vs cs bs b;rw [N] at M;obtain ⟨x0, U, V, g3⟩ := M;exact ⟨x0, U, V⟩
 obtain ⟨vs, G⟩ := A;have A : RE c env a.tmps w := ⟨vs, G⟩;obtain ⟨cs, bs, b, hno⟩ := G.rel;obtain ⟨x0, E, e2⟩ := i vs cs bs b;have Z : τ.sz <= ls.length := by rw [Yq, Xn] at g; omega
 let p := (List.range τ.sz).map fun l => (w.cell? (x0.add l)).getD undef
 have X : ∀ l < τ.sz, ∃ u, p[l]? = some u /\ w.cell? (x0.add l) = some u := by
  intro l I;obtain ⟨_, u, L, _⟩ := e2 l _ (by rw [Y2]; exact X1 om);exact ⟨u, gr⟩
 have m : p.length = τ.sz := by simp [p]
 have y : ∀ (j : Nat) (u : Value), p[j]? = some u -> w.cell? (x0.add j) = some u :=gr;refine finV A z (v := mkV τ.isAgg p) ?_ Y (fun vs cs bs b => ?_) ?_ W hn
 ·simp [execOp, C, Y6, E, Y52 hT ht m y]
 ·obtain ⟨x1, F, O⟩ := i vs cs bs b;rw [E] at F;have : x0 = x1 := by simpa using F
  subst this;refine ⟨p, Y2b (fun h => by rw [m]; exact Y3k h), by rw [g, m], fun l lf u I L => ?_⟩;have B := Y4n I;obtain ⟨k1, u', k2, k3⟩ := O l lf B;have := y l u L;rw [k2] at this;have : u' = u :=gr;subst this;exact LeafV.of_held k1 k3
 ·have := A.refs none x;rw [N] at this;exact ⟨fun q hq => this.1 q (by simp only [AV.refs, X6]; exact .inl (Y5i _ _ q hq)), by simp [mkCon, AV.ptrs]⟩
theorem Ydv (hT : TabOk P T) {t : TypeId} (g : T.ty t = some τ) {cs : List Value} {off : Nat} (j : off + τ.sz <= cs.length) : (part t cs.toArray off).run P w = .ok (mkV τ.isAgg ((cs.drop off).take τ.sz)) w := by
 unfold part;cases b : τ.isAgg with
 | true =>
  simp [TabOk.agg hT g, TabOk.sizeOf hT g, b, mkV]
 | false =>
  have h := Y3k b;have : cs[off]? = some cs[off] := X1 om;have i : (cs.drop off).take 1 = [cs[off]] := by
   rw [List.drop_eq_getElem_cons om];rfl
  simp [TabOk.agg hT g, b, mkV, this, h, i]
theorem Ydw (hT : TabOk P T) {s : TypeId} {f off : Nat} (C : o.op = .field s x f) (m : o.dst = some d) (j : RE c env a.tmps w) (W : d < env.length) (X : fieldAt T s f = some (off, τ)) (F : rd none env x = .con .agg ls)
  (D : typedAs (takeLs τ.sz (dropLs off ls)) τ = true) (V : K (setD (some d) env (mkCon τ.isAgg (takeLs τ.sz (dropLs off ls)))) = some r) (hn : Next c a K r env.length next) : o.wp P a w next Q := by
 have i := Y1e D;obtain ⟨fs, z, N, O, rfl, U, h5⟩ := TabOk.field hT X;have hll : z.offset + τ.sz <= ls.length := by
  rw [Yq, Yr, Xn, X16] at i;omega
 obtain ⟨vs, I⟩ := j;have j : RE c env a.tmps w := ⟨vs, I⟩;obtain ⟨cs, bs, b, hno⟩ := I.rel;obtain ⟨cells, L⟩ := j.val none x vs cs bs b;rw [F] at L;obtain ⟨⟨G, _⟩, e2, e3⟩ := L;refine finV j m (v := mkV τ.isAgg ((cells.drop z.offset).take τ.sz)) ?_ W (fun vs cs bs b => ?_) ?_ V hn
 ·have hp := Ydv (w := w) hT U (cs := cells) (off := z.offset) om;simp [execOp, C, Y6, G, Instr.field, run_underlying N, O, asAgg, hp]
 ·obtain ⟨g, y⟩ := j.val none x vs cs bs b;rw [F] at y;obtain ⟨⟨A, _⟩, M, B⟩ := y;rw [G] at A;have : cells = g :=gr;subst this;refine ⟨(cells.drop z.offset).take τ.sz, Y2b (fun h => by rw [Xn, X16, Y3k h]; have := Y3k h; omega), by rw [i, Xn, X16]; omega, fun l lf u Z E => ?_⟩;have p := Y4n Z;rw [Y4m] at p;have Y : l < τ.sz := by have := (X5.1 E).1; simp at this; omega
  rw [X1m, X4 Y, X1n] at E;exact B _ _ _ p E
 ·have := j.refs none x;rw [F] at this;exact ⟨fun q hq => this.1 q (Y5h _ _ q (Y5i _ _ q hq)), by simp [mkCon, AV.ptrs]⟩
theorem Y7c : ∀ {b : List (Bool × Nat)} {vs cs : List Value} {i off n : Nat} {agg : Bool}, TupCells b vs cs -> tupOff b i = some (off, agg, n) -> ∃ v, vs[i]? = some v /\ off + n <= cs.length /\ v = mkV agg ((cs.drop off).take n) /\ (agg = false -> n = 1)
 | [], vs, cs, i, off, n, agg, h, ho => by simp [tupOff] at ho
 | (ag, m) :: b, vs, cs, 0, off, n, agg, ⟨v, vs', c0, cs', e1, e2, hl, hv, ht⟩, ho => by
  subst e1; subst e2;simp [tupOff] at ho;obtain ⟨rfl, rfl, rfl⟩ := ho;refine ⟨v, rfl, by simp [hl], ?_, ?_⟩
  ·rw [List.drop_zero, <- hl, List.take_left];cases ag with
   | true => simpa [mkV] using hv
   | false => simp at hv; rw [hv.1]; rfl
  ·grind
 | (ag, m) :: b, vs, cs, i + 1, off, n, agg, ⟨v, vs', c0, cs', e1, e2, hl, hv, ht⟩, ho => by
  subst e1; subst e2;simp [tupOff] at ho;split at ho
  ·rename_i j q g;simp at ho;obtain ⟨rfl, rfl⟩ := ho;obtain ⟨z, l, A, p, y⟩ := Y7c ht g;refine ⟨z, l, by simp [hl]; omega, ?_, y⟩;rw [p, List.drop_append, X2w (show c0.length <= m + j by omega), X2o, show m + j - c0.length = j by omega]
  ·simp at ho
theorem Y8y {s i off n : Nat} {agg : Bool} {E : List (Bool × Nat)} (G : o.op = .extract (.tmp s) i) (z : o.dst = some d) (D : RE c env a.tmps w) (hd : d < env.length) (L : get env s = .con (.tup E) ls) (W : tupOff E i = some (off, agg, n))
  (B : (takeLs n (dropLs off ls)).any (fun l => l.m.own) = false) (hK : K (setD (some d) env (mkCon agg (takeLs n (dropLs off ls)))) = some r) (hn : Next c a K r env.length next) : o.wp P a w next Q := by
 have m : s < env.length := Yx L;have j : ∀ vs cs bs, Rel c (SS env noP a.tmps vs w cs bs) -> ∃ p, evT a.tmps (.tmp s) = .tuple p.toArray /\ TupCells E p (cs s) /\ ls.length = (cs s).length /\ ∀ l lf u, leafAt ls l = some lf -> (cs s)[l]? = some u -> LeafRel c (SS env noP a.tmps vs w cs bs) s l u lf := by
  intro vs cs bs b;have y := b.av s;have C : (SS env noP a.tmps vs w cs bs).env s = .con (.tup E) ls := by show ovl env noP s = _; rw [Y7 m]; exact L
  have e2 : (SS env noP a.tmps vs w cs bs).tm s = evT a.tmps (.tmp s) := X4 (D.choose_spec.len ▸ m);rw [C, e2] at y;obtain ⟨⟨_, p, h1, h2⟩, h3, _, h4⟩ := y;exact ⟨p, h1, h2, h3, h4⟩
 obtain ⟨vs, U⟩ := D;have D : RE c env a.tmps w := ⟨vs, U⟩;obtain ⟨cs, bs, b, g⟩ := U.rel;obtain ⟨p, C, e2, e3, e4⟩ := j vs cs bs b;obtain ⟨v, N, f2, f3, f4⟩ := Y7c e2 W;refine finV D z (v := v) ?_ hd (fun vs cs bs b => ?_) ?_ hK hn
 ·simp [execOp, G, Y6, C, Instr.extract, N]
 ·obtain ⟨M, O, Z, g3, g4⟩ := j vs cs bs b;rw [C] at O;have : p = M := by simpa using O
  subst this;obtain ⟨v', Y, k2, k3, k4⟩ := Y7c Z W;rw [N] at Y;have : v = v' := by simpa using Y
  subst this;have F : (takeLs n (dropLs off ls)).length = (((cs s).drop off).take n).length := by rw [Yq, Yr, Xn, X16, Xn, X16, g3]
  refine ⟨((cs s).drop off).take n, ?_, F, fun l lf u V X => ?_⟩
  ·rw [k3];exact Y2b (fun h => gr)
  ·have A := Y4n V;rw [Y4m] at A;have hj : l < n :=gr;rw [X1m, X4 hj, X1n] at X;have I := g4 _ _ _ A X;have g : lf.m.own = false := by
    cases hb : lf.m.own with
    | false => rfl
    | true =>
     have : (takeLs n (dropLs off ls)).any (fun l => l.m.own) = true := X1o.2 ⟨lf, Yc V, hb⟩;rw [B] at this;simp at this
   exact LeafV.of_held g (I.held g).2
 ·have := g s;rw [Y7 m, L] at this;exact ⟨fun q hq => this.1 q (Y5h _ _ q (Y5i _ _ q hq)), by simp [mkCon, AV.ptrs]⟩
theorem Y9l (b : env.length = tmps.size) (h : Rel c (SS env noP tmps vs w cs bs)) : ∀ {xs : List Operand} {ps : List (Nat × Nat)}, xs.mapM (fun x => match rd none env x with | .path r off => some (r, off) | _ => none) = some ps -> PtrRels (SS env noP tmps vs w cs bs) ps (xs.map (evT tmps))
 | [], ps, hm => by simp at hm; subst hm; rfl
 | x :: xs, ps, hm => by
  rw [X2s] at hm;cases j : rd none env x with
  | path r off =>
   rw [j] at hm;cases g : xs.mapM (fun x => match rd none env x with | .path r off => some (r, off) | _ => none) with
   | none => simp_all
   | some l =>
    rw [g] at hm;simp at hm;subst hm;obtain ⟨cells, i⟩ := Yo b h none x;rw [j] at i;exact ⟨_, _, rfl, i, Y9l b h g⟩
  | _ => grind
theorem Ybi (i : RE c env a.tmps w) : ∀ {xs : List Operand} {ps : List (Nat × Nat)}, xs.mapM (fun x => match rd none env x with | .path r off => some (r, off) | _ => none) = some ps -> ∀ q ∈ ps.map (·.1), q < env.length
 | [], ps, hm => gr
 | x :: xs, ps, hm => by
  rw [X2s] at hm;cases j : rd none env x with
  | path r off =>
   rw [j] at hm;cases b : xs.mapM (fun x => match rd none env x with | .path r off => some (r, off) | _ => none) with
   | none => grind
   | some l =>
    rw [b] at hm;simp at hm;subst hm;have h := i.refs none x;rw [j] at h;intro q g;simp only [X1y, Xr] at g;rcases g with rfl | g
    ·exact h.2 _ (by simp [AV.ptrs])
    ·exact Ybi i b q g
  | _ => simp_all
theorem Yay {first b : Array Operand} {ps : List (Nat × Nat)} (j : o.op = .makeFunc (.func f) first b) (g : o.dst = some d) (l : RE c env a.tmps w) (y : d < env.length) (z : first.size = 0)
  (m : b.toList.mapM (fun x => match rd none env x with | .path r off => some (r, off) | _ => none) = some ps) (p : K (setD (some d) env (.clo f ps)) = some r) (A : Next c a K r env.length next) : o.wp P a w next Q := by
 have i : first = #[] := Array.eq_empty_of_size_eq_zero z
 refine finV l g (av := .clo f ps) (v := .func (.func f) #[] (b.map (evT a.tmps))) ?_ y (fun vs cs bs h => ⟨[], b.toList.map (evT a.tmps), by rw [<- X2l, X1g], Y9l l.choose_spec.len h m⟩) ⟨by simp [AV.refs], fun q B => Ybi l m q (by simpa [AV.ptrs] using B)⟩ p A;simp [execOp, j, Y6, i, Instr.makeFunc]
end
theorem Rep.dpS {S S' : Nat -> Prop} {w : World} : ∀ {t : Ty} {cs : List Value} {x : t.D} {bs : List Nat}, Rep S w t .dp cs x bs -> Rep S' w t .dp cs x bs
 | .int k, _, _, _, h => h
 | .bool, _, _, _, h => h
 | .str, _, _, _, h => h
 | .slice e t, _, _, _, ⟨v, xs, b0, b1, h1, h2, h3, h4⟩ => ⟨v, xs, b0, b1, h1, h2, El.imp (fun c x b _ h => Rep.dpS h) h3, h4⟩
 | .unit, _, _, _, h => h
 | .pair a b, _, _, _, ⟨c1, c2, b1, b2, h1, h2, h3, h4⟩ => ⟨c1, c2, b1, b2, h1, h2, Rep.dpS h3, Rep.dpS h4⟩
theorem Rel.reform (h : Rel c s) {n m : Nat} (W : ∀ r, (∀ q ∈ (s.env r).refs, q.1 ≠ n /\ q.1 ≠ m) /\ (∀ q ∈ (s.env r).ptrs, q ≠ n /\ q ≠ m)) (hb : Below c.base s.w w')
  (y : ∀ b, b < s.w.heap.size -> (∀ l, b ∉ s.bs n l) -> w'.heap[b]? = s.w.heap[b]?) (av : AV) (v : Value) (cd : List Value) (A : Nat -> List Nat)
  (N : ∀ l b, b ∈ A l -> b < w'.heap.size /\ (s.w.heap.size <= b \/ ∃ z, b ∈ s.bs n z \/ b ∈ s.bs m z)) (U : ∀ l z b, b ∈ A l -> b ∈ A z -> l = z) (hnd : ∀ l, (A l).Nodup)
  (M : let s' : St := ⟨upd (upd s.env m .undef) n av, upd s.tm n v, w', upd s.cs n cd, upd (upd s.bs m (fun _ => [])) n A⟩; Keeps c s s' -> AVRel c s' n av v) :
  Rel c ⟨upd (upd s.env m .undef) n av, upd s.tm n v, w', upd s.cs n cd, upd (upd s.bs m (fun _ => [])) n A⟩ := by
 let s' : St := ⟨upd (upd s.env m .undef) n av, upd s.tm n v, w', upd s.cs n cd, upd (upd s.bs m (fun _ => [])) n A⟩
 have i : ∀ r, ¬ (r = n \/ r = m) -> s'.env r = (s.env r).chg noG /\ s'.tm r = s.tm r /\ s'.cs r = s.cs r /\ s'.bs r = s.bs r := fun r g => by
  simp at g;refine ⟨by rw [AV.chg_no]; show upd _ _ _ r = _; rw [Y1 _ _ g.1, Y1 _ _ g.2], Y1 _ _ g.1, Y1 _ _ g.1, ?_⟩;show upd _ _ _ r = _;rw [Y1 _ _ g.1, Y1 _ _ g.2]
 have F : s'.bs n = A := Y0 _ _ _;have O : m ≠ n -> ∀ l, s'.bs m l = [] := fun hm l => by
  have : s'.bs m = fun _ => [] := by show upd _ _ _ m = _; rw [Y1 _ _ hm, Y0]
  rw [this]
 have G : ∀ r j, r ≠ n /\ r ≠ m -> SamePl s s' r j := fun r j g => by
  have C := i r (by simp; exact g);refine ⟨fun lf u ho => ho.chg C.1 C.2.2.1, by rw [C.2.2.2], fun b p => y b (h.own _ _ _ p).2 (fun l V => ?_)⟩;exact g.1 (h.disj _ _ _ _ _ p V).1
 have X : ∀ r, r ≠ n /\ r ≠ m -> SamePtr s s' r := fun r g => by
  have C := i r (by simp; exact g);exact SamePtr.chg C.1 C.2.1
 refine Rel.step (s' := s') noG h (fun r => r = n \/ r = m) (fun r _ => r ≠ n /\ r ≠ m) (fun r => r ≠ n /\ r ≠ m) i hb (fun b V B => y b V (fun l => B n l (.inl rfl)))
  (fun r l b B p => ?_) (fun r l r' z b B Z D E => ?_) (fun r l B => ?_) (fun r _ => W r) (fun I => ⟨Yl I G, Y13 I G, fun r hL _ => X r hL⟩) (fun I r B => ?_)
 ·by_cases g : r = n
  ·subst g;rw [F] at p;obtain ⟨k1, k2⟩ := N l b p;exact ⟨k1, k2.imp id (fun ⟨z, k3⟩ => k3.elim (fun k => ⟨r, z, .inl rfl, k⟩) (fun k => ⟨m, z, .inr rfl, k⟩))⟩
  ·grind
 ·by_cases g : r = n
  ·by_cases Y : r' = n
   ·subst g; subst Y;rw [F] at D E;exact ⟨rfl, U _ _ _ D E⟩
   ·grind
  ·grind
 ·by_cases g : r = n
  ·simp_all
  ·grind
 ·by_cases g : r = n
  ·subst g;have L : s'.env r = av := Y0 _ _ _;have e2 : s'.tm r = v := Y0 _ _ _;rw [L, e2];exact M I
  ·have e := B.resolve_left g;subst e;have L : s'.env r = .undef := by show upd _ _ _ r = _; rw [Y1 _ _ g, Y0]
   rw [L];exact O g
theorem RP.reform (h : RP c env tmps w ps vs) {n m : Nat} (A : env.length <= n) (F : env.length <= m) (G : av.refs = [] /\ av.ptrs = [])
  (I : ∀ cs bs, Rel c (SS env ps tmps vs w cs bs) -> Below c.base w w' /\ (∀ b, b < w.heap.size -> (∀ l, b ∉ bs n l) -> w'.heap[b]? = w.heap[b]?) /\ ∃ (cd : List Value) (g : Nat -> List Nat),
   (∀ l b, b ∈ g l -> b < w'.heap.size /\ (w.heap.size <= b \/ ∃ i, b ∈ bs n i \/ b ∈ bs m i)) /\ (∀ l i b, b ∈ g l -> b ∈ g i -> l = i) /\ (∀ l, (g l).Nodup) /\
   (let s' : St := ⟨upd (upd (ovl env ps) m .undef) n av, upd (ovlT tmps vs) n v, w', upd cs n cd, upd (upd bs m (fun _ => [])) n g⟩; Keeps c (SS env ps tmps vs w cs bs) s' -> AVRel c s' n av v)) :
  RP c env tmps w' (upd (upd ps m .undef) n av) (upd vs n v) := by
 obtain ⟨z, cs, bs, p, y⟩ := h;obtain ⟨D, E, cd, g, L, k2, M, N⟩ := I cs bs p;have j : ∀ r, (∀ q ∈ (ovl env ps r).refs, q.1 ≠ n /\ q.1 ≠ m) /\ (∀ q ∈ (ovl env ps r).ptrs, q ≠ n /\ q ≠ m) := fun r =>
  ⟨fun q B => by have := (y r).1 q B; omega, fun q B => gr⟩
 have C := p.reform j D E av v cd g L k2 M N;have e : upd (upd (ovl env ps) m .undef) n av = ovl env (upd (upd ps m .undef) n av) := by rw [Yb A, Yb F]
 refine ⟨z, _, _, Rel.congr C e (Yv (z ▸ A) v).symm, fun r => ?_⟩;rw [<- e];simp only [upd];split
 ·grind
 ·split
  ·exact ⟨by simp [AV.refs], by simp [AV.ptrs]⟩
  ·exact y r
theorem Yd (h : ∀ l ∈ ls, l.m.settled = true) : (AV.con k ls).refs = [] /\ (AV.con k ls).ptrs = [] := Settled.refs (.inr ⟨k, ls, rfl, h⟩)
theorem Y87 (h : Rel c (SS env ps tmps vs w cs bs)) (b : env.length <= n) (g : ps n = .undef) : ∀ l, bs n l = [] := by
 have := h.av n;have e : (SS env ps tmps vs w cs bs).env n = .undef := by show ovl env ps n = _; rw [Yg b, g]
 rw [e] at this;exact this
theorem Yh {α : Type} (f : Nat -> α) (n : Nat) (x y : α) : upd (upd f n x) n y = upd f n y := by funext r; simp [upd]; split <;> rfl
section
variable {P : Program} {o : Oper} {a : Act} {w : World} {R : Type} {K : Env -> Option R} {r : R} {next : Act -> World -> Prop} {Q : Exit -> Act -> World -> Prop} {c : Cx} {d : Nat} {T : Tab} {env : Env}
theorem Y1c : ∀ t : Ty, (zeroCells t).length = t.sz
 | .int _ => rfl
 | .bool => rfl
 | .str => rfl
 | .slice _ _ => rfl
 | .unit => rfl
 | .pair a b => by simp [zeroCells, Ty.sz, Y1c a, Y1c b]
theorem Y1l (t : Ty) : (zeroVal t).cells.toList = zeroCells t := by
 cases t <;> simp [zeroVal, Ty.isAgg, zeroCells, Value.cells, undef]
theorem Y3l (S : Nat -> Prop) (w : World) (τ : Ty) : (zeros τ).length = (zeroCells τ).length /\ (∀ lf ∈ zeros τ, lf.m.settled = true) /\
  ∀ (l : Nat) (lf : Leaf) (u : Value), (zeros τ)[l]? = some lf -> (zeroCells τ)[l]? = some u -> ∃ m, lf.m = .at_ m /\ Rep S w lf.t m [u] lf.x [] := by
 obtain ⟨h, i, g, B, j, p⟩ := Y3j .dp τ 0 (Rep.zero S w τ .dp);refine ⟨h, i, fun l lf u y z => ?_⟩;obtain ⟨m, A, k2⟩ := p l lf u y z;refine ⟨m, A, ?_⟩;have : g.getD l [] = [] := by
  rw [Xk];cases q : g[l]? with
  | none => rfl
  | some b =>
   have := List.flatten_eq_nil_iff.1 j.symm b (X8 q);rw [this]; rfl
 rw [this] at k2;exact k2
theorem Y4p (w : World) (o : Obj) : (w.alloc o).heap[w.heap.size]? = some o := by
 show (w.heap.push o)[w.heap.size]? = _;simp
theorem Yw (w : World) (o : Obj) : Below w.heap.size w (w.alloc o) := (X1f _ _).alloc (Xd _) o
theorem Y3u (w : World) (o : Obj) : (w.alloc o).heap.size = w.heap.size + 1 := by show (w.heap.push o).size = _; simp
theorem RP.boxed (h : RP c env tmps w ps vs) (L : env.length <= n) (Z : ps n = .con k ls) (M : ∀ l ∈ ls, l.m.settled = true) (I : k.plain = true) (e : TypeId) {cells : Array Value} (p : cells = (vs n).cells) :
  RP c env tmps (w.alloc (.cells cells e (0, 0))) (upd ps n (.con (.box ⟨e, false, []⟩) ls)) (upd vs n (.pointer (some ⟨w.heap.size, 0, none⟩))) := by
 have := h.reform (m := n) L L (av := .con (.box ⟨e, false, []⟩) ls) (v := .pointer (some ⟨w.heap.size, 0, none⟩)) (w' := w.alloc (.cells cells e (0, 0))) (Yd M) (fun cs bs A => ?_)
 ·rw [Yh] at this;exact this
 ·have E := A.av n;have W : (SS env ps tmps vs w cs bs).env n = .con k ls := by show ovl env ps n = _; rw [Yg L, Z]
  have e2 : (SS env ps tmps vs w cs bs).tm n = vs n := X2 (by have := h.len; omega);rw [W, e2] at E;obtain ⟨N, O, X, U⟩ := E;have G : (cs n) = cells.toList /\ bs n 0 = [] := by
   cases k with
   | val =>
    obtain ⟨y, D⟩ := N;refine ⟨?_, D⟩;have F : cs n = [vs n] := y;rw [F, p]
    -- one cell
    have Y : ls.length = 1 := by rw [O, y]; rfl
    have := U 0 _ (vs n) (by rw [Y2]; exact X1 om) (by rw [y]; rfl);have z : (vs n).oneCell' = true := by
     generalize ls[0]' om = lf at this;obtain ⟨t, x, m⟩ := lf;cases m with
     | at_ lv => exact Rep.one this.rep _ sm
     | bor _ _ _ => exact Held.one this.2
     | dead => exact this.2
    cases hv : vs n <;> first | rfl | (rw [hv] at z; simp [Value.oneCell'] at z)
   | agg =>
    obtain ⟨y, D⟩ := N;refine ⟨?_, D⟩;rw [p, y];simp [Value.cells]
   | tup sh => simp [Kind.plain] at I
   | box e => simp [Kind.plain] at I
   | tupB i n sh => simp [Kind.plain] at I
  refine ⟨(Yw _ _).mono A.base, fun b g _ => (Yw _ _).block b g, cs n, fun l => if l = 0 then [w.heap.size] else bs n l, fun l b g => ?_, fun l l' b g q => ?_, fun l => ?_, fun B => ?_⟩
  ·by_cases j : l = 0
   ·subst j;simp only [X1p, Xb] at g;rw [g, Y3u];exact ⟨om, .inl (Xd _)⟩
   ·simp only [X2 j] at g;rw [Y3u];exact ⟨by have : b < w.heap.size := (A.own _ _ _ g).2; omega, .inr ⟨l, .inl g⟩⟩
  ·by_cases j : l = 0 <;> by_cases C : l' = 0
   ·omega
   ·simp only [j, C, X1p, X19, Xb] at g q;have : b < w.heap.size := (A.own _ _ _ q).2;omega
   ·simp only [j, C, X1p, X19, Xb] at g q;have : b < w.heap.size := (A.own _ _ _ g).2;omega
   ·simp only [j, C, X19] at g q;exact (A.disj _ _ _ _ _ g q).2
  ·by_cases j : l = 0
   ·simp [j]
   ·simp only [j, X19]; exact A.nodup _ _
  ·refine ⟨⟨w.heap.size, rfl, ?_, by simp [upd, nthB]⟩, by simp only [Y0]; exact O, fun l j => ?_, fun l lf u j V => ?_⟩
   ·simp only [Y0];rw [G.1, X1g];exact Y4p _ _
   ·simp only [Y0];rw [X2 om];exact X l j
   ·simp only [Y0] at V;have y := U l lf u j V;obtain ⟨t, x, m⟩ := lf;cases m with
    | at_ lv =>
     have D := y.rep;refine LeafRel.of_rep y.pin ?_;simp only [Y0, X2 (show l + 1 ≠ 0 by omega)];exact Rep.move (fun b g j => B b g j) (fun b g => (Yw _ _).block b (A.own _ _ _ g).2) D
    | bor _ _ _ => have := M _ (Yc j); simp [Mode.settled] at this
    | dead => have := M _ (Yc j); simp [Mode.settled] at this
theorem Ydx (hT : TabOk P T) (z : o.op = .alloc e) (i : o.dst = some d) (L : RE c env a.tmps w) (F : d < env.length) (G : T.ty e = some τ) (D : K (setD (some d) env (.con (.box ⟨e, false, []⟩) (zeros τ))) = some r) (I : Next c a K r env.length next) : o.wp P a w next Q := by
 obtain ⟨vs, h⟩ := L;have A := h.reform (n := env.length) (m := env.length) (Xd _) (Xd _) (av := .con (.box ⟨e, false, []⟩) (zeros τ)) (v := .pointer (some ⟨w.heap.size, 0, none⟩)) (w' := w.alloc (.cells (zeroVal τ).cells e (0, 0))) (Yd (Y3l (fun _ => True) w τ).2.1) (fun cs bs j => ?_)
 ·refine fin i (v := .pointer (some ⟨w.heap.size, 0, none⟩)) (w' := w.alloc (.cells (zeroVal τ).cells e (0, 0))) ?_ F rfl (by rw [Yh] at A; exact A) (Y0 _ _ _) D I;simp [execOp, z, Instr.alloc, TabOk.zero hT G, newVar, newRow, newObj, Sem.run]
  try rfl
 ·obtain ⟨M, U, N⟩ := Y3l (RoS c ⟨upd (upd (ovl env noP) env.length .undef) env.length (.con (.box ⟨e, false, []⟩) (zeros τ)), upd (ovlT a.tmps vs) env.length (.pointer (some ⟨w.heap.size, 0, none⟩)), w.alloc (.cells (zeroVal τ).cells e (0, 0)), upd cs env.length (zeroCells τ), upd (upd bs env.length (fun _ => [])) env.length (fun l => if l = 0 then [w.heap.size] else [])⟩) (w.alloc (.cells (zeroVal τ).cells e (0, 0))) τ;refine ⟨(Yw _ _).mono j.base, fun b p _ => (Yw _ _).block b p, zeroCells τ, fun l => if l = 0 then [w.heap.size] else [], fun l b p => ?_, fun l O b p E => ?_, fun l => ?_, fun q => ?_⟩
  ·simp_all
  ·grind
  ·grind
  ·refine ⟨⟨w.heap.size, rfl, ?_, by simp [upd, nthB]⟩, by simp [Y0]; exact M, fun l y => ?_, fun l lf u y B => ?_⟩
   ·simp only [Y0];rw [<- Y1l, X1g];exact Y4p _ _
   ·simp only [Y0];rw [X2 om]
   ·simp [Y0] at B;obtain ⟨m, C, k2⟩ := N l lf u (by rw [<- Y2]; exact y) B;obtain ⟨t, x, m'⟩ := lf;simp only at C;have g := Y21 (lv := .dp) τ τ.dflt 0 _ (Yc y);subst C;refine LeafRel.of_rep (Y9g rfl g trivial) ?_;simp only [Y0, X2 (show l + 1 ≠ 0 by omega)];exact k2
theorem Y23 {env' : Env} (b : takeAs τ env x = some (env', ls)) : takeIn (some τ) env x = some (env', .con τ.kind ls) /\ typedAs ls τ = true := by
 unfold takeAs at b;cases g : takeIn (some τ) env x with
 | none => grind
 | some q => grind
theorem Y1o (τ : Ty) : τ.kind.plain = true := by unfold Ty.kind; split <;> rfl
theorem Yf4 (hT : TabOk P T) {env' : Env} (l : o.op = .box e x) (b : o.dst = some d) (z : RE c env a.tmps w) (C : d < env.length) (D : T.ty e = some τ) (A : takeAs τ env x = some (env', ls)) (q : K (setD (some d) env' (.con (.box ⟨e, false, []⟩) ls)) = some r) (y : Next c a K r env.length next) : o.wp P a w next Q := by
 obtain ⟨i, B⟩ := Y23 A;obtain ⟨vs, h⟩ := z;obtain ⟨m, p⟩ := Y18 h (fun r => .inl rfl) i (Xd _) rfl;have g := Yy i;have j := p.boxed (n := env.length) om (Y0 _ _ _) g (Y1o τ) e (cells := (evT a.tmps x).cells) (by rw [Y0]);rw [Yh] at j;rw [<- m] at j;refine fin b (v := .pointer (some ⟨w.heap.size, 0, none⟩)) (w' := w.alloc (.cells (evT a.tmps x).cells e (0, 0))) ?_ gr m j (Y0 _ _ _) q y;simp [execOp, l, Y6, Instr.box, newVar, newRow, newObj, Sem.run]
 try rfl
end
def RVRel (S : Nat -> Prop) (w : World) : RV -> Value -> Prop
 | .val t x, v => ∃ b, v = mkV t.isAgg b /\ Rep S w t .ro b x []
 | .ptr t x, v => PtrV S w t x v
 | .clo f caps, v => ∃ vs, v = .func (.func f) #[] vs.toArray /\ PtrVs S w caps vs
 | .fptr _ _, _ => False
def RVRels (S : Nat -> Prop) (w : World) : List RV -> List Value -> Prop
 | [], vs => vs = []
 | x :: xs, vs => ∃ v b, vs = v :: b /\ RVRel S w x v /\ RVRels S w xs b
def ResRel (S : Nat -> Prop) (base : Nat) (w : World) (B : List Nat) : List (Ty × Lvl) -> List (Σ t : Ty, t.D) -> List (List Value) -> List Nat -> Prop
 | [], xs, chs, bs => xs = [] /\ chs = [] /\ bs = []
 | p :: ps, xs, chs, bs => ∃ (x : p.1.D) (h : List (Σ t : Ty, t.D)) (j : List Value) (g : List (List Value)) (b i : List Nat), xs = ⟨p.1, x⟩ :: h /\ chs = j :: g /\ bs = b ++ i /\
   Rep (fun k => (S k \/ base <= k) /\ k ∉ B) w p.1 p.2.res j x b /\ ResRel S base w B ps h g i
def resVals : List (Ty × Lvl) -> List (List Value) -> List Value
 | p :: ps, ch :: chs => mkV p.1.isAgg ch :: resVals ps chs
 | _, _ => []
def resVal (rs : List (Ty × Lvl)) (b : List (List Value)) : Value := match resVals rs b with
 | [v] => v
 | vs => .tuple vs.toArray
def FnSpec (P : Program) (f : FuncId) (rs : List (Ty × Lvl)) (args : List RV) (i : List (Σ t : Ty, t.D)) : Prop :=
 ∀ (S : Nat -> Prop) (w : World) (g : List Value), RVRels S w args g -> Calls P f g.toArray w (fun e w' => ∃ h bs, e = .returned (resVal rs h) /\ Below w.heap.size w w' /\ ResRel S w.heap.size w' bs rs i h bs /\ bs.Nodup /\ ∀ b ∈ bs, w.heap.size <= b)
def RCapRel (S : Nat -> Prop) (w : World) (b v : Value) : RCap -> Value -> Prop
 | .ro x, u => PtrV S w x.1 x.2 u
 | .pin, u => u = b
 | .self, u => u = v
def RCapRels (S : Nat -> Prop) (w : World) (g v : Value) : List RCap -> List Value -> Prop
 | [], vs => vs = []
 | c :: cs, vs => ∃ u b, vs = u :: b /\ RCapRel S w g v c u /\ RCapRels S w g v cs b
def RVRelX (S : Nat -> Prop) (w : World) (b : Value) : RV -> Value -> Prop
 | .fptr f caps, v => ∃ B us, v = .pointer (some ⟨B, 0, none⟩) /\ S B /\ B < w.heap.size /\ w.cell? ⟨B, 0, none⟩ = some (.func (.func f) #[] us.toArray) /\ RCapRels S w b v caps us
 | rv, v => RVRel S w rv v
def RVRelsY (S : Nat -> Prop) (w : World) (g : Value) : List RV -> List Value -> Prop
 | [], vs => vs = []
 | x :: xs, vs => ∃ v b, vs = v :: b /\ RVRelX S w g x v /\ RVRelsY S w g xs b
def RVRelsX (S : Nat -> Prop) (w : World) (g : Value) : Nat -> List RV -> List Value -> Prop
 | _, [], vs => vs = []
 | 0, _ :: xs, vs => ∃ v b, vs = v :: b /\ RVRelsY S w g xs b
 | k + 1, x :: xs, vs => ∃ v b, vs = v :: b /\ RVRelX S w g x v /\ RVRelsX S w g k xs b
def LvsRel (S : Nat -> Prop) (w : World) (p : Nat -> Prop) (ls : List Leaf) (g : List Value) (b : List (List Nat)) : Prop :=
 ls.length = g.length /\ b.length = g.length /\ ∀ (l : Nat) (lf : Leaf) (u : Value), p l -> ls[l]? = some lf -> g[l]? = some u -> ∃ m, lf.m = .at_ m /\ Rep S w lf.t m [u] lf.x (b.getD l [])
def BoxSig.free (b : BoxSig) (l : Nat) : Prop := (slotAt b.lv l).isFx = false
def FnSpecBox (P : Program) (f : FuncId) (rs : List (Ty × Lvl)) (b : BoxSig) (t : Ty) (x : t.D) (args : List RV) (y : t.D) (p : List (Σ t : Ty, t.D)) : Prop :=
 ∀ (S : Nat -> Prop) (w : World) (i : List Value) (B : Nat) (m : List Value) (h : List (List Nat)) (base : Nat),
  i[b.k]? = some (.pointer (some ⟨B, 0, none⟩)) -> w.heap[B]? = some (.cells m.toArray b.id (0, 0)) -> LvsRel S w (fun _ => True) (leaves t x b.md 0) m h -> (B :: h.flatten).Nodup -> (∀ k ∈ B :: h.flatten, base <= k) -> base <= w.heap.size ->
  RVRelsX S w (.pointer (some ⟨B, 0, none⟩)) b.k args i -> (∀ k, S k -> k ∉ B :: h.flatten) ->
  Calls P f i.toArray w (fun e w' => ∃ ch' g j bs, e = .returned (resVal rs j) /\ Below base w w' /\ (∀ k, k < w.heap.size -> k ∉ B :: h.flatten -> w'.heap[k]? = w.heap[k]?) /\ w'.heap[B]? = some (.cells ch'.toArray b.id (0, 0)) /\ ch'.length = m.length /\ (∀ l, (slotAt b.lv l).isFx = true -> ch'[l]? = m[l]?) /\
   LvsRel (fun k => (S k \/ k ∈ h.flatten \/ w.heap.size <= k) /\ k ∉ B :: (g.flatten ++ bs)) w' b.free (leaves t y b.md 0) ch' g /\ (∀ l, (slotAt b.lv l).isFx = true -> g.getD l [] = []) /\ (B :: (g.flatten ++ bs)).Nodup /\ (∀ k ∈ g.flatten ++ bs, k ∈ h.flatten \/ w.heap.size <= k) /\
   ResRel (fun k => S k \/ k ∈ B :: h.flatten) w.heap.size w' (B :: (g.flatten ++ bs)) rs p j bs)
def FnSpecMut (P : Program) (f : FuncId) (rs : List (Ty × Lvl)) (t : Ty) (x : t.D) (args : List RV) (y : t.D) (m : List (Σ t : Ty, t.D)) : Prop :=
 ∀ (S : Nat -> Prop) (w : World) (l : List Value) (g : List Value) (h : List Nat) (base : Nat), Rep (fun _ => False) w t .dp l x h -> h.Nodup -> (∀ b ∈ h, base <= b) -> base <= w.heap.size -> RVRels S w args g -> (∀ b, S b -> b ∉ h) ->
  Calls P f (mkV t.isAgg l :: g).toArray w (fun e w' => ∃ i bs j, e = .returned (resVal rs i) /\ Below base w w' /\ (∀ b, b < w.heap.size -> b ∉ h -> w'.heap[b]? = w.heap[b]?) /\ Rep (fun _ => False) w' t .dp l y j /\ j.Nodup /\ (∀ b ∈ j, b ∈ h \/ w.heap.size <= b) /\ ResRel S w.heap.size w' bs rs m i bs)
def FnSpecOwn (P : Program) (f : FuncId) (t : Ty) (x : t.D) (args : List RV) (y : t.D) : Prop :=
 ∀ (S : Nat -> Prop) (w : World) (v : Value) (g : List Value) (h : List Nat) (base : Nat), Rep (fun _ => False) w t .dp [v] x h -> h.Nodup -> (∀ b ∈ h, base <= b) -> base <= w.heap.size -> RVRels S w args g -> (∀ b, S b -> b ∉ h) ->
  Calls P f (v :: g).toArray w (fun e w' => ∃ j i, e = .returned j /\ Below base w w' /\ (∀ b, b < w.heap.size -> b ∉ h -> w'.heap[b]? = w.heap[b]?) /\ Rep (fun _ => False) w' t .dp [j] y i /\ i.Nodup /\ (∀ b ∈ i, b ∈ h \/ w.heap.size <= b))
def FnSpecSh (P : Program) (f : FuncId) (t : Ty) (x : t.D) : Prop :=
 ∀ (S : Nat -> Prop) (w : World) (v : Value), Rep S w t .ro [v] x [] -> Calls P f #[v] w (fun e w' => ∃ h g, e = .returned h /\ Below w.heap.size w w' /\ Rep S w' t .sh [h] x g /\ g.Nodup /\ ∀ b ∈ g, w.heap.size <= b)
def FnSpecG (P : Program) (f : FuncId) (rs : List (Ty × Lvl)) (k : Nat) (t : Ty) (x : t.D) (args : List RV) (j : List (Σ t : Ty, t.D)) : Prop :=
 ∀ (S : Nat -> Prop) (w : World) (v : Value) (g : List Value) (h : List Nat) (base : Nat), Rep (fun _ => False) w t .dp [v] x h -> h.Nodup -> (∀ b ∈ h, base <= b) -> base <= w.heap.size -> RVRels S w args g -> (∀ b, S b -> b ∉ h) ->
  Calls P f (insN k v g).toArray w (fun e w' => ∃ i bs, e = .returned (resVal rs i) /\ Below base w w' /\ (∀ b, b < w.heap.size -> b ∉ h -> w'.heap[b]? = w.heap[b]?) /\ ResRel (fun _ => True) 0 w' bs rs j i bs /\ bs.Nodup /\ ∀ b ∈ bs, b ∈ h \/ w.heap.size <= b)
def newRes (B : Nat) (rs : List (Ty × Lvl)) (b : List (List Value)) : Value := match rs with
 | [] => .pointer (some ⟨B, 0, none⟩)
 | _ :: _ => .tuple (.pointer (some ⟨B, 0, none⟩) :: resVals rs b).toArray
def FnSpecNew (P : Program) (f : FuncId) (id : TypeId) (rs : List (Ty × Lvl)) (t : Ty) (args : List RV) (y : t.D) (j : List (Σ t : Ty, t.D)) : Prop :=
 ∀ (S : Nat -> Prop) (w : World) (g : List Value), RVRels S w args g -> Calls P f g.toArray w (fun e w' => ∃ B i h bs, e = .returned (newRes B rs h) /\ Below w.heap.size w w' /\ w.heap.size <= B /\ w'.heap[B]? = some (.cells i.toArray id (0, 0)) /\ Rep (fun k => (S k \/ w.heap.size <= k) /\ k ∉ B :: bs) w' t .ro i y [] /\
  ResRel S w.heap.size w' (B :: bs) rs j h bs /\ (B :: bs).Nodup /\ ∀ b ∈ bs, w.heap.size <= b)
def Enterable (P : Program) (f : FuncId) : Prop := ∃ fn, P.funcs[f]? = some fn /\ fn.body.isNone = false /\ (fn.name == "runtime.NumGoroutine") = false
def OrcOk (P : Program) (sig : FuncId -> Option Sig) (orc : Orc) : Prop :=
 ∀ f sg args q x, sig f = some sg -> orc f args = some q -> q.run = some x -> Enterable P f /\
  (match sg.box with
   | some b => ∃ t x0 y g, nthL args b.k = some (.ptr t x0) /\ q.pk x = ⟨t, y⟩ :: g /\ FnSpecBox P f sg.results b t x0 args y g
   | none => match sg.newb with
   | some id => ∃ t y g, q.pk x = ⟨t, y⟩ :: g /\ FnSpecNew P f id sg.results t args y g
   | none => match sg.muts with
   | false => if sg.own then (match sg.give with
    | none => ∃ t x0, args = [.val t x0] /\ q.pk x = [⟨t, x0⟩] /\ FnSpecSh P f t x0
    | some k => ∃ t x0 rest, args = insN k (.val t x0) rest /\ FnSpecG P f sg.results k t x0 rest (q.pk x)) else FnSpec P f sg.results args (q.pk x)
   | true => if sg.own then ∃ t x0 rest y, args = .val t x0 :: rest /\ q.pk x = [⟨t, y⟩] /\ FnSpecOwn P f t x0 rest y else ∃ t x0 rest y g, args = .val t x0 :: rest /\ q.pk x = ⟨t, y⟩ :: g /\ FnSpecMut P f sg.results t x0 rest y g)
theorem Y31 {S : Nat -> Prop} {w : World} : ∀ (t : Ty) {ls : List Leaf} {x : t.D} {rest : List Leaf} {cells : List Value}, asm t ls = some (x, rest) -> ls.length = cells.length ->
  (∀ (l : Nat) (lf : Leaf) (u : Value), ls[l]? = some lf -> cells[l]? = some u -> Rep S w lf.t .ro [u] lf.x []) -> ∃ z A, cells = z ++ A /\ rest.length = A.length /\ Rep S w t .ro z x [] /\ (∀ (l : Nat) (lf : Leaf) (u : Value), rest[l]? = some lf -> A[l]? = some u -> Rep S w lf.t .ro [u] lf.x []) /\ (∀ l ∈ rest, l ∈ ls)
 | .unit, ls, x, rest, cells, h, hl, hr => by
  simp [asm] at h;obtain ⟨_, rfl⟩ := h;exact ⟨[], cells, rfl, hl, ⟨rfl, rfl⟩, hr, fun l h => h⟩
 | .pair a b, ls, x, rest, cells, h, hl, hr => by
  simp [asm] at h;cases B : asm a ls with
  | none => rw [B] at h; simp at h
  | some q =>
   obtain ⟨V, O⟩ := q;rw [B] at h;simp only at h;cases C : asm b O with
   | none => rw [C] at h; simp at h
   | some q =>
    obtain ⟨W, U⟩ := q;rw [C] at h;simp at h;obtain ⟨rfl, rfl⟩ := h;obtain ⟨z, A, rfl, G, F, I, M⟩ := Y31 a B hl hr;obtain ⟨D, E, rfl, l2, k2, L, N⟩ := Y31 b C G I;exact ⟨z ++ D, E, by rw [X7], l2, ⟨z, D, [], [], rfl, rfl, F, k2⟩, L, fun l h => M l (N l h)⟩
 | .int k, ls, x, rest, cells, h, hl, hr => by
  cases ls with
  | nil => simp [asm] at h
  | cons l ls =>
   simp [asm] at h;cases g : l.as (.int k) with
   | none => rw [g] at h; simp at h
   | some y =>
    rw [g] at h;simp at h;obtain ⟨rfl, rfl⟩ := h;cases cells with
    | nil => simp at hl
    | cons u cells =>
     have := hr 0 l u rfl rfl;rw [Leaf.as_eq g] at this;exact ⟨[u], cells, rfl, by simpa using hl, this, fun i lf p j m => hr (i + 1) lf p j m, fun i h => X3 _ h⟩
 | .bool, ls, x, rest, cells, h, hl, hr => by
  cases ls with
  | nil => simp [asm] at h
  | cons l ls =>
   simp [asm] at h;cases g : l.as .bool with
   | none => rw [g] at h; simp at h
   | some y =>
    rw [g] at h;simp at h;obtain ⟨rfl, rfl⟩ := h;cases cells with
    | nil => simp at hl
    | cons u cells =>
     have := hr 0 l u rfl rfl;rw [Leaf.as_eq g] at this;exact ⟨[u], cells, rfl, by simpa using hl, this, fun i lf p j m => hr (i + 1) lf p j m, fun i h => X3 _ h⟩
 | .str, ls, x, rest, cells, h, hl, hr => by
  cases ls with
  | nil => simp [asm] at h
  | cons l ls =>
   simp [asm] at h;cases g : l.as .str with
   | none => rw [g] at h; simp at h
   | some y =>
    rw [g] at h;simp at h;obtain ⟨rfl, rfl⟩ := h;cases cells with
    | nil => simp at hl
    | cons u cells =>
     have := hr 0 l u rfl rfl;rw [Leaf.as_eq g] at this;exact ⟨[u], cells, rfl, by simpa using hl, this, fun i lf p j m => hr (i + 1) lf p j m, fun i h => X3 _ h⟩
 | .slice e t, ls, x, rest, cells, h, hl, hr => by
  cases ls with
  | nil => simp [asm] at h
  | cons l ls =>
   simp [asm] at h;cases g : l.as (.slice e t) with
   | none => rw [g] at h; simp at h
   | some y =>
    rw [g] at h;simp at h;obtain ⟨rfl, rfl⟩ := h;cases cells with
    | nil => simp at hl
    | cons u cells =>
     have := hr 0 l u rfl rfl;rw [Leaf.as_eq g] at this;exact ⟨[u], cells, rfl, by simpa using hl, this, fun i lf p j m => hr (i + 1) lf p j m, fun i h => X3 _ h⟩
theorem Held.rep (h : Held c s u lf) (y : lf.m.live = true) (i : ∀ b, RoS c s b -> S b) (l : ∀ q ∈ lf.refs, ∀ b ∈ s.bs q.1 (q.2 + 1), S b) : Rep S s.w lf.t .ro [u] lf.x [] := by
 obtain ⟨t, x, m⟩ := lf;cases m with
 | at_ lv => exact Rep.move (fun b g _ => ⟨i b g, rfl⟩) sm h
 | bor r j p => exact Rep.move (fun b g _ => ⟨g.elim (i b) (l (r, j) (by simp [Leaf.refs]) b), rfl⟩) sm h.1
 | dead => simp [Mode.live] at y
theorem LeafV.rep (h : LeafV c s u lf) (i : lf.m.live = true) (g : ∀ b, RoS c s b -> S b) (l : ∀ q ∈ lf.refs, ∀ b ∈ s.bs q.1 (q.2 + 1), S b) : Rep S s.w lf.t .ro [u] lf.x [] := by
 obtain ⟨t, x, m⟩ := lf;cases m with
 | at_ lv => exact Rep.move (S := fun b => RoS c s b \/ b ∈ []) (fun b y _ => ⟨y.elim (g b) sm, rfl⟩) sm (Rep.ro h.1)
 | bor r j p => exact Held.rep (lf := ⟨t, x, .bor r j p⟩) h i g l
 | dead => simp [Mode.live] at i
section
variable {c : Cx} {env : Env} {tmps : Array Value} {w : World} {ps : Nat -> AV} {vs : Nat -> Value} {cs : Nat -> List Value} {bs : Nat -> Nat -> List Nat} {caps : FuncId -> List Ty} {S : Nat -> Prop}
theorem Y5j (h : Rel c (SS env ps tmps vs w cs bs)) {r off : Nat} {x : t.D} (g : ptrOf env t r off = some x) (hp : PtrRel (SS env ps tmps vs w cs bs) r off v) (I : ∀ b, RoS c (SS env ps tmps vs w cs bs) b -> S b) (L : ∀ l, ∀ b ∈ bs r l, S b) : PtrV S w t x v := by
 unfold ptrOf at g;split at g
 ·rename_i e ls i;have E : r < env.length := Yx i;split at g
  ·rename_i x' q;split at g
   ·rename_i D;simp at g;subst g;obtain ⟨e', ls', B, g1, V, W⟩ := hp;have A : (SS env ps tmps vs w cs bs).env r = .con (.box e) ls := by show ovl env ps r = _; rw [Y7 E]; exact i
    have y := h.av r;rw [A] at y;obtain ⟨⟨B', N, k2, k3⟩, X, h4, Y⟩ := y;rw [V] at N;have : B = B' := by simpa using N
    subst this;obtain ⟨c0, O, G, U, e2, _⟩ := Y31 (S := S) (w := w) t q X (fun l lf u Z F => by
     have M := Y l lf u (by rw [Y2]; exact Z) F;have z : lf.m.settled = true :=gr;by_cases g : lf.m.own = true
     ·obtain ⟨t, x, m⟩ := lf;cases m with
      | at_ lv => exact Rep.move (S := fun b => RoS c (SS env ps tmps vs w cs bs) b \/ b ∈ bs r (l + 1)) (fun b i _ => ⟨i.elim (I b) (L _ b), rfl⟩) sm (Rep.ro M.rep)
      | bor _ _ _ => simp [Mode.own] at g
      | dead => simp [Mode.own] at g
     ·have := M.held (by simpa using g);obtain ⟨t, x, m⟩ := lf;cases m with
      | at_ lv => exact Rep.move (fun b i _ => ⟨I b i, rfl⟩) sm this.2
      | bor r' j' p => simp [Mode.settled] at z
      | dead => simp [Mode.settled] at z)
    have C : O = [] := Xo.1 (by rw [<- U]; rfl);subst C;rw [Xh] at G;subst G;refine ⟨⟨B, 0, none⟩, cs r, W, L 0 B gr, (X10.1 k2).1, fun j u F => ?_, e2⟩;rw [Y1h];unfold World.cell?;rw [show w.heap[B]? = _ from k2];simpa using F
   ·simp at g
  ·simp at g
 ·simp at g
theorem Y7d (h : Rel c (SS env ps tmps vs w cs bs)) (j : ∀ b, RoS c (SS env ps tmps vs w cs bs) b -> S b) : ∀ {g : List (Nat × Nat)} {ts : List Ty} {xs : List (Σ t : Ty, t.D)} {us : List Value}, capsOf env g ts = some xs -> PtrRels (SS env ps tmps vs w cs bs) g us -> (∀ q ∈ g.map (·.1), ∀ l, ∀ b ∈ bs q l, S b) -> PtrVs S w xs us
 | [], [], xs, us, ho, hp, h2 => by simp [capsOf] at ho; subst ho; exact hp
 | [], t :: ts, xs, us, ho, hp, h2 => by simp [capsOf] at ho
 | q :: g, [], xs, us, ho, hp, h2 => by simp [capsOf] at ho
 | (r, off) :: g, t :: ts, xs, us, ho, ⟨v, vs', e, hp1, hp2⟩, h2 => by
  simp [capsOf] at ho;cases p : ptrOf env t r off with
  | none => grind
  | some x =>
   rw [p] at ho;cases i : capsOf env g ts with
   | none => simp_all
   | some y =>
    rw [i] at ho;simp at ho;subst ho;exact ⟨v, vs', e, Y5j h p hp1 j (h2 r sm), Y7d h j i hp2 (fun q m => h2 q (by simp at m ⊢; exact .inr m))⟩
theorem Y9m (h : Rel c (SS env ps tmps vs w cs bs)) {p : PTy} {rv : RV} (M : ValC c (SS env ps tmps vs w cs bs) av v cells) (g : RVof caps env p av = some rv) (C : ∀ b, RoS c (SS env ps tmps vs w cs bs) b -> S b) (h2 : ∀ q ∈ av.refs, ∀ b ∈ bs q.1 (q.2 + 1), S b) (h3 : ∀ q ∈ av.ptrs, ∀ l, ∀ b ∈ bs q l, S b) : RVRel S w rv v := by
 unfold RVof at g;split at g
 ·rename_i t k ls;split at g
  ·rename_i hc;simp only [X9, X1a] at hc;obtain ⟨rfl, m⟩ := hc;split at g
   ·rename_i x i;simp only [X0] at g;subst g;obtain ⟨B, O, U⟩ := M;obtain ⟨c0, V, N, W, e2, _⟩ := Y31 (S := S) (w := w) t i O (fun l lf u D y => by
     have h6 := U l lf u (by rw [Y2]; exact D) y;have A : lf.m.live = true :=gr;exact h6.rep A C (fun q L => h2 q (by simp only [AV.refs, Xi]; exact ⟨lf, X8 D, L⟩)))
    have z : V = [] := Xo.1 (by rw [<- W]; rfl);subst z;rw [Xh] at N;subst N;refine ⟨cells, ?_, e2⟩;unfold Ty.kind at B;cases F : t.isAgg with
    | true => rw [F] at B; simpa [mkV] using B.1
    | false =>
     rw [F] at B;simp at B;rw [B.1];rfl
   ·simp at g
  ·simp at g
 ·rename_i t r off;split at g
  ·rename_i x Z;simp at g;subst g;exact Y5j h Z M C (h3 r (by simp [AV.ptrs]))
  ·simp at g
 ·rename_i t ls;split at g
  ·rename_i m;split at g
   ·rename_i x i;simp at g;subst g;obtain ⟨a, rfl, O, U⟩ := M
    let E : List Value := (List.range ls.length).map fun l => (w.cell? (a.add l)).getD undef
    have G : ∀ (l : Nat) (u : Value), E[l]? = some u -> l < ls.length /\ w.cell? (a.add l) = some u := by
     intro l u y;simp only [E, X18, Xv] at y;obtain ⟨l', hl', rfl⟩ := y;have I : l < ls.length :=gr;have : l' = l :=gr;subst this;obtain ⟨_, u', Y, _⟩ := O l' ls[l'] (by rw [Y2]; exact X1 I);exact ⟨I, by rw [Y]; rfl⟩
    obtain ⟨c0, V, N, W, e2, _⟩ := Y31 (S := S) (w := w) (cells := E) t i (by simp [E]) (fun l lf u D y => by
     obtain ⟨k1, u', k2, k3⟩ := O l lf (by rw [Y2]; exact D);obtain ⟨_, k4⟩ := G l u y;rw [k4] at k2;have : u = u' := Xq k2;subst this;have A : lf.m.live = true := by simpa using Xa.1 m lf (X8 D)
     exact k3.rep A C (fun q L => h2 q (by simp only [AV.refs, Xh, Xi]; exact ⟨lf, X8 D, L⟩)))
    have z : V = [] := Xo.1 (by rw [<- W]; rfl);subst z;rw [Xh] at N;exact ⟨a, E, rfl, C _ U.1, U.2, fun j u y => (G j u y).2, gr⟩
   ·simp at g
  ·simp at g
 ·rename_i f xs;simp at g;subst g;obtain ⟨us, e, X⟩ := M;exact ⟨us, e, X.move (fun b hb _ => ⟨C b hb, rfl⟩)⟩
 ·rename_i f qs;split at g
  ·rename_i xs Z;simp at g;subst g;obtain ⟨us, e, X⟩ := M;exact ⟨us, e, Y7d h C Z X (fun q L => h3 q (by simpa [AV.ptrs] using L))⟩
  ·simp at g
 ·simp at g
def ValCs (c : Cx) (s : St) : List AV -> List Value -> Prop
 | [], us => us = []
 | v :: vs, us => ∃ u b, us = u :: b /\ (∃ cells, ValC c s v u cells) /\ ValCs c s vs b
theorem Y40 (h : Rel c (SS env ps tmps vs w cs bs)) (j : ∀ b, RoS c (SS env ps tmps vs w cs bs) b -> S b) : ∀ {ptys : List PTy} {avs : List AV} {us : List Value} {rvs : List RV}, ValCs c (SS env ps tmps vs w cs bs) avs us -> RVs caps env ptys avs = some rvs ->
  (∀ v ∈ avs, ∀ q ∈ v.refs, ∀ b ∈ bs q.1 (q.2 + 1), S b) -> (∀ v ∈ avs, ∀ q ∈ v.ptrs, ∀ l, ∀ b ∈ bs q l, S b) -> RVRels S w rvs us
 | [], [], us, rvs, g, ho, h2, h3 => by simp [RVs] at ho; subst ho; exact g
 | [], v :: avs, us, rvs, g, ho, h2, h3 => by simp [RVs] at ho
 | p :: ptys, [], us, rvs, g, ho, h2, h3 => by simp [RVs] at ho
 | p :: ptys, v :: avs, us, rvs, ⟨u, us', e, ⟨cells, hv1⟩, hv2⟩, ho, h2, h3 => by
  simp [RVs] at ho;cases m : RVof caps env p v with
  | none => simp_all
  | some x =>
   rw [m] at ho;cases i : RVs caps env ptys avs with
   | none => grind
   | some y =>
    rw [i] at ho;simp at ho;subst ho;exact ⟨u, us', e, Y9m h hv1 m j (h2 v Xp) (h3 v Xp), Y40 h j hv2 i (fun v g => h2 v (X3 _ g)) (fun v g => h3 v (X3 _ g))⟩
end
theorem Y5k {α : Type} : ∀ {k : Nat} {l : List α} {x : α} {m : List α}, splitN k l = some (x, m) -> l = insN k x m /\ k <= m.length
 | 0, [], x, m, h => by simp [splitN] at h
 | 0, y :: l, x, m, h => by
  simp [splitN] at h;obtain ⟨rfl, rfl⟩ := h;exact ⟨rfl, X2f _⟩
 | k + 1, [], x, m, h => by simp [splitN] at h
 | k + 1, y :: l, x, m, h => by
  simp [splitN] at h;split at h
  ·rename_i j m' i;simp at h;obtain ⟨rfl, rfl⟩ := h;obtain ⟨b, g⟩ := Y5k i;exact ⟨by rw [b]; rfl, by simpa using g⟩
  ·simp at h
theorem Y6z {α : Type} : ∀ {k : Nat} {x y : α} {l m : List α}, insN k x l = insN k y m -> x = y /\ l = m
 | 0, x, y, l, m, h => by simpa [insN] using h
 | k + 1, x, y, [], [], h => by simpa [insN] using h
 | k + 1, x, y, a :: l, b :: m, h => by
  simp [insN] at h;obtain ⟨g, i⟩ := Y6z h.2;exact ⟨g, by rw [h.1, i]⟩
 | k + 1, x, y, [], b :: m, h => by
  simp [insN] at h;exact absurd h.2 (by cases k <;> cases m <;> simp [insN])
 | k + 1, x, y, b :: m, [], h => by
  simp [insN] at h;exact absurd h.2.symm (by cases k <;> cases m <;> simp [insN])
theorem Y9n {α b : Type} (f : α -> b) : ∀ (k : Nat) (x : α) (l : List α), (insN k x l).map f = insN k (f x) (l.map f)
 | 0, x, l => rfl
 | k + 1, x, [] => rfl
 | k + 1, x, y :: l => by simp [insN, Y9n f k x l]
theorem Y53 {α : Type} : ∀ (k : Nat) (x : α) (l : List α), (insN k x l).length = l.length + 1
 | 0, x, l => rfl
 | k + 1, x, [] => rfl
 | k + 1, x, y :: l => by simp [insN, Y53 k x l]
theorem Y9o : ∀ {k : Nat} {a : AV} {as : Env} (r : Nat), k <= as.length -> get (insN k a as) r = if r < k then get as r else if r = k then a else get as (r - 1)
 | 0, a, as, 0, _ => rfl
 | 0, a, as, r + 1, _ => by simp [insN, get]
 | k + 1, a, [], r, h => by simp at h
 | k + 1, a, y :: as, 0, h => by simp [insN, get]
 | k + 1, a, y :: as, r + 1, h => by
  have := Y9o (k := k) (a := a) (as := as) r (by simpa using h);simp [insN, get, this];by_cases b : r < k
  ·grind
  ·rw [X2 b, X2 b];by_cases g : r = k
   ·simp_all
   ·rw [X2 g, X2 g];cases r with
    | zero => omega
    | succ r => rfl
theorem Y8i : ∀ {k : Nat} {a : Value} {as : List Value} (r : Nat), k <= as.length -> (insN k a as).getD r undef = if r < k then as.getD r undef else if r = k then a else as.getD (r - 1) undef
 | 0, a, as, 0, _ => rfl
 | 0, a, as, r + 1, _ => by simp [insN]
 | k + 1, a, [], r, h => by simp at h
 | k + 1, a, y :: as, 0, h => by simp [insN]
 | k + 1, a, y :: as, r + 1, h => by
  have := Y8i (k := k) (a := a) (as := as) r (by simpa using h);simp only [insN, List.getD_cons_succ, this, Nat.add_lt_add_iff_right, Nat.add_right_cancel_iff, Nat.add_sub_cancel];by_cases b : r < k
  ·simp_all
  ·grind
theorem Yj {g : List (List Nat)} {l b : Nat} (h : b ∈ g.getD l []) : b ∈ g.flatten := by
 rw [Xk] at h;cases i : g[l]? with
 | none => rw [i] at h; simp at h
 | some x => rw [i] at h; exact X38.2 ⟨x, X8 i, h⟩
theorem Y17 : ∀ {g : List (List Nat)}, g.flatten.Nodup -> (∀ l, (g.getD l []).Nodup) /\ ∀ l i b, b ∈ g.getD l [] -> b ∈ g.getD i [] -> l = i
 | [], h => ⟨fun l => by simp, fun l i b m => by simp at m⟩
 | x :: g, h => by
  simp only [List.flatten_cons, X12] at h;obtain ⟨y, q, p⟩ := h;obtain ⟨z, k2⟩ := Y17 q;refine ⟨fun l => ?_, fun l i b m j => ?_⟩
  ·grind
  ·cases l with
   | zero => cases i with
    | zero => rfl
    | succ i => exact absurd rfl (p b m b (Yj (l := i) j))
   | succ l => cases i with
    | zero => exact absurd rfl (p b j b (Yj (l := l) m))
    | succ i => rw [k2 l i b m j]
theorem Ybu (fr : Lvl) (t : Ty) {i : List Value} {x : t.D} {b : List Nat} (h : Rep S w t fr.res i x b) :
  (leaves t x (newMode fr) 0).length = i.length /\ (∀ lf ∈ leaves t x (newMode fr) 0, lf.m.settled = true) /\ ∃ g : List (List Nat), g.length = i.length /\ b = g.flatten /\
   ∀ (l : Nat) (lf : Leaf) (u : Value), (leaves t x (newMode fr) 0)[l]? = some lf -> i[l]? = some u -> ∃ m, lf.m = .at_ m /\ Rep S w lf.t m [u] lf.x (g.getD l []) := by
 exact Y3j fr.res t 0 h
theorem Yeu {m : Lvl} {x : t.D} {b : List Nat} (h : Rep S w t m [u] x b) : ∃ m', upgM t (.at_ m) = .at_ m' /\ Rep S w t m' [u] x b := by
 cases t with
 | slice e te =>
  simp only [upgM];by_cases g : (te.flatB && (Mode.at_ m == .at_ .sh)) = true
  ·rw [X4 g];simp only [X9, beq_iff_eq, Mode.at_.injEq] at g;obtain ⟨A, rfl⟩ := g;obtain ⟨v, xs, i, j, p, q, y, z⟩ := h;refine ⟨.dp, rfl, v, xs, i, j, p, q, El.imp (fun c x b _ h => ?_) y, z⟩;obtain ⟨l, e2⟩ := Rep.flat (S' := S) (w' := w) (m' := .dp) A h;rw [l]; exact e2
  ·grind
 | _ => exact ⟨m, rfl, h⟩
theorem Yaz {m : Mode} (h : m.settled = true) : (upgM t m).settled = true := by
 unfold upgM;split
 ·split
  ·rfl
  ·exact h
 ·exact h
theorem Yf5 {m : Mode} (h : ∀ k, m ≠ .at_ (.pn k)) : ∀ k, upgM t m ≠ .at_ (.pn k) := by
 intro k;unfold upgM;split
 ·grind
 ·exact h k
theorem Y3q {base : Nat} {B : List Nat} : ∀ {rs : List (Ty × Lvl)} {xs : List (Σ t : Ty, t.D)} {chs : List (List Value)} {bs : List Nat} {sh : List (Bool × Nat)} {ls : List Leaf}, ResRel S base w B rs xs chs bs -> resLeaves rs xs = some (sh, ls) ->
  TupCells sh (resVals rs chs) chs.flatten /\ ls.length = chs.flatten.length /\ (∀ lf ∈ ls, lf.m.settled = true) /\ ∃ g : List (List Nat), g.length = ls.length /\ bs = g.flatten /\
   ∀ (l : Nat) (lf : Leaf) (u : Value), ls[l]? = some lf -> chs.flatten[l]? = some u -> ∃ m, lf.m = .at_ m /\ Rep (fun k => (S k \/ base <= k) /\ k ∉ B) w lf.t m [u] lf.x (g.getD l [])
 | [], xs, chs, bs, sh, ls, ⟨e1, e2, e3⟩, h => by
  subst e1; subst e2; subst e3;simp [resLeaves] at h;obtain ⟨rfl, rfl⟩ := h;exact ⟨⟨rfl, rfl⟩, rfl, sm, [], rfl, rfl, sm⟩
 | (t, fr) :: rs, xs, chs, bs, sh, ls, ⟨x, xs', ch, chs', b, b', e1, e2, e3, h1, h2⟩, h => by
  subst e1; subst e2; subst e3;simp [resLeaves] at h;cases E : resLeaves rs xs' with
  | none => rw [E] at h; simp at h
  | some q =>
   obtain ⟨sh', O⟩ := q;rw [E] at h;simp [dif_pos] at h;obtain ⟨rfl, rfl⟩ := h;obtain ⟨L, k2, k3, p, M, N, k6⟩ := Y3q h2 E;obtain ⟨G, V, g, W, X, Y⟩ := Ybu fr t h1;have y : ch.length = t.sz := Rep.len h1;refine ⟨?_, by simp [G, k2], fun lf j => ?_, g ++ p, by simp [W, G, M], by rw [List.flatten_append, X, N], fun l lf u A F => ?_⟩
   ·refine ⟨mkV t.isAgg ch, resVals rs chs', ch, chs'.flatten, rfl, sm, y, ?_, L⟩;cases z : t.isAgg with
    | true => simp [mkV]
    | false =>
     obtain ⟨u, rfl⟩ := X1r.1 (y.trans (Y3k z));simp [mkV];exact Rep.one h1 u sm
   ·rcases X6.1 j with j | j
    ·obtain ⟨i, I, rfl⟩ := X1b.1 j;exact Yaz (V i I)
    ·grind
   ·simp at F;have U : ((leaves t x (newMode fr) 0).map Leaf.upg).length = ch.length :=gr;by_cases D : l < ch.length
    ·rw [Xj om] at A;rw [Xj D] at F;rw [X18] at A;obtain ⟨i, C, rfl⟩ := Xv.1 A;obtain ⟨m, Z, n2⟩ := Y l i u C F;obtain ⟨m', n3, n4⟩ := Yeu n2;refine ⟨m', by show upgM i.t i.m = _; rw [Z]; exact n3, ?_⟩;rw [Xk, Xj om, <- Xk];exact n4
    ·grind
theorem Y2c : ∀ {rs : List (Ty × Lvl)} {xs : List (Σ t : Ty, t.D)} {sh : List (Bool × Nat)} {ls : List Leaf}, resLeaves rs xs = some (sh, ls) -> ∀ lf ∈ ls, ∀ h, lf.m ≠ .at_ (.pn h)
 | [], [], sh, ls, h, lf, b => by
  simp [resLeaves] at h;obtain ⟨rfl, rfl⟩ := h;simp at b
 | [], _ :: _, sh, ls, h, lf, b => by simp [resLeaves] at h
 | _ :: _, [], sh, ls, h, lf, b => by simp [resLeaves] at h
 | (t, fr) :: rs, x :: xs, sh, ls, h, lf, b => by
  simp only [resLeaves] at h;split at h
  ·cases i : resLeaves rs xs with
   | none => rw [i] at h; simp at h
   | some q =>
    obtain ⟨p, m⟩ := q;rw [i] at h;simp at h;obtain ⟨rfl, rfl⟩ := h;rcases X6.1 b with b | b
    ·obtain ⟨j, g, rfl⟩ := X1b.1 b;refine Yf5 (fun y e => ?_);rcases Y21 (lv := fr.res) t _ 0 j g with l | l
     ·grind
     ·rw [l] at e; cases fr <;> cases e
    ·exact Y2c i lf b
  ·simp at h
theorem Y3v (b : resAV rs xs = some (.con k ls)) : ∀ lf ∈ ls, ∀ h, lf.m ≠ .at_ (.pn h) := by
 unfold resAV at b;cases g : resLeaves rs xs with
 | none => simp_all
 | some q =>
  obtain ⟨j, i⟩ := q;rw [g] at b;simp [mkCon] at b;split at b
  ·simp at b;rw [<- b.2]; exact Y2c g
  ·simp at b;rw [<- b.2]; exact Y2c g
theorem Y4d {base : Nat} {B : List Nat} {b : List (List Value)} {bs : List Nat} (h : ResRel S base w B rs xs b bs) (i : resAV rs xs = some av) :
  ∃ k ls, av = .con k ls /\ KCells c w [] k (resVal rs b) b.flatten /\ ls.length = b.flatten.length /\ (∀ lf ∈ ls, lf.m.settled = true) /\ ∃ j : List (List Nat), j.length = ls.length /\ bs = j.flatten /\
   ∀ (l : Nat) (lf : Leaf) (u : Value), ls[l]? = some lf -> b.flatten[l]? = some u -> ∃ m, lf.m = .at_ m /\ Rep (fun k => (S k \/ base <= k) /\ k ∉ B) w lf.t m [u] lf.x (j.getD l []) := by
 unfold resAV at i;cases F : resLeaves rs xs with
 | none => grind
 | some q =>
  obtain ⟨y, ls⟩ := q;rw [F] at i;obtain ⟨D, k2, G, I⟩ := Y3q h F;have tup : ∀ {y : List (Bool × Nat)} {us cs : List Value}, TupCells y us cs -> us.length = y.length := by
   intro y
   induction y with
   | nil => intro us cs h; rw [h.1]; rfl
   | cons p y W => intro us cs h; obtain ⟨v, E, c, A, e, _, _, _, h⟩ := h; rw [e, X1t, W h, X1t]
  have U := tup D;have g : y.length ≠ 1 -> resVal rs b = .tuple (resVals rs b).toArray := by
   intro z;unfold resVal;split
   ·grind
   ·rfl
  simp only at i;split at i
  ·rename_i agg n;simp at i;subst i;refine ⟨_, ls, rfl, ?_, k2, G, I⟩;obtain ⟨v, E, c, A, L, e2, X, C, M, N⟩ := D;have V : resVals rs b = [v] := by rw [L, M]
   have : resVal rs b = v := by unfold resVal; rw [V]
   rw [this, e2, N, Xh];cases agg with
   | true => exact ⟨by simpa using C, rfl⟩
   | false => simp at C; exact ⟨C.1, rfl⟩
  ·rename_i z;simp at i;subst i;refine ⟨_, ls, rfl, ⟨rfl, resVals rs b, g (fun O => ?_), D⟩, k2, G, I⟩;obtain ⟨⟨agg, n⟩, rfl⟩ := X1r.1 O;exact z agg n rfl
def freezeArgsE (rs : List (Ty × Lvl)) : List AV -> (Nat -> AV) -> (Nat -> AV)
 | [], E => E
 | v :: vs, E => freezeArgsE rs vs (match v with
  | .con _ ls => freezeAllE ls E
  | _ => E)
theorem Y1r (rs : List (Ty × Lvl)) : ∀ (vs : List AV) (env : Env), (freezeArgs rs vs env).length = env.length
 | [], env => rfl
 | v :: vs, env => by
  simp [freezeArgs];rw [Y1r rs vs];cases v <;> first | rfl | exact (Yn _ _).2
theorem Y1u (rs : List (Ty × Lvl)) : ∀ (vs : List AV) {env : Env} {ps : Nat -> AV}, (∀ v ∈ vs, ∀ q ∈ v.refs, q.1 < env.length) -> (∀ r, Settled (ps r)) -> freezeArgsE rs vs (ovl env ps) = ovl (freezeArgs rs vs env) ps
 | [], env, ps, _, _ => rfl
 | v :: vs, env, ps, hv, hs => by
  simp [freezeArgs, freezeArgsE];cases v with
  | con k ls =>
   simp only;rw [Y1k ls (fun l h q g => hv _ Xp q (by simp only [AV.refs, Xi]; exact ⟨l, h, g⟩)) hs];exact Y1u rs vs (fun v b q g => by rw [(Yn ls env).2]; exact hv v (X3 _ b) q g) hs
  | _ => exact Y1u rs vs (fun v b => hv v (X3 _ b)) hs
theorem Y1i (rs : List (Ty × Lvl)) : ∀ (vs : List AV) (E : Nat -> AV) (r : Nat), (∀ q ∈ (freezeArgsE rs vs E r).refs, q ∈ (E r).refs) /\ (∀ q ∈ (freezeArgsE rs vs E r).ptrs, q ∈ (E r).ptrs)
 | [], E, r => ⟨fun q h => h, fun q h => h⟩
 | v :: vs, E, r => by
  cases v with
  | con k ls =>
   have g := Y1i rs vs (freezeAllE ls E) r;have i := Y1b ls E r;exact ⟨fun q b => i.1 q (g.1 q b), fun q b => i.2 q (g.2 q b)⟩
  | _ => exact Y1i rs vs E r
theorem Rel.freezeArgs_ (rs : List (Ty × Lvl)) : ∀ (vs : List AV) {s : St} (h : Rel c s), allCon vs = true -> ∃ bs', Rel c { s with env := freezeArgsE rs vs s.env, bs := bs' } /\ (∀ r l b, b ∈ bs' r l -> b ∈ s.bs r l) /\ (∀ v ∈ vs, ∀ q ∈ v.refs, bs' q.1 (q.2 + 1) = [])
 | [], s, h, _ => ⟨s.bs, h, fun _ _ _ h => h, sm⟩
 | v :: vs, s, h, hc => by
  cases v with
  | con k ls =>
   simp [allCon] at hc;obtain ⟨B, D, F, C⟩ := h.freezeAll_ ls;obtain ⟨i, E, k2, e2⟩ := Rel.freezeArgs_ rs vs D hc;refine ⟨i, E, fun r l b z => F _ _ _ (k2 _ _ _ z), fun v A q g => ?_⟩;rcases Xr.1 A with rfl | A
   ·simp only [AV.refs, Xi] at g;obtain ⟨lf, y, g⟩ := g;obtain ⟨t, x, m⟩ := lf;cases m with
    | bor r j p =>
     simp [Leaf.refs] at g;subst g;have := C _ y r j p rfl;exact X2c.2 (fun b z => gr)
    | at_ _ => simp [Leaf.refs] at g
    | dead => simp [Leaf.refs] at g
   ·grind
  | _ => simp [allCon] at hc
theorem Y4q {S S' : Nat -> Prop} {base : Nat} {B : List Nat} : ∀ {rs : List (Ty × Lvl)} {xs : List (Σ t : Ty, t.D)} {chs : List (List Value)} {bs : List Nat}, allFresh rs = true -> ResRel S base w B rs xs chs bs -> ResRel S' base w B rs xs chs bs
 | [], xs, chs, bs, _, h => h
 | (t, fr) :: rs, xs, chs, bs, ha, ⟨x, xs', ch, chs', b, b', e1, e2, e3, h1, h2⟩ => by
  simp [allFresh] at ha;refine ⟨x, xs', ch, chs', b, b', e1, e2, e3, ?_, Y4q ha.2 h2⟩;by_cases g : fr = .dp
  ·subst g; exact Rep.dpS h1
  ·have j : t.flatB = true := ha.1.resolve_left g;obtain ⟨rfl, i⟩ := Rep.flat (S' := fun k => (S' k \/ base <= k) /\ k ∉ B) (w' := w) (m' := fr.res) j h1;exact i
theorem Y2f (t : Ty) : ∀ (x : t.D) (n : Nat), ∀ lf ∈ leaves t x (fun _ => .at_ .ro) n, lf.m = .at_ .ro := by
 induction t with
 | int k => intro x n lf h; simp [leaves] at h; rw [h]
 | bool => intro x n lf h; simp [leaves] at h; rw [h]
 | str => intro x n lf h; simp [leaves] at h; rw [h]
 | slice e t j => intro x n lf h; simp [leaves] at h; rw [h]
 | unit => intro x n lf h; simp [leaves] at h
 | pair a b g i =>
  intro x n lf h;simp [leaves] at h;rcases h with h | h
  ·grind
  ·grind
theorem Y32 (t : Ty) (x : t.D) (n : Nat) : (leaves t x (fun _ => .at_ .ro) n).flatMap Leaf.refs = [] := by
 rw [List.flatMap_eq_nil_iff];intro lf h;have := Y2f t x n lf h;obtain ⟨b, g, m⟩ := lf;subst this;rfl
theorem Y7e (x : Σ t : Ty, t.D) : (ptrAV x).refs = [] := by
 unfold ptrAV;simp only [AV.refs, Xh];exact Y32 x.1 x.2 0
theorem Yd3 {x : Σ t : Ty, t.D} (h : PtrV (RoS c s) s.w x.1 x.2 v) : ValC c s (ptrAV x) v [] := by
 obtain ⟨a, p, rfl, q, y, b, j⟩ := h;obtain ⟨C, B⟩ := Y1x x.1 (fun _ => .at_ .ro) 0 j;refine ⟨a, rfl, fun l lf z => ?_, q, y⟩;have A := Y2f x.1 x.2 0 lf (Yc z);refine ⟨by rw [A]; rfl, ?_⟩;have g := z;rw [Y2] at g;have i : l < p.length :=gr;refine ⟨p[l], b l _ (X1 i), ?_⟩;have := (B l lf p[l] g (X1 i)).1;obtain ⟨D, E, m⟩ := lf;subst A;exact this
theorem Y54 {c : Cx} {s : St} : ∀ {xs : List (Σ t : Ty, t.D)} {vs : List Value}, PtrVs (RoS c s) s.w xs vs -> ValCs c s (xs.map ptrAV) vs
 | [], vs, h => h
 | x :: xs, vs, ⟨v, vs', e, h1, h2⟩ => ⟨v, vs', e, ⟨[], Yd3 h1⟩, Y54 h2⟩
section
variable {P : Program} {o : Oper} {a : Act} {w : World} {R : Type} {K : Env -> Option R} {r : R} {next : Act -> World -> Prop} {Q : Exit -> Act -> World -> Prop} {c : Cx} {d : Nat} {T : Tab} {env : Env}
theorem RP.resultL {w w' : World} {rv : Value} {g : List (List Nat)}
  (h : RP c env tmps w noP vs) (hS : ∀ cs bs, Rel c (SS env noP tmps vs w cs bs) -> ∃ y q, Rel c (SS env noP tmps vs w y q) /\ ∀ b, S b -> b < w'.heap.size -> RoS c (SS env noP tmps vs w y q) b) (C : Below w.heap.size w w') (h1 : KCells c w' [] k rv cells) (h2 : ls.length = cells.length) (h3 : ∀ lf ∈ ls, lf.m.settled = true) (h4 : g.length = ls.length)
  (h6 : ∀ (l : Nat) (lf : Leaf) (u : Value), ls[l]? = some lf -> cells[l]? = some u -> ∃ m, lf.m = .at_ m /\ Rep (fun k => (S k \/ w.heap.size <= k) /\ k ∉ g.flatten) w' lf.t m [u] lf.x (g.getD l [])) (hnd : g.flatten.Nodup) (Y : ∀ b ∈ g.flatten, w.heap.size <= b) (j : ∀ lf ∈ ls, ∀ h, lf.m ≠ .at_ (.pn h)) :
  RP c env tmps w' (upd noP env.length (.con k ls)) (upd vs env.length rv) := by
 obtain ⟨n1, n2⟩ := Y17 hnd;obtain ⟨F, cs, bs, hr, L⟩ := h;obtain ⟨y, q, B, U⟩ := hS cs bs hr;have h : RP c env tmps w noP vs := ⟨F, y, q, B, L⟩;have hq : (ovl env noP env.length).quiet = true := by rw [Yg (Xd _)]; rfl
 have I : ∀ l b, b ∈ g.getD l [] -> b < w'.heap.size := by
  intro l b C;have G : l < g.length :=gr;obtain ⟨m, _, A⟩ := h6 l _ _ (X1 om) (X1 om);exact Rep.lt A b C
 have X : ∀ l b, b ∈ (fun l => match l with | 0 => [] | l + 1 => g.getD l []) l -> w.heap.size <= b /\ b < w'.heap.size := by
  intro l b C;cases l with
  | zero => simp at C
  | succ l => exact ⟨Y b (Yj C), I l b C⟩
 have N := B.setNew (s := SS env noP tmps vs w y q) (d := env.length) hq C (.con k ls) rv cells (fun l => match l with | 0 => [] | l + 1 => g.getD l []) X
  (fun l O b C hb' => gr)
  (fun l => gr)
  (fun D hpl hpt => by
   refine ⟨?_, by simp [Y0]; exact h2, fun l F => ?_, fun l lf u F hu => ?_⟩
   ·simp [Y0];exact h1.bare rfl
   ·simp only [Y0];rw [Xk, X23 om];rfl
   ·simp [Y0] at hu;obtain ⟨m, e1, A⟩ := h6 l lf u (by rw [<- Y2]; exact F) hu;obtain ⟨t, x, m'⟩ := lf;simp only at e1;have j := j _ (Yc F);subst e1;refine LeafRel.of_rep (by cases m <;> first | trivial | exact absurd rfl (j _)) ?_;simp [Y0];refine Rep.move (fun b V Z => ⟨?_, rfl⟩) (fun _ _ => rfl) A;obtain ⟨z, W⟩ := V;have i : ∀ l, b ∉ (fun l => match l with | 0 => [] | l + 1 => g.getD l []) l := by
     intro l p;cases l with
     | zero => simp at p
     | succ l => exact W (Yj p)
    rcases z with z | z
    ·have E := U b z Z;by_cases G : b < w.heap.size
     ·exact (D b E G).1
     ·refine ⟨fun r' O p => ?_, E.2⟩;simp [upd] at p;split at p
      ·exact i O p
      ·exact E.1 _ _ p
    ·refine ⟨fun r' O p => ?_, .inr (B.mine_new z)⟩;simp [upd] at p;split at p
     ·exact i O p
     ·have : b < w.heap.size := (B.own _ _ _ p).2;omega)
 refine ⟨F, _, _, Rel.congr N (Yb (Xd _) _).symm (Yv om _).symm, fun r => ?_⟩;rw [Yb (Xd _)];by_cases M : r = env.length
 ·subst M;rw [Y0, (Yd h3).1, (Yd h3).2];exact ⟨sm, sm⟩
 ·rw [Y1 _ _ M]; exact L r
theorem RP.result {c : Cx} {env : Env} {tmps : Array Value} {w w' : World} {vs : Nat -> Value} {S : Nat -> Prop} {rs : List (Ty × Lvl)} {xs : List (Σ t : Ty, t.D)} {j : List (List Value)} {g : List Nat} {av : AV}
  (h : RP c env tmps w noP vs) (G : ∀ cs bs, Rel c (SS env noP tmps vs w cs bs) -> ∃ l i, Rel c (SS env noP tmps vs w l i) /\ ∀ b, S b -> b < w'.heap.size -> RoS c (SS env noP tmps vs w l i) b) (I : Below w.heap.size w w') (m : ResRel S w.heap.size w' g rs xs j g) (q : g.Nodup) (p : ∀ b ∈ g, w.heap.size <= b) (y : resAV rs xs = some av) :
  RP c env tmps w' (upd noP env.length av) (upd vs env.length (resVal rs j)) := by
 obtain ⟨k, ls, rfl, A, B, C, z, D, E, F⟩ := Y4d m y;subst E;exact h.resultL G I A B C D F q p (Y3v y)
theorem Y2p (he : Enterable P f) (args : Array Value) (w : World) : (callFunc f args).run P w = .ok (.enter f args) w := by
 obtain ⟨fn, h1, h2, h3⟩ := he;have h3' : ¬ fn.name = "runtime.NumGoroutine" := by simpa using h3
 have h2' : ¬ fn.body = none :=gr;simp [callFunc, program, Sem.run, h1, h2', h3']
theorem Y2q (b : env.length = tmps.size) (h : Rel c (SS env noP tmps vs w cs bs)) : ∀ {ptys : List PTy} {args : List Operand}, args.length <= ptys.length -> ValCs c (SS env noP tmps vs w cs bs) (rdArgs env ptys args) (args.map (evT tmps)) /\ (rdArgs env ptys args).length = args.length
 | [], [], _ => ⟨rfl, rfl⟩
 | p :: ptys, [], _ => ⟨rfl, rfl⟩
 | [], x :: args, hl => by simp at hl
 | p :: ptys, x :: args, hl => by
  obtain ⟨g, i⟩ := Y2q b h (ptys := ptys) (args := args) (by simpa using hl);exact ⟨⟨_, _, rfl, Yo b h _ x, g⟩, by simp [rdArgs, i]⟩
theorem Y3b (g : RE c env a.tmps w) : ∀ {ptys : List PTy} {args : List Operand}, ∀ v ∈ rdArgs env ptys args, (∀ q ∈ v.refs, q.1 < env.length) /\ (∀ q ∈ v.ptrs, q < env.length)
 | [], args, v, b => by cases args <;> simp [rdArgs] at b
 | p :: ptys, [], v, b => by simp [rdArgs] at b
 | p :: ptys, x :: args, v, b => by
  simp [rdArgs] at b;rcases b with rfl | b
  ·exact g.refs _ x
  ·exact Y3b g v b
theorem ValCs.append {s : St} : ∀ {avs b : List AV} {us us' : List Value}, ValCs c s avs us -> ValCs c s b us' -> ValCs c s (avs ++ b) (us ++ us')
 | [], b, us, us', h, h' => by rw [show us = [] from h]; exact h'
 | v :: avs, b, us, us', ⟨u, us2, e, h1, h2⟩, h' => ⟨u, us2 ++ us', by rw [e]; rfl, h1, h2.append h'⟩
theorem Yev (hO : OrcOk P sig orc) {j : Call} {extra : List AV} {ex : List Value} (hop : o.op = .call j) (X : o.dst = some d) (hr : RE c env a.tmps w) (hd : d < env.length)
  (hrun : Enterable P f -> (execOp a.eval o).run P w = .ok (.enter f (j.args.map (evT a.tmps) ++ ex.toArray)) w) (hex : ∀ vs cs bs, Rel c (SS env noP a.tmps vs w cs bs) -> ValCs c (SS env noP a.tmps vs w cs bs) extra ex) (hexr : ∀ v ∈ extra, (∀ q ∈ v.refs, q.1 < env.length)) (hsg : sig f = some sg) (W : sg.box = none /\ sg.newb = none) (V : sg.muts = false) (how : sg.own = false) (hlen1 : (rdArgs env sg.params j.args.toList ++ extra).length = sg.params.length) (hlen2 : (rdArgs env sg.params j.args.toList ++ extra).length = j.args.toList.length + extra.length) (Z : allFresh sg.results = true \/ allCon (rdArgs env sg.params j.args.toList ++ extra) = true) {rvs : List RV} (hrv : RVs caps env sg.params (rdArgs env sg.params j.args.toList ++ extra) = some rvs) {q : OrcRes} (A : orc f rvs = some q) (G : (q.run.bind fun xs => match resAV sg.results (q.pk xs) with
     | none => none
     | some v => K (setD (some d) (if allFresh sg.results then env else freezeArgs sg.results (rdArgs env sg.params j.args.toList ++ extra) env) v)) = some r) (hn : Next c a K r env.length next) : o.wp P a w next Q := by
 obtain ⟨x0, m, G⟩ := Xt.1 G;obtain ⟨Y, B⟩ := hO f sg rvs q x0 hsg A m;generalize q.pk x0 = res at *;rw [W.1, W.2, V, how] at B;cases N : resAV sg.results res with
 | none => grind
 | some av =>
  rw [N] at G;obtain ⟨vs, h⟩ := hr;have hr : RE c env a.tmps w := ⟨vs, h⟩;obtain ⟨z, cs, bs, g, M⟩ := h;have h : RP c env a.tmps w noP vs := ⟨z, cs, bs, g, M⟩;generalize hvs : rdArgs env sg.params j.args.toList ++ extra = avs at *;have I : j.args.toList.length <= sg.params.length :=gr;have U : ValCs c (SS env noP a.tmps vs w cs bs) avs (j.args.toList.map (evT a.tmps) ++ ex) := by
   rw [<- hvs];exact (Y2q z g I).1.append (hex vs cs bs g)
  have O : ∀ v ∈ avs, ∀ q ∈ v.refs, q.1 < env.length := by
   intro v p;rw [<- hvs] at p;rcases X6.1 p with p | p
   ·exact (Y3b hr v p).1
   ·grind
  let S : Nat -> Prop := fun b => RoS c (SS env noP a.tmps vs w cs bs) b \/ (if allFresh sg.results then True else ∃ v ∈ avs, ∃ q ∈ v.refs, b ∈ bs q.1 (q.2 + 1))
  have hrvr : RVRels S w rvs (j.args.toList.map (evT a.tmps) ++ ex) := by
   refine Y40 g (fun b i => .inl i) U hrv (fun v p q A b i => .inr ?_) (fun v p q A l b i => .inr ?_)
   ·grind
   ·split
    ·trivial
    ·rename_i hnf;exfalso;have D := Z.resolve_left hnf;have : ∀ {avs : List AV}, allCon avs = true -> ∀ v ∈ avs, v.ptrs = [] := by
      intro avs
      induction avs with
      | nil => simp
      | cons u avs ih =>
       intro D v p;cases u with
       | con k ls =>
        rcases Xr.1 p with rfl | p
        ·rfl
        ·exact ih D v p
       | _ => simp [allCon] at D
     rw [this D v p] at A;simp at A
  unfold Oper.wp;rw [hrun Y];have L : j.args.map (evT a.tmps) ++ ex.toArray = (j.args.toList.map (evT a.tmps) ++ ex).toArray :=gr;rw [L];refine X2m (B S w _ hrvr) ?_
  rintro e w' ⟨chs, bsx, rfl, i, m, hnd, F⟩
  rw [X];by_cases y : allFresh sg.results = true
  ·rw [X4 y] at G;have hp := h.result (S := fun _ => False) (fun cs bs hr => ⟨cs, bs, hr, fun b i => i.elim⟩) i (Y4q y m) hnd F N;have := RE.commit hp hd;rw [Y0] at this;exact hn _ _ _ G this (by rw [Y19]) rfl
  ·rw [X2 y] at G;obtain ⟨C, hr1, k1, k2⟩ := g.freezeArgs_ sg.results avs (Z.resolve_left y);have e := Y1u sg.results avs (ps := noP) O (fun r => .inl rfl);have E := Y1r sg.results avs env;have hr2 : Rel c (SS (freezeArgs sg.results avs env) noP a.tmps vs w cs C) := Rel.congr hr1 e rfl;have h1 : RP c (freezeArgs sg.results avs env) a.tmps w noP vs := by
    refine ⟨E.trans z, cs, C, hr2, fun r => ?_⟩;rw [E, <- e];have := Y1i sg.results avs (ovl env noP) r;exact ⟨fun q A => (M r).1 q (this.1 q A), fun q A => (M r).2 q (this.2 q A)⟩
   have hp := h1.result (S := S) (fun cs' bs' hr' => ⟨cs, C, hr2, fun b i _ => ?_⟩) i m hnd F N
   ·have := RE.commit hp (by rw [E]; exact hd);rw [Y0] at this;exact hn _ _ _ G this (by rw [Y19, E]) rfl
   ·rcases i with i | i
    ·exact ⟨fun r l V => i.1 r l (k1 r l b V), i.2⟩
    ·rw [X2 y] at i;obtain ⟨v, p, q, A, i⟩ := i;refine ⟨fun r l V => ?_, .inr (g.own _ _ _ i).1⟩;have hm' : b ∈ bs r l := k1 r l b V;obtain ⟨rfl, rfl⟩ := g.disj _ _ _ _ _ hm' i;have : b ∈ C q.1 (q.2 + 1) := V;rw [k2 v p q A] at this;simp at this
end
end Go.FP
