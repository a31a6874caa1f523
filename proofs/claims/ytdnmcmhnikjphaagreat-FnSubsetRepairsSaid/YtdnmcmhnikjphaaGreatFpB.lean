/- How Go values lie in memory, and an evaluator of code with its soundness (part 2 of 7). Conditions: those that stand in each theorem; nothing is assumed of any program. -/
import Derived.Test.YtdnmcmhnikjphaaGreatFpA
import Derived.Tactics
import Derived.WalkKit
import Derived.Laws.StructEq
import Derived.Laws.Cells
import Derived.Laws.MakeOwn
import Derived.Laws.OwnMore
import Derived.Laws.AppendOwnNone

set_option linter.unusedVariables false
set_option linter.unusedSimpArgs false
set_option linter.unnecessarySimpa false

namespace Go.FP
open Go.RowKit
variable {T : Tab} {S : Nat -> Prop} {w : World} {env : Env} {tmps : Array Value} {vs : Nat -> Value} {ps : Nat -> AV} {cs : Nat -> List Value} {bs : Nat -> Nat -> List Nat} {c : Cx} {s : St} {caps : FuncId -> List Ty} {sig : FuncId -> Option Sig} {orc : Orc} {ls : List Leaf} {x : Operand} {t : Ty} {v : Value} {d : Nat} {f : FuncId} {e : TypeId} {cells : List Value} {lf : Leaf} {n : Nat} {u : Value} {rs : List (Ty × Lvl)} {k : Kind} {av : AV} {sg : Sig} {τ : Ty} {w' : World} {xs : List (Σ t : Ty, t.D)} {te : TE}
theorem Y1j (c : Cx) (s : St) : ∀ (t : Ty) (cs : List Value) (ls : List Leaf) (rest : List Value), constLeaves t cs = some (ls, rest) ->
  ∃ c0, cs = c0 ++ rest /\ ls.length = c0.length /\ ls.map Leaf.t = flat t /\ (∀ l ∈ ls, l.m.settled = true) /\ ∀ (l : Nat) (lf : Leaf) (u : Value), ls[l]? = some lf -> c0[l]? = some u -> LeafV c s u lf
 | .unit, cs, ls, rest, h => by
  simp [constLeaves] at h;obtain ⟨rfl, rfl⟩ := h;exact ⟨[], rfl, rfl, rfl, by simp, by simp⟩
 | .pair a b, cs, ls, rest, h => by
  simp [constLeaves] at h;cases ha : constLeaves a cs with
  | none => rw [ha] at h; simp at h
  | some q =>
   obtain ⟨x, r⟩ := q;rw [ha] at h;simp only at h;cases hb : constLeaves b r with
   | none => rw [hb] at h; simp at h
   | some q =>
    obtain ⟨y, r'⟩ := q;rw [hb] at h;simp at h;obtain ⟨rfl, rfl⟩ := h;obtain ⟨c1, e1, l1, f1, s1, k1⟩ := Y1j c s a cs x r ha;obtain ⟨c2, e2, l2, f2, s2, k2⟩ := Y1j c s b r y r' hb;refine ⟨c1 ++ c2, by rw [e1, e2, X7], by simp [l1, l2], by rw [List.map_append, f1, f2]; rfl, fun l hl => ?_, fun l lf u hl hu => ?_⟩
    ·rcases X5.1 hl with hl | hl
     ·exact s1 l hl
     ·exact s2 l hl
    ·grind
 | .int k, cs, ls, rest, h => by
  unfold constLeaves at h;split at h
  ·split at h
   ·rename_i hk;subst hk;simp at h;obtain ⟨rfl, rfl⟩ := h;refine ⟨[_], rfl, rfl, rfl, by simp [Mode.settled], fun l lf u hl hu => ?_⟩;cases l with
    | zero => simp only [Xg, X0] at hl hu; subst hl; subst hu; exact ⟨⟨rfl, rfl⟩, trivial⟩
    | succ l => simp at hl
   ·simp at h
  ·simp at h
 | .bool, cs, ls, rest, h => by
  unfold constLeaves at h;split at h
  ·simp at h;obtain ⟨rfl, rfl⟩ := h;refine ⟨[_], rfl, rfl, rfl, by simp [Mode.settled], fun l lf u hl hu => ?_⟩;cases l with
   | zero => simp only [Xg, X0] at hl hu; subst hl; subst hu; exact ⟨⟨rfl, rfl⟩, trivial⟩
   | succ l => simp at hl
  ·simp at h
 | .str, cs, ls, rest, h => by
  unfold constLeaves at h;split at h
  ·simp at h;obtain ⟨rfl, rfl⟩ := h;refine ⟨[_], rfl, rfl, rfl, by simp [Mode.settled], fun l lf u hl hu => ?_⟩;cases l with
   | zero => simp only [Xg, X0] at hl hu; subst hl; subst hu; exact ⟨⟨rfl, rfl⟩, trivial⟩
   | succ l => simp at hl
  ·simp at h
 | .slice e t, cs, ls, rest, h => by
  unfold constLeaves at h;split at h
  ·simp at h;obtain ⟨rfl, rfl⟩ := h;refine ⟨[_], rfl, rfl, rfl, by simp [Mode.settled], fun l lf u hl hu => ?_⟩;cases l with
   | zero => simp only [Xg, X0] at hl hu; subst hl; subst hu; exact ⟨Rep.zero (RoS c s) s.w (.slice e t) .dp, trivial⟩
   | succ l => simp at hl
  ·simp at h
theorem Y2e : ∀ (s n : Nat) (ls : List Leaf), (borrowFrom s n ls).length = ls.length
 | s, n, [] => rfl
 | s, n, l :: ls => by simp [borrowFrom, Y2e s (n + 1) ls]
theorem Y1q : ∀ (s n : Nat) (ls : List Leaf) (l : Nat), (borrowFrom s n ls)[l]? = (ls[l]?).map fun lf => if lf.m.own then ⟨lf.t, lf.x, .bor s (n + l) []⟩ else lf
 | s, n, [], l => by simp [borrowFrom]
 | s, n, l0 :: ls, 0 => by simp [borrowFrom]
 | s, n, l0 :: ls, l + 1 => by simp [borrowFrom, Y1q s (n + 1) ls l, X2a, Nat.add_comm 1 l]
theorem Y6j {r l : Nat} (he : s.env r = .con k ls) (hl : ls[l]? = some lf) (hu : (s.cs r)[l]? = some u) (h : LeafRel c s r l u lf) :
  (if lf.m.own then (⟨lf.t, lf.x, .bor r l []⟩ : Leaf) else lf).m.own = false /\ Held c s u (if lf.m.own then ⟨lf.t, lf.x, .bor r l []⟩ else lf) := by
 by_cases ho : lf.m.own = true
 ·rw [X4 ho];refine ⟨rfl, ?_, ⟨lf, u, ⟨by rw [he]; simp only [AV.leaf?]; rw [Y1]; exact hl, ho, hu⟩, fun _ => ⟨lf.m, rfl, rfl⟩⟩, fun _ _ hp => by simp at hp⟩;obtain ⟨t, x, m⟩ := lf;cases m with
  | at_ lv => exact h.rep.ro
  | bor _ _ _ => simp [Mode.own] at ho
  | dead => simp [Mode.own] at ho
 ·rw [X2 ho];have ho' : lf.m.own = false := by simpa using ho
  exact ⟨ho', (h.held ho').2⟩
abbrev SS (env : Env) (ps : Nat -> AV) (tmps : Array Value) (vs : Nat -> Value) (w : World) (cs : Nat -> List Value) (bs : Nat -> Nat -> List Nat) : St := ⟨ovl env ps, ovlT tmps vs, w, cs, bs⟩
def evT (tmps : Array Value) : Operand -> Value
 | .tmp t => tmps.getD t undef
 | .const v => v
 | .global g => .pointer (some ⟨g, 0, none⟩)
 | .func f => .func (.func f) #[] #[]
theorem Y6 (a : Act) : a.eval = evT a.tmps := by
 funext x;cases x <;> rfl
theorem KCells.noBox {b0 : List Nat} (h : KCells c w b0 k v cells) (hk : (∀ e, k ≠ .box e) /\ ∀ i n sh, k ≠ .tupB i n sh) : KCells c w [] k v cells := by
 cases k with
 | val => exact ⟨h.1, rfl⟩
 | agg => exact ⟨h.1, rfl⟩
 | tup sh => exact ⟨rfl, h.2⟩
 | box e => exact absurd rfl (hk.1 e)
 | tupB i n sh => exact absurd rfl (hk.2 i n sh)
theorem Yl (hlen : env.length = tmps.size) (h : Rel c (SS env ps tmps vs w cs bs)) (ty : Option Ty) (x : Operand) :
  ∃ cells, ValC c (SS env ps tmps vs w cs bs) (rd ty env x) (evT tmps x) cells := by
 cases x with
 | tmp t =>
  by_cases ht : t < env.length
  ·have ht' : t < tmps.size := hlen ▸ ht;have hav := h.av t;have e1 : (SS env ps tmps vs w cs bs).env t = get env t := Y8 ht;have e2 : (SS env ps tmps vs w cs bs).tm t = tmps.getD t undef := X4 ht';rw [e1, e2] at hav;have con : ∀ k ls, get env t = .con k ls -> ((∀ e, k ≠ .box e) /\ ∀ i n sh, k ≠ .tupB i n sh) -> ∃ cells, ValC c (SS env ps tmps vs w cs bs) (.con k (borrowFrom t 0 ls)) (tmps.getD t undef) cells := by
    intro k ls hk hb;rw [hk] at hav;obtain ⟨h1, h2, h3, h4⟩ := hav;refine ⟨_, h1.noBox hb, by rw [Y2e]; exact h2, fun l lf u hl hu => ?_⟩;rw [Y1, Y1q, X13] at hl;obtain ⟨lf0, hl0, rfl⟩ := Xu.1 hl;have := Y6j (c := c) (s := SS env ps tmps vs w cs bs) (by rw [e1, hk]) hl0 hu (h4 l lf0 u (by rw [Y1]; exact hl0) hu);exact LeafV.of_held this.1 this.2
   simp only [rd, evT];cases hk : get env t with
   | con k ls =>
    cases k with
    | val => exact con _ _ hk (by simp)
    | agg => exact con _ _ hk (by simp)
    | tup sh => exact con _ _ hk (by simp)
    | tupB i n sh => exact ⟨[], trivial⟩
    | box e =>
     rw [hk] at hav;obtain ⟨⟨B, h1, h2, h3⟩, _⟩ := hav;exact ⟨[], e, ls, B, by rw [e1, hk], by rw [e2]; exact h1, h1⟩
   | undef => exact ⟨[], trivial⟩
   | skip => rw [hk] at hav; exact ⟨[], hav.1⟩
   | path r off => rw [hk] at hav; exact ⟨[], hav.2⟩
   | eptr ls wr => rw [hk] at hav; exact ⟨[], hav.2⟩
   | clo f caps => rw [hk] at hav; exact ⟨[], hav.2⟩
   | cloR f xs => rw [hk] at hav; exact ⟨[], hav.2⟩
   | fptr f caps => rw [hk] at hav; exact ⟨[], hav.2⟩
   | cloS f caps => rw [hk] at hav; exact ⟨[], hav.2⟩
   | grow _ _ _ _ _ => exact ⟨[], trivial⟩
   | sel _ _ _ _ _ _ _ => exact ⟨[], trivial⟩
   | part _ _ _ _ => exact ⟨[], trivial⟩
   | eown _ => exact ⟨[], trivial⟩
   | junk => exact ⟨[], trivial⟩
  ·have : get env t = .undef := Y1d _ _ (X1o ht);simp only [rd, this];exact ⟨[], trivial⟩
 | const v =>
  have typed : ∃ cells, ValC c (SS env ps tmps vs w cs bs) (constAV ty v) v cells := by
   unfold constAV;cases ty with
   | none => exact ⟨[], trivial⟩
   | some t =>
    simp only;cases hc : constLeaves t v.cells.toList with
    | none => exact ⟨[], trivial⟩
    | some q =>
     obtain ⟨ls, rest⟩ := q;cases rest with
     | cons _ _ => exact ⟨[], trivial⟩
     | nil =>
      simp only;split
      ·rename_i hag;have hag : t.isAgg = Value.isAgg' v := by simpa using hag
       obtain ⟨c0, e, l, _, _, k⟩ := Y1j c (SS env ps tmps vs w cs bs) t _ _ _ hc;rw [Xf] at e;subst e;refine ⟨v.cells.toList, ?_, l, fun l lf u hl hu => k l lf u (by rw [<- Y1]; exact hl) hu⟩;cases v with
       | agg cs' =>
        have : t.isAgg = true := hag;rw [this];exact ⟨by simp [Value.cells], rfl⟩
       | _ =>
        have : t.isAgg = false := hag;rw [this];exact ⟨rfl, rfl⟩
      ·exact ⟨[], trivial⟩
  have one : ∀ lf : Leaf, LeafV c (SS env ps tmps vs w cs bs) v lf -> ∃ cells, ValC c (SS env ps tmps vs w cs bs) (.con .val [lf]) v cells := by
   intro lf hlf;refine ⟨[v], ⟨rfl, rfl⟩, rfl, fun l lf' u hl hu => ?_⟩;rw [Y1] at hl;cases l with
   | zero => simp only [Xg, X0] at hl hu; subst hl; subst hu; exact hlf
   | succ l => simp at hl
  simp only [rd, evT];cases v with
  | int k n => exact one _ ⟨⟨rfl, rfl⟩, trivial⟩
  | bool b => exact one _ ⟨⟨rfl, rfl⟩, trivial⟩
  | string s => exact one _ ⟨⟨rfl, rfl⟩, trivial⟩
  | _ => exact typed
 | func f => exact ⟨[], [], rfl, rfl⟩
 | global g => exact ⟨[], trivial⟩
theorem Y69 (h : RP c env tmps w ps vs) (ty : Option Ty) (x : Operand) : (∀ q ∈ (rd ty env x).refs, q.1 < env.length) /\ (∀ q ∈ (rd ty env x).ptrs, q < env.length) := by
 obtain ⟨_, _, _, _, hno⟩ := h;cases x with
 | tmp t =>
  by_cases ht : t < env.length
  ·have := hno t;rw [Y8 ht] at this;have bor : ∀ ls : List Leaf, (∀ q ∈ ls.flatMap Leaf.refs, q.1 < env.length) -> ∀ q ∈ (borrowFrom t 0 ls).flatMap Leaf.refs, q.1 < env.length := by
    intro ls hls q hq;simp only [Xj] at hq;obtain ⟨lf, hm, hq⟩ := hq;obtain ⟨l, hl⟩ := Xw hm;rw [Y1q] at hl;obtain ⟨lf0, hl0, rfl⟩ := Xu.1 hl;split at hq
    ·simp only [Leaf.refs, Xb] at hq;rw [hq]; exact ht
    ·exact hls q (by simp only [Xj]; exact ⟨lf0, X8 hl0, hq⟩)
   simp only [rd];cases hk : get env t with
   | con k ls =>
    rw [hk] at this;cases k with
    | val => exact ⟨bor ls this.1, by simp [AV.ptrs]⟩
    | agg => exact ⟨bor ls this.1, by simp [AV.ptrs]⟩
    | tup sh => exact ⟨bor ls this.1, by simp [AV.ptrs]⟩
    | box e => exact ⟨by simp [AV.refs], by simp [AV.ptrs]; exact ht⟩
    | tupB i n sh => exact ⟨by simp [AV.refs], by simp [AV.ptrs]⟩
   | grow _ _ _ _ _ => exact ⟨by simp [AV.refs], by simp [AV.ptrs]⟩
   | sel _ _ _ _ _ _ _ => exact ⟨by simp [AV.refs], by simp [AV.ptrs]⟩
   | part _ _ _ _ => exact ⟨by simp [AV.refs], by simp [AV.ptrs]⟩
   | eown _ => exact ⟨by simp [AV.refs], by simp [AV.ptrs]⟩
   | junk => exact ⟨by simp [AV.refs], by simp [AV.ptrs]⟩
   | _ => rw [hk] at this; exact this
  ·have : get env t = .undef := Y1d _ _ (X1o ht);simp only [rd, this];exact ⟨by simp [AV.refs], by simp [AV.ptrs]⟩
 | const v =>
  have typed : ∀ av, av = constAV ty v -> (∀ q ∈ av.refs, q.1 < env.length) /\ (∀ q ∈ av.ptrs, q < env.length) := by
   intro av hav;unfold constAV at hav;cases ty with
   | none => rw [hav]; exact ⟨by simp [AV.refs], by simp [AV.ptrs]⟩
   | some t =>
    simp only at hav;cases hc : constLeaves t v.cells.toList with
    | none => rw [hc] at hav; rw [hav]; exact ⟨by simp [AV.refs], by simp [AV.ptrs]⟩
    | some q =>
     obtain ⟨ls, rest⟩ := q;rw [hc] at hav;cases rest with
     | cons _ _ => rw [hav]; exact ⟨by simp [AV.refs], by simp [AV.ptrs]⟩
     | nil =>
      simp only at hav;obtain ⟨_, _, _, _, hst, _⟩ := Y1j c ⟨noP, noV, w, fun _ => [], fun _ _ => []⟩ t _ _ _ hc;split at hav
      ·rw [hav];have := Settled.refs (v := mkCon t.isAgg ls) (.inr ⟨_, _, rfl, hst⟩);rw [this.1, this.2];exact ⟨by simp, by simp⟩
      ·rw [hav]; exact ⟨by simp [AV.refs], by simp [AV.ptrs]⟩
  simp only [rd];cases v <;> first | (refine ⟨?_, ?_⟩ <;> simp [AV.refs, AV.ptrs, Leaf.refs]; done) | exact typed _ rfl
 | func f => exact ⟨by simp [rd, AV.refs], by simp [rd, AV.ptrs]⟩
 | global g => exact ⟨by simp [rd, AV.refs], by simp [rd, AV.ptrs]⟩
theorem Ybl {r j : Nat} (hr : r < env.length) (hs : ∀ r, Settled (ps r)) : freezeE r j (ovl env ps) = ovl (freeze r j env) ps := by
 unfold freezeE freeze;rw [Y8 hr];cases hl : (get env r).leaf? j with
 | none => rfl
 | some l =>
  simp only;split
  ·have := Y20 (freezeG r j) env ps hs;have e : (fun r' => (ovl env ps r').chg (freezeG r j)) = ovl (chgEnv (freezeG r j) env) ps := this;rw [e, Yu (by rw [Y7]; exact hr)];congr 1;rw [Y16]
  ·rfl
theorem Y1h : ∀ (ls : List Leaf) {env : Env} {ps : Nat -> AV}, (∀ l ∈ ls, ∀ q ∈ l.refs, q.1 < env.length) -> (∀ r, Settled (ps r)) -> freezeAllE ls (ovl env ps) = ovl (freezeAll ls env) ps
 | [], env, ps, _, _ => rfl
 | l :: ls, env, ps, hl, hs => by
  obtain ⟨t, x, m⟩ := l;cases m with
  | bor r j p =>
   simp [freezeAll, freezeAllE];rw [Ybl (hl _ Xo (r, j) (by simp [Leaf.refs])) hs];exact Y1h ls (fun l hm q hq => by rw [(Y3r r j env).2]; exact hl l (X3 _ hm) q hq) hs
  | at_ lv => exact Y1h ls (fun l hm => hl l (X3 _ hm)) hs
  | dead => exact Y1h ls (fun l hm => hl l (X3 _ hm)) hs
theorem Y3s {j : Nat} {l : Leaf} (hl : l.refs = []) : ∀ q ∈ (setAt ls j l).flatMap Leaf.refs, q ∈ ls.flatMap Leaf.refs := by
 intro q hq;rw [Y9] at hq;simp at hq ⊢;obtain ⟨lf, hm, hq⟩ := hq;rcases X2n hm with hm | rfl
 ·grind
 ·grind
theorem Y9a (r j : Nat) (E : Nat -> AV) (r' : Nat) : (∀ q ∈ (freezeE r j E r').refs, q ∈ (E r').refs) /\ (∀ q ∈ (freezeE r j E r').ptrs, q ∈ (E r').ptrs) := by
 unfold freezeE;cases hl : (E r).leaf? j with
 | none => grind
 | some l =>
  simp only;split
  ·have hc := Yj (Y99 r j);simp only [upd];split
   ·rename_i hr;subst hr;have := hc (E r');cases hk : (E r').chg (freezeG r' j) with
    | con k ls =>
     rw [hk] at this;exact ⟨fun q hq => this.1 q (Y3s rfl q hq), by simp [AV.setLeaf, AV.ptrs]⟩
    | _ => rw [hk] at this; exact this
   ·grind
  ·grind
theorem Y1a : ∀ (ls : List Leaf) (E : Nat -> AV) (r' : Nat), (∀ q ∈ (freezeAllE ls E r').refs, q ∈ (E r').refs) /\ (∀ q ∈ (freezeAllE ls E r').ptrs, q ∈ (E r').ptrs)
 | [], E, r' => ⟨fun q h => h, fun q h => h⟩
 | l :: ls, E, r' => by
  obtain ⟨t, x, m⟩ := l;cases m with
  | bor r j p =>
   have h1 := Y1a ls (freezeE r j E) r';have h2 := Y9a r j E r';exact ⟨fun q hq => h2.1 q (h1.1 q hq), fun q hq => h2.2 q (h1.2 q hq)⟩
  | at_ lv => exact Y1a ls E r'
  | dead => exact Y1a ls E r'
theorem RP.freezeAll (h : RP c env tmps w ps vs) (ls : List Leaf) (hl : ∀ l ∈ ls, ∀ q ∈ l.refs, q.1 < env.length) (hs : ∀ r, Settled (ps r)) : RP c (freezeAll ls env) tmps w ps vs := by
 obtain ⟨hlen, cs, bs, h1, h2⟩ := h;obtain ⟨bs', h3, _, _⟩ := h1.freezeAll_ ls;have e := Y1h ls hl hs;refine ⟨by rw [(Yk ls env).2]; exact hlen, _, _, Rel.congr h3 e rfl, fun r => ?_⟩;rw [(Yk ls env).2, <- e];have := Y1a ls (ovl env ps) r;exact ⟨fun q hq => (h2 r).1 q (this.1 q hq), fun q hq => (h2 r).2 q (this.2 q hq)⟩
theorem Yar (hs : ∀ r, Settled (ps r)) {v : AV} (hv : Settled v) : ∀ r, Settled (upd ps n v r) := by
 intro r;simp [upd];split
 ·exact hv
 ·exact hs r
theorem Yas {env env' : Env} (h : RP c env tmps w ps vs) (hs : ∀ r, Settled (ps r)) {ty : Option Ty} (ht : takeIn0 ty env x = some (env', av)) (hn : env.length <= n) (hp : ps n = .undef) :
  env'.length = env.length /\ RP c env' tmps w (upd ps n av) (upd vs n (evT tmps x)) := by
 have plain : rd ty env x = av -> env' = env -> env'.length = env.length /\ RP c env' tmps w (upd ps n av) (upd vs n (evT tmps x)) := by
  intro e1 e2;subst e1; subst e2;exact ⟨rfl, h.addVal hn hp (fun cs bs hr => Yl h.len hr ty x) (Y69 h ty x)⟩
 cases x with
 | const v => simp only [takeIn0, X0, X11] at ht; exact plain ht.2 ht.1.symm
 | func f => simp only [takeIn0, X0, X11] at ht; exact plain ht.2 ht.1.symm
 | global g => simp only [takeIn0, X0, X11] at ht; exact plain ht.2 ht.1.symm
 | tmp s =>
  simp only [takeIn0] at ht;cases hk : get env s with
  | con k ls =>
   rw [hk] at ht;simp only at ht;split at ht
   ·rename_i hkind;cases hk1 : get (freezeAll ls env) s with
    | con k' ls1 =>
     rw [hk1] at ht;simp only at ht;split at ht
     ·rename_i hcond;obtain ⟨rfl, hset⟩ := hcond;have hset : ∀ l ∈ ls1, l.m.settled = true := by simpa using hset
      simp only [X0, X11] at ht;obtain ⟨he, rfl⟩ := ht;have hsl : s < env.length := Yw hk;have hls : ∀ l ∈ ls, ∀ q ∈ l.refs, q.1 < env.length := by
       intro l hl q hq;obtain ⟨_, _, _, _, hno⟩ := h;have := (hno s).1;rw [Y8 hsl, hk] at this;exact this q (by simp only [AV.refs, Xj]; exact ⟨l, hl, hq⟩)
      have h1 := h.freezeAll ls hls hs;have hlen1 : (freezeAll ls env).length = env.length := (Yk ls env).2;have hs1 : s < (Go.FP.freezeAll ls env).length := by rw [hlen1]; exact hsl
      have hn1 : (Go.FP.freezeAll ls env).length <= n := by rw [hlen1]; exact hn
      have hsn : s ≠ n := X1k (X1e hsl hn);generalize Go.FP.freezeAll ls env = env1 at *;have hbox : (∀ e, k' ≠ .box e) /\ ∀ i n sh, k' ≠ .tupB i n sh := by constructor <;> (intros; rintro rfl; simp [Kind.plain] at hkind)
      by_cases hown : ls1.any (fun l => l.m.own) = true
      ·rw [X4 hown] at he;subst he;refine ⟨by rw [Ya, hlen1], ?_⟩;obtain ⟨hlen, cs, bs, hr, hno⟩ := h1;obtain ⟨hk2, hk3⟩ := hr.killRoot_ s;have hEn : chgE (killG s) (ovl env1 ps) n = .undef := by simp only [chgE]; rw [Yt hn1, hp]; rfl
       have hEs : chgE (killG s) (ovl env1 ps) s = .con k' ls1 := by simp only [chgE]; rw [Y8 hs1, hk1]; simp only [AV.chg, Y4k _ hset]
       have h5 := hk2.move hsn (by show (chgE (killG s) (ovl env1 ps) n).quiet = true; rw [hEn]; rfl) hk3;simp only [hEs] at h5;have e1 : upd (upd (chgE (killG s) (ovl env1 ps)) s .undef) n (.con k' ls1) = ovl (killRoot s env1) (upd ps n (.con k' ls1)) := by
        rw [Yd (by rw [Ya]; exact hn1)];unfold killRoot;rw [Yu (by rw [Y7]; exact hs1), Y20 _ _ _ hs]
       have e2 : upd (ovlT tmps vs) n (ovlT tmps vs s) = ovlT tmps (upd vs n (evT tmps (.tmp s))) := by
        rw [Y13 (hlen ▸ hn1)];congr 1;exact X4 (hlen ▸ hs1)
       refine ⟨by rw [Ya]; exact hlen, _, _, Rel.congr h5 e1 e2, fun r => ?_⟩;rw [Ya, <- e1];simp only [upd];split
       ·have := Settled.refs (v := .con k' ls1) (.inr ⟨_, _, rfl, hset⟩);rw [this.1, this.2];exact ⟨by simp, by simp⟩
       ·split
        ·exact ⟨by simp [AV.refs], by simp [AV.ptrs]⟩
        ·have := Yj (Y10 s) (ovl env1 ps r);exact ⟨fun q hq => (hno r).1 q (this.1 q hq), fun q hq => (hno r).2 q (this.2 q hq)⟩
      ·rw [X2 hown] at he;subst he;refine ⟨hlen1, h1.addVal hn1 hp (fun cs bs hr => ?_) ?_⟩
       ·have hav := hr.av s;have e1 : ovl env1 ps s = .con k' ls1 := by rw [Y8 hs1, hk1]
        have e2 : ovlT tmps vs s = evT tmps (.tmp s) := X4 (h1.len ▸ hs1);simp only [e1, e2] at hav;obtain ⟨g1, g2, g3, g4⟩ := hav;refine ⟨_, g1.noBox hbox, g2, fun l lf u hl hu => ?_⟩;have := g4 l lf u hl hu;have ho : lf.m.own = false := by
         cases hb : lf.m.own with
         | false => rfl
         | true => exact absurd (X1n.2 ⟨lf, Yb hl, hb⟩) hown
        exact LeafV.of_held ho (this.held ho).2
       ·have := Settled.refs (v := .con k' ls1) (.inr ⟨_, _, rfl, hset⟩);rw [this.1, this.2];exact ⟨by simp, by simp⟩
     ·simp at ht
    | _ => rw [hk1] at ht; simp at ht
   ·simp at ht
  | undef => rw [hk] at ht; simp at ht
  | grow _ _ _ _ _ => rw [hk] at ht; simp at ht
  | sel _ _ _ _ _ _ _ => rw [hk] at ht; simp at ht
  | part _ _ _ _ => rw [hk] at ht; simp at ht
  | eown _ => rw [hk] at ht; simp at ht
  | junk => rw [hk] at ht; simp at ht
  | _ =>
   rw [hk] at ht;simp only [X0, X11] at ht;exact plain (by simp only [rd, hk]; exact ht.2) ht.1.symm
theorem Y77 {ty : Option Ty} {env env' : Env} (ht : takeIn0 ty env x = some (env', .con k ls)) : ∀ l ∈ ls, l.m.settled = true := by
 have con : ∀ v, rd ty env (.const v) = .con k ls -> ∀ l ∈ ls, l.m.settled = true := by
  intro v hv;have typed : constAV ty v = .con k ls -> ∀ l ∈ ls, l.m.settled = true := by
   intro hv;unfold constAV at hv;cases ty with
   | none => simp at hv
   | some t =>
    simp only at hv;cases hc : constLeaves t v.cells.toList with
    | none => grind
    | some q =>
     obtain ⟨ls', rest⟩ := q;rw [hc] at hv;cases rest with
     | cons _ _ => simp at hv
     | nil =>
      simp only at hv;obtain ⟨_, _, _, _, hst, _⟩ := Y1j ⟨fun _ => False, 0, default, fun _ => default, fun _ => False, default, fun _ => default⟩ ⟨noP, noV, default, fun _ => [], fun _ _ => []⟩ t _ _ _ hc;split at hv
      ·simp [mkCon] at hv;rw [<- hv.2]; exact hst
      ·simp at hv
  simp [rd] at hv;cases v <;> first | (simp at hv; rw [<- hv.2]; simp [Mode.settled]; done) | exact typed hv
 cases x with
 | const v => simp [takeIn0] at ht; exact con v ht.2
 | func f => simp [takeIn0, rd] at ht
 | global g => simp [takeIn0, rd] at ht
 | tmp s =>
  simp [takeIn0] at ht;cases hk : get env s with
  | con k0 ls0 => grind
  | _ => grind
theorem RP.pull (h : RP c env tmps w ps vs) (hs : ∀ r, Settled (ps r)) (s q : Nat) : RP c (pull s q env) tmps w ps vs /\ (Go.FP.pull s q env).length = env.length := by
 unfold Go.FP.pull;split
 ·rename_i t x r j hq;split
  ·rename_i lp hl;split
   ·rename_i lv hm;split
    ·rename_i hc;obtain ⟨hlv, hne⟩ := hc;have hsl : s < env.length := Y1p hq;have hrl : r < env.length := Y1p hl;obtain ⟨k, ls, hk⟩ : ∃ k ls, get env s = .con k ls := by
      cases hv : get env s with
      | con k ls => exact ⟨k, ls, rfl⟩
      | _ => rw [hv] at hq; simp [AV.leaf?] at hq
     obtain ⟨hlen, cs, bs, hr, hno⟩ := h;have hr : Rel c (SS env ps tmps vs w cs bs) := hr;obtain ⟨bs', h1, h2⟩ := hr.pull_ (s0 := s) (r := r) (j := j) (q := q) (k := k) (ls := ls) (t := t) (x := x) (lv := lv) (lp := lp) (by show ovl env ps s = _; rw [Y8 hsl]; exact hk) (by rw [hk] at hq; exact hq) hne (by show (ovl env ps r).leaf? j = _; rw [Y8 hrl]; exact hl) hm hlv;have hl2 : (killPlace r j env).length = env.length := Y7 _ _;have e : pullE r j s q ⟨lp.t, lp.x, .dead⟩ ⟨t, x, .at_ lv⟩ (ovl env ps) = ovl (put (put (killPlace r j env) r ((get (killPlace r j env) r).setLeaf j ⟨lp.t, lp.x, .dead⟩)) s ((get (put (killPlace r j env) r ((get (killPlace r j env) r).setLeaf j ⟨lp.t, lp.x, .dead⟩)) s).setLeaf q ⟨t, x, .at_ lv⟩)) ps := by
      unfold pullE;rw [Yu (by rw [Y5, hl2]; exact hsl), Yu (by grind), Y12, X2 (fun h => hne h.1)];have e0 : ∀ p, p < env.length -> chgE (killPG r j) (ovl env ps) p = get (killPlace r j env) p := fun p hp => by
       show (ovl env ps p).chg _ = _;rw [Y8 hp]; unfold killPlace; rw [Y16]
      rw [e0 r hrl, e0 s hsl];congr 2;exact Y20 _ _ _ hs
     refine ⟨⟨by rw [Y5, Y5, hl2]; exact hlen, cs, bs', Rel.congr h1 e rfl, fun p => ?_⟩, by rw [Y5, Y5, hl2]⟩;rw [Y5, Y5, hl2, <- e];exact ⟨fun z hz => (hno p).1 z ((h2 p).1 z hz), fun z hz => (hno p).2 z ((h2 p).2 z hz)⟩
    ·exact ⟨h, rfl⟩
   ·exact ⟨h, rfl⟩
  ·exact ⟨h, rfl⟩
 ·exact ⟨h, rfl⟩
theorem RP.pulls (h : RP c env tmps w ps vs) (hs : ∀ r, Settled (ps r)) (s : Nat) : ∀ n, RP c (pulls s n env) tmps w ps vs /\ (Go.FP.pulls s n env).length = env.length
 | 0 => ⟨h, rfl⟩
 | n + 1 => by
  obtain ⟨h1, h2⟩ := RP.pulls h hs s n;obtain ⟨h3, h4⟩ := h1.pull hs s n;exact ⟨h3, h4.trans h2⟩
theorem RP.pullAll (h : RP c env tmps w ps vs) (hs : ∀ r, Settled (ps r)) (x : Operand) : RP c (pullAll x env) tmps w ps vs /\ (Go.FP.pullAll x env).length = env.length := by
 unfold Go.FP.pullAll;split
 ·split
  ·split
   ·exact h.pulls hs _ _
   ·exact ⟨h, rfl⟩
  ·exact ⟨h, rfl⟩
 ·exact ⟨h, rfl⟩
theorem Y17 {env env' : Env} (h : RP c env tmps w ps vs) (hs : ∀ r, Settled (ps r)) {ty : Option Ty} (ht : takeIn ty env x = some (env', av)) (hn : env.length <= n) (hp : ps n = .undef) :
  env'.length = env.length /\ RP c env' tmps w (upd ps n av) (upd vs n (evT tmps x)) := by
 obtain ⟨h1, h2⟩ := h.pullAll hs x;obtain ⟨h3, h4⟩ := Yas h1 hs ht (n := n) (by grind) hp;exact ⟨h3.trans h2, h4⟩
theorem Yx {ty : Option Ty} {env env' : Env} (ht : takeIn ty env x = some (env', .con k ls)) : ∀ l ∈ ls, l.m.settled = true := Y77 ht
theorem Ydl {S S2 : Nat -> Prop} (hf : t.flatB = true) {x y : List t.D} {b : List Nat} (h1 : Rep S w (.slice e t) .ro [u] x []) (h2 : Rep S2 w (.slice e t) .dp [u] y b) : Rep S2 w (.slice e t) .dp [u] x b := by
 obtain ⟨v1, xs1, b0, b1, e1, e2, hel1, hrow1⟩ := h1;obtain ⟨v2, xs2, c0, c1, f1, f2, hel2, hrow2⟩ := h2;obtain rfl : u = v1 := by simpa using e1
 obtain rfl : u = v2 := by simpa using f1
 obtain ⟨rfl, rfl⟩ := X21.1 e2.symm;obtain ⟨_, A, cp, hu, hcp, hA, hc⟩ := hrow1;have hrow2 : c0 = u.ownBlock.toList /\ w.ownsRow 0 e t.sz u y.length xs2 := hrow2;have hc1 : c1 = [] := El.noB (fun c' x' b' h' => (Rep.flat (S' := S2) (w' := w) (m' := .dp) hf h').1) hel2;subst hc1;have l1 := hel1.len;have l2 := hel2.len;have hown := hrow2.2;have key : x.length = y.length /\ xs1 = xs2 := by
  obtain ⟨_, ⟨rfl, hn0⟩ | ⟨g, cap, cur, rfl, _, hh, hn, hmx, hcs, ht⟩⟩ := hrow2.2
  ·simp at hu;have : x.length = 0 := hu.2.1.symm;refine ⟨by omega, ?_⟩;have e3 : xs1 = [] := Xn.1 (by grind);have e4 : xs2 = [] := Xn.1 (by grind);rw [e3, e4]
  ·simp at hu;obtain ⟨hA1, hn1, _⟩ := hu;refine ⟨hn1.symm, ?_⟩;apply X24;intro k;by_cases hk : k < xs1.length
   ·obtain ⟨a, ha, _, hcell⟩ := hc k _ (X1 hk);rw [<- hA1] at ha;obtain rfl := Xs ha;have : (⟨g, 0, none⟩ : Addr).add k = ⟨g, k, none⟩ := by
     simp [Addr.add];omega
    rw [this] at hcell;rw [X1 hk, <- hcell];exact hown.cellAt k (by grind)
   ·grind
 obtain ⟨k1, rfl⟩ := key;refine ⟨u, xs1, c0, [], rfl, f2, ?_, hrow2.1, by grind⟩;exact El.bare (P := Rep S w t Lvl.ro.sub) (Q := Rep S2 w t Lvl.dp.sub) (fun c' x' b' h' => (Rep.flat hf h').2) hel1
def pullNE (r j s0 q : Nat) (dl nl : Leaf) (E : Nat -> AV) : Nat -> AV :=
 upd (upd (chgE (killPG r j) E) r ((chgE (killPG r j) E r).setLeaf j dl)) s0 ((chgE (killPG r j) E s0).setLeaf q nl)
theorem Rel.pullN_ (h : Rel c s) {r j q s0 : Nat} {e e' : TypeId} {x : List t.D} {xs : List (List t.D)} {i : Int} (hf : t.flatB = true) (hs : s.env s0 = .con k ls) (hq : leafAt ls q = some ⟨.slice e t, x, .bor r j [(i, 0)]⟩) (hne : s0 ≠ r) (hl : (s.env r).leaf? j = some ⟨.slice e' (.slice e t), xs, .at_ .dp⟩) :
  ∃ bs', Rel c ⟨pullNE r j s0 q ⟨.slice e' (.slice e t), xs, .dead⟩ ⟨.slice e t, x, .at_ .dp⟩ s.env, s.tm, s.w, s.cs, bs'⟩ /\
   ∀ p, (∀ z ∈ (pullNE r j s0 q ⟨.slice e' (.slice e t), xs, .dead⟩ ⟨.slice e t, x, .at_ .dp⟩ s.env p).refs, z ∈ (s.env p).refs) /\ (∀ z ∈ (pullNE r j s0 q ⟨.slice e' (.slice e t), xs, .dead⟩ ⟨.slice e t, x, .at_ .dp⟩ s.env p).ptrs, z ∈ (s.env p).ptrs) := by
 obtain ⟨env, tm, w, cs, bs⟩ := s;simp only at hs hl ⊢
 -- what is borrowed is the place itself
 have hav0 := h.av s0;simp only [hs] at hav0;obtain ⟨_, g2, _, g4⟩ := hav0;have hqlt : q < ls.length := by rw [Y1] at hq; exact (X6.1 hq).1
 have g2 : ls.length = (cs s0).length := g2;obtain ⟨u, hu⟩ : ∃ u, (cs s0)[q]? = some u := ⟨_, X1 (by omega)⟩;obtain ⟨u0, hcj, grep, a0, B, n, cp, hu0, hi0, hi1, ha0, hcell⟩ : ∃ u0, (cs r)[j]? = some u0 /\ Rep (fun b => RoS c ⟨env, tm, w, cs, bs⟩ b \/ b ∈ bs r (j + 1)) w (.slice e t) .ro [u] x [] /\ ∃ a B n cp, u0 = .slice (some ⟨B, 0, none⟩) n cp /\ 0 <= i /\ i.toNat < xs.length /\ a = (⟨B, i.toNat, none⟩ : Addr) /\ w.cell? a = some u := by
  have := g4 q _ u hq hu;obtain ⟨_, grep, ⟨lf', u', ⟨g5, g6, g7⟩, _⟩, g9⟩ := this;obtain ⟨a, ⟨_, lf2, u2, ⟨o1, o2, o3⟩, o4⟩, hcell⟩ := g9 i 0 rfl;obtain ⟨e1, t1, xs1, m1, B, n, cp, p1, p2, p3, p4, p5⟩ := o4.1 rfl;have o1 : (env r).leaf? j = some lf2 := o1;rw [hl] at o1;simp only [X0] at o1;rw [p1] at o1;simp only [Leaf.mk.injEq, Ty.slice.injEq] at o1;obtain ⟨⟨rfl, rfl⟩, o1x, _⟩ := o1;have o1x := X33 o1x;subst o1x;refine ⟨u2, o3, grep, a, B, n, cp, p2, p3, p4, ?_, hcell⟩;rw [p5];simp [Ty.sz]
 obtain ⟨hk2, hk3⟩ := h.killPlace_ r j;simp only at hk2 hk3;obtain ⟨k0, ls0, hv0⟩ : ∃ k ls, env r = .con k ls := by
  cases hv : env r with
  | con k ls => exact ⟨k, ls, rfl⟩
  | _ => rw [hv] at hl; simp [AV.leaf?] at hl
 have hl' : leafAt ls0 j = some ⟨.slice e' (.slice e t), xs, .at_ .dp⟩ := by rw [hv0] at hl; exact hl
 let E := chgE (killPG r j) env
 have hEr : E r = .con k0 (chgs (killPG r j) ls0) := by show (env r).chg _ = _; rw [hv0]; rfl
 have hEs : E s0 = .con k (chgs (killPG r j) ls) := by show (env s0).chg _ = _; rw [hs]; rfl
 have hlj : leafAt (chgs (killPG r j) ls0) j = some ⟨.slice e' (.slice e t), xs, .at_ .dp⟩ := by
  rw [Yh, hl'];rfl
 have hjlt : j < (chgs (killPG r j) ls0).length := by rw [Y1] at hlj; exact (X6.1 hlj).1
 have hrepj : Rep (RoS c ⟨E, tm, w, cs, bs⟩) w (.slice e' (.slice e t)) .dp [u0] xs (bs r (j + 1)) := by
  have hav2 := hk2.av r;simp only [show chgE (killPG r j) env r = _ from hEr] at hav2;have h6 := hav2.2.2.2 j _ _ hlj hcj;exact LeafRel.rep h6
 obtain ⟨bq, hrepq, hsub, hbqn⟩ : ∃ bq, Rep (RoS c ⟨E, tm, w, cs, bs⟩) w (.slice e t) .dp [u] x bq /\ (∀ k ∈ bq, k ∈ bs r (j + 1)) /\ bq.Nodup := by
  obtain ⟨v, xc, b0, b1, f1, f2, hel, hrow⟩ := hrepj;obtain rfl : u0 = v := by simpa using f1
  have hrow : b0 = u0.ownBlock.toList /\ w.ownsRow 0 e' 1 u0 xs.length xc := hrow;obtain ⟨pre, cc, post, c0, b, c1, x1, x2, x3, x4, x5, _⟩ := El.at_ i.toNat hi1 hel;have x3 : cc.length = 1 := x3;obtain ⟨cv, rfl⟩ := X1u.1 x3;have hcv : cv = u := by
   have hw := hrow.2;subst hu0;obtain ⟨_, ⟨y1, _⟩ | ⟨g, cap, cur, y1, _⟩⟩ := hrow.2
   ·simp at y1
   ·simp only [Value.slice.injEq, X0, X34, and_true] at y1;obtain ⟨rfl, rfl, rfl⟩ := y1;have := hw.cellAt i.toNat (by omega);rw [<- ha0, hcell, x1] at this;have x2 : pre.length = i.toNat := by rw [x2]; simp [Ty.sz]
    rw [X7, Xd (by omega), x2, Nat.sub_self] at this;simpa using this.symm
  subst hcv;refine ⟨b, Ydl hf grep x5, fun k hk => ?_, ?_⟩
  ·rw [f2, x4];simp [hk]
  ·have hn := hk2.nodup r (j + 1);rw [show (⟨chgE (killPG r j) env, tm, w, cs, bs⟩ : St).bs r (j + 1) = b0 ++ b1 from f2, x4] at hn;exact (X15.1 (X15.1 (X15.1 hn).2.1).1).2.1
 let dl : Leaf := ⟨.slice e' (.slice e t), xs, .dead⟩
 let nl : Leaf := ⟨.slice e t, x, .at_ .dp⟩
 let bs' : Nat -> Nat -> List Nat := updP (updP bs r (j + 1) []) s0 (q + 1) bq
 let s' : St := ⟨pullNE r j s0 q dl nl env, tm, w, cs, bs'⟩
 have hEs' : s'.env s0 = .con k (setAt (chgs (killPG r j) ls) q nl) := by
  show upd _ s0 _ s0 = _;rw [Y0, show chgE (killPG r j) env s0 = _ from hEs]; rfl
 have hEr' : s'.env r = .con k0 (setAt (chgs (killPG r j) ls0) j dl) := by
  show upd _ s0 _ r = _;rw [Y2 _ _ (Ne.symm hne), Y0, show chgE (killPG r j) env r = _ from hEr]; rfl
 have hbr : bs' r = fun l => if l = j + 1 then [] else bs r l := by
  show updP _ s0 _ _ r = _;rw [Y1z _ _ _ (Ne.symm hne)];funext l;simp [updP]
 have hbs : bs' s0 = fun l => if l = q + 1 then bq else bs s0 l := by
  funext l;show (if s0 = s0 /\ l = q + 1 then _ else updP bs r (j + 1) [] s0 l) = _;rw [Y1z _ _ _ hne];simp
 have hbsq : bs s0 (q + 1) = [] := by
  have := g4 q _ u hq hu;exact this.1
 have hsame : ∀ p, ¬ (p = r \/ p = s0) -> s'.env p = (E p).chg noG /\ s'.tm p = tm p /\ s'.cs p = cs p /\ s'.bs p = bs p := fun p hp => by
  simp only [X2v] at hp;refine ⟨by rw [AV.chg_no]; show upd _ s0 _ p = _; rw [Y2 _ _ hp.2, Y2 _ _ hp.1], rfl, rfl, ?_⟩;show updP _ s0 _ _ p = _;rw [Y1z _ _ _ hp.2, Y1z _ _ _ hp.1]
 have hnoq : ∀ lf v, ¬ OwnPlace ⟨E, tm, w, cs, bs⟩ s0 q lf v := by
  rintro lf v ⟨o1, o2, o3⟩
  have o1 : (E s0).leaf? q = some lf := o1;rw [hEs] at o1;simp only [AV.leaf?] at o1;rw [Yh, hq] at o1;simp only [X1w, X0] at o1;subst o1;simp [Leaf.chg, killPG, Leaf.lost, Mode.own] at o2
 have hown : ∀ p i, ¬ (p = r /\ i = j) /\ ¬ (p = s0 /\ i = q) -> SamePl ⟨E, tm, w, cs, bs⟩ s' p i := by
  intro p i ⟨hpi, hpq⟩;by_cases hpr : p = r
  ·subst hpr;refine ⟨fun lf v ⟨o1, o2, o3⟩ => ⟨?_, o2, o3⟩, by show bs' p (i + 1) = _; rw [hbr]; exact X2 (fun h => hpi ⟨rfl, by omega⟩), fun _ _ => rfl⟩;rw [hEr'];have o1 : (E p).leaf? i = some lf := o1;rw [hEr] at o1;simp only [AV.leaf?] at o1 ⊢;rw [Y1, Y9, X10 (fun h => hpi ⟨rfl, h.symm⟩), <- Y1];exact o1
  ·by_cases hps : p = s0
   ·subst hps;have hiq : i ≠ q := fun h => hpq ⟨rfl, h⟩;refine ⟨fun lf v ⟨o1, o2, o3⟩ => ⟨?_, o2, o3⟩, by show bs' p (i + 1) = _; rw [hbs]; exact X2 (by omega), fun _ _ => rfl⟩;rw [hEs'];have o1 : (E p).leaf? i = some lf := o1;rw [hEs] at o1;simp only [AV.leaf?] at o1 ⊢;rw [Y1, Y9, X10 (Ne.symm hiq), <- Y1];exact o1
   ·have hs4 := hsame p (by simp only [X2v]; exact ⟨hpr, hps⟩);exact ⟨fun lf v ho => ho.chg hs4.1 hs4.2.2.1, by rw [hs4.2.2.2], fun _ _ => rfl⟩
 have hptr : ∀ p, SamePtr ⟨E, tm, w, cs, bs⟩ s' p := by
  intro p;by_cases hpr : p = r
  ·subst hpr;refine ⟨rfl, fun e ls he => ?_⟩;have he : E p = _ := he;rw [hEr] at he;cases he;exact ⟨e, _, hEr'⟩
  ·by_cases hps : p = s0
   ·subst hps;refine ⟨rfl, fun e ls he => ?_⟩;have he : E p = _ := he;rw [hEs] at he;cases he;exact ⟨e, _, hEs'⟩
   ·have hs4 := hsame p (by simp only [X2v]; exact ⟨hpr, hps⟩);exact SamePtr.chg hs4.1 hs4.2.1
 have hLr : ∀ p, (∀ z ∈ (E p).refs, ¬ (z.1 = r /\ z.2 = j) /\ ¬ (z.1 = s0 /\ z.2 = q)) /\ (∀ z ∈ (E p).ptrs, True) := fun p =>
  ⟨fun z hz => ⟨fun h2 => hk3 p z hz (Prod.ext h2.1 h2.2), fun h2 => by
   obtain ⟨lf, v, ho⟩ := (hk2.av p).refs_own.1 z hz;rw [h2.1, h2.2] at ho;exact hnoq lf v ho⟩, fun _ _ => trivial⟩
 have hrs : r ≠ s0 := Ne.symm hne;have hmain : Rel c s' := by
  refine Rel.step (s' := s') noG hk2 (fun p => p = r \/ p = s0) (fun p i => ¬ (p = r /\ i = j) /\ ¬ (p = s0 /\ i = q)) (fun _ => True) hsame (X1g _ _) (fun b _ _ => rfl)
   (fun p l b hD hb => ?_) (fun p1 l1 p2 l2 b hD hD' hb1 hb2 => ?_) (fun p l hD => ?_) (fun p _ => hLr p) (fun hkp => ⟨Yq hkp hown, Y15 hkp hown, fun p _ _ => hptr p⟩) (fun hkp p hD => ?_)
  ·rcases hD with rfl | rfl
   ·rw [show s'.bs p = _ from hbr] at hb
    replace hb : b ∈ (if l = j + 1 then [] else bs p l) := hb
    split at hb
    ·simp at hb
    ·exact ⟨(hk2.own _ _ _ hb).2, .inr ⟨p, l, .inl rfl, hb⟩⟩
   ·rw [show s'.bs p = _ from hbs] at hb
    replace hb : b ∈ (if l = q + 1 then bq else bs p l) := hb
    split at hb
    ·exact ⟨(hk2.own _ _ _ (hsub _ hb)).2, .inr ⟨r, j + 1, .inl rfl, hsub _ hb⟩⟩
    ·exact ⟨(hk2.own _ _ _ hb).2, .inr ⟨p, l, .inr rfl, hb⟩⟩
  ·rcases hD with rfl | rfl <;> rcases hD' with rfl | rfl
   ·rw [show s'.bs p2 = _ from hbr] at hb1 hb2
    replace hb1 : b ∈ (if l1 = j + 1 then [] else bs p2 l1) := hb1
    replace hb2 : b ∈ (if l2 = j + 1 then [] else bs p2 l2) := hb2
    split at hb1
    ·simp at hb1
    ·split at hb2
     ·simp at hb2
     ·exact hk2.disj _ _ _ _ _ hb1 hb2
   ·exfalso;rw [show s'.bs p1 = _ from hbr] at hb1;rw [show s'.bs p2 = _ from hbs] at hb2
    replace hb1 : b ∈ (if l1 = j + 1 then [] else bs p1 l1) := hb1
    replace hb2 : b ∈ (if l2 = q + 1 then bq else bs p2 l2) := hb2
    split at hb1
    ·simp at hb1
    ·rename_i hn1;split at hb2
     ·exact hn1 (hk2.disj _ _ _ _ _ hb1 (hsub _ hb2)).2
     ·exact hrs (hk2.disj _ _ _ _ _ hb1 hb2).1
   ·exfalso;rw [show s'.bs p2 = _ from hbr] at hb2;rw [show s'.bs p1 = _ from hbs] at hb1
    replace hb2 : b ∈ (if l2 = j + 1 then [] else bs p2 l2) := hb2
    replace hb1 : b ∈ (if l1 = q + 1 then bq else bs p1 l1) := hb1
    split at hb2
    ·simp at hb2
    ·rename_i hn1;split at hb1
     ·exact hn1 (hk2.disj _ _ _ _ _ hb2 (hsub _ hb1)).2
     ·exact hrs (hk2.disj _ _ _ _ _ hb2 hb1).1
   ·rw [show s'.bs p2 = _ from hbs] at hb1 hb2
    replace hb1 : b ∈ (if l1 = q + 1 then bq else bs p2 l1) := hb1
    replace hb2 : b ∈ (if l2 = q + 1 then bq else bs p2 l2) := hb2
    split at hb1
    ·split at hb2
     ·exact ⟨rfl, by omega⟩
     ·exact (hrs (hk2.disj _ _ _ _ _ (hsub _ hb1) hb2).1).elim
    ·split at hb2
     ·exact (hrs (hk2.disj _ _ _ _ _ (hsub _ hb2) hb1).1).elim
     ·exact hk2.disj _ _ _ _ _ hb1 hb2
  ·rcases hD with rfl | rfl
   ·rw [show s'.bs p = _ from hbr];show (if l = j + 1 then [] else bs p l).Nodup;split
    ·exact X16
    ·exact hk2.nodup _ _
   ·rw [show s'.bs p = _ from hbs];show (if l = q + 1 then bq else bs p l).Nodup;split
    ·exact hbqn
    ·exact hk2.nodup _ _
  ·have leaf : ∀ (p l : Nat) (lf : Leaf) (v : Value), (∃ k ls, E p = .con k ls /\ leafAt ls l = some lf) -> s'.bs p (l + 1) = bs p (l + 1) -> LeafRel c ⟨E, tm, w, cs, bs⟩ p l v lf -> LeafRel c s' p l v lf := by
    intro p l lf v ⟨k1, ls1, e1, e2⟩ hb h6;have := h6.chg (g := noG) (r' := p) hkp (Yq hkp hown) (fun z hz => by
     have := (hLr p).1 z (by rw [e1]; simp only [AV.refs, Xj]; exact ⟨lf, Yb e2, hz⟩);exact this) hb (fun _ _ => rfl)
    have hno1 : lf.chg noG = lf := by obtain ⟨t, x, m⟩ := lf; cases m <;> rfl
    rw [hno1] at this;exact this
   rcases hD with rfl | rfl
   ·have hav2 := hk2.av p;simp only [show chgE (killPG p j) env p = _ from hEr] at hav2;obtain ⟨g1, g2, g3, g4⟩ := hav2;rw [hEr'];refine ⟨?_, by rw [Y9, Xz]; exact g2, fun l hl2 => ?_, fun l lf v hl2 hu2 => ?_⟩
    ·rw [show s'.bs p = _ from hbr];exact g1
    ·rw [Y9, Xz] at hl2;rw [show s'.bs p = _ from hbr];show (if l + 1 = j + 1 then [] else bs p (l + 1)) = [];split
     ·rfl
     ·exact g3 l hl2
    ·rw [Y1, Y9] at hl2;by_cases hlj2 : l = j
     ·subst hlj2;rw [X1m hjlt] at hl2;simp only [X0] at hl2;subst hl2;refine ⟨by rw [show s'.bs p = _ from hbr]; simp, ?_⟩;have hu' : v = u0 := by rw [show (s'.cs p)[l]? = some u0 from hcj] at hu2; exact (Xs hu2).symm
      rw [hu'];exact Rep.one hrepj _ (by simp)
     ·rw [X10 (fun h => hlj2 h.symm), <- Y1] at hl2;exact leaf p l lf v ⟨_, _, hEr, hl2⟩ (by rw [show s'.bs p = _ from hbr]; show (if l + 1 = j + 1 then [] else bs p (l + 1)) = _; rw [X2 (by omega)]) (g4 l lf v hl2 hu2)
   ·have hav2 := hk2.av p;simp only [show chgE (killPG r j) env p = _ from hEs] at hav2;obtain ⟨g1, g2, g3, g4⟩ := hav2;rw [hEs'];refine ⟨?_, by rw [Y9, Xz]; exact g2, fun l hl2 => ?_, fun l lf v hl2 hu2 => ?_⟩
    ·rw [show s'.bs p = _ from hbs];exact g1
    ·rw [Y9, Xz] at hl2;rw [show s'.bs p = _ from hbs];show (if l + 1 = q + 1 then bq else bs p (l + 1)) = [];rw [X2 (by rw [Yr] at hl2; omega)];exact g3 l hl2
    ·rw [Y1, Y9] at hl2;by_cases hlq : l = q
     ·subst hlq;rw [X1m (by rw [Yr]; exact hqlt)] at hl2;simp only [X0] at hl2;subst hl2;have hu' : v = u := by rw [show (s'.cs p)[l]? = some u from hu] at hu2; exact (Xs hu2).symm
      rw [hu'];refine LeafRel.of_rep (lv := .dp) trivial ?_;rw [show s'.bs p = _ from hbs];simp only [X1p];exact Rep.move (fun b hb hl => hkp b hb hl) (fun _ _ => rfl) hrepq
     ·rw [X10 (fun h => hlq h.symm), <- Y1] at hl2;exact leaf p l lf v ⟨_, _, hEs, hl2⟩ (by rw [show s'.bs p = _ from hbs]; show (if l + 1 = q + 1 then _ else bs p (l + 1)) = _; rw [X2 (by omega)]) (g4 l lf v hl2 hu2)
 refine ⟨bs', hmain, fun p => ?_⟩;have hc := Yj (Y1l r j) (env p);have setR : ∀ (k1 : Kind) (ls1 : List Leaf) (i : Nat) (l : Leaf), l.refs = [] -> ∀ z ∈ (AV.con k1 (setAt ls1 i l)).refs, z ∈ (AV.con k1 ls1).refs := by
  intro k1 ls1 i l hl z hz;rw [Y9] at hz;simp only [AV.refs, Xj] at hz ⊢;obtain ⟨lf, hmm, hz⟩ := hz;rcases X2n hmm with hmm | rfl
  ·exact ⟨lf, hmm, hz⟩
  ·rw [hl] at hz; simp at hz
 by_cases hps : p = s0
 ·subst hps;rw [show pullNE r j p q _ _ env p = _ from hEs'];refine ⟨fun z hz => ?_, by simp [AV.ptrs]⟩;have := setR _ _ _ _ rfl z hz;rw [<- hEs] at this;exact hc.1 z this
 ·by_cases hpr : p = r
  ·subst hpr;rw [show pullNE p j s0 q _ _ env p = _ from hEr'];refine ⟨fun z hz => ?_, by simp [AV.ptrs]⟩;have := setR _ _ _ _ rfl z hz;rw [<- hEr] at this;exact hc.1 z this
  ·rw [show pullNE r j s0 q _ _ env p = E p from by show upd _ s0 _ p = _; rw [Y2 _ _ hps, Y2 _ _ hpr]];exact hc
theorem El.pick {α β : Type} {P : List Value -> α -> List Nat -> Prop} {Q : List Value -> β -> List Nat -> Prop} : ∀ {l : List α} {cells : List Value} {bs : List Nat} (off : Nat) (ix : List Int) (us : List Value) (ys : List β), El P 1 cells l bs -> ix.Pairwise (· < ·) -> (∀ i ∈ ix, (off : Int) <= i /\ i < (off : Int) + l.length) -> us.length = ix.length -> ys.length = ix.length ->
  (∀ (k : Nat) (i : Int), ix[k]? = some i -> us[k]? = cells[(i - off).toNat]?) -> (∀ (k : Nat) (u : Value) (y : β), us[k]? = some u -> ys[k]? = some y -> ∀ x b, P [u] x b -> Q [u] y b) -> ∃ bsel, El Q 1 us ys bsel /\ bsel.Sublist bs
 | l, cells, bs, off, [], us, ys, h, hs, hr, hu, hy, hc, hq => by
  obtain rfl : us = [] := Xn.1 hu;obtain rfl : ys = [] := Xn.1 hy;exact ⟨[], ⟨rfl, rfl⟩, List.nil_sublist _⟩
 | [], cells, bs, off, i :: ix, us, ys, h, hs, hr, hu, hy, hc, hq => by
  have := hr i (by simp);simp at this;omega
 | x :: l, cells, bs, off, i :: ix, us, ys, ⟨c, xs', b, bs', e, lc, eb, p, t⟩, hs, hr, hu, hy, hc, hq => by
  obtain ⟨c0, rfl⟩ := X1u.1 lc;subst e;subst eb;rw [X1f] at hs;have hi := hr i (by simp);by_cases h0 : i = (off : Int)
  ·match us, ys, hu, hy with
   | u :: us, y :: ys, hu, hy =>
    have hu0 : u = c0 := by
     have := hc 0 i rfl;rw [h0, show (((off : Int) - off).toNat) = 0 by omega] at this;simpa using this
    subst hu0;have hQ := hq 0 u y rfl rfl x b p;obtain ⟨bsel, k1, k2⟩ := El.pick (off + 1) ix us ys t hs.2 (fun i' hi' => by
     have h1 := hs.1 i' hi';have h2 := hr i' (by simp [hi']);simp at h2;omega) (by simpa using hu) (by simpa using hy) (fun k i' hk => by
     have := hc (k + 1) i' hk;have h1 := hs.1 i' (X8 hk);rw [X1i] at this;rw [this, show (i' - (off : Int)).toNat = (i' - ((off + 1 : Nat) : Int)).toNat + 1 by omega];rfl) (fun k u' y' h1 h2 => hq (k + 1) u' y' h1 h2)
    exact ⟨b ++ bsel, ⟨[u], us, b, bsel, rfl, rfl, rfl, hQ, k1⟩, X2k (X2s _) k2⟩
  ·obtain ⟨bsel, k1, k2⟩ := El.pick (off + 1) (i :: ix) us ys t (X1f.2 hs) (fun i' hi' => by
    have h2 := hr i' hi';simp at h2;have : i <= i' := by grind
    omega) hu hy (fun k i' hk => by
    have h3 := hc k i' hk;have : i <= i' := by
     rcases Xq.1 (X8 hk) with rfl | hi'
     ·grind
     ·grind
    rw [h3, show (i' - (off : Int)).toNat = (i' - ((off + 1 : Nat) : Int)).toNat + 1 by omega];rfl) hq
   exact ⟨bsel, k1, k2.trans (List.sublist_append_right _ _)⟩
theorem RP.pullN (h : RP c env tmps w ps vs) (hs : ∀ r, Settled (ps r)) (s : Nat) : RP c (pullN s env) tmps w ps vs /\ (Go.FP.pullN s env).length = env.length := by
 unfold Go.FP.pullN;split
 ·rename_i e t x r j i hk;split
  ·rename_i e' te xs hl;split
   ·rename_i hc;obtain ⟨rfl, hf, hne⟩ := hc;have hsl : s < env.length := Xx fun hh => by rw [Y1d env s (by omega)] at hk; cases hk
    have hrl : r < env.length := Y1p hl;obtain ⟨hlen, cs, bs, hr, hno⟩ := h;have hr : Rel c (SS env ps tmps vs w cs bs) := hr;obtain ⟨bs', h1, h2⟩ := hr.pullN_ (s0 := s) (r := r) (j := j) (q := 0) (k := .val) (ls := [⟨.slice e t, x, .bor r j [(i, 0)]⟩]) (e := e) (e' := e') (t := t) (x := x) (xs := xs) (i := i) hf (by show ovl env ps s = _; rw [Y8 hsl]; exact hk) rfl hne (by show (ovl env ps r).leaf? j = _; rw [Y8 hrl]; exact hl);have hl2 : (killPlace r j env).length = env.length := Y7 _ _;have e0 : pullNE r j s 0 ⟨.slice e' (.slice e t), xs, .dead⟩ ⟨.slice e t, x, .at_ .dp⟩ (ovl env ps) = ovl (put (put (killPlace r j env) r ((get (killPlace r j env) r).setLeaf j ⟨.slice e' (.slice e t), xs, .dead⟩)) s ((get (put (killPlace r j env) r ((get (killPlace r j env) r).setLeaf j ⟨.slice e' (.slice e t), xs, .dead⟩)) s).setLeaf 0 ⟨.slice e t, x, .at_ .dp⟩)) ps := by
     unfold pullNE;rw [Yu (by rw [Y5, hl2]; exact hsl), Yu (by rw [hl2]; exact hrl), Y12, X2 (fun h => hne h.1)];have e0 : ∀ p, p < env.length -> chgE (killPG r j) (ovl env ps) p = get (killPlace r j env) p := fun p hp => by
      show (ovl env ps p).chg _ = _;rw [Y8 hp]; unfold killPlace; rw [Y16]
     rw [e0 r hrl, e0 s hsl];congr 2;exact Y20 _ _ _ hs
    refine ⟨⟨by rw [Y5, Y5, hl2]; exact hlen, cs, bs', Rel.congr h1 e0 rfl, fun p => ?_⟩, by rw [Y5, Y5, hl2]⟩;rw [Y5, Y5, hl2, <- e0];exact ⟨fun z hz => (hno p).1 z ((h2 p).1 z hz), fun z hz => (hno p).2 z ((h2 p).2 z hz)⟩
   ·exact ⟨h, rfl⟩
  ·exact ⟨h, rfl⟩
 ·exact ⟨h, rfl⟩
theorem RP.pullRes (hs : ∀ r, Settled (ps r)) : ∀ (rs : List (Ty × Lvl)) (vars : List ResultVar) {env : Env}, RP c env tmps w ps vs -> RP c (pullRes rs vars env) tmps w ps vs
 | [], vars, env, h => by cases vars <;> exact h
 | p :: rs, [], env, h => h
 | (t, fr) :: rs, v :: vars, env, h => by
  refine RP.pullRes hs rs vars ?_;split
  ·exact (h.pullN hs _).1
  ·exact h
def zeroVal (t : Ty) : Value := if t.isAgg then .agg (zeroCells t).toArray else (zeroCells t).headD undef
def EqFs (P : Program) : List Field -> List Ty -> Nat -> Prop
 | [], [], _ => True
 | f :: fs, t :: ts, off => (f.name ≠ "_" /\ f.offset = off /\ (∀ w, (isAgg f.type).run P w = .ok false w) /\ match t with
   | .int k => P.underlying f.type = some (.int k)
   | .bool => P.underlying f.type = some .bool
   | .str => P.underlying f.type = some .string
   | _ => False) /\ EqFs P fs ts (off + 1)
 | _, _, _ => False
structure TEOk (P : Program) (e : TE) : Prop where
 func : e.fn = true -> ∃ i z ps rs v, P.info? e.id = some i /\ i.size = 1 /\ i.zero = some z /\ z.oneCell' = true /\ P.underlying e.id = some (.func ps rs v)
 info : e.fn = false -> ∃ i, P.info? e.id = some i /\ i.size = e.ty.sz /\ i.bytes = e.bytes /\ i.zero = some (zeroVal e.ty)
 desc : e.fn = false -> match e.ty with
  | .int k => P.underlying e.id = some (.int k)
  | .bool => P.underlying e.id = some .bool
  | .str => P.underlying e.id = some .string
  | .slice el _ => P.underlying e.id = some (.slice el)
  | _ => ∃ fs, P.underlying e.id = some (.struct fs) /\ ∀ (i off ft : Nat), e.fields[i]? = some (off, ft) -> ∃ f : Field, fs[i]? = some f /\ f.offset = off /\ f.type = ft
 places : e.fn = false -> e.ty.isAgg = true -> ∃ (fs : Array Field) (pl : List (Nat × Nat)), P.underlying e.id = some (.struct fs) /\ fs.toList.mapM (fun f => (P.info? f.type).map fun i => (f.offset, i.size)) = some pl
 eqs : e.eq = true -> (P.eqGuardType P.depth e.id = false /\ P.stoodInHeld e.id = false) /\ ∃ fs : Array Field, P.underlying e.id = some (.struct fs) /\ EqFs P fs.toList (flat e.ty) 0
def TabOk (P : Program) (T : Tab) : Prop := ∀ e ∈ T, TEOk P e
theorem Tab.isFn_mem : ∀ {T : Tab} {t : TypeId}, T.isFn t = true -> ∃ e ∈ T, e.fn = true /\ e.id = t
 | [], t, h => by simp [Tab.isFn] at h
 | e0 :: T, t, h => by
  simp [Tab.isFn] at h;rcases h with h | h
  ·grind
  ·obtain ⟨e, h1, h2⟩ := Tab.isFn_mem h;exact ⟨e, X3 _ h1, h2⟩
theorem Tab.te_mem : ∀ {T : Tab} {t : TypeId} {e : TE}, T.te t = some e -> e ∈ T /\ (e.id = t /\ e.fn = false)
 | [], t, e, h => by simp [Tab.te] at h
 | e0 :: T, t, e, h => by
  unfold Tab.te at h;split at h
  ·grind
  ·have := Tab.te_mem h;exact ⟨X3 _ this.1, this.2⟩
theorem Tab.ty_te {t : TypeId} (h : T.ty t = some τ) : ∃ e, T.te t = some e /\ e.ty = τ := by
 unfold Tab.ty at h;split at h
 ·grind
 ·simp at h
section
variable {P : Program} {T : Tab} (hT : TabOk P T)
include hT
theorem TabOk.info {t : TypeId} (h : T.ty t = some τ) : ∃ i, P.info? t = some i /\ i.size = τ.sz /\ i.zero = some (zeroVal τ) := by
 obtain ⟨e, h1, rfl⟩ := Tab.ty_te h;obtain ⟨h2, rfl, hfn⟩ := Tab.te_mem h1;obtain ⟨i, k1, k2, _, k3⟩ := (hT e h2).info hfn;exact ⟨i, k1, k2, k3⟩
theorem TabOk.fn {t : TypeId} (h : T.isFn t = true) : ∃ i z ps rs v, P.info? t = some i /\ i.size = 1 /\ i.zero = some z /\ z.oneCell' = true /\ P.underlying t = some (.func ps rs v) := by
 obtain ⟨e, h1, h2, rfl⟩ := Tab.isFn_mem h;exact (hT e h1).func h2
theorem TabOk.agg {t : TypeId} (h : T.ty t = some τ) (w : World) : (isAgg t).run P w = .ok τ.isAgg w := by
 obtain ⟨e, h1, rfl⟩ := Tab.ty_te h;obtain ⟨h2, rfl, hfn⟩ := Tab.te_mem h1;have := (hT e h2).desc hfn;unfold isAgg;cases he : e.ty with
 | int k => rw [he] at this; simp [run_underlying this, Ty.isAgg]
 | bool => rw [he] at this; simp [run_underlying this, Ty.isAgg]
 | str => rw [he] at this; simp [run_underlying this, Ty.isAgg]
 | slice el τ => rw [he] at this; simp [run_underlying this, Ty.isAgg]
 | unit => rw [he] at this; obtain ⟨fs, h3, _⟩ := this; simp [run_underlying h3, Ty.isAgg]
 | pair a b => rw [he] at this; obtain ⟨fs, h3, _⟩ := this; simp [run_underlying h3, Ty.isAgg]
theorem TabOk.sizeOf {t : TypeId} (h : T.ty t = some τ) (w : World) : (sizeOf t).run P w = .ok τ.sz w := by
 obtain ⟨i, h1, h2, _⟩ := TabOk.info hT h;simp [Go.sizeOf, typeInfo, h1, h2]
theorem TabOk.zero {t : TypeId} (h : T.ty t = some τ) (w : World) : (zeroValue t).run P w = .ok (zeroVal τ) w := by
 obtain ⟨i, h1, _, h2⟩ := TabOk.info hT h;simp [zeroValue, typeInfo, h1, h2]
theorem TabOk.slice {t : TypeId} {el : TypeId} (h : T.ty t = some (.slice el τ)) : P.underlying t = some (.slice el) := by
 obtain ⟨e, h1, h3⟩ := Tab.ty_te h;obtain ⟨h2, rfl, hfn⟩ := Tab.te_mem h1;have := (hT e h2).desc hfn;rw [h3] at this;exact this
theorem TabOk.str {t : TypeId} (h : T.ty t = some .str) : P.underlying t = some .string := by
 obtain ⟨e, h1, h3⟩ := Tab.ty_te h;obtain ⟨h2, rfl, hfn⟩ := Tab.te_mem h1;have := (hT e h2).desc hfn;rw [h3] at this;exact this
theorem TabOk.int {t : TypeId} {k : IntKind} (h : T.ty t = some (.int k)) : P.underlying t = some (.int k) := by
 obtain ⟨e, h1, h3⟩ := Tab.ty_te h;obtain ⟨h2, rfl, hfn⟩ := Tab.te_mem h1;have := (hT e h2).desc hfn;rw [h3] at this;exact this
theorem TabOk.field {s : TypeId} {f off : Nat} (h : fieldAt T s f = some (off, τ)) : ∃ fs fd, P.underlying s = some (.struct fs) /\ fs[f]? = some fd /\ fd.offset = off /\ T.ty fd.type = some τ /\ τ.sz ≠ 0 := by
 unfold fieldAt at h;split at h
 ·rename_i e he;obtain ⟨h2, rfl, hfn⟩ := Tab.te_mem he;split at h
  ·rename_i off' ft hf;split at h
   ·rename_i t ht;split at h
    ·simp at h
    ·rename_i hsz;simp at h;obtain ⟨rfl, rfl⟩ := h;have := (hT e h2).desc hfn;cases he2 : e.ty with
     | int k => exact absurd (.inr (by rw [he2]; rfl)) hsz
     | bool => exact absurd (.inr (by rw [he2]; rfl)) hsz
     | str => exact absurd (.inr (by rw [he2]; rfl)) hsz
     | slice el τ => exact absurd (.inr (by rw [he2]; rfl)) hsz
     | unit => grind
     | pair a b => grind
   ·simp at h
  ·simp at h
 ·simp at h
theorem TabOk.elem {t : TypeId} (h : elemAt T t = some te) : T.ty t = some (.slice te.id te.ty) /\ P.underlying t = some (.slice te.id) /\ T.ty te.id = some te.ty /\ 0 < te.ty.sz /\ 0 < te.bytes /\ ∃ i, P.info? te.id = some i /\ i.size = te.ty.sz /\ i.bytes = te.bytes /\ i.zero = some (zeroVal te.ty) := by
 unfold elemAt at h;split at h
 ·rename_i e τ he;split at h
  ·rename_i te' hte;split at h
   ·rename_i hc;simp at h;subst h;obtain ⟨h2, rfl, hfn⟩ := Tab.te_mem hte;obtain ⟨rfl, h3, h4⟩ := hc;exact ⟨he, TabOk.slice hT he, by unfold Tab.ty; rw [hte], h3, h4, (hT _ h2).info hfn⟩
   ·simp at h
  ·simp at h
 ·simp at h
end
theorem RE.commit (h : RP c env tmps w (upd noP env.length av) vs) (hd : d < env.length) : RE c (setD (some d) env av) (tmps.setIfInBounds d (vs env.length)) w := by
 have := h.commit (Xi _) hd (fun r hr => by rw [Y2 _ _ hr]; exact .inl rfl);rw [Y0] at this;have e : upd (upd noP env.length av) env.length .undef = noP := by funext r; simp only [upd, noP]; split <;> rfl
 rw [e] at this;exact ⟨vs, this⟩
section
variable {P : Program} {o : Oper} {a : Act} {w : World} {R : Type} {K : Env -> Option R} {r : R} {next : Act -> World -> Prop} {Q : Exit -> Act -> World -> Prop} {c : Cx} {d : Nat}
def Next (c : Cx) (a : Act) (K : Env -> Option R) (r : R) (N : Nat) (next : Act -> World -> Prop) : Prop :=
 ∀ env' a' w', K env' = some r -> RE c env' a'.tmps w' -> env'.length = N -> a'.defers = a.defers -> next a' w'
theorem Y18 (dst : Option Nat) (env : Env) (v : AV) : (setD dst env v).length = env.length := by
 unfold setD;split
 ·split <;> simp [Y5, Y1g]
 ·rfl
theorem fin {env1 : Env} {N : Nat} (hdst : o.dst = some d) (hrun : (execOp a.eval o).run P w = .ok (.value v) w') (hd : d < env1.length) (hN : env1.length = N)
  (h : RP c env1 a.tmps w' (upd noP env1.length av) vs) (hv : vs env1.length = v) (hK : K (setD (some d) env1 av) = some r) (hn : Next c a K r N next) : o.wp P a w next Q := by
 unfold Oper.wp;rw [hrun];show next (a.put o.dst v) w'
 rw [hdst];have := RE.commit h hd;rw [hv] at this;exact hn _ _ _ hK this (by rw [Y18, hN]) rfl
theorem finV (hr : RE c env a.tmps w) (hdst : o.dst = some d) (hrun : (execOp a.eval o).run P w = .ok (.value v) w) (hd : d < env.length)
  (hv : ∀ vs cs bs, Rel c (SS env noP a.tmps vs w cs bs) -> ∃ cells, ValC c (SS env noP a.tmps vs w cs bs) av v cells) (href : (∀ q ∈ av.refs, q.1 < env.length) /\ (∀ q ∈ av.ptrs, q < env.length))
  (hK : K (setD (some d) env av) = some r) (hn : Next c a K r env.length next) : o.wp P a w next Q := by
 obtain ⟨vs, h⟩ := hr;have := h.addVal (Xi _) rfl (fun cs bs hr => hv vs cs bs hr) href;exact fin hdst hrun hd rfl this (Y0 _ _ _) hK hn
theorem RE.val (hr : RE c env tmps w) (ty : Option Ty) (x : Operand) : ∀ vs cs bs, Rel c (SS env noP tmps vs w cs bs) -> ∃ cells, ValC c (SS env noP tmps vs w cs bs) (rd ty env x) (evT tmps x) cells :=
 fun vs cs bs h => Yl hr.choose_spec.len h ty x
theorem RE.refs (hr : RE c env tmps w) (ty : Option Ty) (x : Operand) : (∀ q ∈ (rd ty env x).refs, q.1 < env.length) /\ (∀ q ∈ (rd ty env x).ptrs, q < env.length) :=
 Y69 hr.choose_spec ty x
theorem Y2y (h : ValC c s (.con .val [lf]) v cells) (hl : lf.m.live = true) : ∃ S, Rep S s.w lf.t .ro [v] lf.x [] := by
 obtain ⟨⟨rfl, _⟩, _, h3⟩ := h;have := h3 0 lf v rfl rfl;obtain ⟨t, x, m⟩ := lf;cases m with
 | at_ lv => exact ⟨_, Rep.ro this.1⟩
 | bor r j p => exact ⟨_, this.1⟩
 | dead => simp [Mode.live] at hl
theorem RE.int1 (hr : RE c env tmps w) {ty : Option Ty} {k : IntKind} {n : Int} (h : int1 (rd ty env x) = some (k, n)) : evT tmps x = .int k n := by
 obtain ⟨vs, h0⟩ := hr;obtain ⟨cs, bs, h1, _⟩ := h0.rel;obtain ⟨cells, hv⟩ := Yl h0.len h1 ty x;unfold Go.FP.int1 at h;split at h
 ·rename_i k' n' lv heq;rw [heq] at hv;simp at h;obtain ⟨rfl, rfl⟩ := h;obtain ⟨S, hS⟩ := Y2y hv rfl;simpa using hS.1
 ·simp at h
theorem RE.bool1 (hr : RE c env tmps w) {ty : Option Ty} {b : Bool} (h : bool1 (rd ty env x) = some b) : evT tmps x = .bool b := by
 obtain ⟨vs, h0⟩ := hr;obtain ⟨cs, bs, h1, _⟩ := h0.rel;obtain ⟨cells, hv⟩ := Yl h0.len h1 ty x;unfold Go.FP.bool1 at h;split at h
 ·rename_i b' lv heq;rw [heq] at hv;simp at h;subst h;obtain ⟨S, hS⟩ := Y2y hv rfl;simpa using hS.1
 ·simp at h
theorem RE.str1 (hr : RE c env tmps w) {ty : Option Ty} {b : ByteArray} (h : str1 (rd ty env x) = some b) : evT tmps x = .string b := by
 obtain ⟨vs, h0⟩ := hr;obtain ⟨cs, bs, h1, _⟩ := h0.rel;obtain ⟨cells, hv⟩ := Yl h0.len h1 ty x;unfold Go.FP.str1 at h;split at h
 ·rename_i b' lv heq;rw [heq] at hv;simp at h;subst h;obtain ⟨S, hS⟩ := Y2y hv rfl;simpa using hS.1
 ·simp at h
theorem Y2a (c : Cx) (s : St) (k : IntKind) (n : Int) : ∃ cells, ValC c s (vInt k n) (.int k n) cells := ⟨[.int k n], ⟨rfl, rfl⟩, rfl, fun l lf u hl hu => by
 rw [Y1] at hl;cases l with
 | zero => simp only [Xg, X0] at hl hu; subst hl; subst hu; exact ⟨⟨rfl, rfl⟩, trivial⟩
 | succ l => simp at hl⟩
theorem Y42 (c : Cx) (s : St) (b : Bool) : ∃ cells, ValC c s (vBool b) (.bool b) cells := ⟨[.bool b], ⟨rfl, rfl⟩, rfl, fun l lf u hl hu => by
 rw [Y1] at hl;cases l with
 | zero => simp only [Xg, X0] at hl hu; subst hl; subst hu; exact ⟨⟨rfl, rfl⟩, trivial⟩
 | succ l => simp at hl⟩
theorem Y84 (c : Cx) (s : St) (b : ByteArray) : ∃ cells, ValC c s (vStr b) (.string b) cells := ⟨[.string b], ⟨rfl, rfl⟩, rfl, fun l lf u hl hu => by
 rw [Y1] at hl;cases l with
 | zero => simp only [Xg, X0] at hl hu; subst hl; subst hu; exact ⟨⟨rfl, rfl⟩, trivial⟩
 | succ l => simp at hl⟩
theorem Y1w {k : IntKind} {n : Int} {N : Nat} : (∀ q ∈ (vInt k n).refs, q.1 < N) /\ (∀ q ∈ (vInt k n).ptrs, q < N) := ⟨by simp [vInt, AV.refs, Leaf.refs], by simp [vInt, AV.ptrs]⟩
theorem Y43 {b : Bool} {N : Nat} : (∀ q ∈ (vBool b).refs, q.1 < N) /\ (∀ q ∈ (vBool b).ptrs, q < N) := ⟨by simp [vBool, AV.refs, Leaf.refs], by simp [vBool, AV.ptrs]⟩
theorem Y9b {b : ByteArray} {N : Nat} : (∀ q ∈ (vStr b).refs, q.1 < N) /\ (∀ q ∈ (vStr b).ptrs, q < N) := ⟨by simp [vStr, AV.refs, Leaf.refs], by simp [vStr, AV.ptrs]⟩
theorem Yem (hop : o.op = .move x) (hdst : o.dst = some d) (hr : RE c env a.tmps w) (hd : d < env.length) (hK : K (setD (some d) env (rd (T.ty o.type) env x)) = some r) (hn : Next c a K r env.length next) : o.wp P a w next Q :=
 finV hr hdst (v := evT a.tmps x) (by simp [execOp, hop, Y6]) hd (hr.val _ x) (hr.refs _ x) hK hn
theorem Ycv {env env' : Env} (hop : o.op = .assign x) (hdst : o.dst = some d) (hr : RE c env a.tmps w) (hd : d < env.length) (ht : takeIn (T.ty o.type) env x = some (env', av)) (hK : K (setD (some d) env' av) = some r) (hn : Next c a K r env.length next) : o.wp P a w next Q := by
 obtain ⟨vs, h⟩ := hr;obtain ⟨hl, h1⟩ := Y17 h (fun r => .inl rfl) ht (Xi _) rfl;rw [<- hl] at h1;exact fin hdst (v := evT a.tmps x) (by simp [execOp, hop, Y6]) (by grind) hl h1 (Y0 _ _ _) hK hn
theorem Ybm (hop : o.op = .assign x) (hdst : o.dst = some d) (hr : RE c env a.tmps w) (hd : d < env.length) (hK : K (setD (some d) env (rd (T.ty o.type) env x)) = some r) (hn : Next c a K r env.length next) : o.wp P a w next Q :=
 finV hr hdst (v := evT a.tmps x) (by simp [execOp, hop, Y6]) hd (hr.val _ x) (hr.refs _ x) hK hn
theorem Yen {cc x y : Operand} {t : Bool} (hop : o.op = .pick cc x y) (hdst : o.dst = some d) (hr : RE c env a.tmps w) (hd : d < env.length) (hb : bool1 (rd none env cc) = some t)
  (hK : (bif t then K (setD (some d) env (rd (T.ty o.type) env x)) else K (setD (some d) env (rd (T.ty o.type) env y))) = some r) (hn : Next c a K r env.length next) : o.wp P a w next Q := by
 have hc := hr.bool1 hb;cases t with
 | true => exact finV hr hdst (v := evT a.tmps x) (by simp [execOp, hop, Y6, hc, asBool]) hd (hr.val _ x) (hr.refs _ x) hK hn
 | false => exact finV hr hdst (v := evT a.tmps y) (by simp [execOp, hop, Y6, hc, asBool]) hd (hr.val _ y) (hr.refs _ y) hK hn
end
theorem Y1m {α : Type} {b : Bool} {x : Option α} {r : α} (h : (bif b then x else none) = some r) : b = true /\ x = some r := by grind
theorem Y2z {α : Type} {b : Bool} {x : Option α} {r : α} (h : (bif b then none else x) = some r) : b = false /\ x = some r := by grind
section
variable {P : Program} {o : Oper} {a : Act} {w : World} {R : Type} {K : Env -> Option R} {r : R} {next : Act -> World -> Prop} {Q : Exit -> Act -> World -> Prop} {c : Cx} {d : Nat} {T : Tab} {env : Env}
theorem Yex {op : BinOp} {k : IntKind} {x y : Int} {K : AV -> Option R} (h : intOp op k x y K = some r) :
  ∃ av v, K av = some r /\ (∀ w, (Go.binOp op 0 (.int k x) (.int k y)).run P w = .ok v w) /\ (∀ t w, (Go.binOp op t (.int k x) (.int k y)).run P w = .ok v w) /\ (∀ c s, ∃ cells, ValC c s av v cells) /\ (∀ N : Nat, (∀ q ∈ av.refs, q.1 < N) /\ (∀ q ∈ av.ptrs, q < N)) := by
 have fi : ∀ n, K (vInt k n) = some r -> (∀ t w, (Go.binOp op t (.int k x) (.int k y)).run P w = .ok (.int k n) w) -> _ := fun n h1 h2 =>
  (⟨vInt k n, .int k n, h1, h2 0, h2, fun c s => Y2a c s k n, fun N => Y1w⟩ : ∃ av v, K av = some r /\ (∀ w, (Go.binOp op 0 (.int k x) (.int k y)).run P w = .ok v w) /\ (∀ t w, (Go.binOp op t (.int k x) (.int k y)).run P w = .ok v w) /\ (∀ c s, ∃ cells, ValC c s av v cells) /\ (∀ N : Nat, (∀ q ∈ av.refs, q.1 < N) /\ (∀ q ∈ av.ptrs, q < N)))
 have fb : ∀ n, K (vBool n) = some r -> (∀ t w, (Go.binOp op t (.int k x) (.int k y)).run P w = .ok (.bool n) w) -> _ := fun n h1 h2 =>
  (⟨vBool n, .bool n, h1, h2 0, h2, fun c s => Y42 c s n, fun N => Y43⟩ : ∃ av v, K av = some r /\ (∀ w, (Go.binOp op 0 (.int k x) (.int k y)).run P w = .ok v w) /\ (∀ t w, (Go.binOp op t (.int k x) (.int k y)).run P w = .ok v w) /\ (∀ c s, ∃ cells, ValC c s av v cells) /\ (∀ N : Nat, (∀ q ∈ av.refs, q.1 < N) /\ (∀ q ∈ av.ptrs, q < N)))
 cases op with
 | add => exact fi _ h (fun t w => by simp [Go.binOp, Op.intArith])
 | sub => exact fi _ h (fun t w => by simp [Go.binOp, Op.intArith])
 | mul => exact fi _ h (fun t w => by simp [Go.binOp, Op.intArith])
 | quo =>
  obtain ⟨h1, h2⟩ := Y2z h;have h1 : y ≠ 0 := by simpa using h1
  exact fi _ h2 (fun t w => by simp [Go.binOp, Op.intDiv, h1])
 | rem =>
  obtain ⟨h1, h2⟩ := Y2z h;have h1 : y ≠ 0 := by simpa using h1
  exact fi _ h2 (fun t w => by simp [Go.binOp, Op.intDiv, h1])
 | and => exact fi _ h (fun t w => by simp [Go.binOp, Op.intBits])
 | xor => exact fi _ h (fun t w => by simp [Go.binOp, Op.intBits])
 | or => exact fi _ h (fun t w => by simp [Go.binOp, Op.intBits])
 | shr =>
  obtain ⟨h1, h2⟩ := Y2z h;have h1 : ¬ y < 0 := by simpa using h1
  exact fi _ h2 (fun t w => by simp [Go.binOp, Op.shift, h1])
 | shl =>
  obtain ⟨h1, h2⟩ := Y2z h;have h1 : ¬ y < 0 := by simpa using h1
  exact fi _ h2 (fun t w => by simp [Go.binOp, Op.shift, h1])
 | eql => exact fb _ h (fun t w => by simp [Go.binOp, Op.intCmp])
 | neq => exact fb _ h (fun t w => by simp [Go.binOp, Op.intCmp])
 | lss => exact fb _ h (fun t w => by simp [Go.binOp, Op.intCmp])
 | leq => exact fb _ h (fun t w => by simp [Go.binOp, Op.intCmp])
 | gtr => exact fb _ h (fun t w => by simp [Go.binOp, Op.intCmp])
 | geq => exact fb _ h (fun t w => by simp [Go.binOp, Op.intCmp])
 | _ => simp [intOp] at h
theorem Ydm {op : BinOp} {k k' : IntKind} {x y : Int} {K : AV -> Option R} (h : shiftOp op k x y K = some r) :
  ∃ av v, K av = some r /\ (∀ t w, (Go.binOp op t (.int k x) (.int k' y)).run P w = .ok v w) /\ (∀ c s, ∃ cells, ValC c s av v cells) /\ (∀ N : Nat, (∀ q ∈ av.refs, q.1 < N) /\ (∀ q ∈ av.ptrs, q < N)) := by
 cases op with
 | shr =>
  obtain ⟨h1, h2⟩ := Y2z h;have h1 : ¬ y < 0 := by simpa using h1
  exact ⟨_, _, h2, fun t w => by simp [Go.binOp, Op.shift, h1], fun c s => Y2a c s k _, fun N => Y1w⟩
 | shl =>
  obtain ⟨h1, h2⟩ := Y2z h;have h1 : ¬ y < 0 := by simpa using h1
  exact ⟨_, _, h2, fun t w => by simp [Go.binOp, Op.shift, h1], fun c s => Y2a c s k _, fun N => Y1w⟩
 | _ => simp [shiftOp] at h
theorem Yey {op : BinOp} {x y : ByteArray} {K : AV -> Option R} (h : strOp op x y K = some r) :
  ∃ av v, K av = some r /\ (∀ t w, (Go.binOp op t (.string x) (.string y)).run P w = .ok v w) /\ (∀ c s, ∃ cells, ValC c s av v cells) /\ (∀ N : Nat, (∀ q ∈ av.refs, q.1 < N) /\ (∀ q ∈ av.ptrs, q < N)) := by
 have fb : ∀ n, K (vBool n) = some r -> (∀ t w, (Go.binOp op t (.string x) (.string y)).run P w = .ok (.bool n) w) -> _ := fun n h1 h2 =>
  (⟨vBool n, .bool n, h1, h2, fun c s => Y42 c s n, fun N => Y43⟩ : ∃ av v, K av = some r /\ (∀ t w, (Go.binOp op t (.string x) (.string y)).run P w = .ok v w) /\ (∀ c s, ∃ cells, ValC c s av v cells) /\ (∀ N : Nat, (∀ q ∈ av.refs, q.1 < N) /\ (∀ q ∈ av.ptrs, q < N)))
 cases op with
 | add =>
  obtain ⟨h1, h2⟩ := Y1m h;have h1 : x.size + y.size <= 140737488355328 := by simpa using h1
  refine ⟨vStr (x ++ y), .string (x ++ y), h2, fun t w => ?_, fun c s => Y84 c s _, fun N => Y9b⟩;simp [Go.binOp, Op.stringOp];omega
 | eql => exact fb _ h (fun t w => by simp [Go.binOp, Op.stringOp])
 | neq => exact fb _ h (fun t w => by simp [Go.binOp, Op.stringOp])
 | lss => exact fb _ h (fun t w => by simp [Go.binOp, Op.stringOp])
 | geq => exact fb _ h (fun t w => by simp [Go.binOp, Op.stringOp])
 | _ => simp [strOp] at h
theorem Y8e (op : BinOp) (t : TypeId) (x y : Operand) (k k' : IntKind) (n m : Int) (w : World) : (eqGuard op t x y (.int k n) (.int k' m)).run P w = .ok () w := by
 unfold eqGuard; cases op <;> simp
theorem Ycw (op : BinOp) (t : TypeId) (x y : Operand) (n m : ByteArray) (w : World) : (eqGuard op t x y (.string n) (.string m)).run P w = .ok () w := by
 unfold eqGuard; cases op <;> simp
theorem Y78 (op : BinOp) (t : TypeId) (x y : Operand) (n m : Bool) (w : World) : (eqGuard op t x y (.bool n) (.bool m)).run P w = .ok () w := by
 unfold eqGuard; cases op <;> simp
def Leaf.cell (l : Leaf) : Value := match l with
 | ⟨.int k, a, _⟩ => .int k a
 | ⟨.bool, a, _⟩ => .bool a
 | ⟨.str, a, _⟩ => .string a
 | _ => undef
theorem Ydn (hT : TabOk P T) {op : BinOp} {t t' : TypeId} {x y : Operand} (hop : o.op = .binOp op t x y t') (hdst : o.dst = some d) (hr : RE c env a.tmps w) (hd : d < env.length)
  (hK : aggOp T op t (rd none env x) (rd none env y) (fun v => K (setD (some d) env v)) = some r) (hn : Next c a K r env.length next) : o.wp P a w next Q := by simp [aggOp] at hK
theorem Ydo (hT : TabOk P T) {op : BinOp} {t t' : TypeId} {x y : Operand} (hop : o.op = .binOp op t x y t') (hdst : o.dst = some d) (hr : RE c env a.tmps w) (hd : d < env.length)
  (hK : binOp1 T op t (rd none env x) (rd none env y) (fun v => K (setD (some d) env v)) = some r) (hn : Next c a K r env.length next) : o.wp P a w next Q := by
 unfold binOp1 at hK;split at hK
 ·rename_i k n k' m hx hy;split at hK
  ·rename_i hk;subst hk;obtain ⟨av, v, h1, _, h2, h3, h4⟩ := Yex (P := P) hK;refine finV hr hdst (v := v) ?_ hd (fun vs cs bs _ => h3 _ _) (h4 _) h1 hn;simp [execOp, hop, Y6, hr.int1 hx, hr.int1 hy, Y8e, h2]
  ·obtain ⟨av, v, h1, h2, h3, h4⟩ := Ydm (P := P) (k' := k') hK;refine finV hr hdst (v := v) ?_ hd (fun vs cs bs _ => h3 _ _) (h4 _) h1 hn;simp [execOp, hop, Y6, hr.int1 hx, hr.int1 hy, Y8e, h2]
 ·split at hK
  ·rename_i n m hx hy;obtain ⟨av, v, h1, h2, h3, h4⟩ := Yey (P := P) hK;refine finV hr hdst (v := v) ?_ hd (fun vs cs bs _ => h3 _ _) (h4 _) h1 hn;simp [execOp, hop, Y6, hr.str1 hx, hr.str1 hy, Ycw, h2]
  ·split at hK
   ·rename_i n m hx hy;split at hK
    ·rename_i ht;have hu : P.underlying t = some .bool := by
      obtain ⟨e, h1, h3⟩ := Tab.ty_te ht;obtain ⟨h2, rfl, hfn⟩ := Tab.te_mem h1;have := (hT e h2).desc hfn;rw [h3] at this;exact this
     have heq : (Op.equal t (.bool n) (.bool m)).run P w = .ok (n == m) w := by
      have : ∀ dd, (Op.equalIn (dd + 1) t (.bool n) (.bool m)).run P w = .ok (n == m) w := fun dd => by simp [Op.equalIn, run_underlying hu]
      exact this 9999
     cases op with
     | eql =>
      refine finV hr hdst (v := .bool (n == m)) ?_ hd (fun vs cs bs _ => Y42 _ _ _) Y43 hK hn;simp only [execOp, hop, Y6, hr.bool1 hx, hr.bool1 hy, X31, Y78, X2t, Go.binOp, heq, Sem.run_pure]
     | neq =>
      refine finV hr hdst (v := .bool (!(n == m))) ?_ hd (fun vs cs bs _ => Y42 _ _ _) Y43 hK hn;simp only [execOp, hop, Y6, hr.bool1 hx, hr.bool1 hy, X31, Y78, X2t, Go.binOp, heq, Sem.run_pure]
     | _ => simp at hK
    ·simp at hK
   ·exact Ydn hT hop hdst hr hd hK hn
theorem Yeo {op : UnOp} {t : TypeId} (hop : o.op = .unOp op t x) (hdst : o.dst = some d) (hr : RE c env a.tmps w) (hd : d < env.length)
  (hK : unOp1 op (rd none env x) (fun v => K (setD (some d) env v)) = some r) (hn : Next c a K r env.length next) : o.wp P a w next Q := by
 unfold unOp1 at hK;cases op with
 | not =>
  simp only at hK;split at hK
  ·rename_i b hb;exact finV hr hdst (v := .bool (!b)) (by simp [execOp, hop, Y6, hr.bool1 hb, Op.unary]) hd (fun vs cs bs _ => Y42 _ _ _) Y43 hK hn
  ·simp at hK
 | neg =>
  simp only at hK;split at hK
  ·rename_i k n hb;exact finV hr hdst (v := .int k (k.wrap (0 - n))) (by simp [execOp, hop, Y6, hr.int1 hb, Op.unary, Op.intArith]) hd (fun vs cs bs _ => Y2a _ _ _ _) Y1w hK hn
  ·simp at hK
 | _ => simp at hK
theorem Ybn (hT : TabOk P T) {s dt : TypeId} {k k' k2 : IntKind} {n : Int} (hop : o.op = .convert s dt x) (hdst : o.dst = some d) (hr : RE c env a.tmps w) (hd : d < env.length) (hs : T.ty s = some (.int k)) (ht : T.ty dt = some (.int k'))
  (hi : int1 (rd none env x) = some (k2, n)) (hK : K (setD (some d) env (vInt k' (k'.wrap n))) = some r) (hn : Next c a K r env.length next) : o.wp P a w next Q := by
 refine finV hr hdst (v := .int k' (k'.wrap n)) ?_ hd (fun vs cs bs _ => Y2a _ _ _ _) Y1w hK hn;simp [execOp, hop, Y6, hr.int1 hi, Go.convert, run_underlying (TabOk.int hT hs), run_underlying (TabOk.int hT ht), Conv.intToInt]
theorem Ydp (hT : TabOk P T) {t : TypeId} {x i : Operand} {s : ByteArray} {k : IntKind} {n : Int} (hop : o.op = .index t x i) (hdst : o.dst = some d) (hr : RE c env a.tmps w) (hd : d < env.length) (ht : T.ty t = some .str) (hs : str1 (rd none env x) = some s) (hi : int1 (rd none env i) = some (k, n))
  (hK : ((if 0 <= n then s[n.toNat]? else none).bind fun b => K (setD (some d) env (vInt .u8 b.toNat))) = some r) (hn : Next c a K r env.length next) : o.wp P a w next Q := by
 obtain ⟨b, hb, hK⟩ := Xr.1 hK;refine finV hr hdst (v := .int .u8 b.toNat) ?_ hd (fun vs cs bs _ => Y2a _ _ _ _) Y1w hK hn;simp [execOp, hop, Y6, hr.str1 hs, hr.int1 hi, Instr.index, asIntOf, run_underlying (TabOk.str hT ht), hb]
theorem Y8f {t : TypeId} {x y : Operand} {cl : Call} {mx : Bool} {k : IntKind} {n m : Int} (hop : o.op = .call cl) (hc : cl.callee = .builtin (if mx then .max else .min)) (hargs : cl.args.toList = [x, y]) (hdst : o.dst = some d) (hr : RE c env a.tmps w) (hd : d < env.length)
  (hx : int1 (rd none env x) = some (k, n)) (hy : int1 (rd none env y) = some (k, m)) (hK : K (setD (some d) env (vInt k (if mx then (if m > n then m else n) else (if m < n then m else n)))) = some r) (hn : Next c a K r env.length next) : o.wp P a w next Q := by
 have hargs' : cl.args = #[x, y] := by grind
 refine finV hr hdst (v := .int k (if mx then (if m > n then m else n) else (if m < n then m else n))) ?_ hd (fun vs cs bs _ => Y2a _ _ _ _) Y1w hK hn;cases mx with
 | true => simp [execOp, hop, resolve, hc, hargs', invoke, builtin, Builtin.max_, Builtin.max2, Y6, hr.int1 hx, hr.int1 hy]
 | false => simp [execOp, hop, resolve, hc, hargs', invoke, builtin, Builtin.min_, Builtin.min2, Y6, hr.int1 hx, hr.int1 hy]
theorem Ybo (hT : TabOk P T) {t : TypeId} {cl : Call} {s : ByteArray} (hop : o.op = .call cl) (hc : cl.callee = .builtin .len) (hargs : cl.args.toList = [x]) (htys : cl.argTypes.toList = [t]) (hdst : o.dst = some d) (hr : RE c env a.tmps w) (hd : d < env.length)
  (hx : str1 (rd none env x) = some s) (ht : T.ty t = some .str) (hK : K (setD (some d) env (vInt .i64 (s.size : Int))) = some r) (hn : Next c a K r env.length next) : o.wp P a w next Q := by
 have hargs' : cl.args = #[x] := by grind
 have htys' : cl.argTypes = #[t] := by grind
 refine finV hr hdst (v := .int .i64 (s.size : Int)) ?_ hd (fun vs cs bs _ => Y2a _ _ _ _) Y1w hK hn;simp [execOp, hop, resolve, hc, hargs', htys', invoke, builtin, Builtin.len_, Y6, hr.str1 hx, run_underlying (TabOk.str hT ht), goInt]
theorem RE.slice (hr : RE c env tmps w) {ty : Option Ty} {xs : List τ.D} (h : rd ty env x = .con .val [lf]) (ha : lf.as (.slice e τ) = some xs) (hl : lf.m.live = true) : ∃ A cp, evT tmps x = .slice A xs.length cp /\ xs.length <= cp := by
 obtain ⟨vs, h0⟩ := hr;obtain ⟨cs, bs, h1, _⟩ := h0.rel;obtain ⟨cells, hv⟩ := Yl h0.len h1 ty x;rw [h] at hv;obtain ⟨S, hS⟩ := Y2y hv hl;obtain ⟨t, y, m⟩ := lf;unfold Leaf.as at ha;split at ha
 ·rename_i ht;simp only at ht;subst ht;simp at ha;subst ha;obtain ⟨v, cs', b0, b1, e1, _, _, hrow⟩ := hS;obtain ⟨A, cp, e2, hl⟩ := hrow.slice;have : evT tmps x = v := by simpa using e1
  rw [this];exact ⟨A, cp, e2, hl⟩
 ·simp at ha
theorem Y9c (hT : TabOk P T) {t e : TypeId} {cl : Call} {lx : Leaf} {xs : List τ.D} (hop : o.op = .call cl) (hc : cl.callee = .builtin .len) (hargs : cl.args.toList = [x]) (htys : cl.argTypes.toList = [t]) (hdst : o.dst = some d) (hr : RE c env a.tmps w) (hd : d < env.length)
  (ht : T.ty t = some (.slice e τ)) (hx : rd (some (.slice e τ)) env x = .con .val [lx]) (ha : lx.as (.slice e τ) = some xs) (hl : lx.m.live = true) (hK : K (setD (some d) env (vInt .i64 (xs.length : Int))) = some r) (hn : Next c a K r env.length next) : o.wp P a w next Q := by
 have hargs' : cl.args = #[x] := by rw [<- X1c (xs := cl.args), hargs]
 have htys' : cl.argTypes = #[t] := by rw [<- X1c (xs := cl.argTypes), htys]
 obtain ⟨A, cp, e1, _⟩ := hr.slice hx ha hl;refine finV hr hdst (v := .int .i64 (xs.length : Int)) ?_ hd (fun vs cs bs _ => Y2a _ _ _ _) Y1w hK hn;simp [execOp, hop, resolve, hc, hargs', htys', invoke, builtin, Builtin.len_, Y6, e1, run_underlying (TabOk.slice hT ht), goInt]
theorem Y1e (b o n : Nat) : (⟨b, o, none⟩ : Addr).add n = ⟨b, o + n, none⟩ := by unfold Addr.add; split <;> simp_all
theorem Y6a (x : Addr) (n m : Nat) : (x.add n).add m = x.add (n + m) := by
 unfold Addr.add;by_cases h1 : n = 0 <;> by_cases h2 : m = 0 <;> simp_all;omega
theorem Y6k (hT : TabOk P T) {s : TypeId} {f off : Nat} (h : fieldAt T s f = some (off, τ)) (x : Addr) (w : World) : (Instr.fieldAt s (.pointer (some x)) f).run P w = .ok (.pointer (some (x.add off))) w := by
 obtain ⟨fs, fd, h1, h2, rfl, h4, h5⟩ := TabOk.field hT h;simp [Instr.fieldAt, run_underlying h1, h2, Instr.sureAddr, fieldPlace, TabOk.sizeOf hT h4, h5]
theorem Y4l (n : Nat) (ls : List Leaf) (l : Nat) : leafAt (dropLs n ls) l = leafAt ls (n + l) := by rw [Y1, Y1, Yo, X1l]
theorem Y4m {l : Nat} (h : leafAt (takeLs n ls) l = some lf) : leafAt ls l = some lf := by
 rw [Y1, Yn, X1j] at h;rw [Y1];split at h
 ·exact h
 ·simp at h
theorem Y5g (n : Nat) (ls : List Leaf) : ∀ q ∈ (dropLs n ls).flatMap Leaf.refs, q ∈ ls.flatMap Leaf.refs := by
 intro q hq;rw [Yo] at hq;simp at hq ⊢;obtain ⟨l, hl, hq⟩ := hq;exact ⟨l, X25 hl, hq⟩
theorem Y5h (n : Nat) (ls : List Leaf) : ∀ q ∈ (takeLs n ls).flatMap Leaf.refs, q ∈ ls.flatMap Leaf.refs := by
 intro q hq;rw [Yn] at hq;simp at hq ⊢;obtain ⟨l, hl, hq⟩ := hq;exact ⟨l, X26 hl, hq⟩
theorem Y6i (hT : TabOk P T) {s : TypeId} {f off r' o' : Nat} (hop : o.op = .fieldAddr s x f) (hdst : o.dst = some d) (hr : RE c env a.tmps w) (hd : d < env.length) (hf : fieldAt T s f = some (off, τ)) (hx : rd none env x = .path r' o')
  (hK : K (setD (some d) env (.path r' (o' + off))) = some r) (hn : Next c a K r env.length next) : o.wp P a w next Q := by
 obtain ⟨vs, h0⟩ := hr;have hr : RE c env a.tmps w := ⟨vs, h0⟩;obtain ⟨cs, bs, h1, _⟩ := h0.rel;obtain ⟨cells, hv⟩ := Yl h0.len h1 none x;rw [hx] at hv;obtain ⟨e, ls, B, g1, g2, g3⟩ := hv;refine finV hr hdst (v := .pointer (some ⟨B, o' + off, none⟩)) ?_ hd (fun vs cs bs hrel => ?_) ?_ hK hn
 ·have := Y6k hT hf ⟨B, o', none⟩ w;simp [execOp, hop, Y6, g3, this, Y1e]
 ·obtain ⟨cells, hv2⟩ := Yl h0.len hrel none x;rw [hx] at hv2;obtain ⟨e', ls', B', k1, k2, k3⟩ := hv2;rw [g3] at k3;have hB : B = B' := by simpa using k3
  subst hB;exact ⟨[], e', ls', B, k1, k2, rfl⟩
 ·have := hr.refs none x;rw [hx] at this;exact this
theorem Y3q (hT : TabOk P T) {s : TypeId} {f off : Nat} {wr : Option (Nat × Nat × List (Int × Nat) × Int × Nat)} (hop : o.op = .fieldAddr s x f) (hdst : o.dst = some d) (hr : RE c env a.tmps w) (hd : d < env.length) (hf : fieldAt T s f = some (off, τ)) (hx : rd none env x = .eptr ls wr)
  (hK : K (setD (some d) env (.eptr (dropLs off ls) (match wr with | some (r, j, p, i, q) => some (r, j, p, i, q + off) | none => none))) = some r) (hn : Next c a K r env.length next) : o.wp P a w next Q := by
 obtain ⟨vs, h0⟩ := hr;have hr : RE c env a.tmps w := ⟨vs, h0⟩;obtain ⟨cs, bs, h1, _⟩ := h0.rel;obtain ⟨cells, hv⟩ := Yl h0.len h1 none x;rw [hx] at hv;obtain ⟨x0, g1, _, _⟩ := hv;refine finV hr hdst (v := .pointer (some (x0.add off))) ?_ hd (fun vs cs bs hrel => ?_) ?_ hK hn
 ·have := Y6k hT hf x0 w;simp [execOp, hop, Y6, g1, this]
 ·obtain ⟨cells, hv2⟩ := Yl h0.len hrel none x;rw [hx] at hv2;obtain ⟨x1, k1, k2, k3⟩ := hv2;rw [g1] at k1;have hx1 : x0 = x1 := by simpa using k1
  subst hx1;refine ⟨[], x0.add off, rfl, fun l lf hl => ?_, ?_⟩
  ·rw [Y4l] at hl;obtain ⟨m1, u, m2, m3⟩ := k2 _ _ hl;exact ⟨m1, u, by rw [Y6a]; exact m2, m3⟩
  ·cases wr with
   | none => exact ⟨by rw [Addr.add_block]; exact k3.1, by rw [Addr.add_block]; exact k3.2⟩
   | some q =>
    obtain ⟨r', j, p, i, q⟩ := q;obtain ⟨m1, lf, u, m2, m3⟩ := k3;refine ⟨by rw [Addr.add_block]; exact m1, lf, u, m2, fun hp => ?_, fun i0 o0 z hp => ?_⟩
    ·obtain ⟨e, t, xs, m, B, n, cp, n1, n2, n3, n4, n5⟩ := m3.1 hp;exact ⟨e, t, xs, m, B, n, cp, n1, n2, n3, n4, by rw [n5, Y1e, X2a]⟩
    ·obtain ⟨e, t, xs, m, B, n, cp, A, n', cp', g1, g2, g3, g4, g5, g6, g7⟩ := m3.2 i0 o0 z hp;exact ⟨e, t, xs, m, B, n, cp, A, n', cp', g1, g2, g3, g4, g5, g6, by rw [g7, Addr.add_add, X2a]⟩
 ·have := hr.refs none x;rw [hx] at this;simp only [AV.refs, AV.ptrs] at this ⊢;refine ⟨fun q hq => ?_, by simp⟩;simp only [X5] at hq;rcases hq with hq | hq
  ·exact this.1 q (Xc _ (Y5g _ _ q hq))
  ·refine this.1 q (Xe _ ?_);cases wr with
   | none => simp at hq
   | some q' => obtain ⟨r', j, p, i, q'⟩ := q'; exact hq
theorem Y6u {r' o' : Nat} (hop : o.op = .nilCheck x) (hdst : o.dst = some d) (hr : RE c env a.tmps w) (hd : d < env.length) (hx : rd none env x = .path r' o') (hK : K (setD (some d) env (.path r' o')) = some r) (hn : Next c a K r env.length next) : o.wp P a w next Q := by
 obtain ⟨vs, h0⟩ := hr;have hr : RE c env a.tmps w := ⟨vs, h0⟩;obtain ⟨cs, bs, h1, _⟩ := h0.rel;obtain ⟨cells, hv⟩ := Yl h0.len h1 none x;rw [hx] at hv;obtain ⟨e, ls, B, g1, g2, g3⟩ := hv;refine finV hr hdst (v := evT a.tmps x) ?_ hd (hx ▸ hr.val none x) (hx ▸ hr.refs none x) hK hn;simp [execOp, hop, Y6, g3]
theorem Y79 {cs : List (Nat × Nat)} (hop : o.op = .nilCheck x) (hdst : o.dst = some d) (hr : RE c env a.tmps w) (hd : d < env.length) (hx : rd none env x = .clo f cs) (hK : K (setD (some d) env (.clo f cs)) = some r) (hn : Next c a K r env.length next) : o.wp P a w next Q := by
 obtain ⟨vs, h0⟩ := hr;have hr : RE c env a.tmps w := ⟨vs, h0⟩;obtain ⟨cs', bs, h1, _⟩ := h0.rel;obtain ⟨cells, hv⟩ := Yl h0.len h1 none x;rw [hx] at hv;obtain ⟨vs', g1, g2⟩ := hv;refine finV hr hdst (v := evT a.tmps x) ?_ hd (hx ▸ hr.val none x) (hx ▸ hr.refs none x) hK hn;simp [execOp, hop, Y6, g1]
theorem Y6v (hop : o.op = .nilCheck x) (hdst : o.dst = some d) (hr : RE c env a.tmps w) (hd : d < env.length) (hx : rd none env x = .cloR f xs) (hK : K (setD (some d) env (.cloR f xs)) = some r) (hn : Next c a K r env.length next) : o.wp P a w next Q := by
 obtain ⟨vs, h0⟩ := hr;have hr : RE c env a.tmps w := ⟨vs, h0⟩;obtain ⟨cs', bs, h1, _⟩ := h0.rel;obtain ⟨cells, hv⟩ := Yl h0.len h1 none x;rw [hx] at hv;obtain ⟨vs', g1, g2⟩ := hv;refine finV hr hdst (v := evT a.tmps x) ?_ hd (hx ▸ hr.val none x) (hx ▸ hr.refs none x) hK hn;simp [execOp, hop, Y6, g1]
theorem Y6w {wr : Option (Nat × Nat × List (Int × Nat) × Int × Nat)} (hop : o.op = .nilCheck x) (hdst : o.dst = some d) (hr : RE c env a.tmps w) (hd : d < env.length) (hx : rd none env x = .eptr ls wr) (hK : K (setD (some d) env (.eptr ls wr)) = some r) (hn : Next c a K r env.length next) : o.wp P a w next Q := by
 obtain ⟨vs, h0⟩ := hr;have hr : RE c env a.tmps w := ⟨vs, h0⟩;obtain ⟨cs', bs, h1, _⟩ := h0.rel;obtain ⟨cells, hv⟩ := Yl h0.len h1 none x;rw [hx] at hv;obtain ⟨a', g1, g2⟩ := hv;refine finV hr hdst (v := evT a.tmps x) ?_ hd (hx ▸ hr.val none x) (hx ▸ hr.refs none x) hK hn;simp [execOp, hop, Y6, g1]
end
theorem Y1u : ∀ (t : Ty) {cs : List Value} {x : t.D} (md : Nat -> Mode) (n : Nat), Rep S w t .ro cs x [] ->
  (leaves t x md n).length = cs.length /\ ∀ (l : Nat) (lf : Leaf) (u : Value), (leaves t x md n)[l]? = some lf -> cs[l]? = some u -> Rep S w lf.t .ro [u] lf.x [] /\ ((lf.m = .at_ .ro /\ lf.t.flatB = true) \/ lf.m = md (n + l))
 | .int k, cs, x, md, n, h => by
  obtain ⟨rfl, _⟩ := h;refine ⟨rfl, fun l lf u hl hu => ?_⟩;cases l with
  | zero => simp only [leaves, Xg, X0] at hl hu; subst hl; subst hu; exact ⟨⟨rfl, rfl⟩, .inl ⟨rfl, rfl⟩⟩
  | succ l => simp [leaves] at hl
 | .bool, cs, x, md, n, h => by
  obtain ⟨rfl, _⟩ := h;refine ⟨rfl, fun l lf u hl hu => ?_⟩;cases l with
  | zero => simp only [leaves, Xg, X0] at hl hu; subst hl; subst hu; exact ⟨⟨rfl, rfl⟩, .inl ⟨rfl, rfl⟩⟩
  | succ l => simp [leaves] at hl
 | .str, cs, x, md, n, h => by
  obtain ⟨rfl, _⟩ := h;refine ⟨rfl, fun l lf u hl hu => ?_⟩;cases l with
  | zero => simp only [leaves, Xg, X0] at hl hu; subst hl; subst hu; exact ⟨⟨rfl, rfl⟩, .inl ⟨rfl, rfl⟩⟩
  | succ l => simp [leaves] at hl
 | .slice e t, cs, x, md, n, h => by
  have h0 := h;obtain ⟨v, xs, b0, b1, rfl, _⟩ := h;refine ⟨rfl, fun l lf u hl hu => ?_⟩;cases l with
  | zero => simp only [leaves, Xg, X0] at hl hu; subst hl; subst hu; exact ⟨h0, .inr rfl⟩
  | succ l => simp [leaves] at hl
 | .unit, cs, x, md, n, h => by
  obtain ⟨rfl, _⟩ := h;exact ⟨rfl, fun l lf u hl hu => by grind⟩
 | .pair a b, cs, x, md, n, h => by
  obtain ⟨c1, c2, b1, b2, rfl, hb, h1, h2⟩ := h;obtain ⟨rfl, rfl⟩ := X21.1 hb.symm;obtain ⟨l1, k1⟩ := Y1u a md n h1;obtain ⟨l2, k2⟩ := Y1u b md (n + a.sz) h2;have hsz : c1.length = a.sz := Rep.len h1;refine ⟨by simp [leaves, l1, l2], fun l lf u hl hu => ?_⟩;simp [leaves] at hl;by_cases hlt : l < c1.length
  ·grind
  ·grind
theorem Y11 : ∀ (t : Ty) (x : t.D) (md : Nat -> Mode) (n : Nat), (leaves t x md n).map Leaf.t = flat t
 | .int k, x, md, n => rfl
 | .bool, x, md, n => rfl
 | .str, x, md, n => rfl
 | .slice e t, x, md, n => rfl
 | .unit, x, md, n => rfl
 | .pair a b, x, md, n => by simp only [leaves, List.map_append, Y11 a, Y11 b]; rfl
theorem Y3i (lv : Lvl) : ∀ (t : Ty) {cs : List Value} {x : t.D} {bs : List Nat} (n : Nat), Rep S w t lv cs x bs ->
  (leaves t x (fun _ => .at_ lv) n).length = cs.length /\ (∀ lf ∈ leaves t x (fun _ => .at_ lv) n, lf.m.settled = true) /\ ∃ bds : List (List Nat), bds.length = cs.length /\ bs = bds.flatten /\
   ∀ (l : Nat) (lf : Leaf) (u : Value), (leaves t x (fun _ => .at_ lv) n)[l]? = some lf -> cs[l]? = some u -> ∃ m, lf.m = .at_ m /\ Rep S w lf.t m [u] lf.x (bds.getD l [])
 | .int k, cs, x, bs, n, h => by
  obtain ⟨rfl, rfl⟩ := h;refine ⟨rfl, by simp [leaves, Mode.settled], [[]], rfl, rfl, fun l lf u hl hu => ?_⟩;cases l with
  | zero => simp only [leaves, Xg, X0] at hl hu; subst hl; subst hu; exact ⟨.ro, rfl, rfl, rfl⟩
  | succ l => simp [leaves] at hl
 | .bool, cs, x, bs, n, h => by
  obtain ⟨rfl, rfl⟩ := h;refine ⟨rfl, by simp [leaves, Mode.settled], [[]], rfl, rfl, fun l lf u hl hu => ?_⟩;cases l with
  | zero => simp only [leaves, Xg, X0] at hl hu; subst hl; subst hu; exact ⟨.ro, rfl, rfl, rfl⟩
  | succ l => simp [leaves] at hl
 | .str, cs, x, bs, n, h => by
  obtain ⟨rfl, rfl⟩ := h;refine ⟨rfl, by simp [leaves, Mode.settled], [[]], rfl, rfl, fun l lf u hl hu => ?_⟩;cases l with
  | zero => simp only [leaves, Xg, X0] at hl hu; subst hl; subst hu; exact ⟨.ro, rfl, rfl, rfl⟩
  | succ l => simp [leaves] at hl
 | .slice e t, cs, x, bs, n, h => by
  have h0 := h;obtain ⟨v, xs, b0, b1, rfl, _⟩ := h;refine ⟨rfl, by simp [leaves, Mode.settled], [bs], rfl, by simp, fun l lf u hl hu => ?_⟩;cases l with
  | zero => simp only [leaves, Xg, X0] at hl hu; subst hl; subst hu; exact ⟨lv, rfl, h0⟩
  | succ l => simp [leaves] at hl
 | .unit, cs, x, bs, n, h => by
  obtain ⟨rfl, rfl⟩ := h;exact ⟨rfl, by simp [leaves], [], rfl, rfl, fun l lf u hl hu => by grind⟩
 | .pair a b, cs, x, bs, n, h => by
  obtain ⟨c1, c2, b1, b2, rfl, rfl, h1, h2⟩ := h;obtain ⟨l1, s1, d1, e1, f1, k1⟩ := Y3i lv a n h1;obtain ⟨l2, s2, d2, e2, f2, k2⟩ := Y3i lv b (n + a.sz) h2;refine ⟨by simp [leaves, l1, l2], fun lf hm => ?_, d1 ++ d2, by simp [e1, e2], by rw [f1, f2, List.flatten_append], fun l lf u hl hu => ?_⟩
  ·simp only [leaves] at hm;exact (X5.1 hm).elim (s1 lf) (s2 lf)
  ·simp [leaves] at hl;by_cases hlt : l < c1.length
   ·grind
   ·grind
theorem Y21 {lv : Lvl} : ∀ (t : Ty) (x : t.D) (n : Nat), ∀ lf ∈ leaves t x (fun _ => .at_ lv) n, lf.m = .at_ .ro \/ lf.m = .at_ lv
 | .int k, x, n, lf, h => by simp [leaves] at h; rw [h]; exact .inl rfl
 | .bool, x, n, lf, h => by simp [leaves] at h; rw [h]; exact .inl rfl
 | .str, x, n, lf, h => by simp [leaves] at h; rw [h]; exact .inl rfl
 | .slice e t, x, n, lf, h => by simp [leaves] at h; rw [h]; exact .inr rfl
 | .unit, x, n, lf, h => by simp [leaves] at h
 | .pair a b, x, n, lf, h => by
  simp [leaves] at h;rcases h with h | h
  ·exact Y21 a _ _ _ h
  ·exact Y21 b _ _ _ h
theorem Y9d {lv m : Lvl} {M : Mode} (hM : M = .at_ m) (h : M = .at_ .ro \/ M = .at_ lv) (hlv : lv.pinOk c u) : m.pinOk c u := by
 rcases h with h | h
 ·rw [h] at hM; cases hM; trivial
 ·grind
section
variable {P : Program} {o : Oper} {a : Act} {w : World} {R : Type} {K : Env -> Option R} {r : R} {next : Act -> World -> Prop} {Q : Exit -> Act -> World -> Prop} {c : Cx} {d : Nat} {T : Tab} {env : Env}
theorem Leaf.as_eq {x : t.D} (h : lf.as t = some x) : lf = ⟨t, x, lf.m⟩ := by
 obtain ⟨t', y, m⟩ := lf;unfold Leaf.as at h;split at h
 ·grind
 ·simp at h
theorem Y9e {xs : List τ.D} (h : Rep S w (.slice e τ) .ro [v] xs []) {i : Nat} (hi : i < xs.length) (hsz : 0 < τ.sz) :
  ∃ A c ch, v = .slice (some A) xs.length c /\ ch.length = τ.sz /\ S A.block /\ A.block < w.heap.size /\ (∀ (l : Nat) (u : Value), ch[l]? = some u -> w.cell? ((A.add (i * τ.sz)).add l) = some u) /\ Rep S w τ .ro ch (xs.getD i τ.dflt) [] := by
 obtain ⟨v', cs, b0, b1, e1, e2, hel, hrow⟩ := h;have e1 : v = v' := by simpa using e1
 subst e1;obtain ⟨rfl, rfl⟩ := X21.1 e2.symm;obtain ⟨_, A, cp, e3, hl, hz, hc⟩ := hrow;obtain ⟨pre, ch, post, b0, b, b1, f1, f2, f3, f4, f5, _⟩ := hel.at_ i hi;have hcell : ∀ (l : Nat) (u : Value), ch[l]? = some u -> ∃ a, A = some a /\ S a.block /\ w.cell? (a.add (i * τ.sz + l)) = some u := by
  intro l u hu;have hlt := (X6.1 hu).1;refine hc _ u ?_;rw [f1, X7, Xd (by omega), Xp (by omega), f2, show i * τ.sz + l - i * τ.sz = l by omega];exact hu
 obtain ⟨A0, rfl, hS, hc0⟩ := hcell 0 ch[0] (X1 (by omega));have hlt := X2r w _ hc0;rw [Addr.add_block] at hlt;refine ⟨A0, cp, ch, e3, f3, hS, hlt, fun l u hu => ?_, ?_⟩
 ·obtain ⟨a', ea, _, h3⟩ := hcell l u hu;cases ea;rw [Y6a];exact h3
 ·have : xs.getD i τ.dflt = xs[i] := by rw [Xh, X1 hi]; rfl
  rw [this];have := Rep.ro_bs f5;subst this;exact f5
theorem Y8v {m : Mode} {i : Int} {l : Nat} : ∀ q : Nat × Nat, (∃ p, elemMode m i l = .bor q.1 q.2 p) -> ∃ p, m = .bor q.1 q.2 p := by
 rintro q ⟨p, hp⟩
 unfold elemMode at hp;split at hp
 ·grind
 ·simp at hp
theorem Y4n : ∀ (t : Ty) (x : t.D) (md : Nat -> Mode) (n : Nat), ∀ q ∈ (leaves t x md n).flatMap Leaf.refs, ∃ l p, md l = .bor q.1 q.2 p
 | .int k, x, md, n, q, hq => by simp [leaves, Leaf.refs] at hq
 | .bool, x, md, n, q, hq => by simp [leaves, Leaf.refs] at hq
 | .str, x, md, n, q, hq => by simp [leaves, Leaf.refs] at hq
 | .slice e t, x, md, n, q, hq => by
  simp [leaves, Leaf.refs] at hq;split at hq
  ·grind
  ·simp at hq
 | .unit, x, md, n, q, hq => by simp [leaves] at hq
 | .pair a b, x, md, n, q, hq => by
  simp only [leaves, List.flatMap_append, X5] at hq;rcases hq with hq | hq
  ·exact Y4n a x.1 md n q hq
  ·exact Y4n b x.2 md _ q hq
theorem Y9f (hT : TabOk P T) {t : TypeId} {x i : Operand} {lx : Leaf} {n : Int} {xs : List te.ty.D} (hop : o.op = .indexAddr t x i) (hdst : o.dst = some d) (hr : RE c env a.tmps w) (hd : d < env.length) (ht : elemAt T t = some te)
  (hx : rd (some (.slice te.id te.ty)) env x = .con .val [lx]) (hi : int1 (rd none env i) = some (.i64, n)) (ha : lx.as (.slice te.id te.ty) = some xs) (hl : lx.m.live = true) (h0 : 0 <= n) (h1 : n < (xs.length : Int))
  (hK : K (setD (some d) env (.eptr (leaves te.ty (xs.getD n.toNat te.ty.dflt) (elemMode lx.m n) 0) (match lx.m with | .bor r j p => some (r, j, nestP te.ty.sz p, n, 0) | _ => none))) = some r) (hn : Next c a K r env.length next) : o.wp P a w next Q := by
 obtain ⟨hty, hund, _, hsz, hby, i0, hi0, hi1, _⟩ := TabOk.elem hT ht;obtain ⟨k, rfl⟩ : ∃ k : Nat, n = k := ⟨n.toNat, by omega⟩;have hk : k < xs.length := by omega
 simp only [Int.toNat_natCast] at hK;have hlx := Leaf.as_eq ha
 -- the value, in any state of this kind
 have main : ∀ vs cs bs, Rel c (SS env noP a.tmps vs w cs bs) -> ∃ A cp, evT a.tmps x = .slice (some A) xs.length cp /\
   ∃ cells, ValC c (SS env noP a.tmps vs w cs bs) (.eptr (leaves te.ty (xs.getD k te.ty.dflt) (elemMode lx.m k) 0) (match lx.m with | .bor r j p => some (r, j, nestP te.ty.sz p, (k : Int), 0) | _ => none)) (.pointer (some (A.add (k * te.ty.sz)))) cells := by
  intro vs cs bs hrel;obtain ⟨cells, hv⟩ := hr.val (some (.slice te.id te.ty)) x vs cs bs hrel;rw [hx, hlx] at hv;obtain ⟨⟨rfl, _⟩, _, hv3⟩ := hv;have hlv := hv3 0 _ _ rfl rfl;generalize hm : lx.m = m at hlv hl;cases m with
  | dead => simp [Mode.live] at hl
  | at_ lv =>
   obtain ⟨A, cp, ch, e1, e2, e3, e4, e5, e6⟩ := Y9e (Rep.move (S' := RoS c (SS env noP a.tmps vs w cs bs)) (fun b hb _ => ⟨by simpa using hb, rfl⟩) (by simp) (Rep.ro hlv.1)) hk hsz;obtain ⟨f1, f2⟩ := Y1u te.ty (x := xs.getD k te.ty.dflt) (elemMode (.at_ lv) k) 0 e6;refine ⟨A, cp, e1, [], _, rfl, fun l lf hlf => ?_, by rw [Addr.add_block]; exact e3, by rw [Addr.add_block]; exact e4⟩;rw [Y1] at hlf;have hlt := (X6.1 hlf).1;have hu := X1 (l := ch) (i := l) (by omega);obtain ⟨g1, g2⟩ := f2 l lf _ hlf hu;have hm' : lf.m = .at_ .ro := g2.elim (·.1) (fun h => by rw [h]; rfl);refine ⟨by rw [hm']; rfl, _, e5 l _ hu, ?_⟩;obtain ⟨t, y, m⟩ := lf;simp only at hm';subst hm';exact g1
  | bor r' j p =>
   obtain ⟨hrep, ⟨lf', u', ho, hp⟩, hb3⟩ := hlv;obtain ⟨A, cp, ch, e1, e2, e3, e4, e5, e6⟩ := Y9e hrep hk hsz;obtain ⟨f1, f2⟩ := Y1u te.ty (x := xs.getD k te.ty.dflt) (elemMode (.bor r' j p) k) 0 e6;have spot : p = [] -> ∃ e t xs' m B n cp, lf' = ⟨.slice e t, xs', m⟩ /\ u' = .slice (some ⟨B, 0, none⟩) n cp /\ 0 <= (k : Int) /\ (k : Int).toNat < xs'.length /\ ∀ l, (A.add (k * te.ty.sz)).add l = ⟨B, (k : Int).toNat * t.sz + l, none⟩ := fun hp0 => by
    obtain ⟨m, rfl, rfl⟩ := hp hp0
    -- the row of the place itself
    have hrow : ∃ B cp', evT a.tmps x = .slice (some ⟨B, 0, none⟩) xs.length cp' := by
     have hlr := (hrel.av r');obtain ⟨g1, g2, g3⟩ := ho;cases hev : (SS env noP a.tmps vs w cs bs).env r' with
     | con kk ls =>
      rw [hev] at hlr g1;have h4 := hlr.2.2.2 j _ _ g1 g3;cases m with
      | bor _ _ _ => simp [Mode.own] at g2
      | dead => simp [Mode.own] at g2
      | at_ lv =>
       have hrp := h4.rep;obtain ⟨v', cs', b0, b1, q1, _, _, q2⟩ := hrp;have q1 : evT a.tmps x = v' := by simpa using q1
       rw [q1];have own : (SS env noP a.tmps vs w cs bs).w.ownsRow 0 te.id te.ty.sz v' xs.length cs' := by
        cases lv with
        | ro => simp [Mode.own] at g2
        | sh => exact q2.2
        | dp => exact q2.2
        | pn _ => exact q2.2
       rcases own.2 with ⟨_, h0⟩ | ⟨g, cap, cur, q3, _⟩
       ·omega
       ·exact ⟨g, cap, q3⟩
     | _ => rw [hev] at g1; simp [AV.leaf?] at g1
    obtain ⟨B, cp', q⟩ := hrow;have hA : A = ⟨B, 0, none⟩ := by rw [q] at e1; simp at e1; exact e1.1.symm
    exact ⟨te.id, te.ty, xs, m, B, xs.length, cp', rfl, q, by omega, by simpa using hk, fun l => by rw [hA, Y1e, Y1e]; simp⟩
   refine ⟨A, cp, e1, [], _, rfl, fun l lf hlf => ?_, ⟨by rw [Addr.add_block]; exact e3, by rw [Addr.add_block]; exact e4⟩, lf', u', ho, fun hp0 => ?_, fun i0 o0 z hp0 => ?_⟩
   ·rw [Y1] at hlf;have hlt := (X6.1 hlf).1;have hu := X1 (l := ch) (i := l) (by omega);obtain ⟨g1, g2⟩ := f2 l lf _ hlf hu;obtain ⟨t, y, m⟩ := lf;rcases g2 with ⟨hm', hf⟩ | hm'
    ·simp only at hm' hf g1;subst hm';exact ⟨rfl, _, e5 l _ hu, (Rep.flat hf g1).2⟩
    ·simp only [elemMode, X13] at hm' g1;subst hm';refine ⟨rfl, _, e5 l _ hu, g1, ⟨lf', u', ho, fun h => by simp at h⟩, fun i o hpo => ?_⟩;have hpo : p ++ [((k : Int), l)] = [(i, o)] := hpo;cases p with
     | cons p0 p => simp at hpo
     | nil =>
      simp only [X2l, X2o, X11, and_true] at hpo;obtain ⟨rfl, rfl⟩ := hpo;obtain ⟨e, t', xs', m, B, n, cp', s1, s2, s3, s4, s5⟩ := spot rfl;exact ⟨_, ⟨⟨by rw [Addr.add_block, Addr.add_block]; exact e3, by rw [Addr.add_block, Addr.add_block]; exact e4⟩, lf', u', ho, (fun _ => ⟨e, t', xs', m, B, n, cp', s1, s2, s3, s4, s5 l⟩), fun _ _ _ e => by cases e⟩, e5 l _ hu⟩
   ·have hp0 : p = [] := by
     cases p with
     | nil => rfl
     | cons q p => cases p <;> simp [nestP] at hp0
    obtain ⟨e, t', xs', m, B, n, cp', s1, s2, s3, s4, s5⟩ := spot hp0;refine ⟨e, t', xs', m, B, n, cp', s1, s2, s3, s4, ?_⟩;have := s5 0
    rwa [Y6a, X2f] at this
   ·have hp0 : p = [(i0, o0)] /\ z = te.ty.sz := by
     cases p with
     | nil => simp [nestP] at hp0
     | cons q p =>
      cases p with
      | nil =>
       simp only [nestP, X2o, X11, true_and, and_true] at hp0;exact ⟨by rw [hp0.1], hp0.2.symm⟩
      | cons q2 p => simp [nestP] at hp0
    obtain ⟨a0, ⟨⟨w1, w2⟩, lf2, u2, w3, w4⟩, w5⟩ := hb3 i0 o0 hp0.1;obtain rfl : lf' = lf2 := Xs (ho.1.symm.trans w3.1);obtain rfl : u' = u2 := Xs (ho.2.2.symm.trans w3.2.2);obtain ⟨e, t', xs', m, B, n, cp', s1, s2, s3, s4, s5⟩ := w4.1 rfl;subst s5;exact ⟨e, t', xs', m, B, n, cp', A, xs.length, cp, s1, s2, ⟨s3, s4⟩, ⟨w1, w2⟩, by rw [<- e1]; exact w5, ⟨by omega, by simpa using hk⟩, by rw [hp0.2, Int.toNat_natCast, X2f]⟩
 obtain ⟨vs, h0'⟩ := hr;have hr : RE c env a.tmps w := ⟨vs, h0'⟩;obtain ⟨cs, bs, hrel, _⟩ := h0'.rel;obtain ⟨A, cp, e1, _⟩ := main vs cs bs hrel;refine finV hr hdst (v := .pointer (some (A.add (k * te.ty.sz)))) ?_ hd (fun vs cs bs hrel => ?_) ?_ hK hn
 ·have hsize : (Go.sizeOf te.id).run P w = .ok te.ty.sz w := by simp [Go.sizeOf, typeInfo, hi0, hi1]
  simp [execOp, hop, Y6, e1, hr.int1 hi, Instr.indexAt, asIntOf, run_underlying hund, hsize, hk]
 ·obtain ⟨A', cp', e1', h⟩ := main vs cs bs hrel;rw [e1] at e1';have : A = A' := by simp at e1'; exact e1'.1
  subst this;exact h
 ·have hrf := hr.refs (some (.slice te.id te.ty)) x;rw [hx] at hrf;have hbor : ∀ q : Nat × Nat, (∃ p, lx.m = .bor q.1 q.2 p) -> q.1 < env.length := by
   rintro q ⟨p, hp⟩
   exact hrf.1 q (by simp only [AV.refs, X1t, List.flatMap_nil, Xf, Leaf.refs, hp, Xb])
  refine ⟨fun q hq => ?_, by simp [AV.ptrs]⟩;simp only [AV.refs, X5] at hq;rcases hq with hq | hq
  ·obtain ⟨l, p, hp⟩ := Y4n _ _ _ _ q hq;exact hbor q (Y8v q ⟨p, hp⟩)
  ·cases hm : lx.m with
   | bor r' j p =>
    rw [hm] at hq;simp only [Xb] at hq;rw [hq];exact hbor (r', j) ⟨p, hm⟩
   | at_ lv => rw [hm] at hq; simp at hq
   | dead => rw [hm] at hq; simp at hq
end
def mkV (agg : Bool) (ch : List Value) : Value := if agg then .agg ch.toArray else ch.headD undef
theorem Y22 : ∀ t : Ty, (flat t).length = t.sz
 | .int _ => rfl
 | .bool => rfl
 | .str => rfl
 | .slice _ _ => rfl
 | .unit => rfl
 | .pair a b => by simp [flat, Ty.sz, Y22 a, Y22 b]
theorem Y3j (h : t.isAgg = false) : t.sz = 1 := by cases t <;> first | rfl | simp [Ty.isAgg] at h
theorem Y1b (h : typedAs ls t = true) : ls.length = t.sz := by
 have : ls.map Leaf.t = flat t := by simpa [typedAs] using h
 rw [<- Y22, <- this, X2m]
theorem Y2b {agg : Bool} {ch : List Value} (h : agg = false -> ch.length = 1) : KCells c w [] (if agg then .agg else .val) (mkV agg ch) ch := by
 cases agg with
 | true => exact ⟨rfl, rfl⟩
 | false =>
  obtain ⟨u, rfl⟩ := X1u.1 (h rfl);exact ⟨rfl, rfl⟩
section
variable {P : Program} {o : Oper} {a : Act} {w : World} {R : Type} {K : Env -> Option R} {r : R} {next : Act -> World -> Prop} {Q : Exit -> Act -> World -> Prop} {c : Cx} {d : Nat} {T : Tab} {env : Env}
theorem Y51 (hT : TabOk P T) {t : TypeId} (ht : T.ty t = some τ) {x : Addr} {ch : List Value} (hl : ch.length = τ.sz) (hc : ∀ (j : Nat) (u : Value), ch[j]? = some u -> w.cell? (x.add j) = some u) : (Instr.loadAt t (.pointer (some x))).run P w = .ok (mkV τ.isAgg ch) w := by
 unfold Instr.loadAt loadVar;cases hag : τ.isAgg with
 | true =>
  have := run_loadCells_list (P := P) (w := w) x ch hc;simp [Instr.sureAddr, TabOk.agg hT ht, TabOk.sizeOf hT ht, hag, <- hl, this, mkV]
 | false =>
  have h1 := Y3j hag;obtain ⟨u, rfl⟩ := X1u.1 (hl.trans h1);have := hc 0 u rfl;simp [Instr.sureAddr, TabOk.agg hT ht, hag, load, Sem.run, mkV];rw [show x.add 0 = x from rfl] at this;rw [this]
theorem Y9g (hT : TabOk P T) {t : TypeId} {r' off : Nat} {e : BoxK} (hop : o.op = .load t x) (hdst : o.dst = some d) (hr : RE c env a.tmps w) (hd : d < env.length) (ht : T.ty t = some τ) (hx : rd none env x = .path r' off) (hb : get env r' = .con (.box e) ls)
  (hty : typedAs (takeLs τ.sz (dropLs off ls)) τ = true) (hK : K (setD (some d) env (mkCon τ.isAgg (borrowFrom r' off (takeLs τ.sz (dropLs off ls))))) = some r) (hn : Next c a K r env.length next) : o.wp P a w next Q := by
 have hlen := Y1b hty;have hrl : r' < env.length := Yw hb;have main : ∀ vs cs bs, Rel c (SS env noP a.tmps vs w cs bs) -> ∃ B ch, evT a.tmps x = .pointer (some ⟨B, off, none⟩) /\ ch.length = τ.sz /\ (∀ (j : Nat) (u : Value), ch[j]? = some u -> w.cell? ((⟨B, off, none⟩ : Addr).add j) = some u) /\
   ValC c (SS env noP a.tmps vs w cs bs) (mkCon τ.isAgg (borrowFrom r' off (takeLs τ.sz (dropLs off ls)))) (mkV τ.isAgg ch) ch := by
  intro vs cs bs hrel;obtain ⟨cells, hv⟩ := hr.val none x vs cs bs hrel;rw [hx] at hv;obtain ⟨e', ls', B, g1, g2, g3⟩ := hv;have hbE : (SS env noP a.tmps vs w cs bs).env r' = .con (.box e) ls := by show ovl env noP r' = _; rw [Y8 hrl]; exact hb
  have hav := hrel.av r';rw [hbE] at hav;obtain ⟨⟨B', k1, k2, k3⟩, h2, h3, h4⟩ := hav;rw [g2] at k1;have : B = B' := by simpa using k1
  subst this;have hll : (takeLs τ.sz (dropLs off ls)).length = (((cs r').drop off).take τ.sz).length := by
   rw [Yn, Yo, Xm, X12, Xm, X12, h2]
  refine ⟨B, ((cs r').drop off).take τ.sz, g3, by rw [<- hll]; exact hlen, fun j u hu => ?_, ?_, by rw [Y2e]; exact hll, fun l lf u hl hu => ?_⟩
  ·have hj : j < τ.sz := by have := (X6.1 hu).1; simp at this; omega
   rw [X1j, X4 hj, X1l] at hu;rw [Y1e];unfold World.cell?;rw [k2];simpa using hu
  ·exact Y2b (fun h => by rw [<- hll, hlen]; exact Y3j h)
  ·rw [Y1, Y1q] at hl;obtain ⟨lf0, hl0, rfl⟩ := Xu.1 hl;have hj : l < τ.sz := by grind
   rw [Yn, Yo, X1j, X4 hj, X1l] at hl0;rw [X1j, X4 hj, X1l] at hu;have := Y6j hbE hl0 hu (h4 _ _ _ (by rw [Y1]; exact hl0) hu);exact LeafV.of_held this.1 this.2
 obtain ⟨vs, h0⟩ := hr;have hr : RE c env a.tmps w := ⟨vs, h0⟩;obtain ⟨cs, bs, hrel, hno⟩ := h0.rel;obtain ⟨B, ch, e1, e2, e3, e4⟩ := main vs cs bs hrel;refine finV hr hdst (v := mkV τ.isAgg ch) ?_ hd (fun vs cs bs hrel => ?_) ?_ hK hn
 ·simp [execOp, hop, Y6, e1, Y51 hT ht e2 e3]
 ·obtain ⟨B', ch', f1, f2, f3, f4⟩ := main vs cs bs hrel;rw [e1] at f1;have : B = B' := by simpa using f1
  subst this;have : ch = ch' := by
   apply X24;intro j;by_cases hj : j < τ.sz
   ·grind
   ·grind
  subst this;exact ⟨ch, f4⟩
 ·refine ⟨fun q hq => ?_, by simp [mkCon, AV.ptrs]⟩;simp only [mkCon, AV.refs, Xj] at hq;obtain ⟨lf, hm, hq⟩ := hq;obtain ⟨l, hl⟩ := Xw hm;rw [Y1q] at hl;obtain ⟨lf0, hl0, rfl⟩ := Xu.1 hl;split at hq
  ·simp [Leaf.refs] at hq;rw [hq]; exact hrl
  ·have := (hno r').1 q;rw [Y8 hrl, hb] at this;refine this ?_;simp only [AV.refs, Xj];rw [Yn, Yo] at hl0;exact ⟨lf0, X25 (X26 (X8 hl0)), hq⟩
theorem Y9h (hT : TabOk P T) {t : TypeId} {wr : Option (Nat × Nat × List (Int × Nat) × Int × Nat)} (hop : o.op = .load t x) (hdst : o.dst = some d) (hr : RE c env a.tmps w) (hd : d < env.length) (ht : T.ty t = some τ) (hx : rd none env x = .eptr ls wr)
  (hty : typedAs (takeLs τ.sz ls) τ = true) (hK : K (setD (some d) env (mkCon τ.isAgg (takeLs τ.sz ls))) = some r) (hn : Next c a K r env.length next) : o.wp P a w next Q := by
 have hlen := Y1b hty;have main : ∀ vs cs bs, Rel c (SS env noP a.tmps vs w cs bs) -> ∃ x0, evT a.tmps x = .pointer (some x0) /\ ∀ l lf, leafAt ls l = some lf -> lf.m.own = false /\ ∃ u, w.cell? (x0.add l) = some u /\ Held c (SS env noP a.tmps vs w cs bs) u lf := by
  intro vs cs bs hrel;obtain ⟨cells, hv⟩ := hr.val none x vs cs bs hrel;rw [hx] at hv;obtain ⟨x0, g1, g2, g3⟩ := hv;exact ⟨x0, g1, g2⟩
 obtain ⟨vs, h0⟩ := hr;have hr : RE c env a.tmps w := ⟨vs, h0⟩;obtain ⟨cs, bs, hrel, hno⟩ := h0.rel;obtain ⟨x0, e1, e2⟩ := main vs cs bs hrel;have hll : τ.sz <= ls.length := by rw [Yn, Xm] at hlen; omega
 let ch := (List.range τ.sz).map fun l => (w.cell? (x0.add l)).getD undef
 have hch : ∀ l < τ.sz, ∃ u, ch[l]? = some u /\ w.cell? (x0.add l) = some u := by
  intro l hl;obtain ⟨_, u, hu, _⟩ := e2 l _ (by rw [Y1]; exact X1 (by omega));exact ⟨u, by grind⟩
 have hcl : ch.length = τ.sz := by simp [ch]
 have hcc : ∀ (j : Nat) (u : Value), ch[j]? = some u -> w.cell? (x0.add j) = some u := by grind
 refine finV hr hdst (v := mkV τ.isAgg ch) ?_ hd (fun vs cs bs hrel => ?_) ?_ hK hn
 ·simp [execOp, hop, Y6, e1, Y51 hT ht hcl hcc]
 ·obtain ⟨x1, f1, f2⟩ := main vs cs bs hrel;rw [e1] at f1;have : x0 = x1 := by simpa using f1
  subst this;refine ⟨ch, Y2b (fun h => by rw [hcl]; exact Y3j h), by rw [hlen, hcl], fun l lf u hl hu => ?_⟩;have hl' := Y4m hl;obtain ⟨k1, u', k2, k3⟩ := f2 l lf hl';have := hcc l u hu;rw [k2] at this;have : u' = u := by grind
  subst this;exact LeafV.of_held k1 k3
 ·have := hr.refs none x;rw [hx] at this;exact ⟨fun q hq => this.1 q (by simp only [AV.refs, X5]; exact .inl (Y5h _ _ q hq)), by simp [mkCon, AV.ptrs]⟩
theorem Ydq (hT : TabOk P T) {t : TypeId} (ht : T.ty t = some τ) {cs : List Value} {off : Nat} (hl : off + τ.sz <= cs.length) : (part t cs.toArray off).run P w = .ok (mkV τ.isAgg ((cs.drop off).take τ.sz)) w := by
 unfold part;cases hag : τ.isAgg with
 | true =>
  simp [TabOk.agg hT ht, TabOk.sizeOf hT ht, hag, mkV]
 | false =>
  have h1 := Y3j hag;have : cs[off]? = some cs[off] := X1 (by omega);have h2 : (cs.drop off).take 1 = [cs[off]] := by
   rw [List.drop_eq_getElem_cons (by omega)];rfl
  simp [TabOk.agg hT ht, hag, mkV, this, h1, h2]
theorem Ydr (hT : TabOk P T) {s : TypeId} {f off : Nat} (hop : o.op = .field s x f) (hdst : o.dst = some d) (hr : RE c env a.tmps w) (hd : d < env.length) (hf : fieldAt T s f = some (off, τ)) (hx : rd none env x = .con .agg ls)
  (hty : typedAs (takeLs τ.sz (dropLs off ls)) τ = true) (hK : K (setD (some d) env (mkCon τ.isAgg (takeLs τ.sz (dropLs off ls)))) = some r) (hn : Next c a K r env.length next) : o.wp P a w next Q := by
 have hlen := Y1b hty;obtain ⟨fs, fd, h1, h2, rfl, h4, h5⟩ := TabOk.field hT hf;have hll : fd.offset + τ.sz <= ls.length := by
  rw [Yn, Yo, Xm, X12] at hlen;omega
 obtain ⟨vs, h0⟩ := hr;have hr : RE c env a.tmps w := ⟨vs, h0⟩;obtain ⟨cs, bs, hrel, hno⟩ := h0.rel;obtain ⟨cells, hv⟩ := hr.val none x vs cs bs hrel;rw [hx] at hv;obtain ⟨⟨e1, _⟩, e2, e3⟩ := hv;refine finV hr hdst (v := mkV τ.isAgg ((cells.drop fd.offset).take τ.sz)) ?_ hd (fun vs cs bs hrel => ?_) ?_ hK hn
 ·have hp := Ydq (w := w) hT h4 (cs := cells) (off := fd.offset) (by omega);simp [execOp, hop, Y6, e1, Instr.field, run_underlying h1, h2, asAgg, hp]
 ·obtain ⟨cells', hv'⟩ := hr.val none x vs cs bs hrel;rw [hx] at hv';obtain ⟨⟨e1', _⟩, e2', e3'⟩ := hv';rw [e1] at e1';have : cells = cells' := by grind
  subst this;refine ⟨(cells.drop fd.offset).take τ.sz, Y2b (fun h => by rw [Xm, X12, Y3j h]; have := Y3j h; omega), by rw [hlen, Xm, X12]; omega, fun l lf u hl hu => ?_⟩;have hl' := Y4m hl;rw [Y4l] at hl';have hj : l < τ.sz := by have := (X6.1 hu).1; simp at this; omega
  rw [X1j, X4 hj, X1l] at hu;exact e3' _ _ _ hl' hu
 ·have := hr.refs none x;rw [hx] at this;exact ⟨fun q hq => this.1 q (Y5g _ _ q (Y5h _ _ q hq)), by simp [mkCon, AV.ptrs]⟩
theorem Y7a : ∀ {sh : List (Bool × Nat)} {vs cs : List Value} {i off n : Nat} {agg : Bool}, TupCells sh vs cs -> tupOff sh i = some (off, agg, n) -> ∃ v, vs[i]? = some v /\ off + n <= cs.length /\ v = mkV agg ((cs.drop off).take n) /\ (agg = false -> n = 1)
 | [], vs, cs, i, off, n, agg, h, ho => by simp [tupOff] at ho
 | (ag, m) :: sh, vs, cs, 0, off, n, agg, ⟨v, vs', c0, cs', e1, e2, hl, hv, ht⟩, ho => by
  subst e1; subst e2;simp [tupOff] at ho;obtain ⟨rfl, rfl, rfl⟩ := ho;refine ⟨v, rfl, by simp [hl], ?_, ?_⟩
  ·rw [List.drop_zero, <- hl, List.take_left];cases ag with
   | true => simpa [mkV] using hv
   | false => simp at hv; rw [hv.1]; rfl
  ·grind
 | (ag, m) :: sh, vs, cs, i + 1, off, n, agg, ⟨v, vs', c0, cs', e1, e2, hl, hv, ht⟩, ho => by
  subst e1; subst e2;simp [tupOff] at ho;split at ho
  ·rename_i o' q ho';simp at ho;obtain ⟨rfl, rfl⟩ := ho;obtain ⟨v', h1, h2, h3, h4⟩ := Y7a ht ho';refine ⟨v', h1, by simp [hl]; omega, ?_, h4⟩;rw [h3, List.drop_append, X2u (show c0.length <= m + o' by omega), X2l, show m + o' - c0.length = o' by omega]
  ·simp at ho
theorem Y8w {s i off n : Nat} {agg : Bool} {sh : List (Bool × Nat)} (hop : o.op = .extract (.tmp s) i) (hdst : o.dst = some d) (hr : RE c env a.tmps w) (hd : d < env.length) (hs : get env s = .con (.tup sh) ls) (ho : tupOff sh i = some (off, agg, n))
  (hown : (takeLs n (dropLs off ls)).any (fun l => l.m.own) = false) (hK : K (setD (some d) env (mkCon agg (takeLs n (dropLs off ls)))) = some r) (hn : Next c a K r env.length next) : o.wp P a w next Q := by
 have hsl : s < env.length := Yw hs;have main : ∀ vs cs bs, Rel c (SS env noP a.tmps vs w cs bs) -> ∃ vl, evT a.tmps (.tmp s) = .tuple vl.toArray /\ TupCells sh vl (cs s) /\ ls.length = (cs s).length /\ ∀ l lf u, leafAt ls l = some lf -> (cs s)[l]? = some u -> LeafRel c (SS env noP a.tmps vs w cs bs) s l u lf := by
  intro vs cs bs hrel;have hav := hrel.av s;have e1 : (SS env noP a.tmps vs w cs bs).env s = .con (.tup sh) ls := by show ovl env noP s = _; rw [Y8 hsl]; exact hs
  have e2 : (SS env noP a.tmps vs w cs bs).tm s = evT a.tmps (.tmp s) := X4 (hr.choose_spec.len ▸ hsl);rw [e1, e2] at hav;obtain ⟨⟨_, vl, h1, h2⟩, h3, _, h4⟩ := hav;exact ⟨vl, h1, h2, h3, h4⟩
 obtain ⟨vs, h0⟩ := hr;have hr : RE c env a.tmps w := ⟨vs, h0⟩;obtain ⟨cs, bs, hrel, hno⟩ := h0.rel;obtain ⟨vl, e1, e2, e3, e4⟩ := main vs cs bs hrel;obtain ⟨v, f1, f2, f3, f4⟩ := Y7a e2 ho;refine finV hr hdst (v := v) ?_ hd (fun vs cs bs hrel => ?_) ?_ hK hn
 ·simp [execOp, hop, Y6, e1, Instr.extract, f1]
 ·obtain ⟨vl', g1, g2, g3, g4⟩ := main vs cs bs hrel;rw [e1] at g1;have : vl = vl' := by simpa using g1
  subst this;obtain ⟨v', k1, k2, k3, k4⟩ := Y7a g2 ho;rw [f1] at k1;have : v = v' := by simpa using k1
  subst this;have hll : (takeLs n (dropLs off ls)).length = (((cs s).drop off).take n).length := by rw [Yn, Yo, Xm, X12, Xm, X12, g3]
  refine ⟨((cs s).drop off).take n, ?_, hll, fun l lf u hl hu => ?_⟩
  ·rw [k3];exact Y2b (fun h => by grind)
  ·have hl' := Y4m hl;rw [Y4l] at hl';have hj : l < n := by grind
   rw [X1j, X4 hj, X1l] at hu;have hrl := g4 _ _ _ hl' hu;have hno : lf.m.own = false := by
    cases hb : lf.m.own with
    | false => rfl
    | true =>
     have : (takeLs n (dropLs off ls)).any (fun l => l.m.own) = true := X1n.2 ⟨lf, Yb hl, hb⟩;rw [hown] at this;simp at this
   exact LeafV.of_held hno (hrl.held hno).2
 ·have := hno s;rw [Y8 hsl, hs] at this;exact ⟨fun q hq => this.1 q (Y5g _ _ q (Y5h _ _ q hq)), by simp [mkCon, AV.ptrs]⟩
theorem Y9i (hlen : env.length = tmps.size) (h : Rel c (SS env noP tmps vs w cs bs)) : ∀ {xs : List Operand} {ps : List (Nat × Nat)}, xs.mapM (fun x => match rd none env x with | .path r off => some (r, off) | _ => none) = some ps -> PtrRels (SS env noP tmps vs w cs bs) ps (xs.map (evT tmps))
 | [], ps, hm => by simp at hm; subst hm; rfl
 | x :: xs, ps, hm => by
  rw [X2q] at hm;cases hx : rd none env x with
  | path r off =>
   rw [hx] at hm;cases hxs : xs.mapM (fun x => match rd none env x with | .path r off => some (r, off) | _ => none) with
   | none => simp_all
   | some ps' =>
    rw [hxs] at hm;simp at hm;subst hm;obtain ⟨cells, hv⟩ := Yl hlen h none x;rw [hx] at hv;exact ⟨_, _, rfl, hv, Y9i hlen h hxs⟩
  | _ => grind
theorem Ybd (hr : RE c env a.tmps w) : ∀ {xs : List Operand} {ps : List (Nat × Nat)}, xs.mapM (fun x => match rd none env x with | .path r off => some (r, off) | _ => none) = some ps -> ∀ q ∈ ps.map (·.1), q < env.length
 | [], ps, hm => by grind
 | x :: xs, ps, hm => by
  rw [X2q] at hm;cases hx : rd none env x with
  | path r off =>
   rw [hx] at hm;cases hxs : xs.mapM (fun x => match rd none env x with | .path r off => some (r, off) | _ => none) with
   | none => grind
   | some ps' =>
    rw [hxs] at hm;simp at hm;subst hm;have h1 := hr.refs none x;rw [hx] at h1;intro q hq;simp only [X1y, Xq] at hq;rcases hq with rfl | hq
    ·exact h1.2 _ (by simp [AV.ptrs])
    ·exact Ybd hr hxs q hq
  | _ => simp_all
theorem Yat {first captured : Array Operand} {ps : List (Nat × Nat)} (hop : o.op = .makeFunc (.func f) first captured) (hdst : o.dst = some d) (hr : RE c env a.tmps w) (hd : d < env.length) (hf : first.size = 0)
  (hc : captured.toList.mapM (fun x => match rd none env x with | .path r off => some (r, off) | _ => none) = some ps) (hK : K (setD (some d) env (.clo f ps)) = some r) (hn : Next c a K r env.length next) : o.wp P a w next Q := by
 have hf' : first = #[] := Array.eq_empty_of_size_eq_zero hf
 refine finV hr hdst (av := .clo f ps) (v := .func (.func f) #[] (captured.map (evT a.tmps))) ?_ hd (fun vs cs bs hrel => ⟨[], captured.toList.map (evT a.tmps), by rw [<- X2i, X1c], Y9i hr.choose_spec.len hrel hc⟩) ⟨by simp [AV.refs], fun q hq => Ybd hr hc q (by simpa [AV.ptrs] using hq)⟩ hK hn;simp [execOp, hop, Y6, hf', Instr.makeFunc]
end
theorem Rep.dpS {S S' : Nat -> Prop} {w : World} : ∀ {t : Ty} {cs : List Value} {x : t.D} {bs : List Nat}, Rep S w t .dp cs x bs -> Rep S' w t .dp cs x bs
 | .int k, _, _, _, h => h
 | .bool, _, _, _, h => h
 | .str, _, _, _, h => h
 | .slice e t, _, _, _, ⟨v, xs, b0, b1, h1, h2, h3, h4⟩ => ⟨v, xs, b0, b1, h1, h2, El.imp (fun c x b _ h => Rep.dpS h) h3, h4⟩
 | .unit, _, _, _, h => h
 | .pair a b, _, _, _, ⟨c1, c2, b1, b2, h1, h2, h3, h4⟩ => ⟨c1, c2, b1, b2, h1, h2, Rep.dpS h3, Rep.dpS h4⟩
theorem Rel.reform (h : Rel c s) {n m : Nat} (hno : ∀ r, (∀ q ∈ (s.env r).refs, q.1 ≠ n /\ q.1 ≠ m) /\ (∀ q ∈ (s.env r).ptrs, q ≠ n /\ q ≠ m)) (hb : Below c.base s.w w')
  (hheap : ∀ b, b < s.w.heap.size -> (∀ l, b ∉ s.bs n l) -> w'.heap[b]? = s.w.heap[b]?) (av : AV) (v : Value) (cd : List Value) (bd : Nat -> List Nat)
  (hbd : ∀ l b, b ∈ bd l -> b < w'.heap.size /\ (s.w.heap.size <= b \/ ∃ l', b ∈ s.bs n l' \/ b ∈ s.bs m l')) (hdj : ∀ l l' b, b ∈ bd l -> b ∈ bd l' -> l = l') (hnd : ∀ l, (bd l).Nodup)
  (hav : let s' : St := ⟨upd (upd s.env m .undef) n av, upd s.tm n v, w', upd s.cs n cd, upd (upd s.bs m (fun _ => [])) n bd⟩; Keeps c s s' -> AVRel c s' n av v) :
  Rel c ⟨upd (upd s.env m .undef) n av, upd s.tm n v, w', upd s.cs n cd, upd (upd s.bs m (fun _ => [])) n bd⟩ := by
 let s' : St := ⟨upd (upd s.env m .undef) n av, upd s.tm n v, w', upd s.cs n cd, upd (upd s.bs m (fun _ => [])) n bd⟩
 have hsame : ∀ r, ¬ (r = n \/ r = m) -> s'.env r = (s.env r).chg noG /\ s'.tm r = s.tm r /\ s'.cs r = s.cs r /\ s'.bs r = s.bs r := fun r hr => by
  simp at hr;refine ⟨by rw [AV.chg_no]; show upd _ _ _ r = _; rw [Y2 _ _ hr.1, Y2 _ _ hr.2], Y2 _ _ hr.1, Y2 _ _ hr.1, ?_⟩;show upd _ _ _ r = _;rw [Y2 _ _ hr.1, Y2 _ _ hr.2]
 have hbn : s'.bs n = bd := Y0 _ _ _;have hbm : m ≠ n -> ∀ l, s'.bs m l = [] := fun hm l => by
  have : s'.bs m = fun _ => [] := by show upd _ _ _ m = _; rw [Y2 _ _ hm, Y0]
  rw [this]
 have hpl : ∀ r j, r ≠ n /\ r ≠ m -> SamePl s s' r j := fun r j hr => by
  have hs := hsame r (by simp; exact hr);refine ⟨fun lf u ho => ho.chg hs.1 hs.2.2.1, by rw [hs.2.2.2], fun b hb' => hheap b (h.own _ _ _ hb').2 (fun l hl => ?_)⟩;exact hr.1 (h.disj _ _ _ _ _ hb' hl).1
 have hpt : ∀ r, r ≠ n /\ r ≠ m -> SamePtr s s' r := fun r hr => by
  have hs := hsame r (by simp; exact hr);exact SamePtr.chg hs.1 hs.2.1
 refine Rel.step (s' := s') noG h (fun r => r = n \/ r = m) (fun r _ => r ≠ n /\ r ≠ m) (fun r => r ≠ n /\ r ≠ m) hsame hb (fun b hl hD => hheap b hl (fun l => hD n l (.inl rfl)))
  (fun r l b hD hb' => ?_) (fun r l r' l' b hD hD' hb1 hb2 => ?_) (fun r l hD => ?_) (fun r _ => hno r) (fun hk => ⟨Yq hk hpl, Y15 hk hpl, fun r hL _ => hpt r hL⟩) (fun hk r hD => ?_)
 ·by_cases hr : r = n
  ·subst hr;rw [hbn] at hb';obtain ⟨k1, k2⟩ := hbd l b hb';exact ⟨k1, k2.imp id (fun ⟨l', k3⟩ => k3.elim (fun k => ⟨r, l', .inl rfl, k⟩) (fun k => ⟨m, l', .inr rfl, k⟩))⟩
  ·grind
 ·by_cases hr : r = n
  ·by_cases hr' : r' = n
   ·subst hr; subst hr';rw [hbn] at hb1 hb2;exact ⟨rfl, hdj _ _ _ hb1 hb2⟩
   ·grind
  ·grind
 ·by_cases hr : r = n
  ·simp_all
  ·grind
 ·by_cases hr : r = n
  ·subst hr;have e1 : s'.env r = av := Y0 _ _ _;have e2 : s'.tm r = v := Y0 _ _ _;rw [e1, e2];exact hav hk
  ·have e := hD.resolve_left hr;subst e;have e1 : s'.env r = .undef := by show upd _ _ _ r = _; rw [Y2 _ _ hr, Y0]
   rw [e1];exact hbm hr
theorem RP.reform (h : RP c env tmps w ps vs) {n m : Nat} (hn : env.length <= n) (hm : env.length <= m) (hrf : av.refs = [] /\ av.ptrs = [])
  (hx : ∀ cs bs, Rel c (SS env ps tmps vs w cs bs) -> Below c.base w w' /\ (∀ b, b < w.heap.size -> (∀ l, b ∉ bs n l) -> w'.heap[b]? = w.heap[b]?) /\ ∃ (cd : List Value) (bd : Nat -> List Nat),
   (∀ l b, b ∈ bd l -> b < w'.heap.size /\ (w.heap.size <= b \/ ∃ l', b ∈ bs n l' \/ b ∈ bs m l')) /\ (∀ l l' b, b ∈ bd l -> b ∈ bd l' -> l = l') /\ (∀ l, (bd l).Nodup) /\
   (let s' : St := ⟨upd (upd (ovl env ps) m .undef) n av, upd (ovlT tmps vs) n v, w', upd cs n cd, upd (upd bs m (fun _ => [])) n bd⟩; Keeps c (SS env ps tmps vs w cs bs) s' -> AVRel c s' n av v)) :
  RP c env tmps w' (upd (upd ps m .undef) n av) (upd vs n v) := by
 obtain ⟨hl, cs, bs, h1, h2⟩ := h;obtain ⟨hb, hh, cd, bd, k1, k2, k3, k4⟩ := hx cs bs h1;have hno : ∀ r, (∀ q ∈ (ovl env ps r).refs, q.1 ≠ n /\ q.1 ≠ m) /\ (∀ q ∈ (ovl env ps r).ptrs, q ≠ n /\ q ≠ m) := fun r =>
  ⟨fun q hq => by have := (h2 r).1 q hq; omega, fun q hq => by grind⟩
 have h3 := h1.reform hno hb hh av v cd bd k1 k2 k3 k4;have e : upd (upd (ovl env ps) m .undef) n av = ovl env (upd (upd ps m .undef) n av) := by rw [Yd hn, Yd hm]
 refine ⟨hl, _, _, Rel.congr h3 e (Y13 (hl ▸ hn) v).symm, fun r => ?_⟩;rw [<- e];simp only [upd];split
 ·grind
 ·split
  ·exact ⟨by simp [AV.refs], by simp [AV.ptrs]⟩
  ·exact h2 r
theorem Yc (h : ∀ l ∈ ls, l.m.settled = true) : (AV.con k ls).refs = [] /\ (AV.con k ls).ptrs = [] := Settled.refs (.inr ⟨k, ls, rfl, h⟩)
theorem Y85 (h : Rel c (SS env ps tmps vs w cs bs)) (hn : env.length <= n) (hp : ps n = .undef) : ∀ l, bs n l = [] := by
 have := h.av n;have e : (SS env ps tmps vs w cs bs).env n = .undef := by show ovl env ps n = _; rw [Yt hn, hp]
 rw [e] at this;exact this
theorem Yf {α : Type} (f : Nat -> α) (n : Nat) (x y : α) : upd (upd f n x) n y = upd f n y := by funext r; simp [upd]; split <;> rfl
section
variable {P : Program} {o : Oper} {a : Act} {w : World} {R : Type} {K : Env -> Option R} {r : R} {next : Act -> World -> Prop} {Q : Exit -> Act -> World -> Prop} {c : Cx} {d : Nat} {T : Tab} {env : Env}
theorem Y1i : ∀ t : Ty, (zeroCells t).length = t.sz
 | .int _ => rfl
 | .bool => rfl
 | .str => rfl
 | .slice _ _ => rfl
 | .unit => rfl
 | .pair a b => by simp [zeroCells, Ty.sz, Y1i a, Y1i b]
theorem Y1y (t : Ty) : (zeroVal t).cells.toList = zeroCells t := by
 cases t <;> simp [zeroVal, Ty.isAgg, zeroCells, Value.cells, undef]
theorem Y3k (S : Nat -> Prop) (w : World) (τ : Ty) : (zeros τ).length = (zeroCells τ).length /\ (∀ lf ∈ zeros τ, lf.m.settled = true) /\
  ∀ (l : Nat) (lf : Leaf) (u : Value), (zeros τ)[l]? = some lf -> (zeroCells τ)[l]? = some u -> ∃ m, lf.m = .at_ m /\ Rep S w lf.t m [u] lf.x [] := by
 obtain ⟨h1, h2, bds, h3, h4, h5⟩ := Y3i .dp τ 0 (Rep.zero S w τ .dp);refine ⟨h1, h2, fun l lf u hl hu => ?_⟩;obtain ⟨m, k1, k2⟩ := h5 l lf u hl hu;refine ⟨m, k1, ?_⟩;have : bds.getD l [] = [] := by
  rw [Xh];cases hb : bds[l]? with
  | none => rfl
  | some b =>
   have := List.flatten_eq_nil_iff.1 h4.symm b (X8 hb);rw [this]; rfl
 rw [this] at k2;exact k2
theorem Y4o (w : World) (o : Obj) : (w.alloc o).heap[w.heap.size]? = some o := by
 show (w.heap.push o)[w.heap.size]? = _;simp
theorem Yv (w : World) (o : Obj) : Below w.heap.size w (w.alloc o) := (X1g _ _).alloc (Xi _) o
theorem Y3t (w : World) (o : Obj) : (w.alloc o).heap.size = w.heap.size + 1 := by show (w.heap.push o).size = _; simp
theorem RP.boxed (h : RP c env tmps w ps vs) (hn : env.length <= n) (hp : ps n = .con k ls) (hs : ∀ l ∈ ls, l.m.settled = true) (hk : k.plain = true) (e : TypeId) {cells : Array Value} (hcells : cells = (vs n).cells) :
  RP c env tmps (w.alloc (.cells cells e (0, 0))) (upd ps n (.con (.box ⟨e, false, []⟩) ls)) (upd vs n (.pointer (some ⟨w.heap.size, 0, none⟩))) := by
 have := h.reform (m := n) hn hn (av := .con (.box ⟨e, false, []⟩) ls) (v := .pointer (some ⟨w.heap.size, 0, none⟩)) (w' := w.alloc (.cells cells e (0, 0))) (Yc hs) (fun cs bs hr => ?_)
 ·rw [Yf] at this;exact this
 ·have hav := hr.av n;have e1 : (SS env ps tmps vs w cs bs).env n = .con k ls := by show ovl env ps n = _; rw [Yt hn, hp]
  have e2 : (SS env ps tmps vs w cs bs).tm n = vs n := X2 (by have := h.len; omega);rw [e1, e2] at hav;obtain ⟨h1, h2, h3, h4⟩ := hav;have hcs : (cs n) = cells.toList /\ bs n 0 = [] := by
   cases k with
   | val =>
    obtain ⟨h5, h6⟩ := h1;refine ⟨?_, h6⟩;have h5' : cs n = [vs n] := h5;rw [h5', hcells]
    -- one cell
    have hl1 : ls.length = 1 := by rw [h2, h5]; rfl
    have := h4 0 _ (vs n) (by rw [Y1]; exact X1 (by omega)) (by rw [h5]; rfl);have hone : (vs n).oneCell' = true := by
     generalize ls[0]'(by omega) = lf at this;obtain ⟨t, x, m⟩ := lf;cases m with
     | at_ lv => exact Rep.one this.rep _ (by simp)
     | bor _ _ _ => exact Held.one this.2
     | dead => exact this.2
    cases hv : vs n <;> first | rfl | (rw [hv] at hone; simp [Value.oneCell'] at hone)
   | agg =>
    obtain ⟨h5, h6⟩ := h1;refine ⟨?_, h6⟩;rw [hcells, h5];simp [Value.cells]
   | tup sh => simp [Kind.plain] at hk
   | box e => simp [Kind.plain] at hk
   | tupB i n sh => simp [Kind.plain] at hk
  refine ⟨(Yv _ _).mono hr.base, fun b hb _ => (Yv _ _).block b hb, cs n, fun l => if l = 0 then [w.heap.size] else bs n l, fun l b hb => ?_, fun l l' b hb hb' => ?_, fun l => ?_, fun hkeep => ?_⟩
  ·by_cases hl : l = 0
   ·subst hl;simp only [X1p, Xb] at hb;rw [hb, Y3t];exact ⟨by omega, .inl (Xi _)⟩
   ·simp only [X2 hl] at hb;rw [Y3t];exact ⟨by have : b < w.heap.size := (hr.own _ _ _ hb).2; omega, .inr ⟨l, .inl hb⟩⟩
  ·by_cases hl : l = 0 <;> by_cases hl' : l' = 0
   ·omega
   ·simp only [hl, hl', X1p, X18, Xb] at hb hb';have : b < w.heap.size := (hr.own _ _ _ hb').2;omega
   ·simp only [hl, hl', X1p, X18, Xb] at hb hb';have : b < w.heap.size := (hr.own _ _ _ hb).2;omega
   ·simp only [hl, hl', X18] at hb hb';exact (hr.disj _ _ _ _ _ hb hb').2
  ·by_cases hl : l = 0
   ·simp [hl]
   ·simp only [hl, X18]; exact hr.nodup _ _
  ·refine ⟨⟨w.heap.size, rfl, ?_, by simp [upd, nthB]⟩, by simp only [Y0]; exact h2, fun l hl => ?_, fun l lf u hl hu => ?_⟩
   ·simp only [Y0];rw [hcs.1, X1c];exact Y4o _ _
   ·simp only [Y0];rw [X2 (by omega)];exact h3 l hl
   ·simp only [Y0] at hu;have h5 := h4 l lf u hl hu;obtain ⟨t, x, m⟩ := lf;cases m with
    | at_ lv =>
     have h6 := h5.rep;refine LeafRel.of_rep h5.pin ?_;simp only [Y0, X2 (show l + 1 ≠ 0 by omega)];exact Rep.move (fun b hb hl => hkeep b hb hl) (fun b hb => (Yv _ _).block b (hr.own _ _ _ hb).2) h6
    | bor _ _ _ => have := hs _ (Yb hl); simp [Mode.settled] at this
    | dead => have := hs _ (Yb hl); simp [Mode.settled] at this
theorem Yds (hT : TabOk P T) (hop : o.op = .alloc e) (hdst : o.dst = some d) (hr : RE c env a.tmps w) (hd : d < env.length) (he : T.ty e = some τ) (hK : K (setD (some d) env (.con (.box ⟨e, false, []⟩) (zeros τ))) = some r) (hn : Next c a K r env.length next) : o.wp P a w next Q := by
 obtain ⟨vs, h⟩ := hr;have h1 := h.reform (n := env.length) (m := env.length) (Xi _) (Xi _) (av := .con (.box ⟨e, false, []⟩) (zeros τ)) (v := .pointer (some ⟨w.heap.size, 0, none⟩)) (w' := w.alloc (.cells (zeroVal τ).cells e (0, 0))) (Yc (Y3k (fun _ => True) w τ).2.1) (fun cs bs hrel => ?_)
 ·refine fin hdst (v := .pointer (some ⟨w.heap.size, 0, none⟩)) (w' := w.alloc (.cells (zeroVal τ).cells e (0, 0))) ?_ hd rfl (by rw [Yf] at h1; exact h1) (Y0 _ _ _) hK hn;simp [execOp, hop, Instr.alloc, TabOk.zero hT he, newVar, newRow, newObj, Sem.run]
  try rfl
 ·obtain ⟨z1, z2, z3⟩ := Y3k (RoS c ⟨upd (upd (ovl env noP) env.length .undef) env.length (.con (.box ⟨e, false, []⟩) (zeros τ)), upd (ovlT a.tmps vs) env.length (.pointer (some ⟨w.heap.size, 0, none⟩)), w.alloc (.cells (zeroVal τ).cells e (0, 0)), upd cs env.length (zeroCells τ), upd (upd bs env.length (fun _ => [])) env.length (fun l => if l = 0 then [w.heap.size] else [])⟩) (w.alloc (.cells (zeroVal τ).cells e (0, 0))) τ;refine ⟨(Yv _ _).mono hrel.base, fun b hb _ => (Yv _ _).block b hb, zeroCells τ, fun l => if l = 0 then [w.heap.size] else [], fun l b hb => ?_, fun l l' b hb hb' => ?_, fun l => ?_, fun hkeep => ?_⟩
  ·simp_all
  ·grind
  ·grind
  ·refine ⟨⟨w.heap.size, rfl, ?_, by simp [upd, nthB]⟩, by simp [Y0]; exact z1, fun l hl => ?_, fun l lf u hl hu => ?_⟩
   ·simp only [Y0];rw [<- Y1y, X1c];exact Y4o _ _
   ·simp only [Y0];rw [X2 (by omega)]
   ·simp [Y0] at hu;obtain ⟨m, k1, k2⟩ := z3 l lf u (by rw [<- Y1]; exact hl) hu;obtain ⟨t, x, m'⟩ := lf;simp only at k1;have hmode := Y21 (lv := .dp) τ τ.dflt 0 _ (Yb hl);subst k1;refine LeafRel.of_rep (Y9d rfl hmode trivial) ?_;simp only [Y0, X2 (show l + 1 ≠ 0 by omega)];exact k2
theorem Y23 {env' : Env} (ht : takeAs τ env x = some (env', ls)) : takeIn (some τ) env x = some (env', .con τ.kind ls) /\ typedAs ls τ = true := by
 unfold takeAs at ht;cases hti : takeIn (some τ) env x with
 | none => grind
 | some q => grind
theorem Y1k (τ : Ty) : τ.kind.plain = true := by unfold Ty.kind; split <;> rfl
theorem Yez (hT : TabOk P T) {env' : Env} (hop : o.op = .box e x) (hdst : o.dst = some d) (hr : RE c env a.tmps w) (hd : d < env.length) (he : T.ty e = some τ) (ht : takeAs τ env x = some (env', ls)) (hK : K (setD (some d) env' (.con (.box ⟨e, false, []⟩) ls)) = some r) (hn : Next c a K r env.length next) : o.wp P a w next Q := by
 obtain ⟨hti, hty⟩ := Y23 ht;obtain ⟨vs, h⟩ := hr;obtain ⟨hl, h1⟩ := Y17 h (fun r => .inl rfl) hti (Xi _) rfl;have hset := Yx hti;have h2 := h1.boxed (n := env.length) (by omega) (Y0 _ _ _) hset (Y1k τ) e (cells := (evT a.tmps x).cells) (by rw [Y0]);rw [Yf] at h2;rw [<- hl] at h2;refine fin hdst (v := .pointer (some ⟨w.heap.size, 0, none⟩)) (w' := w.alloc (.cells (evT a.tmps x).cells e (0, 0))) ?_ (by grind) hl h2 (Y0 _ _ _) hK hn;simp [execOp, hop, Y6, Instr.box, newVar, newRow, newObj, Sem.run]
 try rfl
end
def RVRel (S : Nat -> Prop) (w : World) : RV -> Value -> Prop
 | .val t x, v => ∃ ch, v = mkV t.isAgg ch /\ Rep S w t .ro ch x []
 | .ptr t x, v => PtrV S w t x v
 | .clo f caps, v => ∃ vs, v = .func (.func f) #[] vs.toArray /\ PtrVs S w caps vs
 | .fptr _ _, _ => False
def RVRels (S : Nat -> Prop) (w : World) : List RV -> List Value -> Prop
 | [], vs => vs = []
 | x :: xs, vs => ∃ v vs', vs = v :: vs' /\ RVRel S w x v /\ RVRels S w xs vs'
def ResRel (S : Nat -> Prop) (base : Nat) (w : World) (B : List Nat) : List (Ty × Lvl) -> List (Σ t : Ty, t.D) -> List (List Value) -> List Nat -> Prop
 | [], xs, chs, bs => xs = [] /\ chs = [] /\ bs = []
 | p :: ps, xs, chs, bs => ∃ (x : p.1.D) (xs' : List (Σ t : Ty, t.D)) (ch : List Value) (chs' : List (List Value)) (b b' : List Nat), xs = ⟨p.1, x⟩ :: xs' /\ chs = ch :: chs' /\ bs = b ++ b' /\
   Rep (fun k => (S k \/ base <= k) /\ k ∉ B) w p.1 p.2.res ch x b /\ ResRel S base w B ps xs' chs' b'
def resVals : List (Ty × Lvl) -> List (List Value) -> List Value
 | p :: ps, ch :: chs => mkV p.1.isAgg ch :: resVals ps chs
 | _, _ => []
def resVal (rs : List (Ty × Lvl)) (chs : List (List Value)) : Value := match resVals rs chs with
 | [v] => v
 | vs => .tuple vs.toArray
def FnSpec (P : Program) (f : FuncId) (rs : List (Ty × Lvl)) (args : List RV) (res : List (Σ t : Ty, t.D)) : Prop :=
 ∀ (S : Nat -> Prop) (w : World) (vals : List Value), RVRels S w args vals -> Calls P f vals.toArray w (fun e w' => ∃ chs bs, e = .returned (resVal rs chs) /\ Below w.heap.size w w' /\ ResRel S w.heap.size w' bs rs res chs bs /\ bs.Nodup /\ ∀ b ∈ bs, w.heap.size <= b)
def RCapRel (S : Nat -> Prop) (w : World) (pb v : Value) : RCap -> Value -> Prop
 | .ro x, u => PtrV S w x.1 x.2 u
 | .pin, u => u = pb
 | .self, u => u = v
def RCapRels (S : Nat -> Prop) (w : World) (pb v : Value) : List RCap -> List Value -> Prop
 | [], vs => vs = []
 | c :: cs, vs => ∃ u vs', vs = u :: vs' /\ RCapRel S w pb v c u /\ RCapRels S w pb v cs vs'
def RVRelX (S : Nat -> Prop) (w : World) (pb : Value) : RV -> Value -> Prop
 | .fptr f caps, v => ∃ B us, v = .pointer (some ⟨B, 0, none⟩) /\ S B /\ B < w.heap.size /\ w.cell? ⟨B, 0, none⟩ = some (.func (.func f) #[] us.toArray) /\ RCapRels S w pb v caps us
 | rv, v => RVRel S w rv v
def RVRelsY (S : Nat -> Prop) (w : World) (pb : Value) : List RV -> List Value -> Prop
 | [], vs => vs = []
 | x :: xs, vs => ∃ v vs', vs = v :: vs' /\ RVRelX S w pb x v /\ RVRelsY S w pb xs vs'
def RVRelsX (S : Nat -> Prop) (w : World) (pb : Value) : Nat -> List RV -> List Value -> Prop
 | _, [], vs => vs = []
 | 0, _ :: xs, vs => ∃ v vs', vs = v :: vs' /\ RVRelsY S w pb xs vs'
 | k + 1, x :: xs, vs => ∃ v vs', vs = v :: vs' /\ RVRelX S w pb x v /\ RVRelsX S w pb k xs vs'
def LvsRel (S : Nat -> Prop) (w : World) (p : Nat -> Prop) (ls : List Leaf) (ch : List Value) (bds : List (List Nat)) : Prop :=
 ls.length = ch.length /\ bds.length = ch.length /\ ∀ (l : Nat) (lf : Leaf) (u : Value), p l -> ls[l]? = some lf -> ch[l]? = some u -> ∃ m, lf.m = .at_ m /\ Rep S w lf.t m [u] lf.x (bds.getD l [])
def BoxSig.free (b : BoxSig) (l : Nat) : Prop := (slotAt b.lv l).isFx = false
def FnSpecBox (P : Program) (f : FuncId) (rs : List (Ty × Lvl)) (b : BoxSig) (t : Ty) (x : t.D) (args : List RV) (y : t.D) (res : List (Σ t : Ty, t.D)) : Prop :=
 ∀ (S : Nat -> Prop) (w : World) (vals : List Value) (B : Nat) (ch : List Value) (bds : List (List Nat)) (base : Nat),
  vals[b.k]? = some (.pointer (some ⟨B, 0, none⟩)) -> w.heap[B]? = some (.cells ch.toArray b.id (0, 0)) -> LvsRel S w (fun _ => True) (leaves t x b.md 0) ch bds -> (B :: bds.flatten).Nodup -> (∀ k ∈ B :: bds.flatten, base <= k) -> base <= w.heap.size ->
  RVRelsX S w (.pointer (some ⟨B, 0, none⟩)) b.k args vals -> (∀ k, S k -> k ∉ B :: bds.flatten) ->
  Calls P f vals.toArray w (fun e w' => ∃ ch' bds' chs bs, e = .returned (resVal rs chs) /\ Below base w w' /\ (∀ k, k < w.heap.size -> k ∉ B :: bds.flatten -> w'.heap[k]? = w.heap[k]?) /\ w'.heap[B]? = some (.cells ch'.toArray b.id (0, 0)) /\ ch'.length = ch.length /\ (∀ l, (slotAt b.lv l).isFx = true -> ch'[l]? = ch[l]?) /\
   LvsRel (fun k => (S k \/ k ∈ bds.flatten \/ w.heap.size <= k) /\ k ∉ B :: (bds'.flatten ++ bs)) w' b.free (leaves t y b.md 0) ch' bds' /\ (∀ l, (slotAt b.lv l).isFx = true -> bds'.getD l [] = []) /\ (B :: (bds'.flatten ++ bs)).Nodup /\ (∀ k ∈ bds'.flatten ++ bs, k ∈ bds.flatten \/ w.heap.size <= k) /\
   ResRel (fun k => S k \/ k ∈ B :: bds.flatten) w.heap.size w' (B :: (bds'.flatten ++ bs)) rs res chs bs)
def FnSpecMut (P : Program) (f : FuncId) (rs : List (Ty × Lvl)) (t : Ty) (x : t.D) (args : List RV) (y : t.D) (res : List (Σ t : Ty, t.D)) : Prop :=
 ∀ (S : Nat -> Prop) (w : World) (ch : List Value) (vals : List Value) (b0 : List Nat) (base : Nat), Rep (fun _ => False) w t .dp ch x b0 -> b0.Nodup -> (∀ b ∈ b0, base <= b) -> base <= w.heap.size -> RVRels S w args vals -> (∀ b, S b -> b ∉ b0) ->
  Calls P f (mkV t.isAgg ch :: vals).toArray w (fun e w' => ∃ chs bs b1, e = .returned (resVal rs chs) /\ Below base w w' /\ (∀ b, b < w.heap.size -> b ∉ b0 -> w'.heap[b]? = w.heap[b]?) /\ Rep (fun _ => False) w' t .dp ch y b1 /\ b1.Nodup /\ (∀ b ∈ b1, b ∈ b0 \/ w.heap.size <= b) /\ ResRel S w.heap.size w' bs rs res chs bs)
def FnSpecOwn (P : Program) (f : FuncId) (t : Ty) (x : t.D) (args : List RV) (y : t.D) : Prop :=
 ∀ (S : Nat -> Prop) (w : World) (v : Value) (vals : List Value) (b0 : List Nat) (base : Nat), Rep (fun _ => False) w t .dp [v] x b0 -> b0.Nodup -> (∀ b ∈ b0, base <= b) -> base <= w.heap.size -> RVRels S w args vals -> (∀ b, S b -> b ∉ b0) ->
  Calls P f (v :: vals).toArray w (fun e w' => ∃ v' b1, e = .returned v' /\ Below base w w' /\ (∀ b, b < w.heap.size -> b ∉ b0 -> w'.heap[b]? = w.heap[b]?) /\ Rep (fun _ => False) w' t .dp [v'] y b1 /\ b1.Nodup /\ (∀ b ∈ b1, b ∈ b0 \/ w.heap.size <= b))
def FnSpecSh (P : Program) (f : FuncId) (t : Ty) (x : t.D) : Prop :=
 ∀ (S : Nat -> Prop) (w : World) (v : Value), Rep S w t .ro [v] x [] -> Calls P f #[v] w (fun e w' => ∃ v' b1, e = .returned v' /\ Below w.heap.size w w' /\ Rep S w' t .sh [v'] x b1 /\ b1.Nodup /\ ∀ b ∈ b1, w.heap.size <= b)
def FnSpecG (P : Program) (f : FuncId) (rs : List (Ty × Lvl)) (k : Nat) (t : Ty) (x : t.D) (args : List RV) (res : List (Σ t : Ty, t.D)) : Prop :=
 ∀ (S : Nat -> Prop) (w : World) (v : Value) (vals : List Value) (b0 : List Nat) (base : Nat), Rep (fun _ => False) w t .dp [v] x b0 -> b0.Nodup -> (∀ b ∈ b0, base <= b) -> base <= w.heap.size -> RVRels S w args vals -> (∀ b, S b -> b ∉ b0) ->
  Calls P f (insN k v vals).toArray w (fun e w' => ∃ chs bs, e = .returned (resVal rs chs) /\ Below base w w' /\ (∀ b, b < w.heap.size -> b ∉ b0 -> w'.heap[b]? = w.heap[b]?) /\ ResRel (fun _ => True) 0 w' bs rs res chs bs /\ bs.Nodup /\ ∀ b ∈ bs, b ∈ b0 \/ w.heap.size <= b)
def newRes (B : Nat) (rs : List (Ty × Lvl)) (chs : List (List Value)) : Value := match rs with
 | [] => .pointer (some ⟨B, 0, none⟩)
 | _ :: _ => .tuple (.pointer (some ⟨B, 0, none⟩) :: resVals rs chs).toArray
def FnSpecNew (P : Program) (f : FuncId) (id : TypeId) (rs : List (Ty × Lvl)) (t : Ty) (args : List RV) (y : t.D) (ys : List (Σ t : Ty, t.D)) : Prop :=
 ∀ (S : Nat -> Prop) (w : World) (vals : List Value), RVRels S w args vals -> Calls P f vals.toArray w (fun e w' => ∃ B ch chs bs, e = .returned (newRes B rs chs) /\ Below w.heap.size w w' /\ w.heap.size <= B /\ w'.heap[B]? = some (.cells ch.toArray id (0, 0)) /\ Rep (fun k => (S k \/ w.heap.size <= k) /\ k ∉ B :: bs) w' t .ro ch y [] /\
  ResRel S w.heap.size w' (B :: bs) rs ys chs bs /\ (B :: bs).Nodup /\ ∀ b ∈ bs, w.heap.size <= b)
def Enterable (P : Program) (f : FuncId) : Prop := ∃ fn, P.funcs[f]? = some fn /\ fn.body.isNone = false /\ (fn.name == "runtime.NumGoroutine") = false
def OrcOk (P : Program) (sig : FuncId -> Option Sig) (orc : Orc) : Prop :=
 ∀ f sg args q x, sig f = some sg -> orc f args = some q -> q.run = some x -> Enterable P f /\
  (match sg.box with
   | some b => ∃ t x0 y ys, nthL args b.k = some (.ptr t x0) /\ q.pk x = ⟨t, y⟩ :: ys /\ FnSpecBox P f sg.results b t x0 args y ys
   | none => match sg.newb with
   | some id => ∃ t y ys, q.pk x = ⟨t, y⟩ :: ys /\ FnSpecNew P f id sg.results t args y ys
   | none => match sg.muts with
   | false => if sg.own then (match sg.give with
    | none => ∃ t x0, args = [.val t x0] /\ q.pk x = [⟨t, x0⟩] /\ FnSpecSh P f t x0
    | some k => ∃ t x0 rest, args = insN k (.val t x0) rest /\ FnSpecG P f sg.results k t x0 rest (q.pk x)) else FnSpec P f sg.results args (q.pk x)
   | true => if sg.own then ∃ t x0 rest y, args = .val t x0 :: rest /\ q.pk x = [⟨t, y⟩] /\ FnSpecOwn P f t x0 rest y else ∃ t x0 rest y ys, args = .val t x0 :: rest /\ q.pk x = ⟨t, y⟩ :: ys /\ FnSpecMut P f sg.results t x0 rest y ys)
theorem Y30 {S : Nat -> Prop} {w : World} : ∀ (t : Ty) {ls : List Leaf} {x : t.D} {rest : List Leaf} {cells : List Value}, asm t ls = some (x, rest) -> ls.length = cells.length ->
  (∀ (l : Nat) (lf : Leaf) (u : Value), ls[l]? = some lf -> cells[l]? = some u -> Rep S w lf.t .ro [u] lf.x []) -> ∃ c0 c1, cells = c0 ++ c1 /\ rest.length = c1.length /\ Rep S w t .ro c0 x [] /\ (∀ (l : Nat) (lf : Leaf) (u : Value), rest[l]? = some lf -> c1[l]? = some u -> Rep S w lf.t .ro [u] lf.x []) /\ (∀ l ∈ rest, l ∈ ls)
 | .unit, ls, x, rest, cells, h, hl, hr => by
  simp [asm] at h;obtain ⟨_, rfl⟩ := h;exact ⟨[], cells, rfl, hl, ⟨rfl, rfl⟩, hr, fun l h => h⟩
 | .pair a b, ls, x, rest, cells, h, hl, hr => by
  simp [asm] at h;cases ha : asm a ls with
  | none => rw [ha] at h; simp at h
  | some q =>
   obtain ⟨xa, ra⟩ := q;rw [ha] at h;simp only at h;cases hb : asm b ra with
   | none => rw [hb] at h; simp at h
   | some q =>
    obtain ⟨xb, rb⟩ := q;rw [hb] at h;simp at h;obtain ⟨rfl, rfl⟩ := h;obtain ⟨c0, c1, rfl, l1, k1, m1, n1⟩ := Y30 a ha hl hr;obtain ⟨c2, c3, rfl, l2, k2, m2, n2⟩ := Y30 b hb l1 m1;exact ⟨c0 ++ c2, c3, by rw [X7], l2, ⟨c0, c2, [], [], rfl, rfl, k1, k2⟩, m2, fun l h => n1 l (n2 l h)⟩
 | .int k, ls, x, rest, cells, h, hl, hr => by
  cases ls with
  | nil => simp [asm] at h
  | cons l ls =>
   simp [asm] at h;cases hx : l.as (.int k) with
   | none => rw [hx] at h; simp at h
   | some y =>
    rw [hx] at h;simp at h;obtain ⟨rfl, rfl⟩ := h;cases cells with
    | nil => simp at hl
    | cons u cells =>
     have := hr 0 l u rfl rfl;rw [Leaf.as_eq hx] at this;exact ⟨[u], cells, rfl, by simpa using hl, this, fun l' lf u' h1 h2 => hr (l' + 1) lf u' h1 h2, fun l' h => X3 _ h⟩
 | .bool, ls, x, rest, cells, h, hl, hr => by
  cases ls with
  | nil => simp [asm] at h
  | cons l ls =>
   simp [asm] at h;cases hx : l.as .bool with
   | none => rw [hx] at h; simp at h
   | some y =>
    rw [hx] at h;simp at h;obtain ⟨rfl, rfl⟩ := h;cases cells with
    | nil => simp at hl
    | cons u cells =>
     have := hr 0 l u rfl rfl;rw [Leaf.as_eq hx] at this;exact ⟨[u], cells, rfl, by simpa using hl, this, fun l' lf u' h1 h2 => hr (l' + 1) lf u' h1 h2, fun l' h => X3 _ h⟩
 | .str, ls, x, rest, cells, h, hl, hr => by
  cases ls with
  | nil => simp [asm] at h
  | cons l ls =>
   simp [asm] at h;cases hx : l.as .str with
   | none => rw [hx] at h; simp at h
   | some y =>
    rw [hx] at h;simp at h;obtain ⟨rfl, rfl⟩ := h;cases cells with
    | nil => simp at hl
    | cons u cells =>
     have := hr 0 l u rfl rfl;rw [Leaf.as_eq hx] at this;exact ⟨[u], cells, rfl, by simpa using hl, this, fun l' lf u' h1 h2 => hr (l' + 1) lf u' h1 h2, fun l' h => X3 _ h⟩
 | .slice e t, ls, x, rest, cells, h, hl, hr => by
  cases ls with
  | nil => simp [asm] at h
  | cons l ls =>
   simp [asm] at h;cases hx : l.as (.slice e t) with
   | none => rw [hx] at h; simp at h
   | some y =>
    rw [hx] at h;simp at h;obtain ⟨rfl, rfl⟩ := h;cases cells with
    | nil => simp at hl
    | cons u cells =>
     have := hr 0 l u rfl rfl;rw [Leaf.as_eq hx] at this;exact ⟨[u], cells, rfl, by simpa using hl, this, fun l' lf u' h1 h2 => hr (l' + 1) lf u' h1 h2, fun l' h => X3 _ h⟩
theorem Held.rep (h : Held c s u lf) (hl : lf.m.live = true) (h1 : ∀ b, RoS c s b -> S b) (h2 : ∀ q ∈ lf.refs, ∀ b ∈ s.bs q.1 (q.2 + 1), S b) : Rep S s.w lf.t .ro [u] lf.x [] := by
 obtain ⟨t, x, m⟩ := lf;cases m with
 | at_ lv => exact Rep.move (fun b hb _ => ⟨h1 b hb, rfl⟩) (by simp) h
 | bor r j p => exact Rep.move (fun b hb _ => ⟨hb.elim (h1 b) (h2 (r, j) (by simp [Leaf.refs]) b), rfl⟩) (by simp) h.1
 | dead => simp [Mode.live] at hl
theorem LeafV.rep (h : LeafV c s u lf) (hl : lf.m.live = true) (h1 : ∀ b, RoS c s b -> S b) (h2 : ∀ q ∈ lf.refs, ∀ b ∈ s.bs q.1 (q.2 + 1), S b) : Rep S s.w lf.t .ro [u] lf.x [] := by
 obtain ⟨t, x, m⟩ := lf;cases m with
 | at_ lv => exact Rep.move (S := fun b => RoS c s b \/ b ∈ []) (fun b hb _ => ⟨hb.elim (h1 b) (by simp), rfl⟩) (by simp) (Rep.ro h.1)
 | bor r j p => exact Held.rep (lf := ⟨t, x, .bor r j p⟩) h hl h1 h2
 | dead => simp [Mode.live] at hl
section
variable {c : Cx} {env : Env} {tmps : Array Value} {w : World} {ps : Nat -> AV} {vs : Nat -> Value} {cs : Nat -> List Value} {bs : Nat -> Nat -> List Nat} {caps : FuncId -> List Ty} {S : Nat -> Prop}
theorem Y5i (h : Rel c (SS env ps tmps vs w cs bs)) {r off : Nat} {x : t.D} (ho : ptrOf env t r off = some x) (hp : PtrRel (SS env ps tmps vs w cs bs) r off v) (h1 : ∀ b, RoS c (SS env ps tmps vs w cs bs) b -> S b) (h2 : ∀ l, ∀ b ∈ bs r l, S b) : PtrV S w t x v := by
 unfold ptrOf at ho;split at ho
 ·rename_i e ls hb;have hrl : r < env.length := Yw hb;split at ho
  ·rename_i x' hasm;split at ho
   ·rename_i hlive;simp at ho;subst ho;obtain ⟨e', ls', B, g1, g2, g3⟩ := hp;have hbE : (SS env ps tmps vs w cs bs).env r = .con (.box e) ls := by show ovl env ps r = _; rw [Y8 hrl]; exact hb
    have hav := h.av r;rw [hbE] at hav;obtain ⟨⟨B', k1, k2, k3⟩, h3, h4, h5⟩ := hav;rw [g2] at k1;have : B = B' := by simpa using k1
    subst this;obtain ⟨c0, c1, e0, e1, e2, _⟩ := Y30 (S := S) (w := w) t hasm h3 (fun l lf u hl hu => by
     have h6 := h5 l lf u (by rw [Y1]; exact hl) hu;have hlv : lf.m.settled = true := by grind
     by_cases ho : lf.m.own = true
     ·obtain ⟨t, x, m⟩ := lf;cases m with
      | at_ lv => exact Rep.move (S := fun b => RoS c (SS env ps tmps vs w cs bs) b \/ b ∈ bs r (l + 1)) (fun b hb _ => ⟨hb.elim (h1 b) (h2 _ b), rfl⟩) (by simp) (Rep.ro h6.rep)
      | bor _ _ _ => simp [Mode.own] at ho
      | dead => simp [Mode.own] at ho
     ·have := h6.held (by simpa using ho);obtain ⟨t, x, m⟩ := lf;cases m with
      | at_ lv => exact Rep.move (fun b hb _ => ⟨h1 b hb, rfl⟩) (by simp) this.2
      | bor r' j' p => simp [Mode.settled] at hlv
      | dead => simp [Mode.settled] at hlv)
    have hc1 : c1 = [] := Xn.1 (by rw [<- e1]; rfl);subst hc1;rw [Xf] at e0;subst e0;refine ⟨⟨B, 0, none⟩, cs r, g3, h2 0 B (by grind), (Xv.1 k2).1, fun j u hu => ?_, e2⟩;rw [Y1e];unfold World.cell?;rw [show w.heap[B]? = _ from k2];simpa using hu
   ·simp at ho
  ·simp at ho
 ·simp at ho
theorem Y7b (h : Rel c (SS env ps tmps vs w cs bs)) (h1 : ∀ b, RoS c (SS env ps tmps vs w cs bs) b -> S b) : ∀ {qs : List (Nat × Nat)} {ts : List Ty} {xs : List (Σ t : Ty, t.D)} {us : List Value}, capsOf env qs ts = some xs -> PtrRels (SS env ps tmps vs w cs bs) qs us -> (∀ q ∈ qs.map (·.1), ∀ l, ∀ b ∈ bs q l, S b) -> PtrVs S w xs us
 | [], [], xs, us, ho, hp, h2 => by simp [capsOf] at ho; subst ho; exact hp
 | [], t :: ts, xs, us, ho, hp, h2 => by simp [capsOf] at ho
 | q :: qs, [], xs, us, ho, hp, h2 => by simp [capsOf] at ho
 | (r, off) :: qs, t :: ts, xs, us, ho, ⟨v, vs', e, hp1, hp2⟩, h2 => by
  simp [capsOf] at ho;cases hx : ptrOf env t r off with
  | none => grind
  | some x =>
   rw [hx] at ho;cases hxs : capsOf env qs ts with
   | none => simp_all
   | some xs' =>
    rw [hxs] at ho;simp at ho;subst ho;exact ⟨v, vs', e, Y5i h hx hp1 h1 (h2 r (by simp)), Y7b h h1 hxs hp2 (fun q hq => h2 q (by simp at hq ⊢; exact .inr hq))⟩
theorem Y9j (h : Rel c (SS env ps tmps vs w cs bs)) {p : PTy} {rv : RV} (hv : ValC c (SS env ps tmps vs w cs bs) av v cells) (ho : RVof caps env p av = some rv) (h1 : ∀ b, RoS c (SS env ps tmps vs w cs bs) b -> S b) (h2 : ∀ q ∈ av.refs, ∀ b ∈ bs q.1 (q.2 + 1), S b) (h3 : ∀ q ∈ av.ptrs, ∀ l, ∀ b ∈ bs q l, S b) : RVRel S w rv v := by
 unfold RVof at ho;split at ho
 ·rename_i t k ls;split at ho
  ·rename_i hc;simp only [X9, X1a] at hc;obtain ⟨rfl, hlive⟩ := hc;split at ho
   ·rename_i x hasm;simp only [X0] at ho;subst ho;obtain ⟨g1, g2, g3⟩ := hv;obtain ⟨c0, c1, e0, e1, e2, _⟩ := Y30 (S := S) (w := w) t hasm g2 (fun l lf u hl hu => by
     have h6 := g3 l lf u (by rw [Y1]; exact hl) hu;have hlv : lf.m.live = true := by grind
     exact h6.rep hlv h1 (fun q hq => h2 q (by simp only [AV.refs, Xj]; exact ⟨lf, X8 hl, hq⟩)))
    have hc1 : c1 = [] := Xn.1 (by rw [<- e1]; rfl);subst hc1;rw [Xf] at e0;subst e0;refine ⟨cells, ?_, e2⟩;unfold Ty.kind at g1;cases hag : t.isAgg with
    | true => rw [hag] at g1; simpa [mkV] using g1.1
    | false =>
     rw [hag] at g1;simp at g1;rw [g1.1];rfl
   ·simp at ho
  ·simp at ho
 ·rename_i t r off;split at ho
  ·rename_i x hx;simp at ho;subst ho;exact Y5i h hx hv h1 (h3 r (by simp [AV.ptrs]))
  ·simp at ho
 ·rename_i t ls;split at ho
  ·rename_i hlive;split at ho
   ·rename_i x hasm;simp at ho;subst ho;obtain ⟨a, rfl, g2, g3⟩ := hv
    let ch : List Value := (List.range ls.length).map fun l => (w.cell? (a.add l)).getD undef
    have hch : ∀ (l : Nat) (u : Value), ch[l]? = some u -> l < ls.length /\ w.cell? (a.add l) = some u := by
     intro l u hu;simp only [ch, X14, Xu] at hu;obtain ⟨l', hl', rfl⟩ := hu;have hll : l < ls.length := by grind
     have : l' = l := by grind
     subst this;obtain ⟨_, u', hu', _⟩ := g2 l' ls[l'] (by rw [Y1]; exact X1 hll);exact ⟨hll, by rw [hu']; rfl⟩
    obtain ⟨c0, c1, e0, e1, e2, _⟩ := Y30 (S := S) (w := w) (cells := ch) t hasm (by simp [ch]) (fun l lf u hl hu => by
     obtain ⟨k1, u', k2, k3⟩ := g2 l lf (by rw [Y1]; exact hl);obtain ⟨_, k4⟩ := hch l u hu;rw [k4] at k2;have : u = u' := Xs k2;subst this;have hlv : lf.m.live = true := by simpa using Xa.1 hlive lf (X8 hl)
     exact k3.rep hlv h1 (fun q hq => h2 q (by simp only [AV.refs, Xf, Xj]; exact ⟨lf, X8 hl, hq⟩)))
    have hc1 : c1 = [] := Xn.1 (by rw [<- e1]; rfl);subst hc1;rw [Xf] at e0;exact ⟨a, ch, rfl, h1 _ g3.1, g3.2, fun j u hu => (hch j u hu).2, by grind⟩
   ·simp at ho
  ·simp at ho
 ·rename_i f xs;simp at ho;subst ho;obtain ⟨us, e, hp⟩ := hv;exact ⟨us, e, hp.move (fun b hb _ => ⟨h1 b hb, rfl⟩)⟩
 ·rename_i f qs;split at ho
  ·rename_i xs hx;simp at ho;subst ho;obtain ⟨us, e, hp⟩ := hv;exact ⟨us, e, Y7b h h1 hx hp (fun q hq => h3 q (by simpa [AV.ptrs] using hq))⟩
  ·simp at ho
 ·simp at ho
def ValCs (c : Cx) (s : St) : List AV -> List Value -> Prop
 | [], us => us = []
 | v :: vs, us => ∃ u us', us = u :: us' /\ (∃ cells, ValC c s v u cells) /\ ValCs c s vs us'
theorem Y40 (h : Rel c (SS env ps tmps vs w cs bs)) (h1 : ∀ b, RoS c (SS env ps tmps vs w cs bs) b -> S b) : ∀ {ptys : List PTy} {avs : List AV} {us : List Value} {rvs : List RV}, ValCs c (SS env ps tmps vs w cs bs) avs us -> RVs caps env ptys avs = some rvs ->
  (∀ v ∈ avs, ∀ q ∈ v.refs, ∀ b ∈ bs q.1 (q.2 + 1), S b) -> (∀ v ∈ avs, ∀ q ∈ v.ptrs, ∀ l, ∀ b ∈ bs q l, S b) -> RVRels S w rvs us
 | [], [], us, rvs, hv, ho, h2, h3 => by simp [RVs] at ho; subst ho; exact hv
 | [], v :: avs, us, rvs, hv, ho, h2, h3 => by simp [RVs] at ho
 | p :: ptys, [], us, rvs, hv, ho, h2, h3 => by simp [RVs] at ho
 | p :: ptys, v :: avs, us, rvs, ⟨u, us', e, ⟨cells, hv1⟩, hv2⟩, ho, h2, h3 => by
  simp [RVs] at ho;cases hx : RVof caps env p v with
  | none => simp_all
  | some x =>
   rw [hx] at ho;cases hxs : RVs caps env ptys avs with
   | none => grind
   | some xs' =>
    rw [hxs] at ho;simp at ho;subst ho;exact ⟨u, us', e, Y9j h hv1 hx h1 (h2 v Xo) (h3 v Xo), Y40 h h1 hv2 hxs (fun v hv => h2 v (X3 _ hv)) (fun v hv => h3 v (X3 _ hv))⟩
end
theorem Y5j {α : Type} : ∀ {k : Nat} {l : List α} {x : α} {m : List α}, splitN k l = some (x, m) -> l = insN k x m /\ k <= m.length
 | 0, [], x, m, h => by simp [splitN] at h
 | 0, y :: l, x, m, h => by
  simp [splitN] at h;obtain ⟨rfl, rfl⟩ := h;exact ⟨rfl, X2w _⟩
 | k + 1, [], x, m, h => by simp [splitN] at h
 | k + 1, y :: l, x, m, h => by
  simp [splitN] at h;split at h
  ·rename_i x' m' hs;simp at h;obtain ⟨rfl, rfl⟩ := h;obtain ⟨h1, h2⟩ := Y5j hs;exact ⟨by rw [h1]; rfl, by simpa using h2⟩
  ·simp at h
theorem Y6x {α : Type} : ∀ {k : Nat} {x y : α} {l m : List α}, insN k x l = insN k y m -> x = y /\ l = m
 | 0, x, y, l, m, h => by simpa [insN] using h
 | k + 1, x, y, [], [], h => by simpa [insN] using h
 | k + 1, x, y, a :: l, b :: m, h => by
  simp [insN] at h;obtain ⟨h1, h2⟩ := Y6x h.2;exact ⟨h1, by rw [h.1, h2]⟩
 | k + 1, x, y, [], b :: m, h => by
  simp [insN] at h;exact absurd h.2 (by cases k <;> cases m <;> simp [insN])
 | k + 1, x, y, b :: m, [], h => by
  simp [insN] at h;exact absurd h.2.symm (by cases k <;> cases m <;> simp [insN])
theorem Y9k {α β : Type} (f : α -> β) : ∀ (k : Nat) (x : α) (l : List α), (insN k x l).map f = insN k (f x) (l.map f)
 | 0, x, l => rfl
 | k + 1, x, [] => rfl
 | k + 1, x, y :: l => by simp [insN, Y9k f k x l]
theorem Y52 {α : Type} : ∀ (k : Nat) (x : α) (l : List α), (insN k x l).length = l.length + 1
 | 0, x, l => rfl
 | k + 1, x, [] => rfl
 | k + 1, x, y :: l => by simp [insN, Y52 k x l]
theorem Y9l : ∀ {k : Nat} {a : AV} {as : Env} (r : Nat), k <= as.length -> get (insN k a as) r = if r < k then get as r else if r = k then a else get as (r - 1)
 | 0, a, as, 0, _ => rfl
 | 0, a, as, r + 1, _ => by simp [insN, get]
 | k + 1, a, [], r, h => by simp at h
 | k + 1, a, y :: as, 0, h => by simp [insN, get]
 | k + 1, a, y :: as, r + 1, h => by
  have := Y9l (k := k) (a := a) (as := as) r (by simpa using h);simp [insN, get, this];by_cases h1 : r < k
  ·grind
  ·rw [X2 h1, X2 h1];by_cases h2 : r = k
   ·simp_all
   ·rw [X2 h2, X2 h2];cases r with
    | zero => omega
    | succ r => rfl
theorem Y8g : ∀ {k : Nat} {a : Value} {as : List Value} (r : Nat), k <= as.length -> (insN k a as).getD r undef = if r < k then as.getD r undef else if r = k then a else as.getD (r - 1) undef
 | 0, a, as, 0, _ => rfl
 | 0, a, as, r + 1, _ => by simp [insN]
 | k + 1, a, [], r, h => by simp at h
 | k + 1, a, y :: as, 0, h => by simp [insN]
 | k + 1, a, y :: as, r + 1, h => by
  have := Y8g (k := k) (a := a) (as := as) r (by simpa using h);simp only [insN, List.getD_cons_succ, this, Nat.add_lt_add_iff_right, Nat.add_right_cancel_iff, Nat.add_sub_cancel];by_cases h1 : r < k
  ·simp_all
  ·grind
theorem Yi {bds : List (List Nat)} {l b : Nat} (h : b ∈ bds.getD l []) : b ∈ bds.flatten := by
 rw [Xh] at h;cases hl : bds[l]? with
 | none => rw [hl] at h; simp at h
 | some x => rw [hl] at h; exact X35.2 ⟨x, X8 hl, h⟩
theorem Y14 : ∀ {bds : List (List Nat)}, bds.flatten.Nodup -> (∀ l, (bds.getD l []).Nodup) /\ ∀ l l' b, b ∈ bds.getD l [] -> b ∈ bds.getD l' [] -> l = l'
 | [], h => ⟨fun l => by simp, fun l l' b hb => by simp at hb⟩
 | x :: bds, h => by
  simp only [List.flatten_cons, X15] at h;obtain ⟨h1, h2, h3⟩ := h;obtain ⟨k1, k2⟩ := Y14 h2;refine ⟨fun l => ?_, fun l l' b hb hb' => ?_⟩
  ·grind
  ·cases l with
   | zero => cases l' with
    | zero => rfl
    | succ l' => exact absurd rfl (h3 b hb b (Yi (l := l') hb'))
   | succ l => cases l' with
    | zero => exact absurd rfl (h3 b hb' b (Yi (l := l) hb))
    | succ l' => rw [k2 l l' b hb hb']
theorem Ybp (fr : Lvl) (t : Ty) {ch : List Value} {x : t.D} {b : List Nat} (h : Rep S w t fr.res ch x b) :
  (leaves t x (newMode fr) 0).length = ch.length /\ (∀ lf ∈ leaves t x (newMode fr) 0, lf.m.settled = true) /\ ∃ bds : List (List Nat), bds.length = ch.length /\ b = bds.flatten /\
   ∀ (l : Nat) (lf : Leaf) (u : Value), (leaves t x (newMode fr) 0)[l]? = some lf -> ch[l]? = some u -> ∃ m, lf.m = .at_ m /\ Rep S w lf.t m [u] lf.x (bds.getD l []) := by
 exact Y3i fr.res t 0 h
theorem Yep {m : Lvl} {x : t.D} {b : List Nat} (h : Rep S w t m [u] x b) : ∃ m', upgM t (.at_ m) = .at_ m' /\ Rep S w t m' [u] x b := by
 cases t with
 | slice e te =>
  simp only [upgM];by_cases hc : (te.flatB && (Mode.at_ m == .at_ .sh)) = true
  ·rw [X4 hc];simp only [X9, beq_iff_eq, Mode.at_.injEq] at hc;obtain ⟨hf, rfl⟩ := hc;obtain ⟨v, xs, b0, b1, h1, h2, h3, h4⟩ := h;refine ⟨.dp, rfl, v, xs, b0, b1, h1, h2, El.imp (fun c x b _ h => ?_) h3, h4⟩;obtain ⟨e1, e2⟩ := Rep.flat (S' := S) (w' := w) (m' := .dp) hf h;rw [e1]; exact e2
  ·grind
 | _ => exact ⟨m, rfl, h⟩
theorem Yau {m : Mode} (h : m.settled = true) : (upgM t m).settled = true := by
 unfold upgM;split
 ·split
  ·rfl
  ·exact h
 ·exact h
theorem Yf0 {m : Mode} (h : ∀ k, m ≠ .at_ (.pn k)) : ∀ k, upgM t m ≠ .at_ (.pn k) := by
 intro k;unfold upgM;split
 ·grind
 ·exact h k
theorem Y3p {base : Nat} {B : List Nat} : ∀ {rs : List (Ty × Lvl)} {xs : List (Σ t : Ty, t.D)} {chs : List (List Value)} {bs : List Nat} {sh : List (Bool × Nat)} {ls : List Leaf}, ResRel S base w B rs xs chs bs -> resLeaves rs xs = some (sh, ls) ->
  TupCells sh (resVals rs chs) chs.flatten /\ ls.length = chs.flatten.length /\ (∀ lf ∈ ls, lf.m.settled = true) /\ ∃ bds : List (List Nat), bds.length = ls.length /\ bs = bds.flatten /\
   ∀ (l : Nat) (lf : Leaf) (u : Value), ls[l]? = some lf -> chs.flatten[l]? = some u -> ∃ m, lf.m = .at_ m /\ Rep (fun k => (S k \/ base <= k) /\ k ∉ B) w lf.t m [u] lf.x (bds.getD l [])
 | [], xs, chs, bs, sh, ls, ⟨e1, e2, e3⟩, h => by
  subst e1; subst e2; subst e3;simp [resLeaves] at h;obtain ⟨rfl, rfl⟩ := h;exact ⟨⟨rfl, rfl⟩, rfl, by simp, [], rfl, rfl, by simp⟩
 | (t, fr) :: rs, xs, chs, bs, sh, ls, ⟨x, xs', ch, chs', b, b', e1, e2, e3, h1, h2⟩, h => by
  subst e1; subst e2; subst e3;simp [resLeaves] at h;cases hr : resLeaves rs xs' with
  | none => rw [hr] at h; simp at h
  | some q =>
   obtain ⟨sh', ls'⟩ := q;rw [hr] at h;simp [dif_pos] at h;obtain ⟨rfl, rfl⟩ := h;obtain ⟨k1, k2, k3, bds', k4, k5, k6⟩ := Y3p h2 hr;obtain ⟨m1, m2, bds, m3, m4, m5⟩ := Ybp fr t h1;have hsz : ch.length = t.sz := Rep.len h1;refine ⟨?_, by simp [m1, k2], fun lf hlf => ?_, bds ++ bds', by simp [m3, m1, k4], by rw [List.flatten_append, m4, k5], fun l lf u hl hu => ?_⟩
   ·refine ⟨mkV t.isAgg ch, resVals rs chs', ch, chs'.flatten, rfl, by simp, hsz, ?_, k1⟩;cases hag : t.isAgg with
    | true => simp [mkV]
    | false =>
     obtain ⟨u, rfl⟩ := X1u.1 (hsz.trans (Y3j hag));simp [mkV];exact Rep.one h1 u (by simp)
   ·rcases X5.1 hlf with hlf | hlf
    ·obtain ⟨lf0, h0, rfl⟩ := X19.1 hlf;exact Yau (m2 lf0 h0)
    ·grind
   ·simp at hu;have m1' : ((leaves t x (newMode fr) 0).map Leaf.upg).length = ch.length := by grind
    by_cases hlt : l < ch.length
    ·rw [Xp (by omega)] at hl;rw [Xp hlt] at hu;rw [X14] at hl;obtain ⟨lf0, hl0, rfl⟩ := Xu.1 hl;obtain ⟨m, n1, n2⟩ := m5 l lf0 u hl0 hu;obtain ⟨m', n3, n4⟩ := Yep n2;refine ⟨m', by show upgM lf0.t lf0.m = _; rw [n1]; exact n3, ?_⟩;rw [Xh, Xp (by omega), <- Xh];exact n4
    ·grind
theorem Y2c : ∀ {rs : List (Ty × Lvl)} {xs : List (Σ t : Ty, t.D)} {sh : List (Bool × Nat)} {ls : List Leaf}, resLeaves rs xs = some (sh, ls) -> ∀ lf ∈ ls, ∀ h, lf.m ≠ .at_ (.pn h)
 | [], [], sh, ls, h, lf, hl => by
  simp [resLeaves] at h;obtain ⟨rfl, rfl⟩ := h;simp at hl
 | [], _ :: _, sh, ls, h, lf, hl => by simp [resLeaves] at h
 | _ :: _, [], sh, ls, h, lf, hl => by simp [resLeaves] at h
 | (t, fr) :: rs, x :: xs, sh, ls, h, lf, hl => by
  simp only [resLeaves] at h;split at h
  ·cases hr : resLeaves rs xs with
   | none => rw [hr] at h; simp at h
   | some q =>
    obtain ⟨sh', ls'⟩ := q;rw [hr] at h;simp at h;obtain ⟨rfl, rfl⟩ := h;rcases X5.1 hl with hl | hl
    ·obtain ⟨lf0, hl0, rfl⟩ := X19.1 hl;refine Yf0 (fun h' e => ?_);rcases Y21 (lv := fr.res) t _ 0 lf0 hl0 with h0 | h0
     ·grind
     ·rw [h0] at e; cases fr <;> cases e
    ·exact Y2c hr lf hl
  ·simp at h
theorem Y3u (ha : resAV rs xs = some (.con k ls)) : ∀ lf ∈ ls, ∀ h, lf.m ≠ .at_ (.pn h) := by
 unfold resAV at ha;cases hr : resLeaves rs xs with
 | none => simp_all
 | some q =>
  obtain ⟨sh, ls'⟩ := q;rw [hr] at ha;simp [mkCon] at ha;split at ha
  ·simp at ha;rw [<- ha.2]; exact Y2c hr
  ·simp at ha;rw [<- ha.2]; exact Y2c hr
theorem Y4d {base : Nat} {B : List Nat} {chs : List (List Value)} {bs : List Nat} (h : ResRel S base w B rs xs chs bs) (ha : resAV rs xs = some av) :
  ∃ k ls, av = .con k ls /\ KCells c w [] k (resVal rs chs) chs.flatten /\ ls.length = chs.flatten.length /\ (∀ lf ∈ ls, lf.m.settled = true) /\ ∃ bds : List (List Nat), bds.length = ls.length /\ bs = bds.flatten /\
   ∀ (l : Nat) (lf : Leaf) (u : Value), ls[l]? = some lf -> chs.flatten[l]? = some u -> ∃ m, lf.m = .at_ m /\ Rep (fun k => (S k \/ base <= k) /\ k ∉ B) w lf.t m [u] lf.x (bds.getD l []) := by
 unfold resAV at ha;cases hr : resLeaves rs xs with
 | none => grind
 | some q =>
  obtain ⟨sh, ls⟩ := q;rw [hr] at ha;obtain ⟨k1, k2, k3, k4⟩ := Y3p h hr;have tup : ∀ {sh : List (Bool × Nat)} {us cs : List Value}, TupCells sh us cs -> us.length = sh.length := by
   intro sh
   induction sh with
   | nil => intro us cs h; rw [h.1]; rfl
   | cons p sh ih => intro us cs h; obtain ⟨v, vs', c, cs', e, _, _, _, h⟩ := h; rw [e, X1s, ih h, X1s]
  have hul := tup k1;have manyCase : sh.length ≠ 1 -> resVal rs chs = .tuple (resVals rs chs).toArray := by
   intro hsh;unfold resVal;split
   ·grind
   ·rfl
  simp only at ha;split at ha
  ·rename_i agg n;simp at ha;subst ha;refine ⟨_, ls, rfl, ?_, k2, k3, k4⟩;obtain ⟨v, vs', c, cs', e1, e2, e3, e4, e5, e6⟩ := k1;have hv : resVals rs chs = [v] := by rw [e1, e5]
   have : resVal rs chs = v := by unfold resVal; rw [hv]
   rw [this, e2, e6, Xf];cases agg with
   | true => exact ⟨by simpa using e4, rfl⟩
   | false => simp at e4; exact ⟨e4.1, rfl⟩
  ·rename_i hsh;simp at ha;subst ha;refine ⟨_, ls, rfl, ⟨rfl, resVals rs chs, manyCase (fun h1 => ?_), k1⟩, k2, k3, k4⟩;obtain ⟨⟨agg, n⟩, rfl⟩ := X1u.1 h1;exact hsh agg n rfl
def freezeArgsE (rs : List (Ty × Lvl)) : List AV -> (Nat -> AV) -> (Nat -> AV)
 | [], E => E
 | v :: vs, E => freezeArgsE rs vs (match v with
  | .con _ ls => freezeAllE ls E
  | _ => E)
theorem Y1o (rs : List (Ty × Lvl)) : ∀ (vs : List AV) (env : Env), (freezeArgs rs vs env).length = env.length
 | [], env => rfl
 | v :: vs, env => by
  simp [freezeArgs];rw [Y1o rs vs];cases v <;> first | rfl | exact (Yk _ _).2
theorem Y1r (rs : List (Ty × Lvl)) : ∀ (vs : List AV) {env : Env} {ps : Nat -> AV}, (∀ v ∈ vs, ∀ q ∈ v.refs, q.1 < env.length) -> (∀ r, Settled (ps r)) -> freezeArgsE rs vs (ovl env ps) = ovl (freezeArgs rs vs env) ps
 | [], env, ps, _, _ => rfl
 | v :: vs, env, ps, hv, hs => by
  simp [freezeArgs, freezeArgsE];cases v with
  | con k ls =>
   simp only;rw [Y1h ls (fun l hl q hq => hv _ Xo q (by simp only [AV.refs, Xj]; exact ⟨l, hl, hq⟩)) hs];exact Y1r rs vs (fun v hm q hq => by rw [(Yk ls env).2]; exact hv v (X3 _ hm) q hq) hs
  | _ => exact Y1r rs vs (fun v hm => hv v (X3 _ hm)) hs
theorem Y1f (rs : List (Ty × Lvl)) : ∀ (vs : List AV) (E : Nat -> AV) (r : Nat), (∀ q ∈ (freezeArgsE rs vs E r).refs, q ∈ (E r).refs) /\ (∀ q ∈ (freezeArgsE rs vs E r).ptrs, q ∈ (E r).ptrs)
 | [], E, r => ⟨fun q h => h, fun q h => h⟩
 | v :: vs, E, r => by
  cases v with
  | con k ls =>
   have h1 := Y1f rs vs (freezeAllE ls E) r;have h2 := Y1a ls E r;exact ⟨fun q hq => h2.1 q (h1.1 q hq), fun q hq => h2.2 q (h1.2 q hq)⟩
  | _ => exact Y1f rs vs E r
theorem Rel.freezeArgs_ (rs : List (Ty × Lvl)) : ∀ (vs : List AV) {s : St} (h : Rel c s), allCon vs = true -> ∃ bs', Rel c { s with env := freezeArgsE rs vs s.env, bs := bs' } /\ (∀ r l b, b ∈ bs' r l -> b ∈ s.bs r l) /\ (∀ v ∈ vs, ∀ q ∈ v.refs, bs' q.1 (q.2 + 1) = [])
 | [], s, h, _ => ⟨s.bs, h, fun _ _ _ h => h, by simp⟩
 | v :: vs, s, h, hc => by
  cases v with
  | con k ls =>
   simp [allCon] at hc;obtain ⟨bs1, h1, k1, e1⟩ := h.freezeAll_ ls;obtain ⟨bs2, h2, k2, e2⟩ := Rel.freezeArgs_ rs vs h1 hc;refine ⟨bs2, h2, fun r l b hb => k1 _ _ _ (k2 _ _ _ hb), fun v hv q hq => ?_⟩;rcases Xq.1 hv with rfl | hv
   ·simp only [AV.refs, Xj] at hq;obtain ⟨lf, hlf, hq⟩ := hq;obtain ⟨t, x, m⟩ := lf;cases m with
    | bor r j p =>
     simp [Leaf.refs] at hq;subst hq;have := e1 _ hlf r j p rfl;exact X2b.2 (fun b hb => by grind)
    | at_ _ => simp [Leaf.refs] at hq
    | dead => simp [Leaf.refs] at hq
   ·grind
  | _ => simp [allCon] at hc
theorem Y4p {S S' : Nat -> Prop} {base : Nat} {B : List Nat} : ∀ {rs : List (Ty × Lvl)} {xs : List (Σ t : Ty, t.D)} {chs : List (List Value)} {bs : List Nat}, allFresh rs = true -> ResRel S base w B rs xs chs bs -> ResRel S' base w B rs xs chs bs
 | [], xs, chs, bs, _, h => h
 | (t, fr) :: rs, xs, chs, bs, ha, ⟨x, xs', ch, chs', b, b', e1, e2, e3, h1, h2⟩ => by
  simp [allFresh] at ha;refine ⟨x, xs', ch, chs', b, b', e1, e2, e3, ?_, Y4p ha.2 h2⟩;by_cases hfr : fr = .dp
  ·subst hfr; exact Rep.dpS h1
  ·have hf : t.flatB = true := ha.1.resolve_left hfr;obtain ⟨rfl, h3⟩ := Rep.flat (S' := fun k => (S' k \/ base <= k) /\ k ∉ B) (w' := w) (m' := fr.res) hf h1;exact h3
theorem Y2f (t : Ty) : ∀ (x : t.D) (n : Nat), ∀ lf ∈ leaves t x (fun _ => .at_ .ro) n, lf.m = .at_ .ro := by
 induction t with
 | int k => intro x n lf h; simp [leaves] at h; rw [h]
 | bool => intro x n lf h; simp [leaves] at h; rw [h]
 | str => intro x n lf h; simp [leaves] at h; rw [h]
 | slice e t ih => intro x n lf h; simp [leaves] at h; rw [h]
 | unit => intro x n lf h; simp [leaves] at h
 | pair a b iha ihb =>
  intro x n lf h;simp [leaves] at h;rcases h with h | h
  ·grind
  ·grind
theorem Y31 (t : Ty) (x : t.D) (n : Nat) : (leaves t x (fun _ => .at_ .ro) n).flatMap Leaf.refs = [] := by
 rw [List.flatMap_eq_nil_iff];intro lf h;have := Y2f t x n lf h;obtain ⟨t', x', m⟩ := lf;subst this;rfl
theorem Y7c (x : Σ t : Ty, t.D) : (ptrAV x).refs = [] := by
 unfold ptrAV;simp only [AV.refs, Xf];exact Y31 x.1 x.2 0
theorem Ycx {x : Σ t : Ty, t.D} (h : PtrV (RoS c s) s.w x.1 x.2 v) : ValC c s (ptrAV x) v [] := by
 obtain ⟨a, ch, rfl, hSa, hlt, hcell, hrep⟩ := h;obtain ⟨h1, h2⟩ := Y1u x.1 (fun _ => .at_ .ro) 0 hrep;refine ⟨a, rfl, fun l lf hl => ?_, hSa, hlt⟩;have hm := Y2f x.1 x.2 0 lf (Yb hl);refine ⟨by rw [hm]; rfl, ?_⟩;have hl' := hl;rw [Y1] at hl';have hll : l < ch.length := by grind
 refine ⟨ch[l], hcell l _ (X1 hll), ?_⟩;have := (h2 l lf ch[l] hl' (X1 hll)).1;obtain ⟨t', x', m⟩ := lf;subst hm;exact this
theorem Y53 {c : Cx} {s : St} : ∀ {xs : List (Σ t : Ty, t.D)} {vs : List Value}, PtrVs (RoS c s) s.w xs vs -> ValCs c s (xs.map ptrAV) vs
 | [], vs, h => h
 | x :: xs, vs, ⟨v, vs', e, h1, h2⟩ => ⟨v, vs', e, ⟨[], Ycx h1⟩, Y53 h2⟩
section
variable {P : Program} {o : Oper} {a : Act} {w : World} {R : Type} {K : Env -> Option R} {r : R} {next : Act -> World -> Prop} {Q : Exit -> Act -> World -> Prop} {c : Cx} {d : Nat} {T : Tab} {env : Env}
theorem RP.resultL {w w' : World} {rv : Value} {bds : List (List Nat)}
  (h : RP c env tmps w noP vs) (hS : ∀ cs bs, Rel c (SS env noP tmps vs w cs bs) -> ∃ cs1 bs1, Rel c (SS env noP tmps vs w cs1 bs1) /\ ∀ b, S b -> b < w'.heap.size -> RoS c (SS env noP tmps vs w cs1 bs1) b) (hb : Below w.heap.size w w') (h1 : KCells c w' [] k rv cells) (h2 : ls.length = cells.length) (h3 : ∀ lf ∈ ls, lf.m.settled = true) (h4 : bds.length = ls.length)
  (h6 : ∀ (l : Nat) (lf : Leaf) (u : Value), ls[l]? = some lf -> cells[l]? = some u -> ∃ m, lf.m = .at_ m /\ Rep (fun k => (S k \/ w.heap.size <= k) /\ k ∉ bds.flatten) w' lf.t m [u] lf.x (bds.getD l [])) (hnd : bds.flatten.Nodup) (hfr : ∀ b ∈ bds.flatten, w.heap.size <= b) (hmode : ∀ lf ∈ ls, ∀ h, lf.m ≠ .at_ (.pn h)) :
  RP c env tmps w' (upd noP env.length (.con k ls)) (upd vs env.length rv) := by
 obtain ⟨n1, n2⟩ := Y14 hnd;obtain ⟨hl, cs, bs, hr, hno⟩ := h;obtain ⟨cs1, bs1, hr1, hS1⟩ := hS cs bs hr;have h : RP c env tmps w noP vs := ⟨hl, cs1, bs1, hr1, hno⟩;have hq : (ovl env noP env.length).quiet = true := by rw [Yt (Xi _)]; rfl
 have hltb : ∀ l b, b ∈ bds.getD l [] -> b < w'.heap.size := by
  intro l b hb;have hlt : l < bds.length := by grind
  obtain ⟨m, _, hrep⟩ := h6 l _ _ (X1 (by omega)) (X1 (by omega));exact Rep.lt hrep b hb
 have hbd : ∀ l b, b ∈ (fun l => match l with | 0 => [] | l + 1 => bds.getD l []) l -> w.heap.size <= b /\ b < w'.heap.size := by
  intro l b hb;cases l with
  | zero => simp at hb
  | succ l => exact ⟨hfr b (Yi hb), hltb l b hb⟩
 have hset := hr1.setNew (s := SS env noP tmps vs w cs1 bs1) (d := env.length) hq hb (.con k ls) rv cells (fun l => match l with | 0 => [] | l + 1 => bds.getD l []) hbd
  (fun l l' b hb hb' => by grind)
  (fun l => by grind)
  (fun hkeep hpl hpt => by
   refine ⟨?_, by simp [Y0]; exact h2, fun l hl => ?_, fun l lf u hl hu => ?_⟩
   ·simp [Y0];exact h1.bare rfl
   ·simp only [Y0];rw [Xh, X23 (by omega)];rfl
   ·simp [Y0] at hu;obtain ⟨m, e1, hrep⟩ := h6 l lf u (by rw [<- Y1]; exact hl) hu;obtain ⟨t, x, m'⟩ := lf;simp only at e1;have hmode := hmode _ (Yb hl);subst e1;refine LeafRel.of_rep (by cases m <;> first | trivial | exact absurd rfl (hmode _)) ?_;simp [Y0];refine Rep.move (fun b hb1 hl1 => ⟨?_, rfl⟩) (fun _ _ => rfl) hrep;obtain ⟨hb2, hb3⟩ := hb1;have own_new : ∀ l, b ∉ (fun l => match l with | 0 => [] | l + 1 => bds.getD l []) l := by
     intro l hm;cases l with
     | zero => simp at hm
     | succ l => exact hb3 (Yi hm)
    rcases hb2 with hb2 | hb2
    ·have hro := hS1 b hb2 hl1;by_cases hlt : b < w.heap.size
     ·exact (hkeep b hro hlt).1
     ·refine ⟨fun r' l' hm => ?_, hro.2⟩;simp [upd] at hm;split at hm
      ·exact own_new l' hm
      ·exact hro.1 _ _ hm
    ·refine ⟨fun r' l' hm => ?_, .inr (hr1.mine_new hb2)⟩;simp [upd] at hm;split at hm
     ·exact own_new l' hm
     ·have : b < w.heap.size := (hr1.own _ _ _ hm).2;omega)
 refine ⟨hl, _, _, Rel.congr hset (Yd (Xi _) _).symm (Y13 (by omega) _).symm, fun r => ?_⟩;rw [Yd (Xi _)];by_cases hrn : r = env.length
 ·subst hrn;rw [Y0, (Yc h3).1, (Yc h3).2];exact ⟨by simp, by simp⟩
 ·rw [Y2 _ _ hrn]; exact hno r
theorem RP.result {c : Cx} {env : Env} {tmps : Array Value} {w w' : World} {vs : Nat -> Value} {S : Nat -> Prop} {rs : List (Ty × Lvl)} {xs : List (Σ t : Ty, t.D)} {chs : List (List Value)} {bsx : List Nat} {av : AV}
  (h : RP c env tmps w noP vs) (hS : ∀ cs bs, Rel c (SS env noP tmps vs w cs bs) -> ∃ cs1 bs1, Rel c (SS env noP tmps vs w cs1 bs1) /\ ∀ b, S b -> b < w'.heap.size -> RoS c (SS env noP tmps vs w cs1 bs1) b) (hb : Below w.heap.size w w') (hres : ResRel S w.heap.size w' bsx rs xs chs bsx) (hnd : bsx.Nodup) (hfr : ∀ b ∈ bsx, w.heap.size <= b) (ha : resAV rs xs = some av) :
  RP c env tmps w' (upd noP env.length av) (upd vs env.length (resVal rs chs)) := by
 obtain ⟨k, ls, rfl, h1, h2, h3, bds, h4, h5, h6⟩ := Y4d hres ha;subst h5;exact h.resultL hS hb h1 h2 h3 h4 h6 hnd hfr (Y3u ha)
theorem Y2o (he : Enterable P f) (args : Array Value) (w : World) : (callFunc f args).run P w = .ok (.enter f args) w := by
 obtain ⟨fn, h1, h2, h3⟩ := he;have h3' : ¬ fn.name = "runtime.NumGoroutine" := by simpa using h3
 have h2' : ¬ fn.body = none := by grind
 simp [callFunc, program, Sem.run, h1, h2', h3']
theorem Y2p (hlen : env.length = tmps.size) (h : Rel c (SS env noP tmps vs w cs bs)) : ∀ {ptys : List PTy} {args : List Operand}, args.length <= ptys.length -> ValCs c (SS env noP tmps vs w cs bs) (rdArgs env ptys args) (args.map (evT tmps)) /\ (rdArgs env ptys args).length = args.length
 | [], [], _ => ⟨rfl, rfl⟩
 | p :: ptys, [], _ => ⟨rfl, rfl⟩
 | [], x :: args, hl => by simp at hl
 | p :: ptys, x :: args, hl => by
  obtain ⟨h1, h2⟩ := Y2p hlen h (ptys := ptys) (args := args) (by simpa using hl);exact ⟨⟨_, _, rfl, Yl hlen h _ x, h1⟩, by simp [rdArgs, h2]⟩
theorem Y3a (hr : RE c env a.tmps w) : ∀ {ptys : List PTy} {args : List Operand}, ∀ v ∈ rdArgs env ptys args, (∀ q ∈ v.refs, q.1 < env.length) /\ (∀ q ∈ v.ptrs, q < env.length)
 | [], args, v, hv => by cases args <;> simp [rdArgs] at hv
 | p :: ptys, [], v, hv => by simp [rdArgs] at hv
 | p :: ptys, x :: args, v, hv => by
  simp [rdArgs] at hv;rcases hv with rfl | hv
  ·exact hr.refs _ x
  ·exact Y3a hr v hv
theorem ValCs.append {s : St} : ∀ {avs avs' : List AV} {us us' : List Value}, ValCs c s avs us -> ValCs c s avs' us' -> ValCs c s (avs ++ avs') (us ++ us')
 | [], avs', us, us', h, h' => by rw [show us = [] from h]; exact h'
 | v :: avs, avs', us, us', ⟨u, us2, e, h1, h2⟩, h' => ⟨u, us2 ++ us', by rw [e]; rfl, h1, h2.append h'⟩
theorem Yeq (hO : OrcOk P sig orc) {cl : Call} {extra : List AV} {ex : List Value} (hop : o.op = .call cl) (hdst : o.dst = some d) (hr : RE c env a.tmps w) (hd : d < env.length)
  (hrun : Enterable P f -> (execOp a.eval o).run P w = .ok (.enter f (cl.args.map (evT a.tmps) ++ ex.toArray)) w) (hex : ∀ vs cs bs, Rel c (SS env noP a.tmps vs w cs bs) -> ValCs c (SS env noP a.tmps vs w cs bs) extra ex) (hexr : ∀ v ∈ extra, (∀ q ∈ v.refs, q.1 < env.length)) (hsg : sig f = some sg) (hbx : sg.box = none /\ sg.newb = none) (hm : sg.muts = false) (how : sg.own = false) (hlen1 : (rdArgs env sg.params cl.args.toList ++ extra).length = sg.params.length) (hlen2 : (rdArgs env sg.params cl.args.toList ++ extra).length = cl.args.toList.length + extra.length) (hfr : allFresh sg.results = true \/ allCon (rdArgs env sg.params cl.args.toList ++ extra) = true) {rvs : List RV} (hrv : RVs caps env sg.params (rdArgs env sg.params cl.args.toList ++ extra) = some rvs) {q : OrcRes} (hq : orc f rvs = some q) (hK : (q.run.bind fun xs => match resAV sg.results (q.pk xs) with
     | none => none
     | some v => K (setD (some d) (if allFresh sg.results then env else freezeArgs sg.results (rdArgs env sg.params cl.args.toList ++ extra) env) v)) = some r) (hn : Next c a K r env.length next) : o.wp P a w next Q := by
 obtain ⟨x0, hres, hK⟩ := Xr.1 hK;obtain ⟨hent, hspec⟩ := hO f sg rvs q x0 hsg hq hres;generalize q.pk x0 = res at *;rw [hbx.1, hbx.2, hm, how] at hspec;cases hra : resAV sg.results res with
 | none => grind
 | some av =>
  rw [hra] at hK;obtain ⟨vs, h⟩ := hr;have hr : RE c env a.tmps w := ⟨vs, h⟩;obtain ⟨hlen, cs, bs, hrel, hno⟩ := h;have h : RP c env a.tmps w noP vs := ⟨hlen, cs, bs, hrel, hno⟩;generalize hvs : rdArgs env sg.params cl.args.toList ++ extra = avs at *;have hargl : cl.args.toList.length <= sg.params.length := by grind
  have hvals : ValCs c (SS env noP a.tmps vs w cs bs) avs (cl.args.toList.map (evT a.tmps) ++ ex) := by
   rw [<- hvs];exact (Y2p hlen hrel hargl).1.append (hex vs cs bs hrel)
  have hrefs : ∀ v ∈ avs, ∀ q ∈ v.refs, q.1 < env.length := by
   intro v hv;rw [<- hvs] at hv;rcases X5.1 hv with hv | hv
   ·exact (Y3a hr v hv).1
   ·grind
  let S : Nat -> Prop := fun b => RoS c (SS env noP a.tmps vs w cs bs) b \/ (if allFresh sg.results then True else ∃ v ∈ avs, ∃ q ∈ v.refs, b ∈ bs q.1 (q.2 + 1))
  have hrvr : RVRels S w rvs (cl.args.toList.map (evT a.tmps) ++ ex) := by
   refine Y40 hrel (fun b hb => .inl hb) hvals hrv (fun v hv q hq b hb => .inr ?_) (fun v hv q hq l b hb => .inr ?_)
   ·grind
   ·split
    ·trivial
    ·rename_i hnf;exfalso;have hac := hfr.resolve_left hnf;have : ∀ {avs : List AV}, allCon avs = true -> ∀ v ∈ avs, v.ptrs = [] := by
      intro avs
      induction avs with
      | nil => simp
      | cons u avs ih =>
       intro hac v hv;cases u with
       | con k ls =>
        rcases Xq.1 hv with rfl | hv
        ·rfl
        ·exact ih hac v hv
       | _ => simp [allCon] at hac
     rw [this hac v hv] at hq;simp at hq
  unfold Oper.wp;rw [hrun hent];have hargs : cl.args.map (evT a.tmps) ++ ex.toArray = (cl.args.toList.map (evT a.tmps) ++ ex).toArray := by grind
  rw [hargs];refine X2j (hspec S w _ hrvr) ?_
  rintro e w' ⟨chs, bsx, rfl, hb, hres, hnd, hfrs⟩
  rw [hdst];by_cases haf : allFresh sg.results = true
  ·rw [X4 haf] at hK;have hp := h.result (S := fun _ => False) (fun cs bs hr => ⟨cs, bs, hr, fun b hb => hb.elim⟩) hb (Y4p haf hres) hnd hfrs hra;have := RE.commit hp hd;rw [Y0] at this;exact hn _ _ _ hK this (by rw [Y18]) rfl
  ·rw [X2 haf] at hK;obtain ⟨bs1, hr1, k1, k2⟩ := hrel.freezeArgs_ sg.results avs (hfr.resolve_left haf);have e := Y1r sg.results avs (ps := noP) hrefs (fun r => .inl rfl);have hl1 := Y1o sg.results avs env;have hr2 : Rel c (SS (freezeArgs sg.results avs env) noP a.tmps vs w cs bs1) := Rel.congr hr1 e rfl;have h1 : RP c (freezeArgs sg.results avs env) a.tmps w noP vs := by
    refine ⟨hl1.trans hlen, cs, bs1, hr2, fun r => ?_⟩;rw [hl1, <- e];have := Y1f sg.results avs (ovl env noP) r;exact ⟨fun q hq => (hno r).1 q (this.1 q hq), fun q hq => (hno r).2 q (this.2 q hq)⟩
   have hp := h1.result (S := S) (fun cs' bs' hr' => ⟨cs, bs1, hr2, fun b hb _ => ?_⟩) hb hres hnd hfrs hra
   ·have := RE.commit hp (by rw [hl1]; exact hd);rw [Y0] at this;exact hn _ _ _ hK this (by rw [Y18, hl1]) rfl
   ·rcases hb with hb | hb
    ·exact ⟨fun r l hm => hb.1 r l (k1 r l b hm), hb.2⟩
    ·rw [X2 haf] at hb;obtain ⟨v, hv, q, hq, hb⟩ := hb;refine ⟨fun r l hm => ?_, .inr (hrel.own _ _ _ hb).1⟩;have hm' : b ∈ bs r l := k1 r l b hm;obtain ⟨rfl, rfl⟩ := hrel.disj _ _ _ _ _ hm' hb;have : b ∈ bs1 q.1 (q.2 + 1) := hm;rw [k2 v hv q hq] at this;simp at this
end
end Go.FP
