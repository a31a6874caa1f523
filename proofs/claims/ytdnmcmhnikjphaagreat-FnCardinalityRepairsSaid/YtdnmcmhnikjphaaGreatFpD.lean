/- How Go values lie in memory, and an evaluator of code with its soundness (part 4 of 7). Conditions: those that stand in each theorem; nothing is assumed of any program. -/
import Derived.Test.YtdnmcmhnikjphaaGreatFpC

set_option linter.unusedVariables false
set_option linter.unusedSimpArgs false
set_option linter.unnecessarySimpa false

namespace Go.FP
open Go.RowKit
variable {S : Nat -> Prop} {w : World} {env : Env} {tmps : Array Value} {vs : Nat -> Value} {ps : Nat -> AV} {cs : Nat -> List Value} {bs : Nat -> Nat -> List Nat} {c : Cx} {s : St} {next : Act -> World -> Prop} {ls : List Leaf} {x : Operand} {t : Ty} {v : Value} {f : FuncId} {e : TypeId} {cells : List Value} {n : Nat} {u : Value} {rs : List (Ty × Lvl)} {k : Kind} {av : AV} {sg : Sig} {lv : Lvl} {τ : Ty} {w' : World} {xs : List (Σ t : Ty, t.D)} {us : List Value} {te : TE}
theorem Yc2 (z : Rel c (SS env ps tmps vs w cs bs)) {r j : Nat} {p : List t.D} (E : lv.deep = true)
  (y : (get env r).leaf? j = some ⟨.slice e t, p, .at_ lv⟩) (Z : 0 < p.length) :
  ∃ B L cells C, (cs r)[j]? = some (.slice (some ⟨B, 0, none⟩) p.length L) /\ bs r (j + 1) = B :: C /\ El (Rep (fun _ => False) w t .dp) t.sz cells p C /\ w.ownsRow 0 e t.sz (.slice (some ⟨B, 0, none⟩) p.length L) p.length cells := by
 have F := Y1g y;have i := z.av r;have O : (SS env ps tmps vs w cs bs).env r = get env r := Y7 F;rw [O] at i;obtain ⟨k, m, I⟩ : ∃ k ls, get env r = .con k ls := by
  cases X : get env r with
  | con k ls => exact ⟨k, ls, rfl⟩
  | _ => rw [X] at y; simp [AV.leaf?] at y
 rw [I] at i y;have l : leafAt m j = some ⟨.slice e t, p, .at_ lv⟩ := y;have W : j < m.length := by rw [Y2] at l; exact (X5.1 l).1
 have Y : m.length = (cs r).length := i.2.1;have G : (cs r)[j]? = some ((cs r)[j]' om) := X1 om;have A := (Rep.deep E).1 (i.2.2.2 j _ _ l G).rep;obtain ⟨v, cells, N, C, D, U, V, q⟩ := A;have D : (cs r)[j]' om = v := by simpa using D
 rw [D] at G;obtain ⟨q, M⟩ := q;rcases M.2 with ⟨_, hn⟩ | ⟨g, cap, cur, rfl, _⟩
 ·omega
 ·have q : N = [g] := q;subst q;exact ⟨g, cap, cells, C, G, U, El.imp (fun c x b hb h => Rep.dpS h) V, M⟩
theorem Ye3 {sz n : Nat} {B k b : Nat} (h : w.ownsRow 0 e sz (.slice (some ⟨B, 0, none⟩) n b) n cells) (i : cells[k]? = some u) : w.cell? ⟨B, k, none⟩ = some u := by
 have := World.ownsRow.cells (g := B) h rfl k u i
 rwa [Y1h, X14] at this
section
variable {P : Program} {o : Oper} {a : Act} {w : World} {R : Type} {K : Env -> Option R} {r0 : R} {next : Act -> World -> Prop} {Q : Exit -> Act -> World -> Prop} {c : Cx} {d : Nat} {T : Tab} {env : Env}
theorem Yc3 (hT : TabOk P T) {t : TypeId} {s x : Operand} {b : Call} {r j m : Nat} {i : Int} (p : o.op = .call b) (z : b.callee = .builtin .append) (g : b.args.toList = [s, x]) (l : b.argTypes.toList = [t, t]) (h : o.dst = some d)
  (C : RE c env a.tmps w) (A : d < env.length) (D : elemAt T t = some te) (q : nestOf env s = some (r, j, i, m)) (y : appendN d te r j i m x env K = some r0) (B : Next c a K r0 env.length next) : o.wp P a w next Q := by simp [nestOf] at q
end
section
variable {P : Program} {o : Oper} {a : Act} {w : World} {R : Type} {K : Env -> Option R} {r0 : R} {next : Act -> World -> Prop} {Q : Exit -> Act -> World -> Prop} {c : Cx} {d : Nat} {T : Tab} {env : Env}
theorem Y9x (hT : TabOk P T) {t : TypeId} {x v : Operand} {s r j g : Nat} {i : Int} {l : Leaf} (m : o.op = .store t x v) (b : o.dst = none) (y : RE c env a.tmps w) (h : growOf env v = some (s, r, j, i, g, l)) (z : T.ty t = some l.t)
  (p : storeGrow s r j i g l x env K = some r0) (q : Next c a K r0 env.length next) : o.wp P a w next Q := by simp [growOf] at h
end
abbrev Places := List (Nat × Nat × Leaf)
theorem Y24 (L : Places) (r : Nat) : ∀ (k : Nat) (ls : List Leaf) (l : Nat), (renewLs L r k ls)[l]? = (ls[l]?).map fun lf => (lookM L r (k + l)).getD lf
 | k, [], l => by simp [renewLs]
 | k, u :: ls, 0 => by simp [renewLs]
 | k, u :: ls, l + 1 => by simp [renewLs, Y24 L r (k + 1) ls l, X2b, Nat.add_comm 1 l]
theorem Y36 (L : Places) (r : Nat) : ∀ (k : Nat) (ls : List Leaf), (renewLs L r k ls).length = ls.length
 | k, [] => rfl
 | k, u :: ls => by simp [renewLs, Y36 L r (k + 1) ls]
theorem Y5n (L : Places) : ∀ (k : Nat) (env : Env) (r : Nat), get (renewEnv L k env) r = (get env r).renew L (k + r)
 | k, [], r => by simp [renewEnv, get, AV.renew]
 | k, u :: env, 0 => by simp [renewEnv, get]
 | k, u :: env, r + 1 => by simp [renewEnv, get, Y5n L (k + 1) env r, X2b, Nat.add_comm 1 r]
theorem Y4f (L : Places) : ∀ (k : Nat) (env : Env), (renewEnv L k env).length = env.length
 | k, [] => rfl
 | k, u :: env => by simp [renewEnv, Y4f L (k + 1) env]
theorem Y28 (L : Places) (env : Env) : (syncs L env).length = env.length := by unfold syncs; rw [Y4f, Y8]
theorem Yd6 (L : Places) (env : Env) (r : Nat) : get (syncs L env) r = ((get env r).chg (syncsG L)).renew L r := by unfold syncs; rw [Y5n, Y12, X14]
theorem Yc4 {L : Places} {r : Nat} (h : ∀ j, lookM L r j = none) (v : AV) : v.renew L r = v := by
 cases v with
 | con k ls =>
  simp only [AV.renew, AV.con.injEq, true_and];apply X24;intro l;rw [Y24, h];cases ls[l]? <;> rfl
 | _ => rfl
theorem Yb1 (L : Places) : Fewer (syncsG L) := fun r j p l => by
 simp [syncsG];split
 ·cases p with
  | nil => exact .inr rfl
  | cons a p => exact .inl rfl
 ·exact .inr rfl
theorem Yc5 {L : Places} (p : ∀ q j n, lookM L q j = some n -> ∃ lv, n.m = .at_ lv) (r : Nat) (v : AV) : (∀ z ∈ (v.renew L r).refs, z ∈ v.refs) /\ (∀ z ∈ (v.renew L r).ptrs, z ∈ v.ptrs) := by
 cases v with
 | con k ls =>
  refine ⟨fun z b => ?_, fun z b => b⟩;simp only [AV.renew, AV.refs, Xi] at b ⊢;obtain ⟨lf, g, b⟩ := b;obtain ⟨l, i⟩ := Xx g;rw [Y24] at i;obtain ⟨B, y, rfl⟩ := Xv.1 i;cases h : lookM L r (0 + l) with
  | none => grind
  | some n =>
   rw [h] at b;obtain ⟨lv, A⟩ := p _ _ _ h;obtain ⟨t, x, m⟩ := n;subst A;simp [Leaf.refs] at b
 | _ => exact ⟨fun z b => b, fun z b => b⟩
theorem RP.syncsAt (hlen : env.length = tmps.size) (F : Rel c (SS env noP tmps vs w cs bs)) (hno : ∀ r, (∀ q ∈ (ovl env noP r).refs, q.1 < env.length) /\ (∀ q ∈ (ovl env noP r).ptrs, q < env.length)) {L : Places} (hL : ∀ q j n, lookM L q j = some n -> ∃ x lv, (get env q).leaf? j = some ⟨n.t, x, .at_ lv⟩ /\ n.m = .at_ lv /\ lv.deep = true) (hbel : Below c.base w w')
  (U : ∀ b, b < w.heap.size -> (∀ q j n, lookM L q j = some n -> b ∉ bs q (j + 1)) -> w'.heap[b]? = w.heap[b]?)
  (Y : Nat -> Nat -> List Nat)
  (hbd1 : ∀ q j n, lookM L q j = some n -> ∀ b ∈ Y q j, b < w'.heap.size /\ (w.heap.size <= b \/ ∃ q' X n', lookM L q' X = some n' /\ b ∈ bs q' (X + 1)))
  (hbd2 : ∀ q j n, lookM L q j = some n -> (Y q j).Nodup)
  (hbd3 : ∀ q j n q' X n' b, lookM L q j = some n -> lookM L q' X = some n' -> b ∈ Y q j -> b ∈ Y q' X -> q = q' /\ j = X)
  (hrep : ∀ q j n u, lookM L q j = some n -> (cs q)[j]? = some u -> Rep (fun _ => False) w' n.t .dp [u] n.x (Y q j)) :
  RP c (syncs L env) tmps w' noP vs := by
 let g : Chg := syncsG L
 let s : St := SS env noP tmps vs w cs bs
 let bs' : Nat -> Nat -> List Nat := fun p l => match l with
  | 0 => bs p 0
  | j + 1 => match lookM L p j with | some _ => Y p j | none => bs p (j + 1)
 let E : Nat -> AV := fun p => ((ovl env noP p).chg g).renew L p
 let s' : St := ⟨E, ovlT tmps vs, w', cs, bs'⟩
 let D : Nat -> Prop := fun p => ∃ j n, lookM L p j = some n
 have eb0 : ∀ p, s'.bs p 0 = bs p 0 := fun p => rfl;have ebS : ∀ {p j n}, lookM L p j = some n -> s'.bs p (j + 1) = Y p j := fun {p j n} h => by show (match lookM L p j with | some _ => Y p j | none => bs p (j + 1)) = _; rw [h]
 have V : ∀ {p j}, lookM L p j = none -> s'.bs p (j + 1) = bs p (j + 1) := fun {p j} h => by show (match lookM L p j with | some _ => Y p j | none => bs p (j + 1)) = _; rw [h]
 have part : ∀ p l b, b ∈ s'.bs p l -> (b ∈ bs p l /\ ∀ j, l = j + 1 -> lookM L p j = none) \/ ∃ j n, l = j + 1 /\ lookM L p j = some n /\ b ∈ Y p j := by
  intro p l b G;cases l with
  | zero => exact .inl ⟨G, fun j h => om⟩
  | succ j =>
   cases C : lookM L p j with
   | none => rw [V C] at G; exact .inl ⟨G, fun X h => by rw [<- Nat.succ.inj h]; exact C⟩
   | some n => rw [ebS C] at G; exact .inr ⟨j, n, rfl, C, G⟩
 have hsame : ∀ p, ¬ D p -> s'.env p = (s.env p).chg g /\ s'.tm p = s.tm p /\ s'.cs p = s.cs p /\ s'.bs p = s.bs p := fun p hp => by
  have hn : ∀ j, lookM L p j = none := fun j => by
   cases C : lookM L p j with
   | none => rfl
   | some n => exact absurd ⟨j, n, C⟩ hp
  refine ⟨Yc4 hn _, rfl, rfl, ?_⟩;funext l;cases l with
  | zero => rfl
  | succ j => exact V (hn j)
 have hne : ∀ (p i b : Nat), lookM L p i = none -> b ∈ bs p (i + 1) -> w'.heap[b]? = w.heap[b]? := fun p i b C G =>
  U b (F.own _ _ _ G).2 (fun q j n hq Z => by
   obtain ⟨rfl, M⟩ := F.disj _ _ _ _ _ G Z;obtain rfl : i = j :=om;rw [C] at hq; simp at hq)
 have hne0 : ∀ (p b : Nat), b ∈ bs p 0 -> w'.heap[b]? = w.heap[b]? := fun p b G =>
  U b (F.own _ _ _ G).2 (fun q j n hq Z => by have := (F.disj _ _ _ _ _ G Z).2; omega)
 -- a root that is changed
 have hcon : ∀ p j n, lookM L p j = some n -> ∃ k I, get env p = .con k I /\ p < env.length := fun p j n C => by
  obtain ⟨x, lv, A, _, _⟩ := hL p j n C;cases W : get env p with
  | con k ls => exact ⟨k, ls, rfl, Yx W⟩
  | _ => rw [W] at A; simp [AV.leaf?] at A
 have N : ∀ {p k I}, ovl env noP p = .con k I -> s'.env p = .con k (renewLs L p 0 (chgs g I)) := fun {p k I} h => by
  show ((ovl env noP p).chg g).renew L p = _;rw [h]; rfl
 have hleafN : ∀ {p i lf}, lookM L p i = none -> (s.env p).leaf? i = some lf -> lf.m.own = true -> (s'.env p).leaf? i = some lf := fun {p i lf} C A M => by
  have A : (ovl env noP p).leaf? i = some lf := A;cases W : ovl env noP p with
  | con k ls =>
   rw [W] at A;rw [N W];have A : leafAt ls i = some lf := A;show leafAt _ i = _;rw [Y2, Y24, X14, C, <- Y2, Yf, A];simp [Y7k M]
  | _ => rw [W] at A; simp [AV.leaf?] at A
 have hstay : ∀ p i, lookM L p i = none -> SamePl s s' p i := fun p i C =>
  ⟨fun lf u ⟨o1, o2, o3⟩ => ⟨hleafN C o1 o2, o2, o3⟩, V C, fun b G => hne p i b C G⟩
 have hown : ∀ p i n u, lookM L p i = some n -> (cs p)[i]? = some u -> OwnPlace s' p i n u := fun p i n u C hu => by
  obtain ⟨x, lv, A, M, h3⟩ := hL p i n C;obtain ⟨k, I, W, hp⟩ := hcon p i n C;refine ⟨?_, by rw [M]; exact Y9v h3, hu⟩;rw [N (by rw [Y7 hp, W])];rw [W] at A;have A : leafAt I i = some _ := A;show leafAt _ i = _;rw [Y2, Y24, X14, C, <- Y2, Yf, A];rfl
 have hptr : ∀ p, SamePtr s s' p := fun p => ⟨rfl, fun e ls he => ⟨e, _, N he⟩⟩;have hgL : Keeps c s s' -> ChgLeaf c s s' g (fun _ _ => True) := by
  intro C u' t' x' p i pa _ hbor;cases O : lookM L p i with
  | none =>
   have hf : g.f p i pa ⟨t', x', .bor p i pa⟩ = ⟨t', x', .bor p i pa⟩ := by simp [g, syncsG, O]
   rw [hf];exact ⟨rfl, hbor.keep C (hstay p i O)⟩
  | some n =>
   cases pa with
   | nil =>
    have hf : g.f p i [] ⟨t', x', .bor p i []⟩ = ⟨n.t, n.x, .bor p i []⟩ := by simp [g, syncsG, O]
    rw [hf];refine ⟨rfl, ?_⟩;obtain ⟨_, ⟨lf', u2, ⟨o1, o2, o3⟩, h5⟩, _⟩ := hbor;obtain ⟨mm, _, rfl⟩ := h5 rfl;refine ⟨?_, ⟨n, u2, hown p i n u2 O o3, fun _ => ⟨_, rfl, rfl⟩⟩, fun _ _ hp => by simp at hp⟩;refine Rep.move (fun b G _ => ⟨?_, rfl⟩) sm (Rep.ro (hrep p i n u2 O o3));rcases G with G | G
    ·exact absurd G id
    ·exact .inr (by rw [ebS O]; exact G)
   | cons z pa =>
    have hf : g.f p i (z :: pa) ⟨t', x', .bor p i (z :: pa)⟩ = Leaf.lost ⟨t', x', .bor p i (z :: pa)⟩ := by simp [g, syncsG, O]
    rw [hf];exact ⟨rfl, Rep.one hbor.1 u' sm⟩
 have hgW : Keeps c s s' -> ChgWr c s s' g (fun _ _ => True) := by
  intro C a p i pa ii oo _ hw;show if (lookM L p i).isSome = true then _ else _
  cases O : lookM L p i with
  | some n => simp only [Option.isSome_some, X1p]; exact .inl rfl
  | none =>
   simp only [Option.isSome_none, Xm, X19];have := Y13 (L := fun p i => lookM L p i = none) C (fun p i hL => hstay p i hL) a p i pa ii oo O hw;simpa [noG] using this
 have hmain : Rel c s' := by
  refine Rel.step (s' := s') g F D (fun _ _ => True) (fun _ => True) hsame hbel
   (fun b G hD => U b G (fun q j n hq => hD q (j + 1) ⟨j, n, hq⟩)) (fun p l b hD G => ?_) (fun p1 l1 p2 l2 b hD hD' hb1 Z => ?_) (fun p l hD => ?_) (fun p _ => ⟨fun _ _ => trivial, fun _ _ => trivial⟩) (fun hkp => ⟨hgL hkp, hgW hkp, fun p hL _ => hptr p⟩) (fun hkp p hD => ?_)
  ·rcases part p l b G with ⟨A, _⟩ | ⟨j, n, rfl, A, M⟩
   ·exact ⟨X1e (F.own _ _ _ A).2 hbel.size, .inr ⟨p, l, hD, A⟩⟩
   ·obtain ⟨k1, k2⟩ := hbd1 p j n A b M;refine ⟨k1, ?_⟩;rcases k2 with k2 | ⟨q', X, n', k3, k4⟩
    ·exact .inl k2
    ·exact .inr ⟨q', X + 1, ⟨X, n', k3⟩, k4⟩
  ·have key : ∀ p l j n q, b ∈ bs p l -> (∀ i, l = i + 1 -> lookM L p i = none) -> lookM L q j = some n -> b ∈ Y q j -> False := by
    intro p l j n q A M h3 h4;rcases (hbd1 q j n h3 b h4).2 with k2 | ⟨q', X, n', k3, k4⟩
    ·have : b < w.heap.size := (F.own _ _ _ A).2;omega
    ·obtain ⟨rfl, h5⟩ := F.disj _ _ _ _ _ A k4;rw [M X h5] at k3; simp at k3
   rcases part p1 l1 b hb1 with ⟨A, h1'⟩ | ⟨j1, n1, rfl, A, h1'⟩ <;> rcases part p2 l2 b Z with ⟨M, h2'⟩ | ⟨j2, n2, rfl, M, h2'⟩
   ·exact F.disj _ _ _ _ _ A M
   ·exact (key _ _ _ _ _ A h1' M h2').elim
   ·exact (key _ _ _ _ _ M h2' A h1').elim
   ·obtain ⟨rfl, rfl⟩ := hbd3 _ _ _ _ _ _ _ A M h1' h2';exact ⟨rfl, rfl⟩
  ·cases l with
   | zero => exact F.nodup _ _
   | succ j =>
    cases C : lookM L p j with
    | none => rw [V C]; exact F.nodup _ _
    | some n => rw [ebS C]; exact hbd2 p j n C
  ·obtain ⟨j0, n0, hk0⟩ := hD;obtain ⟨k, I, W, hp⟩ := hcon p j0 n0 hk0;have hv' : ovl env noP p = .con k I := by rw [Y7 hp, W]
   have hav := F.av p;rw [show (SS env noP tmps vs w cs bs).env p = .con k I from hv'] at hav;obtain ⟨g1, g2, g3, g4⟩ := hav;rw [N hv'];refine ⟨?_, by rw [Y36, Yu]; exact g2, fun l hl' => ?_, fun l lf u' hl' hu' => ?_⟩
   ·rw [eb0];cases k with
    | val => exact g1
    | agg => exact g1
    | tup sh => exact g1
    | tupB i n sh =>
     obtain ⟨B, vs0, c0, c1, k1, k2, k3, k4, k5, k6⟩ := g1;have k5 : bs p 0 = [B] := k5;exact ⟨B, vs0, c0, c1, k1, k2, k3, (hne0 p B (by rw [k5]; simp)).trans k4, k5, k6⟩
    | box e =>
     obtain ⟨B, k1, k2, k3, k9⟩ := g1;have k3 : bs p 0 = [B] := k3;exact ⟨B, k1, (hne0 p B (by rw [k3]; simp)).trans k2, k3, k9⟩
   ·rw [Y36, Yu] at hl';cases C : lookM L p l with
    | none => rw [V C]; exact g3 l hl'
    | some n =>
     exfalso;obtain ⟨x, lv, A, _, _⟩ := hL p l n C;rw [W] at A;have A : leafAt I l = some _ := A;rw [Y2] at A;have := (X5.1 A).1;omega
   ·have hu' : (cs p)[l]? = some u' := hu';rw [Y2, Y24, X14, <- Y2, Yf] at hl';obtain ⟨lfg, hlg, rfl⟩ := Xv.1 hl';obtain ⟨lf0, hlf0, rfl⟩ := Xv.1 hlg;cases C : lookM L p l with
    | none =>
     exact (g4 l lf0 u' hlf0 hu').chg hkp (hgL hkp) (fun z hz => trivial) (V C) (fun b G => hne p l b C G)
    | some n =>
     obtain ⟨x, lv, A, M, h3⟩ := hL p l n C;rw [W] at A;have A : leafAt I l = some _ := A;rw [hlf0] at A;simp only [X0] at A;subst A;have hpin := (g4 l _ u' hlf0 hu').pin;have hr := hrep p l n u' C hu';obtain ⟨t, y, m⟩ := n;simp only at M hr;subst M;refine LeafRel.of_rep hpin ?_;rw [ebS C];exact (Rep.deep h3).2 (Rep.dpS hr)
 have eE : s'.env = ovl (syncs L env) noP := by
  funext p;by_cases hp : p < env.length
  ·rw [Y7 (by rw [Y28]; exact hp), Yd6];show ((ovl env noP p).chg g).renew L p = _;rw [Y7 hp]
  ·rw [Yg (by rw [Y28]; omega)];show ((ovl env noP p).chg g).renew L p = _;rw [Yg om];rfl
 refine ⟨by rw [Y28]; exact hlen, cs, s'.bs, Rel.congr hmain eE rfl, fun p => ?_⟩;rw [<- eE, Y28];have A := Yc5 (L := L) (fun q j n C => let ⟨_, lv, _, h, _⟩ := hL q j n C; ⟨lv, h⟩) p ((ovl env noP p).chg g);have M := Yi (Yb1 L) (ovl env noP p);exact ⟨fun z hz => (hno p).1 z (M.1 z (A.1 z hz)), fun z hz => (hno p).2 z (M.2 z (A.2 z hz))⟩
theorem Y56 : ∀ {t : Ty}, t.flatB = true -> ∀ g ∈ flat t, g.flatB = true
 | .int k, _, g, h => by simp [flat] at h; subst h; rfl
 | .bool, _, g, h => by simp [flat] at h; subst h; rfl
 | .str, _, g, h => by simp [flat] at h; subst h; rfl
 | .slice _ _, hf, _, _ => by simp [Ty.flatB] at hf
 | .unit, _, g, h => by simp [flat] at h
 | .pair a b, hf, g, h => by
  simp [Ty.flatB] at hf;simp [flat] at h;rcases h with h | h
  ·exact Y56 hf.1 g h
  ·exact Y56 hf.2 g h
theorem Y37 : ∀ {rs : List (Ty × Lvl)} {xs : List (Σ t : Ty, t.D)} {sh : List (Bool × Nat)} {ls : List Leaf}, allFlat rs = true -> resLeaves rs xs = some (sh, ls) -> ∀ lf ∈ ls, lf.t.flatB = true
 | [], [], sh, ls, _, h, lf, b => by
  simp [resLeaves] at h;obtain ⟨rfl, rfl⟩ := h;simp at b
 | [], _ :: _, sh, ls, _, h, lf, b => by simp [resLeaves] at h
 | _ :: _, [], sh, ls, _, h, lf, b => by simp [resLeaves] at h
 | (t, fr) :: rs, x :: xs, sh, ls, ha, h, lf, b => by
  simp [allFlat] at ha;simp only [resLeaves] at h;split at h
  ·cases j : resLeaves rs xs with
   | none => rw [j] at h; simp at h
   | some q =>
    obtain ⟨m, l⟩ := q;rw [j] at h;simp at h;obtain ⟨rfl, rfl⟩ := h;rcases X6.1 b with b | b
    ·obtain ⟨g, i, rfl⟩ := X1b.1 b;have : g.t ∈ flat t := by rw [<- Y15 t _ (newMode fr) 0]; exact X1b.2 ⟨g, i, rfl⟩
     exact Y56 ha.1 _ this
    ·exact Y37 ha.2 j lf b
  ·simp at h
theorem Yc6 (h : allFlat rs = true) (b : resAV rs xs = some (.con k ls)) : ∀ lf ∈ ls, lf.t.flatB = true := by
 unfold resAV at b;cases g : resLeaves rs xs with
 | none => grind
 | some q =>
  obtain ⟨j, i⟩ := q;rw [g] at b;simp [mkCon] at b;split at b
  ·simp at b;rw [<- b.2]; exact Y37 h g
  ·simp at b;rw [<- b.2]; exact Y37 h g
theorem Y5o {lv m : Lvl} : ∀ (t : Ty) (x : t.D) (n : Nat), ∀ lf ∈ leaves t x (fun _ => .at_ lv) n, lf.t.flatB = false -> lf.m = .at_ m -> m = lv
 | .int k, x, n, lf, h, hf, hm => by simp [leaves] at h; rw [h] at hf; simp [Ty.flatB] at hf
 | .bool, x, n, lf, h, hf, hm => by simp [leaves] at h; rw [h] at hf; simp [Ty.flatB] at hf
 | .str, x, n, lf, h, hf, hm => by simp [leaves] at h; rw [h] at hf; simp [Ty.flatB] at hf
 | .slice e t, x, n, lf, h, hf, hm => by simp [leaves] at h; rw [h] at hm; simpa using hm.symm
 | .unit, x, n, lf, h, hf, hm => by simp [leaves] at h
 | .pair a b, x, n, lf, h, hf, hm => by
  simp [leaves] at h;rcases h with h | h
  ·exact Y5o a _ _ _ h hf hm
  ·exact Y5o b _ _ _ h hf hm
structure MutSet (env : Env) (ls ns : List Leaf) (L : Places) : Prop where
 len : ls.length = ns.length
 here : ∀ (i : Nat) (l n : Leaf), ls[i]? = some l -> ns[i]? = some n -> (l.t.flatB = true /\ l.m.live = true) \/ (l.t.flatB = false /\ ∃ (r j : Nat) (t0 : Ty) (x0 : t0.D) (lv : Lvl), l.m = .bor r j [] /\ (get env r).leaf? j = some ⟨t0, x0, .at_ lv⟩ /\ lv.deep = true /\ lookM L r j = some ⟨n.t, n.x, .at_ lv⟩)
 back : ∀ (r j : Nat) (m : Leaf), lookM L r j = some m -> ∃ (i : Nat) (l n : Leaf) (lv : Lvl) (t0 : Ty) (x0 : t0.D), ls[i]? = some l /\ ns[i]? = some n /\ l.t.flatB = false /\ l.m = .bor r j [] /\ m = ⟨n.t, n.x, .at_ lv⟩ /\ lv.deep = true /\ (get env r).leaf? j = some ⟨t0, x0, .at_ lv⟩
 uniq : ∀ (i i' : Nat) (l l' : Leaf) (r j : Nat), ls[i]? = some l -> ls[i']? = some l' -> l.t.flatB = false -> l'.t.flatB = false -> l.m = .bor r j [] -> l'.m = .bor r j [] -> i = i'
theorem Y6n : ∀ {ls ns : List Leaf} {L : Places}, mutSet env ls ns = some L -> MutSet env ls ns L
 | [], [], L, h => by
  simp [mutSet] at h;subst h;exact ⟨rfl, sm, fun r j m h => by simp [lookM] at h, sm⟩
 | [], _ :: _, L, h => by simp [mutSet] at h
 | _ :: _, [], L, h => by simp [mutSet] at h
 | l :: ls, n :: ns, L, h => by
  simp [mutSet] at h;split at h
  ·simp at h
  ·rename_i L0 X;obtain ⟨M, k2, N, k4⟩ := Y6n X;split at h
   ·rename_i B;split at h
    ·rename_i hlv;simp at h;subst h;refine ⟨by simp [M], fun i q U G I => ?_, fun r j m b => ?_, fun i i' l1 l2 r j F Y E W O m2 => ?_⟩
     ·cases i with
      | zero => grind
      | succ i => exact k2 i q U G I
     ·obtain ⟨i, h⟩ := N r j m b;exact ⟨i + 1, h⟩
     ·grind
    ·simp at h
   ·rename_i B;have B : l.t.flatB = false := by simpa using B
    split at h
    ·rename_i r0 p C;split at h
     ·rename_i t0 x0 lv D;split at h
      ·rename_i Z;obtain ⟨hd, g⟩ := Z;have g : lookM L0 r0 p = none :=gr;simp at h;subst h;have A : ∀ r j, ¬ (r = r0 /\ j = p) -> lookM ((r0, p, (⟨n.t, n.x, .at_ lv⟩ : Leaf)) :: L0) r j = lookM L0 r j := fun r j h => by simp only [lookM]; rw [X2 h]
       have y : lookM ((r0, p, (⟨n.t, n.x, .at_ lv⟩ : Leaf)) :: L0) r0 p = some ⟨n.t, n.x, .at_ lv⟩ := by simp [lookM]
       have V : ∀ (i : Nat) (q : Leaf), ls[i]? = some q -> q.t.flatB = false -> q.m ≠ .bor r0 p [] := fun i q F E O => gr;refine ⟨by simp [M], fun i q U G I => ?_, fun r j m b => ?_, fun i i' l1 l2 r j F Y E W O m2 => ?_⟩
       ·grind
       ·by_cases z : r = r0 /\ j = p
        ·obtain ⟨rfl, rfl⟩ := z;rw [y] at b;simp at b;subst b;exact ⟨0, l, n, lv, t0, x0, rfl, rfl, B, C, rfl, hd, D⟩
        ·rw [A r j z] at b;obtain ⟨i, h⟩ := N r j m b;exact ⟨i + 1, h⟩
       ·grind
      ·simp at h
     ·simp at h
    ·simp at h
def MutOk (c : Cx) (env : Env) (tmps : Array Value) (w : World) (vs : Nat -> Value) (bs : Nat -> Nat -> List Nat) (t : Ty) (cells : List Value) (ls : List Leaf) (x y : t.D) (L : Places) : Prop :=
 ∃ g : List Nat, Rep (fun _ => False) w t .dp cells x g /\ g.Nodup /\ (∀ b ∈ g, ∃ q ∈ ls.flatMap Leaf.refs, b ∈ bs q.1 (q.2 + 1)) /\
  ∀ (w' : World) (h : List Nat), Below c.base w w' -> (∀ b, b < w.heap.size -> b ∉ g -> w'.heap[b]? = w.heap[b]?) -> Rep (fun _ => False) w' t .dp cells y h -> h.Nodup -> (∀ b ∈ h, b ∈ g \/ w.heap.size <= b) -> RP c (syncs L env) tmps w' noP vs
section
variable {c : Cx} {env : Env} {tmps : Array Value} {w : World} {vs : Nat -> Value} {cs : Nat -> List Value} {bs : Nat -> Nat -> List Nat}
theorem Y89 {g : List (List Nat)} {l b : Nat} (h : b ∈ g.getD l []) : l < g.length :=gr
theorem Yew (hlen : env.length = tmps.size) (B : Rel c (SS env noP tmps vs w cs bs)) (hno : ∀ r, (∀ q ∈ (ovl env noP r).refs, q.1 < env.length) /\ (∀ q ∈ (ovl env noP r).ptrs, q < env.length)) {x y : t.D} {L : Places}
  (hv : ValC c (SS env noP tmps vs w cs bs) (.con k ls) v cells) (hty : typedAs ls t = true) (hx : asm t ls = some (x, [])) (hM : mutSet env ls (leaves t y (fun _ => .at_ .dp) 0) = some L) : MutOk c env tmps w vs bs t cells ls x y L := by
 obtain ⟨k1, k2, k3, k4⟩ := Y6n hM;obtain ⟨g1, g2, g3⟩ := hv;have W : ls.map Leaf.t = flat t := by simpa [typedAs] using hty
 -- a row's place
 have place : ∀ (i : Nat) (l : Leaf) (u : Value) (r j : Nat) (M : Ty) (x0 : M.D) (lv : Lvl), ls[i]? = some l -> cells[i]? = some u -> l.m = .bor r j [] -> (get env r).leaf? j = some ⟨M, x0, .at_ lv⟩ -> lv.deep = true -> (cs r)[j]? = some u /\ M = l.t /\ Rep (fun _ => False) w l.t .dp [u] l.x (bs r (j + 1)) := by
  intro i l u r j M x0 lv Z hu hm hp hd;have h6 := g3 i l u (by rw [Y2]; exact Z) hu;obtain ⟨lt, lx, lm⟩ := l;simp only at hm;subst hm;obtain ⟨_, ⟨lf', u', ⟨o1, o2, o3⟩, h5⟩, _⟩ := h6;obtain ⟨mm, rfl, rfl⟩ := h5 rfl;have hrl : r < env.length := Y1g hp;have o1 : (ovl env noP r).leaf? j = some _ := o1;rw [Y7 hrl, hp] at o1;simp at o1;obtain ⟨rfl, hx0, rfl⟩ := o1;have hx0 : x0 = lx := X2z hx0;subst hx0;refine ⟨o3, rfl, ?_⟩;have Y := B.av r;rw [show (SS env noP tmps vs w cs bs).env r = get env r from Y7 hrl] at Y;cases hv : get env r with
  | con kk ls0 =>
   rw [hv] at Y hp;exact Rep.dpS ((Rep.deep hd).1 (Y.2.2.2 j _ _ hp o3).rep)
  | _ => rw [hv] at hp; simp [AV.leaf?] at hp
 let F : Nat -> List Nat := fun i => match ls[i]? with
  | some l => if l.t.flatB then [] else (match l.m with | .bor r j _ => bs r (j + 1) | _ => [])
  | none => []
 have hFi : ∀ {i : Nat} {l : Leaf}, ls[i]? = some l -> F i = if l.t.flatB then [] else (match l.m with | .bor r j _ => bs r (j + 1) | _ => []) := fun {i l} h => gr
 have hns : (leaves t y (fun _ => .at_ .dp) 0).length = ls.length := k1.symm;have hF : ∀ (i b : Nat), b ∈ F i -> ∃ (l : Leaf) (r j : Nat), ls[i]? = some l /\ l.t.flatB = false /\ l.m = .bor r j [] /\ b ∈ bs r (j + 1) :=gr;have hFb : ∀ {i : Nat} {l : Leaf} {r j : Nat}, ls[i]? = some l -> l.t.flatB = false -> l.m = .bor r j [] -> F i = bs r (j + 1) := fun {i l r j} A G h3 => gr;obtain ⟨c0, c1, e0, _, e2, e3, _⟩ := Y33 (S := fun _ => False) (w := w) (L := .dp) (F := F) t (k := 0) hx g2 (fun l lf u Z hu => by
  rw [X14];have hlt : l < (leaves t y (fun _ => .at_ .dp) 0).length :=gr;rcases k2 l lf _ Z (X1 hlt) with ⟨A, G⟩ | ⟨A, r, j, M, x0, lv, m1, m2, m3, _⟩
  ·have h6 := (g3 l lf u (by rw [Y2]; exact Z) hu).rep (S := fun _ => True) G (fun _ _ => trivial) (fun _ _ _ _ => trivial);rw [hFi Z, A];exact (Rep.flat A h6).2
  ·grind)
 have hc1 : c1 = [] := Xo.1 (by rw [<- e2]; rfl);subst hc1;rw [Xh] at e0;subst e0;have hFnd : ∀ i, (F i).Nodup := fun i => by
  cases Z : ls[i]? with
  | none => grind
  | some l =>
   rw [hFi Z];split
   ·exact X13
   ·split
    ·exact B.nodup _ _
    ·exact X13
 have hFd : ∀ i i' b, b ∈ F i -> b ∈ F i' -> i = i' := fun i i' b A G => by
  obtain ⟨l, r, j, g, D, E, C⟩ := hF i b A;obtain ⟨l', r', j', X, b2, b3, b4⟩ := hF i' b G;obtain ⟨rfl, hj⟩ := B.disj _ _ _ _ _ C b4;obtain rfl : j = j' :=om;exact k4 i i' l l' r j g X D b2 E b3
 refine ⟨(List.range' 0 t.sz).flatMap F, e3, Y2d hFnd hFd _ _, fun b p => ?_, fun w' X hbel hsame hrep' U V => ?_⟩
 ·simp at p;obtain ⟨i, _, p⟩ := p;obtain ⟨l, r, j, g, D, E, C⟩ := hF i b p;exact ⟨(r, j), Xi.2 ⟨l, X8 g, by simp [Leaf.refs, E]⟩, C⟩
 ·obtain ⟨n1, n2, bds, n3, n4, n5⟩ := Y3j .dp t 0 hrep';rw [n4] at U V;obtain ⟨d1, d2⟩ := Y17 U;have hb0 : ∀ b, b ∈ (List.range' 0 t.sz).flatMap F -> ∃ q' j' n', lookM L q' j' = some n' /\ b ∈ bs q' (j' + 1) := fun b p => gr;have hb0' : ∀ q j n, lookM L q j = some n -> ∀ b ∈ bs q (j + 1), b ∈ (List.range' 0 t.sz).flatMap F := fun q j n I b p => gr
  -- which leaf
  have idx : ∀ q j n, lookM L q j = some n -> ∃ (i : Nat), (∃ (l z : Leaf), ls[i]? = some l /\ (leaves t y (fun _ => .at_ .dp) 0)[i]? = some z /\ l.t.flatB = false /\ l.m = .bor q j [] /\ z.t = n.t /\ HEq z.x n.x) := fun q j n I => gr
  classical
  let bd : Nat -> Nat -> List Nat := fun q j => if h : ∃ (i : Nat) (l : Leaf), ls[i]? = some l /\ l.t.flatB = false /\ l.m = .bor q j [] then bds.getD (Classical.choose h) [] else []
  have N : ∀ {q j i : Nat} {l : Leaf}, ls[i]? = some l -> l.t.flatB = false -> l.m = .bor q j [] -> bd q j = bds.getD i [] := fun {q j i l} A G h3 => by
   have hex : ∃ (i : Nat) (l : Leaf), ls[i]? = some l /\ l.t.flatB = false /\ l.m = .bor q j [] := ⟨i, l, A, G, h3⟩;show (if h : _ then _ else _) = _;rw [dif_pos hex];obtain ⟨l', e1, e2, e3⟩ := Classical.choose_spec hex;rw [k4 _ _ _ _ _ _ e1 A e2 G e3 h3]
  have hLok : ∀ q j n, lookM L q j = some n -> ∃ x lv, (get env q).leaf? j = some ⟨n.t, x, .at_ lv⟩ /\ n.m = .at_ lv /\ lv.deep = true := fun q j n I => by
   obtain ⟨i, l, z, lv, M, x0, g, D, E, C, a5, a6, a7⟩ := k3 q j n I;have O : i < cells.length := by rw [<- g2]; exact (X5.1 g).1
   obtain ⟨_, p2, _⟩ := place i l _ q j M x0 lv g (X1 O) C a7 a6;have htt : z.t = l.t := by
    have A : ((leaves t y (fun _ => .at_ .dp) 0).map Leaf.t)[i]? = some z.t := by rw [X18, D]; rfl
    have G : (ls.map Leaf.t)[i]? = some l.t := by rw [X18, g]; rfl
    rw [Y15, <- W, G] at A;exact (Xq A).symm
   subst a5;have e : z.t = M := by rw [htt, p2]
   exact ⟨e ▸ x0, lv, by rw [a7]; cases e; rfl, rfl, a6⟩
  refine RP.syncsAt hlen B hno hLok hbel (fun b p hD => hsame b p (fun hb2 => ?_)) bd (fun q j n I b p => ?_) (fun q j n I => ?_) (fun q j n q' j' n' b I hk' p hb' => ?_) (fun q j n u I hu => ?_)
  ·grind
  ·obtain ⟨i, l, z, g, D, E, C, _⟩ := idx q j n I;rw [N g E C] at p;have hi := Y89 p;obtain ⟨m, _, hr⟩ := n5 i z (cells[i]' om) D (X1 om);refine ⟨Rep.lt hr b p, ?_⟩;rcases V b (Yj p) with h | h
   ·exact .inr (hb0 b h)
   ·exact .inl h
  ·grind
  ·obtain ⟨i, l, z, g, D, E, C, _⟩ := idx q j n I;obtain ⟨i', l', nn', X, b2, b3, b4, _⟩ := idx q' j' n' hk';rw [N g E C] at p;rw [N X b3 b4] at hb';have := d2 i i' b p hb';subst this;rw [g] at X;simp at X;subst X;rw [C] at b4;simp at b4;exact b4
  ·obtain ⟨i, l, z, lv, M, x0, g, D, E, C, a5, a6, a7⟩ := k3 q j n I;have O : i < cells.length := by rw [<- g2]; exact (X5.1 g).1
   obtain ⟨p1, p2, _⟩ := place i l _ q j M x0 lv g (X1 O) C a7 a6;rw [hu] at p1;obtain rfl := Xq p1;obtain ⟨m, hm, hr⟩ := n5 i z _ D (X1 O);rw [N g E C];subst a5;have hmode := Y21 t y 0 z (X8 D);have hnf : z.t.flatB = false := by
    have A : ((leaves t y (fun _ => .at_ .dp) 0).map Leaf.t)[i]? = some z.t := by rw [X18, D]; rfl
    have G : (ls.map Leaf.t)[i]? = some l.t := by rw [X18, g]; rfl
    rw [Y15, <- W, G] at A;rw [<- Xq A]; exact E
   have hmd : m = .dp := Y5o t y 0 z (X8 D) hnf hm;subst hmd;exact hr
end
section
variable {c : Cx} {env : Env} {tmps : Array Value} {w : World} {vs : Nat -> Value} {cs : Nat -> List Value} {bs : Nat -> Nat -> List Nat}
end
theorem Yd7 {M : List t.D} {O : List Nat} {A : Addr} {n U : Nat} (h : Rep (fun _ => False) w (.slice e t) .dp [.slice (some A) n U] M O) {i j : Nat} (Z : i < n) {y : t.D} (hus : ls.length = us.length) (hne : ls ≠ [])
  (hru : ∀ (l : Nat) (lf : Leaf) (u : Value), ls[l]? = some lf -> us[l]? = some u -> Rep (fun _ => False) w lf.t .dp [u] lf.x []) (hu : updLeavesD t (M.getD i t.dflt) j ls = some y) (hnd : O.Nodup) :
  ∃ G cur, A = ⟨G, 0, none⟩ /\ G ∈ O /\ w.heap[G]? = some (.cells cur e (0, 0)) /\ i * t.sz + j + us.length <= cur.size /\ ∃ E, (∀ b ∈ E, b ∈ O) /\ E.Nodup /\
   ∀ w' : World, w'.heap[G]? = some (.cells (cur.toList.take (i * t.sz + j) ++ us ++ cur.toList.drop (i * t.sz + j + us.length)).toArray e (0, 0)) -> (∀ b ∈ O, b ≠ G -> w'.heap[b]? = w.heap[b]?) ->
    Rep (fun _ => False) w' (.slice e t) .dp [.slice (some A) n U] (M.set i y) E := by
 obtain ⟨v0, cells, b0, b1, e1, e2, X, F, hown1, hown⟩ := h;obtain rfl : v0 = .slice (some A) n U := by simpa using e1.symm
 rcases hown with ⟨N, _⟩ | ⟨G, cap', cur, N, _, hgB, hnc, hcm, hcs, L⟩
 ·simp at N
 simp only [Value.slice.injEq, X0] at N;obtain ⟨rfl, rfl, rfl⟩ := N;have F : b0 = [G] := by rw [F]; rfl
 subst F;have Y : M.getD i t.dflt = M[i] := by simp [Z]
 rw [Y] at hu;obtain ⟨pre, ch, post, x0, x1, x2, f1, f2, f3, f4, f5, f6⟩ := X.at_ i Z;have f5 : Rep _ w t .dp ch _ x1 := f5;obtain ⟨k0, b', k4, k5, k6⟩ := Y2h t ls us (fun _ => []) hus hru f5 hu;have k0 := k0 hne;have q := f6 (setCs ch j us) y _ (by rw [Y44]; exact f3) k4;have W : cells.length = M.length * t.sz := X.len;have hlen2 : cells.length <= cur.size := by
  have : cells.length <= cur.toList.length := by rw [<- L, Xn]; exact Nat.min_le_right _ _
  simpa using this
 have C : i * t.sz + j + us.length <= cells.length := by
  rw [f1]; simp only [Xl]; omega
 have m : pre ++ setCs ch j us ++ post = cells.take (i * t.sz + j) ++ us ++ cells.drop (i * t.sz + j + us.length) := by
  rw [Y71 _ _ _ om, f1, Ybk _ _ _ _ _ om, f2]
 rw [m] at q;subst f4;subst e2;have B : ([G] ++ (x0 ++ b' ++ x2)).Nodup := by
  have := k6 ([G] ++ x0) x2 (by simpa only [X7] using hnd) (fun l _ => X13) (fun l l' z _ _ h1 _ => by simp at h1) (fun l z _ hz => by simp at hz);simpa only [X7] using this
 have D : ∀ b ∈ x0 ++ b' ++ x2, b ∈ x0 ++ x1 ++ x2 := fun b g => by
  simp only [X6] at g ⊢;rcases g with (g | g) | g
  ·simp [g]
  ·rcases k5 b g with g | ⟨l, _, g⟩
   ·simp [g]
   ·simp at g
  ·simp [g]
 refine ⟨G, cur, rfl, sm, hgB, om, [G] ++ (x0 ++ b' ++ x2), fun b g => ?_, B, fun w' I p => ?_⟩
 ·rcases X6.1 g with g | g
  ·exact Xe _ g
  ·exact Xf _ (D b g)
 ·refine ⟨.slice (some ⟨G, 0, none⟩) M.length U, cells.take (i * t.sz + j) ++ us ++ cells.drop (i * t.sz + j + us.length), [G], _, rfl, rfl, ?_, rfl, ?_⟩
  ·refine El.imp (fun c' x' b2 V N => ?_) q;refine Rep.move (S := fun _ => False) (fun _ hf => absurd hf id) (fun b g => p b (Xf _ (D b (V b g))) (fun e => ?_)) N;subst e;exact (X12.1 B).2.2 b sm b (V b g) rfl
  ·rw [Xz];have hcurl : i * t.sz + j + us.length <= cur.toList.length := by
    have : cur.toList.length = cur.size := X17;omega
   refine ⟨?_, .inr ⟨G, U, _, rfl, X2f _, I, hnc, hcm, ?_, ?_⟩⟩
   ·simp only [Xl, Xn, X16]; omega
   ·rw [<- hcs];have hcz : cur.toList.length = cur.size := X17;simp only [List.size_toArray, Xl, Xn, X16];omega
   ·rw [<- L];exact Y9w _ _ _ _ (by rw [W] at C; exact C) (by rw [<- W, <- L, Xn]; exact Nat.min_le_right _ _)
theorem Y7l (N : Rel c (SS env ps tmps vs w cs bs)) {r j : Nat} {te : Ty} {xs : List te.D} (hlv : lv.deep = true) (hq : (get env r).leaf? j = some ⟨.slice e te, xs, .at_ lv⟩) {B n0 cp0 : Nat} {uu : Value} (huu : (cs r)[j]? = some uu) (hB : uu = .slice (some ⟨B, 0, none⟩) n0 cp0) {i0 O : Nat} (hi0 : i0 < xs.length) {A : Addr} {n' cp' : Nat} (X : w.cell? ⟨B, i0 * te.sz + O, none⟩ = some (.slice (some A) n' cp')) {i oo : Nat} (hi : i < n') {e' : TypeId} {C : Ty} {ys : List C.D} (z : leafD te (xs.getD i0 te.dflt) O = some ⟨.slice e' C, ys⟩) {y : C.D} {x' : te.D} (hus : ls.length = us.length) (hne : ls ≠ []) (hru : ∀ (l : Nat) (lf : Leaf) (u : Value), ls[l]? = some lf -> us[l]? = some u -> Rep (fun _ => False) w lf.t .dp [u] lf.x [])
  (hu : updLeavesD C (ys.getD i C.dflt) oo ls = some y) (hx : updLeafD te (xs.getD i0 te.dflt) O ⟨.slice e' C, ys.set i y, .at_ .dp⟩ = some x') :
  ∃ G cur, A = ⟨G, 0, none⟩ /\ G ∈ bs r (j + 1) /\ w.heap[G]? = some (.cells cur e' (0, 0)) /\ i * C.sz + oo + us.length <= cur.size /\ ∃ bd, (∀ b ∈ bd, b ∈ bs r (j + 1)) /\ bd.Nodup /\
   ∀ w' : World, w'.heap[G]? = some (.cells (cur.toList.take (i * C.sz + oo) ++ us ++ cur.toList.drop (i * C.sz + oo + us.length)).toArray e' (0, 0)) -> (∀ b ∈ bs r (j + 1), b ≠ G -> w'.heap[b]? = w.heap[b]?) ->
    Rep (fun _ => False) w' (.slice e te) .dp [uu] (xs.set i0 x') bd := by
 subst hB;obtain ⟨B2, cp2, cells, b1, n1, n2, n3, n4⟩ := Yc2 N hlv hq om;rw [huu] at n1;simp only [X0, Value.slice.injEq, X2x, and_true] at n1;obtain ⟨rfl, rfl, rfl⟩ := n1;have Y : xs.getD i0 te.dflt = xs[i0] := by simp [hi0]
 rw [Y] at hx z;obtain ⟨pre, ch, post, U, z1, V, f1, f2, f3, f4, f5, f6⟩ := El.at2 i0 hi0 n3;have f5 : Rep (fun _ => False) w te .dp ch xs[i0] z1 := f5;obtain ⟨u1, D, bl, E, h1, h2, h3, h4⟩ := Rep.leafAt te f5 z;have hoo : O < te.sz := by
  have := (X5.1 h1).1;omega
 have m : w.cell? ⟨B, i0 * te.sz + O, none⟩ = some u1 := by
  refine Ye3 n4 ?_;rw [f1, X7, Xc om, Xj om, f2, show i0 * te.sz + O - i0 * te.sz = O by omega];exact h1
 rw [X] at m;obtain rfl := Xq m;have F : (B :: b1).Nodup := by rw [<- n2]; exact N.nodup r (j + 1)
 rw [f4, h2] at F;have W : bl.Nodup := F.sublist (by
  refine List.Sublist.trans ?_ (List.sublist_cons_self _ _);refine List.Sublist.trans ?_ (List.sublist_append_left _ _);refine List.Sublist.trans ?_ (List.sublist_append_right _ _);refine List.Sublist.trans ?_ (List.sublist_append_left _ _);exact List.sublist_append_right _ _)
 obtain ⟨G, cur, k1, k2, k3, k4, q, k5, k6, k7⟩ := Yd7 h3 hi hus hne hru hu W;have I : ∀ b ∈ bl, b ∈ bs r (j + 1) := fun b g => by
  rw [n2, f4, h2];simp only [Xr, X6];simp [g]
 have L : ∀ b, b ∈ U ++ V \/ b ∈ D ++ E \/ b = B -> b ∉ bl := by
  intro b g hbl;have hc : List.count b (B :: (U ++ (D ++ bl ++ E) ++ V)) <= 1 := List.nodup_iff_count.1 F b;have h0 : 0 < List.count b bl := List.count_pos_iff.2 hbl;simp only [List.count_cons, List.count_append] at hc;rcases g with g | g | rfl
  ·rcases X6.1 g with h | h <;> · have := List.count_pos_iff.2 h; omega
  ·rcases X6.1 g with h | h <;> · have := List.count_pos_iff.2 h; omega
  ·simp at hc; omega
 refine ⟨G, cur, k1, I G k2, k3, k4, B :: (U ++ (D ++ q ++ E) ++ V), fun b g => ?_, ?_, fun w' hsame p => ?_⟩
 ·rw [n2, f4, h2];simp only [Xr, X6] at g ⊢;rcases g with h | (h | (h | h) | h) | h
  ·simp [h]
  ·simp [h]
  ·simp [h]
  ·simp [k5 b h]
  ·simp [h]
  ·simp [h]
 ·have h0 : (B :: (U ++ (D ++ E) ++ V)).Nodup := F.sublist (by
   refine List.Sublist.cons_cons _ (X2n (X2n (X2u _) ?_) (X2u _));rw [X7];exact X2n (X2u _) (List.sublist_append_right _ _))
  have Z : List.Perm (B :: (U ++ (D ++ q ++ E) ++ V)) (q ++ (B :: (U ++ (D ++ E) ++ V))) := by
   rw [List.perm_iff_count];intro a;simp only [List.count_cons, List.count_append];omega
  refine Z.nodup_iff.2 (X12.2 ⟨k6, h0, fun a ha b g e => ?_⟩);subst e;refine L a ?_ (k5 a ha);simp only [Xr, X6] at g ⊢;rcases g with h | (h | h | h) | h <;> simp [h]
 ·have old : ∀ b, b ∈ U ++ V \/ b ∈ D ++ E \/ b = B -> w'.heap[b]? = w.heap[b]? := fun b g => p b (by
   rw [n2, f4, h2];simp only [Xr, X6] at g ⊢;rcases g with (h | h) | (h | h) | h <;> simp [h]) (fun e => L b g (e ▸ k2))
  have hrn := k7 w' hsame (fun b g hb1 => p b (I b g) hb1);obtain ⟨y2, q1, hup⟩ := h4 (fun _ => False) w' _ ⟨.slice e' C, ys.set i y, .at_ .dp⟩ q rfl hrn (fun _ h => h.elim) (fun b g => old b (.inr (.inl g)));rw [hx] at q1;obtain rfl := Xq q1;have hch : ch.set O (.slice (some A) n' cp') = ch := by
   apply X24;intro k;rw [List.getElem?_set];split
   ·rename_i hk;subst hk;split
    ·exact h1.symm
    ·omega
   ·rfl
  rw [hch] at hup;have M := f6 (Rep (fun _ => False) w' te .dp) (fun c' x' b' hb' h' => Rep.move (fun _ h => h.elim) (fun b g => old b (.inl (hb' b g))) h') ch x' (D ++ q ++ E) f3 hup;rw [<- f1] at M;refine ⟨_, cells, [B], U ++ (D ++ q ++ E) ++ V, rfl, rfl, M, rfl, ?_⟩;rw [Xz];exact Y3i n4 (fun k hk => by
   have : B = k := by simpa [Value.ownBlock] using hk
   subst this;exact old B (.inr (.inr rfl)))
section
variable {P : Program} {o : Oper} {a : Act} {w : World} {R : Type} {K : Env -> Option R} {r : R} {next : Act -> World -> Prop} {Q : Exit -> Act -> World -> Prop} {c : Cx} {d : Nat} {T : Tab} {env : Env}
theorem Y92 (hT : TabOk P T) {t : TypeId} {x v : Operand} {p : Env} {q j o0 z oo : Nat} {i0 i1 i : Int} {le : List Leaf} (hop : o.op = .store t x v) (hdst : o.dst = none) (hr : RE c env a.tmps w) (ht : T.ty t = some τ) (hta : takeAs τ env v = some (p, ls))
  (hx : rd none p x = .eptr le (some (q, j, [(i0, o0), (i1, z)], i, oo))) (D : storeNest q j i0 o0 i1 z i oo ls p K = some r) (hn : Next c a K r env.length next) : o.wp P a w next Q := by
 unfold storeNest at D;split at D
 case h_2 => simp at D
 rename_i e te xs lv hl;split at D
 case isFalse => simp at D
 rename_i hc;obtain ⟨hlv, N⟩ := hc;split at D
 case h_2 => simp at D
 rename_i e' t' ys I;split at D
 case isFalse => simp at D
 rename_i hz;obtain ⟨rfl, rfl⟩ := hz;split at D
 case h_2 => simp at D
 rename_i y hu;split at D
 case h_2 => simp at D
 rename_i x' hux;simp only [X9, X1k, List.isEmpty_eq_false_iff] at N;obtain ⟨hne, N⟩ := N;obtain ⟨hti, hty⟩ := Y23 hta;have hll := Y1e hty;obtain ⟨vs, h⟩ := hr;obtain ⟨hlen1, h1⟩ := Y18 h (fun r => .inl rfl) hti (Xd _) rfl;have X := Yy hti;have hs1 : ∀ r, Settled (upd noP env.length (.con τ.kind ls) r) := Settled.upd (fun r => .inl rfl) _ (.inr ⟨_, _, rfl, X⟩)
 let ps := upd noP env.length (.con τ.kind ls)
 let vs1 := upd vs env.length (evT a.tmps v)
 have hql : q < p.length := Y1g hl;have hqm : q ≠ env.length :=om;have Y : ∀ cs bs, Rel c (SS p ps a.tmps vs1 w cs bs) -> ∃ B n cp A n' M, (cs q)[j]? = some (.slice (some ⟨B, 0, none⟩) n cp) /\ i0.toNat < xs.length /\ w.cell? ⟨B, i0.toNat * te.sz + o0, none⟩ = some (.slice (some A) n' M) /\ i.toNat < n' /\ evT a.tmps x = .pointer (some (A.add (i.toNat * t'.sz + oo))) := by
  intro cs bs g;obtain ⟨cells, hv⟩ := Yo h1.len g none x;rw [hx] at hv;obtain ⟨ad, ea, _, _, lf, u, ⟨o1, o2, o3⟩, k⟩ := hv;obtain ⟨e2, t2, xs2, m', B, n, cp, A, n', M, k1, k2, k3, _, k4, k5, k6⟩ := k.2 _ _ _ rfl;have o1 : (ovl p ps q).leaf? j = some lf := o1;rw [Y7 hql, hl] at o1;simp only [X0] at o1;rw [<- o1] at k1;simp only [Leaf.mk.injEq, Ty.slice.injEq] at k1;obtain ⟨⟨rfl, rfl⟩, hxx, _⟩ := k1;obtain rfl := X2z hxx;subst k2;exact ⟨B, n, cp, A, n', M, o3, k3.2, k4, k5.2, by rw [ea, k6]⟩
 let us := (evT a.tmps v).cells.toList
 have L : ∀ cs bs, Rel c (SS p ps a.tmps vs1 w cs bs) -> ls.length = us.length /\ ∀ (l : Nat) (lf : Leaf) (u : Value), ls[l]? = some lf -> us[l]? = some u -> Rep (fun _ => False) w lf.t .dp [u] lf.x [] := by
  intro cs bs g;obtain ⟨m1, m2, m3, m4, m5⟩ := Y2m h1.len g (n := env.length) om (Y0 _ _ _) (Y1o τ) X;have ev : vs1 env.length = evT a.tmps v := Y0 _ _ _;rw [ev] at m1;refine ⟨by rw [m3, m1], fun l lf u hlf hu1 => ?_⟩;obtain ⟨lv, ⟨k1, _⟩, k2⟩ := m5 l lf u hlf (by rw [m1]; exact hu1);have W := Xa.1 N lf (X8 hlf);simp only [X9] at W;exact (Rep.flat (S' := fun _ => False) (w' := w) (m' := .dp) W.2 k2).2
 obtain ⟨cs0, bs0, C, _⟩ := h1.rel;obtain ⟨B, n, cp, A, n', M, c1, c2, c3, c4, c5⟩ := Y cs0 bs0 C;obtain ⟨O, F⟩ := L cs0 bs0 C;have hone : ∀ u ∈ us, u.oneCell' = true := fun u hu => by
  obtain ⟨l, hlu⟩ := Xx hu;have hlt : l < ls.length := by rw [O]; exact (X5.1 hlu).1
  exact Rep.one (F l ls[l] u (X1 hlt) hlu) u sm
 obtain ⟨G, cur, g1, g2, hgB, hfit, _⟩ := Y7l C hlv hl c1 rfl c2 c3 c4 I O hne F hu hux;subst g1
 let off := i.toNat * t'.sz + oo
 let V : Array Value := (cur.toList.take off ++ us ++ cur.toList.drop (off + us.length)).toArray
 let w' := w.setRow G V
 have E : ∀ b, b ≠ G -> w'.heap[b]? = w.heap[b]? := fun b Z => setRow_other w G b _ Z;have hsame : w'.heap[G]? = some (.cells V e' (0, 0)) := setRow_heap w G _ _ e' (0, 0) hgB;have h2 := h1.sync (m := env.length) (fun r _ => hs1 r) om hl hlv (w' := w') (y := xs.set i0.toNat x') (fun cs bs g uu U => by
  obtain ⟨B', n2, cp2, A', n3, cp3, k1, k2, k3, k4, k5⟩ := Y cs bs g;have U : (cs q)[j]? = some uu := U;obtain ⟨_, hru⟩ := L cs bs g;obtain ⟨G', cur2, j1, j2, j3, j4, bd, j5, j6, j7⟩ := Y7l g hlv hl k1 rfl k2 k3 k4 I O hne hru hu hux;subst j1;rw [c5] at k5;have hG : G = G' := by
   rw [Y1h, Y1h] at k5;simpa using k5
  subst hG;rw [hgB] at j3;simp only [X0, Obj.cells.injEq, and_true] at j3;subst j3;rw [k1] at U;obtain rfl := Xq U;have hltG : G < w.heap.size := (g.own _ _ _ j2).2;have hsz : w'.heap.size = w.heap.size := setRow_size _ _ _;refine ⟨below_setRow (X1f _ _) (g.own _ _ _ j2).1.1 _, fun b Z hb1 _ => E b (fun e => hb1 (e ▸ j2)), bd, fun b Z => ?_, j6, j7 w' hsame (fun b _ Z => E b Z)⟩;rw [hsz];exact ⟨(g.own _ _ _ (j5 b Z)).2, .inr (.inl (j5 b Z))⟩)
 refine Y55 hdst (w' := w') ?_ (by unfold syncPlace; rw [Y5, Y8]; exact hlen1) h2 (fun r => ?_) D hn
 ·have hsize := TabOk.sizeOf hT ht;have hcs : (evT a.tmps v).cells.size = τ.sz := by rw [<- X17]; show us.length = _; rw [<- O, hll]
  have hst := run_storeCells_at P G off e' us 0 cur w hgB (by simpa using hfit) hone;rw [X2i] at hst;have c5 : evT a.tmps x = .pointer (some ⟨G, off, none⟩) := by rw [c5, Y1h, X14]
  simp [execOp, hop, Y6, c5, Instr.storeAt, Instr.sureAddr, storeVar, hsize, hcs];rw [show Sem.run P (storeCells { block := G, off := off } (evT a.tmps v).cells.toList) w = .ok () w' from hst];rfl
 ·by_cases hr : r = env.length
  ·subst hr; rw [Y0]
  ·rw [Y1 _ _ hr]; show upd noP env.length _ r = _; rw [Y1 _ _ hr]; rfl
end
section
variable {P : Program} {o : Oper} {a : Act} {w : World} {R : Type} {K : Env -> Option R} {r : R} {next : Act -> World -> Prop} {Q : Exit -> Act -> World -> Prop} {c : Cx} {d : Nat} {T : Tab} {env : Env} {sig : FuncId -> Option Sig} {caps : FuncId -> List Ty} {orc : Orc}
theorem Yex (g : env.length = tmps.size) (i : Rel c (SS env noP tmps vs w cs bs)) (j : ∀ r, (∀ q ∈ (ovl env noP r).refs, q.1 < env.length) /\ (∀ q ∈ (ovl env noP r).ptrs, q < env.length)) {ls b : List Leaf} {x y : t.D} {L : Places}
  (p : ValC c (SS env noP tmps vs w cs bs) (.con k ls) v cells) (l : typedAs ls t = true) (h : argNow env ls = some b) (z : asm t b = some (x, [])) (m : mutOf env ls (leaves t y (fun _ => .at_ .dp) 0) = some L) : MutOk c env tmps w vs bs t cells ls x y L := by
 obtain rfl : b = ls := (Xq h).symm;exact Yew g i j p l z m
theorem Y7m {g : List (Nat × Nat)} {v : AV} (h : apart g v = true) : (∀ q ∈ v.refs, q ∉ g) /\ (∀ r ∈ v.ptrs, ∀ q ∈ g, r ≠ q.1) := by
 simp only [apart, X9, Xa, X1k, Bool.and_eq_false_iff, beq_eq_false_iff_ne] at h;refine ⟨fun q b i => ?_, fun r j q b => h.2 r j q b⟩;have := h.1 q b q i;rcases this with h | h <;> exact h rfl
theorem Ye4 (hO : OrcOk P sig orc) {cl : Call} {extra : List AV} {ex : List Value} (hop : o.op = .call cl) (hdst : o.dst = some d) (hr : RE c env a.tmps w) (hd : d < env.length)
  (hrun : Enterable P f -> (execOp a.eval o).run P w = .ok (.enter f (cl.args.map (evT a.tmps) ++ ex.toArray)) w) (hex : ∀ vs cs bs, Rel c (SS env noP a.tmps vs w cs bs) -> ValCs c (SS env noP a.tmps vs w cs bs) extra ex) (hsg : sig f = some sg) (hbx : sg.box = none /\ sg.newb = none) (hm : sg.muts = true) (how : sg.own = false) (i : callM caps orc (some d) f sg cl.args.toList extra env K = some r) (hn : Next c a K r env.length next) : o.wp P a w next Q := by
 unfold callM at i;split at i
 ·rename_i t ps a0 as hps has;split at i
  ·rename_i k ls hrd;simp only at i;split at i
   ·rename_i hc;obtain ⟨⟨hk, hty⟩, ⟨hl1, hl2⟩, hfl, hap⟩ := hc;cases D : argNow env ls with
    | none => grind
    | some ls' =>
     rw [D] at i;simp at i;split at i
     ·rename_i x hx;split at i
      ·simp at i
      ·rename_i rvs hrv;split at i
       ·simp at i
       ·rename_i q E;obtain ⟨z0, hres, i⟩ := Xt.1 i;obtain ⟨hent, j⟩ := hO f sg _ q z0 hsg E hres;rw [hbx.1, hbx.2, hm, how] at j;obtain ⟨t', x0, rest, y, ys, e1, e2, j⟩ := j;simp at e1;obtain ⟨⟨rfl, e1⟩, rfl⟩ := e1;subst e1;rw [e2] at i;simp [dif_pos] at i;split at i
        ·simp at i
        ·rename_i L hM;cases C : resAV sg.results ys with
         | none => grind
         | some av =>
          rw [C] at i;obtain ⟨vs, z, cs, bs, g, hno⟩ := hr;obtain ⟨cells, A⟩ := Yo z g (some t) a0;rw [hrd] at A;obtain ⟨b0, hrep, hnd, hin, B⟩ := Yex z g hno A hty D hx hM;have hval : evT a.tmps a0 = mkV t.isAgg cells := by
           obtain ⟨g1, _⟩ := A;subst hk;unfold Ty.kind at g1;split at g1
           ·rename_i ha;rw [ha]; exact g1.1
           ·rename_i ha;have ha : t.isAgg = false := by simpa using ha
            rw [ha, g1.1]; rfl
          generalize hvs : rdArgs env ps as ++ extra = avs at *;have F : as.length <= ps.length := by rw [<- hl1, hl2]; omega
          have Y : ValCs c (SS env noP a.tmps vs w cs bs) avs (as.map (evT a.tmps) ++ ex) := by
           rw [<- hvs];exact (Y2q z g F).1.append (hex vs cs bs g)
          let S : Nat -> Prop := fun b => RoS c (SS env noP a.tmps vs w cs bs) b \/ (∃ v ∈ avs, ∃ q ∈ v.refs, b ∈ bs q.1 (q.2 + 1)) \/ ∃ v ∈ avs, ∃ q ∈ v.ptrs, ∃ l, b ∈ bs q l
          have hrvr : RVRels S w rvs (as.map (evT a.tmps) ++ ex) :=
           Y40 g (fun b p => .inl p) Y hrv (fun v A q E b p => .inr (.inl ⟨v, A, q, E, p⟩)) (fun v A q E l b p => .inr (.inr ⟨v, A, q, E, l, p⟩))
          have hS : ∀ b, S b -> b ∉ b0 := by
           intro b p I;obtain ⟨q, E, M⟩ := hin b I;rcases p with p | ⟨v, A, q', U, p⟩ | ⟨v, A, q', U, l, p⟩
           ·exact p.1 _ _ M
           ·have := Y7m (Xa.1 hap v A);obtain ⟨h1, h2⟩ := g.disj _ _ _ _ _ p M;refine this.1 q' U ?_;have : q' = q := Prod.ext h1 om;rw [this]; exact E
           ·have := Y7m (Xa.1 hap v A);exact this.2 q' U q E (g.disj _ _ _ _ _ p M).1
          have I : ∀ b ∈ b0, c.base <= b := fun b p => let ⟨q, _, h⟩ := hin b p; (g.own _ _ _ h).1.1
          unfold Oper.wp;rw [hrun hent];have G : cl.args.map (evT a.tmps) ++ ex.toArray = (mkV t.isAgg cells :: (as.map (evT a.tmps) ++ ex)).toArray := by simp_all
          rw [G];refine X2m (j S w cells _ b0 c.base hrep hnd I g.base hrvr hS) ?_
          rintro e w' ⟨Z, bsx, b1, rfl, p, X, V, hnd1, hnew, W⟩
          rw [hdst];have hRP := B w' b1 p X V hnd1 hnew;obtain ⟨k', ls2, rfl, h1, h2, h3, bds, h4, h5, h6⟩ := Y4d W C;have N := Yc6 hfl C;have O := Y3v C;have hsl : (syncs L env).length = env.length := Y28 _ _;have hadd := hRP.addVal (n := (syncs L env).length) (Xd _) rfl (av := .con k' ls2) (v := resVal sg.results Z) (fun cs' bs' hrel' => by
           refine ⟨Z.flatten, h1.bare rfl, h2, fun l lf u hl hu => ?_⟩;rw [Y2] at hl;obtain ⟨m, hm', hr'⟩ := h6 l lf u hl hu;have hf := N lf (X8 hl);have hmd := O lf (X8 hl);obtain ⟨lt, lx, lm⟩ := lf;simp only at hm' hr';subst hm';exact ⟨(Rep.flat hf hr').2, by cases m <;> first | trivial | exact absurd rfl (hmd _)⟩) (by
           have := Yd (k := k') h3;rw [this.1, this.2];exact ⟨sm, sm⟩)
          have := RE.commit hadd (by rw [hsl]; exact hd);rw [Y0] at this;exact hn _ _ _ i this (by rw [Y19, hsl]) rfl
     ·simp at i
   ·simp at i
  ·simp at i
 ·simp at i
end
theorem Y4s (b : env.length = tmps.size) (h : Rel c (SS env ps tmps vs w cs bs)) : ∀ {ptys : List PTy} {args : List Operand}, args.length <= ptys.length -> ValCs c (SS env ps tmps vs w cs bs) (rdArgs env ptys args) (args.map (evT tmps))
 | [], [], _ => rfl
 | p :: ptys, [], _ => rfl
 | [], x :: args, hl => by simp at hl
 | p :: ptys, x :: args, hl => ⟨_, _, rfl, Yo b h _ x, Y4s b h (ptys := ptys) (args := args) (by simpa using hl)⟩
section
variable {P : Program} {o : Oper} {a : Act} {w : World} {R : Type} {K : Env -> Option R} {r : R} {next : Act -> World -> Prop} {Q : Exit -> Act -> World -> Prop} {c : Cx} {d : Nat} {T : Tab} {env : Env} {sig : FuncId -> Option Sig} {caps : FuncId -> List Ty} {orc : Orc}
theorem RP.handed (j : env.length = tmps.size) (M : Rel c (SS env ps tmps vs w cs bs)) (L : ∀ r, (∀ q ∈ (ovl env ps r).refs, q.1 < env.length) /\ (∀ q ∈ (ovl env ps r).ptrs, q < env.length)) (G : env.length <= n) {x : t.D} (X : ps n = .con .val [⟨t, x, .at_ .dp⟩]) :
  Rep (fun _ => False) w t .dp [vs n] x (bs n 1) /\ ∀ (w' : World) (A : Value) (y : t.D) (B : List Nat), Below c.base w w' -> (∀ b, b < w.heap.size -> b ∉ bs n 1 -> w'.heap[b]? = w.heap[b]?) -> Rep (fun _ => False) w' t .dp [A] y B -> B.Nodup -> (∀ b ∈ B, b ∈ bs n 1 \/ w.heap.size <= b) ->
   RP c env tmps w' (upd ps n (.con .val [⟨t, y, .at_ .dp⟩])) (upd vs n A) := by
 obtain ⟨D, O, U⟩ := Y2r j M G X;refine ⟨Rep.dpS D, fun w' A y B N V i W E => ?_⟩;have e : upd (upd ps n .undef) n (.con .val [⟨t, y, .at_ .dp⟩]) = upd ps n (.con .val [⟨t, y, .at_ .dp⟩]) := by
  funext r; simp [upd]; split <;> rfl
 have := RP.reformAt j M L (n := n) (m := n) G G (av := .con .val [⟨t, y, .at_ .dp⟩]) (v := A) (w' := w') ⟨by simp [AV.refs, Leaf.refs], by simp [AV.ptrs]⟩ N (fun b g I => V b g (I 1)) [A] (fun l => if l = 1 then B else []) ?_ ?_ ?_ ?_
 ·grind
 ·intro l b g;by_cases C : l = 1
  ·subst C;rw [X4 rfl] at g;refine ⟨Rep.lt i b g, ?_⟩;rcases E b g with h | h
   ·grind
   ·exact .inl h
  ·grind
 ·grind
 ·grind
 ·intro s' Z;have p : s'.bs n = fun l => if l = 1 then B else [] := Y0 _ _ _
  have z : s'.cs n = [A] := Y0 _ _ _;refine ⟨⟨z, by rw [p]; rfl⟩, by rw [z]; rfl, fun l C => ?_, fun l lf u C Y => ?_⟩
  ·rw [p];simp at C;exact X2 om
  ·rw [z] at Y;have F : l = 0 :=gr;subst F;obtain rfl : lf = ⟨t, y, .at_ .dp⟩ := by simpa [leafAt] using C.symm
   obtain rfl : u = A :=gr;refine LeafRel.of_rep trivial ?_;rw [p];exact Rep.dpS i
theorem Ye5 (hO : OrcOk P sig orc) {F : Call} {extra : List AV} {ex : List Value} (hop : o.op = .call F) (O : o.dst = some d) (hr : RE c env a.tmps w) (hd : d < env.length)
  (hrun : Enterable P f -> (execOp a.eval o).run P w = .ok (.enter f (F.args.map (evT a.tmps) ++ ex.toArray)) w) (hex : ∀ vs cs bs, Rel c (SS env noP a.tmps vs w cs bs) -> ValCs c (SS env noP a.tmps vs w cs bs) extra ex) (hsg : sig f = some sg) (N : sg.box = none /\ sg.newb = none) (hm : sg.muts = true) (how : sg.own = true) (h : callO caps orc (some d) f sg F.args.toList extra env K = some r) (hn : Next c a K r env.length next) : o.wp P a w next Q := by
 unfold callO at h;split at h
 ·rename_i t ps a0 as hps has;split at h
  ·rename_i env2 l hg;split at h
   ·rename_i x hx;simp only at h;split at h
    ·rename_i hc;obtain ⟨⟨m, hlm, hagg⟩, ⟨hl1, hl2⟩, hap⟩ := hc;split at h
     ·simp at h
     ·rename_i rvs hrv;split at h
      ·simp at h
      ·rename_i q Z;obtain ⟨z0, hres, h⟩ := Xt.1 h;obtain ⟨U, i⟩ := hO f sg _ q z0 hsg Z hres;rw [N.1, N.2, hm, how] at i;obtain ⟨t', x0, rest, y, e1, e2, i⟩ := i;simp at e1;obtain ⟨⟨rfl, e1⟩, rfl⟩ := e1;subst e1;rw [e2] at h;simp at h;have m : extra = [] :=gr;subst m;obtain ⟨vs, G⟩ := hr;have V : ex = [] := by
        obtain ⟨_, cs, bs, g, _⟩ := G;exact hex vs cs bs g
       subst V;obtain ⟨hl, h1⟩ := Y4e G (fun _ => .inl rfl) hg (n := env.length) (Xd _) rfl;have W := Leaf.as_eq hx;rw [hlm] at W;rw [W] at h1;obtain ⟨p, cs, bs, g, hno⟩ := h1;obtain ⟨z, j⟩ := RP.handed p g hno (n := env.length) om (Y0 _ _ _);rw [Y0] at z;have hb0 : ∀ b ∈ bs env.length 1, c.base <= b := fun b L => (g.own _ _ _ L).1.1;have A : as.length <= ps.length :=om;have E := Y4s p g A;have I : ∀ v ∈ rdArgs env2 ps as, v.refs = [] /\ v.ptrs = [] :=gr;have hrvr : RVRels (RoS c (SS env2 (upd noP env.length (.con .val [⟨t, x, .at_ .dp⟩])) a.tmps (upd vs env.length (evT a.tmps a0)) w cs bs)) w rvs (as.map (evT a.tmps)) :=
        Y40 g (fun b L => L) E hrv (fun v hv q Z => by rw [(I v hv).1] at Z; simp at Z) (fun v hv q Z => gr)
       unfold Oper.wp;rw [hrun U];have B : F.args.map (evT a.tmps) ++ ([] : List Value).toArray = (evT a.tmps a0 :: as.map (evT a.tmps)).toArray := by
        rw [show evT a.tmps a0 :: as.map (evT a.tmps) = F.args.toList.map (evT a.tmps) by rw [has]; rfl];rw [<- X2l, X1g];simp
       rw [B];refine X2m (i _ w _ _ _ c.base z (g.nodup _ _) hb0 g.base hrvr (fun b L => L.1 _ _)) ?_
       rintro e w' ⟨v', b1, rfl, M, D, C, X, Y⟩
       rw [O];have h2 := j w' v' y b1 M D C X Y;have eu : upd (upd noP env.length (.con .val [⟨t, x, .at_ .dp⟩])) env.length (.con .val [⟨t, y, .at_ .dp⟩]) = upd noP env2.length (.con .val [⟨t, y, .at_ .dp⟩]) := by
        rw [hl]; funext r; simp [upd]; split <;> rfl
       rw [eu] at h2;have := RE.commit h2 (by rw [hl]; exact hd);rw [hl, Y0] at this;exact hn _ _ _ h this (by rw [Y19, hl]) rfl
    ·simp at h
   ·simp at h
  ·simp at h
 ·simp at h
end
theorem Y5p {S S' : Nat -> Prop} {base base' : Nat} {B B' : List Nat} : ∀ {rs : List (Ty × Lvl)} {xs : List (Σ t : Ty, t.D)} {chs : List (List Value)} {bs : List Nat}, allFresh rs = true -> ResRel S base w B rs xs chs bs -> ResRel S' base' w B' rs xs chs bs
 | [], xs, chs, bs, _, h => h
 | (t, fr) :: rs, xs, chs, bs, ha, ⟨x, xs', ch, chs', b, b', e1, e2, e3, h1, h2⟩ => by
  simp [allFresh] at ha;refine ⟨x, xs', ch, chs', b, b', e1, e2, e3, ?_, Y5p ha.2 h2⟩;by_cases g : fr = .dp
  ·subst g; exact Rep.dpS h1
  ·have j : t.flatB = true := ha.1.resolve_left g;obtain ⟨rfl, i⟩ := Rep.flat (S' := fun k => (S' k \/ base' <= k) /\ k ∉ B') (w' := w) (m' := fr.res) j h1;exact i
section
variable {P : Program} {o : Oper} {a : Act} {w : World} {R : Type} {K : Env -> Option R} {r : R} {next : Act -> World -> Prop} {Q : Exit -> Act -> World -> Prop} {c : Cx} {d : Nat} {T : Tab} {env : Env} {sig : FuncId -> Option Sig} {caps : FuncId -> List Ty} {orc : Orc}
theorem RP.resultG (C : env.length = tmps.size) (hr : Rel c (SS env ps tmps vs w cs bs)) (W : ∀ r, (∀ q ∈ (ovl env ps r).refs, q.1 < env.length) /\ (∀ q ∈ (ovl env ps r).ptrs, q < env.length)) (hn : env.length <= n) {j : List (List Value)} {i : List Nat}
  (L : Below c.base w w') (hh : ∀ b, b < w.heap.size -> b ∉ bs n 1 -> w'.heap[b]? = w.heap[b]?) (hb0 : bs n 0 = []) (I : allFresh rs = true) (E : ResRel (fun _ => True) 0 w' i rs xs j i) (U : i.Nodup) (N : ∀ b ∈ i, b ∈ bs n 1 \/ w.heap.size <= b) (Z : resAV rs xs = some av) :
  RP c env tmps w' (upd ps n av) (upd vs n (resVal rs j)) := by
 obtain ⟨k, ls, rfl, h1, h2, h3, z, h4, h5, Y⟩ := Y4d (c := c) (Y5p (S' := fun _ => False) (base' := w'.heap.size) (B' := i) I E) Z;subst h5;have g := Y3v Z;obtain ⟨n1, n2⟩ := Y17 U;have D : ∀ l b, b ∈ z.getD l [] -> b < w'.heap.size := by
  intro l b L;have hlt : l < z.length :=gr;obtain ⟨m, _, y⟩ := Y l _ _ (X1 om) (X1 om);exact Rep.lt y b L
 let G : Nat -> List Nat := fun l => match l with | 0 => [] | l + 1 => z.getD l []
 have e : upd (upd ps n .undef) n (.con k ls) = upd ps n (.con k ls) := by
  funext r; simp [upd]; split <;> rfl
 have F := Yd (k := k) h3;have := RP.reformAt C hr W (n := n) (m := n) hn hn (av := .con k ls) (v := resVal rs j) (w' := w') ⟨F.1, F.2⟩ L (fun b p V => hh b p (V 1)) j.flatten G ?_ ?_ ?_ ?_
 ·grind
 ·intro l b p;cases l with
  | zero => simp [G] at p
  | succ l =>
   refine ⟨D l b p, ?_⟩;rcases N b (Yj p) with h | h
   ·grind
   ·exact .inl h
 ·grind
 ·grind
 ·intro s' hk;have A : s'.bs n = G := Y0 _ _ _;have B : s'.cs n = j.flatten := Y0 _ _ _;refine ⟨?_, by rw [B]; exact h2, fun l O => ?_, fun l lf u O hu => ?_⟩
  ·grind
  ·rw [A];show z.getD l [] = [];rw [Xk, X23 om];rfl
  ·rw [B] at hu;obtain ⟨m, X, y⟩ := Y l lf u (by rw [<- Y2]; exact O) hu;obtain ⟨t, x, m'⟩ := lf;simp only at X;have g := g _ (Yc O);subst X;refine LeafRel.of_rep (by cases m <;> first | trivial | exact absurd rfl (g _)) ?_;rw [A];refine Rep.move (fun b M hl1 => ?_) (fun _ _ => rfl) y;exfalso;rcases M.1 with hf | hf
   ·exact hf
   ·grind
theorem RP.frzArgs_ {avs : List AV} (h : RP c env tmps w noP vs) (g : ∀ v ∈ avs, ∀ q ∈ v.refs, q.1 < env.length) : RP c (frzArgs avs env) tmps w noP vs /\ (frzArgs avs env).length = env.length := by
 unfold frzArgs;split
 ·rename_i i;obtain ⟨j, cs, bs, m, l⟩ := h;obtain ⟨p, z, A, k2⟩ := m.freezeArgs_ [] avs i;have e := Y1u [] avs (ps := noP) g (fun r => .inl rfl);have b := Y1r [] avs env;refine ⟨⟨b.trans j, cs, p, Rel.congr z e rfl, fun r => ?_⟩, b⟩;rw [b, <- e];have := Y1i [] avs (ovl env noP) r;exact ⟨fun q y => (l r).1 q (this.1 q y), fun q y => (l r).2 q (this.2 q y)⟩
 ·exact ⟨h, rfl⟩
theorem Ye6 (hO : OrcOk P sig orc) {k : Nat} {cl : Call} {extra : List AV} {ex : List Value} (hop : o.op = .call cl) (O : o.dst = some d) (hr : RE c env a.tmps w) (hd : d < env.length)
  (hrun : Enterable P f -> (execOp a.eval o).run P w = .ok (.enter f (cl.args.map (evT a.tmps) ++ ex.toArray)) w) (hex : ∀ vs cs bs, Rel c (SS env noP a.tmps vs w cs bs) -> ValCs c (SS env noP a.tmps vs w cs bs) extra ex) (hsg : sig f = some sg) (N : sg.box = none /\ sg.newb = none) (hm : sg.muts = false) (how : sg.own = true) (hgv : sg.give = some k) (h : callG caps orc k (some d) f sg cl.args.toList extra env K = some r) (hn : Next c a K r env.length next) : o.wp P a w next Q := by
 unfold callG at h;split at h
 ·rename_i t ps a0 as hps has;obtain ⟨e0, hka⟩ := Y5k has;split at h
  ·rename_i env2 l hg;split at h
   ·rename_i x hx;simp only at h;split at h
    ·rename_i hc;obtain ⟨⟨m, hlm, hagg⟩, ⟨hl1, hl2, haf⟩, hap⟩ := hc;split at h
     ·simp at h
     ·rename_i rvs hrv;split at h
      ·simp at h
      ·rename_i q Z;obtain ⟨z0, hres, h⟩ := Xt.1 h;obtain ⟨U, i⟩ := hO f sg _ q z0 hsg Z hres;rw [N.1, N.2, hm, how, hgv] at i;obtain ⟨t', x0, rest, E, i⟩ := i;obtain ⟨E, e2⟩ := Y6z E;simp at E;obtain ⟨rfl, E⟩ := E;subst E;subst e2;cases hra : resAV sg.results (q.pk z0) with
       | none => grind
       | some av =>
        rw [hra] at h;simp only at h;have m : extra = [] := by simpa using m
        subst m;obtain ⟨vs, j⟩ := hr;have V : ex = [] := by
         obtain ⟨_, cs, bs, g, _⟩ := j;exact hex vs cs bs g
        subst V;obtain ⟨j, hlf⟩ := j.frzArgs_ (avs := rdArgs env ps as) (fun v hv => (Y3b ⟨vs, j⟩ v hv).1);obtain ⟨F, h1⟩ := Y4e j (fun _ => .inl rfl) hg (n := env.length) om rfl;have F := F.trans hlf;have W := Leaf.as_eq hx;rw [hlm] at W;rw [W] at h1;obtain ⟨p, cs, bs, g, hno⟩ := h1;obtain ⟨y, L, _⟩ := Y2r p g (n := env.length) om (Y0 _ _ _);rw [Y0] at y;have hb0 : ∀ b ∈ bs env.length 1, c.base <= b := fun b I => (g.own _ _ _ I).1.1;have z : as.length <= ps.length :=om;have D := Y4s p g z;have G : ∀ v ∈ rdArgs env2 ps as, v.refs = [] /\ v.ptrs = [] := by simp_all
        have hrvr : RVRels (RoS c (SS env2 (upd noP env.length (.con .val [⟨t, x, .at_ .dp⟩])) a.tmps (upd vs env.length (evT a.tmps a0)) w cs bs)) w rvs (as.map (evT a.tmps)) :=
         Y40 g (fun b I => I) D hrv (fun v hv q Z => by rw [(G v hv).1] at Z; simp at Z) (fun v hv q Z => by simp_all)
        unfold Oper.wp;rw [hrun U];have A : cl.args.map (evT a.tmps) ++ ([] : List Value).toArray = (insN k (evT a.tmps a0) (as.map (evT a.tmps))).toArray := by
         rw [<- Y9n, <- e0, <- X2l, X1g];simp
        rw [A];refine X2m (i _ w _ _ _ c.base (Rep.dpS y) (g.nodup _ _) hb0 g.base hrvr (fun b I => I.1 _ _)) ?_
        rintro e w' ⟨chs, bsx, rfl, M, C, B, X, Y⟩
        rw [O];have h2 := RP.resultG p g hno (n := env.length) om M C L haf B X Y hra;have eu : upd (upd noP env.length (.con .val [⟨t, x, .at_ .dp⟩])) env.length av = upd noP env2.length av := by
         rw [F]; funext r; simp [upd]; split <;> rfl
        rw [eu] at h2;have := RE.commit h2 (by rw [F]; exact hd);rw [F, Y0] at this;exact hn _ _ _ h this (by rw [Y19, F]) rfl
    ·simp at h
   ·simp at h
  ·simp at h
 ·simp at h
end
theorem Y9y : ∀ {xs : List Int} {cells : List Value} {b : List Nat}, El (Rep S w (.int .u8) .ro) 1 cells xs b -> cells = xs.map (Value.int .u8)
 | [], cells, b, h => h.1
 | x :: xs, cells, b, ⟨c, cs, b0, b1, e, _, _, h1, h2⟩ => by
  rw [e, h1.1, Y9y h2]; rfl
section
variable {P : Program} {o : Oper} {a : Act} {w : World} {R : Type} {K : Env -> Option R} {r : R} {next : Act -> World -> Prop} {Q : Exit -> Act -> World -> Prop} {c : Cx} {d : Nat} {T : Tab} {env : Env}
theorem Ye7 (hT : TabOk P T) {s i : TypeId} {b : ByteArray} (I : o.op = .convert s i x) (l : o.dst = some d) (V : RE c env a.tmps w) (hd : d < env.length) (g : bytesOf T s i (fun ty => rd ty env x) = some b)
  (Y : K (setD (some d) env (vStr b)) = some r) (hn : Next c a K r env.length next) : o.wp P a w next Q := by
 unfold bytesOf at g;split at g
 ·rename_i e hs ht;split at g
  ·rename_i he;split at g
   ·rename_i lx h;have h : rd (some (.slice e (.int .u8))) env x = .con .val [lx] := h;split at g
    ·rename_i xs C;split at g
     ·rename_i F;obtain rfl := Xq g;have L := V;obtain ⟨vs, N⟩ := L;obtain ⟨cs, bs, B, _⟩ := N.rel;obtain ⟨cells, W⟩ := Yo N.len B (some (.slice e (.int .u8))) x;rw [h] at W;obtain ⟨S, O⟩ := Y2z W F;rw [Leaf.as_eq C] at O;obtain ⟨v, ch, b0, b1, M, _, E, _, A, z, e2, hlc, hz, Z⟩ := O;have M : evT a.tmps x = v := by simpa using M
      have D := Y9y E;refine finV V l (v := .string (strOfNums xs)) ?_ hd (fun vs cs bs _ => Y86 _ _ _) Y9e Y hn;have key : (Go.convert s i (.slice A xs.length z)).run P w = .ok (.string (strOfNums xs)) w := by
       have p := TabOk.slice hT hs;have m := TabOk.int hT he;have q := TabOk.str hT ht;cases A with
       | none =>
        have G : xs = [] := by simp_all
        subst G;exact run_convert_bytes_nil w s e p m 0 z i q
       | some A =>
        have F : (loadCells A xs.length).run P w = .ok (xs.map (Value.int .u8)).toArray w := by
         have := run_loadCells_list (P := P) w A (xs.map (Value.int .u8)) (fun j u U => by
          rw [<- D] at U;obtain ⟨a', B, _, X⟩ := Z j u U;cases B;exact X)
         simpa using this
        rw [run_convert_bytes_string w s i e _ _ z p m q, run_bytesToString w _ xs.length z xs F, foldl_push_bytes];simp [strOfNums, ByteArray.empty, ByteArray.emptyWithCapacity];rfl
      have y : (Go.convert s i (evT a.tmps x)).run P w = .ok (.string (strOfNums xs)) w :=gr;simp [execOp, I, Y6, y]
     ·simp at g
    ·simp at g
   ·simp at g
  ·simp at g
 ·simp at g
end
theorem Rel.split2 (h : Rel c s) {n m : Nat} (L : m ≠ n) (Z : ∀ r, (∀ q ∈ (s.env r).refs, q.1 ≠ n /\ q.1 ≠ m) /\ (∀ q ∈ (s.env r).ptrs, q ≠ n /\ q ≠ m)) (av B : AV) (v : Value) (cd I : List Value) (G g : Nat -> List Nat)
  (k1 : ∀ l b, b ∈ G l -> ∃ y, b ∈ s.bs m y) (k2 : ∀ l b, b ∈ g l -> ∃ y, b ∈ s.bs m y) (d1 : ∀ l y b, b ∈ G l -> b ∈ G y -> l = y) (d2 : ∀ l y b, b ∈ g l -> b ∈ g y -> l = y) (d3 : ∀ l y b, b ∈ G l -> b ∉ g y) (n1 : ∀ l, (G l).Nodup) (n2 : ∀ l, (g l).Nodup)
  (X : let s' : St := ⟨upd (upd s.env m B) n av, upd s.tm n v, s.w, upd (upd s.cs m I) n cd, upd (upd s.bs m g) n G⟩; Keeps c s s' -> AVRel c s' n av v /\ AVRel c s' m B (s.tm m)) :
  Rel c ⟨upd (upd s.env m B) n av, upd s.tm n v, s.w, upd (upd s.cs m I) n cd, upd (upd s.bs m g) n G⟩ := by
 let s' : St := ⟨upd (upd s.env m B) n av, upd s.tm n v, s.w, upd (upd s.cs m I) n cd, upd (upd s.bs m g) n G⟩
 have z : ∀ r, ¬ (r = n \/ r = m) -> s'.env r = (s.env r).chg noG /\ s'.tm r = s.tm r /\ s'.cs r = s.cs r /\ s'.bs r = s.bs r := fun r F => by
  simp only [X2h] at F;refine ⟨by rw [AV.chg_no]; show upd _ _ _ r = _; rw [Y1 _ _ F.1, Y1 _ _ F.2], Y1 _ _ F.1, ?_, ?_⟩ <;>
  ·show upd _ _ _ r = _;rw [Y1 _ _ F.1, Y1 _ _ F.2]
 have D : s'.bs n = G := Y0 _ _ _;have C : s'.bs m = g := by show upd _ _ _ m = _; rw [Y1 _ _ L, Y0]
 have N : ∀ r j, r ≠ n /\ r ≠ m -> SamePl s s' r j := fun r j F => by
  have M := z r (by simp only [X2h]; exact F);exact ⟨fun lf u ho => ho.chg M.1 M.2.2.1, by rw [M.2.2.2], fun b _ => rfl⟩
 have hpt : ∀ r, r ≠ n /\ r ≠ m -> SamePtr s s' r := fun r F => by
  have M := z r (by simp only [X2h]; exact F);exact SamePtr.chg M.1 M.2.1
 have Y : ∀ r l b, (r = n \/ r = m) -> b ∈ s'.bs r l -> ∃ y, b ∈ s.bs m y := fun r l b E A => by
  rcases E with rfl | rfl
  ·rw [D] at A; exact k1 l b A
  ·rw [C] at A; exact k2 l b A
 refine Rel.step (s' := s') noG h (fun r => r = n \/ r = m) (fun r _ => r ≠ n /\ r ≠ m) (fun r => r ≠ n /\ r ≠ m) z (X1f _ _) (fun b hl E => rfl)
  (fun r l b E A => ?_) (fun r l r' y b E W i p => ?_) (fun r l E => ?_) (fun r _ => Z r) (fun U => ⟨Yl U N, Y13 U N, fun r hL _ => hpt r hL⟩) (fun U r E => ?_)
 ·obtain ⟨y, O⟩ := Y r l b E A;exact ⟨(h.own _ _ _ O).2, .inr ⟨m, y, .inr rfl, O⟩⟩
 ·rcases E with rfl | rfl <;> rcases W with rfl | rfl
  ·rw [D] at i p; exact ⟨rfl, d1 _ _ _ i p⟩
  ·rw [D] at i; rw [C] at p; exact absurd p (d3 _ _ _ i)
  ·rw [C] at i; rw [D] at p; exact absurd i (d3 _ _ _ p)
  ·rw [C] at i p; exact ⟨rfl, d2 _ _ _ i p⟩
 ·rcases E with rfl | rfl
  ·rw [D]; exact n1 l
  ·rw [C]; exact n2 l
 ·obtain ⟨O, h2⟩ := X U;rcases E with rfl | rfl
  ·have V : s'.env r = av := Y0 _ _ _;have e2 : s'.tm r = v := Y0 _ _ _;rw [V, e2]; exact O
  ·have V : s'.env r = B := by show upd _ _ _ r = _; rw [Y1 _ _ L, Y0]
   have e2 : s'.tm r = s.tm r := Y1 _ _ L;rw [V, e2]; exact h2
theorem Yd8 (s : Nat) (b : ∀ l ∈ ls, l.m.bare = true) : chgs (killG s) ls = ls := by
 rw [Y2y]
 conv => rhs; rw [<- List.map_id ls]
 refine List.map_congr_left (fun l g => ?_);have := b l g;obtain ⟨t, x, m⟩ := l;cases m with
 | bor _ _ _ => simp [Mode.bare] at this
 | _ => rfl
theorem Y4g (b : ∀ l ∈ ls, l.m.bare = true) : (AV.con k ls).refs = [] /\ (AV.con k ls).ptrs = [] := by
 refine ⟨?_, rfl⟩;simp only [AV.refs, List.flatMap_eq_nil_iff];intro l g;have := b l g;obtain ⟨t, x, m⟩ := l;cases m with
 | bor _ _ _ => simp [Mode.bare] at this
 | _ => rfl
section
variable {P : Program} {o : Oper} {a : Act} {w : World} {Q : Exit -> Act -> World -> Prop} {c : Cx} {d : Nat} {T : Tab} {env : Env}
theorem RP.splitB (h : RP c env tmps w noP vs) {s id C : Nat} {sh : List (Bool × Nat)} (hk : get env s = .con (.tupB id C sh) ls) (y : ∀ l ∈ ls, l.m.bare = true) (hro : ∀ l ∈ takeLs C ls, l.m = .at_ .ro) :
  ∃ (B : Nat) (us : List Value), tmps.getD s undef = .tuple (.pointer (some ⟨B, 0, none⟩) :: us).toArray /\
   RP c (put (killRoot s env) s (.con (.tup ((false, 1) :: sh)) (⟨.bool, false, .dead⟩ :: dropLs C ls))) tmps w (upd noP env.length (.con (.box ⟨id, false, []⟩) (takeLs C ls))) (upd vs env.length (.pointer (some ⟨B, 0, none⟩))) := by
 let N := env.length
 have L : s < env.length := Yx hk;have I : s ≠ N := X1c L;obtain ⟨hlen, cs, bs, hr, Z⟩ := h
 replace hr : Rel c (SS env noP tmps vs w cs bs) := hr
 obtain ⟨G, hk3⟩ := hr.killRoot_ s
 let E := chgE (killG s) (ovl env noP)
 have hEs : E s = .con (.tupB id C sh) ls := by show (ovl env noP s).chg _ = _; rw [Y7 L, hk]; show AV.con _ (chgs _ _) = _; rw [Yd8 s y]
 have hav := G.av s;have e2 : ovlT tmps vs s = tmps.getD s undef := X4 (hlen ▸ L);simp only [show chgE (killG s) (ovl env noP) s = _ from hEs, e2] at hav;obtain ⟨⟨B, us, c0, c1, q1, q2, q3, q4, q5, q6⟩, g2, g3, g4⟩ := hav;have q2 : cs s = c0 ++ c1 := q2;have q4 : w.heap[B]? = _ := q4;have q5 : bs s 0 = [B] := q5;have g2 : ls.length = (cs s).length := g2;have g3 : ∀ l, ls.length <= l -> bs s (l + 1) = [] := g3;have g4 : ∀ l lf u, leafAt ls l = some lf -> (cs s)[l]? = some u -> LeafRel c ⟨E, ovlT tmps vs, w, cs, bs⟩ s l u lf := g4;have hll : ls.length = C + c1.length := by rw [g2, q2, Xl, q3]
 refine ⟨B, us, q1, ?_⟩
 let av : AV := .con (.box ⟨id, false, []⟩) (takeLs C ls)
 let j : AV := .con (.tup ((false, 1) :: sh)) (⟨.bool, false, .dead⟩ :: dropLs C ls)
 let M : Nat -> List Nat := fun l => if l = 0 then [B] else []
 let g : Nat -> List Nat := fun l => if l <= 1 then [] else bs s (C + (l - 1))
 have Y : ∀ l b, b ∈ M l -> l = 0 /\ b = B := fun l b A => by
  simp only [M] at A;split at A
  ·exact ⟨by assumption, by simpa using A⟩
  ·simp at A
 have D : ∀ l b, b ∈ g l -> 1 < l /\ b ∈ bs s (C + (l - 1)) := fun l b A => by
  simp only [g] at A;split at A
  ·simp at A
  ·exact ⟨om, A⟩
 have hLr : ∀ p, (∀ z ∈ (E p).refs, z.1 ≠ N /\ z.1 ≠ s) /\ (∀ z ∈ (E p).ptrs, z ≠ N /\ z ≠ s) := fun p =>
  ⟨fun z hz => ⟨by have V := (Z p).1 z ((Yi (Y14 s) (ovl env noP p)).1 z hz); omega, (hk3 p).1 z hz⟩,
   fun z hz => ⟨by have V := (Z p).2 z ((Yi (Y14 s) (ovl env noP p)).2 z hz); omega, (hk3 p).2 z hz⟩⟩
 have hsp := G.split2 (n := N) (m := s) I hLr av j (.pointer (some ⟨B, 0, none⟩)) c0 (.pointer (some ⟨B, 0, none⟩) :: c1) M g
  (fun l b A => ⟨0, by obtain ⟨_, rfl⟩ := Y l b A; show b ∈ bs s 0; rw [q5]; simp⟩) (fun l b A => ⟨_, (D l b A).2⟩)
  (fun l l' b V W => by have := (Y l b V).1; have := (Y l' b W).1; omega)
  (fun l l' b V W => by obtain ⟨m1, V⟩ := D l b V; obtain ⟨m2, W⟩ := D l' b W; have := (G.disj _ _ _ _ _ V W).2; omega)
  (fun l l' b V W => by
   obtain ⟨_, rfl⟩ := Y l b V;obtain ⟨m2, W⟩ := D l' b W;have := (G.disj s 0 s _ b (by show b ∈ bs s 0; rw [q5]; simp) W).2;omega)
  (fun l => by simp only [M]; split <;> simp) (fun l => by simp only [g]; split; exact X13; exact G.nodup _ _)
  (fun hkp => by
   have ebN : ∀ l, (upd (upd bs s g) N M) N l = M l := fun l => by rw [Y0]
   have U : ∀ l, (upd (upd bs s g) N M) s l = g l := fun l => by rw [Y1 _ _ I, Y0]
   constructor
   ·refine ⟨⟨B, rfl, ?_, by simp only [Y0]; rfl, by simp [nthB]⟩, ?_, fun l i => ?_, fun l lf u i O => ?_⟩
    ·simp only [Y0]; exact q4
    ·simp only [Y0]; rw [Yq, Xn]; omega
    ·simp only [Y0]; exact X2 om
    ·simp only [Y0] at O;have hl' : ls[l]? = some lf := by
      rw [Y2, Yq, X1m] at i;split at i
      ·exact i
      ·simp at i
     have hm := hro lf (Yc i);have h6 := g4 l lf u (by rw [Y2]; exact hl') (by rw [q2, Xj (X5.1 O).1]; exact O);obtain ⟨t, x, m⟩ := lf;simp only at hm;subst hm;refine LeafRel.of_held rfl (by simp only [Y0]; exact X2 om) ?_;exact Rep.roS h6.2 (fun b A i => (hkp b A i).1) sm
   ·refine ⟨⟨?_, .pointer (some ⟨B, 0, none⟩) :: us, e2.trans q1, ?_⟩, ?_, fun l i => ?_, fun l lf u i O => ?_⟩
    ·exact U 0
    ·show TupCells _ _ ((upd (upd cs s (.pointer (some ⟨B, 0, none⟩) :: c1)) N c0) s);rw [Y1 _ _ I, Y0];exact ⟨_, us, [_], c1, rfl, rfl, rfl, ⟨rfl, rfl⟩, q6⟩
    ·show _ = ((upd (upd cs s (.pointer (some ⟨B, 0, none⟩) :: c1)) N c0) s).length;rw [Y1 _ _ I, Y0, X1t, X1t, Yr, X16];omega
    ·show (upd (upd bs s g) N M) s (l + 1) = [];rw [U];rw [X1t, Yr, X16] at i;simp only [g];split
     ·rfl
     ·have := g3 (C + l - 1) om;rw [show C + (l + 1 - 1) = C + l - 1 + 1 by omega];exact this
    ·have O : ((upd (upd cs s (.pointer (some ⟨B, 0, none⟩) :: c1)) N c0) s)[l]? = some u := O;rw [Y1 _ _ I, Y0] at O;cases l with
     | zero =>
      obtain rfl : lf = ⟨.bool, false, .dead⟩ := by simpa [leafAt] using i.symm
      obtain rfl : u = _ := by simpa using O.symm
      exact ⟨U 1, rfl⟩
     | succ l =>
      rw [Y2, X1l, Yr, X1n] at i;rw [X1l] at O;have h6 := g4 (C + l) lf u (by rw [Y2]; exact i) (by rw [q2, Xc om, q3, Nat.add_sub_cancel_left]; exact O);have hb0 : (upd (upd bs s g) N M) s (l + 1 + 1) = bs s (C + l + 1) := by
       rw [U]; simp only [g]; rw [X2 om]; congr 1
      have X := y lf (X8 i);obtain ⟨t, x, m⟩ := lf;cases m with
      | bor _ _ _ => simp [Mode.bare] at X
      | dead => exact ⟨hb0.trans h6.1, h6.2⟩
      | at_ lv =>
       refine LeafRel.of_rep h6.pin ?_;show Rep _ _ _ _ _ _ ((upd (upd bs s g) N M) s (l + 1 + 1));rw [hb0];exact Rep.move (fun b A i => hkp b A i) (fun _ _ => rfl) h6.rep)
 have F : (put (killRoot s env) s j).length = env.length := by rw [Y5, Ya]
 have eE : upd (upd E s j) N av = ovl (put (killRoot s env) s j) (upd noP env.length av) := by
  rw [Yb (by rw [F]; exact Xd _), Yt (by rw [Ya]; exact L)];unfold killRoot;rw [Yt (by rw [Y8]; exact L), <- Y1s _ _ noP (fun _ => .inl rfl), Yh]
 refine ⟨by show (put (killRoot s env) s j).length = _; rw [F]; exact hlen, _, _, Rel.congr hsp eE (Yv om _).symm, fun p => ?_⟩;show (∀ q ∈ (ovl (put (killRoot s env) s j) (upd noP env.length av) p).refs, q.1 < (put (killRoot s env) s j).length) /\ ∀ q ∈ (ovl (put (killRoot s env) s j) (upd noP env.length av) p).ptrs, q < (put (killRoot s env) s j).length;rw [<- eE, F];have hb1 : ∀ l ∈ takeLs C ls, l.m.bare = true := fun l i => y l (by rw [Yq] at i; exact X27 i);have hb2 : ∀ l ∈ (⟨.bool, false, .dead⟩ : Leaf) :: dropLs C ls, l.m.bare = true := fun l i => by
  rcases Xr.1 i with rfl | i
  ·rfl
  ·rw [Yr] at i; exact y l (X26 i)
 by_cases hpN : p = N
 ·subst hpN;rw [Y0, (Y4g hb1).1, (Y4g hb1).2];exact ⟨sm, sm⟩
 ·rw [Y1 _ _ hpN];by_cases hps : p = s
  ·subst hps;rw [Y0, (Y4g hb2).1, (Y4g hb2).2];exact ⟨sm, sm⟩
  ·rw [Y1 _ _ hps];have := Yi (Y14 s) (ovl env noP p);exact ⟨fun z hz => (Z p).1 z (this.1 z hz), fun z hz => (Z p).2 z (this.2 z hz)⟩
theorem Y7n (g : RE c env tmps w) : RE c (preTup o env) tmps w /\ (preTup o env).length = env.length := by
 unfold preTup;split
 ·rename_i s A q;split
  ·rename_i id n z ls p;split
   ·rename_i m;obtain ⟨j, i⟩ := m;obtain ⟨vs, h⟩ := g;obtain ⟨B, us, e, y⟩ := h.splitB p (fun l b => by simpa using Xa.1 j l b) (fun l b => by simpa using Xa.1 i l b);have b : (put (killRoot s env) s (.con (.tup ((false, 1) :: z)) (⟨.bool, false, .dead⟩ :: dropLs n ls))).length = env.length := by rw [Y5, Ya]
    have := RP.dropAt y (n := env.length) (by rw [b]; exact Xd _) (Yaw (fun _ => .inl rfl) (.inr ⟨_, _, rfl, fun l b => by rw [show l.m = _ by simpa using Xa.1 i l b]; rfl⟩));rw [show upd (upd noP env.length (.con (.box ⟨id, false, []⟩) (takeLs n ls))) env.length .undef = noP by funext r; simp only [upd]; split <;> rfl] at this;exact ⟨⟨_, this⟩, b⟩
   ·exact ⟨g, rfl⟩
  ·exact ⟨g, rfl⟩
 ·exact ⟨g, rfl⟩
theorem Y93 (L : RE c env a.tmps w) (g : o.dst = some d) (G : d < env.length) {env' : Env} (h : tupStep o d env = some env')
  (I : ∀ i w', RE c env' i.tmps w' -> env'.length = env.length -> i.defers = a.defers -> next i w') : o.wp P a w next Q := by
 unfold tupStep at h;split at h
 ·rename_i s m;split at h
  ·rename_i id n F ls D;split at h
   ·rename_i A;simp only [X0] at h;have y : ∀ l ∈ ls, l.m.settled = true := fun l b => by simpa using Xa.1 A l b
    obtain ⟨vs, j⟩ := L;have E := j.grab (fun _ => .inl rfl) D y (n := env.length) (Xd _) rfl;have b : (killRoot s env).length = env.length := Ya _ _;refine fin (K := some) (r := env') (w' := w) g (v := evT a.tmps (.tmp s)) (av := .con (.tupB id n F) ls) (by simp [execOp, m, Y6]) (by rw [b]; exact G) b (by rw [b]; exact E) (by rw [b, Y0]; rfl) (by rw [h]) (fun e i w' C p q z => by cases C; exact I i w' p q z)
   ·cases h
  ·cases h
 ·rename_i s m;split at h
  ·rename_i id n F ls D;split at h
   ·rename_i A;obtain ⟨p, q⟩ := A;simp only [X0] at h;obtain ⟨vs, j⟩ := L;obtain ⟨B, us, e, E⟩ := j.splitB D (fun l b => by simpa using Xa.1 p l b) (fun l b => by simpa using Xa.1 q l b);have e' : evT a.tmps (.tmp s) = .tuple (.pointer (some ⟨B, 0, none⟩) :: us).toArray := e;have b : (put (killRoot s env) s (.con (.tup ((false, 1) :: F)) (⟨.bool, false, .dead⟩ :: dropLs n ls))).length = env.length := by rw [Y5, Ya]
    refine fin (K := some) (r := env') (w' := w) g (v := .pointer (some ⟨B, 0, none⟩)) (av := .con (.box ⟨id, false, []⟩) (takeLs n ls)) (by simp [execOp, m, Y6, e', Instr.extract]) (by rw [b]; exact G) b (by rw [b]; exact E) (by rw [b, Y0]) (by rw [h]) (fun e i w' C p q z => by cases C; exact I i w' p q z)
   ·cases h
  ·cases h
 ·cases h
end
theorem Y4w : ∀ (env : Env) (d : Nat) (u v : AV), put (put env d u) d v = put env d v
 | [], _, _, _ => rfl
 | _ :: _, 0, _, _ => rfl
 | x :: env, d + 1, u, v => by simp [put, Y4w env d u v]
section
variable {P : Program} {o : Oper} {a : Act} {w : World} {Q : Exit -> Act -> World -> Prop} {c : Cx} {d : Nat} {T : Tab} {env : Env} {caps : FuncId -> List Ty}
theorem Y8a (hT : TabOk P T) (l : RE c env a.tmps w) (g : o.dst = some d) (i : d < env.length) {env' : Env} (h : takeStep T caps o d env = some (true, env'))
  (j : ∀ b w', RE c env' b.tmps w' -> env'.length = env.length -> b.defers = a.defers -> next b w') : o.wp P a w next Q := by cases h
end
section
variable {P : Program} {o : Oper} {a : Act} {w : World} {Q : Exit -> Act -> World -> Prop} {c : Cx} {d : Nat} {T : Tab} {env : Env} {caps : FuncId -> List Ty}
theorem Y94 {b : Bool} {env' : Env} (h : selStep T caps o env = some (b, env')) : o.guard = none := by
 unfold selStep at h;split at h
 ·assumption
 ·cases h
theorem finS {b env' : Env} (g : o.dst = some d) (i : (execOp a.eval o).run P w = .ok (.value v) w') (p : d < b.length) (m : b.length = env.length)
  (h : RP c b a.tmps w' (upd noP b.length av) vs) (q : vs b.length = v) (l : setD (some d) b av = env') (B : ∀ j w', RE c env' j.tmps w' -> env'.length = env.length -> j.defers = a.defers -> next j w') : o.wp P a w next Q :=
 fin (K := some) (r := env') g i p m h q (by rw [l]) (fun e j w' l y z A => gr)
theorem RE.moveSel (I : RE c env tmps w) {s r j : Nat} {e e2 : TypeId} {ix : List Int} {x : List (List t.D)} (B : get env s = .sel r j e e2 t ix x) :
  ∃ vs cs bs, s < env.length /\ env.length = tmps.size /\ vs env.length = tmps.getD s undef /\ Rel c (SS (put env s .undef) (upd noP env.length (.sel r j e e2 t ix x)) tmps vs w cs bs) /\ ∀ k, (∀ q ∈ (ovl (put env s .undef) (upd noP env.length (.sel r j e e2 t ix x)) k).refs, q.1 < env.length) /\ (∀ q ∈ (ovl (put env s .undef) (upd noP env.length (.sel r j e e2 t ix x)) k).ptrs, q < env.length) := by
 obtain ⟨vs, h, cs, bs, l, z⟩ := I;have b : s < env.length := by
  apply Xs;intro C;rw [Y11 env s (X15 C)] at B;cases B
 have es : (SS env noP tmps vs w cs bs).env s = .sel r j e e2 t ix x := by show ovl env noP s = _; rw [Y7 b]; exact B
 have G : (SS env noP tmps vs w cs bs).tm s = tmps.getD s undef := X4 (h ▸ b);have D : ((SS env noP tmps vs w cs bs).env env.length).quiet = true := by show (ovl env noP env.length).quiet = true; rw [Yg (Xd _)]; rfl
 have y := l.move (s0 := s) (d := env.length) (X1c b) D (fun p => by
  obtain ⟨L, k2⟩ := (l.av p).refs_own;refine ⟨fun q g e => ?_, fun q g e => ?_⟩
  ·obtain ⟨lf, u, A, _⟩ := L q g;rw [e, es] at A;simp [AV.leaf?] at A
  ·obtain ⟨off, M, e', ls, B', A, _⟩ := k2 q g;rw [e, es] at A;simp at A)
 rw [es, G] at y;have i : (put env s .undef).length = env.length := Y5 _ _ _;have E := (z s).1 (r, j) (by rw [Y7 b, B]; simp [AV.refs]);refine ⟨upd vs env.length (tmps.getD s undef), _, _, b, h, Y0 _ _ _, Rel.congr y (by rw [Yb (X35 i), Yt b]) (Yv (X35 h.symm) _).symm, fun k => ?_⟩;rw [Yb (X35 i), Yt b];by_cases F : k = env.length
 ·subst F;rw [Y0];exact ⟨fun q g => by simp only [AV.refs, Xb] at g; rw [g]; exact E, by simp [AV.ptrs]⟩
 ·rw [Y1 _ _ F];by_cases m : k = s
  ·subst m; rw [Y0]; exact ⟨by simp [AV.refs], by simp [AV.ptrs]⟩
  ·rw [Y1 _ _ m]; exact z k
theorem Y5q {s : Nat} {v : AV} (h : selOf env x = some (s, v)) : x = .tmp s /\ get env s = v /\ ∃ r j e e2 t ix y, v = .sel r j e e2 t ix y := by
 unfold selOf at h;split at h
 ·grind
 ·cases h
theorem Y9z (C : RE c env a.tmps w) {s : Nat} {v : AV} {env' : Env} (g : o.op = .move x \/ o.op = .assign x) (h : o.dst = some d) (q : d < env.length) (D : selOf env x = some (s, v)) (z : setD (some d) (put env s .undef) v = env')
  (B : ∀ m w', RE c env' m.tmps w' -> env'.length = env.length -> m.defers = a.defers -> next m w') : o.wp P a w next Q := by
 obtain ⟨rfl, A, r, j, e, e2, t, ix, y, rfl⟩ := Y5q D;obtain ⟨vs, cs, bs, E, i, F, l, p⟩ := C.moveSel A;have b : (put env s .undef).length = env.length := Y5 _ _ _;refine finS h (v := a.tmps.getD s undef) (w' := w) ?_ (by rw [b]; exact q) b ⟨by rw [b]; exact i, cs, bs, by rw [b]; exact l, fun k => by rw [b]; exact p k⟩ gr z B;rcases g with g | g <;> simp [execOp, g, Y6, evT]
theorem WrRel0.anchor {b : Addr} {r j : Nat} {i : Int} {o : Nat} (h : WrRel0 c s b r j [] i o) : WrRel0 c s b r j [(0, 0), (0, 0), (0, 0)] 0 0 := by
 obtain ⟨g, lf, u, l, _⟩ := h;exact ⟨g, lf, u, l, (fun e => by cases e), fun _ _ _ e => by cases e⟩
theorem Yd9 (hT : TabOk P T) (hr : RE c env a.tmps w) {t : TypeId} {g : Array (Nat × Operand)} {v : AV} {env' : Env} (hop : o.op = .buildSlice t n g) (V : o.dst = some d) (hd : d < env.length) (ht : elemAt T t = some te) (C : selPart env te n g.toList = some v) (he : setD (some d) env v = env')
  (hn : ∀ a' w', RE c env' a'.tmps w' -> env'.length = env.length -> a'.defers = a.defers -> next a' w') : o.wp P a w next Q := by
 unfold selPart at C;split at C
 ·rename_i p hparts;split at C
  ·rename_i e2 t' y r j i hg;split at C
   ·rename_i e' te' xs' hl;split at C
    ·rename_i hc;obtain ⟨rfl, hte, hf, rfl⟩ := hc;simp at C;subst C;obtain ⟨hty, hund, F, hsz, hby, i0, hi0, hi1, hi2, hi3⟩ := TabOk.elem hT ht;have hs1 : te.ty.sz = 1 := by rw [hte]; rfl
     obtain ⟨vs, B, cs, bs, E, hno⟩ := hr;have Z : p < env.length := Xs fun hh => by rw [Y11 env p (X15 hh)] at hg; cases hg
     have hrl : r < env.length := Y1g hl
     -- the row that is taken
     have N := E.av p;have es : (SS env noP a.tmps vs w cs bs).env p = .con .val [⟨.slice e2 t', y, .bor r j [(i, 0)]⟩] := by show ovl env noP p = _; rw [Y7 Z]; exact hg
     have et : (SS env noP a.tmps vs w cs bs).tm p = evT a.tmps (.tmp p) := X4 (B ▸ Z);rw [es, et] at N;obtain ⟨⟨U, _⟩, _, _, hlf⟩ := N;have U : (cs p) = [evT a.tmps (.tmp p)] := U;obtain ⟨_, h⟩ : _ /\ BorRel c (SS env noP a.tmps vs w cs bs) (evT a.tmps (.tmp p)) ⟨.slice e2 t', y, .bor r j [(i, 0)]⟩ r j [(i, 0)] := hlf 0 _ _ rfl gr;generalize hu : evT a.tmps (.tmp p) = u at h;have Y : ∃ A l G, u = .slice A l G := by
      obtain ⟨vv, _, _, _, e1, _, _, e4⟩ := h.1;obtain rfl : u = vv := by simpa using e1
      obtain ⟨A, G, e5, _⟩ := e4.slice;exact ⟨A, _, G, e5⟩
     obtain ⟨ad, hwr, hcell⟩ := h.2.2 i 0 rfl
     let w' := w.alloc (.cells #[u] te.id (0, 0))
     let v' : Value := .slice (some ⟨w.heap.size, 0, none⟩) 1 1
     have O : Below w.heap.size w w' := (X1f _ _).alloc (Xd _) _;have hq0 : ((SS env noP a.tmps vs w cs bs).env env.length).quiet = true := by show (ovl env noP env.length).quiet = true; rw [Yg (Xd _)]; rfl
     have I : w'.heap[w.heap.size]? = some (.cells #[u] te.id (0, 0)) := by show (w.heap.push _)[w.heap.size]? = _; simp
     have hres := E.setNew hq0 O (.sel r j te.id e2 t' [i] [y]) v' [] (fun l => if l = 0 then [w.heap.size] else [])
      (fun l b hb => gr)
      (fun l l' b h1 h2 => gr)
      (fun l => by split <;> simp)
      (by
       intro s' W hpl' _;have eb : s'.bs env.length = fun l => if l = 0 then [w.heap.size] else [] := Y0 _ _ _
       obtain ⟨_, lf, ul, ho, _⟩ := id hwr;have hsp := hpl' r j _ _ ho;refine ⟨⟨fun k => by rw [eb]; exact X2 om, by rw [eb]; rfl⟩, ⟨ad, (hwr.keep W hsp).2.anchor⟩, [u], ⟨rfl, .inr ⟨w.heap.size, 1, #[u], rfl, X2f _, I, Xd _, by decide, rfl, rfl⟩⟩, rfl, sm, fun k i' y' h1 h2 => ?_⟩;cases k with
       | zero =>
        simp only [Xg, X0] at h1 h2;subst h1; subst h2;exact ⟨u, rfl, h.keep W hsp⟩
       | succ k => simp at h1)
     have hRP : RP c env a.tmps w' (upd noP env.length (.sel r j te.id e2 t' [i] [y])) (upd vs env.length v') := by
      refine ⟨B, _, _, Rel.congr hres (Yb (Xd _) _).symm (Yv (X35 B.symm) v').symm, fun k => ?_⟩;rw [Yb (Xd _)];by_cases hk : k = env.length
      ·subst hk;rw [Y0];exact ⟨fun q hq' => by simp only [AV.refs, Xb] at hq'; rw [hq']; exact hrl, by simp [AV.ptrs]⟩
      ·rw [Y1 _ _ hk]; exact hno k
     refine finS V (v := v') (w' := w') ?_ hd rfl hRP (Y0 _ _ _) he hn;have L := TabOk.sizeOf hT F;have M := TabOk.zero hT F;obtain ⟨A, l, G, rfl⟩ := Y;have X : List.map (fun x => (x.1, evT a.tmps x.2)) g.toList = [(0, .slice A l G)] :=gr
     let z := zeroVal te.ty
     obtain ⟨c0, hC⟩ : ∃ c0, ((Array.range (1 * te.ty.sz)).map fun x => z.cells[x % z.cells.size]!) = #[c0] :=gr;have m : Instr.fill (fun i => some (i * te.ty.sz, te.ty.sz)) ((Array.range (1 * te.ty.sz)).map fun x => z.cells[x % z.cells.size]!) [(0, .slice A l G)] = some #[.slice A l G] := by
      rw [hC, hs1];simp [Instr.fill, Value.cells]
     have hz0 : ¬ 1 * te.ty.sz = 0 :=gr;have D : ¬ 2 ^ 24 < 1 * te.ty.sz :=gr;simp at m hz0 D;simp [execOp, hop, Instr.buildSlice, run_underlying hund, L, M, hz0, D, X, m, newRow, newObj, Sem.run, Y6, z, w', v']
     try rfl
    ·cases C
   ·cases C
  ·cases C
 ·cases C
theorem Y5r (hT : TabOk P T) {g : Env} {p : AV} (I : g.length = tmps.size) (z : Rel c (SS g (upd noP g.length p) tmps vs w cs bs))
  (hno : ∀ k, (∀ q ∈ (ovl g (upd noP g.length p) k).refs, q.1 < g.length) /\ (∀ q ∈ (ovl g (upd noP g.length p) k).ptrs, q < g.length)) {t0 : TypeId} (ht : elemAt T t0 = some te) (ty : TypeId) {e2 : TypeId} (hte : te.ty = .slice e2 t) {ix : List Int} {x : List (List t.D)} {xs : List Value} (W : w.ownsRow 0 te.id 1 (vs g.length) x.length xs) (hb1 : ∀ l b, b ∈ bs g.length l -> (vs g.length).ownBlock = some b) (hb2 : ∀ b, (vs g.length).ownBlock = some b -> ∃ l, b ∈ bs g.length l)
  (hixl : ix.length = x.length) (hso : ix.Pairwise (· < ·)) {r j N : Nat} {i : Int} {y : List t.D} (hx : ∀ (k : Nat) (i : Int) (y : List t.D), ix[k]? = some i -> x[k]? = some y -> ∃ u, xs[k]? = some u /\ BorRel c (SS g (upd noP g.length p) tmps vs w cs bs) u ⟨.slice e2 t, y, .bor r j [(i, 0)]⟩ r j [(i, 0)])
  (U : get g N = .sel r j te.id e2 t [i] [y]) (hlt : ∀ k ∈ ix, k < i) (hbd : (x.length + 1) * te.bytes <= 140737488355328) :
  ∃ X w', (Builtin.append_ #[t0, t0] ty #[vs g.length, tmps.getD N undef]).run P w = .ok X w' /\ RP c g tmps w' (upd noP g.length (.sel r j te.id e2 t (ix ++ [i]) (x ++ [y]))) (upd vs g.length X) := by
 obtain ⟨hty, hund, htid, hsz, hby, i0, hi0, hi1, hi2, hi3⟩ := TabOk.elem hT ht;have hs1 : te.ty.sz = 1 := by rw [hte]; rfl
 have M : N < g.length := Xs fun hh => by rw [Y11 g N (X15 hh)] at U; cases U
 have hav := z.av N;have es : (SS g (upd noP g.length p) tmps vs w cs bs).env N = .sel r j te.id e2 t [i] [y] := by show ovl g _ N = _; rw [Y7 M]; exact U
 have et : (SS g (upd noP g.length p) tmps vs w cs bs).tm N = tmps.getD N undef := X4 (I ▸ M);rw [es, et] at hav;obtain ⟨_, ⟨ad0, hanch⟩, xsx, L, _, _, hbx⟩ := hav;obtain ⟨u, hu0, hbu⟩ := hbx 0 i y rfl rfl;obtain rfl : xsx = [u] := by
  obtain ⟨u1, rfl⟩ := X1r.1 (show xsx.length = 1 from by simpa using L.1);simpa using hu0
 have hrl : r < g.length := by
  have := (hno N).1 (r, j) (by rw [Y7 M, U]; simp [AV.refs]);exact this
 have huone : u.oneCell' = true := by
  exact Rep.one hbu.1 u sm
 obtain ⟨A, cp, ex, hcp, hz, hcx⟩ := Y2l L;obtain ⟨ad, rfl, hadb, hadc⟩ := hcx 0 u rfl;have hz' : (zeroVal te.ty).cells.size = te.ty.sz := by rw [<- X17, Y1l, Y1c]
 have h63 : x.length + 1 <= maxLen := by
  have : (x.length + 1) * 1 <= (x.length + 1) * te.bytes := X36 _ hby;simp [maxLen];omega
 obtain ⟨X, w', hr1, C, h, _, V⟩ := run_append_own_at (P := P) w 0 t0 ty te.id i0 (zeroVal te.ty) te.ty.sz te.bytes hund hi0 hi3 hi1 hi2 hz' hsz (vs g.length) x.length xs (by rw [hs1]; exact W) ad 1 cp [u] (by rw [hs1]; rfl)
  (fun k u' D => gr) (fun u' hu' => gr) h63 hbd (X2f _)
 rw [hs1] at C;refine ⟨X, w', by rw [ex]; exact hr1, ?_⟩;have hmine : ∀ b, (vs g.length).ownBlock = some b -> c.base <= b /\ b < w.heap.size := fun b F => by
  obtain ⟨l, hl⟩ := hb2 b F;have := z.own g.length l b hl;exact ⟨this.1.1, this.2⟩
 have G : ∀ b, b < w.heap.size -> (∀ l, b ∉ bs g.length l) -> w'.heap[b]? = w.heap[b]? := fun b F hne => h.block b F (fun e => gr);have O : Below c.base w w' := ⟨h.os, h.tape, h.output, h.size, fun k D => h.block k (X1e D z.base) (fun e => gr)⟩;have hnr : ∀ k, (∀ q ∈ (ovl g (upd noP g.length p) k).refs, q.1 ≠ g.length /\ q.1 ≠ g.length) /\ (∀ q ∈ (ovl g (upd noP g.length p) k).ptrs, q ≠ g.length /\ q ≠ g.length) := fun k =>
  ⟨fun q hq => by have := (hno k).1 q hq; exact ⟨X1c this, X1c this⟩, fun q hq => gr⟩
 have hres := z.reform (n := g.length) (m := g.length) hnr O G (.sel r j te.id e2 t (ix ++ [i]) (x ++ [y])) X [] (fun l => if l = 0 then X.ownBlock.toList else [])
  (fun l b F => by
   split at F
   ·have F := Yk.1 F;refine ⟨(Y1m C b F).2, ?_⟩;rcases V with hw | hw
    ·grind
    ·grind
   ·simp at F)
  (fun l l' b Y Z => gr)
  (fun l => gr)
  (by
   intro s' hkp;have E : r ≠ g.length := X1c hrl;have eb : s'.bs g.length = fun l => if l = 0 then X.ownBlock.toList else [] := Y0 _ _ _
   have er : s'.env r = ovl g (upd noP g.length p) r := by show upd (upd _ _ _) _ _ r = _; rw [Y1 _ _ E, Y1 _ _ E]
   have ec : s'.cs r = cs r := Y1 _ _ E;have ebr : s'.bs r = bs r := by show upd (upd _ _ _) _ _ r = _; rw [Y1 _ _ E, Y1 _ _ E]
   have hsp : SamePl (SS g (upd noP g.length p) tmps vs w cs bs) s' r j := by
    refine ⟨fun lf u' ⟨o1, o2, o3⟩ => ⟨by rw [er]; exact o1, o2, by rw [ec]; exact o3⟩, by rw [ebr], fun b F => ?_⟩;refine G b (z.own r (j + 1) b F).2 (fun l hl => ?_);exact E (z.disj r (j + 1) g.length l b F hl).1
   refine ⟨⟨fun k => by rw [eb]; exact X2 om, by rw [eb]; rfl⟩, ⟨ad0, (hanch.keep hkp hsp).2⟩, xs ++ [u], by simpa using C, by simp [hixl], ?_, fun k i' y' Y Z => ?_⟩
   ·grind
   ·have hxl : xs.length = x.length := by simpa using W.1
    by_cases D : k < x.length
    ·rw [Xj om] at Y;rw [Xj D] at Z;obtain ⟨u', hu', hb'⟩ := hx k i' y' Y Z;exact ⟨u', by rw [Xj om]; exact hu', hb'.keep hkp hsp⟩
    ·rw [Xc om] at Y Z;have hk0 : k - x.length = 0 :=gr;rw [hk0] at Z;rw [show k - ix.length = 0 by omega] at Y;simp only [Xg, X0] at Y Z;subst Y; subst Z;exact ⟨u, by rw [Xc om, show k - xs.length = 0 by omega]; rfl, hbu.keep hkp hsp⟩)
 refine ⟨I, _, _, Rel.congr hres ?_ (Yv (X35 I.symm) X).symm, fun k => ?_⟩
 ·funext k;by_cases D : k = g.length
  ·subst D; rw [Y0]; show _ = ovl g _ g.length; rw [Yg (Xd _), Y0]
  ·rw [Y1 _ _ D, Y1 _ _ D];show ovl g _ k = ovl g _ k;by_cases B : k < g.length
   ·rw [Y7 B, Y7 B]
   ·rw [Yg (X15 B), Yg (X15 B), Y1 _ _ D, Y1 _ _ D]
 ·by_cases D : k = g.length
  ·subst D;rw [Yg (Xd _), Y0];exact ⟨fun q hq' => by simp only [AV.refs, Xb] at hq'; rw [hq']; exact hrl, by simp [AV.ptrs]⟩
  ·have := hno k;by_cases B : k < g.length
   ·rw [Y7 B] at this ⊢; exact this
   ·rw [Yg (X15 B), Y1 _ _ D] at this ⊢; exact this
theorem Yc7 (hT : TabOk P T) (hr : RE c env a.tmps w) {W : Call} {s x : Operand} {G : TypeId} {tx : Nat} {vx : AV} {env' : Env} (hop : o.op = .call W) (hc : W.callee = .builtin .append) (hargs : W.args.toList = [s, x]) (htys : W.argTypes.toList = [G, G]) (I : o.dst = some d) (hd : d < env.length) (ht : elemAt T G = some te) (hsx : selOf env x = some (tx, vx)) (m : appendSel d te s tx env = some (true, env'))
  (hn : ∀ a' w', RE c env' a'.tmps w' -> env'.length = env.length -> a'.defers = a.defers -> next a' w') : o.wp P a w next Q := by
 obtain ⟨rfl, _, _⟩ := Y5q hsx;have E : W.args = #[s, .tmp tx] :=gr;have U : W.argTypes = #[G, G] :=gr;have L : ∀ (sv : Value) (D : Value) (w' : World), evT a.tmps s = sv -> (Builtin.append_ #[G, G] o.type #[sv, a.tmps.getD tx undef]).run P w = .ok D w' -> (execOp a.eval o).run P w = .ok (.value D) w' := by
  rintro sv D w' rfl V
  have V : (Builtin.append_ #[G, G] o.type #[evT a.tmps s, evT a.tmps (.tmp tx)]).run P w = .ok D w' := V;simp [execOp, hop, resolve, hc, E, U, invoke, builtin, Y6, V]
 unfold appendSel at m;split at m
 ·rename_i ts r' j' e' q t' ix xx Z;obtain ⟨rfl, hgs, _⟩ := Y5q Z;split at m
  ·rename_i r j e e2 t i y O;split at m
   ·rename_i h;obtain ⟨⟨⟨rfl, rfl⟩, rfl, rfl, rfl⟩, rfl, F⟩ := h;simp at m;obtain ⟨⟨hlt, N⟩, m⟩ := m;obtain ⟨vs, cs, bs, hsl, p, hv, g, B⟩ := hr.moveSel hgs;have A : (put env ts .undef).length = env.length := Y5 _ _ _;rw [<- A] at p hv g B;have z := g.av (put env ts .undef).length;have es : (SS (put env ts .undef) (upd noP (put env ts .undef).length (.sel r' j' te.id q t' ix xx)) a.tmps vs w cs bs).env (put env ts .undef).length = .sel r' j' te.id q t' ix xx := by show ovl _ _ _ = _; rw [Yg (Xd _), Y0]
    have et : (SS (put env ts .undef) (upd noP (put env ts .undef).length (.sel r' j' te.id q t' ix xx)) a.tmps vs w cs bs).tm (put env ts .undef).length = vs (put env ts .undef).length := X2 gr;rw [es, et] at z;obtain ⟨⟨k1, k2⟩, _, xs, k3, k4, k5, k6⟩ := z;obtain ⟨D, w', V, q2⟩ := Y5r hT p g B ht o.type F k3 (fun l b M => by
     cases l with
     | zero => grind
     | succ l => grind) (fun b M => ⟨0, by simp_all⟩) k4 k5 k6 O hlt N
    exact finS I (v := D) (w' := w') (L _ D w' hv.symm V) gr A q2 (Y0 _ _ _) m hn
   ·cases m
  ·cases m
 ·split at m
  ·rename_i env2 e0 tt0 xs hg;split at m
   ·rename_i r j e e2 t i y O;split at m
    ·rename_i h;obtain ⟨⟨rfl, rfl⟩, rfl, F⟩ := h;simp only [X0, Xw, X9, X1a, List.isEmpty_iff] at m;obtain ⟨⟨rfl, N⟩, m⟩ := m;obtain ⟨vs, hr⟩ := hr;obtain ⟨X, p, cs, bs, g, B⟩ := Y4e hr (fun _ => .inl rfl) hg (n := env.length) (Xd _) rfl;rw [<- X] at g B;have Y := Y2r p g (Xd _) (Y0 _ _ _);obtain ⟨⟨v, cls, b0, b1, e1, q, hel, C⟩, hb0, hcs⟩ := Y;obtain ⟨rfl, rfl⟩ := hel;have C : b0 = v.ownBlock.toList /\ w.ownsRow 0 te.id te.ty.sz v 0 [] := C;have e1 : upd vs env2.length (evT a.tmps s) env2.length = v := by simpa using e1
     have z := g.av env2.length;have es : (SS env2 (upd noP env2.length (.con .val [⟨.slice te.id te.ty, [], .at_ .dp⟩])) a.tmps (upd vs env2.length (evT a.tmps s)) w cs bs).env env2.length = .con .val [⟨.slice te.id te.ty, [], .at_ .dp⟩] := by show ovl _ _ _ = _; rw [Yg (Xd _), Y0]
     rw [es] at z;have hge := z.2.2.1;have hs1 : te.ty.sz = 1 := by rw [F]; rfl
     have q : bs env2.length 1 = v.ownBlock.toList :=gr;obtain ⟨D, w', V, q2⟩ := Y5r (ix := []) (x := ([] : List (List t.D))) (xs := []) hT p g B ht o.type F (by rw [e1, <- hs1]; exact C.2) (fun l b M => by
      match l with
      | 0 => rw [hb0] at M; cases M
      | 1 => grind
      | l + 2 => simp_all) (fun b M => ⟨1, by rw [q]; rw [e1] at M; exact Yk.2 M⟩) rfl List.Pairwise.nil (fun k i y h1 h2 => by simp at h1) O sm N
     exact finS I (v := D) (w' := w') (L _ D w' (Y0 _ _ _).symm V) gr X q2 (Y0 _ _ _) m hn
    ·cases m
   ·cases m
  ·cases m
theorem Y95 (hT : TabOk P T) (m : RE c env a.tmps w) {env' : Env} (h : selStep T caps o env = some (true, env'))
  (l : ∀ y w', RE c env' y.tmps w' -> env'.length = env.length -> y.defers = a.defers -> next y w') : o.wp P a w next Q := by
 unfold selStep at h;split at h
 ·rename_i d M b;split at h
  ·rename_i j;split at h
   ·rename_i G C;simp only [X0, Xw, true_and] at h;subst h;exact Y93 m b j C l
   split at h
   ·rename_i z D;simp only [X0] at h;subst h;exact Y8a hT m b j D l
   split at h
   ·rename_i x g;split at h
    ·rename_i s v p;split at h
     ·cases h
     ·simp only [X0, Xw, true_and] at h;exact Y9z m (.inl g) b j p h l
    ·cases h
   ·rename_i x g;split at h
    ·rename_i s v p;split at h
     ·cases h
     ·simp only [X0, Xw, true_and] at h;exact Y9z m (.inr g) b j p h l
    ·cases h
   ·rename_i t n F g;split at h
    ·split at h
     ·rename_i te B;split at h
      ·rename_i v p;simp only [X0, Xw, true_and] at h;exact Yd9 hT m g b j B p h l
      ·cases h
     ·cases h
    ·cases h
   ·rename_i L g;split at h
    ·rename_i I;split at h
     ·rename_i s x N O i q;split at h
      ·rename_i E;subst E;split at h
       ·rename_i U V te A B;exact Yc7 hT m g I i q b j B A h l
       ·cases h
      ·cases h
     ·cases h
    ·cases h
   ·cases h
  ·cases h
 ·cases h
end
theorem Yb2 (r : Nat) : Fewer (renewG r) := by
 intro r' j p l;unfold renewG;simp only;split
 ·exact .inl rfl
 ·exact .inr rfl
section
variable {c : Cx} {env : Env} {w : World}
theorem RP.renewR (hlen : env.length = tmps.size) (m : Rel c (SS env noP tmps vs w cs bs)) (hno : ∀ r, (∀ q ∈ (ovl env noP r).refs, q.1 < env.length) /\ (∀ q ∈ (ovl env noP r).ptrs, q < env.length)) {r : Nat} {e : BoxK} (hr : get env r = .con (.box e) ls) {B : Nat} (hB : bs r 0 = [B]) (htm : tmps.getD r undef = .pointer (some ⟨B, 0, none⟩)) (hbel : Below c.base w w') {ch' : List Value} {br bn : Nat -> List Nat} {ns : List Leaf} {k2 : Kind} {ls2 : List Leaf} {rv : Value} {cells2 : List Value}
  (I : ∀ b, b < w.heap.size -> (∀ l, b ∉ bs r l) -> w'.heap[b]? = w.heap[b]?) (hBh : w'.heap[B]? = some (.cells ch'.toArray e.id (0, 0))) (hfix : ∀ l, nthB e.fix l = true -> ch'[l]? = (cs r)[l]?)
  (hbr0 : br 0 = [B]) (hnl : ns.length = ch'.length) (hbrn : ∀ l, ns.length <= l -> br (l + 1) = []) (hn1 : ∀ l b, b ∈ br l -> b < w'.heap.size /\ (w.heap.size <= b \/ ∃ C, b ∈ bs r C)) (hn2 : ∀ l b, b ∈ bn l -> b < w'.heap.size /\ (w.heap.size <= b \/ ∃ C, b ∈ bs r C))
  (hd1 : ∀ l C b, b ∈ br l -> b ∈ br C -> l = C) (hd2 : ∀ l C b, b ∈ bn l -> b ∈ bn C -> l = C) (hd3 : ∀ l C b, b ∈ br l -> b ∉ bn C) (hnd1 : ∀ l, (br l).Nodup) (hnd2 : ∀ l, (bn l).Nodup)
  (hset1 : ∀ l ∈ ns, l.refs = []) (N : ∀ l ∈ ls2, l.m.settled = true)
  (Y : let s' : St := ⟨upd (upd (chgE (renewG r) (ovl env noP)) r (.con (.box e) ns)) env.length (.con k2 ls2), upd (ovlT tmps vs) env.length rv, w', upd (upd cs r ch') env.length cells2, upd (upd bs r br) env.length bn⟩
   Keeps c (SS env noP tmps vs w cs bs) s' -> (∀ l lf u, ns[l]? = some lf -> ch'[l]? = some u -> LeafRel c s' r l u lf) /\ AVRel c s' env.length (.con k2 ls2) rv) :
  RP c (renewBox r (.box e) ns env) tmps w' (upd noP env.length (.con k2 ls2)) (upd vs env.length rv) := by
 have Z : r < env.length := Yx hr;have M : r ≠ env.length := X1c Z
 let s' : St := ⟨upd (upd (chgE (renewG r) (ovl env noP)) r (.con (.box e) ns)) env.length (.con k2 ls2), upd (ovlT tmps vs) env.length rv, w', upd (upd cs r ch') env.length cells2, upd (upd bs r br) env.length bn⟩
 have hbN : ∀ l, bs env.length l = [] := by
  have := m.av env.length;rw [show (SS env noP tmps vs w cs bs).env env.length = .undef by show ovl env noP _ = _; rw [Yg (Xd _)]; rfl] at this;exact this
 have X : s'.bs r = br := by show upd (upd bs r br) env.length bn r = _; rw [Y1 _ _ M, Y0]
 have eN : s'.bs env.length = bn := Y0 _ _ _;have eO : ∀ p, p ≠ r -> p ≠ env.length -> s'.env p = (ovl env noP p).chg (renewG r) /\ s'.tm p = ovlT tmps vs p /\ s'.cs p = cs p /\ s'.bs p = bs p := fun p g y => by
  refine ⟨?_, Y1 _ _ y, ?_, ?_⟩
  ·show upd (upd _ r _) env.length _ p = _;rw [Y1 _ _ y, Y1 _ _ g]; rfl
  ·show upd (upd cs r ch') env.length cells2 p = _;rw [Y1 _ _ y, Y1 _ _ g]
  ·show upd (upd bs r br) env.length bn p = _;rw [Y1 _ _ y, Y1 _ _ g]
 have hstep : Rel c s' := by
  refine Rel.step (s := SS env noP tmps vs w cs bs) (s' := s') (renewG r) m (fun p => p = r \/ p = env.length) (fun a j => ∃ lf u, OwnPlace (SS env noP tmps vs w cs bs) a j lf u) (fun a => ∃ off v, PtrRel (SS env noP tmps vs w cs bs) a off v) (fun p F => ?_) hbel (fun b z hne => ?_) (fun p l b F z => ?_) (fun p l p' C b F hp' z A => ?_) (fun p l F => ?_) (fun p F => ?_) (fun hk => ⟨?_, ?_, ?_⟩) (fun hk p F => ?_)
  ·grind
  ·grind
  ·rcases F with rfl | rfl
   ·rw [X] at z;obtain ⟨g, y⟩ := hn1 l b z;exact ⟨g, y.imp id (fun ⟨C, h⟩ => ⟨p, C, .inl rfl, h⟩)⟩
   ·rw [eN] at z;obtain ⟨g, y⟩ := hn2 l b z;exact ⟨g, y.imp id (fun ⟨C, h⟩ => ⟨r, C, .inl rfl, h⟩)⟩
  ·rcases F with rfl | rfl
   ·rcases hp' with rfl | rfl
    ·rw [X] at z A; exact ⟨rfl, hd1 _ _ _ z A⟩
    ·rw [X] at z; rw [eN] at A; exact absurd A (hd3 _ _ _ z)
   ·rcases hp' with rfl | rfl
    ·rw [eN] at z; rw [X] at A; exact absurd z (hd3 _ _ _ A)
    ·rw [eN] at z A; exact ⟨rfl, hd2 _ _ _ z A⟩
  ·rcases F with rfl | rfl
   ·rw [X]; exact hnd1 l
   ·rw [eN]; exact hnd2 l
  ·exact (m.av p).refs_own
  ·intro u t x r1 j p hL W;unfold renewG;simp only;by_cases g : r1 = r
   ·rw [X4 g];exact ⟨rfl, Rep.one W.1 u sm⟩
   ·rw [X2 g];refine ⟨rfl, ?_⟩;obtain ⟨lf0, u0, y, h3, h4⟩ := hL;have E : r1 < env.length := by
     apply Nat.lt_of_not_le;intro G;have : (SS env noP tmps vs w cs bs).env r1 = .undef := by show ovl env noP r1 = _; rw [Yg G]; rfl
     rw [this] at y; simp [AV.leaf?] at y
    obtain ⟨o1, o2, o3, o4⟩ := eO r1 g (X1c E);refine BorRel.keep hk ⟨fun lf u L => ?_, by rw [o4], fun b z => ?_⟩ W
    ·obtain ⟨D, p2, p3⟩ := L;refine ⟨?_, p2, gr⟩;rw [o1];have D : (ovl env noP r1).leaf? j = some lf := D;cases hv : ovl env noP r1 with
     | con k0 ls0 =>
      rw [hv] at D;simp only [AV.leaf?] at D;simp only [AV.chg, AV.leaf?];rw [Yf, D];obtain ⟨t0, x0, m0⟩ := lf;cases m0 with
      | at_ lv => rfl
      | bor _ _ _ => simp [Mode.own] at p2
      | dead => simp [Mode.own] at p2
     | _ => rw [hv] at D; simp [AV.leaf?] at D
    ·exact I b (m.own _ _ _ z).2 (fun l O => g (m.disj _ _ _ _ _ z O).1)
  ·intro a r1 j p i o hL hwr;unfold renewG;simp only;by_cases g : r1 = r
   ·grind
   ·rw [show (r1 == r) = false from by simpa using g];simp;obtain ⟨lf0, u0, y, h3, h4⟩ := hL;have E : r1 < env.length := by
     apply Nat.lt_of_not_le;intro G;have : (SS env noP tmps vs w cs bs).env r1 = .undef := by show ovl env noP r1 = _; rw [Yg G]; rfl
     rw [this] at y; simp [AV.leaf?] at y
    obtain ⟨o1, o2, o3, o4⟩ := eO r1 g (X1c E);refine WrRel0.keep hk ⟨fun lf u L => ?_, by rw [o4], fun b z => ?_⟩ hwr
    ·obtain ⟨D, p2, p3⟩ := L;refine ⟨?_, p2, by rw [o3]; exact p3⟩;rw [o1];have D : (ovl env noP r1).leaf? j = some lf := D;cases hv : ovl env noP r1 with
     | con k0 ls0 =>
      rw [hv] at D;simp only [AV.leaf?] at D;simp only [AV.chg, AV.leaf?];rw [Yf, D];obtain ⟨t0, x0, m0⟩ := lf;cases m0 with
      | at_ lv => rfl
      | bor _ _ _ => simp [Mode.own] at p2
      | dead => simp [Mode.own] at p2
     | _ => rw [hv] at D; simp [AV.leaf?] at D
    ·exact I b (m.own _ _ _ z).2 (fun l O => g (m.disj _ _ _ _ _ z O).1)
  ·intro r1 hL _;obtain ⟨off, v, e0, ls0, B0, q1, q2, q3⟩ := hL;have q1 : ovl env noP r1 = .con (.box e0) ls0 := q1;have E : r1 < env.length := by
    apply Nat.lt_of_not_le;intro G;rw [Yg G] at q1;exact AV.noConfusion q1
   refine ⟨Y1 _ _ (X1c E), fun e1 ls1 g => ?_⟩;by_cases y : r1 = r
   ·subst y;exact ⟨e, ns, by show upd (upd _ r1 _) env.length _ r1 = _; rw [Y1 _ _ M, Y0]⟩
   ·have g : ovl env noP r1 = .con (.box e1) ls1 := g;exact ⟨e1, chgs (renewG r) ls1, by rw [(eO r1 y (X1c E)).1, g]; rfl⟩
  ·obtain ⟨hl1, hl2⟩ := Y hk;rcases F with rfl | rfl
   ·have ee : s'.env p = .con (.box e) ns := by show upd (upd _ p _) env.length _ p = _; rw [Y1 _ _ M, Y0]
    have et : s'.tm p = .pointer (some ⟨B, 0, none⟩) := by
     show upd (ovlT tmps vs) env.length rv p = _;rw [Y1 _ _ M];exact (X4 om).trans htm
    have ec : s'.cs p = ch' := by show upd (upd cs p ch') env.length cells2 p = _; rw [Y1 _ _ M, Y0]
    have hav := m.av p;rw [show (SS env noP tmps vs w cs bs).env p = .con (.box e) ls by show ovl env noP p = _; rw [Y7 Z]; exact hr] at hav;obtain ⟨⟨B1, g1, g2, g3, g4, g5⟩, _⟩ := hav;rw [ee, et];refine ⟨⟨B, rfl, by rw [ec]; exact hBh, by rw [X]; exact hbr0, fun F => ?_, fun l O => ?_⟩, by rw [ec]; exact hnl, fun l O => by rw [X]; exact hbrn l O, fun l lf u O hu => hl1 l lf u (by rw [<- Y2]; exact O) gr⟩
    ·grind
    ·grind
   ·have ee : s'.env env.length = .con k2 ls2 := Y0 _ _ _;have et : s'.tm env.length = rv := Y0 _ _ _;rw [ee, et];exact hl2
 have U : (renewBox r (.box e) ns env).length = env.length := by unfold renewBox; rw [Y5, Y8]
 have e1 : upd (upd (chgE (renewG r) (ovl env noP)) r (.con (.box e) ns)) env.length (.con k2 ls2) = ovl (renewBox r (.box e) ns env) (upd noP env.length (.con k2 ls2)) := by
  rw [Yb gr];congr 1;funext p;by_cases F : p < env.length
  ·rw [Y7 (by rw [U]; exact F)];unfold renewBox;rw [Y50 (by rw [Y8]; exact Z), Y85];by_cases g : p = r
   ·rw [g, Y0, Y0]
   ·rw [Y1 _ _ g, Y1 _ _ g];show (ovl env noP p).chg _ = (get env p).chg _;rw [Y7 F]
  ·rw [Yg (by rw [U]; omega), Y1 _ _ om];show (ovl env noP p).chg _ = _;rw [Yg om]; rfl
 refine ⟨by rw [U]; exact hlen, _, _, Rel.congr hstep e1 (Yv om rv).symm, fun p => ?_⟩;rw [U, <- e1];by_cases y : p = env.length
 ·rw [y, Y0, (Yd N).1, (Yd N).2];exact ⟨sm, sm⟩
 ·rw [Y1 _ _ y];by_cases g : p = r
  ·rw [g, Y0];refine ⟨fun q V => ?_, by simp [AV.ptrs]⟩;simp only [AV.refs, Xi] at V;obtain ⟨l, O, V⟩ := V;rw [hset1 l O] at V; simp at V
  ·rw [Y1 _ _ g];have := Yi (Yb2 r) (ovl env noP p);exact ⟨fun q V => (hno p).1 q (this.1 q V), fun q V => (hno p).2 q (this.2 q V)⟩
end
theorem Y3w {b : BoxSig} : ∀ {ls : List Leaf} {n l : Nat} {lf : Leaf}, boxFits b n ls = true -> ls[l]? = some lf -> lf.m.settled = true /\ (∀ e τ, lf.t = .slice e τ -> (slotAt b.lv (n + l)).isFx = true \/ lf.m = b.md (n + l))
 | [], n, l, lf, _, hl => by simp at hl
 | a :: ls, n, 0, lf, h, hl => by
  obtain rfl : a = lf := by simpa using hl
  simp [boxFits] at h;refine ⟨h.1.1, fun e τ g => ?_⟩;have := h.1.2;rw [g] at this;simpa using this
 | a :: ls, n, l + 1, lf, h, hl => by
  simp [boxFits] at h;have := Y3w (n := n + 1) (l := l) h.2 (by simpa using hl)
  rwa [show n + 1 + l = n + (l + 1) by omega] at this
theorem Y7o {b : BoxSig} : ∀ {ls : List Leaf} {n l : Nat} {lf : Leaf}, boxCalm b n ls = true -> ls[l]? = some lf -> ∀ e τ, lf.t = .slice e τ -> slotAt b.lv (n + l) = .fx \/ slotAt b.lv (n + l) = .dp
 | [], n, l, lf, _, hl => by simp at hl
 | a :: ls, n, 0, lf, h, hl => by
  obtain rfl : a = lf := by simpa using hl
  simp [boxCalm] at h;intro e τ i;have := h.1;rw [i] at this;simp;cases g : slotAt b.lv n <;> rw [g] at this <;> simp_all
 | a :: ls, n, l + 1, lf, h, hl => by
  simp [boxCalm] at h;have := Y7o (n := n + 1) (l := l) h.2 (by simpa using hl)
  rwa [show n + 1 + l = n + (l + 1) by omega] at this
theorem Y7p {b : BoxSig} : ∀ {ls : List Leaf} {n l : Nat} {lf : Leaf}, boxFxRo b n ls = true -> ls[l]? = some lf -> (slotAt b.lv (n + l)).isFx = true -> lf.m.own = false
 | [], n, l, lf, _, hl => by simp at hl
 | a :: ls, n, 0, lf, h, hl => by
  obtain rfl : a = lf := by simpa using hl
  simp [boxFxRo] at h;intro i;rcases h.1 with g | g
  ·grind
  ·exact g
 | a :: ls, n, l + 1, lf, h, hl => by
  simp [boxFxRo] at h;have := Y7p (n := n + 1) (l := l) h.2 (by simpa using hl)
  rwa [show n + 1 + l = n + (l + 1) by omega] at this
theorem Y5s : ∀ {fs : List Bool} {ss : List Slot} {l : Nat}, subFix fs ss = true -> nthB fs l = true -> (slotAt ss l).isFx = true
 | [], ss, l, _, h => by simp [nthB] at h
 | f :: fs, [], 0, h, h2 => by simp [subFix] at h; simp only [nthB] at h2; rw [h2] at h; simp at h
 | f :: fs, [], l + 1, h, h2 => by simp [subFix] at h; exact Y5s (ss := []) (l := l) h.2 h2
 | f :: fs, s :: ss, 0, h, h2 => by
  simp [subFix] at h;simp [nthB] at h2;rcases h.1 with b | b
  ·grind
  ·exact b
 | f :: fs, s :: ss, l + 1, h, h2 => by simp [subFix] at h; exact Y5s (fs := fs) (ss := ss) (l := l) h.2 h2
theorem Y45 {b : BoxSig} : ∀ {n : Nat} {ls ms : List Leaf}, ls.length = ms.length -> (mixLs b n ls ms).length = ls.length
 | n, [], [], _ => rfl
 | n, [], _ :: _, h => by simp at h
 | n, _ :: _, [], h => by simp at h
 | n, l :: ls, m :: ms, h => by simp [mixLs]; rw [Y45 (by simpa using h)]
theorem Y72 {b : BoxSig} : ∀ {n l : Nat} {ls ms : List Leaf} {lf : Leaf}, (mixLs b n ls ms)[l]? = some lf -> ((slotAt b.lv (n + l)).isFx = true /\ ls[l]? = some lf) \/ ((slotAt b.lv (n + l)).isFx = false /\ ms[l]? = some lf)
 | n, l, [], ms, lf, h => by simp [mixLs] at h
 | n, l, _ :: _, [], lf, h => by simp [mixLs] at h
 | n, 0, a :: ls, m :: ms, lf, h => by
  simp only [mixLs, Xg, X0] at h;cases g : (slotAt b.lv n).isFx with
  | true => grind
  | false => grind
 | n, l + 1, a :: ls, m :: ms, lf, h => by
  simp only [mixLs, X1l] at h;have := Y72 (n := n + 1) (l := l) h;rw [show n + 1 + l = n + (l + 1) by omega] at this;simpa using this
def Leaf.dat (l : Leaf) : Σ t : Ty, t.D := ⟨l.t, l.x⟩
theorem Y7q {l : Leaf} {x : t.D} (h : l.as t = some x) : l.dat = ⟨t, x⟩ := by
 rw [Leaf.as_eq h]; rfl
theorem Y6d (p : Nat -> Mode) : ∀ (t : Ty) {ls : List Leaf} {x : t.D} {rest : List Leaf} (n : Nat), asm t ls = some (x, rest) -> ∃ i, ls = i ++ rest /\ i.map Leaf.dat = (leaves t x p n).map Leaf.dat
 | .unit, ls, x, rest, n, h => by
  simp [asm] at h;obtain ⟨_, rfl⟩ := h;exact ⟨[], rfl, rfl⟩
 | .pair a b, ls, x, rest, n, h => by
  simp [asm] at h;cases j : asm a ls with
  | none => rw [j] at h; simp at h
  | some q =>
   obtain ⟨F, D⟩ := q;rw [j] at h;simp only at h;cases m : asm b D with
   | none => rw [m] at h; simp at h
   | some q =>
    obtain ⟨G, E⟩ := q;rw [m] at h;simp at h;obtain ⟨rfl, rfl⟩ := h;obtain ⟨B, z, A⟩ := Y6d p a n j;obtain ⟨C, e2, k2⟩ := Y6d p b (n + a.sz) m;exact ⟨B ++ C, by rw [z, e2, X7], by simp [leaves, A, k2]⟩
 | .int kk, ls, x, rest, n, h => by
  cases ls with
  | nil => simp [asm] at h
  | cons l ls =>
   simp [asm] at h;cases g : l.as (.int kk) with
   | none => rw [g] at h; simp at h
   | some y =>
    rw [g] at h;simp at h;obtain ⟨rfl, rfl⟩ := h;exact ⟨[l], rfl, by simp only [X1y, X39, Y7q g]; rfl⟩
 | .bool, ls, x, rest, n, h => by
  cases ls with
  | nil => simp [asm] at h
  | cons l ls =>
   simp [asm] at h;cases g : l.as .bool with
   | none => rw [g] at h; simp at h
   | some y =>
    rw [g] at h;simp at h;obtain ⟨rfl, rfl⟩ := h;exact ⟨[l], rfl, by simp only [X1y, X39, Y7q g]; rfl⟩
 | .str, ls, x, rest, n, h => by
  cases ls with
  | nil => simp [asm] at h
  | cons l ls =>
   simp [asm] at h;cases g : l.as .str with
   | none => rw [g] at h; simp at h
   | some y =>
    rw [g] at h;simp at h;obtain ⟨rfl, rfl⟩ := h;exact ⟨[l], rfl, by simp only [X1y, X39, Y7q g]; rfl⟩
 | .slice e τ, ls, x, rest, n, h => by
  cases ls with
  | nil => simp [asm] at h
  | cons l ls =>
   simp [asm] at h;cases g : l.as (.slice e τ) with
   | none => rw [g] at h; simp at h
   | some y =>
    rw [g] at h;simp at h;obtain ⟨rfl, rfl⟩ := h;exact ⟨[l], rfl, by simp only [X1y, X39, Y7q g]; rfl⟩
theorem Y29 (g : Nat -> Mode) : ∀ (t : Ty) (x : t.D) (n l : Nat) (lf : Leaf), (leaves t x g n)[l]? = some lf -> (lf.t.flatB = true /\ lf.m = .at_ .ro) \/ ((∃ e τ, lf.t = .slice e τ) /\ lf.m = g (n + l))
 | .unit, x, n, l, lf, h => by simp [leaves] at h
 | .int _, x, n, 0, lf, h => by simp only [leaves, Xg, X0] at h; subst h; exact .inl ⟨rfl, rfl⟩
 | .bool, x, n, 0, lf, h => by simp only [leaves, Xg, X0] at h; subst h; exact .inl ⟨rfl, rfl⟩
 | .str, x, n, 0, lf, h => by simp only [leaves, Xg, X0] at h; subst h; exact .inl ⟨rfl, rfl⟩
 | .slice e τ, x, n, 0, lf, h => by simp only [leaves, Xg, X0] at h; subst h; exact .inr ⟨⟨e, τ, rfl⟩, rfl⟩
 | .int _, x, n, l + 1, lf, h => by simp [leaves] at h
 | .bool, x, n, l + 1, lf, h => by simp [leaves] at h
 | .str, x, n, l + 1, lf, h => by simp [leaves] at h
 | .slice _ _, x, n, l + 1, lf, h => by simp [leaves] at h
 | .pair a b, x, n, l, lf, h => by
  simp [leaves] at h;have i : (leaves a x.1 g n).length = a.sz := by
   have := congrArg List.length (Y15 a x.1 g n);rw [X2p] at this;rw [this, Y22]
  by_cases j : l < a.sz
  ·rw [Xj om] at h;exact Y29 g a x.1 n l lf h
  ·rw [Xc om, i] at h;have := Y29 g b x.2 (n + a.sz) (l - a.sz) lf h
   rwa [show n + a.sz + (l - a.sz) = n + l by omega] at this
end Go.FP
