/- How Go values lie in memory, and an evaluator of code with its soundness (part 4 of 7). Conditions: those that stand in each theorem; nothing is assumed of any program. -/
import Derived.Test.YtjppmoblodlepaaFpC

set_option linter.unusedVariables false
set_option linter.unusedSimpArgs false
set_option linter.unnecessarySimpa false

namespace Go.FP
open Go.RowKit
variable {S : Nat -> Prop} {w : World} {env : Env} {tmps : Array Value} {vs : Nat -> Value} {ps : Nat -> AV} {cs : Nat -> List Value} {bs : Nat -> Nat -> List Nat} {c : Cx} {next : Act -> World -> Prop} {ls : List Leaf} {x : Operand} {t : Ty} {v : Value} {f : FuncId} {e : TypeId} {cells : List Value} {n : Nat} {u : Value} {rs : List (Ty × Lvl)} {k : Kind} {sg : Sig} {lv : Lvl} {τ : Ty} {w' : World} {xs : List (Σ t : Ty, t.D)} {us : List Value} {te : TE}
theorem Y78 (y : Rel c (SS env ps tmps vs w cs bs)) {r j : Nat} {ys : List t.D} (D : lv.deep = true)
  (q : (get env r).leaf? j = some ⟨.slice e t, ys, .at_ lv⟩) (Z : 0 < ys.length) :
  ∃ B I cells A, (cs r)[j]? = some (.slice (some ⟨B, 0, none⟩) ys.length I) /\ bs r (j + 1) = B :: A /\ El (Rep (fun _ => False) w t .dp) t.sz cells ys A /\ w.ownsRow 0 e t.sz (.slice (some ⟨B, 0, none⟩) ys.length I) ys.length cells := by
 have E := Y1g q;have i := y.av r;have O : (SS env ps tmps vs w cs bs).env r = get env r := Y7 E;rw [O] at i;obtain ⟨k, m, G⟩ : ∃ k ls, get env r = .con k ls := by
  cases X : get env r with
  | con k ls => exact ⟨k, ls, rfl⟩
  | _ => rw [X] at q; simp [AV.leaf?] at q
 rw [G] at i q;have l : leafAt m j = some ⟨.slice e t, ys, .at_ lv⟩ := q;have W : j < m.length := by rw [Y1] at l; exact (X9.1 l).1
 have Y : m.length = (cs r).length := i.2.1;have F : (cs r)[j]? = some ((cs r)[j]' om) := X1 om;have z := (Rep.deep D).1 (i.2.2.2 j _ _ l F).rep;obtain ⟨v, cells, M, A, C, U, V, p⟩ := z;have C : (cs r)[j]' om = v := by simpa using C
 rw [C] at F;obtain ⟨p, L⟩ := p;rcases L.2 with ⟨_, hn⟩ | ⟨g, cap, N, rfl, _⟩
 ·omega
 ·have p : M = [g] := p;subst p;exact ⟨g, cap, cells, A, F, U, El.imp (fun c x b hb h => Rep.dpS h) V, L⟩
theorem Y9h {sz n : Nat} {B k b : Nat} (h : w.ownsRow 0 e sz (.slice (some ⟨B, 0, none⟩) n b) n cells) (i : cells[k]? = some u) : w.cell? ⟨B, k, none⟩ = some u := by
 have := World.ownsRow.cells (g := B) h rfl k u i
 rwa [Y16, Xx] at this
section
variable {P : Program} {o : Oper} {a : Act} {w : World} {R : Type} {K : Env -> Option R} {r0 : R} {next : Act -> World -> Prop} {Q : Exit -> Act -> World -> Prop} {c : Cx} {d : Nat} {T : Tab} {env : Env}
theorem Ybl (hT : TabOk P T) {t : TypeId} {s x : Operand} {b : Call} {r j m : Nat} {i : Int} (p : o.op = .call b) (z : b.callee = .builtin .append) (g : b.args.toList = [s, x]) (l : b.argTypes.toList = [t, t]) (h : o.dst = some d)
  (C : RE c env a.tmps w) (A : d < env.length) (D : elemAt T t = some te) (q : nestOf env s = some (r, j, i, m)) (y : appendN d te r j i m x env K = some r0) (B : Next c a K r0 env.length next) : o.wp P a w next Q := by simp [nestOf] at q
end
theorem Y2t : ∀ (t : Ty) {x y : t.D} {o : Nat} {l : Leaf}, updLeafD t x o l = some y -> ∃ q, leafD t x o = some q /\ l.t = q.1
 | .int k, x, y, o, l, h => by
  simp only [updLeafD] at h;split at h
  ·rename_i g;have := Leaf.as_eq h;exact ⟨⟨.int k, x⟩, by simp [leafD, g], by rw [this]⟩
  ·simp at h
 | .bool, x, y, o, l, h => by
  simp only [updLeafD] at h;split at h
  ·rename_i g;have := Leaf.as_eq h;exact ⟨⟨.bool, x⟩, by simp [leafD, g], by rw [this]⟩
  ·simp at h
 | .str, x, y, o, l, h => by
  simp only [updLeafD] at h;split at h
  ·rename_i g;have := Leaf.as_eq h;exact ⟨⟨.str, x⟩, by simp [leafD, g], by rw [this]⟩
  ·simp at h
 | .slice e t, x, y, o, l, h => by
  simp only [updLeafD] at h;split at h
  ·rename_i g;have := Leaf.as_eq h;exact ⟨⟨.slice e t, x⟩, by simp [leafD, g], by rw [this]⟩
  ·simp at h
 | .unit, x, y, o, l, h => by simp [updLeafD] at h
 | .pair a b, x, y, o, l, h => by
  simp [updLeafD] at h;split at h
  ·rename_i g;split at h
   ·rename_i z m;obtain ⟨q, i, j⟩ := Y2t a m;exact ⟨q, by simp [leafD]; rw [X3 g]; exact i, j⟩
   ·simp at h
  ·rename_i g;split at h
   ·rename_i z m;obtain ⟨q, i, j⟩ := Y2t b m;exact ⟨q, by simp [leafD]; rw [X5 g]; exact i, j⟩
   ·simp at h
section
variable {P : Program} {o : Oper} {a : Act} {w : World} {R : Type} {K : Env -> Option R} {r0 : R} {next : Act -> World -> Prop} {Q : Exit -> Act -> World -> Prop} {c : Cx} {d : Nat} {T : Tab} {env : Env}
theorem Y9i (hT : TabOk P T) {t : TypeId} {x v : Operand} {s r j g : Nat} {i : Int} {l : Leaf} (m : o.op = .store t x v) (b : o.dst = none) (y : RE c env a.tmps w) (h : growOf env v = some (s, r, j, i, g, l)) (z : T.ty t = some l.t)
  (p : storeGrow s r j i g l x env K = some r0) (q : Next c a K r0 env.length next) : o.wp P a w next Q := by simp [growOf] at h
end
abbrev Places := List (Nat × Nat × Leaf)
theorem Y1t (L : Places) (r : Nat) : ∀ (k : Nat) (ls : List Leaf) (l : Nat), (renewLs L r k ls)[l]? = (ls[l]?).map fun lf => (lookM L r (k + l)).getD lf
 | k, [], l => by simp [renewLs]
 | k, u :: ls, 0 => by simp [renewLs]
 | k, u :: ls, l + 1 => by simp [renewLs, Y1t L r (k + 1) ls l, X29, Nat.add_comm 1 l]
theorem Y2u (L : Places) (r : Nat) : ∀ (k : Nat) (ls : List Leaf), (renewLs L r k ls).length = ls.length
 | k, [] => rfl
 | k, u :: ls => by simp [renewLs, Y2u L r (k + 1) ls]
theorem Y58 (L : Places) : ∀ (k : Nat) (env : Env) (r : Nat), get (renewEnv L k env) r = (get env r).renew L (k + r)
 | k, [], r => by simp [renewEnv, get, AV.renew]
 | k, u :: env, 0 => by simp [renewEnv, get]
 | k, u :: env, r + 1 => by simp [renewEnv, get, Y58 L (k + 1) env r, X29, Nat.add_comm 1 r]
theorem Y3z (L : Places) : ∀ (k : Nat) (env : Env), (renewEnv L k env).length = env.length
 | k, [] => rfl
 | k, u :: env => by simp [renewEnv, Y3z L (k + 1) env]
theorem Y1y (L : Places) (env : Env) : (syncs L env).length = env.length := by unfold syncs; rw [Y3z, Y6]
theorem Ycj (L : Places) (env : Env) (r : Nat) : get (syncs L env) r = ((get env r).chg (syncsG L)).renew L r := by unfold syncs; rw [Y58, Y11, Xx]
theorem Ybm {L : Places} {r : Nat} (h : ∀ j, lookM L r j = none) (v : AV) : v.renew L r = v := by
 cases v with
 | con k ls =>
  simp only [AV.renew, AV.con.injEq, true_and];apply X1u;intro l;rw [Y1t, h];cases ls[l]? <;> rfl
 | _ => rfl
theorem Yaj (L : Places) : Fewer (syncsG L) := fun r j p l => by
 simp [syncsG];split
 ·cases p with
  | nil => exact .inr rfl
  | cons a p => exact .inl rfl
 ·exact .inr rfl
theorem Ybn {L : Places} (p : ∀ q j n, lookM L q j = some n -> ∃ lv, n.m = .at_ lv) (r : Nat) (v : AV) : (∀ z ∈ (v.renew L r).refs, z ∈ v.refs) /\ (∀ z ∈ (v.renew L r).ptrs, z ∈ v.ptrs) := by
 cases v with
 | con k ls =>
  refine ⟨fun z b => ?_, fun z b => b⟩;simp only [AV.renew, AV.refs, Xi] at b ⊢;obtain ⟨lf, g, b⟩ := b;obtain ⟨l, i⟩ := Xz g;rw [Y1t] at i;obtain ⟨B, y, rfl⟩ := Xt.1 i;cases h : lookM L r (0 + l) with
  | none => grind
  | some n =>
   rw [h] at b;obtain ⟨lv, A⟩ := p _ _ _ h;obtain ⟨t, x, m⟩ := n;subst A;simp [Leaf.refs] at b
 | _ => exact ⟨fun z b => b, fun z b => b⟩
theorem RP.syncsAt (hlen : env.length = tmps.size) (F : Rel c (SS env noP tmps vs w cs bs)) (hno : ∀ r, (∀ q ∈ (ovl env noP r).refs, q.1 < env.length) /\ (∀ q ∈ (ovl env noP r).ptrs, q < env.length)) {L : Places} (hL : ∀ q j n, lookM L q j = some n -> ∃ x lv, (get env q).leaf? j = some ⟨n.t, x, .at_ lv⟩ /\ n.m = .at_ lv /\ lv.deep = true) (hbel : Below c.base w w')
  (U : ∀ b, b < w.heap.size -> (∀ q j n, lookM L q j = some n -> b ∉ bs q (j + 1)) -> w'.heap[b]? = w.heap[b]?)
  (Y : Nat -> Nat -> List Nat)
  (hbd1 : ∀ q j n, lookM L q j = some n -> ∀ b ∈ Y q j, b < w'.heap.size /\ (w.heap.size <= b \/ ∃ q' X n', lookM L q' X = some n' /\ b ∈ bs q' (X + 1)))
  (hbd2 : ∀ q j n, lookM L q j = some n -> (Y q j).Nodup)
  (hbd3 : ∀ q j n q' X n' b, lookM L q j = some n -> lookM L q' X = some n' -> b ∈ Y q j -> b ∈ Y q' X -> q = q' /\ j = X)
  (hrep : ∀ q j n u, lookM L q j = some n -> (cs q)[j]? = some u -> Rep (fun _ => False) w' n.t .dp [u] n.x (Y q j)) :
  RP c (syncs L env) tmps w' noP vs := by
 let g : Chg := syncsG L
 let s : St := SS env noP tmps vs w cs bs
 let bs' : Nat -> Nat -> List Nat := fun p l => match l with
  | 0 => bs p 0
  | j + 1 => match lookM L p j with | some _ => Y p j | none => bs p (j + 1)
 let E : Nat -> AV := fun p => ((ovl env noP p).chg g).renew L p
 let s' : St := ⟨E, ovlT tmps vs, w', cs, bs'⟩
 let D : Nat -> Prop := fun p => ∃ j n, lookM L p j = some n
 have eb0 : ∀ p, s'.bs p 0 = bs p 0 := fun p => rfl;have ebS : ∀ {p j n}, lookM L p j = some n -> s'.bs p (j + 1) = Y p j := fun {p j n} h => by show (match lookM L p j with | some _ => Y p j | none => bs p (j + 1)) = _; rw [h]
 have V : ∀ {p j}, lookM L p j = none -> s'.bs p (j + 1) = bs p (j + 1) := fun {p j} h => by show (match lookM L p j with | some _ => Y p j | none => bs p (j + 1)) = _; rw [h]
 have part : ∀ p l b, b ∈ s'.bs p l -> (b ∈ bs p l /\ ∀ j, l = j + 1 -> lookM L p j = none) \/ ∃ j n, l = j + 1 /\ lookM L p j = some n /\ b ∈ Y p j := by
  intro p l b G;cases l with
  | zero => exact .inl ⟨G, fun j h => om⟩
  | succ j =>
   cases C : lookM L p j with
   | none => rw [V C] at G; exact .inl ⟨G, fun X h => by rw [<- Nat.succ.inj h]; exact C⟩
   | some n => rw [ebS C] at G; exact .inr ⟨j, n, rfl, C, G⟩
 have hsame : ∀ p, ¬ D p -> s'.env p = (s.env p).chg g /\ s'.tm p = s.tm p /\ s'.cs p = s.cs p /\ s'.bs p = s.bs p := fun p hp => by
  have hn : ∀ j, lookM L p j = none := fun j => by
   cases C : lookM L p j with
   | none => rfl
   | some n => exact absurd ⟨j, n, C⟩ hp
  refine ⟨Ybm hn _, rfl, rfl, ?_⟩;funext l;cases l with
  | zero => rfl
  | succ j => exact V (hn j)
 have hne : ∀ (p i b : Nat), lookM L p i = none -> b ∈ bs p (i + 1) -> w'.heap[b]? = w.heap[b]? := fun p i b C G =>
  U b (F.own _ _ _ G).2 (fun q j n hq Z => by
   obtain ⟨rfl, M⟩ := F.disj _ _ _ _ _ G Z;obtain rfl : i = j :=om;rw [C] at hq; simp at hq)
 have hne0 : ∀ (p b : Nat), b ∈ bs p 0 -> w'.heap[b]? = w.heap[b]? := fun p b G =>
  U b (F.own _ _ _ G).2 (fun q j n hq Z => by have := (F.disj _ _ _ _ _ G Z).2; omega)
 -- a root that is changed
 have hcon : ∀ p j n, lookM L p j = some n -> ∃ k I, get env p = .con k I /\ p < env.length := fun p j n C => by
  obtain ⟨x, lv, A, _, _⟩ := hL p j n C;cases W : get env p with
  | con k ls => exact ⟨k, ls, rfl, Yw W⟩
  | _ => rw [W] at A; simp [AV.leaf?] at A
 have N : ∀ {p k I}, ovl env noP p = .con k I -> s'.env p = .con k (renewLs L p 0 (chgs g I)) := fun {p k I} h => by
  show ((ovl env noP p).chg g).renew L p = _;rw [h]; rfl
 have hleafN : ∀ {p i lf}, lookM L p i = none -> (s.env p).leaf? i = some lf -> lf.m.own = true -> (s'.env p).leaf? i = some lf := fun {p i lf} C A M => by
  have A : (ovl env noP p).leaf? i = some lf := A;cases W : ovl env noP p with
  | con k ls =>
   rw [W] at A;rw [N W];have A : leafAt ls i = some lf := A;show leafAt _ i = _;rw [Y1, Y1t, Xx, C, <- Y1, Yb, A];simp [Y77 M]
  | _ => rw [W] at A; simp [AV.leaf?] at A
 have hstay : ∀ p i, lookM L p i = none -> SamePl s s' p i := fun p i C =>
  ⟨fun lf u ⟨o1, o2, o3⟩ => ⟨hleafN C o1 o2, o2, o3⟩, V C, fun b G => hne p i b C G⟩
 have hown : ∀ p i n u, lookM L p i = some n -> (cs p)[i]? = some u -> OwnPlace s' p i n u := fun p i n u C hu => by
  obtain ⟨x, lv, A, M, h3⟩ := hL p i n C;obtain ⟨k, I, W, hp⟩ := hcon p i n C;refine ⟨?_, by rw [M]; exact Y9f h3, hu⟩;rw [N (by rw [Y7 hp, W])];rw [W] at A;have A : leafAt I i = some _ := A;show leafAt _ i = _;rw [Y1, Y1t, Xx, C, <- Y1, Yb, A];rfl
 have hptr : ∀ p, SamePtr s s' p := fun p => ⟨rfl, fun e ls he => ⟨e, _, N he⟩⟩;have hgL : Keeps c s s' -> ChgLeaf c s s' g (fun _ _ => True) := by
  intro C u' t' x' p i pa _ hbor;cases O : lookM L p i with
  | none =>
   have hf : g.f p i pa ⟨t', x', .bor p i pa⟩ = ⟨t', x', .bor p i pa⟩ := by simp [g, syncsG, O]
   rw [hf];exact ⟨rfl, hbor.keep C (hstay p i O)⟩
  | some n =>
   cases pa with
   | nil =>
    have hf : g.f p i [] ⟨t', x', .bor p i []⟩ = ⟨n.t, n.x, .bor p i []⟩ := by simp [g, syncsG, O]
    rw [hf];refine ⟨rfl, ?_⟩;obtain ⟨_, ⟨lf', u2, ⟨o1, o2, o3⟩, h5⟩, _⟩ := hbor;obtain ⟨mm, _, rfl⟩ := h5 rfl;refine ⟨?_, ⟨n, u2, hown p i n u2 O o3, fun _ => ⟨_, rfl, rfl⟩⟩, fun _ _ hp => by simp at hp⟩;refine Rep.move (fun b G _ => ⟨?_, rfl⟩) sm (Rep.ro (hrep p i n u2 O o3));rcases G with G | G
    ·exact absurd G id
    ·exact .inr (by rw [ebS O]; exact G)
   | cons z pa =>
    have hf : g.f p i (z :: pa) ⟨t', x', .bor p i (z :: pa)⟩ = Leaf.lost ⟨t', x', .bor p i (z :: pa)⟩ := by simp [g, syncsG, O]
    rw [hf];exact ⟨rfl, Rep.one hbor.1 u' sm⟩
 have hgW : Keeps c s s' -> ChgWr c s s' g (fun _ _ => True) := by
  intro C a p i pa ii oo _ hw;show if (lookM L p i).isSome = true then _ else _
  cases O : lookM L p i with
  | some n => simp only [Option.isSome_some, X1j]; exact .inl rfl
  | none =>
   simp only [Option.isSome_none, Xl, X12];have := Y15 (L := fun p i => lookM L p i = none) C (fun p i hL => hstay p i hL) a p i pa ii oo O hw;simpa [noG] using this
 have hmain : Rel c s' := by
  refine Rel.step (s' := s') g F D (fun _ _ => True) (fun _ => True) hsame hbel
   (fun b G hD => U b G (fun q j n hq => hD q (j + 1) ⟨j, n, hq⟩)) (fun p l b hD G => ?_) (fun p1 l1 p2 l2 b hD hD' hb1 Z => ?_) (fun p l hD => ?_) (fun p _ => ⟨fun _ _ => trivial, fun _ _ => trivial⟩) (fun hkp => ⟨hgL hkp, hgW hkp, fun p hL _ => hptr p⟩) (fun hkp p hD => ?_)
  ·rcases part p l b G with ⟨A, _⟩ | ⟨j, n, rfl, A, M⟩
   ·exact ⟨X19 (F.own _ _ _ A).2 hbel.size, .inr ⟨p, l, hD, A⟩⟩
   ·obtain ⟨k1, k2⟩ := hbd1 p j n A b M;refine ⟨k1, ?_⟩;rcases k2 with k2 | ⟨q', X, n', k3, k4⟩
    ·exact .inl k2
    ·exact .inr ⟨q', X + 1, ⟨X, n', k3⟩, k4⟩
  ·have key : ∀ p l j n q, b ∈ bs p l -> (∀ i, l = i + 1 -> lookM L p i = none) -> lookM L q j = some n -> b ∈ Y q j -> False := by
    intro p l j n q A M h3 h4;rcases (hbd1 q j n h3 b h4).2 with k2 | ⟨q', X, n', k3, k4⟩
    ·have : b < w.heap.size := (F.own _ _ _ A).2;omega
    ·obtain ⟨rfl, h5⟩ := F.disj _ _ _ _ _ A k4;rw [M X h5] at k3; simp at k3
   rcases part p1 l1 b hb1 with ⟨A, h1'⟩ | ⟨j1, n1, rfl, A, h1'⟩ <;> rcases part p2 l2 b Z with ⟨M, h2'⟩ | ⟨j2, n2, rfl, M, h2'⟩
   ·exact F.disj _ _ _ _ _ A M
   ·exact (key _ _ _ _ _ A h1' M h2').elim
   ·exact (key _ _ _ _ _ M h2' A h1').elim
   ·obtain ⟨rfl, rfl⟩ := hbd3 _ _ _ _ _ _ _ A M h1' h2';exact ⟨rfl, rfl⟩
  ·cases l with
   | zero => exact F.nodup _ _
   | succ j =>
    cases C : lookM L p j with
    | none => rw [V C]; exact F.nodup _ _
    | some n => rw [ebS C]; exact hbd2 p j n C
  ·obtain ⟨j0, n0, hk0⟩ := hD;obtain ⟨k, I, W, hp⟩ := hcon p j0 n0 hk0;have hv' : ovl env noP p = .con k I := by rw [Y7 hp, W]
   have hav := F.av p;rw [show (SS env noP tmps vs w cs bs).env p = .con k I from hv'] at hav;obtain ⟨g1, g2, g3, g4⟩ := hav;rw [N hv'];refine ⟨?_, by rw [Y2u, Yo]; exact g2, fun l hl' => ?_, fun l lf u' hl' hu' => ?_⟩
   ·rw [eb0];cases k with
    | val => exact g1
    | agg => exact g1
    | tup sh => exact g1
    | tupB i n sh =>
     obtain ⟨B, vs0, c0, c1, k1, k2, k3, k4, k5, k6⟩ := g1;have k5 : bs p 0 = [B] := k5;exact ⟨B, vs0, c0, c1, k1, k2, k3, (hne0 p B (by rw [k5]; simp)).trans k4, k5, k6⟩
    | box e =>
     obtain ⟨B, k1, k2, k3, k9⟩ := g1;have k3 : bs p 0 = [B] := k3;exact ⟨B, k1, (hne0 p B (by rw [k3]; simp)).trans k2, k3, k9⟩
   ·rw [Y2u, Yo] at hl';cases C : lookM L p l with
    | none => rw [V C]; exact g3 l hl'
    | some n =>
     exfalso;obtain ⟨x, lv, A, _, _⟩ := hL p l n C;rw [W] at A;have A : leafAt I l = some _ := A;rw [Y1] at A;have := (X9.1 A).1;omega
   ·have hu' : (cs p)[l]? = some u' := hu';rw [Y1, Y1t, Xx, <- Y1, Yb] at hl';obtain ⟨lfg, hlg, rfl⟩ := Xt.1 hl';obtain ⟨lf0, hlf0, rfl⟩ := Xt.1 hlg;cases C : lookM L p l with
    | none =>
     exact (g4 l lf0 u' hlf0 hu').chg hkp (hgL hkp) (fun z hz => trivial) (V C) (fun b G => hne p l b C G)
    | some n =>
     obtain ⟨x, lv, A, M, h3⟩ := hL p l n C;rw [W] at A;have A : leafAt I l = some _ := A;rw [hlf0] at A;simp only [X0] at A;subst A;have hpin := (g4 l _ u' hlf0 hu').pin;have hr := hrep p l n u' C hu';obtain ⟨t, y, m⟩ := n;simp only at M hr;subst M;refine LeafRel.of_rep hpin ?_;rw [ebS C];exact (Rep.deep h3).2 (Rep.dpS hr)
 have eE : s'.env = ovl (syncs L env) noP := by
  funext p;by_cases hp : p < env.length
  ·rw [Y7 (by rw [Y1y]; exact hp), Ycj];show ((ovl env noP p).chg g).renew L p = _;rw [Y7 hp]
  ·rw [Ym (by rw [Y1y]; omega)];show ((ovl env noP p).chg g).renew L p = _;rw [Ym om];rfl
 refine ⟨by rw [Y1y]; exact hlen, cs, s'.bs, Rel.congr hmain eE rfl, fun p => ?_⟩;rw [<- eE, Y1y];have A := Ybn (L := L) (fun q j n C => let ⟨_, lv, _, h, _⟩ := hL q j n C; ⟨lv, h⟩) p ((ovl env noP p).chg g);have M := Yi (Yaj L) (ovl env noP p);exact ⟨fun z hz => (hno p).1 z (M.1 z (A.1 z hz)), fun z hz => (hno p).2 z (M.2 z (A.2 z hz))⟩
theorem Y4q : ∀ {t : Ty}, t.flatB = true -> ∀ g ∈ flat t, g.flatB = true
 | .int k, _, g, h => by simp [flat] at h; subst h; rfl
 | .bool, _, g, h => by simp [flat] at h; subst h; rfl
 | .str, _, g, h => by simp [flat] at h; subst h; rfl
 | .slice _ _, hf, _, _ => by simp [Ty.flatB] at hf
 | .unit, _, g, h => by simp [flat] at h
 | .pair a b, hf, g, h => by
  simp [Ty.flatB] at hf;simp [flat] at h;rcases h with h | h
  ·exact Y4q hf.1 g h
  ·exact Y4q hf.2 g h
theorem Y2v : ∀ {rs : List (Ty × Lvl)} {xs : List (Σ t : Ty, t.D)} {sh : List (Bool × Nat)} {ls : List Leaf}, allFlat rs = true -> resLeaves rs xs = some (sh, ls) -> ∀ lf ∈ ls, lf.t.flatB = true
 | [], [], sh, ls, _, h, lf, b => by
  simp [resLeaves] at h;obtain ⟨rfl, rfl⟩ := h;simp at b
 | [], _ :: _, sh, ls, _, h, lf, b => by simp [resLeaves] at h
 | _ :: _, [], sh, ls, _, h, lf, b => by simp [resLeaves] at h
 | (t, fr) :: rs, x :: xs, sh, ls, ha, h, lf, b => by
  simp [allFlat] at ha;simp only [resLeaves] at h;split at h
  ·cases j : resLeaves rs xs with
   | none => rw [j] at h; simp at h
   | some q =>
    obtain ⟨m, l⟩ := q;rw [j] at h;simp at h;obtain ⟨rfl, rfl⟩ := h;rcases X6.1 b with b | b
    ·obtain ⟨g, i, rfl⟩ := X1a.1 b;have : g.t ∈ flat t := by rw [<- Yj t _ (newMode fr) 0]; exact X1a.2 ⟨g, i, rfl⟩
     exact Y4q ha.1 _ this
    ·exact Y2v ha.2 j lf b
  ·simp at h
theorem Ybo (h : allFlat rs = true) (b : resAV rs xs = some (.con k ls)) : ∀ lf ∈ ls, lf.t.flatB = true := by
 unfold resAV at b;cases g : resLeaves rs xs with
 | none => grind
 | some q =>
  obtain ⟨j, i⟩ := q;rw [g] at b;simp [mkCon] at b;split at b
  ·simp at b;rw [<- b.2]; exact Y2v h g
  ·simp at b;rw [<- b.2]; exact Y2v h g
theorem Y40 {lv m : Lvl} : ∀ (t : Ty) (x : t.D) (n : Nat), ∀ lf ∈ leaves t x (fun _ => .at_ lv) n, lf.t.flatB = false -> lf.m = .at_ m -> m = lv
 | .int k, x, n, lf, h, hf, hm => by simp [leaves] at h; rw [h] at hf; simp [Ty.flatB] at hf
 | .bool, x, n, lf, h, hf, hm => by simp [leaves] at h; rw [h] at hf; simp [Ty.flatB] at hf
 | .str, x, n, lf, h, hf, hm => by simp [leaves] at h; rw [h] at hf; simp [Ty.flatB] at hf
 | .slice e t, x, n, lf, h, hf, hm => by simp [leaves] at h; rw [h] at hm; simpa using hm.symm
 | .unit, x, n, lf, h, hf, hm => by simp [leaves] at h
 | .pair a b, x, n, lf, h, hf, hm => by
  simp [leaves] at h;rcases h with h | h
  ·exact Y40 a _ _ _ h hf hm
  ·exact Y40 b _ _ _ h hf hm
structure MutSet (env : Env) (ls ns : List Leaf) (L : Places) : Prop where
 len : ls.length = ns.length
 here : ∀ (i : Nat) (l n : Leaf), ls[i]? = some l -> ns[i]? = some n -> (l.t.flatB = true /\ l.m.live = true) \/ (l.t.flatB = false /\ ∃ (r j : Nat) (t0 : Ty) (x0 : t0.D) (lv : Lvl), l.m = .bor r j [] /\ (get env r).leaf? j = some ⟨t0, x0, .at_ lv⟩ /\ lv.deep = true /\ lookM L r j = some ⟨n.t, n.x, .at_ lv⟩)
 back : ∀ (r j : Nat) (m : Leaf), lookM L r j = some m -> ∃ (i : Nat) (l n : Leaf) (lv : Lvl) (t0 : Ty) (x0 : t0.D), ls[i]? = some l /\ ns[i]? = some n /\ l.t.flatB = false /\ l.m = .bor r j [] /\ m = ⟨n.t, n.x, .at_ lv⟩ /\ lv.deep = true /\ (get env r).leaf? j = some ⟨t0, x0, .at_ lv⟩
 uniq : ∀ (i i' : Nat) (l l' : Leaf) (r j : Nat), ls[i]? = some l -> ls[i']? = some l' -> l.t.flatB = false -> l'.t.flatB = false -> l.m = .bor r j [] -> l'.m = .bor r j [] -> i = i'
theorem Y65 : ∀ {ls ns : List Leaf} {L : Places}, mutSet env ls ns = some L -> MutSet env ls ns L
 | [], [], L, h => by
  simp [mutSet] at h;subst h;exact ⟨rfl, sm, fun r j m h => by simp [lookM] at h, sm⟩
 | [], _ :: _, L, h => by simp [mutSet] at h
 | _ :: _, [], L, h => by simp [mutSet] at h
 | l :: ls, n :: ns, L, h => by
  simp [mutSet] at h;split at h
  ·simp at h
  ·rename_i L0 X;obtain ⟨M, k2, N, k4⟩ := Y65 X;split at h
   ·rename_i B;split at h
    ·rename_i hlv;simp at h;subst h;refine ⟨by simp [M], fun i q U G I => ?_, fun r j m b => ?_, fun i i' l1 l2 r j F Y E W O m2 => ?_⟩
     ·cases i with
      | zero => grind
      | succ i => exact k2 i q U G I
     ·obtain ⟨i, h⟩ := N r j m b;exact ⟨i + 1, h⟩
     ·grind
    ·simp at h
   ·rename_i B;have B : l.t.flatB = false := by simpa using B
    split at h
    ·rename_i r0 p C;split at h
     ·rename_i t0 x0 lv D;split at h
      ·rename_i Z;obtain ⟨hd, g⟩ := Z;have g : lookM L0 r0 p = none :=gr;simp at h;subst h;have A : ∀ r j, ¬ (r = r0 /\ j = p) -> lookM ((r0, p, (⟨n.t, n.x, .at_ lv⟩ : Leaf)) :: L0) r j = lookM L0 r j := fun r j h => by simp only [lookM]; rw [X5 h]
       have y : lookM ((r0, p, (⟨n.t, n.x, .at_ lv⟩ : Leaf)) :: L0) r0 p = some ⟨n.t, n.x, .at_ lv⟩ := by simp [lookM]
       have V : ∀ (i : Nat) (q : Leaf), ls[i]? = some q -> q.t.flatB = false -> q.m ≠ .bor r0 p [] := fun i q F E O => gr;refine ⟨by simp [M], fun i q U G I => ?_, fun r j m b => ?_, fun i i' l1 l2 r j F Y E W O m2 => ?_⟩
       ·grind
       ·by_cases z : r = r0 /\ j = p
        ·obtain ⟨rfl, rfl⟩ := z;rw [y] at b;simp at b;subst b;exact ⟨0, l, n, lv, t0, x0, rfl, rfl, B, C, rfl, hd, D⟩
        ·rw [A r j z] at b;obtain ⟨i, h⟩ := N r j m b;exact ⟨i + 1, h⟩
       ·grind
      ·simp at h
     ·simp at h
    ·simp at h
def MutOk (c : Cx) (env : Env) (tmps : Array Value) (w : World) (vs : Nat -> Value) (bs : Nat -> Nat -> List Nat) (t : Ty) (cells : List Value) (ls : List Leaf) (x y : t.D) (L : Places) : Prop :=
 ∃ g : List Nat, Rep (fun _ => False) w t .dp cells x g /\ g.Nodup /\ (∀ b ∈ g, ∃ q ∈ ls.flatMap Leaf.refs, b ∈ bs q.1 (q.2 + 1)) /\
  ∀ (w' : World) (h : List Nat), Below c.base w w' -> (∀ b, b < w.heap.size -> b ∉ g -> w'.heap[b]? = w.heap[b]?) -> Rep (fun _ => False) w' t .dp cells y h -> h.Nodup -> (∀ b ∈ h, b ∈ g \/ w.heap.size <= b) -> RP c (syncs L env) tmps w' noP vs
section
variable {c : Cx} {env : Env} {tmps : Array Value} {w : World} {vs : Nat -> Value} {cs : Nat -> List Value} {bs : Nat -> Nat -> List Nat}
theorem Y7u {g : List (List Nat)} {l b : Nat} (h : b ∈ g.getD l []) : l < g.length :=gr
theorem Ydz (hlen : env.length = tmps.size) (B : Rel c (SS env noP tmps vs w cs bs)) (hno : ∀ r, (∀ q ∈ (ovl env noP r).refs, q.1 < env.length) /\ (∀ q ∈ (ovl env noP r).ptrs, q < env.length)) {x y : t.D} {L : Places}
  (hv : ValC c (SS env noP tmps vs w cs bs) (.con k ls) v cells) (hty : typedAs ls t = true) (hx : asm t ls = some (x, [])) (hM : mutSet env ls (leaves t y (fun _ => .at_ .dp) 0) = some L) : MutOk c env tmps w vs bs t cells ls x y L := by
 obtain ⟨k1, k2, k3, k4⟩ := Y65 hM;obtain ⟨g1, g2, g3⟩ := hv;have X : ls.map Leaf.t = flat t := by simpa [typedAs] using hty
 -- a row's place
 have place : ∀ (i : Nat) (l : Leaf) (u : Value) (r j : Nat) (M : Ty) (U : M.D) (lv : Lvl), ls[i]? = some l -> cells[i]? = some u -> l.m = .bor r j [] -> (get env r).leaf? j = some ⟨M, U, .at_ lv⟩ -> lv.deep = true -> (cs r)[j]? = some u /\ M = l.t /\ Rep (fun _ => False) w l.t .dp [u] l.x (bs r (j + 1)) := by
  intro i l u r j M U lv hl hu hm hp hd;have h6 := g3 i l u (by rw [Y1]; exact hl) hu;obtain ⟨lt, lx, lm⟩ := l;simp only at hm;subst hm;obtain ⟨_, ⟨lf', u', ⟨o1, o2, o3⟩, h5⟩, _⟩ := h6;obtain ⟨mm, rfl, rfl⟩ := h5 rfl;have hrl : r < env.length := Y1g hp;have o1 : (ovl env noP r).leaf? j = some _ := o1;rw [Y7 hrl, hp] at o1;simp at o1;obtain ⟨rfl, hx0, rfl⟩ := o1;have hx0 : U = lx := eq_of_heq hx0;subst hx0;refine ⟨o3, rfl, ?_⟩;have Z := B.av r;rw [show (SS env noP tmps vs w cs bs).env r = get env r from Y7 hrl] at Z;cases hv : get env r with
  | con kk ls0 =>
   rw [hv] at Z hp;exact Rep.dpS ((Rep.deep hd).1 (Z.2.2.2 j _ _ hp o3).rep)
  | _ => rw [hv] at hp; simp [AV.leaf?] at hp
 let F : Nat -> List Nat := fun i => match ls[i]? with
  | some l => if l.t.flatB then [] else (match l.m with | .bor r j _ => bs r (j + 1) | _ => [])
  | none => []
 have hFi : ∀ {i : Nat} {l : Leaf}, ls[i]? = some l -> F i = if l.t.flatB then [] else (match l.m with | .bor r j _ => bs r (j + 1) | _ => []) := fun {i l} h => gr
 have hns : (leaves t y (fun _ => .at_ .dp) 0).length = ls.length := k1.symm;have hF : ∀ (i b : Nat), b ∈ F i -> ∃ (l : Leaf) (r j : Nat), ls[i]? = some l /\ l.t.flatB = false /\ l.m = .bor r j [] /\ b ∈ bs r (j + 1) :=gr;have hFb : ∀ {i : Nat} {l : Leaf} {r j : Nat}, ls[i]? = some l -> l.t.flatB = false -> l.m = .bor r j [] -> F i = bs r (j + 1) := fun {i l r j} A G h3 => gr;obtain ⟨c0, c1, e0, _, e2, e3, _⟩ := Y29 (S := fun _ => False) (w := w) (L := .dp) (F := F) t (k := 0) hx g2 (fun l lf u hl hu => by
  rw [Xx];have hlt : l < (leaves t y (fun _ => .at_ .dp) 0).length :=gr;rcases k2 l lf _ hl (X1 hlt) with ⟨A, G⟩ | ⟨A, r, j, M, U, lv, m1, m2, m3, _⟩
  ·have h6 := (g3 l lf u (by rw [Y1]; exact hl) hu).rep (S := fun _ => True) G (fun _ _ => trivial) (fun _ _ _ _ => trivial);rw [hFi hl, A];exact (Rep.flat A h6).2
  ·grind)
 have hc1 : c1 = [] := Xm.1 (by rw [<- e2]; rfl);subst hc1;rw [Xg] at e0;subst e0;have hFnd : ∀ i, (F i).Nodup := fun i => by
  cases hl : ls[i]? with
  | none => grind
  | some l =>
   rw [hFi hl];split
   ·exact X11
   ·split
    ·exact B.nodup _ _
    ·exact X11
 have hFd : ∀ i i' b, b ∈ F i -> b ∈ F i' -> i = i' := fun i i' b A G => by
  obtain ⟨l, r, j, g, D, E, C⟩ := hF i b A;obtain ⟨l', r', j', Y, b2, b3, b4⟩ := hF i' b G;obtain ⟨rfl, hj⟩ := B.disj _ _ _ _ _ C b4;obtain rfl : j = j' :=om;exact k4 i i' l l' r j g Y D b2 E b3
 refine ⟨(List.range' 0 t.sz).flatMap F, e3, Y20 hFnd hFd _ _, fun b p => ?_, fun w' Y hbel hsame hrep' V W => ?_⟩
 ·simp at p;obtain ⟨i, _, p⟩ := p;obtain ⟨l, r, j, g, D, E, C⟩ := hF i b p;exact ⟨(r, j), Xi.2 ⟨l, Xa g, by simp [Leaf.refs, E]⟩, C⟩
 ·obtain ⟨n1, n2, bds, n3, n4, n5⟩ := Y2d .dp t 0 hrep';rw [n4] at V W;obtain ⟨d1, d2⟩ := Y1a V;have hb0 : ∀ b, b ∈ (List.range' 0 t.sz).flatMap F -> ∃ q' j' n', lookM L q' j' = some n' /\ b ∈ bs q' (j' + 1) := fun b p => gr;have hb0' : ∀ q j n, lookM L q j = some n -> ∀ b ∈ bs q (j + 1), b ∈ (List.range' 0 t.sz).flatMap F := fun q j n I b p => gr
  -- which leaf
  have idx : ∀ q j n, lookM L q j = some n -> ∃ (i : Nat), (∃ (l z : Leaf), ls[i]? = some l /\ (leaves t y (fun _ => .at_ .dp) 0)[i]? = some z /\ l.t.flatB = false /\ l.m = .bor q j [] /\ z.t = n.t /\ HEq z.x n.x) := fun q j n I => gr
  classical
  let bd : Nat -> Nat -> List Nat := fun q j => if h : ∃ (i : Nat) (l : Leaf), ls[i]? = some l /\ l.t.flatB = false /\ l.m = .bor q j [] then bds.getD (Classical.choose h) [] else []
  have N : ∀ {q j i : Nat} {l : Leaf}, ls[i]? = some l -> l.t.flatB = false -> l.m = .bor q j [] -> bd q j = bds.getD i [] := fun {q j i l} A G h3 => by
   have hex : ∃ (i : Nat) (l : Leaf), ls[i]? = some l /\ l.t.flatB = false /\ l.m = .bor q j [] := ⟨i, l, A, G, h3⟩;show (if h : _ then _ else _) = _;rw [dif_pos hex];obtain ⟨l', e1, e2, e3⟩ := Classical.choose_spec hex;rw [k4 _ _ _ _ _ _ e1 A e2 G e3 h3]
  have hLok : ∀ q j n, lookM L q j = some n -> ∃ x lv, (get env q).leaf? j = some ⟨n.t, x, .at_ lv⟩ /\ n.m = .at_ lv /\ lv.deep = true := fun q j n I => by
   obtain ⟨i, l, z, lv, M, U, g, D, E, C, a5, a6, a7⟩ := k3 q j n I;have O : i < cells.length := by rw [<- g2]; exact (X9.1 g).1
   obtain ⟨_, p2, _⟩ := place i l _ q j M U lv g (X1 O) C a7 a6;have htt : z.t = l.t := by
    have A : ((leaves t y (fun _ => .at_ .dp) 0).map Leaf.t)[i]? = some z.t := by rw [X17, D]; rfl
    have G : (ls.map Leaf.t)[i]? = some l.t := by rw [X17, g]; rfl
    rw [Yj, <- X, G] at A;exact (Xj A).symm
   subst a5;have e : z.t = M := by rw [htt, p2]
   exact ⟨e ▸ U, lv, by rw [a7]; cases e; rfl, rfl, a6⟩
  refine RP.syncsAt hlen B hno hLok hbel (fun b p hD => hsame b p (fun hb2 => ?_)) bd (fun q j n I b p => ?_) (fun q j n I => ?_) (fun q j n q' j' n' b I hk' p hb' => ?_) (fun q j n u I hu => ?_)
  ·grind
  ·obtain ⟨i, l, z, g, D, E, C, _⟩ := idx q j n I;rw [N g E C] at p;have hi := Y7u p;obtain ⟨m, _, hr⟩ := n5 i z (cells[i]' om) D (X1 om);refine ⟨Rep.lt hr b p, ?_⟩;rcases W b (Yu p) with h | h
   ·exact .inr (hb0 b h)
   ·exact .inl h
  ·grind
  ·obtain ⟨i, l, z, g, D, E, C, _⟩ := idx q j n I;obtain ⟨i', l', nn', Y, b2, b3, b4, _⟩ := idx q' j' n' hk';rw [N g E C] at p;rw [N Y b3 b4] at hb';have := d2 i i' b p hb';subst this;rw [g] at Y;simp at Y;subst Y;rw [C] at b4;simp at b4;exact b4
  ·obtain ⟨i, l, z, lv, M, U, g, D, E, C, a5, a6, a7⟩ := k3 q j n I;have O : i < cells.length := by rw [<- g2]; exact (X9.1 g).1
   obtain ⟨p1, p2, _⟩ := place i l _ q j M U lv g (X1 O) C a7 a6;rw [hu] at p1;obtain rfl := Xj p1;obtain ⟨m, hm, hr⟩ := n5 i z _ D (X1 O);rw [N g E C];subst a5;have hmode := Y1r t y 0 z (Xa D);have hnf : z.t.flatB = false := by
    have A : ((leaves t y (fun _ => .at_ .dp) 0).map Leaf.t)[i]? = some z.t := by rw [X17, D]; rfl
    have G : (ls.map Leaf.t)[i]? = some l.t := by rw [X17, g]; rfl
    rw [Yj, <- X, G] at A;rw [<- Xj A]; exact E
   have hmd : m = .dp := Y40 t y 0 z (Xa D) hnf hm;subst hmd;exact hr
end
theorem Ye0 {q : Leaf} {x : t.D} (h : asm t [q] = some (x, [])) (p : ∀ n, (leaves t x (fun _ => .at_ .dp) n).length = 1) {b : List Nat} (B : Rep S w q.t lv [u] q.x b) : Rep S w t lv [u] x b := by
 have i : t.sz = 1 := by
  have := congrArg List.length (Yj t x (fun _ => .at_ .dp) 0);rw [X26, p, Y22] at this;exact this.symm
 obtain ⟨A, y, j, _, z, m, _⟩ := Y29 (S := S) (w := w) (L := lv) (F := fun _ => b) (cells := [u]) t (k := 0) h rfl (fun l lf D p C => gr);have g : y = [] := Xm.1 (by rw [<- z]; rfl);subst g;rw [Xg] at j;subst j;rw [i] at m;simpa using m
section
variable {c : Cx} {env : Env} {tmps : Array Value} {w : World} {vs : Nat -> Value} {cs : Nat -> List Value} {bs : Nat -> Nat -> List Nat}
theorem Ydc (hlen : env.length = tmps.size) (E : Rel c (SS env noP tmps vs w cs bs)) (hno : ∀ r, (∀ q ∈ (ovl env noP r).refs, q.1 < env.length) /\ (∀ q ∈ (ovl env noP r).ptrs, q < env.length)) {ls' : List Leaf} {x y : t.D} {L : Places} {e0 : TypeId} {t0 : Ty} {x0 : List t0.D} {r j : Nat} {i : Int} {o : Nat} {n : Leaf}
  (hv : ValC c (SS env noP tmps vs w cs bs) (.con k [⟨.slice e0 t0, x0, .bor r j [(i, o)]⟩]) v cells) (hty : typedAs [⟨.slice e0 t0, x0, .bor r j [(i, o)]⟩] t = true) (D : argNow env [⟨.slice e0 t0, x0, .bor r j [(i, o)]⟩] = some ls') (hx : asm t ls' = some (x, [])) (hn : leaves t y (fun _ => .at_ .dp) 0 = [n]) (hM : mutNest env r j i o n = some L) : MutOk c env tmps w vs bs t cells [⟨.slice e0 t0, x0, .bor r j [(i, o)]⟩] x y L := by
 obtain ⟨g1, g2, g3⟩ := hv;obtain ⟨u, rfl⟩ : ∃ u, cells = [u] := X1h.1 g2.symm;have hty' : [Ty.slice e0 t0] = flat t := by simpa [typedAs] using hty
 have hlen1 : ∀ z m, (leaves t z (fun _ => .at_ .dp) m).length = 1 := fun z m => by
  have := congrArg List.length (Yj t z (fun _ => .at_ .dp) m);rw [X26, <- hty'] at this;exact this
 have hnt : n.t = .slice e0 t0 := by
  have := Yj t y (fun _ => .at_ .dp) 0;rw [hn, <- hty'] at this;simpa using this
 obtain ⟨_, _, h5⟩ := g3 0 _ u rfl rfl;obtain ⟨ad, ⟨_, lf, uP, ⟨o1, _, o3⟩, k6⟩, k7⟩ := h5 _ _ rfl;obtain ⟨e, te, xs, m', B, nn, cp, m1, m2, hi0, hin, m5⟩ := k6.1 rfl;subst m1
 -- the place
 unfold mutNest at hM;split at hM
 ·rename_i e2 l F lv hq;have hrl : r < env.length := Y1g hq;have o1 : (ovl env noP r).leaf? j = some _ := o1;rw [Y7 hrl, hq] at o1;simp only [X0, Leaf.mk.injEq, Ty.slice.injEq] at o1;obtain ⟨⟨rfl, rfl⟩, hxx, rfl⟩ := o1;have hxx : F = xs := eq_of_heq hxx;subst hxx;split at hM
  ·rename_i hlv;split at hM
   ·rename_i y' hy;simp only [X0] at hM;subst hM;simp only [argNow, hq] at D;split at D
    ·rename_i q G;simp only [X0] at D;subst D;have hgetD : F.getD i.toNat l.dflt = F[i.toNat] := by simp [hin]
     rw [hgetD] at hy G;obtain ⟨C, cp2, cells, b1, n1, n2, n3, n4⟩ := Y78 E hlv hq om;have o3 : (cs r)[j]? = some uP := o3;rw [m2, n1] at o3;simp only [X0, Value.slice.injEq, X31, and_true] at o3;obtain ⟨rfl, rfl, rfl⟩ := o3;obtain ⟨pre, ch, post, N, z1, O, f1, f2, f3, f4, f5, f6⟩ := El.at2 i.toNat hin n3;have f5 : Rep (fun _ => False) w l .dp ch F[i.toNat] z1 := f5;obtain ⟨u1, V, bl, W, h1, X, h3, h4⟩ := Rep.leafAt l f5 G;have hoo : o < l.sz := by
      have := (X9.1 h1).1;omega
     have hcell : w.cell? ⟨C, i.toNat * l.sz + o, none⟩ = some u1 := by
      refine Y9h n4 ?_;rw [f1, X4, Xf om, Xs om, f2, show i.toNat * l.sz + o - i.toNat * l.sz = o by omega];exact h1
     have k7 : w.cell? ad = some u := k7;rw [m5, hcell] at k7;obtain rfl := Xj k7;have hqt : q.1 = n.t := by
      obtain ⟨q2, e1, e2⟩ := Y2t l hy;rw [G] at e1;rw [e2, Xj e1]
     -- blocks
     have M : (C :: b1).Nodup := by rw [<- n2]; exact E.nodup r (j + 1)
     rw [f4] at M;have Z : ∀ b ∈ C :: b1, c.base <= b /\ b < w.heap.size := fun b g => let q := E.own r (j + 1) b (by show b ∈ bs r (j + 1); rw [n2]; exact g); ⟨q.1.1, q.2⟩
     have A := (X28.1 M).2;have Y : ∀ b ∈ bl, b ∈ N ++ z1 ++ O := fun b g => by rw [X]; simp [g]
     have hblnd : bl.Nodup := by
      rw [X4] at A;have := (Xq.1 (Xq.1 A).2.1).1;rw [X, X4] at this;exact (Xq.1 (Xq.1 this).2.1).1
     have hnb : ∀ b, b ∈ N ++ O \/ b ∈ V ++ W \/ b = C -> b ∉ bl := by
      intro b g I;rw [X] at M;rcases g with g | g | rfl
      ·rw [X4] at A;have h1z : b ∈ z1 := by rw [X]; simp [I]
       rcases X6.1 g with h | h
       ·exact (Xq.1 A).2.2 b h b (X8 _ h1z) rfl
       ·exact (Xq.1 (Xq.1 A).2.1).2.2 b h1z b h rfl
      ·have h2' : (V ++ bl ++ W).Nodup := by
        rw [<- X];rw [X4] at A;exact (Xq.1 (Xq.1 A).2.1).1
       rw [X4] at h2';rcases X6.1 g with h | h
       ·exact (Xq.1 h2').2.2 b h b (X8 _ I) rfl
       ·exact (Xq.1 (Xq.1 h2').2.1).2.2 b I b h rfl
      ·refine (X28.1 M).1 ?_;simp [I]
     have hlt : ∀ b ∈ N ++ z1 ++ O, b < w.heap.size := fun b g => (Z b (X2 _ (by rw [f4]; exact g))).2;refine ⟨bl, Ye0 hx (hlen1 x) h3, hblnd, fun b g => ⟨(r, j), by simp [Leaf.refs], ?_⟩, fun w' U hbel hsame hrep' hnd2 hnew => ?_⟩
     ·show b ∈ bs r (j + 1);rw [n2, f4];exact X2 _ (Y b g)
     ·obtain ⟨p1, p2, bds, p3, p4, p5⟩ := Y2d .dp t 0 hrep';rw [hn] at p1 p5;obtain ⟨bb, rfl⟩ : ∃ bb, bds = [bb] := X1h.1 p3;have p4 : U = bb := by rw [p4]; simp
      subst p4;obtain ⟨m, hm, hrn⟩ := p5 0 n u1 rfl rfl;have hmd : m = .dp := Y40 t y 0 n (by rw [hn]; simp) (by rw [hnt]; rfl) hm;subst hmd;have hrn : Rep (fun _ => False) w' n.t .dp [u1] n.x U := hrn;have old : ∀ b, b ∈ N ++ O \/ b ∈ V ++ W \/ b = C -> b < w.heap.size -> w'.heap[b]? = w.heap[b]? := fun b g hl => hsame b hl (hnb b g);obtain ⟨y2, e1, hup⟩ := h4 (fun _ => False) w' u1 n U hqt.symm hrn (fun _ h => h.elim) (fun b g => old b (.inr (.inl g)) (hlt b (by
       rw [X];simp only [X6] at g ⊢;rcases g with h | h <;> simp [h])))
      rw [hy] at e1;obtain rfl := Xj e1;have hch : ch.set o u1 = ch := by
       apply X1u;intro k;rw [List.getElem?_set];split
       ·rename_i hk;subst hk;split
        ·exact h1.symm
        ·omega
       ·rfl
      rw [hch] at hup;have hel' := f6 (Rep (fun _ => False) w' l .dp) (fun c' x' b' hb' h' => Rep.move (fun _ h => h.elim) (fun b g => old b (.inl (hb' b g)) (hlt b (by
       have := hb' b g;simp only [X6] at this ⊢;rcases this with h | h <;> simp [h]))) h') ch y' (V ++ U ++ W) f3 hup
      rw [<- f1] at hel';have hBlt : C < w.heap.size := (Z C sm).2;have p : ∀ q' j' n', lookM [(r, j, (⟨.slice e2 l, F.set i.toNat y', .at_ lv⟩ : Leaf))] q' j' = some n' -> q' = r /\ j' = j /\ n' = ⟨.slice e2 l, F.set i.toNat y', .at_ lv⟩ := fun q' j' n' h => by
       simp only [lookM] at h;split at h
       ·rename_i hc;exact ⟨hc.1, hc.2, (Xj h).symm⟩
       ·simp at h
      have hblt : ∀ b ∈ U, b < w'.heap.size := Rep.lt hrn
      -- the place's blocks now
      have hall : ∀ b, b ∈ C :: (N ++ (V ++ U ++ W) ++ O) -> b ∈ U \/ ((b ∈ N ++ O \/ b ∈ V ++ W \/ b = C) /\ b ∈ bs r (j + 1)) := by
       intro b g;rw [n2, f4, X];simp only [Xw, X6] at g ⊢;rcases g with h | (h | (h | h) | h) | h
       ·exact .inr ⟨.inr (.inr h), .inl h⟩
       ·exact .inr ⟨.inl (.inl h), by simp [h]⟩
       ·exact .inr ⟨.inr (.inl (.inl h)), by simp [h]⟩
       ·exact .inl h
       ·exact .inr ⟨.inr (.inl (.inr h)), by simp [h]⟩
       ·exact .inr ⟨.inl (.inr h), by simp [h]⟩
      have hb2out : ∀ b ∈ U, ¬ (b ∈ N ++ O \/ b ∈ V ++ W \/ b = C) := by
       intro b g hc;rcases hnew b g with h | h
       ·exact hnb b hc h
       ·have : b ∈ C :: (N ++ z1 ++ O) := by
         rw [X];simp only [Xw, X6] at hc ⊢;rcases hc with (h | h) | (h | h) | h <;> simp [h]
        have := (Z b (by rw [f4]; exact this)).2;omega
      refine RP.syncsAt (L := [(r, j, (⟨.slice e2 l, F.set i.toNat y', .at_ lv⟩ : Leaf))]) hlen E hno (fun q' j' n' h => ?_) hbel (fun b g hD => hsame b g (fun I => ?_)) (fun _ _ => C :: (N ++ (V ++ U ++ W) ++ O)) (fun q' j' n' h b g => ?_) (fun q' j' n' h => ?_) (fun q1 j1 n1 q2 j2 n2 b h1 X _ _ => ?_) (fun q' j' n' uu h hu => ?_)
      ·obtain ⟨rfl, rfl, rfl⟩ := p _ _ _ h;exact ⟨F, lv, hq, rfl, hlv⟩
      ·refine hD r j _ (by simp [lookM]; rfl) ?_;rw [n2, f4];exact X2 _ (Y b I)
      ·obtain ⟨rfl, rfl, rfl⟩ := p _ _ _ h;rcases hall b g with h | ⟨_, h⟩
       ·refine ⟨hblt b h, ?_⟩;rcases hnew b h with h | h
        ·refine .inr ⟨q', j', _, by simp [lookM]; rfl, ?_⟩;rw [n2, f4];exact X2 _ (Y b h)
        ·exact .inl h
       ·exact ⟨X19 (E.own _ _ _ h).2 hbel.size, .inr ⟨q', j', _, by simp [lookM]; rfl, h⟩⟩
      ·rw [X] at M;have h0 : (C :: (N ++ (V ++ W) ++ O)).Nodup := M.sublist (by
        refine List.Sublist.cons_cons _ (X1v (X1v (X21 _) ?_) (X21 _));rw [X4];exact X1v (X21 _) (List.sublist_append_right _ _))
       have hperm : List.Perm (C :: (N ++ (V ++ U ++ W) ++ O)) (U ++ (C :: (N ++ (V ++ W) ++ O))) := by
        rw [List.perm_iff_count];intro a;simp only [List.count_cons, List.count_append];omega
       refine hperm.nodup_iff.2 (Xq.2 ⟨hnd2, h0, fun a ha b g e => ?_⟩);subst e;refine hb2out a ha ?_;simp only [Xw, X6] at g ⊢;rcases g with h | (h | h | h) | h <;> simp [h]
      ·obtain ⟨rfl, rfl, _⟩ := p _ _ _ h1;obtain ⟨rfl, rfl, _⟩ := p _ _ _ X;exact ⟨rfl, rfl⟩
      ·obtain ⟨rfl, rfl, rfl⟩ := p _ _ _ h;rw [n1] at hu;obtain rfl := Xj hu;refine ⟨_, cells, [C], N ++ (V ++ U ++ W) ++ O, rfl, rfl, hel', rfl, ?_⟩;rw [X14];exact Y2c n4 (fun k hk => by
        have : C = k := by simpa [Value.ownBlock] using hk
        subst this;exact old C (.inr (.inr rfl)) hBlt)
    ·simp at D
   ·simp at hM
  ·simp at hM
 ·simp at hM
end
theorem Yck {ys : List t.D} {O : List Nat} {A : Addr} {n U : Nat} (h : Rep (fun _ => False) w (.slice e t) .dp [.slice (some A) n U] ys O) {i m : Nat} (Z : i < n) {y : t.D} (hus : ls.length = us.length) (hne : ls ≠ [])
  (hru : ∀ (l : Nat) (lf : Leaf) (u : Value), ls[l]? = some lf -> us[l]? = some u -> Rep (fun _ => False) w lf.t .dp [u] lf.x []) (hu : updLeavesD t (ys.getD i t.dflt) m ls = some y) (hnd : O.Nodup) :
  ∃ G g, A = ⟨G, 0, none⟩ /\ G ∈ O /\ w.heap[G]? = some (.cells g e (0, 0)) /\ i * t.sz + m + us.length <= g.size /\ ∃ F, (∀ b ∈ F, b ∈ O) /\ F.Nodup /\
   ∀ w' : World, w'.heap[G]? = some (.cells (g.toList.take (i * t.sz + m) ++ us ++ g.toList.drop (i * t.sz + m + us.length)).toArray e (0, 0)) -> (∀ b ∈ O, b ≠ G -> w'.heap[b]? = w.heap[b]?) ->
    Rep (fun _ => False) w' (.slice e t) .dp [.slice (some A) n U] (ys.set i y) F := by
 obtain ⟨v0, cells, b0, b1, e1, e2, X, I, hown1, hown⟩ := h;obtain rfl : v0 = .slice (some A) n U := by simpa using e1.symm
 rcases hown with ⟨N, _⟩ | ⟨G, cap', g, N, _, hgB, hnc, hcm, hcs, M⟩
 ·simp at N
 simp only [Value.slice.injEq, X0] at N;obtain ⟨rfl, rfl, rfl⟩ := N;have I : b0 = [G] := by rw [I]; rfl
 subst I;have Y : ys.getD i t.dflt = ys[i] := by simp [Z]
 rw [Y] at hu;obtain ⟨pre, ch, post, x0, x1, x2, f1, f2, f3, f4, f5, f6⟩ := X.at_ i Z;have f5 : Rep _ w t .dp ch _ x1 := f5;obtain ⟨k0, b', k4, k5, k6⟩ := Y25 t ls us (fun _ => []) hus hru f5 hu;have k0 := k0 hne;have B := f6 (setCs ch m us) y _ (by rw [Y3s]; exact f3) k4;have W : cells.length = ys.length * t.sz := X.len;have hlen2 : cells.length <= g.size := by
  have : cells.length <= g.toList.length := by rw [<- M, Xp]; exact Nat.min_le_right _ _
  simpa using this
 have D : i * t.sz + m + us.length <= cells.length := by
  rw [f1]; simp only [Xr]; omega
 have p : pre ++ setCs ch m us ++ post = cells.take (i * t.sz + m) ++ us ++ cells.drop (i * t.sz + m + us.length) := by
  rw [Y6m _ _ _ om, f1, Yb1 _ _ _ _ _ om, f2]
 rw [p] at B;subst f4;subst e2;have C : ([G] ++ (x0 ++ b' ++ x2)).Nodup := by
  have := k6 ([G] ++ x0) x2 (by simpa only [X4] using hnd) (fun l _ => X11) (fun l l' z _ _ h1 _ => by simp at h1) (fun l z _ hz => by simp at hz);simpa only [X4] using this
 have E : ∀ b ∈ x0 ++ b' ++ x2, b ∈ x0 ++ x1 ++ x2 := fun b j => by
  simp only [X6] at j ⊢;rcases j with (j | j) | j
  ·simp [j]
  ·rcases k5 b j with j | ⟨l, _, j⟩
   ·simp [j]
   ·simp at j
  ·simp [j]
 refine ⟨G, g, rfl, sm, hgB, om, [G] ++ (x0 ++ b' ++ x2), fun b j => ?_, C, fun w' L q => ?_⟩
 ·rcases X6.1 j with j | j
  ·exact X8 _ j
  ·exact Xe _ (E b j)
 ·refine ⟨.slice (some ⟨G, 0, none⟩) ys.length U, cells.take (i * t.sz + m) ++ us ++ cells.drop (i * t.sz + m + us.length), [G], _, rfl, rfl, ?_, rfl, ?_⟩
  ·refine El.imp (fun c' x' b2 V N => ?_) B;refine Rep.move (S := fun _ => False) (fun _ hf => absurd hf id) (fun b j => q b (Xe _ (E b (V b j))) (fun e => ?_)) N;subst e;exact (Xq.1 C).2.2 b sm b (V b j) rfl
  ·rw [X14];have hcurl : i * t.sz + m + us.length <= g.toList.length := by
    have : g.toList.length = g.size := Xy;omega
   refine ⟨?_, .inr ⟨G, U, _, rfl, X2f _, L, hnc, hcm, ?_, ?_⟩⟩
   ·simp only [Xr, Xp, X15]; omega
   ·rw [<- hcs];have hcz : g.toList.length = g.size := Xy;simp only [List.size_toArray, Xr, Xp, X15];omega
   ·rw [<- M];exact Y9g _ _ _ _ (by rw [W] at D; exact D) (by rw [<- W, <- M, Xp]; exact Nat.min_le_right _ _)
theorem Y79 (U : Rel c (SS env ps tmps vs w cs bs)) {r j : Nat} {te : Ty} {xs : List te.D} (hlv : lv.deep = true) (hq : (get env r).leaf? j = some ⟨.slice e te, xs, .at_ lv⟩) {B n0 cp0 : Nat} {uu : Value} (huu : (cs r)[j]? = some uu) (hB : uu = .slice (some ⟨B, 0, none⟩) n0 cp0) {C V : Nat} (hi0 : C < xs.length) {A : Addr} {n' cp' : Nat} (Z : w.cell? ⟨B, C * te.sz + V, none⟩ = some (.slice (some A) n' cp')) {i oo : Nat} (hi : i < n') {e' : TypeId} {E : Ty} {ys : List E.D} (D : leafD te (xs.getD C te.dflt) V = some ⟨.slice e' E, ys⟩) {y : E.D} {x' : te.D} (hus : ls.length = us.length) (hne : ls ≠ []) (hru : ∀ (l : Nat) (lf : Leaf) (u : Value), ls[l]? = some lf -> us[l]? = some u -> Rep (fun _ => False) w lf.t .dp [u] lf.x [])
  (hu : updLeavesD E (ys.getD i E.dflt) oo ls = some y) (hx : updLeafD te (xs.getD C te.dflt) V ⟨.slice e' E, ys.set i y, .at_ .dp⟩ = some x') :
  ∃ G z, A = ⟨G, 0, none⟩ /\ G ∈ bs r (j + 1) /\ w.heap[G]? = some (.cells z e' (0, 0)) /\ i * E.sz + oo + us.length <= z.size /\ ∃ bd, (∀ b ∈ bd, b ∈ bs r (j + 1)) /\ bd.Nodup /\
   ∀ w' : World, w'.heap[G]? = some (.cells (z.toList.take (i * E.sz + oo) ++ us ++ z.toList.drop (i * E.sz + oo + us.length)).toArray e' (0, 0)) -> (∀ b ∈ bs r (j + 1), b ≠ G -> w'.heap[b]? = w.heap[b]?) ->
    Rep (fun _ => False) w' (.slice e te) .dp [uu] (xs.set C x') bd := by
 subst hB;obtain ⟨B2, cp2, cells, b1, n1, n2, n3, n4⟩ := Y78 U hlv hq om;rw [huu] at n1;simp only [X0, Value.slice.injEq, X31, and_true] at n1;obtain ⟨rfl, rfl, rfl⟩ := n1;have hgetD : xs.getD C te.dflt = xs[C] := by simp [hi0]
 rw [hgetD] at hx D;obtain ⟨pre, ch, post, W, z1, X, f1, f2, f3, f4, f5, f6⟩ := El.at2 C hi0 n3;have f5 : Rep (fun _ => False) w te .dp ch xs[C] z1 := f5;obtain ⟨u1, F, bl, I, h1, h2, h3, h4⟩ := Rep.leafAt te f5 D;have hoo : V < te.sz := by
  have := (X9.1 h1).1;omega
 have m : w.cell? ⟨B, C * te.sz + V, none⟩ = some u1 := by
  refine Y9h n4 ?_;rw [f1, X4, Xf om, Xs om, f2, show C * te.sz + V - C * te.sz = V by omega];exact h1
 rw [Z] at m;obtain rfl := Xj m;have L : (B :: b1).Nodup := by rw [<- n2]; exact U.nodup r (j + 1)
 rw [f4, h2] at L;have Y : bl.Nodup := L.sublist (by
  refine List.Sublist.trans ?_ (List.sublist_cons_self _ _);refine List.Sublist.trans ?_ (List.sublist_append_left _ _);refine List.Sublist.trans ?_ (List.sublist_append_right _ _);refine List.Sublist.trans ?_ (List.sublist_append_left _ _);exact List.sublist_append_right _ _)
 obtain ⟨G, z, k1, k2, k3, k4, q, k5, k6, k7⟩ := Yck h3 hi hus hne hru hu Y;have M : ∀ b ∈ bl, b ∈ bs r (j + 1) := fun b g => by
  rw [n2, f4, h2];simp only [Xw, X6];simp [g]
 have N : ∀ b, b ∈ W ++ X \/ b ∈ F ++ I \/ b = B -> b ∉ bl := by
  intro b g hbl;have hc : List.count b (B :: (W ++ (F ++ bl ++ I) ++ X)) <= 1 := List.nodup_iff_count.1 L b;have h0 : 0 < List.count b bl := List.count_pos_iff.2 hbl;simp only [List.count_cons, List.count_append] at hc;rcases g with g | g | rfl
  ·rcases X6.1 g with h | h <;> · have := List.count_pos_iff.2 h; omega
  ·rcases X6.1 g with h | h <;> · have := List.count_pos_iff.2 h; omega
  ·simp at hc; omega
 refine ⟨G, z, k1, M G k2, k3, k4, B :: (W ++ (F ++ q ++ I) ++ X), fun b g => ?_, ?_, fun w' hsame p => ?_⟩
 ·rw [n2, f4, h2];simp only [Xw, X6] at g ⊢;rcases g with h | (h | (h | h) | h) | h
  ·simp [h]
  ·simp [h]
  ·simp [h]
  ·simp [k5 b h]
  ·simp [h]
  ·simp [h]
 ·have h0 : (B :: (W ++ (F ++ I) ++ X)).Nodup := L.sublist (by
   refine List.Sublist.cons_cons _ (X1v (X1v (X21 _) ?_) (X21 _));rw [X4];exact X1v (X21 _) (List.sublist_append_right _ _))
  have hperm : List.Perm (B :: (W ++ (F ++ q ++ I) ++ X)) (q ++ (B :: (W ++ (F ++ I) ++ X))) := by
   rw [List.perm_iff_count];intro a;simp only [List.count_cons, List.count_append];omega
  refine hperm.nodup_iff.2 (Xq.2 ⟨k6, h0, fun a ha b g e => ?_⟩);subst e;refine N a ?_ (k5 a ha);simp only [Xw, X6] at g ⊢;rcases g with h | (h | h | h) | h <;> simp [h]
 ·have old : ∀ b, b ∈ W ++ X \/ b ∈ F ++ I \/ b = B -> w'.heap[b]? = w.heap[b]? := fun b g => p b (by
   rw [n2, f4, h2];simp only [Xw, X6] at g ⊢;rcases g with (h | h) | (h | h) | h <;> simp [h]) (fun e => N b g (e ▸ k2))
  have hrn := k7 w' hsame (fun b g hb1 => p b (M b g) hb1);obtain ⟨y2, q1, hup⟩ := h4 (fun _ => False) w' _ ⟨.slice e' E, ys.set i y, .at_ .dp⟩ q rfl hrn (fun _ h => h.elim) (fun b g => old b (.inr (.inl g)));rw [hx] at q1;obtain rfl := Xj q1;have hch : ch.set V (.slice (some A) n' cp') = ch := by
   apply X1u;intro k;rw [List.getElem?_set];split
   ·rename_i hk;subst hk;split
    ·exact h1.symm
    ·omega
   ·rfl
  rw [hch] at hup;have O := f6 (Rep (fun _ => False) w' te .dp) (fun c' x' b' hb' h' => Rep.move (fun _ h => h.elim) (fun b g => old b (.inl (hb' b g))) h') ch x' (F ++ q ++ I) f3 hup;rw [<- f1] at O;refine ⟨_, cells, [B], W ++ (F ++ q ++ I) ++ X, rfl, rfl, O, rfl, ?_⟩;rw [X14];exact Y2c n4 (fun k hk => by
   have : B = k := by simpa [Value.ownBlock] using hk
   subst this;exact old B (.inr (.inr rfl)))
section
variable {P : Program} {o : Oper} {a : Act} {w : World} {R : Type} {K : Env -> Option R} {r : R} {next : Act -> World -> Prop} {Q : Exit -> Act -> World -> Prop} {c : Cx} {d : Nat} {T : Tab} {env : Env}
theorem Y8o (hT : TabOk P T) {t : TypeId} {x v : Operand} {p : Env} {q j o0 z oo : Nat} {i0 i1 i : Int} {le : List Leaf} (hop : o.op = .store t x v) (hdst : o.dst = none) (hr : RE c env a.tmps w) (ht : T.ty t = some τ) (hta : takeAs τ env v = some (p, ls))
  (hx : rd none p x = .eptr le (some (q, j, [(i0, o0), (i1, z)], i, oo))) (D : storeNest q j i0 o0 i1 z i oo ls p K = some r) (hn : Next c a K r env.length next) : o.wp P a w next Q := by
 unfold storeNest at D;split at D
 case h_2 => simp at D
 rename_i e te xs lv hl;split at D
 case isFalse => simp at D
 rename_i hc;obtain ⟨hlv, N⟩ := hc;split at D
 case h_2 => simp at D
 rename_i e' t' ys I;split at D
 case isFalse => simp at D
 rename_i hz;obtain ⟨rfl, rfl⟩ := hz;split at D
 case h_2 => simp at D
 rename_i y hu;split at D
 case h_2 => simp at D
 rename_i x' hux;simp only [X7, X1b, List.isEmpty_eq_false_iff] at N;obtain ⟨hne, N⟩ := N;obtain ⟨hti, hty⟩ := Y1s hta;have hll := Y12 hty;obtain ⟨vs, h⟩ := hr;obtain ⟨hlen1, h1⟩ := Yy h (fun r => .inl rfl) hti (Xn _) rfl;have X := Ys hti;have hs1 : ∀ r, Settled (upd noP env.length (.con τ.kind ls) r) := Settled.upd (fun r => .inl rfl) _ (.inr ⟨_, _, rfl, X⟩)
 let ps := upd noP env.length (.con τ.kind ls)
 let vs1 := upd vs env.length (evT a.tmps v)
 have hql : q < p.length := Y1g hl;have hqm : q ≠ env.length :=om;have Y : ∀ cs bs, Rel c (SS p ps a.tmps vs1 w cs bs) -> ∃ B n cp A n' M, (cs q)[j]? = some (.slice (some ⟨B, 0, none⟩) n cp) /\ i0.toNat < xs.length /\ w.cell? ⟨B, i0.toNat * te.sz + o0, none⟩ = some (.slice (some A) n' M) /\ i.toNat < n' /\ evT a.tmps x = .pointer (some (A.add (i.toNat * t'.sz + oo))) := by
  intro cs bs g;obtain ⟨cells, hv⟩ := Ye h1.len g none x;rw [hx] at hv;obtain ⟨ad, ea, _, _, lf, u, ⟨o1, o2, o3⟩, k⟩ := hv;obtain ⟨e2, t2, xs2, m', B, n, cp, A, n', M, k1, k2, k3, _, k4, k5, k6⟩ := k.2 _ _ _ rfl;have o1 : (ovl p ps q).leaf? j = some lf := o1;rw [Y7 hql, hl] at o1;simp only [X0] at o1;rw [<- o1] at k1;simp only [Leaf.mk.injEq, Ty.slice.injEq] at k1;obtain ⟨⟨rfl, rfl⟩, hxx, _⟩ := k1;obtain rfl := eq_of_heq hxx;subst k2;exact ⟨B, n, cp, A, n', M, o3, k3.2, k4, k5.2, by rw [ea, k6]⟩
 let us := (evT a.tmps v).cells.toList
 have L : ∀ cs bs, Rel c (SS p ps a.tmps vs1 w cs bs) -> ls.length = us.length /\ ∀ (l : Nat) (lf : Leaf) (u : Value), ls[l]? = some lf -> us[l]? = some u -> Rep (fun _ => False) w lf.t .dp [u] lf.x [] := by
  intro cs bs g;obtain ⟨m1, m2, m3, m4, m5⟩ := Y28 h1.len g (n := env.length) om (Y0 _ _ _) (Y1d τ) X;have ev : vs1 env.length = evT a.tmps v := Y0 _ _ _;rw [ev] at m1;refine ⟨by rw [m3, m1], fun l lf u hlf hu1 => ?_⟩;obtain ⟨lv, ⟨k1, _⟩, k2⟩ := m5 l lf u hlf (by rw [m1]; exact hu1);have W := Xd.1 N lf (Xa hlf);simp only [X7] at W;exact (Rep.flat (S' := fun _ => False) (w' := w) (m' := .dp) W.2 k2).2
 obtain ⟨cs0, bs0, C, _⟩ := h1.rel;obtain ⟨B, n, cp, A, n', M, c1, c2, c3, c4, c5⟩ := Y cs0 bs0 C;obtain ⟨O, F⟩ := L cs0 bs0 C;have hone : ∀ u ∈ us, u.oneCell' = true := fun u hu => by
  obtain ⟨l, hlu⟩ := Xz hu;have hlt : l < ls.length := by rw [O]; exact (X9.1 hlu).1
  exact Rep.one (F l ls[l] u (X1 hlt) hlu) u sm
 obtain ⟨G, Z, g1, g2, hgB, hfit, _⟩ := Y79 C hlv hl c1 rfl c2 c3 c4 I O hne F hu hux;subst g1
 let off := i.toNat * t'.sz + oo
 let V : Array Value := (Z.toList.take off ++ us ++ Z.toList.drop (off + us.length)).toArray
 let w' := w.setRow G V
 have E : ∀ b, b ≠ G -> w'.heap[b]? = w.heap[b]? := fun b hb => setRow_other w G b _ hb;have hsame : w'.heap[G]? = some (.cells V e' (0, 0)) := setRow_heap w G _ _ e' (0, 0) hgB;have h2 := h1.sync (m := env.length) (fun r _ => hs1 r) om hl hlv (w' := w') (y := xs.set i0.toNat x') (fun cs bs g uu U => by
  obtain ⟨B', n2, cp2, A', n3, cp3, k1, k2, k3, k4, k5⟩ := Y cs bs g;have U : (cs q)[j]? = some uu := U;obtain ⟨_, hru⟩ := L cs bs g;obtain ⟨G', cur2, j1, j2, j3, j4, bd, j5, j6, j7⟩ := Y79 g hlv hl k1 rfl k2 k3 k4 I O hne hru hu hux;subst j1;rw [c5] at k5;have hG : G = G' := by
   rw [Y16, Y16] at k5;simpa using k5
  subst hG;rw [hgB] at j3;simp only [X0, Obj.cells.injEq, and_true] at j3;subst j3;rw [k1] at U;obtain rfl := Xj U;have hltG : G < w.heap.size := (g.own _ _ _ j2).2;have hsz : w'.heap.size = w.heap.size := setRow_size _ _ _;refine ⟨below_setRow (X1i _ _) (g.own _ _ _ j2).1.1 _, fun b hb hb1 _ => E b (fun e => hb1 (e ▸ j2)), bd, fun b hb => ?_, j6, j7 w' hsame (fun b _ hb => E b hb)⟩;rw [hsz];exact ⟨(g.own _ _ _ (j5 b hb)).2, .inr (.inl (j5 b hb))⟩)
 refine Y4p hdst (w' := w') ?_ (by unfold syncPlace; rw [Y5, Y6]; exact hlen1) h2 (fun r => ?_) D hn
 ·have hsize := TabOk.sizeOf hT ht;have hcs : (evT a.tmps v).cells.size = τ.sz := by rw [<- Xy]; show us.length = _; rw [<- O, hll]
  have hst := run_storeCells_at P G off e' us 0 Z w hgB (by simpa using hfit) hone;rw [X2h] at hst;have c5 : evT a.tmps x = .pointer (some ⟨G, off, none⟩) := by rw [c5, Y16, Xx]
  simp [execOp, hop, Y4, c5, Instr.storeAt, Instr.sureAddr, storeVar, hsize, hcs];rw [show Sem.run P (storeCells { block := G, off := off } (evT a.tmps v).cells.toList) w = .ok () w' from hst];rfl
 ·by_cases hr : r = env.length
  ·subst hr; rw [Y0]
  ·rw [Y3 _ _ hr]; show upd noP env.length _ r = _; rw [Y3 _ _ hr]; rfl
end
section
variable {P : Program} {o : Oper} {a : Act} {w : World} {R : Type} {K : Env -> Option R} {r : R} {next : Act -> World -> Prop} {Q : Exit -> Act -> World -> Prop} {c : Cx} {d : Nat} {T : Tab} {env : Env} {sig : FuncId -> Option Sig} {caps : FuncId -> List Ty} {orc : Orc}
theorem Yak {ls b : List Leaf} (h : argNow env ls = some b) : b = ls \/ ∃ g l m r j i o, ls = [⟨.slice g l, m, .bor r j [(i, o)]⟩] := by
 unfold argNow at h;split at h
 ·grind
 ·grind
theorem Ye1 (b : env.length = tmps.size) (h : Rel c (SS env noP tmps vs w cs bs)) (A : ∀ r, (∀ q ∈ (ovl env noP r).refs, q.1 < env.length) /\ (∀ q ∈ (ovl env noP r).ptrs, q < env.length)) {ls C : List Leaf} {x y : t.D} {L : Places}
  (F : ValC c (SS env noP tmps vs w cs bs) (.con k ls) v cells) (p : typedAs ls t = true) (g : argNow env ls = some C) (G : asm t C = some (x, [])) (z : mutOf env ls (leaves t y (fun _ => .at_ .dp) 0) = some L) : MutOk c env tmps w vs bs t cells ls x y L := by
 generalize m : leaves t y (fun _ => .at_ .dp) 0 = ns at z;unfold mutOf at z;split at z
 ·exact Ydc b h A F p g G m z
 ·rename_i D;rcases Yak g with rfl | ⟨I, M, N, r, j, i, o, rfl⟩
  ·subst m;exact Ydz b h A F p G z
  ·exfalso;have l : ns.length = 1 := by
    have E := congrArg List.length (Yj t y (fun _ => .at_ .dp) 0);have B : [Ty.slice I M] = flat t := by simpa [typedAs] using p
    rw [X26, <- B, m] at E;exact E
   obtain ⟨n, rfl⟩ := X1h.1 l;exact D _ _ _ _ _ _ _ _ rfl rfl
theorem Y7a {g : List (Nat × Nat)} {v : AV} (h : apart g v = true) : (∀ q ∈ v.refs, q ∉ g) /\ (∀ r ∈ v.ptrs, ∀ q ∈ g, r ≠ q.1) := by
 simp only [apart, X7, Xd, X1b, Bool.and_eq_false_iff, beq_eq_false_iff_ne] at h;refine ⟨fun q b i => ?_, fun r j q b => h.2 r j q b⟩;have := h.1 q b q i;rcases this with h | h <;> exact h rfl
theorem Ydd (hO : OrcOk P sig orc) {cl : Call} {extra : List AV} {ex : List Value} (hop : o.op = .call cl) (hdst : o.dst = some d) (hr : RE c env a.tmps w) (hd : d < env.length)
  (hrun : Enterable P f -> (execOp a.eval o).run P w = .ok (.enter f (cl.args.map (evT a.tmps) ++ ex.toArray)) w) (hex : ∀ vs cs bs, Rel c (SS env noP a.tmps vs w cs bs) -> ValCs c (SS env noP a.tmps vs w cs bs) extra ex) (hsg : sig f = some sg) (hbx : sg.box = none /\ sg.newb = none) (hm : sg.muts = true) (how : sg.own = false) (i : callM caps orc (some d) f sg cl.args.toList extra env K = some r) (hn : Next c a K r env.length next) : o.wp P a w next Q := by
 unfold callM at i;split at i
 ·rename_i t ps a0 as hps has;split at i
  ·rename_i k ls hrd;simp only at i;split at i
   ·rename_i hc;obtain ⟨⟨hk, hty⟩, ⟨hl1, hl2⟩, hfl, hap⟩ := hc;cases D : argNow env ls with
    | none => grind
    | some ls' =>
     rw [D] at i;simp at i;split at i
     ·rename_i x hx;split at i
      ·simp at i
      ·rename_i rvs hrv;split at i
       ·simp at i
       ·rename_i q E;obtain ⟨z0, hres, i⟩ := Xu.1 i;obtain ⟨hent, j⟩ := hO f sg _ q z0 hsg E hres;rw [hbx.1, hbx.2, hm, how] at j;obtain ⟨t', x0, rest, y, ys, e1, e2, j⟩ := j;simp at e1;obtain ⟨⟨rfl, e1⟩, rfl⟩ := e1;subst e1;rw [e2] at i;simp [dif_pos] at i;split at i
        ·simp at i
        ·rename_i L hM;cases C : resAV sg.results ys with
         | none => grind
         | some av =>
          rw [C] at i;obtain ⟨vs, z, cs, bs, g, hno⟩ := hr;obtain ⟨cells, A⟩ := Ye z g (some t) a0;rw [hrd] at A;obtain ⟨b0, hrep, hnd, hin, B⟩ := Ye1 z g hno A hty D hx hM;have hval : evT a.tmps a0 = mkV t.isAgg cells := by
           obtain ⟨g1, _⟩ := A;subst hk;unfold Ty.kind at g1;split at g1
           ·rename_i ha;rw [ha]; exact g1.1
           ·rename_i ha;have ha : t.isAgg = false := by simpa using ha
            rw [ha, g1.1]; rfl
          generalize hvs : rdArgs env ps as ++ extra = avs at *;have F : as.length <= ps.length := by rw [<- hl1, hl2]; omega
          have Y : ValCs c (SS env noP a.tmps vs w cs bs) avs (as.map (evT a.tmps) ++ ex) := by
           rw [<- hvs];exact (Y3h z g F).1.append (hex vs cs bs g)
          let S : Nat -> Prop := fun b => RoS c (SS env noP a.tmps vs w cs bs) b \/ (∃ v ∈ avs, ∃ q ∈ v.refs, b ∈ bs q.1 (q.2 + 1)) \/ ∃ v ∈ avs, ∃ q ∈ v.ptrs, ∃ l, b ∈ bs q l
          have hrvr : RVRels S w rvs (as.map (evT a.tmps) ++ ex) :=
           Y5w g (fun b p => .inl p) Y hrv (fun v A q E b p => .inr (.inl ⟨v, A, q, E, p⟩)) (fun v A q E l b p => .inr (.inr ⟨v, A, q, E, l, p⟩))
          have hS : ∀ b, S b -> b ∉ b0 := by
           intro b p I;obtain ⟨q, E, M⟩ := hin b I;rcases p with p | ⟨v, A, q', U, p⟩ | ⟨v, A, q', U, l, p⟩
           ·exact p.1 _ _ M
           ·have := Y7a (Xd.1 hap v A);obtain ⟨h1, h2⟩ := g.disj _ _ _ _ _ p M;refine this.1 q' U ?_;have : q' = q := Prod.ext h1 om;rw [this]; exact E
           ·have := Y7a (Xd.1 hap v A);exact this.2 q' U q E (g.disj _ _ _ _ _ p M).1
          have I : ∀ b ∈ b0, c.base <= b := fun b p => let ⟨q, _, h⟩ := hin b p; (g.own _ _ _ h).1.1
          unfold Oper.wp;rw [hrun hent];have G : cl.args.map (evT a.tmps) ++ ex.toArray = (mkV t.isAgg cells :: (as.map (evT a.tmps) ++ ex)).toArray := by simp_all
          rw [G];refine X2x (j S w cells _ b0 c.base hrep hnd I g.base hrvr hS) ?_
          rintro e w' ⟨Z, bsx, b1, rfl, p, X, V, hnd1, hnew, W⟩
          rw [hdst];have hRP := B w' b1 p X V hnd1 hnew;obtain ⟨k', ls2, rfl, h1, h2, h3, bds, h4, h5, h6⟩ := Y55 W C;have N := Ybo hfl C;have O := Y4m C;have hsl : (syncs L env).length = env.length := Y1y _ _;have hadd := hRP.addVal (n := (syncs L env).length) (Xn _) rfl (av := .con k' ls2) (v := resVal sg.results Z) (fun cs' bs' hrel' => by
           refine ⟨Z.flatten, h1.bare rfl, h2, fun l lf u hl hu => ?_⟩;rw [Y1] at hl;obtain ⟨m, hm', hr'⟩ := h6 l lf u hl hu;have hf := N lf (Xa hl);have hmd := O lf (Xa hl);obtain ⟨lt, lx, lm⟩ := lf;simp only at hm' hr';subst hm';exact ⟨(Rep.flat hf hr').2, by cases m <;> first | trivial | exact absurd rfl (hmd _)⟩) (by
           have := Ya (k := k') h3;rw [this.1, this.2];exact ⟨sm, sm⟩)
          have := RE.commit hadd (by rw [hsl]; exact hd);rw [Y0] at this;exact hn _ _ _ i this (by rw [Y1e, hsl]) rfl
     ·simp at i
   ·simp at i
  ·simp at i
 ·simp at i
end
theorem Y66 (b : env.length = tmps.size) (h : Rel c (SS env ps tmps vs w cs bs)) : ∀ {ptys : List PTy} {args : List Operand}, args.length <= ptys.length -> ValCs c (SS env ps tmps vs w cs bs) (rdArgs env ptys args) (args.map (evT tmps))
 | [], [], _ => rfl
 | p :: ptys, [], _ => rfl
 | [], x :: args, hl => by simp at hl
 | p :: ptys, x :: args, hl => ⟨_, _, rfl, Ye b h _ x, Y66 b h (ptys := ptys) (args := args) (by simpa using hl)⟩
section
variable {P : Program} {o : Oper} {a : Act} {w : World} {R : Type} {K : Env -> Option R} {r : R} {next : Act -> World -> Prop} {Q : Exit -> Act -> World -> Prop} {c : Cx} {d : Nat} {T : Tab} {env : Env} {sig : FuncId -> Option Sig} {caps : FuncId -> List Ty} {orc : Orc}
theorem RP.handed (j : env.length = tmps.size) (M : Rel c (SS env ps tmps vs w cs bs)) (L : ∀ r, (∀ q ∈ (ovl env ps r).refs, q.1 < env.length) /\ (∀ q ∈ (ovl env ps r).ptrs, q < env.length)) (G : env.length <= n) {x : t.D} (X : ps n = .con .val [⟨t, x, .at_ .dp⟩]) :
  Rep (fun _ => False) w t .dp [vs n] x (bs n 1) /\ ∀ (w' : World) (A : Value) (y : t.D) (B : List Nat), Below c.base w w' -> (∀ b, b < w.heap.size -> b ∉ bs n 1 -> w'.heap[b]? = w.heap[b]?) -> Rep (fun _ => False) w' t .dp [A] y B -> B.Nodup -> (∀ b ∈ B, b ∈ bs n 1 \/ w.heap.size <= b) ->
   RP c env tmps w' (upd ps n (.con .val [⟨t, y, .at_ .dp⟩])) (upd vs n A) := by
 obtain ⟨D, O, U⟩ := Y4o j M G X;refine ⟨Rep.dpS D, fun w' A y B N V i W E => ?_⟩;have e : upd (upd ps n .undef) n (.con .val [⟨t, y, .at_ .dp⟩]) = upd ps n (.con .val [⟨t, y, .at_ .dp⟩]) := by
  funext r; simp [upd]; split <;> rfl
 have := RP.reformAt j M L (n := n) (m := n) G G (av := .con .val [⟨t, y, .at_ .dp⟩]) (v := A) (w' := w') ⟨by simp [AV.refs, Leaf.refs], by simp [AV.ptrs]⟩ N (fun b g I => V b g (I 1)) [A] (fun l => if l = 1 then B else []) ?_ ?_ ?_ ?_
 ·grind
 ·intro l b g;by_cases C : l = 1
  ·subst C;rw [X3 rfl] at g;refine ⟨Rep.lt i b g, ?_⟩;rcases E b g with h | h
   ·grind
   ·exact .inl h
  ·grind
 ·grind
 ·grind
 ·intro s' Z;have p : s'.bs n = fun l => if l = 1 then B else [] := Y0 _ _ _
  have z : s'.cs n = [A] := Y0 _ _ _;refine ⟨⟨z, by rw [p]; rfl⟩, by rw [z]; rfl, fun l C => ?_, fun l lf u C Y => ?_⟩
  ·rw [p];simp at C;exact X5 om
  ·rw [z] at Y;have F : l = 0 :=gr;subst F;obtain rfl : lf = ⟨t, y, .at_ .dp⟩ := by simpa [leafAt] using C.symm
   obtain rfl : u = A :=gr;refine LeafRel.of_rep trivial ?_;rw [p];exact Rep.dpS i
theorem Yde (hO : OrcOk P sig orc) {F : Call} {extra : List AV} {ex : List Value} (hop : o.op = .call F) (O : o.dst = some d) (hr : RE c env a.tmps w) (hd : d < env.length)
  (hrun : Enterable P f -> (execOp a.eval o).run P w = .ok (.enter f (F.args.map (evT a.tmps) ++ ex.toArray)) w) (hex : ∀ vs cs bs, Rel c (SS env noP a.tmps vs w cs bs) -> ValCs c (SS env noP a.tmps vs w cs bs) extra ex) (hsg : sig f = some sg) (N : sg.box = none /\ sg.newb = none) (hm : sg.muts = true) (how : sg.own = true) (h : callO caps orc (some d) f sg F.args.toList extra env K = some r) (hn : Next c a K r env.length next) : o.wp P a w next Q := by
 unfold callO at h;split at h
 ·rename_i t ps a0 as hps has;split at h
  ·rename_i env2 l hg;split at h
   ·rename_i x hx;simp only at h;split at h
    ·rename_i hc;obtain ⟨⟨m, hlm, hagg⟩, ⟨hl1, hl2⟩, hap⟩ := hc;split at h
     ·simp at h
     ·rename_i rvs hrv;split at h
      ·simp at h
      ·rename_i q Z;obtain ⟨z0, hres, h⟩ := Xu.1 h;obtain ⟨U, i⟩ := hO f sg _ q z0 hsg Z hres;rw [N.1, N.2, hm, how] at i;obtain ⟨t', x0, rest, y, e1, e2, i⟩ := i;simp at e1;obtain ⟨⟨rfl, e1⟩, rfl⟩ := e1;subst e1;rw [e2] at h;simp at h;have m : extra = [] :=gr;subst m;obtain ⟨vs, G⟩ := hr;have V : ex = [] := by
        obtain ⟨_, cs, bs, g, _⟩ := G;exact hex vs cs bs g
       subst V;obtain ⟨hl, h1⟩ := Y87 G (fun _ => .inl rfl) hg (n := env.length) (Xn _) rfl;have W := Leaf.as_eq hx;rw [hlm] at W;rw [W] at h1;obtain ⟨p, cs, bs, g, hno⟩ := h1;obtain ⟨z, j⟩ := RP.handed p g hno (n := env.length) om (Y0 _ _ _);rw [Y0] at z;have hb0 : ∀ b ∈ bs env.length 1, c.base <= b := fun b L => (g.own _ _ _ L).1.1;have A : as.length <= ps.length :=om;have E := Y66 p g A;have I : ∀ v ∈ rdArgs env2 ps as, v.refs = [] /\ v.ptrs = [] :=gr;have hrvr : RVRels (RoS c (SS env2 (upd noP env.length (.con .val [⟨t, x, .at_ .dp⟩])) a.tmps (upd vs env.length (evT a.tmps a0)) w cs bs)) w rvs (as.map (evT a.tmps)) :=
        Y5w g (fun b L => L) E hrv (fun v hv q Z => by rw [(I v hv).1] at Z; simp at Z) (fun v hv q Z => gr)
       unfold Oper.wp;rw [hrun U];have B : F.args.map (evT a.tmps) ++ ([] : List Value).toArray = (evT a.tmps a0 :: as.map (evT a.tmps)).toArray := by
        rw [show evT a.tmps a0 :: as.map (evT a.tmps) = F.args.toList.map (evT a.tmps) by rw [has]; rfl];rw [<- X33, X1n];simp
       rw [B];refine X2x (i _ w _ _ _ c.base z (g.nodup _ _) hb0 g.base hrvr (fun b L => L.1 _ _)) ?_
       rintro e w' ⟨v', b1, rfl, M, D, C, X, Y⟩
       rw [O];have h2 := j w' v' y b1 M D C X Y;have eu : upd (upd noP env.length (.con .val [⟨t, x, .at_ .dp⟩])) env.length (.con .val [⟨t, y, .at_ .dp⟩]) = upd noP env2.length (.con .val [⟨t, y, .at_ .dp⟩]) := by
        rw [hl]; funext r; simp [upd]; split <;> rfl
       rw [eu] at h2;have := RE.commit h2 (by rw [hl]; exact hd);rw [hl, Y0] at this;exact hn _ _ _ h this (by rw [Y1e, hl]) rfl
    ·simp at h
   ·simp at h
  ·simp at h
 ·simp at h
end
section
variable {P : Program} {o : Oper} {a : Act} {w : World} {R : Type} {K : Env -> Option R} {r : R} {next : Act -> World -> Prop} {Q : Exit -> Act -> World -> Prop} {c : Cx} {d : Nat} {T : Tab} {env : Env} {sig : FuncId -> Option Sig} {caps : FuncId -> List Ty} {orc : Orc}
theorem Ydf (z : OrcOk P sig orc) {k : Nat} {b : Call} {extra : List AV} {ex : List Value} (p : o.op = .call b) (g : o.dst = some d) (D : RE c env a.tmps w) (A : d < env.length)
  (h : Enterable P f -> (execOp a.eval o).run P w = .ok (.enter f (b.args.map (evT a.tmps) ++ ex.toArray)) w) (l : ∀ vs cs bs, Rel c (SS env noP a.tmps vs w cs bs) -> ValCs c (SS env noP a.tmps vs w cs bs) extra ex) (y : sig f = some sg) (j : sg.box = none /\ sg.newb = none) (B : sg.muts = false) (q : sg.own = true) (m : sg.give = some k) (i : callG caps orc k (some d) f sg b.args.toList extra env K = some r) (C : Next c a K r env.length next) : o.wp P a w next Q := by simp [callG] at i
end
theorem Y9j : ∀ {xs : List Int} {cells : List Value} {b : List Nat}, El (Rep S w (.int .u8) .ro) 1 cells xs b -> cells = xs.map (Value.int .u8)
 | [], cells, b, h => h.1
 | x :: xs, cells, b, ⟨c, cs, b0, b1, e, _, _, h1, h2⟩ => by
  rw [e, h1.1, Y9j h2]; rfl
section
variable {P : Program} {o : Oper} {a : Act} {w : World} {R : Type} {K : Env -> Option R} {r : R} {next : Act -> World -> Prop} {Q : Exit -> Act -> World -> Prop} {c : Cx} {d : Nat} {T : Tab} {env : Env}
theorem Ydg (hT : TabOk P T) {s i : TypeId} {b : ByteArray} (I : o.op = .convert s i x) (l : o.dst = some d) (V : RE c env a.tmps w) (hd : d < env.length) (g : bytesOf T s i (fun ty => rd ty env x) = some b)
  (Y : K (setD (some d) env (vStr b)) = some r) (hn : Next c a K r env.length next) : o.wp P a w next Q := by
 unfold bytesOf at g;split at g
 ·rename_i e hs ht;split at g
  ·rename_i he;split at g
   ·rename_i lx h;have h : rd (some (.slice e (.int .u8))) env x = .con .val [lx] := h;split at g
    ·rename_i xs C;split at g
     ·rename_i F;obtain rfl := Xj g;have L := V;obtain ⟨vs, N⟩ := L;obtain ⟨cs, bs, B, _⟩ := N.rel;obtain ⟨cells, W⟩ := Ye N.len B (some (.slice e (.int .u8))) x;rw [h] at W;obtain ⟨S, O⟩ := Y2m W F;rw [Leaf.as_eq C] at O;obtain ⟨v, ch, b0, b1, M, _, E, _, A, z, e2, hlc, hz, Z⟩ := O;have M : evT a.tmps x = v := by simpa using M
      have D := Y9j E;refine finV V l (v := .string (strOfNums xs)) ?_ hd (fun vs cs bs _ => Y7s _ _ _) Y90 Y hn;have key : (Go.convert s i (.slice A xs.length z)).run P w = .ok (.string (strOfNums xs)) w := by
       have p := TabOk.slice hT hs;have m := TabOk.int hT he;have q := TabOk.str hT ht;cases A with
       | none =>
        have G : xs = [] := by simp_all
        subst G;exact run_convert_bytes_nil w s e p m 0 z i q
       | some A =>
        have F : (loadCells A xs.length).run P w = .ok (xs.map (Value.int .u8)).toArray w := by
         have := run_loadCells_list (P := P) w A (xs.map (Value.int .u8)) (fun j u U => by
          rw [<- D] at U;obtain ⟨a', B, _, X⟩ := Z j u U;cases B;exact X)
         simpa using this
        rw [run_convert_bytes_string w s i e _ _ z p m q, run_bytesToString w _ xs.length z xs F, foldl_push_bytes];simp [strOfNums, ByteArray.empty, ByteArray.emptyWithCapacity];rfl
      have y : (Go.convert s i (evT a.tmps x)).run P w = .ok (.string (strOfNums xs)) w :=gr;simp [execOp, I, Y4, y]
     ·simp at g
    ·simp at g
   ·simp at g
  ·simp at g
 ·simp at g
end
section
variable {P : Program} {o : Oper} {a : Act} {w : World} {Q : Exit -> Act -> World -> Prop} {c : Cx} {d : Nat} {T : Tab} {env : Env}
theorem Y7b (b : RE c env tmps w) : RE c (preTup o env) tmps w /\ (preTup o env).length = env.length := ⟨b, rfl⟩
theorem Y8p (l : RE c env a.tmps w) (g : o.dst = some d) (i : d < env.length) {env' : Env} (h : tupStep o d env = some env')
  (j : ∀ b w', RE c env' b.tmps w' -> env'.length = env.length -> b.defers = a.defers -> next b w') : o.wp P a w next Q := by cases h
end
theorem Y4g : ∀ (env : Env) (d : Nat) (u v : AV), put (put env d u) d v = put env d v
 | [], _, _, _ => rfl
 | _ :: _, 0, _, _ => rfl
 | x :: env, d + 1, u, v => by simp [put, Y4g env d u v]
section
variable {P : Program} {o : Oper} {a : Act} {w : World} {Q : Exit -> Act -> World -> Prop} {c : Cx} {d : Nat} {T : Tab} {env : Env} {caps : FuncId -> List Ty}
theorem Y7v (hT : TabOk P T) (l : RE c env a.tmps w) (g : o.dst = some d) (i : d < env.length) {env' : Env} (h : takeStep T caps o d env = some (true, env'))
  (j : ∀ b w', RE c env' b.tmps w' -> env'.length = env.length -> b.defers = a.defers -> next b w') : o.wp P a w next Q := by cases h
end
section
variable {P : Program} {o : Oper} {a : Act} {w : World} {Q : Exit -> Act -> World -> Prop} {c : Cx} {d : Nat} {T : Tab} {env : Env} {caps : FuncId -> List Ty}
theorem Y8q {b : Bool} {env' : Env} (h : selStep T caps o env = some (b, env')) : o.guard = none := by
 unfold selStep at h;split at h
 ·assumption
 ·cases h
theorem Y8r (hT : TabOk P T) (p : RE c env a.tmps w) {env' : Env} (h : selStep T caps o env = some (true, env'))
  (m : ∀ g w', RE c env' g.tmps w' -> env'.length = env.length -> g.defers = a.defers -> next g w') : o.wp P a w next Q := by
 unfold selStep at h;split at h
 ·rename_i d q b;split at h
  ·rename_i l;split at h
   ·rename_i j i;simp only [X0, X10, true_and] at h;subst h;exact Y8p p b l i m
   ·exact Y7v hT p b l h m
  ·cases h
 ·cases h
end
theorem Yal (r : Nat) : Fewer (renewG r) := by
 intro r' j p l;unfold renewG;simp only;split
 ·exact .inl rfl
 ·exact .inr rfl
section
variable {c : Cx} {env : Env} {w : World}
theorem RP.renewR (hlen : env.length = tmps.size) (m : Rel c (SS env noP tmps vs w cs bs)) (hno : ∀ r, (∀ q ∈ (ovl env noP r).refs, q.1 < env.length) /\ (∀ q ∈ (ovl env noP r).ptrs, q < env.length)) {r : Nat} {e : BoxK} (hr : get env r = .con (.box e) ls) {B : Nat} (hB : bs r 0 = [B]) (htm : tmps.getD r undef = .pointer (some ⟨B, 0, none⟩)) (hbel : Below c.base w w') {ch' : List Value} {br bn : Nat -> List Nat} {ns : List Leaf} {k2 : Kind} {ls2 : List Leaf} {rv : Value} {cells2 : List Value}
  (I : ∀ b, b < w.heap.size -> (∀ l, b ∉ bs r l) -> w'.heap[b]? = w.heap[b]?) (hBh : w'.heap[B]? = some (.cells ch'.toArray e.id (0, 0))) (hfix : ∀ l, nthB e.fix l = true -> ch'[l]? = (cs r)[l]?)
  (hbr0 : br 0 = [B]) (hnl : ns.length = ch'.length) (hbrn : ∀ l, ns.length <= l -> br (l + 1) = []) (hn1 : ∀ l b, b ∈ br l -> b < w'.heap.size /\ (w.heap.size <= b \/ ∃ C, b ∈ bs r C)) (hn2 : ∀ l b, b ∈ bn l -> b < w'.heap.size /\ (w.heap.size <= b \/ ∃ C, b ∈ bs r C))
  (hd1 : ∀ l C b, b ∈ br l -> b ∈ br C -> l = C) (hd2 : ∀ l C b, b ∈ bn l -> b ∈ bn C -> l = C) (hd3 : ∀ l C b, b ∈ br l -> b ∉ bn C) (hnd1 : ∀ l, (br l).Nodup) (hnd2 : ∀ l, (bn l).Nodup)
  (hset1 : ∀ l ∈ ns, l.refs = []) (N : ∀ l ∈ ls2, l.m.settled = true)
  (Y : let s' : St := ⟨upd (upd (chgE (renewG r) (ovl env noP)) r (.con (.box e) ns)) env.length (.con k2 ls2), upd (ovlT tmps vs) env.length rv, w', upd (upd cs r ch') env.length cells2, upd (upd bs r br) env.length bn⟩
   Keeps c (SS env noP tmps vs w cs bs) s' -> (∀ l lf u, ns[l]? = some lf -> ch'[l]? = some u -> LeafRel c s' r l u lf) /\ AVRel c s' env.length (.con k2 ls2) rv) :
  RP c (renewBox r (.box e) ns env) tmps w' (upd noP env.length (.con k2 ls2)) (upd vs env.length rv) := by
 have Z : r < env.length := Yw hr;have M : r ≠ env.length := X1o Z
 let s' : St := ⟨upd (upd (chgE (renewG r) (ovl env noP)) r (.con (.box e) ns)) env.length (.con k2 ls2), upd (ovlT tmps vs) env.length rv, w', upd (upd cs r ch') env.length cells2, upd (upd bs r br) env.length bn⟩
 have hbN : ∀ l, bs env.length l = [] := by
  have := m.av env.length;rw [show (SS env noP tmps vs w cs bs).env env.length = .undef by show ovl env noP _ = _; rw [Ym (Xn _)]; rfl] at this;exact this
 have X : s'.bs r = br := by show upd (upd bs r br) env.length bn r = _; rw [Y3 _ _ M, Y0]
 have eN : s'.bs env.length = bn := Y0 _ _ _;have eO : ∀ p, p ≠ r -> p ≠ env.length -> s'.env p = (ovl env noP p).chg (renewG r) /\ s'.tm p = ovlT tmps vs p /\ s'.cs p = cs p /\ s'.bs p = bs p := fun p g y => by
  refine ⟨?_, Y3 _ _ y, ?_, ?_⟩
  ·show upd (upd _ r _) env.length _ p = _;rw [Y3 _ _ y, Y3 _ _ g]; rfl
  ·show upd (upd cs r ch') env.length cells2 p = _;rw [Y3 _ _ y, Y3 _ _ g]
  ·show upd (upd bs r br) env.length bn p = _;rw [Y3 _ _ y, Y3 _ _ g]
 have hstep : Rel c s' := by
  refine Rel.step (s := SS env noP tmps vs w cs bs) (s' := s') (renewG r) m (fun p => p = r \/ p = env.length) (fun a j => ∃ lf u, OwnPlace (SS env noP tmps vs w cs bs) a j lf u) (fun a => ∃ off v, PtrRel (SS env noP tmps vs w cs bs) a off v) (fun p F => ?_) hbel (fun b z hne => ?_) (fun p l b F z => ?_) (fun p l p' C b F hp' z A => ?_) (fun p l F => ?_) (fun p F => ?_) (fun hk => ⟨?_, ?_, ?_⟩) (fun hk p F => ?_)
  ·grind
  ·grind
  ·rcases F with rfl | rfl
   ·rw [X] at z;obtain ⟨g, y⟩ := hn1 l b z;exact ⟨g, y.imp id (fun ⟨C, h⟩ => ⟨p, C, .inl rfl, h⟩)⟩
   ·rw [eN] at z;obtain ⟨g, y⟩ := hn2 l b z;exact ⟨g, y.imp id (fun ⟨C, h⟩ => ⟨r, C, .inl rfl, h⟩)⟩
  ·rcases F with rfl | rfl
   ·rcases hp' with rfl | rfl
    ·rw [X] at z A; exact ⟨rfl, hd1 _ _ _ z A⟩
    ·rw [X] at z; rw [eN] at A; exact absurd A (hd3 _ _ _ z)
   ·rcases hp' with rfl | rfl
    ·rw [eN] at z; rw [X] at A; exact absurd z (hd3 _ _ _ A)
    ·rw [eN] at z A; exact ⟨rfl, hd2 _ _ _ z A⟩
  ·rcases F with rfl | rfl
   ·rw [X]; exact hnd1 l
   ·rw [eN]; exact hnd2 l
  ·exact (m.av p).refs_own
  ·intro u t x r1 j p hL W;unfold renewG;simp only;by_cases g : r1 = r
   ·rw [X3 g];exact ⟨rfl, Rep.one W.1 u sm⟩
   ·rw [X5 g];refine ⟨rfl, ?_⟩;obtain ⟨lf0, u0, y, h3, h4⟩ := hL;have E : r1 < env.length := by
     apply Nat.lt_of_not_le;intro G;have : (SS env noP tmps vs w cs bs).env r1 = .undef := by show ovl env noP r1 = _; rw [Ym G]; rfl
     rw [this] at y; simp [AV.leaf?] at y
    obtain ⟨o1, o2, o3, o4⟩ := eO r1 g (X1o E);refine BorRel.keep hk ⟨fun lf u L => ?_, by rw [o4], fun b z => ?_⟩ W
    ·obtain ⟨D, p2, p3⟩ := L;refine ⟨?_, p2, gr⟩;rw [o1];have D : (ovl env noP r1).leaf? j = some lf := D;cases hv : ovl env noP r1 with
     | con k0 ls0 =>
      rw [hv] at D;simp only [AV.leaf?] at D;simp only [AV.chg, AV.leaf?];rw [Yb, D];obtain ⟨t0, x0, m0⟩ := lf;cases m0 with
      | at_ lv => rfl
      | bor _ _ _ => simp [Mode.own] at p2
      | dead => simp [Mode.own] at p2
     | _ => rw [hv] at D; simp [AV.leaf?] at D
    ·exact I b (m.own _ _ _ z).2 (fun l O => g (m.disj _ _ _ _ _ z O).1)
  ·intro a r1 j p i o hL hwr;unfold renewG;simp only;by_cases g : r1 = r
   ·grind
   ·rw [show (r1 == r) = false from by simpa using g];simp;obtain ⟨lf0, u0, y, h3, h4⟩ := hL;have E : r1 < env.length := by
     apply Nat.lt_of_not_le;intro G;have : (SS env noP tmps vs w cs bs).env r1 = .undef := by show ovl env noP r1 = _; rw [Ym G]; rfl
     rw [this] at y; simp [AV.leaf?] at y
    obtain ⟨o1, o2, o3, o4⟩ := eO r1 g (X1o E);refine WrRel0.keep hk ⟨fun lf u L => ?_, by rw [o4], fun b z => ?_⟩ hwr
    ·obtain ⟨D, p2, p3⟩ := L;refine ⟨?_, p2, by rw [o3]; exact p3⟩;rw [o1];have D : (ovl env noP r1).leaf? j = some lf := D;cases hv : ovl env noP r1 with
     | con k0 ls0 =>
      rw [hv] at D;simp only [AV.leaf?] at D;simp only [AV.chg, AV.leaf?];rw [Yb, D];obtain ⟨t0, x0, m0⟩ := lf;cases m0 with
      | at_ lv => rfl
      | bor _ _ _ => simp [Mode.own] at p2
      | dead => simp [Mode.own] at p2
     | _ => rw [hv] at D; simp [AV.leaf?] at D
    ·exact I b (m.own _ _ _ z).2 (fun l O => g (m.disj _ _ _ _ _ z O).1)
  ·intro r1 hL _;obtain ⟨off, v, e0, ls0, B0, q1, q2, q3⟩ := hL;have q1 : ovl env noP r1 = .con (.box e0) ls0 := q1;have E : r1 < env.length := by
    apply Nat.lt_of_not_le;intro G;rw [Ym G] at q1;exact AV.noConfusion q1
   refine ⟨Y3 _ _ (X1o E), fun e1 ls1 g => ?_⟩;by_cases y : r1 = r
   ·subst y;exact ⟨e, ns, by show upd (upd _ r1 _) env.length _ r1 = _; rw [Y3 _ _ M, Y0]⟩
   ·have g : ovl env noP r1 = .con (.box e1) ls1 := g;exact ⟨e1, chgs (renewG r) ls1, by rw [(eO r1 y (X1o E)).1, g]; rfl⟩
  ·obtain ⟨hl1, hl2⟩ := Y hk;rcases F with rfl | rfl
   ·have ee : s'.env p = .con (.box e) ns := by show upd (upd _ p _) env.length _ p = _; rw [Y3 _ _ M, Y0]
    have et : s'.tm p = .pointer (some ⟨B, 0, none⟩) := by
     show upd (ovlT tmps vs) env.length rv p = _;rw [Y3 _ _ M];exact (X3 om).trans htm
    have ec : s'.cs p = ch' := by show upd (upd cs p ch') env.length cells2 p = _; rw [Y3 _ _ M, Y0]
    have hav := m.av p;rw [show (SS env noP tmps vs w cs bs).env p = .con (.box e) ls by show ovl env noP p = _; rw [Y7 Z]; exact hr] at hav;obtain ⟨⟨B1, g1, g2, g3, g4, g5⟩, _⟩ := hav;rw [ee, et];refine ⟨⟨B, rfl, by rw [ec]; exact hBh, by rw [X]; exact hbr0, fun F => ?_, fun l O => ?_⟩, by rw [ec]; exact hnl, fun l O => by rw [X]; exact hbrn l O, fun l lf u O hu => hl1 l lf u (by rw [<- Y1]; exact O) gr⟩
    ·grind
    ·grind
   ·have ee : s'.env env.length = .con k2 ls2 := Y0 _ _ _;have et : s'.tm env.length = rv := Y0 _ _ _;rw [ee, et];exact hl2
 have U : (renewBox r (.box e) ns env).length = env.length := by unfold renewBox; rw [Y5, Y6]
 have e1 : upd (upd (chgE (renewG r) (ovl env noP)) r (.con (.box e) ns)) env.length (.con k2 ls2) = ovl (renewBox r (.box e) ns env) (upd noP env.length (.con k2 ls2)) := by
  rw [Yc gr];congr 1;funext p;by_cases F : p < env.length
  ·rw [Y7 (by rw [U]; exact F)];unfold renewBox;rw [Y4j (by rw [Y6]; exact Z), Y7r];by_cases g : p = r
   ·rw [g, Y0, Y0]
   ·rw [Y3 _ _ g, Y3 _ _ g];show (ovl env noP p).chg _ = (get env p).chg _;rw [Y7 F]
  ·rw [Ym (by rw [U]; omega), Y3 _ _ om];show (ovl env noP p).chg _ = _;rw [Ym om]; rfl
 refine ⟨by rw [U]; exact hlen, _, _, Rel.congr hstep e1 (Y1b om rv).symm, fun p => ?_⟩;rw [U, <- e1];by_cases y : p = env.length
 ·rw [y, Y0, (Ya N).1, (Ya N).2];exact ⟨sm, sm⟩
 ·rw [Y3 _ _ y];by_cases g : p = r
  ·rw [g, Y0];refine ⟨fun q V => ?_, by simp [AV.ptrs]⟩;simp only [AV.refs, Xi] at V;obtain ⟨l, O, V⟩ := V;rw [hset1 l O] at V; simp at V
  ·rw [Y3 _ _ g];have := Yi (Yal r) (ovl env noP p);exact ⟨fun q V => (hno p).1 q (this.1 q V), fun q V => (hno p).2 q (this.2 q V)⟩
end
theorem Y3i {b : BoxSig} : ∀ {ls : List Leaf} {n l : Nat} {lf : Leaf}, boxFits b n ls = true -> ls[l]? = some lf -> lf.m.settled = true /\ (∀ e τ, lf.t = .slice e τ -> (slotAt b.lv (n + l)).isFx = true \/ lf.m = b.md (n + l))
 | [], n, l, lf, _, hl => by simp at hl
 | a :: ls, n, 0, lf, h, hl => by
  obtain rfl : a = lf := by simpa using hl
  simp [boxFits] at h;refine ⟨h.1.1, fun e τ g => ?_⟩;have := h.1.2;rw [g] at this;simpa using this
 | a :: ls, n, l + 1, lf, h, hl => by
  simp [boxFits] at h;have := Y3i (n := n + 1) (l := l) h.2 (by simpa using hl)
  rwa [show n + 1 + l = n + (l + 1) by omega] at this
theorem Y7c {b : BoxSig} : ∀ {ls : List Leaf} {n l : Nat} {lf : Leaf}, boxCalm b n ls = true -> ls[l]? = some lf -> ∀ e τ, lf.t = .slice e τ -> slotAt b.lv (n + l) = .fx \/ slotAt b.lv (n + l) = .dp
 | [], n, l, lf, _, hl => by simp at hl
 | a :: ls, n, 0, lf, h, hl => by
  obtain rfl : a = lf := by simpa using hl
  simp [boxCalm] at h;intro e τ i;have := h.1;rw [i] at this;simp;cases g : slotAt b.lv n <;> rw [g] at this <;> simp_all
 | a :: ls, n, l + 1, lf, h, hl => by
  simp [boxCalm] at h;have := Y7c (n := n + 1) (l := l) h.2 (by simpa using hl)
  rwa [show n + 1 + l = n + (l + 1) by omega] at this
theorem Y7d {b : BoxSig} : ∀ {ls : List Leaf} {n l : Nat} {lf : Leaf}, boxFxRo b n ls = true -> ls[l]? = some lf -> (slotAt b.lv (n + l)).isFx = true -> lf.m.own = false
 | [], n, l, lf, _, hl => by simp at hl
 | a :: ls, n, 0, lf, h, hl => by
  obtain rfl : a = lf := by simpa using hl
  simp [boxFxRo] at h;intro i;rcases h.1 with g | g
  ·grind
  ·exact g
 | a :: ls, n, l + 1, lf, h, hl => by
  simp [boxFxRo] at h;have := Y7d (n := n + 1) (l := l) h.2 (by simpa using hl)
  rwa [show n + 1 + l = n + (l + 1) by omega] at this
theorem Y59 : ∀ {fs : List Bool} {ss : List Slot} {l : Nat}, subFix fs ss = true -> nthB fs l = true -> (slotAt ss l).isFx = true
 | [], ss, l, _, h => by simp [nthB] at h
 | f :: fs, [], 0, h, h2 => by simp [subFix] at h; simp only [nthB] at h2; rw [h2] at h; simp at h
 | f :: fs, [], l + 1, h, h2 => by simp [subFix] at h; exact Y59 (ss := []) (l := l) h.2 h2
 | f :: fs, s :: ss, 0, h, h2 => by
  simp [subFix] at h;simp [nthB] at h2;rcases h.1 with b | b
  ·grind
  ·exact b
 | f :: fs, s :: ss, l + 1, h, h2 => by simp [subFix] at h; exact Y59 (fs := fs) (ss := ss) (l := l) h.2 h2
theorem Y3t {b : BoxSig} : ∀ {n : Nat} {ls ms : List Leaf}, ls.length = ms.length -> (mixLs b n ls ms).length = ls.length
 | n, [], [], _ => rfl
 | n, [], _ :: _, h => by simp at h
 | n, _ :: _, [], h => by simp at h
 | n, l :: ls, m :: ms, h => by simp [mixLs]; rw [Y3t (by simpa using h)]
theorem Y6n {b : BoxSig} : ∀ {n l : Nat} {ls ms : List Leaf} {lf : Leaf}, (mixLs b n ls ms)[l]? = some lf -> ((slotAt b.lv (n + l)).isFx = true /\ ls[l]? = some lf) \/ ((slotAt b.lv (n + l)).isFx = false /\ ms[l]? = some lf)
 | n, l, [], ms, lf, h => by simp [mixLs] at h
 | n, l, _ :: _, [], lf, h => by simp [mixLs] at h
 | n, 0, a :: ls, m :: ms, lf, h => by
  simp only [mixLs, Xc, X0] at h;cases g : (slotAt b.lv n).isFx with
  | true => grind
  | false => grind
 | n, l + 1, a :: ls, m :: ms, lf, h => by
  simp only [mixLs, X1s] at h;have := Y6n (n := n + 1) (l := l) h;rw [show n + 1 + l = n + (l + 1) by omega] at this;simpa using this
def Leaf.dat (l : Leaf) : Σ t : Ty, t.D := ⟨l.t, l.x⟩
theorem Y7e {l : Leaf} {x : t.D} (h : l.as t = some x) : l.dat = ⟨t, x⟩ := by
 rw [Leaf.as_eq h]; rfl
theorem Y7w (p : Nat -> Mode) : ∀ (t : Ty) {ls : List Leaf} {x : t.D} {rest : List Leaf} (n : Nat), asm t ls = some (x, rest) -> ∃ i, ls = i ++ rest /\ i.map Leaf.dat = (leaves t x p n).map Leaf.dat
 | .unit, ls, x, rest, n, h => by
  simp [asm] at h;obtain ⟨_, rfl⟩ := h;exact ⟨[], rfl, rfl⟩
 | .pair a b, ls, x, rest, n, h => by
  simp [asm] at h;cases j : asm a ls with
  | none => rw [j] at h; simp at h
  | some q =>
   obtain ⟨G, E⟩ := q;rw [j] at h;simp only at h;cases m : asm b E with
   | none => rw [m] at h; simp at h
   | some q =>
    obtain ⟨I, F⟩ := q;rw [m] at h;simp at h;obtain ⟨rfl, rfl⟩ := h;obtain ⟨C, z, B⟩ := Y7w p a n j;obtain ⟨D, A, k2⟩ := Y7w p b (n + a.sz) m;exact ⟨C ++ D, by rw [z, A, X4], by simp [leaves, B, k2]⟩
 | .int kk, ls, x, rest, n, h => by
  cases ls with
  | nil => simp [asm] at h
  | cons l ls =>
   simp [asm] at h;cases g : l.as (.int kk) with
   | none => rw [g] at h; simp at h
   | some y =>
    rw [g] at h;simp at h;obtain ⟨rfl, rfl⟩ := h;exact ⟨[l], rfl, by simp only [X1r, X34, Y7e g]; rfl⟩
 | .bool, ls, x, rest, n, h => by
  cases ls with
  | nil => simp [asm] at h
  | cons l ls =>
   simp [asm] at h;cases g : l.as .bool with
   | none => rw [g] at h; simp at h
   | some y =>
    rw [g] at h;simp at h;obtain ⟨rfl, rfl⟩ := h;exact ⟨[l], rfl, by simp only [X1r, X34, Y7e g]; rfl⟩
 | .str, ls, x, rest, n, h => by
  cases ls with
  | nil => simp [asm] at h
  | cons l ls =>
   simp [asm] at h;cases g : l.as .str with
   | none => rw [g] at h; simp at h
   | some y =>
    rw [g] at h;simp at h;obtain ⟨rfl, rfl⟩ := h;exact ⟨[l], rfl, by simp only [X1r, X34, Y7e g]; rfl⟩
 | .slice e τ, ls, x, rest, n, h => by
  cases ls with
  | nil => simp [asm] at h
  | cons l ls =>
   simp [asm] at h;cases g : l.as (.slice e τ) with
   | none => rw [g] at h; simp at h
   | some y =>
    rw [g] at h;simp at h;obtain ⟨rfl, rfl⟩ := h;exact ⟨[l], rfl, by simp only [X1r, X34, Y7e g]; rfl⟩
theorem Y37 (g : Nat -> Mode) : ∀ (t : Ty) (x : t.D) (n l : Nat) (lf : Leaf), (leaves t x g n)[l]? = some lf -> (lf.t.flatB = true /\ lf.m = .at_ .ro) \/ ((∃ e τ, lf.t = .slice e τ) /\ lf.m = g (n + l))
 | .unit, x, n, l, lf, h => by simp [leaves] at h
 | .int _, x, n, 0, lf, h => by simp only [leaves, Xc, X0] at h; subst h; exact .inl ⟨rfl, rfl⟩
 | .bool, x, n, 0, lf, h => by simp only [leaves, Xc, X0] at h; subst h; exact .inl ⟨rfl, rfl⟩
 | .str, x, n, 0, lf, h => by simp only [leaves, Xc, X0] at h; subst h; exact .inl ⟨rfl, rfl⟩
 | .slice e τ, x, n, 0, lf, h => by simp only [leaves, Xc, X0] at h; subst h; exact .inr ⟨⟨e, τ, rfl⟩, rfl⟩
 | .int _, x, n, l + 1, lf, h => by simp [leaves] at h
 | .bool, x, n, l + 1, lf, h => by simp [leaves] at h
 | .str, x, n, l + 1, lf, h => by simp [leaves] at h
 | .slice _ _, x, n, l + 1, lf, h => by simp [leaves] at h
 | .pair a b, x, n, l, lf, h => by
  simp [leaves] at h;have i : (leaves a x.1 g n).length = a.sz := by
   have := congrArg List.length (Yj a x.1 g n);rw [X26] at this;rw [this, Y22]
  by_cases j : l < a.sz
  ·rw [Xs om] at h;exact Y37 g a x.1 n l lf h
  ·rw [Xf om, i] at h;have := Y37 g b x.2 (n + a.sz) (l - a.sz) lf h
   rwa [show n + a.sz + (l - a.sz) = n + l by omega] at this
end Go.FP
