/- How Go values lie in memory, and an evaluator of code with its soundness (part 4 of 7). Conditions: those that stand in each theorem; nothing is assumed of any program. -/
import Derived.Test.YtdnmcmhnikjphaaGreatFpC

set_option linter.unusedVariables false
set_option linter.unusedSimpArgs false
set_option linter.unnecessarySimpa false

namespace Go.FP
open Go.RowKit
variable {S : Nat -> Prop} {w : World} {env : Env} {tmps : Array Value} {vs : Nat -> Value} {ps : Nat -> AV} {cs : Nat -> List Value} {bs : Nat -> Nat -> List Nat} {c : Cx} {s : St} {next : Act -> World -> Prop} {ls : List Leaf} {x : Operand} {t : Ty} {v : Value} {f : FuncId} {e : TypeId} {cells : List Value} {n : Nat} {u : Value} {rs : List (Ty × Lvl)} {k : Kind} {av : AV} {sg : Sig} {lv : Lvl} {τ : Ty} {w' : World} {xs : List (Σ t : Ty, t.D)} {us : List Value} {te : TE}
theorem Ybx (hrel : Rel c (SS env ps tmps vs w cs bs)) {r j : Nat} {ys : List t.D} (hlv : lv.deep = true)
  (hq : (get env r).leaf? j = some ⟨.slice e t, ys, .at_ lv⟩) (h0 : 0 < ys.length) :
  ∃ B cp cells b1, (cs r)[j]? = some (.slice (some ⟨B, 0, none⟩) ys.length cp) /\ bs r (j + 1) = B :: b1 /\ El (Rep (fun _ => False) w t .dp) t.sz cells ys b1 /\ w.ownsRow 0 e t.sz (.slice (some ⟨B, 0, none⟩) ys.length cp) ys.length cells := by
 have hrl := Y1p hq;have hav := hrel.av r;have e1 : (SS env ps tmps vs w cs bs).env r = get env r := Y8 hrl;rw [e1] at hav;obtain ⟨k, ls0, hv0⟩ : ∃ k ls, get env r = .con k ls := by
  cases hv : get env r with
  | con k ls => exact ⟨k, ls, rfl⟩
  | _ => rw [hv] at hq; simp [AV.leaf?] at hq
 rw [hv0] at hav hq;have hl0 : leafAt ls0 j = some ⟨.slice e t, ys, .at_ lv⟩ := hq;have hlt : j < ls0.length := by rw [Y1] at hl0; exact (X6.1 hl0).1
 have g2 : ls0.length = (cs r).length := hav.2.1;have hu : (cs r)[j]? = some ((cs r)[j]'(by omega)) := X1 (by omega);have hrep := (Rep.deep hlv).1 (hav.2.2.2 j _ _ hl0 hu).rep;obtain ⟨v, cells, b0, b1, f1, f2, f3, f4⟩ := hrep;have f1 : (cs r)[j]'(by omega) = v := by simpa using f1
 rw [f1] at hu;obtain ⟨f4, f5⟩ := f4;rcases f5.2 with ⟨_, hn⟩ | ⟨g, cap, cur, rfl, _⟩
 ·omega
 ·have f4 : b0 = [g] := f4;subst f4;exact ⟨g, cap, cells, b1, hu, f2, El.imp (fun c x b hb h => Rep.dpS h) f3, f5⟩
theorem Ydy {sz n : Nat} {B k cp : Nat} (h : w.ownsRow 0 e sz (.slice (some ⟨B, 0, none⟩) n cp) n cells) (hu : cells[k]? = some u) : w.cell? ⟨B, k, none⟩ = some u := by
 have := World.ownsRow.cells (g := B) h rfl k u hu
 rwa [Y1e, X13] at this
section
variable {P : Program} {o : Oper} {a : Act} {w : World} {R : Type} {K : Env -> Option R} {r0 : R} {next : Act -> World -> Prop} {Q : Exit -> Act -> World -> Prop} {c : Cx} {d : Nat} {T : Tab} {env : Env}
theorem Yby (hT : TabOk P T) {t : TypeId} {s x : Operand} {cl : Call} {r j oo : Nat} {i : Int} (hop : o.op = .call cl) (hc : cl.callee = .builtin .append) (hargs : cl.args.toList = [s, x]) (htys : cl.argTypes.toList = [t, t]) (hdst : o.dst = some d)
  (hr : RE c env a.tmps w) (hd : d < env.length) (ht : elemAt T t = some te) (hs : nestOf env s = some (r, j, i, oo)) (hK : appendN d te r j i oo x env K = some r0) (hn : Next c a K r0 env.length next) : o.wp P a w next Q := by simp [nestOf] at hs
end
section
variable {P : Program} {o : Oper} {a : Act} {w : World} {R : Type} {K : Env -> Option R} {r0 : R} {next : Act -> World -> Prop} {Q : Exit -> Act -> World -> Prop} {c : Cx} {d : Nat} {T : Tab} {env : Env}
theorem Y9u (hT : TabOk P T) {t : TypeId} {x v : Operand} {s r j oo : Nat} {i : Int} {l : Leaf} (hop : o.op = .store t x v) (hdst : o.dst = none) (hr : RE c env a.tmps w) (hg : growOf env v = some (s, r, j, i, oo, l)) (ht : T.ty t = some l.t)
  (hK : storeGrow s r j i oo l x env K = some r0) (hn : Next c a K r0 env.length next) : o.wp P a w next Q := by simp [growOf] at hg
end
abbrev Places := List (Nat × Nat × Leaf)
theorem Y24 (L : Places) (r : Nat) : ∀ (k : Nat) (ls : List Leaf) (l : Nat), (renewLs L r k ls)[l]? = (ls[l]?).map fun lf => (lookM L r (k + l)).getD lf
 | k, [], l => by simp [renewLs]
 | k, u :: ls, 0 => by simp [renewLs]
 | k, u :: ls, l + 1 => by simp [renewLs, Y24 L r (k + 1) ls l, X2a, Nat.add_comm 1 l]
theorem Y35 (L : Places) (r : Nat) : ∀ (k : Nat) (ls : List Leaf), (renewLs L r k ls).length = ls.length
 | k, [] => rfl
 | k, u :: ls => by simp [renewLs, Y35 L r (k + 1) ls]
theorem Y5n (L : Places) : ∀ (k : Nat) (env : Env) (r : Nat), get (renewEnv L k env) r = (get env r).renew L (k + r)
 | k, [], r => by simp [renewEnv, get, AV.renew]
 | k, u :: env, 0 => by simp [renewEnv, get]
 | k, u :: env, r + 1 => by simp [renewEnv, get, Y5n L (k + 1) env r, X2a, Nat.add_comm 1 r]
theorem Y4e (L : Places) : ∀ (k : Nat) (env : Env), (renewEnv L k env).length = env.length
 | k, [] => rfl
 | k, u :: env => by simp [renewEnv, Y4e L (k + 1) env]
theorem Y28 (L : Places) (env : Env) : (syncs L env).length = env.length := by unfold syncs; rw [Y4e, Y7]
theorem Yd0 (L : Places) (env : Env) (r : Nat) : get (syncs L env) r = ((get env r).chg (syncsG L)).renew L r := by unfold syncs; rw [Y5n, Y16, X13]
theorem Ybz {L : Places} {r : Nat} (h : ∀ j, lookM L r j = none) (v : AV) : v.renew L r = v := by
 cases v with
 | con k ls =>
  simp only [AV.renew, AV.con.injEq, true_and];apply X24;intro l;rw [Y24, h];cases ls[l]? <;> rfl
 | _ => rfl
theorem Yaw (L : Places) : Fewer (syncsG L) := fun r j p l => by
 simp [syncsG];split
 ·cases p with
  | nil => exact .inr rfl
  | cons a p => exact .inl rfl
 ·exact .inr rfl
theorem Yc0 {L : Places} (hL : ∀ q j n, lookM L q j = some n -> ∃ lv, n.m = .at_ lv) (r : Nat) (v : AV) : (∀ z ∈ (v.renew L r).refs, z ∈ v.refs) /\ (∀ z ∈ (v.renew L r).ptrs, z ∈ v.ptrs) := by
 cases v with
 | con k ls =>
  refine ⟨fun z hz => ?_, fun z hz => hz⟩;simp only [AV.renew, AV.refs, Xj] at hz ⊢;obtain ⟨lf, hlf, hz⟩ := hz;obtain ⟨l, hl⟩ := Xw hlf;rw [Y24] at hl;obtain ⟨lf0, hl0, rfl⟩ := Xu.1 hl;cases hk : lookM L r (0 + l) with
  | none => grind
  | some n =>
   rw [hk] at hz;obtain ⟨lv, hm⟩ := hL _ _ _ hk;obtain ⟨t, x, m⟩ := n;subst hm;simp [Leaf.refs] at hz
 | _ => exact ⟨fun z hz => hz, fun z hz => hz⟩
theorem RP.syncsAt (hlen : env.length = tmps.size) (hrel : Rel c (SS env noP tmps vs w cs bs)) (hno : ∀ r, (∀ q ∈ (ovl env noP r).refs, q.1 < env.length) /\ (∀ q ∈ (ovl env noP r).ptrs, q < env.length)) {L : Places} (hL : ∀ q j n, lookM L q j = some n -> ∃ x lv, (get env q).leaf? j = some ⟨n.t, x, .at_ lv⟩ /\ n.m = .at_ lv /\ lv.deep = true) (hbel : Below c.base w w')
  (hheap : ∀ b, b < w.heap.size -> (∀ q j n, lookM L q j = some n -> b ∉ bs q (j + 1)) -> w'.heap[b]? = w.heap[b]?)
  (bd : Nat -> Nat -> List Nat)
  (hbd1 : ∀ q j n, lookM L q j = some n -> ∀ b ∈ bd q j, b < w'.heap.size /\ (w.heap.size <= b \/ ∃ q' j' n', lookM L q' j' = some n' /\ b ∈ bs q' (j' + 1)))
  (hbd2 : ∀ q j n, lookM L q j = some n -> (bd q j).Nodup)
  (hbd3 : ∀ q j n q' j' n' b, lookM L q j = some n -> lookM L q' j' = some n' -> b ∈ bd q j -> b ∈ bd q' j' -> q = q' /\ j = j')
  (hrep : ∀ q j n u, lookM L q j = some n -> (cs q)[j]? = some u -> Rep (fun _ => False) w' n.t .dp [u] n.x (bd q j)) :
  RP c (syncs L env) tmps w' noP vs := by
 let g : Chg := syncsG L
 let s : St := SS env noP tmps vs w cs bs
 let bs' : Nat -> Nat -> List Nat := fun p l => match l with
  | 0 => bs p 0
  | j + 1 => match lookM L p j with | some _ => bd p j | none => bs p (j + 1)
 let E : Nat -> AV := fun p => ((ovl env noP p).chg g).renew L p
 let s' : St := ⟨E, ovlT tmps vs, w', cs, bs'⟩
 let D : Nat -> Prop := fun p => ∃ j n, lookM L p j = some n
 have eb0 : ∀ p, s'.bs p 0 = bs p 0 := fun p => rfl;have ebS : ∀ {p j n}, lookM L p j = some n -> s'.bs p (j + 1) = bd p j := fun {p j n} h => by show (match lookM L p j with | some _ => bd p j | none => bs p (j + 1)) = _; rw [h]
 have ebN : ∀ {p j}, lookM L p j = none -> s'.bs p (j + 1) = bs p (j + 1) := fun {p j} h => by show (match lookM L p j with | some _ => bd p j | none => bs p (j + 1)) = _; rw [h]
 have part : ∀ p l b, b ∈ s'.bs p l -> (b ∈ bs p l /\ ∀ j, l = j + 1 -> lookM L p j = none) \/ ∃ j n, l = j + 1 /\ lookM L p j = some n /\ b ∈ bd p j := by
  intro p l b hb;cases l with
  | zero => exact .inl ⟨hb, fun j h => by omega⟩
  | succ j =>
   cases hk : lookM L p j with
   | none => rw [ebN hk] at hb; exact .inl ⟨hb, fun j' h => by rw [<- Nat.succ.inj h]; exact hk⟩
   | some n => rw [ebS hk] at hb; exact .inr ⟨j, n, rfl, hk, hb⟩
 have hsame : ∀ p, ¬ D p -> s'.env p = (s.env p).chg g /\ s'.tm p = s.tm p /\ s'.cs p = s.cs p /\ s'.bs p = s.bs p := fun p hp => by
  have hn : ∀ j, lookM L p j = none := fun j => by
   cases hk : lookM L p j with
   | none => rfl
   | some n => exact absurd ⟨j, n, hk⟩ hp
  refine ⟨Ybz hn _, rfl, rfl, ?_⟩;funext l;cases l with
  | zero => rfl
  | succ j => exact ebN (hn j)
 have hne : ∀ (p i b : Nat), lookM L p i = none -> b ∈ bs p (i + 1) -> w'.heap[b]? = w.heap[b]? := fun p i b hk hb =>
  hheap b (hrel.own _ _ _ hb).2 (fun q j n hq hb2 => by
   obtain ⟨rfl, h2⟩ := hrel.disj _ _ _ _ _ hb hb2;obtain rfl : i = j := by omega
   rw [hk] at hq; simp at hq)
 have hne0 : ∀ (p b : Nat), b ∈ bs p 0 -> w'.heap[b]? = w.heap[b]? := fun p b hb =>
  hheap b (hrel.own _ _ _ hb).2 (fun q j n hq hb2 => by have := (hrel.disj _ _ _ _ _ hb hb2).2; omega)
 -- a root that is changed
 have hcon : ∀ p j n, lookM L p j = some n -> ∃ k ls0, get env p = .con k ls0 /\ p < env.length := fun p j n hk => by
  obtain ⟨x, lv, h1, _, _⟩ := hL p j n hk;cases hv : get env p with
  | con k ls => exact ⟨k, ls, rfl, Yw hv⟩
  | _ => rw [hv] at h1; simp [AV.leaf?] at h1
 have eEcon : ∀ {p k ls0}, ovl env noP p = .con k ls0 -> s'.env p = .con k (renewLs L p 0 (chgs g ls0)) := fun {p k ls0} h => by
  show ((ovl env noP p).chg g).renew L p = _;rw [h]; rfl
 have hleafN : ∀ {p i lf}, lookM L p i = none -> (s.env p).leaf? i = some lf -> lf.m.own = true -> (s'.env p).leaf? i = some lf := fun {p i lf} hk h1 h2 => by
  have h1 : (ovl env noP p).leaf? i = some lf := h1;cases hv : ovl env noP p with
  | con k ls =>
   rw [hv] at h1;rw [eEcon hv];have h1 : leafAt ls i = some lf := h1;show leafAt _ i = _;rw [Y1, Y24, X13, hk, <- Y1, Yh, h1];simp [Y7i h2]
  | _ => rw [hv] at h1; simp [AV.leaf?] at h1
 have hstay : ∀ p i, lookM L p i = none -> SamePl s s' p i := fun p i hk =>
  ⟨fun lf u ⟨o1, o2, o3⟩ => ⟨hleafN hk o1 o2, o2, o3⟩, ebN hk, fun b hb => hne p i b hk hb⟩
 have hown : ∀ p i n u, lookM L p i = some n -> (cs p)[i]? = some u -> OwnPlace s' p i n u := fun p i n u hk hu => by
  obtain ⟨x, lv, h1, h2, h3⟩ := hL p i n hk;obtain ⟨k, ls0, hv, hp⟩ := hcon p i n hk;refine ⟨?_, by rw [h2]; exact Y9s h3, hu⟩;rw [eEcon (by rw [Y8 hp, hv])];rw [hv] at h1;have h1 : leafAt ls0 i = some _ := h1;show leafAt _ i = _;rw [Y1, Y24, X13, hk, <- Y1, Yh, h1];rfl
 have hptr : ∀ p, SamePtr s s' p := fun p => ⟨rfl, fun e ls he => ⟨e, _, eEcon he⟩⟩;have hgL : Keeps c s s' -> ChgLeaf c s s' g (fun _ _ => True) := by
  intro hk u' t' x' p i pa _ hbor;cases hpi : lookM L p i with
  | none =>
   have hf : g.f p i pa ⟨t', x', .bor p i pa⟩ = ⟨t', x', .bor p i pa⟩ := by simp [g, syncsG, hpi]
   rw [hf];exact ⟨rfl, hbor.keep hk (hstay p i hpi)⟩
  | some n =>
   cases pa with
   | nil =>
    have hf : g.f p i [] ⟨t', x', .bor p i []⟩ = ⟨n.t, n.x, .bor p i []⟩ := by simp [g, syncsG, hpi]
    rw [hf];refine ⟨rfl, ?_⟩;obtain ⟨_, ⟨lf', u2, ⟨o1, o2, o3⟩, h5⟩, _⟩ := hbor;obtain ⟨mm, _, rfl⟩ := h5 rfl;refine ⟨?_, ⟨n, u2, hown p i n u2 hpi o3, fun _ => ⟨_, rfl, rfl⟩⟩, fun _ _ hp => by simp at hp⟩;refine Rep.move (fun b hb _ => ⟨?_, rfl⟩) (by simp) (Rep.ro (hrep p i n u2 hpi o3));rcases hb with hb | hb
    ·exact absurd hb id
    ·exact .inr (by rw [ebS hpi]; exact hb)
   | cons z pa =>
    have hf : g.f p i (z :: pa) ⟨t', x', .bor p i (z :: pa)⟩ = Leaf.lost ⟨t', x', .bor p i (z :: pa)⟩ := by simp [g, syncsG, hpi]
    rw [hf];exact ⟨rfl, Rep.one hbor.1 u' (by simp)⟩
 have hgW : Keeps c s s' -> ChgWr c s s' g (fun _ _ => True) := by
  intro hk a p i pa ii oo _ hw;show if (lookM L p i).isSome = true then _ else _
  cases hpi : lookM L p i with
  | some n => simp only [Option.isSome_some, X1p]; exact .inl rfl
  | none =>
   simp only [Option.isSome_none, Xl, X18];have := Y15 (L := fun p i => lookM L p i = none) hk (fun p i hL => hstay p i hL) a p i pa ii oo hpi hw;simpa [noG] using this
 have hmain : Rel c s' := by
  refine Rel.step (s' := s') g hrel D (fun _ _ => True) (fun _ => True) hsame hbel
   (fun b hb hD => hheap b hb (fun q j n hq => hD q (j + 1) ⟨j, n, hq⟩)) (fun p l b hD hb => ?_) (fun p1 l1 p2 l2 b hD hD' hb1 hb2 => ?_) (fun p l hD => ?_) (fun p _ => ⟨fun _ _ => trivial, fun _ _ => trivial⟩) (fun hkp => ⟨hgL hkp, hgW hkp, fun p hL _ => hptr p⟩) (fun hkp p hD => ?_)
  ·rcases part p l b hb with ⟨h1, _⟩ | ⟨j, n, rfl, h1, h2⟩
   ·exact ⟨X1e (hrel.own _ _ _ h1).2 hbel.size, .inr ⟨p, l, hD, h1⟩⟩
   ·obtain ⟨k1, k2⟩ := hbd1 p j n h1 b h2;refine ⟨k1, ?_⟩;rcases k2 with k2 | ⟨q', j', n', k3, k4⟩
    ·exact .inl k2
    ·exact .inr ⟨q', j' + 1, ⟨j', n', k3⟩, k4⟩
  ·have key : ∀ p l j n q, b ∈ bs p l -> (∀ i, l = i + 1 -> lookM L p i = none) -> lookM L q j = some n -> b ∈ bd q j -> False := by
    intro p l j n q h1 h2 h3 h4;rcases (hbd1 q j n h3 b h4).2 with k2 | ⟨q', j', n', k3, k4⟩
    ·have : b < w.heap.size := (hrel.own _ _ _ h1).2;omega
    ·obtain ⟨rfl, h5⟩ := hrel.disj _ _ _ _ _ h1 k4;rw [h2 j' h5] at k3; simp at k3
   rcases part p1 l1 b hb1 with ⟨h1, h1'⟩ | ⟨j1, n1, rfl, h1, h1'⟩ <;> rcases part p2 l2 b hb2 with ⟨h2, h2'⟩ | ⟨j2, n2, rfl, h2, h2'⟩
   ·exact hrel.disj _ _ _ _ _ h1 h2
   ·exact (key _ _ _ _ _ h1 h1' h2 h2').elim
   ·exact (key _ _ _ _ _ h2 h2' h1 h1').elim
   ·obtain ⟨rfl, rfl⟩ := hbd3 _ _ _ _ _ _ _ h1 h2 h1' h2';exact ⟨rfl, rfl⟩
  ·cases l with
   | zero => exact hrel.nodup _ _
   | succ j =>
    cases hk : lookM L p j with
    | none => rw [ebN hk]; exact hrel.nodup _ _
    | some n => rw [ebS hk]; exact hbd2 p j n hk
  ·obtain ⟨j0, n0, hk0⟩ := hD;obtain ⟨k, ls0, hv, hp⟩ := hcon p j0 n0 hk0;have hv' : ovl env noP p = .con k ls0 := by rw [Y8 hp, hv]
   have hav := hrel.av p;rw [show (SS env noP tmps vs w cs bs).env p = .con k ls0 from hv'] at hav;obtain ⟨g1, g2, g3, g4⟩ := hav;rw [eEcon hv'];refine ⟨?_, by rw [Y35, Yr]; exact g2, fun l hl' => ?_, fun l lf u' hl' hu' => ?_⟩
   ·rw [eb0];cases k with
    | val => exact g1
    | agg => exact g1
    | tup sh => exact g1
    | tupB i n sh =>
     obtain ⟨B, vs0, c0, c1, k1, k2, k3, k4, k5, k6⟩ := g1;have k5 : bs p 0 = [B] := k5;exact ⟨B, vs0, c0, c1, k1, k2, k3, (hne0 p B (by rw [k5]; simp)).trans k4, k5, k6⟩
    | box e =>
     obtain ⟨B, k1, k2, k3, k9⟩ := g1;have k3 : bs p 0 = [B] := k3;exact ⟨B, k1, (hne0 p B (by rw [k3]; simp)).trans k2, k3, k9⟩
   ·rw [Y35, Yr] at hl';cases hk : lookM L p l with
    | none => rw [ebN hk]; exact g3 l hl'
    | some n =>
     exfalso;obtain ⟨x, lv, h1, _, _⟩ := hL p l n hk;rw [hv] at h1;have h1 : leafAt ls0 l = some _ := h1;rw [Y1] at h1;have := (X6.1 h1).1;omega
   ·have hu' : (cs p)[l]? = some u' := hu';rw [Y1, Y24, X13, <- Y1, Yh] at hl';obtain ⟨lfg, hlg, rfl⟩ := Xu.1 hl';obtain ⟨lf0, hlf0, rfl⟩ := Xu.1 hlg;cases hk : lookM L p l with
    | none =>
     exact (g4 l lf0 u' hlf0 hu').chg hkp (hgL hkp) (fun z hz => trivial) (ebN hk) (fun b hb => hne p l b hk hb)
    | some n =>
     obtain ⟨x, lv, h1, h2, h3⟩ := hL p l n hk;rw [hv] at h1;have h1 : leafAt ls0 l = some _ := h1;rw [hlf0] at h1;simp only [X0] at h1;subst h1;have hpin := (g4 l _ u' hlf0 hu').pin;have hr := hrep p l n u' hk hu';obtain ⟨t, y, m⟩ := n;simp only at h2 hr;subst h2;refine LeafRel.of_rep hpin ?_;rw [ebS hk];exact (Rep.deep h3).2 (Rep.dpS hr)
 have eE : s'.env = ovl (syncs L env) noP := by
  funext p;by_cases hp : p < env.length
  ·rw [Y8 (by rw [Y28]; exact hp), Yd0];show ((ovl env noP p).chg g).renew L p = _;rw [Y8 hp]
  ·rw [Yt (by rw [Y28]; omega)];show ((ovl env noP p).chg g).renew L p = _;rw [Yt (by omega)];rfl
 refine ⟨by rw [Y28]; exact hlen, cs, s'.bs, Rel.congr hmain eE rfl, fun p => ?_⟩;rw [<- eE, Y28];have h1 := Yc0 (L := L) (fun q j n hk => let ⟨_, lv, _, h, _⟩ := hL q j n hk; ⟨lv, h⟩) p ((ovl env noP p).chg g);have h2 := Yj (Yaw L) (ovl env noP p);exact ⟨fun z hz => (hno p).1 z (h2.1 z (h1.1 z hz)), fun z hz => (hno p).2 z (h2.2 z (h1.2 z hz))⟩
theorem Y55 : ∀ {t : Ty}, t.flatB = true -> ∀ t' ∈ flat t, t'.flatB = true
 | .int k, _, t', h => by simp [flat] at h; subst h; rfl
 | .bool, _, t', h => by simp [flat] at h; subst h; rfl
 | .str, _, t', h => by simp [flat] at h; subst h; rfl
 | .slice _ _, hf, _, _ => by simp [Ty.flatB] at hf
 | .unit, _, t', h => by simp [flat] at h
 | .pair a b, hf, t', h => by
  simp [Ty.flatB] at hf;simp [flat] at h;rcases h with h | h
  ·exact Y55 hf.1 t' h
  ·exact Y55 hf.2 t' h
theorem Y36 : ∀ {rs : List (Ty × Lvl)} {xs : List (Σ t : Ty, t.D)} {sh : List (Bool × Nat)} {ls : List Leaf}, allFlat rs = true -> resLeaves rs xs = some (sh, ls) -> ∀ lf ∈ ls, lf.t.flatB = true
 | [], [], sh, ls, _, h, lf, hl => by
  simp [resLeaves] at h;obtain ⟨rfl, rfl⟩ := h;simp at hl
 | [], _ :: _, sh, ls, _, h, lf, hl => by simp [resLeaves] at h
 | _ :: _, [], sh, ls, _, h, lf, hl => by simp [resLeaves] at h
 | (t, fr) :: rs, x :: xs, sh, ls, ha, h, lf, hl => by
  simp [allFlat] at ha;simp only [resLeaves] at h;split at h
  ·cases hr : resLeaves rs xs with
   | none => rw [hr] at h; simp at h
   | some q =>
    obtain ⟨sh', ls'⟩ := q;rw [hr] at h;simp at h;obtain ⟨rfl, rfl⟩ := h;rcases X5.1 hl with hl | hl
    ·obtain ⟨lf0, hl0, rfl⟩ := X19.1 hl;have : lf0.t ∈ flat t := by rw [<- Y11 t _ (newMode fr) 0]; exact X19.2 ⟨lf0, hl0, rfl⟩
     exact Y55 ha.1 _ this
    ·exact Y36 ha.2 hr lf hl
  ·simp at h
theorem Yc1 (hf : allFlat rs = true) (ha : resAV rs xs = some (.con k ls)) : ∀ lf ∈ ls, lf.t.flatB = true := by
 unfold resAV at ha;cases hr : resLeaves rs xs with
 | none => grind
 | some q =>
  obtain ⟨sh, ls'⟩ := q;rw [hr] at ha;simp [mkCon] at ha;split at ha
  ·simp at ha;rw [<- ha.2]; exact Y36 hf hr
  ·simp at ha;rw [<- ha.2]; exact Y36 hf hr
theorem Y5o {lv m : Lvl} : ∀ (t : Ty) (x : t.D) (n : Nat), ∀ lf ∈ leaves t x (fun _ => .at_ lv) n, lf.t.flatB = false -> lf.m = .at_ m -> m = lv
 | .int k, x, n, lf, h, hf, hm => by simp [leaves] at h; rw [h] at hf; simp [Ty.flatB] at hf
 | .bool, x, n, lf, h, hf, hm => by simp [leaves] at h; rw [h] at hf; simp [Ty.flatB] at hf
 | .str, x, n, lf, h, hf, hm => by simp [leaves] at h; rw [h] at hf; simp [Ty.flatB] at hf
 | .slice e t, x, n, lf, h, hf, hm => by simp [leaves] at h; rw [h] at hm; simpa using hm.symm
 | .unit, x, n, lf, h, hf, hm => by simp [leaves] at h
 | .pair a b, x, n, lf, h, hf, hm => by
  simp [leaves] at h;rcases h with h | h
  ·exact Y5o a _ _ _ h hf hm
  ·exact Y5o b _ _ _ h hf hm
structure MutSet (env : Env) (ls ns : List Leaf) (L : Places) : Prop where
 len : ls.length = ns.length
 here : ∀ (i : Nat) (l n : Leaf), ls[i]? = some l -> ns[i]? = some n -> (l.t.flatB = true /\ l.m.live = true) \/ (l.t.flatB = false /\ ∃ (r j : Nat) (t0 : Ty) (x0 : t0.D) (lv : Lvl), l.m = .bor r j [] /\ (get env r).leaf? j = some ⟨t0, x0, .at_ lv⟩ /\ lv.deep = true /\ lookM L r j = some ⟨n.t, n.x, .at_ lv⟩)
 back : ∀ (r j : Nat) (m : Leaf), lookM L r j = some m -> ∃ (i : Nat) (l n : Leaf) (lv : Lvl) (t0 : Ty) (x0 : t0.D), ls[i]? = some l /\ ns[i]? = some n /\ l.t.flatB = false /\ l.m = .bor r j [] /\ m = ⟨n.t, n.x, .at_ lv⟩ /\ lv.deep = true /\ (get env r).leaf? j = some ⟨t0, x0, .at_ lv⟩
 uniq : ∀ (i i' : Nat) (l l' : Leaf) (r j : Nat), ls[i]? = some l -> ls[i']? = some l' -> l.t.flatB = false -> l'.t.flatB = false -> l.m = .bor r j [] -> l'.m = .bor r j [] -> i = i'
theorem Y6l : ∀ {ls ns : List Leaf} {L : Places}, mutSet env ls ns = some L -> MutSet env ls ns L
 | [], [], L, h => by
  simp [mutSet] at h;subst h;exact ⟨rfl, by simp, fun r j m h => by simp [lookM] at h, by simp⟩
 | [], _ :: _, L, h => by simp [mutSet] at h
 | _ :: _, [], L, h => by simp [mutSet] at h
 | l :: ls, n :: ns, L, h => by
  simp [mutSet] at h;split at h
  ·simp at h
  ·rename_i L0 h0;obtain ⟨k1, k2, k3, k4⟩ := Y6l h0;split at h
   ·rename_i hf;split at h
    ·rename_i hlv;simp at h;subst h;refine ⟨by simp [k1], fun i l' n' hl hn => ?_, fun r j m hm => ?_, fun i i' l1 l2 r j h1 h2 f1 f2 m1 m2 => ?_⟩
     ·cases i with
      | zero => grind
      | succ i => exact k2 i l' n' hl hn
     ·obtain ⟨i, h⟩ := k3 r j m hm;exact ⟨i + 1, h⟩
     ·grind
    ·simp at h
   ·rename_i hf;have hf : l.t.flatB = false := by simpa using hf
    split at h
    ·rename_i r0 j0 hm0;split at h
     ·rename_i t0 x0 lv hpl;split at h
      ·rename_i hc;obtain ⟨hd, hnone⟩ := hc;have hnone : lookM L0 r0 j0 = none := by grind
       simp at h;subst h;have look : ∀ r j, ¬ (r = r0 /\ j = j0) -> lookM ((r0, j0, (⟨n.t, n.x, .at_ lv⟩ : Leaf)) :: L0) r j = lookM L0 r j := fun r j h => by simp only [lookM]; rw [X2 h]
       have look0 : lookM ((r0, j0, (⟨n.t, n.x, .at_ lv⟩ : Leaf)) :: L0) r0 j0 = some ⟨n.t, n.x, .at_ lv⟩ := by simp [lookM]
       have tail : ∀ (i : Nat) (l' : Leaf), ls[i]? = some l' -> l'.t.flatB = false -> l'.m ≠ .bor r0 j0 [] := fun i l' h1 f1 m1 => by grind
       refine ⟨by simp [k1], fun i l' n' hl hn => ?_, fun r j m hm => ?_, fun i i' l1 l2 r j h1 h2 f1 f2 m1 m2 => ?_⟩
       ·grind
       ·by_cases hrj : r = r0 /\ j = j0
        ·obtain ⟨rfl, rfl⟩ := hrj;rw [look0] at hm;simp at hm;subst hm;exact ⟨0, l, n, lv, t0, x0, rfl, rfl, hf, hm0, rfl, hd, hpl⟩
        ·rw [look r j hrj] at hm;obtain ⟨i, h⟩ := k3 r j m hm;exact ⟨i + 1, h⟩
       ·grind
      ·simp at h
     ·simp at h
    ·simp at h
def MutOk (c : Cx) (env : Env) (tmps : Array Value) (w : World) (vs : Nat -> Value) (bs : Nat -> Nat -> List Nat) (t : Ty) (cells : List Value) (ls : List Leaf) (x y : t.D) (L : Places) : Prop :=
 ∃ b0 : List Nat, Rep (fun _ => False) w t .dp cells x b0 /\ b0.Nodup /\ (∀ b ∈ b0, ∃ q ∈ ls.flatMap Leaf.refs, b ∈ bs q.1 (q.2 + 1)) /\
  ∀ (w' : World) (b1 : List Nat), Below c.base w w' -> (∀ b, b < w.heap.size -> b ∉ b0 -> w'.heap[b]? = w.heap[b]?) -> Rep (fun _ => False) w' t .dp cells y b1 -> b1.Nodup -> (∀ b ∈ b1, b ∈ b0 \/ w.heap.size <= b) -> RP c (syncs L env) tmps w' noP vs
section
variable {c : Cx} {env : Env} {tmps : Array Value} {w : World} {vs : Nat -> Value} {cs : Nat -> List Value} {bs : Nat -> Nat -> List Nat}
theorem Y87 {bds : List (List Nat)} {l b : Nat} (h : b ∈ bds.getD l []) : l < bds.length := by grind
theorem Yer (hlen : env.length = tmps.size) (hrel : Rel c (SS env noP tmps vs w cs bs)) (hno : ∀ r, (∀ q ∈ (ovl env noP r).refs, q.1 < env.length) /\ (∀ q ∈ (ovl env noP r).ptrs, q < env.length)) {x y : t.D} {L : Places}
  (hv : ValC c (SS env noP tmps vs w cs bs) (.con k ls) v cells) (hty : typedAs ls t = true) (hx : asm t ls = some (x, [])) (hM : mutSet env ls (leaves t y (fun _ => .at_ .dp) 0) = some L) : MutOk c env tmps w vs bs t cells ls x y L := by
 obtain ⟨k1, k2, k3, k4⟩ := Y6l hM;obtain ⟨g1, g2, g3⟩ := hv;have hty' : ls.map Leaf.t = flat t := by simpa [typedAs] using hty
 -- a row's place
 have place : ∀ (i : Nat) (l : Leaf) (u : Value) (r j : Nat) (t0 : Ty) (x0 : t0.D) (lv : Lvl), ls[i]? = some l -> cells[i]? = some u -> l.m = .bor r j [] -> (get env r).leaf? j = some ⟨t0, x0, .at_ lv⟩ -> lv.deep = true -> (cs r)[j]? = some u /\ t0 = l.t /\ Rep (fun _ => False) w l.t .dp [u] l.x (bs r (j + 1)) := by
  intro i l u r j t0 x0 lv hl hu hm hp hd;have h6 := g3 i l u (by rw [Y1]; exact hl) hu;obtain ⟨lt, lx, lm⟩ := l;simp only at hm;subst hm;obtain ⟨_, ⟨lf', u', ⟨o1, o2, o3⟩, h5⟩, _⟩ := h6;obtain ⟨mm, rfl, rfl⟩ := h5 rfl;have hrl : r < env.length := Y1p hp;have o1 : (ovl env noP r).leaf? j = some _ := o1;rw [Y8 hrl, hp] at o1;simp at o1;obtain ⟨rfl, hx0, rfl⟩ := o1;have hx0 : x0 = lx := X33 hx0;subst hx0;refine ⟨o3, rfl, ?_⟩;have hav := hrel.av r;rw [show (SS env noP tmps vs w cs bs).env r = get env r from Y8 hrl] at hav;cases hv : get env r with
  | con kk ls0 =>
   rw [hv] at hav hp;exact Rep.dpS ((Rep.deep hd).1 (hav.2.2.2 j _ _ hp o3).rep)
  | _ => rw [hv] at hp; simp [AV.leaf?] at hp
 let F : Nat -> List Nat := fun i => match ls[i]? with
  | some l => if l.t.flatB then [] else (match l.m with | .bor r j _ => bs r (j + 1) | _ => [])
  | none => []
 have hFi : ∀ {i : Nat} {l : Leaf}, ls[i]? = some l -> F i = if l.t.flatB then [] else (match l.m with | .bor r j _ => bs r (j + 1) | _ => []) := fun {i l} h => by grind
 have hns : (leaves t y (fun _ => .at_ .dp) 0).length = ls.length := k1.symm;have hF : ∀ (i b : Nat), b ∈ F i -> ∃ (l : Leaf) (r j : Nat), ls[i]? = some l /\ l.t.flatB = false /\ l.m = .bor r j [] /\ b ∈ bs r (j + 1) := by grind
 have hFb : ∀ {i : Nat} {l : Leaf} {r j : Nat}, ls[i]? = some l -> l.t.flatB = false -> l.m = .bor r j [] -> F i = bs r (j + 1) := fun {i l r j} h1 h2 h3 => by grind
 obtain ⟨c0, c1, e0, _, e2, e3, _⟩ := Y32 (S := fun _ => False) (w := w) (L := .dp) (F := F) t (k := 0) hx g2 (fun l lf u hl hu => by
  rw [X13];have hlt : l < (leaves t y (fun _ => .at_ .dp) 0).length := by grind
  rcases k2 l lf _ hl (X1 hlt) with ⟨h1, h2⟩ | ⟨h1, r, j, t0, x0, lv, m1, m2, m3, _⟩
  ·have h6 := (g3 l lf u (by rw [Y1]; exact hl) hu).rep (S := fun _ => True) h2 (fun _ _ => trivial) (fun _ _ _ _ => trivial);rw [hFi hl, h1];exact (Rep.flat h1 h6).2
  ·grind)
 have hc1 : c1 = [] := Xn.1 (by rw [<- e2]; rfl);subst hc1;rw [Xf] at e0;subst e0;have hFnd : ∀ i, (F i).Nodup := fun i => by
  cases hl : ls[i]? with
  | none => grind
  | some l =>
   rw [hFi hl];split
   ·exact X16
   ·split
    ·exact hrel.nodup _ _
    ·exact X16
 have hFd : ∀ i i' b, b ∈ F i -> b ∈ F i' -> i = i' := fun i i' b h1 h2 => by
  obtain ⟨l, r, j, a1, a2, a3, a4⟩ := hF i b h1;obtain ⟨l', r', j', b1, b2, b3, b4⟩ := hF i' b h2;obtain ⟨rfl, hj⟩ := hrel.disj _ _ _ _ _ a4 b4;obtain rfl : j = j' := by omega
  exact k4 i i' l l' r j a1 b1 a2 b2 a3 b3
 refine ⟨(List.range' 0 t.sz).flatMap F, e3, Y2d hFnd hFd _ _, fun b hb => ?_, fun w' b1 hbel hsame hrep' hnd1 hnew => ?_⟩
 ·simp at hb;obtain ⟨i, _, hb⟩ := hb;obtain ⟨l, r, j, a1, a2, a3, a4⟩ := hF i b hb;exact ⟨(r, j), Xj.2 ⟨l, X8 a1, by simp [Leaf.refs, a3]⟩, a4⟩
 ·obtain ⟨n1, n2, bds, n3, n4, n5⟩ := Y3i .dp t 0 hrep';rw [n4] at hnd1 hnew;obtain ⟨d1, d2⟩ := Y14 hnd1;have hb0 : ∀ b, b ∈ (List.range' 0 t.sz).flatMap F -> ∃ q' j' n', lookM L q' j' = some n' /\ b ∈ bs q' (j' + 1) := fun b hb => by grind
  have hb0' : ∀ q j n, lookM L q j = some n -> ∀ b ∈ bs q (j + 1), b ∈ (List.range' 0 t.sz).flatMap F := fun q j n hk b hb => by grind
  -- which leaf
  have idx : ∀ q j n, lookM L q j = some n -> ∃ (i : Nat), (∃ (l nn : Leaf), ls[i]? = some l /\ (leaves t y (fun _ => .at_ .dp) 0)[i]? = some nn /\ l.t.flatB = false /\ l.m = .bor q j [] /\ nn.t = n.t /\ HEq nn.x n.x) := fun q j n hk => by grind
  classical
  let bd : Nat -> Nat -> List Nat := fun q j => if h : ∃ (i : Nat) (l : Leaf), ls[i]? = some l /\ l.t.flatB = false /\ l.m = .bor q j [] then bds.getD (Classical.choose h) [] else []
  have hbd : ∀ {q j i : Nat} {l : Leaf}, ls[i]? = some l -> l.t.flatB = false -> l.m = .bor q j [] -> bd q j = bds.getD i [] := fun {q j i l} h1 h2 h3 => by
   have hex : ∃ (i : Nat) (l : Leaf), ls[i]? = some l /\ l.t.flatB = false /\ l.m = .bor q j [] := ⟨i, l, h1, h2, h3⟩;show (if h : _ then _ else _) = _;rw [dif_pos hex];obtain ⟨l', e1, e2, e3⟩ := Classical.choose_spec hex;rw [k4 _ _ _ _ _ _ e1 h1 e2 h2 e3 h3]
  have hLok : ∀ q j n, lookM L q j = some n -> ∃ x lv, (get env q).leaf? j = some ⟨n.t, x, .at_ lv⟩ /\ n.m = .at_ lv /\ lv.deep = true := fun q j n hk => by
   obtain ⟨i, l, nn, lv, t0, x0, a1, a2, a3, a4, a5, a6, a7⟩ := k3 q j n hk;have hcl : i < cells.length := by rw [<- g2]; exact (X6.1 a1).1
   obtain ⟨_, p2, _⟩ := place i l _ q j t0 x0 lv a1 (X1 hcl) a4 a7 a6;have htt : nn.t = l.t := by
    have h1 : ((leaves t y (fun _ => .at_ .dp) 0).map Leaf.t)[i]? = some nn.t := by rw [X14, a2]; rfl
    have h2 : (ls.map Leaf.t)[i]? = some l.t := by rw [X14, a1]; rfl
    rw [Y11, <- hty', h2] at h1;exact (Xs h1).symm
   subst a5;have e : nn.t = t0 := by rw [htt, p2]
   exact ⟨e ▸ x0, lv, by rw [a7]; cases e; rfl, rfl, a6⟩
  refine RP.syncsAt hlen hrel hno hLok hbel (fun b hb hD => hsame b hb (fun hb2 => ?_)) bd (fun q j n hk b hb => ?_) (fun q j n hk => ?_) (fun q j n q' j' n' b hk hk' hb hb' => ?_) (fun q j n u hk hu => ?_)
  ·grind
  ·obtain ⟨i, l, nn, a1, a2, a3, a4, _⟩ := idx q j n hk;rw [hbd a1 a3 a4] at hb;have hi := Y87 hb;obtain ⟨m, _, hr⟩ := n5 i nn (cells[i]'(by omega)) a2 (X1 (by omega));refine ⟨Rep.lt hr b hb, ?_⟩;rcases hnew b (Yi hb) with h | h
   ·exact .inr (hb0 b h)
   ·exact .inl h
  ·grind
  ·obtain ⟨i, l, nn, a1, a2, a3, a4, _⟩ := idx q j n hk;obtain ⟨i', l', nn', b1, b2, b3, b4, _⟩ := idx q' j' n' hk';rw [hbd a1 a3 a4] at hb;rw [hbd b1 b3 b4] at hb';have := d2 i i' b hb hb';subst this;rw [a1] at b1;simp at b1;subst b1;rw [a4] at b4;simp at b4;exact b4
  ·obtain ⟨i, l, nn, lv, t0, x0, a1, a2, a3, a4, a5, a6, a7⟩ := k3 q j n hk;have hcl : i < cells.length := by rw [<- g2]; exact (X6.1 a1).1
   obtain ⟨p1, p2, _⟩ := place i l _ q j t0 x0 lv a1 (X1 hcl) a4 a7 a6;rw [hu] at p1;obtain rfl := Xs p1;obtain ⟨m, hm, hr⟩ := n5 i nn _ a2 (X1 hcl);rw [hbd a1 a3 a4];subst a5;have hmode := Y21 t y 0 nn (X8 a2);have hnf : nn.t.flatB = false := by
    have h1 : ((leaves t y (fun _ => .at_ .dp) 0).map Leaf.t)[i]? = some nn.t := by rw [X14, a2]; rfl
    have h2 : (ls.map Leaf.t)[i]? = some l.t := by rw [X14, a1]; rfl
    rw [Y11, <- hty', h2] at h1;rw [<- Xs h1]; exact a3
   have hmd : m = .dp := Y5o t y 0 nn (X8 a2) hnf hm;subst hmd;exact hr
end
section
variable {c : Cx} {env : Env} {tmps : Array Value} {w : World} {vs : Nat -> Value} {cs : Nat -> List Value} {bs : Nat -> Nat -> List Nat}
end
theorem Yd1 {ys : List t.D} {bl : List Nat} {A : Addr} {n cp : Nat} (h : Rep (fun _ => False) w (.slice e t) .dp [.slice (some A) n cp] ys bl) {i oo : Nat} (hin : i < n) {y : t.D} (hus : ls.length = us.length) (hne : ls ≠ [])
  (hru : ∀ (l : Nat) (lf : Leaf) (u : Value), ls[l]? = some lf -> us[l]? = some u -> Rep (fun _ => False) w lf.t .dp [u] lf.x []) (hu : updLeavesD t (ys.getD i t.dflt) oo ls = some y) (hnd : bl.Nodup) :
  ∃ G cur, A = ⟨G, 0, none⟩ /\ G ∈ bl /\ w.heap[G]? = some (.cells cur e (0, 0)) /\ i * t.sz + oo + us.length <= cur.size /\ ∃ bl', (∀ b ∈ bl', b ∈ bl) /\ bl'.Nodup /\
   ∀ w' : World, w'.heap[G]? = some (.cells (cur.toList.take (i * t.sz + oo) ++ us ++ cur.toList.drop (i * t.sz + oo + us.length)).toArray e (0, 0)) -> (∀ b ∈ bl, b ≠ G -> w'.heap[b]? = w.heap[b]?) ->
    Rep (fun _ => False) w' (.slice e t) .dp [.slice (some A) n cp] (ys.set i y) bl' := by
 obtain ⟨v0, cells, b0, b1, e1, e2, hel, hb0, hown1, hown⟩ := h;obtain rfl : v0 = .slice (some A) n cp := by simpa using e1.symm
 rcases hown with ⟨h', _⟩ | ⟨G, cap', cur, h', _, hgB, hnc, hcm, hcs, htk⟩
 ·simp at h'
 simp only [Value.slice.injEq, X0] at h';obtain ⟨rfl, rfl, rfl⟩ := h';have hb0 : b0 = [G] := by rw [hb0]; rfl
 subst hb0;have hget : ys.getD i t.dflt = ys[i] := by simp [hin]
 rw [hget] at hu;obtain ⟨pre, ch, post, x0, x1, x2, f1, f2, f3, f4, f5, f6⟩ := hel.at_ i hin;have f5 : Rep _ w t .dp ch _ x1 := f5;obtain ⟨k0, b', k4, k5, k6⟩ := Y2h t ls us (fun _ => []) hus hru f5 hu;have k0 := k0 hne;have hel' := f6 (setCs ch oo us) y _ (by rw [Y44]; exact f3) k4;have hcl : cells.length = ys.length * t.sz := hel.len;have hlen2 : cells.length <= cur.size := by
  have : cells.length <= cur.toList.length := by rw [<- htk, Xm]; exact Nat.min_le_right _ _
  simpa using this
 have hoff : i * t.sz + oo + us.length <= cells.length := by
  rw [f1]; simp only [Xk]; omega
 have hcells : pre ++ setCs ch oo us ++ post = cells.take (i * t.sz + oo) ++ us ++ cells.drop (i * t.sz + oo + us.length) := by
  rw [Y6z _ _ _ (by omega), f1, Ybf _ _ _ _ _ (by omega), f2]
 rw [hcells] at hel';subst f4;subst e2;have hndn : ([G] ++ (x0 ++ b' ++ x2)).Nodup := by
  have := k6 ([G] ++ x0) x2 (by simpa only [X7] using hnd) (fun l _ => X16) (fun l l' z _ _ h1 _ => by simp at h1) (fun l z _ hz => by simp at hz);simpa only [X7] using this
 have hsub : ∀ b ∈ x0 ++ b' ++ x2, b ∈ x0 ++ x1 ++ x2 := fun b hb => by
  simp only [X5] at hb ⊢;rcases hb with (hb | hb) | hb
  ·simp [hb]
  ·rcases k5 b hb with hb | ⟨l, _, hb⟩
   ·simp [hb]
   ·simp at hb
  ·simp [hb]
 refine ⟨G, cur, rfl, by simp, hgB, by omega, [G] ++ (x0 ++ b' ++ x2), fun b hb => ?_, hndn, fun w' hsame hother => ?_⟩
 ·rcases X5.1 hb with hb | hb
  ·exact Xc _ hb
  ·exact Xe _ (hsub b hb)
 ·refine ⟨.slice (some ⟨G, 0, none⟩) ys.length cp, cells.take (i * t.sz + oo) ++ us ++ cells.drop (i * t.sz + oo + us.length), [G], _, rfl, rfl, ?_, rfl, ?_⟩
  ·refine El.imp (fun c' x' b2 hb' h' => ?_) hel';refine Rep.move (S := fun _ => False) (fun _ hf => absurd hf id) (fun b hb => hother b (Xe _ (hsub b (hb' b hb))) (fun e => ?_)) h';subst e;exact (X15.1 hndn).2.2 b (by simp) b (hb' b hb) rfl
  ·rw [Xz];have hcurl : i * t.sz + oo + us.length <= cur.toList.length := by
    have : cur.toList.length = cur.size := X17;omega
   refine ⟨?_, .inr ⟨G, cp, _, rfl, X2w _, hsame, hnc, hcm, ?_, ?_⟩⟩
   ·simp only [Xk, Xm, X12]; omega
   ·rw [<- hcs];have hcz : cur.toList.length = cur.size := X17;simp only [List.size_toArray, Xk, Xm, X12];omega
   ·rw [<- htk];exact Y9t _ _ _ _ (by rw [hcl] at hoff; exact hoff) (by rw [<- hcl, <- htk, Xm]; exact Nat.min_le_right _ _)
theorem Y7j (hrel : Rel c (SS env ps tmps vs w cs bs)) {r j : Nat} {te : Ty} {xs : List te.D} (hlv : lv.deep = true) (hq : (get env r).leaf? j = some ⟨.slice e te, xs, .at_ lv⟩) {B n0 cp0 : Nat} {uu : Value} (huu : (cs r)[j]? = some uu) (hB : uu = .slice (some ⟨B, 0, none⟩) n0 cp0) {i0 o0 : Nat} (hi0 : i0 < xs.length) {A : Addr} {n' cp' : Nat} (hcell : w.cell? ⟨B, i0 * te.sz + o0, none⟩ = some (.slice (some A) n' cp')) {i oo : Nat} (hi : i < n') {e' : TypeId} {t' : Ty} {ys : List t'.D} (hleaf : leafD te (xs.getD i0 te.dflt) o0 = some ⟨.slice e' t', ys⟩) {y : t'.D} {x' : te.D} (hus : ls.length = us.length) (hne : ls ≠ []) (hru : ∀ (l : Nat) (lf : Leaf) (u : Value), ls[l]? = some lf -> us[l]? = some u -> Rep (fun _ => False) w lf.t .dp [u] lf.x [])
  (hu : updLeavesD t' (ys.getD i t'.dflt) oo ls = some y) (hx : updLeafD te (xs.getD i0 te.dflt) o0 ⟨.slice e' t', ys.set i y, .at_ .dp⟩ = some x') :
  ∃ G cur, A = ⟨G, 0, none⟩ /\ G ∈ bs r (j + 1) /\ w.heap[G]? = some (.cells cur e' (0, 0)) /\ i * t'.sz + oo + us.length <= cur.size /\ ∃ bd, (∀ b ∈ bd, b ∈ bs r (j + 1)) /\ bd.Nodup /\
   ∀ w' : World, w'.heap[G]? = some (.cells (cur.toList.take (i * t'.sz + oo) ++ us ++ cur.toList.drop (i * t'.sz + oo + us.length)).toArray e' (0, 0)) -> (∀ b ∈ bs r (j + 1), b ≠ G -> w'.heap[b]? = w.heap[b]?) ->
    Rep (fun _ => False) w' (.slice e te) .dp [uu] (xs.set i0 x') bd := by
 subst hB;obtain ⟨B2, cp2, cells, b1, n1, n2, n3, n4⟩ := Ybx hrel hlv hq (by omega);rw [huu] at n1;simp only [X0, Value.slice.injEq, X34, and_true] at n1;obtain ⟨rfl, rfl, rfl⟩ := n1;have hgetD : xs.getD i0 te.dflt = xs[i0] := by simp [hi0]
 rw [hgetD] at hx hleaf;obtain ⟨pre, ch, post, z0, z1, z2, f1, f2, f3, f4, f5, f6⟩ := El.at2 i0 hi0 n3;have f5 : Rep (fun _ => False) w te .dp ch xs[i0] z1 := f5;obtain ⟨u1, bA, bl, bB, h1, h2, h3, h4⟩ := Rep.leafAt te f5 hleaf;have hoo : o0 < te.sz := by
  have := (X6.1 h1).1;omega
 have hcell2 : w.cell? ⟨B, i0 * te.sz + o0, none⟩ = some u1 := by
  refine Ydy n4 ?_;rw [f1, X7, Xd (by omega), Xp (by omega), f2, show i0 * te.sz + o0 - i0 * te.sz = o0 by omega];exact h1
 rw [hcell] at hcell2;obtain rfl := Xs hcell2;have hnd : (B :: b1).Nodup := by rw [<- n2]; exact hrel.nodup r (j + 1)
 rw [f4, h2] at hnd;have hblnd : bl.Nodup := hnd.sublist (by
  refine List.Sublist.trans ?_ (List.sublist_cons_self _ _);refine List.Sublist.trans ?_ (List.sublist_append_left _ _);refine List.Sublist.trans ?_ (List.sublist_append_right _ _);refine List.Sublist.trans ?_ (List.sublist_append_left _ _);exact List.sublist_append_right _ _)
 obtain ⟨G, cur, k1, k2, k3, k4, bl', k5, k6, k7⟩ := Yd1 h3 hi hus hne hru hu hblnd;have hblB : ∀ b ∈ bl, b ∈ bs r (j + 1) := fun b hb => by
  rw [n2, f4, h2];simp only [Xq, X5];simp [hb]
 have hdis : ∀ b, b ∈ z0 ++ z2 \/ b ∈ bA ++ bB \/ b = B -> b ∉ bl := by
  intro b hb hbl;have hc : List.count b (B :: (z0 ++ (bA ++ bl ++ bB) ++ z2)) <= 1 := List.nodup_iff_count.1 hnd b;have h0 : 0 < List.count b bl := List.count_pos_iff.2 hbl;simp only [List.count_cons, List.count_append] at hc;rcases hb with hb | hb | rfl
  ·rcases X5.1 hb with h | h <;> · have := List.count_pos_iff.2 h; omega
  ·rcases X5.1 hb with h | h <;> · have := List.count_pos_iff.2 h; omega
  ·simp at hc; omega
 refine ⟨G, cur, k1, hblB G k2, k3, k4, B :: (z0 ++ (bA ++ bl' ++ bB) ++ z2), fun b hb => ?_, ?_, fun w' hsame hother => ?_⟩
 ·rw [n2, f4, h2];simp only [Xq, X5] at hb ⊢;rcases hb with h | (h | (h | h) | h) | h
  ·simp [h]
  ·simp [h]
  ·simp [h]
  ·simp [k5 b h]
  ·simp [h]
  ·simp [h]
 ·have h0 : (B :: (z0 ++ (bA ++ bB) ++ z2)).Nodup := hnd.sublist (by
   refine List.Sublist.cons_cons _ (X2k (X2k (X2s _) ?_) (X2s _));rw [X7];exact X2k (X2s _) (List.sublist_append_right _ _))
  have hperm : List.Perm (B :: (z0 ++ (bA ++ bl' ++ bB) ++ z2)) (bl' ++ (B :: (z0 ++ (bA ++ bB) ++ z2))) := by
   rw [List.perm_iff_count];intro a;simp only [List.count_cons, List.count_append];omega
  refine hperm.nodup_iff.2 (X15.2 ⟨k6, h0, fun a ha b hb e => ?_⟩);subst e;refine hdis a ?_ (k5 a ha);simp only [Xq, X5] at hb ⊢;rcases hb with h | (h | h | h) | h <;> simp [h]
 ·have old : ∀ b, b ∈ z0 ++ z2 \/ b ∈ bA ++ bB \/ b = B -> w'.heap[b]? = w.heap[b]? := fun b hb => hother b (by
   rw [n2, f4, h2];simp only [Xq, X5] at hb ⊢;rcases hb with (h | h) | (h | h) | h <;> simp [h]) (fun e => hdis b hb (e ▸ k2))
  have hrn := k7 w' hsame (fun b hb hb1 => hother b (hblB b hb) hb1);obtain ⟨y2, q1, hup⟩ := h4 (fun _ => False) w' _ ⟨.slice e' t', ys.set i y, .at_ .dp⟩ bl' rfl hrn (fun _ h => h.elim) (fun b hb => old b (.inr (.inl hb)));rw [hx] at q1;obtain rfl := Xs q1;have hch : ch.set o0 (.slice (some A) n' cp') = ch := by
   apply X24;intro k;rw [List.getElem?_set];split
   ·rename_i hk;subst hk;split
    ·exact h1.symm
    ·omega
   ·rfl
  rw [hch] at hup;have hel' := f6 (Rep (fun _ => False) w' te .dp) (fun c' x' b' hb' h' => Rep.move (fun _ h => h.elim) (fun b hb => old b (.inl (hb' b hb))) h') ch x' (bA ++ bl' ++ bB) f3 hup;rw [<- f1] at hel';refine ⟨_, cells, [B], z0 ++ (bA ++ bl' ++ bB) ++ z2, rfl, rfl, hel', rfl, ?_⟩;rw [Xz];exact Y3h n4 (fun k hk => by
   have : B = k := by simpa [Value.ownBlock] using hk
   subst this;exact old B (.inr (.inr rfl)))
section
variable {P : Program} {o : Oper} {a : Act} {w : World} {R : Type} {K : Env -> Option R} {r : R} {next : Act -> World -> Prop} {Q : Exit -> Act -> World -> Prop} {c : Cx} {d : Nat} {T : Tab} {env : Env}
theorem Y90 (hT : TabOk P T) {t : TypeId} {x v : Operand} {env1 : Env} {q j o0 z oo : Nat} {i0 i1 i : Int} {le : List Leaf} (hop : o.op = .store t x v) (hdst : o.dst = none) (hr : RE c env a.tmps w) (ht : T.ty t = some τ) (hta : takeAs τ env v = some (env1, ls))
  (hx : rd none env1 x = .eptr le (some (q, j, [(i0, o0), (i1, z)], i, oo))) (hK : storeNest q j i0 o0 i1 z i oo ls env1 K = some r) (hn : Next c a K r env.length next) : o.wp P a w next Q := by
 unfold storeNest at hK;split at hK
 case h_2 => simp at hK
 rename_i e te xs lv hl;split at hK
 case isFalse => simp at hK
 rename_i hc;obtain ⟨hlv, hlm⟩ := hc;split at hK
 case h_2 => simp at hK
 rename_i e' t' ys hleaf;split at hK
 case isFalse => simp at hK
 rename_i hz;obtain ⟨rfl, rfl⟩ := hz;split at hK
 case h_2 => simp at hK
 rename_i y hu;split at hK
 case h_2 => simp at hK
 rename_i x' hux;simp only [X9, X1h, List.isEmpty_eq_false_iff] at hlm;obtain ⟨hne, hlm⟩ := hlm;obtain ⟨hti, hty⟩ := Y23 hta;have hll := Y1b hty;obtain ⟨vs, h⟩ := hr;obtain ⟨hlen1, h1⟩ := Y17 h (fun r => .inl rfl) hti (Xi _) rfl;have hset := Yx hti;have hs1 : ∀ r, Settled (upd noP env.length (.con τ.kind ls) r) := Settled.upd (fun r => .inl rfl) _ (.inr ⟨_, _, rfl, hset⟩)
 let ps := upd noP env.length (.con τ.kind ls)
 let vs1 := upd vs env.length (evT a.tmps v)
 have hql : q < env1.length := Y1p hl;have hqm : q ≠ env.length := by omega
 have near : ∀ cs bs, Rel c (SS env1 ps a.tmps vs1 w cs bs) -> ∃ B n cp A n' cp', (cs q)[j]? = some (.slice (some ⟨B, 0, none⟩) n cp) /\ i0.toNat < xs.length /\ w.cell? ⟨B, i0.toNat * te.sz + o0, none⟩ = some (.slice (some A) n' cp') /\ i.toNat < n' /\ evT a.tmps x = .pointer (some (A.add (i.toNat * t'.sz + oo))) := by
  intro cs bs hrel;obtain ⟨cells, hv⟩ := Yl h1.len hrel none x;rw [hx] at hv;obtain ⟨ad, ea, _, _, lf, u, ⟨o1, o2, o3⟩, k⟩ := hv;obtain ⟨e2, t2, xs2, m', B, n, cp, A, n', cp', k1, k2, k3, _, k4, k5, k6⟩ := k.2 _ _ _ rfl;have o1 : (ovl env1 ps q).leaf? j = some lf := o1;rw [Y8 hql, hl] at o1;simp only [X0] at o1;rw [<- o1] at k1;simp only [Leaf.mk.injEq, Ty.slice.injEq] at k1;obtain ⟨⟨rfl, rfl⟩, hxx, _⟩ := k1;obtain rfl := X33 hxx;subst k2;exact ⟨B, n, cp, A, n', cp', o3, k3.2, k4, k5.2, by rw [ea, k6]⟩
 let us := (evT a.tmps v).cells.toList
 have leafv : ∀ cs bs, Rel c (SS env1 ps a.tmps vs1 w cs bs) -> ls.length = us.length /\ ∀ (l : Nat) (lf : Leaf) (u : Value), ls[l]? = some lf -> us[l]? = some u -> Rep (fun _ => False) w lf.t .dp [u] lf.x [] := by
  intro cs bs hrel;obtain ⟨m1, m2, m3, m4, m5⟩ := Y2l h1.len hrel (n := env.length) (by omega) (Y0 _ _ _) (Y1k τ) hset;have ev : vs1 env.length = evT a.tmps v := Y0 _ _ _;rw [ev] at m1;refine ⟨by rw [m3, m1], fun l lf u hlf hu1 => ?_⟩;obtain ⟨lv, ⟨k1, _⟩, k2⟩ := m5 l lf u hlf (by rw [m1]; exact hu1);have hlm1 := Xa.1 hlm lf (X8 hlf);simp only [X9] at hlm1;exact (Rep.flat (S' := fun _ => False) (w' := w) (m' := .dp) hlm1.2 k2).2
 obtain ⟨cs0, bs0, hrel0, _⟩ := h1.rel;obtain ⟨B, n, cp, A, n', cp', c1, c2, c3, c4, c5⟩ := near cs0 bs0 hrel0;obtain ⟨hus, leafv0⟩ := leafv cs0 bs0 hrel0;have hone : ∀ u ∈ us, u.oneCell' = true := fun u hu => by
  obtain ⟨l, hlu⟩ := Xw hu;have hlt : l < ls.length := by rw [hus]; exact (X6.1 hlu).1
  exact Rep.one (leafv0 l ls[l] u (X1 hlt) hlu) u (by simp)
 obtain ⟨G, cur, g1, g2, hgB, hfit, _⟩ := Y7j hrel0 hlv hl c1 rfl c2 c3 c4 hleaf hus hne leafv0 hu hux;subst g1
 let off := i.toNat * t'.sz + oo
 let cur' : Array Value := (cur.toList.take off ++ us ++ cur.toList.drop (off + us.length)).toArray
 let w' := w.setRow G cur'
 have hother : ∀ b, b ≠ G -> w'.heap[b]? = w.heap[b]? := fun b hb => setRow_other w G b _ hb;have hsame : w'.heap[G]? = some (.cells cur' e' (0, 0)) := setRow_heap w G _ _ e' (0, 0) hgB;have h2 := h1.sync (m := env.length) (fun r _ => hs1 r) (by omega) hl hlv (w' := w') (y := xs.set i0.toNat x') (fun cs bs hrel uu huu => by
  obtain ⟨B', n2, cp2, A', n3, cp3, k1, k2, k3, k4, k5⟩ := near cs bs hrel;have huu : (cs q)[j]? = some uu := huu;obtain ⟨_, hru⟩ := leafv cs bs hrel;obtain ⟨G', cur2, j1, j2, j3, j4, bd, j5, j6, j7⟩ := Y7j hrel hlv hl k1 rfl k2 k3 k4 hleaf hus hne hru hu hux;subst j1;rw [c5] at k5;have hG : G = G' := by
   rw [Y1e, Y1e] at k5;simpa using k5
  subst hG;rw [hgB] at j3;simp only [X0, Obj.cells.injEq, and_true] at j3;subst j3;rw [k1] at huu;obtain rfl := Xs huu;have hltG : G < w.heap.size := (hrel.own _ _ _ j2).2;have hsz : w'.heap.size = w.heap.size := setRow_size _ _ _;refine ⟨below_setRow (X1g _ _) (hrel.own _ _ _ j2).1.1 _, fun b hb hb1 _ => hother b (fun e => hb1 (e ▸ j2)), bd, fun b hb => ?_, j6, j7 w' hsame (fun b _ hb => hother b hb)⟩;rw [hsz];exact ⟨(hrel.own _ _ _ (j5 b hb)).2, .inr (.inl (j5 b hb))⟩)
 refine Y54 hdst (w' := w') ?_ (by unfold syncPlace; rw [Y5, Y7]; exact hlen1) h2 (fun r => ?_) hK hn
 ·have hsize := TabOk.sizeOf hT ht;have hcs : (evT a.tmps v).cells.size = τ.sz := by rw [<- X17]; show us.length = _; rw [<- hus, hll]
  have hst := run_storeCells_at P G off e' us 0 cur w hgB (by simpa using hfit) hone;rw [X2f] at hst;have c5 : evT a.tmps x = .pointer (some ⟨G, off, none⟩) := by rw [c5, Y1e, X13]
  simp [execOp, hop, Y6, c5, Instr.storeAt, Instr.sureAddr, storeVar, hsize, hcs];rw [show Sem.run P (storeCells { block := G, off := off } (evT a.tmps v).cells.toList) w = .ok () w' from hst];rfl
 ·by_cases hr : r = env.length
  ·subst hr; rw [Y0]
  ·rw [Y2 _ _ hr]; show upd noP env.length _ r = _; rw [Y2 _ _ hr]; rfl
end
section
variable {P : Program} {o : Oper} {a : Act} {w : World} {R : Type} {K : Env -> Option R} {r : R} {next : Act -> World -> Prop} {Q : Exit -> Act -> World -> Prop} {c : Cx} {d : Nat} {T : Tab} {env : Env} {sig : FuncId -> Option Sig} {caps : FuncId -> List Ty} {orc : Orc}
theorem Yes (hlen : env.length = tmps.size) (hrel : Rel c (SS env noP tmps vs w cs bs)) (hno : ∀ r, (∀ q ∈ (ovl env noP r).refs, q.1 < env.length) /\ (∀ q ∈ (ovl env noP r).ptrs, q < env.length)) {ls ls' : List Leaf} {x y : t.D} {L : Places}
  (hv : ValC c (SS env noP tmps vs w cs bs) (.con k ls) v cells) (hty : typedAs ls t = true) (hnow : argNow env ls = some ls') (hx : asm t ls' = some (x, [])) (hM : mutOf env ls (leaves t y (fun _ => .at_ .dp) 0) = some L) : MutOk c env tmps w vs bs t cells ls x y L := by
 obtain rfl : ls' = ls := (Xs hnow).symm;exact Yer hlen hrel hno hv hty hx hM
theorem Y7k {qs : List (Nat × Nat)} {v : AV} (h : apart qs v = true) : (∀ q ∈ v.refs, q ∉ qs) /\ (∀ r ∈ v.ptrs, ∀ q ∈ qs, r ≠ q.1) := by
 simp only [apart, X9, Xa, X1h, Bool.and_eq_false_iff, beq_eq_false_iff_ne] at h;refine ⟨fun q hq hm => ?_, fun r hr q hq => h.2 r hr q hq⟩;have := h.1 q hq q hm;rcases this with h | h <;> exact h rfl
theorem Ydz (hO : OrcOk P sig orc) {cl : Call} {extra : List AV} {ex : List Value} (hop : o.op = .call cl) (hdst : o.dst = some d) (hr : RE c env a.tmps w) (hd : d < env.length)
  (hrun : Enterable P f -> (execOp a.eval o).run P w = .ok (.enter f (cl.args.map (evT a.tmps) ++ ex.toArray)) w) (hex : ∀ vs cs bs, Rel c (SS env noP a.tmps vs w cs bs) -> ValCs c (SS env noP a.tmps vs w cs bs) extra ex) (hsg : sig f = some sg) (hbx : sg.box = none /\ sg.newb = none) (hm : sg.muts = true) (how : sg.own = false) (hK : callM caps orc (some d) f sg cl.args.toList extra env K = some r) (hn : Next c a K r env.length next) : o.wp P a w next Q := by
 unfold callM at hK;split at hK
 ·rename_i t ps a0 as hps has;split at hK
  ·rename_i k ls hrd;simp only at hK;split at hK
   ·rename_i hc;obtain ⟨⟨hk, hty⟩, ⟨hl1, hl2⟩, hfl, hap⟩ := hc;cases hnow : argNow env ls with
    | none => grind
    | some ls' =>
     rw [hnow] at hK;simp at hK;split at hK
     ·rename_i x hx;split at hK
      ·simp at hK
      ·rename_i rvs hrv;split at hK
       ·simp at hK
       ·rename_i q hq;obtain ⟨z0, hres, hK⟩ := Xr.1 hK;obtain ⟨hent, hspec⟩ := hO f sg _ q z0 hsg hq hres;rw [hbx.1, hbx.2, hm, how] at hspec;obtain ⟨t', x0, rest, y, ys, e1, e2, hspec⟩ := hspec;simp at e1;obtain ⟨⟨rfl, e1⟩, rfl⟩ := e1;subst e1;rw [e2] at hK;simp [dif_pos] at hK;split at hK
        ·simp at hK
        ·rename_i L hM;cases hra : resAV sg.results ys with
         | none => grind
         | some av =>
          rw [hra] at hK;obtain ⟨vs, hlen, cs, bs, hrel, hno⟩ := hr;obtain ⟨cells, hv⟩ := Yl hlen hrel (some t) a0;rw [hrd] at hv;obtain ⟨b0, hrep, hnd, hin, hafter⟩ := Yes hlen hrel hno hv hty hnow hx hM;have hval : evT a.tmps a0 = mkV t.isAgg cells := by
           obtain ⟨g1, _⟩ := hv;subst hk;unfold Ty.kind at g1;split at g1
           ·rename_i ha;rw [ha]; exact g1.1
           ·rename_i ha;have ha : t.isAgg = false := by simpa using ha
            rw [ha, g1.1]; rfl
          generalize hvs : rdArgs env ps as ++ extra = avs at *;have hargl : as.length <= ps.length := by rw [<- hl1, hl2]; omega
          have hvals : ValCs c (SS env noP a.tmps vs w cs bs) avs (as.map (evT a.tmps) ++ ex) := by
           rw [<- hvs];exact (Y2p hlen hrel hargl).1.append (hex vs cs bs hrel)
          let S : Nat -> Prop := fun b => RoS c (SS env noP a.tmps vs w cs bs) b \/ (∃ v ∈ avs, ∃ q ∈ v.refs, b ∈ bs q.1 (q.2 + 1)) \/ ∃ v ∈ avs, ∃ q ∈ v.ptrs, ∃ l, b ∈ bs q l
          have hrvr : RVRels S w rvs (as.map (evT a.tmps) ++ ex) :=
           Y40 hrel (fun b hb => .inl hb) hvals hrv (fun v hv q hq b hb => .inr (.inl ⟨v, hv, q, hq, hb⟩)) (fun v hv q hq l b hb => .inr (.inr ⟨v, hv, q, hq, l, hb⟩))
          have hS : ∀ b, S b -> b ∉ b0 := by
           intro b hb hb0;obtain ⟨q, hq, hbq⟩ := hin b hb0;rcases hb with hb | ⟨v, hv, q', hq', hb⟩ | ⟨v, hv, q', hq', l, hb⟩
           ·exact hb.1 _ _ hbq
           ·have := Y7k (Xa.1 hap v hv);obtain ⟨h1, h2⟩ := hrel.disj _ _ _ _ _ hb hbq;refine this.1 q' hq' ?_;have : q' = q := Prod.ext h1 (by omega);rw [this]; exact hq
           ·have := Y7k (Xa.1 hap v hv);exact this.2 q' hq' q hq (hrel.disj _ _ _ _ _ hb hbq).1
          have hb0 : ∀ b ∈ b0, c.base <= b := fun b hb => let ⟨q, _, h⟩ := hin b hb; (hrel.own _ _ _ h).1.1
          unfold Oper.wp;rw [hrun hent];have hargs : cl.args.map (evT a.tmps) ++ ex.toArray = (mkV t.isAgg cells :: (as.map (evT a.tmps) ++ ex)).toArray := by simp_all
          rw [hargs];refine X2j (hspec S w cells _ b0 c.base hrep hnd hb0 hrel.base hrvr hS) ?_
          rintro e w' ⟨chs, bsx, b1, rfl, hb, hsame, hrep', hnd1, hnew, hres'⟩
          rw [hdst];have hRP := hafter w' b1 hb hsame hrep' hnd1 hnew;obtain ⟨k', ls2, rfl, h1, h2, h3, bds, h4, h5, h6⟩ := Y4d hres' hra;have hflat := Yc1 hfl hra;have hmode := Y3u hra;have hsl : (syncs L env).length = env.length := Y28 _ _;have hadd := hRP.addVal (n := (syncs L env).length) (Xi _) rfl (av := .con k' ls2) (v := resVal sg.results chs) (fun cs' bs' hrel' => by
           refine ⟨chs.flatten, h1.bare rfl, h2, fun l lf u hl hu => ?_⟩;rw [Y1] at hl;obtain ⟨m, hm', hr'⟩ := h6 l lf u hl hu;have hf := hflat lf (X8 hl);have hmd := hmode lf (X8 hl);obtain ⟨lt, lx, lm⟩ := lf;simp only at hm' hr';subst hm';exact ⟨(Rep.flat hf hr').2, by cases m <;> first | trivial | exact absurd rfl (hmd _)⟩) (by
           have := Yc (k := k') h3;rw [this.1, this.2];exact ⟨by simp, by simp⟩)
          have := RE.commit hadd (by rw [hsl]; exact hd);rw [Y0] at this;exact hn _ _ _ hK this (by rw [Y18, hsl]) rfl
     ·simp at hK
   ·simp at hK
  ·simp at hK
 ·simp at hK
end
theorem Y4r (hlen : env.length = tmps.size) (h : Rel c (SS env ps tmps vs w cs bs)) : ∀ {ptys : List PTy} {args : List Operand}, args.length <= ptys.length -> ValCs c (SS env ps tmps vs w cs bs) (rdArgs env ptys args) (args.map (evT tmps))
 | [], [], _ => rfl
 | p :: ptys, [], _ => rfl
 | [], x :: args, hl => by simp at hl
 | p :: ptys, x :: args, hl => ⟨_, _, rfl, Yl hlen h _ x, Y4r hlen h (ptys := ptys) (args := args) (by simpa using hl)⟩
section
variable {P : Program} {o : Oper} {a : Act} {w : World} {R : Type} {K : Env -> Option R} {r : R} {next : Act -> World -> Prop} {Q : Exit -> Act -> World -> Prop} {c : Cx} {d : Nat} {T : Tab} {env : Env} {sig : FuncId -> Option Sig} {caps : FuncId -> List Ty} {orc : Orc}
theorem RP.handed (hlen : env.length = tmps.size) (hr : Rel c (SS env ps tmps vs w cs bs)) (hno : ∀ r, (∀ q ∈ (ovl env ps r).refs, q.1 < env.length) /\ (∀ q ∈ (ovl env ps r).ptrs, q < env.length)) (hn : env.length <= n) {x : t.D} (hp : ps n = .con .val [⟨t, x, .at_ .dp⟩]) :
  Rep (fun _ => False) w t .dp [vs n] x (bs n 1) /\ ∀ (w' : World) (v' : Value) (y : t.D) (b1 : List Nat), Below c.base w w' -> (∀ b, b < w.heap.size -> b ∉ bs n 1 -> w'.heap[b]? = w.heap[b]?) -> Rep (fun _ => False) w' t .dp [v'] y b1 -> b1.Nodup -> (∀ b ∈ b1, b ∈ bs n 1 \/ w.heap.size <= b) ->
   RP c env tmps w' (upd ps n (.con .val [⟨t, y, .at_ .dp⟩])) (upd vs n v') := by
 obtain ⟨hrep, hb0, hcn⟩ := Y3v hlen hr hn hp;refine ⟨Rep.dpS hrep, fun w' v' y b1 hb hh hrep' hnd hin => ?_⟩;have e : upd (upd ps n .undef) n (.con .val [⟨t, y, .at_ .dp⟩]) = upd ps n (.con .val [⟨t, y, .at_ .dp⟩]) := by
  funext r; simp [upd]; split <;> rfl
 have := RP.reformAt hlen hr hno (n := n) (m := n) hn hn (av := .con .val [⟨t, y, .at_ .dp⟩]) (v := v') (w' := w') ⟨by simp [AV.refs, Leaf.refs], by simp [AV.ptrs]⟩ hb (fun b hb' hne => hh b hb' (hne 1)) [v'] (fun l => if l = 1 then b1 else []) ?_ ?_ ?_ ?_
 ·grind
 ·intro l b hb';by_cases hl : l = 1
  ·subst hl;rw [X4 rfl] at hb';refine ⟨Rep.lt hrep' b hb', ?_⟩;rcases hin b hb' with h | h
   ·grind
   ·exact .inl h
  ·grind
 ·grind
 ·grind
 ·intro s' hk;have ebs : s'.bs n = fun l => if l = 1 then b1 else [] := Y0 _ _ _
  have ecs : s'.cs n = [v'] := Y0 _ _ _;refine ⟨⟨ecs, by rw [ebs]; rfl⟩, by rw [ecs]; rfl, fun l hl => ?_, fun l lf u hl hu => ?_⟩
  ·rw [ebs];simp at hl;exact X2 (by omega)
  ·rw [ecs] at hu;have hl0 : l = 0 := by grind
   subst hl0;obtain rfl : lf = ⟨t, y, .at_ .dp⟩ := by simpa [leafAt] using hl.symm
   obtain rfl : u = v' := by grind
   refine LeafRel.of_rep trivial ?_;rw [ebs];exact Rep.dpS hrep'
theorem Ye0 (hO : OrcOk P sig orc) {cl : Call} {extra : List AV} {ex : List Value} (hop : o.op = .call cl) (hdst : o.dst = some d) (hr : RE c env a.tmps w) (hd : d < env.length)
  (hrun : Enterable P f -> (execOp a.eval o).run P w = .ok (.enter f (cl.args.map (evT a.tmps) ++ ex.toArray)) w) (hex : ∀ vs cs bs, Rel c (SS env noP a.tmps vs w cs bs) -> ValCs c (SS env noP a.tmps vs w cs bs) extra ex) (hsg : sig f = some sg) (hbx : sg.box = none /\ sg.newb = none) (hm : sg.muts = true) (how : sg.own = true) (hK : callO caps orc (some d) f sg cl.args.toList extra env K = some r) (hn : Next c a K r env.length next) : o.wp P a w next Q := by
 unfold callO at hK;split at hK
 ·rename_i t ps a0 as hps has;split at hK
  ·rename_i env2 l hg;split at hK
   ·rename_i x hx;simp only at hK;split at hK
    ·rename_i hc;obtain ⟨⟨hex0, hlm, hagg⟩, ⟨hl1, hl2⟩, hap⟩ := hc;split at hK
     ·simp at hK
     ·rename_i rvs hrv;split at hK
      ·simp at hK
      ·rename_i q hq;obtain ⟨z0, hres, hK⟩ := Xr.1 hK;obtain ⟨hent, hspec⟩ := hO f sg _ q z0 hsg hq hres;rw [hbx.1, hbx.2, hm, how] at hspec;obtain ⟨t', x0, rest, y, e1, e2, hspec⟩ := hspec;simp at e1;obtain ⟨⟨rfl, e1⟩, rfl⟩ := e1;subst e1;rw [e2] at hK;simp at hK;have hex0 : extra = [] := by grind
       subst hex0;obtain ⟨vs, hRP⟩ := hr;have hexv : ex = [] := by
        obtain ⟨_, cs, bs, hrel, _⟩ := hRP;exact hex vs cs bs hrel
       subst hexv;obtain ⟨hl, h1⟩ := Y5k hRP (fun _ => .inl rfl) hg (n := env.length) (Xi _) rfl;have hle := Leaf.as_eq hx;rw [hlm] at hle;rw [hle] at h1;obtain ⟨hlen, cs, bs, hrel, hno⟩ := h1;obtain ⟨hrep, hafter⟩ := RP.handed hlen hrel hno (n := env.length) (by omega) (Y0 _ _ _);rw [Y0] at hrep;have hb0 : ∀ b ∈ bs env.length 1, c.base <= b := fun b hb => (hrel.own _ _ _ hb).1.1;have hargl : as.length <= ps.length := by omega
       have hvals := Y4r hlen hrel hargl;have hap' : ∀ v ∈ rdArgs env2 ps as, v.refs = [] /\ v.ptrs = [] := by grind
       have hrvr : RVRels (RoS c (SS env2 (upd noP env.length (.con .val [⟨t, x, .at_ .dp⟩])) a.tmps (upd vs env.length (evT a.tmps a0)) w cs bs)) w rvs (as.map (evT a.tmps)) :=
        Y40 hrel (fun b hb => hb) hvals hrv (fun v hv q hq => by rw [(hap' v hv).1] at hq; simp at hq) (fun v hv q hq => by grind)
       unfold Oper.wp;rw [hrun hent];have hargs : cl.args.map (evT a.tmps) ++ ([] : List Value).toArray = (evT a.tmps a0 :: as.map (evT a.tmps)).toArray := by
        rw [show evT a.tmps a0 :: as.map (evT a.tmps) = cl.args.toList.map (evT a.tmps) by rw [has]; rfl];rw [<- X2i, X1c];simp
       rw [hargs];refine X2j (hspec _ w _ _ _ c.base hrep (hrel.nodup _ _) hb0 hrel.base hrvr (fun b hb => hb.1 _ _)) ?_
       rintro e w' ⟨v', b1, rfl, hbel, hsame, hrep', hnd1, hnew⟩
       rw [hdst];have h2 := hafter w' v' y b1 hbel hsame hrep' hnd1 hnew;have eu : upd (upd noP env.length (.con .val [⟨t, x, .at_ .dp⟩])) env.length (.con .val [⟨t, y, .at_ .dp⟩]) = upd noP env2.length (.con .val [⟨t, y, .at_ .dp⟩]) := by
        rw [hl]; funext r; simp [upd]; split <;> rfl
       rw [eu] at h2;have := RE.commit h2 (by rw [hl]; exact hd);rw [hl, Y0] at this;exact hn _ _ _ hK this (by rw [Y18, hl]) rfl
    ·simp at hK
   ·simp at hK
  ·simp at hK
 ·simp at hK
end
theorem Y5p {S S' : Nat -> Prop} {base base' : Nat} {B B' : List Nat} : ∀ {rs : List (Ty × Lvl)} {xs : List (Σ t : Ty, t.D)} {chs : List (List Value)} {bs : List Nat}, allFresh rs = true -> ResRel S base w B rs xs chs bs -> ResRel S' base' w B' rs xs chs bs
 | [], xs, chs, bs, _, h => h
 | (t, fr) :: rs, xs, chs, bs, ha, ⟨x, xs', ch, chs', b, b', e1, e2, e3, h1, h2⟩ => by
  simp [allFresh] at ha;refine ⟨x, xs', ch, chs', b, b', e1, e2, e3, ?_, Y5p ha.2 h2⟩;by_cases hfr : fr = .dp
  ·subst hfr; exact Rep.dpS h1
  ·have hf : t.flatB = true := ha.1.resolve_left hfr;obtain ⟨rfl, h3⟩ := Rep.flat (S' := fun k => (S' k \/ base' <= k) /\ k ∉ B') (w' := w) (m' := fr.res) hf h1;exact h3
section
variable {P : Program} {o : Oper} {a : Act} {w : World} {R : Type} {K : Env -> Option R} {r : R} {next : Act -> World -> Prop} {Q : Exit -> Act -> World -> Prop} {c : Cx} {d : Nat} {T : Tab} {env : Env} {sig : FuncId -> Option Sig} {caps : FuncId -> List Ty} {orc : Orc}
theorem RP.resultG (hlen : env.length = tmps.size) (hr : Rel c (SS env ps tmps vs w cs bs)) (hno : ∀ r, (∀ q ∈ (ovl env ps r).refs, q.1 < env.length) /\ (∀ q ∈ (ovl env ps r).ptrs, q < env.length)) (hn : env.length <= n) {chs : List (List Value)} {bsx : List Nat}
  (hb : Below c.base w w') (hh : ∀ b, b < w.heap.size -> b ∉ bs n 1 -> w'.heap[b]? = w.heap[b]?) (hb0 : bs n 0 = []) (haf : allFresh rs = true) (hres : ResRel (fun _ => True) 0 w' bsx rs xs chs bsx) (hnd : bsx.Nodup) (hfr : ∀ b ∈ bsx, b ∈ bs n 1 \/ w.heap.size <= b) (ha : resAV rs xs = some av) :
  RP c env tmps w' (upd ps n av) (upd vs n (resVal rs chs)) := by
 obtain ⟨k, ls, rfl, h1, h2, h3, bds, h4, h5, h6⟩ := Y4d (c := c) (Y5p (S' := fun _ => False) (base' := w'.heap.size) (B' := bsx) haf hres) ha;subst h5;have hmode := Y3u ha;obtain ⟨n1, n2⟩ := Y14 hnd;have hltb : ∀ l b, b ∈ bds.getD l [] -> b < w'.heap.size := by
  intro l b hb;have hlt : l < bds.length := by grind
  obtain ⟨m, _, hrep⟩ := h6 l _ _ (X1 (by omega)) (X1 (by omega));exact Rep.lt hrep b hb
 let bd : Nat -> List Nat := fun l => match l with | 0 => [] | l + 1 => bds.getD l []
 have e : upd (upd ps n .undef) n (.con k ls) = upd ps n (.con k ls) := by
  funext r; simp [upd]; split <;> rfl
 have hsr := Yc (k := k) h3;have := RP.reformAt hlen hr hno (n := n) (m := n) hn hn (av := .con k ls) (v := resVal rs chs) (w' := w') ⟨hsr.1, hsr.2⟩ hb (fun b hb' hne => hh b hb' (hne 1)) chs.flatten bd ?_ ?_ ?_ ?_
 ·grind
 ·intro l b hb';cases l with
  | zero => simp [bd] at hb'
  | succ l =>
   refine ⟨hltb l b hb', ?_⟩;rcases hfr b (Yi hb') with h | h
   ·grind
   ·exact .inl h
 ·grind
 ·grind
 ·intro s' hk;have ebs : s'.bs n = bd := Y0 _ _ _;have ecs : s'.cs n = chs.flatten := Y0 _ _ _;refine ⟨?_, by rw [ecs]; exact h2, fun l hl => ?_, fun l lf u hl hu => ?_⟩
  ·grind
  ·rw [ebs];show bds.getD l [] = [];rw [Xh, X23 (by omega)];rfl
  ·rw [ecs] at hu;obtain ⟨m, e1, hrep⟩ := h6 l lf u (by rw [<- Y1]; exact hl) hu;obtain ⟨t, x, m'⟩ := lf;simp only at e1;have hmode := hmode _ (Yb hl);subst e1;refine LeafRel.of_rep (by cases m <;> first | trivial | exact absurd rfl (hmode _)) ?_;rw [ebs];refine Rep.move (fun b hb1 hl1 => ?_) (fun _ _ => rfl) hrep;exfalso;rcases hb1.1 with hf | hf
   ·exact hf
   ·grind
theorem RP.frzArgs_ {avs : List AV} (h : RP c env tmps w noP vs) (hrefs : ∀ v ∈ avs, ∀ q ∈ v.refs, q.1 < env.length) : RP c (frzArgs avs env) tmps w noP vs /\ (frzArgs avs env).length = env.length := by
 unfold frzArgs;split
 ·rename_i hcon;obtain ⟨hlen, cs, bs, hrel, hno⟩ := h;obtain ⟨bs1, hr1, k1, k2⟩ := hrel.freezeArgs_ [] avs hcon;have e := Y1r [] avs (ps := noP) hrefs (fun r => .inl rfl);have hl1 := Y1o [] avs env;refine ⟨⟨hl1.trans hlen, cs, bs1, Rel.congr hr1 e rfl, fun r => ?_⟩, hl1⟩;rw [hl1, <- e];have := Y1f [] avs (ovl env noP) r;exact ⟨fun q hq => (hno r).1 q (this.1 q hq), fun q hq => (hno r).2 q (this.2 q hq)⟩
 ·exact ⟨h, rfl⟩
theorem Ye1 (hO : OrcOk P sig orc) {k : Nat} {cl : Call} {extra : List AV} {ex : List Value} (hop : o.op = .call cl) (hdst : o.dst = some d) (hr : RE c env a.tmps w) (hd : d < env.length)
  (hrun : Enterable P f -> (execOp a.eval o).run P w = .ok (.enter f (cl.args.map (evT a.tmps) ++ ex.toArray)) w) (hex : ∀ vs cs bs, Rel c (SS env noP a.tmps vs w cs bs) -> ValCs c (SS env noP a.tmps vs w cs bs) extra ex) (hsg : sig f = some sg) (hbx : sg.box = none /\ sg.newb = none) (hm : sg.muts = false) (how : sg.own = true) (hgv : sg.give = some k) (hK : callG caps orc k (some d) f sg cl.args.toList extra env K = some r) (hn : Next c a K r env.length next) : o.wp P a w next Q := by
 unfold callG at hK;split at hK
 ·rename_i t ps a0 as hps has;obtain ⟨e0, hka⟩ := Y5j has;split at hK
  ·rename_i env2 l hg;split at hK
   ·rename_i x hx;simp only at hK;split at hK
    ·rename_i hc;obtain ⟨⟨hex0, hlm, hagg⟩, ⟨hl1, hl2, haf⟩, hap⟩ := hc;split at hK
     ·simp at hK
     ·rename_i rvs hrv;split at hK
      ·simp at hK
      ·rename_i q hq;obtain ⟨z0, hres, hK⟩ := Xr.1 hK;obtain ⟨hent, hspec⟩ := hO f sg _ q z0 hsg hq hres;rw [hbx.1, hbx.2, hm, how, hgv] at hspec;obtain ⟨t', x0, rest, e1, hspec⟩ := hspec;obtain ⟨e1, e2⟩ := Y6x e1;simp at e1;obtain ⟨rfl, e1⟩ := e1;subst e1;subst e2;cases hra : resAV sg.results (q.pk z0) with
       | none => grind
       | some av =>
        rw [hra] at hK;simp only at hK;have hex0 : extra = [] := by simpa using hex0
        subst hex0;obtain ⟨vs, hRP⟩ := hr;have hexv : ex = [] := by
         obtain ⟨_, cs, bs, hrel, _⟩ := hRP;exact hex vs cs bs hrel
        subst hexv;obtain ⟨hRP, hlf⟩ := hRP.frzArgs_ (avs := rdArgs env ps as) (fun v hv => (Y3a ⟨vs, hRP⟩ v hv).1);obtain ⟨hl, h1⟩ := Y5k hRP (fun _ => .inl rfl) hg (n := env.length) (by omega) rfl;have hl := hl.trans hlf;have hle := Leaf.as_eq hx;rw [hlm] at hle;rw [hle] at h1;obtain ⟨hlen, cs, bs, hrel, hno⟩ := h1;obtain ⟨hrep, hb00, _⟩ := Y3v hlen hrel (n := env.length) (by omega) (Y0 _ _ _);rw [Y0] at hrep;have hb0 : ∀ b ∈ bs env.length 1, c.base <= b := fun b hb => (hrel.own _ _ _ hb).1.1;have hargl : as.length <= ps.length := by omega
        have hvals := Y4r hlen hrel hargl;have hap' : ∀ v ∈ rdArgs env2 ps as, v.refs = [] /\ v.ptrs = [] := by simp_all
        have hrvr : RVRels (RoS c (SS env2 (upd noP env.length (.con .val [⟨t, x, .at_ .dp⟩])) a.tmps (upd vs env.length (evT a.tmps a0)) w cs bs)) w rvs (as.map (evT a.tmps)) :=
         Y40 hrel (fun b hb => hb) hvals hrv (fun v hv q hq => by rw [(hap' v hv).1] at hq; simp at hq) (fun v hv q hq => by simp_all)
        unfold Oper.wp;rw [hrun hent];have hargs : cl.args.map (evT a.tmps) ++ ([] : List Value).toArray = (insN k (evT a.tmps a0) (as.map (evT a.tmps))).toArray := by
         rw [<- Y9k, <- e0, <- X2i, X1c];simp
        rw [hargs];refine X2j (hspec _ w _ _ _ c.base (Rep.dpS hrep) (hrel.nodup _ _) hb0 hrel.base hrvr (fun b hb => hb.1 _ _)) ?_
        rintro e w' ⟨chs, bsx, rfl, hbel, hsame, hres', hnd1, hnew⟩
        rw [hdst];have h2 := RP.resultG hlen hrel hno (n := env.length) (by omega) hbel hsame hb00 haf hres' hnd1 hnew hra;have eu : upd (upd noP env.length (.con .val [⟨t, x, .at_ .dp⟩])) env.length av = upd noP env2.length av := by
         rw [hl]; funext r; simp [upd]; split <;> rfl
        rw [eu] at h2;have := RE.commit h2 (by rw [hl]; exact hd);rw [hl, Y0] at this;exact hn _ _ _ hK this (by rw [Y18, hl]) rfl
    ·simp at hK
   ·simp at hK
  ·simp at hK
 ·simp at hK
end
theorem Y9v : ∀ {xs : List Int} {cells : List Value} {b : List Nat}, El (Rep S w (.int .u8) .ro) 1 cells xs b -> cells = xs.map (Value.int .u8)
 | [], cells, b, h => h.1
 | x :: xs, cells, b, ⟨c, cs, b0, b1, e, _, _, h1, h2⟩ => by
  rw [e, h1.1, Y9v h2]; rfl
section
variable {P : Program} {o : Oper} {a : Act} {w : World} {R : Type} {K : Env -> Option R} {r : R} {next : Act -> World -> Prop} {Q : Exit -> Act -> World -> Prop} {c : Cx} {d : Nat} {T : Tab} {env : Env}
theorem Ye2 (hT : TabOk P T) {s dt : TypeId} {b : ByteArray} (hop : o.op = .convert s dt x) (hdst : o.dst = some d) (hr : RE c env a.tmps w) (hd : d < env.length) (hb : bytesOf T s dt (fun ty => rd ty env x) = some b)
  (hK : K (setD (some d) env (vStr b)) = some r) (hn : Next c a K r env.length next) : o.wp P a w next Q := by
 unfold bytesOf at hb;split at hb
 ·rename_i e hs ht;split at hb
  ·rename_i he;split at hb
   ·rename_i lx hrd;have hrd : rd (some (.slice e (.int .u8))) env x = .con .val [lx] := hrd;split at hb
    ·rename_i xs has;split at hb
     ·rename_i hl;obtain rfl := Xs hb;have hr0 := hr;obtain ⟨vs, h0⟩ := hr0;obtain ⟨cs, bs, h1, _⟩ := h0.rel;obtain ⟨cells, hv⟩ := Yl h0.len h1 (some (.slice e (.int .u8))) x;rw [hrd] at hv;obtain ⟨S, hS⟩ := Y2y hv hl;rw [Leaf.as_eq has] at hS;obtain ⟨v, ch, b0, b1, e1, _, hel, _, A, cp, e2, hlc, hz, hc⟩ := hS;have e1 : evT a.tmps x = v := by simpa using e1
      have hch := Y9v hel;refine finV hr hdst (v := .string (strOfNums xs)) ?_ hd (fun vs cs bs _ => Y84 _ _ _) Y9b hK hn;have key : (Go.convert s dt (.slice A xs.length cp)).run P w = .ok (.string (strOfNums xs)) w := by
       have hs' := TabOk.slice hT hs;have he' := TabOk.int hT he;have ht' := TabOk.str hT ht;cases A with
       | none =>
        have hn0 : xs = [] := by simp_all
        subst hn0;exact run_convert_bytes_nil w s e hs' he' 0 cp dt ht'
       | some A =>
        have hl : (loadCells A xs.length).run P w = .ok (xs.map (Value.int .u8)).toArray w := by
         have := run_loadCells_list (P := P) w A (xs.map (Value.int .u8)) (fun j u hj => by
          rw [<- hch] at hj;obtain ⟨a', h1, _, h2⟩ := hc j u hj;cases h1;exact h2)
         simpa using this
        rw [run_convert_bytes_string w s dt e _ _ cp hs' he' ht', run_bytesToString w _ xs.length cp xs hl, foldl_push_bytes];simp [strOfNums, ByteArray.empty, ByteArray.emptyWithCapacity];rfl
      have key2 : (Go.convert s dt (evT a.tmps x)).run P w = .ok (.string (strOfNums xs)) w := by grind
      simp [execOp, hop, Y6, key2]
     ·simp at hb
    ·simp at hb
   ·simp at hb
  ·simp at hb
 ·simp at hb
end
theorem Rel.split2 (h : Rel c s) {n m : Nat} (hnm : m ≠ n) (hno : ∀ r, (∀ q ∈ (s.env r).refs, q.1 ≠ n /\ q.1 ≠ m) /\ (∀ q ∈ (s.env r).ptrs, q ≠ n /\ q ≠ m)) (av av2 : AV) (v : Value) (cd cd2 : List Value) (bd bd2 : Nat -> List Nat)
  (k1 : ∀ l b, b ∈ bd l -> ∃ l', b ∈ s.bs m l') (k2 : ∀ l b, b ∈ bd2 l -> ∃ l', b ∈ s.bs m l') (d1 : ∀ l l' b, b ∈ bd l -> b ∈ bd l' -> l = l') (d2 : ∀ l l' b, b ∈ bd2 l -> b ∈ bd2 l' -> l = l') (d3 : ∀ l l' b, b ∈ bd l -> b ∉ bd2 l') (n1 : ∀ l, (bd l).Nodup) (n2 : ∀ l, (bd2 l).Nodup)
  (hav : let s' : St := ⟨upd (upd s.env m av2) n av, upd s.tm n v, s.w, upd (upd s.cs m cd2) n cd, upd (upd s.bs m bd2) n bd⟩; Keeps c s s' -> AVRel c s' n av v /\ AVRel c s' m av2 (s.tm m)) :
  Rel c ⟨upd (upd s.env m av2) n av, upd s.tm n v, s.w, upd (upd s.cs m cd2) n cd, upd (upd s.bs m bd2) n bd⟩ := by
 let s' : St := ⟨upd (upd s.env m av2) n av, upd s.tm n v, s.w, upd (upd s.cs m cd2) n cd, upd (upd s.bs m bd2) n bd⟩
 have hsame : ∀ r, ¬ (r = n \/ r = m) -> s'.env r = (s.env r).chg noG /\ s'.tm r = s.tm r /\ s'.cs r = s.cs r /\ s'.bs r = s.bs r := fun r hr => by
  simp only [X2v] at hr;refine ⟨by rw [AV.chg_no]; show upd _ _ _ r = _; rw [Y2 _ _ hr.1, Y2 _ _ hr.2], Y2 _ _ hr.1, ?_, ?_⟩ <;>
  ·show upd _ _ _ r = _;rw [Y2 _ _ hr.1, Y2 _ _ hr.2]
 have hbn : s'.bs n = bd := Y0 _ _ _;have hbm : s'.bs m = bd2 := by show upd _ _ _ m = _; rw [Y2 _ _ hnm, Y0]
 have hpl : ∀ r j, r ≠ n /\ r ≠ m -> SamePl s s' r j := fun r j hr => by
  have hs := hsame r (by simp only [X2v]; exact hr);exact ⟨fun lf u ho => ho.chg hs.1 hs.2.2.1, by rw [hs.2.2.2], fun b _ => rfl⟩
 have hpt : ∀ r, r ≠ n /\ r ≠ m -> SamePtr s s' r := fun r hr => by
  have hs := hsame r (by simp only [X2v]; exact hr);exact SamePtr.chg hs.1 hs.2.1
 have hin : ∀ r l b, (r = n \/ r = m) -> b ∈ s'.bs r l -> ∃ l', b ∈ s.bs m l' := fun r l b hD hb' => by
  rcases hD with rfl | rfl
  ·rw [hbn] at hb'; exact k1 l b hb'
  ·rw [hbm] at hb'; exact k2 l b hb'
 refine Rel.step (s' := s') noG h (fun r => r = n \/ r = m) (fun r _ => r ≠ n /\ r ≠ m) (fun r => r ≠ n /\ r ≠ m) hsame (X1g _ _) (fun b hl hD => rfl)
  (fun r l b hD hb' => ?_) (fun r l r' l' b hD hD' hb1 hb2 => ?_) (fun r l hD => ?_) (fun r _ => hno r) (fun hk => ⟨Yq hk hpl, Y15 hk hpl, fun r hL _ => hpt r hL⟩) (fun hk r hD => ?_)
 ·obtain ⟨l', h1⟩ := hin r l b hD hb';exact ⟨(h.own _ _ _ h1).2, .inr ⟨m, l', .inr rfl, h1⟩⟩
 ·rcases hD with rfl | rfl <;> rcases hD' with rfl | rfl
  ·rw [hbn] at hb1 hb2; exact ⟨rfl, d1 _ _ _ hb1 hb2⟩
  ·rw [hbn] at hb1; rw [hbm] at hb2; exact absurd hb2 (d3 _ _ _ hb1)
  ·rw [hbm] at hb1; rw [hbn] at hb2; exact absurd hb1 (d3 _ _ _ hb2)
  ·rw [hbm] at hb1 hb2; exact ⟨rfl, d2 _ _ _ hb1 hb2⟩
 ·rcases hD with rfl | rfl
  ·rw [hbn]; exact n1 l
  ·rw [hbm]; exact n2 l
 ·obtain ⟨h1, h2⟩ := hav hk;rcases hD with rfl | rfl
  ·have e1 : s'.env r = av := Y0 _ _ _;have e2 : s'.tm r = v := Y0 _ _ _;rw [e1, e2]; exact h1
  ·have e1 : s'.env r = av2 := by show upd _ _ _ r = _; rw [Y2 _ _ hnm, Y0]
   have e2 : s'.tm r = s.tm r := Y2 _ _ hnm;rw [e1, e2]; exact h2
theorem Yd2 (s : Nat) (hbare : ∀ l ∈ ls, l.m.bare = true) : chgs (killG s) ls = ls := by
 rw [Y2x]
 conv => rhs; rw [<- List.map_id ls]
 refine List.map_congr_left (fun l hl => ?_);have := hbare l hl;obtain ⟨t, x, m⟩ := l;cases m with
 | bor _ _ _ => simp [Mode.bare] at this
 | _ => rfl
theorem Y4f (hbare : ∀ l ∈ ls, l.m.bare = true) : (AV.con k ls).refs = [] /\ (AV.con k ls).ptrs = [] := by
 refine ⟨?_, rfl⟩;simp only [AV.refs, List.flatMap_eq_nil_iff];intro l hl;have := hbare l hl;obtain ⟨t, x, m⟩ := l;cases m with
 | bor _ _ _ => simp [Mode.bare] at this
 | _ => rfl
section
variable {P : Program} {o : Oper} {a : Act} {w : World} {Q : Exit -> Act -> World -> Prop} {c : Cx} {d : Nat} {T : Tab} {env : Env}
theorem RP.splitB (h : RP c env tmps w noP vs) {s id nn : Nat} {sh : List (Bool × Nat)} (hk : get env s = .con (.tupB id nn sh) ls) (hbare : ∀ l ∈ ls, l.m.bare = true) (hro : ∀ l ∈ takeLs nn ls, l.m = .at_ .ro) :
  ∃ (B : Nat) (us : List Value), tmps.getD s undef = .tuple (.pointer (some ⟨B, 0, none⟩) :: us).toArray /\
   RP c (put (killRoot s env) s (.con (.tup ((false, 1) :: sh)) (⟨.bool, false, .dead⟩ :: dropLs nn ls))) tmps w (upd noP env.length (.con (.box ⟨id, false, []⟩) (takeLs nn ls))) (upd vs env.length (.pointer (some ⟨B, 0, none⟩))) := by
 let N := env.length
 have hsl : s < env.length := Yw hk;have hsN : s ≠ N := X1k hsl;obtain ⟨hlen, cs, bs, hr, hno⟩ := h
 replace hr : Rel c (SS env noP tmps vs w cs bs) := hr
 obtain ⟨hk2, hk3⟩ := hr.killRoot_ s
 let E := chgE (killG s) (ovl env noP)
 have hEs : E s = .con (.tupB id nn sh) ls := by show (ovl env noP s).chg _ = _; rw [Y8 hsl, hk]; show AV.con _ (chgs _ _) = _; rw [Yd2 s hbare]
 have hav := hk2.av s;have e2 : ovlT tmps vs s = tmps.getD s undef := X4 (hlen ▸ hsl);simp only [show chgE (killG s) (ovl env noP) s = _ from hEs, e2] at hav;obtain ⟨⟨B, us, c0, c1, q1, q2, q3, q4, q5, q6⟩, g2, g3, g4⟩ := hav;have q2 : cs s = c0 ++ c1 := q2;have q4 : w.heap[B]? = _ := q4;have q5 : bs s 0 = [B] := q5;have g2 : ls.length = (cs s).length := g2;have g3 : ∀ l, ls.length <= l -> bs s (l + 1) = [] := g3;have g4 : ∀ l lf u, leafAt ls l = some lf -> (cs s)[l]? = some u -> LeafRel c ⟨E, ovlT tmps vs, w, cs, bs⟩ s l u lf := g4;have hll : ls.length = nn + c1.length := by rw [g2, q2, Xk, q3]
 refine ⟨B, us, q1, ?_⟩
 let av : AV := .con (.box ⟨id, false, []⟩) (takeLs nn ls)
 let av2 : AV := .con (.tup ((false, 1) :: sh)) (⟨.bool, false, .dead⟩ :: dropLs nn ls)
 let bd : Nat -> List Nat := fun l => if l = 0 then [B] else []
 let bd2 : Nat -> List Nat := fun l => if l <= 1 then [] else bs s (nn + (l - 1))
 have hbd : ∀ l b, b ∈ bd l -> l = 0 /\ b = B := fun l b hb => by
  simp only [bd] at hb;split at hb
  ·exact ⟨by assumption, by simpa using hb⟩
  ·simp at hb
 have hbd2 : ∀ l b, b ∈ bd2 l -> 1 < l /\ b ∈ bs s (nn + (l - 1)) := fun l b hb => by
  simp only [bd2] at hb;split at hb
  ·simp at hb
  ·exact ⟨by omega, hb⟩
 have hLr : ∀ p, (∀ z ∈ (E p).refs, z.1 ≠ N /\ z.1 ≠ s) /\ (∀ z ∈ (E p).ptrs, z ≠ N /\ z ≠ s) := fun p =>
  ⟨fun z hz => ⟨by have h1 := (hno p).1 z ((Yj (Y10 s) (ovl env noP p)).1 z hz); omega, (hk3 p).1 z hz⟩,
   fun z hz => ⟨by have h1 := (hno p).2 z ((Yj (Y10 s) (ovl env noP p)).2 z hz); omega, (hk3 p).2 z hz⟩⟩
 have hsp := hk2.split2 (n := N) (m := s) hsN hLr av av2 (.pointer (some ⟨B, 0, none⟩)) c0 (.pointer (some ⟨B, 0, none⟩) :: c1) bd bd2
  (fun l b hb => ⟨0, by obtain ⟨_, rfl⟩ := hbd l b hb; show b ∈ bs s 0; rw [q5]; simp⟩) (fun l b hb => ⟨_, (hbd2 l b hb).2⟩)
  (fun l l' b h1 h2 => by have := (hbd l b h1).1; have := (hbd l' b h2).1; omega)
  (fun l l' b h1 h2 => by obtain ⟨m1, h1⟩ := hbd2 l b h1; obtain ⟨m2, h2⟩ := hbd2 l' b h2; have := (hk2.disj _ _ _ _ _ h1 h2).2; omega)
  (fun l l' b h1 h2 => by
   obtain ⟨_, rfl⟩ := hbd l b h1;obtain ⟨m2, h2⟩ := hbd2 l' b h2;have := (hk2.disj s 0 s _ b (by show b ∈ bs s 0; rw [q5]; simp) h2).2;omega)
  (fun l => by simp only [bd]; split <;> simp) (fun l => by simp only [bd2]; split; exact X16; exact hk2.nodup _ _)
  (fun hkp => by
   have ebN : ∀ l, (upd (upd bs s bd2) N bd) N l = bd l := fun l => by rw [Y0]
   have ebS : ∀ l, (upd (upd bs s bd2) N bd) s l = bd2 l := fun l => by rw [Y2 _ _ hsN, Y0]
   constructor
   ·refine ⟨⟨B, rfl, ?_, by simp only [Y0]; rfl, by simp [nthB]⟩, ?_, fun l hl => ?_, fun l lf u hl hu => ?_⟩
    ·simp only [Y0]; exact q4
    ·simp only [Y0]; rw [Yn, Xm]; omega
    ·simp only [Y0]; exact X2 (by omega)
    ·simp only [Y0] at hu;have hl' : ls[l]? = some lf := by
      rw [Y1, Yn, X1j] at hl;split at hl
      ·exact hl
      ·simp at hl
     have hm := hro lf (Yb hl);have h6 := g4 l lf u (by rw [Y1]; exact hl') (by rw [q2, Xp (X6.1 hu).1]; exact hu);obtain ⟨t, x, m⟩ := lf;simp only at hm;subst hm;refine LeafRel.of_held rfl (by simp only [Y0]; exact X2 (by omega)) ?_;exact Rep.roS h6.2 (fun b hb hl => (hkp b hb hl).1) (by simp)
   ·refine ⟨⟨?_, .pointer (some ⟨B, 0, none⟩) :: us, e2.trans q1, ?_⟩, ?_, fun l hl => ?_, fun l lf u hl hu => ?_⟩
    ·exact ebS 0
    ·show TupCells _ _ ((upd (upd cs s (.pointer (some ⟨B, 0, none⟩) :: c1)) N c0) s);rw [Y2 _ _ hsN, Y0];exact ⟨_, us, [_], c1, rfl, rfl, rfl, ⟨rfl, rfl⟩, q6⟩
    ·show _ = ((upd (upd cs s (.pointer (some ⟨B, 0, none⟩) :: c1)) N c0) s).length;rw [Y2 _ _ hsN, Y0, X1s, X1s, Yo, X12];omega
    ·show (upd (upd bs s bd2) N bd) s (l + 1) = [];rw [ebS];rw [X1s, Yo, X12] at hl;simp only [bd2];split
     ·rfl
     ·have := g3 (nn + l - 1) (by omega);rw [show nn + (l + 1 - 1) = nn + l - 1 + 1 by omega];exact this
    ·have hu : ((upd (upd cs s (.pointer (some ⟨B, 0, none⟩) :: c1)) N c0) s)[l]? = some u := hu;rw [Y2 _ _ hsN, Y0] at hu;cases l with
     | zero =>
      obtain rfl : lf = ⟨.bool, false, .dead⟩ := by simpa [leafAt] using hl.symm
      obtain rfl : u = _ := by simpa using hu.symm
      exact ⟨ebS 1, rfl⟩
     | succ l =>
      rw [Y1, X1i, Yo, X1l] at hl;rw [X1i] at hu;have h6 := g4 (nn + l) lf u (by rw [Y1]; exact hl) (by rw [q2, Xd (by omega), q3, Nat.add_sub_cancel_left]; exact hu);have hb0 : (upd (upd bs s bd2) N bd) s (l + 1 + 1) = bs s (nn + l + 1) := by
       rw [ebS]; simp only [bd2]; rw [X2 (by omega)]; congr 1
      have hbare0 := hbare lf (X8 hl);obtain ⟨t, x, m⟩ := lf;cases m with
      | bor _ _ _ => simp [Mode.bare] at hbare0
      | dead => exact ⟨hb0.trans h6.1, h6.2⟩
      | at_ lv =>
       refine LeafRel.of_rep h6.pin ?_;show Rep _ _ _ _ _ _ ((upd (upd bs s bd2) N bd) s (l + 1 + 1));rw [hb0];exact Rep.move (fun b hb hl => hkp b hb hl) (fun _ _ => rfl) h6.rep)
 have elen : (put (killRoot s env) s av2).length = env.length := by rw [Y5, Ya]
 have eE : upd (upd E s av2) N av = ovl (put (killRoot s env) s av2) (upd noP env.length av) := by
  rw [Yd (by rw [elen]; exact Xi _), Yu (by rw [Ya]; exact hsl)];unfold killRoot;rw [Yu (by rw [Y7]; exact hsl), <- Y20 _ _ noP (fun _ => .inl rfl), Yf]
 refine ⟨by show (put (killRoot s env) s av2).length = _; rw [elen]; exact hlen, _, _, Rel.congr hsp eE (Y13 (by omega) _).symm, fun p => ?_⟩;show (∀ q ∈ (ovl (put (killRoot s env) s av2) (upd noP env.length av) p).refs, q.1 < (put (killRoot s env) s av2).length) /\ ∀ q ∈ (ovl (put (killRoot s env) s av2) (upd noP env.length av) p).ptrs, q < (put (killRoot s env) s av2).length;rw [<- eE, elen];have hb1 : ∀ l ∈ takeLs nn ls, l.m.bare = true := fun l hl => hbare l (by rw [Yn] at hl; exact X26 hl);have hb2 : ∀ l ∈ (⟨.bool, false, .dead⟩ : Leaf) :: dropLs nn ls, l.m.bare = true := fun l hl => by
  rcases Xq.1 hl with rfl | hl
  ·rfl
  ·rw [Yo] at hl; exact hbare l (X25 hl)
 by_cases hpN : p = N
 ·subst hpN;rw [Y0, (Y4f hb1).1, (Y4f hb1).2];exact ⟨by simp, by simp⟩
 ·rw [Y2 _ _ hpN];by_cases hps : p = s
  ·subst hps;rw [Y0, (Y4f hb2).1, (Y4f hb2).2];exact ⟨by simp, by simp⟩
  ·rw [Y2 _ _ hps];have := Yj (Y10 s) (ovl env noP p);exact ⟨fun z hz => (hno p).1 z (this.1 z hz), fun z hz => (hno p).2 z (this.2 z hz)⟩
theorem Y7l (hr : RE c env tmps w) : RE c (preTup o env) tmps w /\ (preTup o env).length = env.length := by
 unfold preTup;split
 ·rename_i s n0 hop;split
  ·rename_i id n sh ls hg;split
   ·rename_i hc;obtain ⟨h1, h2⟩ := hc;obtain ⟨vs, hRP⟩ := hr;obtain ⟨B, us, e, hp⟩ := hRP.splitB hg (fun l hl => by simpa using Xa.1 h1 l hl) (fun l hl => by simpa using Xa.1 h2 l hl);have hl : (put (killRoot s env) s (.con (.tup ((false, 1) :: sh)) (⟨.bool, false, .dead⟩ :: dropLs n ls))).length = env.length := by rw [Y5, Ya]
    have := RP.dropAt hp (n := env.length) (by rw [hl]; exact Xi _) (Yar (fun _ => .inl rfl) (.inr ⟨_, _, rfl, fun l hl => by rw [show l.m = _ by simpa using Xa.1 h2 l hl]; rfl⟩));rw [show upd (upd noP env.length (.con (.box ⟨id, false, []⟩) (takeLs n ls))) env.length .undef = noP by funext r; simp only [upd]; split <;> rfl] at this;exact ⟨⟨_, this⟩, hl⟩
   ·exact ⟨hr, rfl⟩
  ·exact ⟨hr, rfl⟩
 ·exact ⟨hr, rfl⟩
theorem Y91 (hr : RE c env a.tmps w) (hdst : o.dst = some d) (hd : d < env.length) {env' : Env} (h : tupStep o d env = some env')
  (hn : ∀ a' w', RE c env' a'.tmps w' -> env'.length = env.length -> a'.defers = a.defers -> next a' w') : o.wp P a w next Q := by
 unfold tupStep at h;split at h
 ·rename_i s hop;split at h
  ·rename_i id n sh ls hg;split at h
   ·rename_i hc;simp only [X0] at h;have hset : ∀ l ∈ ls, l.m.settled = true := fun l hl => by simpa using Xa.1 hc l hl
    obtain ⟨vs, hRP⟩ := hr;have hp := hRP.grab (fun _ => .inl rfl) hg hset (n := env.length) (Xi _) rfl;have hl : (killRoot s env).length = env.length := Ya _ _;refine fin (K := some) (r := env') (w' := w) hdst (v := evT a.tmps (.tmp s)) (av := .con (.tupB id n sh) ls) (by simp [execOp, hop, Y6]) (by rw [hl]; exact hd) hl (by rw [hl]; exact hp) (by rw [hl, Y0]; rfl) (by rw [h]) (fun e a' w' he h1 h2 h3 => by cases he; exact hn a' w' h1 h2 h3)
   ·cases h
  ·cases h
 ·rename_i s hop;split at h
  ·rename_i id n sh ls hg;split at h
   ·rename_i hc;obtain ⟨h1, h2⟩ := hc;simp only [X0] at h;obtain ⟨vs, hRP⟩ := hr;obtain ⟨B, us, e, hp⟩ := hRP.splitB hg (fun l hl => by simpa using Xa.1 h1 l hl) (fun l hl => by simpa using Xa.1 h2 l hl);have e' : evT a.tmps (.tmp s) = .tuple (.pointer (some ⟨B, 0, none⟩) :: us).toArray := e;have hl : (put (killRoot s env) s (.con (.tup ((false, 1) :: sh)) (⟨.bool, false, .dead⟩ :: dropLs n ls))).length = env.length := by rw [Y5, Ya]
    refine fin (K := some) (r := env') (w' := w) hdst (v := .pointer (some ⟨B, 0, none⟩)) (av := .con (.box ⟨id, false, []⟩) (takeLs n ls)) (by simp [execOp, hop, Y6, e', Instr.extract]) (by rw [hl]; exact hd) hl (by rw [hl]; exact hp) (by rw [hl, Y0]) (by rw [h]) (fun e a' w' he h1 h2 h3 => by cases he; exact hn a' w' h1 h2 h3)
   ·cases h
  ·cases h
 ·cases h
end
theorem Y4v : ∀ (env : Env) (d : Nat) (u v : AV), put (put env d u) d v = put env d v
 | [], _, _, _ => rfl
 | _ :: _, 0, _, _ => rfl
 | x :: env, d + 1, u, v => by simp [put, Y4v env d u v]
section
variable {P : Program} {o : Oper} {a : Act} {w : World} {Q : Exit -> Act -> World -> Prop} {c : Cx} {d : Nat} {T : Tab} {env : Env} {caps : FuncId -> List Ty}
theorem Y88 (hT : TabOk P T) (hr : RE c env a.tmps w) (hdst : o.dst = some d) (hd : d < env.length) {env' : Env} (h : takeStep T caps o d env = some (true, env'))
  (hn : ∀ a' w', RE c env' a'.tmps w' -> env'.length = env.length -> a'.defers = a.defers -> next a' w') : o.wp P a w next Q := by cases h
end
section
variable {P : Program} {o : Oper} {a : Act} {w : World} {Q : Exit -> Act -> World -> Prop} {c : Cx} {d : Nat} {T : Tab} {env : Env} {caps : FuncId -> List Ty}
theorem Y92 {b : Bool} {env' : Env} (h : selStep T caps o env = some (b, env')) : o.guard = none := by
 unfold selStep at h;split at h
 ·assumption
 ·cases h
theorem Y93 (hT : TabOk P T) (hr : RE c env a.tmps w) {env' : Env} (h : selStep T caps o env = some (true, env'))
  (hn : ∀ a' w', RE c env' a'.tmps w' -> env'.length = env.length -> a'.defers = a.defers -> next a' w') : o.wp P a w next Q := by
 unfold selStep at h;split at h
 ·rename_i d hg hdst;split at h
  ·rename_i hd;split at h
   ·rename_i env1 htb;simp only [X0, X11, true_and] at h;subst h;exact Y91 hr hdst hd htb hn
   ·exact Y88 hT hr hdst hd h hn
  ·cases h
 ·cases h
end
theorem Yax (r : Nat) : Fewer (renewG r) := by
 intro r' j p l;unfold renewG;simp only;split
 ·exact .inl rfl
 ·exact .inr rfl
section
variable {c : Cx} {env : Env} {w : World}
theorem RP.renewR (hlen : env.length = tmps.size) (hrel : Rel c (SS env noP tmps vs w cs bs)) (hno : ∀ r, (∀ q ∈ (ovl env noP r).refs, q.1 < env.length) /\ (∀ q ∈ (ovl env noP r).ptrs, q < env.length)) {r : Nat} {e : BoxK} (hr : get env r = .con (.box e) ls) {B : Nat} (hB : bs r 0 = [B]) (htm : tmps.getD r undef = .pointer (some ⟨B, 0, none⟩)) (hbel : Below c.base w w') {ch' : List Value} {br bn : Nat -> List Nat} {ns : List Leaf} {k2 : Kind} {ls2 : List Leaf} {rv : Value} {cells2 : List Value}
  (hheap : ∀ b, b < w.heap.size -> (∀ l, b ∉ bs r l) -> w'.heap[b]? = w.heap[b]?) (hBh : w'.heap[B]? = some (.cells ch'.toArray e.id (0, 0))) (hfix : ∀ l, nthB e.fix l = true -> ch'[l]? = (cs r)[l]?)
  (hbr0 : br 0 = [B]) (hnl : ns.length = ch'.length) (hbrn : ∀ l, ns.length <= l -> br (l + 1) = []) (hn1 : ∀ l b, b ∈ br l -> b < w'.heap.size /\ (w.heap.size <= b \/ ∃ l', b ∈ bs r l')) (hn2 : ∀ l b, b ∈ bn l -> b < w'.heap.size /\ (w.heap.size <= b \/ ∃ l', b ∈ bs r l'))
  (hd1 : ∀ l l' b, b ∈ br l -> b ∈ br l' -> l = l') (hd2 : ∀ l l' b, b ∈ bn l -> b ∈ bn l' -> l = l') (hd3 : ∀ l l' b, b ∈ br l -> b ∉ bn l') (hnd1 : ∀ l, (br l).Nodup) (hnd2 : ∀ l, (bn l).Nodup)
  (hset1 : ∀ l ∈ ns, l.refs = []) (hset2 : ∀ l ∈ ls2, l.m.settled = true)
  (hleaf : let s' : St := ⟨upd (upd (chgE (renewG r) (ovl env noP)) r (.con (.box e) ns)) env.length (.con k2 ls2), upd (ovlT tmps vs) env.length rv, w', upd (upd cs r ch') env.length cells2, upd (upd bs r br) env.length bn⟩
   Keeps c (SS env noP tmps vs w cs bs) s' -> (∀ l lf u, ns[l]? = some lf -> ch'[l]? = some u -> LeafRel c s' r l u lf) /\ AVRel c s' env.length (.con k2 ls2) rv) :
  RP c (renewBox r (.box e) ns env) tmps w' (upd noP env.length (.con k2 ls2)) (upd vs env.length rv) := by
 have hrl : r < env.length := Yw hr;have hrN : r ≠ env.length := X1k hrl
 let s' : St := ⟨upd (upd (chgE (renewG r) (ovl env noP)) r (.con (.box e) ns)) env.length (.con k2 ls2), upd (ovlT tmps vs) env.length rv, w', upd (upd cs r ch') env.length cells2, upd (upd bs r br) env.length bn⟩
 have hbN : ∀ l, bs env.length l = [] := by
  have := hrel.av env.length;rw [show (SS env noP tmps vs w cs bs).env env.length = .undef by show ovl env noP _ = _; rw [Yt (Xi _)]; rfl] at this;exact this
 have eR : s'.bs r = br := by show upd (upd bs r br) env.length bn r = _; rw [Y2 _ _ hrN, Y0]
 have eN : s'.bs env.length = bn := Y0 _ _ _;have eO : ∀ p, p ≠ r -> p ≠ env.length -> s'.env p = (ovl env noP p).chg (renewG r) /\ s'.tm p = ovlT tmps vs p /\ s'.cs p = cs p /\ s'.bs p = bs p := fun p h1 h2 => by
  refine ⟨?_, Y2 _ _ h2, ?_, ?_⟩
  ·show upd (upd _ r _) env.length _ p = _;rw [Y2 _ _ h2, Y2 _ _ h1]; rfl
  ·show upd (upd cs r ch') env.length cells2 p = _;rw [Y2 _ _ h2, Y2 _ _ h1]
  ·show upd (upd bs r br) env.length bn p = _;rw [Y2 _ _ h2, Y2 _ _ h1]
 have hstep : Rel c s' := by
  refine Rel.step (s := SS env noP tmps vs w cs bs) (s' := s') (renewG r) hrel (fun p => p = r \/ p = env.length) (fun a j => ∃ lf u, OwnPlace (SS env noP tmps vs w cs bs) a j lf u) (fun a => ∃ off v, PtrRel (SS env noP tmps vs w cs bs) a off v) (fun p hp => ?_) hbel (fun b hb hne => ?_) (fun p l b hp hb => ?_) (fun p l p' l' b hp hp' hb hb' => ?_) (fun p l hp => ?_) (fun p hp => ?_) (fun hk => ⟨?_, ?_, ?_⟩) (fun hk p hp => ?_)
  ·grind
  ·grind
  ·rcases hp with rfl | rfl
   ·rw [eR] at hb;obtain ⟨h1, h2⟩ := hn1 l b hb;exact ⟨h1, h2.imp id (fun ⟨l', h⟩ => ⟨p, l', .inl rfl, h⟩)⟩
   ·rw [eN] at hb;obtain ⟨h1, h2⟩ := hn2 l b hb;exact ⟨h1, h2.imp id (fun ⟨l', h⟩ => ⟨r, l', .inl rfl, h⟩)⟩
  ·rcases hp with rfl | rfl
   ·rcases hp' with rfl | rfl
    ·rw [eR] at hb hb'; exact ⟨rfl, hd1 _ _ _ hb hb'⟩
    ·rw [eR] at hb; rw [eN] at hb'; exact absurd hb' (hd3 _ _ _ hb)
   ·rcases hp' with rfl | rfl
    ·rw [eN] at hb; rw [eR] at hb'; exact absurd hb (hd3 _ _ _ hb')
    ·rw [eN] at hb hb'; exact ⟨rfl, hd2 _ _ _ hb hb'⟩
  ·rcases hp with rfl | rfl
   ·rw [eR]; exact hnd1 l
   ·rw [eN]; exact hnd2 l
  ·exact (hrel.av p).refs_own
  ·intro u t x r1 j p hL hbor;unfold renewG;simp only;by_cases h1 : r1 = r
   ·rw [X4 h1];exact ⟨rfl, Rep.one hbor.1 u (by simp)⟩
   ·rw [X2 h1];refine ⟨rfl, ?_⟩;obtain ⟨lf0, u0, h2, h3, h4⟩ := hL;have hlt : r1 < env.length := by
     apply Nat.lt_of_not_le;intro hge;have : (SS env noP tmps vs w cs bs).env r1 = .undef := by show ovl env noP r1 = _; rw [Yt hge]; rfl
     rw [this] at h2; simp [AV.leaf?] at h2
    obtain ⟨o1, o2, o3, o4⟩ := eO r1 h1 (X1k hlt);refine BorRel.keep hk ⟨fun lf u hown => ?_, by rw [o4], fun b hb => ?_⟩ hbor
    ·obtain ⟨p1, p2, p3⟩ := hown;refine ⟨?_, p2, by grind⟩;rw [o1];have p1 : (ovl env noP r1).leaf? j = some lf := p1;cases hv : ovl env noP r1 with
     | con k0 ls0 =>
      rw [hv] at p1;simp only [AV.leaf?] at p1;simp only [AV.chg, AV.leaf?];rw [Yh, p1];obtain ⟨t0, x0, m0⟩ := lf;cases m0 with
      | at_ lv => rfl
      | bor _ _ _ => simp [Mode.own] at p2
      | dead => simp [Mode.own] at p2
     | _ => rw [hv] at p1; simp [AV.leaf?] at p1
    ·exact hheap b (hrel.own _ _ _ hb).2 (fun l hl => h1 (hrel.disj _ _ _ _ _ hb hl).1)
  ·intro a r1 j p i o hL hwr;unfold renewG;simp only;by_cases h1 : r1 = r
   ·grind
   ·rw [show (r1 == r) = false from by simpa using h1];simp;obtain ⟨lf0, u0, h2, h3, h4⟩ := hL;have hlt : r1 < env.length := by
     apply Nat.lt_of_not_le;intro hge;have : (SS env noP tmps vs w cs bs).env r1 = .undef := by show ovl env noP r1 = _; rw [Yt hge]; rfl
     rw [this] at h2; simp [AV.leaf?] at h2
    obtain ⟨o1, o2, o3, o4⟩ := eO r1 h1 (X1k hlt);refine WrRel0.keep hk ⟨fun lf u hown => ?_, by rw [o4], fun b hb => ?_⟩ hwr
    ·obtain ⟨p1, p2, p3⟩ := hown;refine ⟨?_, p2, by rw [o3]; exact p3⟩;rw [o1];have p1 : (ovl env noP r1).leaf? j = some lf := p1;cases hv : ovl env noP r1 with
     | con k0 ls0 =>
      rw [hv] at p1;simp only [AV.leaf?] at p1;simp only [AV.chg, AV.leaf?];rw [Yh, p1];obtain ⟨t0, x0, m0⟩ := lf;cases m0 with
      | at_ lv => rfl
      | bor _ _ _ => simp [Mode.own] at p2
      | dead => simp [Mode.own] at p2
     | _ => rw [hv] at p1; simp [AV.leaf?] at p1
    ·exact hheap b (hrel.own _ _ _ hb).2 (fun l hl => h1 (hrel.disj _ _ _ _ _ hb hl).1)
  ·intro r1 hL _;obtain ⟨off, v, e0, ls0, B0, q1, q2, q3⟩ := hL;have q1 : ovl env noP r1 = .con (.box e0) ls0 := q1;have hlt : r1 < env.length := by
    apply Nat.lt_of_not_le;intro hge;rw [Yt hge] at q1;exact AV.noConfusion q1
   refine ⟨Y2 _ _ (X1k hlt), fun e1 ls1 h1 => ?_⟩;by_cases h2 : r1 = r
   ·subst h2;exact ⟨e, ns, by show upd (upd _ r1 _) env.length _ r1 = _; rw [Y2 _ _ hrN, Y0]⟩
   ·have h1 : ovl env noP r1 = .con (.box e1) ls1 := h1;exact ⟨e1, chgs (renewG r) ls1, by rw [(eO r1 h2 (X1k hlt)).1, h1]; rfl⟩
  ·obtain ⟨hl1, hl2⟩ := hleaf hk;rcases hp with rfl | rfl
   ·have ee : s'.env p = .con (.box e) ns := by show upd (upd _ p _) env.length _ p = _; rw [Y2 _ _ hrN, Y0]
    have et : s'.tm p = .pointer (some ⟨B, 0, none⟩) := by
     show upd (ovlT tmps vs) env.length rv p = _;rw [Y2 _ _ hrN];exact (X4 (by omega)).trans htm
    have ec : s'.cs p = ch' := by show upd (upd cs p ch') env.length cells2 p = _; rw [Y2 _ _ hrN, Y0]
    have hav := hrel.av p;rw [show (SS env noP tmps vs w cs bs).env p = .con (.box e) ls by show ovl env noP p = _; rw [Y8 hrl]; exact hr] at hav;obtain ⟨⟨B1, g1, g2, g3, g4, g5⟩, _⟩ := hav;rw [ee, et];refine ⟨⟨B, rfl, by rw [ec]; exact hBh, by rw [eR]; exact hbr0, fun hp => ?_, fun l hl => ?_⟩, by rw [ec]; exact hnl, fun l hl => by rw [eR]; exact hbrn l hl, fun l lf u hl hu => hl1 l lf u (by rw [<- Y1]; exact hl) (by grind)⟩
    ·grind
    ·grind
   ·have ee : s'.env env.length = .con k2 ls2 := Y0 _ _ _;have et : s'.tm env.length = rv := Y0 _ _ _;rw [ee, et];exact hl2
 have hbl : (renewBox r (.box e) ns env).length = env.length := by unfold renewBox; rw [Y5, Y7]
 have e1 : upd (upd (chgE (renewG r) (ovl env noP)) r (.con (.box e) ns)) env.length (.con k2 ls2) = ovl (renewBox r (.box e) ns env) (upd noP env.length (.con k2 ls2)) := by
  rw [Yd (by grind)];congr 1;funext p;by_cases hp : p < env.length
  ·rw [Y8 (by rw [hbl]; exact hp)];unfold renewBox;rw [Y4z (by rw [Y7]; exact hrl), Y83];by_cases h1 : p = r
   ·rw [h1, Y0, Y0]
   ·rw [Y2 _ _ h1, Y2 _ _ h1];show (ovl env noP p).chg _ = (get env p).chg _;rw [Y8 hp]
  ·rw [Yt (by rw [hbl]; omega), Y2 _ _ (by omega)];show (ovl env noP p).chg _ = _;rw [Yt (by omega)]; rfl
 refine ⟨by rw [hbl]; exact hlen, _, _, Rel.congr hstep e1 (Y13 (by omega) rv).symm, fun p => ?_⟩;rw [hbl, <- e1];by_cases h2 : p = env.length
 ·rw [h2, Y0, (Yc hset2).1, (Yc hset2).2];exact ⟨by simp, by simp⟩
 ·rw [Y2 _ _ h2];by_cases h1 : p = r
  ·rw [h1, Y0];refine ⟨fun q hq => ?_, by simp [AV.ptrs]⟩;simp only [AV.refs, Xj] at hq;obtain ⟨l, hl, hq⟩ := hq;rw [hset1 l hl] at hq; simp at hq
  ·rw [Y2 _ _ h1];have := Yj (Yax r) (ovl env noP p);exact ⟨fun q hq => (hno p).1 q (this.1 q hq), fun q hq => (hno p).2 q (this.2 q hq)⟩
end
theorem Y3w {b : BoxSig} : ∀ {ls : List Leaf} {n l : Nat} {lf : Leaf}, boxFits b n ls = true -> ls[l]? = some lf -> lf.m.settled = true /\ (∀ e τ, lf.t = .slice e τ -> (slotAt b.lv (n + l)).isFx = true \/ lf.m = b.md (n + l))
 | [], n, l, lf, _, hl => by simp at hl
 | a :: ls, n, 0, lf, h, hl => by
  obtain rfl : a = lf := by simpa using hl
  simp [boxFits] at h;refine ⟨h.1.1, fun e τ ht => ?_⟩;have := h.1.2;rw [ht] at this;simpa using this
 | a :: ls, n, l + 1, lf, h, hl => by
  simp [boxFits] at h;have := Y3w (n := n + 1) (l := l) h.2 (by simpa using hl)
  rwa [show n + 1 + l = n + (l + 1) by omega] at this
theorem Y7m {b : BoxSig} : ∀ {ls : List Leaf} {n l : Nat} {lf : Leaf}, boxCalm b n ls = true -> ls[l]? = some lf -> ∀ e τ, lf.t = .slice e τ -> slotAt b.lv (n + l) = .fx \/ slotAt b.lv (n + l) = .dp
 | [], n, l, lf, _, hl => by simp at hl
 | a :: ls, n, 0, lf, h, hl => by
  obtain rfl : a = lf := by simpa using hl
  simp [boxCalm] at h;intro e τ ht;have := h.1;rw [ht] at this;simp;cases hs : slotAt b.lv n <;> rw [hs] at this <;> simp_all
 | a :: ls, n, l + 1, lf, h, hl => by
  simp [boxCalm] at h;have := Y7m (n := n + 1) (l := l) h.2 (by simpa using hl)
  rwa [show n + 1 + l = n + (l + 1) by omega] at this
theorem Y7n {b : BoxSig} : ∀ {ls : List Leaf} {n l : Nat} {lf : Leaf}, boxFxRo b n ls = true -> ls[l]? = some lf -> (slotAt b.lv (n + l)).isFx = true -> lf.m.own = false
 | [], n, l, lf, _, hl => by simp at hl
 | a :: ls, n, 0, lf, h, hl => by
  obtain rfl : a = lf := by simpa using hl
  simp [boxFxRo] at h;intro hf;rcases h.1 with h1 | h1
  ·grind
  ·exact h1
 | a :: ls, n, l + 1, lf, h, hl => by
  simp [boxFxRo] at h;have := Y7n (n := n + 1) (l := l) h.2 (by simpa using hl)
  rwa [show n + 1 + l = n + (l + 1) by omega] at this
theorem Y5q : ∀ {fs : List Bool} {ss : List Slot} {l : Nat}, subFix fs ss = true -> nthB fs l = true -> (slotAt ss l).isFx = true
 | [], ss, l, _, h => by simp [nthB] at h
 | f :: fs, [], 0, h, h2 => by simp [subFix] at h; simp only [nthB] at h2; rw [h2] at h; simp at h
 | f :: fs, [], l + 1, h, h2 => by simp [subFix] at h; exact Y5q (ss := []) (l := l) h.2 h2
 | f :: fs, s :: ss, 0, h, h2 => by
  simp [subFix] at h;simp [nthB] at h2;rcases h.1 with h1 | h1
  ·grind
  ·exact h1
 | f :: fs, s :: ss, l + 1, h, h2 => by simp [subFix] at h; exact Y5q (fs := fs) (ss := ss) (l := l) h.2 h2
theorem Y45 {b : BoxSig} : ∀ {n : Nat} {ls ms : List Leaf}, ls.length = ms.length -> (mixLs b n ls ms).length = ls.length
 | n, [], [], _ => rfl
 | n, [], _ :: _, h => by simp at h
 | n, _ :: _, [], h => by simp at h
 | n, l :: ls, m :: ms, h => by simp [mixLs]; rw [Y45 (by simpa using h)]
theorem Y70 {b : BoxSig} : ∀ {n l : Nat} {ls ms : List Leaf} {lf : Leaf}, (mixLs b n ls ms)[l]? = some lf -> ((slotAt b.lv (n + l)).isFx = true /\ ls[l]? = some lf) \/ ((slotAt b.lv (n + l)).isFx = false /\ ms[l]? = some lf)
 | n, l, [], ms, lf, h => by simp [mixLs] at h
 | n, l, _ :: _, [], lf, h => by simp [mixLs] at h
 | n, 0, a :: ls, m :: ms, lf, h => by
  simp only [mixLs, Xg, X0] at h;cases hs : (slotAt b.lv n).isFx with
  | true => grind
  | false => grind
 | n, l + 1, a :: ls, m :: ms, lf, h => by
  simp only [mixLs, X1i] at h;have := Y70 (n := n + 1) (l := l) h;rw [show n + 1 + l = n + (l + 1) by omega] at this;simpa using this
def Leaf.dat (l : Leaf) : Σ t : Ty, t.D := ⟨l.t, l.x⟩
theorem Y7o {l : Leaf} {x : t.D} (h : l.as t = some x) : l.dat = ⟨t, x⟩ := by
 rw [Leaf.as_eq h]; rfl
theorem Y6b (md : Nat -> Mode) : ∀ (t : Ty) {ls : List Leaf} {x : t.D} {rest : List Leaf} (n : Nat), asm t ls = some (x, rest) -> ∃ pre, ls = pre ++ rest /\ pre.map Leaf.dat = (leaves t x md n).map Leaf.dat
 | .unit, ls, x, rest, n, h => by
  simp [asm] at h;obtain ⟨_, rfl⟩ := h;exact ⟨[], rfl, rfl⟩
 | .pair a b, ls, x, rest, n, h => by
  simp [asm] at h;cases ha : asm a ls with
  | none => rw [ha] at h; simp at h
  | some q =>
   obtain ⟨xa, ra⟩ := q;rw [ha] at h;simp only at h;cases hb : asm b ra with
   | none => rw [hb] at h; simp at h
   | some q =>
    obtain ⟨xb, rb⟩ := q;rw [hb] at h;simp at h;obtain ⟨rfl, rfl⟩ := h;obtain ⟨p1, e1, k1⟩ := Y6b md a n ha;obtain ⟨p2, e2, k2⟩ := Y6b md b (n + a.sz) hb;exact ⟨p1 ++ p2, by rw [e1, e2, X7], by simp [leaves, k1, k2]⟩
 | .int kk, ls, x, rest, n, h => by
  cases ls with
  | nil => simp [asm] at h
  | cons l ls =>
   simp [asm] at h;cases hx : l.as (.int kk) with
   | none => rw [hx] at h; simp at h
   | some y =>
    rw [hx] at h;simp at h;obtain ⟨rfl, rfl⟩ := h;exact ⟨[l], rfl, by simp only [X1y, X36, Y7o hx]; rfl⟩
 | .bool, ls, x, rest, n, h => by
  cases ls with
  | nil => simp [asm] at h
  | cons l ls =>
   simp [asm] at h;cases hx : l.as .bool with
   | none => rw [hx] at h; simp at h
   | some y =>
    rw [hx] at h;simp at h;obtain ⟨rfl, rfl⟩ := h;exact ⟨[l], rfl, by simp only [X1y, X36, Y7o hx]; rfl⟩
 | .str, ls, x, rest, n, h => by
  cases ls with
  | nil => simp [asm] at h
  | cons l ls =>
   simp [asm] at h;cases hx : l.as .str with
   | none => rw [hx] at h; simp at h
   | some y =>
    rw [hx] at h;simp at h;obtain ⟨rfl, rfl⟩ := h;exact ⟨[l], rfl, by simp only [X1y, X36, Y7o hx]; rfl⟩
 | .slice e τ, ls, x, rest, n, h => by
  cases ls with
  | nil => simp [asm] at h
  | cons l ls =>
   simp [asm] at h;cases hx : l.as (.slice e τ) with
   | none => rw [hx] at h; simp at h
   | some y =>
    rw [hx] at h;simp at h;obtain ⟨rfl, rfl⟩ := h;exact ⟨[l], rfl, by simp only [X1y, X36, Y7o hx]; rfl⟩
theorem Y29 (md : Nat -> Mode) : ∀ (t : Ty) (x : t.D) (n l : Nat) (lf : Leaf), (leaves t x md n)[l]? = some lf -> (lf.t.flatB = true /\ lf.m = .at_ .ro) \/ ((∃ e τ, lf.t = .slice e τ) /\ lf.m = md (n + l))
 | .unit, x, n, l, lf, h => by simp [leaves] at h
 | .int _, x, n, 0, lf, h => by simp only [leaves, Xg, X0] at h; subst h; exact .inl ⟨rfl, rfl⟩
 | .bool, x, n, 0, lf, h => by simp only [leaves, Xg, X0] at h; subst h; exact .inl ⟨rfl, rfl⟩
 | .str, x, n, 0, lf, h => by simp only [leaves, Xg, X0] at h; subst h; exact .inl ⟨rfl, rfl⟩
 | .slice e τ, x, n, 0, lf, h => by simp only [leaves, Xg, X0] at h; subst h; exact .inr ⟨⟨e, τ, rfl⟩, rfl⟩
 | .int _, x, n, l + 1, lf, h => by simp [leaves] at h
 | .bool, x, n, l + 1, lf, h => by simp [leaves] at h
 | .str, x, n, l + 1, lf, h => by simp [leaves] at h
 | .slice _ _, x, n, l + 1, lf, h => by simp [leaves] at h
 | .pair a b, x, n, l, lf, h => by
  simp [leaves] at h;have ha : (leaves a x.1 md n).length = a.sz := by
   have := congrArg List.length (Y11 a x.1 md n);rw [X2m] at this;rw [this, Y22]
  by_cases hl : l < a.sz
  ·rw [Xp (by omega)] at h;exact Y29 md a x.1 n l lf h
  ·rw [Xd (by omega), ha] at h;have := Y29 md b x.2 (n + a.sz) (l - a.sz) lf h
   rwa [show n + a.sz + (l - a.sz) = n + l by omega] at this
end Go.FP
