/- How Go values lie in memory, and an evaluator of code with its soundness (part 4 of 7). Conditions: those that stand in each theorem; nothing is assumed of any program. -/
import Derived.Test.YtpbgkahaplnfmaaGreatFpC

set_option linter.unusedVariables false
set_option linter.unusedSimpArgs false
set_option linter.unnecessarySimpa false

namespace Go.FP
open Go.RowKit
variable {S : Nat -> Prop} {w : World} {env : Env} {tmps : Array Value} {vs : Nat -> Value} {ps : Nat -> AV} {cs : Nat -> List Value} {bs : Nat -> Nat -> List Nat} {c : Cx} {s : St} {next : Act -> World -> Prop} {ls : List Leaf} {x : Operand} {t : Ty} {v : Value} {f : FuncId} {e : TypeId} {cells : List Value} {n : Nat} {u : Value} {rs : List (Ty × Lvl)} {k : Kind} {av : AV} {sg : Sig} {lv : Lvl} {w' : World} {xs : List (Σ t : Ty, t.D)} {te : TE}
theorem Ybp (hrel : Rel c (SS env ps tmps vs w cs bs)) {r j : Nat} {ys : List t.D} (hlv : lv.deep = true)
  (hq : (get env r).leaf? j = some ⟨.slice e t, ys, .at_ lv⟩) (h0 : 0 < ys.length) :
  ∃ B cp cells b1, (cs r)[j]? = some (.slice (some ⟨B, 0, none⟩) ys.length cp) /\ bs r (j + 1) = B :: b1 /\ El (Rep (fun _ => False) w t .dp) t.sz cells ys b1 /\ w.ownsRow 0 e t.sz (.slice (some ⟨B, 0, none⟩) ys.length cp) ys.length cells := by
 have hrl := Y1b hq
 have hav := hrel.av r
 have e1 : (SS env ps tmps vs w cs bs).env r = get env r := Y7 hrl
 rw [e1] at hav
 obtain ⟨k, ls0, hv0⟩ : ∃ k ls, get env r = .con k ls := by
  cases hv : get env r with
  | con k ls => exact ⟨k, ls, rfl⟩
  | _ => rw [hv] at hq; simp [AV.leaf?] at hq
 rw [hv0] at hav hq
 have hl0 : leafAt ls0 j = some ⟨.slice e t, ys, .at_ lv⟩ := hq
 have hlt : j < ls0.length := by rw [Y1] at hl0; exact (J6.1 hl0).1
 have g2 : ls0.length = (cs r).length := hav.2.1
 have hu : (cs r)[j]? = some ((cs r)[j]'(by omega)) := J0 (by omega)
 have hrep := (Rep.deep hlv).1 (hav.2.2.2 j _ _ hl0 hu).rep
 obtain ⟨v, cells, b0, b1, f1, f2, f3, f4⟩ := hrep
 have f1 : (cs r)[j]'(by omega) = v := by simpa using f1
 rw [f1] at hu
 obtain ⟨f4, f5⟩ := f4
 rcases f5.2 with ⟨_, hn⟩ | ⟨g, cap, cur, rfl, _⟩
 ·omega
 ·have f4 : b0 = [g] := f4
  subst f4
  exact ⟨g, cap, cells, b1, hu, f2, El.imp (fun c x b hb h => Rep.dpS h) f3, f5⟩
theorem Ydj {sz n : Nat} {B k cp : Nat} (h : w.ownsRow 0 e sz (.slice (some ⟨B, 0, none⟩) n cp) n cells) (hu : cells[k]? = some u) : w.cell? ⟨B, k, none⟩ = some u := by
 have := World.ownsRow.cells (g := B) h rfl k u hu
 rwa [Y22, J11] at this
section
variable {P : Program} {o : Oper} {a : Act} {w : World} {R : Type} {K : Env -> Option R} {r0 : R} {next : Act -> World -> Prop} {Q : Exit -> Act -> World -> Prop} {c : Cx} {d : Nat} {T : Tab} {env : Env}
theorem Ybq (hT : TabOk P T) {t : TypeId} {s x : Operand} {cl : Call} {r j oo : Nat} {i : Int} (hop : o.op = .call cl) (hc : cl.callee = .builtin .append) (hargs : cl.args.toList = [s, x]) (htys : cl.argTypes.toList = [t, t]) (hdst : o.dst = some d)
  (hr : RE c env a.tmps w) (hd : d < env.length) (ht : elemAt T t = some te) (hs : nestOf env s = some (r, j, i, oo)) (hK : appendN d te r j i oo x env K = some r0) (hn : Next c a K r0 env.length next) : o.wp P a w next Q := by simp [nestOf] at hs
end
theorem Y2x : ∀ (t : Ty) {x y : t.D} {o : Nat} {l : Leaf}, updLeafD t x o l = some y -> ∃ q, leafD t x o = some q /\ l.t = q.1
 | .int k, x, y, o, l, h => by
  simp only [updLeafD] at h
  split at h
  ·rename_i ho
   have := Leaf.as_eq h
   exact ⟨⟨.int k, x⟩, by simp [leafD, ho], by rw [this]⟩
  ·simp at h
 | .bool, x, y, o, l, h => by
  simp only [updLeafD] at h
  split at h
  ·rename_i ho
   have := Leaf.as_eq h
   exact ⟨⟨.bool, x⟩, by simp [leafD, ho], by rw [this]⟩
  ·simp at h
 | .str, x, y, o, l, h => by
  simp only [updLeafD] at h
  split at h
  ·rename_i ho
   have := Leaf.as_eq h
   exact ⟨⟨.str, x⟩, by simp [leafD, ho], by rw [this]⟩
  ·simp at h
 | .slice e t, x, y, o, l, h => by
  simp only [updLeafD] at h
  split at h
  ·rename_i ho
   have := Leaf.as_eq h
   exact ⟨⟨.slice e t, x⟩, by simp [leafD, ho], by rw [this]⟩
  ·simp at h
 | .unit, x, y, o, l, h => by simp [updLeafD] at h
 | .pair a b, x, y, o, l, h => by
  simp [updLeafD] at h
  split at h
  ·rename_i ho
   split at h
   ·rename_i z hz
    obtain ⟨q, h1, h2⟩ := Y2x a hz
    exact ⟨q, by simp [leafD]; rw [J3 ho]; exact h1, h2⟩
   ·simp at h
  ·rename_i ho
   split at h
   ·rename_i z hz
    obtain ⟨q, h1, h2⟩ := Y2x b hz
    exact ⟨q, by simp [leafD]; rw [J4 ho]; exact h1, h2⟩
   ·simp at h
section
variable {P : Program} {o : Oper} {a : Act} {w : World} {R : Type} {K : Env -> Option R} {r0 : R} {next : Act -> World -> Prop} {Q : Exit -> Act -> World -> Prop} {c : Cx} {d : Nat} {T : Tab} {env : Env}
theorem Y9m (hT : TabOk P T) {t : TypeId} {x v : Operand} {s r j oo : Nat} {i : Int} {l : Leaf} (hop : o.op = .store t x v) (hdst : o.dst = none) (hr : RE c env a.tmps w) (hg : growOf env v = some (s, r, j, i, oo, l)) (ht : T.ty t = some l.t)
  (hK : storeGrow s r j i oo l x env K = some r0) (hn : Next c a K r0 env.length next) : o.wp P a w next Q := by simp [growOf] at hg
end
abbrev Places := List (Nat × Nat × Leaf)
theorem Y1z (L : Places) (r : Nat) : ∀ (k : Nat) (ls : List Leaf) (l : Nat), (renewLs L r k ls)[l]? = (ls[l]?).map fun lf => (lookM L r (k + l)).getD lf
 | k, [], l => by simp [renewLs]
 | k, u :: ls, 0 => by simp [renewLs]
 | k, u :: ls, l + 1 => by simp [renewLs, Y1z L r (k + 1) ls l, J24, Nat.add_comm 1 l]
theorem Y2y (L : Places) (r : Nat) : ∀ (k : Nat) (ls : List Leaf), (renewLs L r k ls).length = ls.length
 | k, [] => rfl
 | k, u :: ls => by simp [renewLs, Y2y L r (k + 1) ls]
theorem Y5i (L : Places) : ∀ (k : Nat) (env : Env) (r : Nat), get (renewEnv L k env) r = (get env r).renew L (k + r)
 | k, [], r => by simp [renewEnv, get, AV.renew]
 | k, u :: env, 0 => by simp [renewEnv, get]
 | k, u :: env, r + 1 => by simp [renewEnv, get, Y5i L (k + 1) env r, J24, Nat.add_comm 1 r]
theorem Y45 (L : Places) : ∀ (k : Nat) (env : Env), (renewEnv L k env).length = env.length
 | k, [] => rfl
 | k, u :: env => by simp [renewEnv, Y45 L (k + 1) env]
theorem Y24 (L : Places) (env : Env) : (syncs L env).length = env.length := by unfold syncs; rw [Y45, Y8]
theorem Ycp (L : Places) (env : Env) (r : Nat) : get (syncs L env) r = ((get env r).chg (syncsG L)).renew L r := by unfold syncs; rw [Y5i, Yw, J11]
theorem Ybr {L : Places} {r : Nat} (h : ∀ j, lookM L r j = none) (v : AV) : v.renew L r = v := by
 cases v with
 | con k ls =>
  simp only [AV.renew, AV.con.injEq, true_and]
  apply J1z
  intro l
  rw [Y1z, h]
  cases ls[l]? <;> rfl
 | _ => rfl
theorem Yao (L : Places) : Fewer (syncsG L) := fun r j p l => by
 simp [syncsG]
 split
 ·cases p with
  | nil => exact .inr rfl
  | cons a p => exact .inl rfl
 ·exact .inr rfl
theorem Ybs {L : Places} (hL : ∀ q j n, lookM L q j = some n -> ∃ lv, n.m = .at_ lv) (r : Nat) (v : AV) : (∀ z ∈ (v.renew L r).refs, z ∈ v.refs) /\ (∀ z ∈ (v.renew L r).ptrs, z ∈ v.ptrs) := by
 cases v with
 | con k ls =>
  refine ⟨fun z hz => ?_, fun z hz => hz⟩
  simp only [AV.renew, AV.refs, Je] at hz ⊢
  obtain ⟨lf, hlf, hz⟩ := hz
  obtain ⟨l, hl⟩ := Jx hlf
  rw [Y1z] at hl
  obtain ⟨lf0, hl0, rfl⟩ := Jp.1 hl
  cases hk : lookM L r (0 + l) with
  | none => grind
  | some n =>
   rw [hk] at hz
   obtain ⟨lv, hm⟩ := hL _ _ _ hk
   obtain ⟨t, x, m⟩ := n
   subst hm
   simp [Leaf.refs] at hz
 | _ => exact ⟨fun z hz => hz, fun z hz => hz⟩
theorem RP.syncsAt (hlen : env.length = tmps.size) (hrel : Rel c (SS env noP tmps vs w cs bs)) (hno : ∀ r, (∀ q ∈ (ovl env noP r).refs, q.1 < env.length) /\ (∀ q ∈ (ovl env noP r).ptrs, q < env.length)) {L : Places} (hL : ∀ q j n, lookM L q j = some n -> ∃ x lv, (get env q).leaf? j = some ⟨n.t, x, .at_ lv⟩ /\ n.m = .at_ lv /\ lv.deep = true) (hbel : Below c.base w w')
  (hheap : ∀ b, b < w.heap.size -> (∀ q j n, lookM L q j = some n -> b ∉ bs q (j + 1)) -> w'.heap[b]? = w.heap[b]?)
  (bd : Nat -> Nat -> List Nat)
  (hbd1 : ∀ q j n, lookM L q j = some n -> ∀ b ∈ bd q j, b < w'.heap.size /\ (w.heap.size <= b \/ ∃ q' j' n', lookM L q' j' = some n' /\ b ∈ bs q' (j' + 1)))
  (hbd2 : ∀ q j n, lookM L q j = some n -> (bd q j).Nodup)
  (hbd3 : ∀ q j n q' j' n' b, lookM L q j = some n -> lookM L q' j' = some n' -> b ∈ bd q j -> b ∈ bd q' j' -> q = q' /\ j = j')
  (hrep : ∀ q j n u, lookM L q j = some n -> (cs q)[j]? = some u -> Rep (fun _ => False) w' n.t .dp [u] n.x (bd q j)) :
  RP c (syncs L env) tmps w' noP vs := by
 let g : Chg := syncsG L
 let s : St := SS env noP tmps vs w cs bs
 let bs' : Nat -> Nat -> List Nat := fun p l => match l with
  | 0 => bs p 0
  | j + 1 => match lookM L p j with | some _ => bd p j | none => bs p (j + 1)
 let E : Nat -> AV := fun p => ((ovl env noP p).chg g).renew L p
 let s' : St := ⟨E, ovlT tmps vs, w', cs, bs'⟩
 let D : Nat -> Prop := fun p => ∃ j n, lookM L p j = some n
 have eb0 : ∀ p, s'.bs p 0 = bs p 0 := fun p => rfl
 have ebS : ∀ {p j n}, lookM L p j = some n -> s'.bs p (j + 1) = bd p j := fun {p j n} h => by show (match lookM L p j with | some _ => bd p j | none => bs p (j + 1)) = _; rw [h]
 have ebN : ∀ {p j}, lookM L p j = none -> s'.bs p (j + 1) = bs p (j + 1) := fun {p j} h => by show (match lookM L p j with | some _ => bd p j | none => bs p (j + 1)) = _; rw [h]
 have part : ∀ p l b, b ∈ s'.bs p l -> (b ∈ bs p l /\ ∀ j, l = j + 1 -> lookM L p j = none) \/ ∃ j n, l = j + 1 /\ lookM L p j = some n /\ b ∈ bd p j := by
  intro p l b hb
  cases l with
  | zero => exact .inl ⟨hb, fun j h => by omega⟩
  | succ j =>
   cases hk : lookM L p j with
   | none => rw [ebN hk] at hb; exact .inl ⟨hb, fun j' h => by rw [<- Nat.succ.inj h]; exact hk⟩
   | some n => rw [ebS hk] at hb; exact .inr ⟨j, n, rfl, hk, hb⟩
 have hsame : ∀ p, ¬ D p -> s'.env p = (s.env p).chg g /\ s'.tm p = s.tm p /\ s'.cs p = s.cs p /\ s'.bs p = s.bs p := fun p hp => by
  have hn : ∀ j, lookM L p j = none := fun j => by
   cases hk : lookM L p j with
   | none => rfl
   | some n => exact absurd ⟨j, n, hk⟩ hp
  refine ⟨Ybr hn _, rfl, rfl, ?_⟩
  funext l
  cases l with
  | zero => rfl
  | succ j => exact ebN (hn j)
 have hne : ∀ (p i b : Nat), lookM L p i = none -> b ∈ bs p (i + 1) -> w'.heap[b]? = w.heap[b]? := fun p i b hk hb =>
  hheap b (hrel.own _ _ _ hb).2 (fun q j n hq hb2 => by
   obtain ⟨rfl, h2⟩ := hrel.disj _ _ _ _ _ hb hb2
   obtain rfl : i = j := by omega
   rw [hk] at hq; simp at hq)
 have hne0 : ∀ (p b : Nat), b ∈ bs p 0 -> w'.heap[b]? = w.heap[b]? := fun p b hb =>
  hheap b (hrel.own _ _ _ hb).2 (fun q j n hq hb2 => by have := (hrel.disj _ _ _ _ _ hb hb2).2; omega)
 -- a root that is changed
 have hcon : ∀ p j n, lookM L p j = some n -> ∃ k ls0, get env p = .con k ls0 /\ p < env.length := fun p j n hk => by
  obtain ⟨x, lv, h1, _, _⟩ := hL p j n hk
  cases hv : get env p with
  | con k ls => exact ⟨k, ls, rfl, Yx hv⟩
  | _ => rw [hv] at h1; simp [AV.leaf?] at h1
 have eEcon : ∀ {p k ls0}, ovl env noP p = .con k ls0 -> s'.env p = .con k (renewLs L p 0 (chgs g ls0)) := fun {p k ls0} h => by
  show ((ovl env noP p).chg g).renew L p = _
  rw [h]; rfl
 have hleafN : ∀ {p i lf}, lookM L p i = none -> (s.env p).leaf? i = some lf -> lf.m.own = true -> (s'.env p).leaf? i = some lf := fun {p i lf} hk h1 h2 => by
  have h1 : (ovl env noP p).leaf? i = some lf := h1
  cases hv : ovl env noP p with
  | con k ls =>
   rw [hv] at h1
   rw [eEcon hv]
   have h1 : leafAt ls i = some lf := h1
   show leafAt _ i = _
   rw [Y1, Y1z, J11, hk, <- Y1, Yc, h1]
   simp [Y7d h2]
  | _ => rw [hv] at h1; simp [AV.leaf?] at h1
 have hstay : ∀ p i, lookM L p i = none -> SamePl s s' p i := fun p i hk =>
  ⟨fun lf u ⟨o1, o2, o3⟩ => ⟨hleafN hk o1 o2, o2, o3⟩, ebN hk, fun b hb => hne p i b hk hb⟩
 have hown : ∀ p i n u, lookM L p i = some n -> (cs p)[i]? = some u -> OwnPlace s' p i n u := fun p i n u hk hu => by
  obtain ⟨x, lv, h1, h2, h3⟩ := hL p i n hk
  obtain ⟨k, ls0, hv, hp⟩ := hcon p i n hk
  refine ⟨?_, by rw [h2]; exact Y9k h3, hu⟩
  rw [eEcon (by rw [Y7 hp, hv])]
  rw [hv] at h1
  have h1 : leafAt ls0 i = some _ := h1
  show leafAt _ i = _
  rw [Y1, Y1z, J11, hk, <- Y1, Yc, h1]
  rfl
 have hptr : ∀ p, SamePtr s s' p := fun p => ⟨rfl, fun e ls he => ⟨e, _, eEcon he⟩⟩
 have hgL : Keeps c s s' -> ChgLeaf c s s' g (fun _ _ => True) := by
  intro hk u' t' x' p i pa _ hbor
  cases hpi : lookM L p i with
  | none =>
   have hf : g.f p i pa ⟨t', x', .bor p i pa⟩ = ⟨t', x', .bor p i pa⟩ := by simp [g, syncsG, hpi]
   rw [hf]
   exact ⟨rfl, hbor.keep hk (hstay p i hpi)⟩
  | some n =>
   cases pa with
   | nil =>
    have hf : g.f p i [] ⟨t', x', .bor p i []⟩ = ⟨n.t, n.x, .bor p i []⟩ := by simp [g, syncsG, hpi]
    rw [hf]
    refine ⟨rfl, ?_⟩
    obtain ⟨_, ⟨lf', u2, ⟨o1, o2, o3⟩, h5⟩, _⟩ := hbor
    obtain ⟨mm, _, rfl⟩ := h5 rfl
    refine ⟨?_, ⟨n, u2, hown p i n u2 hpi o3, fun _ => ⟨_, rfl, rfl⟩⟩, fun _ _ hp => by simp at hp⟩
    refine Rep.move (fun b hb _ => ⟨?_, rfl⟩) (by simp) (Rep.ro (hrep p i n u2 hpi o3))
    rcases hb with hb | hb
    ·exact absurd hb id
    ·exact .inr (by rw [ebS hpi]; exact hb)
   | cons z pa =>
    have hf : g.f p i (z :: pa) ⟨t', x', .bor p i (z :: pa)⟩ = Leaf.lost ⟨t', x', .bor p i (z :: pa)⟩ := by simp [g, syncsG, hpi]
    rw [hf]
    exact ⟨rfl, Rep.one hbor.1 u' (by simp)⟩
 have hgW : Keeps c s s' -> ChgWr c s s' g (fun _ _ => True) := by
  intro hk a p i pa ii oo _ hw
  show if (lookM L p i).isSome = true then _ else _
  cases hpi : lookM L p i with
  | some n => simp only [Option.isSome_some, if_true]; exact .inl rfl
  | none =>
   simp only [Option.isSome_none, Ju, if_false]
   have := Y10 (L := fun p i => lookM L p i = none) hk (fun p i hL => hstay p i hL) a p i pa ii oo hpi hw
   simpa [noG] using this
 have hmain : Rel c s' := by
  refine Rel.step (s' := s') g hrel D (fun _ _ => True) (fun _ => True) hsame hbel
   (fun b hb hD => hheap b hb (fun q j n hq => hD q (j + 1) ⟨j, n, hq⟩)) (fun p l b hD hb => ?_) (fun p1 l1 p2 l2 b hD hD' hb1 hb2 => ?_) (fun p l hD => ?_) (fun p _ => ⟨fun _ _ => trivial, fun _ _ => trivial⟩) (fun hkp => ⟨hgL hkp, hgW hkp, fun p hL _ => hptr p⟩) (fun hkp p hD => ?_)
  ·rcases part p l b hb with ⟨h1, _⟩ | ⟨j, n, rfl, h1, h2⟩
   ·exact ⟨J17 (hrel.own _ _ _ h1).2 hbel.size, .inr ⟨p, l, hD, h1⟩⟩
   ·obtain ⟨k1, k2⟩ := hbd1 p j n h1 b h2
    refine ⟨k1, ?_⟩
    rcases k2 with k2 | ⟨q', j', n', k3, k4⟩
    ·exact .inl k2
    ·exact .inr ⟨q', j' + 1, ⟨j', n', k3⟩, k4⟩
  ·have key : ∀ p l j n q, b ∈ bs p l -> (∀ i, l = i + 1 -> lookM L p i = none) -> lookM L q j = some n -> b ∈ bd q j -> False := by
    intro p l j n q h1 h2 h3 h4
    rcases (hbd1 q j n h3 b h4).2 with k2 | ⟨q', j', n', k3, k4⟩
    ·have : b < w.heap.size := (hrel.own _ _ _ h1).2
     omega
    ·obtain ⟨rfl, h5⟩ := hrel.disj _ _ _ _ _ h1 k4
     rw [h2 j' h5] at k3; simp at k3
   rcases part p1 l1 b hb1 with ⟨h1, h1'⟩ | ⟨j1, n1, rfl, h1, h1'⟩ <;> rcases part p2 l2 b hb2 with ⟨h2, h2'⟩ | ⟨j2, n2, rfl, h2, h2'⟩
   ·exact hrel.disj _ _ _ _ _ h1 h2
   ·exact (key _ _ _ _ _ h1 h1' h2 h2').elim
   ·exact (key _ _ _ _ _ h2 h2' h1 h1').elim
   ·obtain ⟨rfl, rfl⟩ := hbd3 _ _ _ _ _ _ _ h1 h2 h1' h2'
    exact ⟨rfl, rfl⟩
  ·cases l with
   | zero => exact hrel.nodup _ _
   | succ j =>
    cases hk : lookM L p j with
    | none => rw [ebN hk]; exact hrel.nodup _ _
    | some n => rw [ebS hk]; exact hbd2 p j n hk
  ·obtain ⟨j0, n0, hk0⟩ := hD
   obtain ⟨k, ls0, hv, hp⟩ := hcon p j0 n0 hk0
   have hv' : ovl env noP p = .con k ls0 := by rw [Y7 hp, hv]
   have hav := hrel.av p
   rw [show (SS env noP tmps vs w cs bs).env p = .con k ls0 from hv'] at hav
   obtain ⟨g1, g2, g3, g4⟩ := hav
   rw [eEcon hv']
   refine ⟨?_, by rw [Y2y, Ys]; exact g2, fun l hl' => ?_, fun l lf u' hl' hu' => ?_⟩
   ·rw [eb0]
    cases k with
    | val => exact g1
    | agg => exact g1
    | tup sh => exact g1
    | tupB i n sh =>
     obtain ⟨B, vs0, c0, c1, k1, k2, k3, k4, k5, k6⟩ := g1
     have k5 : bs p 0 = [B] := k5
     exact ⟨B, vs0, c0, c1, k1, k2, k3, (hne0 p B (by rw [k5]; simp)).trans k4, k5, k6⟩
    | box e =>
     obtain ⟨B, k1, k2, k3, k9⟩ := g1
     have k3 : bs p 0 = [B] := k3
     exact ⟨B, k1, (hne0 p B (by rw [k3]; simp)).trans k2, k3, k9⟩
   ·rw [Y2y, Ys] at hl'
    cases hk : lookM L p l with
    | none => rw [ebN hk]; exact g3 l hl'
    | some n =>
     exfalso
     obtain ⟨x, lv, h1, _, _⟩ := hL p l n hk
     rw [hv] at h1
     have h1 : leafAt ls0 l = some _ := h1
     rw [Y1] at h1
     have := (J6.1 h1).1
     omega
   ·have hu' : (cs p)[l]? = some u' := hu'
    rw [Y1, Y1z, J11, <- Y1, Yc] at hl'
    obtain ⟨lfg, hlg, rfl⟩ := Jp.1 hl'
    obtain ⟨lf0, hlf0, rfl⟩ := Jp.1 hlg
    cases hk : lookM L p l with
    | none =>
     exact (g4 l lf0 u' hlf0 hu').chg hkp (hgL hkp) (fun z hz => trivial) (ebN hk) (fun b hb => hne p l b hk hb)
    | some n =>
     obtain ⟨x, lv, h1, h2, h3⟩ := hL p l n hk
     rw [hv] at h1
     have h1 : leafAt ls0 l = some _ := h1
     rw [hlf0] at h1
     simp only [J2] at h1
     subst h1
     have hpin := (g4 l _ u' hlf0 hu').pin
     have hr := hrep p l n u' hk hu'
     obtain ⟨t, y, m⟩ := n
     simp only at h2 hr
     subst h2
     refine LeafRel.of_rep hpin ?_
     rw [ebS hk]
     exact (Rep.deep h3).2 (Rep.dpS hr)
 have eE : s'.env = ovl (syncs L env) noP := by
  funext p
  by_cases hp : p < env.length
  ·rw [Y7 (by rw [Y24]; exact hp), Ycp]
   show ((ovl env noP p).chg g).renew L p = _
   rw [Y7 hp]
  ·rw [Ye (by rw [Y24]; omega)]
   show ((ovl env noP p).chg g).renew L p = _
   rw [Ye (by omega)]
   rfl
 refine ⟨by rw [Y24]; exact hlen, cs, s'.bs, Rel.congr hmain eE rfl, fun p => ?_⟩
 rw [<- eE, Y24]
 have h1 := Ybs (L := L) (fun q j n hk => let ⟨_, lv, _, h, _⟩ := hL q j n hk; ⟨lv, h⟩) p ((ovl env noP p).chg g)
 have h2 := Yi (Yao L) (ovl env noP p)
 exact ⟨fun z hz => (hno p).1 z (h2.1 z (h1.1 z hz)), fun z hz => (hno p).2 z (h2.2 z (h1.2 z hz))⟩
theorem Y4z : ∀ {t : Ty}, t.flatB = true -> ∀ t' ∈ flat t, t'.flatB = true
 | .int k, _, t', h => by simp [flat] at h; subst h; rfl
 | .bool, _, t', h => by simp [flat] at h; subst h; rfl
 | .str, _, t', h => by simp [flat] at h; subst h; rfl
 | .slice _ _, hf, _, _ => by simp [Ty.flatB] at hf
 | .unit, _, t', h => by simp [flat] at h
 | .pair a b, hf, t', h => by
  simp [Ty.flatB] at hf
  simp [flat] at h
  rcases h with h | h
  ·exact Y4z hf.1 t' h
  ·exact Y4z hf.2 t' h
theorem Y2z : ∀ {rs : List (Ty × Lvl)} {xs : List (Σ t : Ty, t.D)} {sh : List (Bool × Nat)} {ls : List Leaf}, allFlat rs = true -> resLeaves rs xs = some (sh, ls) -> ∀ lf ∈ ls, lf.t.flatB = true
 | [], [], sh, ls, _, h, lf, hl => by
  simp [resLeaves] at h
  obtain ⟨rfl, rfl⟩ := h
  simp at hl
 | [], _ :: _, sh, ls, _, h, lf, hl => by simp [resLeaves] at h
 | _ :: _, [], sh, ls, _, h, lf, hl => by simp [resLeaves] at h
 | (t, fr) :: rs, x :: xs, sh, ls, ha, h, lf, hl => by
  simp [allFlat] at ha
  simp only [resLeaves] at h
  split at h
  ·cases hr : resLeaves rs xs with
   | none => rw [hr] at h; simp at h
   | some q =>
    obtain ⟨sh', ls'⟩ := q
    rw [hr] at h
    simp at h
    obtain ⟨rfl, rfl⟩ := h
    rcases J7.1 hl with hl | hl
    ·obtain ⟨lf0, hl0, rfl⟩ := J1d.1 hl
     have : lf0.t ∈ flat t := by rw [<- Yj t _ (newMode fr) 0]; exact J1d.2 ⟨lf0, hl0, rfl⟩
     exact Y4z ha.1 _ this
    ·exact Y2z ha.2 hr lf hl
  ·simp at h
theorem Ybt (hf : allFlat rs = true) (ha : resAV rs xs = some (.con k ls)) : ∀ lf ∈ ls, lf.t.flatB = true := by
 unfold resAV at ha
 cases hr : resLeaves rs xs with
 | none => grind
 | some q =>
  obtain ⟨sh, ls'⟩ := q
  rw [hr] at ha
  simp [mkCon] at ha
  split at ha
  ·simp at ha
   rw [<- ha.2]; exact Y2z hf hr
  ·simp at ha
   rw [<- ha.2]; exact Y2z hf hr
theorem Y46 {lv m : Lvl} : ∀ (t : Ty) (x : t.D) (n : Nat), ∀ lf ∈ leaves t x (fun _ => .at_ lv) n, lf.t.flatB = false -> lf.m = .at_ m -> m = lv
 | .int k, x, n, lf, h, hf, hm => by simp [leaves] at h; rw [h] at hf; simp [Ty.flatB] at hf
 | .bool, x, n, lf, h, hf, hm => by simp [leaves] at h; rw [h] at hf; simp [Ty.flatB] at hf
 | .str, x, n, lf, h, hf, hm => by simp [leaves] at h; rw [h] at hf; simp [Ty.flatB] at hf
 | .slice e t, x, n, lf, h, hf, hm => by simp [leaves] at h; rw [h] at hm; simpa using hm.symm
 | .unit, x, n, lf, h, hf, hm => by simp [leaves] at h
 | .pair a b, x, n, lf, h, hf, hm => by
  simp [leaves] at h
  rcases h with h | h
  ·exact Y46 a _ _ _ h hf hm
  ·exact Y46 b _ _ _ h hf hm
structure MutSet (env : Env) (ls ns : List Leaf) (L : Places) : Prop where
 len : ls.length = ns.length
 here : ∀ (i : Nat) (l n : Leaf), ls[i]? = some l -> ns[i]? = some n -> (l.t.flatB = true /\ l.m.live = true) \/ (l.t.flatB = false /\ ∃ (r j : Nat) (t0 : Ty) (x0 : t0.D) (lv : Lvl), l.m = .bor r j [] /\ (get env r).leaf? j = some ⟨t0, x0, .at_ lv⟩ /\ lv.deep = true /\ lookM L r j = some ⟨n.t, n.x, .at_ lv⟩)
 back : ∀ (r j : Nat) (m : Leaf), lookM L r j = some m -> ∃ (i : Nat) (l n : Leaf) (lv : Lvl) (t0 : Ty) (x0 : t0.D), ls[i]? = some l /\ ns[i]? = some n /\ l.t.flatB = false /\ l.m = .bor r j [] /\ m = ⟨n.t, n.x, .at_ lv⟩ /\ lv.deep = true /\ (get env r).leaf? j = some ⟨t0, x0, .at_ lv⟩
 uniq : ∀ (i i' : Nat) (l l' : Leaf) (r j : Nat), ls[i]? = some l -> ls[i']? = some l' -> l.t.flatB = false -> l'.t.flatB = false -> l.m = .bor r j [] -> l'.m = .bor r j [] -> i = i'
theorem Y6g : ∀ {ls ns : List Leaf} {L : Places}, mutSet env ls ns = some L -> MutSet env ls ns L
 | [], [], L, h => by
  simp [mutSet] at h
  subst h
  exact ⟨rfl, by simp, fun r j m h => by simp [lookM] at h, by simp⟩
 | [], _ :: _, L, h => by simp [mutSet] at h
 | _ :: _, [], L, h => by simp [mutSet] at h
 | l :: ls, n :: ns, L, h => by
  simp [mutSet] at h
  split at h
  ·simp at h
  ·rename_i L0 h0
   obtain ⟨k1, k2, k3, k4⟩ := Y6g h0
   split at h
   ·rename_i hf
    split at h
    ·rename_i hlv
     simp at h
     subst h
     refine ⟨by simp [k1], fun i l' n' hl hn => ?_, fun r j m hm => ?_, fun i i' l1 l2 r j h1 h2 f1 f2 m1 m2 => ?_⟩
     ·cases i with
      | zero => grind
      | succ i => exact k2 i l' n' hl hn
     ·obtain ⟨i, h⟩ := k3 r j m hm
      exact ⟨i + 1, h⟩
     ·grind
    ·simp at h
   ·rename_i hf
    have hf : l.t.flatB = false := by simpa using hf
    split at h
    ·rename_i r0 j0 hm0
     split at h
     ·rename_i t0 x0 lv hpl
      split at h
      ·rename_i hc
       obtain ⟨hd, hnone⟩ := hc
       have hnone : lookM L0 r0 j0 = none := by grind
       simp at h
       subst h
       have look : ∀ r j, ¬ (r = r0 /\ j = j0) -> lookM ((r0, j0, (⟨n.t, n.x, .at_ lv⟩ : Leaf)) :: L0) r j = lookM L0 r j := fun r j h => by simp only [lookM]; rw [J4 h]
       have look0 : lookM ((r0, j0, (⟨n.t, n.x, .at_ lv⟩ : Leaf)) :: L0) r0 j0 = some ⟨n.t, n.x, .at_ lv⟩ := by simp [lookM]
       have tail : ∀ (i : Nat) (l' : Leaf), ls[i]? = some l' -> l'.t.flatB = false -> l'.m ≠ .bor r0 j0 [] := fun i l' h1 f1 m1 => by grind
       refine ⟨by simp [k1], fun i l' n' hl hn => ?_, fun r j m hm => ?_, fun i i' l1 l2 r j h1 h2 f1 f2 m1 m2 => ?_⟩
       ·grind
       ·by_cases hrj : r = r0 /\ j = j0
        ·obtain ⟨rfl, rfl⟩ := hrj
         rw [look0] at hm
         simp at hm
         subst hm
         exact ⟨0, l, n, lv, t0, x0, rfl, rfl, hf, hm0, rfl, hd, hpl⟩
        ·rw [look r j hrj] at hm
         obtain ⟨i, h⟩ := k3 r j m hm
         exact ⟨i + 1, h⟩
       ·grind
      ·simp at h
     ·simp at h
    ·simp at h
def MutOk (c : Cx) (env : Env) (tmps : Array Value) (w : World) (vs : Nat -> Value) (bs : Nat -> Nat -> List Nat) (t : Ty) (cells : List Value) (ls : List Leaf) (x y : t.D) (L : Places) : Prop :=
 ∃ b0 : List Nat, Rep (fun _ => False) w t .dp cells x b0 /\ b0.Nodup /\ (∀ b ∈ b0, ∃ q ∈ ls.flatMap Leaf.refs, b ∈ bs q.1 (q.2 + 1)) /\
  ∀ (w' : World) (b1 : List Nat), Below c.base w w' -> (∀ b, b < w.heap.size -> b ∉ b0 -> w'.heap[b]? = w.heap[b]?) -> Rep (fun _ => False) w' t .dp cells y b1 -> b1.Nodup -> (∀ b ∈ b1, b ∈ b0 \/ w.heap.size <= b) -> RP c (syncs L env) tmps w' noP vs
section
variable {c : Cx} {env : Env} {tmps : Array Value} {w : World} {vs : Nat -> Value} {cs : Nat -> List Value} {bs : Nat -> Nat -> List Nat}
theorem Y81 {bds : List (List Nat)} {l b : Nat} (h : b ∈ bds.getD l []) : l < bds.length := by grind
theorem Yeb (hlen : env.length = tmps.size) (hrel : Rel c (SS env noP tmps vs w cs bs)) (hno : ∀ r, (∀ q ∈ (ovl env noP r).refs, q.1 < env.length) /\ (∀ q ∈ (ovl env noP r).ptrs, q < env.length)) {x y : t.D} {L : Places}
  (hv : ValC c (SS env noP tmps vs w cs bs) (.con k ls) v cells) (hty : typedAs ls t = true) (hx : asm t ls = some (x, [])) (hM : mutSet env ls (leaves t y (fun _ => .at_ .dp) 0) = some L) : MutOk c env tmps w vs bs t cells ls x y L := by
 obtain ⟨k1, k2, k3, k4⟩ := Y6g hM
 obtain ⟨g1, g2, g3⟩ := hv
 have hty' : ls.map Leaf.t = flat t := by simpa [typedAs] using hty
 -- a row's place
 have place : ∀ (i : Nat) (l : Leaf) (u : Value) (r j : Nat) (t0 : Ty) (x0 : t0.D) (lv : Lvl), ls[i]? = some l -> cells[i]? = some u -> l.m = .bor r j [] -> (get env r).leaf? j = some ⟨t0, x0, .at_ lv⟩ -> lv.deep = true -> (cs r)[j]? = some u /\ t0 = l.t /\ Rep (fun _ => False) w l.t .dp [u] l.x (bs r (j + 1)) := by
  intro i l u r j t0 x0 lv hl hu hm hp hd
  have h6 := g3 i l u (by rw [Y1]; exact hl) hu
  obtain ⟨lt, lx, lm⟩ := l
  simp only at hm
  subst hm
  obtain ⟨_, ⟨lf', u', ⟨o1, o2, o3⟩, h5⟩, _⟩ := h6
  obtain ⟨mm, rfl, rfl⟩ := h5 rfl
  have hrl : r < env.length := Y1b hp
  have o1 : (ovl env noP r).leaf? j = some _ := o1
  rw [Y7 hrl, hp] at o1
  simp at o1
  obtain ⟨rfl, hx0, rfl⟩ := o1
  have hx0 : x0 = lx := J32 hx0
  subst hx0
  refine ⟨o3, rfl, ?_⟩
  have hav := hrel.av r
  rw [show (SS env noP tmps vs w cs bs).env r = get env r from Y7 hrl] at hav
  cases hv : get env r with
  | con kk ls0 =>
   rw [hv] at hav hp
   exact Rep.dpS ((Rep.deep hd).1 (hav.2.2.2 j _ _ hp o3).rep)
  | _ => rw [hv] at hp; simp [AV.leaf?] at hp
 let F : Nat -> List Nat := fun i => match ls[i]? with
  | some l => if l.t.flatB then [] else (match l.m with | .bor r j _ => bs r (j + 1) | _ => [])
  | none => []
 have hFi : ∀ {i : Nat} {l : Leaf}, ls[i]? = some l -> F i = if l.t.flatB then [] else (match l.m with | .bor r j _ => bs r (j + 1) | _ => []) := fun {i l} h => by grind
 have hns : (leaves t y (fun _ => .at_ .dp) 0).length = ls.length := k1.symm
 have hF : ∀ (i b : Nat), b ∈ F i -> ∃ (l : Leaf) (r j : Nat), ls[i]? = some l /\ l.t.flatB = false /\ l.m = .bor r j [] /\ b ∈ bs r (j + 1) := by grind
 have hFb : ∀ {i : Nat} {l : Leaf} {r j : Nat}, ls[i]? = some l -> l.t.flatB = false -> l.m = .bor r j [] -> F i = bs r (j + 1) := fun {i l r j} h1 h2 h3 => by grind
 obtain ⟨c0, c1, e0, _, e2, e3, _⟩ := Y2g (S := fun _ => False) (w := w) (L := .dp) (F := F) t (k := 0) hx g2 (fun l lf u hl hu => by
  rw [J11]
  have hlt : l < (leaves t y (fun _ => .at_ .dp) 0).length := by grind
  rcases k2 l lf _ hl (J0 hlt) with ⟨h1, h2⟩ | ⟨h1, r, j, t0, x0, lv, m1, m2, m3, _⟩
  ·have h6 := (g3 l lf u (by rw [Y1]; exact hl) hu).rep (S := fun _ => True) h2 (fun _ _ => trivial) (fun _ _ _ _ => trivial)
   rw [hFi hl, h1]
   exact (Rep.flat h1 h6).2
  ·grind)
 have hc1 : c1 = [] := Jj.1 (by rw [<- e2]; rfl)
 subst hc1
 rw [Ji] at e0
 subst e0
 have hFnd : ∀ i, (F i).Nodup := fun i => by
  cases hl : ls[i]? with
  | none => grind
  | some l =>
   rw [hFi hl]
   split
   ·exact J13
   ·split
    ·exact hrel.nodup _ _
    ·exact J13
 have hFd : ∀ i i' b, b ∈ F i -> b ∈ F i' -> i = i' := fun i i' b h1 h2 => by
  obtain ⟨l, r, j, a1, a2, a3, a4⟩ := hF i b h1
  obtain ⟨l', r', j', b1, b2, b3, b4⟩ := hF i' b h2
  obtain ⟨rfl, hj⟩ := hrel.disj _ _ _ _ _ a4 b4
  obtain rfl : j = j' := by omega
  exact k4 i i' l l' r j a1 b1 a2 b2 a3 b3
 refine ⟨(List.range' 0 t.sz).flatMap F, e3, Y2a hFnd hFd _ _, fun b hb => ?_, fun w' b1 hbel hsame hrep' hnd1 hnew => ?_⟩
 ·simp at hb
  obtain ⟨i, _, hb⟩ := hb
  obtain ⟨l, r, j, a1, a2, a3, a4⟩ := hF i b hb
  exact ⟨(r, j), Je.2 ⟨l, J9 a1, by simp [Leaf.refs, a3]⟩, a4⟩
 ·obtain ⟨n1, n2, bds, n3, n4, n5⟩ := Y2i .dp t 0 hrep'
  rw [n4] at hnd1 hnew
  obtain ⟨d1, d2⟩ := Yz hnd1
  have hb0 : ∀ b, b ∈ (List.range' 0 t.sz).flatMap F -> ∃ q' j' n', lookM L q' j' = some n' /\ b ∈ bs q' (j' + 1) := fun b hb => by grind
  have hb0' : ∀ q j n, lookM L q j = some n -> ∀ b ∈ bs q (j + 1), b ∈ (List.range' 0 t.sz).flatMap F := fun q j n hk b hb => by grind
  -- which leaf
  have idx : ∀ q j n, lookM L q j = some n -> ∃ (i : Nat), (∃ (l nn : Leaf), ls[i]? = some l /\ (leaves t y (fun _ => .at_ .dp) 0)[i]? = some nn /\ l.t.flatB = false /\ l.m = .bor q j [] /\ nn.t = n.t /\ HEq nn.x n.x) := fun q j n hk => by grind
  classical
  let bd : Nat -> Nat -> List Nat := fun q j => if h : ∃ (i : Nat) (l : Leaf), ls[i]? = some l /\ l.t.flatB = false /\ l.m = .bor q j [] then bds.getD (Classical.choose h) [] else []
  have hbd : ∀ {q j i : Nat} {l : Leaf}, ls[i]? = some l -> l.t.flatB = false -> l.m = .bor q j [] -> bd q j = bds.getD i [] := fun {q j i l} h1 h2 h3 => by
   have hex : ∃ (i : Nat) (l : Leaf), ls[i]? = some l /\ l.t.flatB = false /\ l.m = .bor q j [] := ⟨i, l, h1, h2, h3⟩
   show (if h : _ then _ else _) = _
   rw [dif_pos hex]
   obtain ⟨l', e1, e2, e3⟩ := Classical.choose_spec hex
   rw [k4 _ _ _ _ _ _ e1 h1 e2 h2 e3 h3]
  have hLok : ∀ q j n, lookM L q j = some n -> ∃ x lv, (get env q).leaf? j = some ⟨n.t, x, .at_ lv⟩ /\ n.m = .at_ lv /\ lv.deep = true := fun q j n hk => by
   obtain ⟨i, l, nn, lv, t0, x0, a1, a2, a3, a4, a5, a6, a7⟩ := k3 q j n hk
   have hcl : i < cells.length := by rw [<- g2]; exact (J6.1 a1).1
   obtain ⟨_, p2, _⟩ := place i l _ q j t0 x0 lv a1 (J0 hcl) a4 a7 a6
   have htt : nn.t = l.t := by
    have h1 : ((leaves t y (fun _ => .at_ .dp) 0).map Leaf.t)[i]? = some nn.t := by rw [J14, a2]; rfl
    have h2 : (ls.map Leaf.t)[i]? = some l.t := by rw [J14, a1]; rfl
    rw [Yj, <- hty', h2] at h1
    exact (Jh h1).symm
   subst a5
   have e : nn.t = t0 := by rw [htt, p2]
   exact ⟨e ▸ x0, lv, by rw [a7]; cases e; rfl, rfl, a6⟩
  refine RP.syncsAt hlen hrel hno hLok hbel (fun b hb hD => hsame b hb (fun hb2 => ?_)) bd (fun q j n hk b hb => ?_) (fun q j n hk => ?_) (fun q j n q' j' n' b hk hk' hb hb' => ?_) (fun q j n u hk hu => ?_)
  ·grind
  ·obtain ⟨i, l, nn, a1, a2, a3, a4, _⟩ := idx q j n hk
   rw [hbd a1 a3 a4] at hb
   have hi := Y81 hb
   obtain ⟨m, _, hr⟩ := n5 i nn (cells[i]'(by omega)) a2 (J0 (by omega))
   refine ⟨Rep.lt hr b hb, ?_⟩
   rcases hnew b (Ym hb) with h | h
   ·exact .inr (hb0 b h)
   ·exact .inl h
  ·grind
  ·obtain ⟨i, l, nn, a1, a2, a3, a4, _⟩ := idx q j n hk
   obtain ⟨i', l', nn', b1, b2, b3, b4, _⟩ := idx q' j' n' hk'
   rw [hbd a1 a3 a4] at hb
   rw [hbd b1 b3 b4] at hb'
   have := d2 i i' b hb hb'
   subst this
   rw [a1] at b1
   simp at b1
   subst b1
   rw [a4] at b4
   simp at b4
   exact b4
  ·obtain ⟨i, l, nn, lv, t0, x0, a1, a2, a3, a4, a5, a6, a7⟩ := k3 q j n hk
   have hcl : i < cells.length := by rw [<- g2]; exact (J6.1 a1).1
   obtain ⟨p1, p2, _⟩ := place i l _ q j t0 x0 lv a1 (J0 hcl) a4 a7 a6
   rw [hu] at p1
   obtain rfl := Jh p1
   obtain ⟨m, hm, hr⟩ := n5 i nn _ a2 (J0 hcl)
   rw [hbd a1 a3 a4]
   subst a5
   have hmode := Y1y t y 0 nn (J9 a2)
   have hnf : nn.t.flatB = false := by
    have h1 : ((leaves t y (fun _ => .at_ .dp) 0).map Leaf.t)[i]? = some nn.t := by rw [J14, a2]; rfl
    have h2 : (ls.map Leaf.t)[i]? = some l.t := by rw [J14, a1]; rfl
    rw [Yj, <- hty', h2] at h1
    rw [<- Jh h1]; exact a3
   have hmd : m = .dp := Y46 t y 0 nn (J9 a2) hnf hm
   subst hmd
   exact hr
end
theorem Yec {q : Leaf} {x : t.D} (h : asm t [q] = some (x, [])) (hl : ∀ n, (leaves t x (fun _ => .at_ .dp) n).length = 1) {b : List Nat} (hq : Rep S w q.t lv [u] q.x b) : Rep S w t lv [u] x b := by
 have hsz : t.sz = 1 := by
  have := congrArg List.length (Yj t x (fun _ => .at_ .dp) 0)
  rw [J1o, hl, Y1j] at this
  exact this.symm
 obtain ⟨c0, c1, e0, _, e2, e3, _⟩ := Y2g (S := S) (w := w) (L := lv) (F := fun _ => b) (cells := [u]) t (k := 0) h rfl (fun l lf u' hl hu => by grind)
 have hc1 : c1 = [] := Jj.1 (by rw [<- e2]; rfl)
 subst hc1
 rw [Ji] at e0
 subst e0
 rw [hsz] at e3
 simpa using e3
section
variable {c : Cx} {env : Env} {tmps : Array Value} {w : World} {vs : Nat -> Value} {cs : Nat -> List Value} {bs : Nat -> Nat -> List Nat}
theorem Ydk (hlen : env.length = tmps.size) (hrel : Rel c (SS env noP tmps vs w cs bs)) (hno : ∀ r, (∀ q ∈ (ovl env noP r).refs, q.1 < env.length) /\ (∀ q ∈ (ovl env noP r).ptrs, q < env.length)) {ls' : List Leaf} {x y : t.D} {L : Places} {e0 : TypeId} {t0 : Ty} {x0 : List t0.D} {r j : Nat} {i : Int} {o : Nat} {n : Leaf}
  (hv : ValC c (SS env noP tmps vs w cs bs) (.con k [⟨.slice e0 t0, x0, .bor r j [(i, o)]⟩]) v cells) (hty : typedAs [⟨.slice e0 t0, x0, .bor r j [(i, o)]⟩] t = true) (hnow : argNow env [⟨.slice e0 t0, x0, .bor r j [(i, o)]⟩] = some ls') (hx : asm t ls' = some (x, [])) (hn : leaves t y (fun _ => .at_ .dp) 0 = [n]) (hM : mutNest env r j i o n = some L) : MutOk c env tmps w vs bs t cells [⟨.slice e0 t0, x0, .bor r j [(i, o)]⟩] x y L := by
 obtain ⟨g1, g2, g3⟩ := hv
 obtain ⟨u, rfl⟩ : ∃ u, cells = [u] := J16.1 g2.symm
 have hty' : [Ty.slice e0 t0] = flat t := by simpa [typedAs] using hty
 have hlen1 : ∀ z m, (leaves t z (fun _ => .at_ .dp) m).length = 1 := fun z m => by
  have := congrArg List.length (Yj t z (fun _ => .at_ .dp) m)
  rw [J1o, <- hty'] at this
  exact this
 have hnt : n.t = .slice e0 t0 := by
  have := Yj t y (fun _ => .at_ .dp) 0
  rw [hn, <- hty'] at this
  simpa using this
 obtain ⟨_, _, h5⟩ := g3 0 _ u rfl rfl
 obtain ⟨ad, ⟨_, lf, uP, ⟨o1, _, o3⟩, k6⟩, k7⟩ := h5 _ _ rfl
 obtain ⟨e, te, xs, m', B, nn, cp, m1, m2, hi0, hin, m5⟩ := k6 rfl
 subst m1
 -- the place
 unfold mutNest at hM
 split at hM
 ·rename_i e2 te2 xs2 lv hq
  have hrl : r < env.length := Y1b hq
  have o1 : (ovl env noP r).leaf? j = some _ := o1
  rw [Y7 hrl, hq] at o1
  simp [Ty.slice.injEq] at o1
  obtain ⟨⟨rfl, rfl⟩, hxx, rfl⟩ := o1
  subst hxx
  split at hM
  ·rename_i hlv
   split at hM
   ·rename_i y' hy
    simp at hM
    subst hM
    simp only [argNow, hq] at hnow
    split at hnow
    ·rename_i q hleaf
     simp only [J2] at hnow
     subst hnow
     have hgetD : xs2.getD i.toNat te2.dflt = xs2[i.toNat] := by simp [hin]
     rw [hgetD] at hy hleaf
     obtain ⟨B2, cp2, cells, b1, n1, n2, n3, n4⟩ := Ybp hrel hlv hq (by omega)
     rw [m2, n1] at o3
     simp [J2z] at o3
     obtain ⟨rfl, rfl, rfl⟩ := o3
     obtain ⟨pre, ch, post, z0, z1, z2, f1, f2, f3, f4, f5, f6⟩ := El.at2 i.toNat hin n3
     obtain ⟨u1, bA, bl, bB, h1, h2, h3, h4⟩ := Rep.leafAt te2 f5 hleaf
     have hoo : o < te2.sz := by grind
     have hcell : w.cell? ⟨B2, i.toNat * te2.sz + o, none⟩ = some u1 := by
      refine Ydj n4 ?_
      rw [f1, J5, Jb (by omega), Jl (by omega), f2, show i.toNat * te2.sz + o - i.toNat * te2.sz = o by omega]
      exact h1
     rw [m5, hcell] at k7
     obtain rfl := Jh k7
     have hqt : q.1 = n.t := by
      obtain ⟨q2, e1, e2⟩ := Y2x te2 hy
      rw [hleaf] at e1
      rw [e2, Jh e1]
     -- blocks
     have hnd : (B2 :: b1).Nodup := by rw [<- n2]; exact hrel.nodup r (j + 1)
     rw [f4] at hnd
     have hmem : ∀ b ∈ B2 :: b1, c.base <= b /\ b < w.heap.size := fun b hb => let q := hrel.own r (j + 1) b (by grind); ⟨q.1.1, q.2⟩
     have hnd1 := (J1m.1 hnd).2
     have hbl1 : ∀ b ∈ bl, b ∈ z0 ++ z1 ++ z2 := fun b hb => by grind
     have hblnd : bl.Nodup := by grind
     have hnb : ∀ b, b ∈ z0 ++ z2 \/ b ∈ bA ++ bB \/ b = B2 -> b ∉ bl := by grind
     have hlt : ∀ b ∈ z0 ++ z1 ++ z2, b < w.heap.size := fun b hb => (hmem b (J1 _ (by grind))).2
     refine ⟨bl, Yec hx (hlen1 x) h3, hblnd, fun b hb => ⟨(r, j), by simp [Leaf.refs], ?_⟩, fun w' b2 hbel hsame hrep' hnd2 hnew => ?_⟩
     ·grind
     ·obtain ⟨p1, p2, bds, p3, p4, p5⟩ := Y2i .dp t 0 hrep'
      rw [hn] at p1 p5
      obtain ⟨bb, rfl⟩ : ∃ bb, bds = [bb] := J16.1 p3
      have p4 : b2 = bb := by rw [p4]; simp
      subst p4
      obtain ⟨m, hm, hrn⟩ := p5 0 n u1 rfl rfl
      have hmd : m = .dp := Y46 t y 0 n (by rw [hn]; simp) (by rw [hnt]; rfl) hm
      subst hmd
      have hrn : Rep (fun _ => False) w' n.t .dp [u1] n.x b2 := hrn
      have old : ∀ b, b ∈ z0 ++ z2 \/ b ∈ bA ++ bB \/ b = B2 -> b < w.heap.size -> w'.heap[b]? = w.heap[b]? := fun b hb hl => hsame b hl (hnb b hb)
      obtain ⟨y2, e1, hup⟩ := h4 (fun _ => False) w' u1 n b2 hqt.symm hrn (fun _ h => h.elim) (fun b hb => old b (.inr (.inl hb)) (hlt b (by
       rw [h2]
       simp at hb ⊢
       rcases hb with h | h <;> simp [h])))
      rw [hy] at e1
      obtain rfl := Jh e1
      have hch : ch.set o u1 = ch := by
       apply J1z
       intro k
       rw [List.getElem?_set]
       split
       ·rename_i hk
        subst hk
        split
        ·exact h1.symm
        ·omega
       ·rfl
      rw [hch] at hup
      have hel' := f6 (Rep (fun _ => False) w' te2 .dp) (fun c' x' b' hb' h' => Rep.move (fun _ h => h.elim) (fun b hb => old b (.inl (hb' b hb)) (hlt b (by
       have := hb' b hb
       simp at this ⊢
       rcases this with h | h <;> simp [h]))) h') ch y' (bA ++ b2 ++ bB) f3 hup
      rw [<- f1] at hel'
      have hBlt : B2 < w.heap.size := (hmem B2 (by simp)).2
      have hlook : ∀ q' j' n', lookM [(r, j, (⟨.slice e2 te2, xs2.set i.toNat y', .at_ lv⟩ : Leaf))] q' j' = some n' -> q' = r /\ j' = j /\ n' = ⟨.slice e2 te2, xs2.set i.toNat y', .at_ lv⟩ := fun q' j' n' h => by
       simp only [lookM] at h
       split at h
       ·rename_i hc
        exact ⟨hc.1, hc.2, (Jh h).symm⟩
       ·simp at h
      have hblt : ∀ b ∈ b2, b < w'.heap.size := Rep.lt hrn
      -- the place's blocks now
      have hall : ∀ b, b ∈ B2 :: (z0 ++ (bA ++ b2 ++ bB) ++ z2) -> b ∈ b2 \/ ((b ∈ z0 ++ z2 \/ b ∈ bA ++ bB \/ b = B2) /\ b ∈ bs r (j + 1)) := by grind
      have hb2out : ∀ b ∈ b2, ¬ (b ∈ z0 ++ z2 \/ b ∈ bA ++ bB \/ b = B2) := by
       intro b hb hc
       rcases hnew b hb with h | h
       ·exact hnb b hc h
       ·have : b ∈ B2 :: (z0 ++ z1 ++ z2) := by
         rw [h2]
         simp at hc ⊢
         rcases hc with (h | h) | (h | h) | h <;> simp [h]
        have := (hmem b (by rw [f4]; exact this)).2
        omega
      refine RP.syncsAt (L := [(r, j, (⟨.slice e2 te2, xs2.set i.toNat y', .at_ lv⟩ : Leaf))]) hlen hrel hno (fun q' j' n' h => ?_) hbel (fun b hb hD => hsame b hb (fun hbl => ?_)) (fun _ _ => B2 :: (z0 ++ (bA ++ b2 ++ bB) ++ z2)) (fun q' j' n' h b hb => ?_) (fun q' j' n' h => ?_) (fun q1 j1 n1 q2 j2 n2 b h1 h2 _ _ => ?_) (fun q' j' n' uu h hu => ?_)
      ·obtain ⟨rfl, rfl, rfl⟩ := hlook _ _ _ h
       exact ⟨xs2, lv, hq, rfl, hlv⟩
      ·refine hD r j _ (by simp [lookM]; rfl) ?_
       rw [n2, f4]
       exact J1 _ (hbl1 b hbl)
      ·obtain ⟨rfl, rfl, rfl⟩ := hlook _ _ _ h
       rcases hall b hb with h | ⟨_, h⟩
       ·refine ⟨hblt b h, ?_⟩
        rcases hnew b h with h | h
        ·refine .inr ⟨q', j', _, by simp [lookM]; rfl, ?_⟩
         rw [n2, f4]
         exact J1 _ (hbl1 b h)
        ·exact .inl h
       ·exact ⟨J17 (hrel.own _ _ _ h).2 hbel.size, .inr ⟨q', j', _, by simp [lookM]; rfl, h⟩⟩
      ·rw [h2] at hnd
       have h0 : (B2 :: (z0 ++ (bA ++ bB) ++ z2)).Nodup := hnd.sublist (by
        refine List.Sublist.cons_cons _ (J2e (J2e (J2k _) ?_) (J2k _))
        rw [J5]
        exact J2e (J2k _) (List.sublist_append_right _ _))
       have hperm : List.Perm (B2 :: (z0 ++ (bA ++ b2 ++ bB) ++ z2)) (b2 ++ (B2 :: (z0 ++ (bA ++ bB) ++ z2))) := by
        rw [List.perm_iff_count]
        intro a
        simp only [List.count_cons, List.count_append]
        omega
       refine hperm.nodup_iff.2 (Jz.2 ⟨hnd2, h0, fun a ha b hb e => ?_⟩)
       subst e
       refine hb2out a ha ?_
       simp only [Jy, J7] at hb ⊢
       rcases hb with h | (h | h | h) | h <;> simp [h]
      ·grind
      ·obtain ⟨rfl, rfl, rfl⟩ := hlook _ _ _ h
       rw [n1] at hu
       obtain rfl := Jh hu
       refine ⟨_, cells, [B2], z0 ++ (bA ++ b2 ++ bB) ++ z2, rfl, rfl, hel', rfl, ?_⟩
       rw [Jw]
       exact Y3b n4 (fun k hk => by
        have : B2 = k := by simpa [Value.ownBlock] using hk
        subst this
        exact old B2 (.inr (.inr rfl)) hBlt)
    ·simp at hnow
   ·simp at hM
  ·simp at hM
 ·simp at hM
end
section
variable {P : Program} {o : Oper} {a : Act} {w : World} {R : Type} {K : Env -> Option R} {r : R} {next : Act -> World -> Prop} {Q : Exit -> Act -> World -> Prop} {c : Cx} {d : Nat} {T : Tab} {env : Env} {sig : FuncId -> Option Sig} {caps : FuncId -> List Ty} {orc : Orc}
theorem Yap {ls ls' : List Leaf} (h : argNow env ls = some ls') : ls' = ls \/ ∃ e0 t0 x0 r j i o, ls = [⟨.slice e0 t0, x0, .bor r j [(i, o)]⟩] := by
 unfold argNow at h
 split at h
 ·grind
 ·grind
theorem Yed (hlen : env.length = tmps.size) (hrel : Rel c (SS env noP tmps vs w cs bs)) (hno : ∀ r, (∀ q ∈ (ovl env noP r).refs, q.1 < env.length) /\ (∀ q ∈ (ovl env noP r).ptrs, q < env.length)) {ls ls' : List Leaf} {x y : t.D} {L : Places}
  (hv : ValC c (SS env noP tmps vs w cs bs) (.con k ls) v cells) (hty : typedAs ls t = true) (hnow : argNow env ls = some ls') (hx : asm t ls' = some (x, [])) (hM : mutOf env ls (leaves t y (fun _ => .at_ .dp) 0) = some L) : MutOk c env tmps w vs bs t cells ls x y L := by
 generalize hns : leaves t y (fun _ => .at_ .dp) 0 = ns at hM
 unfold mutOf at hM
 split at hM
 ·exact Ydk hlen hrel hno hv hty hnow hx hns hM
 ·rename_i hne
  rcases Yap hnow with rfl | ⟨e0, t0, x0, r, j, i, o, rfl⟩
  ·subst hns
   exact Yeb hlen hrel hno hv hty hx hM
  ·exfalso
   have hlen1 : ns.length = 1 := by
    have h1 := congrArg List.length (Yj t y (fun _ => .at_ .dp) 0)
    have hty' : [Ty.slice e0 t0] = flat t := by simpa [typedAs] using hty
    rw [J1o, <- hty', hns] at h1
    exact h1
   obtain ⟨n, rfl⟩ := J16.1 hlen1
   exact hne _ _ _ _ _ _ _ _ rfl rfl
theorem Y7e {qs : List (Nat × Nat)} {v : AV} (h : apart qs v = true) : (∀ q ∈ v.refs, q ∉ qs) /\ (∀ r ∈ v.ptrs, ∀ q ∈ qs, r ≠ q.1) := by
 simp only [apart, Jm, Jg, J2m, Bool.and_eq_false_iff, beq_eq_false_iff_ne] at h
 refine ⟨fun q hq hm => ?_, fun r hr q hq => h.2 r hr q hq⟩
 have := h.1 q hq q hm
 rcases this with h | h <;> exact h rfl
theorem Ydl (hO : OrcOk P sig orc) {cl : Call} {extra : List AV} {ex : List Value} (hop : o.op = .call cl) (hdst : o.dst = some d) (hr : RE c env a.tmps w) (hd : d < env.length)
  (hrun : Enterable P f -> (execOp a.eval o).run P w = .ok (.enter f (cl.args.map (evT a.tmps) ++ ex.toArray)) w) (hex : ∀ vs cs bs, Rel c (SS env noP a.tmps vs w cs bs) -> ValCs c (SS env noP a.tmps vs w cs bs) extra ex) (hsg : sig f = some sg) (hbx : sg.box = none /\ sg.newb = none) (hm : sg.muts = true) (how : sg.own = false) (hK : callM caps orc (some d) f sg cl.args.toList extra env K = some r) (hn : Next c a K r env.length next) : o.wp P a w next Q := by
 unfold callM at hK
 split at hK
 ·rename_i t ps a0 as hps has
  split at hK
  ·rename_i k ls hrd
   simp only at hK
   split at hK
   ·rename_i hc
    obtain ⟨⟨hk, hty⟩, ⟨hl1, hl2⟩, hfl, hap⟩ := hc
    cases hnow : argNow env ls with
    | none => grind
    | some ls' =>
     rw [hnow] at hK
     simp at hK
     split at hK
     ·rename_i x hx
      split at hK
      ·simp at hK
      ·rename_i rvs hrv
       split at hK
       ·simp at hK
       ·rename_i q hq
        obtain ⟨z0, hres, hK⟩ := Js.1 hK
        obtain ⟨hent, hspec⟩ := hO f sg _ q z0 hsg hq hres
        rw [hbx.1, hbx.2, hm, how] at hspec
        obtain ⟨t', x0, rest, y, ys, e1, e2, hspec⟩ := hspec
        simp at e1
        obtain ⟨⟨rfl, e1⟩, rfl⟩ := e1
        subst e1
        rw [e2] at hK
        simp [dif_pos] at hK
        split at hK
        ·simp at hK
        ·rename_i L hM
         cases hra : resAV sg.results ys with
         | none => grind
         | some av =>
          rw [hra] at hK
          obtain ⟨vs, hlen, cs, bs, hrel, hno⟩ := hr
          obtain ⟨cells, hv⟩ := Yn hlen hrel (some t) a0
          rw [hrd] at hv
          obtain ⟨b0, hrep, hnd, hin, hafter⟩ := Yed hlen hrel hno hv hty hnow hx hM
          have hval : evT a.tmps a0 = mkV t.isAgg cells := by
           obtain ⟨g1, _⟩ := hv
           subst hk
           unfold Ty.kind at g1
           split at g1
           ·rename_i ha
            rw [ha]; exact g1.1
           ·rename_i ha
            have ha : t.isAgg = false := by simpa using ha
            rw [ha, g1.1]; rfl
          generalize hvs : rdArgs env ps as ++ extra = avs at *
          have hargl : as.length <= ps.length := by rw [<- hl1, hl2]; omega
          have hvals : ValCs c (SS env noP a.tmps vs w cs bs) avs (as.map (evT a.tmps) ++ ex) := by
           rw [<- hvs]
           exact (Y3m hlen hrel hargl).1.append (hex vs cs bs hrel)
          let S : Nat -> Prop := fun b => RoS c (SS env noP a.tmps vs w cs bs) b \/ (∃ v ∈ avs, ∃ q ∈ v.refs, b ∈ bs q.1 (q.2 + 1)) \/ ∃ v ∈ avs, ∃ q ∈ v.ptrs, ∃ l, b ∈ bs q l
          have hrvr : RVRels S w rvs (as.map (evT a.tmps) ++ ex) :=
           Y4n hrel (fun b hb => .inl hb) hvals hrv (fun v hv q hq b hb => .inr (.inl ⟨v, hv, q, hq, hb⟩)) (fun v hv q hq l b hb => .inr (.inr ⟨v, hv, q, hq, l, hb⟩))
          have hS : ∀ b, S b -> b ∉ b0 := by
           intro b hb hb0
           obtain ⟨q, hq, hbq⟩ := hin b hb0
           rcases hb with hb | ⟨v, hv, q', hq', hb⟩ | ⟨v, hv, q', hq', l, hb⟩
           ·exact hb.1 _ _ hbq
           ·have := Y7e (Jg.1 hap v hv)
            obtain ⟨h1, h2⟩ := hrel.disj _ _ _ _ _ hb hbq
            refine this.1 q' hq' ?_
            have : q' = q := Prod.ext h1 (by omega)
            rw [this]; exact hq
           ·have := Y7e (Jg.1 hap v hv)
            exact this.2 q' hq' q hq (hrel.disj _ _ _ _ _ hb hbq).1
          have hb0 : ∀ b ∈ b0, c.base <= b := fun b hb => let ⟨q, _, h⟩ := hin b hb; (hrel.own _ _ _ h).1.1
          unfold Oper.wp
          rw [hrun hent]
          have hargs : cl.args.map (evT a.tmps) ++ ex.toArray = (mkV t.isAgg cells :: (as.map (evT a.tmps) ++ ex)).toArray := by simp_all
          rw [hargs]
          refine J2h (hspec S w cells _ b0 c.base hrep hnd hb0 hrel.base hrvr hS) ?_
          rintro e w' ⟨chs, bsx, b1, rfl, hb, hsame, hrep', hnd1, hnew, hres'⟩
          rw [hdst]
          have hRP := hafter w' b1 hb hsame hrep' hnd1 hnew
          obtain ⟨k', ls2, rfl, h1, h2, h3, bds, h4, h5, h6⟩ := Y43 hres' hra
          have hflat := Ybt hfl hra
          have hmode := Y3l hra
          have hsl : (syncs L env).length = env.length := Y24 _ _
          have hadd := hRP.addVal (n := (syncs L env).length) (Jc _) rfl (av := .con k' ls2) (v := resVal sg.results chs) (fun cs' bs' hrel' => by
           refine ⟨chs.flatten, h1.bare rfl, h2, fun l lf u hl hu => ?_⟩
           rw [Y1] at hl
           obtain ⟨m, hm', hr'⟩ := h6 l lf u hl hu
           have hf := hflat lf (J9 hl)
           have hmd := hmode lf (J9 hl)
           obtain ⟨lt, lx, lm⟩ := lf
           simp only at hm' hr'
           subst hm'
           exact ⟨(Rep.flat hf hr').2, by cases m <;> first | trivial | exact absurd rfl (hmd _)⟩) (by
           have := Yf (k := k') h3
           rw [this.1, this.2]
           exact ⟨by simp, by simp⟩)
          have := RE.commit hadd (by rw [hsl]; exact hd)
          rw [Y0] at this
          exact hn _ _ _ hK this (by rw [Y19, hsl]) rfl
     ·simp at hK
   ·simp at hK
  ·simp at hK
 ·simp at hK
end
theorem Y4j (hlen : env.length = tmps.size) (h : Rel c (SS env ps tmps vs w cs bs)) : ∀ {ptys : List PTy} {args : List Operand}, args.length <= ptys.length -> ValCs c (SS env ps tmps vs w cs bs) (rdArgs env ptys args) (args.map (evT tmps))
 | [], [], _ => rfl
 | p :: ptys, [], _ => rfl
 | [], x :: args, hl => by simp at hl
 | p :: ptys, x :: args, hl => ⟨_, _, rfl, Yn hlen h _ x, Y4j hlen h (ptys := ptys) (args := args) (by simpa using hl)⟩
section
variable {P : Program} {o : Oper} {a : Act} {w : World} {R : Type} {K : Env -> Option R} {r : R} {next : Act -> World -> Prop} {Q : Exit -> Act -> World -> Prop} {c : Cx} {d : Nat} {T : Tab} {env : Env} {sig : FuncId -> Option Sig} {caps : FuncId -> List Ty} {orc : Orc}
theorem RP.handed (hlen : env.length = tmps.size) (hr : Rel c (SS env ps tmps vs w cs bs)) (hno : ∀ r, (∀ q ∈ (ovl env ps r).refs, q.1 < env.length) /\ (∀ q ∈ (ovl env ps r).ptrs, q < env.length)) (hn : env.length <= n) {x : t.D} (hp : ps n = .con .val [⟨t, x, .at_ .dp⟩]) :
  Rep (fun _ => False) w t .dp [vs n] x (bs n 1) /\ ∀ (w' : World) (v' : Value) (y : t.D) (b1 : List Nat), Below c.base w w' -> (∀ b, b < w.heap.size -> b ∉ bs n 1 -> w'.heap[b]? = w.heap[b]?) -> Rep (fun _ => False) w' t .dp [v'] y b1 -> b1.Nodup -> (∀ b ∈ b1, b ∈ bs n 1 \/ w.heap.size <= b) ->
   RP c env tmps w' (upd ps n (.con .val [⟨t, y, .at_ .dp⟩])) (upd vs n v') := by
 obtain ⟨hrep, hb0, hcn⟩ := Y2l hlen hr hn hp
 refine ⟨Rep.dpS hrep, fun w' v' y b1 hb hh hrep' hnd hin => ?_⟩
 have e : upd (upd ps n .undef) n (.con .val [⟨t, y, .at_ .dp⟩]) = upd ps n (.con .val [⟨t, y, .at_ .dp⟩]) := by
  funext r; simp [upd]; split <;> rfl
 have := RP.reformAt hlen hr hno (n := n) (m := n) hn hn (av := .con .val [⟨t, y, .at_ .dp⟩]) (v := v') (w' := w') ⟨by simp [AV.refs, Leaf.refs], by simp [AV.ptrs]⟩ hb (fun b hb' hne => hh b hb' (hne 1)) [v'] (fun l => if l = 1 then b1 else []) ?_ ?_ ?_ ?_
 ·grind
 ·intro l b hb'
  by_cases hl : l = 1
  ·subst hl
   rw [J3 rfl] at hb'
   refine ⟨Rep.lt hrep' b hb', ?_⟩
   rcases hin b hb' with h | h
   ·grind
   ·exact .inl h
  ·grind
 ·grind
 ·grind
 ·intro s' hk
  have ebs : s'.bs n = fun l => if l = 1 then b1 else [] := Y0 _ _ _
  have ecs : s'.cs n = [v'] := Y0 _ _ _
  refine ⟨⟨ecs, by rw [ebs]; rfl⟩, by rw [ecs]; rfl, fun l hl => ?_, fun l lf u hl hu => ?_⟩
  ·rw [ebs]
   simp at hl
   exact J4 (by omega)
  ·rw [ecs] at hu
   have hl0 : l = 0 := by grind
   subst hl0
   obtain rfl : lf = ⟨t, y, .at_ .dp⟩ := by simpa [leafAt] using hl.symm
   obtain rfl : u = v' := by grind
   refine LeafRel.of_rep trivial ?_
   rw [ebs]
   exact Rep.dpS hrep'
theorem Ydm (hO : OrcOk P sig orc) {cl : Call} {extra : List AV} {ex : List Value} (hop : o.op = .call cl) (hdst : o.dst = some d) (hr : RE c env a.tmps w) (hd : d < env.length)
  (hrun : Enterable P f -> (execOp a.eval o).run P w = .ok (.enter f (cl.args.map (evT a.tmps) ++ ex.toArray)) w) (hex : ∀ vs cs bs, Rel c (SS env noP a.tmps vs w cs bs) -> ValCs c (SS env noP a.tmps vs w cs bs) extra ex) (hsg : sig f = some sg) (hbx : sg.box = none /\ sg.newb = none) (hm : sg.muts = true) (how : sg.own = true) (hK : callO caps orc (some d) f sg cl.args.toList extra env K = some r) (hn : Next c a K r env.length next) : o.wp P a w next Q := by
 unfold callO at hK
 split at hK
 ·rename_i t ps a0 as hps has
  split at hK
  ·rename_i env2 l hg
   split at hK
   ·rename_i x hx
    simp only at hK
    split at hK
    ·rename_i hc
     obtain ⟨⟨hex0, hlm, hagg⟩, ⟨hl1, hl2⟩, hap⟩ := hc
     split at hK
     ·simp at hK
     ·rename_i rvs hrv
      split at hK
      ·simp at hK
      ·rename_i q hq
       obtain ⟨z0, hres, hK⟩ := Js.1 hK
       obtain ⟨hent, hspec⟩ := hO f sg _ q z0 hsg hq hres
       rw [hbx.1, hbx.2, hm, how] at hspec
       obtain ⟨t', x0, rest, y, e1, e2, hspec⟩ := hspec
       simp at e1
       obtain ⟨⟨rfl, e1⟩, rfl⟩ := e1
       subst e1
       rw [e2] at hK
       simp at hK
       have hex0 : extra = [] := by grind
       subst hex0
       obtain ⟨vs, hRP⟩ := hr
       have hexv : ex = [] := by
        obtain ⟨_, cs, bs, hrel, _⟩ := hRP
        exact hex vs cs bs hrel
       subst hexv
       obtain ⟨hl, h1⟩ := Y44 hRP (fun _ => .inl rfl) hg (n := env.length) (Jc _) rfl
       have hle := Leaf.as_eq hx
       rw [hlm] at hle
       rw [hle] at h1
       obtain ⟨hlen, cs, bs, hrel, hno⟩ := h1
       obtain ⟨hrep, hafter⟩ := RP.handed hlen hrel hno (n := env.length) (by omega) (Y0 _ _ _)
       rw [Y0] at hrep
       have hb0 : ∀ b ∈ bs env.length 1, c.base <= b := fun b hb => (hrel.own _ _ _ hb).1.1
       have hargl : as.length <= ps.length := by omega
       have hvals := Y4j hlen hrel hargl
       have hap' : ∀ v ∈ rdArgs env2 ps as, v.refs = [] /\ v.ptrs = [] := by grind
       have hrvr : RVRels (RoS c (SS env2 (upd noP env.length (.con .val [⟨t, x, .at_ .dp⟩])) a.tmps (upd vs env.length (evT a.tmps a0)) w cs bs)) w rvs (as.map (evT a.tmps)) :=
        Y4n hrel (fun b hb => hb) hvals hrv (fun v hv q hq => by rw [(hap' v hv).1] at hq; simp at hq) (fun v hv q hq => by grind)
       unfold Oper.wp
       rw [hrun hent]
       have hargs : cl.args.map (evT a.tmps) ++ ([] : List Value).toArray = (evT a.tmps a0 :: as.map (evT a.tmps)).toArray := by
        rw [show evT a.tmps a0 :: as.map (evT a.tmps) = cl.args.toList.map (evT a.tmps) by rw [has]; rfl]
        rw [<- J2o, J1f]
        simp
       rw [hargs]
       refine J2h (hspec _ w _ _ _ c.base hrep (hrel.nodup _ _) hb0 hrel.base hrvr (fun b hb => hb.1 _ _)) ?_
       rintro e w' ⟨v', b1, rfl, hbel, hsame, hrep', hnd1, hnew⟩
       rw [hdst]
       have h2 := hafter w' v' y b1 hbel hsame hrep' hnd1 hnew
       have eu : upd (upd noP env.length (.con .val [⟨t, x, .at_ .dp⟩])) env.length (.con .val [⟨t, y, .at_ .dp⟩]) = upd noP env2.length (.con .val [⟨t, y, .at_ .dp⟩]) := by
        rw [hl]; funext r; simp [upd]; split <;> rfl
       rw [eu] at h2
       have := RE.commit h2 (by rw [hl]; exact hd)
       rw [hl, Y0] at this
       exact hn _ _ _ hK this (by rw [Y19, hl]) rfl
    ·simp at hK
   ·simp at hK
  ·simp at hK
 ·simp at hK
end
theorem Y5j {S S' : Nat -> Prop} {base base' : Nat} {B B' : List Nat} : ∀ {rs : List (Ty × Lvl)} {xs : List (Σ t : Ty, t.D)} {chs : List (List Value)} {bs : List Nat}, allFresh rs = true -> ResRel S base w B rs xs chs bs -> ResRel S' base' w B' rs xs chs bs
 | [], xs, chs, bs, _, h => h
 | (t, fr) :: rs, xs, chs, bs, ha, ⟨x, xs', ch, chs', b, b', e1, e2, e3, h1, h2⟩ => by
  simp [allFresh] at ha
  refine ⟨x, xs', ch, chs', b, b', e1, e2, e3, ?_, Y5j ha.2 h2⟩
  by_cases hfr : fr = .dp
  ·subst hfr; exact Rep.dpS h1
  ·have hf : t.flatB = true := ha.1.resolve_left hfr
   obtain ⟨rfl, h3⟩ := Rep.flat (S' := fun k => (S' k \/ base' <= k) /\ k ∉ B') (w' := w) (m' := fr.res) hf h1
   exact h3
section
variable {P : Program} {o : Oper} {a : Act} {w : World} {R : Type} {K : Env -> Option R} {r : R} {next : Act -> World -> Prop} {Q : Exit -> Act -> World -> Prop} {c : Cx} {d : Nat} {T : Tab} {env : Env} {sig : FuncId -> Option Sig} {caps : FuncId -> List Ty} {orc : Orc}
theorem RP.resultG (hlen : env.length = tmps.size) (hr : Rel c (SS env ps tmps vs w cs bs)) (hno : ∀ r, (∀ q ∈ (ovl env ps r).refs, q.1 < env.length) /\ (∀ q ∈ (ovl env ps r).ptrs, q < env.length)) (hn : env.length <= n) {chs : List (List Value)} {bsx : List Nat}
  (hb : Below c.base w w') (hh : ∀ b, b < w.heap.size -> b ∉ bs n 1 -> w'.heap[b]? = w.heap[b]?) (hb0 : bs n 0 = []) (haf : allFresh rs = true) (hres : ResRel (fun _ => True) 0 w' bsx rs xs chs bsx) (hnd : bsx.Nodup) (hfr : ∀ b ∈ bsx, b ∈ bs n 1 \/ w.heap.size <= b) (ha : resAV rs xs = some av) :
  RP c env tmps w' (upd ps n av) (upd vs n (resVal rs chs)) := by
 obtain ⟨k, ls, rfl, h1, h2, h3, bds, h4, h5, h6⟩ := Y43 (c := c) (Y5j (S' := fun _ => False) (base' := w'.heap.size) (B' := bsx) haf hres) ha
 subst h5
 have hmode := Y3l ha
 obtain ⟨n1, n2⟩ := Yz hnd
 have hltb : ∀ l b, b ∈ bds.getD l [] -> b < w'.heap.size := by
  intro l b hb
  have hlt : l < bds.length := by grind
  obtain ⟨m, _, hrep⟩ := h6 l _ _ (J0 (by omega)) (J0 (by omega))
  exact Rep.lt hrep b hb
 let bd : Nat -> List Nat := fun l => match l with | 0 => [] | l + 1 => bds.getD l []
 have e : upd (upd ps n .undef) n (.con k ls) = upd ps n (.con k ls) := by
  funext r; simp [upd]; split <;> rfl
 have hsr := Yf (k := k) h3
 have := RP.reformAt hlen hr hno (n := n) (m := n) hn hn (av := .con k ls) (v := resVal rs chs) (w' := w') ⟨hsr.1, hsr.2⟩ hb (fun b hb' hne => hh b hb' (hne 1)) chs.flatten bd ?_ ?_ ?_ ?_
 ·grind
 ·intro l b hb'
  cases l with
  | zero => simp [bd] at hb'
  | succ l =>
   refine ⟨hltb l b hb', ?_⟩
   rcases hfr b (Ym hb') with h | h
   ·grind
   ·exact .inl h
 ·grind
 ·grind
 ·intro s' hk
  have ebs : s'.bs n = bd := Y0 _ _ _
  have ecs : s'.cs n = chs.flatten := Y0 _ _ _
  refine ⟨?_, by rw [ecs]; exact h2, fun l hl => ?_, fun l lf u hl hu => ?_⟩
  ·grind
  ·rw [ebs]
   show bds.getD l [] = []
   rw [Jd, J29 (by omega)]
   rfl
  ·rw [ecs] at hu
   obtain ⟨m, e1, hrep⟩ := h6 l lf u (by rw [<- Y1]; exact hl) hu
   obtain ⟨t, x, m'⟩ := lf
   simp only at e1
   have hmode := hmode _ (Yb hl)
   subst e1
   refine LeafRel.of_rep (by cases m <;> first | trivial | exact absurd rfl (hmode _)) ?_
   rw [ebs]
   refine Rep.move (fun b hb1 hl1 => ?_) (fun _ _ => rfl) hrep
   exfalso
   rcases hb1.1 with hf | hf
   ·exact hf
   ·grind
theorem RP.frzArgs_ {avs : List AV} (h : RP c env tmps w noP vs) (hrefs : ∀ v ∈ avs, ∀ q ∈ v.refs, q.1 < env.length) : RP c (frzArgs avs env) tmps w noP vs /\ (frzArgs avs env).length = env.length := by
 unfold frzArgs
 split
 ·rename_i hcon
  obtain ⟨hlen, cs, bs, hrel, hno⟩ := h
  obtain ⟨bs1, hr1, k1, k2⟩ := hrel.freezeArgs_ [] avs hcon
  have e := Y29 [] avs (ps := noP) hrefs (fun r => .inl rfl)
  have hl1 := Y2c [] avs env
  refine ⟨⟨hl1.trans hlen, cs, bs1, Rel.congr hr1 e rfl, fun r => ?_⟩, hl1⟩
  rw [hl1, <- e]
  have := Y1t [] avs (ovl env noP) r
  exact ⟨fun q hq => (hno r).1 q (this.1 q hq), fun q hq => (hno r).2 q (this.2 q hq)⟩
 ·exact ⟨h, rfl⟩
theorem Ydn (hO : OrcOk P sig orc) {k : Nat} {cl : Call} {extra : List AV} {ex : List Value} (hop : o.op = .call cl) (hdst : o.dst = some d) (hr : RE c env a.tmps w) (hd : d < env.length)
  (hrun : Enterable P f -> (execOp a.eval o).run P w = .ok (.enter f (cl.args.map (evT a.tmps) ++ ex.toArray)) w) (hex : ∀ vs cs bs, Rel c (SS env noP a.tmps vs w cs bs) -> ValCs c (SS env noP a.tmps vs w cs bs) extra ex) (hsg : sig f = some sg) (hbx : sg.box = none /\ sg.newb = none) (hm : sg.muts = false) (how : sg.own = true) (hgv : sg.give = some k) (hK : callG caps orc k (some d) f sg cl.args.toList extra env K = some r) (hn : Next c a K r env.length next) : o.wp P a w next Q := by
 unfold callG at hK
 split at hK
 ·rename_i t ps a0 as hps has
  obtain ⟨e0, hka⟩ := Y5e has
  split at hK
  ·rename_i env2 l hg
   split at hK
   ·rename_i x hx
    simp only at hK
    split at hK
    ·rename_i hc
     obtain ⟨⟨hex0, hlm, hagg⟩, ⟨hl1, hl2, haf⟩, hap⟩ := hc
     split at hK
     ·simp at hK
     ·rename_i rvs hrv
      split at hK
      ·simp at hK
      ·rename_i q hq
       obtain ⟨z0, hres, hK⟩ := Js.1 hK
       obtain ⟨hent, hspec⟩ := hO f sg _ q z0 hsg hq hres
       rw [hbx.1, hbx.2, hm, how, hgv] at hspec
       obtain ⟨t', x0, rest, e1, hspec⟩ := hspec
       obtain ⟨e1, e2⟩ := Y6s e1
       simp at e1
       obtain ⟨rfl, e1⟩ := e1
       subst e1
       subst e2
       cases hra : resAV sg.results (q.pk z0) with
       | none => grind
       | some av =>
        rw [hra] at hK
        simp only at hK
        have hex0 : extra = [] := by simpa using hex0
        subst hex0
        obtain ⟨vs, hRP⟩ := hr
        have hexv : ex = [] := by
         obtain ⟨_, cs, bs, hrel, _⟩ := hRP
         exact hex vs cs bs hrel
        subst hexv
        obtain ⟨hRP, hlf⟩ := hRP.frzArgs_ (avs := rdArgs env ps as) (fun v hv => (Y4h ⟨vs, hRP⟩ v hv).1)
        obtain ⟨hl, h1⟩ := Y44 hRP (fun _ => .inl rfl) hg (n := env.length) (by omega) rfl
        have hl := hl.trans hlf
        have hle := Leaf.as_eq hx
        rw [hlm] at hle
        rw [hle] at h1
        obtain ⟨hlen, cs, bs, hrel, hno⟩ := h1
        obtain ⟨hrep, hb00, _⟩ := Y2l hlen hrel (n := env.length) (by omega) (Y0 _ _ _)
        rw [Y0] at hrep
        have hb0 : ∀ b ∈ bs env.length 1, c.base <= b := fun b hb => (hrel.own _ _ _ hb).1.1
        have hargl : as.length <= ps.length := by omega
        have hvals := Y4j hlen hrel hargl
        have hap' : ∀ v ∈ rdArgs env2 ps as, v.refs = [] /\ v.ptrs = [] := by simp_all
        have hrvr : RVRels (RoS c (SS env2 (upd noP env.length (.con .val [⟨t, x, .at_ .dp⟩])) a.tmps (upd vs env.length (evT a.tmps a0)) w cs bs)) w rvs (as.map (evT a.tmps)) :=
         Y4n hrel (fun b hb => hb) hvals hrv (fun v hv q hq => by rw [(hap' v hv).1] at hq; simp at hq) (fun v hv q hq => by simp_all)
        unfold Oper.wp
        rw [hrun hent]
        have hargs : cl.args.map (evT a.tmps) ++ ([] : List Value).toArray = (insN k (evT a.tmps a0) (as.map (evT a.tmps))).toArray := by
         rw [<- Y9c, <- e0, <- J2o, J1f]
         simp
        rw [hargs]
        refine J2h (hspec _ w _ _ _ c.base (Rep.dpS hrep) (hrel.nodup _ _) hb0 hrel.base hrvr (fun b hb => hb.1 _ _)) ?_
        rintro e w' ⟨chs, bsx, rfl, hbel, hsame, hres', hnd1, hnew⟩
        rw [hdst]
        have h2 := RP.resultG hlen hrel hno (n := env.length) (by omega) hbel hsame hb00 haf hres' hnd1 hnew hra
        have eu : upd (upd noP env.length (.con .val [⟨t, x, .at_ .dp⟩])) env.length av = upd noP env2.length av := by
         rw [hl]; funext r; simp [upd]; split <;> rfl
        rw [eu] at h2
        have := RE.commit h2 (by rw [hl]; exact hd)
        rw [hl, Y0] at this
        exact hn _ _ _ hK this (by rw [Y19, hl]) rfl
    ·simp at hK
   ·simp at hK
  ·simp at hK
 ·simp at hK
end
theorem Y9n : ∀ {xs : List Int} {cells : List Value} {b : List Nat}, El (Rep S w (.int .u8) .ro) 1 cells xs b -> cells = xs.map (Value.int .u8)
 | [], cells, b, h => h.1
 | x :: xs, cells, b, ⟨c, cs, b0, b1, e, _, _, h1, h2⟩ => by
  rw [e, h1.1, Y9n h2]; rfl
section
variable {P : Program} {o : Oper} {a : Act} {w : World} {R : Type} {K : Env -> Option R} {r : R} {next : Act -> World -> Prop} {Q : Exit -> Act -> World -> Prop} {c : Cx} {d : Nat} {T : Tab} {env : Env}
theorem Ydo (hT : TabOk P T) {s dt : TypeId} {b : ByteArray} (hop : o.op = .convert s dt x) (hdst : o.dst = some d) (hr : RE c env a.tmps w) (hd : d < env.length) (hb : bytesOf T s dt (fun ty => rd ty env x) = some b)
  (hK : K (setD (some d) env (vStr b)) = some r) (hn : Next c a K r env.length next) : o.wp P a w next Q := by
 unfold bytesOf at hb
 split at hb
 ·rename_i e hs ht
  split at hb
  ·rename_i he
   split at hb
   ·rename_i lx hrd
    have hrd : rd (some (.slice e (.int .u8))) env x = .con .val [lx] := hrd
    split at hb
    ·rename_i xs has
     split at hb
     ·rename_i hl
      obtain rfl := Jh hb
      have hr0 := hr
      obtain ⟨vs, h0⟩ := hr0
      obtain ⟨cs, bs, h1, _⟩ := h0.rel
      obtain ⟨cells, hv⟩ := Yn h0.len h1 (some (.slice e (.int .u8))) x
      rw [hrd] at hv
      obtain ⟨S, hS⟩ := Y2q hv hl
      rw [Leaf.as_eq has] at hS
      obtain ⟨v, ch, b0, b1, e1, _, hel, _, A, cp, e2, hlc, hz, hc⟩ := hS
      have e1 : evT a.tmps x = v := by simpa using e1
      have hch := Y9n hel
      refine finV hr hdst (v := .string (strOfNums xs)) ?_ hd (fun vs cs bs _ => Y7z _ _ _) Y93 hK hn
      have key : (Go.convert s dt (.slice A xs.length cp)).run P w = .ok (.string (strOfNums xs)) w := by
       have hs' := TabOk.slice hT hs
       have he' := TabOk.int hT he
       have ht' := TabOk.str hT ht
       cases A with
       | none =>
        have hn0 : xs = [] := by simp_all
        subst hn0
        exact run_convert_bytes_nil w s e hs' he' 0 cp dt ht'
       | some A =>
        have hl : (loadCells A xs.length).run P w = .ok (xs.map (Value.int .u8)).toArray w := by
         have := run_loadCells_list (P := P) w A (xs.map (Value.int .u8)) (fun j u hj => by
          rw [<- hch] at hj
          obtain ⟨a', h1, _, h2⟩ := hc j u hj
          cases h1
          exact h2)
         simpa using this
        rw [run_convert_bytes_string w s dt e _ _ cp hs' he' ht', run_bytesToString w _ xs.length cp xs hl, foldl_push_bytes]
        simp [strOfNums, ByteArray.empty, ByteArray.emptyWithCapacity]
        rfl
      have key2 : (Go.convert s dt (evT a.tmps x)).run P w = .ok (.string (strOfNums xs)) w := by grind
      simp [execOp, hop, Y6, key2]
     ·simp at hb
    ·simp at hb
   ·simp at hb
  ·simp at hb
 ·simp at hb
end
section
variable {P : Program} {o : Oper} {a : Act} {w : World} {Q : Exit -> Act -> World -> Prop} {c : Cx} {d : Nat} {T : Tab} {env : Env}
theorem Y7f (hr : RE c env tmps w) : RE c (preTup o env) tmps w /\ (preTup o env).length = env.length := ⟨hr, rfl⟩
theorem Y8s (hr : RE c env a.tmps w) (hdst : o.dst = some d) (hd : d < env.length) {env' : Env} (h : tupStep o d env = some env')
  (hn : ∀ a' w', RE c env' a'.tmps w' -> env'.length = env.length -> a'.defers = a.defers -> next a' w') : o.wp P a w next Q := by cases h
end
section
variable {P : Program} {o : Oper} {a : Act} {w : World} {Q : Exit -> Act -> World -> Prop} {c : Cx} {d : Nat} {T : Tab} {env : Env} {caps : FuncId -> List Ty}
theorem Y82 (hT : TabOk P T) (hr : RE c env a.tmps w) (hdst : o.dst = some d) (hd : d < env.length) {env' : Env} (h : takeStep T caps o d env = some (true, env'))
  (hn : ∀ a' w', RE c env' a'.tmps w' -> env'.length = env.length -> a'.defers = a.defers -> next a' w') : o.wp P a w next Q := by cases h
end
section
variable {P : Program} {o : Oper} {a : Act} {w : World} {Q : Exit -> Act -> World -> Prop} {c : Cx} {d : Nat} {T : Tab} {env : Env} {caps : FuncId -> List Ty}
theorem Y8t {b : Bool} {env' : Env} (h : selStep T caps o env = some (b, env')) : o.guard = none := by
 unfold selStep at h
 split at h
 ·assumption
 ·cases h
theorem finS {env1 env' : Env} (hdst : o.dst = some d) (hrun : (execOp a.eval o).run P w = .ok (.value v) w') (hd : d < env1.length) (hN : env1.length = env.length)
  (h : RP c env1 a.tmps w' (upd noP env1.length av) vs) (hv : vs env1.length = v) (he : setD (some d) env1 av = env') (hn : ∀ a' w', RE c env' a'.tmps w' -> env'.length = env.length -> a'.defers = a.defers -> next a' w') : o.wp P a w next Q :=
 fin (K := some) (r := env') hdst hrun hd hN h hv (by rw [he]) (fun e a' w' he h1 h2 h3 => by grind)
theorem RE.moveSel (hr : RE c env tmps w) {s r j : Nat} {e e2 : TypeId} {ix : List Int} {x : List (List t.D)} (hg : get env s = .sel r j e e2 t ix x) :
  ∃ vs cs bs, s < env.length /\ env.length = tmps.size /\ vs env.length = tmps.getD s undef /\ Rel c (SS (put env s .undef) (upd noP env.length (.sel r j e e2 t ix x)) tmps vs w cs bs) /\ ∀ k, (∀ q ∈ (ovl (put env s .undef) (upd noP env.length (.sel r j e e2 t ix x)) k).refs, q.1 < env.length) /\ (∀ q ∈ (ovl (put env s .undef) (upd noP env.length (.sel r j e e2 t ix x)) k).ptrs, q < env.length) := by
 obtain ⟨vs, hlen, cs, bs, hrel, hno⟩ := hr
 have hsl : s < env.length := by
  apply Jr
  intro hn'
  rw [Y16 env s (J12 hn')] at hg
  cases hg
 have es : (SS env noP tmps vs w cs bs).env s = .sel r j e e2 t ix x := by show ovl env noP s = _; rw [Y7 hsl]; exact hg
 have et : (SS env noP tmps vs w cs bs).tm s = tmps.getD s undef := J3 (hlen ▸ hsl)
 have hq0 : ((SS env noP tmps vs w cs bs).env env.length).quiet = true := by show (ovl env noP env.length).quiet = true; rw [Ye (Jc _)]; rfl
 have hmv := hrel.move (s0 := s) (d := env.length) (J18 hsl) hq0 (fun p => by
  obtain ⟨k1, k2⟩ := (hrel.av p).refs_own
  refine ⟨fun q hq' e => ?_, fun q hq' e => ?_⟩
  ·obtain ⟨lf, u, o1, _⟩ := k1 q hq'
   rw [e, es] at o1
   simp [AV.leaf?] at o1
  ·obtain ⟨off, vv, e', ls, B', o1, _⟩ := k2 q hq'
   rw [e, es] at o1
   simp at o1)
 rw [es, et] at hmv
 have hlen1 : (put env s .undef).length = env.length := Y5 _ _ _
 have hrl := (hno s).1 (r, j) (by rw [Y7 hsl, hg]; simp [AV.refs])
 refine ⟨upd vs env.length (tmps.getD s undef), _, _, hsl, hlen, Y0 _ _ _, Rel.congr hmv (by rw [Yd (J2u hlen1), Yq hsl]) (Yy (J2u hlen.symm) _).symm, fun k => ?_⟩
 rw [Yd (J2u hlen1), Yq hsl]
 by_cases hk : k = env.length
 ·subst hk
  rw [Y0]
  exact ⟨fun q hq' => by simp only [AV.refs, Ja] at hq'; rw [hq']; exact hrl, by simp [AV.ptrs]⟩
 ·rw [Y2 _ _ hk]
  by_cases hk2 : k = s
  ·subst hk2; rw [Y0]; exact ⟨by simp [AV.refs], by simp [AV.ptrs]⟩
  ·rw [Y2 _ _ hk2]; exact hno k
theorem Y5k {s : Nat} {v : AV} (h : selOf env x = some (s, v)) : x = .tmp s /\ get env s = v /\ ∃ r j e e2 t ix y, v = .sel r j e e2 t ix y := by
 unfold selOf at h
 split at h
 ·grind
 ·cases h
theorem Y9o (hr : RE c env a.tmps w) {s : Nat} {v : AV} {env' : Env} (hop : o.op = .move x \/ o.op = .assign x) (hdst : o.dst = some d) (hd : d < env.length) (hs : selOf env x = some (s, v)) (he : setD (some d) (put env s .undef) v = env')
  (hn : ∀ a' w', RE c env' a'.tmps w' -> env'.length = env.length -> a'.defers = a.defers -> next a' w') : o.wp P a w next Q := by
 obtain ⟨rfl, hg, r, j, e, e2, t, ix, y, rfl⟩ := Y5k hs
 obtain ⟨vs, cs, bs, hsl, hlen, hv, hrel, hno⟩ := hr.moveSel hg
 have hlen1 : (put env s .undef).length = env.length := Y5 _ _ _
 refine finS hdst (v := a.tmps.getD s undef) (w' := w) ?_ (by rw [hlen1]; exact hd) hlen1 ⟨by rw [hlen1]; exact hlen, cs, bs, by rw [hlen1]; exact hrel, fun k => by rw [hlen1]; exact hno k⟩ (by grind) he hn
 rcases hop with hop | hop <;> simp [execOp, hop, Y6, evT]
theorem WrRel0.anchor {ad : Addr} {r j : Nat} {i : Int} {o : Nat} (h : WrRel0 c s ad r j [] i o) : WrRel0 c s ad r j [(0, 0)] 0 0 := by
 obtain ⟨h1, lf, u, h2, _⟩ := h
 exact ⟨h1, lf, u, h2, fun e => by cases e⟩
theorem Ycq (hT : TabOk P T) (hr : RE c env a.tmps w) {t : TypeId} {parts : Array (Nat × Operand)} {v : AV} {env' : Env} (hop : o.op = .buildSlice t n parts) (hdst : o.dst = some d) (hd : d < env.length) (ht : elemAt T t = some te) (hs : selPart env te n parts.toList = some v) (he : setD (some d) env v = env')
  (hn : ∀ a' w', RE c env' a'.tmps w' -> env'.length = env.length -> a'.defers = a.defers -> next a' w') : o.wp P a w next Q := by
 unfold selPart at hs
 split at hs
 ·rename_i p hparts
  split at hs
  ·rename_i e2 t' y r j i hg
   split at hs
   ·rename_i e' te' xs' hl
    split at hs
    ·rename_i hc
     obtain ⟨rfl, hte, hf, rfl⟩ := hc
     simp at hs
     subst hs
     obtain ⟨hty, hund, htid, hsz, hby, i0, hi0, hi1, hi2, hi3⟩ := TabOk.elem hT ht
     have hs1 : te.ty.sz = 1 := by rw [hte]; rfl
     obtain ⟨vs, hlen, cs, bs, hrel, hno⟩ := hr
     have hpl : p < env.length := Jr fun hh => by rw [Y16 env p (J12 hh)] at hg; cases hg
     have hrl : r < env.length := Y1b hl
     -- the row that is taken
     have hav := hrel.av p
     have es : (SS env noP a.tmps vs w cs bs).env p = .con .val [⟨.slice e2 t', y, .bor r j [(i, 0)]⟩] := by show ovl env noP p = _; rw [Y7 hpl]; exact hg
     have et : (SS env noP a.tmps vs w cs bs).tm p = evT a.tmps (.tmp p) := J3 (hlen ▸ hpl)
     rw [es, et] at hav
     obtain ⟨⟨hcs, _⟩, _, _, hlf⟩ := hav
     have hcs : (cs p) = [evT a.tmps (.tmp p)] := hcs
     obtain ⟨_, hbor⟩ : _ /\ BorRel c (SS env noP a.tmps vs w cs bs) (evT a.tmps (.tmp p)) ⟨.slice e2 t', y, .bor r j [(i, 0)]⟩ r j [(i, 0)] := hlf 0 _ _ rfl (by grind)
     generalize hu : evT a.tmps (.tmp p) = u at hbor
     have hone : ∃ A l cp, u = .slice A l cp := by
      obtain ⟨vv, _, _, _, e1, _, _, e4⟩ := hbor.1
      obtain rfl : u = vv := by simpa using e1
      obtain ⟨A, cp, e5, _⟩ := e4.slice
      exact ⟨A, _, cp, e5⟩
     obtain ⟨ad, hwr, hcell⟩ := hbor.2.2 i 0 rfl
     let w' := w.alloc (.cells #[u] te.id (0, 0))
     let v' : Value := .slice (some ⟨w.heap.size, 0, none⟩) 1 1
     have hbel : Below w.heap.size w w' := (J1a _ _).alloc (Jc _) _
     have hq0 : ((SS env noP a.tmps vs w cs bs).env env.length).quiet = true := by show (ovl env noP env.length).quiet = true; rw [Ye (Jc _)]; rfl
     have hheap : w'.heap[w.heap.size]? = some (.cells #[u] te.id (0, 0)) := by show (w.heap.push _)[w.heap.size]? = _; simp
     have hres := hrel.setNew hq0 hbel (.sel r j te.id e2 t' [i] [y]) v' [] (fun l => if l = 0 then [w.heap.size] else [])
      (fun l b hb => by grind)
      (fun l l' b h1 h2 => by grind)
      (fun l => by split <;> simp)
      (by
       intro s' hkp hpl' _
       have eb : s'.bs env.length = fun l => if l = 0 then [w.heap.size] else [] := Y0 _ _ _
       obtain ⟨_, lf, ul, ho, _⟩ := id hwr
       have hsp := hpl' r j _ _ ho
       refine ⟨⟨fun k => by rw [eb]; exact J4 (by omega), by rw [eb]; rfl⟩, ⟨ad, (hwr.keep hkp hsp).2.anchor⟩, [u], ⟨rfl, .inr ⟨w.heap.size, 1, #[u], rfl, J2d _, hheap, Jc _, by decide, rfl, rfl⟩⟩, rfl, by simp, fun k i' y' h1 h2 => ?_⟩
       cases k with
       | zero =>
        simp only [J8, J2] at h1 h2
        subst h1; subst h2
        exact ⟨u, rfl, hbor.keep hkp hsp⟩
       | succ k => simp at h1)
     have hRP : RP c env a.tmps w' (upd noP env.length (.sel r j te.id e2 t' [i] [y])) (upd vs env.length v') := by
      refine ⟨hlen, _, _, Rel.congr hres (Yd (Jc _) _).symm (Yy (J2u hlen.symm) v').symm, fun k => ?_⟩
      rw [Yd (Jc _)]
      by_cases hk : k = env.length
      ·subst hk
       rw [Y0]
       exact ⟨fun q hq' => by simp only [AV.refs, Ja] at hq'; rw [hq']; exact hrl, by simp [AV.ptrs]⟩
      ·rw [Y2 _ _ hk]; exact hno k
     refine finS hdst (v := v') (w' := w') ?_ hd rfl hRP (Y0 _ _ _) he hn
     have hsize := TabOk.sizeOf hT htid
     have hzero := TabOk.zero hT htid
     obtain ⟨A, l, cp, rfl⟩ := hone
     have hmap : List.map (fun x => (x.1, evT a.tmps x.2)) parts.toList = [(0, .slice A l cp)] := by grind
     let z := zeroVal te.ty
     obtain ⟨c0, hC⟩ : ∃ c0, ((Array.range (1 * te.ty.sz)).map fun x => z.cells[x % z.cells.size]!) = #[c0] := by grind
     have hfill : Instr.fill (fun i => some (i * te.ty.sz, te.ty.sz)) ((Array.range (1 * te.ty.sz)).map fun x => z.cells[x % z.cells.size]!) [(0, .slice A l cp)] = some #[.slice A l cp] := by
      rw [hC, hs1]
      simp [Instr.fill, Value.cells]
     have hz0 : ¬ 1 * te.ty.sz = 0 := by grind
     have hlim : ¬ 2 ^ 24 < 1 * te.ty.sz := by grind
     simp at hfill hz0 hlim
     simp [execOp, hop, Instr.buildSlice, run_underlying hund, hsize, hzero, hz0, hlim, hmap, hfill, newRow, newObj, Sem.run, Y6, z, w', v']
     try rfl
    ·cases hs
   ·cases hs
  ·cases hs
 ·cases hs
theorem Y5l (hT : TabOk P T) {env1 : Env} {av0 : AV} (hlen : env1.length = tmps.size) (hrel : Rel c (SS env1 (upd noP env1.length av0) tmps vs w cs bs))
  (hno : ∀ k, (∀ q ∈ (ovl env1 (upd noP env1.length av0) k).refs, q.1 < env1.length) /\ (∀ q ∈ (ovl env1 (upd noP env1.length av0) k).ptrs, q < env1.length)) {t0 : TypeId} (ht : elemAt T t0 = some te) (ty : TypeId) {e2 : TypeId} (hte : te.ty = .slice e2 t) {ix : List Int} {x : List (List t.D)} {xs : List Value} (hown : w.ownsRow 0 te.id 1 (vs env1.length) x.length xs) (hb1 : ∀ l b, b ∈ bs env1.length l -> (vs env1.length).ownBlock = some b) (hb2 : ∀ b, (vs env1.length).ownBlock = some b -> ∃ l, b ∈ bs env1.length l)
  (hixl : ix.length = x.length) (hso : ix.Pairwise (· < ·)) {r j tx : Nat} {i : Int} {y : List t.D} (hx : ∀ (k : Nat) (i : Int) (y : List t.D), ix[k]? = some i -> x[k]? = some y -> ∃ u, xs[k]? = some u /\ BorRel c (SS env1 (upd noP env1.length av0) tmps vs w cs bs) u ⟨.slice e2 t, y, .bor r j [(i, 0)]⟩ r j [(i, 0)])
  (htx : get env1 tx = .sel r j te.id e2 t [i] [y]) (hlt : ∀ k ∈ ix, k < i) (hbd : (x.length + 1) * te.bytes <= 140737488355328) :
  ∃ v' w', (Builtin.append_ #[t0, t0] ty #[vs env1.length, tmps.getD tx undef]).run P w = .ok v' w' /\ RP c env1 tmps w' (upd noP env1.length (.sel r j te.id e2 t (ix ++ [i]) (x ++ [y]))) (upd vs env1.length v') := by
 obtain ⟨hty, hund, htid, hsz, hby, i0, hi0, hi1, hi2, hi3⟩ := TabOk.elem hT ht
 have hs1 : te.ty.sz = 1 := by rw [hte]; rfl
 have htxl : tx < env1.length := Jr fun hh => by rw [Y16 env1 tx (J12 hh)] at htx; cases htx
 have hav := hrel.av tx
 have es : (SS env1 (upd noP env1.length av0) tmps vs w cs bs).env tx = .sel r j te.id e2 t [i] [y] := by show ovl env1 _ tx = _; rw [Y7 htxl]; exact htx
 have et : (SS env1 (upd noP env1.length av0) tmps vs w cs bs).tm tx = tmps.getD tx undef := J3 (hlen ▸ htxl)
 rw [es, et] at hav
 obtain ⟨_, ⟨ad0, hanch⟩, xsx, hownx, _, _, hbx⟩ := hav
 obtain ⟨u, hu0, hbu⟩ := hbx 0 i y rfl rfl
 obtain rfl : xsx = [u] := by
  obtain ⟨u1, rfl⟩ := J16.1 (show xsx.length = 1 from by simpa using hownx.1)
  simpa using hu0
 have hrl : r < env1.length := by
  have := (hno tx).1 (r, j) (by rw [Y7 htxl, htx]; simp [AV.refs])
  exact this
 have huone : u.oneCell' = true := by
  exact Rep.one hbu.1 u (by simp)
 obtain ⟨A, cp, ex, hcp, hz, hcx⟩ := Y2f hownx
 obtain ⟨ad, rfl, hadb, hadc⟩ := hcx 0 u rfl
 have hz' : (zeroVal te.ty).cells.size = te.ty.sz := by rw [<- J1j, Y1f, Y15]
 have h63 : x.length + 1 <= maxLen := by
  have : (x.length + 1) * 1 <= (x.length + 1) * te.bytes := J2x _ hby
  simp [maxLen]
  omega
 obtain ⟨v', w', hr1, hown', hgrow, _, hwhere⟩ := run_append_own_at (P := P) w 0 t0 ty te.id i0 (zeroVal te.ty) te.ty.sz te.bytes hund hi0 hi3 hi1 hi2 hz' hsz (vs env1.length) x.length xs (by rw [hs1]; exact hown) ad 1 cp [u] (by rw [hs1]; rfl)
  (fun k u' hk => by grind) (fun u' hu' => by grind) h63 hbd (J2d _)
 rw [hs1] at hown'
 refine ⟨v', w', by rw [ex]; exact hr1, ?_⟩
 have hmine : ∀ b, (vs env1.length).ownBlock = some b -> c.base <= b /\ b < w.heap.size := fun b hb => by
  obtain ⟨l, hl⟩ := hb2 b hb
  have := hrel.own env1.length l b hl
  exact ⟨this.1.1, this.2⟩
 have hkeep : ∀ b, b < w.heap.size -> (∀ l, b ∉ bs env1.length l) -> w'.heap[b]? = w.heap[b]? := fun b hb hne => hgrow.block b hb (fun e => by grind)
 have hbelow : Below c.base w w' := ⟨hgrow.os, hgrow.tape, hgrow.output, hgrow.size, fun k hk => hgrow.block k (J17 hk hrel.base) (fun e => by grind)⟩
 have hnr : ∀ k, (∀ q ∈ (ovl env1 (upd noP env1.length av0) k).refs, q.1 ≠ env1.length /\ q.1 ≠ env1.length) /\ (∀ q ∈ (ovl env1 (upd noP env1.length av0) k).ptrs, q ≠ env1.length /\ q ≠ env1.length) := fun k =>
  ⟨fun q hq => by have := (hno k).1 q hq; exact ⟨J18 this, J18 this⟩, fun q hq => by grind⟩
 have hres := hrel.reform (n := env1.length) (m := env1.length) hnr hbelow hkeep (.sel r j te.id e2 t (ix ++ [i]) (x ++ [y])) v' [] (fun l => if l = 0 then v'.ownBlock.toList else [])
  (fun l b hb => by
   split at hb
   ·have hb := Yg.1 hb
    refine ⟨(Y1g hown' b hb).2, ?_⟩
    rcases hwhere with hw | hw
    ·grind
    ·grind
   ·simp at hb)
  (fun l l' b h1 h2 => by grind)
  (fun l => by grind)
  (by
   intro s' hkp
   have hrN : r ≠ env1.length := J18 hrl
   have eb : s'.bs env1.length = fun l => if l = 0 then v'.ownBlock.toList else [] := Y0 _ _ _
   have er : s'.env r = ovl env1 (upd noP env1.length av0) r := by show upd (upd _ _ _) _ _ r = _; rw [Y2 _ _ hrN, Y2 _ _ hrN]
   have ec : s'.cs r = cs r := Y2 _ _ hrN
   have ebr : s'.bs r = bs r := by show upd (upd _ _ _) _ _ r = _; rw [Y2 _ _ hrN, Y2 _ _ hrN]
   have hsp : SamePl (SS env1 (upd noP env1.length av0) tmps vs w cs bs) s' r j := by
    refine ⟨fun lf u' ⟨o1, o2, o3⟩ => ⟨by rw [er]; exact o1, o2, by rw [ec]; exact o3⟩, by rw [ebr], fun b hb => ?_⟩
    refine hkeep b (hrel.own r (j + 1) b hb).2 (fun l hl => ?_)
    exact hrN (hrel.disj r (j + 1) env1.length l b hb hl).1
   refine ⟨⟨fun k => by rw [eb]; exact J4 (by omega), by rw [eb]; rfl⟩, ⟨ad0, (hanch.keep hkp hsp).2⟩, xs ++ [u], by simpa using hown', by simp [hixl], ?_, fun k i' y' h1 h2 => ?_⟩
   ·grind
   ·have hxl : xs.length = x.length := by simpa using hown.1
    by_cases hk : k < x.length
    ·rw [Jl (by omega)] at h1
     rw [Jl hk] at h2
     obtain ⟨u', hu', hb'⟩ := hx k i' y' h1 h2
     exact ⟨u', by rw [Jl (by omega)]; exact hu', hb'.keep hkp hsp⟩
    ·rw [Jb (by omega)] at h1 h2
     have hk0 : k - x.length = 0 := by grind
     rw [hk0] at h2
     rw [show k - ix.length = 0 by omega] at h1
     simp only [J8, J2] at h1 h2
     subst h1; subst h2
     exact ⟨u, by rw [Jb (by omega), show k - xs.length = 0 by omega]; rfl, hbu.keep hkp hsp⟩)
 refine ⟨hlen, _, _, Rel.congr hres ?_ (Yy (J2u hlen.symm) v').symm, fun k => ?_⟩
 ·funext k
  by_cases hk : k = env1.length
  ·subst hk; rw [Y0]; show _ = ovl env1 _ env1.length; rw [Ye (Jc _), Y0]
  ·rw [Y2 _ _ hk, Y2 _ _ hk]
   show ovl env1 _ k = ovl env1 _ k
   by_cases hk2 : k < env1.length
   ·rw [Y7 hk2, Y7 hk2]
   ·rw [Ye (J12 hk2), Ye (J12 hk2), Y2 _ _ hk, Y2 _ _ hk]
 ·by_cases hk : k = env1.length
  ·subst hk
   rw [Ye (Jc _), Y0]
   exact ⟨fun q hq' => by simp only [AV.refs, Ja] at hq'; rw [hq']; exact hrl, by simp [AV.ptrs]⟩
  ·have := hno k
   by_cases hk2 : k < env1.length
   ·rw [Y7 hk2] at this ⊢; exact this
   ·rw [Ye (J12 hk2), Y2 _ _ hk] at this ⊢; exact this
theorem Ybu (hT : TabOk P T) (hr : RE c env a.tmps w) {cl : Call} {s x : Operand} {t0 : TypeId} {tx : Nat} {vx : AV} {env' : Env} (hop : o.op = .call cl) (hc : cl.callee = .builtin .append) (hargs : cl.args.toList = [s, x]) (htys : cl.argTypes.toList = [t0, t0]) (hdst : o.dst = some d) (hd : d < env.length) (ht : elemAt T t0 = some te) (hsx : selOf env x = some (tx, vx)) (hs : appendSel d te s tx env = some (true, env'))
  (hn : ∀ a' w', RE c env' a'.tmps w' -> env'.length = env.length -> a'.defers = a.defers -> next a' w') : o.wp P a w next Q := by
 obtain ⟨rfl, _, _⟩ := Y5k hsx
 have hargs' : cl.args = #[s, .tmp tx] := by grind
 have htys' : cl.argTypes = #[t0, t0] := by grind
 have hrun : ∀ (sv : Value) (v' : Value) (w' : World), evT a.tmps s = sv -> (Builtin.append_ #[t0, t0] o.type #[sv, a.tmps.getD tx undef]).run P w = .ok v' w' -> (execOp a.eval o).run P w = .ok (.value v') w' := by
  rintro sv v' w' rfl q1
  have q1 : (Builtin.append_ #[t0, t0] o.type #[evT a.tmps s, evT a.tmps (.tmp tx)]).run P w = .ok v' w' := q1
  simp [execOp, hop, resolve, hc, hargs', htys', invoke, builtin, Y6, q1]
 unfold appendSel at hs
 split at hs
 ·rename_i ts r' j' e' e2' t' ix xx hsel
  obtain ⟨rfl, hgs, _⟩ := Y5k hsel
  split at hs
  ·rename_i r j e e2 t i y htx
   split at hs
   ·rename_i h
    obtain ⟨⟨⟨rfl, rfl⟩, rfl, rfl, rfl⟩, rfl, hte⟩ := h
    simp at hs
    obtain ⟨⟨hlt, hbd⟩, hs⟩ := hs
    obtain ⟨vs, cs, bs, hsl, hlen, hv, hrel, hno⟩ := hr.moveSel hgs
    have hlen1 : (put env ts .undef).length = env.length := Y5 _ _ _
    rw [<- hlen1] at hlen hv hrel hno
    have hav := hrel.av (put env ts .undef).length
    have es : (SS (put env ts .undef) (upd noP (put env ts .undef).length (.sel r' j' te.id e2' t' ix xx)) a.tmps vs w cs bs).env (put env ts .undef).length = .sel r' j' te.id e2' t' ix xx := by show ovl _ _ _ = _; rw [Ye (Jc _), Y0]
    have et : (SS (put env ts .undef) (upd noP (put env ts .undef).length (.sel r' j' te.id e2' t' ix xx)) a.tmps vs w cs bs).tm (put env ts .undef).length = vs (put env ts .undef).length := J4 (by grind)
    rw [es, et] at hav
    obtain ⟨⟨k1, k2⟩, _, xs, k3, k4, k5, k6⟩ := hav
    obtain ⟨v', w', q1, q2⟩ := Y5l hT hlen hrel hno ht o.type hte k3 (fun l b hb => by
     cases l with
     | zero => grind
     | succ l => grind) (fun b hb => ⟨0, by simp_all⟩) k4 k5 k6 htx hlt hbd
    exact finS hdst (v := v') (w' := w') (hrun _ v' w' hv.symm q1) (by grind) hlen1 q2 (Y0 _ _ _) hs hn
   ·cases hs
  ·cases hs
 ·split at hs
  ·rename_i env2 e0 tt0 xs hg
   split at hs
   ·rename_i r j e e2 t i y htx
    split at hs
    ·rename_i h
     obtain ⟨⟨rfl, rfl⟩, rfl, hte⟩ := h
     simp only [J2, J1e, Jm, J1r, List.isEmpty_iff] at hs
     obtain ⟨⟨rfl, hbd⟩, hs⟩ := hs
     obtain ⟨vs, hr⟩ := hr
     obtain ⟨hl2, hlen, cs, bs, hrel, hno⟩ := Y44 hr (fun _ => .inl rfl) hg (n := env.length) (Jc _) rfl
     rw [<- hl2] at hrel hno
     have hone := Y2l hlen hrel (Jc _) (Y0 _ _ _)
     obtain ⟨⟨v, cls, b0, b1, e1, e2', hel, hrow⟩, hb0, hcs⟩ := hone
     obtain ⟨rfl, rfl⟩ := hel
     have hrow : b0 = v.ownBlock.toList /\ w.ownsRow 0 te.id te.ty.sz v 0 [] := hrow
     have e1 : upd vs env2.length (evT a.tmps s) env2.length = v := by simpa using e1
     have hav := hrel.av env2.length
     have es : (SS env2 (upd noP env2.length (.con .val [⟨.slice te.id te.ty, [], .at_ .dp⟩])) a.tmps (upd vs env2.length (evT a.tmps s)) w cs bs).env env2.length = .con .val [⟨.slice te.id te.ty, [], .at_ .dp⟩] := by show ovl _ _ _ = _; rw [Ye (Jc _), Y0]
     rw [es] at hav
     have hge := hav.2.2.1
     have hs1 : te.ty.sz = 1 := by rw [hte]; rfl
     have e2' : bs env2.length 1 = v.ownBlock.toList := by grind
     obtain ⟨v', w', q1, q2⟩ := Y5l (ix := []) (x := ([] : List (List t.D))) (xs := []) hT hlen hrel hno ht o.type hte (by rw [e1, <- hs1]; exact hrow.2) (fun l b hb => by
      match l with
      | 0 => rw [hb0] at hb; cases hb
      | 1 => grind
      | l + 2 => simp_all) (fun b hb => ⟨1, by rw [e2']; rw [e1] at hb; exact Yg.2 hb⟩) rfl List.Pairwise.nil (fun k i y h1 h2 => by simp at h1) htx (by simp) hbd
     exact finS hdst (v := v') (w' := w') (hrun _ v' w' (Y0 _ _ _).symm q1) (by grind) hl2 q2 (Y0 _ _ _) hs hn
    ·cases hs
   ·cases hs
  ·cases hs
theorem Y8u (hT : TabOk P T) (hr : RE c env a.tmps w) {env' : Env} (h : selStep T caps o env = some (true, env'))
  (hn : ∀ a' w', RE c env' a'.tmps w' -> env'.length = env.length -> a'.defers = a.defers -> next a' w') : o.wp P a w next Q := by
 unfold selStep at h
 split at h
 ·rename_i d hg hdst
  split at h
  ·rename_i hd
   split at h
   ·rename_i env1 htb
    simp only [J2, J1e, true_and] at h
    subst h
    exact Y8s hr hdst hd htb hn
   split at h
   ·rename_i z htk
    simp only [J2] at h
    subst h
    exact Y82 hT hr hdst hd htk hn
   split at h
   ·rename_i x hop
    split at h
    ·rename_i s v hs
     split at h
     ·cases h
     ·simp only [J2, J1e, true_and] at h
      exact Y9o hr (.inl hop) hdst hd hs h hn
    ·cases h
   ·rename_i x hop
    split at h
    ·rename_i s v hs
     split at h
     ·cases h
     ·simp only [J2, J1e, true_and] at h
      exact Y9o hr (.inr hop) hdst hd hs h hn
    ·cases h
   ·rename_i t n parts hop
    split at h
    ·split at h
     ·rename_i te ht
      split at h
      ·rename_i v hs
       simp only [J2, J1e, true_and] at h
       exact Ycq hT hr hop hdst hd ht hs h hn
      ·cases h
     ·cases h
    ·cases h
   ·rename_i cl hop
    split at h
    ·rename_i hc
     split at h
     ·rename_i s x t0 t1 hargs htys
      split at h
      ·rename_i htt
       subst htt
       split at h
       ·rename_i tx vx te hsx ht
        exact Ybu hT hr hop hc hargs htys hdst hd ht hsx h hn
       ·cases h
      ·cases h
     ·cases h
    ·cases h
   ·cases h
  ·cases h
 ·cases h
end
theorem Yaq (r : Nat) : Fewer (renewG r) := by
 intro r' j p l
 unfold renewG
 simp only
 split
 ·exact .inl rfl
 ·exact .inr rfl
section
variable {c : Cx} {env : Env} {w : World}
theorem RP.renewR (hlen : env.length = tmps.size) (hrel : Rel c (SS env noP tmps vs w cs bs)) (hno : ∀ r, (∀ q ∈ (ovl env noP r).refs, q.1 < env.length) /\ (∀ q ∈ (ovl env noP r).ptrs, q < env.length)) {r : Nat} {e : BoxK} (hr : get env r = .con (.box e) ls) {B : Nat} (hB : bs r 0 = [B]) (htm : tmps.getD r undef = .pointer (some ⟨B, 0, none⟩)) (hbel : Below c.base w w') {ch' : List Value} {br bn : Nat -> List Nat} {ns : List Leaf} {k2 : Kind} {ls2 : List Leaf} {rv : Value} {cells2 : List Value}
  (hheap : ∀ b, b < w.heap.size -> (∀ l, b ∉ bs r l) -> w'.heap[b]? = w.heap[b]?) (hBh : w'.heap[B]? = some (.cells ch'.toArray e.id (0, 0))) (hfix : ∀ l, nthB e.fix l = true -> ch'[l]? = (cs r)[l]?)
  (hbr0 : br 0 = [B]) (hnl : ns.length = ch'.length) (hbrn : ∀ l, ns.length <= l -> br (l + 1) = []) (hn1 : ∀ l b, b ∈ br l -> b < w'.heap.size /\ (w.heap.size <= b \/ ∃ l', b ∈ bs r l')) (hn2 : ∀ l b, b ∈ bn l -> b < w'.heap.size /\ (w.heap.size <= b \/ ∃ l', b ∈ bs r l'))
  (hd1 : ∀ l l' b, b ∈ br l -> b ∈ br l' -> l = l') (hd2 : ∀ l l' b, b ∈ bn l -> b ∈ bn l' -> l = l') (hd3 : ∀ l l' b, b ∈ br l -> b ∉ bn l') (hnd1 : ∀ l, (br l).Nodup) (hnd2 : ∀ l, (bn l).Nodup)
  (hset1 : ∀ l ∈ ns, l.refs = []) (hset2 : ∀ l ∈ ls2, l.m.settled = true)
  (hleaf : let s' : St := ⟨upd (upd (chgE (renewG r) (ovl env noP)) r (.con (.box e) ns)) env.length (.con k2 ls2), upd (ovlT tmps vs) env.length rv, w', upd (upd cs r ch') env.length cells2, upd (upd bs r br) env.length bn⟩
   Keeps c (SS env noP tmps vs w cs bs) s' -> (∀ l lf u, ns[l]? = some lf -> ch'[l]? = some u -> LeafRel c s' r l u lf) /\ AVRel c s' env.length (.con k2 ls2) rv) :
  RP c (renewBox r (.box e) ns env) tmps w' (upd noP env.length (.con k2 ls2)) (upd vs env.length rv) := by
 have hrl : r < env.length := Yx hr
 have hrN : r ≠ env.length := J18 hrl
 let s' : St := ⟨upd (upd (chgE (renewG r) (ovl env noP)) r (.con (.box e) ns)) env.length (.con k2 ls2), upd (ovlT tmps vs) env.length rv, w', upd (upd cs r ch') env.length cells2, upd (upd bs r br) env.length bn⟩
 have hbN : ∀ l, bs env.length l = [] := by
  have := hrel.av env.length
  rw [show (SS env noP tmps vs w cs bs).env env.length = .undef by show ovl env noP _ = _; rw [Ye (Jc _)]; rfl] at this
  exact this
 have eR : s'.bs r = br := by show upd (upd bs r br) env.length bn r = _; rw [Y2 _ _ hrN, Y0]
 have eN : s'.bs env.length = bn := Y0 _ _ _
 have eO : ∀ p, p ≠ r -> p ≠ env.length -> s'.env p = (ovl env noP p).chg (renewG r) /\ s'.tm p = ovlT tmps vs p /\ s'.cs p = cs p /\ s'.bs p = bs p := fun p h1 h2 => by
  refine ⟨?_, Y2 _ _ h2, ?_, ?_⟩
  ·show upd (upd _ r _) env.length _ p = _
   rw [Y2 _ _ h2, Y2 _ _ h1]; rfl
  ·show upd (upd cs r ch') env.length cells2 p = _
   rw [Y2 _ _ h2, Y2 _ _ h1]
  ·show upd (upd bs r br) env.length bn p = _
   rw [Y2 _ _ h2, Y2 _ _ h1]
 have hstep : Rel c s' := by
  refine Rel.step (s := SS env noP tmps vs w cs bs) (s' := s') (renewG r) hrel (fun p => p = r \/ p = env.length) (fun a j => ∃ lf u, OwnPlace (SS env noP tmps vs w cs bs) a j lf u) (fun a => ∃ off v, PtrRel (SS env noP tmps vs w cs bs) a off v) (fun p hp => ?_) hbel (fun b hb hne => ?_) (fun p l b hp hb => ?_) (fun p l p' l' b hp hp' hb hb' => ?_) (fun p l hp => ?_) (fun p hp => ?_) (fun hk => ⟨?_, ?_, ?_⟩) (fun hk p hp => ?_)
  ·grind
  ·grind
  ·rcases hp with rfl | rfl
   ·rw [eR] at hb
    obtain ⟨h1, h2⟩ := hn1 l b hb
    exact ⟨h1, h2.imp id (fun ⟨l', h⟩ => ⟨p, l', .inl rfl, h⟩)⟩
   ·rw [eN] at hb
    obtain ⟨h1, h2⟩ := hn2 l b hb
    exact ⟨h1, h2.imp id (fun ⟨l', h⟩ => ⟨r, l', .inl rfl, h⟩)⟩
  ·rcases hp with rfl | rfl
   ·rcases hp' with rfl | rfl
    ·rw [eR] at hb hb'; exact ⟨rfl, hd1 _ _ _ hb hb'⟩
    ·rw [eR] at hb; rw [eN] at hb'; exact absurd hb' (hd3 _ _ _ hb)
   ·rcases hp' with rfl | rfl
    ·rw [eN] at hb; rw [eR] at hb'; exact absurd hb (hd3 _ _ _ hb')
    ·rw [eN] at hb hb'; exact ⟨rfl, hd2 _ _ _ hb hb'⟩
  ·rcases hp with rfl | rfl
   ·rw [eR]; exact hnd1 l
   ·rw [eN]; exact hnd2 l
  ·exact (hrel.av p).refs_own
  ·intro u t x r1 j p hL hbor
   unfold renewG
   simp only
   by_cases h1 : r1 = r
   ·rw [J3 h1]
    exact ⟨rfl, Rep.one hbor.1 u (by simp)⟩
   ·rw [J4 h1]
    refine ⟨rfl, ?_⟩
    obtain ⟨lf0, u0, h2, h3, h4⟩ := hL
    have hlt : r1 < env.length := by
     apply Nat.lt_of_not_le
     intro hge
     have : (SS env noP tmps vs w cs bs).env r1 = .undef := by show ovl env noP r1 = _; rw [Ye hge]; rfl
     rw [this] at h2; simp [AV.leaf?] at h2
    obtain ⟨o1, o2, o3, o4⟩ := eO r1 h1 (J18 hlt)
    refine BorRel.keep hk ⟨fun lf u hown => ?_, by rw [o4], fun b hb => ?_⟩ hbor
    ·obtain ⟨p1, p2, p3⟩ := hown
     refine ⟨?_, p2, by grind⟩
     rw [o1]
     have p1 : (ovl env noP r1).leaf? j = some lf := p1
     cases hv : ovl env noP r1 with
     | con k0 ls0 =>
      rw [hv] at p1
      simp only [AV.leaf?] at p1
      simp only [AV.chg, AV.leaf?]
      rw [Yc, p1]
      obtain ⟨t0, x0, m0⟩ := lf
      cases m0 with
      | at_ lv => rfl
      | bor _ _ _ => simp [Mode.own] at p2
      | dead => simp [Mode.own] at p2
     | _ => rw [hv] at p1; simp [AV.leaf?] at p1
    ·exact hheap b (hrel.own _ _ _ hb).2 (fun l hl => h1 (hrel.disj _ _ _ _ _ hb hl).1)
  ·intro a r1 j p i o hL hwr
   unfold renewG
   simp only
   by_cases h1 : r1 = r
   ·grind
   ·rw [show (r1 == r) = false from by simpa using h1]
    simp
    obtain ⟨lf0, u0, h2, h3, h4⟩ := hL
    have hlt : r1 < env.length := by
     apply Nat.lt_of_not_le
     intro hge
     have : (SS env noP tmps vs w cs bs).env r1 = .undef := by show ovl env noP r1 = _; rw [Ye hge]; rfl
     rw [this] at h2; simp [AV.leaf?] at h2
    obtain ⟨o1, o2, o3, o4⟩ := eO r1 h1 (J18 hlt)
    refine WrRel0.keep hk ⟨fun lf u hown => ?_, by rw [o4], fun b hb => ?_⟩ hwr
    ·obtain ⟨p1, p2, p3⟩ := hown
     refine ⟨?_, p2, by rw [o3]; exact p3⟩
     rw [o1]
     have p1 : (ovl env noP r1).leaf? j = some lf := p1
     cases hv : ovl env noP r1 with
     | con k0 ls0 =>
      rw [hv] at p1
      simp only [AV.leaf?] at p1
      simp only [AV.chg, AV.leaf?]
      rw [Yc, p1]
      obtain ⟨t0, x0, m0⟩ := lf
      cases m0 with
      | at_ lv => rfl
      | bor _ _ _ => simp [Mode.own] at p2
      | dead => simp [Mode.own] at p2
     | _ => rw [hv] at p1; simp [AV.leaf?] at p1
    ·exact hheap b (hrel.own _ _ _ hb).2 (fun l hl => h1 (hrel.disj _ _ _ _ _ hb hl).1)
  ·intro r1 hL _
   obtain ⟨off, v, e0, ls0, B0, q1, q2, q3⟩ := hL
   have q1 : ovl env noP r1 = .con (.box e0) ls0 := q1
   have hlt : r1 < env.length := by
    apply Nat.lt_of_not_le
    intro hge
    rw [Ye hge] at q1
    exact AV.noConfusion q1
   refine ⟨Y2 _ _ (J18 hlt), fun e1 ls1 h1 => ?_⟩
   by_cases h2 : r1 = r
   ·subst h2
    exact ⟨e, ns, by show upd (upd _ r1 _) env.length _ r1 = _; rw [Y2 _ _ hrN, Y0]⟩
   ·have h1 : ovl env noP r1 = .con (.box e1) ls1 := h1
    exact ⟨e1, chgs (renewG r) ls1, by rw [(eO r1 h2 (J18 hlt)).1, h1]; rfl⟩
  ·obtain ⟨hl1, hl2⟩ := hleaf hk
   rcases hp with rfl | rfl
   ·have ee : s'.env p = .con (.box e) ns := by show upd (upd _ p _) env.length _ p = _; rw [Y2 _ _ hrN, Y0]
    have et : s'.tm p = .pointer (some ⟨B, 0, none⟩) := by
     show upd (ovlT tmps vs) env.length rv p = _
     rw [Y2 _ _ hrN]
     exact (J3 (by omega)).trans htm
    have ec : s'.cs p = ch' := by show upd (upd cs p ch') env.length cells2 p = _; rw [Y2 _ _ hrN, Y0]
    have hav := hrel.av p
    rw [show (SS env noP tmps vs w cs bs).env p = .con (.box e) ls by show ovl env noP p = _; rw [Y7 hrl]; exact hr] at hav
    obtain ⟨⟨B1, g1, g2, g3, g4, g5⟩, _⟩ := hav
    rw [ee, et]
    refine ⟨⟨B, rfl, by rw [ec]; exact hBh, by rw [eR]; exact hbr0, fun hp => ?_, fun l hl => ?_⟩, by rw [ec]; exact hnl, fun l hl => by rw [eR]; exact hbrn l hl, fun l lf u hl hu => hl1 l lf u (by rw [<- Y1]; exact hl) (by grind)⟩
    ·grind
    ·grind
   ·have ee : s'.env env.length = .con k2 ls2 := Y0 _ _ _
    have et : s'.tm env.length = rv := Y0 _ _ _
    rw [ee, et]
    exact hl2
 have hbl : (renewBox r (.box e) ns env).length = env.length := by unfold renewBox; rw [Y5, Y8]
 have e1 : upd (upd (chgE (renewG r) (ovl env noP)) r (.con (.box e) ns)) env.length (.con k2 ls2) = ovl (renewBox r (.box e) ns env) (upd noP env.length (.con k2 ls2)) := by
  rw [Yd (by grind)]
  congr 1
  funext p
  by_cases hp : p < env.length
  ·rw [Y7 (by rw [hbl]; exact hp)]
   unfold renewBox
   rw [Y4t (by rw [Y8]; exact hrl), Y7y]
   by_cases h1 : p = r
   ·rw [h1, Y0, Y0]
   ·rw [Y2 _ _ h1, Y2 _ _ h1]
    show (ovl env noP p).chg _ = (get env p).chg _
    rw [Y7 hp]
  ·rw [Ye (by rw [hbl]; omega), Y2 _ _ (by omega)]
   show (ovl env noP p).chg _ = _
   rw [Ye (by omega)]; rfl
 refine ⟨by rw [hbl]; exact hlen, _, _, Rel.congr hstep e1 (Yy (by omega) rv).symm, fun p => ?_⟩
 rw [hbl, <- e1]
 by_cases h2 : p = env.length
 ·rw [h2, Y0, (Yf hset2).1, (Yf hset2).2]
  exact ⟨by simp, by simp⟩
 ·rw [Y2 _ _ h2]
  by_cases h1 : p = r
  ·rw [h1, Y0]
   refine ⟨fun q hq => ?_, by simp [AV.ptrs]⟩
   simp only [AV.refs, Je] at hq
   obtain ⟨l, hl, hq⟩ := hq
   rw [hset1 l hl] at hq; simp at hq
  ·rw [Y2 _ _ h1]
   have := Yi (Yaq r) (ovl env noP p)
   exact ⟨fun q hq => (hno p).1 q (this.1 q hq), fun q hq => (hno p).2 q (this.2 q hq)⟩
end
theorem Y3n {b : BoxSig} : ∀ {ls : List Leaf} {n l : Nat} {lf : Leaf}, boxFits b n ls = true -> ls[l]? = some lf -> lf.m.settled = true /\ (∀ e τ, lf.t = .slice e τ -> (slotAt b.lv (n + l)).isFx = true \/ lf.m = b.md (n + l))
 | [], n, l, lf, _, hl => by simp at hl
 | a :: ls, n, 0, lf, h, hl => by
  obtain rfl : a = lf := by simpa using hl
  simp [boxFits] at h
  refine ⟨h.1.1, fun e τ ht => ?_⟩
  have := h.1.2
  rw [ht] at this
  simpa using this
 | a :: ls, n, l + 1, lf, h, hl => by
  simp [boxFits] at h
  have := Y3n (n := n + 1) (l := l) h.2 (by simpa using hl)
  rwa [show n + 1 + l = n + (l + 1) by omega] at this
theorem Y7g {b : BoxSig} : ∀ {ls : List Leaf} {n l : Nat} {lf : Leaf}, boxCalm b n ls = true -> ls[l]? = some lf -> ∀ e τ, lf.t = .slice e τ -> slotAt b.lv (n + l) = .fx \/ slotAt b.lv (n + l) = .dp
 | [], n, l, lf, _, hl => by simp at hl
 | a :: ls, n, 0, lf, h, hl => by
  obtain rfl : a = lf := by simpa using hl
  simp [boxCalm] at h
  intro e τ ht
  have := h.1
  rw [ht] at this
  simp
  cases hs : slotAt b.lv n <;> rw [hs] at this <;> simp_all
 | a :: ls, n, l + 1, lf, h, hl => by
  simp [boxCalm] at h
  have := Y7g (n := n + 1) (l := l) h.2 (by simpa using hl)
  rwa [show n + 1 + l = n + (l + 1) by omega] at this
theorem Y7h {b : BoxSig} : ∀ {ls : List Leaf} {n l : Nat} {lf : Leaf}, boxFxRo b n ls = true -> ls[l]? = some lf -> (slotAt b.lv (n + l)).isFx = true -> lf.m.own = false
 | [], n, l, lf, _, hl => by simp at hl
 | a :: ls, n, 0, lf, h, hl => by
  obtain rfl : a = lf := by simpa using hl
  simp [boxFxRo] at h
  intro hf
  rcases h.1 with h1 | h1
  ·grind
  ·exact h1
 | a :: ls, n, l + 1, lf, h, hl => by
  simp [boxFxRo] at h
  have := Y7h (n := n + 1) (l := l) h.2 (by simpa using hl)
  rwa [show n + 1 + l = n + (l + 1) by omega] at this
theorem Y5m : ∀ {fs : List Bool} {ss : List Slot} {l : Nat}, subFix fs ss = true -> nthB fs l = true -> (slotAt ss l).isFx = true
 | [], ss, l, _, h => by simp [nthB] at h
 | f :: fs, [], 0, h, h2 => by simp [subFix] at h; simp only [nthB] at h2; rw [h2] at h; simp at h
 | f :: fs, [], l + 1, h, h2 => by simp [subFix] at h; exact Y5m (ss := []) (l := l) h.2 h2
 | f :: fs, s :: ss, 0, h, h2 => by
  simp [subFix] at h
  simp [nthB] at h2
  rcases h.1 with h1 | h1
  ·grind
  ·exact h1
 | f :: fs, s :: ss, l + 1, h, h2 => by simp [subFix] at h; exact Y5m (fs := fs) (ss := ss) (l := l) h.2 h2
theorem Y3x {b : BoxSig} : ∀ {n : Nat} {ls ms : List Leaf}, ls.length = ms.length -> (mixLs b n ls ms).length = ls.length
 | n, [], [], _ => rfl
 | n, [], _ :: _, h => by simp at h
 | n, _ :: _, [], h => by simp at h
 | n, l :: ls, m :: ms, h => by simp [mixLs]; rw [Y3x (by simpa using h)]
theorem Y6v {b : BoxSig} : ∀ {n l : Nat} {ls ms : List Leaf} {lf : Leaf}, (mixLs b n ls ms)[l]? = some lf -> ((slotAt b.lv (n + l)).isFx = true /\ ls[l]? = some lf) \/ ((slotAt b.lv (n + l)).isFx = false /\ ms[l]? = some lf)
 | n, l, [], ms, lf, h => by simp [mixLs] at h
 | n, l, _ :: _, [], lf, h => by simp [mixLs] at h
 | n, 0, a :: ls, m :: ms, lf, h => by
  simp only [mixLs, J8, J2] at h
  cases hs : (slotAt b.lv n).isFx with
  | true => grind
  | false => grind
 | n, l + 1, a :: ls, m :: ms, lf, h => by
  simp only [mixLs, J1l] at h
  have := Y6v (n := n + 1) (l := l) h
  rw [show n + 1 + l = n + (l + 1) by omega] at this
  simpa using this
def Leaf.dat (l : Leaf) : Σ t : Ty, t.D := ⟨l.t, l.x⟩
theorem Y7i {l : Leaf} {x : t.D} (h : l.as t = some x) : l.dat = ⟨t, x⟩ := by
 rw [Leaf.as_eq h]; rfl
theorem Y66 (md : Nat -> Mode) : ∀ (t : Ty) {ls : List Leaf} {x : t.D} {rest : List Leaf} (n : Nat), asm t ls = some (x, rest) -> ∃ pre, ls = pre ++ rest /\ pre.map Leaf.dat = (leaves t x md n).map Leaf.dat
 | .unit, ls, x, rest, n, h => by
  simp [asm] at h
  obtain ⟨_, rfl⟩ := h
  exact ⟨[], rfl, rfl⟩
 | .pair a b, ls, x, rest, n, h => by
  simp [asm] at h
  cases ha : asm a ls with
  | none => rw [ha] at h; simp at h
  | some q =>
   obtain ⟨xa, ra⟩ := q
   rw [ha] at h
   simp only at h
   cases hb : asm b ra with
   | none => rw [hb] at h; simp at h
   | some q =>
    obtain ⟨xb, rb⟩ := q
    rw [hb] at h
    simp at h
    obtain ⟨rfl, rfl⟩ := h
    obtain ⟨p1, e1, k1⟩ := Y66 md a n ha
    obtain ⟨p2, e2, k2⟩ := Y66 md b (n + a.sz) hb
    exact ⟨p1 ++ p2, by rw [e1, e2, J5], by simp [leaves, k1, k2]⟩
 | .int kk, ls, x, rest, n, h => by
  cases ls with
  | nil => simp [asm] at h
  | cons l ls =>
   simp [asm] at h
   cases hx : l.as (.int kk) with
   | none => rw [hx] at h; simp at h
   | some y =>
    rw [hx] at h
    simp at h
    obtain ⟨rfl, rfl⟩ := h
    exact ⟨[l], rfl, by simp only [J1s, J31, Y7i hx]; rfl⟩
 | .bool, ls, x, rest, n, h => by
  cases ls with
  | nil => simp [asm] at h
  | cons l ls =>
   simp [asm] at h
   cases hx : l.as .bool with
   | none => rw [hx] at h; simp at h
   | some y =>
    rw [hx] at h
    simp at h
    obtain ⟨rfl, rfl⟩ := h
    exact ⟨[l], rfl, by simp only [J1s, J31, Y7i hx]; rfl⟩
 | .str, ls, x, rest, n, h => by
  cases ls with
  | nil => simp [asm] at h
  | cons l ls =>
   simp [asm] at h
   cases hx : l.as .str with
   | none => rw [hx] at h; simp at h
   | some y =>
    rw [hx] at h
    simp at h
    obtain ⟨rfl, rfl⟩ := h
    exact ⟨[l], rfl, by simp only [J1s, J31, Y7i hx]; rfl⟩
 | .slice e τ, ls, x, rest, n, h => by
  cases ls with
  | nil => simp [asm] at h
  | cons l ls =>
   simp [asm] at h
   cases hx : l.as (.slice e τ) with
   | none => rw [hx] at h; simp at h
   | some y =>
    rw [hx] at h
    simp at h
    obtain ⟨rfl, rfl⟩ := h
    exact ⟨[l], rfl, by simp only [J1s, J31, Y7i hx]; rfl⟩
theorem Y25 (md : Nat -> Mode) : ∀ (t : Ty) (x : t.D) (n l : Nat) (lf : Leaf), (leaves t x md n)[l]? = some lf -> (lf.t.flatB = true /\ lf.m = .at_ .ro) \/ ((∃ e τ, lf.t = .slice e τ) /\ lf.m = md (n + l))
 | .unit, x, n, l, lf, h => by simp [leaves] at h
 | .int _, x, n, 0, lf, h => by simp only [leaves, J8, J2] at h; subst h; exact .inl ⟨rfl, rfl⟩
 | .bool, x, n, 0, lf, h => by simp only [leaves, J8, J2] at h; subst h; exact .inl ⟨rfl, rfl⟩
 | .str, x, n, 0, lf, h => by simp only [leaves, J8, J2] at h; subst h; exact .inl ⟨rfl, rfl⟩
 | .slice e τ, x, n, 0, lf, h => by simp only [leaves, J8, J2] at h; subst h; exact .inr ⟨⟨e, τ, rfl⟩, rfl⟩
 | .int _, x, n, l + 1, lf, h => by simp [leaves] at h
 | .bool, x, n, l + 1, lf, h => by simp [leaves] at h
 | .str, x, n, l + 1, lf, h => by simp [leaves] at h
 | .slice _ _, x, n, l + 1, lf, h => by simp [leaves] at h
 | .pair a b, x, n, l, lf, h => by
  simp [leaves] at h
  have ha : (leaves a x.1 md n).length = a.sz := by
   have := congrArg List.length (Yj a x.1 md n)
   rw [J1o] at this
   rw [this, Y1j]
  by_cases hl : l < a.sz
  ·rw [Jl (by omega)] at h
   exact Y25 md a x.1 n l lf h
  ·rw [Jb (by omega), ha] at h
   have := Y25 md b x.2 (n + a.sz) (l - a.sz) lf h
   rwa [show n + a.sz + (l - a.sz) = n + l by omega] at this
section
variable {c : Cx} {env : Env} {tmps : Array Value} {w : World} {ps : Nat -> AV} {vs : Nat -> Value} {cs : Nat -> List Value} {bs : Nat -> Nat -> List Nat} {caps : FuncId -> List Ty} {S : Nat -> Prop}
theorem Y8c : ∀ {avs : List AV} {us : List Value} {k : Nat} {av : AV}, ValCs c s avs us -> nthL avs k = some av -> ∃ u cells, us[k]? = some u /\ ValC c s av u cells
 | [], us, k, av, _, h => by simp [nthL] at h
 | v :: avs, us, 0, av, ⟨u, us', e, ⟨cells, hv⟩, _⟩, h => by
  simp [nthL] at h
  subst h; subst e
  exact ⟨u, cells, rfl, hv⟩
 | v :: avs, us, k + 1, av, ⟨u, us', e, _, h2⟩, h => by
  simp [nthL] at h
  obtain ⟨u2, cells, h3, h4⟩ := Y8c h2 h
  subst e
  exact ⟨u2, cells, by grind⟩
theorem Y9p {t : Ty} {r : Nat} : ∀ {ptys : List PTy} {avs : List AV} {rvs : List RV} {k : Nat}, RVsX caps env r ptys avs = some rvs -> nthL ptys k = some (.ptr t) -> nthL avs k = some (.path r 0) -> ∃ x, nthL rvs k = some (.ptr t x) /\ ptrOf env t r 0 = some x
 | [], avs, rvs, k, _, h, _ => by simp [nthL] at h
 | p :: ptys, [], rvs, k, _, _, h => by simp [nthL] at h
 | p :: ptys, v :: avs, rvs, k, ho, h1, h2 => by
  simp [RVsX] at ho
  cases hx : RVofX caps env r p v with
  | none => grind
  | some x =>
   cases hxs : RVsX caps env r ptys avs with
   | none => simp_all
   | some xs =>
    rw [hx, hxs] at ho
    simp at ho
    subst ho
    cases k with
    | zero =>
     simp [nthL] at h1 h2
     subst h1; subst h2
     simp [RVofX, RVof] at hx
     cases hp : ptrOf env t r 0 with
     | none => grind
     | some y =>
      rw [hp] at hx
      simp at hx
      subst hx
      exact ⟨y, rfl, rfl⟩
    | succ k => exact Y9p (ptys := ptys) (avs := avs) (rvs := xs) (k := k) hxs h1 h2
theorem Y6h {r : Nat} {v : AV} (h : apartR r v = true) : (∀ q ∈ v.refs, q.1 ≠ r) /\ ∀ q ∈ v.ptrs, q ≠ r := by
 simp only [apartR, Jm, Jg, J2m, beq_eq_false_iff_ne] at h
 exact h
theorem Y6i {r : Nat} {v : AV} (h : apartX r v = true) : (∃ f cs, v = .fptr f cs) \/ apartR r v = true := by
 unfold apartX at h
 split at h
 ·grind
 ·exact .inr h
theorem RVRelX.of {pb : Value} {x : RV} (h : RVRel S w x v) : RVRelX S w pb x v := by
 cases x with
 | fptr f cs => exact h.elim
 | _ => exact h
theorem Y9q {p : PTy} {cs : List Cap} : RVof caps env p (.fptr f cs) = none := by
 cases p <;> rfl
theorem Y7j (h : Rel c (SS env ps tmps vs w cs bs)) (h1 : ∀ b, RoS c (SS env ps tmps vs w cs bs) b -> S b) {r B : Nat} (htm : (SS env ps tmps vs w cs bs).tm r = .pointer (some ⟨B, 0, none⟩)) : ∀ {ts : List Ty} {cps : List Cap} {us : List Value} {rcs : List RCap}, CapRels c (SS env ps tmps vs w cs bs) v cps us -> capRVs env r ts cps = some rcs ->
  (∀ q ∈ capRoots cps, q ≠ r -> ∀ l, ∀ b ∈ bs q l, S b) -> RCapRels S w (.pointer (some ⟨B, 0, none⟩)) v rcs us
 | [], [], us, rcs, hc, ho, _ => by simp [capRVs] at ho; subst ho; exact hc
 | [], _ :: _, us, rcs, hc, ho, _ => by simp [capRVs] at ho
 | _ :: _, [], us, rcs, hc, ho, _ => by simp [capRVs] at ho
 | t :: ts, cp :: cps, us, rcs, ⟨u, us', e, hc1, hc2⟩, ho, h3 => by
  simp [capRVs] at ho
  cases hx : capRV env r t cp with
  | none => simp_all
  | some x =>
   cases hxs : capRVs env r ts cps with
   | none => grind
   | some xs =>
    rw [hx, hxs] at ho
    simp at ho
    subst ho
    refine ⟨u, us', e, ?_, Y7j h h1 htm hc2 hxs (fun q hq => h3 q (by simp [capRoots]; exact .inr hq))⟩
    cases cp with
    | path r' off =>
     simp [capRV] at hx
     by_cases hr : r' = r
     ·rw [J3 hr] at hx
      split at hx
      ·rename_i hoff
       simp at hx
       subst hx; subst hr; subst hoff
       obtain ⟨e1, ls1, B1, _, k2, k3⟩ := hc1
       rw [htm] at k2
       have : B = B1 := by simpa using k2
       subst this
       exact k3
      ·simp at hx
     ·rw [J4 hr] at hx
      split at hx
      ·rename_i y hy
       simp at hx
       subst hx
       exact Y5d h hy hc1 h1 (h3 r' (by simp [capRoots, Cap.roots]) hr)
      ·simp at hx
    | ro y =>
     simp [capRV] at hx
     subst hx
     exact PtrV.move (fun b hb _ => ⟨h1 b hb, rfl⟩) hc1
    | self =>
     simp [capRV] at hx
     subst hx
     exact hc1
theorem Y8d (h : Rel c (SS env ps tmps vs w cs bs)) (h1 : ∀ b, RoS c (SS env ps tmps vs w cs bs) b -> S b) {r B : Nat} (htm : (SS env ps tmps vs w cs bs).tm r = .pointer (some ⟨B, 0, none⟩)) {p : PTy} {x : RV} (hv : ValC c (SS env ps tmps vs w cs bs) av u cells) (ho : RVofX caps env r p av = some x) (hap : apartX r av = true)
  (h2 : ∀ q ∈ av.refs, ∀ b ∈ bs q.1 (q.2 + 1), S b) (h3 : ∀ q ∈ av.ptrs, q ≠ r -> ∀ l, ∀ b ∈ bs q l, S b) : RVRelX S w (.pointer (some ⟨B, 0, none⟩)) x u := by
 by_cases hps : p = .self
 ·subst hps
  simp [RVofX] at ho
  split at ho
  ·rename_i f cps
   split at ho
   ·rename_i xs hxs
    simp at ho
    subst ho
    obtain ⟨us, B1, k1, k2, k3, k4, k5⟩ := hv
    exact ⟨B1, us, k1, h1 _ k2, k3, k4, Y7j h h1 htm k5 hxs h3⟩
   ·simp at ho
  ·simp at ho
 ·have ho : RVof caps env p av = some x := by
   cases p with
   | self => exact absurd rfl hps
   | _ => exact ho
  rcases Y6i hap with ⟨f, cps, rfl⟩ | hap
  ·rw [Y9q] at ho; simp at ho
  ·exact RVRelX.of (Y9b h hv ho h1 h2 (fun q hq => h3 q hq ((Y6h hap).2 q hq)))
theorem Y9r (h : Rel c (SS env ps tmps vs w cs bs)) (h1 : ∀ b, RoS c (SS env ps tmps vs w cs bs) b -> S b) {r B : Nat} (htm : (SS env ps tmps vs w cs bs).tm r = .pointer (some ⟨B, 0, none⟩)) : ∀ {ptys : List PTy} {avs : List AV} {us : List Value} {rvs : List RV}, ValCs c (SS env ps tmps vs w cs bs) avs us -> RVsX caps env r ptys avs = some rvs -> (∀ v ∈ avs, apartX r v = true) ->
  (∀ v ∈ avs, ∀ q ∈ v.refs, ∀ b ∈ bs q.1 (q.2 + 1), S b) -> (∀ v ∈ avs, ∀ q ∈ v.ptrs, q ≠ r -> ∀ l, ∀ b ∈ bs q l, S b) -> RVRelsY S w (.pointer (some ⟨B, 0, none⟩)) rvs us
 | [], [], us, rvs, hv, ho, _, _, _ => by simp [RVsX] at ho; subst ho; exact hv
 | [], _ :: _, us, rvs, _, ho, _, _, _ => by simp [RVsX] at ho
 | _ :: _, [], us, rvs, _, ho, _, _, _ => by simp [RVsX] at ho
 | p :: ptys, v :: avs, us, rvs, ⟨u, us', e, ⟨cells, hv1⟩, hv2⟩, ho, hap, h2, h3 => by
  simp [RVsX] at ho
  cases hx : RVofX caps env r p v with
  | none => rw [hx] at ho; simp at ho
  | some x =>
   cases hxs : RVsX caps env r ptys avs with
   | none => rw [hx, hxs] at ho; simp at ho
   | some xs =>
    rw [hx, hxs] at ho
    simp at ho
    subst ho
    exact ⟨u, us', e, Y8d h h1 htm hv1 hx (hap v Jk) (h2 v Jk) (h3 v Jk), Y9r h h1 htm hv2 hxs (fun v hv => hap v (J1 _ hv)) (fun v hv => h2 v (J1 _ hv)) (fun v hv => h3 v (J1 _ hv))⟩
theorem Y9s (h : Rel c (SS env ps tmps vs w cs bs)) (h1 : ∀ b, RoS c (SS env ps tmps vs w cs bs) b -> S b) {r B : Nat} (htm : (SS env ps tmps vs w cs bs).tm r = .pointer (some ⟨B, 0, none⟩)) : ∀ {k : Nat} {ptys : List PTy} {avs : List AV} {us : List Value} {rvs : List RV}, ValCs c (SS env ps tmps vs w cs bs) avs us -> RVsX caps env r ptys avs = some rvs -> (∃ v, nthL avs k = some v) -> (∀ v ∈ dropAt k avs, apartX r v = true) ->
  (∀ v ∈ dropAt k avs, ∀ q ∈ v.refs, ∀ b ∈ bs q.1 (q.2 + 1), S b) -> (∀ v ∈ dropAt k avs, ∀ q ∈ v.ptrs, q ≠ r -> ∀ l, ∀ b ∈ bs q l, S b) -> RVRelsX S w (.pointer (some ⟨B, 0, none⟩)) k rvs us
 | k, ptys, [], us, rvs, _, _, ⟨v, hv⟩, _, _, _ => by simp [nthL] at hv
 | k, [], v :: avs, us, rvs, _, ho, _, _, _, _ => by simp [RVsX] at ho
 | 0, p :: ptys, v :: avs, us, rvs, ⟨u, us', e, ⟨cells, hv1⟩, hv2⟩, ho, _, hap, h2, h3 => by
  simp [RVsX] at ho
  cases hx : RVofX caps env r p v with
  | none => rw [hx] at ho; simp at ho
  | some x =>
   cases hxs : RVsX caps env r ptys avs with
   | none => rw [hx, hxs] at ho; simp at ho
   | some xs =>
    rw [hx, hxs] at ho
    simp at ho
    subst ho
    exact ⟨u, us', e, Y9r h h1 htm hv2 hxs hap h2 h3⟩
 | k + 1, p :: ptys, v :: avs, us, rvs, ⟨u, us', e, ⟨cells, hv1⟩, hv2⟩, ho, ⟨v0, hv0⟩, hap, h2, h3 => by
  simp [RVsX] at ho
  cases hx : RVofX caps env r p v with
  | none => rw [hx] at ho; simp at ho
  | some x =>
   cases hxs : RVsX caps env r ptys avs with
   | none => rw [hx, hxs] at ho; simp at ho
   | some xs =>
    rw [hx, hxs] at ho
    simp at ho
    subst ho
    exact ⟨u, us', e, Y8d h h1 htm hv1 hx (hap v (by simp [dropAt])) (h2 v (by simp [dropAt])) (h3 v (by simp [dropAt])), Y9s h h1 htm hv2 hxs ⟨v0, hv0⟩ (fun v hv => hap v (by simp [dropAt, hv])) (fun v hv => h2 v (by simp [dropAt, hv])) (fun v hv => h3 v (by simp [dropAt, hv]))⟩
end
theorem Yar {v : AV} (h : bareAV v = true) : v.refs = [] /\ v.ptrs = [] := by simpa [bareAV] using h
theorem Y30 {α : Type} (f : Nat -> List α) (n l : Nat) : ((List.range n).map f).getD l [] = if l < n then f l else [] := by grind
theorem Y4o {α : Type} {f : Nat -> List α} {b : α} : b ∈ ((List.range n).map f).flatten ↔ ∃ l, l < n /\ b ∈ f l := by grind
theorem Y3y {f : Nat -> List Nat} (h1 : ∀ l, (f l).Nodup) (h2 : ∀ l l' b, b ∈ f l -> b ∈ f l' -> l = l') (n : Nat) : ((List.range n).map f).flatten.Nodup := by
 have := Y2a h1 h2 n 0
 rwa [List.flatMap_def, <- List.range_eq_range'] at this
section
variable {P : Program} {o : Oper} {a : Act} {w : World} {R : Type} {K : Env -> Option R} {rr : R} {next : Act -> World -> Prop} {Q : Exit -> Act -> World -> Prop} {c : Cx} {d : Nat} {env : Env} {caps : FuncId -> List Ty} {orc : Orc}
theorem Ybv (hlen : env.length = tmps.size) (hrel : Rel c (SS env noP tmps vs w cs bs)) {r : Nat} {e : BoxK} (hr : get env r = .con (.box e) ls) {b : BoxSig} (hid : e.id = b.id) (hfit : boxFits b 0 ls = true) {x : t.D} (has : asm t ls = some (x, [])) :
  ∃ B, tmps.getD r undef = .pointer (some ⟨B, 0, none⟩) /\ bs r 0 = [B] /\ w.heap[B]? = some (.cells (cs r).toArray b.id (0, 0)) /\ ls.length = (cs r).length /\ (∀ l, ls.length <= l -> bs r (l + 1) = []) /\ (∀ l lf u, ls[l]? = some lf -> (cs r)[l]? = some u -> LeafRel c (SS env noP tmps vs w cs bs) r l u lf) /\
   (leaves t x b.md 0).length = ls.length /\
   ∀ S : Nat -> Prop, (∀ k, RoS c (SS env noP tmps vs w cs bs) k -> k < w.heap.size -> S k) -> (∀ l, (slotAt b.lv l).isFx = true -> ∀ k ∈ bs r (l + 1), S k) ->
    LvsRel S w (fun _ => True) (leaves t x b.md 0) (cs r) ((List.range (cs r).length).map fun l => if (slotAt b.lv l).isFx then [] else bs r (l + 1)) := by
 have hrl : r < env.length := Yx hr
 have hav := hrel.av r
 rw [show (SS env noP tmps vs w cs bs).env r = .con (.box e) ls by show ovl env noP r = _; rw [Y7 hrl]; exact hr] at hav
 obtain ⟨⟨B, g1, g2, g3, _⟩, h2, h3, h4⟩ := hav
 have g1 : tmps.getD r undef = .pointer (some ⟨B, 0, none⟩) := by rw [<- g1]; exact (J3 (by omega)).symm
 obtain ⟨pre, e1, e2⟩ := Y66 b.md t 0 has
 rw [Ji] at e1
 subst e1
 have hll : (leaves t x b.md 0).length = ls.length := by have := congrArg List.length e2; simpa using this.symm
 refine ⟨B, g1, g3, hid ▸ g2, h2, h3, fun l lf u hl hu => h4 l lf u (by rw [Y1]; exact hl) hu, hll, fun S hS hfx => ⟨by rw [hll]; exact h2, by simp, fun l lf u _ hl hu => ?_⟩⟩
 have hlt : l < ls.length := by rw [<- hll]; exact (J6.1 hl).1
 have hd : ls[l].dat = lf.dat := by
  have h5 := congrArg (fun z => z[l]?) e2
  simp only [J14, hl, J0 hlt, J26, J2] at h5
  exact h5
 have h5 := h4 l ls[l] u (by rw [Y1]; exact J0 hlt) hu
 obtain ⟨hset, hsl⟩ := Y3n hfit (J0 hlt)
 rw [J11] at hsl
 rw [Y30, J3 (show l < (cs r).length by grind)]
 generalize ls[l] = lo at *
 obtain ⟨t1, x1, m1⟩ := lo
 obtain ⟨t2, x2, m2⟩ := lf
 simp [Leaf.dat] at hd
 obtain ⟨rfl, hd⟩ := hd
 have hd : x1 = x2 := J32 hd
 subst hd
 have hold : ∃ lv, m1 = .at_ lv /\ Rep (RoS c (SS env noP tmps vs w cs bs)) w t1 lv [u] x1 (bs r (l + 1)) := by
  cases m1 with
  | at_ lv => exact ⟨lv, rfl, h5.rep⟩
  | bor _ _ _ => simp [Mode.settled] at hset
  | dead => simp [Mode.settled] at hset
 obtain ⟨lv, rfl, hrep⟩ := hold
 rcases Y25 b.md t x 0 l _ hl with ⟨hf, hm⟩ | ⟨⟨e0, τ, hs⟩, hm⟩
 ·simp only at hf hm
  subst hm
  obtain ⟨q1, q2⟩ := Rep.flat (S' := S) (w' := w) (m' := .ro) hf hrep
  refine ⟨.ro, rfl, ?_⟩
  rw [q1]
  split <;> exact q2
 ·simp only at hs hm
  rw [J11] at hm
  have hS' : ∀ k, RoS c (SS env noP tmps vs w cs bs) k -> k < w.heap.size -> S k := hS
  cases hsx : (slotAt b.lv l).isFx with
  | true =>
   rw [J3 rfl]
   refine ⟨.ro, ?_, ?_⟩
   ·rw [hm]; unfold BoxSig.md; cases hq : slotAt b.lv l <;> rw [hq] at hsx <;> first | rfl | cases hsx
   ·exact Rep.roS hrep (fun k hk hl => hS' k hk hl) (hfx l hsx)
  | false =>
   rw [J4 (by simp)]
   have hmm := (hsl e0 τ hs).resolve_left (by rw [hsx]; simp)
   refine ⟨lv, ?_, Rep.move (fun k hk hl => ⟨hS' k hk hl, rfl⟩) (fun _ _ => rfl) hrep⟩
   rw [hm, <- hmm]
end
end Go.FP
