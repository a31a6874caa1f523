/- How Go values lie in memory, and an evaluator of code with its soundness (part 6 of 6). Conditions: those that stand in each theorem; nothing is assumed of any program. -/
import Derived.Test.YtpbgkahaplnfmaaFpE
import Derived.Shelf.SlicesE.Clone
import Derived.Shelf.SlicesE.Delete
import Derived.Lib.SlicesCompact
import Derived.Sort.Grow
import Derived.Shelf.Spec.SlicesGrow
import Derived.Shelf.Sort.Plain
import Derived.Shelf.Slices.In.SortNone
import Derived.Shelf.Slices.CompactI

/- Functions of the library whose contracts are shown by hand: slices.Clone, slices.Delete. Conditions: those that stand in each theorem. -/
namespace Go.FP
open Go.Proofs Go.Shelf Go.RowKit Go.Lib
set_option linter.unusedVariables false
variable {P : Program} {ρ : Ren}
set_option maxHeartbeats 2000000 in
set_option maxRecDepth 100000 in
theorem heap_putRow {α : Type} [Inhabited α] (enc : α → Value) (w : World) (g : Nat) (d : Array α) (b : Nat) (h : b ≠ g) : (Go.Sort.putRow enc w g 0 d).heap[b]? = w.heap[b]? := by
 unfold Go.Sort.putRow Go.Sort.mapBlock
 simp only [Array.getElem?_modify]
 rw [if_neg (fun e => h e.symm)]
theorem heap_putRow_at {α : Type} [Inhabited α] (enc : α → Value) (w : World) (g : Nat) (d : Array α) {cur : Array Value} {e : TypeId} {fr : Nat × Nat} (h : w.heap[g]? = some (.cells cur e fr)) : (Go.Sort.putRow enc w g 0 d).heap[g]? = some (.cells (Go.Sort.putCells enc 0 d cur) e fr) := by
 unfold Go.Sort.putRow Go.Sort.mapBlock
 simp only [Array.getElem?_modify, if_true, h]
 rfl
end Go.FP

/- Functions of the library at rows of ints, out of contracts that are handed in: slices.Sort, slices.Compact, slices.Grow. Conditions: those that stand in each theorem. -/
namespace Go.FP
open Go.Proofs Go.Shelf Go.RowKit Go.Lib
set_option linter.unusedVariables false
variable {P : Program}
abbrev tInts (e : TypeId) : Ty := .slice e (.int .i64)
theorem El_ints {S : Nat → Prop} {w : World} {m : Lvl} : ∀ {x : List Int} {xs : List Value} {bs : List Nat}, El (Rep S w (.int .i64) m) 1 xs x bs → xs = x.map (Value.int .i64) ∧ bs = []
 | [], _, _, h => ⟨h.1, h.2⟩
 | a :: x, xs, bs, ⟨c, xs', b, bs', e, l, eb, p, t⟩ => by
  obtain ⟨h1, h2⟩ := El_ints t
  obtain ⟨p1, p2⟩ := p
  rw [e, p1, h1, eb, p2, h2]
  exact ⟨rfl, rfl⟩
theorem El_ints_mk {S : Nat → Prop} {w : World} {m : Lvl} : ∀ (x : List Int), El (Rep S w (.int .i64) m) 1 (x.map (Value.int .i64)) x []
 | [] => ⟨rfl, rfl⟩
 | a :: x => ⟨[.int .i64 a], x.map (Value.int .i64), [], [], rfl, rfl, rfl, ⟨rfl, rfl⟩, El_ints_mk x⟩
/-- An own row of ints, as cells. -/
theorem own_ints {w : World} {e : TypeId} {v : Value} {x : List Int} {b0 : List Nat} (h : Rep (fun _ => False) w (tInts e) .dp [v] x b0) :
  (v = .slice none 0 0 ∧ x = [] ∧ b0 = []) ∨ ∃ g cap cur, v = .slice (some ⟨g, 0, none⟩) x.length cap ∧ b0 = [g] ∧ g < w.heap.size ∧ w.heap[g]? = some (.cells cur e (0, 0)) ∧ x.length ≤ cap ∧ cap ≤ maxLen ∧ cur.size = cap ∧ cur.toList.take x.length = x.map (Value.int .i64) ∧ Go.Sort.Holds (Value.int .i64) w g 0 x.toArray := by
 obtain ⟨u, xs, c0, c1, e1, e2, hel, hrow⟩ := h
 obtain rfl : v = u := by simpa using e1
 obtain ⟨rfl, hown⟩ : c0 = v.ownBlock.toList ∧ w.ownsRow 0 e 1 v x.length xs := hrow
 obtain ⟨rfl, rfl⟩ := El_ints hel
 have hown0 := hown
 obtain ⟨_, ⟨rfl, hn0⟩ | ⟨g, cap, cur, rfl, _, hh, hn, hmx, hcs, ht⟩⟩ := hown
 ·exact .inl ⟨rfl, List.length_eq_zero_iff.1 hn0, by simpa [Value.ownBlock] using e2⟩
 ·rw [Nat.mul_one] at hcs ht
  refine .inr ⟨g, cap, cur, rfl, by simpa [Value.ownBlock] using e2, (own_block0 hown0 g rfl).2, hh, hn, hmx, hcs, ht, fun k hk => ⟨?_, hown0.frozenAt _⟩⟩
  have hk' : k < x.length := by simpa using hk
  rw [Nat.zero_add, hown0.cellAt k (by omega), getElem!_pos _ k hk, List.getElem?_map, List.getElem?_eq_getElem hk']
  simp
/-- Such a row, made. -/
theorem ints_own {w : World} {e : TypeId} {x : List Int} {g cap : Nat} {cur : Array Value} (hh : w.heap[g]? = some (.cells cur e (0, 0))) (hn : x.length ≤ cap) (hm : cap ≤ maxLen) (hc : cur.size = cap) (ht : cur.toList.take x.length = x.map (Value.int .i64)) :
  Rep (fun _ => False) w (tInts e) .dp [.slice (some ⟨g, 0, none⟩) x.length cap] x [g] :=
 ⟨_, x.map (Value.int .i64), [g], [], rfl, rfl, El_ints_mk x, rfl, by simp [Ty.sz], .inr ⟨g, cap, cur, rfl, Nat.zero_le _, hh, hn, hm, by rw [hc]; simp [Ty.sz], by simpa [Ty.sz] using ht⟩⟩
theorem ints_none {w : World} {e : TypeId} : Rep (fun _ => False) w (tInts e) .dp [.slice none 0 0] ([] : List Int) [] :=
 ⟨_, [], [], [], rfl, rfl, ⟨rfl, rfl⟩, rfl, by simp, .inl ⟨rfl, rfl⟩⟩
theorem cells_ints (cur : Array Value) (D : List Int) (n : Nat) (hD : D.length ≤ cur.size) (hn : n ≤ D.length) : (Go.Sort.putCells (Value.int .i64) 0 D.toArray cur).size = cur.size ∧ (Go.Sort.putCells (Value.int .i64) 0 D.toArray cur).toList.take n = (D.map (Value.int .i64)).take n := by
 unfold Go.Sort.putCells
 refine ⟨by simp, ?_⟩
 apply List.ext_getElem?
 intro k
 simp only [List.getElem?_take]
 by_cases hk : k < n
 ·rw [if_pos hk, if_pos hk, Array.getElem?_toList, Array.getElem?_mapIdx, Array.getElem?_eq_getElem (show k < cur.size by omega), List.getElem?_map, List.getElem?_eq_getElem (show k < D.length by omega)]
  simp only [Option.map_some, Nat.zero_le, true_and, Nat.zero_add, List.size_toArray, Nat.sub_zero]
  rw [if_pos (show k < D.length by omega), getElem!_pos D.toArray k (by simpa using (show k < D.length by omega))]
  simp
 ·rw [if_neg hk, if_neg hk]
theorem heap_grow {w : World} {os : Array Obj} {b : Nat} (h : b < w.heap.size) : (Go.Sort.grow w os).heap[b]? = w.heap[b]? := by
 unfold Go.Sort.grow
 simp only
 rw [Array.getElem?_append_left h]

/-- What is asked of slices.Sort. -/
def SortSaid (P : Program) (f : FuncId) : Prop :=
 (∀ (blk off cap : Nat) (zs : List Int) (w : World), Go.Sort.Holds (Value.int .i64) w blk off zs.toArray → blk < w.heap.size → zs.length < 4611686018427387904 →
  Calls P f #[.slice (some ⟨blk, off, none⟩) zs.length cap] w fun e w' => e = .returned (.tuple #[]) ∧ ∃ n os, w' = Go.Sort.grow (Go.Sort.putRow (Value.int .i64) (Go.Sort.ahead w n) blk off (zs.mergeSort fun x y => decide (x ≤ y)).toArray) os) ∧
 ∀ (p : Option Addr) (cap : Nat) (w : World), Calls P f #[.slice p 0 cap] w fun e w' => e = .returned (.tuple #[]) ∧ w' = w
theorem sort_spec {f : FuncId} (h : SortSaid P f) {e : TypeId} {x : List Int} (hx : x.length < 4611686018427387904) : FnSpecMut P f [] (tInts e) x [] (x.mergeSort fun a b => decide (a ≤ b)) [] := by
 rintro S w ch vals b0 base hrep hnd hb0 hbase rfl hS
 obtain ⟨v, rfl⟩ : ∃ v, ch = [v] := by
  obtain ⟨u, _, _, _, e1, _⟩ := hrep
  exact ⟨u, e1⟩
 have hargs : ∀ u : Value, ((mkV (tInts e).isAgg [u]) :: ([] : List Value)).toArray = #[u] := fun _ => rfl
 rw [hargs]
 rcases own_ints hrep with ⟨rfl, rfl, rfl⟩ | ⟨g, cap, cur, rfl, rfl, hg, hh, hn, hmx, hcs, ht, hH⟩
 ·refine (h.2 none 0 w).mono ?_
  rintro e' w' ⟨rfl, rfl⟩
  exact ⟨[], [], [], rfl, Below.refl _ _, fun _ _ _ => rfl, by simpa using ints_none, List.nodup_nil, by simp, rfl, rfl, rfl⟩
 ·refine (h.1 g 0 cap x w hH hg hx).mono ?_
  rintro e' w' ⟨rfl, n, os, rfl⟩
  have hlen : (x.mergeSort fun a b => decide (a ≤ b)).length = x.length := List.length_mergeSort x
  generalize (x.mergeSort fun a b => decide (a ≤ b)) = D at *
  obtain ⟨p1, p2⟩ := cells_ints cur D D.length (by omega) (Nat.le_refl _)
  have hsz : (Go.Sort.putRow (Value.int .i64) (Go.Sort.ahead w n) g 0 D.toArray).heap.size = w.heap.size := by rw [Go.Sort.size_putRow]; rfl
  have hat : (Go.Sort.grow (Go.Sort.putRow (Value.int .i64) (Go.Sort.ahead w n) g 0 D.toArray) os).heap[g]? = some (.cells (Go.Sort.putCells (Value.int .i64) 0 D.toArray cur) e (0, 0)) := by
   rw [heap_grow (by rw [hsz]; exact hg)]
   exact heap_putRow_at (Value.int .i64) (Go.Sort.ahead w n) g D.toArray hh
  have hne : ∀ b, b < w.heap.size → b ≠ g → (Go.Sort.grow (Go.Sort.putRow (Value.int .i64) (Go.Sort.ahead w n) g 0 D.toArray) os).heap[b]? = w.heap[b]? := fun b hb h => by
   rw [heap_grow (by rw [hsz]; exact hb)]
   exact heap_putRow (Value.int .i64) (Go.Sort.ahead w n) g D.toArray b h
  refine ⟨[], [], [g], rfl, ⟨rfl, rfl, rfl, ?_, fun k hk => hne k (by omega) (fun e => by have := hb0 g (by simp); omega)⟩, fun b hb hnb => hne b hb (fun e => hnb (by simp [e])), ?_, by simp, fun b hb => .inl hb, rfl, rfl, rfl⟩
  ·show w.heap.size ≤ ((Go.Sort.putRow (Value.int .i64) (Go.Sort.ahead w n) g 0 D.toArray).heap ++ os).size
   rw [Array.size_append, hsz]
   omega
  ·have := ints_own (x := D) hat (by omega) hmx (by rw [p1, hcs]) (by rw [p2, List.take_of_length_le (by simp)])
   rw [hlen] at this
   exact this

def CompactSaid (P : Program) (f : FuncId) : Prop :=
 (∀ (blk off cap : Nat) (d : Array Int) (w : World), Go.Sort.Holds (Value.int .i64) w blk off d → d.size ≤ 9223372036854775807 → d.size ≤ cap →
  Calls P f #[.slice (some ⟨blk, off, none⟩) d.size cap] w fun e w' => e = .returned (.slice (some ⟨blk, off, none⟩) (compactUpTo d d.size).length cap) ∧ ∃ q, w' = Go.Sort.putRow (Value.int .i64) (Go.Sort.ahead w q) blk off (compactUpTo d d.size ++ List.replicate (d.size - (compactUpTo d d.size).length) 0).toArray) ∧
 ∀ (p : Option Addr) (cap : Nat) (w : World), Calls P f #[.slice p 0 cap] w fun e w' => e = .returned (.slice p 0 cap) ∧ w' = w
theorem compact_len (d : Array Int) : (compactUpTo d d.size).length ≤ d.size := by
 unfold compactUpTo
 rw [List.length_map]
 have := List.length_filter_le (keeps d) (List.range d.size)
 rwa [List.length_range] at this
theorem compact_spec {f : FuncId} (h : CompactSaid P f) {e : TypeId} {x : List Int} : FnSpecOwn P f (tInts e) x [] (compact x) := by
 rintro S w v vals b0 base hrep hnd hb0 hbase rfl hS
 rcases own_ints hrep with ⟨rfl, rfl, rfl⟩ | ⟨g, cap, cur, rfl, rfl, hg, hh, hn, hmx, hcs, ht, hH⟩
 ·refine (h.2 none 0 w).mono ?_
  rintro e' w' ⟨rfl, rfl⟩
  exact ⟨_, [], rfl, Below.refl _ _, fun _ _ _ => rfl, ints_none, List.nodup_nil, by simp⟩
 ·have hd : x.toArray.size = x.length := by simp
  have main := h.1 g 0 cap x.toArray w hH (by rw [hd]; unfold maxLen at hmx; omega) (by rw [hd]; exact hn)
  have hl := compact_len x.toArray
  rw [hd] at main hl
  have ec : compactUpTo x.toArray x.length = compact x := rfl
  rw [ec] at main hl
  refine main.mono ?_
  rintro e' w' ⟨rfl, q, rfl⟩
  generalize compact x = C at *
  obtain ⟨p1, p2⟩ := cells_ints cur (C ++ List.replicate (x.length - C.length) 0) C.length (by simp only [List.length_append, List.length_replicate]; omega) (by simp)
  have hat : (Go.Sort.putRow (Value.int .i64) (Go.Sort.ahead w q) g 0 (C ++ List.replicate (x.length - C.length) 0).toArray).heap[g]? = some (.cells (Go.Sort.putCells (Value.int .i64) 0 (C ++ List.replicate (x.length - C.length) 0).toArray cur) e (0, 0)) := heap_putRow_at (Value.int .i64) (Go.Sort.ahead w q) g _ hh
  have hne : ∀ b, b ≠ g → (Go.Sort.putRow (Value.int .i64) (Go.Sort.ahead w q) g 0 (C ++ List.replicate (x.length - C.length) 0).toArray).heap[b]? = w.heap[b]? := fun b h => heap_putRow (Value.int .i64) (Go.Sort.ahead w q) g _ b h
  have hsz : (Go.Sort.putRow (Value.int .i64) (Go.Sort.ahead w q) g 0 (C ++ List.replicate (x.length - C.length) 0).toArray).heap.size = w.heap.size := by rw [Go.Sort.size_putRow]; rfl
  refine ⟨_, [g], rfl, ⟨rfl, rfl, rfl, by rw [hsz]; exact Nat.le_refl _, fun k hk => hne k (fun e => by have := hb0 g (by simp); omega)⟩, fun b _ hnb => hne b (fun e => hnb (by simp [e])), ?_, by simp, fun b hb => .inl hb⟩
  refine ints_own (x := C) hat (by omega) hmx (by rw [p1, hcs]) ?_
  rw [p2, List.map_append, List.take_left' (by simp)]

def GrowSaid (P : Program) (f : FuncId) (e : TypeId) : Prop :=
 (∀ (base : Option Addr) (l c n : Nat) (w : World), l ≤ c → c ≤ 9223372036854775807 → n ≤ 9223372036854775807 → l + n ≤ c → Calls P f #[.slice base l c, .int .i64 n] w fun e w' => e = .returned (.slice base l c) ∧ w' = w) ∧
 ∀ (base : Option Addr) (l c n : Nat) (cs : List Value) (w : World), l ≤ c → c < l + n → (l + n) * 8 ≤ 140737488355328 → l + n ≤ 4611686018427387904 → cs.length = c → (base = none → c = 0) → (∀ a, base = some a → ∀ j v, cs[j]? = some v → w.cell? (a.add j) = some v) →
  Calls P f #[.slice base l c, .int .i64 n] w fun e' w' => ∃ cap z1 z2, cs.length + z1.length = l + n ∧ cs.length + z1.length + z2.length = cap ∧ cap ≤ maxLen ∧ e' = .returned (.slice (some ⟨w.heap.size, 0, none⟩) l cap) ∧ w' = w.drew.alloc (.cells (cs ++ z1 ++ z2).toArray e)
theorem grow_spec {f : FuncId} {e : TypeId} (h : GrowSaid P f e) {x : List Int} {n : Int} (hn0 : 0 ≤ n) (hb : (x.length + n.toNat) * 8 ≤ 140737488355328) : FnSpecOwn P f (tInts e) x [.val (.int .i64) n] x := by
 rintro S w v vals b0 base hrep hnd hb0 hbase hrv hS
 obtain ⟨v1, vs1, rfl, ⟨ch1, rfl, q1, _⟩, rfl⟩ := hrv
 subst q1
 obtain ⟨n, rfl⟩ : ∃ n' : Nat, n = (n' : Int) := ⟨n.toNat, by omega⟩
 rw [Int.toNat_natCast] at hb
 have hargs : ∀ u : Value, (u :: [mkV (Ty.int IntKind.i64).isAgg [Value.int IntKind.i64 (n : Int)]]).toArray = #[u, .int .i64 n] := fun _ => rfl
 rw [hargs]
 have grown : ∀ (base' : Option Addr) (c : Nat) (cs : List Value), x.length ≤ c → c < x.length + n → cs.length = c → (base' = none → c = 0) → (∀ a, base' = some a → ∀ j v, cs[j]? = some v → w.cell? (a.add j) = some v) → cs.take x.length = x.map (Value.int .i64) →
   Calls P f #[.slice base' x.length c, .int .i64 n] w (fun e' w' => ∃ v' b1, e' = .returned v' ∧ Below base w w' ∧ (∀ b, b < w.heap.size → b ∉ b0 → w'.heap[b]? = w.heap[b]?) ∧ Rep (fun _ => False) w' (tInts e) .dp [v'] x b1 ∧ b1.Nodup ∧ (∀ b ∈ b1, b ∈ b0 ∨ w.heap.size ≤ b)) := by
  intro base' c cs h1 h2 h3 h4 h5 h6
  refine (h.2 base' x.length c n cs w h1 h2 hb (by omega) h3 h4 h5).mono ?_
  rintro e' w' ⟨cap, z1, z2, k1, k2, k3, rfl, rfl⟩
  have hheap : (w.drew.alloc (.cells (cs ++ z1 ++ z2).toArray e)).heap = w.heap.push (.cells (cs ++ z1 ++ z2).toArray e) := rfl
  have hold : ∀ b, b < w.heap.size → (w.drew.alloc (.cells (cs ++ z1 ++ z2).toArray e)).heap[b]? = w.heap[b]? := fun b hb => by
   rw [hheap, Array.getElem?_push, if_neg (by omega)]
  refine ⟨_, [w.heap.size], rfl, ⟨rfl, rfl, rfl, by rw [hheap, Array.size_push]; omega, fun k hk => hold k (by omega)⟩, fun b hb _ => hold b hb, ?_, by simp, fun b hb => .inr (by simp at hb; omega)⟩
  refine ints_own (cur := (cs ++ z1 ++ z2).toArray) (by rw [hheap]; simp) (by omega) k3 (by simp only [List.size_toArray, List.length_append]; omega) ?_
  rw [List.append_assoc, List.take_append_of_le_length (by omega)]
  exact h6
 rcases own_ints hrep with ⟨rfl, rfl, rfl⟩ | ⟨g, cap, cur, rfl, rfl, hg, hh, hn, hmx, hcs, ht, hH⟩
 ·by_cases h0 : n = 0
  ·subst h0
   refine (h.1 none 0 0 0 w (by omega) (by omega) (by omega) (by omega)).mono ?_
   rintro e' w' ⟨rfl, rfl⟩
   exact ⟨_, [], rfl, Below.refl _ _, fun _ _ _ => rfl, ints_none, List.nodup_nil, by simp⟩
  ·exact grown none 0 [] (by simp) (by simp; omega) rfl (fun _ => rfl) (fun _ h => by cases h) rfl
 ·by_cases h0 : x.length + n ≤ cap
  ·refine (h.1 (some ⟨g, 0, none⟩) x.length cap n w hn (by unfold maxLen at hmx; omega) (by omega) h0).mono ?_
   rintro e' w' ⟨rfl, rfl⟩
   exact ⟨_, [g], rfl, Below.refl _ _, fun _ _ _ => rfl, hrep, by simp, fun b hb => .inl hb⟩
  ·refine grown (some ⟨g, 0, none⟩) cap cur.toList hn (by omega) (by simp [hcs]) (fun h => by cases h) (fun a ha j v hj => ?_) ht
   cases ha
   have : (⟨g, 0, none⟩ : Addr).add j = ⟨g, j, none⟩ := by
    simp [Addr.add]
    omega
   rw [this, cell_of_row w g j cur e (0, 0) hh]
   rw [Array.getElem?_toList] at hj
   exact hj
theorem sort_ent {f : FuncId} (h : SortSaid P f) {e : TypeId} {x q : List Int} (hq : (bif decide (x.length < 4611686018427387904) then some (x.mergeSort fun a b => decide (a ≤ b)) else none) = some q) :
  FnOk P f ⟨[.val (tInts e)], [], true, false, none, none⟩ [.val (tInts e) x] [⟨tInts e, q⟩] := by
 by_cases hx : x.length < 4611686018427387904
 ·rw [decide_eq_true hx] at hq
  obtain rfl : (x.mergeSort fun a b => decide (a ≤ b)) = q := Option.some.inj hq
  exact ⟨_, _, _, _, _, rfl, rfl, sort_spec h hx⟩
 ·rw [decide_eq_false hx] at hq; cases hq
theorem compact_ent {f : FuncId} (h : CompactSaid P f) {e : TypeId} {x q : List Int} (hq : some (compact x) = some q) :
  FnOk P f ⟨[.val (tInts e)], [(tInts e, .dp)], true, true, none, none⟩ [.val (tInts e) x] [⟨tInts e, q⟩] := by
 obtain rfl : compact x = q := Option.some.inj hq
 exact ⟨_, _, _, _, rfl, rfl, compact_spec h⟩
theorem grow_ent {f : FuncId} {e : TypeId} (h : GrowSaid P f e) {x q : List Int} {n : Int} (hq : (bif decide (0 ≤ n) && decide ((x.length + n.toNat) * 8 ≤ 140737488355328) then some x else none) = some q) :
  FnOk P f ⟨[.val (tInts e), .val (.int .i64)], [(tInts e, .dp)], true, true, none, none⟩ [.val (tInts e) x, .val (.int .i64) n] [⟨tInts e, q⟩] := by
 by_cases hx : 0 ≤ n ∧ (x.length + n.toNat) * 8 ≤ 140737488355328
 ·rw [decide_eq_true hx.1, decide_eq_true hx.2] at hq
  obtain rfl : x = q := Option.some.inj hq
  exact ⟨_, _, _, _, rfl, rfl, grow_spec h hx.1 hx.2⟩
 ·have : (decide (0 ≤ n) && decide ((x.length + n.toNat) * 8 ≤ 140737488355328)) = false := by
   rw [Bool.eq_false_iff]
   intro h'
   simp only [Bool.and_eq_true, decide_eq_true_eq] at h'
   exact hx h'
  rw [this] at hq; cases hq
/-- slices.Grow's two contracts, as one. -/
theorem growSaid {ρ : Ren} (L : Lays8.n4 P ρ) {i0 : TypeInfo} {z : Value} (hi0 : P.info? (ρ.t 25) = some i0) (hz0 : i0.zero = some z) (hs0 : i0.size = 1) (hb0 : i0.bytes = 8) (hzc : z.cells.size = 1) : GrowSaid P (ρ.f 4) (ρ.t 25) := by
 refine ⟨fun base l c n w h1 h2 h3 h4 => Any8.slices_Grow_room L base l c n w h1 h2 h3 h4, fun base l c n cs w h1 h2 h3 h4 h5 h6 h7 => ?_⟩
 refine (Any8.slices_Grow_grow L i0 z hi0 hz0 (by omega) base l c n cs w h1 h2 (by rw [hb0]; exact h3) h4 (by rw [hs0, Nat.mul_one]; exact h5) h6 h7).mono ?_
 rintro e' w' ⟨rfl, rfl⟩
 have hG := grownCap_ge w (l + n) c (ρ.t 25)
 have hm := grownCap_le_maxLen w (l + n) c (ρ.t 25) (by unfold maxLen; omega)
 have hz : ∀ k, (Builtin.zeroCells z.cells k).toList.length = k := fun k => by
  rw [Array.length_toList, size_zeroCells, hzc, Nat.mul_one]
 refine ⟨grownCap w (l + n) c (ρ.t 25), (Builtin.zeroCells z.cells (l + n - c)).toList, (Builtin.zeroCells z.cells (grownCap w (l + n) c (ρ.t 25) - (l + n))).toList, by rw [hz]; omega, by rw [hz, hz]; omega, hm, rfl, ?_⟩
 congr 2
 simp
theorem sortSaid {ρ : Ren} (L : Lays.n189 P ρ) : SortSaid P (ρ.f 189) := ⟨fun blk off cap zs w h1 h2 h3 => Any.slices_Sort_int L blk off cap zs w h1 h2 h3, fun p cap w => Any.slices_Sort_int_none L p cap w⟩
theorem compactSaid {ρ : Ren} (L : Lays2.n20 P ρ) : CompactSaid P (ρ.f 20) := ⟨fun blk off cap d w h1 h2 h3 => Any.slices_Compact_int_arr L blk off cap d w h1 h2 h3, fun p cap w => Any.slices_Compact_int_empty L p cap w⟩
end Go.FP
