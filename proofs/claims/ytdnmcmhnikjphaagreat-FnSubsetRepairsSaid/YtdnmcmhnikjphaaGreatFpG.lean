/- How Go values lie in memory, and an evaluator of code with its soundness (part 7 of 7). Conditions: those that stand in each theorem; nothing is assumed of any program. -/
import Derived.Test.YtdnmcmhnikjphaaGreatFpF
import Derived.Shelf.SlicesE.Clone
import Derived.Shelf.SlicesE.Delete
import Derived.Lib.SlicesCompact
import Derived.Sort.Grow
import Derived.Shelf.Spec.SlicesGrow
import Derived.Shelf.Sort.Plain
import Derived.Shelf.Slices.In.SortNone
import Derived.Shelf.Slices.CompactI
import Derived.WalkKit
import Derived.Deep.LoopGhost
import Derived.Deep.DeepCutAuto
import Derived.Deep.DeepFit
import Derived.Deep.CutBlock
import Derived.Deep.OwnRows
import Derived.Laws.CopyRow
import Derived.Shelf.RegionOpenPlain
import Derived.Shelf.Spec.SlicesInsert
import Derived.Shelf.Bits.Mul64
import Derived.Shelf.SlGeneric
import Derived.Sort.Row

set_option linter.unusedVariables false
set_option linter.unusedSimpArgs false
set_option linter.unnecessarySimpa false

namespace Go.FP
open Go.Proofs Go.Shelf Go.RowKit Go.Lib
variable {P : Program} {ρ : Ren}
theorem Ycq {T : Tab} (hT : TabOk P T) (hm : P.follows .mixedOrders = true) (hb : Bears P (ρ.f 41) (SlBodyN.n41 ρ)) (h4 : T.ty (ρ.t 4) = some .bool) (hbo : P.underlying (ρ.t 4) = some .bool) {te : TE} (h22 : elemAt T (ρ.t 22) = some te) (h23 : te.id = ρ.t 23) : SlLaysE0.n41 P ρ := by
 obtain ⟨k1, k2, _⟩ := TabOk.elem hT h22;exact ⟨hm, hb, hbo, TabOk.agg hT h4, TabOk.sizeOf hT h4, fun w => by rw [TabOk.zero hT h4]; rfl,
  by rw [k2, h23], TabOk.agg hT k1, TabOk.sizeOf hT k1, fun w => by rw [TabOk.zero hT k1]; rfl⟩
set_option maxHeartbeats 2000000 in
set_option maxRecDepth 100000 in
theorem Yee (L : SlLaysE0.n41 P ρ) (i0 : TypeInfo) (z : Value) (size bytes : Nat) (hi : P.info? (ρ.t 23) = some i0) (hz0 : i0.zero = some z) (hz1 : i0.size = size) (hz2 : i0.bytes = bytes) (hzs : z.cells.size = size) (hsz : 0 < size)
  (z23 : ∀ w, (Go.sizeOf (ρ.t 23)).run P w = .ok size w) (ad : Addr) (n c : Nat) (news : List Value) (w : World) (hl : news.length = n * size) (hn : n <= maxLen) (hbig : n * bytes <= 140737488355328)
  (hc : ∀ j u, news[j]? = some u -> w.cell? (ad.add j) = some u) (h1 : ∀ u ∈ news, u.oneCell' = true) :
  Calls P (ρ.f 41) #[.slice (some ad) n c] w fun e w' => ∃ v', e = .returned v' /\ w'.ownsRow w.heap.size (ρ.t 23) size v' n news /\ Below w.heap.size w w' := by
 have mixed := L.mixed;have t4 := L.t4; have a4 := L.a4; have z4 := L.z4; have v4 := L.v4;have t22 := L.t22; have a22 := L.a22; have z22 := L.z22; have v22 := L.v22;have q22 : ∀ (w : World) (a : Option Addr) (n c n' c' : Nat), (binOp .eql (ρ.t 22) (.slice a n c) (.slice none n' c')).run P w = .ok (.bool a.isNone) w := fun w a n c n' c' => Lib.run_eql_slice_nil w _ _ a n c n' c' L.t22;have u22 : ∀ w, Sem.run P (underlying (ρ.t 22)) w = .ok (TypeDesc.slice (ρ.t 23)) w := run_underlying t22;have A : Aside (∀ j u, news[j]? = some u -> w.cell? (ad.add j) = some u) := hc;clear hc;obtain ⟨_, _, FG⟩ := L.f41
 go_enter FG, SlBodyN.n41_ntmps ρ
 go_wp2_with (at_builtin; refine wpList_append_own _ rfl _ _ (ρ.t 22) rfl w.heap.size (ρ.t 23) i0 z size bytes t22 hi hz0 hz1 hz2 hzs hsz _ _ _ rfl (World.ownsRow_made w #[] 0 (Nat.le_refl _) (Nat.zero_le _) (by simp)) ad n c news rfl ?qc1 ?qc2 ?qc3 ?qc4 ?qc5 ?qc6 ?_)
 case qc1 => exact hl
 case qc2 =>
  intro j u hj;have h0 := A.out j u hj;obtain ⟨ab, ao, at'⟩ := ad;exact Lib.cell?_alloc_some _ h0
 case qc3 => exact h1
 case qc4 => rw [Nat.zero_add]; exact hn
 case qc5 => rw [Nat.zero_add]; exact hbig
 case qc6 => simp
 intro v' w1 hown hgrow hnil
 go_wp2
 go_ret
 exact ⟨v', rfl, by simpa using hown, ((Below.refl _ w).alloc (Nat.le_refl _) _).grown hgrow (by simp) (by intro k hk; simp [Value.ownBlock] at hk; omega)⟩
theorem Ycr {T : Tab} (hT : TabOk P T) (hm : P.follows .mixedOrders = true) (hb : Bears P (ρ.f 41) (SlBodyN.n41 ρ)) (h4 : T.ty (ρ.t 4) = some .bool) (hbo : P.underlying (ρ.t 4) = some .bool) {te : TE} (h22 : elemAt T (ρ.t 22) = some te) (h23 : te.id = ρ.t 23) (hf : te.ty.flatB = true) {x : List te.ty.D} (hx : x.length * te.bytes <= 140737488355328) :
  FnSpec P (ρ.f 41) [(.slice te.id te.ty, .dp)] [.val (.slice te.id te.ty) x] [⟨.slice te.id te.ty, x⟩] := by
 have L := Ycq hT hm hb h4 hbo h22 h23;obtain ⟨k1, k2, k3, hsz, hby, i0, hi0, hi1, hi2, hi3⟩ := TabOk.elem hT h22
 rintro S w vals ⟨v, vs', rfl, ⟨ch, rfl, u, xs, b0, b1, rfl, hbs, hel, hrow⟩, rfl⟩
 obtain ⟨rfl, rfl⟩ := List.append_eq_nil_iff.1 hbs.symm;obtain ⟨_, A, cp, rfl, hcp, hz, hc⟩ := hrow;have hlen := hel.len;cases A with
 | none =>
  have h0 : x = [] := List.length_eq_zero_iff.1 (by grind);subst h0;refine Calls.mono (AnyE.slices_Clone_nil L _ _ w) ?_
  rintro e w' ⟨rfl, rfl⟩
  refine ⟨[[.slice none 0 0]], [], rfl, Below.refl _ _, ?_, List.nodup_nil, by simp⟩;exact ⟨[], [], _, [], [], [], rfl, rfl, rfl, ⟨_, [], [], [], rfl, rfl, ⟨rfl, rfl⟩, rfl, by simp, .inl ⟨rfl, rfl⟩⟩, rfl, rfl, rfl⟩
 | some ad =>
  have h63 : x.length <= maxLen := by
   have : x.length * 1 <= x.length * te.bytes := Nat.mul_le_mul_left _ hby;simp [maxLen]; omega
  have hz' : (zeroVal te.ty).cells.size = te.ty.sz := by rw [<- Array.length_toList, Y1y, Y1i]
  refine Calls.mono (Yee L i0 (zeroVal te.ty) te.ty.sz te.bytes (h23 ▸ hi0) hi3 hi1 hi2 hz' hsz (fun w => h23 ▸ TabOk.sizeOf hT k3 w) ad x.length cp xs w hlen h63 hx (fun j u hu => by grind) (hel.all (fun c x b h => Rep.one h))) ?_
  rintro e w' ⟨v', rfl, hown, hbel⟩
  refine ⟨[[v']], v'.ownBlock.toList, rfl, hbel, ?_, by cases v'.ownBlock <;> simp, fun b hb => (Y1v hown b (Ys.1 hb)).1⟩;refine ⟨x, [], [v'], [], v'.ownBlock.toList, [], rfl, rfl, by simp, ⟨v', xs, v'.ownBlock.toList, [], rfl, by simp, ?_, rfl, ?_⟩, rfl, rfl, rfl⟩
  ·refine El.bare ?_ hel;intro _ _ _ h';exact (Rep.flat hf h').2
  ·rw [<- h23] at hown;obtain ⟨g1, g2⟩ := hown;refine ⟨g1, g2.imp id ?_⟩
   rintro ⟨g, cap, cur, k1, _, k2⟩
   exact ⟨g, cap, cur, k1, Nat.zero_le _, k2⟩
theorem Y6q {α : Type} [Inhabited α] (enc : α -> Value) (w : World) (g : Nat) (d : Array α) (b : Nat) (h : b ≠ g) : (Go.Sort.putRow enc w g 0 d).heap[b]? = w.heap[b]? := by
 unfold Go.Sort.putRow Go.Sort.mapBlock;simp only [Array.getElem?_modify];rw [if_neg (fun e => h e.symm)]
theorem Y4y {α : Type} [Inhabited α] (enc : α -> Value) (w : World) (g : Nat) (d : Array α) {cur : Array Value} {e : TypeId} {fr : Nat × Nat} (h : w.heap[g]? = some (.cells cur e fr)) : (Go.Sort.putRow enc w g 0 d).heap[g]? = some (.cells (Go.Sort.putCells enc 0 d cur) e fr) := by
 unfold Go.Sort.putRow Go.Sort.mapBlock;simp only [Array.getElem?_modify, if_true, h];rfl
def renL (f tu i bo sl el : Nat) : Ren := ⟨fun _ => f, fun n => if n = 0 then tu else if n = 3 then i else if n = 4 then bo else if n = 22 then sl else el, id⟩
theorem Ydg {T : Tab} (hT : TabOk P T) (hm : P.follows .mixedOrders = true) {f tu i bo sl el : Nat} (hb : Bears P f (SlBodyN.n41 (renL f tu i bo sl el))) (h4 : T.ty bo = some .bool) (hbo : P.underlying bo = some .bool) {te : TE} (h22 : elemAt T sl = some te) (h23 : te.id = el) (hf : te.ty.flatB = true) {x q : List te.ty.D} (h : (bif decide (x.length * te.bytes <= 140737488355328) then some x else none) = some q) :
  FnOk P f ⟨[.val (.slice te.id te.ty)], [(.slice te.id te.ty, .dp)], false, false, none, none, none⟩ [.val (.slice te.id te.ty) x] [⟨.slice te.id te.ty, q⟩] := by
 by_cases hx : x.length * te.bytes <= 140737488355328
 ·rw [decide_eq_true hx] at h;obtain rfl : x = q := Option.some.inj h;exact Ycr (ρ := renL f tu i bo sl el) hT hm hb h4 hbo h22 h23 hf hx
 ·grind
end Go.FP

namespace Go.FP
open Go.Proofs Go.Shelf Go.RowKit Go.Lib
variable {P : Program}
abbrev tInts (e : TypeId) : Ty := .slice e (.int .i64)
theorem Ybk {S : Nat -> Prop} {w : World} {m : Lvl} : ∀ {x : List Int} {xs : List Value} {bs : List Nat}, El (Rep S w (.int .i64) m) 1 xs x bs -> xs = x.map (Value.int .i64) /\ bs = []
 | [], _, _, h => ⟨h.1, h.2⟩
 | a :: x, xs, bs, ⟨c, xs', b, bs', e, l, eb, p, t⟩ => by
  obtain ⟨h1, h2⟩ := Ybk t;obtain ⟨p1, p2⟩ := p;rw [e, p1, h1, eb, p2, h2];exact ⟨rfl, rfl⟩
theorem Y7z {S : Nat -> Prop} {w : World} {m : Lvl} : ∀ (x : List Int), El (Rep S w (.int .i64) m) 1 (x.map (Value.int .i64)) x []
 | [] => ⟨rfl, rfl⟩
 | a :: x => ⟨[.int .i64 a], x.map (Value.int .i64), [], [], rfl, rfl, rfl, ⟨rfl, rfl⟩, Y7z x⟩
theorem Y5a {w : World} {e : TypeId} {v : Value} {x : List Int} {b0 : List Nat} (h : Rep (fun _ => False) w (tInts e) .dp [v] x b0) :
  (v = .slice none 0 0 /\ x = [] /\ b0 = []) \/ ∃ g cap cur, v = .slice (some ⟨g, 0, none⟩) x.length cap /\ b0 = [g] /\ g < w.heap.size /\ w.heap[g]? = some (.cells cur e (0, 0)) /\ x.length <= cap /\ cap <= maxLen /\ cur.size = cap /\ cur.toList.take x.length = x.map (Value.int .i64) /\ Go.Sort.Holds (Value.int .i64) w g 0 x.toArray := by
 obtain ⟨u, xs, c0, c1, e1, e2, hel, hrow⟩ := h;obtain rfl : v = u := by simpa using e1
 obtain ⟨rfl, hown⟩ : c0 = v.ownBlock.toList /\ w.ownsRow 0 e 1 v x.length xs := hrow;obtain ⟨rfl, rfl⟩ := Ybk hel;have hown0 := hown;obtain ⟨_, ⟨rfl, hn0⟩ | ⟨g, cap, cur, rfl, _, hh, hn, hmx, hcs, ht⟩⟩ := hown
 ·exact .inl ⟨rfl, List.length_eq_zero_iff.1 hn0, by simpa [Value.ownBlock] using e2⟩
 ·rw [Nat.mul_one] at hcs ht;refine .inr ⟨g, cap, cur, rfl, by simpa [Value.ownBlock] using e2, (Y1v hown0 g rfl).2, hh, hn, hmx, hcs, ht, fun k hk => ⟨?_, hown0.frozenAt _⟩⟩;have hk' : k < x.length := by simpa using hk
  rw [Nat.zero_add, hown0.cellAt k (by omega), getElem!_pos _ k hk, List.getElem?_map, List.getElem?_eq_getElem hk'];simp
theorem Y5b {w : World} {e : TypeId} {x : List Int} {g cap : Nat} {cur : Array Value} (hh : w.heap[g]? = some (.cells cur e (0, 0))) (hn : x.length <= cap) (hm : cap <= maxLen) (hc : cur.size = cap) (ht : cur.toList.take x.length = x.map (Value.int .i64)) :
  Rep (fun _ => False) w (tInts e) .dp [.slice (some ⟨g, 0, none⟩) x.length cap] x [g] :=
 ⟨_, x.map (Value.int .i64), [g], [], rfl, rfl, Y7z x, rfl, by simp [Ty.sz], .inr ⟨g, cap, cur, rfl, Nat.zero_le _, hh, hn, hm, by rw [hc]; simp [Ty.sz], by simpa [Ty.sz] using ht⟩⟩
theorem Y67 {w : World} {e : TypeId} : Rep (fun _ => False) w (tInts e) .dp [.slice none 0 0] ([] : List Int) [] :=
 ⟨_, [], [], [], rfl, rfl, ⟨rfl, rfl⟩, rfl, by simp, .inl ⟨rfl, rfl⟩⟩
theorem Y80 (cur : Array Value) (D : List Int) (n : Nat) (hD : D.length <= cur.size) (hn : n <= D.length) : (Go.Sort.putCells (Value.int .i64) 0 D.toArray cur).size = cur.size /\ (Go.Sort.putCells (Value.int .i64) 0 D.toArray cur).toList.take n = (D.map (Value.int .i64)).take n := by
 unfold Go.Sort.putCells;refine ⟨by simp, ?_⟩;apply List.ext_getElem?;intro k;simp only [List.getElem?_take];by_cases hk : k < n
 ·grind
 ·grind
theorem Y8t {w : World} {os : Array Obj} {b : Nat} (h : b < w.heap.size) : (Go.Sort.grow w os).heap[b]? = w.heap[b]? := by
 unfold Go.Sort.grow;simp only;rw [Array.getElem?_append_left h]
def SortSaid (P : Program) (f : FuncId) : Prop :=
 (∀ (blk off cap : Nat) (zs : List Int) (w : World), Go.Sort.Holds (Value.int .i64) w blk off zs.toArray -> blk < w.heap.size -> zs.length < 4611686018427387904 ->
  Calls P f #[.slice (some ⟨blk, off, none⟩) zs.length cap] w fun e w' => e = .returned (.tuple #[]) /\ ∃ n os, w' = Go.Sort.grow (Go.Sort.putRow (Value.int .i64) (Go.Sort.ahead w n) blk off (zs.mergeSort fun x y => decide (x <= y)).toArray) os) /\
 ∀ (p : Option Addr) (cap : Nat) (w : World), Calls P f #[.slice p 0 cap] w fun e w' => e = .returned (.tuple #[]) /\ w' = w
theorem Ydh {f : FuncId} (h : SortSaid P f) {e : TypeId} {x : List Int} (hx : x.length < 4611686018427387904) : FnSpecMut P f [] (tInts e) x [] (x.mergeSort fun a b => decide (a <= b)) [] := by
 rintro S w ch vals b0 base hrep hnd hb0 hbase rfl hS
 obtain ⟨v, rfl⟩ : ∃ v, ch = [v] := by
  obtain ⟨u, _, _, _, e1, _⟩ := hrep;exact ⟨u, e1⟩
 have hargs : ∀ u : Value, ((mkV (tInts e).isAgg [u]) :: ([] : List Value)).toArray = #[u] := fun _ => rfl;rw [hargs];rcases Y5a hrep with ⟨rfl, rfl, rfl⟩ | ⟨g, cap, cur, rfl, rfl, hg, hh, hn, hmx, hcs, ht, hH⟩
 ·refine (h.2 none 0 w).mono ?_
  rintro e' w' ⟨rfl, rfl⟩
  exact ⟨[], [], [], rfl, Below.refl _ _, fun _ _ _ => rfl, by simpa using Y67, List.nodup_nil, by simp, rfl, rfl, rfl⟩
 ·refine (h.1 g 0 cap x w hH hg hx).mono ?_
  rintro e' w' ⟨rfl, n, os, rfl⟩
  have hlen : (x.mergeSort fun a b => decide (a <= b)).length = x.length := List.length_mergeSort x;generalize (x.mergeSort fun a b => decide (a <= b)) = D at *;obtain ⟨p1, p2⟩ := Y80 cur D D.length (by omega) (Nat.le_refl _);have hsz : (Go.Sort.putRow (Value.int .i64) (Go.Sort.ahead w n) g 0 D.toArray).heap.size = w.heap.size := by simp_all
  have hat : (Go.Sort.grow (Go.Sort.putRow (Value.int .i64) (Go.Sort.ahead w n) g 0 D.toArray) os).heap[g]? = some (.cells (Go.Sort.putCells (Value.int .i64) 0 D.toArray cur) e (0, 0)) := by
   rw [Y8t (by grind)];exact Y4y (Value.int .i64) (Go.Sort.ahead w n) g D.toArray hh
  have hne : ∀ b, b < w.heap.size -> b ≠ g -> (Go.Sort.grow (Go.Sort.putRow (Value.int .i64) (Go.Sort.ahead w n) g 0 D.toArray) os).heap[b]? = w.heap[b]? := fun b hb h => by
   rw [Y8t (by grind)];exact Y6q (Value.int .i64) (Go.Sort.ahead w n) g D.toArray b h
  refine ⟨[], [], [g], rfl, ⟨rfl, rfl, rfl, ?_, fun k hk => hne k (by omega) (fun e => by have := hb0 g (by simp); omega)⟩, fun b hb hnb => hne b hb (fun e => hnb (by simp [e])), ?_, by simp, fun b hb => .inl hb, rfl, rfl, rfl⟩
  ·grind
  ·have := Y5b (x := D) hat (by omega) hmx (by rw [p1, hcs]) (by rw [p2, List.take_of_length_le (by simp)]);rw [hlen] at this;exact this
def CompactSaid (P : Program) (f : FuncId) : Prop :=
 (∀ (blk off cap : Nat) (d : Array Int) (w : World), Go.Sort.Holds (Value.int .i64) w blk off d -> d.size <= 9223372036854775807 -> d.size <= cap ->
  Calls P f #[.slice (some ⟨blk, off, none⟩) d.size cap] w fun e w' => e = .returned (.slice (some ⟨blk, off, none⟩) (compactUpTo d d.size).length cap) /\ ∃ q, w' = Go.Sort.putRow (Value.int .i64) (Go.Sort.ahead w q) blk off (compactUpTo d d.size ++ List.replicate (d.size - (compactUpTo d d.size).length) 0).toArray) /\
 ∀ (p : Option Addr) (cap : Nat) (w : World), Calls P f #[.slice p 0 cap] w fun e w' => e = .returned (.slice p 0 cap) /\ w' = w
theorem Yb8 (d : Array Int) : (compactUpTo d d.size).length <= d.size := by
 unfold compactUpTo;rw [List.length_map];have := List.length_filter_le (keeps d) (List.range d.size)
 rwa [List.length_range] at this
theorem Yaq {f : FuncId} (h : CompactSaid P f) {e : TypeId} {x : List Int} : FnSpecOwn P f (tInts e) x [] (compact x) := by
 rintro S w v vals b0 base hrep hnd hb0 hbase rfl hS
 rcases Y5a hrep with ⟨rfl, rfl, rfl⟩ | ⟨g, cap, cur, rfl, rfl, hg, hh, hn, hmx, hcs, ht, hH⟩
 ·refine (h.2 none 0 w).mono ?_
  rintro e' w' ⟨rfl, rfl⟩
  exact ⟨_, [], rfl, Below.refl _ _, fun _ _ _ => rfl, Y67, List.nodup_nil, by simp⟩
 ·have hd : x.toArray.size = x.length := by simp
  have main := h.1 g 0 cap x.toArray w hH (by rw [hd]; unfold maxLen at hmx; omega) (by grind);have hl := Yb8 x.toArray;rw [hd] at main hl;have ec : compactUpTo x.toArray x.length = compact x := rfl;rw [ec] at main hl;refine main.mono ?_
  rintro e' w' ⟨rfl, q, rfl⟩
  generalize compact x = C at *;obtain ⟨p1, p2⟩ := Y80 cur (C ++ List.replicate (x.length - C.length) 0) C.length (by simp; omega) (by simp);have hat : (Go.Sort.putRow (Value.int .i64) (Go.Sort.ahead w q) g 0 (C ++ List.replicate (x.length - C.length) 0).toArray).heap[g]? = some (.cells (Go.Sort.putCells (Value.int .i64) 0 (C ++ List.replicate (x.length - C.length) 0).toArray cur) e (0, 0)) := Y4y (Value.int .i64) (Go.Sort.ahead w q) g _ hh;have hne : ∀ b, b ≠ g -> (Go.Sort.putRow (Value.int .i64) (Go.Sort.ahead w q) g 0 (C ++ List.replicate (x.length - C.length) 0).toArray).heap[b]? = w.heap[b]? := fun b h => Y6q (Value.int .i64) (Go.Sort.ahead w q) g _ b h;have hsz : (Go.Sort.putRow (Value.int .i64) (Go.Sort.ahead w q) g 0 (C ++ List.replicate (x.length - C.length) 0).toArray).heap.size = w.heap.size := by simp_all
  refine ⟨_, [g], rfl, ⟨rfl, rfl, rfl, by rw [hsz]; exact Nat.le_refl _, fun k hk => hne k (fun e => by have := hb0 g (by simp); omega)⟩, fun b _ hnb => hne b (fun e => hnb (by simp [e])), ?_, by grind⟩;refine Y5b (x := C) hat (by omega) hmx (by rw [p1, hcs]) ?_;rw [p2, List.map_append, List.take_left' (by simp)]
def GrowSaid (P : Program) (f : FuncId) (e : TypeId) : Prop :=
 (∀ (base : Option Addr) (l c n : Nat) (w : World), l <= c -> c <= 9223372036854775807 -> n <= 9223372036854775807 -> l + n <= c -> Calls P f #[.slice base l c, .int .i64 n] w fun e w' => e = .returned (.slice base l c) /\ w' = w) /\
 ∀ (base : Option Addr) (l c n : Nat) (cs : List Value) (w : World), l <= c -> c < l + n -> (l + n) * 8 <= 140737488355328 -> l + n <= 4611686018427387904 -> cs.length = c -> (base = none -> c = 0) -> (∀ a, base = some a -> ∀ j v, cs[j]? = some v -> w.cell? (a.add j) = some v) ->
  Calls P f #[.slice base l c, .int .i64 n] w fun e' w' => ∃ cap z1 z2, cs.length + z1.length = l + n /\ cs.length + z1.length + z2.length = cap /\ cap <= maxLen /\ e' = .returned (.slice (some ⟨w.heap.size, 0, none⟩) l cap) /\ w' = w.drew.alloc (.cells (cs ++ z1 ++ z2).toArray e)
theorem Ydi {f : FuncId} {e : TypeId} (h : GrowSaid P f e) {x : List Int} {n : Int} (hn0 : 0 <= n) (hb : (x.length + n.toNat) * 8 <= 140737488355328) : FnSpecOwn P f (tInts e) x [.val (.int .i64) n] x := by
 rintro S w v vals b0 base hrep hnd hb0 hbase hrv hS
 obtain ⟨v1, vs1, rfl, ⟨ch1, rfl, q1, _⟩, rfl⟩ := hrv;subst q1;obtain ⟨n, rfl⟩ : ∃ n' : Nat, n = (n' : Int) := ⟨n.toNat, by omega⟩;rw [Int.toNat_natCast] at hb;have hargs : ∀ u : Value, (u :: [mkV (Ty.int IntKind.i64).isAgg [Value.int IntKind.i64 (n : Int)]]).toArray = #[u, .int .i64 n] := fun _ => rfl;rw [hargs];have grown : ∀ (base' : Option Addr) (c : Nat) (cs : List Value), x.length <= c -> c < x.length + n -> cs.length = c -> (base' = none -> c = 0) -> (∀ a, base' = some a -> ∀ j v, cs[j]? = some v -> w.cell? (a.add j) = some v) -> cs.take x.length = x.map (Value.int .i64) ->
   Calls P f #[.slice base' x.length c, .int .i64 n] w (fun e' w' => ∃ v' b1, e' = .returned v' /\ Below base w w' /\ (∀ b, b < w.heap.size -> b ∉ b0 -> w'.heap[b]? = w.heap[b]?) /\ Rep (fun _ => False) w' (tInts e) .dp [v'] x b1 /\ b1.Nodup /\ (∀ b ∈ b1, b ∈ b0 \/ w.heap.size <= b)) := by
  intro base' c cs h1 h2 h3 h4 h5 h6;refine (h.2 base' x.length c n cs w h1 h2 hb (by omega) h3 h4 h5).mono ?_
  rintro e' w' ⟨cap, z1, z2, k1, k2, k3, rfl, rfl⟩
  have hheap : (w.drew.alloc (.cells (cs ++ z1 ++ z2).toArray e)).heap = w.heap.push (.cells (cs ++ z1 ++ z2).toArray e) := rfl;have hold : ∀ b, b < w.heap.size -> (w.drew.alloc (.cells (cs ++ z1 ++ z2).toArray e)).heap[b]? = w.heap[b]? := fun b hb => by grind
  refine ⟨_, [w.heap.size], rfl, ⟨rfl, rfl, rfl, by rw [hheap, Array.size_push]; omega, fun k hk => hold k (by omega)⟩, fun b hb _ => hold b hb, ?_, by simp, fun b hb => .inr (by grind)⟩;refine Y5b (cur := (cs ++ z1 ++ z2).toArray) (by rw [hheap]; simp) (by omega) k3 (by simp; omega) ?_;rw [List.append_assoc, List.take_append_of_le_length (by omega)];exact h6
 rcases Y5a hrep with ⟨rfl, rfl, rfl⟩ | ⟨g, cap, cur, rfl, rfl, hg, hh, hn, hmx, hcs, ht, hH⟩
 ·by_cases h0 : n = 0
  ·subst h0;refine (h.1 none 0 0 0 w (by omega) (by omega) (by omega) (by omega)).mono ?_
   rintro e' w' ⟨rfl, rfl⟩
   exact ⟨_, [], rfl, Below.refl _ _, fun _ _ _ => rfl, Y67, List.nodup_nil, by simp⟩
  ·exact grown none 0 [] (by simp) (by simp; omega) rfl (fun _ => rfl) (fun _ h => by cases h) rfl
 ·by_cases h0 : x.length + n <= cap
  ·refine (h.1 (some ⟨g, 0, none⟩) x.length cap n w hn (by unfold maxLen at hmx; omega) (by omega) h0).mono ?_
   rintro e' w' ⟨rfl, rfl⟩
   exact ⟨_, [g], rfl, Below.refl _ _, fun _ _ _ => rfl, hrep, by grind⟩
  ·refine grown (some ⟨g, 0, none⟩) cap cur.toList hn (by omega) (by simp [hcs]) (fun h => by cases h) (fun a ha j v hj => ?_) ht;cases ha;have : (⟨g, 0, none⟩ : Addr).add j = ⟨g, j, none⟩ := by
    simp [Addr.add];omega
   rw [this, cell_of_row w g j cur e (0, 0) hh];rw [Array.getElem?_toList] at hj;exact hj
theorem Yef {f : FuncId} (h : SortSaid P f) {e : TypeId} {x q : List Int} (hq : (bif decide (x.length < 4611686018427387904) then some (x.mergeSort fun a b => decide (a <= b)) else none) = some q) :
  FnOk P f ⟨[.val (tInts e)], [], true, false, none, none, none⟩ [.val (tInts e) x] [⟨tInts e, q⟩] := by
 by_cases hx : x.length < 4611686018427387904
 ·rw [decide_eq_true hx] at hq;obtain rfl : (x.mergeSort fun a b => decide (a <= b)) = q := Option.some.inj hq;exact ⟨_, _, _, _, _, rfl, rfl, Ydh h hx⟩
 ·grind
theorem Yb9 {f : FuncId} (h : CompactSaid P f) {e : TypeId} {x q : List Int} (hq : some (compact x) = some q) :
  FnOk P f ⟨[.val (tInts e)], [(tInts e, .dp)], true, true, none, none, none⟩ [.val (tInts e) x] [⟨tInts e, q⟩] := by
 obtain rfl : compact x = q := Option.some.inj hq;exact ⟨_, _, _, _, rfl, rfl, Yaq h⟩
theorem Yeg {f : FuncId} {e : TypeId} (h : GrowSaid P f e) {x q : List Int} {n : Int} (hq : (bif decide (0 <= n) && decide ((x.length + n.toNat) * 8 <= 140737488355328) then some x else none) = some q) :
  FnOk P f ⟨[.val (tInts e), .val (.int .i64)], [(tInts e, .dp)], true, true, none, none, none⟩ [.val (tInts e) x, .val (.int .i64) n] [⟨tInts e, q⟩] := by
 by_cases hx : 0 <= n /\ (x.length + n.toNat) * 8 <= 140737488355328
 ·rw [decide_eq_true hx.1, decide_eq_true hx.2] at hq;obtain rfl : x = q := Option.some.inj hq;exact ⟨_, _, _, _, rfl, rfl, Ydi h hx.1 hx.2⟩
 ·grind
theorem Yeh {ρ : Ren} (L : Lays8.n4 P ρ) {i0 : TypeInfo} {z : Value} (hi0 : P.info? (ρ.t 25) = some i0) (hz0 : i0.zero = some z) (hs0 : i0.size = 1) (hb0 : i0.bytes = 8) (hzc : z.cells.size = 1) : GrowSaid P (ρ.f 4) (ρ.t 25) := by
 refine ⟨fun base l c n w h1 h2 h3 h4 => Any8.slices_Grow_room L base l c n w h1 h2 h3 h4, fun base l c n cs w h1 h2 h3 h4 h5 h6 h7 => ?_⟩;refine (Any8.slices_Grow_grow L i0 z hi0 hz0 (by omega) base l c n cs w h1 h2 (by rw [hb0]; exact h3) h4 (by grind) h6 h7).mono ?_
 rintro e' w' ⟨rfl, rfl⟩
 have hG := grownCap_ge w (l + n) c (ρ.t 25);have hm := grownCap_le_maxLen w (l + n) c (ρ.t 25) (by unfold maxLen; omega);have hz : ∀ k, (Builtin.zeroCells z.cells k).toList.length = k := fun k => by
  rw [Array.length_toList, size_zeroCells, hzc, Nat.mul_one]
 refine ⟨grownCap w (l + n) c (ρ.t 25), (Builtin.zeroCells z.cells (l + n - c)).toList, (Builtin.zeroCells z.cells (grownCap w (l + n) c (ρ.t 25) - (l + n))).toList, by rw [hz]; omega, by rw [hz, hz]; omega, hm, rfl, ?_⟩;congr 2;simp
theorem Yei {ρ : Ren} (L : Lays.n189 P ρ) : SortSaid P (ρ.f 189) := ⟨fun blk off cap zs w h1 h2 h3 => Any.slices_Sort_int L blk off cap zs w h1 h2 h3, fun p cap w => Any.slices_Sort_int_none L p cap w⟩
theorem Yba {ρ : Ren} (L : Lays2.n20 P ρ) : CompactSaid P (ρ.f 20) := ⟨fun blk off cap d w h1 h2 h3 => Any.slices_Compact_int_arr L blk off cap d w h1 h2 h3, fun p cap w => Any.slices_Compact_int_empty L p cap w⟩
end Go.FP

namespace Go.FP
open Go.Proofs Go.Shelf Go.RowKit Go.Lib
variable {P : Program}
def RepeatSaid (P : Program) (f : FuncId) (e : TypeId) : Prop :=
 ∀ (n : Nat) (ad : Addr) (cx : Nat) (v : Int) (w : World), n * 8 <= 140737488355328 -> w.cell? ad = some (.int .i64 v) ->
  Calls P f #[.slice (some ad) 1 cx, .int .i64 (n : Int)] w fun e' w' => e' = .returned (.slice (some ⟨w.heap.size, 0, none⟩) n n) /\ ∃ m, w' = (Go.Sort.ahead w m).alloc (.cells (Array.replicate n (.int .i64 v)) e)
theorem Ybb {f : FuncId} {e : TypeId} (h : RepeatSaid P f e) {v : Int} {n : Int} (hn0 : 0 <= n) (hb : n.toNat * 8 <= 140737488355328) : FnSpecOwn P f (tInts e) [v] [.val (.int .i64) n] (List.replicate n.toNat v) := by
 rintro S w u vals b0 base hrep hnd hb0 hbase hrv hS
 obtain ⟨v1, vs1, rfl, ⟨ch1, rfl, q1, _⟩, rfl⟩ := hrv;subst q1;obtain ⟨n, rfl⟩ : ∃ n' : Nat, n = (n' : Int) := ⟨n.toNat, by omega⟩;rw [Int.toNat_natCast] at hb ⊢;have hargs : ∀ u : Value, (u :: [mkV (Ty.int IntKind.i64).isAgg [Value.int IntKind.i64 (n : Int)]]).toArray = #[u, .int .i64 n] := fun _ => rfl;rw [hargs];rcases Y5a hrep with ⟨rfl, h0, rfl⟩ | ⟨g, cap, cur, rfl, rfl, hg, hh, hn, hmx, hcs, ht, hH⟩
 ·cases h0
 ·have hcell : w.cell? ⟨g, 0, none⟩ = some (.int .i64 v) := by
   rw [cell_of_row w g 0 cur e (0, 0) hh];have := congrArg (fun l => l[0]?) ht;simpa using this
  refine (h n ⟨g, 0, none⟩ cap v w hb hcell).mono ?_
  rintro e' w' ⟨rfl, m, rfl⟩
  have hheap : ((Go.Sort.ahead w m).alloc (.cells (Array.replicate n (.int .i64 v)) e)).heap = w.heap.push (.cells (Array.replicate n (.int .i64 v)) e) := rfl;have hold : ∀ b, b < w.heap.size -> ((Go.Sort.ahead w m).alloc (.cells (Array.replicate n (.int .i64 v)) e)).heap[b]? = w.heap[b]? := fun b hb => by grind
  refine ⟨_, [w.heap.size], rfl, ⟨rfl, rfl, rfl, by rw [hheap, Array.size_push]; omega, fun k hk => hold k (by omega)⟩, fun b hb _ => hold b hb, ?_, by simp, fun b hb => .inr (by grind)⟩;have := Y5b (x := List.replicate n v) (cap := n) (cur := Array.replicate n (.int .i64 v)) (w := (Go.Sort.ahead w m).alloc (.cells (Array.replicate n (.int .i64 v)) e)) (g := w.heap.size) (e := e) (by rw [hheap]; simp) (by simp) (by unfold maxLen; omega) (by simp) (by simp)
  rwa [List.length_replicate] at this
theorem Ycs {f : FuncId} {e : TypeId} (h : RepeatSaid P f e) {x q : List Int} {n : Int} (hq : (bif decide (x.length = 1) && (decide (0 <= n) && decide (n * 8 <= 140737488355328)) then some (List.replicate n.toNat (x.getD 0 0)) else none) = some q) :
  FnOk P f ⟨[.val (tInts e), .val (.int .i64)], [(tInts e, .dp)], true, true, none, none, none⟩ [.val (tInts e) x, .val (.int .i64) n] [⟨tInts e, q⟩] := by
 by_cases hx : x.length = 1 /\ 0 <= n /\ n * 8 <= 140737488355328
 ·rw [decide_eq_true hx.1, decide_eq_true hx.2.1, decide_eq_true hx.2.2] at hq;obtain ⟨v, rfl⟩ := List.length_eq_one_iff.1 hx.1;obtain rfl : List.replicate n.toNat v = q := Option.some.inj hq;exact ⟨_, _, _, _, rfl, rfl, Ybb h hx.2.1 (by omega)⟩
 ·grind
end Go.FP

namespace Go.Proofs
variable {P : Program}
def repRow (n : Nat) (v : Int) (k : Nat) : List Value := List.replicate k (.int .i64 v) ++ List.replicate (n - k) (.int .i64 0)
theorem Y81 {n k : Nat} {v : Int} (h : k <= n) : (repRow n v k).length = n := by simp [repRow]; omega
theorem Y6r {n k m : Nat} {v : Int} (h : k + m <= n) : (repRow n v k).take k ++ List.replicate m (.int .i64 v) ++ (repRow n v k).drop (k + m) = repRow n v (k + m) := by
 unfold repRow;rw [List.take_left' (by simp), List.drop_append, List.length_replicate, List.drop_eq_nil_of_le (by simp), List.nil_append, List.drop_replicate, List.replicate_append_replicate];congr 2;omega
theorem Y68 (w : World) (a b : Array Value) (t : TypeId) : (w.alloc (.cells a t)).setRow w.heap.size b = w.alloc (.cells b t) := by
 have e : ∀ f : Obj -> Obj, f (.cells a t) = .cells b t -> (w.heap.push (.cells a t)).modify w.heap.size f = w.heap.push (.cells b t) := fun f hf => by grind
 show ({ w with heap := (w.heap.push (.cells a t)).modify w.heap.size _ } : World) = { w with heap := w.heap.push (.cells b t) };rw [e];rfl
theorem Y76 (w : World) (o : Obj) : (w.alloc o).heap[w.heap.size]? = some o := by
 show (w.heap.push o)[w.heap.size]? = _;simp
theorem Yej (n : Nat) (v : Int) : madeCells #[Value.int .i64 0] n = (repRow n v 0).toArray := by
 apply Array.ext
 ·simp [madeCells, repRow]
 ·intro i h1 h2;simp [madeCells, repRow, Nat.mod_one]
theorem Yct {w : World} (o : Obj) {a : Addr} {u : Value} (h : w.cell? a = some u) : (w.alloc o).cell? a = some u := Lib.cell?_alloc_some _ h
theorem Ycu {w : World} {t26 t3 : TypeId} (hu : P.underlying t26 = some (.slice t3)) (hs : (P.info? t3).map (·.size) = some 1) {n cx : Nat} {v : Int} {ad : Addr} (hc : w.cell? ad = some (.int .i64 v)) (ty : TypeId) :
  (Builtin.copy_ #[t26, t26] ty #[.slice (some ⟨w.heap.size, 0, none⟩) n n, .slice (some ad) 1 cx]).run P (w.alloc (.cells (madeCells #[.int .i64 0] n) t3)) = .ok (.int .i64 ((min 1 n : Nat) : Int)) (w.alloc (.cells (repRow n v (min 1 n)).toArray t3)) := by
 rw [Yej n v];have h := run_copy_row (P := P) (w.alloc (.cells (repRow n v 0).toArray t3)) t26 t26 ty t3 w.heap.size 0 n n ad 1 cx (repRow n v 0).toArray t3 (List.replicate (min 1 n) (.int .i64 v)) hu hs (Y76 w _) (by simp)
  (fun j u hj => by
   rw [List.getElem?_replicate] at hj;split at hj
   ·rename_i hj1;obtain rfl : j = 0 := by omega
    obtain rfl := Option.some.inj hj;have : ad.add 0 = ad := by simp [Addr.add]
    rw [this];exact Yct _ hc
   ·grind) (by simp [Y81 (Nat.zero_le n)]; omega) (fun u hu => by rw [(List.mem_replicate.1 hu).2]; rfl)
 rw [h, Y68];have := Y6r (n := n) (k := 0) (m := min 1 n) (v := v) (by omega);simp at this ⊢;rw [<- this];simp [goInt]
theorem Y8u {w : World} {t26 t3 : TypeId} (hu : P.underlying t26 = some (.slice t3)) (hs : (P.info? t3).map (·.size) = some 1) {n k : Nat} {v : Int} (hk : k <= n) (cx cy : Nat) (ty : TypeId) :
  (Builtin.copy_ #[t26, t26] ty #[.slice (some ⟨w.heap.size, k, none⟩) (n - k) cx, .slice (some ⟨w.heap.size, 0, none⟩) k cy]).run P (w.alloc (.cells (repRow n v k).toArray t3)) = .ok (.int .i64 ((min k (n - k) : Nat) : Int)) (w.alloc (.cells (repRow n v (k + min k (n - k))).toArray t3)) := by
 have h := run_copy_row (P := P) (w.alloc (.cells (repRow n v k).toArray t3)) t26 t26 ty t3 w.heap.size k (n - k) cx ⟨w.heap.size, 0, none⟩ k cy (repRow n v k).toArray t3 (List.replicate (min k (n - k)) (.int .i64 v)) hu hs (Y76 w _) (by simp)
  (fun j u hj => by
   rw [List.getElem?_replicate] at hj;split at hj
   ·rename_i hj1;obtain rfl := Option.some.inj hj;have e : (⟨w.heap.size, 0, none⟩ : Addr).add j = ⟨w.heap.size, j, none⟩ := by simp [Addr.add]; omega
    have hjk : j < k := by omega
    rw [e];rw [cell_of_row _ _ j _ _ (0, 0) (Y76 w _)];simp [repRow, List.getElem?_append, hjk]
   ·grind) (by simp [Y81 hk]; omega) (fun u hu => by rw [(List.mem_replicate.1 hu).2]; rfl)
 rw [h, Y68];have := Y6r (n := n) (k := k) (m := min k (n - k)) (v := v) (by omega);simp only [List.length_replicate];rw [this];simp [goInt]
end Go.Proofs
