/- How Go values lie in memory, and an evaluator of code with its soundness (part 7 of 7). Conditions: those that stand in each theorem; nothing is assumed of any program. -/
import Derived.Test.YtdnmcmhnikjphaaGreatFpF
import Derived.Shelf.SlicesE.Clone
import Derived.Shelf.SlicesE.Delete
import Derived.Lib.SlicesCompact
import Derived.Sort.Grow
import Derived.Shelf.Spec.SlicesGrow
import Derived.Shelf.Sort.Plain
import Derived.Shelf.Slices.In.SortNone
import Derived.Shelf.Slices.CompactI
import Derived.WalkKit
import Derived.Deep.LoopGhost
import Derived.Deep.DeepCutAuto
import Derived.Deep.DeepFit
import Derived.Deep.CutBlock
import Derived.Deep.OwnRows
import Derived.Laws.CopyRow
import Derived.Shelf.RegionOpenPlain
import Derived.Shelf.Spec.SlicesInsert
import Derived.Shelf.Bits.Mul64
import Derived.Shelf.SlGeneric
import Derived.Sort.Row

set_option linter.unusedVariables false
set_option linter.unusedSimpArgs false
set_option linter.unnecessarySimpa false

namespace Go.FP
open Go.Proofs Go.Shelf Go.RowKit Go.Lib
variable {P : Program} {ρ : Ren}
theorem Ycw {T : Tab} (hT : TabOk P T) (m : P.follows .mixedOrders = true) (l : Bears P (ρ.f 41) (SlBodyN.n41 ρ)) (h : T.ty (ρ.t 4) = some .bool) (i : P.underlying (ρ.t 4) = some .bool) {te : TE} (b : elemAt T (ρ.t 22) = some te) (g : te.id = ρ.t 23) : SlLaysE0.n41 P ρ := by
 obtain ⟨j, k2, _⟩ := TabOk.elem hT b;exact ⟨m, l, i, TabOk.agg hT h, TabOk.sizeOf hT h, fun w => by rw [TabOk.zero hT h]; rfl,
  by rw [k2, g], TabOk.agg hT j, TabOk.sizeOf hT j, fun w => by rw [TabOk.zero hT j]; rfl⟩
set_option maxHeartbeats 2000000 in
set_option maxRecDepth 100000 in
theorem Yej (L : SlLaysE0.n41 P ρ) (i0 : TypeInfo) (z : Value) (b bytes : Nat) (X : P.info? (ρ.t 23) = some i0) (C : i0.zero = some z) (D : i0.size = b) (E : i0.bytes = bytes) (F : z.cells.size = b) (B : 0 < b)
  (z23 : ∀ w, (Go.sizeOf (ρ.t 23)).run P w = .ok b w) (i : Addr) (n c : Nat) (g : List Value) (w : World) (hl : g.length = n * b) (hn : n <= maxLen) (l : n * bytes <= 140737488355328)
  (I : ∀ j u, g[j]? = some u -> w.cell? (i.add j) = some u) (W : ∀ u ∈ g, u.oneCell' = true) :
  Calls P (ρ.f 41) #[.slice (some i) n c] w fun e w' => ∃ q, e = .returned q /\ w'.ownsRow w.heap.size (ρ.t 23) b q n g /\ Below w.heap.size w w' := by
 have mixed := L.mixed;have t4 := L.t4; have a4 := L.a4; have z4 := L.z4; have v4 := L.v4;have p := L.t22; have O := L.a22; have z22 := L.z22; have v22 := L.v22;have q22 : ∀ (w : World) (a : Option Addr) (n c G y : Nat), (binOp .eql (ρ.t 22) (.slice a n c) (.slice none G y)).run P w = .ok (.bool a.isNone) w := fun w a n c G y => Lib.run_eql_slice_nil w _ _ a n c G y L.t22;have u22 : ∀ w, Sem.run P (underlying (ρ.t 22)) w = .ok (TypeDesc.slice (ρ.t 23)) w := run_underlying p;have A : Aside (∀ j u, g[j]? = some u -> w.cell? (i.add j) = some u) := I;clear I;obtain ⟨_, _, N⟩ := L.f41
 go_enter N, SlBodyN.n41_ntmps ρ
 go_wp2_with (at_builtin; refine wpList_append_own _ rfl _ _ (ρ.t 22) rfl w.heap.size (ρ.t 23) i0 z b bytes p X C D E F B _ _ _ rfl (World.ownsRow_made w #[] 0 (Nat.le_refl _) (Nat.zero_le _) (by simp)) i n c g rfl ?qc1 ?qc2 ?qc3 ?qc4 ?qc5 ?qc6 ?_)
 case qc1 => exact hl
 case qc2 =>
  intro j u Y;have V := A.out j u Y;obtain ⟨ab, ao, U⟩ := i;exact Lib.cell?_alloc_some _ V
 case qc3 => exact W
 case qc4 => rw [Nat.zero_add]; exact hn
 case qc5 => rw [Nat.zero_add]; exact l
 case qc6 => simp
 intro q w1 m h M
 go_wp2
 go_ret
 exact ⟨q, rfl, by simpa using m, ((Below.refl _ w).alloc (Nat.le_refl _) _).grown h (by simp) (by intro k Z; simp [Value.ownBlock] at Z; omega)⟩
theorem Ycx {T : Tab} (hT : TabOk P T) (hm : P.follows .mixedOrders = true) (D : Bears P (ρ.f 41) (SlBodyN.n41 ρ)) (h4 : T.ty (ρ.t 4) = some .bool) (E : P.underlying (ρ.t 4) = some .bool) {te : TE} (q : elemAt T (ρ.t 22) = some te) (l : te.id = ρ.t 23) (hf : te.ty.flatB = true) {x : List te.ty.D} (hx : x.length * te.bytes <= 140737488355328) :
  FnSpec P (ρ.f 41) [(.slice te.id te.ty, .dp)] [.val (.slice te.id te.ty) x] [⟨.slice te.id te.ty, x⟩] := by
 have L := Ycw hT hm D h4 E q l;obtain ⟨W, k2, k3, U, G, i0, I, M, N, O⟩ := TabOk.elem hT q
 rintro S w X ⟨v, vs', rfl, ⟨ch, rfl, u, xs, b0, b1, rfl, F, m, B⟩, rfl⟩
 obtain ⟨rfl, rfl⟩ := List.append_eq_nil_iff.1 F.symm;obtain ⟨_, A, Z, rfl, hcp, hz, hc⟩ := B;have z := m.len;cases A with
 | none =>
  have h0 : x = [] := List.length_eq_zero_iff.1 (by grind);subst h0;refine Calls.mono (AnyE.slices_Clone_nil L _ _ w) ?_
  rintro e w' ⟨rfl, rfl⟩
  refine ⟨[[.slice none 0 0]], [], rfl, Below.refl _ _, ?_, List.nodup_nil, by simp⟩;exact ⟨[], [], _, [], [], [], rfl, rfl, rfl, ⟨_, [], [], [], rfl, rfl, ⟨rfl, rfl⟩, rfl, by simp, .inl ⟨rfl, rfl⟩⟩, rfl, rfl, rfl⟩
 | some Y =>
  have C : x.length <= maxLen := by
   have : x.length * 1 <= x.length * te.bytes := Nat.mul_le_mul_left _ G;simp [maxLen]; omega
  have V : (zeroVal te.ty).cells.size = te.ty.sz := by rw [<- Array.length_toList, Y1l, Y1c]
  refine Calls.mono (Yej L i0 (zeroVal te.ty) te.ty.sz te.bytes (l ▸ I) O M N V U (fun w => l ▸ TabOk.sizeOf hT k3 w) Y x.length Z xs w z C hx (fun j u hu => by grind) (m.all (fun c x b h => Rep.one h))) ?_
  rintro e w' ⟨p, rfl, i, y⟩
  refine ⟨[[p]], p.ownBlock.toList, rfl, y, ?_, by cases p.ownBlock <;> simp, fun b D => (Y1m i b (Yk.1 D)).1⟩;refine ⟨x, [], [p], [], p.ownBlock.toList, [], rfl, rfl, by simp, ⟨p, xs, p.ownBlock.toList, [], rfl, by simp, ?_, rfl, ?_⟩, rfl, rfl, rfl⟩
  ·refine El.bare ?_ m;intro _ _ _ h';exact (Rep.flat hf h').2
  ·rw [<- l] at i;obtain ⟨g1, g2⟩ := i;refine ⟨g1, g2.imp id ?_⟩
   rintro ⟨g, cap, cur, W, _, k2⟩
   exact ⟨g, cap, cur, W, Nat.zero_le _, k2⟩
theorem Y6s {α : Type} [Inhabited α] (enc : α -> Value) (w : World) (g : Nat) (d : Array α) (b : Nat) (h : b ≠ g) : (Go.Sort.putRow enc w g 0 d).heap[b]? = w.heap[b]? := by
 unfold Go.Sort.putRow Go.Sort.mapBlock;simp only [Array.getElem?_modify];rw [if_neg (fun e => h e.symm)]
theorem Y4z {α : Type} [Inhabited α] (enc : α -> Value) (w : World) (g : Nat) (d : Array α) {cur : Array Value} {e : TypeId} {fr : Nat × Nat} (h : w.heap[g]? = some (.cells cur e fr)) : (Go.Sort.putRow enc w g 0 d).heap[g]? = some (.cells (Go.Sort.putCells enc 0 d cur) e fr) := by
 unfold Go.Sort.putRow Go.Sort.mapBlock;simp only [Array.getElem?_modify, if_true, h];rfl
def renL (f j i b h g : Nat) : Ren := ⟨fun _ => f, fun n => if n = 0 then j else if n = 3 then i else if n = 4 then b else if n = 22 then h else g, id⟩
theorem Ydm {T : Tab} (hT : TabOk P T) (D : P.follows .mixedOrders = true) {f z i b p g : Nat} (B : Bears P f (SlBodyN.n41 (renL f z i b p g))) (A : T.ty b = some .bool) (m : P.underlying b = some .bool) {te : TE} (j : elemAt T p = some te) (l : te.id = g) (C : te.ty.flatB = true) {x q : List te.ty.D} (h : (bif decide (x.length * te.bytes <= 140737488355328) then some x else none) = some q) :
  FnOk P f ⟨[.val (.slice te.id te.ty)], [(.slice te.id te.ty, .dp)], false, false, none, none, none⟩ [.val (.slice te.id te.ty) x] [⟨.slice te.id te.ty, q⟩] := by
 by_cases y : x.length * te.bytes <= 140737488355328
 ·rw [decide_eq_true y] at h;obtain rfl : x = q := Option.some.inj h;exact Ycx (ρ := renL f z i b p g) hT D B A m j l C y
 ·grind
end Go.FP

namespace Go.FP
open Go.Proofs Go.Shelf Go.RowKit Go.Lib
variable {P : Program}
abbrev tInts (e : TypeId) : Ty := .slice e (.int .i64)
theorem Ybp {S : Nat -> Prop} {w : World} {m : Lvl} : ∀ {x : List Int} {xs : List Value} {bs : List Nat}, El (Rep S w (.int .i64) m) 1 xs x bs -> xs = x.map (Value.int .i64) /\ bs = []
 | [], _, _, h => ⟨h.1, h.2⟩
 | a :: x, xs, bs, ⟨c, xs', b, bs', e, l, eb, p, t⟩ => by
  obtain ⟨g, i⟩ := Ybp t;obtain ⟨j, q⟩ := p;rw [e, j, g, eb, q, i];exact ⟨rfl, rfl⟩
theorem Y81 {S : Nat -> Prop} {w : World} {m : Lvl} : ∀ (x : List Int), El (Rep S w (.int .i64) m) 1 (x.map (Value.int .i64)) x []
 | [] => ⟨rfl, rfl⟩
 | a :: x => ⟨[.int .i64 a], x.map (Value.int .i64), [], [], rfl, rfl, rfl, ⟨rfl, rfl⟩, Y81 x⟩
theorem Y5b {w : World} {e : TypeId} {v : Value} {x : List Int} {m : List Nat} (h : Rep (fun _ => False) w (tInts e) .dp [v] x m) :
  (v = .slice none 0 0 /\ x = [] /\ m = []) \/ ∃ g cap cur, v = .slice (some ⟨g, 0, none⟩) x.length cap /\ m = [g] /\ g < w.heap.size /\ w.heap[g]? = some (.cells cur e (0, 0)) /\ x.length <= cap /\ cap <= maxLen /\ cur.size = cap /\ cur.toList.take x.length = x.map (Value.int .i64) /\ Go.Sort.Holds (Value.int .i64) w g 0 x.toArray := by
 obtain ⟨u, xs, C, G, D, e2, p, l⟩ := h;obtain rfl : v = u := by simpa using D
 obtain ⟨rfl, i⟩ : C = v.ownBlock.toList /\ w.ownsRow 0 e 1 v x.length xs := l;obtain ⟨rfl, rfl⟩ := Ybp p;have b := i;obtain ⟨_, ⟨rfl, z⟩ | ⟨g, cap, cur, rfl, _, E, F, y, j, B⟩⟩ := i
 ·exact .inl ⟨rfl, List.length_eq_zero_iff.1 z, by simpa [Value.ownBlock] using e2⟩
 ·rw [Nat.mul_one] at j B;refine .inr ⟨g, cap, cur, rfl, by simpa [Value.ownBlock] using e2, (Y1m b g rfl).2, E, F, y, j, B, fun k A => ⟨?_, b.frozenAt _⟩⟩;have q : k < x.length := by simpa using A
  rw [Nat.zero_add, b.cellAt k (by omega), getElem!_pos _ k A, List.getElem?_map, List.getElem?_eq_getElem q];simp
theorem Y5c {w : World} {e : TypeId} {x : List Int} {g cap : Nat} {cur : Array Value} (h : w.heap[g]? = some (.cells cur e (0, 0))) (j : x.length <= cap) (i : cap <= maxLen) (b : cur.size = cap) (l : cur.toList.take x.length = x.map (Value.int .i64)) :
  Rep (fun _ => False) w (tInts e) .dp [.slice (some ⟨g, 0, none⟩) x.length cap] x [g] :=
 ⟨_, x.map (Value.int .i64), [g], [], rfl, rfl, Y81 x, rfl, by simp [Ty.sz], .inr ⟨g, cap, cur, rfl, Nat.zero_le _, h, j, i, by rw [b]; simp [Ty.sz], by simpa [Ty.sz] using l⟩⟩
theorem Y69 {w : World} {e : TypeId} : Rep (fun _ => False) w (tInts e) .dp [.slice none 0 0] ([] : List Int) [] :=
 ⟨_, [], [], [], rfl, rfl, ⟨rfl, rfl⟩, rfl, by simp, .inl ⟨rfl, rfl⟩⟩
theorem Y82 (cur : Array Value) (D : List Int) (n : Nat) (b : D.length <= cur.size) (h : n <= D.length) : (Go.Sort.putCells (Value.int .i64) 0 D.toArray cur).size = cur.size /\ (Go.Sort.putCells (Value.int .i64) 0 D.toArray cur).toList.take n = (D.map (Value.int .i64)).take n := by
 unfold Go.Sort.putCells;refine ⟨by simp, ?_⟩;apply List.ext_getElem?;intro k;simp only [List.getElem?_take];by_cases g : k < n
 ·grind
 ·grind
theorem Y8v {w : World} {g : Array Obj} {b : Nat} (h : b < w.heap.size) : (Go.Sort.grow w g).heap[b]? = w.heap[b]? := by
 unfold Go.Sort.grow;simp only;rw [Array.getElem?_append_left h]
def SortSaid (P : Program) (f : FuncId) : Prop :=
 (∀ (b off cap : Nat) (g : List Int) (w : World), Go.Sort.Holds (Value.int .i64) w b off g.toArray -> b < w.heap.size -> g.length < 4611686018427387904 ->
  Calls P f #[.slice (some ⟨b, off, none⟩) g.length cap] w fun e w' => e = .returned (.tuple #[]) /\ ∃ n h, w' = Go.Sort.grow (Go.Sort.putRow (Value.int .i64) (Go.Sort.ahead w n) b off (g.mergeSort fun x y => decide (x <= y)).toArray) h) /\
 ∀ (p : Option Addr) (cap : Nat) (w : World), Calls P f #[.slice p 0 cap] w fun e w' => e = .returned (.tuple #[]) /\ w' = w
theorem Ydn {f : FuncId} (h : SortSaid P f) {e : TypeId} {x : List Int} (V : x.length < 4611686018427387904) : FnSpecMut P f [] (tInts e) x [] (x.mergeSort fun a b => decide (a <= b)) [] := by
 rintro S w G F Y base i O y z rfl Z
 obtain ⟨v, rfl⟩ : ∃ v, G = [v] := by
  obtain ⟨u, _, _, _, I, _⟩ := i;exact ⟨u, I⟩
 have j : ∀ u : Value, ((mkV (tInts e).isAgg [u]) :: ([] : List Value)).toArray = #[u] := fun _ => rfl;rw [j];rcases Y5b i with ⟨rfl, rfl, rfl⟩ | ⟨g, cap, cur, rfl, rfl, M, N, hn, B, A, ht, L⟩
 ·refine (h.2 none 0 w).mono ?_
  rintro e' w' ⟨rfl, rfl⟩
  exact ⟨[], [], [], rfl, Below.refl _ _, fun _ _ _ => rfl, by simpa using Y69, List.nodup_nil, by simp, rfl, rfl, rfl⟩
 ·refine (h.1 g 0 cap x w L M V).mono ?_
  rintro e' w' ⟨rfl, n, E, rfl⟩
  have l : (x.mergeSort fun a b => decide (a <= b)).length = x.length := List.length_mergeSort x;generalize (x.mergeSort fun a b => decide (a <= b)) = D at *;obtain ⟨W, X⟩ := Y82 cur D D.length (by omega) (Nat.le_refl _);have U : (Go.Sort.putRow (Value.int .i64) (Go.Sort.ahead w n) g 0 D.toArray).heap.size = w.heap.size := by simp_all
  have q : (Go.Sort.grow (Go.Sort.putRow (Value.int .i64) (Go.Sort.ahead w n) g 0 D.toArray) E).heap[g]? = some (.cells (Go.Sort.putCells (Value.int .i64) 0 D.toArray cur) e (0, 0)) := by
   rw [Y8v (by grind)];exact Y4z (Value.int .i64) (Go.Sort.ahead w n) g D.toArray N
  have m : ∀ b, b < w.heap.size -> b ≠ g -> (Go.Sort.grow (Go.Sort.putRow (Value.int .i64) (Go.Sort.ahead w n) g 0 D.toArray) E).heap[b]? = w.heap[b]? := fun b p h => by
   rw [Y8v (by grind)];exact Y6s (Value.int .i64) (Go.Sort.ahead w n) g D.toArray b h
  refine ⟨[], [], [g], rfl, ⟨rfl, rfl, rfl, ?_, fun k hk => m k (by omega) (fun e => by have := y g (by simp); omega)⟩, fun b p C => m b p (fun e => C (by simp [e])), ?_, by simp, fun b p => .inl p, rfl, rfl, rfl⟩
  ·grind
  ·have := Y5c (x := D) q (by omega) B (by rw [W, A]) (by rw [X, List.take_of_length_le (by simp)]);rw [l] at this;exact this
def CompactSaid (P : Program) (f : FuncId) : Prop :=
 (∀ (b off cap : Nat) (d : Array Int) (w : World), Go.Sort.Holds (Value.int .i64) w b off d -> d.size <= 9223372036854775807 -> d.size <= cap ->
  Calls P f #[.slice (some ⟨b, off, none⟩) d.size cap] w fun e w' => e = .returned (.slice (some ⟨b, off, none⟩) (compactUpTo d d.size).length cap) /\ ∃ q, w' = Go.Sort.putRow (Value.int .i64) (Go.Sort.ahead w q) b off (compactUpTo d d.size ++ List.replicate (d.size - (compactUpTo d d.size).length) 0).toArray) /\
 ∀ (p : Option Addr) (cap : Nat) (w : World), Calls P f #[.slice p 0 cap] w fun e w' => e = .returned (.slice p 0 cap) /\ w' = w
theorem Ybd (d : Array Int) : (compactUpTo d d.size).length <= d.size := by
 unfold compactUpTo;rw [List.length_map];have := List.length_filter_le (keeps d) (List.range d.size)
 rwa [List.length_range] at this
theorem Yav {f : FuncId} (h : CompactSaid P f) {e : TypeId} {x : List Int} : FnSpecOwn P f (tInts e) x [] (compact x) := by
 rintro S w v G V base m N y z rfl W
 rcases Y5b m with ⟨rfl, rfl, rfl⟩ | ⟨g, cap, cur, rfl, rfl, X, M, Z, j, A, ht, L⟩
 ·refine (h.2 none 0 w).mono ?_
  rintro e' w' ⟨rfl, rfl⟩
  exact ⟨_, [], rfl, Below.refl _ _, fun _ _ _ => rfl, Y69, List.nodup_nil, by simp⟩
 ·have E : x.toArray.size = x.length := by simp
  have i := h.1 g 0 cap x.toArray w L (by rw [E]; unfold maxLen at j; omega) (by grind);have F := Ybd x.toArray;rw [E] at i F;have I : compactUpTo x.toArray x.length = compact x := rfl;rw [I] at i F;refine i.mono ?_
  rintro e' w' ⟨rfl, q, rfl⟩
  generalize compact x = C at *;obtain ⟨O, U⟩ := Y82 cur (C ++ List.replicate (x.length - C.length) 0) C.length (by simp; omega) (by simp);have p : (Go.Sort.putRow (Value.int .i64) (Go.Sort.ahead w q) g 0 (C ++ List.replicate (x.length - C.length) 0).toArray).heap[g]? = some (.cells (Go.Sort.putCells (Value.int .i64) 0 (C ++ List.replicate (x.length - C.length) 0).toArray cur) e (0, 0)) := Y4z (Value.int .i64) (Go.Sort.ahead w q) g _ M;have l : ∀ b, b ≠ g -> (Go.Sort.putRow (Value.int .i64) (Go.Sort.ahead w q) g 0 (C ++ List.replicate (x.length - C.length) 0).toArray).heap[b]? = w.heap[b]? := fun b h => Y6s (Value.int .i64) (Go.Sort.ahead w q) g _ b h;have D : (Go.Sort.putRow (Value.int .i64) (Go.Sort.ahead w q) g 0 (C ++ List.replicate (x.length - C.length) 0).toArray).heap.size = w.heap.size := by simp_all
  refine ⟨_, [g], rfl, ⟨rfl, rfl, rfl, by rw [D]; exact Nat.le_refl _, fun k Y => l k (fun e => by have := y g (by simp); omega)⟩, fun b _ B => l b (fun e => B (by simp [e])), ?_, by grind⟩;refine Y5c (x := C) p (by omega) j (by rw [O, A]) ?_;rw [U, List.map_append, List.take_left' (by simp)]
def GrowSaid (P : Program) (f : FuncId) (e : TypeId) : Prop :=
 (∀ (base : Option Addr) (l c n : Nat) (w : World), l <= c -> c <= 9223372036854775807 -> n <= 9223372036854775807 -> l + n <= c -> Calls P f #[.slice base l c, .int .i64 n] w fun e w' => e = .returned (.slice base l c) /\ w' = w) /\
 ∀ (base : Option Addr) (l c n : Nat) (cs : List Value) (w : World), l <= c -> c < l + n -> (l + n) * 8 <= 140737488355328 -> l + n <= 4611686018427387904 -> cs.length = c -> (base = none -> c = 0) -> (∀ a, base = some a -> ∀ j v, cs[j]? = some v -> w.cell? (a.add j) = some v) ->
  Calls P f #[.slice base l c, .int .i64 n] w fun e' w' => ∃ cap b g, cs.length + b.length = l + n /\ cs.length + b.length + g.length = cap /\ cap <= maxLen /\ e' = .returned (.slice (some ⟨w.heap.size, 0, none⟩) l cap) /\ w' = w.drew.alloc (.cells (cs ++ b ++ g).toArray e)
theorem Ydo {f : FuncId} {e : TypeId} (h : GrowSaid P f e) {x : List Int} {n : Int} (hn0 : 0 <= n) (y : (x.length + n.toNat) * 8 <= 140737488355328) : FnSpecOwn P f (tInts e) x [.val (.int .i64) n] x := by
 rintro S w v O I base p hnd hb0 D G hS
 obtain ⟨v1, vs1, rfl, ⟨U, rfl, q1, _⟩, rfl⟩ := G;subst q1;obtain ⟨n, rfl⟩ : ∃ n' : Nat, n = (n' : Int) := ⟨n.toNat, by omega⟩;rw [Int.toNat_natCast] at y;have q : ∀ u : Value, (u :: [mkV (Ty.int IntKind.i64).isAgg [Value.int IntKind.i64 (n : Int)]]).toArray = #[u, .int .i64 n] := fun _ => rfl;rw [q];have i : ∀ (base' : Option Addr) (c : Nat) (cs : List Value), x.length <= c -> c < x.length + n -> cs.length = c -> (base' = none -> c = 0) -> (∀ a, base' = some a -> ∀ j v, cs[j]? = some v -> w.cell? (a.add j) = some v) -> cs.take x.length = x.map (Value.int .i64) ->
   Calls P f #[.slice base' x.length c, .int .i64 n] w (fun e' w' => ∃ N B, e' = .returned N /\ Below base w w' /\ (∀ b, b < w.heap.size -> b ∉ I -> w'.heap[b]? = w.heap[b]?) /\ Rep (fun _ => False) w' (tInts e) .dp [N] x B /\ B.Nodup /\ (∀ b ∈ B, b ∈ I \/ w.heap.size <= b)) := by
  intro base' c cs V W X Y Z h6;refine (h.2 base' x.length c n cs w V W y (by omega) X Y Z).mono ?_
  rintro e' w' ⟨cap, z, A, k1, k2, k3, rfl, rfl⟩
  have l : (w.drew.alloc (.cells (cs ++ z ++ A).toArray e)).heap = w.heap.push (.cells (cs ++ z ++ A).toArray e) := rfl;have m : ∀ b, b < w.heap.size -> (w.drew.alloc (.cells (cs ++ z ++ A).toArray e)).heap[b]? = w.heap[b]? := fun b y => by grind
  refine ⟨_, [w.heap.size], rfl, ⟨rfl, rfl, rfl, by rw [l, Array.size_push]; omega, fun k hk => m k (by omega)⟩, fun b y _ => m b y, ?_, by simp, fun b y => .inr (by grind)⟩;refine Y5c (cur := (cs ++ z ++ A).toArray) (by rw [l]; simp) (by omega) k3 (by simp; omega) ?_;rw [List.append_assoc, List.take_append_of_le_length (by omega)];exact h6
 rcases Y5b p with ⟨rfl, rfl, rfl⟩ | ⟨g, cap, cur, rfl, rfl, hg, hh, M, F, E, ht, hH⟩
 ·by_cases C : n = 0
  ·subst C;refine (h.1 none 0 0 0 w (by omega) (by omega) (by omega) (by omega)).mono ?_
   rintro e' w' ⟨rfl, rfl⟩
   exact ⟨_, [], rfl, Below.refl _ _, fun _ _ _ => rfl, Y69, List.nodup_nil, by simp⟩
  ·exact i none 0 [] (by simp) (by simp; omega) rfl (fun _ => rfl) (fun _ h => by cases h) rfl
 ·by_cases C : x.length + n <= cap
  ·refine (h.1 (some ⟨g, 0, none⟩) x.length cap n w M (by unfold maxLen at F; omega) (by omega) C).mono ?_
   rintro e' w' ⟨rfl, rfl⟩
   exact ⟨_, [g], rfl, Below.refl _ _, fun _ _ _ => rfl, p, by grind⟩
  ·refine i (some ⟨g, 0, none⟩) cap cur.toList M (by omega) (by simp [E]) (fun h => by cases h) (fun a ha j v L => ?_) ht;cases ha;have : (⟨g, 0, none⟩ : Addr).add j = ⟨g, j, none⟩ := by
    simp [Addr.add];omega
   rw [this, cell_of_row w g j cur e (0, 0) hh];rw [Array.getElem?_toList] at L;exact L
theorem Yek {f : FuncId} (h : SortSaid P f) {e : TypeId} {x q : List Int} (g : (bif decide (x.length < 4611686018427387904) then some (x.mergeSort fun a b => decide (a <= b)) else none) = some q) :
  FnOk P f ⟨[.val (tInts e)], [], true, false, none, none, none⟩ [.val (tInts e) x] [⟨tInts e, q⟩] := by
 by_cases i : x.length < 4611686018427387904
 ·rw [decide_eq_true i] at g;obtain rfl : (x.mergeSort fun a b => decide (a <= b)) = q := Option.some.inj g;exact ⟨_, _, _, _, _, rfl, rfl, Ydn h i⟩
 ·grind
theorem Ybe {f : FuncId} (h : CompactSaid P f) {e : TypeId} {x q : List Int} (b : some (compact x) = some q) :
  FnOk P f ⟨[.val (tInts e)], [(tInts e, .dp)], true, true, none, none, none⟩ [.val (tInts e) x] [⟨tInts e, q⟩] := by
 obtain rfl : compact x = q := Option.some.inj b;exact ⟨_, _, _, _, rfl, rfl, Yav h⟩
theorem Yel {f : FuncId} {e : TypeId} (h : GrowSaid P f e) {x q : List Int} {n : Int} (g : (bif decide (0 <= n) && decide ((x.length + n.toNat) * 8 <= 140737488355328) then some x else none) = some q) :
  FnOk P f ⟨[.val (tInts e), .val (.int .i64)], [(tInts e, .dp)], true, true, none, none, none⟩ [.val (tInts e) x, .val (.int .i64) n] [⟨tInts e, q⟩] := by
 by_cases b : 0 <= n /\ (x.length + n.toNat) * 8 <= 140737488355328
 ·rw [decide_eq_true b.1, decide_eq_true b.2] at g;obtain rfl : x = q := Option.some.inj g;exact ⟨_, _, _, _, rfl, rfl, Ydo h b.1 b.2⟩
 ·grind
theorem Yem {ρ : Ren} (L : Lays8.n4 P ρ) {i0 : TypeInfo} {z : Value} (m : P.info? (ρ.t 25) = some i0) (q : i0.zero = some z) (D : i0.size = 1) (j : i0.bytes = 8) (y : z.cells.size = 1) : GrowSaid P (ρ.f 4) (ρ.t 25) := by
 refine ⟨fun base l c n w b g h i => Any8.slices_Grow_room L base l c n w b g h i, fun base l c n cs w b g h i E A B => ?_⟩;refine (Any8.slices_Grow_grow L i0 z m q (by omega) base l c n cs w b g (by rw [j]; exact h) i (by grind) A B).mono ?_
 rintro e' w' ⟨rfl, rfl⟩
 have F := grownCap_ge w (l + n) c (ρ.t 25);have C := grownCap_le_maxLen w (l + n) c (ρ.t 25) (by unfold maxLen; omega);have p : ∀ k, (Builtin.zeroCells z.cells k).toList.length = k := fun k => by
  rw [Array.length_toList, size_zeroCells, y, Nat.mul_one]
 refine ⟨grownCap w (l + n) c (ρ.t 25), (Builtin.zeroCells z.cells (l + n - c)).toList, (Builtin.zeroCells z.cells (grownCap w (l + n) c (ρ.t 25) - (l + n))).toList, by rw [p]; omega, by rw [p, p]; omega, C, rfl, ?_⟩;congr 2;simp
theorem Yen {ρ : Ren} (L : Lays.n189 P ρ) : SortSaid P (ρ.f 189) := ⟨fun b off cap j w g h i => Any.slices_Sort_int L b off cap j w g h i, fun p cap w => Any.slices_Sort_int_none L p cap w⟩
theorem Ybf {ρ : Ren} (L : Lays2.n20 P ρ) : CompactSaid P (ρ.f 20) := ⟨fun b off cap d w g h i => Any.slices_Compact_int_arr L b off cap d w g h i, fun p cap w => Any.slices_Compact_int_empty L p cap w⟩
end Go.FP

namespace Go.FP
open Go.Proofs Go.Shelf Go.RowKit Go.Lib
variable {P : Program}
def RepeatSaid (P : Program) (f : FuncId) (e : TypeId) : Prop :=
 ∀ (n : Nat) (b : Addr) (cx : Nat) (v : Int) (w : World), n * 8 <= 140737488355328 -> w.cell? b = some (.int .i64 v) ->
  Calls P f #[.slice (some b) 1 cx, .int .i64 (n : Int)] w fun e' w' => e' = .returned (.slice (some ⟨w.heap.size, 0, none⟩) n n) /\ ∃ m, w' = (Go.Sort.ahead w m).alloc (.cells (Array.replicate n (.int .i64 v)) e)
theorem Ybg {f : FuncId} {e : TypeId} (h : RepeatSaid P f e) {v : Int} {n : Int} (M : 0 <= n) (y : n.toNat * 8 <= 140737488355328) : FnSpecOwn P f (tInts e) [v] [.val (.int .i64) n] (List.replicate n.toNat v) := by
 rintro S w u C X base z N F A B Z
 obtain ⟨v1, W, rfl, ⟨D, rfl, V, _⟩, rfl⟩ := B;subst V;obtain ⟨n, rfl⟩ : ∃ U : Nat, n = (U : Int) := ⟨n.toNat, by omega⟩;rw [Int.toNat_natCast] at y ⊢;have p : ∀ u : Value, (u :: [mkV (Ty.int IntKind.i64).isAgg [Value.int IntKind.i64 (n : Int)]]).toArray = #[u, .int .i64 n] := fun _ => rfl;rw [p];rcases Y5b z with ⟨rfl, E, rfl⟩ | ⟨g, cap, cur, rfl, rfl, hg, I, hn, L, G, O, Y⟩
 ·cases E
 ·have q : w.cell? ⟨g, 0, none⟩ = some (.int .i64 v) := by
   rw [cell_of_row w g 0 cur e (0, 0) I];have := congrArg (fun l => l[0]?) O;simpa using this
  refine (h n ⟨g, 0, none⟩ cap v w y q).mono ?_
  rintro e' w' ⟨rfl, m, rfl⟩
  have i : ((Go.Sort.ahead w m).alloc (.cells (Array.replicate n (.int .i64 v)) e)).heap = w.heap.push (.cells (Array.replicate n (.int .i64 v)) e) := rfl;have j : ∀ b, b < w.heap.size -> ((Go.Sort.ahead w m).alloc (.cells (Array.replicate n (.int .i64 v)) e)).heap[b]? = w.heap[b]? := fun b y => by grind
  refine ⟨_, [w.heap.size], rfl, ⟨rfl, rfl, rfl, by rw [i, Array.size_push]; omega, fun k hk => j k (by omega)⟩, fun b y _ => j b y, ?_, by simp, fun b y => .inr (by grind)⟩;have := Y5c (x := List.replicate n v) (cap := n) (cur := Array.replicate n (.int .i64 v)) (w := (Go.Sort.ahead w m).alloc (.cells (Array.replicate n (.int .i64 v)) e)) (g := w.heap.size) (e := e) (by rw [i]; simp) (by simp) (by unfold maxLen; omega) (by simp) (by simp)
  rwa [List.length_replicate] at this
theorem Ycy {f : FuncId} {e : TypeId} (h : RepeatSaid P f e) {x q : List Int} {n : Int} (g : (bif decide (x.length = 1) && (decide (0 <= n) && decide (n * 8 <= 140737488355328)) then some (List.replicate n.toNat (x.getD 0 0)) else none) = some q) :
  FnOk P f ⟨[.val (tInts e), .val (.int .i64)], [(tInts e, .dp)], true, true, none, none, none⟩ [.val (tInts e) x, .val (.int .i64) n] [⟨tInts e, q⟩] := by
 by_cases b : x.length = 1 /\ 0 <= n /\ n * 8 <= 140737488355328
 ·rw [decide_eq_true b.1, decide_eq_true b.2.1, decide_eq_true b.2.2] at g;obtain ⟨v, rfl⟩ := List.length_eq_one_iff.1 b.1;obtain rfl : List.replicate n.toNat v = q := Option.some.inj g;exact ⟨_, _, _, _, rfl, rfl, Ybg h b.2.1 (by omega)⟩
 ·grind
end Go.FP

namespace Go.Proofs
variable {P : Program}
def repRow (n : Nat) (v : Int) (k : Nat) : List Value := List.replicate k (.int .i64 v) ++ List.replicate (n - k) (.int .i64 0)
theorem Y83 {n k : Nat} {v : Int} (h : k <= n) : (repRow n v k).length = n := by simp [repRow]; omega
theorem Y6t {n k m : Nat} {v : Int} (h : k + m <= n) : (repRow n v k).take k ++ List.replicate m (.int .i64 v) ++ (repRow n v k).drop (k + m) = repRow n v (k + m) := by
 unfold repRow;rw [List.take_left' (by simp), List.drop_append, List.length_replicate, List.drop_eq_nil_of_le (by simp), List.nil_append, List.drop_replicate, List.replicate_append_replicate];congr 2;omega
theorem Y6a (w : World) (a b : Array Value) (t : TypeId) : (w.alloc (.cells a t)).setRow w.heap.size b = w.alloc (.cells b t) := by
 have e : ∀ f : Obj -> Obj, f (.cells a t) = .cells b t -> (w.heap.push (.cells a t)).modify w.heap.size f = w.heap.push (.cells b t) := fun f g => by grind
 show ({ w with heap := (w.heap.push (.cells a t)).modify w.heap.size _ } : World) = { w with heap := w.heap.push (.cells b t) };rw [e];rfl
theorem Y78 (w : World) (o : Obj) : (w.alloc o).heap[w.heap.size]? = some o := by
 show (w.heap.push o)[w.heap.size]? = _;simp
theorem Yeo (n : Nat) (v : Int) : madeCells #[Value.int .i64 0] n = (repRow n v 0).toArray := by
 apply Array.ext
 ·simp [madeCells, repRow]
 ·intro i b g;simp [madeCells, repRow, Nat.mod_one]
theorem Ycz {w : World} (o : Obj) {a : Addr} {u : Value} (h : w.cell? a = some u) : (w.alloc o).cell? a = some u := Lib.cell?_alloc_some _ h
theorem Yd0 {w : World} {b g : TypeId} (p : P.underlying b = some (.slice g)) (z : (P.info? g).map (·.size) = some 1) {n cx : Nat} {v : Int} {i : Addr} (q : w.cell? i = some (.int .i64 v)) (ty : TypeId) :
  (Builtin.copy_ #[b, b] ty #[.slice (some ⟨w.heap.size, 0, none⟩) n n, .slice (some i) 1 cx]).run P (w.alloc (.cells (madeCells #[.int .i64 0] n) g)) = .ok (.int .i64 ((min 1 n : Nat) : Int)) (w.alloc (.cells (repRow n v (min 1 n)).toArray g)) := by
 rw [Yeo n v];have h := run_copy_row (P := P) (w.alloc (.cells (repRow n v 0).toArray g)) b b ty g w.heap.size 0 n n i 1 cx (repRow n v 0).toArray g (List.replicate (min 1 n) (.int .i64 v)) p z (Y78 w _) (by simp)
  (fun j u l => by
   rw [List.getElem?_replicate] at l;split at l
   ·rename_i y;obtain rfl : j = 0 := by omega
    obtain rfl := Option.some.inj l;have : i.add 0 = i := by simp [Addr.add]
    rw [this];exact Ycz _ q
   ·grind) (by simp [Y83 (Nat.zero_le n)]; omega) (fun u p => by rw [(List.mem_replicate.1 p).2]; rfl)
 rw [h, Y6a];have := Y6t (n := n) (k := 0) (m := min 1 n) (v := v) (by omega);simp at this ⊢;rw [<- this];simp [goInt]
theorem Y8w {w : World} {b g : TypeId} (p : P.underlying b = some (.slice g)) (A : (P.info? g).map (·.size) = some 1) {n k : Nat} {v : Int} (z : k <= n) (cx q : Nat) (ty : TypeId) :
  (Builtin.copy_ #[b, b] ty #[.slice (some ⟨w.heap.size, k, none⟩) (n - k) cx, .slice (some ⟨w.heap.size, 0, none⟩) k q]).run P (w.alloc (.cells (repRow n v k).toArray g)) = .ok (.int .i64 ((min k (n - k) : Nat) : Int)) (w.alloc (.cells (repRow n v (k + min k (n - k))).toArray g)) := by
 have h := run_copy_row (P := P) (w.alloc (.cells (repRow n v k).toArray g)) b b ty g w.heap.size k (n - k) cx ⟨w.heap.size, 0, none⟩ k q (repRow n v k).toArray g (List.replicate (min k (n - k)) (.int .i64 v)) p A (Y78 w _) (by simp)
  (fun j u i => by
   rw [List.getElem?_replicate] at i;split at i
   ·rename_i y;obtain rfl := Option.some.inj i;have e : (⟨w.heap.size, 0, none⟩ : Addr).add j = ⟨w.heap.size, j, none⟩ := by simp [Addr.add]; omega
    have l : j < k := by omega
    rw [e];rw [cell_of_row _ _ j _ _ (0, 0) (Y78 w _)];simp [repRow, List.getElem?_append, l]
   ·grind) (by simp [Y83 z]; omega) (fun u p => by rw [(List.mem_replicate.1 p).2]; rfl)
 rw [h, Y6a];have := Y6t (n := n) (k := k) (m := min k (n - k)) (v := v) (by omega);simp only [List.length_replicate];rw [this];simp [goInt]
end Go.Proofs
