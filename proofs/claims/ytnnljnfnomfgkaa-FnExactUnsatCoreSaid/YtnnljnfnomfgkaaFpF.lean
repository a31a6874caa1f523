/- How Go values lie in memory, and an evaluator of code with its soundness (part 6 of 6). Conditions: those that stand in each theorem; nothing is assumed of any program. -/
import Derived.Test.YtnnljnfnomfgkaaFpE
import Derived.Shelf.SlicesE.Clone
import Derived.Shelf.SlicesE.Delete

/- Functions of the library whose contracts are shown by hand: slices.Clone, slices.Delete. Conditions: those that stand in each theorem. -/
namespace Go.FP
open Go.Proofs Go.Shelf Go.RowKit Go.Lib
set_option linter.unusedVariables false
variable {P : Program} {ρ : Ren}
/-- The types that slices.Clone's body names. -/
theorem clone_lays {T : Tab} (hT : TabOk P T) (hm : P.follows .mixedOrders = true) (hb : Bears P (ρ.f 41) (SlBodyN.n41 ρ)) (h4 : T.ty (ρ.t 4) = some .bool) (hbo : P.underlying (ρ.t 4) = some .bool) {te : TE} (h22 : elemAt T (ρ.t 22) = some te) (h23 : te.id = ρ.t 23) : SlLaysE0.n41 P ρ := by
 obtain ⟨k1, k2, _⟩ := TabOk.elem hT h22
 exact ⟨hm, hb, hbo, TabOk.agg hT h4, TabOk.sizeOf hT h4, fun w => by rw [TabOk.zero hT h4]; rfl,
  by rw [k2, h23], TabOk.agg hT k1, TabOk.sizeOf hT k1, fun w => by rw [TabOk.zero hT k1]; rfl⟩

set_option maxHeartbeats 2000000 in
set_option maxRecDepth 100000 in
theorem clone_at (L : SlLaysE0.n41 P ρ) (i0 : TypeInfo) (z : Value) (size bytes : Nat) (hi : P.info? (ρ.t 23) = some i0) (hz0 : i0.zero = some z) (hz1 : i0.size = size) (hz2 : i0.bytes = bytes) (hzs : z.cells.size = size) (hsz : 0 < size)
  (z23 : ∀ w, (Go.sizeOf (ρ.t 23)).run P w = .ok size w) (ad : Addr) (n c : Nat) (news : List Value) (w : World) (hl : news.length = n * size) (hn : n ≤ maxLen) (hbig : n * bytes ≤ 140737488355328)
  (hc : ∀ j u, news[j]? = some u → w.cell? (ad.add j) = some u) (h1 : ∀ u ∈ news, u.oneCell' = true) :
  Calls P (ρ.f 41) #[.slice (some ad) n c] w fun e w' => ∃ v', e = .returned v' ∧ w'.ownsRow w.heap.size (ρ.t 23) size v' n news ∧ Below w.heap.size w w' := by
 have mixed := L.mixed
 have t4 := L.t4; have a4 := L.a4; have z4 := L.z4; have v4 := L.v4
 have t22 := L.t22; have a22 := L.a22; have z22 := L.z22; have v22 := L.v22
 have q22 : ∀ (w : World) (a : Option Addr) (n c n' c' : Nat), (binOp .eql (ρ.t 22) (.slice a n c) (.slice none n' c')).run P w = .ok (.bool a.isNone) w := fun w a n c n' c' => Lib.run_eql_slice_nil w _ _ a n c n' c' L.t22
 have u22 : ∀ w, Sem.run P (underlying (ρ.t 22)) w = .ok (TypeDesc.slice (ρ.t 23)) w := run_underlying t22
 have A : Aside (∀ j u, news[j]? = some u → w.cell? (ad.add j) = some u) := hc
 clear hc
 obtain ⟨_, _, FG⟩ := L.f41
 go_enter FG, SlBodyN.n41_ntmps ρ
 go_wp2_with (at_builtin; refine wpList_append_own _ rfl _ _ (ρ.t 22) rfl w.heap.size (ρ.t 23) i0 z size bytes t22 hi hz0 hz1 hz2 hzs hsz _ _ _ rfl (World.ownsRow_made w #[] 0 (Nat.le_refl _) (Nat.zero_le _) (by simp)) ad n c news rfl ?qc1 ?qc2 ?qc3 ?qc4 ?qc5 ?qc6 ?_)
 case qc1 => exact hl
 case qc2 =>
  intro j u hj
  have h0 := A.out j u hj
  obtain ⟨ab, ao, at'⟩ := ad
  exact Lib.cell?_alloc_some _ h0
 case qc3 => exact h1
 case qc4 => rw [Nat.zero_add]; exact hn
 case qc5 => rw [Nat.zero_add]; exact hbig
 case qc6 => simp
 intro v' w1 hown hgrow hnil
 go_wp2
 go_ret
 exact ⟨v', rfl, by simpa using hown, ((Below.refl _ w).alloc (Nat.le_refl _) _).grown hgrow (by simp) (by intro k hk; simp [Value.ownBlock] at hk; omega)⟩

/-- slices.Clone, of elements without slices inside. -/
theorem clone_spec {T : Tab} (hT : TabOk P T) (hm : P.follows .mixedOrders = true) (hb : Bears P (ρ.f 41) (SlBodyN.n41 ρ)) (h4 : T.ty (ρ.t 4) = some .bool) (hbo : P.underlying (ρ.t 4) = some .bool) {te : TE} (h22 : elemAt T (ρ.t 22) = some te) (h23 : te.id = ρ.t 23) (hf : te.ty.flatB = true) {x : List te.ty.D} (hx : x.length * te.bytes ≤ 140737488355328) :
  FnSpec P (ρ.f 41) [(.slice te.id te.ty, .dp)] [.val (.slice te.id te.ty) x] [⟨.slice te.id te.ty, x⟩] := by
 have L := clone_lays hT hm hb h4 hbo h22 h23
 obtain ⟨k1, k2, k3, hsz, hby, i0, hi0, hi1, hi2, hi3⟩ := TabOk.elem hT h22
 rintro S w vals ⟨v, vs', rfl, ⟨ch, rfl, u, xs, b0, b1, rfl, hbs, hel, hrow⟩, rfl⟩
 obtain ⟨rfl, rfl⟩ := List.append_eq_nil_iff.1 hbs.symm
 obtain ⟨_, A, cp, rfl, hcp, hz, hc⟩ := hrow
 have hlen := hel.len
 cases A with
 | none =>
  have h0 : x = [] := List.length_eq_zero_iff.1 (by have := hz rfl; omega)
  subst h0
  refine Calls.mono (AnyE.slices_Clone_nil L _ _ w) ?_
  rintro e w' ⟨rfl, rfl⟩
  refine ⟨[[.slice none 0 0]], [], rfl, Below.refl _ _, ?_, List.nodup_nil, by simp⟩
  exact ⟨[], [], _, [], [], [], rfl, rfl, rfl, ⟨_, [], [], [], rfl, rfl, ⟨rfl, rfl⟩, rfl, by simp, .inl ⟨rfl, rfl⟩⟩, rfl, rfl, rfl⟩
 | some ad =>
  have h63 : x.length ≤ maxLen := by
   have : x.length * 1 ≤ x.length * te.bytes := Nat.mul_le_mul_left _ hby
   simp only [maxLen]; omega
  have hz' : (zeroVal te.ty).cells.size = te.ty.sz := by rw [← Array.length_toList, zeroVal_cells, zeroCells_len]
  refine Calls.mono (clone_at L i0 (zeroVal te.ty) te.ty.sz te.bytes (h23 ▸ hi0) hi3 hi1 hi2 hz' hsz (fun w => h23 ▸ TabOk.sizeOf hT k3 w) ad x.length cp xs w hlen h63 hx (fun j u hu => by obtain ⟨a, h1, _, h2⟩ := hc j u hu; cases h1; exact h2) (hel.all (fun c x b h => Rep.one h))) ?_
  rintro e w' ⟨v', rfl, hown, hbel⟩
  refine ⟨[[v']], v'.ownBlock.toList, rfl, hbel, ?_, by cases v'.ownBlock <;> simp, fun b hb => (own_block0 hown b (mem_toList.1 hb)).1⟩
  refine ⟨x, [], [v'], [], v'.ownBlock.toList, [], rfl, rfl, by simp, ⟨v', xs, v'.ownBlock.toList, [], rfl, by simp, ?_, rfl, ?_⟩, rfl, rfl, rfl⟩
  ·refine El.bare ?_ hel
   intro _ _ _ h'
   exact (Rep.flat hf h').2
  ·rw [← h23] at hown
   obtain ⟨g1, g2⟩ := hown
   refine ⟨g1, g2.imp id ?_⟩
   rintro ⟨g, cap, cur, k1, _, k2⟩
   exact ⟨g, cap, cur, k1, Nat.zero_le _, k2⟩
/-- A row cut in two. -/
theorem El.cut {α : Type} {P : List Value → α → List Nat → Prop} {n : Nat} : ∀ (j : Nat) {l : List α} {xs : List Value} {bs : List Nat}, El P n xs l bs → ∃ ba bb, bs = ba ++ bb ∧ El P n (xs.take (j * n)) (l.take j) ba ∧ El P n (xs.drop (j * n)) (l.drop j) bb
 | 0, l, xs, bs, h => ⟨[], bs, rfl, by simp [El], by simpa using h⟩
 | j + 1, [], xs, bs, h => ⟨[], [], by simpa using h.2, by rw [h.1]; simp [El], by rw [h.1]; simp [El]⟩
 | j + 1, x :: l, xs, bs, ⟨c, xs', b, bs', e, hl, eb, p, t⟩ => by
  obtain ⟨ba, bb, h1, h2, h3⟩ := El.cut j t
  have hj : (j + 1) * n = c.length + j * n := by rw [hl, Nat.add_mul]; omega
  refine ⟨b ++ ba, bb, by rw [eb, h1, List.append_assoc], ?_, ?_⟩
  ·rw [e, hj, List.take_length_add_append, List.take_succ_cons]
   exact ⟨c, _, b, ba, rfl, hl, rfl, p, h2⟩
  ·rw [e, hj, List.drop_length_add_append, List.drop_succ_cons]
   exact h3

/-- What a row's cells hold. -/
abbrev V1 : Type := { v : Value // v.oneCell' = true }
instance : Inhabited V1 := ⟨⟨.bool false, rfl⟩⟩
def encV (x : V1) : Value := x.1
theorem v1_cell : OneCell encV := fun x => x.2
def v1s (xs : List Value) (h : ∀ u ∈ xs, u.oneCell' = true) : List V1 := xs.attach.map fun u => ⟨u.1, h u.1 u.2⟩
theorem v1s_val (xs : List Value) (h : ∀ u ∈ xs, u.oneCell' = true) : (v1s xs h).map encV = xs := by
 unfold v1s
 rw [List.map_map]
 exact List.attach_map_subtype_val xs

theorem delete_lays {T : Tab} (hT : TabOk P T) (hm : P.follows .mixedOrders = true) (hb : Bears P (ρ.f 45) (SlBodyN.n45 ρ)) (h0 : P.underlying (ρ.t 0) = some (.tuple #[]) ∧ (∀ w, (isAgg (ρ.t 0)).run P w = .ok false w) ∧ (∀ w, (Go.sizeOf (ρ.t 0)).run P w = .ok 1 w) ∧ ∀ w, (zeroValue (ρ.t 0)).run P w = .ok (.tuple #[]) w)
  (h3 : T.ty (ρ.t 3) = some (.int .i64)) (h4 : T.ty (ρ.t 4) = some .bool) (hbo : P.underlying (ρ.t 4) = some .bool) {te : TE} (h22 : elemAt T (ρ.t 22) = some te) (h23 : te.id = ρ.t 23) (ha : te.ty.isAgg = false) (hs : te.ty.sz = 1) : SlLaysE.n45 P ρ := by
 obtain ⟨k1, k2, k3, _⟩ := TabOk.elem hT h22
 rw [h23] at k3
 exact ⟨hm, hb, h0.1, h0.2.1, h0.2.2.1, h0.2.2.2, TabOk.int hT h3, TabOk.agg hT h3, TabOk.sizeOf hT h3, fun w => by rw [TabOk.zero hT h3]; rfl,
  hbo, TabOk.agg hT h4, TabOk.sizeOf hT h4, fun w => by rw [TabOk.zero hT h4]; rfl,
  by rw [k2, h23], TabOk.agg hT k1, TabOk.sizeOf hT k1, fun w => by rw [TabOk.zero hT k1]; rfl,
  fun w => by rw [TabOk.agg hT k3, ha], fun w => by rw [TabOk.sizeOf hT k3, hs]⟩

theorem heap_putRow {α : Type} [Inhabited α] (enc : α → Value) (w : World) (g : Nat) (d : Array α) (b : Nat) (h : b ≠ g) : (Go.Sort.putRow enc w g 0 d).heap[b]? = w.heap[b]? := by
 unfold Go.Sort.putRow Go.Sort.mapBlock
 simp only [Array.getElem?_modify]
 rw [if_neg (fun e => h e.symm)]
theorem heap_putRow_at {α : Type} [Inhabited α] (enc : α → Value) (w : World) (g : Nat) (d : Array α) {cur : Array Value} {e : TypeId} {fr : Nat × Nat} (h : w.heap[g]? = some (.cells cur e fr)) : (Go.Sort.putRow enc w g 0 d).heap[g]? = some (.cells (Go.Sort.putCells enc 0 d cur) e fr) := by
 unfold Go.Sort.putRow Go.Sort.mapBlock
 simp only [Array.getElem?_modify, if_true, h]
 rfl
theorem zero_one {t : Ty} (ha : t.isAgg = false) : (zeroVal t).oneCell' = true := by
 unfold zeroVal
 rw [ha]
 cases t <;> first | rfl | simp [Ty.isAgg] at ha

theorem cells_put (cur : Array Value) (D : List V1) (n : Nat) (hD : D.length ≤ cur.size) (hn : n ≤ D.length) : (Go.Sort.putCells encV 0 D.toArray cur).size = cur.size ∧ (Go.Sort.putCells encV 0 D.toArray cur).toList.take n = (D.map encV).take n := by
 unfold Go.Sort.putCells
 refine ⟨by simp, ?_⟩
 apply List.ext_getElem?
 intro k
 simp only [List.getElem?_take]
 by_cases hk : k < n
 ·rw [if_pos hk, if_pos hk, Array.getElem?_toList, Array.getElem?_mapIdx, Array.getElem?_eq_getElem (show k < cur.size by omega), List.getElem?_map, List.getElem?_eq_getElem (show k < D.length by omega)]
  simp only [Option.map_some, Nat.zero_le, true_and, Nat.zero_add, List.size_toArray, Nat.sub_zero]
  rw [if_pos (show k < D.length by omega), getElem!_pos D.toArray k (by simpa using (show k < D.length by omega))]
  simp
 ·rw [if_neg hk, if_neg hk]

/-- slices.Delete takes its argument over. -/
theorem delete_spec {T : Tab} (hT : TabOk P T) (hm : P.follows .mixedOrders = true) (hb : Bears P (ρ.f 45) (SlBodyN.n45 ρ)) (h0 : P.underlying (ρ.t 0) = some (.tuple #[]) ∧ (∀ w, (isAgg (ρ.t 0)).run P w = .ok false w) ∧ (∀ w, (Go.sizeOf (ρ.t 0)).run P w = .ok 1 w) ∧ ∀ w, (zeroValue (ρ.t 0)).run P w = .ok (.tuple #[]) w)
  (h3 : T.ty (ρ.t 3) = some (.int .i64)) (h4 : T.ty (ρ.t 4) = some .bool) (hbo : P.underlying (ρ.t 4) = some .bool) {te : TE} (h22 : elemAt T (ρ.t 22) = some te) (h23 : te.id = ρ.t 23) (ha : te.ty.isAgg = false) (hs : te.ty.sz = 1) {x : List te.ty.D} {i j : Int} (hx : 0 < x.length) (hi : 0 ≤ i) (hij : i ≤ j) (hj : j ≤ (x.length : Int)) :
  FnSpecOwn P (ρ.f 45) (.slice te.id te.ty) x [.val (.int .i64) i, .val (.int .i64) j] (x.take i.toNat ++ x.drop j.toNat) := by
 have L := delete_lays hT hm hb h0 h3 h4 hbo h22 h23 ha hs
 obtain ⟨k1, k2, k3, hsz, hby, i0, hi0, hi1, hi2, hi3⟩ := TabOk.elem hT h22
 rintro S w v vals b0 base ⟨u, xs, c0, c1, e1, rfl, hel, hrow⟩ hnd hb0 hbase hrv hS
 obtain rfl : v = u := by simpa using e1
 obtain ⟨rfl, hown⟩ : c0 = v.ownBlock.toList ∧ w.ownsRow 0 te.id te.ty.sz v x.length xs := hrow
 have hlen := hel.len
 rw [hs, Nat.mul_one] at hlen
 have hone := hel.all (fun c x b h => Rep.one h)
 obtain ⟨v1, vs1, rfl, ⟨ch1, rfl, q1, _⟩, v2, vs2, rfl, ⟨ch2, rfl, q2, _⟩, rfl⟩ := hrv
 subst q1 q2
 have hown0 := hown
 obtain ⟨_, hn0 | ⟨g, cap, cur, rfl, _, hh, hn, hmx, hcs, ht⟩⟩ := hown
 ·omega
 rw [hs, Nat.mul_one] at hcs ht
 have hz' : (zeroVal te.ty).cells.size = te.ty.sz := by rw [← Array.length_toList, zeroVal_cells, zeroCells_len]
 have hdl : (v1s xs hone).toArray.size = x.length := by simp [v1s, hlen]
 have hval := v1s_val xs hone
 obtain ⟨i, rfl⟩ : ∃ i' : Nat, i = (i' : Int) := ⟨i.toNat, by omega⟩
 obtain ⟨j, rfl⟩ : ∃ j' : Nat, j = (j' : Int) := ⟨j.toNat, by omega⟩
 have hij : i ≤ j := by omega
 have hj : j ≤ x.length := by omega
 have main := AnyE.slices_Delete L encV v1_cell ⟨zeroVal te.ty, zero_one ha⟩ (fun w => by rw [← h23, TabOk.zero hT k3]; rfl) i0 (h23 ▸ hi0) (by rw [hi1, hs]) g 0 cap i j (v1s xs hone).toArray w (fun k hk => by
  rw [hdl] at hk
  refine ⟨?_, hown0.frozenAt _⟩
  rw [Nat.zero_add, hown0.cellAt k (by rw [hs]; omega), getElem!_pos _ k (by rw [hdl]; exact hk)]
  have hk' : k < (v1s xs hone).length := by simp only [List.size_toArray] at hdl; omega
  have : xs[k]? = some (encV (v1s xs hone)[k]) := by
   conv => lhs; rw [← hval]
   rw [List.getElem?_map, List.getElem?_eq_getElem hk']; rfl
  rw [this]
  simp) (by rw [hdl]; exact hn) (by simpa [maxLen] using hmx) hij (by rw [hdl]; exact hj)
 rw [hdl] at main
 have hargs : ((Value.slice (some ⟨g, 0, none⟩) x.length cap) :: [mkV (Ty.int IntKind.i64).isAgg [Value.int IntKind.i64 (i : Int)], mkV (Ty.int IntKind.i64).isAgg [Value.int IntKind.i64 (j : Int)]]).toArray = #[.slice (some ⟨g, 0, none⟩) x.length cap, .int .i64 i, .int .i64 j] := rfl
 rw [hargs]
 refine Calls.mono main ?_
 rintro e w' ⟨rfl, q, rfl⟩
 have hDl : ((v1s xs hone).take i ++ (v1s xs hone).drop j ++ List.replicate (j - i) (⟨zeroVal te.ty, zero_one ha⟩ : V1)).length = x.length := by
  have : (v1s xs hone).length = x.length := by simpa using hdl
  simp only [List.length_append, List.length_take, List.length_drop, List.length_replicate, this]
  omega
 generalize hDe : (v1s xs hone).take i ++ (v1s xs hone).drop j ++ List.replicate (j - i) (⟨zeroVal te.ty, zero_one ha⟩ : V1) = D at *
 have hDm : (D.map encV).take (x.length - (j - i)) = xs.take i ++ xs.drop j := by
  rw [← hDe, List.map_append, List.map_append, List.map_take, List.map_drop, hval, List.take_append_of_le_length (by simp only [List.length_append, List.length_take, List.length_drop, hlen]; omega), List.take_of_length_le (by simp only [List.length_append, List.length_take, List.length_drop, hlen]; omega)]
 obtain ⟨p1, p2⟩ := cells_put cur D (x.length - (j - i)) (by rw [hDl, hcs]; exact hn) (by rw [hDl]; omega)
 have hat : (Go.Sort.putRow encV (Go.Sort.ahead w q) g 0 D.toArray).heap[g]? = some (.cells (Go.Sort.putCells encV 0 D.toArray cur) te.id (0, 0)) := heap_putRow_at encV (Go.Sort.ahead w q) g D.toArray hh
 have hne : ∀ b, b ≠ g → (Go.Sort.putRow encV (Go.Sort.ahead w q) g 0 D.toArray).heap[b]? = w.heap[b]? := fun b h => heap_putRow encV (Go.Sort.ahead w q) g D.toArray b h
 have hg : g < w.heap.size := (own_block0 hown0 g rfl).2
 have hsize : (Go.Sort.putRow encV (Go.Sort.ahead w q) g 0 D.toArray).heap.size = w.heap.size := by
  rw [Go.Sort.size_putRow]; rfl
 obtain ⟨ba, bb, f1, f2, f3⟩ := El.cut j hel
 obtain ⟨bc, bd, f4, f5, f6⟩ := El.cut i f2
 rw [show j * te.ty.sz = j by rw [hs, Nat.mul_one]] at f3
 rw [show j * te.ty.sz = j by rw [hs, Nat.mul_one], show i * te.ty.sz = i by rw [hs, Nat.mul_one], List.take_take, List.take_take, Nat.min_eq_left hij] at f5
 have hgb : g ∈ ((Value.slice (some ⟨g, 0, none⟩) x.length cap).ownBlock.toList ++ c1) := by simp [Value.ownBlock]
 have hgc : g ∉ c1 := fun h => (List.nodup_append.1 hnd).2.2 g (by simp [Value.ownBlock]) g h rfl
 have hsub : ∀ b ∈ bc ++ bb, b ∈ c1 := by
  intro b hb
  rw [f1, f4]
  rcases List.mem_append.1 hb with hb | hb
  ·simp [hb]
  ·simp [hb]
 have hmv : ∀ (B : List Nat), (∀ b ∈ B, b ∈ c1) → ∀ {cl : List Value} {l : List te.ty.D}, El (Rep (fun _ => False) w te.ty .dp) te.ty.sz cl l B → El (Rep (fun _ => False) (Go.Sort.putRow encV (Go.Sort.ahead w q) g 0 D.toArray) te.ty .dp) te.ty.sz cl l B := by
  intro B hB cl l h
  exact El.imp (fun c' x' b' hb' h' => Rep.move (fun _ _ _ => by contradiction) (fun b hb => hne b (fun e => hgc (e ▸ hB b (hb' b hb)))) h') h
 refine ⟨_, g :: (bc ++ bb), rfl, ?_, fun b hb hnb => hne b (fun e => hnb (e ▸ hgb)), ⟨.slice (some ⟨g, 0, none⟩) (x.length - (j - i)) cap, xs.take i ++ xs.drop j, [g], bc ++ bb, rfl, rfl, ?_, rfl, ?_⟩, ?_, ?_⟩
 ·refine ⟨rfl, rfl, rfl, by rw [hsize]; exact Nat.le_refl _, fun k hk => hne k (fun e => ?_)⟩
  have := hb0 g hgb
  omega
 ·rw [Int.toNat_natCast, Int.toNat_natCast]
  exact El.append (hmv bc (fun b hb => hsub b (by simp [hb])) f5) (hmv bb (fun b hb => hsub b (by simp [hb])) f3)
 ·refine ⟨by simp only [List.length_append, List.length_take, List.length_drop, hlen, hs, Nat.mul_one, Int.toNat_natCast], .inr ⟨g, cap, _, ?_, Nat.zero_le _, hat, by simp only [List.length_append, List.length_take, List.length_drop, Int.toNat_natCast]; omega, hmx, by rw [p1, hcs, hs, Nat.mul_one], ?_⟩⟩
  ·congr 1
   simp only [List.length_append, List.length_take, List.length_drop, Int.toNat_natCast]; omega
  ·have e : (List.take (i : Int).toNat x ++ List.drop (j : Int).toNat x).length = x.length - (j - i) := by
    simp only [List.length_append, List.length_take, List.length_drop, Int.toNat_natCast]; omega
   rw [e, hs, Nat.mul_one, p2, hDm]
 ·refine List.nodup_cons.2 ⟨fun h => hgc (hsub g h), ?_⟩
  have hc := (List.nodup_append.1 hnd).2.1
  rw [f1, f4] at hc
  obtain ⟨n1, n2, n3⟩ := List.nodup_append.1 hc
  obtain ⟨n4, n5, n6⟩ := List.nodup_append.1 n1
  exact List.nodup_append.2 ⟨n4, n2, fun a ha b hb e => n3 a (by simp [ha]) b hb e⟩
 ·intro b hb
  rcases List.mem_cons.1 hb with rfl | hb
  ·exact .inl hgb
  ·exact .inl (List.mem_append_right _ (hsub b hb))

/-- How the shelf's numbers of types are called here. -/
def renL (f tu i bo sl el : Nat) : Ren := ⟨fun _ => f, fun n => if n = 0 then tu else if n = 3 then i else if n = 4 then bo else if n = 22 then sl else el, id⟩
theorem clone_ent {T : Tab} (hT : TabOk P T) (hm : P.follows .mixedOrders = true) {f tu i bo sl el : Nat} (hb : Bears P f (SlBodyN.n41 (renL f tu i bo sl el))) (h4 : T.ty bo = some .bool) (hbo : P.underlying bo = some .bool) {te : TE} (h22 : elemAt T sl = some te) (h23 : te.id = el) (hf : te.ty.flatB = true) {x q : List te.ty.D} (h : (bif decide (x.length * te.bytes ≤ 140737488355328) then some x else none) = some q) :
  FnOk P f ⟨[.val (.slice te.id te.ty)], [(.slice te.id te.ty, .dp)], false, false, none, none⟩ [.val (.slice te.id te.ty) x] [⟨.slice te.id te.ty, q⟩] := by
 by_cases hx : x.length * te.bytes ≤ 140737488355328
 ·rw [decide_eq_true hx] at h
  obtain rfl : x = q := Option.some.inj h
  exact clone_spec (ρ := renL f tu i bo sl el) hT hm hb h4 hbo h22 h23 hf hx
 ·rw [decide_eq_false hx] at h; cases h
theorem delete_ent {T : Tab} (hT : TabOk P T) (hm : P.follows .mixedOrders = true) {f tu i bo sl el : Nat} (hb : Bears P f (SlBodyN.n45 (renL f tu i bo sl el))) (h0 : P.underlying tu = some (.tuple #[]) ∧ (∀ w, (isAgg tu).run P w = .ok false w) ∧ (∀ w, (Go.sizeOf tu).run P w = .ok 1 w) ∧ ∀ w, (zeroValue tu).run P w = .ok (.tuple #[]) w)
  (h3 : T.ty i = some (.int .i64)) (h4 : T.ty bo = some .bool) (hbo : P.underlying bo = some .bool) {te : TE} (h22 : elemAt T sl = some te) (h23 : te.id = el) (ha : te.ty.isAgg = false) (hs : te.ty.sz = 1) {x q : List te.ty.D} {a b : Int} (h : (bif decide (0 < x.length) && (decide (0 ≤ a) && (decide (a ≤ b) && decide (b ≤ (x.length : Int)))) then some (x.take a.toNat ++ x.drop b.toNat) else none) = some q) :
  FnOk P f ⟨[.val (.slice te.id te.ty), .val (.int .i64), .val (.int .i64)], [(.slice te.id te.ty, .dp)], true, true, none, none⟩ [.val (.slice te.id te.ty) x, .val (.int .i64) a, .val (.int .i64) b] [⟨.slice te.id te.ty, q⟩] := by
 by_cases hx : 0 < x.length ∧ 0 ≤ a ∧ a ≤ b ∧ b ≤ (x.length : Int)
 ·rw [decide_eq_true hx.1, decide_eq_true hx.2.1, decide_eq_true hx.2.2.1, decide_eq_true hx.2.2.2] at h
  obtain rfl : x.take a.toNat ++ x.drop b.toNat = q := Option.some.inj h
  exact ⟨_, _, _, _, rfl, rfl, delete_spec (ρ := renL f tu i bo sl el) hT hm hb h0 h3 h4 hbo h22 h23 ha hs hx.1 hx.2.1 hx.2.2.1 hx.2.2.2⟩
 ·have : (decide (0 < x.length) && (decide (0 ≤ a) && (decide (a ≤ b) && decide (b ≤ (x.length : Int))))) = false := by
   rw [Bool.eq_false_iff]
   intro h'
   simp only [Bool.and_eq_true, decide_eq_true_eq] at h'
   exact hx h'
  rw [this] at h; cases h

/-- slices.Clone, whatever the elements. -/
theorem clone_spec_sh {T : Tab} (hT : TabOk P T) (hm : P.follows .mixedOrders = true) (hb : Bears P (ρ.f 41) (SlBodyN.n41 ρ)) (h4 : T.ty (ρ.t 4) = some .bool) (hbo : P.underlying (ρ.t 4) = some .bool) {te : TE} (h22 : elemAt T (ρ.t 22) = some te) (h23 : te.id = ρ.t 23) {x : List te.ty.D} (hx : x.length * te.bytes ≤ 140737488355328) :
  FnSpecSh P (ρ.f 41) (.slice te.id te.ty) x := by
 have L := clone_lays hT hm hb h4 hbo h22 h23
 obtain ⟨k1, k2, k3, hsz, hby, i0, hi0, hi1, hi2, hi3⟩ := TabOk.elem hT h22
 rintro S w v ⟨u, xs, b0, b1, e1, hbs, hel, hrow⟩
 obtain rfl : v = u := by simpa using e1
 obtain ⟨rfl, rfl⟩ := List.append_eq_nil_iff.1 hbs.symm
 obtain ⟨_, A, cp, rfl, hcp, hz, hc⟩ := hrow
 have hlen := hel.len
 cases A with
 | none =>
  have h0 : x = [] := List.length_eq_zero_iff.1 (by have := hz rfl; omega)
  subst h0
  refine Calls.mono (AnyE.slices_Clone_nil L _ _ w) ?_
  rintro e w' ⟨rfl, rfl⟩
  exact ⟨_, [], rfl, Below.refl _ _, ⟨_, [], [], [], rfl, rfl, ⟨rfl, rfl⟩, rfl, by simp, .inl ⟨rfl, rfl⟩⟩, List.nodup_nil, by simp⟩
 | some ad =>
  have h63 : x.length ≤ maxLen := by
   have : x.length * 1 ≤ x.length * te.bytes := Nat.mul_le_mul_left _ hby
   simp only [maxLen]; omega
  have hz' : (zeroVal te.ty).cells.size = te.ty.sz := by rw [← Array.length_toList, zeroVal_cells, zeroCells_len]
  refine Calls.mono (clone_at L i0 (zeroVal te.ty) te.ty.sz te.bytes (h23 ▸ hi0) hi3 hi1 hi2 hz' hsz (fun w => h23 ▸ TabOk.sizeOf hT k3 w) ad x.length cp xs w hlen h63 hx (fun j u hu => by obtain ⟨a, h1, _, h2⟩ := hc j u hu; cases h1; exact h2) (hel.all (fun c x b h => Rep.one h))) ?_
  rintro e w' ⟨v', rfl, hown, hbel⟩
  refine ⟨v', v'.ownBlock.toList, rfl, hbel, ⟨v', xs, v'.ownBlock.toList, [], rfl, by simp, ?_, rfl, ?_⟩, by cases v'.ownBlock <;> simp, fun b hb => (own_block0 hown b (mem_toList.1 hb)).1⟩
  ·exact El.imp (fun c' x' b' hb' h' => Rep.move (fun b hb hl => ⟨hb, hbel.block b hl⟩) (fun b hb => by have := hb' b hb; simp at this) h') hel
  ·rw [← h23] at hown
   obtain ⟨g1, g2⟩ := hown
   refine ⟨g1, g2.imp id ?_⟩
   rintro ⟨g, cap, cur, k1, _, k2⟩
   exact ⟨g, cap, cur, k1, Nat.zero_le _, k2⟩
theorem clone_ent_sh {T : Tab} (hT : TabOk P T) (hm : P.follows .mixedOrders = true) {f tu i bo sl el : Nat} (hb : Bears P f (SlBodyN.n41 (renL f tu i bo sl el))) (h4 : T.ty bo = some .bool) (hbo : P.underlying bo = some .bool) {te : TE} (h22 : elemAt T sl = some te) (h23 : te.id = el) {x q : List te.ty.D} (h : (bif decide (x.length * te.bytes ≤ 140737488355328) then some x else none) = some q) :
  FnOk P f ⟨[.val (.slice te.id te.ty)], [(.slice te.id te.ty, .sh)], false, true, none, none⟩ [.val (.slice te.id te.ty) x] [⟨.slice te.id te.ty, q⟩] := by
 by_cases hx : x.length * te.bytes ≤ 140737488355328
 ·rw [decide_eq_true hx] at h
  obtain rfl : x = q := Option.some.inj h
  exact ⟨_, _, rfl, rfl, clone_spec_sh (ρ := renL f tu i bo sl el) hT hm hb h4 hbo h22 h23 hx⟩
 ·rw [decide_eq_false hx] at h; cases h
end Go.FP
