/- How Go values lie in memory, and an evaluator of code with its soundness (part 7 of 7). Conditions: those that stand in each theorem; nothing is assumed of any program. -/
import Derived.Test.YtdnmcmhnikjphaaFpF
import Derived.Shelf.SlicesE.Clone
import Derived.Shelf.SlicesE.Delete

set_option linter.unusedVariables false
set_option linter.unusedSimpArgs false
set_option linter.unnecessarySimpa false

namespace Go.FP
open Go.Proofs Go.Shelf Go.RowKit Go.Lib
variable {T : Tab} {te : TE}
variable {P : Program} {ρ : Ren}
theorem Ybf (hT : TabOk P T) (hm : P.follows .mixedOrders = true) (hb : Bears P (ρ.f 41) (SlBodyN.n41 ρ)) (h4 : T.ty (ρ.t 4) = some .bool) (hbo : P.underlying (ρ.t 4) = some .bool) (h22 : elemAt T (ρ.t 22) = some te) (h23 : te.id = ρ.t 23) : SlLaysE0.n41 P ρ := by
 obtain ⟨k1, k2, _⟩ := TabOk.elem hT h22
 exact ⟨hm, hb, hbo, TabOk.agg hT h4, TabOk.sizeOf hT h4, fun w => by rw [TabOk.zero hT h4]; rfl,
  by rw [k2, h23], TabOk.agg hT k1, TabOk.sizeOf hT k1, fun w => by rw [TabOk.zero hT k1]; rfl⟩
set_option maxHeartbeats 2000000 in
set_option maxRecDepth 100000 in
theorem Ycy (L : SlLaysE0.n41 P ρ) (i0 : TypeInfo) (z : Value) (size bytes : Nat) (hi : P.info? (ρ.t 23) = some i0) (hz0 : i0.zero = some z) (hz1 : i0.size = size) (hz2 : i0.bytes = bytes) (hzs : z.cells.size = size) (hsz : 0 < size)
  (z23 : ∀ w, (Go.sizeOf (ρ.t 23)).run P w = .ok size w) (ad : Addr) (n c : Nat) (news : List Value) (w : World) (hl : news.length = n * size) (hn : n <= maxLen) (hbig : n * bytes <= 140737488355328)
  (hc : ∀ j u, news[j]? = some u -> w.cell? (ad.add j) = some u) (h1 : ∀ u ∈ news, u.oneCell' = true) :
  Calls P (ρ.f 41) #[.slice (some ad) n c] w fun e w' => ∃ v', e = .returned v' /\ w'.ownsRow w.heap.size (ρ.t 23) size v' n news /\ Below w.heap.size w w' := by
 have mixed := L.mixed
 have t4 := L.t4; have a4 := L.a4; have z4 := L.z4; have v4 := L.v4
 have t22 := L.t22; have a22 := L.a22; have z22 := L.z22; have v22 := L.v22
 have q22 : ∀ (w : World) (a : Option Addr) (n c n' c' : Nat), (binOp .eql (ρ.t 22) (.slice a n c) (.slice none n' c')).run P w = .ok (.bool a.isNone) w := fun w a n c n' c' => Lib.run_eql_slice_nil w _ _ a n c n' c' L.t22
 have u22 : ∀ w, Sem.run P (underlying (ρ.t 22)) w = .ok (TypeDesc.slice (ρ.t 23)) w := run_underlying t22
 have A : Aside (∀ j u, news[j]? = some u -> w.cell? (ad.add j) = some u) := hc
 clear hc
 obtain ⟨_, _, FG⟩ := L.f41
 go_enter FG, SlBodyN.n41_ntmps ρ
 go_wp2_with (at_builtin; refine wpList_append_own _ rfl _ _ (ρ.t 22) rfl w.heap.size (ρ.t 23) i0 z size bytes t22 hi hz0 hz1 hz2 hzs hsz _ _ _ rfl (World.ownsRow_made w #[] 0 (Jh _) (J2c _) (by simp)) ad n c news rfl ?qc1 ?qc2 ?qc3 ?qc4 ?qc5 ?qc6 ?_)
 case qc1 => exact hl
 case qc2 =>
  intro j u hj
  have h0 := A.out j u hj
  obtain ⟨ab, ao, at'⟩ := ad
  exact Lib.cell?_alloc_some _ h0
 case qc3 => exact h1
 case qc4 => rw [J16]; exact hn
 case qc5 => rw [J16]; exact hbig
 case qc6 => simp
 intro v' w1 hown hgrow hnil
 go_wp2
 go_ret
 exact ⟨v', rfl, by simpa using hown, ((J19 _ w).alloc (Jh _) _).grown hgrow (by simp) (by intro k hk; simp [Value.ownBlock] at hk; omega)⟩
theorem Ybg (hT : TabOk P T) (hm : P.follows .mixedOrders = true) (hb : Bears P (ρ.f 41) (SlBodyN.n41 ρ)) (h4 : T.ty (ρ.t 4) = some .bool) (hbo : P.underlying (ρ.t 4) = some .bool) (h22 : elemAt T (ρ.t 22) = some te) (h23 : te.id = ρ.t 23) (hf : te.ty.flatB = true) {x : List te.ty.D} (hx : x.length * te.bytes <= 140737488355328) :
  FnSpec P (ρ.f 41) [(.slice te.id te.ty, .dp)] [.val (.slice te.id te.ty) x] [⟨.slice te.id te.ty, x⟩] := by
 have L := Ybf hT hm hb h4 hbo h22 h23
 obtain ⟨k1, k2, k3, hsz, hby, i0, hi0, hi1, hi2, hi3⟩ := TabOk.elem hT h22
 rintro S w vals ⟨v, vs', rfl, ⟨ch, rfl, u, xs, b0, b1, rfl, hbs, hel, hrow⟩, rfl⟩
 obtain ⟨rfl, rfl⟩ := J1s.1 hbs.symm
 obtain ⟨_, A, cp, rfl, hcp, hz, hc⟩ := hrow
 have hlen := hel.len
 cases A with
 | none =>
  have h0 : x = [] := Jm.1 (by grind)
  subst h0
  refine J2l (AnyE.slices_Clone_nil L _ _ w) ?_
  rintro e w' ⟨rfl, rfl⟩
  refine ⟨[[.slice none 0 0]], [], rfl, J19 _ _, ?_, J15, by simp⟩
  exact ⟨[], [], _, [], [], [], rfl, rfl, rfl, ⟨_, [], [], [], rfl, rfl, ⟨rfl, rfl⟩, rfl, by simp, .inl ⟨rfl, rfl⟩⟩, rfl, rfl, rfl⟩
 | some ad =>
  have h63 : x.length <= maxLen := by
   have : x.length * 1 <= x.length * te.bytes := J2w _ hby
   simp [maxLen]; omega
  have hz' : (zeroVal te.ty).cells.size = te.ty.sz := by rw [<- J11, Y1r, Y1e]
  refine J2l (Ycy L i0 (zeroVal te.ty) te.ty.sz te.bytes (h23 ▸ hi0) hi3 hi1 hi2 hz' hsz (fun w => h23 ▸ TabOk.sizeOf hT k3 w) ad x.length cp xs w hlen h63 hx (fun j u hu => by grind) (hel.all (fun c x b h => Rep.one h))) ?_
  rintro e w' ⟨v', rfl, hown, hbel⟩
  refine ⟨[[v']], v'.ownBlock.toList, rfl, hbel, ?_, by cases v'.ownBlock <;> simp, fun b hb => (Y22 hown b (Yp.1 hb)).1⟩
  refine ⟨x, [], [v'], [], v'.ownBlock.toList, [], rfl, rfl, by simp, ⟨v', xs, v'.ownBlock.toList, [], rfl, by simp, ?_, rfl, ?_⟩, rfl, rfl, rfl⟩
  ·refine El.bare ?_ hel
   intro _ _ _ h'
   exact (Rep.flat hf h').2
  ·rw [<- h23] at hown
   obtain ⟨g1, g2⟩ := hown
   refine ⟨g1, g2.imp id ?_⟩
   rintro ⟨g, cap, cur, k1, _, k2⟩
   exact ⟨g, cap, cur, k1, J2c _, k2⟩
def renL (f tu i bo sl el : Nat) : Ren := ⟨fun _ => f, fun n => if n = 0 then tu else if n = 3 then i else if n = 4 then bo else if n = 22 then sl else el, id⟩
theorem Yc2 (hT : TabOk P T) (hm : P.follows .mixedOrders = true) {f tu i bo sl el : Nat} (hb : Bears P f (SlBodyN.n41 (renL f tu i bo sl el))) (h4 : T.ty bo = some .bool) (hbo : P.underlying bo = some .bool) (h22 : elemAt T sl = some te) (h23 : te.id = el) (hf : te.ty.flatB = true) {x q : List te.ty.D} (h : (bif decide (x.length * te.bytes <= 140737488355328) then some x else none) = some q) :
  FnOk P f ⟨[.val (.slice te.id te.ty)], [(.slice te.id te.ty, .dp)], false, false, none, none, none⟩ [.val (.slice te.id te.ty) x] [⟨.slice te.id te.ty, q⟩] := by
 by_cases hx : x.length * te.bytes <= 140737488355328
 ·rw [decide_eq_true hx] at h
  obtain rfl : x = q := Js h
  exact Ybg (ρ := renL f tu i bo sl el) hT hm hb h4 hbo h22 h23 hf hx
 ·grind
end Go.FP
