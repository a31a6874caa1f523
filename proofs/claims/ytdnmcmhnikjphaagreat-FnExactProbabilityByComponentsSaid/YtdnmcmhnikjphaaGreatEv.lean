/- What the machine does at each function is what the plain reading says. Conditions: none. -/
import Derived.Test.YtdnmcmhnikjphaaGreatFpG
import Derived.Test.YtdnmcmhnikjphaaGreatPlA
import Derived.Test.YtdnmcmhnikjphaaGreatProg

set_option linter.unusedVariables false
set_option linter.unusedSimpArgs false
set_option linter.unnecessarySimpa false

namespace Go.Proofs
open Go.Shelf
open Go.RowKit Go.Lib
def Tryz.lays189_ren : Go.Shelf.Ren := ⟨fun | 189 => 138 | 125 => 188 | 257 => 187 | 128 => 228 | 129 => 229 | 294 => 219 | 295 => 220 | 296 => 221 | 297 => 222 | 298 => 223 | 299 => 224 | 216 => 225 | 300 => 226 | 301 => 227 | 328 => 242 | 329 => 243 | 330 => 244 | 331 => 245 | 332 => 246 | 215 => 247 | 343 => 252 | n => n, fun | 28 => 26 | 3 => 3 | 46 => 194 | 0 => 0 | 51 => 221 | 53 => 223 | 4 => 4 | 183 => 214 | 182 => 213 | 131 => 218 | 5 => 5 | 9 => 9 | 218 => 232 | 222 => 236 | 228 => 244 | 229 => 73 | n => n, fun | n => n⟩
theorem Tryz.lays189 : Go.Proofs.Lays.n189 Tryz.prog Tryz.lays189_ren := {
 mixed := by kernel_rfl
 f125 := Tryz.func188.trans (congrArg some (by kernel_rfl))
 f128 := Tryz.func228.trans (congrArg some (by kernel_rfl))
 f129 := Tryz.func229.trans (congrArg some (by kernel_rfl))
 f189 := Tryz.func138.trans (congrArg some (by kernel_rfl))
 f215 := Tryz.func247.trans (congrArg some (by kernel_rfl))
 f216 := Tryz.func225.trans (congrArg some (by kernel_rfl))
 f257 := Tryz.func187.trans (congrArg some (by kernel_rfl))
 f294 := Tryz.func219.trans (congrArg some (by kernel_rfl))
 f295 := Tryz.func220.trans (congrArg some (by kernel_rfl))
 f296 := Tryz.func221.trans (congrArg some (by kernel_rfl))
 f297 := Tryz.func222.trans (congrArg some (by kernel_rfl))
 f298 := Tryz.func223.trans (congrArg some (by kernel_rfl))
 f299 := Tryz.func224.trans (congrArg some (by kernel_rfl))
 f300 := Tryz.func226.trans (congrArg some (by kernel_rfl))
 f301 := Tryz.func227.trans (congrArg some (by kernel_rfl))
 f328 := Tryz.func242.trans (congrArg some (by kernel_rfl))
 f329 := Tryz.func243.trans (congrArg some (by kernel_rfl))
 f330 := Tryz.func244.trans (congrArg some (by kernel_rfl))
 f331 := Tryz.func245.trans (congrArg some (by kernel_rfl))
 f332 := Tryz.func246.trans (congrArg some (by kernel_rfl))
 f343 := Tryz.func252.trans (congrArg some (by kernel_rfl))
 t0 := Tryz.underlying0
 a0 := Tryz.isAgg0
 z0 := Tryz.sizeOf0
 v0 := Tryz.zeroValue0
 t3 := Tryz.underlying3
 a3 := Tryz.isAgg3
 z3 := Tryz.sizeOf3
 v3 := Tryz.zeroValue3
 t4 := Tryz.underlying4
 a4 := Tryz.isAgg4
 z4 := Tryz.sizeOf4
 v4 := Tryz.zeroValue4
 t5 := Tryz.underlying5
 a5 := Tryz.isAgg5
 z5 := Tryz.sizeOf5
 v5 := Tryz.zeroValue5
 t9 := Tryz.underlying9
 a9 := Tryz.isAgg9
 z9 := Tryz.sizeOf9
 v9 := Tryz.zeroValue9
 t28 := Tryz.underlying26
 a28 := Tryz.isAgg26
 z28 := Tryz.sizeOf26
 v28 := Tryz.zeroValue26
 t46 := Tryz.underlying194
 a46 := Tryz.isAgg194
 z46 := Tryz.sizeOf194
 v46 := Tryz.zeroValue194
 t51 := Tryz.underlying221
 a51 := Tryz.isAgg221
 z51 := Tryz.sizeOf221
 v51 := Tryz.zeroValue221
 t53 := Tryz.underlying223
 a53 := Tryz.isAgg223
 z53 := Tryz.sizeOf223
 v53 := Tryz.zeroValue223
 t131 := Tryz.underlying218
 a131 := Tryz.isAgg218
 z131 := Tryz.sizeOf218
 v131 := Tryz.zeroValue218
 t182 := Tryz.underlying213
 a182 := Tryz.isAgg213
 z182 := Tryz.sizeOf213
 v182 := Tryz.zeroValue213
 t183 := Tryz.underlying214
 a183 := Tryz.isAgg214
 z183 := Tryz.sizeOf214
 v183 := Tryz.zeroValue214
 t218 := Tryz.underlying232
 a218 := Tryz.isAgg232
 z218 := Tryz.sizeOf232
 v218 := Tryz.zeroValue232
 t222 := Tryz.underlying236
 a222 := Tryz.isAgg236
 z222 := Tryz.sizeOf236
 v222 := Tryz.zeroValue236
 t228 := Tryz.underlying244
 a228 := Tryz.isAgg244
 z228 := Tryz.sizeOf244
 v228 := Tryz.zeroValue244
 t229 := Tryz.underlying73
 a229 := Tryz.isAgg73
 z229 := Tryz.sizeOf73
 v229 := Tryz.zeroValue73 }
def Tryz.lays212_ren : Go.Shelf.Ren := ⟨fun | 212 => 241 | 263 => 250 | 264 => 251 | n => n, fun | 46 => 194 | 51 => 221 | 146 => 240 | 53 => 223 | 148 => 242 | n => n, fun | n => n⟩
theorem Tryz.lays212 : Go.Proofs.Lays.n212 Tryz.prog Tryz.lays212_ren := {
 mixed := by kernel_rfl
 f212 := Tryz.func241.trans (congrArg some (by kernel_rfl))
 f263 := Tryz.func250.trans (congrArg some (by kernel_rfl))
 f264 := Tryz.func251.trans (congrArg some (by kernel_rfl))
 t46 := Tryz.underlying194
 a46 := Tryz.isAgg194
 z46 := Tryz.sizeOf194
 v46 := Tryz.zeroValue194
 t51 := Tryz.underlying221
 a51 := Tryz.isAgg221
 z51 := Tryz.sizeOf221
 v51 := Tryz.zeroValue221
 t53 := Tryz.underlying223
 a53 := Tryz.isAgg223
 z53 := Tryz.sizeOf223
 v53 := Tryz.zeroValue223
 t146 := Tryz.underlying240
 a146 := Tryz.isAgg240
 z146 := Tryz.sizeOf240
 v146 := Tryz.zeroValue240
 t148 := Tryz.underlying242
 a148 := Tryz.isAgg242
 z148 := Tryz.sizeOf242
 v148 := Tryz.zeroValue242 }
def Tryz.laysNm220_ren : Go.Shelf.Ren := ⟨fun | 20 => 215 | n => n, fun | 22 => 26 | 3 => 3 | 4 => 4 | 0 => 0 | n => n, fun | n => n⟩
theorem Tryz.laysNm220 : Go.Proofs.Lays2.n20 Tryz.prog Tryz.laysNm220_ren := {
 mixed := by kernel_rfl
 f20 := Tryz.func215.trans (congrArg some (by kernel_rfl))
 t0 := Tryz.underlying0
 a0 := Tryz.isAgg0
 z0 := Tryz.sizeOf0
 v0 := Tryz.zeroValue0
 t3 := Tryz.underlying3
 a3 := Tryz.isAgg3
 z3 := Tryz.sizeOf3
 v3 := Tryz.zeroValue3
 t4 := Tryz.underlying4
 a4 := Tryz.isAgg4
 z4 := Tryz.sizeOf4
 v4 := Tryz.zeroValue4
 t22 := Tryz.underlying26
 a22 := Tryz.isAgg26
 z22 := Tryz.sizeOf26
 v22 := Tryz.zeroValue26
 i3 := by kernel_rfl }
set_option maxHeartbeats 1000000 in
set_option maxRecDepth 100000 in
theorem repeat_walk
  (n : Nat) (hn : n * 8 <= 140737488355328) (ad : Addr) (cx : Nat) (v : Int) (w : World) (hc : w.cell? ad = some (.int .i64 v)) :
  Calls Tryz.prog 218 #[.slice (some ad) 1 cx, .int .i64 (n : Int)] w fun e w' => e = .returned (.slice (some ⟨w.heap.size, 0, none⟩) n n) /\ ∃ m, w' = (Go.Sort.ahead w m).alloc (.cells (Array.replicate n (.int .i64 v)) 3) := by
 have mixed : Tryz.prog.follows .mixedOrders = true := by decide
 have t3 := Tryz.underlying3
 have a3 := Tryz.isAgg3
 have z3 := Tryz.sizeOf3
 have t4 := Tryz.underlying4
 have t26 := Tryz.underlying26
 have a26 := Tryz.isAgg26
 have z26 := Tryz.sizeOf26
 have v26 := Tryz.zeroValue26
 have t191 := Tryz.underlying194
 have e241 := fun args w => Tryz.call241 args w
 have hinfo : (Tryz.prog.info? 3).map (fun i => (i.zero, i.size, i.bytes)) = some (some (.int .i64 0), 1, 8) := by kernel_rfl
 have hM : Calls Tryz.prog 241 #[.int .u64 1, .int .u64 (n : Int)] w fun e w' => e = .returned (.tuple #[.int .u64 0, .int .u64 (n : Int)]) /\ w' = w := by
  have h := Any.bits_Mul Tryz.lays212 1 n (by omega) (by omega) w
  rw [show Tryz.lays212_ren.f 212 = 241 from rfl, Nat.one_mul, Nat.div_eq_of_lt (by omega), Nat.mod_eq_of_lt (by omega)] at h
  exact h
 have hmk := run_make_row' (P := Tryz.prog) 26 3 (.int .i64 0) 8 t26 hinfo rfl .i64 .i64 n (by omega) (by omega)
 go_enter Tryz.func218, Tryz.ntmps218
 have hsz : (Tryz.prog.info? 3).map (·.size) = some 1 := by
  cases h : Tryz.prog.info? 3 with
  | none => rw [h] at hinfo; cases hinfo
  | some i => rw [h] at hinfo; simp at hinfo; simp [hinfo.2.1]
 have hcp1 := fun (ty : TypeId) => Yct (n := n) (cx := cx) (v := v) t26 hsz hc ty
 have hcpk := fun (k : Nat) (hk : k <= n) (cx cy : Nat) (ty : TypeId) => Y8u (w := w) (v := v) t26 hsz hk cx cy ty
 go_wp2_with (first
  | (go_at_call 241; go_fit hM; rintro e w' ⟨rfl, hw⟩; rw [hw])
  | (refine wpList_copy_runI _ rfl (.tmp 31) (.tmp 32) 26 26 rfl _ _ rfl rfl (hcp1 _) ?_))
 go_loopg [8] (n - min 1 n) (fun g s8 wx => ∃ k m : Nat, min 1 n <= k /\ k <= n /\ g = n - k /\ s8 = .int .i64 (k : Int) /\ wx = (Go.Sort.ahead w m).alloc (.cells (repRow n v k).toArray 3))
 case atStart => exact ⟨min 1 n, 0, Nat.le_refl _, by omega, rfl, rfl, rfl⟩
 case round =>
  obtain ⟨k, m, hk1, hk2, hkg, rfl, hwr⟩ := hrel
  by_cases hlt : (k : Int) < (n : Int)
  ·have A : Aside (wr = (Go.Sort.ahead w m).alloc (.cells (repRow n v k).toArray 3)) := hwr
   clear hwr hcp1 hmk
   go_wp2_with fail
   have hcp := fun (ty : TypeId) => Y8u (P := Tryz.prog) (w := Go.Sort.ahead w (m + 1)) (n := n) (k := k) (v := v) t26 hsz (by omega) (n - k) n ty
   have hW : wr.drew = (Go.Sort.ahead w (m + 1)).alloc (.cells (repRow n v k).toArray 3) := by rw [A.out]; rfl
   rw [<- hW] at hcp
   go_region_law_o (refine step_copy_runI rfl _ _ 26 26 rfl (.slice (some ⟨w.heap.size, k, none⟩) (n - k) (n - k)) (.slice (some ⟨w.heap.size, 0, none⟩) k n) (by simp [Act.eval, Act.put]; try omega) (by simp [Act.eval, Act.put]; try omega) (hcp _) ?_)
   go_wp2
   go_roundg (n - (k + min k (n - k)))
   case measure => omega
   case rel => exact ⟨k + min k (n - k), m + 1, by omega, by omega, rfl, by
     congr 1
     rw [IntKind.wrap_i64]
     omega, rfl⟩
  ·obtain rfl : k = n := by omega
   go_wp2
   go_ret
   refine ⟨rfl, m, ?_⟩
   simp [repRow]
theorem repeat_said : Go.FP.RepeatSaid Tryz.prog 218 3 := fun n ad cx v w hn hc => repeat_walk n hn ad cx v w hc
end Go.Proofs
namespace Go.PL
noncomputable section
open Go.FP Go.Proofs Go.Shelf
set_option maxRecDepth 10000
variable (N : Nat)
abbrev i64 : Ty := .int .i64
abbrev ty0 : Ty := (.slice 3 i64)
abbrev ty1 : Ty := (.pair .str (.pair i64 i64))
abbrev ty2 : Ty := (.slice 133 (.pair .str (.pair i64 i64)))
abbrev ty3 : Ty := (.pair i64 (.slice 3 i64))
abbrev ty4 : Ty := (.slice 135 (.pair i64 (.slice 3 i64)))
abbrev ty5 : Ty := (.pair (.slice 133 (.pair .str (.pair i64 i64))) (.slice 135 (.pair i64 (.slice 3 i64))))
abbrev ty6 : Ty := (.slice 138 (.pair i64 (.slice 3 i64)))
abbrev ty7 : Ty := (.pair i64 (.pair (.slice 138 (.pair i64 (.slice 3 i64))) (.slice 3 i64)))
abbrev ty8 : Ty := (.slice 142 (.pair .str (.pair i64 i64)))
abbrev ty9 : Ty := (.slice 110 (.pair i64 (.slice 3 i64)))
abbrev ty10 : Ty := (.pair (.slice 142 (.pair .str (.pair i64 i64))) (.slice 110 (.pair i64 (.slice 3 i64))))
abbrev ty11 : Ty := (.slice 145 (.pair i64 (.slice 3 i64)))
abbrev ty12 : Ty := (.pair i64 (.pair (.slice 145 (.pair i64 (.slice 3 i64))) (.slice 3 i64)))
abbrev ty13 : Ty := (.slice 4 .bool)
abbrev ty14 : Ty := (.slice 26 (.slice 3 i64))
abbrev ty15 : Ty := (.slice 159 (.pair (.slice 3 i64) (.slice 3 i64)))
abbrev ty16 : Ty := (.pair i64 i64)
abbrev ty17 : Ty := (.pair (.slice 3 i64) (.slice 3 i64))
def Tb : Tab := [⟨3, i64, 8, [], false, false⟩,
 ⟨4, .bool, 1, [], false, false⟩,
 ⟨5, (.int .u8), 1, [], false, false⟩,
 ⟨9, .str, 16, [], false, false⟩,
 ⟨22, ty2, 24, [], false, false⟩,
 ⟨23, ty4, 24, [], false, false⟩,
 ⟨25, ty5, 48, [(0, 22), (1, 23)], false, false⟩,
 ⟨26, ty0, 24, [], false, false⟩,
 ⟨27, ty6, 24, [], false, false⟩,
 ⟨29, ty7, 56, [(0, 3), (1, 27), (2, 26)], false, false⟩,
 ⟨33, ty16, 16, [(0, 3), (1, 3)], false, false⟩,
 ⟨36, ty8, 24, [], false, false⟩,
 ⟨37, ty9, 24, [], false, false⟩,
 ⟨39, ty10, 48, [(0, 36), (1, 37)], false, false⟩,
 ⟨42, ty11, 24, [], false, false⟩,
 ⟨44, ty12, 56, [(0, 3), (1, 42), (2, 26)], false, false⟩,
 ⟨60, ty14, 24, [], false, false⟩,
 ⟨110, ty3, 32, [(0, 3), (1, 26)], false, false⟩,
 ⟨121, ty15, 24, [], false, false⟩,
 ⟨133, ty1, 32, [(0, 9), (1, 3), (2, 3)], false, false⟩,
 ⟨135, ty3, 32, [(0, 3), (1, 26)], false, false⟩,
 ⟨138, ty3, 32, [(0, 3), (1, 26)], false, false⟩,
 ⟨142, ty1, 32, [(0, 9), (1, 3), (2, 3)], false, false⟩,
 ⟨145, ty3, 32, [(0, 3), (1, 26)], false, false⟩,
 ⟨159, ty17, 48, [(0, 26), (1, 26)], false, false⟩,
 ⟨174, ty13, 24, [], false, false⟩,
 ⟨190, .bool, 8, [], true, false⟩]
theorem tab_ok : TabOk Tryz.prog Tb :=
 (Yc (TEOk.plain (i := Tryz.t3) (by kernel_rfl) rfl rfl (by kernel_rfl) rfl rfl rfl Tryz.underlying3)
 (Yc (TEOk.plain (i := Tryz.t4) (by kernel_rfl) rfl rfl (by kernel_rfl) rfl rfl rfl Tryz.underlying4)
 (Yc (TEOk.plain (i := Tryz.t5) (by kernel_rfl) rfl rfl (by kernel_rfl) rfl rfl rfl Tryz.underlying5)
 (Yc (TEOk.plain (i := Tryz.t9) (by kernel_rfl) rfl rfl (by kernel_rfl) rfl rfl rfl Tryz.underlying9)
 (Yc (TEOk.plain (i := Tryz.t22) (by kernel_rfl) rfl rfl (by kernel_rfl) rfl rfl rfl Tryz.underlying22)
 (Yc (TEOk.plain (i := Tryz.t23) (by kernel_rfl) rfl rfl (by kernel_rfl) rfl rfl rfl Tryz.underlying23)
 (Yc (TEOk.struct (i := Tryz.t25) (pl := [(0, 1), (1, 1)]) (by kernel_rfl) rfl rfl (by kernel_rfl) Tryz.underlying25 (by kernel_rfl) (by kernel_rfl) rfl rfl (fun h => by cases h))
 (Yc (TEOk.plain (i := Tryz.t26) (by kernel_rfl) rfl rfl (by kernel_rfl) rfl rfl rfl Tryz.underlying26)
 (Yc (TEOk.plain (i := Tryz.t27) (by kernel_rfl) rfl rfl (by kernel_rfl) rfl rfl rfl Tryz.underlying27)
 (Yc (TEOk.struct (i := Tryz.t29) (pl := [(0, 1), (1, 1), (2, 1)]) (by kernel_rfl) rfl rfl (by kernel_rfl) Tryz.underlying29 (by kernel_rfl) (by kernel_rfl) rfl rfl (fun h => by cases h))
 (Yc (TEOk.struct (i := Tryz.t33) (pl := [(0, 1), (1, 1)]) (by kernel_rfl) rfl rfl (by kernel_rfl) Tryz.underlying33 (by kernel_rfl) (by kernel_rfl) rfl rfl (fun h => by cases h))
 (Yc (TEOk.plain (i := Tryz.t36) (by kernel_rfl) rfl rfl (by kernel_rfl) rfl rfl rfl Tryz.underlying36)
 (Yc (TEOk.plain (i := Tryz.t37) (by kernel_rfl) rfl rfl (by kernel_rfl) rfl rfl rfl Tryz.underlying37)
 (Yc (TEOk.struct (i := Tryz.t39) (pl := [(0, 1), (1, 1)]) (by kernel_rfl) rfl rfl (by kernel_rfl) Tryz.underlying39 (by kernel_rfl) (by kernel_rfl) rfl rfl (fun h => by cases h))
 (Yc (TEOk.plain (i := Tryz.t42) (by kernel_rfl) rfl rfl (by kernel_rfl) rfl rfl rfl Tryz.underlying42)
 (Yc (TEOk.struct (i := Tryz.t44) (pl := [(0, 1), (1, 1), (2, 1)]) (by kernel_rfl) rfl rfl (by kernel_rfl) Tryz.underlying44 (by kernel_rfl) (by kernel_rfl) rfl rfl (fun h => by cases h))
 (Yc (TEOk.plain (i := Tryz.t60) (by kernel_rfl) rfl rfl (by kernel_rfl) rfl rfl rfl Tryz.underlying60)
 (Yc (TEOk.struct (i := Tryz.t110) (pl := [(0, 1), (1, 1)]) (by kernel_rfl) rfl rfl (by kernel_rfl) Tryz.underlying110 (by kernel_rfl) (by kernel_rfl) rfl rfl (fun h => by cases h))
 (Yc (TEOk.plain (i := Tryz.t121) (by kernel_rfl) rfl rfl (by kernel_rfl) rfl rfl rfl Tryz.underlying121)
 (Yc (TEOk.struct (i := Tryz.t133) (pl := [(0, 1), (1, 1), (2, 1)]) (by kernel_rfl) rfl rfl (by kernel_rfl) Tryz.underlying133 (by kernel_rfl) (by kernel_rfl) rfl rfl (fun h => by cases h))
 (Yc (TEOk.struct (i := Tryz.t135) (pl := [(0, 1), (1, 1)]) (by kernel_rfl) rfl rfl (by kernel_rfl) Tryz.underlying135 (by kernel_rfl) (by kernel_rfl) rfl rfl (fun h => by cases h))
 (Yc (TEOk.struct (i := Tryz.t138) (pl := [(0, 1), (1, 1)]) (by kernel_rfl) rfl rfl (by kernel_rfl) Tryz.underlying138 (by kernel_rfl) (by kernel_rfl) rfl rfl (fun h => by cases h))
 (Yc (TEOk.struct (i := Tryz.t142) (pl := [(0, 1), (1, 1), (2, 1)]) (by kernel_rfl) rfl rfl (by kernel_rfl) Tryz.underlying142 (by kernel_rfl) (by kernel_rfl) rfl rfl (fun h => by cases h))
 (Yc (TEOk.struct (i := Tryz.t145) (pl := [(0, 1), (1, 1)]) (by kernel_rfl) rfl rfl (by kernel_rfl) Tryz.underlying145 (by kernel_rfl) (by kernel_rfl) rfl rfl (fun h => by cases h))
 (Yc (TEOk.struct (i := Tryz.t159) (pl := [(0, 1), (1, 1)]) (by kernel_rfl) rfl rfl (by kernel_rfl) Tryz.underlying159 (by kernel_rfl) (by kernel_rfl) rfl rfl (fun h => by cases h))
 (Yc (TEOk.plain (i := Tryz.t174) (by kernel_rfl) rfl rfl (by kernel_rfl) rfl rfl rfl Tryz.underlying174)
 (Yc (TEOk.ofFn (i := Tryz.t190) (z := (Tryz.t190.zero).getD default) (by kernel_rfl) rfl (by kernel_rfl) (by kernel_rfl) Tryz.underlying190 rfl rfl)
 Yen)))))))))))))))))))))))))))
theorem mixed : Tryz.prog.follows .mixedOrders = true := by decide
def cps : FuncId -> List Ty := capsL [(135, []), (141, [ty0]), (180, [ty3]), (184, [ty12, .bool, ty10, .bool]), (191, [ty0]), (231, [])]
def cpsS : FuncId -> List Ty := fun f => if f = 1000000007 then [.unit] else cps f
def cpsK : FuncId -> List Ty := fun f => if f = 1000000009 then [.unit] else cps f
section
variable {R : Type} (es : List (Entry Tryz.prog)) (N : Nat) (an : Nat -> Option (List Nat))
abbrev evE (sg : Sig) (fn : Func) (args : List RV) (K : List (Σ t : Ty, t.D) -> Option R) : Option R :=
 evFn Tb (sigL es) cps (orcL es) (drawReg Tb (sigL es) cps (orcL es)) N an sg fn (fn.body.getD .skip) args K
abbrev evES (sg : Sig) (fn : Func) (args : List RV) (K : List (Σ t : Ty, t.D) -> Option R) : Option R :=
 evFn Tb (sigL es) cpsS (orcL es) (drawReg Tb (sigL es) cpsS (orcL es)) N an sg fn (fn.body.getD .skip) args K
abbrev lpES (p : List Dir) (fn : Func) (K : Exit -> Env -> Option R) (rs : List (Env -> Option R)) (k : Nat) (env : Env) : Option R :=
 loopAt Tb (sigL es) cpsS (orcL es) N an p (fn.body.getD .skip) K rs k env
abbrev evEK (sg : Sig) (fn : Func) (args : List RV) (K : List (Σ t : Ty, t.D) -> Option R) : Option R :=
 evFn Tb (sigL es) cpsK (orcL es) (drawReg Tb (sigL es) cpsK (orcL es)) N an sg fn (fn.body.getD .skip) args K
abbrev lpEK (p : List Dir) (fn : Func) (K : Exit -> Env -> Option R) (rs : List (Env -> Option R)) (k : Nat) (env : Env) : Option R :=
 loopAt Tb (sigL es) cpsK (orcL es) N an p (fn.body.getD .skip) K rs k env
abbrev evB (sg : Sig) (b : BoxSig) (fn : Func) (args : List RV) (K : List (Σ t : Ty, t.D) -> Option R) : Option R :=
 evFnB Tb (sigL es) cps (orcL es) (drawReg Tb (sigL es) cps (orcL es)) N an sg b fn (fn.body.getD .skip) args K
abbrev evG (k : Nat) (sg : Sig) (fn : Func) (args : List RV) (K : List (Σ t : Ty, t.D) -> Option R) : Option R :=
 evFnG Tb (sigL es) cps (orcL es) (drawReg Tb (sigL es) cps (orcL es)) N an k sg fn (fn.body.getD .skip) args K
abbrev evN (id : TypeId) (t : Ty) (rs : List (Ty × Lvl)) (fn : Func) (args : List RV) (K : List (Σ t : Ty, t.D) -> Option R) : Option R :=
 evFnN Tb (sigL es) cps (orcL es) (drawReg Tb (sigL es) cps (orcL es)) N an id t rs fn (fn.body.getD .skip) args K
abbrev lpE (p : List Dir) (fn : Func) (K : Exit -> Env -> Option R) (rs : List (Env -> Option R)) (k : Nat) (env : Env) : Option R :=
 loopAt Tb (sigL es) cps (orcL es) N an p (fn.body.getD .skip) K rs k env
end
abbrev EnTryz := Entry Tryz.prog
theorem qL {α : Type} {E f : Nat -> α} (B : α -> α) (h0 : E 0 = f 0 := by kernel_rfl) (h1 : ∀ k, E (k + 1) = B (E k) := by intro k; kernel_rfl) (h2 : ∀ k, f (k + 1) = B (f k) := by intro k; rfl) : ∀ k, E k = f k
 | 0 => h0
 | k + 1 => by rw [h1, h2, qL B h0 h1 h2 k]
theorem tq {α : Type} {a b c : α} (h2 : b = c) (h1 : a = b := by kernel_rfl) : a = c := h1.trans h2
abbrev cr (t : Ty) (x : t.D) : AV := .con .val [lf t x .ro]
abbrev cd (t : Ty) (x : t.D) : AV := .con .val [lf t x .dp]
def an0 : Nat -> Option (List Nat) := fun _ => none
def sgV (ps : List PTy) (rs : List (Ty × Lvl)) : Sig := ⟨ps, rs, false, false, none, none, none⟩
theorem enK {f : FuncId} {fn : Func} (hf : Tryz.prog.funcs[f]? = some fn) (h : (fn.body.isNone || fn.name == "runtime.NumGoroutine") = false := by kernel_rfl) : Enterable Tryz.prog f := ⟨fn, hf, (Bool.or_eq_false_iff.1 h).1, (Bool.or_eq_false_iff.1 h).2⟩
def plG (sg : Sig) : Bool := sg.box.isNone && (sg.newb.isNone && (!sg.muts && !sg.own))
theorem eok (es : List (Entry Tryz.prog)) (ha : agreeL es = true) {f : FuncId} {fn : Func} (hf : Tryz.prog.funcs[f]? = some fn) (hb : fn.body.isSome = true) (N : Nat) (an : Nat -> Option (List Nat)) {sg : Sig} (hs : plG sg = true) {args : List RV} {α : Type} {un : List (Σ t : Ty, t.D) -> Option α} {pk : α -> List (Σ t : Ty, t.D)} (hu : ∀ r xs, un xs = some r -> xs = pk r) {q : Option α} (h : evE es N an sg fn args un = q) :
  ∀ x, q = some x -> FnOk Tryz.prog f sg args (pk x) := by
 obtain ⟨ps, rs, m, o, b, n, g⟩ := sg
 simp only [plG, Bool.and_eq_true, Bool.not_eq_true', Option.isNone_iff_eq_none] at hs
 obtain ⟨rfl, rfl, rfl, rfl⟩ := hs
 exact Y50 tab_ok ha mixed hf (by cases h : fn.body with | none => rw [h] at hb; cases hb | some c => rfl) ⟨⟨rfl, rfl⟩, rfl, rfl⟩ hu h
theorem eo (es : List (Entry Tryz.prog)) {f : FuncId} {fn : Func} (hf : Tryz.prog.funcs[f]? = some fn) (N : Nat) (an : Nat -> Option (List Nat)) {sg : Sig} {args : List RV} {α : Type} {un : List (Σ t : Ty, t.D) -> Option α} {pk : α -> List (Σ t : Ty, t.D)} (hu : ∀ r xs, un xs = some r -> xs = pk r) {q : Option α} (h : evE es N an sg fn args un = q := by kernel_rfl) (ha : agreeL es = true := by kernel_rfl) (hb : fn.body.isSome = true := by rfl) (hs : plG sg = true := by rfl) : ∀ x, q = some x -> FnOk Tryz.prog f sg args (pk x) := eok es ha hf hb N an hs hu h
theorem eokS (es : List (Entry Tryz.prog)) (ha : agreeL es = true) {f : FuncId} {fn : Func} (hf : Tryz.prog.funcs[f]? = some fn) (hb : fn.body.isSome = true) (N : Nat) (an : Nat -> Option (List Nat)) {sg : Sig} (hs : plG sg = true) {args : List RV} {α : Type} {un : List (Σ t : Ty, t.D) -> Option α} {pk : α -> List (Σ t : Ty, t.D)} (hu : ∀ r xs, un xs = some r -> xs = pk r) {q : Option α} (h : evES es N an sg fn args un = q) :
  ∀ x, q = some x -> FnOk Tryz.prog f sg args (pk x) := by
 obtain ⟨ps, rs, m, o, b, n, g⟩ := sg
 simp only [plG, Bool.and_eq_true, Bool.not_eq_true', Option.isNone_iff_eq_none] at hs
 obtain ⟨rfl, rfl, rfl, rfl⟩ := hs
 exact Y50 tab_ok ha mixed hf (by cases h : fn.body with | none => rw [h] at hb; cases hb | some c => rfl) ⟨⟨rfl, rfl⟩, rfl, rfl⟩ hu h
theorem eoS (es : List (Entry Tryz.prog)) {f : FuncId} {fn : Func} (hf : Tryz.prog.funcs[f]? = some fn) (N : Nat) (an : Nat -> Option (List Nat)) {sg : Sig} {args : List RV} {α : Type} {un : List (Σ t : Ty, t.D) -> Option α} {pk : α -> List (Σ t : Ty, t.D)} (hu : ∀ r xs, un xs = some r -> xs = pk r) {q : Option α} (h : evES es N an sg fn args un = q := by kernel_rfl) (ha : agreeL es = true := by kernel_rfl) (hb : fn.body.isSome = true := by rfl) (hs : plG sg = true := by rfl) : ∀ x, q = some x -> FnOk Tryz.prog f sg args (pk x) := eokS es ha hf hb N an hs hu h
theorem eokK (es : List (Entry Tryz.prog)) (ha : agreeL es = true) {f : FuncId} {fn : Func} (hf : Tryz.prog.funcs[f]? = some fn) (hb : fn.body.isSome = true) (N : Nat) (an : Nat -> Option (List Nat)) {sg : Sig} (hs : plG sg = true) {args : List RV} {α : Type} {un : List (Σ t : Ty, t.D) -> Option α} {pk : α -> List (Σ t : Ty, t.D)} (hu : ∀ r xs, un xs = some r -> xs = pk r) {q : Option α} (h : evEK es N an sg fn args un = q) :
  ∀ x, q = some x -> FnOk Tryz.prog f sg args (pk x) := by
 obtain ⟨ps, rs, m, o, b, n, g⟩ := sg
 simp only [plG, Bool.and_eq_true, Bool.not_eq_true', Option.isNone_iff_eq_none] at hs
 obtain ⟨rfl, rfl, rfl, rfl⟩ := hs
 exact Y50 tab_ok ha mixed hf (by cases h : fn.body with | none => rw [h] at hb; cases hb | some c => rfl) ⟨⟨rfl, rfl⟩, rfl, rfl⟩ hu h
theorem eoK (es : List (Entry Tryz.prog)) {f : FuncId} {fn : Func} (hf : Tryz.prog.funcs[f]? = some fn) (N : Nat) (an : Nat -> Option (List Nat)) {sg : Sig} {args : List RV} {α : Type} {un : List (Σ t : Ty, t.D) -> Option α} {pk : α -> List (Σ t : Ty, t.D)} (hu : ∀ r xs, un xs = some r -> xs = pk r) {q : Option α} (h : evEK es N an sg fn args un = q := by kernel_rfl) (ha : agreeL es = true := by kernel_rfl) (hb : fn.body.isSome = true := by rfl) (hs : plG sg = true := by rfl) : ∀ x, q = some x -> FnOk Tryz.prog f sg args (pk x) := eokK es ha hf hb N an hs hu h
def lay_Grow_ren : Ren := ⟨fun _ => 240, fun | 0 => 0 | 3 => 3 | 4 => 4 | 9 => 9 | 20 => 20 | 22 => 26 | _ => 3, id⟩
theorem lay_Grow : Lays8.n4 Tryz.prog lay_Grow_ren := {
 mixed := by kernel_rfl
 f4 := ⟨Tryz.f240.name, by kernel_rfl, Tryz.func240.trans (congrArg some (by kernel_rfl))⟩
 t0 := Tryz.underlying0
 a0 := Tryz.isAgg0
 z0 := Tryz.sizeOf0
 v0 := Tryz.zeroValue0
 t3 := Tryz.underlying3
 a3 := Tryz.isAgg3
 z3 := Tryz.sizeOf3
 v3 := Tryz.zeroValue3
 t4 := Tryz.underlying4
 a4 := Tryz.isAgg4
 z4 := Tryz.sizeOf4
 v4 := Tryz.zeroValue4
 t9 := Tryz.underlying9
 a9 := Tryz.isAgg9
 z9 := Tryz.sizeOf9
 v9 := Tryz.zeroValue9
 t20 := Tryz.underlying20
 a20 := Tryz.isAgg20
 z20 := Tryz.sizeOf20
 v20 := Tryz.zeroValue20
 t22 := Tryz.underlying26
 a22 := Tryz.isAgg26
 z22 := Tryz.sizeOf26
 v22 := Tryz.zeroValue26 }
def Z0au : Entry Tryz.prog := ⟨240, ⟨[.val ty0, .val i64], [(ty0, .dp)], true, true, none, none, none⟩, [.v ty0, .v i64], I0, Z86 N, pk1 ty0, Y2f Tryz.func240 (code := Tryz.f240.body.getD .skip) (by kernel_rfl) (by kernel_rfl),
 fun s n q h => Ye8 (Ye9 lay_Grow (i0 := Tryz.t3) (z := (Tryz.t3.zero).getD default) (by kernel_rfl) (by kernel_rfl) (by kernel_rfl) (by kernel_rfl) (by kernel_rfl)) h⟩
def Z9a : Entry Tryz.prog := ⟨138, ⟨[.val ty0], [], true, false, none, none, none⟩, [.v ty0], I0, Z1b N, pk1 ty0, Y2f Tryz.func138 (code := Tryz.f138.body.getD .skip) (by kernel_rfl) (by kernel_rfl),
 fun s q h => Ye7 (Yea Tryz.lays189) h⟩
def Z0ac : Entry Tryz.prog := ⟨215, ⟨[.val ty0], [(ty0, .dp)], true, true, none, none, none⟩, [.v ty0], I0, Z6y N, pk1 ty0, Y2f Tryz.func215 (code := Tryz.f215.body.getD .skip) (by kernel_rfl) (by kernel_rfl),
 fun s q h => Yb5 (Yb6 Tryz.laysNm220) h⟩
def Z0ar : Entry Tryz.prog := ⟨218, ⟨[.val ty0, .val i64], [(ty0, .dp)], true, true, none, none, none⟩, [.v ty0, .v i64], I0, Z7b N, pk1 ty0, Y2f Tryz.func218 (code := Tryz.f218.body.getD .skip) (by kernel_rfl) (by kernel_rfl),
 fun s n q h => Ycr repeat_said h⟩
theorem Z0as : Bears Tryz.prog 164 (SlBodyN.n41 (renL 164 0 3 4 26 3)) := ⟨Tryz.f164.name, by kernel_rfl, Tryz.func164.trans (congrArg some (by kernel_rfl))⟩
def Z93 : Entry Tryz.prog := ⟨164, ⟨[.val ty0], [(ty0, .dp)], false, false, none, none, none⟩, [.v ty0], I0, Z1v N, pk1 ty0, Y2f Tryz.func164 (code := Tryz.f164.body.getD .skip) (by kernel_rfl) (by kernel_rfl),
 fun s q h => Ydd tab_ok mixed Z0as (by kernel_rfl) Tryz.underlying4 (te := ⟨3, i64, 8, [], false, false⟩) (by kernel_rfl) rfl rfl h⟩
namespace Z3e
def sG := sgV [.val ty1, .val i64] [(i64, .dp)]
def eS (N : Nat) : List EnTryz := []
def eE : EnTryz := ⟨111, sG, [.v ty1, .v i64], _, Z3e N, pk1 i64, enK Tryz.func111,
 fun a b => eo (eS N) Tryz.func111 N an0 (Y4 i64)⟩
end Z3e
namespace Z3r
def sG := sgV [.val ty2, .val i64] [(i64, .dp)]
def eS : List EnTryz := [Z3e.eE N]
def an_ : Nat -> Option (List Nat)
 | 0 => some [0, 1, 5]
 | _ => none
def lP (p : List Dir) := lpE (eS N) N an_ p Tryz.f54 (endK Tb sG Tryz.f54 [] (un1 i64))
def El0 (k_ : Nat) (a2 : R0) (a : Int) (i : Int) : Option (Int) :=
 lP N [.r, .r, .r, .l, .r, .b] [] k_ (cr ty2 a2 :: (cr i64 a :: (un 3 (cr i64 i :: (un 21 [])))))
theorem ql0 (N : Nat) : ∀ k_, El0 N k_ = Z3g N k_ := qL (Z5c N)
def eE : EnTryz := ⟨54, sG, [.v ty2, .v i64], _, Z3r N, pk1 i64, enK Tryz.func54,
 fun a c => eo (eS N) Tryz.func54 N an_ (Y4 i64) (tq (b := Z8t N (El0 N N) a c) (by rw [ql0]; rfl))⟩
end Z3r
namespace Z3l
def sG := sgV [.val ty0, .val i64] [(i64, .dp)]
def eS (N : Nat) : List EnTryz := []
def eE : EnTryz := ⟨57, sG, [.v ty0, .v i64], _, Z3l N, pk1 i64, enK Tryz.func57,
 fun a b => eo (eS N) Tryz.func57 N an0 (Y4 i64)⟩
end Z3l
namespace Z69
def sG := sgV [.val ty3, .val i64] [(i64, .dp)]
def eS : List EnTryz := [Z3l.eE N]
def eE : EnTryz := ⟨112, sG, [.v ty3, .v i64], _, Z69 N, pk1 i64, enK Tryz.func112,
 fun a b => eo (eS N) Tryz.func112 N an0 (Y4 i64)⟩
end Z69
namespace Z6f
def sG := sgV [.val ty4, .val i64] [(i64, .dp)]
def eS : List EnTryz := [Z69.eE N]
def an_ : Nat -> Option (List Nat)
 | 0 => some [0, 1, 5]
 | _ => none
def lP (p : List Dir) := lpE (eS N) N an_ p Tryz.f55 (endK Tb sG Tryz.f55 [] (un1 i64))
def El0 (k_ : Nat) (a2 : A0) (a : Int) (i : Int) : Option (Int) :=
 lP N [.r, .r, .r, .l, .r, .b] [] k_ (cr ty4 a2 :: (cr i64 a :: (un 3 (cr i64 i :: (un 21 [])))))
theorem ql0 (N : Nat) : ∀ k_, El0 N k_ = Z5d N k_ := qL (Z7p N)
def eE : EnTryz := ⟨55, sG, [.v ty4, .v i64], _, Z6f N, pk1 i64, enK Tryz.func55,
 fun a c => eo (eS N) Tryz.func55 N an_ (Y4 i64) (tq (b := Z9p N (El0 N N) a c) (by rw [ql0]; rfl))⟩
end Z6f
namespace Z49
def sG := sgV [.val ty5, .val i64] [(i64, .dp)]
def eS : List EnTryz := [Z3r.eE N, Z6f.eE N]
def eE : EnTryz := ⟨7, sG, [.v ty5, .v i64], _, Z49 N, pk1 i64, enK Tryz.func7,
 fun a b => eo (eS N) Tryz.func7 N an0 (Y4 i64)⟩
end Z49
namespace Z6a
def sG := sgV [.val ty3, .val i64] [(i64, .dp)]
def eS : List EnTryz := [Z3l.eE N]
def eE : EnTryz := ⟨113, sG, [.v ty3, .v i64], _, Z6a N, pk1 i64, enK Tryz.func113,
 fun a b => eo (eS N) Tryz.func113 N an0 (Y4 i64)⟩
end Z6a
namespace Z6g
def sG := sgV [.val ty6, .val i64] [(i64, .dp)]
def eS : List EnTryz := [Z6a.eE N]
def an_ : Nat -> Option (List Nat)
 | 0 => some [0, 1, 5]
 | _ => none
def lP (p : List Dir) := lpE (eS N) N an_ p Tryz.f56 (endK Tb sG Tryz.f56 [] (un1 i64))
def El0 (k_ : Nat) (a2 : A0) (a : Int) (i : Int) : Option (Int) :=
 lP N [.r, .r, .r, .l, .r, .b] [] k_ (cr ty6 a2 :: (cr i64 a :: (un 3 (cr i64 i :: (un 21 [])))))
theorem ql0 (N : Nat) : ∀ k_, El0 N k_ = Z5e N k_ := qL (Z7q N)
def eE : EnTryz := ⟨56, sG, [.v ty6, .v i64], _, Z6g N, pk1 i64, enK Tryz.func56,
 fun a c => eo (eS N) Tryz.func56 N an_ (Y4 i64) (tq (b := Z9q N (El0 N N) a c) (by rw [ql0]; rfl))⟩
end Z6g
namespace Z6h
def sG := sgV [.val ty7, .val i64] [(i64, .dp)]
def eS : List EnTryz := [Z6g.eE N, Z3l.eE N]
def eE : EnTryz := ⟨8, sG, [.v ty7, .v i64], _, Z6h N, pk1 i64, enK Tryz.func8,
 fun a b => eo (eS N) Tryz.func8 N an0 (Y4 i64)⟩
end Z6h
namespace Z4a
def sG := sgV [.val ty1] [(ty1, .dp)]
def eS (N : Nat) : List EnTryz := []
def eE : EnTryz := ⟨119, sG, [.v ty1], _, Z4a N, pk1 ty1, enK Tryz.func119,
 fun a => eo (eS N) Tryz.func119 N an0 (Y4 ty1)⟩
end Z4a
namespace Z3s
def sG := sgV [.val ty2] [(ty8, .dp)]
def eS : List EnTryz := [Z4a.eE N]
def an_ : Nat -> Option (List Nat)
 | 0 => some [0, 3, 4]
 | _ => none
def lP (p : List Dir) := lpE (eS N) N an_ p Tryz.f65 (endK Tb sG Tryz.f65 [] (un1 ty8))
def El0 (k_ : Nat) (a2 : R0) (a : R0) (i : Int) : Option R0 :=
 lP N [.r, .r, .l, .r, .b] [] k_ (cr ty2 a2 :: (un 2 (cd ty8 a :: (cr i64 i :: (un 18 [])))))
theorem ql0 (N : Nat) : ∀ k_, El0 N k_ = Z3h N k_ := qL (Z5f N)
def eE : EnTryz := ⟨65, sG, [.v ty2], _, Z3s N, pk1 ty8, enK Tryz.func65,
 fun a => eo (eS N) Tryz.func65 N an_ (Y4 ty8) (tq (b := Z8u N (El0 N N) a) (by rw [ql0]; rfl))⟩
end Z3s
namespace Z1p
def sG := sgV [.val ty0] [(ty0, .dp)]
def eS (N : Nat) : List EnTryz := []
def an_ : Nat -> Option (List Nat)
 | 0 => some [0, 3, 4]
 | _ => none
def lP (p : List Dir) := lpE (eS N) N an_ p Tryz.f11 (endK Tb sG Tryz.f11 [] (un1 ty0))
def El0 (k_ : Nat) (a2 : I0) (a : I0) (i : Int) : Option I0 :=
 lP N [.r, .r, .l, .r, .b] [] k_ (cr ty0 a2 :: (un 2 (cd ty0 a :: (cr i64 i :: (un 17 [])))))
theorem ql0 (N : Nat) : ∀ k_, El0 N k_ = Z6d N k_ := qL (Z87 N)
def eE : EnTryz := ⟨11, sG, [.v ty0], _, Z1p N, pk1 ty0, enK Tryz.func11,
 fun a => eo (eS N) Tryz.func11 N an_ (Y4 ty0) (tq (b := Z9z N (El0 N N) a) (by rw [ql0]; rfl))⟩
end Z1p
namespace Z7c
def sG := sgV [.val ty3] [(ty3, .dp)]
def eS : List EnTryz := [Z1p.eE N]
def eE : EnTryz := ⟨120, sG, [.v ty3], _, Z7c N, pk1 ty3, enK Tryz.func120,
 fun a => eo (eS N) Tryz.func120 N an0 (Y4 ty3)⟩
end Z7c
namespace Z6i
def sG := sgV [.val ty4] [(ty9, .dp)]
def eS : List EnTryz := [Z7c.eE N]
def an_ : Nat -> Option (List Nat)
 | 0 => some [0, 3, 4]
 | _ => none
def lP (p : List Dir) := lpE (eS N) N an_ p Tryz.f66 (endK Tb sG Tryz.f66 [] (un1 ty9))
def El0 (k_ : Nat) (a2 : A0) (a : A0) (i : Int) : Option A0 :=
 lP N [.r, .r, .l, .r, .b] [] k_ (cr ty4 a2 :: (un 2 (cd ty9 a :: (cr i64 i :: (un 18 [])))))
theorem ql0 (N : Nat) : ∀ k_, El0 N k_ = Z5g N k_ := qL (Z7r N)
def eE : EnTryz := ⟨66, sG, [.v ty4], _, Z6i N, pk1 ty9, enK Tryz.func66,
 fun a => eo (eS N) Tryz.func66 N an_ (Y4 ty9) (tq (b := Z9r N (El0 N N) a) (by rw [ql0]; rfl))⟩
end Z6i
namespace Z2r
def sG := sgV [.val ty5] [(ty10, .dp)]
def eS : List EnTryz := [Z3s.eE N, Z6i.eE N]
def eE : EnTryz := ⟨10, sG, [.v ty5], _, Z2r N, pk1 ty10, enK Tryz.func10,
 fun a => eo (eS N) Tryz.func10 N an0 (Y4 ty10)⟩
end Z2r
namespace Z7d
def sG := sgV [.val ty3] [(ty3, .dp)]
def eS : List EnTryz := [Z1p.eE N]
def eE : EnTryz := ⟨121, sG, [.v ty3], _, Z7d N, pk1 ty3, enK Tryz.func121,
 fun a => eo (eS N) Tryz.func121 N an0 (Y4 ty3)⟩
end Z7d
namespace Z6j
def sG := sgV [.val ty6] [(ty11, .dp)]
def eS : List EnTryz := [Z7d.eE N]
def an_ : Nat -> Option (List Nat)
 | 0 => some [0, 3, 4]
 | _ => none
def lP (p : List Dir) := lpE (eS N) N an_ p Tryz.f67 (endK Tb sG Tryz.f67 [] (un1 ty11))
def El0 (k_ : Nat) (a2 : A0) (a : A0) (i : Int) : Option A0 :=
 lP N [.r, .r, .l, .r, .b] [] k_ (cr ty6 a2 :: (un 2 (cd ty11 a :: (cr i64 i :: (un 18 [])))))
theorem ql0 (N : Nat) : ∀ k_, El0 N k_ = Z5h N k_ := qL (Z7s N)
def eE : EnTryz := ⟨67, sG, [.v ty6], _, Z6j N, pk1 ty11, enK Tryz.func67,
 fun a => eo (eS N) Tryz.func67 N an_ (Y4 ty11) (tq (b := Z9s N (El0 N N) a) (by rw [ql0]; rfl))⟩
end Z6j
namespace Z4b
def sG := sgV [.val ty7] [(ty12, .dp)]
def eS : List EnTryz := [Z6j.eE N, Z1p.eE N]
def eE : EnTryz := ⟨12, sG, [.v ty7], _, Z4b N, pk1 ty12, enK Tryz.func12,
 fun a => eo (eS N) Tryz.func12 N an0 (Y4 ty12)⟩
end Z4b
namespace Z0s
def sG := sgV [.val i64, .val i64, .val i64] [(.bool, .dp)]
def eS (N : Nat) : List EnTryz := []
def eE : EnTryz := ⟨114, sG, [.v i64, .v i64, .v i64], _, Z0s N, pk1 .bool, enK Tryz.func114,
 fun x a b => eo (eS N) Tryz.func114 N an0 (Y4 .bool)⟩
end Z0s
namespace Z5
def sG := sgV [.val ty1] [(.bool, .dp)]
def eS : List EnTryz := [Z0s.eE N]
def eE : EnTryz := ⟨147, sG, [.v ty1], _, Z5 N, pk1 .bool, enK Tryz.func147,
 fun s => eo (eS N) Tryz.func147 N an0 (Y4 .bool)⟩
end Z5
namespace Z0d
def sG := sgV [.val ty8] [(.bool, .dp)]
def eS : List EnTryz := [Z5.eE N]
def an_ : Nat -> Option (List Nat)
 | 0 => some [0, 3]
 | _ => none
def lP (p : List Dir) := lpE (eS N) N an_ p Tryz.f92 (endK Tb sG Tryz.f92 [] (un1 .bool))
def El0 (k_ : Nat) (l2 : R0) (i : Int) : Option (Bool) :=
 lP N [.r, .l, .r, .b] [] k_ (cr ty8 l2 :: (un 2 (cr i64 i :: (un 33 []))))
theorem ql0 (N : Nat) : ∀ k_, El0 N k_ = Z0l N k_ := qL (Z1i N)
def eE : EnTryz := ⟨92, sG, [.v ty8], _, Z0d N, pk1 .bool, enK Tryz.func92,
 fun l => eo (eS N) Tryz.func92 N an_ (Y4 .bool) (tq (b := Z4c N (El0 N N) l) (by rw [ql0]; rfl))⟩
end Z0d
namespace Z16
def sG := sgV [.val ty8, .val ty3] [(.bool, .dp)]
def eS : List EnTryz := [Z0s.eE N, Z0d.eE N]
def an_ : Nat -> Option (List Nat)
 | 0 => some [3, 5]
 | _ => none
def lP (p : List Dir) := lpE (eS N) N an_ p Tryz.f90 (endK Tb sG Tryz.f90 [] (un1 .bool))
def El0 (k_ : Nat) (f2 : Int) (f3 : I0) (i : Int) : Option (Bool) :=
 lP N [.r, .r, .l, .r, .b] [] k_ (un 3 (.con (.box ⟨110, false, []⟩) [lf i64 f2 .ro, lf ty0 f3 .ro] :: (un 1 (cr i64 i :: (un 38 [])))))
theorem ql0 (N : Nat) : ∀ k_, El0 N k_ = Z3i N k_ := qL (Z5i N)
def eE : EnTryz := ⟨90, sG, [.v ty8, .v ty3], _, Z16 N, pk1 .bool, enK Tryz.func90,
 fun l f => eo (eS N) Tryz.func90 N an_ (Y4 .bool) (tq (b := Z8v N (El0 N N) l f) (by rw [ql0]; rfl))⟩
end Z16
namespace Z6b
def sG := sgV [.val ty0, .val ty0] [(i64, .dp)]
def eS (N : Nat) : List EnTryz := []
def an_ : Nat -> Option (List Nat)
 | 0 => some [0, 1, 5]
 | _ => none
def lP (p : List Dir) := lpE (eS N) N an_ p Tryz.f146 (endK Tb sG Tryz.f146 [] (un1 i64))
def El0 (k_ : Nat) (a2 : I0) (b2 : I0) (i : Int) : Option (Int) :=
 lP N [.r, .l, .r, .b] [] k_ (cr ty0 a2 :: (cr ty0 b2 :: (un 3 (cr i64 i :: (un 40 [])))))
theorem ql0 (N : Nat) : ∀ k_, El0 N k_ = Z4s N k_ := qL (Z6k N)
def eE : EnTryz := ⟨146, sG, [.v ty0, .v ty0], _, Z6b N, pk1 i64, enK Tryz.func146,
 fun a b => eo (eS N) Tryz.func146 N an_ (Y4 i64) (tq (b := Z0bh N (El0 N N) a b) (by rw [ql0]; rfl))⟩
end Z6b
namespace Z3a
def sG := sgV [.val ty3, .val ty3] [(i64, .dp)]
def eS : List EnTryz := [Z6b.eE N]
def eE : EnTryz := ⟨91, sG, [.v ty3, .v ty3], _, Z3a N, pk1 i64, enK Tryz.func91,
 fun a b => eo (eS N) Tryz.func91 N an0 (Y4 i64)⟩
end Z3a
namespace Z0
def sG := sgV [.val ty10] [(.bool, .dp)]
def eS : List EnTryz := [Z16.eE N, Z3a.eE N, Z0d.eE N]
def an_ : Nat -> Option (List Nat)
 | 0 => some [1, 3]
 | _ => none
def lP (p : List Dir) := lpE (eS N) N an_ p Tryz.f35 (endK Tb sG Tryz.f35 [] (un1 .bool))
def El0 (k_ : Nat) (d2 : R0) (d3 : A0) (i : Int) : Option (Bool) :=
 lP N [.r, .l, .r, .b] [] k_ (un 1 (.con (.box ⟨39, false, []⟩) [lf ty8 d2 .ro, lf ty9 d3 .ro] :: (un 1 (cr i64 i :: (un 44 [])))))
theorem ql0 (N : Nat) : ∀ k_, El0 N k_ = Z22 N k_ := qL (Z45 N)
def eE : EnTryz := ⟨35, sG, [.v ty10], _, Z0 N, pk1 .bool, enK Tryz.func35,
 fun d => eo (eS N) Tryz.func35 N an_ (Y4 .bool) (tq (b := Z7e N (El0 N N) d) (by rw [ql0]; rfl))⟩
end Z0
namespace Z3b
def sG := sgV [.val ty8, .val ty12] [(.bool, .dp)]
def eS : List EnTryz := [Z0s.eE N, Z0d.eE N]
def an_ : Nat -> Option (List Nat)
 | 0 => some [0, 3, 5, 6]
 | 2 => some [0, 3, 5, 6, 7, 8]
 | 4 => some [0, 3, 5, 6, 7, 9]
 | 6 => some [3, 5, 10]
 | 8 => some [3, 11]
 | _ => none
def lP (p : List Dir) := lpE (eS N) N an_ p Tryz.f105 (endK Tb sG Tryz.f105 [] (un1 .bool))
def El2 (a : Nat) (k_ : Nat) (l4 : R0) (q8 : Int) (q9 : A0) (c : I0) (d : List Bool) (i3 : Int) (a3 : Int) (a4 : I0) (k2 : Int) : Option (Bool) :=
 lP N [.r, .r, .r, .l, .r, .b, .b, .r, .l, .b, .r, .r, .r, .r, .b] [lP N [.r, .r, .r, .l, .r, .b] [] a] k_ (cr ty8 l4 :: (un 2 (.con (.box ⟨44, false, []⟩) [lf i64 q8 .ro, lf ty11 q9 .ro, lf ty0 c .ro] :: (un 1 (cd ty13 d :: (cr i64 i3 :: (.con (.box ⟨145, false, []⟩) [lf i64 a3 .ro, lf ty0 a4 .ro] :: (un 1 (cr i64 k2 :: (un 140 []))))))))))
def El1 (c : Nat) (k_ : Nat) (l3 : R0) (q5 : Int) (q6 : A0) (q7 : I0) (d : List Bool) (i2 : Int) (a : Int) (a2 : I0) (k : Int) : Option (Bool) :=
 lP N [.r, .r, .r, .l, .r, .b, .b, .r, .l, .b, .r, .r, .l, .r, .b] [lP N [.r, .r, .r, .l, .r, .b] [] c] k_ (cr ty8 l3 :: (un 2 (.con (.box ⟨44, false, []⟩) [lf i64 q5 .ro, lf ty11 q6 .ro, lf ty0 q7 .ro] :: (un 1 (cd ty13 d :: (cr i64 i2 :: (.con (.box ⟨145, false, []⟩) [lf i64 a .ro, lf ty0 a2 .ro] :: (cr i64 k :: (un 141 [])))))))))
def El4 (k_ : Nat) (a : Int) (c : A0) (d : I0) (i4 : Int) : Option (Bool) :=
 lP N [.r, .r, .r, .r, .r, .l, .r, .b] [] k_ (un 3 (.con (.box ⟨44, false, []⟩) [lf i64 a .ro, lf ty11 c .ro, lf ty0 d .ro] :: (un 7 (cr i64 i4 :: (un 138 [])))))
def El3 (k_ : Nat) (a : Int) (c : A0) (d : I0) (e : List Bool) (v : Int) : Option (Bool) :=
 lP N [.r, .r, .r, .r, .l, .r, .b] [] k_ (un 3 (.con (.box ⟨44, false, []⟩) [lf i64 a .ro, lf ty11 c .ro, lf ty0 d .ro] :: (un 1 (cd ty13 e :: (un 4 (cr i64 v :: (un 139 [])))))))
def El0 (k_ : Nat) (l2 : R0) (q2 : Int) (q3 : A0) (q4 : I0) (a : List Bool) (i : Int) : Option (Bool) :=
 lP N [.r, .r, .r, .l, .r, .b] [] k_ (cr ty8 l2 :: (un 2 (.con (.box ⟨44, false, []⟩) [lf i64 q2 .ro, lf ty11 q3 .ro, lf ty0 q4 .ro] :: (un 1 (cd ty13 a :: (cr i64 i :: (un 143 [])))))))
theorem ql2 (N : Nat) (k0_ : Nat) : ∀ k_, El2 N k0_ k_ = Z1m (El0 N k0_) N k_ := qL (Z7f N (El0 N k0_))
theorem ql1 (N : Nat) (k0_ : Nat) : ∀ k_, El1 N k0_ k_ = Z2a (El0 N k0_) N k_
 | 0 => by kernel_rfl
 | k_ + 1 => (show El1 N k0_ (k_ + 1) = Z4z N (El0 N k0_) (El2 N k0_ N) (El1 N k0_ k_) from by kernel_rfl).trans (by simp only [ql2, ql1 N k0_ k_]; rfl)
theorem ql4 (N : Nat) : ∀ k_, El4 N k_ = Z2b N k_ := qL (Z50 N)
theorem ql3 (N : Nat) : ∀ k_, El3 N k_ = Z2c N k_
 | 0 => by kernel_rfl
 | k_ + 1 => (show El3 N (k_ + 1) = Z51 N (El4 N N) (El3 N k_) from by kernel_rfl).trans (by simp only [ql4, ql3 N k_]; rfl)
theorem ql0 (N : Nat) : ∀ k_, El0 N k_ = Z33 N k_
 | 0 => by kernel_rfl
 | k_ + 1 => (show El0 N (k_ + 1) = Z7g N (El1 N k_ N) (El3 N N) (El0 N k_) from by kernel_rfl).trans (by simp only [ql1, ql3, ql0 N k_]; rfl)
def eE : EnTryz := ⟨105, sG, [.v ty8, .v ty12], _, Z3b N, pk1 .bool, enK Tryz.func105,
 fun l q => eo (eS N) Tryz.func105 N an_ (Y4 .bool) (tq (b := Z8h N (El0 N N) l q) (by rw [ql0]; rfl))⟩
end Z3b
namespace Z0u
def sG := sgV [.val ty10, .val ty12] [(.bool, .dp)]
def eS : List EnTryz := [Z0.eE N, Z3b.eE N]
def eE : EnTryz := ⟨49, sG, [.v ty10, .v ty12], _, Z0u N, pk1 .bool, enK Tryz.func49,
 fun d q => eo (eS N) Tryz.func49 N an0 (Y4 .bool)⟩
end Z0u
namespace Z0o
def sG := sgV [.val ty10, .val ty0] [(.bool, .dp)]
def eS : List EnTryz := [Z0s.eE N, Z0.eE N]
def an_ : Nat -> Option (List Nat)
 | 0 => some [1, 2, 5]
 | _ => none
def lP (p : List Dir) := lpE (eS N) N an_ p Tryz.f58 (endK Tb sG Tryz.f58 [] (un1 .bool))
def El0 (k_ : Nat) (w2 : I0) (d2 : R0) (d3 : A0) (i : Int) : Option (Bool) :=
 lP N [.r, .l, .r, .b] [] k_ (un 1 (cr ty0 w2 :: (.con (.box ⟨39, false, []⟩) [lf ty8 d2 .ro, lf ty9 d3 .ro] :: (un 2 (cr i64 i :: (un 22 []))))))
theorem ql0 (N : Nat) : ∀ k_, El0 N k_ = Z23 N k_ := qL (Z46 N)
def eE : EnTryz := ⟨58, sG, [.v ty10, .v ty0], _, Z0o N, pk1 .bool, enK Tryz.func58,
 fun d w => eo (eS N) Tryz.func58 N an_ (Y4 .bool) (tq (b := Z7h N (El0 N N) d w) (by rw [ql0]; rfl))⟩
end Z0o
namespace Z74
def sG := sgV [.val ty8, .val ty3] [(ty0, .dp)]
def eS : List EnTryz := [Z16.eE N]
def eE : EnTryz := ⟨149, sG, [.v ty8, .v ty3], _, Z74 N, pk1 ty0, enK Tryz.func149,
 fun l f => eo (eS N) Tryz.func149 N an0 (Y4 ty0)⟩
end Z74
namespace Z3t
def sG := sgV [.val ty8, .val ty3, .val ty3] [(.bool, .dp)]
def eS : List EnTryz := [Z16.eE N, Z74.eE N, Z6b.eE N]
def eE : EnTryz := ⟨94, sG, [.v ty8, .v ty3, .v ty3], _, Z3t N, pk1 .bool, enK Tryz.func94,
 fun l a b => eo (eS N) Tryz.func94 N an0 (Y4 .bool)⟩
end Z3t
namespace Z7x
def sG := sgV [.val ty10, .val i64] [(ty0, .dp)]
def eS : List EnTryz := [Z0.eE N, Z0s.eE N, Z3t.eE N]
def an_ : Nat -> Option (List Nat)
 | 0 => some [1, 2, 5, 6]
 | _ => none
def lP (p : List Dir) := lpE (eS N) N an_ p Tryz.f96 (endK Tb sG Tryz.f96 [] (un1 ty0))
def El0 (k_ : Nat) (i2 : Int) (d2 : R0) (d3 : A0) (a : I0) (k : Int) : Option I0 :=
 lP N [.r, .r, .l, .r, .b] [] k_ (un 1 (cr i64 i2 :: (.con (.box ⟨39, false, []⟩) [lf ty8 d2 .ro, lf ty9 d3 .ro] :: (un 2 (cd ty0 a :: (cr i64 k :: (un 38 [])))))))
theorem ql0 (N : Nat) : ∀ k_, El0 N k_ = Z5j N k_ := qL (Z7t N)
def eE : EnTryz := ⟨96, sG, [.v ty10, .v i64], _, Z7x N, pk1 ty0, enK Tryz.func96,
 fun d i => eo (eS N) Tryz.func96 N an_ (Y4 ty0) (tq (b := Z0b0 N (El0 N N) d i) (by rw [ql0]; rfl))⟩
end Z7x
namespace Z1f
def sG := sgV [.val ty10] [(ty14, .dp)]
def eS : List EnTryz := [Z0.eE N, Z7x.eE N]
def an_ : Nat -> Option (List Nat)
 | 0 => some [1, 3, 4]
 | _ => none
def lP (p : List Dir) := lpE (eS N) N an_ p Tryz.f38 (endK Tb sG Tryz.f38 [] (un1 ty14))
def El0 (k_ : Nat) (d2 : R0) (d3 : A0) (a : L0) (i : Int) : Option L0 :=
 lP N [.r, .r, .l, .r, .b] [] k_ (un 1 (.con (.box ⟨39, false, []⟩) [lf ty8 d2 .ro, lf ty9 d3 .ro] :: (un 1 (cd ty14 a :: (cr i64 i :: (un 26 []))))))
theorem ql0 (N : Nat) : ∀ k_, El0 N k_ = Z4t N k_ := qL (Z6l N)
def eE : EnTryz := ⟨38, sG, [.v ty10], _, Z1f N, pk1 ty14, enK Tryz.func38,
 fun d => eo (eS N) Tryz.func38 N an_ (Y4 ty14) (tq (b := Z0a1 N (El0 N N) d) (by rw [ql0]; rfl))⟩
end Z1f
namespace Z55
def sG := sgV [.val i64] [(ty0, .dp)]
def eS (N : Nat) : List EnTryz := []
def an_ : Nat -> Option (List Nat)
 | 0 => some [0, 3]
 | _ => none
def lP (p : List Dir) := lpE (eS N) N an_ p Tryz.f152 (endK Tb sG Tryz.f152 [] (un1 ty0))
def El0 (k_ : Nat) (n2 : Int) (l : I0) : Option I0 :=
 lP N [.r, .r, .l, .b] [] k_ (cr i64 n2 :: (un 2 (cd ty0 l :: (un 9 []))))
theorem ql0 (N : Nat) : ∀ k_, El0 N k_ = Z75 N k_ := qL (Z94 N)
def eE : EnTryz := ⟨152, sG, [.v i64], _, Z55 N, pk1 ty0, enK Tryz.func152,
 fun n => eo (eS N) Tryz.func152 N an_ (Y4 ty0) (tq (b := Z9t N (El0 N N) n) (by rw [ql0]; rfl))⟩
end Z55
namespace Z6m
def sG := sgV [.val ty3, .val ty3, .val ty0] [(ty0, .dp), (.bool, .dp)]
def eS (N : Nat) : List EnTryz := []
def an_ : Nat -> Option (List Nat)
 | 0 => some [3, 4, 8, 9]
 | _ => none
def lP (p : List Dir) := lpE (eS N) N an_ p Tryz.f194 (endK Tb sG Tryz.f194 [] (un2 ty0 .bool))
def El0 (k_ : Nat) (a2 : Int) (a3 : I0) (f2 : Int) (f3 : I0) (x : I0) (i : Int) : Option (List Int × Bool) :=
 lP N [.r, .r, .r, .l, .r, .b] [] k_ (un 3 (.con (.box ⟨145, false, []⟩) [lf i64 a2 .ro, lf ty0 a3 .ro] :: (.con (.box ⟨110, false, []⟩) [lf i64 f2 .ro, lf ty0 f3 .ro] :: (un 3 (cd ty0 x :: (cr i64 i :: (un 69 [])))))))
theorem ql0 (N : Nat) : ∀ k_, El0 N k_ = Z76 N k_ := qL (Z95 N)
def eE : EnTryz := ⟨194, sG, [.v ty3, .v ty3, .v ty0], _, Z6m N, pk2 ty0 .bool, enK Tryz.func194,
 fun a f c => eo (eS N) Tryz.func194 N an_ (Y45 ty0 .bool) (tq (b := Z9u N (El0 N N) a f c) (by rw [ql0]; rfl))⟩
end Z6m
namespace Z7y
def sG := sgV [.val ty10, .val ty12, .val i64, .val ty0, .val ty0] [(ty15, .dp)]
theorem eN : Enterable Tryz.prog 151 := Y2f Tryz.func151 (code := Tryz.f151.body.getD .skip) (by kernel_rfl) (by kernel_rfl)
def eS (Rf : D0 -> Q0 -> Int -> I0 -> I0 -> Option (List (List Int × List Int))) (hR : OkP (Option (List (List Int × List Int))) [.v ty10, .v ty12, .v i64, .v ty0, .v ty0] Rf (fun xs_ q => ∀ x, q = some x -> FnOk Tryz.prog 151 sG xs_ (pk1 ty15 x))) : List EnTryz := [Z6m.eE N, ⟨151, sG, [.v ty10, .v ty12, .v i64, .v ty0, .v ty0], List (List Int × List Int), Rf, pk1 ty15, eN, hR⟩]
def an_ : Nat -> Option (List Nat)
 | 0 => some [2, 3, 4, 5, 6, 11, 12]
 | _ => none
def lP (Rf : D0 -> Q0 -> Int -> I0 -> I0 -> Option (List (List Int × List Int))) (hR : OkP (Option (List (List Int × List Int))) [.v ty10, .v ty12, .v i64, .v ty0, .v ty0] Rf (fun xs_ q => ∀ x, q = some x -> FnOk Tryz.prog 151 sG xs_ (pk1 ty15 x))) (p : List Dir) := lpE (eS N Rf hR) N an_ p Tryz.f151 (endK Tb sG Tryz.f151 [] (un1 ty15))
def El0 (Rf : D0 -> Q0 -> Int -> I0 -> I0 -> Option (List (List Int × List Int))) (hR : OkP (Option (List (List Int × List Int))) [.v ty10, .v ty12, .v i64, .v ty0, .v ty0] Rf (fun e q => ∀ x, q = some x -> FnOk Tryz.prog 151 sG e (pk1 ty15 x))) (k_ : Nat) (k2 : Int) (a : I0) (c : I0) (d2 : R0) (d3 : A0) (q2 : Int) (q3 : A0) (q4 : I0) (d : List (List Int × List Int)) (i : Int) : Option (List (List Int × List Int)) :=
 lP N Rf hR [.r, .r, .r, .l, .r, .b] [] k_ (un 2 (cr i64 k2 :: (cr ty0 a :: (cr ty0 c :: (.con (.box ⟨39, false, []⟩) [lf ty8 d2 .ro, lf ty9 d3 .ro] :: (.con (.box ⟨44, false, []⟩) [lf i64 q2 .ro, lf ty11 q3 .ro, lf ty0 q4 .ro] :: (un 4 (cd ty15 d :: (cr i64 i :: (un 54 []))))))))))
theorem ql0 (N : Nat) (Rf : D0 -> Q0 -> Int -> I0 -> I0 -> Option (List (List Int × List Int))) (hR : OkP (Option (List (List Int × List Int))) [.v ty10, .v ty12, .v i64, .v ty0, .v ty0] Rf (fun xs_ q => ∀ x, q = some x -> FnOk Tryz.prog 151 sG xs_ (pk1 ty15 x))) : ∀ k_, El0 N Rf hR k_ = Z77 N Rf k_
 | 0 => by kernel_rfl
 | k_ + 1 => (show El0 N Rf hR (k_ + 1) = Z96 N Rf (El0 N Rf hR k_) from by kernel_rfl).trans (by simp only [ql0 N Rf hR k_]; rfl)
theorem vV (Rf : D0 -> Q0 -> Int -> I0 -> I0 -> Option (List (List Int × List Int))) (hR : OkP (Option (List (List Int × List Int))) [.v ty10, .v ty12, .v i64, .v ty0, .v ty0] Rf (fun xs_ q => ∀ x, q = some x -> FnOk Tryz.prog 151 sG xs_ (pk1 ty15 x))) (d : D0) (q : Q0) (k : Int) (vals : I0) (facts : I0) :
  evE (eS N Rf hR) N an_ sG Tryz.f151 [.val ty10 d, .val ty12 q, .val i64 k, .val ty0 vals, .val ty0 facts] (un1 ty15) = Z92 N Rf (El0 N Rf hR N) d q k vals facts := by kernel_rfl
theorem oK (N : Nat) : ∀ k_, OkP (Option (List (List Int × List Int))) [.v ty10, .v ty12, .v i64, .v ty0, .v ty0] (Z34 N k_) (fun xs_ q => ∀ x, q = some x -> FnOk Tryz.prog 151 sG xs_ (pk1 ty15 x))
 | 0 => fun d q k vals facts =>  fun x h => absurd (show (none : Option (List (List Int × List Int))) = some x from h) (by simp)
 | k_ + 1 => fun d q k vals facts => Y50 tab_ok (es := eS N (Z34 N k_) (oK N k_)) (by kernel_rfl) mixed Tryz.func151 (by kernel_rfl) ⟨⟨rfl, rfl⟩, rfl, rfl⟩ (Y4 ty15) ((vV N _ _ d q k vals facts).trans (by rw [ql0]; rfl))
def eE : EnTryz := ⟨151, sG, [.v ty10, .v ty12, .v i64, .v ty0, .v ty0], List (List Int × List Int), Z7y N, pk1 ty15, eN, oK N N⟩
end Z7y
namespace Z2p
def sG := sgV [.val ty10, .val ty12] [(ty15, .dp)]
def eS : List EnTryz := [Z0u.eE N, Z55.eE N, Z7y.eE N]
def eE : EnTryz := ⟨97, sG, [.v ty10, .v ty12], _, Z2p N, pk1 ty15, enK Tryz.func97,
 fun d q => eo (eS N) Tryz.func97 N an0 (Y4 ty15)⟩
end Z2p
namespace Z17
def sG := sgV [.val ty0] [(ty0, .dp)]
def eS (N : Nat) : List EnTryz := []
def an_ : Nat -> Option (List Nat)
 | 0 => some [0, 3, 4]
 | 2 => some [0, 3, 4, 5]
 | _ => none
def lP (p : List Dir) := lpE (eS N) N an_ p Tryz.f60 (endK Tb sG Tryz.f60 [] (un1 ty0))
def El1 (a : Nat) (k_ : Nat) (l3 : I0) (c : I0) (i2 : Int) (k : Int) : Option I0 :=
 lP N [.r, .r, .l, .r, .b, .b, .r, .l, .b, .r, .l, .b] [lP N [.r, .r, .l, .r, .b] [] a] k_ (cr ty0 l3 :: (un 2 (cd ty0 c :: (cr i64 i2 :: (cr i64 k :: (un 41 []))))))
def El0 (k_ : Nat) (l2 : I0) (a : I0) (i : Int) : Option I0 :=
 lP N [.r, .r, .l, .r, .b] [] k_ (cr ty0 l2 :: (un 2 (cd ty0 a :: (cr i64 i :: (un 42 [])))))
theorem ql1 (N : Nat) (k0_ : Nat) : ∀ k_, El1 N k0_ k_ = Z2d (El0 N k0_) N k_ := qL (Z3v N (El0 N k0_))
theorem ql0 (N : Nat) : ∀ k_, El0 N k_ = Z0w N k_
 | 0 => by kernel_rfl
 | k_ + 1 => (show El0 N (k_ + 1) = Z56 N (El1 N k_ N) (El0 N k_) from by kernel_rfl).trans (by simp only [ql1, ql0 N k_]; rfl)
def eE : EnTryz := ⟨60, sG, [.v ty0], _, Z17 N, pk1 ty0, enK Tryz.func60,
 fun l => eo (eS N) Tryz.func60 N an_ (Y4 ty0) (tq (b := Z8o N (El0 N N) l) (by rw [ql0]; rfl))⟩
end Z17
namespace Z5w
def sG := sgV [.val ty10, .val ty0] [(.bool, .dp)]
def eS : List EnTryz := [Z0s.eE N]
def an_ : Nat -> Option (List Nat)
 | 0 => some [1, 2, 5]
 | _ => none
def lP (p : List Dir) := lpE (eS N) N an_ p Tryz.f116 (endK Tb sG Tryz.f116 [] (un1 .bool))
def El0 (k_ : Nat) (l2 : I0) (d2 : R0) (d3 : A0) (i : Int) : Option (Bool) :=
 lP N [.r, .l, .r, .b] [] k_ (un 1 (cr ty0 l2 :: (.con (.box ⟨39, false, []⟩) [lf ty8 d2 .ro, lf ty9 d3 .ro] :: (un 2 (cr i64 i :: (un 32 []))))))
theorem ql0 (N : Nat) : ∀ k_, El0 N k_ = Z72 N k_ := qL (Z8p N)
def eE : EnTryz := ⟨116, sG, [.v ty10, .v ty0], _, Z5w N, pk1 .bool, enK Tryz.func116,
 fun d l => eo (eS N) Tryz.func116 N an_ (Y4 .bool) (tq (b := Z0af N (El0 N N) d l) (by rw [ql0]; rfl))⟩
end Z5w
namespace Z1q
def sG := sgV [.val ty10, .val ty0] [(ty10, .dp), (.bool, .dp)]
def eS : List EnTryz := [Z0.eE N, Z5w.eE N]
def an_ : Nat -> Option (List Nat)
 | 0 => some [1, 2, 4, 6, 7]
 | _ => none
def lP (p : List Dir) := lpE (eS N) N an_ p Tryz.f61 (endK Tb sG Tryz.f61 [] (un2 ty10 .bool))
def El0 (k_ : Nat) (l2 : I0) (d2 : R0) (d3 : A0) (t4 : R0) (a : A0) (x : R0) (x2 : A0) (i : Int) : Option (D0 × Bool) :=
 lP N [.r, .r, .r, .l, .r, .b] [] k_ (un 1 (cr ty0 l2 :: (.con (.box ⟨39, false, []⟩) [lf ty8 d2 .ro, lf ty9 d3 .ro] :: (un 1 (.con (.box ⟨39, false, []⟩) [lf ty8 t4 .dp, lf ty9 a .dp] :: (un 1 (.con (.box ⟨39, false, []⟩) [lf ty8 x .dp, lf ty9 x2 .dp] :: (cr i64 i :: (un 43 [])))))))))
theorem ql0 (N : Nat) : ∀ k_, El0 N k_ = Z4r N k_ := qL (Z7z N)
def eE : EnTryz := ⟨61, sG, [.v ty10, .v ty0], _, Z1q N, pk2 ty10 .bool, enK Tryz.func61,
 fun d l => eo (eS N) Tryz.func61 N an_ (Y45 ty10 .bool) (tq (b := Z8w N (El0 N N) d l) (by rw [ql0]; rfl))⟩
end Z1q
namespace Z4j
def sG := sgV [.val ty10] [(.bool, .dp)]
def eS : List EnTryz := [Z0.eE N, Z1f.eE N]
def eE : EnTryz := ⟨198, sG, [.v ty10], _, Z4j N, pk1 .bool, enK Tryz.func198,
 fun d => eo (eS N) Tryz.func198 N an0 (Y4 .bool)⟩
end Z4j
namespace Z1n
def sG := sgV [.val ty10, .val ty0] [(.bool, .dp)]
def eS : List EnTryz := [Z1q.eE N, Z4j.eE N]
def eE : EnTryz := ⟨156, sG, [.v ty10, .v ty0], _, Z1n N, pk1 .bool, enK Tryz.func156,
 fun d l => eo (eS N) Tryz.func156 N an0 (Y4 .bool)⟩
end Z1n
namespace Z2k
def sG := sgV [.val ty10, .val ty12] [(ty14, .dp)]
def eS : List EnTryz := [Z17.eE N, Z1n.eE N, Z2p.eE N]
def an_ : Nat -> Option (List Nat)
 | 0 => some [2, 5, 6, 7]
 | _ => none
def lP (p : List Dir) := lpE (eS N) N an_ p Tryz.f100 (endK Tb sG Tryz.f100 [] (un1 ty14))
def El0 (k_ : Nat) (d2 : R0) (d3 : A0) (a : L0) (l : List (List Int × List Int)) (i : Int) : Option L0 :=
 lP N [.r, .r, .r, .l, .r, .b] [] k_ (un 2 (.con (.box ⟨39, false, []⟩) [lf ty8 d2 .ro, lf ty9 d3 .ro] :: (un 2 (cd ty14 a :: (cd ty15 l :: (cr i64 i :: (un 25 [])))))))
theorem ql0 (N : Nat) : ∀ k_, El0 N k_ = Z5u N k_ := qL (Z8i N)
def eE : EnTryz := ⟨100, sG, [.v ty10, .v ty12], _, Z2k N, pk1 ty14, enK Tryz.func100,
 fun d q => eo (eS N) Tryz.func100 N an_ (Y4 ty14) (tq (b := Z9b N (El0 N N) d q) (by rw [ql0]; rfl))⟩
end Z2k
namespace Z5x
def sG := sgV [.val ty0, .val i64] [(.bool, .dp)]
def eS (N : Nat) : List EnTryz := []
def an_ : Nat -> Option (List Nat)
 | 0 => some [0, 1, 5]
 | _ => none
def lP (p : List Dir) := lpE (eS N) N an_ p Tryz.f169 (endK Tb sG Tryz.f169 [] (un1 .bool))
def El0 (k_ : Nat) (l2 : I0) (x2 : Int) (i : Int) : Option (Bool) :=
 lP N [.r, .l, .r, .b] [] k_ (cr ty0 l2 :: (cr i64 x2 :: (un 3 (cr i64 i :: (un 12 [])))))
theorem ql0 (N : Nat) : ∀ k_, El0 N k_ = Z73 N k_ := qL (Z8q N)
def eE : EnTryz := ⟨169, sG, [.v ty0, .v i64], _, Z5x N, pk1 .bool, enK Tryz.func169,
 fun l x => eo (eS N) Tryz.func169 N an_ (Y4 .bool) (tq (b := Z0ag N (El0 N N) l x) (by rw [ql0]; rfl))⟩
end Z5x
namespace Z4q
def sG := sgV [.val ty0, .val ty0] [(.bool, .dp)]
def eS : List EnTryz := [Z5x.eE N]
def an_ : Nat -> Option (List Nat)
 | 0 => some [0, 1, 5]
 | _ => none
def lP (p : List Dir) := lpE (eS N) N an_ p Tryz.f115 (endK Tb sG Tryz.f115 [] (un1 .bool))
def El0 (k_ : Nat) (a2 : I0) (b2 : I0) (i : Int) : Option (Bool) :=
 lP N [.r, .l, .r, .b] [] k_ (cr ty0 a2 :: (cr ty0 b2 :: (un 3 (cr i64 i :: (un 12 [])))))
theorem ql0 (N : Nat) : ∀ k_, El0 N k_ = Z6n N k_ := qL (Z8x N)
def eE : EnTryz := ⟨115, sG, [.v ty0, .v ty0], _, Z4q N, pk1 .bool, enK Tryz.func115,
 fun a b => eo (eS N) Tryz.func115 N an_ (Y4 .bool) (tq (b := Z9k N (El0 N N) a b) (by rw [ql0]; rfl))⟩
end Z4q
namespace Z2e
def sG := sgV [.val ty10, .val ty12] [(ty14, .dp)]
def eS : List EnTryz := [Z4q.eE N, Z0u.eE N, Z2k.eE N, Z1f.eE N]
def an_ : Nat -> Option (List Nat)
 | 0 => some [2, 3, 5, 6, 7]
 | 2 => some [2, 3, 5, 6, 8, 9]
 | 4 => some [2, 3, 5, 6, 8, 9, 10]
 | 6 => some [2, 3, 5, 6, 8, 9, 10, 11, 12]
 | 8 => some [2, 3, 5, 6, 8, 9, 10, 11, 13]
 | 10 => some [2, 3, 5, 6, 14, 15]
 | 12 => some [2, 3, 5, 6, 14, 15, 16, 17]
 | _ => none
def lP (p : List Dir) := lpE (eS N) N an_ p Tryz.f59 (endK Tb sG Tryz.f59 [] (un1 ty14))
def El4 (a : Nat) (c : Nat) (k_ : Nat) (d : R0) (e : A0) (f : Int) (g : A0) (h : I0) (b5 : L0) (i : I0) (j : L0) (n4 : Int) (i4 : Int) (k : Int) (k2 : Int) : Option L0 :=
 lP N [.r, .r, .r, .r, .r, .l, .r, .b, .b, .r, .l, .b, .r, .b, .b, .r, .l, .b, .r, .r, .r, .b] [lP N [.r, .r, .r, .r, .r, .l, .r, .b] [] a, lP N [.r, .r, .r, .r, .r, .l, .r, .b, .b, .r, .l, .b, .r, .b] [lP N [.r, .r, .r, .r, .r, .l, .r, .b] [] a] c] k_ (un 2 (.con (.box ⟨39, false, []⟩) [lf ty8 d .ro, lf ty9 e .ro] :: (.con (.box ⟨44, false, []⟩) [lf i64 f .ro, lf ty11 g .ro, lf ty0 h .ro] :: (un 1 (cd ty14 b5 :: (cd ty0 i :: (un 1 (cd ty14 j :: (cr i64 n4 :: (cr i64 i4 :: (cr i64 k :: (un 1 (cr i64 k2 :: (un 111 []))))))))))))))
def El3 (a : Nat) (c : Nat) (k_ : Nat) (d8 : R0) (d9 : A0) (d : Int) (e : A0) (f : I0) (b4 : L0) (g : I0) (h : L0) (n3 : Int) (i3 : Int) (i : Int) (k : Int) : Option L0 :=
 lP N [.r, .r, .r, .r, .r, .l, .r, .b, .b, .r, .l, .b, .r, .b, .b, .r, .l, .b, .r, .l, .r, .b] [lP N [.r, .r, .r, .r, .r, .l, .r, .b] [] a, lP N [.r, .r, .r, .r, .r, .l, .r, .b, .b, .r, .l, .b, .r, .b] [lP N [.r, .r, .r, .r, .r, .l, .r, .b] [] a] c] k_ (un 2 (.con (.box ⟨39, false, []⟩) [lf ty8 d8 .ro, lf ty9 d9 .ro] :: (.con (.box ⟨44, false, []⟩) [lf i64 d .ro, lf ty11 e .ro, lf ty0 f .ro] :: (un 1 (cd ty14 b4 :: (cd ty0 g :: (un 1 (cd ty14 h :: (cr i64 n3 :: (cr i64 i3 :: (cr i64 i :: (cr i64 k :: (un 112 [])))))))))))))
def El2 (a : Nat) (k_ : Nat) (d6 : R0) (d7 : A0) (q8 : Int) (q9 : A0) (c : I0) (b3 : L0) (d : I0) (e : L0) (n2 : Int) (i2 : Int) : Option L0 :=
 lP N [.r, .r, .r, .r, .r, .l, .r, .b, .b, .r, .l, .b, .r, .b] [lP N [.r, .r, .r, .r, .r, .l, .r, .b] [] a] k_ (un 2 (.con (.box ⟨39, false, []⟩) [lf ty8 d6 .ro, lf ty9 d7 .ro] :: (.con (.box ⟨44, false, []⟩) [lf i64 q8 .ro, lf ty11 q9 .ro, lf ty0 c .ro] :: (un 1 (cd ty14 b3 :: (cd ty0 d :: (un 1 (cd ty14 e :: (cr i64 n2 :: (cr i64 i2 :: (un 114 [])))))))))))
def El6 (a : Nat) (k_ : Nat) (c : R0) (d : A0) (e : Int) (f : A0) (g : I0) (b7 : L0) (h : I0) (i : L0) (i6 : Int) (j : I0) (k3 : Int) : Option L0 :=
 lP N [.r, .r, .r, .r, .r, .r, .r, .l, .r, .b, .b, .r, .l, .b, .r, .l, .r, .b] [lP N [.r, .r, .r, .r, .r, .r, .r, .l, .r, .b] [] a] k_ (un 2 (.con (.box ⟨39, false, []⟩) [lf ty8 c .ro, lf ty9 d .ro] :: (.con (.box ⟨44, false, []⟩) [lf i64 e .ro, lf ty11 f .ro, lf ty0 g .ro] :: (un 1 (cd ty14 b7 :: (cd ty0 h :: (un 7 (cd ty14 i :: (cr i64 i6 :: (cd ty0 j :: (cr i64 k3 :: (un 107 []))))))))))))
def El5 (k_ : Nat) (a : R0) (c : A0) (d : Int) (e : A0) (f : I0) (b6 : L0) (g : I0) (h : L0) (i5 : Int) : Option L0 :=
 lP N [.r, .r, .r, .r, .r, .r, .r, .l, .r, .b] [] k_ (un 2 (.con (.box ⟨39, false, []⟩) [lf ty8 a .ro, lf ty9 c .ro] :: (.con (.box ⟨44, false, []⟩) [lf i64 d .ro, lf ty11 e .ro, lf ty0 f .ro] :: (un 1 (cd ty14 b6 :: (cd ty0 g :: (un 7 (cd ty14 h :: (cr i64 i5 :: (un 109 []))))))))))
def El1 (k_ : Nat) (d4 : R0) (d5 : A0) (q5 : Int) (q6 : A0) (q7 : I0) (b2 : L0) (a : I0) (c : L0) (n : Int) : Option L0 :=
 lP N [.r, .r, .r, .r, .r, .l, .r, .b] [] k_ (un 2 (.con (.box ⟨39, false, []⟩) [lf ty8 d4 .ro, lf ty9 d5 .ro] :: (.con (.box ⟨44, false, []⟩) [lf i64 q5 .ro, lf ty11 q6 .ro, lf ty0 q7 .ro] :: (un 1 (cd ty14 b2 :: (cd ty0 a :: (un 1 (cd ty14 c :: (cr i64 n :: (un 115 []))))))))))
def El0 (k_ : Nat) (d2 : R0) (d3 : A0) (q2 : Int) (q3 : A0) (q4 : I0) (b : L0) (a : I0) (i : Int) : Option L0 :=
 lP N [.r, .r, .r, .l, .r, .b] [] k_ (un 2 (.con (.box ⟨39, false, []⟩) [lf ty8 d2 .ro, lf ty9 d3 .ro] :: (.con (.box ⟨44, false, []⟩) [lf i64 q2 .ro, lf ty11 q3 .ro, lf ty0 q4 .ro] :: (un 1 (cd ty14 b :: (cd ty0 a :: (cr i64 i :: (un 117 []))))))))
theorem ql4 (N : Nat) (k0_ : Nat) (k1_ : Nat) : ∀ k_, El4 N k0_ k1_ k_ = Z24 (El2 N k0_ k1_) N k_ := qL (Z5y N (El2 N k0_ k1_))
theorem ql3 (N : Nat) (k0_ : Nat) (k1_ : Nat) : ∀ k_, El3 N k0_ k1_ k_ = Z25 (El2 N k0_ k1_) N k_
 | 0 => by kernel_rfl
 | k_ + 1 => (show El3 N k0_ k1_ (k_ + 1) = Z5z N (El2 N k0_ k1_) (El4 N k0_ k1_ N) (El3 N k0_ k1_ k_) from by kernel_rfl).trans (by simp only [ql4, ql3 N k0_ k1_ k_]; rfl)
theorem ql2 (N : Nat) (k0_ : Nat) : ∀ k_, El2 N k0_ k_ = Z1j (El1 N k0_) N k_
 | 0 => by kernel_rfl
 | k_ + 1 => (show El2 N k0_ (k_ + 1) = Z60 N (El1 N k0_) (El3 N k0_ k_ N) (El2 N k0_ k_) from by kernel_rfl).trans (by simp only [ql3, ql2 N k0_ k_]; rfl)
theorem ql6 (N : Nat) (k0_ : Nat) : ∀ k_, El6 N k0_ k_ = Z26 (El5 N k0_) N k_ := qL (Z61 N (El5 N k0_))
theorem ql5 (N : Nat) : ∀ k_, El5 N k_ = Z1a N k_
 | 0 => by kernel_rfl
 | k_ + 1 => (show El5 N (k_ + 1) = Z47 N (El6 N k_ N) (El5 N k_) from by kernel_rfl).trans (by simp only [ql6, ql5 N k_]; rfl)
theorem ql1 (N : Nat) : ∀ k_, El1 N k_ = Z1k N k_
 | 0 => by kernel_rfl
 | k_ + 1 => (show El1 N (k_ + 1) = Z62 N (El2 N k_ N) (El5 N N) (El1 N k_) from by kernel_rfl).trans (by simp only [ql2, ql5, ql1 N k_]; rfl)
theorem ql0 (N : Nat) : ∀ k_, El0 N k_ = Z39 N k_
 | 0 => by kernel_rfl
 | k_ + 1 => (show El0 N (k_ + 1) = Z63 N (El1 N N) (El0 N k_) from by kernel_rfl).trans (by simp only [ql1, ql0 N k_]; rfl)
def eE : EnTryz := ⟨59, sG, [.v ty10, .v ty12], _, Z2e N, pk1 ty14, enK Tryz.func59,
 fun d q => eo (eS N) Tryz.func59 N an_ (Y4 ty14) (tq (b := Z7i N (El0 N N) d q) (by rw [ql0]; rfl))⟩
end Z2e
namespace Z18
def sG := sgV [.val ty10, .val ty0] [(i64, .dp)]
def eS : List EnTryz := [Z0o.eE N, Z1f.eE N]
def an_ : Nat -> Option (List Nat)
 | 0 => some [1, 5, 6, 7]
 | 2 => some [1, 5, 6, 7, 8, 9]
 | _ => none
def lP (p : List Dir) := lpE (eS N) N an_ p Tryz.f62 (endK Tb sG Tryz.f62 [] (un1 i64))
def El1 (a : Nat) (k_ : Nat) (w3 : I0) (n2 : Int) (b2 : L0) (i2 : Int) (s : Int) (k : Int) : Option (Int) :=
 lP N [.r, .r, .r, .r, .l, .r, .b, .b, .r, .l, .b, .r, .l, .r, .b] [lP N [.r, .r, .r, .r, .l, .r, .b] [] a] k_ (un 1 (cr ty0 w3 :: (un 3 (cr i64 n2 :: (cd ty14 b2 :: (cr i64 i2 :: (cr i64 s :: (cr i64 k :: (un 37 [])))))))))
def El0 (k_ : Nat) (w2 : I0) (n : Int) (b : L0) (i : Int) : Option (Int) :=
 lP N [.r, .r, .r, .r, .l, .r, .b] [] k_ (un 1 (cr ty0 w2 :: (un 3 (cr i64 n :: (cd ty14 b :: (cr i64 i :: (un 39 [])))))))
theorem ql1 (N : Nat) (k0_ : Nat) : ∀ k_, El1 N k0_ k_ = Z14 (El0 N k0_) N k_ := qL (Z2w N (El0 N k0_))
theorem ql0 (N : Nat) : ∀ k_, El0 N k_ = Z0t N k_
 | 0 => by kernel_rfl
 | k_ + 1 => (show El0 N (k_ + 1) = Z3w N (El1 N k_ N) (El0 N k_) from by kernel_rfl).trans (by simp only [ql1, ql0 N k_]; rfl)
def eE : EnTryz := ⟨62, sG, [.v ty10, .v ty0], _, Z18 N, pk1 i64, enK Tryz.func62,
 fun d w => eo (eS N) Tryz.func62 N an_ (Y4 i64) (tq (b := Z8y N (El0 N N) d w) (by rw [ql0]; rfl))⟩
end Z18
namespace Z4d
def sG := sgV [.val ty10] [(ty0, .dp)]
def eS : List EnTryz := [Z1f.eE N]
def an_ : Nat -> Option (List Nat)
 | 0 => some [3, 4, 5]
 | _ => none
def lP (p : List Dir) := lpE (eS N) N an_ p Tryz.f110 (endK Tb sG Tryz.f110 [] (un1 ty0))
def El0 (k_ : Nat) (a : I0) (l : L0) (i : Int) : Option I0 :=
 lP N [.r, .r, .r, .l, .r, .b] [] k_ (un 3 (cd ty0 a :: (cd ty14 l :: (cr i64 i :: (un 18 [])))))
theorem ql0 (N : Nat) : ∀ k_, El0 N k_ = Z3x N k_ := qL (Z65 N)
def eE : EnTryz := ⟨110, sG, [.v ty10], _, Z4d N, pk1 ty0, enK Tryz.func110,
 fun d => eo (eS N) Tryz.func110 N an_ (Y4 ty0) (tq (b := Z97 N (El0 N N) d) (by rw [ql0]; rfl))⟩
end Z4d
namespace Z1u
def sG := sgV [.val ty10] [(i64, .dp)]
def eS : List EnTryz := [Z0.eE N, Z4d.eE N]
def an_ : Nat -> Option (List Nat)
 | 0 => some [3, 4, 5]
 | _ => none
def lP (p : List Dir) := lpE (eS N) N an_ p Tryz.f53 (endK Tb sG Tryz.f53 [] (un1 i64))
def El0 (k_ : Nat) (n : Int) (l : I0) (i : Int) : Option (Int) :=
 lP N [.r, .r, .r, .r, .l, .r, .b] [] k_ (un 3 (cr i64 n :: (cd ty0 l :: (cr i64 i :: (un 18 [])))))
theorem ql0 (N : Nat) : ∀ k_, El0 N k_ = Z2f N k_ := qL (Z52 N)
def eE : EnTryz := ⟨53, sG, [.v ty10], _, Z1u N, pk1 i64, enK Tryz.func53,
 fun d => eo (eS N) Tryz.func53 N an_ (Y4 i64) (tq (b := Z8j N (El0 N N) d) (by rw [ql0]; rfl))⟩
end Z1u
namespace Z4u
def sG := sgV [.val ty10, .val i64] [(ty0, .dp), (.bool, .dp)]
def eS : List EnTryz := [Z17.eE N, Z1u.eE N, Z0s.eE N, Z1f.eE N]
def an_ : Nat -> Option (List Nat)
 | 0 => some [1, 6, 7, 8]
 | _ => none
def lP (p : List Dir) := lpE (eS N) N an_ p Tryz.f117 (endK Tb sG Tryz.f117 [] (un2 ty0 .bool))
def El0 (k_ : Nat) (k2 : Int) (b : L0) (a : I0) (i : Int) : Option (List Int × Bool) :=
 lP N [.r, .r, .r, .r, .l, .r, .b] [] k_ (un 1 (cr i64 k2 :: (un 4 (cd ty14 b :: (cd ty0 a :: (cr i64 i :: (un 42 [])))))))
theorem ql0 (N : Nat) : ∀ k_, El0 N k_ = Z4k N k_ := qL (Z6v N)
def eE : EnTryz := ⟨117, sG, [.v ty10, .v i64], _, Z4u N, pk2 ty0 .bool, enK Tryz.func117,
 fun d k => eo (eS N) Tryz.func117 N an_ (Y45 ty0 .bool) (tq (b := Z9c N (El0 N N) d k) (by rw [ql0]; rfl))⟩
end Z4u
namespace Z8f
def sG := sgV [.val ty14, .val ty0] [(.bool, .dp)]
def eS : List EnTryz := [Z5x.eE N]
def an_ : Nat -> Option (List Nat)
 | 0 => some [0, 1, 5]
 | 2 => some [0, 1, 5, 6, 7]
 | _ => none
def lP (p : List Dir) := lpE (eS N) N an_ p Tryz.f157 (endK Tb sG Tryz.f157 [] (un1 .bool))
def El1 (a : Nat) (k_ : Nat) (l3 : L0) (s3 : I0) (i2 : Int) (c : Bool) (k : Int) : Option (Bool) :=
 lP N [.r, .l, .r, .b, .b, .r, .l, .b, .r, .l, .r, .b] [lP N [.r, .l, .r, .b] [] a] k_ (cr ty14 l3 :: (cr ty0 s3 :: (un 3 (cr i64 i2 :: (cr .bool c :: (cr i64 k :: (un 28 [])))))))
def El0 (k_ : Nat) (l2 : L0) (s2 : I0) (i : Int) : Option (Bool) :=
 lP N [.r, .l, .r, .b] [] k_ (cr ty14 l2 :: (cr ty0 s2 :: (un 3 (cr i64 i :: (un 30 [])))))
theorem ql1 (N : Nat) (k0_ : Nat) : ∀ k_, El1 N k0_ k_ = Z80 (El0 N k0_) N k_ := qL (Z9d N (El0 N k0_))
theorem ql0 (N : Nat) : ∀ k_, El0 N k_ = Z35 N k_
 | 0 => by kernel_rfl
 | k_ + 1 => (show El0 N (k_ + 1) = Z88 N (El1 N k_ N) (El0 N k_) from by kernel_rfl).trans (by simp only [ql1, ql0 N k_]; rfl)
def eE : EnTryz := ⟨157, sG, [.v ty14, .v ty0], _, Z8f N, pk1 .bool, enK Tryz.func157,
 fun l s => eo (eS N) Tryz.func157 N an_ (Y4 .bool) (tq (b := Z0a2 N (El0 N N) l s) (by rw [ql0]; rfl))⟩
end Z8f
namespace Z3y
def sG := sgV [.val ty14, .val ty0] [(.bool, .dp)]
def eS : List EnTryz := [Z8f.eE N]
def eE : EnTryz := ⟨101, sG, [.v ty14, .v ty0], _, Z3y N, pk1 .bool, enK Tryz.func101,
 fun l s => eo (eS N) Tryz.func101 N an0 (Y4 .bool)⟩
end Z3y
namespace Z2o
def sG := sgV [.val ty10, .val ty0, .val ty0] [(i64, .dp)]
def eS : List EnTryz := [Z0o.eE N, Z5w.eE N]
def an_ : Nat -> Option (List Nat)
 | 0 => some [1, 2, 7, 8]
 | _ => none
def lP (p : List Dir) := lpE (eS N) N an_ p Tryz.f118 (endK Tb sG Tryz.f118 [] (un1 i64))
def El0 (k_ : Nat) (w2 : I0) (l2 : I0) (n : Int) (i : Int) : Option (Int) :=
 lP N [.r, .r, .r, .l, .r, .b] [] k_ (un 1 (cr ty0 w2 :: (cr ty0 l2 :: (un 4 (cr i64 n :: (cr i64 i :: (un 26 [])))))))
theorem ql0 (N : Nat) : ∀ k_, El0 N k_ = Z1c N k_ := qL (Z3m N)
def eE : EnTryz := ⟨118, sG, [.v ty10, .v ty0, .v ty0], _, Z2o N, pk1 i64, enK Tryz.func118,
 fun d w l => eo (eS N) Tryz.func118 N an_ (Y4 i64) (tq (b := Z8k N (El0 N N) d w l) (by rw [ql0]; rfl))⟩
end Z2o
namespace Z78
def sG := sgV [.val ty10, .val ty0, .val ty12] [(i64, .dp)]
def eS : List EnTryz := [Z1u.eE N, Z4u.eE N, Z3y.eE N, Z2o.eE N, Z2k.eE N]
def an_ : Nat -> Option (List Nat)
 | 0 => some [1, 3, 7, 8, 9]
 | _ => none
def lP (p : List Dir) := lpE (eS N) N an_ p Tryz.f63 (endK Tb sG Tryz.f63 [] (un1 i64))
def El0 (k_ : Nat) (w2 : I0) (d2 : R0) (d3 : A0) (n : Int) (a : L0) (k : Int) : Option (Int) :=
 lP N [.r, .r, .r, .l, .r, .b] [] k_ (un 1 (cr ty0 w2 :: (un 1 (.con (.box ⟨39, false, []⟩) [lf ty8 d2 .ro, lf ty9 d3 .ro] :: (un 3 (cr i64 n :: (cd ty14 a :: (cr i64 k :: (un 27 [])))))))))
theorem ql0 (N : Nat) : ∀ k_, El0 N k_ = Z8d N k_ := qL (Z9l N)
def eE : EnTryz := ⟨63, sG, [.v ty10, .v ty0, .v ty12], _, Z78 N, pk1 i64, enK Tryz.func63,
 fun d w q => eo (eS N) Tryz.func63 N an_ (Y4 i64) (tq (b := Z0ao N (El0 N N) d w q) (by rw [ql0]; rfl))⟩
end Z78
namespace Z8g
def sG := sgV [.val i64, .val i64] [(i64, .dp)]
def eS (N : Nat) : List EnTryz := []
def an_ : Nat -> Option (List Nat)
 | 0 => some [0, 1]
 | _ => none
def lP (p : List Dir) := lpE (eS N) N an_ p Tryz.f84 (endK Tb sG Tryz.f84 [] (un1 i64))
def El0 (k_ : Nat) (a2 : Int) (b2 : Int) : Option (Int) :=
 lP N [.r, .l, .b] [] k_ (cr i64 a2 :: (cr i64 b2 :: (un 12 [])))
theorem ql0 (N : Nat) : ∀ k_, El0 N k_ = Z81 N k_ := qL (Z9e N)
def eE : EnTryz := ⟨84, sG, [.v i64, .v i64], _, Z8g N, pk1 i64, enK Tryz.func84,
 fun a b => eo (eS N) Tryz.func84 N an_ (Y4 i64) (tq (b := Z0a3 N (El0 N N) a b) (by rw [ql0]; rfl))⟩
end Z8g
namespace Z32
def sG := sgV [.val i64, .val i64] [(ty16, .dp)]
def eS : List EnTryz := [Z8g.eE N]
def eE : EnTryz := ⟨64, sG, [.v i64, .v i64], _, Z32 N, pk1 ty16, enK Tryz.func64,
 fun n m => eo (eS N) Tryz.func64 N an0 (Y4 ty16)⟩
end Z32
namespace Z0e
def sG := sgV [.val ty10, .val ty0, .val ty12] [(ty16, .dp), (.bool, .dp)]
def eS : List EnTryz := [Z18.eE N, Z78.eE N, Z17.eE N, Z1q.eE N, Z32.eE N, Z0u.eE N, Z0o.eE N, Z1f.eE N, Z2e.eE N]
def an_ : Nat -> Option (List Nat)
 | 0 => some [1, 3, 5, 6, 8, 9, 10, 11]
 | 2 => some [1, 3, 5, 6, 8, 9, 10, 11, 12, 13]
 | 4 => some [1, 3, 5, 6, 8, 9, 10, 11, 12, 14, 16, 17]
 | _ => none
def lP (p : List Dir) := lpE (eS N) N an_ p Tryz.f9 (endK Tb sG Tryz.f9 [] (un2 ty16 .bool))
def El2 (a : Nat) (k_ : Nat) (w4 : I0) (d6 : R0) (d7 : A0) (q8 : Int) (q9 : A0) (c : I0) (d : Int) (e : Int) (b3 : L0) (p3 : L0) (f : Int) (i3 : Int) (g : I0) (x : R0) (x2 : A0) (v : I0) (k2 : Int) : Option ((Int × Int) × Bool) :=
 lP N [.r, .r, .r, .r, .r, .l, .r, .b, .b, .r, .l, .b, .r, .r, .r, .r, .r, .l, .r, .b] [lP N [.r, .r, .r, .r, .r, .l, .r, .b] [] a] k_ (un 1 (cr ty0 w4 :: (un 1 (.con (.box ⟨39, false, []⟩) [lf ty8 d6 .ro, lf ty9 d7 .ro] :: (un 1 (.con (.box ⟨44, false, []⟩) [lf i64 q8 .ro, lf ty11 q9 .ro, lf ty0 c .ro] :: (.con (.box ⟨33, false, []⟩) [lf i64 d .ro, lf i64 e .ro] :: (un 1 (cd ty14 b3 :: (cd ty14 p3 :: (cr i64 f :: (cr i64 i3 :: (cd ty0 g :: (un 1 (.con (.box ⟨39, false, []⟩) [lf ty8 x .dp, lf ty9 x2 .dp] :: (un 1 (cd ty0 v :: (cr i64 k2 :: (un 88 [])))))))))))))))))))
def El1 (a : Nat) (k_ : Nat) (w3 : I0) (d4 : R0) (d5 : A0) (q5 : Int) (q6 : A0) (q7 : I0) (c : Int) (d : Int) (b2 : L0) (p2 : L0) (e : Int) (i2 : Int) (f : I0) (k : Int) : Option ((Int × Int) × Bool) :=
 lP N [.r, .r, .r, .r, .r, .l, .r, .b, .b, .r, .l, .b, .r, .l, .r, .b] [lP N [.r, .r, .r, .r, .r, .l, .r, .b] [] a] k_ (un 1 (cr ty0 w3 :: (un 1 (.con (.box ⟨39, false, []⟩) [lf ty8 d4 .ro, lf ty9 d5 .ro] :: (un 1 (.con (.box ⟨44, false, []⟩) [lf i64 q5 .ro, lf ty11 q6 .ro, lf ty0 q7 .ro] :: (.con (.box ⟨33, false, []⟩) [lf i64 c .ro, lf i64 d .ro] :: (un 1 (cd ty14 b2 :: (cd ty14 p2 :: (cr i64 e :: (cr i64 i2 :: (cd ty0 f :: (cr i64 k :: (un 92 [])))))))))))))))
def El0 (k_ : Nat) (w2 : I0) (d2 : R0) (d3 : A0) (q2 : Int) (q3 : A0) (q4 : I0) (t6 : Int) (a : Int) (b : L0) (p : L0) (c : Int) (i : Int) : Option ((Int × Int) × Bool) :=
 lP N [.r, .r, .r, .r, .r, .l, .r, .b] [] k_ (un 1 (cr ty0 w2 :: (un 1 (.con (.box ⟨39, false, []⟩) [lf ty8 d2 .ro, lf ty9 d3 .ro] :: (un 1 (.con (.box ⟨44, false, []⟩) [lf i64 q2 .ro, lf ty11 q3 .ro, lf ty0 q4 .ro] :: (.con (.box ⟨33, false, []⟩) [lf i64 t6 .ro, lf i64 a .ro] :: (un 1 (cd ty14 b :: (cd ty14 p :: (cr i64 c :: (cr i64 i :: (un 94 [])))))))))))))
theorem ql2 (N : Nat) (k0_ : Nat) : ∀ k_, El2 N k0_ k_ = Z0z (El0 N k0_) N k_ := qL (Z3n N (El0 N k0_))
theorem ql1 (N : Nat) (k0_ : Nat) : ∀ k_, El1 N k0_ k_ = Z10 (El0 N k0_) N k_
 | 0 => by kernel_rfl
 | k_ + 1 => (show El1 N k0_ (k_ + 1) = Z3o N (El0 N k0_) (El2 N k0_ N) (El1 N k0_ k_) from by kernel_rfl).trans (by simp only [ql2, ql1 N k0_ k_]; rfl)
theorem ql0 (N : Nat) : ∀ k_, El0 N k_ = Z0m N k_
 | 0 => by kernel_rfl
 | k_ + 1 => (show El0 N (k_ + 1) = Z21 N (El1 N k_ N) (El0 N k_) from by kernel_rfl).trans (by simp only [ql1, ql0 N k_]; rfl)
def eE : EnTryz := ⟨9, sG, [.v ty10, .v ty0, .v ty12], _, Z0e N, pk2 ty16 .bool, enK Tryz.func9,
 fun d w q => eo (eS N) Tryz.func9 N an_ (Y45 ty16 .bool) (tq (b := Z2s N (El0 N N) d w q) (by rw [ql0]; rfl))⟩
end Z0e
namespace Z0j
def sG := sgV [.val i64, .val i64, .val i64] [(.bool, .dp)]
def eS (N : Nat) : List EnTryz := []
def eE : EnTryz := ⟨136, sG, [.v i64, .v i64, .v i64], _, Z0j N, pk1 .bool, enK Tryz.func136,
 fun n a b => eo (eS N) Tryz.func136 N an0 (Y4 .bool)⟩
end Z0j
namespace Z2g
def sG := sgV [.val ty1] [(.bool, .dp)]
def eS : List EnTryz := [Z0j.eE N]
def eE : EnTryz := ⟨199, sG, [.v ty1], _, Z2g N, pk1 .bool, enK Tryz.func199,
 fun a => eo (eS N) Tryz.func199 N an0 (Y4 .bool)⟩
end Z2g
namespace Z0y
def sG := sgV [.val ty8] [(.bool, .dp)]
def eS : List EnTryz := [Z2g.eE N]
def an_ : Nat -> Option (List Nat)
 | 0 => some [0, 5, 6, 7]
 | _ => none
def lP (p : List Dir) := lpE (eS N) N an_ p Tryz.f158 (endK Tb sG Tryz.f158 [] (un1 .bool))
def El0 (k_ : Nat) (a : R0) (t5 : R0) (t6 : Int) (t7 : Int) : Option (Bool) :=
 lP N [.r, .l, .r, .b] [] k_ (cr ty8 a :: (un 4 (cr ty8 t5 :: (cr i64 t6 :: (cr i64 t7 :: (un 26 []))))))
theorem ql0 (N : Nat) : ∀ k_, El0 N k_ = Z1s N k_ := qL (Z3f N)
def eE : EnTryz := ⟨158, sG, [.v ty8], _, Z0y N, pk1 .bool, enK Tryz.func158,
 fun a => eo (eS N) Tryz.func158 N an_ (Y4 .bool) (tq (b := Z6o N (El0 N N) a) (by rw [ql0]; rfl))⟩
end Z0y
namespace Z4l
def sG := sgV [.val i64] [(.bool, .dp)]
def eS : List EnTryz := [Z0j.eE N]
def eE : EnTryz := ⟨231, sG, [.v i64], _, Z4l N, pk1 .bool, enK Tryz.func231,
 fun v => eo (eS N) Tryz.func231 N an0 (Y4 .bool)⟩
end Z4l
namespace Z0i
def sG := sgV [.val ty0, .clo] [(i64, .dp)]
def eS : List EnTryz := [Z4l.eE N]
def an_ : Nat -> Option (List Nat)
 | 0 => some [0, 1, 7, 8]
 | _ => none
def lP (p : List Dir) := lpE (eS N) N an_ p Tryz.f183 (endK Tb sG Tryz.f183 [] (un1 i64))
def El0 (k_ : Nat) (s2 : I0) (t7 : Int) (t8 : Int) : Option (Int) :=
 lP N [.r, .l, .r, .b] [] k_ (cr ty0 s2 :: (.cloR 231 [] :: (un 5 (cr i64 t7 :: (cr i64 t8 :: (un 10 []))))))
theorem ql0 (N : Nat) : ∀ k_, El0 N k_ = Z0b N k_ := qL (Z11 N)
def eE : EnTryz := ⟨183, sG, [.v ty0, .c 231 []], _, Z0i N, pk1 i64, enK Tryz.func183,
 fun s => eo (eS N) Tryz.func183 N an_ (Y4 i64) (tq (b := Z2h N (El0 N N) s) (by rw [ql0]; rfl))⟩
end Z0i
namespace Z0c
def sG := sgV [.val ty0, .clo] [(.bool, .dp)]
def eS : List EnTryz := [Z0i.eE N]
def eE : EnTryz := ⟨134, sG, [.v ty0, .c 231 []], _, Z0c N, pk1 .bool, enK Tryz.func134,
 fun s => eo (eS N) Tryz.func134 N an0 (Y4 .bool)⟩
end Z0c
namespace Z4v
def sG := sgV [.val ty0] [(.bool, .dp)]
def eS : List EnTryz := [Z0c.eE N]
def eE : EnTryz := ⟨200, sG, [.v ty0], _, Z4v N, pk1 .bool, enK Tryz.func200,
 fun a => eo (eS N) Tryz.func200 N an0 (Y4 .bool)⟩
end Z4v
namespace Z7j
def sG := sgV [.val ty8, .val ty3] [(.bool, .dp)]
def eS : List EnTryz := [Z0j.eE N, Z4v.eE N]
def eE : EnTryz := ⟨159, sG, [.v ty8, .v ty3], _, Z7j N, pk1 .bool, enK Tryz.func159,
 fun a b => eo (eS N) Tryz.func159 N an0 (Y4 .bool)⟩
end Z7j
namespace Z83
def sG := sgV [.val i64, .val i64] [(i64, .dp)]
def eS (N : Nat) : List EnTryz := []
def eE : EnTryz := ⟨201, sG, [.v i64, .v i64], _, Z83 N, pk1 i64, enK Tryz.func201,
 fun a b => eo (eS N) Tryz.func201 N an0 (Y4 i64)⟩
end Z83
namespace Z5q
def sG := sgV [.val i64] [(.bool, .dp)]
def eS (N : Nat) : List EnTryz := []
def eE : EnTryz := ⟨247, sG, [.v i64], _, Z5q N, pk1 .bool, enK Tryz.func247,
 fun x => eo (eS N) Tryz.func247 N an0 (Y4 .bool)⟩
end Z5q
namespace Z4e
def sG := sgV [.val i64, .val i64] [(i64, .dp)]
def eS : List EnTryz := [Z5q.eE N]
def eE : EnTryz := ⟨232, sG, [.v i64, .v i64], _, Z4e N, pk1 i64, enK Tryz.func232,
 fun x y => eo (eS N) Tryz.func232 N an0 (Y4 i64)⟩
end Z4e
namespace Z27
def sG := sgV [.val ty0, .val ty0] [(i64, .dp)]
def eS : List EnTryz := [Z4e.eE N]
def an_ : Nat -> Option (List Nat)
 | 0 => some [0, 1, 9, 10, 11]
 | _ => none
def lP (p : List Dir) := lpE (eS N) N an_ p Tryz.f202 (endK Tb sG Tryz.f202 [] (un1 i64))
def El0 (k_ : Nat) (a : I0) (c : I0) (t9 : I0) (d : Int) (e : Int) : Option (Int) :=
 lP N [.r, .l, .r, .b] [] k_ (cr ty0 a :: (cr ty0 c :: (un 7 (cr ty0 t9 :: (cr i64 d :: (cr i64 e :: (un 24 [])))))))
theorem ql0 (N : Nat) : ∀ k_, El0 N k_ = Z19 N k_ := qL (Z1w N)
def eE : EnTryz := ⟨202, sG, [.v ty0, .v ty0], _, Z27 N, pk1 i64, enK Tryz.func202,
 fun s1 s2 => eo (eS N) Tryz.func202 N an_ (Y4 i64) (tq (b := Z8s N (El0 N N) s1 s2) (by rw [ql0]; rfl))⟩
end Z27
namespace Z3c
def sG := sgV [.val ty3, .val ty3] [(i64, .dp)]
def eS : List EnTryz := [Z83.eE N, Z27.eE N]
def eE : EnTryz := ⟨160, sG, [.v ty3, .v ty3], _, Z3c N, pk1 i64, enK Tryz.func160,
 fun a b => eo (eS N) Tryz.func160 N an0 (Y4 i64)⟩
end Z3c
namespace Z1d
def sG := sgV [.val ty10] [(.bool, .dp)]
def eS : List EnTryz := [Z7j.eE N, Z3c.eE N, Z0y.eE N]
def an_ : Nat -> Option (List Nat)
 | 0 => some [1, 16, 17, 18]
 | _ => none
def lP (p : List Dir) := lpE (eS N) N an_ p Tryz.f102 (endK Tb sG Tryz.f102 [] (un1 .bool))
def El0 (k_ : Nat) (a : R0) (c : A0) (d : A0) (e : Int) (f : Int) : Option (Bool) :=
 lP N [.r, .r, .l, .r, .b] [] k_ (un 1 (.con (.box ⟨39, false, []⟩) [lf ty8 a .ro, lf ty9 c .ro] :: (un 14 (cr ty9 d :: (cr i64 e :: (cr i64 f :: (un 25 [])))))))
theorem ql0 (N : Nat) : ∀ k_, El0 N k_ = Z28 N k_ := qL (Z48 N)
def eE : EnTryz := ⟨102, sG, [.v ty10], _, Z1d N, pk1 .bool, enK Tryz.func102,
 fun db => eo (eS N) Tryz.func102 N an_ (Y4 .bool) (tq (b := Z7k N (El0 N N) db) (by rw [ql0]; rfl))⟩
end Z1d
namespace Z4f
def sG := sgV [.val ty0, .val i64] [(.bool, .dp)]
def eS : List EnTryz := [Z0j.eE N]
def an_ : Nat -> Option (List Nat)
 | 0 => some [0, 1, 7, 8, 9]
 | _ => none
def lP (p : List Dir) := lpE (eS N) N an_ p Tryz.f178 (endK Tb sG Tryz.f178 [] (un1 .bool))
def El0 (k_ : Nat) (a : I0) (n2 : Int) (t7 : I0) (t8 : Int) (t9 : Int) : Option (Bool) :=
 lP N [.r, .l, .r, .b] [] k_ (cr ty0 a :: (cr i64 n2 :: (un 5 (cr ty0 t7 :: (cr i64 t8 :: (cr i64 t9 :: (un 23 [])))))))
theorem ql0 (N : Nat) : ∀ k_, El0 N k_ = Z3z N k_ := qL (Z66 N)
def eE : EnTryz := ⟨178, sG, [.v ty0, .v i64], _, Z4f N, pk1 .bool, enK Tryz.func178,
 fun a n => eo (eS N) Tryz.func178 N an_ (Y4 .bool) (tq (b := Z98 N (El0 N N) a n) (by rw [ql0]; rfl))⟩
end Z4f
namespace Z36
def sG := sgV [.val ty3, .ptr ty3] [(.bool, .dp)]
def eS (N : Nat) : List EnTryz := []
def eE : EnTryz := ⟨180, sG, [.v ty3, .p ty3], _, Z36 N, pk1 .bool, enK Tryz.func180,
 fun a c1 => eo (eS N) Tryz.func180 N an0 (Y4 .bool)⟩
end Z36
namespace Z8
def sG := sgV [.val ty11, .clo] [(i64, .dp)]
def eS : List EnTryz := [Z36.eE N]
def an_ : Nat -> Option (List Nat)
 | 0 => some [0, 1, 7, 8]
 | _ => none
def lP (p : List Dir) := lpE (eS N) N an_ p Tryz.f213 (endK Tb sG Tryz.f213 [] (un1 i64))
def El0 (k_ : Nat) (s2 : A0) (f : Int × List Int) (t7 : Int) (t8 : Int) : Option (Int) :=
 lP N [.r, .l, .r, .b] [] k_ (cr ty11 s2 :: (.cloR 180 [⟨ty3, f⟩] :: (un 5 (cr i64 t7 :: (cr i64 t8 :: (un 10 []))))))
theorem ql0 (N : Nat) : ∀ k_, El0 N k_ = Z4 N k_ := qL (Z0q N)
def eE : EnTryz := ⟨213, sG, [.v ty11, .c 180 [ty3]], _, Z8 N, pk1 i64, enK Tryz.func213,
 fun s c => eo (eS N) Tryz.func213 N an_ (Y4 i64) (tq (b := Z1o N (El0 N N) s c) (by rw [ql0]; rfl))⟩
end Z8
namespace Z1
def sG := sgV [.val ty11, .clo] [(.bool, .dp)]
def eS : List EnTryz := [Z8.eE N]
def eE : EnTryz := ⟨179, sG, [.v ty11, .c 180 [ty3]], _, Z1 N, pk1 .bool, enK Tryz.func179,
 fun s c => eo (eS N) Tryz.func179 N an0 (Y4 .bool)⟩
end Z1
namespace Z2l
def sG := sgV [.val ty14] [(ty0, .dp)]
def eS : List EnTryz := [Z0au N]
def an_ : Nat -> Option (List Nat)
 | 0 => some [0, 3, 9, 10, 11]
 | 2 => some [6, 25, 26, 27]
 | _ => none
def lP (p : List Dir) := lpE (eS N) N an_ p Tryz.f214 (endK Tb sG Tryz.f214 [] (un1 ty0))
def El1 (k_ : Nat) (a : I0) (c : L0) (d : Int) (e : Int) : Option I0 :=
 lP N [.r, .r, .r, .r, .l, .r, .b] [] k_ (un 6 (cd ty0 a :: (un 18 (cr ty14 c :: (cr i64 d :: (cr i64 e :: (un 8 [])))))))
def El0 (k_ : Nat) (a : L0) (c : Int) (t9 : L0) (d : Int) (e : Int) : Option I0 :=
 lP N [.r, .r, .l, .r, .b] [] k_ (cr ty14 a :: (un 2 (cr i64 c :: (un 5 (cr ty14 t9 :: (cr i64 d :: (cr i64 e :: (un 24 []))))))))
theorem ql1 (N : Nat) : ∀ k_, El1 N k_ = Z1t N k_ := qL (Z57 N)
theorem ql0 (N : Nat) : ∀ k_, El0 N k_ = Z2t N k_
 | 0 => by kernel_rfl
 | k_ + 1 => (show El0 N (k_ + 1) = Z58 N (El1 N N) (El0 N k_) from by kernel_rfl).trans (by simp only [ql1, ql0 N k_]; rfl)
def eE : EnTryz := ⟨214, sG, [.v ty14], _, Z2l N, pk1 ty0, enK Tryz.func214,
 fun a => eo (eS N) Tryz.func214 N an_ (Y4 ty0) (tq (b := Z8z N (El0 N N) a) (by rw [ql0]; rfl))⟩
end Z2l
namespace Z67
def sG := sgV [.val ty0, .val ty0] [(ty0, .dp)]
def eS : List EnTryz := [Z2l.eE N, Z9a N, Z0ac N]
def eE : EnTryz := ⟨181, sG, [.v ty0, .v ty0], _, Z67 N, pk1 ty0, enK Tryz.func181,
 fun a b => eo (eS N) Tryz.func181 N an0 (Y4 ty0)⟩
end Z67
namespace Z30
def sG := sgV [.val ty3] [(ty0, .dp)]
def eS : List EnTryz := [Z0j.eE N, Z67.eE N]
def an_ : Nat -> Option (List Nat)
 | 0 => some [3, 8, 9, 10]
 | _ => none
def lP (p : List Dir) := lpE (eS N) N an_ p Tryz.f182 (endK Tb sG Tryz.f182 [] (un1 ty0))
def El0 (k_ : Nat) (a : I0) (t8 : I0) (t9 : Int) (c : Int) : Option I0 :=
 lP N [.r, .r, .l, .r, .b] [] k_ (un 3 (cd ty0 a :: (un 4 (cr ty0 t8 :: (cr i64 t9 :: (cr i64 c :: (un 12 [])))))))
theorem ql0 (N : Nat) : ∀ k_, El0 N k_ = Z40 N k_ := qL (Z6z N)
def eE : EnTryz := ⟨182, sG, [.v ty3], _, Z30 N, pk1 ty0, enK Tryz.func182,
 fun a => eo (eS N) Tryz.func182 N an_ (Y4 ty0) (tq (b := Z89 N (El0 N N) a) (by rw [ql0]; rfl))⟩
end Z30
namespace Z3d
def sG := sgV [.val ty8, .val ty12] [(.bool, .dp)]
def eS : List EnTryz := [Z0j.eE N, Z30.eE N, Z67.eE N, Z1.eE N, Z0y.eE N, Z4f.eE N]
def an_ : Nat -> Option (List Nat)
 | 0 => some [0, 3, 5, 36, 37, 38]
 | 2 => some [0, 3, 5, 7, 36, 37, 38, 71, 72, 73]
 | _ => none
def lP (p : List Dir) := lpE (eS N) N an_ p Tryz.f133 (endK Tb sG Tryz.f133 [] (un1 .bool))
def El1 (a : Nat) (k_ : Nat) (c : R0) (d : Int) (e : A0) (f : I0) (g : I0) (h : Int) (i : I0) (j : A0) (k : Int) (m : Int) (n : I0) (o : Int) (p : Int) : Option (Bool) :=
 lP N [.r, .r, .r, .l, .r, .b, .b, .r, .r, .l, .b, .r, .r, .l, .r, .b] [lP N [.r, .r, .r, .l, .r, .b] [] a] k_ (cr ty8 c :: (un 2 (.con (.box ⟨44, false, []⟩) [lf i64 d .ro, lf ty11 e .ro, lf ty0 f .ro] :: (un 1 (cd ty0 g :: (un 1 (.con (.box ⟨145, false, []⟩) [lf i64 h .ro, lf ty0 i .ro] :: (un 28 (cr ty11 j :: (cr i64 k :: (cr i64 m :: (un 32 (cr ty0 n :: (cr i64 o :: (cr i64 p :: (un 20 []))))))))))))))))
def El0 (k_ : Nat) (a : R0) (c : Int) (d : A0) (e : I0) (f : I0) (g : A0) (h : Int) (i : Int) : Option (Bool) :=
 lP N [.r, .r, .r, .l, .r, .b] [] k_ (cr ty8 a :: (un 2 (.con (.box ⟨44, false, []⟩) [lf i64 c .ro, lf ty11 d .ro, lf ty0 e .ro] :: (un 1 (cd ty0 f :: (un 30 (cr ty11 g :: (cr i64 h :: (cr i64 i :: (un 55 []))))))))))
theorem ql1 (N : Nat) (k0_ : Nat) : ∀ k_, El1 N k0_ k_ = Z2i (El0 N k0_) N k_ := qL (Z53 N (El0 N k0_))
theorem ql0 (N : Nat) : ∀ k_, El0 N k_ = Z37 N k_
 | 0 => by kernel_rfl
 | k_ + 1 => (show El0 N (k_ + 1) = Z7l N (El1 N k_ N) (El0 N k_) from by kernel_rfl).trans (by simp only [ql1, ql0 N k_]; rfl)
def eE : EnTryz := ⟨133, sG, [.v ty8, .v ty12], _, Z3d N, pk1 .bool, enK Tryz.func133,
 fun a c => eo (eS N) Tryz.func133 N an_ (Y4 .bool) (tq (b := Z8l N (El0 N N) a c) (by rw [ql0]; rfl))⟩
end Z3d
namespace Z2u
def sG := sgV [.val ty10, .val ty12] [(.bool, .dp)]
def eS : List EnTryz := [Z1d.eE N, Z3d.eE N]
def eE : EnTryz := ⟨73, sG, [.v ty10, .v ty12], _, Z2u N, pk1 .bool, enK Tryz.func73,
 fun db a => eo (eS N) Tryz.func73 N an0 (Y4 .bool)⟩
end Z2u
namespace Z29
def sG := sgV [.val i64] [(.bool, .dp)]
def eS : List EnTryz := [Z0j.eE N]
def eE : EnTryz := ⟨135, sG, [.v i64], _, Z29 N, pk1 .bool, enK Tryz.func135,
 fun w => eo (eS N) Tryz.func135 N an0 (Y4 .bool)⟩
end Z29
namespace Z7
def sG := sgV [.val ty0, .clo] [(i64, .dp)]
def eS : List EnTryz := [Z29.eE N]
def an_ : Nat -> Option (List Nat)
 | 0 => some [0, 1, 7, 8]
 | _ => none
def lP (p : List Dir) := lpE (eS N) N an_ p Tryz.f183 (endK Tb sG Tryz.f183 [] (un1 i64))
def El0 (k_ : Nat) (s2 : I0) (t7 : Int) (t8 : Int) : Option (Int) :=
 lP N [.r, .l, .r, .b] [] k_ (cr ty0 s2 :: (.cloR 135 [] :: (un 5 (cr i64 t7 :: (cr i64 t8 :: (un 10 []))))))
theorem ql0 (N : Nat) : ∀ k_, El0 N k_ = Z2 N k_ := qL (Z0n N)
def eE : EnTryz := ⟨183, sG, [.v ty0, .c 135 []], _, Z7 N, pk1 i64, enK Tryz.func183,
 fun s => eo (eS N) Tryz.func183 N an_ (Y4 i64) (tq (b := Z1l N (El0 N N) s) (by rw [ql0]; rfl))⟩
end Z7
namespace Z3
def sG := sgV [.val ty0, .clo] [(.bool, .dp)]
def eS : List EnTryz := [Z7.eE N]
def eE : EnTryz := ⟨134, sG, [.v ty0, .c 135 []], _, Z3 N, pk1 .bool, enK Tryz.func134,
 fun s => eo (eS N) Tryz.func134 N an0 (Y4 .bool)⟩
end Z3
namespace Z1e
def sG := sgV [.val ty10, .val ty0] [(.bool, .dp)]
def eS : List EnTryz := [Z1d.eE N, Z3.eE N]
def eE : EnTryz := ⟨74, sG, [.v ty10, .v ty0], _, Z1e N, pk1 .bool, enK Tryz.func74,
 fun db a => eo (eS N) Tryz.func74 N an0 (Y4 .bool)⟩
end Z1e
namespace Z59
def sG := sgV [.val i64] [(ty0, .dp)]
def eS : List EnTryz := [Z0ar N]
def eE : EnTryz := ⟨186, sG, [.v i64], _, Z59 N, pk1 ty0, enK Tryz.func186,
 fun n => eo (eS N) Tryz.func186 N an0 (Y4 ty0)⟩
end Z59
namespace Z5l
def sG := sgV [.val i64] [(.bool, .dp)]
def eS (N : Nat) : List EnTryz := []
def eE : EnTryz := ⟨216, sG, [.v i64], _, Z5l N, pk1 .bool, enK Tryz.func216,
 fun t => eo (eS N) Tryz.func216 N an0 (Y4 .bool)⟩
end Z5l
namespace Z4m
def sG := sgV [.val i64] [(i64, .dp)]
def eS (N : Nat) : List EnTryz := []
def eE : EnTryz := ⟨217, sG, [.v i64], _, Z4m N, pk1 i64, enK Tryz.func217,
 fun v => eo (eS N) Tryz.func217 N an0 (Y4 i64)⟩
end Z4m
namespace Z8a
def sG := sgV [.val ty0, .val ty0, .val ty0] [(ty0, .dp), (.bool, .dp)]
def eS : List EnTryz := [Z5l.eE N, Z4m.eE N, Z93 N]
def an_ : Nat -> Option (List Nat)
 | 0 => some [2, 8, 13, 14, 15]
 | _ => none
def lP (p : List Dir) := lpE (eS N) N an_ p Tryz.f185 (endK Tb sG Tryz.f185 [] (un2 ty0 .bool))
def El0 (k_ : Nat) (a : I0) (c : I0) (d : I0) (e : Int) (f : Int) : Option (List Int × Bool) :=
 lP N [.r, .r, .l, .r, .b] [] k_ (un 2 (cr ty0 a :: (un 5 (cd ty0 c :: (un 4 (cr ty0 d :: (cr i64 e :: (cr i64 f :: (un 40 [])))))))))
theorem ql0 (N : Nat) : ∀ k_, El0 N k_ = Z8e N k_ := qL (Z9m N)
def eE : EnTryz := ⟨185, sG, [.v ty0, .v ty0, .v ty0], _, Z8a N, pk2 ty0 .bool, enK Tryz.func185,
 fun a c d => eo (eS N) Tryz.func185 N an_ (Y45 ty0 .bool) (tq (b := Z0aq N (El0 N N) a c d) (by rw [ql0]; rfl))⟩
end Z8a
namespace Z2m
def bX : BoxSig := ⟨3, 121, [.dp]⟩
def sG : Sig := ⟨[.val ty0, .val ty0, .ptr ty12, .ptr ty15, .ptr ty10, .self], [], false, false, some bX, none, none⟩
theorem eN : Enterable Tryz.prog 184 := Y2f Tryz.func184 (code := Tryz.f184.body.getD .skip) (by kernel_rfl) (by kernel_rfl)
def eS (Rf : I0 -> I0 -> Q0 -> (List (List Int × List Int)) -> D0 -> Q0 -> D0 -> Option (List (List Int × List Int))) (hR : OkP (Option (List (List Int × List Int))) [.v ty0, .v ty0, .p ty12, .p ty15, .p ty10, .s 184 [.ro ty12, .pin, .ro ty10, .self]] Rf (fun xs_ q => ∀ x, q = some x -> FnOk Tryz.prog 184 sG xs_ (pk1 ty15 x))) : List EnTryz := [Z8a.eE N, Z93 N, ⟨184, sG, [.v ty0, .v ty0, .p ty12, .p ty15, .p ty10, .s 184 [.ro ty12, .pin, .ro ty10, .self]], List (List Int × List Int), Rf, pk1 ty15, eN, hR⟩]
def an_ : Nat -> Option (List Nat)
 | 0 => some [0, 1, 3, 5, 8, 34, 35, 36]
 | _ => none
def lP (Rf : I0 -> I0 -> Q0 -> (List (List Int × List Int)) -> D0 -> Q0 -> D0 -> Option (List (List Int × List Int))) (hR : OkP (Option (List (List Int × List Int))) [.v ty0, .v ty0, .p ty12, .p ty15, .p ty10, .s 184 [.ro ty12, .pin, .ro ty10, .self]] Rf (fun xs_ q => ∀ x, q = some x -> FnOk Tryz.prog 184 sG xs_ (pk1 ty15 x))) (p : List Dir) := lpE (eS N Rf hR) N an_ p Tryz.f184 (endB Tb sG bX Tryz.f184 ty15 (un1 ty15))
def El0 (Rf : I0 -> I0 -> Q0 -> (List (List Int × List Int)) -> D0 -> Q0 -> D0 -> Option (List (List Int × List Int))) (hR : OkP (Option (List (List Int × List Int))) [.v ty0, .v ty0, .p ty12, .p ty15, .p ty10, .s 184 [.ro ty12, .pin, .ro ty10, .self]] Rf (fun k q => ∀ x, q = some x -> FnOk Tryz.prog 184 sG k (pk1 ty15 x))) (k_ : Nat) (a : I0) (c : I0) (t3 : List (List Int × List Int)) (d : Q0) (e : D0) (f : Int) (g : I0) (h : A0) (i : Int) (j : Int) : Option (List (List Int × List Int)) :=
 lP N Rf hR [.r, .r, .r, .b] [] k_ (cr ty0 a :: (cr ty0 c :: (un 1 (.con (.box ⟨121, true, [false]⟩) [lf ty15 t3 .dp] :: (un 1 (.fptr 184 [.ro ⟨ty12, d⟩, .path 3 0, .ro ⟨ty10, e⟩, .self] :: (un 2 (.con (.box ⟨145, false, []⟩) [lf i64 f .ro, lf ty0 g .ro] :: (un 25 (cr ty9 h :: (cr i64 i :: (cr i64 j :: (un 28 [])))))))))))))
theorem ql0 (N : Nat) (Rf : I0 -> I0 -> Q0 -> (List (List Int × List Int)) -> D0 -> Q0 -> D0 -> Option (List (List Int × List Int))) (hR : OkP (Option (List (List Int × List Int))) [.v ty0, .v ty0, .p ty12, .p ty15, .p ty10, .s 184 [.ro ty12, .pin, .ro ty10, .self]] Rf (fun xs_ q => ∀ x, q = some x -> FnOk Tryz.prog 184 sG xs_ (pk1 ty15 x))) : ∀ k_, El0 N Rf hR k_ = Z2v N Rf k_
 | 0 => by kernel_rfl
 | k_ + 1 => (show El0 N Rf hR (k_ + 1) = Z5a N Rf (El0 N Rf hR k_) from by kernel_rfl).trans (by simp only [ql0 N Rf hR k_]; rfl)
theorem vV (Rf : I0 -> I0 -> Q0 -> (List (List Int × List Int)) -> D0 -> Q0 -> D0 -> Option (List (List Int × List Int))) (hR : OkP (Option (List (List Int × List Int))) [.v ty0, .v ty0, .p ty12, .p ty15, .p ty10, .s 184 [.ro ty12, .pin, .ro ty10, .self]] Rf (fun xs_ q => ∀ x, q = some x -> FnOk Tryz.prog 184 sG xs_ (pk1 ty15 x))) (values : I0) (facts : I0) (c2 : Q0) (c3 : List (List Int × List Int)) (c4 : D0) (sc2 : Q0) (sc4 : D0) :
  evB (eS N Rf hR) N an_ sG bX Tryz.f184 [.val ty0 values, .val ty0 facts, .ptr ty12 c2, .ptr ty15 c3, .ptr ty10 c4, .fptr 184 [.ro ⟨ty12, sc2⟩, .pin, .ro ⟨ty10, sc4⟩, .self]] (un1 ty15) = Z4g N Rf (El0 N Rf hR N) values facts c2 c3 c4 sc2 sc4 := by kernel_rfl
theorem oK (N : Nat) : ∀ k_, OkP (Option (List (List Int × List Int))) [.v ty0, .v ty0, .p ty12, .p ty15, .p ty10, .s 184 [.ro ty12, .pin, .ro ty10, .self]] (Z0r N k_) (fun xs_ q => ∀ x, q = some x -> FnOk Tryz.prog 184 sG xs_ (pk1 ty15 x))
 | 0 => fun values facts c2 c3 c4 sc2 sc4 =>  fun x h => absurd (show (none : Option (List (List Int × List Int))) = some x from h) (by simp)
 | k_ + 1 => fun values facts c2 c3 c4 sc2 sc4 => Ydb tab_ok (es := eS N (Z0r N k_) (oK N k_)) (by kernel_rfl) mixed Tryz.func184 (by kernel_rfl) rfl rfl (fun _ => ⟨_, _, rfl⟩) (Y4 ty15) ((vV N _ _ values facts c2 c3 c4 sc2 sc4).trans (by rw [ql0]; rfl))
def eE : EnTryz := ⟨184, sG, [.v ty0, .v ty0, .p ty12, .p ty15, .p ty10, .s 184 [.ro ty12, .pin, .ro ty10, .self]], List (List Int × List Int), Z2m N, pk1 ty15, eN, oK N N⟩
end Z2m
namespace Z2q
def sG := sgV [.val ty10, .val ty12] [(ty15, .dp)]
def eS : List EnTryz := [Z2u.eE N, Z59.eE N, Z2m.eE N]
def eE : EnTryz := ⟨137, sG, [.v ty10, .v ty12], _, Z2q N, pk1 ty15, enK Tryz.func137,
 fun db a => eo (eS N) Tryz.func137 N an0 (Y4 ty15)⟩
end Z2q
namespace Z4w
def sG := sgV [.val ty10, .val ty12] [(ty14, .dp)]
def eS : List EnTryz := [Z9a N, Z2q.eE N]
def an_ : Nat -> Option (List Nat)
 | 0 => some [5, 11, 12, 13]
 | _ => none
def lP (p : List Dir) := lpEK (eS N) N an_ p Tryz.f75 (endK Tb sG Tryz.f75 [] (un1 ty14))
def El1 (k_ : Nat) (a : L0) (c : List (List Int × List Int)) (d : Int) (e : Int) (f : Int) : Option L0 :=
 lP N [.r, .r, .l, .r, .b] [] k_ (un 5 (cd ty14 a :: (un 5 (.part 159 ty17 c d :: (cr i64 e :: (cr i64 f :: (un 13 [])))))))
def El0 (k_ : Nat) (a : L0) (c : List (List Int × List Int)) (d : Int) (e : Int) : Option L0 :=
 lP N [.r, .r, .l, .r, .b] [] k_ (un 5 (cd ty14 a :: (un 5 (cd ty15 c :: (cr i64 d :: (cr i64 e :: (un 13 [])))))))
theorem ql1 (N : Nat) : ∀ k_, El1 N k_ = Z5v N k_ := qL (Z8m N)
theorem ql0 (N : Nat) : ∀ k_, El0 N k_ = Z7u N k_
 | 0 => by kernel_rfl
 | k_ + 1 => (show El0 N (k_ + 1) = Z8n N (El1 N k_) (El0 N k_) from by kernel_rfl).trans (by simp only [ql1, ql0 N k_]; rfl)
def eE : EnTryz := ⟨75, sG, [.v ty10, .v ty12], _, Z4w N, pk1 ty14, enK Tryz.func75,
 fun db a => eoK (eS N) Tryz.func75 N an_ (Y4 ty14) (tq (b := Z9i N (El0 N N) db a) (by rw [ql0]; rfl))⟩
end Z4w
namespace Z1y
def sG := sgV [.val ty0, .val ty0] [(.bool, .dp)]
def eS (N : Nat) : List EnTryz := []
def an_ : Nat -> Option (List Nat)
 | 0 => some [0, 1, 12, 13]
 | _ => none
def lP (p : List Dir) := lpE (eS N) N an_ p Tryz.f189 (endK Tb sG Tryz.f189 [] (un1 .bool))
def El0 (k_ : Nat) (a : I0) (c : I0) (d : Int) (e : Int) : Option (Bool) :=
 lP N [.r, .r, .l, .r, .b] [] k_ (cr ty0 a :: (cr ty0 c :: (un 10 (cr i64 d :: (cr i64 e :: (un 12 []))))))
theorem ql0 (N : Nat) : ∀ k_, El0 N k_ = Z1x N k_ := qL (Z3p N)
def eE : EnTryz := ⟨189, sG, [.v ty0, .v ty0], _, Z1y N, pk1 .bool, enK Tryz.func189,
 fun s1 s2 => eo (eS N) Tryz.func189 N an_ (Y4 .bool) (tq (b := Z70 N (El0 N N) s1 s2) (by rw [ql0]; rfl))⟩
end Z1y
namespace Z6q
def sG := sgV [.val ty8, .val ty3, .val ty3] [(.bool, .dp)]
def eS : List EnTryz := [Z1y.eE N]
def eE : EnTryz := ⟨139, sG, [.v ty8, .v ty3, .v ty3], _, Z6q N, pk1 .bool, enK Tryz.func139,
 fun c a b => eo (eS N) Tryz.func139 N an0 (Y4 .bool)⟩
end Z6q
namespace Z6c
def sG := sgV [.val ty10] [(ty14, .dp)]
def eS : List EnTryz := [Z6q.eE N]
def an_ : Nat -> Option (List Nat)
 | 0 => some [1, 3, 9, 10, 11]
 | _ => none
def lP (p : List Dir) := lpE (eS N) N an_ p Tryz.f76 (endK Tb sG Tryz.f76 [] (un1 ty14))
def El0 (k_ : Nat) (a : R0) (c : A0) (d : L0) (t9 : A0) (e : Int) (f : Int) : Option L0 :=
 lP N [.r, .r, .l, .r, .b] [] k_ (un 1 (.con (.box ⟨39, false, []⟩) [lf ty8 a .ro, lf ty9 c .ro] :: (un 1 (cd ty14 d :: (un 5 (cr ty9 t9 :: (cr i64 e :: (cr i64 f :: (un 42 [])))))))))
theorem ql0 (N : Nat) : ∀ k_, El0 N k_ = Z41 N k_ := qL (Z8b N)
def eE : EnTryz := ⟨76, sG, [.v ty10], _, Z6c N, pk1 ty14, enK Tryz.func76,
 fun db => eo (eS N) Tryz.func76 N an_ (Y4 ty14) (tq (b := Z0bi N (El0 N N) db) (by rw [ql0]; rfl))⟩
end Z6c
namespace Z4n
def sG := sgV [.val ty14] [(i64, .dp)]
def eS (N : Nat) : List EnTryz := []
def an_ : Nat -> Option (List Nat)
 | 0 => some [3, 6, 7, 8]
 | _ => none
def lP (p : List Dir) := lpE (eS N) N an_ p Tryz.f77 (endK Tb sG Tryz.f77 [] (un1 i64))
def El0 (k_ : Nat) (a : Int) (t6 : L0) (t7 : Int) (t8 : Int) : Option (Int) :=
 lP N [.r, .r, .l, .r, .b] [] k_ (un 3 (cr i64 a :: (un 2 (cr ty14 t6 :: (cr i64 t7 :: (cr i64 t8 :: (un 9 [])))))))
theorem ql0 (N : Nat) : ∀ k_, El0 N k_ = Z38 N k_ := qL (Z54 N)
def eE : EnTryz := ⟨77, sG, [.v ty14], _, Z4n N, pk1 i64, enK Tryz.func77,
 fun a => eo (eS N) Tryz.func77 N an_ (Y4 i64) (tq (b := Z9o N (El0 N N) a) (by rw [ql0]; rfl))⟩
end Z4n
namespace Z4x
def sG := sgV [.val ty14, .val i64] [(ty0, .dp)]
def eS (N : Nat) : List EnTryz := []
def an_ : Nat -> Option (List Nat)
 | 0 => some [0, 1, 5, 6]
 | _ => none
def lP (p : List Dir) := lpE (eS N) N an_ p Tryz.f78 (endK Tb sG Tryz.f78 [] (un1 ty0))
def El0 (k_ : Nat) (a : L0) (c : Int) (d : I0) (i : Int) : Option I0 :=
 lP N [.r, .r, .l, .r, .b] [] k_ (cr ty14 a :: (cr i64 c :: (un 3 (cd ty0 d :: (cr i64 i :: (un 34 []))))))
theorem ql0 (N : Nat) : ∀ k_, El0 N k_ = Z4o N k_ := qL (Z6w N)
def eE : EnTryz := ⟨78, sG, [.v ty14, .v i64], _, Z4x N, pk1 ty0, enK Tryz.func78,
 fun a c => eo (eS N) Tryz.func78 N an_ (Y4 ty0) (tq (b := Z9j N (El0 N N) a c) (by rw [ql0]; rfl))⟩
end Z4x
namespace Z2x
def sG := sgV [.val ty0, .val i64] [(i64, .dp)]
def eS (N : Nat) : List EnTryz := []
def an_ : Nat -> Option (List Nat)
 | 0 => some [0, 1, 7, 8]
 | _ => none
def lP (p : List Dir) := lpE (eS N) N an_ p Tryz.f230 (endK Tb sG Tryz.f230 [] (un1 i64))
def El0 (k_ : Nat) (s2 : I0) (v2 : Int) (t7 : Int) (t8 : Int) : Option (Int) :=
 lP N [.r, .l, .r, .b] [] k_ (cr ty0 s2 :: (cr i64 v2 :: (un 5 (cr i64 t7 :: (cr i64 t8 :: (un 10 []))))))
theorem ql0 (N : Nat) : ∀ k_, El0 N k_ = Z1z N k_ := qL (Z3q N)
def eE : EnTryz := ⟨230, sG, [.v ty0, .v i64], _, Z2x N, pk1 i64, enK Tryz.func230,
 fun s v => eo (eS N) Tryz.func230 N an_ (Y4 i64) (tq (b := Z71 N (El0 N N) s v) (by rw [ql0]; rfl))⟩
end Z2x
namespace Z1g
def sG := sgV [.val ty0, .val i64] [(.bool, .dp)]
def eS : List EnTryz := [Z2x.eE N]
def eE : EnTryz := ⟨192, sG, [.v ty0, .v i64], _, Z1g N, pk1 .bool, enK Tryz.func192,
 fun s v => eo (eS N) Tryz.func192 N an0 (Y4 .bool)⟩
end Z1g
namespace Z4y
def sG := sgV [.val i64, .ptr ty0] [(.bool, .dp)]
def eS : List EnTryz := [Z1g.eE N]
def eE : EnTryz := ⟨191, sG, [.v i64, .p ty0], _, Z4y N, pk1 .bool, enK Tryz.func191,
 fun n c1 => eo (eS N) Tryz.func191 N an0 (Y4 .bool)⟩
end Z4y
namespace Z0k
def sG := sgV [.val ty0, .clo] [(i64, .dp)]
def eS : List EnTryz := [Z4y.eE N]
def an_ : Nat -> Option (List Nat)
 | 0 => some [0, 1, 7, 8]
 | _ => none
def lP (p : List Dir) := lpE (eS N) N an_ p Tryz.f183 (endK Tb sG Tryz.f183 [] (un1 i64))
def El0 (k_ : Nat) (s2 : I0) (f : I0) (t7 : Int) (t8 : Int) : Option (Int) :=
 lP N [.r, .l, .r, .b] [] k_ (cr ty0 s2 :: (.cloR 191 [⟨ty0, f⟩] :: (un 5 (cr i64 t7 :: (cr i64 t8 :: (un 10 []))))))
theorem ql0 (N : Nat) : ∀ k_, El0 N k_ = Z0f N k_ := qL (Z13 N)
def eE : EnTryz := ⟨183, sG, [.v ty0, .c 191 [ty0]], _, Z0k N, pk1 i64, enK Tryz.func183,
 fun s c => eo (eS N) Tryz.func183 N an_ (Y4 i64) (tq (b := Z2j N (El0 N N) s c) (by rw [ql0]; rfl))⟩
end Z0k
namespace Z0g
def sG := sgV [.val ty0, .clo] [(.bool, .dp)]
def eS : List EnTryz := [Z0k.eE N]
def eE : EnTryz := ⟨134, sG, [.v ty0, .c 191 [ty0]], _, Z0g N, pk1 .bool, enK Tryz.func134,
 fun s c => eo (eS N) Tryz.func134 N an0 (Y4 .bool)⟩
end Z0g
namespace Z5r
def sG := sgV [.val ty0, .val ty0] [(.bool, .dp)]
def eS : List EnTryz := [Z0g.eE N]
def eE : EnTryz := ⟨142, sG, [.v ty0, .v ty0], _, Z5r N, pk1 .bool, enK Tryz.func142,
 fun a b => eo (eS N) Tryz.func142 N an0 (Y4 .bool)⟩
end Z5r
namespace Z4p
def sG := sgV [.val ty0, .ptr ty0] [(.bool, .dp)]
def eS : List EnTryz := [Z5r.eE N]
def eE : EnTryz := ⟨141, sG, [.v ty0, .p ty0], _, Z4p N, pk1 .bool, enK Tryz.func141,
 fun a c1 => eo (eS N) Tryz.func141 N an0 (Y4 .bool)⟩
end Z4p
namespace Z0h
def sG := sgV [.val ty14, .clo] [(i64, .dp)]
def eS : List EnTryz := [Z4p.eE N]
def an_ : Nat -> Option (List Nat)
 | 0 => some [0, 1, 7, 8]
 | _ => none
def lP (p : List Dir) := lpE (eS N) N an_ p Tryz.f190 (endK Tb sG Tryz.f190 [] (un1 i64))
def El0 (k_ : Nat) (s2 : L0) (f : I0) (t7 : Int) (t8 : Int) : Option (Int) :=
 lP N [.r, .l, .r, .b] [] k_ (cr ty14 s2 :: (.cloR 141 [⟨ty0, f⟩] :: (un 5 (cr i64 t7 :: (cr i64 t8 :: (un 10 []))))))
theorem ql0 (N : Nat) : ∀ k_, El0 N k_ = Z9 N k_ := qL (Z0v N)
def eE : EnTryz := ⟨190, sG, [.v ty14, .c 141 [ty0]], _, Z0h N, pk1 i64, enK Tryz.func190,
 fun s c => eo (eS N) Tryz.func190 N an_ (Y4 i64) (tq (b := Z20 N (El0 N N) s c) (by rw [ql0]; rfl))⟩
end Z0h
namespace Z0a
def sG := sgV [.val ty14, .clo] [(.bool, .dp)]
def eS : List EnTryz := [Z0h.eE N]
def eE : EnTryz := ⟨140, sG, [.v ty14, .c 141 [ty0]], _, Z0a N, pk1 .bool, enK Tryz.func140,
 fun s c => eo (eS N) Tryz.func140 N an0 (Y4 .bool)⟩
end Z0a
namespace Z42
def sG := sgV [.val ty14, .val ty0] [(.bool, .dp)]
def eS : List EnTryz := [Z0a.eE N]
def eE : EnTryz := ⟨79, sG, [.v ty14, .v ty0], _, Z42 N, pk1 .bool, enK Tryz.func79,
 fun a b => eo (eS N) Tryz.func79 N an0 (Y4 .bool)⟩
end Z42
namespace Z5s
def sG := sgV [.val ty0, .val ty0] [(i64, .dp)]
def eS (N : Nat) : List EnTryz := []
def an_ : Nat -> Option (List Nat)
 | 0 => some [0, 5, 8, 9, 10]
 | _ => none
def lP (p : List Dir) := lpE (eS N) N an_ p Tryz.f80 (endK Tb sG Tryz.f80 [] (un1 i64))
def El0 (k_ : Nat) (a : I0) (c : Int) (t8 : I0) (t9 : Int) (d : Int) : Option (Int) :=
 lP N [.r, .r, .l, .r, .b] [] k_ (cr ty0 a :: (un 4 (cr i64 c :: (un 2 (cr ty0 t8 :: (cr i64 t9 :: (cr i64 d :: (un 11 []))))))))
theorem ql0 (N : Nat) : ∀ k_, El0 N k_ = Z6r N k_ := qL (Z90 N)
def eE : EnTryz := ⟨80, sG, [.v ty0, .v ty0], _, Z5s N, pk1 i64, enK Tryz.func80,
 fun a c => eo (eS N) Tryz.func80 N an_ (Y4 i64) (tq (b := Z9n N (El0 N N) a c) (by rw [ql0]; rfl))⟩
end Z5s
namespace Z1r
def sG := sgV [.val ty10, .val ty0] [(i64, .dp)]
def eS : List EnTryz := [Z1e.eE N, Z6c.eE N]
def an_ : Nat -> Option (List Nat)
 | 0 => some [1, 5, 16, 17, 18]
 | 2 => some [1, 5, 8, 16, 17, 18, 22, 23, 24]
 | _ => none
def lP (p : List Dir) := lpE (eS N) N an_ p Tryz.f82 (endK Tb sG Tryz.f82 [] (un1 i64))
def El1 (a : Nat) (k_ : Nat) (c : I0) (d : Int) (e : Int) (f : L0) (g : Int) (h : Int) (i : Int) (j : I0) (k : Int) (m : Int) : Option (Int) :=
 lP N [.r, .r, .r, .l, .r, .b, .b, .r, .r, .l, .b, .r, .r, .l, .r, .b] [lP N [.r, .r, .r, .l, .r, .b] [] a] k_ (un 1 (cr ty0 c :: (un 3 (cr i64 d :: (un 2 (cr i64 e :: (un 7 (cd ty14 f :: (cr i64 g :: (cr i64 h :: (un 3 (.con .val [⟨ty0, j, (.bor 16 0 [(i, 0)])⟩] :: (cr i64 k :: (cr i64 m :: (un 15 [])))))))))))))))
def El0 (k_ : Nat) (a : I0) (c : Int) (d : L0) (e : Int) (f : Int) : Option (Int) :=
 lP N [.r, .r, .r, .l, .r, .b] [] k_ (un 1 (cr ty0 a :: (un 3 (cr i64 c :: (un 10 (cd ty14 d :: (cr i64 e :: (cr i64 f :: (un 21 [])))))))))
theorem ql1 (N : Nat) (k0_ : Nat) : ∀ k_, El1 N k0_ k_ = Z1h (El0 N k0_) N k_ := qL (Z43 N (El0 N k0_))
theorem ql0 (N : Nat) : ∀ k_, El0 N k_ = Z15 N k_
 | 0 => by kernel_rfl
 | k_ + 1 => (show El0 N (k_ + 1) = Z44 N (El1 N k_ N) (El0 N k_) from by kernel_rfl).trans (by simp only [ql1, ql0 N k_]; rfl)
def eE : EnTryz := ⟨82, sG, [.v ty10, .v ty0], _, Z1r N, pk1 i64, enK Tryz.func82,
 fun db a => eo (eS N) Tryz.func82 N an_ (Y4 i64) (tq (b := Z79 N (El0 N N) db a) (by rw [ql0]; rfl))⟩
end Z1r
namespace Z9v
def sG := sgV [.val i64, .val i64] [(i64, .dp)]
def eS (N : Nat) : List EnTryz := []
def an_ : Nat -> Option (List Nat)
 | 0 => some [0, 1]
 | _ => none
def lP (p : List Dir) := lpE (eS N) N an_ p Tryz.f143 (endK Tb sG Tryz.f143 [] (un1 i64))
def El0 (k_ : Nat) (a2 : Int) (b2 : Int) : Option (Int) :=
 lP N [.r, .l, .b] [] k_ (cr i64 a2 :: (cr i64 b2 :: (un 10 [])))
theorem ql0 (N : Nat) : ∀ k_, El0 N k_ = Z99 N k_ := qL (Z0a8 N)
def eE : EnTryz := ⟨143, sG, [.v i64, .v i64], _, Z9v N, pk1 i64, enK Tryz.func143,
 fun a b => eo (eS N) Tryz.func143 N an_ (Y4 i64) (tq (b := Z0be N (El0 N N) a b) (by rw [ql0]; rfl))⟩
end Z9v
namespace Z5b
def sG := sgV [.val i64, .val i64] [(ty16, .dp)]
def eS : List EnTryz := [Z9v.eE N]
def eE : EnTryz := ⟨81, sG, [.v i64, .v i64], _, Z5b N, pk1 ty16, enK Tryz.func81,
 fun a b => eo (eS N) Tryz.func81 N an0 (Y4 ty16)⟩
end Z5b
namespace Z31
def sG := sgV [.val ty10, .val ty0, .val ty12] [(ty16, .dp), (.bool, .dp)]
def eS : List EnTryz := [Z4x.eE N, Z42.eE N, Z5s.eE N, Z1r.eE N, Z5b.eE N, Z2u.eE N, Z1e.eE N, Z4w.eE N, Z6c.eE N, Z4n.eE N]
def an_ : Nat -> Option (List Nat)
 | 0 => some [1, 3, 6, 8, 9, 10, 30, 31]
 | _ => none
def lP (p : List Dir) := lpE (eS N) N an_ p Tryz.f20 (endK Tb sG Tryz.f20 [] (un2 ty16 .bool))
def El0 (k_ : Nat) (a : I0) (c : R0) (d : A0) (t6 : Int) (e : Int) (f : L0) (g : L0) (h : Int) (i : Int) (j : Int) : Option ((Int × Int) × Bool) :=
 lP N [.r, .r, .r, .l, .r, .b] [] k_ (un 1 (cr ty0 a :: (un 1 (.con (.box ⟨39, false, []⟩) [lf ty8 c .ro, lf ty9 d .ro] :: (un 2 (.con (.box ⟨33, false, []⟩) [lf i64 t6 .ro, lf i64 e .ro] :: (un 1 (cd ty14 f :: (cd ty14 g :: (cr i64 h :: (un 19 (cr i64 i :: (cr i64 j :: (un 19 []))))))))))))))
theorem ql0 (N : Nat) : ∀ k_, El0 N k_ = Z3j N k_ := qL (Z84 N)
def eE : EnTryz := ⟨20, sG, [.v ty10, .v ty0, .v ty12], _, Z31 N, pk2 ty16 .bool, enK Tryz.func20,
 fun db a c => eo (eS N) Tryz.func20 N an_ (Y45 ty16 .bool) (tq (b := Z7a N (El0 N N) db a c) (by rw [ql0]; rfl))⟩
end Z31
namespace Z0x
def sG := sgV [.val ty10, .val ty0, .val ty12] [(ty16, .dp), (.bool, .dp)]
def eS : List EnTryz := [Z31.eE N]
def eE : EnTryz := ⟨13, sG, [.v ty10, .v ty0, .v ty12], _, Z0x N, pk2 ty16 .bool, enK Tryz.func13,
 fun db a b => eo (eS N) Tryz.func13 N an0 (Y45 ty16 .bool)⟩
end Z0x
namespace Z5m
def sG := sgV [.val ty16, .val ty16] [(.bool, .dp)]
def eS (N : Nat) : List EnTryz := []
def eE : EnTryz := ⟨14, sG, [.v ty16, .v ty16], _, Z5m N, pk1 .bool, enK Tryz.func14,
 fun a b => eo (eS N) Tryz.func14 N an0 (Y4 .bool)⟩
end Z5m
namespace Z4h
def sG := sgV [.val ty1, .val ty1] [(.bool, .dp)]
def eS (N : Nat) : List EnTryz := []
def eE : EnTryz := ⟨122, sG, [.v ty1, .v ty1], _, Z4h N, pk1 .bool, enK Tryz.func122,
 fun a b => eo (eS N) Tryz.func122 N an0 (Y4 .bool)⟩
end Z4h
namespace Z3u
def sG := sgV [.val ty8, .val ty8] [(.bool, .dp)]
def eS : List EnTryz := [Z4h.eE N]
def an_ : Nat -> Option (List Nat)
 | 0 => some [0, 1, 5]
 | _ => none
def lP (p : List Dir) := lpE (eS N) N an_ p Tryz.f68 (endK Tb sG Tryz.f68 [] (un1 .bool))
def El0 (k_ : Nat) (a2 : R0) (b2 : R0) (i : Int) : Option (Bool) :=
 lP N [.r, .r, .l, .r, .b] [] k_ (cr ty8 a2 :: (cr ty8 b2 :: (un 3 (cr i64 i :: (un 21 [])))))
theorem ql0 (N : Nat) : ∀ k_, El0 N k_ = Z3k N k_ := qL (Z5n N)
def eE : EnTryz := ⟨68, sG, [.v ty8, .v ty8], _, Z3u N, pk1 .bool, enK Tryz.func68,
 fun a b => eo (eS N) Tryz.func68 N an_ (Y4 .bool) (tq (b := Z91 N (El0 N N) a b) (by rw [ql0]; rfl))⟩
end Z3u
namespace Z2n
def sG := sgV [.val ty0, .val ty0] [(.bool, .dp)]
def eS (N : Nat) : List EnTryz := []
def an_ : Nat -> Option (List Nat)
 | 0 => some [0, 1, 5]
 | _ => none
def lP (p : List Dir) := lpE (eS N) N an_ p Tryz.f16 (endK Tb sG Tryz.f16 [] (un1 .bool))
def El0 (k_ : Nat) (a2 : I0) (b2 : I0) (i : Int) : Option (Bool) :=
 lP N [.r, .r, .l, .r, .b] [] k_ (cr ty0 a2 :: (cr ty0 b2 :: (un 3 (cr i64 i :: (un 20 [])))))
theorem ql0 (N : Nat) : ∀ k_, El0 N k_ = Z6e N k_ := qL (Z8c N)
def eE : EnTryz := ⟨16, sG, [.v ty0, .v ty0], _, Z2n N, pk1 .bool, enK Tryz.func16,
 fun a b => eo (eS N) Tryz.func16 N an_ (Y4 .bool) (tq (b := Z0a9 N (El0 N N) a b) (by rw [ql0]; rfl))⟩
end Z2n
namespace Z7n
def sG := sgV [.val ty3, .val ty3] [(.bool, .dp)]
def eS : List EnTryz := [Z2n.eE N]
def eE : EnTryz := ⟨123, sG, [.v ty3, .v ty3], _, Z7n N, pk1 .bool, enK Tryz.func123,
 fun a b => eo (eS N) Tryz.func123 N an0 (Y4 .bool)⟩
end Z7n
namespace Z6s
def sG := sgV [.val ty9, .val ty9] [(.bool, .dp)]
def eS : List EnTryz := [Z7n.eE N]
def an_ : Nat -> Option (List Nat)
 | 0 => some [0, 1, 5]
 | _ => none
def lP (p : List Dir) := lpE (eS N) N an_ p Tryz.f69 (endK Tb sG Tryz.f69 [] (un1 .bool))
def El0 (k_ : Nat) (a2 : A0) (b2 : A0) (i : Int) : Option (Bool) :=
 lP N [.r, .r, .l, .r, .b] [] k_ (cr ty9 a2 :: (cr ty9 b2 :: (un 3 (cr i64 i :: (un 21 [])))))
theorem ql0 (N : Nat) : ∀ k_, El0 N k_ = Z5o N k_ := qL (Z7v N)
def eE : EnTryz := ⟨69, sG, [.v ty9, .v ty9], _, Z6s N, pk1 .bool, enK Tryz.func69,
 fun a b => eo (eS N) Tryz.func69 N an_ (Y4 .bool) (tq (b := Z9w N (El0 N N) a b) (by rw [ql0]; rfl))⟩
end Z6s
namespace Z4i
def sG := sgV [.val ty10, .val ty10] [(.bool, .dp)]
def eS : List EnTryz := [Z3u.eE N, Z6s.eE N]
def eE : EnTryz := ⟨15, sG, [.v ty10, .v ty10], _, Z4i N, pk1 .bool, enK Tryz.func15,
 fun a b => eo (eS N) Tryz.func15 N an0 (Y4 .bool)⟩
end Z4i
namespace Z7o
def sG := sgV [.val ty3, .val ty3] [(.bool, .dp)]
def eS : List EnTryz := [Z2n.eE N]
def eE : EnTryz := ⟨124, sG, [.v ty3, .v ty3], _, Z7o N, pk1 .bool, enK Tryz.func124,
 fun a b => eo (eS N) Tryz.func124 N an0 (Y4 .bool)⟩
end Z7o
namespace Z6t
def sG := sgV [.val ty11, .val ty11] [(.bool, .dp)]
def eS : List EnTryz := [Z7o.eE N]
def an_ : Nat -> Option (List Nat)
 | 0 => some [0, 1, 5]
 | _ => none
def lP (p : List Dir) := lpE (eS N) N an_ p Tryz.f70 (endK Tb sG Tryz.f70 [] (un1 .bool))
def El0 (k_ : Nat) (a2 : A0) (b2 : A0) (i : Int) : Option (Bool) :=
 lP N [.r, .r, .l, .r, .b] [] k_ (cr ty11 a2 :: (cr ty11 b2 :: (un 3 (cr i64 i :: (un 21 [])))))
theorem ql0 (N : Nat) : ∀ k_, El0 N k_ = Z5p N k_ := qL (Z7w N)
def eE : EnTryz := ⟨70, sG, [.v ty11, .v ty11], _, Z6t N, pk1 .bool, enK Tryz.func70,
 fun a b => eo (eS N) Tryz.func70 N an_ (Y4 .bool) (tq (b := Z9x N (El0 N N) a b) (by rw [ql0]; rfl))⟩
end Z6t
namespace Z6u
def sG := sgV [.val ty12, .val ty12] [(.bool, .dp)]
def eS : List EnTryz := [Z6t.eE N, Z2n.eE N]
def eE : EnTryz := ⟨17, sG, [.v ty12, .v ty12], _, Z6u N, pk1 .bool, enK Tryz.func17,
 fun a b => eo (eS N) Tryz.func17 N an0 (Y4 .bool)⟩
end Z6u
namespace laws_FnExactProbabilityByComponents
def sG := sgV [.val ty5, .val ty0, .val ty7] [(.bool, .dp)]
def eS : List EnTryz := [Z49.eE N, Z6h.eE N, Z2r.eE N, Z1p.eE N, Z4b.eE N, Z0e.eE N, Z0x.eE N, Z5m.eE N, Z4i.eE N, Z2n.eE N, Z6u.eE N]
def eE : EnTryz := ⟨3, sG, [.v ty5, .v ty0, .v ty7], _, laws_FnExactProbabilityByComponents N, pk1 .bool, enK Tryz.func3,
 fun a b c => eo (eS N) Tryz.func3 N an0 (Y4 .bool)⟩
end laws_FnExactProbabilityByComponents
end
end Go.PL
