/- What the machine does at each function is what the plain reading says. Conditions: none. -/
import Derived.Test.YtpbgkahaplnfmaaGreatFpG
import Derived.Test.YtpbgkahaplnfmaaGreatPlA
import Derived.Test.YtpbgkahaplnfmaaGreatProg

set_option linter.unusedVariables false
set_option linter.unusedSimpArgs false
set_option linter.unnecessarySimpa false

namespace Go.Proofs
open Go.Shelf
open Go.RowKit Go.Lib
def Tryz.lays189_ren : Go.Shelf.Ren := ⟨fun | 189 => 137 | 125 => 198 | 257 => 197 | 128 => 260 | 129 => 261 | 294 => 251 | 295 => 252 | 296 => 253 | 297 => 254 | 298 => 255 | 299 => 256 | 216 => 257 | 300 => 258 | 301 => 259 | 328 => 288 | 329 => 289 | 330 => 290 | 331 => 291 | 332 => 292 | 215 => 293 | 343 => 307 | n => n, fun | 28 => 26 | 3 => 3 | 46 => 191 | 0 => 0 | 51 => 235 | 53 => 237 | 4 => 4 | 183 => 228 | 182 => 227 | 131 => 232 | 5 => 5 | 9 => 9 | 218 => 249 | 222 => 253 | 228 => 267 | 229 => 53 | n => n, fun | n => n⟩
theorem Tryz.lays189 : Go.Proofs.Lays.n189 Tryz.prog Tryz.lays189_ren := {
 mixed := by kernel_rfl
 f125 := Tryz.func198.trans (congrArg some (by kernel_rfl))
 f128 := Tryz.func260.trans (congrArg some (by kernel_rfl))
 f129 := Tryz.func261.trans (congrArg some (by kernel_rfl))
 f189 := Tryz.func137.trans (congrArg some (by kernel_rfl))
 f215 := Tryz.func293.trans (congrArg some (by kernel_rfl))
 f216 := Tryz.func257.trans (congrArg some (by kernel_rfl))
 f257 := Tryz.func197.trans (congrArg some (by kernel_rfl))
 f294 := Tryz.func251.trans (congrArg some (by kernel_rfl))
 f295 := Tryz.func252.trans (congrArg some (by kernel_rfl))
 f296 := Tryz.func253.trans (congrArg some (by kernel_rfl))
 f297 := Tryz.func254.trans (congrArg some (by kernel_rfl))
 f298 := Tryz.func255.trans (congrArg some (by kernel_rfl))
 f299 := Tryz.func256.trans (congrArg some (by kernel_rfl))
 f300 := Tryz.func258.trans (congrArg some (by kernel_rfl))
 f301 := Tryz.func259.trans (congrArg some (by kernel_rfl))
 f328 := Tryz.func288.trans (congrArg some (by kernel_rfl))
 f329 := Tryz.func289.trans (congrArg some (by kernel_rfl))
 f330 := Tryz.func290.trans (congrArg some (by kernel_rfl))
 f331 := Tryz.func291.trans (congrArg some (by kernel_rfl))
 f332 := Tryz.func292.trans (congrArg some (by kernel_rfl))
 f343 := Tryz.func307.trans (congrArg some (by kernel_rfl))
 t0 := Tryz.underlying0
 a0 := Tryz.isAgg0
 z0 := Tryz.sizeOf0
 v0 := Tryz.zeroValue0
 t3 := Tryz.underlying3
 a3 := Tryz.isAgg3
 z3 := Tryz.sizeOf3
 v3 := Tryz.zeroValue3
 t4 := Tryz.underlying4
 a4 := Tryz.isAgg4
 z4 := Tryz.sizeOf4
 v4 := Tryz.zeroValue4
 t5 := Tryz.underlying5
 a5 := Tryz.isAgg5
 z5 := Tryz.sizeOf5
 v5 := Tryz.zeroValue5
 t9 := Tryz.underlying9
 a9 := Tryz.isAgg9
 z9 := Tryz.sizeOf9
 v9 := Tryz.zeroValue9
 t28 := Tryz.underlying26
 a28 := Tryz.isAgg26
 z28 := Tryz.sizeOf26
 v28 := Tryz.zeroValue26
 t46 := Tryz.underlying191
 a46 := Tryz.isAgg191
 z46 := Tryz.sizeOf191
 v46 := Tryz.zeroValue191
 t51 := Tryz.underlying235
 a51 := Tryz.isAgg235
 z51 := Tryz.sizeOf235
 v51 := Tryz.zeroValue235
 t53 := Tryz.underlying237
 a53 := Tryz.isAgg237
 z53 := Tryz.sizeOf237
 v53 := Tryz.zeroValue237
 t131 := Tryz.underlying232
 a131 := Tryz.isAgg232
 z131 := Tryz.sizeOf232
 v131 := Tryz.zeroValue232
 t182 := Tryz.underlying227
 a182 := Tryz.isAgg227
 z182 := Tryz.sizeOf227
 v182 := Tryz.zeroValue227
 t183 := Tryz.underlying228
 a183 := Tryz.isAgg228
 z183 := Tryz.sizeOf228
 v183 := Tryz.zeroValue228
 t218 := Tryz.underlying249
 a218 := Tryz.isAgg249
 z218 := Tryz.sizeOf249
 v218 := Tryz.zeroValue249
 t222 := Tryz.underlying253
 a222 := Tryz.isAgg253
 z222 := Tryz.sizeOf253
 v222 := Tryz.zeroValue253
 t228 := Tryz.underlying267
 a228 := Tryz.isAgg267
 z228 := Tryz.sizeOf267
 v228 := Tryz.zeroValue267
 t229 := Tryz.underlying53
 a229 := Tryz.isAgg53
 z229 := Tryz.sizeOf53
 v229 := Tryz.zeroValue53 }
def Tryz.lays212_ren : Go.Shelf.Ren := ⟨fun | 212 => 287 | 263 => 305 | 264 => 306 | n => n, fun | 46 => 191 | 51 => 235 | 146 => 263 | 53 => 237 | 148 => 265 | n => n, fun | n => n⟩
theorem Tryz.lays212 : Go.Proofs.Lays.n212 Tryz.prog Tryz.lays212_ren := {
 mixed := by kernel_rfl
 f212 := Tryz.func287.trans (congrArg some (by kernel_rfl))
 f263 := Tryz.func305.trans (congrArg some (by kernel_rfl))
 f264 := Tryz.func306.trans (congrArg some (by kernel_rfl))
 t46 := Tryz.underlying191
 a46 := Tryz.isAgg191
 z46 := Tryz.sizeOf191
 v46 := Tryz.zeroValue191
 t51 := Tryz.underlying235
 a51 := Tryz.isAgg235
 z51 := Tryz.sizeOf235
 v51 := Tryz.zeroValue235
 t53 := Tryz.underlying237
 a53 := Tryz.isAgg237
 z53 := Tryz.sizeOf237
 v53 := Tryz.zeroValue237
 t146 := Tryz.underlying263
 a146 := Tryz.isAgg263
 z146 := Tryz.sizeOf263
 v146 := Tryz.zeroValue263
 t148 := Tryz.underlying265
 a148 := Tryz.isAgg265
 z148 := Tryz.sizeOf265
 v148 := Tryz.zeroValue265 }
def Tryz.laysNm220_ren : Go.Shelf.Ren := ⟨fun | 20 => 170 | n => n, fun | 22 => 26 | 3 => 3 | 4 => 4 | 0 => 0 | n => n, fun | n => n⟩
theorem Tryz.laysNm220 : Go.Proofs.Lays2.n20 Tryz.prog Tryz.laysNm220_ren := {
 mixed := by kernel_rfl
 f20 := Tryz.func170.trans (congrArg some (by kernel_rfl))
 t0 := Tryz.underlying0
 a0 := Tryz.isAgg0
 z0 := Tryz.sizeOf0
 v0 := Tryz.zeroValue0
 t3 := Tryz.underlying3
 a3 := Tryz.isAgg3
 z3 := Tryz.sizeOf3
 v3 := Tryz.zeroValue3
 t4 := Tryz.underlying4
 a4 := Tryz.isAgg4
 z4 := Tryz.sizeOf4
 v4 := Tryz.zeroValue4
 t22 := Tryz.underlying26
 a22 := Tryz.isAgg26
 z22 := Tryz.sizeOf26
 v22 := Tryz.zeroValue26
 i3 := by kernel_rfl }
set_option maxHeartbeats 1000000 in
set_option maxRecDepth 100000 in
theorem repeat_walk
  (n : Nat) (hn : n * 8 <= 140737488355328) (ad : Addr) (cx : Nat) (v : Int) (w : World) (hc : w.cell? ad = some (.int .i64 v)) :
  Calls Tryz.prog 250 #[.slice (some ad) 1 cx, .int .i64 (n : Int)] w fun e w' => e = .returned (.slice (some ⟨w.heap.size, 0, none⟩) n n) /\ ∃ m, w' = (Go.Sort.ahead w m).alloc (.cells (Array.replicate n (.int .i64 v)) 3) := by
 have mixed : Tryz.prog.follows .mixedOrders = true := by decide
 have t3 := Tryz.underlying3
 have a3 := Tryz.isAgg3
 have z3 := Tryz.sizeOf3
 have t4 := Tryz.underlying4
 have t26 := Tryz.underlying26
 have a26 := Tryz.isAgg26
 have z26 := Tryz.sizeOf26
 have v26 := Tryz.zeroValue26
 have t191 := Tryz.underlying191
 have e287 := fun args w => Tryz.call287 args w
 have hinfo : (Tryz.prog.info? 3).map (fun i => (i.zero, i.size, i.bytes)) = some (some (.int .i64 0), 1, 8) := by kernel_rfl
 have hM : Calls Tryz.prog 287 #[.int .u64 1, .int .u64 (n : Int)] w fun e w' => e = .returned (.tuple #[.int .u64 0, .int .u64 (n : Int)]) /\ w' = w := by
  have h := Any.bits_Mul Tryz.lays212 1 n (by omega) (by omega) w
  rw [show Tryz.lays212_ren.f 212 = 287 from rfl, Nat.one_mul, Nat.div_eq_of_lt (by omega), Nat.mod_eq_of_lt (by omega)] at h
  exact h
 have hmk := run_make_row' (P := Tryz.prog) 26 3 (.int .i64 0) 8 t26 hinfo rfl .i64 .i64 n (by omega) (by omega)
 go_enter Tryz.func250, Tryz.ntmps250
 have hsz : (Tryz.prog.info? 3).map (·.size) = some 1 := by
  cases h : Tryz.prog.info? 3 with
  | none => rw [h] at hinfo; cases hinfo
  | some i => rw [h] at hinfo; simp at hinfo; simp [hinfo.2.1]
 have hcp1 := fun (ty : TypeId) => Ycj (n := n) (cx := cx) (v := v) t26 hsz hc ty
 have hcpk := fun (k : Nat) (hk : k <= n) (cx cy : Nat) (ty : TypeId) => Y8m (w := w) (v := v) t26 hsz hk cx cy ty
 go_wp2_with (first
  | (go_at_call 287; go_fit hM; rintro e w' ⟨rfl, hw⟩; rw [hw])
  | (refine wpList_copy_runI _ rfl (.tmp 31) (.tmp 32) 26 26 rfl _ _ rfl rfl (hcp1 _) ?_))
 go_loopg [8] (n - min 1 n) (fun g s8 wx => ∃ k m : Nat, min 1 n <= k /\ k <= n /\ g = n - k /\ s8 = .int .i64 (k : Int) /\ wx = (Go.Sort.ahead w m).alloc (.cells (repRow n v k).toArray 3))
 case atStart => exact ⟨min 1 n, 0, Nat.le_refl _, by omega, rfl, rfl, rfl⟩
 case round =>
  obtain ⟨k, m, hk1, hk2, hkg, rfl, hwr⟩ := hrel
  by_cases hlt : (k : Int) < (n : Int)
  ·have A : Aside (wr = (Go.Sort.ahead w m).alloc (.cells (repRow n v k).toArray 3)) := hwr
   clear hwr hcp1 hmk
   go_wp2_with fail
   have hcp := fun (ty : TypeId) => Y8m (P := Tryz.prog) (w := Go.Sort.ahead w (m + 1)) (n := n) (k := k) (v := v) t26 hsz (by omega) (n - k) n ty
   have hW : wr.drew = (Go.Sort.ahead w (m + 1)).alloc (.cells (repRow n v k).toArray 3) := by rw [A.out]; rfl
   rw [<- hW] at hcp
   go_region_law_o (refine step_copy_runI rfl _ _ 26 26 rfl (.slice (some ⟨w.heap.size, k, none⟩) (n - k) (n - k)) (.slice (some ⟨w.heap.size, 0, none⟩) k n) (by simp [Act.eval, Act.put]; try omega) (by simp [Act.eval, Act.put]; try omega) (hcp _) ?_)
   go_wp2
   go_roundg (n - (k + min k (n - k)))
   case measure => omega
   case rel => exact ⟨k + min k (n - k), m + 1, by omega, by omega, rfl, by
     congr 1
     rw [IntKind.wrap_i64]
     omega, rfl⟩
  ·obtain rfl : k = n := by omega
   go_wp2
   go_ret
   refine ⟨rfl, m, ?_⟩
   simp [repRow]
theorem repeat_said : Go.FP.RepeatSaid Tryz.prog 250 3 := fun n ad cx v w hn hc => repeat_walk n hn ad cx v w hc
end Go.Proofs
namespace Go.PL
open Go.FP Go.Proofs Go.Shelf
set_option maxRecDepth 10000
variable (N : Nat)
abbrev i64 : Ty := .int .i64
abbrev ty0 : Ty := (.slice 3 i64)
abbrev ty1 : Ty := (.pair .str (.pair i64 i64))
abbrev ty2 : Ty := (.slice 128 (.pair .str (.pair i64 i64)))
abbrev ty3 : Ty := (.pair i64 (.slice 3 i64))
abbrev ty4 : Ty := (.slice 131 (.pair i64 (.slice 3 i64)))
abbrev ty5 : Ty := (.pair (.slice 128 (.pair .str (.pair i64 i64))) (.slice 131 (.pair i64 (.slice 3 i64))))
abbrev ty6 : Ty := (.slice 102 (.pair i64 (.pair i64 (.pair i64 (.pair i64 (.pair i64 (.pair i64 i64)))))))
abbrev ty7 : Ty := (.slice 134 (.pair i64 (.slice 3 i64)))
abbrev ty8 : Ty := (.pair i64 (.pair (.slice 134 (.pair i64 (.slice 3 i64))) (.slice 3 i64)))
abbrev ty9 : Ty := (.slice 141 (.pair .str (.pair i64 i64)))
abbrev ty10 : Ty := (.slice 143 (.pair i64 (.slice 3 i64)))
abbrev ty11 : Ty := (.pair (.slice 141 (.pair .str (.pair i64 i64))) (.slice 143 (.pair i64 (.slice 3 i64))))
abbrev ty12 : Ty := (.pair i64 (.pair i64 (.pair i64 (.pair i64 (.pair i64 (.pair i64 i64))))))
abbrev ty13 : Ty := (.slice 100 (.pair i64 (.pair i64 (.pair i64 (.pair i64 (.pair i64 (.pair i64 i64)))))))
abbrev ty14 : Ty := (.slice 145 (.pair i64 (.slice 3 i64)))
abbrev ty15 : Ty := (.pair i64 (.pair (.slice 145 (.pair i64 (.slice 3 i64))) (.slice 3 i64)))
abbrev ty16 : Ty := (.slice 113 (.pair i64 i64))
abbrev ty17 : Ty := (.slice 26 (.slice 3 i64))
abbrev ty18 : Ty := (.slice 4 .bool)
abbrev ty19 : Ty := (.slice 152 (.pair (.slice 3 i64) (.slice 3 i64)))
abbrev ty20 : Ty := (.pair i64 i64)
abbrev ty21 : Ty := (.pair (.slice 3 i64) (.slice 3 i64))
abbrev ty22 : Ty := (.slice 5 (.int .u8))
def Tb : Tab := [⟨3, i64, 8, [], false, false⟩,
 ⟨4, .bool, 1, [], false, false⟩,
 ⟨5, (.int .u8), 1, [], false, false⟩,
 ⟨9, .str, 16, [], false, false⟩,
 ⟨22, ty2, 24, [], false, false⟩,
 ⟨23, ty4, 24, [], false, false⟩,
 ⟨25, ty5, 48, [(0, 22), (1, 23)], false, false⟩,
 ⟨26, ty0, 24, [], false, false⟩,
 ⟨27, ty7, 24, [], false, false⟩,
 ⟨29, ty8, 56, [(0, 3), (1, 27), (2, 26)], false, false⟩,
 ⟨36, ty9, 24, [], false, false⟩,
 ⟨37, ty10, 24, [], false, false⟩,
 ⟨39, ty11, 48, [(0, 36), (1, 37)], false, false⟩,
 ⟨42, ty14, 24, [], false, false⟩,
 ⟨44, ty15, 56, [(0, 3), (1, 42), (2, 26)], false, false⟩,
 ⟨51, ty6, 24, [], false, false⟩,
 ⟨55, ty13, 24, [], false, false⟩,
 ⟨69, ty16, 24, [], false, false⟩,
 ⟨86, ty17, 24, [], false, false⟩,
 ⟨100, ty12, 56, [(0, 3), (1, 3), (2, 3), (3, 3), (4, 3), (5, 3), (6, 3)], false, false⟩,
 ⟨102, ty12, 56, [(0, 3), (1, 3), (2, 3), (3, 3), (4, 3), (5, 3), (6, 3)], false, false⟩,
 ⟨113, ty20, 16, [(0, 3), (1, 3)], false, false⟩,
 ⟨128, ty1, 32, [(0, 9), (1, 3), (2, 3)], false, false⟩,
 ⟨131, ty3, 32, [(0, 3), (1, 26)], false, false⟩,
 ⟨134, ty3, 32, [(0, 3), (1, 26)], false, false⟩,
 ⟨141, ty1, 32, [(0, 9), (1, 3), (2, 3)], false, false⟩,
 ⟨143, ty3, 32, [(0, 3), (1, 26)], false, false⟩,
 ⟨145, ty3, 32, [(0, 3), (1, 26)], false, false⟩,
 ⟨149, ty19, 24, [], false, false⟩,
 ⟨152, ty21, 48, [(0, 26), (1, 26)], false, false⟩,
 ⟨163, ty18, 24, [], false, false⟩,
 ⟨200, ty22, 24, [], false, false⟩,
 ⟨187, .bool, 8, [], true, false⟩,
 ⟨196, .bool, 8, [], true, false⟩]
theorem tab_ok : TabOk Tryz.prog Tb :=
 (Ya (TEOk.plain (i := Tryz.t3) (by kernel_rfl) rfl rfl (by kernel_rfl) rfl rfl rfl Tryz.underlying3)
 (Ya (TEOk.plain (i := Tryz.t4) (by kernel_rfl) rfl rfl (by kernel_rfl) rfl rfl rfl Tryz.underlying4)
 (Ya (TEOk.plain (i := Tryz.t5) (by kernel_rfl) rfl rfl (by kernel_rfl) rfl rfl rfl Tryz.underlying5)
 (Ya (TEOk.plain (i := Tryz.t9) (by kernel_rfl) rfl rfl (by kernel_rfl) rfl rfl rfl Tryz.underlying9)
 (Ya (TEOk.plain (i := Tryz.t22) (by kernel_rfl) rfl rfl (by kernel_rfl) rfl rfl rfl Tryz.underlying22)
 (Ya (TEOk.plain (i := Tryz.t23) (by kernel_rfl) rfl rfl (by kernel_rfl) rfl rfl rfl Tryz.underlying23)
 (Ya (TEOk.struct (i := Tryz.t25) (pl := [(0, 1), (1, 1)]) (by kernel_rfl) rfl rfl (by kernel_rfl) Tryz.underlying25 (by kernel_rfl) (by kernel_rfl) rfl rfl (fun h => by cases h))
 (Ya (TEOk.plain (i := Tryz.t26) (by kernel_rfl) rfl rfl (by kernel_rfl) rfl rfl rfl Tryz.underlying26)
 (Ya (TEOk.plain (i := Tryz.t27) (by kernel_rfl) rfl rfl (by kernel_rfl) rfl rfl rfl Tryz.underlying27)
 (Ya (TEOk.struct (i := Tryz.t29) (pl := [(0, 1), (1, 1), (2, 1)]) (by kernel_rfl) rfl rfl (by kernel_rfl) Tryz.underlying29 (by kernel_rfl) (by kernel_rfl) rfl rfl (fun h => by cases h))
 (Ya (TEOk.plain (i := Tryz.t36) (by kernel_rfl) rfl rfl (by kernel_rfl) rfl rfl rfl Tryz.underlying36)
 (Ya (TEOk.plain (i := Tryz.t37) (by kernel_rfl) rfl rfl (by kernel_rfl) rfl rfl rfl Tryz.underlying37)
 (Ya (TEOk.struct (i := Tryz.t39) (pl := [(0, 1), (1, 1)]) (by kernel_rfl) rfl rfl (by kernel_rfl) Tryz.underlying39 (by kernel_rfl) (by kernel_rfl) rfl rfl (fun h => by cases h))
 (Ya (TEOk.plain (i := Tryz.t42) (by kernel_rfl) rfl rfl (by kernel_rfl) rfl rfl rfl Tryz.underlying42)
 (Ya (TEOk.struct (i := Tryz.t44) (pl := [(0, 1), (1, 1), (2, 1)]) (by kernel_rfl) rfl rfl (by kernel_rfl) Tryz.underlying44 (by kernel_rfl) (by kernel_rfl) rfl rfl (fun h => by cases h))
 (Ya (TEOk.plain (i := Tryz.t51) (by kernel_rfl) rfl rfl (by kernel_rfl) rfl rfl rfl Tryz.underlying51)
 (Ya (TEOk.plain (i := Tryz.t55) (by kernel_rfl) rfl rfl (by kernel_rfl) rfl rfl rfl Tryz.underlying55)
 (Ya (TEOk.plain (i := Tryz.t69) (by kernel_rfl) rfl rfl (by kernel_rfl) rfl rfl rfl Tryz.underlying69)
 (Ya (TEOk.plain (i := Tryz.t86) (by kernel_rfl) rfl rfl (by kernel_rfl) rfl rfl rfl Tryz.underlying86)
 (Ya (TEOk.struct (i := Tryz.t100) (pl := [(0, 1), (1, 1), (2, 1), (3, 1), (4, 1), (5, 1), (6, 1)]) (by kernel_rfl) rfl rfl (by kernel_rfl) Tryz.underlying100 (by kernel_rfl) (by kernel_rfl) rfl rfl (fun h => by cases h))
 (Ya (TEOk.struct (i := Tryz.t102) (pl := [(0, 1), (1, 1), (2, 1), (3, 1), (4, 1), (5, 1), (6, 1)]) (by kernel_rfl) rfl rfl (by kernel_rfl) Tryz.underlying102 (by kernel_rfl) (by kernel_rfl) rfl rfl (fun h => by cases h))
 (Ya (TEOk.struct (i := Tryz.t113) (pl := [(0, 1), (1, 1)]) (by kernel_rfl) rfl rfl (by kernel_rfl) Tryz.underlying113 (by kernel_rfl) (by kernel_rfl) rfl rfl (fun h => by cases h))
 (Ya (TEOk.struct (i := Tryz.t128) (pl := [(0, 1), (1, 1), (2, 1)]) (by kernel_rfl) rfl rfl (by kernel_rfl) Tryz.underlying128 (by kernel_rfl) (by kernel_rfl) rfl rfl (fun h => by cases h))
 (Ya (TEOk.struct (i := Tryz.t131) (pl := [(0, 1), (1, 1)]) (by kernel_rfl) rfl rfl (by kernel_rfl) Tryz.underlying131 (by kernel_rfl) (by kernel_rfl) rfl rfl (fun h => by cases h))
 (Ya (TEOk.struct (i := Tryz.t134) (pl := [(0, 1), (1, 1)]) (by kernel_rfl) rfl rfl (by kernel_rfl) Tryz.underlying134 (by kernel_rfl) (by kernel_rfl) rfl rfl (fun h => by cases h))
 (Ya (TEOk.struct (i := Tryz.t141) (pl := [(0, 1), (1, 1), (2, 1)]) (by kernel_rfl) rfl rfl (by kernel_rfl) Tryz.underlying141 (by kernel_rfl) (by kernel_rfl) rfl rfl (fun h => by cases h))
 (Ya (TEOk.struct (i := Tryz.t143) (pl := [(0, 1), (1, 1)]) (by kernel_rfl) rfl rfl (by kernel_rfl) Tryz.underlying143 (by kernel_rfl) (by kernel_rfl) rfl rfl (fun h => by cases h))
 (Ya (TEOk.struct (i := Tryz.t145) (pl := [(0, 1), (1, 1)]) (by kernel_rfl) rfl rfl (by kernel_rfl) Tryz.underlying145 (by kernel_rfl) (by kernel_rfl) rfl rfl (fun h => by cases h))
 (Ya (TEOk.plain (i := Tryz.t149) (by kernel_rfl) rfl rfl (by kernel_rfl) rfl rfl rfl Tryz.underlying149)
 (Ya (TEOk.struct (i := Tryz.t152) (pl := [(0, 1), (1, 1)]) (by kernel_rfl) rfl rfl (by kernel_rfl) Tryz.underlying152 (by kernel_rfl) (by kernel_rfl) rfl rfl (fun h => by cases h))
 (Ya (TEOk.plain (i := Tryz.t163) (by kernel_rfl) rfl rfl (by kernel_rfl) rfl rfl rfl Tryz.underlying163)
 (Ya (TEOk.plain (i := Tryz.t200) (by kernel_rfl) rfl rfl (by kernel_rfl) rfl rfl rfl Tryz.underlying200)
 (Ya (TEOk.ofFn (i := Tryz.t187) (z := (Tryz.t187.zero).getD default) (by kernel_rfl) rfl (by kernel_rfl) (by kernel_rfl) Tryz.underlying187 rfl rfl)
 (Ya (TEOk.ofFn (i := Tryz.t196) (z := (Tryz.t196.zero).getD default) (by kernel_rfl) rfl (by kernel_rfl) (by kernel_rfl) Tryz.underlying196 rfl rfl)
 Yeh))))))))))))))))))))))))))))))))))
theorem mixed : Tryz.prog.follows .mixedOrders = true := by decide
def cps : FuncId -> List Ty := capsL [(183, [ty13, ty11]), (191, [ty3]), (194, [ty15, .bool, ty11, .bool]), (209, [i64, ty16, .bool, .bool]), (268, [ty0]), (282, [])]
def cpsS : FuncId -> List Ty := fun f => if f = 1000000007 then [.unit] else cps f
def cpsK : FuncId -> List Ty := fun f => if f = 1000000009 then [.unit] else cps f
section
variable {R : Type} (es : List (Entry Tryz.prog)) (N : Nat) (an : Nat -> Option (List Nat))
noncomputable abbrev evE (sg : Sig) (fn : Func) (args : List RV) (K : List (Σ t : Ty, t.D) -> Option R) : Option R :=
 evFn Tb (sigL es) cps (orcL es) (drawReg Tb (sigL es) cps (orcL es)) N an sg fn (fn.body.getD .skip) args K
noncomputable abbrev evES (sg : Sig) (fn : Func) (args : List RV) (K : List (Σ t : Ty, t.D) -> Option R) : Option R :=
 evFn Tb (sigL es) cpsS (orcL es) (drawReg Tb (sigL es) cpsS (orcL es)) N an sg fn (fn.body.getD .skip) args K
noncomputable abbrev lpES (p : List Dir) (fn : Func) (K : Exit -> Env -> Option R) (rs : List (Env -> Option R)) (k : Nat) (env : Env) : Option R :=
 loopAt Tb (sigL es) cpsS (orcL es) N an p (fn.body.getD .skip) K rs k env
noncomputable abbrev evEK (sg : Sig) (fn : Func) (args : List RV) (K : List (Σ t : Ty, t.D) -> Option R) : Option R :=
 evFn Tb (sigL es) cpsK (orcL es) (drawReg Tb (sigL es) cpsK (orcL es)) N an sg fn (fn.body.getD .skip) args K
noncomputable abbrev lpEK (p : List Dir) (fn : Func) (K : Exit -> Env -> Option R) (rs : List (Env -> Option R)) (k : Nat) (env : Env) : Option R :=
 loopAt Tb (sigL es) cpsK (orcL es) N an p (fn.body.getD .skip) K rs k env
noncomputable abbrev evB (sg : Sig) (b : BoxSig) (fn : Func) (args : List RV) (K : List (Σ t : Ty, t.D) -> Option R) : Option R :=
 evFnB Tb (sigL es) cps (orcL es) (drawReg Tb (sigL es) cps (orcL es)) N an sg b fn (fn.body.getD .skip) args K
noncomputable abbrev evG (k : Nat) (sg : Sig) (fn : Func) (args : List RV) (K : List (Σ t : Ty, t.D) -> Option R) : Option R :=
 evFnG Tb (sigL es) cps (orcL es) (drawReg Tb (sigL es) cps (orcL es)) N an k sg fn (fn.body.getD .skip) args K
noncomputable abbrev evN (id : TypeId) (t : Ty) (rs : List (Ty × Lvl)) (fn : Func) (args : List RV) (K : List (Σ t : Ty, t.D) -> Option R) : Option R :=
 evFnN Tb (sigL es) cps (orcL es) (drawReg Tb (sigL es) cps (orcL es)) N an id t rs fn (fn.body.getD .skip) args K
noncomputable abbrev lpE (p : List Dir) (fn : Func) (K : Exit -> Env -> Option R) (rs : List (Env -> Option R)) (k : Nat) (env : Env) : Option R :=
 loopAt Tb (sigL es) cps (orcL es) N an p (fn.body.getD .skip) K rs k env
end
abbrev EnTryz := Entry Tryz.prog
def an0 : Nat -> Option (List Nat) := fun _ => none
def sgV (ps : List PTy) (rs : List (Ty × Lvl)) : Sig := ⟨ps, rs, false, false, none, none, none⟩
theorem enK {f : FuncId} {fn : Func} (hf : Tryz.prog.funcs[f]? = some fn) (h : (fn.body.isNone || fn.name == "runtime.NumGoroutine") = false) : Enterable Tryz.prog f := ⟨fn, hf, (Bool.or_eq_false_iff.1 h).1, (Bool.or_eq_false_iff.1 h).2⟩
def plG (sg : Sig) : Bool := sg.box.isNone && (sg.newb.isNone && (!sg.muts && !sg.own))
theorem eok (es : List (Entry Tryz.prog)) (ha : agreeL es = true) {f : FuncId} {fn : Func} (hf : Tryz.prog.funcs[f]? = some fn) (hb : fn.body.isSome = true) (N : Nat) (an : Nat -> Option (List Nat)) {sg : Sig} (hs : plG sg = true) {args : List RV} {α : Type} {un : List (Σ t : Ty, t.D) -> Option α} {pk : α -> List (Σ t : Ty, t.D)} (hu : ∀ r xs, un xs = some r -> xs = pk r) {q : Option α} (h : evE es N an sg fn args un = q) :
  ∀ x, q = some x -> FnOk Tryz.prog f sg args (pk x) := by
 obtain ⟨ps, rs, m, o, b, n, g⟩ := sg
 simp only [plG, Bool.and_eq_true, Bool.not_eq_true', Option.isNone_iff_eq_none] at hs
 obtain ⟨rfl, rfl, rfl, rfl⟩ := hs
 exact Y40 tab_ok ha mixed hf (by cases h : fn.body with | none => rw [h] at hb; cases hb | some c => rfl) ⟨⟨rfl, rfl⟩, rfl, rfl⟩ hu h
theorem eokS (es : List (Entry Tryz.prog)) (ha : agreeL es = true) {f : FuncId} {fn : Func} (hf : Tryz.prog.funcs[f]? = some fn) (hb : fn.body.isSome = true) (N : Nat) (an : Nat -> Option (List Nat)) {sg : Sig} (hs : plG sg = true) {args : List RV} {α : Type} {un : List (Σ t : Ty, t.D) -> Option α} {pk : α -> List (Σ t : Ty, t.D)} (hu : ∀ r xs, un xs = some r -> xs = pk r) {q : Option α} (h : evES es N an sg fn args un = q) :
  ∀ x, q = some x -> FnOk Tryz.prog f sg args (pk x) := by
 obtain ⟨ps, rs, m, o, b, n, g⟩ := sg
 simp only [plG, Bool.and_eq_true, Bool.not_eq_true', Option.isNone_iff_eq_none] at hs
 obtain ⟨rfl, rfl, rfl, rfl⟩ := hs
 exact Y40 tab_ok ha mixed hf (by cases h : fn.body with | none => rw [h] at hb; cases hb | some c => rfl) ⟨⟨rfl, rfl⟩, rfl, rfl⟩ hu h
theorem eokK (es : List (Entry Tryz.prog)) (ha : agreeL es = true) {f : FuncId} {fn : Func} (hf : Tryz.prog.funcs[f]? = some fn) (hb : fn.body.isSome = true) (N : Nat) (an : Nat -> Option (List Nat)) {sg : Sig} (hs : plG sg = true) {args : List RV} {α : Type} {un : List (Σ t : Ty, t.D) -> Option α} {pk : α -> List (Σ t : Ty, t.D)} (hu : ∀ r xs, un xs = some r -> xs = pk r) {q : Option α} (h : evEK es N an sg fn args un = q) :
  ∀ x, q = some x -> FnOk Tryz.prog f sg args (pk x) := by
 obtain ⟨ps, rs, m, o, b, n, g⟩ := sg
 simp only [plG, Bool.and_eq_true, Bool.not_eq_true', Option.isNone_iff_eq_none] at hs
 obtain ⟨rfl, rfl, rfl, rfl⟩ := hs
 exact Y40 tab_ok ha mixed hf (by cases h : fn.body with | none => rw [h] at hb; cases hb | some c => rfl) ⟨⟨rfl, rfl⟩, rfl, rfl⟩ hu h
theorem Z0bh : Bears Tryz.prog 168 (SlBodyN.n41 (renL 168 0 3 4 26 3)) := ⟨Tryz.f168.name, by kernel_rfl, Tryz.func168.trans (congrArg some (by kernel_rfl))⟩
noncomputable def Z5g : Entry Tryz.prog := ⟨168, ⟨[.val ty0], [(ty0, .dp)], false, false, none, none, none⟩, [.v ty0], I0, Z0w N, pk1 ty0, Y1u Tryz.func168 (code := Tryz.f168.body.getD .skip) (by kernel_rfl) (by kernel_rfl),
 fun s q h => Yd1 tab_ok mixed Z0bh (by kernel_rfl) Tryz.underlying4 (te := ⟨3, i64, 8, [], false, false⟩) (by kernel_rfl) rfl rfl h⟩
def lay_Grow_ren : Ren := ⟨fun _ => 227, fun | 0 => 0 | 3 => 3 | 4 => 4 | 9 => 9 | 20 => 20 | 22 => 26 | _ => 3, id⟩
theorem lay_Grow : Lays8.n4 Tryz.prog lay_Grow_ren := {
 mixed := by kernel_rfl
 f4 := ⟨Tryz.f227.name, by kernel_rfl, Tryz.func227.trans (congrArg some (by kernel_rfl))⟩
 t0 := Tryz.underlying0
 a0 := Tryz.isAgg0
 z0 := Tryz.sizeOf0
 v0 := Tryz.zeroValue0
 t3 := Tryz.underlying3
 a3 := Tryz.isAgg3
 z3 := Tryz.sizeOf3
 v3 := Tryz.zeroValue3
 t4 := Tryz.underlying4
 a4 := Tryz.isAgg4
 z4 := Tryz.sizeOf4
 v4 := Tryz.zeroValue4
 t9 := Tryz.underlying9
 a9 := Tryz.isAgg9
 z9 := Tryz.sizeOf9
 v9 := Tryz.zeroValue9
 t20 := Tryz.underlying20
 a20 := Tryz.isAgg20
 z20 := Tryz.sizeOf20
 v20 := Tryz.zeroValue20
 t22 := Tryz.underlying26
 a22 := Tryz.isAgg26
 z22 := Tryz.sizeOf26
 v22 := Tryz.zeroValue26 }
noncomputable def Z0br : Entry Tryz.prog := ⟨227, ⟨[.val ty0, .val i64], [(ty0, .dp)], true, true, none, none, none⟩, [.v ty0, .v i64], I0, Z8v N, pk1 ty0, Y1u Tryz.func227 (code := Tryz.f227.body.getD .skip) (by kernel_rfl) (by kernel_rfl),
 fun s n q h => Ye0 (Ye1 lay_Grow (i0 := Tryz.t3) (z := (Tryz.t3.zero).getD default) (by kernel_rfl) (by kernel_rfl) (by kernel_rfl) (by kernel_rfl) (by kernel_rfl)) h⟩
noncomputable def Z0bs : Entry Tryz.prog := ⟨137, ⟨[.val ty0], [], true, false, none, none, none⟩, [.v ty0], I0, Z8w N, pk1 ty0, Y1u Tryz.func137 (code := Tryz.f137.body.getD .skip) (by kernel_rfl) (by kernel_rfl),
 fun s q h => Ydz (Ye2 Tryz.lays189) h⟩
noncomputable def Z0b9 : Entry Tryz.prog := ⟨170, ⟨[.val ty0], [(ty0, .dp)], true, true, none, none, none⟩, [.v ty0], I0, Z7m N, pk1 ty0, Y1u Tryz.func170 (code := Tryz.f170.body.getD .skip) (by kernel_rfl) (by kernel_rfl),
 fun s q h => Yb2 (Yb3 Tryz.laysNm220) h⟩
noncomputable def Z0bg : Entry Tryz.prog := ⟨250, ⟨[.val ty0, .val i64], [(ty0, .dp)], true, true, none, none, none⟩, [.v ty0, .v i64], I0, Z82 N, pk1 ty0, Y1u Tryz.func250 (code := Tryz.f250.body.getD .skip) (by kernel_rfl) (by kernel_rfl),
 fun s n q h => Ych repeat_said h⟩
namespace Z42
def sG := sgV [.val ty1, .val i64] [(i64, .dp)]
noncomputable def eS (N : Nat) : List EnTryz := []
noncomputable def eE : EnTryz := ⟨119, sG, [.v ty1, .v i64], _, Z42 N, pk1 i64, enK Tryz.func119 (by kernel_rfl),
 fun a left_ => eok (eS N) (by kernel_rfl) Tryz.func119 rfl N an0 rfl (Y4 i64) (by kernel_rfl)⟩
end Z42
namespace Z4h
def sG := sgV [.val ty2, .val i64] [(i64, .dp)]
noncomputable def eS : List EnTryz := [Z42.eE N]
def an_ : Nat -> Option (List Nat)
 | 0 => some [0, 1, 5]
 | _ => none
noncomputable def lP (p : List Dir) (rs : List (Env -> Option (Int))) (k : Nat) (env : Env) : Option (Int) :=
 lpE (eS N) N an_ p Tryz.f56 (endK Tb sG Tryz.f56 [] (un1 i64)) rs k env
noncomputable def El0 (k_ : Nat) (a2 : R0) (left_2 : Int) (i : Int) : Option (Int) :=
 lP N [.r, .r, .r, .l, .r, .b] [] k_ (.con .val [lf ty2 a2 .ro] :: (.con .val [lf i64 left_2 .ro] :: (un 3 (.con .val [lf i64 i .ro] :: (un 21 [])))))
theorem ql0 (N : Nat) : ∀ k_, El0 N k_ = Z44 N k_
 | 0 => by kernel_rfl
 | k_ + 1 => (show El0 N (k_ + 1) = Z69 N (El0 N k_) from by kernel_rfl).trans (by simp only [ql0 N k_]; rfl)
noncomputable def eE : EnTryz := ⟨56, sG, [.v ty2, .v i64], _, Z4h N, pk1 i64, enK Tryz.func56 (by kernel_rfl),
 fun a left_ => eok (eS N) (by kernel_rfl) Tryz.func56 rfl N an_ rfl (Y4 i64) (.trans (b := Z9m N (El0 N N) a left_) (by kernel_rfl) (by rw [ql0]; rfl))⟩
end Z4h
namespace Z48
def sG := sgV [.val ty0, .val i64] [(i64, .dp)]
noncomputable def eS (N : Nat) : List EnTryz := []
noncomputable def eE : EnTryz := ⟨59, sG, [.v ty0, .v i64], _, Z48 N, pk1 i64, enK Tryz.func59 (by kernel_rfl),
 fun a left_ => eok (eS N) (by kernel_rfl) Tryz.func59 rfl N an0 rfl (Y4 i64) (by kernel_rfl)⟩
end Z48
namespace Z6y
def sG := sgV [.val ty3, .val i64] [(i64, .dp)]
noncomputable def eS : List EnTryz := [Z48.eE N]
noncomputable def eE : EnTryz := ⟨120, sG, [.v ty3, .v i64], _, Z6y N, pk1 i64, enK Tryz.func120 (by kernel_rfl),
 fun a left_ => eok (eS N) (by kernel_rfl) Tryz.func120 rfl N an0 rfl (Y4 i64) (by kernel_rfl)⟩
end Z6y
namespace Z72
def sG := sgV [.val ty4, .val i64] [(i64, .dp)]
noncomputable def eS : List EnTryz := [Z6y.eE N]
def an_ : Nat -> Option (List Nat)
 | 0 => some [0, 1, 5]
 | _ => none
noncomputable def lP (p : List Dir) (rs : List (Env -> Option (Int))) (k : Nat) (env : Env) : Option (Int) :=
 lpE (eS N) N an_ p Tryz.f57 (endK Tb sG Tryz.f57 [] (un1 i64)) rs k env
noncomputable def El0 (k_ : Nat) (a2 : A0) (left_2 : Int) (i : Int) : Option (Int) :=
 lP N [.r, .r, .r, .l, .r, .b] [] k_ (.con .val [lf ty4 a2 .ro] :: (.con .val [lf i64 left_2 .ro] :: (un 3 (.con .val [lf i64 i .ro] :: (un 21 [])))))
theorem ql0 (N : Nat) : ∀ k_, El0 N k_ = Z6a N k_
 | 0 => by kernel_rfl
 | k_ + 1 => (show El0 N (k_ + 1) = Z8g N (El0 N k_) from by kernel_rfl).trans (by simp only [ql0 N k_]; rfl)
noncomputable def eE : EnTryz := ⟨57, sG, [.v ty4, .v i64], _, Z72 N, pk1 i64, enK Tryz.func57 (by kernel_rfl),
 fun a left_ => eok (eS N) (by kernel_rfl) Tryz.func57 rfl N an_ rfl (Y4 i64) (.trans (b := Z0ad N (El0 N N) a left_) (by kernel_rfl) (by rw [ql0]; rfl))⟩
end Z72
namespace Z4u
def sG := sgV [.val ty5, .val i64] [(i64, .dp)]
noncomputable def eS : List EnTryz := [Z4h.eE N, Z72.eE N]
noncomputable def eE : EnTryz := ⟨14, sG, [.v ty5, .v i64], _, Z4u N, pk1 i64, enK Tryz.func14 (by kernel_rfl),
 fun a left_ => eok (eS N) (by kernel_rfl) Tryz.func14 rfl N an0 rfl (Y4 i64) (by kernel_rfl)⟩
end Z4u
namespace Z1b
def sG := sgV [.val ty6, .val i64] [(i64, .dp)]
noncomputable def eS (N : Nat) : List EnTryz := []
noncomputable def eE : EnTryz := ⟨27, sG, [.v ty6, .v i64], _, Z1b N, pk1 i64, enK Tryz.func27 (by kernel_rfl),
 fun a left_ => eok (eS N) (by kernel_rfl) Tryz.func27 rfl N an0 rfl (Y4 i64) (by kernel_rfl)⟩
end Z1b
namespace Z6z
def sG := sgV [.val ty3, .val i64] [(i64, .dp)]
noncomputable def eS : List EnTryz := [Z48.eE N]
noncomputable def eE : EnTryz := ⟨121, sG, [.v ty3, .v i64], _, Z6z N, pk1 i64, enK Tryz.func121 (by kernel_rfl),
 fun a left_ => eok (eS N) (by kernel_rfl) Tryz.func121 rfl N an0 rfl (Y4 i64) (by kernel_rfl)⟩
end Z6z
namespace Z73
def sG := sgV [.val ty7, .val i64] [(i64, .dp)]
noncomputable def eS : List EnTryz := [Z6z.eE N]
def an_ : Nat -> Option (List Nat)
 | 0 => some [0, 1, 5]
 | _ => none
noncomputable def lP (p : List Dir) (rs : List (Env -> Option (Int))) (k : Nat) (env : Env) : Option (Int) :=
 lpE (eS N) N an_ p Tryz.f58 (endK Tb sG Tryz.f58 [] (un1 i64)) rs k env
noncomputable def El0 (k_ : Nat) (a2 : A0) (left_2 : Int) (i : Int) : Option (Int) :=
 lP N [.r, .r, .r, .l, .r, .b] [] k_ (.con .val [lf ty7 a2 .ro] :: (.con .val [lf i64 left_2 .ro] :: (un 3 (.con .val [lf i64 i .ro] :: (un 21 [])))))
theorem ql0 (N : Nat) : ∀ k_, El0 N k_ = Z6b N k_
 | 0 => by kernel_rfl
 | k_ + 1 => (show El0 N (k_ + 1) = Z8h N (El0 N k_) from by kernel_rfl).trans (by simp only [ql0 N k_]; rfl)
noncomputable def eE : EnTryz := ⟨58, sG, [.v ty7, .v i64], _, Z73 N, pk1 i64, enK Tryz.func58 (by kernel_rfl),
 fun a left_ => eok (eS N) (by kernel_rfl) Tryz.func58 rfl N an_ rfl (Y4 i64) (.trans (b := Z0ae N (El0 N N) a left_) (by kernel_rfl) (by rw [ql0]; rfl))⟩
end Z73
namespace Z74
def sG := sgV [.val ty8, .val i64] [(i64, .dp)]
noncomputable def eS : List EnTryz := [Z73.eE N, Z48.eE N]
noncomputable def eE : EnTryz := ⟨15, sG, [.v ty8, .v i64], _, Z74 N, pk1 i64, enK Tryz.func15 (by kernel_rfl),
 fun a left_ => eok (eS N) (by kernel_rfl) Tryz.func15 rfl N an0 rfl (Y4 i64) (by kernel_rfl)⟩
end Z74
namespace Z4v
def sG := sgV [.val ty1] [(ty1, .dp)]
noncomputable def eS (N : Nat) : List EnTryz := []
noncomputable def eE : EnTryz := ⟨129, sG, [.v ty1], _, Z4v N, pk1 ty1, enK Tryz.func129 (by kernel_rfl),
 fun a => eok (eS N) (by kernel_rfl) Tryz.func129 rfl N an0 rfl (Y4 ty1) (by kernel_rfl)⟩
end Z4v
namespace Z4i
def sG := sgV [.val ty2] [(ty9, .dp)]
noncomputable def eS : List EnTryz := [Z4v.eE N]
def an_ : Nat -> Option (List Nat)
 | 0 => some [0, 3, 4]
 | _ => none
noncomputable def lP (p : List Dir) (rs : List (Env -> Option R0)) (k : Nat) (env : Env) : Option R0 :=
 lpE (eS N) N an_ p Tryz.f65 (endK Tb sG Tryz.f65 [] (un1 ty9)) rs k env
noncomputable def El0 (k_ : Nat) (a2 : R0) (out : R0) (i : Int) : Option R0 :=
 lP N [.r, .r, .l, .r, .b] [] k_ (.con .val [lf ty2 a2 .ro] :: (un 2 (.con .val [lf ty9 out .dp] :: (.con .val [lf i64 i .ro] :: (un 18 [])))))
theorem ql0 (N : Nat) : ∀ k_, El0 N k_ = Z45 N k_
 | 0 => by kernel_rfl
 | k_ + 1 => (show El0 N (k_ + 1) = Z6c N (El0 N k_) from by kernel_rfl).trans (by simp only [ql0 N k_]; rfl)
noncomputable def eE : EnTryz := ⟨65, sG, [.v ty2], _, Z4i N, pk1 ty9, enK Tryz.func65 (by kernel_rfl),
 fun a => eok (eS N) (by kernel_rfl) Tryz.func65 rfl N an_ rfl (Y4 ty9) (.trans (b := Z9n N (El0 N N) a) (by kernel_rfl) (by rw [ql0]; rfl))⟩
end Z4i
namespace Z49
def sG := sgV [.val ty0] [(ty0, .dp)]
noncomputable def eS (N : Nat) : List EnTryz := []
def an_ : Nat -> Option (List Nat)
 | 0 => some [0, 3, 4]
 | _ => none
noncomputable def lP (p : List Dir) (rs : List (Env -> Option I0)) (k : Nat) (env : Env) : Option I0 :=
 lpE (eS N) N an_ p Tryz.f18 (endK Tb sG Tryz.f18 [] (un1 ty0)) rs k env
noncomputable def El0 (k_ : Nat) (a2 : I0) (out : I0) (i : Int) : Option I0 :=
 lP N [.r, .r, .l, .r, .b] [] k_ (.con .val [lf ty0 a2 .ro] :: (un 2 (.con .val [lf ty0 out .dp] :: (.con .val [lf i64 i .ro] :: (un 17 [])))))
theorem ql0 (N : Nat) : ∀ k_, El0 N k_ = Z70 N k_
 | 0 => by kernel_rfl
 | k_ + 1 => (show El0 N (k_ + 1) = Z8x N (El0 N k_) from by kernel_rfl).trans (by simp only [ql0 N k_]; rfl)
noncomputable def eE : EnTryz := ⟨18, sG, [.v ty0], _, Z49 N, pk1 ty0, enK Tryz.func18 (by kernel_rfl),
 fun a => eok (eS N) (by kernel_rfl) Tryz.func18 rfl N an_ rfl (Y4 ty0) (.trans (b := Z0aw N (El0 N N) a) (by kernel_rfl) (by rw [ql0]; rfl))⟩
end Z49
namespace Z83
def sG := sgV [.val ty3] [(ty3, .dp)]
noncomputable def eS : List EnTryz := [Z49.eE N]
noncomputable def eE : EnTryz := ⟨130, sG, [.v ty3], _, Z83 N, pk1 ty3, enK Tryz.func130 (by kernel_rfl),
 fun a => eok (eS N) (by kernel_rfl) Tryz.func130 rfl N an0 rfl (Y4 ty3) (by kernel_rfl)⟩
end Z83
namespace Z75
def sG := sgV [.val ty4] [(ty10, .dp)]
noncomputable def eS : List EnTryz := [Z83.eE N]
def an_ : Nat -> Option (List Nat)
 | 0 => some [0, 3, 4]
 | _ => none
noncomputable def lP (p : List Dir) (rs : List (Env -> Option A0)) (k : Nat) (env : Env) : Option A0 :=
 lpE (eS N) N an_ p Tryz.f66 (endK Tb sG Tryz.f66 [] (un1 ty10)) rs k env
noncomputable def El0 (k_ : Nat) (a2 : A0) (out : A0) (i : Int) : Option A0 :=
 lP N [.r, .r, .l, .r, .b] [] k_ (.con .val [lf ty4 a2 .ro] :: (un 2 (.con .val [lf ty10 out .dp] :: (.con .val [lf i64 i .ro] :: (un 18 [])))))
theorem ql0 (N : Nat) : ∀ k_, El0 N k_ = Z6d N k_
 | 0 => by kernel_rfl
 | k_ + 1 => (show El0 N (k_ + 1) = Z8i N (El0 N k_) from by kernel_rfl).trans (by simp only [ql0 N k_]; rfl)
noncomputable def eE : EnTryz := ⟨66, sG, [.v ty4], _, Z75 N, pk1 ty10, enK Tryz.func66 (by kernel_rfl),
 fun a => eok (eS N) (by kernel_rfl) Tryz.func66 rfl N an_ rfl (Y4 ty10) (.trans (b := Z0af N (El0 N N) a) (by kernel_rfl) (by rw [ql0]; rfl))⟩
end Z75
namespace Z2b
def sG := sgV [.val ty5] [(ty11, .dp)]
noncomputable def eS : List EnTryz := [Z4i.eE N, Z75.eE N]
noncomputable def eE : EnTryz := ⟨17, sG, [.v ty5], _, Z2b N, pk1 ty11, enK Tryz.func17 (by kernel_rfl),
 fun a => eok (eS N) (by kernel_rfl) Tryz.func17 rfl N an0 rfl (Y4 ty11) (by kernel_rfl)⟩
end Z2b
namespace Z2e
def sG := sgV [.val ty12] [(ty12, .dp)]
noncomputable def eS (N : Nat) : List EnTryz := []
noncomputable def eE : EnTryz := ⟨88, sG, [.v ty12], _, Z2e N, pk1 ty12, enK Tryz.func88 (by kernel_rfl),
 fun a => eok (eS N) (by kernel_rfl) Tryz.func88 rfl N an0 rfl (Y4 ty12) (by kernel_rfl)⟩
end Z2e
namespace Z0h
def sG := sgV [.val ty6] [(ty13, .dp)]
noncomputable def eS : List EnTryz := [Z2e.eE N]
def an_ : Nat -> Option (List Nat)
 | 0 => some [0, 3, 4]
 | _ => none
noncomputable def lP (p : List Dir) (rs : List (Env -> Option (List C0))) (k : Nat) (env : Env) : Option (List C0) :=
 lpE (eS N) N an_ p Tryz.f29 (endK Tb sG Tryz.f29 [] (un1 ty13)) rs k env
noncomputable def El0 (k_ : Nat) (a2 : List C0) (out : List C0) (i : Int) : Option (List C0) :=
 lP N [.r, .r, .l, .r, .b] [] k_ (.con .val [lf ty6 a2 .ro] :: (un 2 (.con .val [lf ty13 out .dp] :: (.con .val [lf i64 i .ro] :: (un 18 [])))))
theorem ql0 (N : Nat) : ∀ k_, El0 N k_ = Z1d N k_
 | 0 => by kernel_rfl
 | k_ + 1 => (show El0 N (k_ + 1) = Z39 N (El0 N k_) from by kernel_rfl).trans (by simp only [ql0 N k_]; rfl)
noncomputable def eE : EnTryz := ⟨29, sG, [.v ty6], _, Z0h N, pk1 ty13, enK Tryz.func29 (by kernel_rfl),
 fun a => eok (eS N) (by kernel_rfl) Tryz.func29 rfl N an_ rfl (Y4 ty13) (.trans (b := Z6n N (El0 N N) a) (by kernel_rfl) (by rw [ql0]; rfl))⟩
end Z0h
namespace Z84
def sG := sgV [.val ty3] [(ty3, .dp)]
noncomputable def eS : List EnTryz := [Z49.eE N]
noncomputable def eE : EnTryz := ⟨131, sG, [.v ty3], _, Z84 N, pk1 ty3, enK Tryz.func131 (by kernel_rfl),
 fun a => eok (eS N) (by kernel_rfl) Tryz.func131 rfl N an0 rfl (Y4 ty3) (by kernel_rfl)⟩
end Z84
namespace Z76
def sG := sgV [.val ty7] [(ty14, .dp)]
noncomputable def eS : List EnTryz := [Z84.eE N]
def an_ : Nat -> Option (List Nat)
 | 0 => some [0, 3, 4]
 | _ => none
noncomputable def lP (p : List Dir) (rs : List (Env -> Option A0)) (k : Nat) (env : Env) : Option A0 :=
 lpE (eS N) N an_ p Tryz.f67 (endK Tb sG Tryz.f67 [] (un1 ty14)) rs k env
noncomputable def El0 (k_ : Nat) (a2 : A0) (out : A0) (i : Int) : Option A0 :=
 lP N [.r, .r, .l, .r, .b] [] k_ (.con .val [lf ty7 a2 .ro] :: (un 2 (.con .val [lf ty14 out .dp] :: (.con .val [lf i64 i .ro] :: (un 18 [])))))
theorem ql0 (N : Nat) : ∀ k_, El0 N k_ = Z6e N k_
 | 0 => by kernel_rfl
 | k_ + 1 => (show El0 N (k_ + 1) = Z8j N (El0 N k_) from by kernel_rfl).trans (by simp only [ql0 N k_]; rfl)
noncomputable def eE : EnTryz := ⟨67, sG, [.v ty7], _, Z76 N, pk1 ty14, enK Tryz.func67 (by kernel_rfl),
 fun a => eok (eS N) (by kernel_rfl) Tryz.func67 rfl N an_ rfl (Y4 ty14) (.trans (b := Z0ah N (El0 N N) a) (by kernel_rfl) (by rw [ql0]; rfl))⟩
end Z76
namespace Z4a
def sG := sgV [.val ty8] [(ty15, .dp)]
noncomputable def eS : List EnTryz := [Z76.eE N, Z49.eE N]
noncomputable def eE : EnTryz := ⟨19, sG, [.v ty8], _, Z4a N, pk1 ty15, enK Tryz.func19 (by kernel_rfl),
 fun a => eok (eS N) (by kernel_rfl) Tryz.func19 rfl N an0 rfl (Y4 ty15) (by kernel_rfl)⟩
end Z4a
namespace Z6
def sG := sgV [.val i64, .val i64, .val i64] [(.bool, .dp)]
noncomputable def eS (N : Nat) : List EnTryz := []
noncomputable def eE : EnTryz := ⟨124, sG, [.v i64, .v i64, .v i64], _, Z6 N, pk1 .bool, enK Tryz.func124 (by kernel_rfl),
 fun x low high => eok (eS N) (by kernel_rfl) Tryz.func124 rfl N an0 rfl (Y4 .bool) (by kernel_rfl)⟩
end Z6
namespace Z9
def sG := sgV [.val ty1] [(.bool, .dp)]
noncomputable def eS : List EnTryz := [Z6.eE N]
noncomputable def eE : EnTryz := ⟨246, sG, [.v ty1], _, Z9 N, pk1 .bool, enK Tryz.func246 (by kernel_rfl),
 fun s => eok (eS N) (by kernel_rfl) Tryz.func246 rfl N an0 rfl (Y4 .bool) (by kernel_rfl)⟩
end Z9
namespace Z0f
def sG := sgV [.val ty9] [(.bool, .dp)]
noncomputable def eS : List EnTryz := [Z9.eE N]
def an_ : Nat -> Option (List Nat)
 | 0 => some [0, 3]
 | _ => none
noncomputable def lP (p : List Dir) (rs : List (Env -> Option (Bool))) (k : Nat) (env : Env) : Option (Bool) :=
 lpE (eS N) N an_ p Tryz.f187 (endK Tb sG Tryz.f187 [] (un1 .bool)) rs k env
noncomputable def El0 (k_ : Nat) (l2 : R0) (i : Int) : Option (Bool) :=
 lP N [.r, .l, .r, .b] [] k_ (.con .val [lf ty9 l2 .ro] :: (un 2 (.con .val [lf i64 i .ro] :: (un 33 []))))
theorem ql0 (N : Nat) : ∀ k_, El0 N k_ = Z0l N k_
 | 0 => by kernel_rfl
 | k_ + 1 => (show El0 N (k_ + 1) = Z1e N (El0 N k_) from by kernel_rfl).trans (by simp only [ql0 N k_]; rfl)
noncomputable def eE : EnTryz := ⟨187, sG, [.v ty9], _, Z0f N, pk1 .bool, enK Tryz.func187 (by kernel_rfl),
 fun l => eok (eS N) (by kernel_rfl) Tryz.func187 rfl N an_ rfl (Y4 .bool) (.trans (b := Z4w N (El0 N N) l) (by kernel_rfl) (by rw [ql0]; rfl))⟩
end Z0f
namespace Z10
def sG := sgV [.val ty9, .val ty3] [(.bool, .dp)]
noncomputable def eS : List EnTryz := [Z6.eE N, Z0f.eE N]
def an_ : Nat -> Option (List Nat)
 | 0 => some [3, 5]
 | _ => none
noncomputable def lP (p : List Dir) (rs : List (Env -> Option (Bool))) (k : Nat) (env : Env) : Option (Bool) :=
 lpE (eS N) N an_ p Tryz.f185 (endK Tb sG Tryz.f185 [] (un1 .bool)) rs k env
noncomputable def El0 (k_ : Nat) (f2 : Int) (f3 : I0) (i : Int) : Option (Bool) :=
 lP N [.r, .r, .l, .r, .b] [] k_ (un 3 (.con (.box ⟨143, false, []⟩) [lf i64 f2 .ro, lf ty0 f3 .ro] :: (un 1 (.con .val [lf i64 i .ro] :: (un 38 [])))))
theorem ql0 (N : Nat) : ∀ k_, El0 N k_ = Z46 N k_
 | 0 => by kernel_rfl
 | k_ + 1 => (show El0 N (k_ + 1) = Z6f N (El0 N k_) from by kernel_rfl).trans (by simp only [ql0 N k_]; rfl)
noncomputable def eE : EnTryz := ⟨185, sG, [.v ty9, .v ty3], _, Z10 N, pk1 .bool, enK Tryz.func185 (by kernel_rfl),
 fun l f => eok (eS N) (by kernel_rfl) Tryz.func185 rfl N an_ rfl (Y4 .bool) (.trans (b := Z9o N (El0 N N) l f) (by kernel_rfl) (by rw [ql0]; rfl))⟩
end Z10
namespace Z5u
def sG := sgV [.val ty0, .val ty0] [(i64, .dp)]
noncomputable def eS (N : Nat) : List EnTryz := []
def an_ : Nat -> Option (List Nat)
 | 0 => some [0, 1, 5]
 | _ => none
noncomputable def lP (p : List Dir) (rs : List (Env -> Option (Int))) (k : Nat) (env : Env) : Option (Int) :=
 lpE (eS N) N an_ p Tryz.f174 (endK Tb sG Tryz.f174 [] (un1 i64)) rs k env
noncomputable def El0 (k_ : Nat) (a2 : I0) (b2 : I0) (i : Int) : Option (Int) :=
 lP N [.r, .l, .r, .b] [] k_ (.con .val [lf ty0 a2 .ro] :: (.con .val [lf ty0 b2 .ro] :: (un 3 (.con .val [lf i64 i .ro] :: (un 40 [])))))
theorem ql0 (N : Nat) : ∀ k_, El0 N k_ = Z5j N k_
 | 0 => by kernel_rfl
 | k_ + 1 => (show El0 N (k_ + 1) = Z77 N (El0 N k_) from by kernel_rfl).trans (by simp only [ql0 N k_]; rfl)
noncomputable def eE : EnTryz := ⟨174, sG, [.v ty0, .v ty0], _, Z5u N, pk1 i64, enK Tryz.func174 (by kernel_rfl),
 fun a b => eok (eS N) (by kernel_rfl) Tryz.func174 rfl N an_ rfl (Y4 i64) (.trans (b := Z0ay N (El0 N N) a b) (by kernel_rfl) (by rw [ql0]; rfl))⟩
end Z5u
namespace Z3w
def sG := sgV [.val ty3, .val ty3] [(i64, .dp)]
noncomputable def eS : List EnTryz := [Z5u.eE N]
noncomputable def eE : EnTryz := ⟨186, sG, [.v ty3, .v ty3], _, Z3w N, pk1 i64, enK Tryz.func186 (by kernel_rfl),
 fun a b => eok (eS N) (by kernel_rfl) Tryz.func186 rfl N an0 rfl (Y4 i64) (by kernel_rfl)⟩
end Z3w
namespace Z0
def sG := sgV [.val ty11] [(.bool, .dp)]
noncomputable def eS : List EnTryz := [Z10.eE N, Z3w.eE N, Z0f.eE N]
def an_ : Nat -> Option (List Nat)
 | 0 => some [1, 3]
 | _ => none
noncomputable def lP (p : List Dir) (rs : List (Env -> Option (Bool))) (k : Nat) (env : Env) : Option (Bool) :=
 lpE (eS N) N an_ p Tryz.f122 (endK Tb sG Tryz.f122 [] (un1 .bool)) rs k env
noncomputable def El0 (k_ : Nat) (d2 : R0) (d3 : A0) (i : Int) : Option (Bool) :=
 lP N [.r, .l, .r, .b] [] k_ (un 1 (.con (.box ⟨39, false, []⟩) [lf ty9 d2 .ro, lf ty10 d3 .ro] :: (un 1 (.con .val [lf i64 i .ro] :: (un 44 [])))))
theorem ql0 (N : Nat) : ∀ k_, El0 N k_ = Z2f N k_
 | 0 => by kernel_rfl
 | k_ + 1 => (show El0 N (k_ + 1) = Z4s N (El0 N k_) from by kernel_rfl).trans (by simp only [ql0 N k_]; rfl)
noncomputable def eE : EnTryz := ⟨122, sG, [.v ty11], _, Z0 N, pk1 .bool, enK Tryz.func122 (by kernel_rfl),
 fun d => eok (eS N) (by kernel_rfl) Tryz.func122 rfl N an_ rfl (Y4 .bool) (.trans (b := Z85 N (El0 N N) d) (by kernel_rfl) (by rw [ql0]; rfl))⟩
end Z0
namespace Z7v
def sG := sgV [.val ty9, .val ty3] [(ty0, .dp)]
noncomputable def eS : List EnTryz := [Z10.eE N]
noncomputable def eE : EnTryz := ⟨231, sG, [.v ty9, .v ty3], _, Z7v N, pk1 ty0, enK Tryz.func231 (by kernel_rfl),
 fun l f => eok (eS N) (by kernel_rfl) Tryz.func231 rfl N an0 rfl (Y4 ty0) (by kernel_rfl)⟩
end Z7v
namespace Z2h
def sG := sgV [.val ty9, .val ty3, .val ty3] [(.bool, .dp)]
noncomputable def eS : List EnTryz := [Z10.eE N, Z7v.eE N, Z5u.eE N]
noncomputable def eE : EnTryz := ⟨175, sG, [.v ty9, .v ty3, .v ty3], _, Z2h N, pk1 .bool, enK Tryz.func175 (by kernel_rfl),
 fun l a b => eok (eS N) (by kernel_rfl) Tryz.func175 rfl N an0 rfl (Y4 .bool) (by kernel_rfl)⟩
end Z2h
namespace Z18
def sG := sgV [.val ty11, .val ty12] [(.bool, .dp)]
noncomputable def eS : List EnTryz := [Z0.eE N, Z6.eE N]
noncomputable def eE : EnTryz := ⟨232, sG, [.v ty11, .v ty12], _, Z18 N, pk1 .bool, enK Tryz.func232 (by kernel_rfl),
 fun d x => eok (eS N) (by kernel_rfl) Tryz.func232 rfl N an0 rfl (Y4 .bool) (by kernel_rfl)⟩
end Z18
namespace Z13
def sG := sgV [.val ty11, .val ty12, .val i64, .val i64] [(.bool, .dp)]
noncomputable def eS : List EnTryz := [Z18.eE N, Z6.eE N]
noncomputable def eE : EnTryz := ⟨176, sG, [.v ty11, .v ty12, .v i64, .v i64], _, Z13 N, pk1 .bool, enK Tryz.func176 (by kernel_rfl),
 fun d x i k => eok (eS N) (by kernel_rfl) Tryz.func176 rfl N an0 rfl (Y4 .bool) (by kernel_rfl)⟩
end Z13
namespace Z3b
def sG := sgV [.val ty11, .val ty13] [(ty16, .dp)]
noncomputable def eS : List EnTryz := [Z13.eE N, Z2h.eE N, Z0.eE N]
def an_ : Nat -> Option (List Nat)
 | 0 => some [1, 2, 5, 6]
 | 2 => some [1, 2, 5, 6, 7]
 | 4 => some [1, 2, 5, 6, 7, 8, 9]
 | _ => none
noncomputable def lP (p : List Dir) (rs : List (Env -> Option E0)) (k : Nat) (env : Env) : Option E0 :=
 lpE (eS N) N an_ p Tryz.f115 (endK Tb sG Tryz.f115 [] (un1 ty16)) rs k env
noncomputable def El2 (k0_ : Nat) (k1_ : Nat) (k_ : Nat) (l4 : List C0) (d6 : R0) (d7 : A0) (out3 : E0) (i3 : Int) (k2 : Int) (is_ : Bool) (n : Int) : Option E0 :=
 lP N [.r, .r, .l, .r, .b, .b, .r, .l, .b, .r, .b, .b, .r, .l, .b, .r, .l, .r, .b] [lP N [.r, .r, .l, .r, .b] [] k0_, lP N [.r, .r, .l, .r, .b, .b, .r, .l, .b, .r, .b] [lP N [.r, .r, .l, .r, .b] [] k0_] k1_] k_ (un 1 (.con .val [lf ty13 l4 .ro] :: (.con (.box ⟨39, false, []⟩) [lf ty9 d6 .ro, lf ty10 d7 .ro] :: (un 2 (.con .val [lf ty16 out3 .dp] :: (.con .val [lf i64 i3 .ro] :: (.con .val [lf i64 k2 .ro] :: (.con .val [lf .bool is_ .ro] :: (.con .val [lf i64 n .ro] :: (un 69 []))))))))))
noncomputable def El1 (k0_ : Nat) (k_ : Nat) (l3 : List C0) (d4 : R0) (d5 : A0) (out2 : E0) (i2 : Int) (k : Int) : Option E0 :=
 lP N [.r, .r, .l, .r, .b, .b, .r, .l, .b, .r, .b] [lP N [.r, .r, .l, .r, .b] [] k0_] k_ (un 1 (.con .val [lf ty13 l3 .ro] :: (.con (.box ⟨39, false, []⟩) [lf ty9 d4 .ro, lf ty10 d5 .ro] :: (un 2 (.con .val [lf ty16 out2 .dp] :: (.con .val [lf i64 i2 .ro] :: (.con .val [lf i64 k .ro] :: (un 71 []))))))))
noncomputable def El0 (k_ : Nat) (l2 : List C0) (d2 : R0) (d3 : A0) (out : E0) (i : Int) : Option E0 :=
 lP N [.r, .r, .l, .r, .b] [] k_ (un 1 (.con .val [lf ty13 l2 .ro] :: (.con (.box ⟨39, false, []⟩) [lf ty9 d2 .ro, lf ty10 d3 .ro] :: (un 2 (.con .val [lf ty16 out .dp] :: (.con .val [lf i64 i .ro] :: (un 72 [])))))))
theorem ql2 (N : Nat) (k0_ : Nat) (k1_ : Nat) : ∀ k_, El2 N k0_ k1_ k_ = Z31 (El1 N k0_ k1_) N k_
 | 0 => by kernel_rfl
 | k_ + 1 => (show El2 N k0_ k1_ (k_ + 1) = Z5a N (El1 N k0_ k1_) (El2 N k0_ k1_ k_) from by kernel_rfl).trans (by simp only [ql2 N k0_ k1_ k_]; rfl)
theorem ql1 (N : Nat) (k0_ : Nat) : ∀ k_, El1 N k0_ k_ = Z0x (El0 N k0_) N k_
 | 0 => by kernel_rfl
 | k_ + 1 => (show El1 N k0_ (k_ + 1) = Z5b N (El0 N k0_) (El2 N k0_ k_ N) (El1 N k0_ k_) from by kernel_rfl).trans (by simp only [ql2, ql1 N k0_ k_]; rfl)
theorem ql0 (N : Nat) : ∀ k_, El0 N k_ = Z1f N k_
 | 0 => by kernel_rfl
 | k_ + 1 => (show El0 N (k_ + 1) = Z3v N (El1 N k_ N) (El0 N k_) from by kernel_rfl).trans (by simp only [ql1, ql0 N k_]; rfl)
noncomputable def eE : EnTryz := ⟨115, sG, [.v ty11, .v ty13], _, Z3b N, pk1 ty16, enK Tryz.func115 (by kernel_rfl),
 fun d l => eok (eS N) (by kernel_rfl) Tryz.func115 rfl N an_ rfl (Y4 ty16) (.trans (b := Z8y N (El0 N N) d l) (by kernel_rfl) (by rw [ql0]; rfl))⟩
end Z3b
namespace Z1t
def sG := sgV [.val i64, .val ty16] [(.bool, .dp)]
noncomputable def eS : List EnTryz := [Z6.eE N]
def an_ : Nat -> Option (List Nat)
 | 0 => some [0, 1, 5]
 | _ => none
noncomputable def lP (p : List Dir) (rs : List (Env -> Option (Bool))) (k : Nat) (env : Env) : Option (Bool) :=
 lpE (eS N) N an_ p Tryz.f203 (endK Tb sG Tryz.f203 [] (un1 .bool)) rs k env
noncomputable def El0 (k_ : Nat) (n2 : Int) (l2 : E0) (i : Int) : Option (Bool) :=
 lP N [.r, .l, .r, .b] [] k_ (.con .val [lf i64 n2 .ro] :: (.con .val [lf ty16 l2 .ro] :: (un 3 (.con .val [lf i64 i .ro] :: (un 78 [])))))
theorem ql0 (N : Nat) : ∀ k_, El0 N k_ = Z32 N k_
 | 0 => by kernel_rfl
 | k_ + 1 => (show El0 N (k_ + 1) = Z5c N (El0 N k_) from by kernel_rfl).trans (by simp only [ql0 N k_]; rfl)
noncomputable def eE : EnTryz := ⟨203, sG, [.v i64, .v ty16], _, Z1t N, pk1 .bool, enK Tryz.func203 (by kernel_rfl),
 fun n l => eok (eS N) (by kernel_rfl) Tryz.func203 rfl N an_ rfl (Y4 .bool) (.trans (b := Z8z N (El0 N N) n l) (by kernel_rfl) (by rw [ql0]; rfl))⟩
end Z1t
namespace Z90
def sG := sgV [.val i64, .val ty0] [(.bool, .dp)]
noncomputable def eS : List EnTryz := [Z6.eE N]
def an_ : Nat -> Option (List Nat)
 | 0 => some [0, 1, 5]
 | _ => none
noncomputable def lP (p : List Dir) (rs : List (Env -> Option (Bool))) (k : Nat) (env : Env) : Option (Bool) :=
 lpE (eS N) N an_ p Tryz.f281 (endK Tb sG Tryz.f281 [] (un1 .bool)) rs k env
noncomputable def El0 (k_ : Nat) (n2 : Int) (s2 : I0) (i : Int) : Option (Bool) :=
 lP N [.r, .l, .r, .b] [] k_ (.con .val [lf i64 n2 .ro] :: (.con .val [lf ty0 s2 .ro] :: (un 3 (.con .val [lf i64 i .ro] :: (un 30 [])))))
theorem ql0 (N : Nat) : ∀ k_, El0 N k_ = Z7r N k_
 | 0 => by kernel_rfl
 | k_ + 1 => (show El0 N (k_ + 1) = Z9i N (El0 N k_) from by kernel_rfl).trans (by simp only [ql0 N k_]; rfl)
noncomputable def eE : EnTryz := ⟨281, sG, [.v i64, .v ty0], _, Z90 N, pk1 .bool, enK Tryz.func281 (by kernel_rfl),
 fun n s => eok (eS N) (by kernel_rfl) Tryz.func281 rfl N an_ rfl (Y4 .bool) (.trans (b := Z0bb N (El0 N N) n s) (by kernel_rfl) (by rw [ql0]; rfl))⟩
end Z90
namespace Z4d
def sG := sgV [.val ty0, .val i64] [(.bool, .dp)]
noncomputable def eS (N : Nat) : List EnTryz := []
def an_ : Nat -> Option (List Nat)
 | 0 => some [0, 1, 5]
 | _ => none
noncomputable def lP (p : List Dir) (rs : List (Env -> Option (Bool))) (k : Nat) (env : Env) : Option (Bool) :=
 lpE (eS N) N an_ p Tryz.f108 (endK Tb sG Tryz.f108 [] (un1 .bool)) rs k env
noncomputable def El0 (k_ : Nat) (l2 : I0) (x2 : Int) (i : Int) : Option (Bool) :=
 lP N [.r, .l, .r, .b] [] k_ (.con .val [lf ty0 l2 .ro] :: (.con .val [lf i64 x2 .ro] :: (un 3 (.con .val [lf i64 i .ro] :: (un 12 [])))))
theorem ql0 (N : Nat) : ∀ k_, El0 N k_ = Z7s N k_
 | 0 => by kernel_rfl
 | k_ + 1 => (show El0 N (k_ + 1) = Z9j N (El0 N k_) from by kernel_rfl).trans (by simp only [ql0 N k_]; rfl)
noncomputable def eE : EnTryz := ⟨108, sG, [.v ty0, .v i64], _, Z4d N, pk1 .bool, enK Tryz.func108 (by kernel_rfl),
 fun l x => eok (eS N) (by kernel_rfl) Tryz.func108 rfl N an_ rfl (Y4 .bool) (.trans (b := Z0bc N (El0 N N) l x) (by kernel_rfl) (by rw [ql0]; rfl))⟩
end Z4d
namespace Z1u
def sG := sgV [.val ty16, .val ty0] [(.bool, .dp)]
noncomputable def eS : List EnTryz := [Z4d.eE N]
def an_ : Nat -> Option (List Nat)
 | 0 => some [0, 1, 5]
 | _ => none
noncomputable def lP (p : List Dir) (rs : List (Env -> Option (Bool))) (k : Nat) (env : Env) : Option (Bool) :=
 lpE (eS N) N an_ p Tryz.f294 (endK Tb sG Tryz.f294 [] (un1 .bool)) rs k env
noncomputable def El0 (k_ : Nat) (l2 : E0) (s2 : I0) (i : Int) : Option (Bool) :=
 lP N [.r, .l, .r, .b] [] k_ (.con .val [lf ty16 l2 .ro] :: (.con .val [lf ty0 s2 .ro] :: (un 3 (.con .val [lf i64 i .ro] :: (un 22 [])))))
theorem ql0 (N : Nat) : ∀ k_, El0 N k_ = Z33 N k_
 | 0 => by kernel_rfl
 | k_ + 1 => (show El0 N (k_ + 1) = Z5d N (El0 N k_) from by kernel_rfl).trans (by simp only [ql0 N k_]; rfl)
noncomputable def eE : EnTryz := ⟨294, sG, [.v ty16, .v ty0], _, Z1u N, pk1 .bool, enK Tryz.func294 (by kernel_rfl),
 fun l s => eok (eS N) (by kernel_rfl) Tryz.func294 rfl N an_ rfl (Y4 .bool) (.trans (b := Z91 N (El0 N N) l s) (by kernel_rfl) (by rw [ql0]; rfl))⟩
end Z1u
namespace Z5v
def sG := sgV [.val ty16, .val ty0, .val i64] [(.bool, .dp)]
noncomputable def eS : List EnTryz := [Z4d.eE N, Z1u.eE N]
noncomputable def eE : EnTryz := ⟨264, sG, [.v ty16, .v ty0, .v i64], _, Z5v N, pk1 .bool, enK Tryz.func264 (by kernel_rfl),
 fun l s x => eok (eS N) (by kernel_rfl) Tryz.func264 rfl N an0 rfl (Y4 .bool) (by kernel_rfl)⟩
end Z5v
namespace Z16
def sG := sgV [.val i64, .val ty16, .val ty0] [(.bool, .dp)]
noncomputable def eS : List EnTryz := [Z5v.eE N, Z1t.eE N, Z90.eE N, Z1u.eE N]
def an_ : Nat -> Option (List Nat)
 | 0 => some [0, 1, 2, 7]
 | _ => none
noncomputable def lP (p : List Dir) (rs : List (Env -> Option (Bool))) (k : Nat) (env : Env) : Option (Bool) :=
 lpE (eS N) N an_ p Tryz.f263 (endK Tb sG Tryz.f263 [] (un1 .bool)) rs k env
noncomputable def El0 (k_ : Nat) (n2 : Int) (l2 : E0) (s2 : I0) (x : Int) : Option (Bool) :=
 lP N [.r, .r, .l, .r, .b] [] k_ (.con .val [lf i64 n2 .ro] :: (.con .val [lf ty16 l2 .ro] :: (.con .val [lf ty0 s2 .ro] :: (un 4 (.con .val [lf i64 x .ro] :: (un 25 []))))))
theorem ql0 (N : Nat) : ∀ k_, El0 N k_ = Z19 N k_
 | 0 => by kernel_rfl
 | k_ + 1 => (show El0 N (k_ + 1) = Z2x N (El0 N k_) from by kernel_rfl).trans (by simp only [ql0 N k_]; rfl)
noncomputable def eE : EnTryz := ⟨263, sG, [.v i64, .v ty16, .v ty0], _, Z16 N, pk1 .bool, enK Tryz.func263 (by kernel_rfl),
 fun n l s => eok (eS N) (by kernel_rfl) Tryz.func263 rfl N an_ rfl (Y4 .bool) (.trans (b := Z60 N (El0 N N) n l s) (by kernel_rfl) (by rw [ql0]; rfl))⟩
end Z16
namespace Z9b
def sG := sgV [.val i64, .val ty16, .val ty0, .val i64] [(ty17, .dp)]
theorem eN : Enterable Tryz.prog 204 := Y1u Tryz.func204 (code := Tryz.f204.body.getD .skip) (by kernel_rfl) (by kernel_rfl)
noncomputable def eS (Rf : Int -> E0 -> I0 -> Int -> Option L0) (hR : OkP (Option L0) [.v i64, .v ty16, .v ty0, .v i64] Rf (fun xs_ q => ∀ x, q = some x -> FnOk Tryz.prog 204 sG xs_ (pk1 ty17 x))) : List EnTryz := [Z16.eE N, Z5v.eE N, ⟨204, sG, [.v i64, .v ty16, .v ty0, .v i64], L0, Rf, pk1 ty17, eN, hR⟩]
def an_ : Nat -> Option (List Nat)
 | 0 => some [0, 1, 2, 3, 9, 10, 11]
 | _ => none
noncomputable def lP (Rf : Int -> E0 -> I0 -> Int -> Option L0) (hR : OkP (Option L0) [.v i64, .v ty16, .v ty0, .v i64] Rf (fun xs_ q => ∀ x, q = some x -> FnOk Tryz.prog 204 sG xs_ (pk1 ty17 x))) (p : List Dir) (rs : List (Env -> Option L0)) (k : Nat) (env : Env) : Option L0 :=
 lpE (eS N Rf hR) N an_ p Tryz.f204 (endK Tb sG Tryz.f204 [] (un1 ty17)) rs k env
noncomputable def El0 (Rf : Int -> E0 -> I0 -> Int -> Option L0) (hR : OkP (Option L0) [.v i64, .v ty16, .v ty0, .v i64] Rf (fun xs_ q => ∀ x, q = some x -> FnOk Tryz.prog 204 sG xs_ (pk1 ty17 x))) (k_ : Nat) (n2 : Int) (l2 : E0) (s2 : I0) (x2 : Int) (out : L0) (met : Bool) (i : Int) : Option L0 :=
 lP N Rf hR [.r, .r, .r, .r, .r, .l, .r, .b] [] k_ (.con .val [lf i64 n2 .ro] :: (.con .val [lf ty16 l2 .ro] :: (.con .val [lf ty0 s2 .ro] :: (.con .val [lf i64 x2 .ro] :: (un 5 (.con .val [lf ty17 out .dp] :: (.con .val [lf .bool met .ro] :: (.con .val [lf i64 i .ro] :: (un 63 [])))))))))
theorem ql0 (N : Nat) (Rf : Int -> E0 -> I0 -> Int -> Option L0) (hR : OkP (Option L0) [.v i64, .v ty16, .v ty0, .v i64] Rf (fun xs_ q => ∀ x, q = some x -> FnOk Tryz.prog 204 sG xs_ (pk1 ty17 x))) : ∀ k_, El0 N Rf hR k_ = Z5k N Rf k_
 | 0 => by kernel_rfl
 | k_ + 1 => (show El0 N Rf hR (k_ + 1) = Z92 N Rf (El0 N Rf hR k_) from by kernel_rfl).trans (by simp only [ql0 N Rf hR k_]; rfl)
theorem vV (Rf : Int -> E0 -> I0 -> Int -> Option L0) (hR : OkP (Option L0) [.v i64, .v ty16, .v ty0, .v i64] Rf (fun xs_ q => ∀ x, q = some x -> FnOk Tryz.prog 204 sG xs_ (pk1 ty17 x))) (n : Int) (l : E0) (s : I0) (x : Int) :
  evE (eS N Rf hR) N an_ sG Tryz.f204 [.val i64 n, .val ty16 l, .val ty0 s, .val i64 x] (un1 ty17) = Z9y N Rf (El0 N Rf hR N) n l s x := by kernel_rfl
theorem oK (N : Nat) : ∀ k_, OkP (Option L0) [.v i64, .v ty16, .v ty0, .v i64] (Z3i N k_) (fun xs_ q => ∀ x, q = some x -> FnOk Tryz.prog 204 sG xs_ (pk1 ty17 x))
 | 0 => fun n l s x =>  fun x h => absurd (show (none : Option L0) = some x from h) (by simp)
 | k_ + 1 => fun n l s x => Y40 tab_ok (es := eS N (Z3i N k_) (oK N k_)) (by kernel_rfl) mixed Tryz.func204 (by kernel_rfl) ⟨⟨rfl, rfl⟩, rfl, rfl⟩ (Y4 ty17) ((vV N _ _ n l s x).trans (by rw [ql0]; rfl))
noncomputable def eE : EnTryz := ⟨204, sG, [.v i64, .v ty16, .v ty0, .v i64], L0, Z9b N, pk1 ty17, eN, oK N N⟩
end Z9b
namespace Z0s
def sG := sgV [.val i64, .val ty16] [(ty17, .dp)]
noncomputable def eS : List EnTryz := [Z1t.eE N, Z9b.eE N]
noncomputable def eE : EnTryz := ⟨149, sG, [.v i64, .v ty16], _, Z0s N, pk1 ty17, enK Tryz.func149 (by kernel_rfl),
 fun n l => eok (eS N) (by kernel_rfl) Tryz.func149 rfl N an0 rfl (Y4 ty17) (by kernel_rfl)⟩
end Z0s
namespace Z3c
def sG := sgV [.val ty11, .val ty13] [(ty17, .dp)]
noncomputable def eS : List EnTryz := [Z0.eE N, Z3b.eE N, Z0s.eE N]
noncomputable def eE : EnTryz := ⟨85, sG, [.v ty11, .v ty13], _, Z3c N, pk1 ty17, enK Tryz.func85 (by kernel_rfl),
 fun d l => eok (eS N) (by kernel_rfl) Tryz.func85 rfl N an0 rfl (Y4 ty17) (by kernel_rfl)⟩
end Z3c
namespace Z1i
def sG := sgV [.val ty11, .val ty13] [(ty17, .dp)]
noncomputable def eS : List EnTryz := [Z3c.eE N]
def an_ : Nat -> Option (List Nat)
 | 0 => some [5, 6, 7, 8]
 | 2 => some [5, 6, 7, 9]
 | _ => none
noncomputable def lP (p : List Dir) (rs : List (Env -> Option L0)) (k : Nat) (env : Env) : Option L0 :=
 lpES (eS N) N an_ p Tryz.f99 (endK Tb sG Tryz.f99 [] (un1 ty17)) rs k env
noncomputable def El2 (k_ : Nat) (outx : I0) (out3 : L0) (all3 : L0) (n3 : Int) (i3 : Int) : Option L0 :=
 lP N [.r, .r, .r, .r, .r, .l, .r, .b] [] k_ (un 5 (.sel 6 0 26 3 i64 outx out3 :: (.con .val [lf ty17 all3 .dp] :: (.con .val [lf i64 n3 .ro] :: (un 1 (.con .val [lf i64 i3 .ro] :: (un 38 [])))))))
noncomputable def El1 (k_ : Nat) (out2 : L0) (all2 : L0) (n2 : Int) (i2 : Int) : Option L0 :=
 lP N [.r, .r, .r, .r, .r, .l, .r, .b] [] k_ (un 5 (.con .val [lf ty17 out2 .dp] :: (.con .val [lf ty17 all2 .dp] :: (.con .val [lf i64 n2 .ro] :: (un 1 (.con .val [lf i64 i2 .ro] :: (un 38 [])))))))
noncomputable def El0 (k_ : Nat) (out : L0) (all : L0) (n : Int) (i : Int) : Option L0 :=
 lP N [.r, .r, .r, .r, .l, .r, .b] [] k_ (un 5 (.con .val [lf ty17 out .dp] :: (.con .val [lf ty17 all .dp] :: (.con .val [lf i64 n .ro] :: (.con .val [lf i64 i .ro] :: (un 39 []))))))
theorem ql2 (N : Nat) : ∀ k_, El2 N k_ = Z1m N k_
 | 0 => by kernel_rfl
 | k_ + 1 => (show El2 N (k_ + 1) = Z3k N (El2 N k_) from by kernel_rfl).trans (by simp only [ql2 N k_]; rfl)
theorem ql1 (N : Nat) : ∀ k_, El1 N k_ = Z1n N k_
 | 0 => by kernel_rfl
 | k_ + 1 => (show El1 N (k_ + 1) = Z3l N (El2 N k_) (El1 N k_) from by kernel_rfl).trans (by simp only [ql2, ql1 N k_]; rfl)
theorem ql0 (N : Nat) : ∀ k_, El0 N k_ = Z1o N k_
 | 0 => by kernel_rfl
 | k_ + 1 => (show El0 N (k_ + 1) = Z3m N (El1 N N) (El0 N k_) from by kernel_rfl).trans (by simp only [ql1, ql0 N k_]; rfl)
noncomputable def eE : EnTryz := ⟨99, sG, [.v ty11, .v ty13], _, Z1i N, pk1 ty17, enK Tryz.func99 (by kernel_rfl),
 fun d l => eokS (eS N) (by kernel_rfl) Tryz.func99 rfl N an_ rfl (Y4 ty17) (.trans (b := Z6t N (El0 N N) d l) (by kernel_rfl) (by rw [ql0]; rfl))⟩
end Z1i
namespace Z3x
def sG := sgV [.val ty9, .val ty15] [(.bool, .dp)]
noncomputable def eS : List EnTryz := [Z6.eE N, Z0f.eE N]
def an_ : Nat -> Option (List Nat)
 | 0 => some [0, 3, 5, 6]
 | 2 => some [0, 3, 5, 6, 7, 8]
 | 4 => some [0, 3, 5, 6, 7, 9]
 | 6 => some [3, 5, 10]
 | 8 => some [3, 11]
 | _ => none
noncomputable def lP (p : List Dir) (rs : List (Env -> Option (Bool))) (k : Nat) (env : Env) : Option (Bool) :=
 lpE (eS N) N an_ p Tryz.f123 (endK Tb sG Tryz.f123 [] (un1 .bool)) rs k env
noncomputable def El2 (k0_ : Nat) (k_ : Nat) (l4 : R0) (q8 : Int) (q9 : A0) (q10 : I0) (met3 : List Bool) (i3 : Int) (a3 : Int) (a4 : I0) (k2 : Int) : Option (Bool) :=
 lP N [.r, .r, .r, .l, .r, .b, .b, .r, .l, .b, .r, .r, .r, .r, .b] [lP N [.r, .r, .r, .l, .r, .b] [] k0_] k_ (.con .val [lf ty9 l4 .ro] :: (un 2 (.con (.box ⟨44, false, []⟩) [lf i64 q8 .ro, lf ty14 q9 .ro, lf ty0 q10 .ro] :: (un 1 (.con .val [lf ty18 met3 .dp] :: (.con .val [lf i64 i3 .ro] :: (.con (.box ⟨145, false, []⟩) [lf i64 a3 .ro, lf ty0 a4 .ro] :: (un 1 (.con .val [lf i64 k2 .ro] :: (un 140 []))))))))))
noncomputable def El1 (k0_ : Nat) (k_ : Nat) (l3 : R0) (q5 : Int) (q6 : A0) (q7 : I0) (met2 : List Bool) (i2 : Int) (a : Int) (a2 : I0) (k : Int) : Option (Bool) :=
 lP N [.r, .r, .r, .l, .r, .b, .b, .r, .l, .b, .r, .r, .l, .r, .b] [lP N [.r, .r, .r, .l, .r, .b] [] k0_] k_ (.con .val [lf ty9 l3 .ro] :: (un 2 (.con (.box ⟨44, false, []⟩) [lf i64 q5 .ro, lf ty14 q6 .ro, lf ty0 q7 .ro] :: (un 1 (.con .val [lf ty18 met2 .dp] :: (.con .val [lf i64 i2 .ro] :: (.con (.box ⟨145, false, []⟩) [lf i64 a .ro, lf ty0 a2 .ro] :: (.con .val [lf i64 k .ro] :: (un 141 [])))))))))
noncomputable def El4 (k_ : Nat) (q14 : Int) (q15 : A0) (q16 : I0) (i4 : Int) : Option (Bool) :=
 lP N [.r, .r, .r, .r, .r, .l, .r, .b] [] k_ (un 3 (.con (.box ⟨44, false, []⟩) [lf i64 q14 .ro, lf ty14 q15 .ro, lf ty0 q16 .ro] :: (un 7 (.con .val [lf i64 i4 .ro] :: (un 138 [])))))
noncomputable def El3 (k_ : Nat) (q11 : Int) (q12 : A0) (q13 : I0) (met4 : List Bool) (v : Int) : Option (Bool) :=
 lP N [.r, .r, .r, .r, .l, .r, .b] [] k_ (un 3 (.con (.box ⟨44, false, []⟩) [lf i64 q11 .ro, lf ty14 q12 .ro, lf ty0 q13 .ro] :: (un 1 (.con .val [lf ty18 met4 .dp] :: (un 4 (.con .val [lf i64 v .ro] :: (un 139 [])))))))
noncomputable def El0 (k_ : Nat) (l2 : R0) (q2 : Int) (q3 : A0) (q4 : I0) (met : List Bool) (i : Int) : Option (Bool) :=
 lP N [.r, .r, .r, .l, .r, .b] [] k_ (.con .val [lf ty9 l2 .ro] :: (un 2 (.con (.box ⟨44, false, []⟩) [lf i64 q2 .ro, lf ty14 q3 .ro, lf ty0 q4 .ro] :: (un 1 (.con .val [lf ty18 met .dp] :: (.con .val [lf i64 i .ro] :: (un 143 [])))))))
theorem ql2 (N : Nat) (k0_ : Nat) : ∀ k_, El2 N k0_ k_ = Z1v (El0 N k0_) N k_
 | 0 => by kernel_rfl
 | k_ + 1 => (show El2 N k0_ (k_ + 1) = Z86 N (El0 N k0_) (El2 N k0_ k_) from by kernel_rfl).trans (by simp only [ql2 N k0_ k_]; rfl)
theorem ql1 (N : Nat) (k0_ : Nat) : ∀ k_, El1 N k0_ k_ = Z2i (El0 N k0_) N k_
 | 0 => by kernel_rfl
 | k_ + 1 => (show El1 N k0_ (k_ + 1) = Z5w N (El0 N k0_) (El2 N k0_ N) (El1 N k0_ k_) from by kernel_rfl).trans (by simp only [ql2, ql1 N k0_ k_]; rfl)
theorem ql4 (N : Nat) : ∀ k_, El4 N k_ = Z2j N k_
 | 0 => by kernel_rfl
 | k_ + 1 => (show El4 N (k_ + 1) = Z5x N (El4 N k_) from by kernel_rfl).trans (by simp only [ql4 N k_]; rfl)
theorem ql3 (N : Nat) : ∀ k_, El3 N k_ = Z2k N k_
 | 0 => by kernel_rfl
 | k_ + 1 => (show El3 N (k_ + 1) = Z5y N (El4 N N) (El3 N k_) from by kernel_rfl).trans (by simp only [ql4, ql3 N k_]; rfl)
theorem ql0 (N : Nat) : ∀ k_, El0 N k_ = Z3n N k_
 | 0 => by kernel_rfl
 | k_ + 1 => (show El0 N (k_ + 1) = Z87 N (El1 N k_ N) (El3 N N) (El0 N k_) from by kernel_rfl).trans (by simp only [ql1, ql3, ql0 N k_]; rfl)
noncomputable def eE : EnTryz := ⟨123, sG, [.v ty9, .v ty15], _, Z3x N, pk1 .bool, enK Tryz.func123 (by kernel_rfl),
 fun l q => eok (eS N) (by kernel_rfl) Tryz.func123 rfl N an_ rfl (Y4 .bool) (.trans (b := Z9d N (El0 N N) l q) (by kernel_rfl) (by rw [ql0]; rfl))⟩
end Z3x
namespace Z2c
def sG := sgV [.val ty11, .val ty15] [(.bool, .dp)]
noncomputable def eS : List EnTryz := [Z0.eE N, Z3x.eE N]
noncomputable def eE : EnTryz := ⟨60, sG, [.v ty11, .v ty15], _, Z2c N, pk1 .bool, enK Tryz.func60 (by kernel_rfl),
 fun d q => eok (eS N) (by kernel_rfl) Tryz.func60 rfl N an0 rfl (Y4 .bool) (by kernel_rfl)⟩
end Z2c
namespace Z61
def sG := sgV [.val i64] [(ty0, .dp)]
noncomputable def eS (N : Nat) : List EnTryz := []
def an_ : Nat -> Option (List Nat)
 | 0 => some [0, 3]
 | _ => none
noncomputable def lP (p : List Dir) (rs : List (Env -> Option I0)) (k : Nat) (env : Env) : Option I0 :=
 lpE (eS N) N an_ p Tryz.f206 (endK Tb sG Tryz.f206 [] (un1 ty0)) rs k env
noncomputable def El0 (k_ : Nat) (n2 : Int) (l : I0) : Option I0 :=
 lP N [.r, .r, .l, .b] [] k_ (.con .val [lf i64 n2 .ro] :: (un 2 (.con .val [lf ty0 l .dp] :: (un 9 []))))
theorem ql0 (N : Nat) : ∀ k_, El0 N k_ = Z7w N k_
 | 0 => by kernel_rfl
 | k_ + 1 => (show El0 N (k_ + 1) = Z9u N (El0 N k_) from by kernel_rfl).trans (by simp only [ql0 N k_]; rfl)
noncomputable def eE : EnTryz := ⟨206, sG, [.v i64], _, Z61 N, pk1 ty0, enK Tryz.func206 (by kernel_rfl),
 fun n => eok (eS N) (by kernel_rfl) Tryz.func206 rfl N an_ rfl (Y4 ty0) (.trans (b := Z0ai N (El0 N N) n) (by kernel_rfl) (by rw [ql0]; rfl))⟩
end Z61
namespace Z78
def sG := sgV [.val ty3, .val ty3, .val ty0] [(ty0, .dp), (.bool, .dp)]
noncomputable def eS (N : Nat) : List EnTryz := []
def an_ : Nat -> Option (List Nat)
 | 0 => some [3, 4, 8, 9]
 | _ => none
noncomputable def lP (p : List Dir) (rs : List (Env -> Option (List Int × Bool))) (k : Nat) (env : Env) : Option (List Int × Bool) :=
 lpE (eS N) N an_ p Tryz.f265 (endK Tb sG Tryz.f265 [] (un2 ty0 .bool)) rs k env
noncomputable def El0 (k_ : Nat) (a2 : Int) (a3 : I0) (f2 : Int) (f3 : I0) (x : I0) (i : Int) : Option (List Int × Bool) :=
 lP N [.r, .r, .r, .l, .r, .b] [] k_ (un 3 (.con (.box ⟨145, false, []⟩) [lf i64 a2 .ro, lf ty0 a3 .ro] :: (.con (.box ⟨143, false, []⟩) [lf i64 f2 .ro, lf ty0 f3 .ro] :: (un 3 (.con .val [lf ty0 x .dp] :: (.con .val [lf i64 i .ro] :: (un 69 [])))))))
theorem ql0 (N : Nat) : ∀ k_, El0 N k_ = Z7x N k_
 | 0 => by kernel_rfl
 | k_ + 1 => (show El0 N (k_ + 1) = Z9v N (El0 N k_) from by kernel_rfl).trans (by simp only [ql0 N k_]; rfl)
noncomputable def eE : EnTryz := ⟨265, sG, [.v ty3, .v ty3, .v ty0], _, Z78 N, pk2 ty0 .bool, enK Tryz.func265 (by kernel_rfl),
 fun a f vals => eok (eS N) (by kernel_rfl) Tryz.func265 rfl N an_ rfl (Y1c ty0 .bool) (.trans (b := Z0aj N (El0 N N) a f vals) (by kernel_rfl) (by rw [ql0]; rfl))⟩
end Z78
namespace Z8o
def sG := sgV [.val ty11, .val ty15, .val i64, .val ty0, .val ty0] [(ty19, .dp)]
theorem eN : Enterable Tryz.prog 205 := Y1u Tryz.func205 (code := Tryz.f205.body.getD .skip) (by kernel_rfl) (by kernel_rfl)
noncomputable def eS (Rf : D0 -> Q0 -> Int -> I0 -> I0 -> Option (List (List Int × List Int))) (hR : OkP (Option (List (List Int × List Int))) [.v ty11, .v ty15, .v i64, .v ty0, .v ty0] Rf (fun xs_ q => ∀ x, q = some x -> FnOk Tryz.prog 205 sG xs_ (pk1 ty19 x))) : List EnTryz := [Z78.eE N, ⟨205, sG, [.v ty11, .v ty15, .v i64, .v ty0, .v ty0], List (List Int × List Int), Rf, pk1 ty19, eN, hR⟩]
def an_ : Nat -> Option (List Nat)
 | 0 => some [2, 3, 4, 5, 6, 11, 12]
 | _ => none
noncomputable def lP (Rf : D0 -> Q0 -> Int -> I0 -> I0 -> Option (List (List Int × List Int))) (hR : OkP (Option (List (List Int × List Int))) [.v ty11, .v ty15, .v i64, .v ty0, .v ty0] Rf (fun xs_ q => ∀ x, q = some x -> FnOk Tryz.prog 205 sG xs_ (pk1 ty19 x))) (p : List Dir) (rs : List (Env -> Option (List (List Int × List Int)))) (k : Nat) (env : Env) : Option (List (List Int × List Int)) :=
 lpE (eS N Rf hR) N an_ p Tryz.f205 (endK Tb sG Tryz.f205 [] (un1 ty19)) rs k env
noncomputable def El0 (Rf : D0 -> Q0 -> Int -> I0 -> I0 -> Option (List (List Int × List Int))) (hR : OkP (Option (List (List Int × List Int))) [.v ty11, .v ty15, .v i64, .v ty0, .v ty0] Rf (fun xs_ q => ∀ x, q = some x -> FnOk Tryz.prog 205 sG xs_ (pk1 ty19 x))) (k_ : Nat) (k2 : Int) (vals2 : I0) (facts2 : I0) (d2 : R0) (d3 : A0) (q2 : Int) (q3 : A0) (q4 : I0) (out : List (List Int × List Int)) (i : Int) : Option (List (List Int × List Int)) :=
 lP N Rf hR [.r, .r, .r, .l, .r, .b] [] k_ (un 2 (.con .val [lf i64 k2 .ro] :: (.con .val [lf ty0 vals2 .ro] :: (.con .val [lf ty0 facts2 .ro] :: (.con (.box ⟨39, false, []⟩) [lf ty9 d2 .ro, lf ty10 d3 .ro] :: (.con (.box ⟨44, false, []⟩) [lf i64 q2 .ro, lf ty14 q3 .ro, lf ty0 q4 .ro] :: (un 4 (.con .val [lf ty19 out .dp] :: (.con .val [lf i64 i .ro] :: (un 54 []))))))))))
theorem ql0 (N : Nat) (Rf : D0 -> Q0 -> Int -> I0 -> I0 -> Option (List (List Int × List Int))) (hR : OkP (Option (List (List Int × List Int))) [.v ty11, .v ty15, .v i64, .v ty0, .v ty0] Rf (fun xs_ q => ∀ x, q = some x -> FnOk Tryz.prog 205 sG xs_ (pk1 ty19 x))) : ∀ k_, El0 N Rf hR k_ = Z7y N Rf k_
 | 0 => by kernel_rfl
 | k_ + 1 => (show El0 N Rf hR (k_ + 1) = Z9w N Rf (El0 N Rf hR k_) from by kernel_rfl).trans (by simp only [ql0 N Rf hR k_]; rfl)
theorem vV (Rf : D0 -> Q0 -> Int -> I0 -> I0 -> Option (List (List Int × List Int))) (hR : OkP (Option (List (List Int × List Int))) [.v ty11, .v ty15, .v i64, .v ty0, .v ty0] Rf (fun xs_ q => ∀ x, q = some x -> FnOk Tryz.prog 205 sG xs_ (pk1 ty19 x))) (d : D0) (q : Q0) (k : Int) (vals : I0) (facts : I0) :
  evE (eS N Rf hR) N an_ sG Tryz.f205 [.val ty11 d, .val ty15 q, .val i64 k, .val ty0 vals, .val ty0 facts] (un1 ty19) = Z9t N Rf (El0 N Rf hR N) d q k vals facts := by kernel_rfl
theorem oK (N : Nat) : ∀ k_, OkP (Option (List (List Int × List Int))) [.v ty11, .v ty15, .v i64, .v ty0, .v ty0] (Z3o N k_) (fun xs_ q => ∀ x, q = some x -> FnOk Tryz.prog 205 sG xs_ (pk1 ty19 x))
 | 0 => fun d q k vals facts =>  fun x h => absurd (show (none : Option (List (List Int × List Int))) = some x from h) (by simp)
 | k_ + 1 => fun d q k vals facts => Y40 tab_ok (es := eS N (Z3o N k_) (oK N k_)) (by kernel_rfl) mixed Tryz.func205 (by kernel_rfl) ⟨⟨rfl, rfl⟩, rfl, rfl⟩ (Y4 ty19) ((vV N _ _ d q k vals facts).trans (by rw [ql0]; rfl))
noncomputable def eE : EnTryz := ⟨205, sG, [.v ty11, .v ty15, .v i64, .v ty0, .v ty0], List (List Int × List Int), Z8o N, pk1 ty19, eN, oK N N⟩
end Z8o
namespace Z2v
def sG := sgV [.val ty11, .val ty15] [(ty19, .dp)]
noncomputable def eS : List EnTryz := [Z2c.eE N, Z61.eE N, Z8o.eE N]
noncomputable def eE : EnTryz := ⟨150, sG, [.v ty11, .v ty15], _, Z2v N, pk1 ty19, enK Tryz.func150 (by kernel_rfl),
 fun d q => eok (eS N) (by kernel_rfl) Tryz.func150 rfl N an0 rfl (Y4 ty19) (by kernel_rfl)⟩
end Z2v
namespace Z6o
def sG := sgV [.val ty0] [(ty0, .dp)]
noncomputable def eS (N : Nat) : List EnTryz := []
def an_ : Nat -> Option (List Nat)
 | 0 => some [0, 3, 4]
 | 2 => some [0, 3, 4, 5]
 | _ => none
noncomputable def lP (p : List Dir) (rs : List (Env -> Option I0)) (k : Nat) (env : Env) : Option I0 :=
 lpE (eS N) N an_ p Tryz.f83 (endK Tb sG Tryz.f83 [] (un1 ty0)) rs k env
noncomputable def El1 (k0_ : Nat) (k_ : Nat) (l3 : I0) (out2 : I0) (i2 : Int) (k : Int) : Option I0 :=
 lP N [.r, .r, .l, .r, .b, .b, .r, .l, .b, .r, .l, .b] [lP N [.r, .r, .l, .r, .b] [] k0_] k_ (.con .val [lf ty0 l3 .ro] :: (un 2 (.con .val [lf ty0 out2 .dp] :: (.con .val [lf i64 i2 .ro] :: (.con .val [lf i64 k .ro] :: (un 41 []))))))
noncomputable def El0 (k_ : Nat) (l2 : I0) (out : I0) (i : Int) : Option I0 :=
 lP N [.r, .r, .l, .r, .b] [] k_ (.con .val [lf ty0 l2 .ro] :: (un 2 (.con .val [lf ty0 out .dp] :: (.con .val [lf i64 i .ro] :: (un 42 [])))))
theorem ql1 (N : Nat) (k0_ : Nat) : ∀ k_, El1 N k0_ k_ = Z5l (El0 N k0_) N k_
 | 0 => by kernel_rfl
 | k_ + 1 => (show El1 N k0_ (k_ + 1) = Z7z N (El0 N k0_) (El1 N k0_ k_) from by kernel_rfl).trans (by simp only [ql1 N k0_ k_]; rfl)
theorem ql0 (N : Nat) : ∀ k_, El0 N k_ = Z3d N k_
 | 0 => by kernel_rfl
 | k_ + 1 => (show El0 N (k_ + 1) = Z9p N (El1 N k_ N) (El0 N k_) from by kernel_rfl).trans (by simp only [ql1, ql0 N k_]; rfl)
noncomputable def eE : EnTryz := ⟨83, sG, [.v ty0], _, Z6o N, pk1 ty0, enK Tryz.func83 (by kernel_rfl),
 fun l => eok (eS N) (by kernel_rfl) Tryz.func83 rfl N an_ rfl (Y4 ty0) (.trans (b := Z0a5 N (El0 N N) l) (by kernel_rfl) (by rw [ql0]; rfl))⟩
end Z6o
namespace Z93
def sG := sgV [.val ty11, .val ty0] [(.bool, .dp)]
noncomputable def eS : List EnTryz := [Z6.eE N]
def an_ : Nat -> Option (List Nat)
 | 0 => some [1, 2, 5]
 | _ => none
noncomputable def lP (p : List Dir) (rs : List (Env -> Option (Bool))) (k : Nat) (env : Env) : Option (Bool) :=
 lpE (eS N) N an_ p Tryz.f148 (endK Tb sG Tryz.f148 [] (un1 .bool)) rs k env
noncomputable def El0 (k_ : Nat) (l2 : I0) (d2 : R0) (d3 : A0) (i : Int) : Option (Bool) :=
 lP N [.r, .l, .r, .b] [] k_ (un 1 (.con .val [lf ty0 l2 .ro] :: (.con (.box ⟨39, false, []⟩) [lf ty9 d2 .ro, lf ty10 d3 .ro] :: (un 2 (.con .val [lf i64 i .ro] :: (un 32 []))))))
theorem ql0 (N : Nat) : ∀ k_, El0 N k_ = Z7t N k_
 | 0 => by kernel_rfl
 | k_ + 1 => (show El0 N (k_ + 1) = Z9k N (El0 N k_) from by kernel_rfl).trans (by simp only [ql0 N k_]; rfl)
noncomputable def eE : EnTryz := ⟨148, sG, [.v ty11, .v ty0], _, Z93 N, pk1 .bool, enK Tryz.func148 (by kernel_rfl),
 fun d l => eok (eS N) (by kernel_rfl) Tryz.func148 rfl N an_ rfl (Y4 .bool) (.trans (b := Z0bd N (El0 N N) d l) (by kernel_rfl) (by rw [ql0]; rfl))⟩
end Z93
namespace Z4j
def sG := sgV [.val ty11, .val ty0] [(ty11, .dp), (.bool, .dp)]
noncomputable def eS : List EnTryz := [Z0.eE N, Z93.eE N]
def an_ : Nat -> Option (List Nat)
 | 0 => some [1, 2, 4, 6, 7]
 | _ => none
noncomputable def lP (p : List Dir) (rs : List (Env -> Option (D0 × Bool))) (k : Nat) (env : Env) : Option (D0 × Bool) :=
 lpE (eS N) N an_ p Tryz.f84 (endK Tb sG Tryz.f84 [] (un2 ty11 .bool)) rs k env
noncomputable def El0 (k_ : Nat) (l2 : I0) (d2 : R0) (d3 : A0) (t4 : R0) (t42 : A0) (x : R0) (x2 : A0) (i : Int) : Option (D0 × Bool) :=
 lP N [.r, .r, .r, .l, .r, .b] [] k_ (un 1 (.con .val [lf ty0 l2 .ro] :: (.con (.box ⟨39, false, []⟩) [lf ty9 d2 .ro, lf ty10 d3 .ro] :: (un 1 (.con (.box ⟨39, false, []⟩) [lf ty9 t4 .dp, lf ty10 t42 .dp] :: (un 1 (.con (.box ⟨39, false, []⟩) [lf ty9 x .dp, lf ty10 x2 .dp] :: (.con .val [lf i64 i .ro] :: (un 43 [])))))))))
theorem ql0 (N : Nat) : ∀ k_, El0 N k_ = Z5h N k_
 | 0 => by kernel_rfl
 | k_ + 1 => (show El0 N (k_ + 1) = Z8p N (El0 N k_) from by kernel_rfl).trans (by simp only [ql0 N k_]; rfl)
noncomputable def eE : EnTryz := ⟨84, sG, [.v ty11, .v ty0], _, Z4j N, pk2 ty11 .bool, enK Tryz.func84 (by kernel_rfl),
 fun d l => eok (eS N) (by kernel_rfl) Tryz.func84 rfl N an_ rfl (Y1c ty11 .bool) (.trans (b := Z9q N (El0 N N) d l) (by kernel_rfl) (by rw [ql0]; rfl))⟩
end Z4j
namespace Z79
def sG := sgV [.val ty11, .val i64] [(ty0, .dp)]
noncomputable def eS : List EnTryz := [Z0.eE N, Z6.eE N, Z2h.eE N]
def an_ : Nat -> Option (List Nat)
 | 0 => some [1, 2, 5, 6]
 | _ => none
noncomputable def lP (p : List Dir) (rs : List (Env -> Option I0)) (k : Nat) (env : Env) : Option I0 :=
 lpE (eS N) N an_ p Tryz.f146 (endK Tb sG Tryz.f146 [] (un1 ty0)) rs k env
noncomputable def El0 (k_ : Nat) (i2 : Int) (d2 : R0) (d3 : A0) (out : I0) (k : Int) : Option I0 :=
 lP N [.r, .r, .l, .r, .b] [] k_ (un 1 (.con .val [lf i64 i2 .ro] :: (.con (.box ⟨39, false, []⟩) [lf ty9 d2 .ro, lf ty10 d3 .ro] :: (un 2 (.con .val [lf ty0 out .dp] :: (.con .val [lf i64 k .ro] :: (un 38 [])))))))
theorem ql0 (N : Nat) : ∀ k_, El0 N k_ = Z6g N k_
 | 0 => by kernel_rfl
 | k_ + 1 => (show El0 N (k_ + 1) = Z8k N (El0 N k_) from by kernel_rfl).trans (by simp only [ql0 N k_]; rfl)
noncomputable def eE : EnTryz := ⟨146, sG, [.v ty11, .v i64], _, Z79 N, pk1 ty0, enK Tryz.func146 (by kernel_rfl),
 fun d i => eok (eS N) (by kernel_rfl) Tryz.func146 rfl N an_ rfl (Y4 ty0) (.trans (b := Z0ak N (El0 N N) d i) (by kernel_rfl) (by rw [ql0]; rfl))⟩
end Z79
namespace Z88
def sG := sgV [.val ty11] [(ty17, .dp)]
noncomputable def eS : List EnTryz := [Z0.eE N, Z79.eE N]
def an_ : Nat -> Option (List Nat)
 | 0 => some [1, 3, 4]
 | _ => none
noncomputable def lP (p : List Dir) (rs : List (Env -> Option L0)) (k : Nat) (env : Env) : Option L0 :=
 lpE (eS N) N an_ p Tryz.f81 (endK Tb sG Tryz.f81 [] (un1 ty17)) rs k env
noncomputable def El0 (k_ : Nat) (d2 : R0) (d3 : A0) (out : L0) (i : Int) : Option L0 :=
 lP N [.r, .r, .l, .r, .b] [] k_ (un 1 (.con (.box ⟨39, false, []⟩) [lf ty9 d2 .ro, lf ty10 d3 .ro] :: (un 1 (.con .val [lf ty17 out .dp] :: (.con .val [lf i64 i .ro] :: (un 26 []))))))
theorem ql0 (N : Nat) : ∀ k_, El0 N k_ = Z5m N k_
 | 0 => by kernel_rfl
 | k_ + 1 => (show El0 N (k_ + 1) = Z7a N (El0 N k_) from by kernel_rfl).trans (by simp only [ql0 N k_]; rfl)
noncomputable def eE : EnTryz := ⟨81, sG, [.v ty11], _, Z88 N, pk1 ty17, enK Tryz.func81 (by kernel_rfl),
 fun d => eok (eS N) (by kernel_rfl) Tryz.func81 rfl N an_ rfl (Y4 ty17) (.trans (b := Z0az N (El0 N N) d) (by kernel_rfl) (by rw [ql0]; rfl))⟩
end Z88
namespace Z53
def sG := sgV [.val ty11] [(.bool, .dp)]
noncomputable def eS : List EnTryz := [Z0.eE N, Z88.eE N]
noncomputable def eE : EnTryz := ⟨207, sG, [.v ty11], _, Z53 N, pk1 .bool, enK Tryz.func207 (by kernel_rfl),
 fun d => eok (eS N) (by kernel_rfl) Tryz.func207 rfl N an0 rfl (Y4 .bool) (by kernel_rfl)⟩
end Z53
namespace Z1w
def sG := sgV [.val ty11, .val ty0] [(.bool, .dp)]
noncomputable def eS : List EnTryz := [Z4j.eE N, Z53.eE N]
noncomputable def eE : EnTryz := ⟨151, sG, [.v ty11, .v ty0], _, Z1w N, pk1 .bool, enK Tryz.func151 (by kernel_rfl),
 fun d l => eok (eS N) (by kernel_rfl) Tryz.func151 rfl N an0 rfl (Y4 .bool) (by kernel_rfl)⟩
end Z1w
namespace Z5n
def sG := sgV [.val ty11, .val ty15] [(ty17, .dp)]
noncomputable def eS : List EnTryz := [Z6o.eE N, Z1w.eE N, Z2v.eE N]
def an_ : Nat -> Option (List Nat)
 | 0 => some [2, 5, 6, 7]
 | _ => none
noncomputable def lP (p : List Dir) (rs : List (Env -> Option L0)) (k : Nat) (env : Env) : Option L0 :=
 lpE (eS N) N an_ p Tryz.f86 (endK Tb sG Tryz.f86 [] (un1 ty17)) rs k env
noncomputable def El0 (k_ : Nat) (d2 : R0) (d3 : A0) (out : L0) (l : List (List Int × List Int)) (i : Int) : Option L0 :=
 lP N [.r, .r, .r, .l, .r, .b] [] k_ (un 2 (.con (.box ⟨39, false, []⟩) [lf ty9 d2 .ro, lf ty10 d3 .ro] :: (un 2 (.con .val [lf ty17 out .dp] :: (.con .val [lf ty19 l .dp] :: (.con .val [lf i64 i .ro] :: (un 25 [])))))))
theorem ql0 (N : Nat) : ∀ k_, El0 N k_ = Z6s N k_
 | 0 => by kernel_rfl
 | k_ + 1 => (show El0 N (k_ + 1) = Z9e N (El0 N k_) from by kernel_rfl).trans (by simp only [ql0 N k_]; rfl)
noncomputable def eE : EnTryz := ⟨86, sG, [.v ty11, .v ty15], _, Z5n N, pk1 ty17, enK Tryz.func86 (by kernel_rfl),
 fun d q => eok (eS N) (by kernel_rfl) Tryz.func86 rfl N an_ rfl (Y4 ty17) (.trans (b := Z9z N (El0 N N) d q) (by kernel_rfl) (by rw [ql0]; rfl))⟩
end Z5n
namespace Z9c
def sG := sgV [.val ty17, .val ty0] [(.bool, .dp)]
noncomputable def eS : List EnTryz := [Z4d.eE N]
def an_ : Nat -> Option (List Nat)
 | 0 => some [0, 1, 5]
 | 2 => some [0, 1, 5, 6, 7]
 | _ => none
noncomputable def lP (p : List Dir) (rs : List (Env -> Option (Bool))) (k : Nat) (env : Env) : Option (Bool) :=
 lpE (eS N) N an_ p Tryz.f152 (endK Tb sG Tryz.f152 [] (un1 .bool)) rs k env
noncomputable def El1 (k0_ : Nat) (k_ : Nat) (l3 : L0) (s3 : I0) (i2 : Int) (all : Bool) (k : Int) : Option (Bool) :=
 lP N [.r, .l, .r, .b, .b, .r, .l, .b, .r, .l, .r, .b] [lP N [.r, .l, .r, .b] [] k0_] k_ (.con .val [lf ty17 l3 .ro] :: (.con .val [lf ty0 s3 .ro] :: (un 3 (.con .val [lf i64 i2 .ro] :: (.con .val [lf .bool all .ro] :: (.con .val [lf i64 k .ro] :: (un 28 [])))))))
noncomputable def El0 (k_ : Nat) (l2 : L0) (s2 : I0) (i : Int) : Option (Bool) :=
 lP N [.r, .l, .r, .b] [] k_ (.con .val [lf ty17 l2 .ro] :: (.con .val [lf ty0 s2 .ro] :: (un 3 (.con .val [lf i64 i .ro] :: (un 30 [])))))
theorem ql1 (N : Nat) (k0_ : Nat) : ∀ k_, El1 N k0_ k_ = Z8q (El0 N k0_) N k_
 | 0 => by kernel_rfl
 | k_ + 1 => (show El1 N k0_ (k_ + 1) = Z0a0 N (El0 N k0_) (El1 N k0_ k_) from by kernel_rfl).trans (by simp only [ql1 N k0_ k_]; rfl)
theorem ql0 (N : Nat) : ∀ k_, El0 N k_ = Z3p N k_
 | 0 => by kernel_rfl
 | k_ + 1 => (show El0 N (k_ + 1) = Z94 N (El1 N k_ N) (El0 N k_) from by kernel_rfl).trans (by simp only [ql1, ql0 N k_]; rfl)
noncomputable def eE : EnTryz := ⟨152, sG, [.v ty17, .v ty0], _, Z9c N, pk1 .bool, enK Tryz.func152 (by kernel_rfl),
 fun l s => eok (eS N) (by kernel_rfl) Tryz.func152 rfl N an_ rfl (Y4 .bool) (.trans (b := Z0b0 N (El0 N N) l s) (by kernel_rfl) (by rw [ql0]; rfl))⟩
end Z9c
namespace Z4o
def sG := sgV [.val ty17, .val ty0] [(.bool, .dp)]
noncomputable def eS : List EnTryz := [Z9c.eE N]
noncomputable def eE : EnTryz := ⟨87, sG, [.v ty17, .v ty0], _, Z4o N, pk1 .bool, enK Tryz.func87 (by kernel_rfl),
 fun l s => eok (eS N) (by kernel_rfl) Tryz.func87 rfl N an0 rfl (Y4 .bool) (by kernel_rfl)⟩
end Z4o
namespace Z7b
def sG := sgV [.val ty11, .val ty15, .val ty17, .val .bool] [(ty0, .dp), (.bool, .dp)]
noncomputable def eS : List EnTryz := [Z2c.eE N, Z4o.eE N, Z5n.eE N]
def an_ : Nat -> Option (List Nat)
 | 0 => some [2, 3, 4, 5, 10, 11]
 | _ => none
noncomputable def lP (p : List Dir) (rs : List (Env -> Option (List Int × Bool))) (k : Nat) (env : Env) : Option (List Int × Bool) :=
 lpE (eS N) N an_ p Tryz.f92 (endK Tb sG Tryz.f92 [] (un2 ty0 .bool)) rs k env
noncomputable def El0 (k_ : Nat) (sets2 : L0) (want2 : Bool) (d2 : R0) (d3 : A0) (q2 : Int) (q3 : A0) (q4 : I0) (need : L0) (i : Int) : Option (List Int × Bool) :=
 lP N [.r, .r, .l, .r, .b] [] k_ (un 2 (.con .val [lf ty17 sets2 .ro] :: (.con .val [lf .bool want2 .ro] :: (.con (.box ⟨39, false, []⟩) [lf ty9 d2 .ro, lf ty10 d3 .ro] :: (.con (.box ⟨44, false, []⟩) [lf i64 q2 .ro, lf ty14 q3 .ro, lf ty0 q4 .ro] :: (un 4 (.con .val [lf ty17 need .dp] :: (.con .val [lf i64 i .ro] :: (un 29 [])))))))))
theorem ql0 (N : Nat) : ∀ k_, El0 N k_ = Z6h N k_
 | 0 => by kernel_rfl
 | k_ + 1 => (show El0 N (k_ + 1) = Z8l N (El0 N k_) from by kernel_rfl).trans (by simp only [ql0 N k_]; rfl)
noncomputable def eE : EnTryz := ⟨92, sG, [.v ty11, .v ty15, .v ty17, .v .bool], _, Z7b N, pk2 ty0 .bool, enK Tryz.func92 (by kernel_rfl),
 fun d q sets want => eok (eS N) (by kernel_rfl) Tryz.func92 rfl N an_ rfl (Y1c ty0 .bool) (.trans (b := Z0al N (El0 N N) d q sets want) (by kernel_rfl) (by rw [ql0]; rfl))⟩
end Z7b
namespace Z0j
def sG := sgV [.val ty11, .val ty13, .val ty15] [(ty0, .dp), (.bool, .dp)]
noncomputable def eS : List EnTryz := [Z1i.eE N, Z7b.eE N]
noncomputable def eE : EnTryz := ⟨45, sG, [.v ty11, .v ty13, .v ty15], _, Z0j N, pk2 ty0 .bool, enK Tryz.func45 (by kernel_rfl),
 fun d l q => eok (eS N) (by kernel_rfl) Tryz.func45 rfl N an0 rfl (Y1c ty0 .bool) (by kernel_rfl)⟩
end Z0j
namespace Z4
def sG := sgV [.val i64, .val i64, .val i64] [(.bool, .dp)]
noncomputable def eS (N : Nat) : List EnTryz := []
noncomputable def eE : EnTryz := ⟨135, sG, [.v i64, .v i64, .v i64], _, Z4 N, pk1 .bool, enK Tryz.func135 (by kernel_rfl),
 fun n low high => eok (eS N) (by kernel_rfl) Tryz.func135 rfl N an0 rfl (Y4 .bool) (by kernel_rfl)⟩
end Z4
namespace Z2l
def sG := sgV [.val ty1] [(.bool, .dp)]
noncomputable def eS : List EnTryz := [Z4.eE N]
noncomputable def eE : EnTryz := ⟨233, sG, [.v ty1], _, Z2l N, pk1 .bool, enK Tryz.func233 (by kernel_rfl),
 fun relation => eok (eS N) (by kernel_rfl) Tryz.func233 rfl N an0 rfl (Y4 .bool) (by kernel_rfl)⟩
end Z2l
namespace Z0r
def sG := sgV [.val ty9] [(.bool, .dp)]
noncomputable def eS : List EnTryz := [Z2l.eE N]
def an_ : Nat -> Option (List Nat)
 | 0 => some [0, 5, 6, 7]
 | _ => none
noncomputable def lP (p : List Dir) (rs : List (Env -> Option (Bool))) (k : Nat) (env : Env) : Option (Bool) :=
 lpE (eS N) N an_ p Tryz.f177 (endK Tb sG Tryz.f177 [] (un1 .bool)) rs k env
noncomputable def El0 (k_ : Nat) (relations2 : R0) (t5 : R0) (t6 : Int) (t7 : Int) : Option (Bool) :=
 lP N [.r, .l, .r, .b] [] k_ (.con .val [lf ty9 relations2 .ro] :: (un 4 (.con .val [lf ty9 t5 .ro] :: (.con .val [lf i64 t6 .ro] :: (.con .val [lf i64 t7 .ro] :: (un 26 []))))))
theorem ql0 (N : Nat) : ∀ k_, El0 N k_ = Z23 N k_
 | 0 => by kernel_rfl
 | k_ + 1 => (show El0 N (k_ + 1) = Z43 N (El0 N k_) from by kernel_rfl).trans (by simp only [ql0 N k_]; rfl)
noncomputable def eE : EnTryz := ⟨177, sG, [.v ty9], _, Z0r N, pk1 .bool, enK Tryz.func177 (by kernel_rfl),
 fun relations => eok (eS N) (by kernel_rfl) Tryz.func177 rfl N an_ rfl (Y4 .bool) (.trans (b := Z7c N (El0 N N) relations) (by kernel_rfl) (by rw [ql0]; rfl))⟩
end Z0r
namespace Z54
def sG := sgV [.val i64] [(.bool, .dp)]
noncomputable def eS : List EnTryz := [Z4.eE N]
noncomputable def eE : EnTryz := ⟨282, sG, [.v i64], _, Z54 N, pk1 .bool, enK Tryz.func282 (by kernel_rfl),
 fun v => eok (eS N) (by kernel_rfl) Tryz.func282 rfl N an0 rfl (Y4 .bool) (by kernel_rfl)⟩
end Z54
namespace Z0g
def sG := sgV [.val ty0, .clo] [(i64, .dp)]
noncomputable def eS : List EnTryz := [Z54.eE N]
def an_ : Nat -> Option (List Nat)
 | 0 => some [0, 1, 7, 8]
 | _ => none
noncomputable def lP (p : List Dir) (rs : List (Env -> Option (Int))) (k : Nat) (env : Env) : Option (Int) :=
 lpE (eS N) N an_ p Tryz.f193 (endK Tb sG Tryz.f193 [] (un1 i64)) rs k env
noncomputable def El0 (k_ : Nat) (s2 : I0) (t7 : Int) (t8 : Int) : Option (Int) :=
 lP N [.r, .l, .r, .b] [] k_ (.con .val [lf ty0 s2 .ro] :: (.cloR 282 [] :: (un 5 (.con .val [lf i64 t7 .ro] :: (.con .val [lf i64 t8 .ro] :: (un 10 []))))))
theorem ql0 (N : Nat) : ∀ k_, El0 N k_ = Z0d N k_
 | 0 => by kernel_rfl
 | k_ + 1 => (show El0 N (k_ + 1) = Z0v N (El0 N k_) from by kernel_rfl).trans (by simp only [ql0 N k_]; rfl)
noncomputable def eE : EnTryz := ⟨193, sG, [.v ty0, .c 282 []], _, Z0g N, pk1 i64, enK Tryz.func193 (by kernel_rfl),
 fun s => eok (eS N) (by kernel_rfl) Tryz.func193 rfl N an_ rfl (Y4 i64) (.trans (b := Z2m N (El0 N N) s) (by kernel_rfl) (by rw [ql0]; rfl))⟩
end Z0g
namespace Z0e
def sG := sgV [.val ty0, .clo] [(.bool, .dp)]
noncomputable def eS : List EnTryz := [Z0g.eE N]
noncomputable def eE : EnTryz := ⟨133, sG, [.v ty0, .c 282 []], _, Z0e N, pk1 .bool, enK Tryz.func133 (by kernel_rfl),
 fun s => eok (eS N) (by kernel_rfl) Tryz.func133 rfl N an0 rfl (Y4 .bool) (by kernel_rfl)⟩
end Z0e
namespace Z5o
def sG := sgV [.val ty0] [(.bool, .dp)]
noncomputable def eS : List EnTryz := [Z0e.eE N]
noncomputable def eE : EnTryz := ⟨234, sG, [.v ty0], _, Z5o N, pk1 .bool, enK Tryz.func234 (by kernel_rfl),
 fun list => eok (eS N) (by kernel_rfl) Tryz.func234 rfl N an0 rfl (Y4 .bool) (by kernel_rfl)⟩
end Z5o
namespace Z89
def sG := sgV [.val ty9, .val ty3] [(.bool, .dp)]
noncomputable def eS : List EnTryz := [Z4.eE N, Z5o.eE N]
noncomputable def eE : EnTryz := ⟨178, sG, [.v ty9, .v ty3], _, Z89 N, pk1 .bool, enK Tryz.func178 (by kernel_rfl),
 fun relations fact => eok (eS N) (by kernel_rfl) Tryz.func178 rfl N an0 rfl (Y4 .bool) (by kernel_rfl)⟩
end Z89
namespace Z8s
def sG := sgV [.val i64, .val i64] [(i64, .dp)]
noncomputable def eS (N : Nat) : List EnTryz := []
noncomputable def eE : EnTryz := ⟨235, sG, [.v i64, .v i64], _, Z8s N, pk1 i64, enK Tryz.func235 (by kernel_rfl),
 fun a b => eok (eS N) (by kernel_rfl) Tryz.func235 rfl N an0 rfl (Y4 i64) (by kernel_rfl)⟩
end Z8s
namespace Z6p
def sG := sgV [.val i64] [(.bool, .dp)]
noncomputable def eS (N : Nat) : List EnTryz := []
noncomputable def eE : EnTryz := ⟨293, sG, [.v i64], _, Z6p N, pk1 .bool, enK Tryz.func293 (by kernel_rfl),
 fun x => eok (eS N) (by kernel_rfl) Tryz.func293 rfl N an0 rfl (Y4 .bool) (by kernel_rfl)⟩
end Z6p
namespace Z4x
def sG := sgV [.val i64, .val i64] [(i64, .dp)]
noncomputable def eS : List EnTryz := [Z6p.eE N]
noncomputable def eE : EnTryz := ⟨283, sG, [.v i64, .v i64], _, Z4x N, pk1 i64, enK Tryz.func283 (by kernel_rfl),
 fun x y => eok (eS N) (by kernel_rfl) Tryz.func283 rfl N an0 rfl (Y4 i64) (by kernel_rfl)⟩
end Z4x
namespace Z1j
def sG := sgV [.val ty0, .val ty0] [(i64, .dp)]
noncomputable def eS : List EnTryz := [Z4x.eE N]
def an_ : Nat -> Option (List Nat)
 | 0 => some [0, 1, 9, 10, 11]
 | _ => none
noncomputable def lP (p : List Dir) (rs : List (Env -> Option (Int))) (k : Nat) (env : Env) : Option (Int) :=
 lpE (eS N) N an_ p Tryz.f236 (endK Tb sG Tryz.f236 [] (un1 i64)) rs k env
noncomputable def El0 (k_ : Nat) (s12 : I0) (s22 : I0) (t9 : I0) (t10 : Int) (t11 : Int) : Option (Int) :=
 lP N [.r, .l, .r, .b] [] k_ (.con .val [lf ty0 s12 .ro] :: (.con .val [lf ty0 s22 .ro] :: (un 7 (.con .val [lf ty0 t9 .ro] :: (.con .val [lf i64 t10 .ro] :: (.con .val [lf i64 t11 .ro] :: (un 24 [])))))))
theorem ql0 (N : Nat) : ∀ k_, El0 N k_ = Z11 N k_
 | 0 => by kernel_rfl
 | k_ + 1 => (show El0 N (k_ + 1) = Z25 N (El0 N k_) from by kernel_rfl).trans (by simp only [ql0 N k_]; rfl)
noncomputable def eE : EnTryz := ⟨236, sG, [.v ty0, .v ty0], _, Z1j N, pk1 i64, enK Tryz.func236 (by kernel_rfl),
 fun s1 s2 => eok (eS N) (by kernel_rfl) Tryz.func236 rfl N an_ rfl (Y4 i64) (.trans (b := Z6u N (El0 N N) s1 s2) (by kernel_rfl) (by rw [ql0]; rfl))⟩
end Z1j
namespace Z3y
def sG := sgV [.val ty3, .val ty3] [(i64, .dp)]
noncomputable def eS : List EnTryz := [Z8s.eE N, Z1j.eE N]
noncomputable def eE : EnTryz := ⟨179, sG, [.v ty3, .v ty3], _, Z3y N, pk1 i64, enK Tryz.func179 (by kernel_rfl),
 fun a b => eok (eS N) (by kernel_rfl) Tryz.func179 rfl N an0 rfl (Y4 i64) (by kernel_rfl)⟩
end Z3y
namespace Z0a
def sG := sgV [.val ty11] [(.bool, .dp)]
noncomputable def eS : List EnTryz := [Z89.eE N, Z3y.eE N, Z0r.eE N]
def an_ : Nat -> Option (List Nat)
 | 0 => some [1, 16, 17, 18]
 | _ => none
noncomputable def lP (p : List Dir) (rs : List (Env -> Option (Bool))) (k : Nat) (env : Env) : Option (Bool) :=
 lpE (eS N) N an_ p Tryz.f116 (endK Tb sG Tryz.f116 [] (un1 .bool)) rs k env
noncomputable def El0 (k_ : Nat) (db2 : R0) (db3 : A0) (t16 : A0) (t17 : Int) (t18 : Int) : Option (Bool) :=
 lP N [.r, .r, .l, .r, .b] [] k_ (un 1 (.con (.box ⟨39, false, []⟩) [lf ty9 db2 .ro, lf ty10 db3 .ro] :: (un 14 (.con .val [lf ty10 t16 .ro] :: (.con .val [lf i64 t17 .ro] :: (.con .val [lf i64 t18 .ro] :: (un 25 [])))))))
theorem ql0 (N : Nat) : ∀ k_, El0 N k_ = Z2g N k_
 | 0 => by kernel_rfl
 | k_ + 1 => (show El0 N (k_ + 1) = Z4t N (El0 N k_) from by kernel_rfl).trans (by simp only [ql0 N k_]; rfl)
noncomputable def eE : EnTryz := ⟨116, sG, [.v ty11], _, Z0a N, pk1 .bool, enK Tryz.func116 (by kernel_rfl),
 fun db => eok (eS N) (by kernel_rfl) Tryz.func116 rfl N an_ rfl (Y4 .bool) (.trans (b := Z8a N (El0 N N) db) (by kernel_rfl) (by rw [ql0]; rfl))⟩
end Z0a
namespace Z20
def sG := sgV [.val ty11, .val ty12] [(.bool, .dp)]
noncomputable def eS : List EnTryz := [Z0a.eE N, Z4.eE N]
noncomputable def eE : EnTryz := ⟨244, sG, [.v ty11, .v ty12], _, Z20 N, pk1 .bool, enK Tryz.func244 (by kernel_rfl),
 fun db constraint => eok (eS N) (by kernel_rfl) Tryz.func244 rfl N an0 rfl (Y4 .bool) (by kernel_rfl)⟩
end Z20
namespace Z7u
def sG := sgV [.val ty12, .val ty3, .val ty3] [(.bool, .dp)]
noncomputable def eS (N : Nat) : List EnTryz := []
noncomputable def eE : EnTryz := ⟨245, sG, [.v ty12, .v ty3, .v ty3], _, Z7u N, pk1 .bool, enK Tryz.func245 (by kernel_rfl),
 fun c a b => eok (eS N) (by kernel_rfl) Tryz.func245 rfl N an0 rfl (Y4 .bool) (by kernel_rfl)⟩
end Z7u
namespace Z14
def sG := sgV [.val ty11, .val ty12, .val i64, .val i64] [(.bool, .dp)]
noncomputable def eS : List EnTryz := [Z20.eE N, Z4.eE N, Z7u.eE N]
noncomputable def eE : EnTryz := ⟨184, sG, [.v ty11, .v ty12, .v i64, .v i64], _, Z14 N, pk1 .bool, enK Tryz.func184 (by kernel_rfl),
 fun db constraint first second => eok (eS N) (by kernel_rfl) Tryz.func184 rfl N an0 rfl (Y4 .bool) (by kernel_rfl)⟩
end Z14
namespace Z27
def sG := sgV [.val ty0, .val ty0] [(.bool, .dp)]
noncomputable def eS (N : Nat) : List EnTryz := []
def an_ : Nat -> Option (List Nat)
 | 0 => some [0, 1, 12, 13]
 | _ => none
noncomputable def lP (p : List Dir) (rs : List (Env -> Option (Bool))) (k : Nat) (env : Env) : Option (Bool) :=
 lpE (eS N) N an_ p Tryz.f199 (endK Tb sG Tryz.f199 [] (un1 .bool)) rs k env
noncomputable def El0 (k_ : Nat) (s12 : I0) (s22 : I0) (t12 : Int) (t13 : Int) : Option (Bool) :=
 lP N [.r, .r, .l, .r, .b] [] k_ (.con .val [lf ty0 s12 .ro] :: (.con .val [lf ty0 s22 .ro] :: (un 10 (.con .val [lf i64 t12 .ro] :: (.con .val [lf i64 t13 .ro] :: (un 12 []))))))
theorem ql0 (N : Nat) : ∀ k_, El0 N k_ = Z26 N k_
 | 0 => by kernel_rfl
 | k_ + 1 => (show El0 N (k_ + 1) = Z4e N (El0 N k_) from by kernel_rfl).trans (by simp only [ql0 N k_]; rfl)
noncomputable def eE : EnTryz := ⟨199, sG, [.v ty0, .v ty0], _, Z27 N, pk1 .bool, enK Tryz.func199 (by kernel_rfl),
 fun s1 s2 => eok (eS N) (by kernel_rfl) Tryz.func199 rfl N an_ rfl (Y4 .bool) (.trans (b := Z7n N (El0 N N) s1 s2) (by kernel_rfl) (by rw [ql0]; rfl))⟩
end Z27
namespace Z7d
def sG := sgV [.val ty9, .val ty3, .val ty3] [(.bool, .dp)]
noncomputable def eS : List EnTryz := [Z27.eE N]
noncomputable def eE : EnTryz := ⟨138, sG, [.v ty9, .v ty3, .v ty3], _, Z7d N, pk1 .bool, enK Tryz.func138 (by kernel_rfl),
 fun relations a b => eok (eS N) (by kernel_rfl) Tryz.func138 rfl N an0 rfl (Y4 .bool) (by kernel_rfl)⟩
end Z7d
namespace Z29
def sG := sgV [.val i64, .val i64, .ptr ty13, .ptr ty11] [(.bool, .dp)]
noncomputable def eS : List EnTryz := [Z14.eE N, Z7d.eE N]
def an_ : Nat -> Option (List Nat)
 | 0 => some [0, 1, 3, 9, 10, 11]
 | _ => none
noncomputable def lP (p : List Dir) (rs : List (Env -> Option (Bool))) (k : Nat) (env : Env) : Option (Bool) :=
 lpE (eS N) N an_ p Tryz.f183 (endK Tb sG Tryz.f183 [] (un1 .bool)) rs k env
noncomputable def El0 (k_ : Nat) (a2 : Int) (b2 : Int) (t3 : R0) (t32 : A0) (t9 : List C0) (t10 : Int) (t11 : Int) : Option (Bool) :=
 lP N [.r, .l, .r, .b] [] k_ (.con .val [lf i64 a2 .ro] :: (.con .val [lf i64 b2 .ro] :: (un 1 (.eptr [lf ty9 t3 .ro, lf ty10 t32 .ro] none :: (un 5 (.con .val [lf ty13 t9 .ro] :: (.con .val [lf i64 t10 .ro] :: (.con .val [lf i64 t11 .ro] :: (un 29 [])))))))))
theorem ql0 (N : Nat) : ∀ k_, El0 N k_ = Z28 N k_
 | 0 => by kernel_rfl
 | k_ + 1 => (show El0 N (k_ + 1) = Z4f N (El0 N k_) from by kernel_rfl).trans (by simp only [ql0 N k_]; rfl)
noncomputable def eE : EnTryz := ⟨183, sG, [.v i64, .v i64, .p ty13, .p ty11], _, Z29 N, pk1 .bool, enK Tryz.func183 (by kernel_rfl),
 fun a b c2 c3 => eok (eS N) (by kernel_rfl) Tryz.func183 rfl N an_ rfl (Y4 .bool) (.trans (b := Z7o N (El0 N N) a b c2 c3) (by kernel_rfl) (by rw [ql0]; rfl))⟩
end Z29
namespace Z1g
def sG := sgV [.val i64, .clo] [(ty16, .dp)]
noncomputable def eS : List EnTryz := [Z29.eE N]
def an_ : Nat -> Option (List Nat)
 | 0 => some [0, 1, 5, 9, 10]
 | 2 => some [0, 1, 5, 6, 7, 9, 10]
 | _ => none
noncomputable def lP (p : List Dir) (rs : List (Env -> Option E0)) (k : Nat) (env : Env) : Option E0 :=
 lpE (eS N) N an_ p Tryz.f182 (endK Tb sG Tryz.f182 [] (un1 ty16)) rs k env
noncomputable def El1 (k0_ : Nat) (k_ : Nat) (n3 : Int) (holds3 : List C0) (holds4 : D0) (out2 : E0) (a : Int) (b : Int) (t92 : Int) (t102 : Int) : Option E0 :=
 lP N [.r, .r, .l, .r, .b, .b, .r, .r, .l, .b, .r, .r, .b] [lP N [.r, .r, .l, .r, .b] [] k0_] k_ (.con .val [lf i64 n3 .ro] :: (.cloR 183 [⟨ty13, holds3⟩, ⟨ty11, holds4⟩] :: (un 3 (.con .val [lf ty16 out2 .dp] :: (.con .val [lf i64 a .ro] :: (.con .val [lf i64 b .ro] :: (un 1 (.con .val [lf i64 t92 .ro] :: (.con .val [lf i64 t102 .ro] :: (un 21 []))))))))))
noncomputable def El0 (k_ : Nat) (n2 : Int) (holds : List C0) (holds2 : D0) (out : E0) (t9 : Int) (t10 : Int) : Option E0 :=
 lP N [.r, .r, .l, .r, .b] [] k_ (.con .val [lf i64 n2 .ro] :: (.cloR 183 [⟨ty13, holds⟩, ⟨ty11, holds2⟩] :: (un 3 (.con .val [lf ty16 out .dp] :: (un 3 (.con .val [lf i64 t9 .ro] :: (.con .val [lf i64 t10 .ro] :: (un 21 []))))))))
theorem ql1 (N : Nat) (k0_ : Nat) : ∀ k_, El1 N k0_ k_ = Z0n (El0 N k0_) N k_
 | 0 => by kernel_rfl
 | k_ + 1 => (show El1 N k0_ (k_ + 1) = Z2n N (El0 N k0_) (El1 N k0_ k_) from by kernel_rfl).trans (by simp only [ql1 N k0_ k_]; rfl)
theorem ql0 (N : Nat) : ∀ k_, El0 N k_ = Z0o N k_
 | 0 => by kernel_rfl
 | k_ + 1 => (show El0 N (k_ + 1) = Z2o N (El1 N k_ N) (El0 N k_) from by kernel_rfl).trans (by simp only [ql1, ql0 N k_]; rfl)
noncomputable def eE : EnTryz := ⟨182, sG, [.v i64, .c 183 [ty13, ty11]], _, Z1g N, pk1 ty16, enK Tryz.func182 (by kernel_rfl),
 fun n c c2 => eok (eS N) (by kernel_rfl) Tryz.func182 rfl N an_ rfl (Y4 ty16) (.trans (b := Z59 N (El0 N N) n c c2) (by kernel_rfl) (by rw [ql0]; rfl))⟩
end Z1g
namespace Z3e
def sG := sgV [.val ty11, .val ty13] [(ty16, .dp)]
noncomputable def eS : List EnTryz := [Z0a.eE N, Z1g.eE N]
noncomputable def eE : EnTryz := ⟨118, sG, [.v ty11, .v ty13], _, Z3e N, pk1 ty16, enK Tryz.func118 (by kernel_rfl),
 fun db constraints => eok (eS N) (by kernel_rfl) Tryz.func118 rfl N an0 rfl (Y4 ty16) (by kernel_rfl)⟩
end Z3e
namespace Z1x
def sG := sgV [.val i64, .val ty16] [(.bool, .dp)]
noncomputable def eS : List EnTryz := [Z4.eE N]
def an_ : Nat -> Option (List Nat)
 | 0 => some [0, 1, 10, 11, 12]
 | _ => none
noncomputable def lP (p : List Dir) (rs : List (Env -> Option (Bool))) (k : Nat) (env : Env) : Option (Bool) :=
 lpE (eS N) N an_ p Tryz.f208 (endK Tb sG Tryz.f208 [] (un1 .bool)) rs k env
noncomputable def El0 (k_ : Nat) (n2 : Int) (edges2 : E0) (t10 : E0) (t11 : Int) (t12 : Int) : Option (Bool) :=
 lP N [.r, .r, .l, .r, .b] [] k_ (.con .val [lf i64 n2 .ro] :: (.con .val [lf ty16 edges2 .ro] :: (un 8 (.con .val [lf ty16 t10 .ro] :: (.con .val [lf i64 t11 .ro] :: (.con .val [lf i64 t12 .ro] :: (un 58 [])))))))
theorem ql0 (N : Nat) : ∀ k_, El0 N k_ = Z34 N k_
 | 0 => by kernel_rfl
 | k_ + 1 => (show El0 N (k_ + 1) = Z5e N (El0 N k_) from by kernel_rfl).trans (by simp only [ql0 N k_]; rfl)
noncomputable def eE : EnTryz := ⟨208, sG, [.v i64, .v ty16], _, Z1x N, pk1 .bool, enK Tryz.func208 (by kernel_rfl),
 fun n edges => eok (eS N) (by kernel_rfl) Tryz.func208 rfl N an_ rfl (Y4 .bool) (.trans (b := Z95 N (El0 N N) n edges) (by kernel_rfl) (by rw [ql0]; rfl))⟩
end Z1x
namespace Z1y
def sG := sgV [.val ty0, .val i64] [(.bool, .dp)]
noncomputable def eS : List EnTryz := [Z4.eE N]
def an_ : Nat -> Option (List Nat)
 | 0 => some [0, 1, 7, 8, 9]
 | _ => none
noncomputable def lP (p : List Dir) (rs : List (Env -> Option (Bool))) (k : Nat) (env : Env) : Option (Bool) :=
 lpE (eS N) N an_ p Tryz.f189 (endK Tb sG Tryz.f189 [] (un1 .bool)) rs k env
noncomputable def El0 (k_ : Nat) (indices2 : I0) (n2 : Int) (t7 : I0) (t8 : Int) (t9 : Int) : Option (Bool) :=
 lP N [.r, .l, .r, .b] [] k_ (.con .val [lf ty0 indices2 .ro] :: (.con .val [lf i64 n2 .ro] :: (un 5 (.con .val [lf ty0 t7 .ro] :: (.con .val [lf i64 t8 .ro] :: (.con .val [lf i64 t9 .ro] :: (un 23 [])))))))
theorem ql0 (N : Nat) : ∀ k_, El0 N k_ = Z4p N k_
 | 0 => by kernel_rfl
 | k_ + 1 => (show El0 N (k_ + 1) = Z6v N (El0 N k_) from by kernel_rfl).trans (by simp only [ql0 N k_]; rfl)
noncomputable def eE : EnTryz := ⟨189, sG, [.v ty0, .v i64], _, Z1y N, pk1 .bool, enK Tryz.func189 (by kernel_rfl),
 fun indices n => eok (eS N) (by kernel_rfl) Tryz.func189 rfl N an_ rfl (Y4 .bool) (.trans (b := Z9x N (El0 N N) indices n) (by kernel_rfl) (by rw [ql0]; rfl))⟩
end Z1y
namespace Z35
def sG := sgV [.val ty0, .val i64] [(i64, .dp)]
noncomputable def eS (N : Nat) : List EnTryz := []
def an_ : Nat -> Option (List Nat)
 | 0 => some [0, 1, 7, 8]
 | _ => none
noncomputable def lP (p : List Dir) (rs : List (Env -> Option (Int))) (k : Nat) (env : Env) : Option (Int) :=
 lpE (eS N) N an_ p Tryz.f262 (endK Tb sG Tryz.f262 [] (un1 i64)) rs k env
noncomputable def El0 (k_ : Nat) (s2 : I0) (v2 : Int) (t7 : Int) (t8 : Int) : Option (Int) :=
 lP N [.r, .l, .r, .b] [] k_ (.con .val [lf ty0 s2 .ro] :: (.con .val [lf i64 v2 .ro] :: (un 5 (.con .val [lf i64 t7 .ro] :: (.con .val [lf i64 t8 .ro] :: (un 10 []))))))
theorem ql0 (N : Nat) : ∀ k_, El0 N k_ = Z2a N k_
 | 0 => by kernel_rfl
 | k_ + 1 => (show El0 N (k_ + 1) = Z4g N (El0 N k_) from by kernel_rfl).trans (by simp only [ql0 N k_]; rfl)
noncomputable def eE : EnTryz := ⟨262, sG, [.v ty0, .v i64], _, Z35 N, pk1 i64, enK Tryz.func262 (by kernel_rfl),
 fun s v => eok (eS N) (by kernel_rfl) Tryz.func262 rfl N an_ rfl (Y4 i64) (.trans (b := Z7p N (El0 N N) s v) (by kernel_rfl) (by rw [ql0]; rfl))⟩
end Z35
namespace Z0i
def sG := sgV [.val ty0, .val i64] [(.bool, .dp)]
noncomputable def eS : List EnTryz := [Z35.eE N]
noncomputable def eE : EnTryz := ⟨202, sG, [.v ty0, .v i64], _, Z0i N, pk1 .bool, enK Tryz.func202 (by kernel_rfl),
 fun s v => eok (eS N) (by kernel_rfl) Tryz.func202 rfl N an0 rfl (Y4 .bool) (by kernel_rfl)⟩
end Z0i
namespace Z36
def sG := sgV [.val ty20, .ptr ty0] [(.bool, .dp)]
noncomputable def eS : List EnTryz := [Z0i.eE N]
noncomputable def eE : EnTryz := ⟨268, sG, [.v ty20, .p ty0], _, Z36 N, pk1 .bool, enK Tryz.func268 (by kernel_rfl),
 fun e c1 => eok (eS N) (by kernel_rfl) Tryz.func268 rfl N an0 rfl (Y4 .bool) (by kernel_rfl)⟩
end Z36
namespace Z3
def sG := sgV [.val ty16, .clo] [(i64, .dp)]
noncomputable def eS : List EnTryz := [Z36.eE N]
def an_ : Nat -> Option (List Nat)
 | 0 => some [0, 1, 7, 8]
 | _ => none
noncomputable def lP (p : List Dir) (rs : List (Env -> Option (Int))) (k : Nat) (env : Env) : Option (Int) :=
 lpE (eS N) N an_ p Tryz.f295 (endK Tb sG Tryz.f295 [] (un1 i64)) rs k env
noncomputable def El0 (k_ : Nat) (s2 : E0) (f : I0) (t7 : Int) (t8 : Int) : Option (Int) :=
 lP N [.r, .l, .r, .b] [] k_ (.con .val [lf ty16 s2 .ro] :: (.cloR 268 [⟨ty0, f⟩] :: (un 5 (.con .val [lf i64 t7 .ro] :: (.con .val [lf i64 t8 .ro] :: (un 10 []))))))
theorem ql0 (N : Nat) : ∀ k_, El0 N k_ = Z1 N k_
 | 0 => by kernel_rfl
 | k_ + 1 => (show El0 N (k_ + 1) = Z7 N (El0 N k_) from by kernel_rfl).trans (by simp only [ql0 N k_]; rfl)
noncomputable def eE : EnTryz := ⟨295, sG, [.v ty16, .c 268 [ty0]], _, Z3 N, pk1 i64, enK Tryz.func295 (by kernel_rfl),
 fun s c => eok (eS N) (by kernel_rfl) Tryz.func295 rfl N an_ rfl (Y4 i64) (.trans (b := Z0m N (El0 N N) s c) (by kernel_rfl) (by rw [ql0]; rfl))⟩
end Z3
namespace Z2
def sG := sgV [.val ty16, .clo] [(.bool, .dp)]
noncomputable def eS : List EnTryz := [Z3.eE N]
noncomputable def eE : EnTryz := ⟨267, sG, [.v ty16, .c 268 [ty0]], _, Z2 N, pk1 .bool, enK Tryz.func267 (by kernel_rfl),
 fun s c => eok (eS N) (by kernel_rfl) Tryz.func267 rfl N an0 rfl (Y4 .bool) (by kernel_rfl)⟩
end Z2
namespace Z0t
def sG := sgV [.val ty16, .val ty0] [(.bool, .dp)]
noncomputable def eS : List EnTryz := [Z2.eE N]
noncomputable def eE : EnTryz := ⟨211, sG, [.v ty16, .v ty0], _, Z0t N, pk1 .bool, enK Tryz.func211 (by kernel_rfl),
 fun edges set => eok (eS N) (by kernel_rfl) Tryz.func211 rfl N an0 rfl (Y4 .bool) (by kernel_rfl)⟩
end Z0t
namespace Z37
def sG := sgV [.val i64, .val ty16, .val ty0] [(.bool, .dp)]
noncomputable def eS : List EnTryz := [Z1x.eE N, Z1y.eE N, Z0t.eE N]
noncomputable def eE : EnTryz := ⟨266, sG, [.v i64, .v ty16, .v ty0], _, Z37 N, pk1 .bool, enK Tryz.func266 (by kernel_rfl),
 fun n edges set => eok (eS N) (by kernel_rfl) Tryz.func266 rfl N an0 rfl (Y4 .bool) (by kernel_rfl)⟩
end Z37
namespace Z17
def sG := sgV [.val i64, .val ty16, .val ty0] [(.bool, .dp)]
noncomputable def eS : List EnTryz := [Z0i.eE N, Z5g N, Z0t.eE N, Z37.eE N]
def an_ : Nat -> Option (List Nat)
 | 0 => some [1, 2, 13, 14]
 | _ => none
noncomputable def lP (p : List Dir) (rs : List (Env -> Option (Bool))) (k : Nat) (env : Env) : Option (Bool) :=
 lpE (eS N) N an_ p Tryz.f210 (endK Tb sG Tryz.f210 [] (un1 .bool)) rs k env
noncomputable def El0 (k_ : Nat) (edges2 : E0) (set2 : I0) (t13 : Int) (t14 : Int) : Option (Bool) :=
 lP N [.r, .r, .l, .r, .b] [] k_ (un 1 (.con .val [lf ty16 edges2 .ro] :: (.con .val [lf ty0 set2 .ro] :: (un 10 (.con .val [lf i64 t13 .ro] :: (.con .val [lf i64 t14 .ro] :: (un 16 [])))))))
theorem ql0 (N : Nat) : ∀ k_, El0 N k_ = Z1a N k_
 | 0 => by kernel_rfl
 | k_ + 1 => (show El0 N (k_ + 1) = Z2y N (El0 N k_) from by kernel_rfl).trans (by simp only [ql0 N k_]; rfl)
noncomputable def eE : EnTryz := ⟨210, sG, [.v i64, .v ty16, .v ty0], _, Z17 N, pk1 .bool, enK Tryz.func210 (by kernel_rfl),
 fun n edges set => eok (eS N) (by kernel_rfl) Tryz.func210 rfl N an_ rfl (Y4 .bool) (.trans (b := Z62 N (El0 N N) n edges set) (by kernel_rfl) (by rw [ql0]; rfl))⟩
end Z17
namespace Z0z
def bX : BoxSig := ⟨4, 86, [.dp]⟩
def sG : Sig := ⟨[.val i64, .val ty0, .ptr i64, .ptr ty16, .ptr ty17, .self], [], false, false, some bX, none, none⟩
theorem eN : Enterable Tryz.prog 209 := Y1u Tryz.func209 (code := Tryz.f209.body.getD .skip) (by kernel_rfl) (by kernel_rfl)
noncomputable def eS (Rf : Int -> I0 -> Int -> E0 -> L0 -> Int -> E0 -> Option L0) (hR : OkP (Option L0) [.v i64, .v ty0, .p i64, .p ty16, .p ty17, .s 209 [.ro i64, .ro ty16, .pin, .self]] Rf (fun xs_ q => ∀ x, q = some x -> FnOk Tryz.prog 209 sG xs_ (pk1 ty17 x))) : List EnTryz := [Z17.eE N, Z5g N, Z0t.eE N, ⟨209, sG, [.v i64, .v ty0, .p i64, .p ty16, .p ty17, .s 209 [.ro i64, .ro ty16, .pin, .self]], L0, Rf, pk1 ty17, eN, hR⟩]
theorem vV (Rf : Int -> I0 -> Int -> E0 -> L0 -> Int -> E0 -> Option L0) (hR : OkP (Option L0) [.v i64, .v ty0, .p i64, .p ty16, .p ty17, .s 209 [.ro i64, .ro ty16, .pin, .self]] Rf (fun xs_ q => ∀ x, q = some x -> FnOk Tryz.prog 209 sG xs_ (pk1 ty17 x))) (v : Int) (set : I0) (c2 : Int) (c3 : E0) (c4 : L0) (sc2 : Int) (sc3 : E0) :
  evB (eS N Rf hR) N an0 sG bX Tryz.f209 [.val i64 v, .val ty0 set, .ptr i64 c2, .ptr ty16 c3, .ptr ty17 c4, .fptr 209 [.ro ⟨i64, sc2⟩, .ro ⟨ty16, sc3⟩, .pin, .self]] (un1 ty17) = Z2p N Rf v set c2 c3 c4 sc2 sc3 := by kernel_rfl
theorem oK (N : Nat) : ∀ k_, OkP (Option L0) [.v i64, .v ty0, .p i64, .p ty16, .p ty17, .s 209 [.ro i64, .ro ty16, .pin, .self]] (Z0k N k_) (fun xs_ q => ∀ x, q = some x -> FnOk Tryz.prog 209 sG xs_ (pk1 ty17 x))
 | 0 => fun v set c2 c3 c4 sc2 sc3 =>  fun x h => absurd (show (none : Option L0) = some x from h) (by simp)
 | k_ + 1 => fun v set c2 c3 c4 sc2 sc3 => Y8j tab_ok (es := eS N (Z0k N k_) (oK N k_)) (by kernel_rfl) mixed Tryz.func209 (by kernel_rfl) rfl rfl (fun _ => ⟨_, _, rfl⟩) (Y4 ty17) (vV N _ _ v set c2 c3 c4 sc2 sc3)
noncomputable def eE : EnTryz := ⟨209, sG, [.v i64, .v ty0, .p i64, .p ty16, .p ty17, .s 209 [.ro i64, .ro ty16, .pin, .self]], L0, Z0z N, pk1 ty17, eN, oK N N⟩
end Z0z
namespace Z0u
def sG := sgV [.val i64, .val ty16] [(ty17, .dp)]
noncomputable def eS : List EnTryz := [Z1x.eE N, Z0z.eE N]
noncomputable def eE : EnTryz := ⟨153, sG, [.v i64, .v ty16], _, Z0u N, pk1 ty17, enK Tryz.func153 (by kernel_rfl),
 fun n edges => eok (eS N) (by kernel_rfl) Tryz.func153 rfl N an0 rfl (Y4 ty17) (by kernel_rfl)⟩
end Z0u
namespace Z3f
def sG := sgV [.val ty11, .val ty13] [(ty17, .dp)]
noncomputable def eS : List EnTryz := [Z0a.eE N, Z3e.eE N, Z0u.eE N]
noncomputable def eE : EnTryz := ⟨89, sG, [.v ty11, .v ty13], _, Z3f N, pk1 ty17, enK Tryz.func89 (by kernel_rfl),
 fun db constraints => eok (eS N) (by kernel_rfl) Tryz.func89 rfl N an0 rfl (Y4 ty17) (by kernel_rfl)⟩
end Z3f
namespace Z1k
def sG := sgV [.val ty11, .val ty13] [(ty17, .dp)]
noncomputable def eS : List EnTryz := [Z3f.eE N]
def an_ : Nat -> Option (List Nat)
 | 0 => some [5, 6, 7, 16, 17, 18]
 | 2 => some [5, 6, 7, 27, 28, 29]
 | _ => none
noncomputable def lP (p : List Dir) (rs : List (Env -> Option L0)) (k : Nat) (env : Env) : Option L0 :=
 lpES (eS N) N an_ p Tryz.f94 (endK Tb sG Tryz.f94 [] (un1 ty17)) rs k env
noncomputable def El2 (k_ : Nat) (most3 : Int) (sets3 : L0) (outx : I0) (out3 : L0) (t272 : L0) (t282 : Int) (t292 : Int) : Option L0 :=
 lP N [.r, .r, .r, .l, .r, .b] [] k_ (un 5 (.con .val [lf i64 most3 .ro] :: (.con .val [lf ty17 sets3 .dp] :: (.sel 6 0 26 3 i64 outx out3 :: (un 19 (.con .val [lb ty17 t272 6 0] :: (.con .val [lf i64 t282 .ro] :: (.con .val [lf i64 t292 .ro] :: (un 13 [])))))))))
noncomputable def El1 (k_ : Nat) (most2 : Int) (sets2 : L0) (out2 : L0) (t27 : L0) (t28 : Int) (t29 : Int) : Option L0 :=
 lP N [.r, .r, .r, .l, .r, .b] [] k_ (un 5 (.con .val [lf i64 most2 .ro] :: (.con .val [lf ty17 sets2 .dp] :: (.con .val [lf ty17 out2 .dp] :: (un 19 (.con .val [lb ty17 t27 6 0] :: (.con .val [lf i64 t28 .ro] :: (.con .val [lf i64 t29 .ro] :: (un 13 [])))))))))
noncomputable def El0 (k_ : Nat) (most : Int) (sets : L0) (out : L0) (t16 : L0) (t17 : Int) (t18 : Int) : Option L0 :=
 lP N [.r, .r, .l, .r, .b] [] k_ (un 5 (.con .val [lf i64 most .ro] :: (.con .val [lf ty17 sets .dp] :: (.con .val [lf ty17 out .dp] :: (un 8 (.con .val [lb ty17 t16 6 0] :: (.con .val [lf i64 t17 .ro] :: (.con .val [lf i64 t18 .ro] :: (un 24 [])))))))))
theorem ql2 (N : Nat) : ∀ k_, El2 N k_ = Z1p N k_
 | 0 => by kernel_rfl
 | k_ + 1 => (show El2 N (k_ + 1) = Z3q N (El2 N k_) from by kernel_rfl).trans (by simp only [ql2 N k_]; rfl)
theorem ql1 (N : Nat) : ∀ k_, El1 N k_ = Z1q N k_
 | 0 => by kernel_rfl
 | k_ + 1 => (show El1 N (k_ + 1) = Z3r N (El2 N k_) (El1 N k_) from by kernel_rfl).trans (by simp only [ql2, ql1 N k_]; rfl)
theorem ql0 (N : Nat) : ∀ k_, El0 N k_ = Z1r N k_
 | 0 => by kernel_rfl
 | k_ + 1 => (show El0 N (k_ + 1) = Z3s N (El1 N N) (El0 N k_) from by kernel_rfl).trans (by simp only [ql1, ql0 N k_]; rfl)
noncomputable def eE : EnTryz := ⟨94, sG, [.v ty11, .v ty13], _, Z1k N, pk1 ty17, enK Tryz.func94 (by kernel_rfl),
 fun db constraints => eokS (eS N) (by kernel_rfl) Tryz.func94 rfl N an_ rfl (Y4 ty17) (.trans (b := Z6w N (El0 N N) db constraints) (by kernel_rfl) (by rw [ql0]; rfl))⟩
end Z1k
namespace Z3t
def sG := sgV [.val ty3, .ptr ty3] [(.bool, .dp)]
noncomputable def eS (N : Nat) : List EnTryz := []
noncomputable def eE : EnTryz := ⟨191, sG, [.v ty3, .p ty3], _, Z3t N, pk1 .bool, enK Tryz.func191 (by kernel_rfl),
 fun own c1 => eok (eS N) (by kernel_rfl) Tryz.func191 rfl N an0 rfl (Y4 .bool) (by kernel_rfl)⟩
end Z3t
namespace Z0b
def sG := sgV [.val ty14, .clo] [(i64, .dp)]
noncomputable def eS : List EnTryz := [Z3t.eE N]
def an_ : Nat -> Option (List Nat)
 | 0 => some [0, 1, 7, 8]
 | _ => none
noncomputable def lP (p : List Dir) (rs : List (Env -> Option (Int))) (k : Nat) (env : Env) : Option (Int) :=
 lpE (eS N) N an_ p Tryz.f247 (endK Tb sG Tryz.f247 [] (un1 i64)) rs k env
noncomputable def El0 (k_ : Nat) (s2 : A0) (f : Int × List Int) (t7 : Int) (t8 : Int) : Option (Int) :=
 lP N [.r, .l, .r, .b] [] k_ (.con .val [lf ty14 s2 .ro] :: (.cloR 191 [⟨ty3, f⟩] :: (un 5 (.con .val [lf i64 t7 .ro] :: (.con .val [lf i64 t8 .ro] :: (un 10 []))))))
theorem ql0 (N : Nat) : ∀ k_, El0 N k_ = Z8 N k_
 | 0 => by kernel_rfl
 | k_ + 1 => (show El0 N (k_ + 1) = Z0p N (El0 N k_) from by kernel_rfl).trans (by simp only [ql0 N k_]; rfl)
noncomputable def eE : EnTryz := ⟨247, sG, [.v ty14, .c 191 [ty3]], _, Z0b N, pk1 i64, enK Tryz.func247 (by kernel_rfl),
 fun s c => eok (eS N) (by kernel_rfl) Tryz.func247 rfl N an_ rfl (Y4 i64) (.trans (b := Z1z N (El0 N N) s c) (by kernel_rfl) (by rw [ql0]; rfl))⟩
end Z0b
namespace Z5
def sG := sgV [.val ty14, .clo] [(.bool, .dp)]
noncomputable def eS : List EnTryz := [Z0b.eE N]
noncomputable def eE : EnTryz := ⟨190, sG, [.v ty14, .c 191 [ty3]], _, Z5 N, pk1 .bool, enK Tryz.func190 (by kernel_rfl),
 fun s c => eok (eS N) (by kernel_rfl) Tryz.func190 rfl N an0 rfl (Y4 .bool) (by kernel_rfl)⟩
end Z5
namespace Z21
def sG := sgV [.val ty17] [(ty0, .dp)]
noncomputable def eS : List EnTryz := [Z0br N]
def an_ : Nat -> Option (List Nat)
 | 0 => some [0, 3, 9, 10, 11]
 | 2 => some [6, 25, 26, 27]
 | _ => none
noncomputable def lP (p : List Dir) (rs : List (Env -> Option I0)) (k : Nat) (env : Env) : Option I0 :=
 lpE (eS N) N an_ p Tryz.f169 (endK Tb sG Tryz.f169 [] (un1 ty0)) rs k env
noncomputable def El1 (k_ : Nat) (newslice : I0) (t25 : L0) (t26 : Int) (t27 : Int) : Option I0 :=
 lP N [.r, .r, .r, .r, .l, .r, .b] [] k_ (un 6 (.con .val [lf ty0 newslice .dp] :: (un 18 (.con .val [lf ty17 t25 .ro] :: (.con .val [lf i64 t26 .ro] :: (.con .val [lf i64 t27 .ro] :: (un 8 [])))))))
noncomputable def El0 (k_ : Nat) (slices2 : L0) (size : Int) (t9 : L0) (t10 : Int) (t11 : Int) : Option I0 :=
 lP N [.r, .r, .l, .r, .b] [] k_ (.con .val [lf ty17 slices2 .ro] :: (un 2 (.con .val [lf i64 size .ro] :: (un 5 (.con .val [lf ty17 t9 .ro] :: (.con .val [lf i64 t10 .ro] :: (.con .val [lf i64 t11 .ro] :: (un 24 []))))))))
theorem ql1 (N : Nat) : ∀ k_, El1 N k_ = Z24 N k_
 | 0 => by kernel_rfl
 | k_ + 1 => (show El1 N (k_ + 1) = Z63 N (El1 N k_) from by kernel_rfl).trans (by simp only [ql1 N k_]; rfl)
theorem ql0 (N : Nat) : ∀ k_, El0 N k_ = Z2z N k_
 | 0 => by kernel_rfl
 | k_ + 1 => (show El0 N (k_ + 1) = Z64 N (El1 N N) (El0 N k_) from by kernel_rfl).trans (by simp only [ql1, ql0 N k_]; rfl)
noncomputable def eE : EnTryz := ⟨169, sG, [.v ty17], _, Z21 N, pk1 ty0, enK Tryz.func169 (by kernel_rfl),
 fun slices => eok (eS N) (by kernel_rfl) Tryz.func169 rfl N an_ rfl (Y4 ty0) (.trans (b := Z7e N (El0 N N) slices) (by kernel_rfl) (by rw [ql0]; rfl))⟩
end Z21
namespace Z6x
def sG := sgV [.val ty0, .val ty0] [(ty0, .dp)]
noncomputable def eS : List EnTryz := [Z21.eE N, Z0bs N, Z0b9 N]
noncomputable def eE : EnTryz := ⟨113, sG, [.v ty0, .v ty0], _, Z6x N, pk1 ty0, enK Tryz.func113 (by kernel_rfl),
 fun a b => eok (eS N) (by kernel_rfl) Tryz.func113 rfl N an0 rfl (Y4 ty0) (by kernel_rfl)⟩
end Z6x
namespace Z3g
def sG := sgV [.val ty3] [(ty0, .dp)]
noncomputable def eS : List EnTryz := [Z4.eE N, Z6x.eE N]
def an_ : Nat -> Option (List Nat)
 | 0 => some [3, 8, 9, 10]
 | _ => none
noncomputable def lP (p : List Dir) (rs : List (Env -> Option I0)) (k : Nat) (env : Env) : Option I0 :=
 lpE (eS N) N an_ p Tryz.f192 (endK Tb sG Tryz.f192 [] (un1 ty0)) rs k env
noncomputable def El0 (k_ : Nat) (out : I0) (t8 : I0) (t9 : Int) (t10 : Int) : Option I0 :=
 lP N [.r, .r, .l, .r, .b] [] k_ (un 3 (.con .val [lf ty0 out .dp] :: (un 4 (.con .val [lf ty0 t8 .ro] :: (.con .val [lf i64 t9 .ro] :: (.con .val [lf i64 t10 .ro] :: (un 12 [])))))))
theorem ql0 (N : Nat) : ∀ k_, El0 N k_ = Z4q N k_
 | 0 => by kernel_rfl
 | k_ + 1 => (show El0 N (k_ + 1) = Z7q N (El0 N k_) from by kernel_rfl).trans (by simp only [ql0 N k_]; rfl)
noncomputable def eE : EnTryz := ⟨192, sG, [.v ty3], _, Z3g N, pk1 ty0, enK Tryz.func192 (by kernel_rfl),
 fun atom => eok (eS N) (by kernel_rfl) Tryz.func192 rfl N an_ rfl (Y4 ty0) (.trans (b := Z96 N (El0 N N) atom) (by kernel_rfl) (by rw [ql0]; rfl))⟩
end Z3g
namespace Z3z
def sG := sgV [.val ty9, .val ty15] [(.bool, .dp)]
noncomputable def eS : List EnTryz := [Z4.eE N, Z3g.eE N, Z6x.eE N, Z5.eE N, Z0r.eE N, Z1y.eE N]
def an_ : Nat -> Option (List Nat)
 | 0 => some [0, 3, 5, 36, 37, 38]
 | 2 => some [0, 3, 5, 7, 36, 37, 38, 71, 72, 73]
 | _ => none
noncomputable def lP (p : List Dir) (rs : List (Env -> Option (Bool))) (k : Nat) (env : Env) : Option (Bool) :=
 lpE (eS N) N an_ p Tryz.f132 (endK Tb sG Tryz.f132 [] (un1 .bool)) rs k env
noncomputable def El1 (k0_ : Nat) (k_ : Nat) (relations3 : R0) (query5 : Int) (query6 : A0) (query7 : I0) (occurring2 : I0) (atom : Int) (atom2 : I0) (t362 : A0) (t372 : Int) (t382 : Int) (t71 : I0) (t72 : Int) (t73 : Int) : Option (Bool) :=
 lP N [.r, .r, .r, .l, .r, .b, .b, .r, .r, .l, .b, .r, .r, .l, .r, .b] [lP N [.r, .r, .r, .l, .r, .b] [] k0_] k_ (.con .val [lf ty9 relations3 .ro] :: (un 2 (.con (.box ⟨44, false, []⟩) [lf i64 query5 .ro, lf ty14 query6 .ro, lf ty0 query7 .ro] :: (un 1 (.con .val [lf ty0 occurring2 .dp] :: (un 1 (.con (.box ⟨145, false, []⟩) [lf i64 atom .ro, lf ty0 atom2 .ro] :: (un 28 (.con .val [lf ty14 t362 .ro] :: (.con .val [lf i64 t372 .ro] :: (.con .val [lf i64 t382 .ro] :: (un 32 (.con .val [lf ty0 t71 .ro] :: (.con .val [lf i64 t72 .ro] :: (.con .val [lf i64 t73 .ro] :: (un 20 []))))))))))))))))
noncomputable def El0 (k_ : Nat) (relations2 : R0) (query2 : Int) (query3 : A0) (query4 : I0) (occurring : I0) (t36 : A0) (t37 : Int) (t38 : Int) : Option (Bool) :=
 lP N [.r, .r, .r, .l, .r, .b] [] k_ (.con .val [lf ty9 relations2 .ro] :: (un 2 (.con (.box ⟨44, false, []⟩) [lf i64 query2 .ro, lf ty14 query3 .ro, lf ty0 query4 .ro] :: (un 1 (.con .val [lf ty0 occurring .dp] :: (un 30 (.con .val [lf ty14 t36 .ro] :: (.con .val [lf i64 t37 .ro] :: (.con .val [lf i64 t38 .ro] :: (un 55 []))))))))))
theorem ql1 (N : Nat) (k0_ : Nat) : ∀ k_, El1 N k0_ k_ = Z2q (El0 N k0_) N k_
 | 0 => by kernel_rfl
 | k_ + 1 => (show El1 N k0_ (k_ + 1) = Z5z N (El0 N k0_) (El1 N k0_ k_) from by kernel_rfl).trans (by simp only [ql1 N k0_ k_]; rfl)
theorem ql0 (N : Nat) : ∀ k_, El0 N k_ = Z3u N k_
 | 0 => by kernel_rfl
 | k_ + 1 => (show El0 N (k_ + 1) = Z8b N (El1 N k_ N) (El0 N k_) from by kernel_rfl).trans (by simp only [ql1, ql0 N k_]; rfl)
noncomputable def eE : EnTryz := ⟨132, sG, [.v ty9, .v ty15], _, Z3z N, pk1 .bool, enK Tryz.func132 (by kernel_rfl),
 fun relations query => eok (eS N) (by kernel_rfl) Tryz.func132 rfl N an_ rfl (Y4 .bool) (.trans (b := Z9f N (El0 N N) relations query) (by kernel_rfl) (by rw [ql0]; rfl))⟩
end Z3z
namespace Z2d
def sG := sgV [.val ty11, .val ty15] [(.bool, .dp)]
noncomputable def eS : List EnTryz := [Z0a.eE N, Z3z.eE N]
noncomputable def eE : EnTryz := ⟨68, sG, [.v ty11, .v ty15], _, Z2d N, pk1 .bool, enK Tryz.func68 (by kernel_rfl),
 fun db query => eok (eS N) (by kernel_rfl) Tryz.func68 rfl N an0 rfl (Y4 .bool) (by kernel_rfl)⟩
end Z2d
namespace Z40
def sG := sgV [.val ty11] [(ty11, .dp)]
noncomputable def eS (N : Nat) : List EnTryz := []
def an_ : Nat -> Option (List Nat)
 | 0 => some [2, 3, 13, 14, 15]
 | _ => none
noncomputable def lP (p : List Dir) (rs : List (Env -> Option D0)) (k : Nat) (env : Env) : Option D0 :=
 lpE (eS N) N an_ p Tryz.f212 (endK Tb sG Tryz.f212 [] (un1 ty11)) rs k env
noncomputable def El0 (k_ : Nat) (t2 : R0) (t22 : A0) (out : R0) (out2 : A0) (t13 : A0) (t14 : Int) (t15 : Int) : Option D0 :=
 lP N [.r, .r, .l, .r, .b] [] k_ (un 2 (.con (.box ⟨39, false, []⟩) [lf ty9 t2 .dp, lf ty10 t22 .dp] :: (.con (.box ⟨39, false, []⟩) [lf ty9 out .dp, lf ty10 out2 .dp] :: (un 9 (.con .val [lf ty10 t13 .ro] :: (.con .val [lf i64 t14 .ro] :: (.con .val [lf i64 t15 .ro] :: (un 17 []))))))))
theorem ql0 (N : Nat) : ∀ k_, El0 N k_ = Z4y N k_
 | 0 => by kernel_rfl
 | k_ + 1 => (show El0 N (k_ + 1) = Z8c N (El0 N k_) from by kernel_rfl).trans (by simp only [ql0 N k_]; rfl)
noncomputable def eE : EnTryz := ⟨212, sG, [.v ty11], _, Z40 N, pk1 ty11, enK Tryz.func212 (by kernel_rfl),
 fun db => eok (eS N) (by kernel_rfl) Tryz.func212 rfl N an_ rfl (Y4 ty11) (.trans (b := Z9g N (El0 N N) db) (by kernel_rfl) (by rw [ql0]; rfl))⟩
end Z40
namespace Z4l
def sG := sgV [.val ty11, .val ty0] [(ty11, .sh), (.bool, .dp)]
noncomputable def eS : List EnTryz := [Z0a.eE N, Z1y.eE N, Z40.eE N]
def an_ : Nat -> Option (List Nat)
 | 0 => some [4, 6, 7, 27, 28, 29]
 | _ => none
noncomputable def lP (p : List Dir) (rs : List (Env -> Option (D0 × Bool))) (k : Nat) (env : Env) : Option (D0 × Bool) :=
 lpE (eS N) N an_ p Tryz.f154 (endK Tb sG Tryz.f154 [] (un2 ty11 .bool)) rs k env
noncomputable def El1 (k_ : Nat) (t43 : R0) (t44 : A0) (all3 : R0) (all4 : A0) (out3 : R0) (out4 : A0) (t272 : I0) (t282 : Int) (t292 : Int) : Option (D0 × Bool) :=
 lP N [.r, .r, .r, .r, .l, .r, .b] [] k_ (un 4 (.con (.box ⟨39, false, []⟩) [lf ty9 t43 .dp, lf ty10 t44 .dp] :: (un 1 (.con (.box ⟨39, false, []⟩) [⟨ty9, all3, .dead⟩, lf ty10 all4 .ro] :: (.con (.box ⟨39, false, []⟩) [lf ty9 out3 .dp, lf ty10 out4 .sh] :: (un 19 (.con .val [lf ty0 t272 .ro] :: (.con .val [lf i64 t282 .ro] :: (.con .val [lf i64 t292 .ro] :: (un 15 []))))))))))
noncomputable def El0 (k_ : Nat) (t4 : R0) (t42 : A0) (all : R0) (all2 : A0) (out : R0) (out2 : A0) (t27 : I0) (t28 : Int) (t29 : Int) : Option (D0 × Bool) :=
 lP N [.r, .r, .r, .r, .l, .r, .b] [] k_ (un 4 (.con (.box ⟨39, false, []⟩) [lf ty9 t4 .dp, lf ty10 t42 .dp] :: (un 1 (.con (.box ⟨39, false, []⟩) [⟨ty9, all, .dead⟩, lf ty10 all2 .dp] :: (.con (.box ⟨39, false, []⟩) [lf ty9 out .dp, lf ty10 out2 .dp] :: (un 19 (.con .val [lf ty0 t27 .ro] :: (.con .val [lf i64 t28 .ro] :: (.con .val [lf i64 t29 .ro] :: (un 15 []))))))))))
theorem ql1 (N : Nat) : ∀ k_, El1 N k_ = Z5i N k_
 | 0 => by kernel_rfl
 | k_ + 1 => (show El1 N (k_ + 1) = Z8t N (El1 N k_) from by kernel_rfl).trans (by simp only [ql1 N k_]; rfl)
theorem ql0 (N : Nat) : ∀ k_, El0 N k_ = Z7i N k_
 | 0 => by kernel_rfl
 | k_ + 1 => (show El0 N (k_ + 1) = Z8u N (El1 N k_) (El0 N k_) from by kernel_rfl).trans (by simp only [ql1, ql0 N k_]; rfl)
noncomputable def eE : EnTryz := ⟨154, sG, [.v ty11, .v ty0], _, Z4l N, pk2 ty11 .bool, enK Tryz.func154 (by kernel_rfl),
 fun db indices => eok (eS N) (by kernel_rfl) Tryz.func154 rfl N an_ rfl (Y1c ty11 .bool) (.trans (b := Z9r N (El0 N N) db indices) (by kernel_rfl) (by rw [ql0]; rfl))⟩
end Z4l
namespace Z65
def sG := sgV [.val i64] [(ty0, .dp)]
noncomputable def eS : List EnTryz := [Z0bg N]
noncomputable def eE : EnTryz := ⟨196, sG, [.v i64], _, Z65 N, pk1 ty0, enK Tryz.func196 (by kernel_rfl),
 fun n => eok (eS N) (by kernel_rfl) Tryz.func196 rfl N an0 rfl (Y4 ty0) (by kernel_rfl)⟩
end Z65
namespace Z6j
def sG := sgV [.val i64] [(.bool, .dp)]
noncomputable def eS (N : Nat) : List EnTryz := []
noncomputable def eE : EnTryz := ⟨248, sG, [.v i64], _, Z6j N, pk1 .bool, enK Tryz.func248 (by kernel_rfl),
 fun t => eok (eS N) (by kernel_rfl) Tryz.func248 rfl N an0 rfl (Y4 .bool) (by kernel_rfl)⟩
end Z6j
namespace Z55
def sG := sgV [.val i64] [(i64, .dp)]
noncomputable def eS (N : Nat) : List EnTryz := []
noncomputable def eE : EnTryz := ⟨249, sG, [.v i64], _, Z55 N, pk1 i64, enK Tryz.func249 (by kernel_rfl),
 fun v => eok (eS N) (by kernel_rfl) Tryz.func249 rfl N an0 rfl (Y4 i64) (by kernel_rfl)⟩
end Z55
namespace Z97
def sG := sgV [.val ty0, .val ty0, .val ty0] [(ty0, .dp), (.bool, .dp)]
noncomputable def eS : List EnTryz := [Z6j.eE N, Z55.eE N, Z5g N]
def an_ : Nat -> Option (List Nat)
 | 0 => some [2, 8, 13, 14, 15]
 | _ => none
noncomputable def lP (p : List Dir) (rs : List (Env -> Option (List Int × Bool))) (k : Nat) (env : Env) : Option (List Int × Bool) :=
 lpE (eS N) N an_ p Tryz.f195 (endK Tb sG Tryz.f195 [] (un2 ty0 .bool)) rs k env
noncomputable def El0 (k_ : Nat) (from_2 : I0) (out : I0) (t13 : I0) (t14 : Int) (t15 : Int) : Option (List Int × Bool) :=
 lP N [.r, .r, .l, .r, .b] [] k_ (un 2 (.con .val [lf ty0 from_2 .ro] :: (un 5 (.con .val [lf ty0 out .dp] :: (un 4 (.con .val [lf ty0 t13 .ro] :: (.con .val [lf i64 t14 .ro] :: (.con .val [lf i64 t15 .ro] :: (un 40 [])))))))))
theorem ql0 (N : Nat) : ∀ k_, El0 N k_ = Z9a N k_
 | 0 => by kernel_rfl
 | k_ + 1 => (show El0 N (k_ + 1) = Z0a6 N (El0 N k_) from by kernel_rfl).trans (by simp only [ql0 N k_]; rfl)
noncomputable def eE : EnTryz := ⟨195, sG, [.v ty0, .v ty0, .v ty0], _, Z97 N, pk2 ty0 .bool, enK Tryz.func195 (by kernel_rfl),
 fun values terms from_ => eok (eS N) (by kernel_rfl) Tryz.func195 rfl N an_ rfl (Y1c ty0 .bool) (.trans (b := Z0bf N (El0 N N) values terms from_) (by kernel_rfl) (by rw [ql0]; rfl))⟩
end Z97
namespace Z2t
def bX : BoxSig := ⟨3, 149, [.dp]⟩
def sG : Sig := ⟨[.val ty0, .val ty0, .ptr ty15, .ptr ty19, .ptr ty11, .self], [], false, false, some bX, none, none⟩
theorem eN : Enterable Tryz.prog 194 := Y1u Tryz.func194 (code := Tryz.f194.body.getD .skip) (by kernel_rfl) (by kernel_rfl)
noncomputable def eS (Rf : I0 -> I0 -> Q0 -> (List (List Int × List Int)) -> D0 -> Q0 -> D0 -> Option (List (List Int × List Int))) (hR : OkP (Option (List (List Int × List Int))) [.v ty0, .v ty0, .p ty15, .p ty19, .p ty11, .s 194 [.ro ty15, .pin, .ro ty11, .self]] Rf (fun xs_ q => ∀ x, q = some x -> FnOk Tryz.prog 194 sG xs_ (pk1 ty19 x))) : List EnTryz := [Z97.eE N, Z5g N, ⟨194, sG, [.v ty0, .v ty0, .p ty15, .p ty19, .p ty11, .s 194 [.ro ty15, .pin, .ro ty11, .self]], List (List Int × List Int), Rf, pk1 ty19, eN, hR⟩]
def an_ : Nat -> Option (List Nat)
 | 0 => some [0, 1, 3, 5, 8, 34, 35, 36]
 | _ => none
noncomputable def lP (Rf : I0 -> I0 -> Q0 -> (List (List Int × List Int)) -> D0 -> Q0 -> D0 -> Option (List (List Int × List Int))) (hR : OkP (Option (List (List Int × List Int))) [.v ty0, .v ty0, .p ty15, .p ty19, .p ty11, .s 194 [.ro ty15, .pin, .ro ty11, .self]] Rf (fun xs_ q => ∀ x, q = some x -> FnOk Tryz.prog 194 sG xs_ (pk1 ty19 x))) (p : List Dir) (rs : List (Env -> Option (List (List Int × List Int)))) (k : Nat) (env : Env) : Option (List (List Int × List Int)) :=
 lpE (eS N Rf hR) N an_ p Tryz.f194 (endB Tb sG bX Tryz.f194 ty19 (un1 ty19)) rs k env
noncomputable def El0 (Rf : I0 -> I0 -> Q0 -> (List (List Int × List Int)) -> D0 -> Q0 -> D0 -> Option (List (List Int × List Int))) (hR : OkP (Option (List (List Int × List Int))) [.v ty0, .v ty0, .p ty15, .p ty19, .p ty11, .s 194 [.ro ty15, .pin, .ro ty11, .self]] Rf (fun xs_ q => ∀ x, q = some x -> FnOk Tryz.prog 194 sG xs_ (pk1 ty19 x))) (k_ : Nat) (values2 : I0) (facts2 : I0) (t3 : List (List Int × List Int)) (t5c : Q0) (t5c2 : D0) (atom : Int) (atom2 : I0) (t34 : A0) (t35 : Int) (t36 : Int) : Option (List (List Int × List Int)) :=
 lP N Rf hR [.r, .r, .r, .b] [] k_ (.con .val [lf ty0 values2 .ro] :: (.con .val [lf ty0 facts2 .ro] :: (un 1 (.con (.box ⟨149, true, [false]⟩) [lf ty19 t3 .dp] :: (un 1 (.fptr 194 [.ro ⟨ty15, t5c⟩, .path 3 0, .ro ⟨ty11, t5c2⟩, .self] :: (un 2 (.con (.box ⟨145, false, []⟩) [lf i64 atom .ro, lf ty0 atom2 .ro] :: (un 25 (.con .val [lf ty10 t34 .ro] :: (.con .val [lf i64 t35 .ro] :: (.con .val [lf i64 t36 .ro] :: (un 28 [])))))))))))))
theorem ql0 (N : Nat) (Rf : I0 -> I0 -> Q0 -> (List (List Int × List Int)) -> D0 -> Q0 -> D0 -> Option (List (List Int × List Int))) (hR : OkP (Option (List (List Int × List Int))) [.v ty0, .v ty0, .p ty15, .p ty19, .p ty11, .s 194 [.ro ty15, .pin, .ro ty11, .self]] Rf (fun xs_ q => ∀ x, q = some x -> FnOk Tryz.prog 194 sG xs_ (pk1 ty19 x))) : ∀ k_, El0 N Rf hR k_ = Z30 N Rf k_
 | 0 => by kernel_rfl
 | k_ + 1 => (show El0 N Rf hR (k_ + 1) = Z66 N Rf (El0 N Rf hR k_) from by kernel_rfl).trans (by simp only [ql0 N Rf hR k_]; rfl)
theorem vV (Rf : I0 -> I0 -> Q0 -> (List (List Int × List Int)) -> D0 -> Q0 -> D0 -> Option (List (List Int × List Int))) (hR : OkP (Option (List (List Int × List Int))) [.v ty0, .v ty0, .p ty15, .p ty19, .p ty11, .s 194 [.ro ty15, .pin, .ro ty11, .self]] Rf (fun xs_ q => ∀ x, q = some x -> FnOk Tryz.prog 194 sG xs_ (pk1 ty19 x))) (values : I0) (facts : I0) (c2 : Q0) (c3 : List (List Int × List Int)) (c4 : D0) (sc2 : Q0) (sc4 : D0) :
  evB (eS N Rf hR) N an_ sG bX Tryz.f194 [.val ty0 values, .val ty0 facts, .ptr ty15 c2, .ptr ty19 c3, .ptr ty11 c4, .fptr 194 [.ro ⟨ty15, sc2⟩, .pin, .ro ⟨ty11, sc4⟩, .self]] (un1 ty19) = Z4z N Rf (El0 N Rf hR N) values facts c2 c3 c4 sc2 sc4 := by kernel_rfl
theorem oK (N : Nat) : ∀ k_, OkP (Option (List (List Int × List Int))) [.v ty0, .v ty0, .p ty15, .p ty19, .p ty11, .s 194 [.ro ty15, .pin, .ro ty11, .self]] (Z0q N k_) (fun xs_ q => ∀ x, q = some x -> FnOk Tryz.prog 194 sG xs_ (pk1 ty19 x))
 | 0 => fun values facts c2 c3 c4 sc2 sc4 =>  fun x h => absurd (show (none : Option (List (List Int × List Int))) = some x from h) (by simp)
 | k_ + 1 => fun values facts c2 c3 c4 sc2 sc4 => Y8j tab_ok (es := eS N (Z0q N k_) (oK N k_)) (by kernel_rfl) mixed Tryz.func194 (by kernel_rfl) rfl rfl (fun _ => ⟨_, _, rfl⟩) (Y4 ty19) ((vV N _ _ values facts c2 c3 c4 sc2 sc4).trans (by rw [ql0]; rfl))
noncomputable def eE : EnTryz := ⟨194, sG, [.v ty0, .v ty0, .p ty15, .p ty19, .p ty11, .s 194 [.ro ty15, .pin, .ro ty11, .self]], List (List Int × List Int), Z2t N, pk1 ty19, eN, oK N N⟩
end Z2t
namespace Z2w
def sG := sgV [.val ty11, .val ty15] [(ty19, .dp)]
noncomputable def eS : List EnTryz := [Z2d.eE N, Z65.eE N, Z2t.eE N]
noncomputable def eE : EnTryz := ⟨136, sG, [.v ty11, .v ty15], _, Z2w N, pk1 ty19, enK Tryz.func136 (by kernel_rfl),
 fun db query => eok (eS N) (by kernel_rfl) Tryz.func136 rfl N an0 rfl (Y4 ty19) (by kernel_rfl)⟩
end Z2w
namespace Z67
def sG := sgV [.val ty11, .val ty0, .val ty15] [(.bool, .dp)]
noncomputable def eS : List EnTryz := [Z4l.eE N, Z2w.eE N]
noncomputable def eE : EnTryz := ⟨90, sG, [.v ty11, .v ty0, .v ty15], _, Z67 N, pk1 .bool, enK Tryz.func90 (by kernel_rfl),
 fun db indices query => eok (eS N) (by kernel_rfl) Tryz.func90 rfl N an0 rfl (Y4 .bool) (by kernel_rfl)⟩
end Z67
namespace Z41
def sG : Sig := ⟨[.val ty11, .val ty17, .val ty15], [(ty0, .dp), (.bool, .dp)], false, true, none, none, some 1⟩
noncomputable def eS : List EnTryz := [Z2d.eE N, Z67.eE N]
def an_ : Nat -> Option (List Nat)
 | 0 => some [1, 3, 5, 10, 11, 12]
 | _ => none
noncomputable def lP (p : List Dir) (rs : List (Env -> Option (List Int × Bool))) (k : Nat) (env : Env) : Option (List Int × Bool) :=
 lpE (eS N) N an_ p Tryz.f95 (endK Tb sG Tryz.f95 [] (un2 ty0 .bool)) rs k env
noncomputable def El0 (k_ : Nat) (sets2 : L0) (db2 : R0) (db3 : A0) (query2 : Int) (query3 : A0) (query4 : I0) (t10 : L0) (t11 : Int) (t12 : Int) : Option (List Int × Bool) :=
 lP N [.r, .l, .r, .b] [] k_ (un 1 (.con .val [lf ty17 sets2 .dp] :: (un 1 (.con (.box ⟨39, false, []⟩) [lf ty9 db2 .ro, lf ty10 db3 .ro] :: (un 1 (.con (.box ⟨44, false, []⟩) [lf i64 query2 .ro, lf ty14 query3 .ro, lf ty0 query4 .ro] :: (un 4 (.con .val [lb ty17 t10 1 0] :: (.con .val [lf i64 t11 .ro] :: (.con .val [lf i64 t12 .ro] :: (un 15 [])))))))))))
theorem ql0 (N : Nat) : ∀ k_, El0 N k_ = Z50 N k_
 | 0 => by kernel_rfl
 | k_ + 1 => (show El0 N (k_ + 1) = Z8d N (El0 N k_) from by kernel_rfl).trans (by simp only [ql0 N k_]; rfl)
theorem vV (db : D0) (sets : L0) (query : Q0) :
  evG (eS N) N an_ 1 sG Tryz.f95 [.val ty11 db, .val ty17 sets, .val ty15 query] (un2 ty0 .bool) = Z9h N (El0 N N) db sets query := by kernel_rfl
noncomputable def eE : EnTryz := ⟨95, sG, [.v ty11, .v ty17, .v ty15], _, Z41 N, pk2 ty0 .bool, enK Tryz.func95 (by kernel_rfl),
 fun db sets query => Ycz tab_ok (es := eS N) (by kernel_rfl) mixed Tryz.func95 (by kernel_rfl) (k := 1) (x0 := sets) (rest := [.val ty11 db, .val ty15 query]) ⟨⟨rfl, rfl⟩, rfl, rfl, rfl⟩ (Y1c ty0 .bool) ((vV N db sets query).trans (by rw [ql0]; rfl))⟩
end Z41
namespace Z0c
def sG := sgV [.val ty11, .val ty13, .val ty15] [(ty0, .dp), (.bool, .dp)]
noncomputable def eS : List EnTryz := [Z1k.eE N, Z41.eE N]
noncomputable def eE : EnTryz := ⟨46, sG, [.v ty11, .v ty13, .v ty15], _, Z0c N, pk2 ty0 .bool, enK Tryz.func46 (by kernel_rfl),
 fun db constraints query => eok (eS N) (by kernel_rfl) Tryz.func46 rfl N an0 rfl (Y1c ty0 .bool) (by kernel_rfl)⟩
end Z0c
namespace Z22
def sG := sgV [.val ty0, .val ty0] [(.bool, .dp)]
noncomputable def eS (N : Nat) : List EnTryz := []
def an_ : Nat -> Option (List Nat)
 | 0 => some [0, 1, 5]
 | _ => none
noncomputable def lP (p : List Dir) (rs : List (Env -> Option (Bool))) (k : Nat) (env : Env) : Option (Bool) :=
 lpE (eS N) N an_ p Tryz.f23 (endK Tb sG Tryz.f23 [] (un1 .bool)) rs k env
noncomputable def El0 (k_ : Nat) (a2 : I0) (b2 : I0) (i : Int) : Option (Bool) :=
 lP N [.r, .r, .l, .r, .b] [] k_ (.con .val [lf ty0 a2 .ro] :: (.con .val [lf ty0 b2 .ro] :: (un 3 (.con .val [lf i64 i .ro] :: (un 20 [])))))
theorem ql0 (N : Nat) : ∀ k_, El0 N k_ = Z71 N k_
 | 0 => by kernel_rfl
 | k_ + 1 => (show El0 N (k_ + 1) = Z98 N (El0 N k_) from by kernel_rfl).trans (by simp only [ql0 N k_]; rfl)
noncomputable def eE : EnTryz := ⟨23, sG, [.v ty0, .v ty0], _, Z22 N, pk1 .bool, enK Tryz.func23 (by kernel_rfl),
 fun a b => eok (eS N) (by kernel_rfl) Tryz.func23 rfl N an_ rfl (Y4 .bool) (.trans (b := Z0b5 N (El0 N N) a b) (by kernel_rfl) (by rw [ql0]; rfl))⟩
end Z22
namespace Z51
def sG := sgV [.val ty1, .val ty1] [(.bool, .dp)]
noncomputable def eS (N : Nat) : List EnTryz := []
noncomputable def eE : EnTryz := ⟨143, sG, [.v ty1, .v ty1], _, Z51 N, pk1 .bool, enK Tryz.func143 (by kernel_rfl),
 fun a b => eok (eS N) (by kernel_rfl) Tryz.func143 rfl N an0 rfl (Y4 .bool) (by kernel_rfl)⟩
end Z51
namespace Z4m
def sG := sgV [.val ty9, .val ty9] [(.bool, .dp)]
noncomputable def eS : List EnTryz := [Z51.eE N]
def an_ : Nat -> Option (List Nat)
 | 0 => some [0, 1, 5]
 | _ => none
noncomputable def lP (p : List Dir) (rs : List (Env -> Option (Bool))) (k : Nat) (env : Env) : Option (Bool) :=
 lpE (eS N) N an_ p Tryz.f78 (endK Tb sG Tryz.f78 [] (un1 .bool)) rs k env
noncomputable def El0 (k_ : Nat) (a2 : R0) (b2 : R0) (i : Int) : Option (Bool) :=
 lP N [.r, .r, .l, .r, .b] [] k_ (.con .val [lf ty9 a2 .ro] :: (.con .val [lf ty9 b2 .ro] :: (un 3 (.con .val [lf i64 i .ro] :: (un 21 [])))))
theorem ql0 (N : Nat) : ∀ k_, El0 N k_ = Z47 N k_
 | 0 => by kernel_rfl
 | k_ + 1 => (show El0 N (k_ + 1) = Z6k N (El0 N k_) from by kernel_rfl).trans (by simp only [ql0 N k_]; rfl)
noncomputable def eE : EnTryz := ⟨78, sG, [.v ty9, .v ty9], _, Z4m N, pk1 .bool, enK Tryz.func78 (by kernel_rfl),
 fun a b => eok (eS N) (by kernel_rfl) Tryz.func78 rfl N an_ rfl (Y4 .bool) (.trans (b := Z9s N (El0 N N) a b) (by kernel_rfl) (by rw [ql0]; rfl))⟩
end Z4m
namespace Z8e
def sG := sgV [.val ty3, .val ty3] [(.bool, .dp)]
noncomputable def eS : List EnTryz := [Z22.eE N]
noncomputable def eE : EnTryz := ⟨144, sG, [.v ty3, .v ty3], _, Z8e N, pk1 .bool, enK Tryz.func144 (by kernel_rfl),
 fun a b => eok (eS N) (by kernel_rfl) Tryz.func144 rfl N an0 rfl (Y4 .bool) (by kernel_rfl)⟩
end Z8e
namespace Z7f
def sG := sgV [.val ty10, .val ty10] [(.bool, .dp)]
noncomputable def eS : List EnTryz := [Z8e.eE N]
def an_ : Nat -> Option (List Nat)
 | 0 => some [0, 1, 5]
 | _ => none
noncomputable def lP (p : List Dir) (rs : List (Env -> Option (Bool))) (k : Nat) (env : Env) : Option (Bool) :=
 lpE (eS N) N an_ p Tryz.f79 (endK Tb sG Tryz.f79 [] (un1 .bool)) rs k env
noncomputable def El0 (k_ : Nat) (a2 : A0) (b2 : A0) (i : Int) : Option (Bool) :=
 lP N [.r, .r, .l, .r, .b] [] k_ (.con .val [lf ty10 a2 .ro] :: (.con .val [lf ty10 b2 .ro] :: (un 3 (.con .val [lf i64 i .ro] :: (un 21 [])))))
theorem ql0 (N : Nat) : ∀ k_, El0 N k_ = Z6l N k_
 | 0 => by kernel_rfl
 | k_ + 1 => (show El0 N (k_ + 1) = Z8m N (El0 N k_) from by kernel_rfl).trans (by simp only [ql0 N k_]; rfl)
noncomputable def eE : EnTryz := ⟨79, sG, [.v ty10, .v ty10], _, Z7f N, pk1 .bool, enK Tryz.func79 (by kernel_rfl),
 fun a b => eok (eS N) (by kernel_rfl) Tryz.func79 rfl N an_ rfl (Y4 .bool) (.trans (b := Z0am N (El0 N N) a b) (by kernel_rfl) (by rw [ql0]; rfl))⟩
end Z7f
namespace Z52
def sG := sgV [.val ty11, .val ty11] [(.bool, .dp)]
noncomputable def eS : List EnTryz := [Z4m.eE N, Z7f.eE N]
noncomputable def eE : EnTryz := ⟨22, sG, [.v ty11, .v ty11], _, Z52 N, pk1 .bool, enK Tryz.func22 (by kernel_rfl),
 fun a b => eok (eS N) (by kernel_rfl) Tryz.func22 rfl N an0 rfl (Y4 .bool) (by kernel_rfl)⟩
end Z52
namespace Z1l
def sG := sgV [.val ty12, .val ty12] [(.bool, .dp)]
noncomputable def eS (N : Nat) : List EnTryz := []
noncomputable def eE : EnTryz := ⟨91, sG, [.v ty12, .v ty12], _, Z1l N, pk1 .bool, enK Tryz.func91 (by kernel_rfl),
 fun a b => eok (eS N) (by kernel_rfl) Tryz.func91 rfl N an0 rfl (Y4 .bool) (by kernel_rfl)⟩
end Z1l
namespace Z1c
def sG := sgV [.val ty13, .val ty13] [(.bool, .dp)]
noncomputable def eS : List EnTryz := [Z1l.eE N]
def an_ : Nat -> Option (List Nat)
 | 0 => some [0, 1, 5]
 | _ => none
noncomputable def lP (p : List Dir) (rs : List (Env -> Option (Bool))) (k : Nat) (env : Env) : Option (Bool) :=
 lpE (eS N) N an_ p Tryz.f31 (endK Tb sG Tryz.f31 [] (un1 .bool)) rs k env
noncomputable def El0 (k_ : Nat) (a2 : List C0) (b2 : List C0) (i : Int) : Option (Bool) :=
 lP N [.r, .r, .l, .r, .b] [] k_ (.con .val [lf ty13 a2 .ro] :: (.con .val [lf ty13 b2 .ro] :: (un 3 (.con .val [lf i64 i .ro] :: (un 21 [])))))
theorem ql0 (N : Nat) : ∀ k_, El0 N k_ = Z1h N k_
 | 0 => by kernel_rfl
 | k_ + 1 => (show El0 N (k_ + 1) = Z3a N (El0 N k_) from by kernel_rfl).trans (by simp only [ql0 N k_]; rfl)
noncomputable def eE : EnTryz := ⟨31, sG, [.v ty13, .v ty13], _, Z1c N, pk1 .bool, enK Tryz.func31 (by kernel_rfl),
 fun a b => eok (eS N) (by kernel_rfl) Tryz.func31 rfl N an_ rfl (Y4 .bool) (.trans (b := Z6q N (El0 N N) a b) (by kernel_rfl) (by rw [ql0]; rfl))⟩
end Z1c
namespace Z8f
def sG := sgV [.val ty3, .val ty3] [(.bool, .dp)]
noncomputable def eS : List EnTryz := [Z22.eE N]
noncomputable def eE : EnTryz := ⟨145, sG, [.v ty3, .v ty3], _, Z8f N, pk1 .bool, enK Tryz.func145 (by kernel_rfl),
 fun a b => eok (eS N) (by kernel_rfl) Tryz.func145 rfl N an0 rfl (Y4 .bool) (by kernel_rfl)⟩
end Z8f
namespace Z7g
def sG := sgV [.val ty14, .val ty14] [(.bool, .dp)]
noncomputable def eS : List EnTryz := [Z8f.eE N]
def an_ : Nat -> Option (List Nat)
 | 0 => some [0, 1, 5]
 | _ => none
noncomputable def lP (p : List Dir) (rs : List (Env -> Option (Bool))) (k : Nat) (env : Env) : Option (Bool) :=
 lpE (eS N) N an_ p Tryz.f80 (endK Tb sG Tryz.f80 [] (un1 .bool)) rs k env
noncomputable def El0 (k_ : Nat) (a2 : A0) (b2 : A0) (i : Int) : Option (Bool) :=
 lP N [.r, .r, .l, .r, .b] [] k_ (.con .val [lf ty14 a2 .ro] :: (.con .val [lf ty14 b2 .ro] :: (un 3 (.con .val [lf i64 i .ro] :: (un 21 [])))))
theorem ql0 (N : Nat) : ∀ k_, El0 N k_ = Z6m N k_
 | 0 => by kernel_rfl
 | k_ + 1 => (show El0 N (k_ + 1) = Z8n N (El0 N k_) from by kernel_rfl).trans (by simp only [ql0 N k_]; rfl)
noncomputable def eE : EnTryz := ⟨80, sG, [.v ty14, .v ty14], _, Z7g N, pk1 .bool, enK Tryz.func80 (by kernel_rfl),
 fun a b => eok (eS N) (by kernel_rfl) Tryz.func80 rfl N an_ rfl (Y4 .bool) (.trans (b := Z0ao N (El0 N N) a b) (by kernel_rfl) (by rw [ql0]; rfl))⟩
end Z7g
namespace Z7h
def sG := sgV [.val ty15, .val ty15] [(.bool, .dp)]
noncomputable def eS : List EnTryz := [Z7g.eE N, Z22.eE N]
noncomputable def eE : EnTryz := ⟨24, sG, [.v ty15, .v ty15], _, Z7h N, pk1 .bool, enK Tryz.func24 (by kernel_rfl),
 fun a b => eok (eS N) (by kernel_rfl) Tryz.func24 rfl N an0 rfl (Y4 .bool) (by kernel_rfl)⟩
end Z7h
namespace Z3j
def sG := sgV [.val i64] [(.str, .dp)]
noncomputable def eS (N : Nat) : List EnTryz := []
def an_ : Nat -> Option (List Nat)
 | 0 => some [0, 3]
 | _ => none
noncomputable def lP (p : List Dir) (rs : List (Env -> Option (ByteArray))) (k : Nat) (env : Env) : Option (ByteArray) :=
 lpE (eS N) N an_ p Tryz.f155 (endK Tb sG Tryz.f155 [] (un1 .str)) rs k env
noncomputable def El0 (k_ : Nat) (k2 : Int) (out : ByteArray) : Option (ByteArray) :=
 lP N [.r, .r, .r, .l, .b] [] k_ (.con .val [lf i64 k2 .ro] :: (un 2 (.con .val [lf .str out .ro] :: (un 16 []))))
theorem ql0 (N : Nat) : ∀ k_, El0 N k_ = Z4n N k_
 | 0 => by kernel_rfl
 | k_ + 1 => (show El0 N (k_ + 1) = Z68 N (El0 N k_) from by kernel_rfl).trans (by simp only [ql0 N k_]; rfl)
noncomputable def eE : EnTryz := ⟨155, sG, [.v i64], _, Z3j N, pk1 .str, enK Tryz.func155 (by kernel_rfl),
 fun k => eok (eS N) (by kernel_rfl) Tryz.func155 rfl N an_ rfl (Y4 .str) (.trans (b := Z0a7 N (El0 N N) k) (by kernel_rfl) (by rw [ql0]; rfl))⟩
end Z3j
namespace Z3h
def sG : Sig := ⟨[.val ty9, .val i64], [(i64, .dp)], true, false, none, none, none⟩
noncomputable def eS : List EnTryz := [Z3j.eE N]
def an_ : Nat -> Option (List Nat)
 | 0 => some [0, 1, 5]
 | _ => none
noncomputable def lP (p : List Dir) (rs : List (Env -> Option (R0 × Int))) (k : Nat) (env : Env) : Option (R0 × Int) :=
 lpE (eS N) N an_ p Tryz.f96 (endK Tb sG Tryz.f96 [.val ty9 []] (un2 ty9 i64)) rs k env
noncomputable def El0 (k_ : Nat) (a2 : R0) (k2 : Int) (i : Int) : Option (R0 × Int) :=
 lP N [.r, .l, .r, .b] [] k_ (.con .val [⟨ty9, a2, (.at_ (.pn 0))⟩] :: (.con .val [lf i64 k2 .ro] :: (un 3 (.con .val [lf i64 i .ro] :: (un 29 [])))))
theorem ql0 (N : Nat) : ∀ k_, El0 N k_ = Z38 N k_
 | 0 => by kernel_rfl
 | k_ + 1 => (show El0 N (k_ + 1) = Z5f N (El0 N k_) from by kernel_rfl).trans (by simp only [ql0 N k_]; rfl)
theorem vV (a : R0) (k : Int) :
  evE (eS N) N an_ sG Tryz.f96 [.val ty9 a, .val i64 k] (un2 ty9 i64) = Z99 N (El0 N N) a k := by kernel_rfl
noncomputable def eE : EnTryz := ⟨96, sG, [.v ty9, .v i64], _, Z3h N, pk2 ty9 i64, enK Tryz.func96 (by kernel_rfl),
 fun a k => Y26 tab_ok (es := eS N) (by kernel_rfl) mixed Tryz.func96 (by kernel_rfl) ⟨⟨rfl, rfl⟩, rfl, rfl⟩ (fun _ => ⟨_, _, rfl⟩) (Y1c ty9 i64) ((vV N a k).trans (by rw [ql0]; rfl))⟩
end Z3h
namespace Z1s
def sG : Sig := ⟨[.val ty0, .val i64], [(i64, .dp)], true, false, none, none, none⟩
noncomputable def eS (N : Nat) : List EnTryz := []
def an_ : Nat -> Option (List Nat)
 | 0 => some [0, 1, 5]
 | _ => none
noncomputable def lP (p : List Dir) (rs : List (Env -> Option (List Int × Int))) (k : Nat) (env : Env) : Option (List Int × Int) :=
 lpE (eS N) N an_ p Tryz.f43 (endK Tb sG Tryz.f43 [.val ty0 []] (un2 ty0 i64)) rs k env
noncomputable def El0 (k_ : Nat) (a2 : I0) (k2 : Int) (i : Int) : Option (List Int × Int) :=
 lP N [.r, .l, .r, .b] [] k_ (.con .val [⟨ty0, a2, (.at_ (.pn 0))⟩] :: (.con .val [lf i64 k2 .ro] :: (un 3 (.con .val [lf i64 i .ro] :: (un 13 [])))))
theorem ql0 (N : Nat) : ∀ k_, El0 N k_ = Z5p N k_
 | 0 => by kernel_rfl
 | k_ + 1 => (show El0 N (k_ + 1) = Z80 N (El0 N k_) from by kernel_rfl).trans (by simp only [ql0 N k_]; rfl)
theorem vV (a : I0) (k : Int) :
  evE (eS N) N an_ sG Tryz.f43 [.val ty0 a, .val i64 k] (un2 ty0 i64) = Z0a8 N (El0 N N) a k := by kernel_rfl
noncomputable def eE : EnTryz := ⟨43, sG, [.v ty0, .v i64], _, Z1s N, pk2 ty0 i64, enK Tryz.func43 (by kernel_rfl),
 fun a k => Y26 tab_ok (es := eS N) (by kernel_rfl) mixed Tryz.func43 (by kernel_rfl) ⟨⟨rfl, rfl⟩, rfl, rfl⟩ (fun _ => ⟨_, _, rfl⟩) (Y1c ty0 i64) ((vV N a k).trans (by rw [ql0]; rfl))⟩
end Z1s
namespace Z5q
def sG : Sig := ⟨[.val ty10, .val i64], [(i64, .dp)], true, false, none, none, none⟩
noncomputable def eS : List EnTryz := [Z1s.eE N]
def an_ : Nat -> Option (List Nat)
 | 0 => some [0, 1, 5]
 | _ => none
noncomputable def lP (p : List Dir) (rs : List (Env -> Option (A0 × Int))) (k : Nat) (env : Env) : Option (A0 × Int) :=
 lpE (eS N) N an_ p Tryz.f97 (endK Tb sG Tryz.f97 [.val ty10 []] (un2 ty10 i64)) rs k env
noncomputable def El0 (k_ : Nat) (a2 : A0) (k2 : Int) (i : Int) : Option (A0 × Int) :=
 lP N [.r, .l, .r, .b] [] k_ (.con .val [⟨ty10, a2, (.at_ (.pn 0))⟩] :: (.con .val [lf i64 k2 .ro] :: (un 3 (.con .val [lf i64 i .ro] :: (un 21 [])))))
theorem ql0 (N : Nat) : ∀ k_, El0 N k_ = Z56 N k_
 | 0 => by kernel_rfl
 | k_ + 1 => (show El0 N (k_ + 1) = Z7j N (El0 N k_) from by kernel_rfl).trans (by simp only [ql0 N k_]; rfl)
theorem vV (a : A0) (k : Int) :
  evE (eS N) N an_ sG Tryz.f97 [.val ty10 a, .val i64 k] (un2 ty10 i64) = Z0a1 N (El0 N N) a k := by kernel_rfl
noncomputable def eE : EnTryz := ⟨97, sG, [.v ty10, .v i64], _, Z5q N, pk2 ty10 i64, enK Tryz.func97 (by kernel_rfl),
 fun a k => Y26 tab_ok (es := eS N) (by kernel_rfl) mixed Tryz.func97 (by kernel_rfl) ⟨⟨rfl, rfl⟩, rfl, rfl⟩ (fun _ => ⟨_, _, rfl⟩) (Y1c ty10 i64) ((vV N a k).trans (by rw [ql0]; rfl))⟩
end Z5q
namespace Z2u
def sG : Sig := ⟨[.val ty11, .val i64], [(i64, .dp)], true, false, none, none, none⟩
noncomputable def eS : List EnTryz := [Z3h.eE N, Z5q.eE N]
theorem vV (a : D0) (k : Int) :
  evE (eS N) N an0 sG Tryz.f40 [.val ty11 a, .val i64 k] (un2 ty11 i64) = Z2u N a k := by kernel_rfl
noncomputable def eE : EnTryz := ⟨40, sG, [.v ty11, .v i64], _, Z2u N, pk2 ty11 i64, enK Tryz.func40 (by kernel_rfl),
 fun a k => Y26 tab_ok (es := eS N) (by kernel_rfl) mixed Tryz.func40 (by kernel_rfl) ⟨⟨rfl, rfl⟩, rfl, rfl⟩ (fun _ => ⟨_, _, rfl⟩) (Y1c ty11 i64) (vV N a k)⟩
end Z2u
namespace Z12
def sG : Sig := ⟨[.val ty13, .val i64], [(i64, .dp)], true, false, none, none, none⟩
noncomputable def eS (N : Nat) : List EnTryz := []
def an_ : Nat -> Option (List Nat)
 | 0 => some [0, 1, 5]
 | _ => none
noncomputable def lP (p : List Dir) (rs : List (Env -> Option ((List C0) × Int))) (k : Nat) (env : Env) : Option ((List C0) × Int) :=
 lpE (eS N) N an_ p Tryz.f41 (endK Tb sG Tryz.f41 [.val ty13 []] (un2 ty13 i64)) rs k env
noncomputable def El0 (k_ : Nat) (a2 : List C0) (k2 : Int) (i : Int) : Option ((List C0) × Int) :=
 lP N [.r, .l, .r, .b] [] k_ (.con .val [⟨ty13, a2, (.at_ (.pn 0))⟩] :: (.con .val [lf i64 k2 .ro] :: (un 3 (.con .val [lf i64 i .ro] :: (un 56 [])))))
theorem ql0 (N : Nat) : ∀ k_, El0 N k_ = Z15 N k_
 | 0 => by kernel_rfl
 | k_ + 1 => (show El0 N (k_ + 1) = Z2s N (El0 N k_) from by kernel_rfl).trans (by simp only [ql0 N k_]; rfl)
theorem vV (a : List C0) (k : Int) :
  evE (eS N) N an_ sG Tryz.f41 [.val ty13 a, .val i64 k] (un2 ty13 i64) = Z5r N (El0 N N) a k := by kernel_rfl
noncomputable def eE : EnTryz := ⟨41, sG, [.v ty13, .v i64], _, Z12 N, pk2 ty13 i64, enK Tryz.func41 (by kernel_rfl),
 fun a k => Y26 tab_ok (es := eS N) (by kernel_rfl) mixed Tryz.func41 (by kernel_rfl) ⟨⟨rfl, rfl⟩, rfl, rfl⟩ (fun _ => ⟨_, _, rfl⟩) (Y1c ty13 i64) ((vV N a k).trans (by rw [ql0]; rfl))⟩
end Z12
namespace Z5s
def sG : Sig := ⟨[.val ty14, .val i64], [(i64, .dp)], true, false, none, none, none⟩
noncomputable def eS : List EnTryz := [Z1s.eE N]
def an_ : Nat -> Option (List Nat)
 | 0 => some [0, 1, 5]
 | _ => none
noncomputable def lP (p : List Dir) (rs : List (Env -> Option (A0 × Int))) (k : Nat) (env : Env) : Option (A0 × Int) :=
 lpE (eS N) N an_ p Tryz.f98 (endK Tb sG Tryz.f98 [.val ty14 []] (un2 ty14 i64)) rs k env
noncomputable def El0 (k_ : Nat) (a2 : A0) (k2 : Int) (i : Int) : Option (A0 × Int) :=
 lP N [.r, .l, .r, .b] [] k_ (.con .val [⟨ty14, a2, (.at_ (.pn 0))⟩] :: (.con .val [lf i64 k2 .ro] :: (un 3 (.con .val [lf i64 i .ro] :: (un 21 [])))))
theorem ql0 (N : Nat) : ∀ k_, El0 N k_ = Z57 N k_
 | 0 => by kernel_rfl
 | k_ + 1 => (show El0 N (k_ + 1) = Z7k N (El0 N k_) from by kernel_rfl).trans (by simp only [ql0 N k_]; rfl)
theorem vV (a : A0) (k : Int) :
  evE (eS N) N an_ sG Tryz.f98 [.val ty14 a, .val i64 k] (un2 ty14 i64) = Z0a2 N (El0 N N) a k := by kernel_rfl
noncomputable def eE : EnTryz := ⟨98, sG, [.v ty14, .v i64], _, Z5s N, pk2 ty14 i64, enK Tryz.func98 (by kernel_rfl),
 fun a k => Y26 tab_ok (es := eS N) (by kernel_rfl) mixed Tryz.func98 (by kernel_rfl) ⟨⟨rfl, rfl⟩, rfl, rfl⟩ (fun _ => ⟨_, _, rfl⟩) (Y1c ty14 i64) ((vV N a k).trans (by rw [ql0]; rfl))⟩
end Z5s
namespace Z4r
def sG : Sig := ⟨[.val ty15, .val i64], [(i64, .dp)], true, false, none, none, none⟩
noncomputable def eS : List EnTryz := [Z5s.eE N, Z1s.eE N]
theorem vV (a : Q0) (k : Int) :
  evE (eS N) N an0 sG Tryz.f42 [.val ty15 a, .val i64 k] (un2 ty15 i64) = Z4r N a k := by kernel_rfl
noncomputable def eE : EnTryz := ⟨42, sG, [.v ty15, .v i64], _, Z4r N, pk2 ty15 i64, enK Tryz.func42 (by kernel_rfl),
 fun a k => Y26 tab_ok (es := eS N) (by kernel_rfl) mixed Tryz.func42 (by kernel_rfl) ⟨⟨rfl, rfl⟩, rfl, rfl⟩ (fun _ => ⟨_, _, rfl⟩) (Y1c ty15 i64) (vV N a k)⟩
end Z4r
namespace Z58
def sG := sgV [.val ty0, .val i64] [(i64, .dp)]
noncomputable def eS (N : Nat) : List EnTryz := []
def an_ : Nat -> Option (List Nat)
 | 0 => some [0, 1, 5]
 | _ => none
noncomputable def lP (p : List Dir) (rs : List (Env -> Option (Int))) (k : Nat) (env : Env) : Option (Int) :=
 lpE (eS N) N an_ p Tryz.f44 (endK Tb sG Tryz.f44 [] (un1 i64)) rs k env
noncomputable def El0 (k_ : Nat) (a2 : I0) (k2 : Int) (i : Int) : Option (Int) :=
 lP N [.r, .l, .r, .b] [] k_ (.con .val [lf ty0 a2 .ro] :: (.con .val [lf i64 k2 .ro] :: (un 3 (.con .val [lf i64 i .ro] :: (un 15 [])))))
theorem ql0 (N : Nat) : ∀ k_, El0 N k_ = Z5t N k_
 | 0 => by kernel_rfl
 | k_ + 1 => (show El0 N (k_ + 1) = Z81 N (El0 N k_) from by kernel_rfl).trans (by simp only [ql0 N k_]; rfl)
noncomputable def eE : EnTryz := ⟨44, sG, [.v ty0, .v i64], _, Z58 N, pk1 i64, enK Tryz.func44 (by kernel_rfl),
 fun a k => eok (eS N) (by kernel_rfl) Tryz.func44 rfl N an_ rfl (Y4 i64) (.trans (b := Z0aa N (El0 N N) a k) (by kernel_rfl) (by rw [ql0]; rfl))⟩
end Z58
namespace laws_FnExactCardinalityFalsifyingRepair
def sG := sgV [.val ty5, .val ty6, .val ty8] [(.bool, .dp)]
noncomputable def eS : List EnTryz := [Z4u.eE N, Z1b.eE N, Z74.eE N, Z2b.eE N, Z0h.eE N, Z4a.eE N, Z0j.eE N, Z0c.eE N, Z22.eE N, Z52.eE N, Z1c.eE N, Z7h.eE N, Z2u.eE N, Z12.eE N, Z4r.eE N, Z1s.eE N, Z58.eE N]
noncomputable def eE : EnTryz := ⟨10, sG, [.v ty5, .v ty6, .v ty8], _, laws_FnExactCardinalityFalsifyingRepair N, pk1 .bool, enK Tryz.func10 (by kernel_rfl),
 fun aDb aConstraints aQuery => eok (eS N) (by kernel_rfl) Tryz.func10 rfl N an0 rfl (Y4 .bool) (by kernel_rfl)⟩
end laws_FnExactCardinalityFalsifyingRepair
end Go.PL
