/- What the machine does at each function is what the plain reading says. Conditions: none. -/
import Derived.Test.YtpbgkahaplnfmaaGreatFpG
import Derived.Test.YtpbgkahaplnfmaaGreatPlA
import Derived.Test.YtpbgkahaplnfmaaGreatProg

set_option linter.unusedVariables false
set_option linter.unusedSimpArgs false
set_option linter.unnecessarySimpa false

namespace Go.Proofs
open Go.Shelf
open Go.RowKit Go.Lib
def Tryz.lays189_ren : Go.Shelf.Ren := ⟨fun | 189 => 137 | 125 => 198 | 257 => 197 | 128 => 260 | 129 => 261 | 294 => 251 | 295 => 252 | 296 => 253 | 297 => 254 | 298 => 255 | 299 => 256 | 216 => 257 | 300 => 258 | 301 => 259 | 328 => 288 | 329 => 289 | 330 => 290 | 331 => 291 | 332 => 292 | 215 => 293 | 343 => 307 | n => n, fun | 28 => 26 | 3 => 3 | 46 => 191 | 0 => 0 | 51 => 235 | 53 => 237 | 4 => 4 | 183 => 228 | 182 => 227 | 131 => 232 | 5 => 5 | 9 => 9 | 218 => 249 | 222 => 253 | 228 => 267 | 229 => 53 | n => n, fun | n => n⟩
theorem Tryz.lays189 : Go.Proofs.Lays.n189 Tryz.prog Tryz.lays189_ren := {
 mixed := by kernel_rfl
 f125 := Tryz.func198.trans (congrArg some (by kernel_rfl))
 f128 := Tryz.func260.trans (congrArg some (by kernel_rfl))
 f129 := Tryz.func261.trans (congrArg some (by kernel_rfl))
 f189 := Tryz.func137.trans (congrArg some (by kernel_rfl))
 f215 := Tryz.func293.trans (congrArg some (by kernel_rfl))
 f216 := Tryz.func257.trans (congrArg some (by kernel_rfl))
 f257 := Tryz.func197.trans (congrArg some (by kernel_rfl))
 f294 := Tryz.func251.trans (congrArg some (by kernel_rfl))
 f295 := Tryz.func252.trans (congrArg some (by kernel_rfl))
 f296 := Tryz.func253.trans (congrArg some (by kernel_rfl))
 f297 := Tryz.func254.trans (congrArg some (by kernel_rfl))
 f298 := Tryz.func255.trans (congrArg some (by kernel_rfl))
 f299 := Tryz.func256.trans (congrArg some (by kernel_rfl))
 f300 := Tryz.func258.trans (congrArg some (by kernel_rfl))
 f301 := Tryz.func259.trans (congrArg some (by kernel_rfl))
 f328 := Tryz.func288.trans (congrArg some (by kernel_rfl))
 f329 := Tryz.func289.trans (congrArg some (by kernel_rfl))
 f330 := Tryz.func290.trans (congrArg some (by kernel_rfl))
 f331 := Tryz.func291.trans (congrArg some (by kernel_rfl))
 f332 := Tryz.func292.trans (congrArg some (by kernel_rfl))
 f343 := Tryz.func307.trans (congrArg some (by kernel_rfl))
 t0 := Tryz.underlying0
 a0 := Tryz.isAgg0
 z0 := Tryz.sizeOf0
 v0 := Tryz.zeroValue0
 t3 := Tryz.underlying3
 a3 := Tryz.isAgg3
 z3 := Tryz.sizeOf3
 v3 := Tryz.zeroValue3
 t4 := Tryz.underlying4
 a4 := Tryz.isAgg4
 z4 := Tryz.sizeOf4
 v4 := Tryz.zeroValue4
 t5 := Tryz.underlying5
 a5 := Tryz.isAgg5
 z5 := Tryz.sizeOf5
 v5 := Tryz.zeroValue5
 t9 := Tryz.underlying9
 a9 := Tryz.isAgg9
 z9 := Tryz.sizeOf9
 v9 := Tryz.zeroValue9
 t28 := Tryz.underlying26
 a28 := Tryz.isAgg26
 z28 := Tryz.sizeOf26
 v28 := Tryz.zeroValue26
 t46 := Tryz.underlying191
 a46 := Tryz.isAgg191
 z46 := Tryz.sizeOf191
 v46 := Tryz.zeroValue191
 t51 := Tryz.underlying235
 a51 := Tryz.isAgg235
 z51 := Tryz.sizeOf235
 v51 := Tryz.zeroValue235
 t53 := Tryz.underlying237
 a53 := Tryz.isAgg237
 z53 := Tryz.sizeOf237
 v53 := Tryz.zeroValue237
 t131 := Tryz.underlying232
 a131 := Tryz.isAgg232
 z131 := Tryz.sizeOf232
 v131 := Tryz.zeroValue232
 t182 := Tryz.underlying227
 a182 := Tryz.isAgg227
 z182 := Tryz.sizeOf227
 v182 := Tryz.zeroValue227
 t183 := Tryz.underlying228
 a183 := Tryz.isAgg228
 z183 := Tryz.sizeOf228
 v183 := Tryz.zeroValue228
 t218 := Tryz.underlying249
 a218 := Tryz.isAgg249
 z218 := Tryz.sizeOf249
 v218 := Tryz.zeroValue249
 t222 := Tryz.underlying253
 a222 := Tryz.isAgg253
 z222 := Tryz.sizeOf253
 v222 := Tryz.zeroValue253
 t228 := Tryz.underlying267
 a228 := Tryz.isAgg267
 z228 := Tryz.sizeOf267
 v228 := Tryz.zeroValue267
 t229 := Tryz.underlying53
 a229 := Tryz.isAgg53
 z229 := Tryz.sizeOf53
 v229 := Tryz.zeroValue53 }
def Tryz.lays212_ren : Go.Shelf.Ren := ⟨fun | 212 => 287 | 263 => 305 | 264 => 306 | n => n, fun | 46 => 191 | 51 => 235 | 146 => 263 | 53 => 237 | 148 => 265 | n => n, fun | n => n⟩
theorem Tryz.lays212 : Go.Proofs.Lays.n212 Tryz.prog Tryz.lays212_ren := {
 mixed := by kernel_rfl
 f212 := Tryz.func287.trans (congrArg some (by kernel_rfl))
 f263 := Tryz.func305.trans (congrArg some (by kernel_rfl))
 f264 := Tryz.func306.trans (congrArg some (by kernel_rfl))
 t46 := Tryz.underlying191
 a46 := Tryz.isAgg191
 z46 := Tryz.sizeOf191
 v46 := Tryz.zeroValue191
 t51 := Tryz.underlying235
 a51 := Tryz.isAgg235
 z51 := Tryz.sizeOf235
 v51 := Tryz.zeroValue235
 t53 := Tryz.underlying237
 a53 := Tryz.isAgg237
 z53 := Tryz.sizeOf237
 v53 := Tryz.zeroValue237
 t146 := Tryz.underlying263
 a146 := Tryz.isAgg263
 z146 := Tryz.sizeOf263
 v146 := Tryz.zeroValue263
 t148 := Tryz.underlying265
 a148 := Tryz.isAgg265
 z148 := Tryz.sizeOf265
 v148 := Tryz.zeroValue265 }
def Tryz.laysNm220_ren : Go.Shelf.Ren := ⟨fun | 20 => 170 | n => n, fun | 22 => 26 | 3 => 3 | 4 => 4 | 0 => 0 | n => n, fun | n => n⟩
theorem Tryz.laysNm220 : Go.Proofs.Lays2.n20 Tryz.prog Tryz.laysNm220_ren := {
 mixed := by kernel_rfl
 f20 := Tryz.func170.trans (congrArg some (by kernel_rfl))
 t0 := Tryz.underlying0
 a0 := Tryz.isAgg0
 z0 := Tryz.sizeOf0
 v0 := Tryz.zeroValue0
 t3 := Tryz.underlying3
 a3 := Tryz.isAgg3
 z3 := Tryz.sizeOf3
 v3 := Tryz.zeroValue3
 t4 := Tryz.underlying4
 a4 := Tryz.isAgg4
 z4 := Tryz.sizeOf4
 v4 := Tryz.zeroValue4
 t22 := Tryz.underlying26
 a22 := Tryz.isAgg26
 z22 := Tryz.sizeOf26
 v22 := Tryz.zeroValue26
 i3 := by kernel_rfl }
set_option maxHeartbeats 1000000 in
set_option maxRecDepth 100000 in
theorem repeat_walk
  (n : Nat) (hn : n * 8 <= 140737488355328) (ad : Addr) (cx : Nat) (v : Int) (w : World) (hc : w.cell? ad = some (.int .i64 v)) :
  Calls Tryz.prog 250 #[.slice (some ad) 1 cx, .int .i64 (n : Int)] w fun e w' => e = .returned (.slice (some ⟨w.heap.size, 0, none⟩) n n) /\ ∃ m, w' = (Go.Sort.ahead w m).alloc (.cells (Array.replicate n (.int .i64 v)) 3) := by
 have mixed : Tryz.prog.follows .mixedOrders = true := by decide
 have t3 := Tryz.underlying3
 have a3 := Tryz.isAgg3
 have z3 := Tryz.sizeOf3
 have t4 := Tryz.underlying4
 have t26 := Tryz.underlying26
 have a26 := Tryz.isAgg26
 have z26 := Tryz.sizeOf26
 have v26 := Tryz.zeroValue26
 have t191 := Tryz.underlying191
 have e287 := fun args w => Tryz.call287 args w
 have hinfo : (Tryz.prog.info? 3).map (fun i => (i.zero, i.size, i.bytes)) = some (some (.int .i64 0), 1, 8) := by kernel_rfl
 have hM : Calls Tryz.prog 287 #[.int .u64 1, .int .u64 (n : Int)] w fun e w' => e = .returned (.tuple #[.int .u64 0, .int .u64 (n : Int)]) /\ w' = w := by
  have h := Any.bits_Mul Tryz.lays212 1 n (by omega) (by omega) w
  rw [show Tryz.lays212_ren.f 212 = 287 from rfl, Nat.one_mul, Nat.div_eq_of_lt (by omega), Nat.mod_eq_of_lt (by omega)] at h
  exact h
 have hmk := run_make_row' (P := Tryz.prog) 26 3 (.int .i64 0) 8 t26 hinfo rfl .i64 .i64 n (by omega) (by omega)
 go_enter Tryz.func250, Tryz.ntmps250
 have hsz : (Tryz.prog.info? 3).map (·.size) = some 1 := by
  cases h : Tryz.prog.info? 3 with
  | none => rw [h] at hinfo; cases hinfo
  | some i => rw [h] at hinfo; simp at hinfo; simp [hinfo.2.1]
 have hcp1 := fun (ty : TypeId) => Yca (n := n) (cx := cx) (v := v) t26 hsz hc ty
 have hcpk := fun (k : Nat) (hk : k <= n) (cx cy : Nat) (ty : TypeId) => Y8d (w := w) (v := v) t26 hsz hk cx cy ty
 go_wp2_with (first
  | (go_at_call 287; go_fit hM; rintro e w' ⟨rfl, hw⟩; rw [hw])
  | (refine wpList_copy_runI _ rfl (.tmp 31) (.tmp 32) 26 26 rfl _ _ rfl rfl (hcp1 _) ?_))
 go_loopg [8] (n - min 1 n) (fun g s8 wx => ∃ k m : Nat, min 1 n <= k /\ k <= n /\ g = n - k /\ s8 = .int .i64 (k : Int) /\ wx = (Go.Sort.ahead w m).alloc (.cells (repRow n v k).toArray 3))
 case atStart => exact ⟨min 1 n, 0, Nat.le_refl _, by omega, rfl, rfl, rfl⟩
 case round =>
  obtain ⟨k, m, hk1, hk2, hkg, rfl, hwr⟩ := hrel
  by_cases hlt : (k : Int) < (n : Int)
  ·have A : Aside (wr = (Go.Sort.ahead w m).alloc (.cells (repRow n v k).toArray 3)) := hwr
   clear hwr hcp1 hmk
   go_wp2_with fail
   have hcp := fun (ty : TypeId) => Y8d (P := Tryz.prog) (w := Go.Sort.ahead w (m + 1)) (n := n) (k := k) (v := v) t26 hsz (by omega) (n - k) n ty
   have hW : wr.drew = (Go.Sort.ahead w (m + 1)).alloc (.cells (repRow n v k).toArray 3) := by rw [A.out]; rfl
   rw [<- hW] at hcp
   go_region_law_o (refine step_copy_runI rfl _ _ 26 26 rfl (.slice (some ⟨w.heap.size, k, none⟩) (n - k) (n - k)) (.slice (some ⟨w.heap.size, 0, none⟩) k n) (by simp [Act.eval, Act.put]; try omega) (by simp [Act.eval, Act.put]; try omega) (hcp _) ?_)
   go_wp2
   go_roundg (n - (k + min k (n - k)))
   case measure => omega
   case rel => exact ⟨k + min k (n - k), m + 1, by omega, by omega, rfl, by
     congr 1
     rw [IntKind.wrap_i64]
     omega, rfl⟩
  ·obtain rfl : k = n := by omega
   go_wp2
   go_ret
   refine ⟨rfl, m, ?_⟩
   simp [repRow]
theorem repeat_said : Go.FP.RepeatSaid Tryz.prog 250 3 := fun n ad cx v w hn hc => repeat_walk n hn ad cx v w hc
end Go.Proofs
namespace Go.PL
open Go.FP Go.Proofs Go.Shelf
set_option maxRecDepth 10000
variable (N : Nat)
abbrev i64 : Ty := .int .i64
abbrev ty0 : Ty := (.slice 3 i64)
abbrev ty1 : Ty := (.pair .str (.pair i64 i64))
abbrev ty2 : Ty := (.slice 128 (.pair .str (.pair i64 i64)))
abbrev ty3 : Ty := (.pair i64 (.slice 3 i64))
abbrev ty4 : Ty := (.slice 131 (.pair i64 (.slice 3 i64)))
abbrev ty5 : Ty := (.pair (.slice 128 (.pair .str (.pair i64 i64))) (.slice 131 (.pair i64 (.slice 3 i64))))
abbrev ty6 : Ty := (.slice 134 (.pair i64 (.slice 3 i64)))
abbrev ty7 : Ty := (.pair i64 (.pair (.slice 134 (.pair i64 (.slice 3 i64))) (.slice 3 i64)))
abbrev ty8 : Ty := (.slice 141 (.pair .str (.pair i64 i64)))
abbrev ty9 : Ty := (.slice 143 (.pair i64 (.slice 3 i64)))
abbrev ty10 : Ty := (.pair (.slice 141 (.pair .str (.pair i64 i64))) (.slice 143 (.pair i64 (.slice 3 i64))))
abbrev ty11 : Ty := (.slice 145 (.pair i64 (.slice 3 i64)))
abbrev ty12 : Ty := (.pair i64 (.pair (.slice 145 (.pair i64 (.slice 3 i64))) (.slice 3 i64)))
abbrev ty13 : Ty := (.slice 4 .bool)
abbrev ty14 : Ty := (.slice 152 (.pair (.slice 3 i64) (.slice 3 i64)))
abbrev ty15 : Ty := (.slice 26 (.slice 3 i64))
abbrev ty16 : Ty := (.pair i64 i64)
abbrev ty17 : Ty := (.pair (.slice 3 i64) (.slice 3 i64))
def Tb : Tab := [⟨3, i64, 8, [], false, false⟩,
 ⟨4, .bool, 1, [], false, false⟩,
 ⟨5, (.int .u8), 1, [], false, false⟩,
 ⟨9, .str, 16, [], false, false⟩,
 ⟨22, ty2, 24, [], false, false⟩,
 ⟨23, ty4, 24, [], false, false⟩,
 ⟨25, ty5, 48, [(0, 22), (1, 23)], false, false⟩,
 ⟨26, ty0, 24, [], false, false⟩,
 ⟨27, ty6, 24, [], false, false⟩,
 ⟨29, ty7, 56, [(0, 3), (1, 27), (2, 26)], false, false⟩,
 ⟨33, ty16, 16, [(0, 3), (1, 3)], false, false⟩,
 ⟨36, ty8, 24, [], false, false⟩,
 ⟨37, ty9, 24, [], false, false⟩,
 ⟨39, ty10, 48, [(0, 36), (1, 37)], false, false⟩,
 ⟨42, ty11, 24, [], false, false⟩,
 ⟨44, ty12, 56, [(0, 3), (1, 42), (2, 26)], false, false⟩,
 ⟨86, ty15, 24, [], false, false⟩,
 ⟨128, ty1, 32, [(0, 9), (1, 3), (2, 3)], false, false⟩,
 ⟨131, ty3, 32, [(0, 3), (1, 26)], false, false⟩,
 ⟨134, ty3, 32, [(0, 3), (1, 26)], false, false⟩,
 ⟨141, ty1, 32, [(0, 9), (1, 3), (2, 3)], false, false⟩,
 ⟨143, ty3, 32, [(0, 3), (1, 26)], false, false⟩,
 ⟨145, ty3, 32, [(0, 3), (1, 26)], false, false⟩,
 ⟨149, ty14, 24, [], false, false⟩,
 ⟨152, ty17, 48, [(0, 26), (1, 26)], false, false⟩,
 ⟨163, ty13, 24, [], false, false⟩,
 ⟨187, .bool, 8, [], true, false⟩]
theorem tab_ok : TabOk Tryz.prog Tb :=
 (Yc (TEOk.plain (i := Tryz.t3) (by kernel_rfl) rfl rfl (by kernel_rfl) rfl rfl rfl Tryz.underlying3)
 (Yc (TEOk.plain (i := Tryz.t4) (by kernel_rfl) rfl rfl (by kernel_rfl) rfl rfl rfl Tryz.underlying4)
 (Yc (TEOk.plain (i := Tryz.t5) (by kernel_rfl) rfl rfl (by kernel_rfl) rfl rfl rfl Tryz.underlying5)
 (Yc (TEOk.plain (i := Tryz.t9) (by kernel_rfl) rfl rfl (by kernel_rfl) rfl rfl rfl Tryz.underlying9)
 (Yc (TEOk.plain (i := Tryz.t22) (by kernel_rfl) rfl rfl (by kernel_rfl) rfl rfl rfl Tryz.underlying22)
 (Yc (TEOk.plain (i := Tryz.t23) (by kernel_rfl) rfl rfl (by kernel_rfl) rfl rfl rfl Tryz.underlying23)
 (Yc (TEOk.struct (i := Tryz.t25) (pl := [(0, 1), (1, 1)]) (by kernel_rfl) rfl rfl (by kernel_rfl) Tryz.underlying25 (by kernel_rfl) (by kernel_rfl) rfl rfl (fun h => by cases h))
 (Yc (TEOk.plain (i := Tryz.t26) (by kernel_rfl) rfl rfl (by kernel_rfl) rfl rfl rfl Tryz.underlying26)
 (Yc (TEOk.plain (i := Tryz.t27) (by kernel_rfl) rfl rfl (by kernel_rfl) rfl rfl rfl Tryz.underlying27)
 (Yc (TEOk.struct (i := Tryz.t29) (pl := [(0, 1), (1, 1), (2, 1)]) (by kernel_rfl) rfl rfl (by kernel_rfl) Tryz.underlying29 (by kernel_rfl) (by kernel_rfl) rfl rfl (fun h => by cases h))
 (Yc (TEOk.struct (i := Tryz.t33) (pl := [(0, 1), (1, 1)]) (by kernel_rfl) rfl rfl (by kernel_rfl) Tryz.underlying33 (by kernel_rfl) (by kernel_rfl) rfl rfl (fun h => by cases h))
 (Yc (TEOk.plain (i := Tryz.t36) (by kernel_rfl) rfl rfl (by kernel_rfl) rfl rfl rfl Tryz.underlying36)
 (Yc (TEOk.plain (i := Tryz.t37) (by kernel_rfl) rfl rfl (by kernel_rfl) rfl rfl rfl Tryz.underlying37)
 (Yc (TEOk.struct (i := Tryz.t39) (pl := [(0, 1), (1, 1)]) (by kernel_rfl) rfl rfl (by kernel_rfl) Tryz.underlying39 (by kernel_rfl) (by kernel_rfl) rfl rfl (fun h => by cases h))
 (Yc (TEOk.plain (i := Tryz.t42) (by kernel_rfl) rfl rfl (by kernel_rfl) rfl rfl rfl Tryz.underlying42)
 (Yc (TEOk.struct (i := Tryz.t44) (pl := [(0, 1), (1, 1), (2, 1)]) (by kernel_rfl) rfl rfl (by kernel_rfl) Tryz.underlying44 (by kernel_rfl) (by kernel_rfl) rfl rfl (fun h => by cases h))
 (Yc (TEOk.plain (i := Tryz.t86) (by kernel_rfl) rfl rfl (by kernel_rfl) rfl rfl rfl Tryz.underlying86)
 (Yc (TEOk.struct (i := Tryz.t128) (pl := [(0, 1), (1, 1), (2, 1)]) (by kernel_rfl) rfl rfl (by kernel_rfl) Tryz.underlying128 (by kernel_rfl) (by kernel_rfl) rfl rfl (fun h => by cases h))
 (Yc (TEOk.struct (i := Tryz.t131) (pl := [(0, 1), (1, 1)]) (by kernel_rfl) rfl rfl (by kernel_rfl) Tryz.underlying131 (by kernel_rfl) (by kernel_rfl) rfl rfl (fun h => by cases h))
 (Yc (TEOk.struct (i := Tryz.t134) (pl := [(0, 1), (1, 1)]) (by kernel_rfl) rfl rfl (by kernel_rfl) Tryz.underlying134 (by kernel_rfl) (by kernel_rfl) rfl rfl (fun h => by cases h))
 (Yc (TEOk.struct (i := Tryz.t141) (pl := [(0, 1), (1, 1), (2, 1)]) (by kernel_rfl) rfl rfl (by kernel_rfl) Tryz.underlying141 (by kernel_rfl) (by kernel_rfl) rfl rfl (fun h => by cases h))
 (Yc (TEOk.struct (i := Tryz.t143) (pl := [(0, 1), (1, 1)]) (by kernel_rfl) rfl rfl (by kernel_rfl) Tryz.underlying143 (by kernel_rfl) (by kernel_rfl) rfl rfl (fun h => by cases h))
 (Yc (TEOk.struct (i := Tryz.t145) (pl := [(0, 1), (1, 1)]) (by kernel_rfl) rfl rfl (by kernel_rfl) Tryz.underlying145 (by kernel_rfl) (by kernel_rfl) rfl rfl (fun h => by cases h))
 (Yc (TEOk.plain (i := Tryz.t149) (by kernel_rfl) rfl rfl (by kernel_rfl) rfl rfl rfl Tryz.underlying149)
 (Yc (TEOk.struct (i := Tryz.t152) (pl := [(0, 1), (1, 1)]) (by kernel_rfl) rfl rfl (by kernel_rfl) Tryz.underlying152 (by kernel_rfl) (by kernel_rfl) rfl rfl (fun h => by cases h))
 (Yc (TEOk.plain (i := Tryz.t163) (by kernel_rfl) rfl rfl (by kernel_rfl) rfl rfl rfl Tryz.underlying163)
 (Yc (TEOk.ofFn (i := Tryz.t187) (z := (Tryz.t187.zero).getD default) (by kernel_rfl) rfl (by kernel_rfl) (by kernel_rfl) Tryz.underlying187 rfl rfl)
 Ye0)))))))))))))))))))))))))))
theorem mixed : Tryz.prog.follows .mixedOrders = true := by decide
def cps : FuncId -> List Ty := capsL [(134, []), (140, [ty0]), (191, [ty3]), (194, [ty12, .bool, ty10, .bool]), (201, [ty0]), (282, [])]
def cpsS : FuncId -> List Ty := fun f => if f = 1000000007 then [.unit] else cps f
def cpsK : FuncId -> List Ty := fun f => if f = 1000000009 then [.unit] else cps f
section
variable {R : Type} (es : List (Entry Tryz.prog)) (N : Nat) (an : Nat -> Option (List Nat))
noncomputable abbrev evE (sg : Sig) (fn : Func) (args : List RV) (K : List (Σ t : Ty, t.D) -> Option R) : Option R :=
 evFn Tb (sigL es) cps (orcL es) (drawReg Tb (sigL es) cps (orcL es)) N an sg fn (fn.body.getD .skip) args K
noncomputable abbrev evES (sg : Sig) (fn : Func) (args : List RV) (K : List (Σ t : Ty, t.D) -> Option R) : Option R :=
 evFn Tb (sigL es) cpsS (orcL es) (drawReg Tb (sigL es) cpsS (orcL es)) N an sg fn (fn.body.getD .skip) args K
noncomputable abbrev lpES (p : List Dir) (fn : Func) (K : Exit -> Env -> Option R) (rs : List (Env -> Option R)) (k : Nat) (env : Env) : Option R :=
 loopAt Tb (sigL es) cpsS (orcL es) N an p (fn.body.getD .skip) K rs k env
noncomputable abbrev evEK (sg : Sig) (fn : Func) (args : List RV) (K : List (Σ t : Ty, t.D) -> Option R) : Option R :=
 evFn Tb (sigL es) cpsK (orcL es) (drawReg Tb (sigL es) cpsK (orcL es)) N an sg fn (fn.body.getD .skip) args K
noncomputable abbrev lpEK (p : List Dir) (fn : Func) (K : Exit -> Env -> Option R) (rs : List (Env -> Option R)) (k : Nat) (env : Env) : Option R :=
 loopAt Tb (sigL es) cpsK (orcL es) N an p (fn.body.getD .skip) K rs k env
noncomputable abbrev evB (sg : Sig) (b : BoxSig) (fn : Func) (args : List RV) (K : List (Σ t : Ty, t.D) -> Option R) : Option R :=
 evFnB Tb (sigL es) cps (orcL es) (drawReg Tb (sigL es) cps (orcL es)) N an sg b fn (fn.body.getD .skip) args K
noncomputable abbrev evG (k : Nat) (sg : Sig) (fn : Func) (args : List RV) (K : List (Σ t : Ty, t.D) -> Option R) : Option R :=
 evFnG Tb (sigL es) cps (orcL es) (drawReg Tb (sigL es) cps (orcL es)) N an k sg fn (fn.body.getD .skip) args K
noncomputable abbrev evN (id : TypeId) (t : Ty) (rs : List (Ty × Lvl)) (fn : Func) (args : List RV) (K : List (Σ t : Ty, t.D) -> Option R) : Option R :=
 evFnN Tb (sigL es) cps (orcL es) (drawReg Tb (sigL es) cps (orcL es)) N an id t rs fn (fn.body.getD .skip) args K
noncomputable abbrev lpE (p : List Dir) (fn : Func) (K : Exit -> Env -> Option R) (rs : List (Env -> Option R)) (k : Nat) (env : Env) : Option R :=
 loopAt Tb (sigL es) cps (orcL es) N an p (fn.body.getD .skip) K rs k env
end
abbrev EnTryz := Entry Tryz.prog
def an0 : Nat -> Option (List Nat) := fun _ => none
def sgV (ps : List PTy) (rs : List (Ty × Lvl)) : Sig := ⟨ps, rs, false, false, none, none, none⟩
theorem enK {f : FuncId} {fn : Func} (hf : Tryz.prog.funcs[f]? = some fn) (h : (fn.body.isNone || fn.name == "runtime.NumGoroutine") = false) : Enterable Tryz.prog f := ⟨fn, hf, (Bool.or_eq_false_iff.1 h).1, (Bool.or_eq_false_iff.1 h).2⟩
def plG (sg : Sig) : Bool := sg.box.isNone && (sg.newb.isNone && (!sg.muts && !sg.own))
theorem eok (es : List (Entry Tryz.prog)) (ha : agreeL es = true) {f : FuncId} {fn : Func} (hf : Tryz.prog.funcs[f]? = some fn) (hb : fn.body.isSome = true) (N : Nat) (an : Nat -> Option (List Nat)) {sg : Sig} (hs : plG sg = true) {args : List RV} {α : Type} {un : List (Σ t : Ty, t.D) -> Option α} {pk : α -> List (Σ t : Ty, t.D)} (hu : ∀ r xs, un xs = some r -> xs = pk r) {q : Option α} (h : evE es N an sg fn args un = q) :
  ∀ x, q = some x -> FnOk Tryz.prog f sg args (pk x) := by
 obtain ⟨ps, rs, m, o, b, n, g⟩ := sg
 simp only [plG, Bool.and_eq_true, Bool.not_eq_true', Option.isNone_iff_eq_none] at hs
 obtain ⟨rfl, rfl, rfl, rfl⟩ := hs
 exact Y4p tab_ok ha mixed hf (by cases h : fn.body with | none => rw [h] at hb; cases hb | some c => rfl) ⟨⟨rfl, rfl⟩, rfl, rfl⟩ hu h
theorem eokS (es : List (Entry Tryz.prog)) (ha : agreeL es = true) {f : FuncId} {fn : Func} (hf : Tryz.prog.funcs[f]? = some fn) (hb : fn.body.isSome = true) (N : Nat) (an : Nat -> Option (List Nat)) {sg : Sig} (hs : plG sg = true) {args : List RV} {α : Type} {un : List (Σ t : Ty, t.D) -> Option α} {pk : α -> List (Σ t : Ty, t.D)} (hu : ∀ r xs, un xs = some r -> xs = pk r) {q : Option α} (h : evES es N an sg fn args un = q) :
  ∀ x, q = some x -> FnOk Tryz.prog f sg args (pk x) := by
 obtain ⟨ps, rs, m, o, b, n, g⟩ := sg
 simp only [plG, Bool.and_eq_true, Bool.not_eq_true', Option.isNone_iff_eq_none] at hs
 obtain ⟨rfl, rfl, rfl, rfl⟩ := hs
 exact Y4p tab_ok ha mixed hf (by cases h : fn.body with | none => rw [h] at hb; cases hb | some c => rfl) ⟨⟨rfl, rfl⟩, rfl, rfl⟩ hu h
theorem eokK (es : List (Entry Tryz.prog)) (ha : agreeL es = true) {f : FuncId} {fn : Func} (hf : Tryz.prog.funcs[f]? = some fn) (hb : fn.body.isSome = true) (N : Nat) (an : Nat -> Option (List Nat)) {sg : Sig} (hs : plG sg = true) {args : List RV} {α : Type} {un : List (Σ t : Ty, t.D) -> Option α} {pk : α -> List (Σ t : Ty, t.D)} (hu : ∀ r xs, un xs = some r -> xs = pk r) {q : Option α} (h : evEK es N an sg fn args un = q) :
  ∀ x, q = some x -> FnOk Tryz.prog f sg args (pk x) := by
 obtain ⟨ps, rs, m, o, b, n, g⟩ := sg
 simp only [plG, Bool.and_eq_true, Bool.not_eq_true', Option.isNone_iff_eq_none] at hs
 obtain ⟨rfl, rfl, rfl, rfl⟩ := hs
 exact Y4p tab_ok ha mixed hf (by cases h : fn.body with | none => rw [h] at hb; cases hb | some c => rfl) ⟨⟨rfl, rfl⟩, rfl, rfl⟩ hu h
def lay_Grow_ren : Ren := ⟨fun _ => 227, fun | 0 => 0 | 3 => 3 | 4 => 4 | 9 => 9 | 20 => 20 | 22 => 26 | _ => 3, id⟩
theorem lay_Grow : Lays8.n4 Tryz.prog lay_Grow_ren := {
 mixed := by kernel_rfl
 f4 := ⟨Tryz.f227.name, by kernel_rfl, Tryz.func227.trans (congrArg some (by kernel_rfl))⟩
 t0 := Tryz.underlying0
 a0 := Tryz.isAgg0
 z0 := Tryz.sizeOf0
 v0 := Tryz.zeroValue0
 t3 := Tryz.underlying3
 a3 := Tryz.isAgg3
 z3 := Tryz.sizeOf3
 v3 := Tryz.zeroValue3
 t4 := Tryz.underlying4
 a4 := Tryz.isAgg4
 z4 := Tryz.sizeOf4
 v4 := Tryz.zeroValue4
 t9 := Tryz.underlying9
 a9 := Tryz.isAgg9
 z9 := Tryz.sizeOf9
 v9 := Tryz.zeroValue9
 t20 := Tryz.underlying20
 a20 := Tryz.isAgg20
 z20 := Tryz.sizeOf20
 v20 := Tryz.zeroValue20
 t22 := Tryz.underlying26
 a22 := Tryz.isAgg26
 z22 := Tryz.sizeOf26
 v22 := Tryz.zeroValue26 }
noncomputable def Z9r : Entry Tryz.prog := ⟨227, ⟨[.val ty0, .val i64], [(ty0, .dp)], true, true, none, none, none⟩, [.v ty0, .v i64], I0, Z7b N, pk1 ty0, Y28 Tryz.func227 (code := Tryz.f227.body.getD .skip) (by kernel_rfl) (by kernel_rfl),
 fun s n q h => Ydl (Ydm lay_Grow (i0 := Tryz.t3) (z := (Tryz.t3.zero).getD default) (by kernel_rfl) (by kernel_rfl) (by kernel_rfl) (by kernel_rfl) (by kernel_rfl)) h⟩
noncomputable def Z8g : Entry Tryz.prog := ⟨137, ⟨[.val ty0], [], true, false, none, none, none⟩, [.v ty0], I0, Z10 N, pk1 ty0, Y28 Tryz.func137 (code := Tryz.f137.body.getD .skip) (by kernel_rfl) (by kernel_rfl),
 fun s q h => Ydk (Ydn Tryz.lays189) h⟩
noncomputable def Z9g : Entry Tryz.prog := ⟨170, ⟨[.val ty0], [(ty0, .dp)], true, true, none, none, none⟩, [.v ty0], I0, Z67 N, pk1 ty0, Y28 Tryz.func170 (code := Tryz.f170.body.getD .skip) (by kernel_rfl) (by kernel_rfl),
 fun s q h => Yap (Yaq Tryz.laysNm220) h⟩
noncomputable def Z9o : Entry Tryz.prog := ⟨250, ⟨[.val ty0, .val i64], [(ty0, .dp)], true, true, none, none, none⟩, [.v ty0, .v i64], I0, Z6i N, pk1 ty0, Y28 Tryz.func250 (code := Tryz.f250.body.getD .skip) (by kernel_rfl) (by kernel_rfl),
 fun s n q h => Yc8 repeat_said h⟩
theorem Z9p : Bears Tryz.prog 168 (SlBodyN.n41 (renL 168 0 3 4 26 3)) := ⟨Tryz.f168.name, by kernel_rfl, Tryz.func168.trans (congrArg some (by kernel_rfl))⟩
noncomputable def Z89 : Entry Tryz.prog := ⟨168, ⟨[.val ty0], [(ty0, .dp)], false, false, none, none, none⟩, [.v ty0], I0, Z1j N, pk1 ty0, Y28 Tryz.func168 (code := Tryz.f168.body.getD .skip) (by kernel_rfl) (by kernel_rfl),
 fun s q h => Ycr tab_ok mixed Z9p (by kernel_rfl) Tryz.underlying4 (te := ⟨3, i64, 8, [], false, false⟩) (by kernel_rfl) rfl rfl h⟩
namespace Z2t
def sG := sgV [.val ty1, .val i64] [(i64, .dp)]
noncomputable def eS (N : Nat) : List EnTryz := []
noncomputable def eE : EnTryz := ⟨119, sG, [.v ty1, .v i64], _, Z2t N, pk1 i64, enK Tryz.func119 (by kernel_rfl),
 fun a left_ => eok (eS N) (by kernel_rfl) Tryz.func119 rfl N an0 rfl (Y4 i64) (by kernel_rfl)⟩
end Z2t
namespace Z34
def sG := sgV [.val ty2, .val i64] [(i64, .dp)]
noncomputable def eS : List EnTryz := [Z2t.eE N]
def an_ : Nat -> Option (List Nat)
 | 0 => some [0, 1, 5]
 | _ => none
noncomputable def lP (p : List Dir) (rs : List (Env -> Option (Int))) (k : Nat) (env : Env) : Option (Int) :=
 lpE (eS N) N an_ p Tryz.f56 (endK Tb sG Tryz.f56 [] (un1 i64)) rs k env
noncomputable def El0 (k_ : Nat) (a2 : R0) (left_2 : Int) (i : Int) : Option (Int) :=
 lP N [.r, .r, .r, .l, .r, .b] [] k_ (.con .val [lf ty2 a2 .ro] :: (.con .val [lf i64 left_2 .ro] :: (un 3 (.con .val [lf i64 i .ro] :: (un 21 [])))))
theorem ql0 (N : Nat) : ∀ k_, El0 N k_ = Z2v N k_
 | 0 => by kernel_rfl
 | k_ + 1 => (show El0 N (k_ + 1) = Z4r N (El0 N k_) from by kernel_rfl).trans (by simp only [ql0 N k_]; rfl)
noncomputable def eE : EnTryz := ⟨56, sG, [.v ty2, .v i64], _, Z34 N, pk1 i64, enK Tryz.func56 (by kernel_rfl),
 fun a left_ => eok (eS N) (by kernel_rfl) Tryz.func56 rfl N an_ rfl (Y4 i64) (.trans (b := Z80 N (El0 N N) a left_) (by kernel_rfl) (by rw [ql0]; rfl))⟩
end Z34
namespace Z30
def sG := sgV [.val ty0, .val i64] [(i64, .dp)]
noncomputable def eS (N : Nat) : List EnTryz := []
noncomputable def eE : EnTryz := ⟨59, sG, [.v ty0, .v i64], _, Z30 N, pk1 i64, enK Tryz.func59 (by kernel_rfl),
 fun a left_ => eok (eS N) (by kernel_rfl) Tryz.func59 rfl N an0 rfl (Y4 i64) (by kernel_rfl)⟩
end Z30
namespace Z5j
def sG := sgV [.val ty3, .val i64] [(i64, .dp)]
noncomputable def eS : List EnTryz := [Z30.eE N]
noncomputable def eE : EnTryz := ⟨120, sG, [.v ty3, .v i64], _, Z5j N, pk1 i64, enK Tryz.func120 (by kernel_rfl),
 fun a left_ => eok (eS N) (by kernel_rfl) Tryz.func120 rfl N an0 rfl (Y4 i64) (by kernel_rfl)⟩
end Z5j
namespace Z5n
def sG := sgV [.val ty4, .val i64] [(i64, .dp)]
noncomputable def eS : List EnTryz := [Z5j.eE N]
def an_ : Nat -> Option (List Nat)
 | 0 => some [0, 1, 5]
 | _ => none
noncomputable def lP (p : List Dir) (rs : List (Env -> Option (Int))) (k : Nat) (env : Env) : Option (Int) :=
 lpE (eS N) N an_ p Tryz.f57 (endK Tb sG Tryz.f57 [] (un1 i64)) rs k env
noncomputable def El0 (k_ : Nat) (a2 : A0) (left_2 : Int) (i : Int) : Option (Int) :=
 lP N [.r, .r, .r, .l, .r, .b] [] k_ (.con .val [lf ty4 a2 .ro] :: (.con .val [lf i64 left_2 .ro] :: (un 3 (.con .val [lf i64 i .ro] :: (un 21 [])))))
theorem ql0 (N : Nat) : ∀ k_, El0 N k_ = Z4s N k_
 | 0 => by kernel_rfl
 | k_ + 1 => (show El0 N (k_ + 1) = Z6v N (El0 N k_) from by kernel_rfl).trans (by simp only [ql0 N k_]; rfl)
noncomputable def eE : EnTryz := ⟨57, sG, [.v ty4, .v i64], _, Z5n N, pk1 i64, enK Tryz.func57 (by kernel_rfl),
 fun a left_ => eok (eS N) (by kernel_rfl) Tryz.func57 rfl N an_ rfl (Y4 i64) (.trans (b := Z8q N (El0 N N) a left_) (by kernel_rfl) (by rw [ql0]; rfl))⟩
end Z5n
namespace Z3n
def sG := sgV [.val ty5, .val i64] [(i64, .dp)]
noncomputable def eS : List EnTryz := [Z34.eE N, Z5n.eE N]
noncomputable def eE : EnTryz := ⟨14, sG, [.v ty5, .v i64], _, Z3n N, pk1 i64, enK Tryz.func14 (by kernel_rfl),
 fun a left_ => eok (eS N) (by kernel_rfl) Tryz.func14 rfl N an0 rfl (Y4 i64) (by kernel_rfl)⟩
end Z3n
namespace Z5k
def sG := sgV [.val ty3, .val i64] [(i64, .dp)]
noncomputable def eS : List EnTryz := [Z30.eE N]
noncomputable def eE : EnTryz := ⟨121, sG, [.v ty3, .v i64], _, Z5k N, pk1 i64, enK Tryz.func121 (by kernel_rfl),
 fun a left_ => eok (eS N) (by kernel_rfl) Tryz.func121 rfl N an0 rfl (Y4 i64) (by kernel_rfl)⟩
end Z5k
namespace Z5o
def sG := sgV [.val ty6, .val i64] [(i64, .dp)]
noncomputable def eS : List EnTryz := [Z5k.eE N]
def an_ : Nat -> Option (List Nat)
 | 0 => some [0, 1, 5]
 | _ => none
noncomputable def lP (p : List Dir) (rs : List (Env -> Option (Int))) (k : Nat) (env : Env) : Option (Int) :=
 lpE (eS N) N an_ p Tryz.f58 (endK Tb sG Tryz.f58 [] (un1 i64)) rs k env
noncomputable def El0 (k_ : Nat) (a2 : A0) (left_2 : Int) (i : Int) : Option (Int) :=
 lP N [.r, .r, .r, .l, .r, .b] [] k_ (.con .val [lf ty6 a2 .ro] :: (.con .val [lf i64 left_2 .ro] :: (un 3 (.con .val [lf i64 i .ro] :: (un 21 [])))))
theorem ql0 (N : Nat) : ∀ k_, El0 N k_ = Z4t N k_
 | 0 => by kernel_rfl
 | k_ + 1 => (show El0 N (k_ + 1) = Z6w N (El0 N k_) from by kernel_rfl).trans (by simp only [ql0 N k_]; rfl)
noncomputable def eE : EnTryz := ⟨58, sG, [.v ty6, .v i64], _, Z5o N, pk1 i64, enK Tryz.func58 (by kernel_rfl),
 fun a left_ => eok (eS N) (by kernel_rfl) Tryz.func58 rfl N an_ rfl (Y4 i64) (.trans (b := Z8r N (El0 N N) a left_) (by kernel_rfl) (by rw [ql0]; rfl))⟩
end Z5o
namespace Z5p
def sG := sgV [.val ty7, .val i64] [(i64, .dp)]
noncomputable def eS : List EnTryz := [Z5o.eE N, Z30.eE N]
noncomputable def eE : EnTryz := ⟨15, sG, [.v ty7, .v i64], _, Z5p N, pk1 i64, enK Tryz.func15 (by kernel_rfl),
 fun a left_ => eok (eS N) (by kernel_rfl) Tryz.func15 rfl N an0 rfl (Y4 i64) (by kernel_rfl)⟩
end Z5p
namespace Z3o
def sG := sgV [.val ty1] [(ty1, .dp)]
noncomputable def eS (N : Nat) : List EnTryz := []
noncomputable def eE : EnTryz := ⟨129, sG, [.v ty1], _, Z3o N, pk1 ty1, enK Tryz.func129 (by kernel_rfl),
 fun a => eok (eS N) (by kernel_rfl) Tryz.func129 rfl N an0 rfl (Y4 ty1) (by kernel_rfl)⟩
end Z3o
namespace Z35
def sG := sgV [.val ty2] [(ty8, .dp)]
noncomputable def eS : List EnTryz := [Z3o.eE N]
def an_ : Nat -> Option (List Nat)
 | 0 => some [0, 3, 4]
 | _ => none
noncomputable def lP (p : List Dir) (rs : List (Env -> Option R0)) (k : Nat) (env : Env) : Option R0 :=
 lpE (eS N) N an_ p Tryz.f65 (endK Tb sG Tryz.f65 [] (un1 ty8)) rs k env
noncomputable def El0 (k_ : Nat) (a2 : R0) (out : R0) (i : Int) : Option R0 :=
 lP N [.r, .r, .l, .r, .b] [] k_ (.con .val [lf ty2 a2 .ro] :: (un 2 (.con .val [lf ty8 out .dp] :: (.con .val [lf i64 i .ro] :: (un 18 [])))))
theorem ql0 (N : Nat) : ∀ k_, El0 N k_ = Z2w N k_
 | 0 => by kernel_rfl
 | k_ + 1 => (show El0 N (k_ + 1) = Z4u N (El0 N k_) from by kernel_rfl).trans (by simp only [ql0 N k_]; rfl)
noncomputable def eE : EnTryz := ⟨65, sG, [.v ty2], _, Z35 N, pk1 ty8, enK Tryz.func65 (by kernel_rfl),
 fun a => eok (eS N) (by kernel_rfl) Tryz.func65 rfl N an_ rfl (Y4 ty8) (.trans (b := Z81 N (El0 N N) a) (by kernel_rfl) (by rw [ql0]; rfl))⟩
end Z35
namespace Z1c
def sG := sgV [.val ty0] [(ty0, .dp)]
noncomputable def eS (N : Nat) : List EnTryz := []
def an_ : Nat -> Option (List Nat)
 | 0 => some [0, 3, 4]
 | _ => none
noncomputable def lP (p : List Dir) (rs : List (Env -> Option I0)) (k : Nat) (env : Env) : Option I0 :=
 lpE (eS N) N an_ p Tryz.f18 (endK Tb sG Tryz.f18 [] (un1 ty0)) rs k env
noncomputable def El0 (k_ : Nat) (a2 : I0) (out : I0) (i : Int) : Option I0 :=
 lP N [.r, .r, .l, .r, .b] [] k_ (.con .val [lf ty0 a2 .ro] :: (un 2 (.con .val [lf ty0 out .dp] :: (.con .val [lf i64 i .ro] :: (un 17 [])))))
theorem ql0 (N : Nat) : ∀ k_, El0 N k_ = Z5l N k_
 | 0 => by kernel_rfl
 | k_ + 1 => (show El0 N (k_ + 1) = Z7c N (El0 N k_) from by kernel_rfl).trans (by simp only [ql0 N k_]; rfl)
noncomputable def eE : EnTryz := ⟨18, sG, [.v ty0], _, Z1c N, pk1 ty0, enK Tryz.func18 (by kernel_rfl),
 fun a => eok (eS N) (by kernel_rfl) Tryz.func18 rfl N an_ rfl (Y4 ty0) (.trans (b := Z91 N (El0 N N) a) (by kernel_rfl) (by rw [ql0]; rfl))⟩
end Z1c
namespace Z6j
def sG := sgV [.val ty3] [(ty3, .dp)]
noncomputable def eS : List EnTryz := [Z1c.eE N]
noncomputable def eE : EnTryz := ⟨130, sG, [.v ty3], _, Z6j N, pk1 ty3, enK Tryz.func130 (by kernel_rfl),
 fun a => eok (eS N) (by kernel_rfl) Tryz.func130 rfl N an0 rfl (Y4 ty3) (by kernel_rfl)⟩
end Z6j
namespace Z5q
def sG := sgV [.val ty4] [(ty9, .dp)]
noncomputable def eS : List EnTryz := [Z6j.eE N]
def an_ : Nat -> Option (List Nat)
 | 0 => some [0, 3, 4]
 | _ => none
noncomputable def lP (p : List Dir) (rs : List (Env -> Option A0)) (k : Nat) (env : Env) : Option A0 :=
 lpE (eS N) N an_ p Tryz.f66 (endK Tb sG Tryz.f66 [] (un1 ty9)) rs k env
noncomputable def El0 (k_ : Nat) (a2 : A0) (out : A0) (i : Int) : Option A0 :=
 lP N [.r, .r, .l, .r, .b] [] k_ (.con .val [lf ty4 a2 .ro] :: (un 2 (.con .val [lf ty9 out .dp] :: (.con .val [lf i64 i .ro] :: (un 18 [])))))
theorem ql0 (N : Nat) : ∀ k_, El0 N k_ = Z4v N k_
 | 0 => by kernel_rfl
 | k_ + 1 => (show El0 N (k_ + 1) = Z6x N (El0 N k_) from by kernel_rfl).trans (by simp only [ql0 N k_]; rfl)
noncomputable def eE : EnTryz := ⟨66, sG, [.v ty4], _, Z5q N, pk1 ty9, enK Tryz.func66 (by kernel_rfl),
 fun a => eok (eS N) (by kernel_rfl) Tryz.func66 rfl N an_ rfl (Y4 ty9) (.trans (b := Z8s N (El0 N N) a) (by kernel_rfl) (by rw [ql0]; rfl))⟩
end Z5q
namespace Z28
def sG := sgV [.val ty5] [(ty10, .dp)]
noncomputable def eS : List EnTryz := [Z35.eE N, Z5q.eE N]
noncomputable def eE : EnTryz := ⟨17, sG, [.v ty5], _, Z28 N, pk1 ty10, enK Tryz.func17 (by kernel_rfl),
 fun a => eok (eS N) (by kernel_rfl) Tryz.func17 rfl N an0 rfl (Y4 ty10) (by kernel_rfl)⟩
end Z28
namespace Z6k
def sG := sgV [.val ty3] [(ty3, .dp)]
noncomputable def eS : List EnTryz := [Z1c.eE N]
noncomputable def eE : EnTryz := ⟨131, sG, [.v ty3], _, Z6k N, pk1 ty3, enK Tryz.func131 (by kernel_rfl),
 fun a => eok (eS N) (by kernel_rfl) Tryz.func131 rfl N an0 rfl (Y4 ty3) (by kernel_rfl)⟩
end Z6k
namespace Z5r
def sG := sgV [.val ty6] [(ty11, .dp)]
noncomputable def eS : List EnTryz := [Z6k.eE N]
def an_ : Nat -> Option (List Nat)
 | 0 => some [0, 3, 4]
 | _ => none
noncomputable def lP (p : List Dir) (rs : List (Env -> Option A0)) (k : Nat) (env : Env) : Option A0 :=
 lpE (eS N) N an_ p Tryz.f67 (endK Tb sG Tryz.f67 [] (un1 ty11)) rs k env
noncomputable def El0 (k_ : Nat) (a2 : A0) (out : A0) (i : Int) : Option A0 :=
 lP N [.r, .r, .l, .r, .b] [] k_ (.con .val [lf ty6 a2 .ro] :: (un 2 (.con .val [lf ty11 out .dp] :: (.con .val [lf i64 i .ro] :: (un 18 [])))))
theorem ql0 (N : Nat) : ∀ k_, El0 N k_ = Z4w N k_
 | 0 => by kernel_rfl
 | k_ + 1 => (show El0 N (k_ + 1) = Z6y N (El0 N k_) from by kernel_rfl).trans (by simp only [ql0 N k_]; rfl)
noncomputable def eE : EnTryz := ⟨67, sG, [.v ty6], _, Z5r N, pk1 ty11, enK Tryz.func67 (by kernel_rfl),
 fun a => eok (eS N) (by kernel_rfl) Tryz.func67 rfl N an_ rfl (Y4 ty11) (.trans (b := Z8t N (El0 N N) a) (by kernel_rfl) (by rw [ql0]; rfl))⟩
end Z5r
namespace Z3p
def sG := sgV [.val ty7] [(ty12, .dp)]
noncomputable def eS : List EnTryz := [Z5r.eE N, Z1c.eE N]
noncomputable def eE : EnTryz := ⟨19, sG, [.v ty7], _, Z3p N, pk1 ty12, enK Tryz.func19 (by kernel_rfl),
 fun a => eok (eS N) (by kernel_rfl) Tryz.func19 rfl N an0 rfl (Y4 ty12) (by kernel_rfl)⟩
end Z3p
namespace Z0o
def sG := sgV [.val i64, .val i64, .val i64] [(.bool, .dp)]
noncomputable def eS (N : Nat) : List EnTryz := []
noncomputable def eE : EnTryz := ⟨124, sG, [.v i64, .v i64, .v i64], _, Z0o N, pk1 .bool, enK Tryz.func124 (by kernel_rfl),
 fun x low high => eok (eS N) (by kernel_rfl) Tryz.func124 rfl N an0 rfl (Y4 .bool) (by kernel_rfl)⟩
end Z0o
namespace Z5
def sG := sgV [.val ty1] [(.bool, .dp)]
noncomputable def eS : List EnTryz := [Z0o.eE N]
noncomputable def eE : EnTryz := ⟨246, sG, [.v ty1], _, Z5 N, pk1 .bool, enK Tryz.func246 (by kernel_rfl),
 fun s => eok (eS N) (by kernel_rfl) Tryz.func246 rfl N an0 rfl (Y4 .bool) (by kernel_rfl)⟩
end Z5
namespace Z0c
def sG := sgV [.val ty8] [(.bool, .dp)]
noncomputable def eS : List EnTryz := [Z5.eE N]
def an_ : Nat -> Option (List Nat)
 | 0 => some [0, 3]
 | _ => none
noncomputable def lP (p : List Dir) (rs : List (Env -> Option (Bool))) (k : Nat) (env : Env) : Option (Bool) :=
 lpE (eS N) N an_ p Tryz.f187 (endK Tb sG Tryz.f187 [] (un1 .bool)) rs k env
noncomputable def El0 (k_ : Nat) (l2 : R0) (i : Int) : Option (Bool) :=
 lP N [.r, .l, .r, .b] [] k_ (.con .val [lf ty8 l2 .ro] :: (un 2 (.con .val [lf i64 i .ro] :: (un 33 []))))
theorem ql0 (N : Nat) : ∀ k_, El0 N k_ = Z0j N k_
 | 0 => by kernel_rfl
 | k_ + 1 => (show El0 N (k_ + 1) = Z16 N (El0 N k_) from by kernel_rfl).trans (by simp only [ql0 N k_]; rfl)
noncomputable def eE : EnTryz := ⟨187, sG, [.v ty8], _, Z0c N, pk1 .bool, enK Tryz.func187 (by kernel_rfl),
 fun l => eok (eS N) (by kernel_rfl) Tryz.func187 rfl N an_ rfl (Y4 .bool) (.trans (b := Z3q N (El0 N N) l) (by kernel_rfl) (by rw [ql0]; rfl))⟩
end Z0c
namespace Z0y
def sG := sgV [.val ty8, .val ty3] [(.bool, .dp)]
noncomputable def eS : List EnTryz := [Z0o.eE N, Z0c.eE N]
def an_ : Nat -> Option (List Nat)
 | 0 => some [3, 5]
 | _ => none
noncomputable def lP (p : List Dir) (rs : List (Env -> Option (Bool))) (k : Nat) (env : Env) : Option (Bool) :=
 lpE (eS N) N an_ p Tryz.f185 (endK Tb sG Tryz.f185 [] (un1 .bool)) rs k env
noncomputable def El0 (k_ : Nat) (f2 : Int) (f3 : I0) (i : Int) : Option (Bool) :=
 lP N [.r, .r, .l, .r, .b] [] k_ (un 3 (.con (.box ⟨143, false, []⟩) [lf i64 f2 .ro, lf ty0 f3 .ro] :: (un 1 (.con .val [lf i64 i .ro] :: (un 38 [])))))
theorem ql0 (N : Nat) : ∀ k_, El0 N k_ = Z2x N k_
 | 0 => by kernel_rfl
 | k_ + 1 => (show El0 N (k_ + 1) = Z4x N (El0 N k_) from by kernel_rfl).trans (by simp only [ql0 N k_]; rfl)
noncomputable def eE : EnTryz := ⟨185, sG, [.v ty8, .v ty3], _, Z0y N, pk1 .bool, enK Tryz.func185 (by kernel_rfl),
 fun l f => eok (eS N) (by kernel_rfl) Tryz.func185 rfl N an_ rfl (Y4 .bool) (.trans (b := Z82 N (El0 N N) l f) (by kernel_rfl) (by rw [ql0]; rfl))⟩
end Z0y
namespace Z4c
def sG := sgV [.val ty0, .val ty0] [(i64, .dp)]
noncomputable def eS (N : Nat) : List EnTryz := []
def an_ : Nat -> Option (List Nat)
 | 0 => some [0, 1, 5]
 | _ => none
noncomputable def lP (p : List Dir) (rs : List (Env -> Option (Int))) (k : Nat) (env : Env) : Option (Int) :=
 lpE (eS N) N an_ p Tryz.f174 (endK Tb sG Tryz.f174 [] (un1 i64)) rs k env
noncomputable def El0 (k_ : Nat) (a2 : I0) (b2 : I0) (i : Int) : Option (Int) :=
 lP N [.r, .l, .r, .b] [] k_ (.con .val [lf ty0 a2 .ro] :: (.con .val [lf ty0 b2 .ro] :: (un 3 (.con .val [lf i64 i .ro] :: (un 40 [])))))
theorem ql0 (N : Nat) : ∀ k_, El0 N k_ = Z44 N k_
 | 0 => by kernel_rfl
 | k_ + 1 => (show El0 N (k_ + 1) = Z5s N (El0 N k_) from by kernel_rfl).trans (by simp only [ql0 N k_]; rfl)
noncomputable def eE : EnTryz := ⟨174, sG, [.v ty0, .v ty0], _, Z4c N, pk1 i64, enK Tryz.func174 (by kernel_rfl),
 fun a b => eok (eS N) (by kernel_rfl) Tryz.func174 rfl N an_ rfl (Y4 i64) (.trans (b := Z93 N (El0 N N) a b) (by kernel_rfl) (by rw [ql0]; rfl))⟩
end Z4c
namespace Z2o
def sG := sgV [.val ty3, .val ty3] [(i64, .dp)]
noncomputable def eS : List EnTryz := [Z4c.eE N]
noncomputable def eE : EnTryz := ⟨186, sG, [.v ty3, .v ty3], _, Z2o N, pk1 i64, enK Tryz.func186 (by kernel_rfl),
 fun a b => eok (eS N) (by kernel_rfl) Tryz.func186 rfl N an0 rfl (Y4 i64) (by kernel_rfl)⟩
end Z2o
namespace Z0
def sG := sgV [.val ty10] [(.bool, .dp)]
noncomputable def eS : List EnTryz := [Z0y.eE N, Z2o.eE N, Z0c.eE N]
def an_ : Nat -> Option (List Nat)
 | 0 => some [1, 3]
 | _ => none
noncomputable def lP (p : List Dir) (rs : List (Env -> Option (Bool))) (k : Nat) (env : Env) : Option (Bool) :=
 lpE (eS N) N an_ p Tryz.f122 (endK Tb sG Tryz.f122 [] (un1 .bool)) rs k env
noncomputable def El0 (k_ : Nat) (d2 : R0) (d3 : A0) (i : Int) : Option (Bool) :=
 lP N [.r, .l, .r, .b] [] k_ (un 1 (.con (.box ⟨39, false, []⟩) [lf ty8 d2 .ro, lf ty9 d3 .ro] :: (un 1 (.con .val [lf i64 i .ro] :: (un 44 [])))))
theorem ql0 (N : Nat) : ∀ k_, El0 N k_ = Z1p N k_
 | 0 => by kernel_rfl
 | k_ + 1 => (show El0 N (k_ + 1) = Z3k N (El0 N k_) from by kernel_rfl).trans (by simp only [ql0 N k_]; rfl)
noncomputable def eE : EnTryz := ⟨122, sG, [.v ty10], _, Z0 N, pk1 .bool, enK Tryz.func122 (by kernel_rfl),
 fun d => eok (eS N) (by kernel_rfl) Tryz.func122 rfl N an_ rfl (Y4 .bool) (.trans (b := Z6l N (El0 N N) d) (by kernel_rfl) (by rw [ql0]; rfl))⟩
end Z0
namespace Z2p
def sG := sgV [.val ty8, .val ty12] [(.bool, .dp)]
noncomputable def eS : List EnTryz := [Z0o.eE N, Z0c.eE N]
def an_ : Nat -> Option (List Nat)
 | 0 => some [0, 3, 5, 6]
 | 2 => some [0, 3, 5, 6, 7, 8]
 | 4 => some [0, 3, 5, 6, 7, 9]
 | 6 => some [3, 5, 10]
 | 8 => some [3, 11]
 | _ => none
noncomputable def lP (p : List Dir) (rs : List (Env -> Option (Bool))) (k : Nat) (env : Env) : Option (Bool) :=
 lpE (eS N) N an_ p Tryz.f123 (endK Tb sG Tryz.f123 [] (un1 .bool)) rs k env
noncomputable def El2 (k0_ : Nat) (k_ : Nat) (l4 : R0) (q8 : Int) (q9 : A0) (q10 : I0) (met3 : List Bool) (i3 : Int) (a3 : Int) (a4 : I0) (k2 : Int) : Option (Bool) :=
 lP N [.r, .r, .r, .l, .r, .b, .b, .r, .l, .b, .r, .r, .r, .r, .b] [lP N [.r, .r, .r, .l, .r, .b] [] k0_] k_ (.con .val [lf ty8 l4 .ro] :: (un 2 (.con (.box ⟨44, false, []⟩) [lf i64 q8 .ro, lf ty11 q9 .ro, lf ty0 q10 .ro] :: (un 1 (.con .val [lf ty13 met3 .dp] :: (.con .val [lf i64 i3 .ro] :: (.con (.box ⟨145, false, []⟩) [lf i64 a3 .ro, lf ty0 a4 .ro] :: (un 1 (.con .val [lf i64 k2 .ro] :: (un 140 []))))))))))
noncomputable def El1 (k0_ : Nat) (k_ : Nat) (l3 : R0) (q5 : Int) (q6 : A0) (q7 : I0) (met2 : List Bool) (i2 : Int) (a : Int) (a2 : I0) (k : Int) : Option (Bool) :=
 lP N [.r, .r, .r, .l, .r, .b, .b, .r, .l, .b, .r, .r, .l, .r, .b] [lP N [.r, .r, .r, .l, .r, .b] [] k0_] k_ (.con .val [lf ty8 l3 .ro] :: (un 2 (.con (.box ⟨44, false, []⟩) [lf i64 q5 .ro, lf ty11 q6 .ro, lf ty0 q7 .ro] :: (un 1 (.con .val [lf ty13 met2 .dp] :: (.con .val [lf i64 i2 .ro] :: (.con (.box ⟨145, false, []⟩) [lf i64 a .ro, lf ty0 a2 .ro] :: (.con .val [lf i64 k .ro] :: (un 141 [])))))))))
noncomputable def El4 (k_ : Nat) (q14 : Int) (q15 : A0) (q16 : I0) (i4 : Int) : Option (Bool) :=
 lP N [.r, .r, .r, .r, .r, .l, .r, .b] [] k_ (un 3 (.con (.box ⟨44, false, []⟩) [lf i64 q14 .ro, lf ty11 q15 .ro, lf ty0 q16 .ro] :: (un 7 (.con .val [lf i64 i4 .ro] :: (un 138 [])))))
noncomputable def El3 (k_ : Nat) (q11 : Int) (q12 : A0) (q13 : I0) (met4 : List Bool) (v : Int) : Option (Bool) :=
 lP N [.r, .r, .r, .r, .l, .r, .b] [] k_ (un 3 (.con (.box ⟨44, false, []⟩) [lf i64 q11 .ro, lf ty11 q12 .ro, lf ty0 q13 .ro] :: (un 1 (.con .val [lf ty13 met4 .dp] :: (un 4 (.con .val [lf i64 v .ro] :: (un 139 [])))))))
noncomputable def El0 (k_ : Nat) (l2 : R0) (q2 : Int) (q3 : A0) (q4 : I0) (met : List Bool) (i : Int) : Option (Bool) :=
 lP N [.r, .r, .r, .l, .r, .b] [] k_ (.con .val [lf ty8 l2 .ro] :: (un 2 (.con (.box ⟨44, false, []⟩) [lf i64 q2 .ro, lf ty11 q3 .ro, lf ty0 q4 .ro] :: (un 1 (.con .val [lf ty13 met .dp] :: (.con .val [lf i64 i .ro] :: (un 143 [])))))))
theorem ql2 (N : Nat) (k0_ : Nat) : ∀ k_, El2 N k0_ k_ = Z19 (El0 N k0_) N k_
 | 0 => by kernel_rfl
 | k_ + 1 => (show El2 N k0_ (k_ + 1) = Z6m N (El0 N k0_) (El2 N k0_ k_) from by kernel_rfl).trans (by simp only [ql2 N k0_ k_]; rfl)
theorem ql1 (N : Nat) (k0_ : Nat) : ∀ k_, El1 N k0_ k_ = Z1t (El0 N k0_) N k_
 | 0 => by kernel_rfl
 | k_ + 1 => (show El1 N k0_ (k_ + 1) = Z4d N (El0 N k0_) (El2 N k0_ N) (El1 N k0_ k_) from by kernel_rfl).trans (by simp only [ql2, ql1 N k0_ k_]; rfl)
theorem ql4 (N : Nat) : ∀ k_, El4 N k_ = Z1u N k_
 | 0 => by kernel_rfl
 | k_ + 1 => (show El4 N (k_ + 1) = Z4e N (El4 N k_) from by kernel_rfl).trans (by simp only [ql4 N k_]; rfl)
theorem ql3 (N : Nat) : ∀ k_, El3 N k_ = Z1v N k_
 | 0 => by kernel_rfl
 | k_ + 1 => (show El3 N (k_ + 1) = Z4f N (El4 N N) (El3 N k_) from by kernel_rfl).trans (by simp only [ql4, ql3 N k_]; rfl)
theorem ql0 (N : Nat) : ∀ k_, El0 N k_ = Z2h N k_
 | 0 => by kernel_rfl
 | k_ + 1 => (show El0 N (k_ + 1) = Z6n N (El1 N k_ N) (El3 N N) (El0 N k_) from by kernel_rfl).trans (by simp only [ql1, ql3, ql0 N k_]; rfl)
noncomputable def eE : EnTryz := ⟨123, sG, [.v ty8, .v ty12], _, Z2p N, pk1 .bool, enK Tryz.func123 (by kernel_rfl),
 fun l q => eok (eS N) (by kernel_rfl) Tryz.func123 rfl N an_ rfl (Y4 .bool) (.trans (b := Z7o N (El0 N N) l q) (by kernel_rfl) (by rw [ql0]; rfl))⟩
end Z2p
namespace Z29
def sG := sgV [.val ty10, .val ty12] [(.bool, .dp)]
noncomputable def eS : List EnTryz := [Z0.eE N, Z2p.eE N]
noncomputable def eE : EnTryz := ⟨60, sG, [.v ty10, .v ty12], _, Z29 N, pk1 .bool, enK Tryz.func60 (by kernel_rfl),
 fun d q => eok (eS N) (by kernel_rfl) Tryz.func60 rfl N an0 rfl (Y4 .bool) (by kernel_rfl)⟩
end Z29
namespace Z0l
def sG := sgV [.val ty10, .val ty0] [(.bool, .dp)]
noncomputable def eS : List EnTryz := [Z0o.eE N, Z0.eE N]
def an_ : Nat -> Option (List Nat)
 | 0 => some [1, 2, 5]
 | _ => none
noncomputable def lP (p : List Dir) (rs : List (Env -> Option (Bool))) (k : Nat) (env : Env) : Option (Bool) :=
 lpE (eS N) N an_ p Tryz.f61 (endK Tb sG Tryz.f61 [] (un1 .bool)) rs k env
noncomputable def El0 (k_ : Nat) (w2 : I0) (d2 : R0) (d3 : A0) (i : Int) : Option (Bool) :=
 lP N [.r, .l, .r, .b] [] k_ (un 1 (.con .val [lf ty0 w2 .ro] :: (.con (.box ⟨39, false, []⟩) [lf ty8 d2 .ro, lf ty9 d3 .ro] :: (un 2 (.con .val [lf i64 i .ro] :: (un 22 []))))))
theorem ql0 (N : Nat) : ∀ k_, El0 N k_ = Z1q N k_
 | 0 => by kernel_rfl
 | k_ + 1 => (show El0 N (k_ + 1) = Z3l N (El0 N k_) from by kernel_rfl).trans (by simp only [ql0 N k_]; rfl)
noncomputable def eE : EnTryz := ⟨61, sG, [.v ty10, .v ty0], _, Z0l N, pk1 .bool, enK Tryz.func61 (by kernel_rfl),
 fun d w => eok (eS N) (by kernel_rfl) Tryz.func61 rfl N an_ rfl (Y4 .bool) (.trans (b := Z6o N (El0 N N) d w) (by kernel_rfl) (by rw [ql0]; rfl))⟩
end Z0l
namespace Z4k
def sG := sgV [.val i64] [(ty0, .dp)]
noncomputable def eS (N : Nat) : List EnTryz := []
def an_ : Nat -> Option (List Nat)
 | 0 => some [0, 3]
 | _ => none
noncomputable def lP (p : List Dir) (rs : List (Env -> Option I0)) (k : Nat) (env : Env) : Option I0 :=
 lpE (eS N) N an_ p Tryz.f206 (endK Tb sG Tryz.f206 [] (un1 ty0)) rs k env
noncomputable def El0 (k_ : Nat) (n2 : Int) (l : I0) : Option I0 :=
 lP N [.r, .r, .l, .b] [] k_ (.con .val [lf i64 n2 .ro] :: (un 2 (.con .val [lf ty0 l .dp] :: (un 9 []))))
theorem ql0 (N : Nat) : ∀ k_, El0 N k_ = Z6d N k_
 | 0 => by kernel_rfl
 | k_ + 1 => (show El0 N (k_ + 1) = Z8a N (El0 N k_) from by kernel_rfl).trans (by simp only [ql0 N k_]; rfl)
noncomputable def eE : EnTryz := ⟨206, sG, [.v i64], _, Z4k N, pk1 ty0, enK Tryz.func206 (by kernel_rfl),
 fun n => eok (eS N) (by kernel_rfl) Tryz.func206 rfl N an_ rfl (Y4 ty0) (.trans (b := Z8u N (El0 N N) n) (by kernel_rfl) (by rw [ql0]; rfl))⟩
end Z4k
namespace Z5t
def sG := sgV [.val ty3, .val ty3, .val ty0] [(ty0, .dp), (.bool, .dp)]
noncomputable def eS (N : Nat) : List EnTryz := []
def an_ : Nat -> Option (List Nat)
 | 0 => some [3, 4, 8, 9]
 | _ => none
noncomputable def lP (p : List Dir) (rs : List (Env -> Option (List Int × Bool))) (k : Nat) (env : Env) : Option (List Int × Bool) :=
 lpE (eS N) N an_ p Tryz.f265 (endK Tb sG Tryz.f265 [] (un2 ty0 .bool)) rs k env
noncomputable def El0 (k_ : Nat) (a2 : Int) (a3 : I0) (f2 : Int) (f3 : I0) (x : I0) (i : Int) : Option (List Int × Bool) :=
 lP N [.r, .r, .r, .l, .r, .b] [] k_ (un 3 (.con (.box ⟨145, false, []⟩) [lf i64 a2 .ro, lf ty0 a3 .ro] :: (.con (.box ⟨143, false, []⟩) [lf i64 f2 .ro, lf ty0 f3 .ro] :: (un 3 (.con .val [lf ty0 x .dp] :: (.con .val [lf i64 i .ro] :: (un 69 [])))))))
theorem ql0 (N : Nat) : ∀ k_, El0 N k_ = Z6e N k_
 | 0 => by kernel_rfl
 | k_ + 1 => (show El0 N (k_ + 1) = Z8b N (El0 N k_) from by kernel_rfl).trans (by simp only [ql0 N k_]; rfl)
noncomputable def eE : EnTryz := ⟨265, sG, [.v ty3, .v ty3, .v ty0], _, Z5t N, pk2 ty0 .bool, enK Tryz.func265 (by kernel_rfl),
 fun a f vals => eok (eS N) (by kernel_rfl) Tryz.func265 rfl N an_ rfl (Y4d ty0 .bool) (.trans (b := Z8v N (El0 N N) a f vals) (by kernel_rfl) (by rw [ql0]; rfl))⟩
end Z5t
namespace Z73
def sG := sgV [.val ty10, .val ty12, .val i64, .val ty0, .val ty0] [(ty14, .dp)]
theorem eN : Enterable Tryz.prog 205 := Y28 Tryz.func205 (code := Tryz.f205.body.getD .skip) (by kernel_rfl) (by kernel_rfl)
noncomputable def eS (Rf : D0 -> Q0 -> Int -> I0 -> I0 -> Option (List (List Int × List Int))) (hR : OkP (Option (List (List Int × List Int))) [.v ty10, .v ty12, .v i64, .v ty0, .v ty0] Rf (fun xs_ q => ∀ x, q = some x -> FnOk Tryz.prog 205 sG xs_ (pk1 ty14 x))) : List EnTryz := [Z5t.eE N, ⟨205, sG, [.v ty10, .v ty12, .v i64, .v ty0, .v ty0], List (List Int × List Int), Rf, pk1 ty14, eN, hR⟩]
def an_ : Nat -> Option (List Nat)
 | 0 => some [2, 3, 4, 5, 6, 11, 12]
 | _ => none
noncomputable def lP (Rf : D0 -> Q0 -> Int -> I0 -> I0 -> Option (List (List Int × List Int))) (hR : OkP (Option (List (List Int × List Int))) [.v ty10, .v ty12, .v i64, .v ty0, .v ty0] Rf (fun xs_ q => ∀ x, q = some x -> FnOk Tryz.prog 205 sG xs_ (pk1 ty14 x))) (p : List Dir) (rs : List (Env -> Option (List (List Int × List Int)))) (k : Nat) (env : Env) : Option (List (List Int × List Int)) :=
 lpE (eS N Rf hR) N an_ p Tryz.f205 (endK Tb sG Tryz.f205 [] (un1 ty14)) rs k env
noncomputable def El0 (Rf : D0 -> Q0 -> Int -> I0 -> I0 -> Option (List (List Int × List Int))) (hR : OkP (Option (List (List Int × List Int))) [.v ty10, .v ty12, .v i64, .v ty0, .v ty0] Rf (fun xs_ q => ∀ x, q = some x -> FnOk Tryz.prog 205 sG xs_ (pk1 ty14 x))) (k_ : Nat) (k2 : Int) (vals2 : I0) (facts2 : I0) (d2 : R0) (d3 : A0) (q2 : Int) (q3 : A0) (q4 : I0) (out : List (List Int × List Int)) (i : Int) : Option (List (List Int × List Int)) :=
 lP N Rf hR [.r, .r, .r, .l, .r, .b] [] k_ (un 2 (.con .val [lf i64 k2 .ro] :: (.con .val [lf ty0 vals2 .ro] :: (.con .val [lf ty0 facts2 .ro] :: (.con (.box ⟨39, false, []⟩) [lf ty8 d2 .ro, lf ty9 d3 .ro] :: (.con (.box ⟨44, false, []⟩) [lf i64 q2 .ro, lf ty11 q3 .ro, lf ty0 q4 .ro] :: (un 4 (.con .val [lf ty14 out .dp] :: (.con .val [lf i64 i .ro] :: (un 54 []))))))))))
theorem ql0 (N : Nat) (Rf : D0 -> Q0 -> Int -> I0 -> I0 -> Option (List (List Int × List Int))) (hR : OkP (Option (List (List Int × List Int))) [.v ty10, .v ty12, .v i64, .v ty0, .v ty0] Rf (fun xs_ q => ∀ x, q = some x -> FnOk Tryz.prog 205 sG xs_ (pk1 ty14 x))) : ∀ k_, El0 N Rf hR k_ = Z6f N Rf k_
 | 0 => by kernel_rfl
 | k_ + 1 => (show El0 N Rf hR (k_ + 1) = Z8c N Rf (El0 N Rf hR k_) from by kernel_rfl).trans (by simp only [ql0 N Rf hR k_]; rfl)
theorem vV (Rf : D0 -> Q0 -> Int -> I0 -> I0 -> Option (List (List Int × List Int))) (hR : OkP (Option (List (List Int × List Int))) [.v ty10, .v ty12, .v i64, .v ty0, .v ty0] Rf (fun xs_ q => ∀ x, q = some x -> FnOk Tryz.prog 205 sG xs_ (pk1 ty14 x))) (d : D0) (q : Q0) (k : Int) (vals : I0) (facts : I0) :
  evE (eS N Rf hR) N an_ sG Tryz.f205 [.val ty10 d, .val ty12 q, .val i64 k, .val ty0 vals, .val ty0 facts] (un1 ty14) = Z88 N Rf (El0 N Rf hR N) d q k vals facts := by kernel_rfl
theorem oK (N : Nat) : ∀ k_, OkP (Option (List (List Int × List Int))) [.v ty10, .v ty12, .v i64, .v ty0, .v ty0] (Z2i N k_) (fun xs_ q => ∀ x, q = some x -> FnOk Tryz.prog 205 sG xs_ (pk1 ty14 x))
 | 0 => fun d q k vals facts =>  fun x h => absurd (show (none : Option (List (List Int × List Int))) = some x from h) (by simp)
 | k_ + 1 => fun d q k vals facts => Y4p tab_ok (es := eS N (Z2i N k_) (oK N k_)) (by kernel_rfl) mixed Tryz.func205 (by kernel_rfl) ⟨⟨rfl, rfl⟩, rfl, rfl⟩ (Y4 ty14) ((vV N _ _ d q k vals facts).trans (by rw [ql0]; rfl))
noncomputable def eE : EnTryz := ⟨205, sG, [.v ty10, .v ty12, .v i64, .v ty0, .v ty0], List (List Int × List Int), Z73 N, pk1 ty14, eN, oK N N⟩
end Z73
namespace Z26
def sG := sgV [.val ty10, .val ty12] [(ty14, .dp)]
noncomputable def eS : List EnTryz := [Z29.eE N, Z4k.eE N, Z73.eE N]
noncomputable def eE : EnTryz := ⟨150, sG, [.v ty10, .v ty12], _, Z26 N, pk1 ty14, enK Tryz.func150 (by kernel_rfl),
 fun d q => eok (eS N) (by kernel_rfl) Tryz.func150 rfl N an0 rfl (Y4 ty14) (by kernel_rfl)⟩
end Z26
namespace Z1i
def sG := sgV [.val ty0] [(ty0, .dp)]
noncomputable def eS (N : Nat) : List EnTryz := []
def an_ : Nat -> Option (List Nat)
 | 0 => some [0, 3, 4]
 | 2 => some [0, 3, 4, 5]
 | _ => none
noncomputable def lP (p : List Dir) (rs : List (Env -> Option I0)) (k : Nat) (env : Env) : Option I0 :=
 lpE (eS N) N an_ p Tryz.f83 (endK Tb sG Tryz.f83 [] (un1 ty0)) rs k env
noncomputable def El1 (k0_ : Nat) (k_ : Nat) (l3 : I0) (out2 : I0) (i2 : Int) (k : Int) : Option I0 :=
 lP N [.r, .r, .l, .r, .b, .b, .r, .l, .b, .r, .l, .b] [lP N [.r, .r, .l, .r, .b] [] k0_] k_ (.con .val [lf ty0 l3 .ro] :: (un 2 (.con .val [lf ty0 out2 .dp] :: (.con .val [lf i64 i2 .ro] :: (.con .val [lf i64 k .ro] :: (un 41 []))))))
noncomputable def El0 (k_ : Nat) (l2 : I0) (out : I0) (i : Int) : Option I0 :=
 lP N [.r, .r, .l, .r, .b] [] k_ (.con .val [lf ty0 l2 .ro] :: (un 2 (.con .val [lf ty0 out .dp] :: (.con .val [lf i64 i .ro] :: (un 42 [])))))
theorem ql1 (N : Nat) (k0_ : Nat) : ∀ k_, El1 N k0_ k_ = Z1w (El0 N k0_) N k_
 | 0 => by kernel_rfl
 | k_ + 1 => (show El1 N k0_ (k_ + 1) = Z3b N (El0 N k0_) (El1 N k0_ k_) from by kernel_rfl).trans (by simp only [ql1 N k0_ k_]; rfl)
theorem ql0 (N : Nat) : ∀ k_, El0 N k_ = Z0r N k_
 | 0 => by kernel_rfl
 | k_ + 1 => (show El0 N (k_ + 1) = Z4l N (El1 N k_ N) (El0 N k_) from by kernel_rfl).trans (by simp only [ql1, ql0 N k_]; rfl)
noncomputable def eE : EnTryz := ⟨83, sG, [.v ty0], _, Z1i N, pk1 ty0, enK Tryz.func83 (by kernel_rfl),
 fun l => eok (eS N) (by kernel_rfl) Tryz.func83 rfl N an_ rfl (Y4 ty0) (.trans (b := Z7w N (El0 N N) l) (by kernel_rfl) (by rw [ql0]; rfl))⟩
end Z1i
namespace Z5c
def sG := sgV [.val ty10, .val ty0] [(.bool, .dp)]
noncomputable def eS : List EnTryz := [Z0o.eE N]
def an_ : Nat -> Option (List Nat)
 | 0 => some [1, 2, 5]
 | _ => none
noncomputable def lP (p : List Dir) (rs : List (Env -> Option (Bool))) (k : Nat) (env : Env) : Option (Bool) :=
 lpE (eS N) N an_ p Tryz.f148 (endK Tb sG Tryz.f148 [] (un1 .bool)) rs k env
noncomputable def El0 (k_ : Nat) (l2 : I0) (d2 : R0) (d3 : A0) (i : Int) : Option (Bool) :=
 lP N [.r, .l, .r, .b] [] k_ (un 1 (.con .val [lf ty0 l2 .ro] :: (.con (.box ⟨39, false, []⟩) [lf ty8 d2 .ro, lf ty9 d3 .ro] :: (un 2 (.con .val [lf i64 i .ro] :: (un 32 []))))))
theorem ql0 (N : Nat) : ∀ k_, El0 N k_ = Z6b N k_
 | 0 => by kernel_rfl
 | k_ + 1 => (show El0 N (k_ + 1) = Z7x N (El0 N k_) from by kernel_rfl).trans (by simp only [ql0 N k_]; rfl)
noncomputable def eE : EnTryz := ⟨148, sG, [.v ty10, .v ty0], _, Z5c N, pk1 .bool, enK Tryz.func148 (by kernel_rfl),
 fun d l => eok (eS N) (by kernel_rfl) Tryz.func148 rfl N an_ rfl (Y4 .bool) (.trans (b := Z9j N (El0 N N) d l) (by kernel_rfl) (by rw [ql0]; rfl))⟩
end Z5c
namespace Z36
def sG := sgV [.val ty10, .val ty0] [(ty10, .dp), (.bool, .dp)]
noncomputable def eS : List EnTryz := [Z0.eE N, Z5c.eE N]
def an_ : Nat -> Option (List Nat)
 | 0 => some [1, 2, 4, 6, 7]
 | _ => none
noncomputable def lP (p : List Dir) (rs : List (Env -> Option (D0 × Bool))) (k : Nat) (env : Env) : Option (D0 × Bool) :=
 lpE (eS N) N an_ p Tryz.f84 (endK Tb sG Tryz.f84 [] (un2 ty10 .bool)) rs k env
noncomputable def El0 (k_ : Nat) (l2 : I0) (d2 : R0) (d3 : A0) (t4 : R0) (t42 : A0) (x : R0) (x2 : A0) (i : Int) : Option (D0 × Bool) :=
 lP N [.r, .r, .r, .l, .r, .b] [] k_ (un 1 (.con .val [lf ty0 l2 .ro] :: (.con (.box ⟨39, false, []⟩) [lf ty8 d2 .ro, lf ty9 d3 .ro] :: (un 1 (.con (.box ⟨39, false, []⟩) [lf ty8 t4 .dp, lf ty9 t42 .dp] :: (un 1 (.con (.box ⟨39, false, []⟩) [lf ty8 x .dp, lf ty9 x2 .dp] :: (.con .val [lf i64 i .ro] :: (un 43 [])))))))))
theorem ql0 (N : Nat) : ∀ k_, El0 N k_ = Z43 N k_
 | 0 => by kernel_rfl
 | k_ + 1 => (show El0 N (k_ + 1) = Z74 N (El0 N k_) from by kernel_rfl).trans (by simp only [ql0 N k_]; rfl)
noncomputable def eE : EnTryz := ⟨84, sG, [.v ty10, .v ty0], _, Z36 N, pk2 ty10 .bool, enK Tryz.func84 (by kernel_rfl),
 fun d l => eok (eS N) (by kernel_rfl) Tryz.func84 rfl N an_ rfl (Y4d ty10 .bool) (.trans (b := Z83 N (El0 N N) d l) (by kernel_rfl) (by rw [ql0]; rfl))⟩
end Z36
namespace Z6g
def sG := sgV [.val ty8, .val ty3] [(ty0, .dp)]
noncomputable def eS : List EnTryz := [Z0y.eE N]
noncomputable def eE : EnTryz := ⟨231, sG, [.v ty8, .v ty3], _, Z6g N, pk1 ty0, enK Tryz.func231 (by kernel_rfl),
 fun l f => eok (eS N) (by kernel_rfl) Tryz.func231 rfl N an0 rfl (Y4 ty0) (by kernel_rfl)⟩
end Z6g
namespace Z37
def sG := sgV [.val ty8, .val ty3, .val ty3] [(.bool, .dp)]
noncomputable def eS : List EnTryz := [Z0y.eE N, Z6g.eE N, Z4c.eE N]
noncomputable def eE : EnTryz := ⟨175, sG, [.v ty8, .v ty3, .v ty3], _, Z37 N, pk1 .bool, enK Tryz.func175 (by kernel_rfl),
 fun l a b => eok (eS N) (by kernel_rfl) Tryz.func175 rfl N an0 rfl (Y4 .bool) (by kernel_rfl)⟩
end Z37
namespace Z5u
def sG := sgV [.val ty10, .val i64] [(ty0, .dp)]
noncomputable def eS : List EnTryz := [Z0.eE N, Z0o.eE N, Z37.eE N]
def an_ : Nat -> Option (List Nat)
 | 0 => some [1, 2, 5, 6]
 | _ => none
noncomputable def lP (p : List Dir) (rs : List (Env -> Option I0)) (k : Nat) (env : Env) : Option I0 :=
 lpE (eS N) N an_ p Tryz.f146 (endK Tb sG Tryz.f146 [] (un1 ty0)) rs k env
noncomputable def El0 (k_ : Nat) (i2 : Int) (d2 : R0) (d3 : A0) (out : I0) (k : Int) : Option I0 :=
 lP N [.r, .r, .l, .r, .b] [] k_ (un 1 (.con .val [lf i64 i2 .ro] :: (.con (.box ⟨39, false, []⟩) [lf ty8 d2 .ro, lf ty9 d3 .ro] :: (un 2 (.con .val [lf ty0 out .dp] :: (.con .val [lf i64 k .ro] :: (un 38 [])))))))
theorem ql0 (N : Nat) : ∀ k_, El0 N k_ = Z4y N k_
 | 0 => by kernel_rfl
 | k_ + 1 => (show El0 N (k_ + 1) = Z6z N (El0 N k_) from by kernel_rfl).trans (by simp only [ql0 N k_]; rfl)
noncomputable def eE : EnTryz := ⟨146, sG, [.v ty10, .v i64], _, Z5u N, pk1 ty0, enK Tryz.func146 (by kernel_rfl),
 fun d i => eok (eS N) (by kernel_rfl) Tryz.func146 rfl N an_ rfl (Y4 ty0) (.trans (b := Z8w N (El0 N N) d i) (by kernel_rfl) (by rw [ql0]; rfl))⟩
end Z5u
namespace Z22
def sG := sgV [.val ty10] [(ty15, .dp)]
noncomputable def eS : List EnTryz := [Z0.eE N, Z5u.eE N]
def an_ : Nat -> Option (List Nat)
 | 0 => some [1, 3, 4]
 | _ => none
noncomputable def lP (p : List Dir) (rs : List (Env -> Option L0)) (k : Nat) (env : Env) : Option L0 :=
 lpE (eS N) N an_ p Tryz.f81 (endK Tb sG Tryz.f81 [] (un1 ty15)) rs k env
noncomputable def El0 (k_ : Nat) (d2 : R0) (d3 : A0) (out : L0) (i : Int) : Option L0 :=
 lP N [.r, .r, .l, .r, .b] [] k_ (un 1 (.con (.box ⟨39, false, []⟩) [lf ty8 d2 .ro, lf ty9 d3 .ro] :: (un 1 (.con .val [lf ty15 out .dp] :: (.con .val [lf i64 i .ro] :: (un 26 []))))))
theorem ql0 (N : Nat) : ∀ k_, El0 N k_ = Z45 N k_
 | 0 => by kernel_rfl
 | k_ + 1 => (show El0 N (k_ + 1) = Z5v N (El0 N k_) from by kernel_rfl).trans (by simp only [ql0 N k_]; rfl)
noncomputable def eE : EnTryz := ⟨81, sG, [.v ty10], _, Z22 N, pk1 ty15, enK Tryz.func81 (by kernel_rfl),
 fun d => eok (eS N) (by kernel_rfl) Tryz.func81 rfl N an_ rfl (Y4 ty15) (.trans (b := Z94 N (El0 N N) d) (by kernel_rfl) (by rw [ql0]; rfl))⟩
end Z22
namespace Z3x
def sG := sgV [.val ty10] [(.bool, .dp)]
noncomputable def eS : List EnTryz := [Z0.eE N, Z22.eE N]
noncomputable def eE : EnTryz := ⟨207, sG, [.v ty10], _, Z3x N, pk1 .bool, enK Tryz.func207 (by kernel_rfl),
 fun d => eok (eS N) (by kernel_rfl) Tryz.func207 rfl N an0 rfl (Y4 .bool) (by kernel_rfl)⟩
end Z3x
namespace Z1a
def sG := sgV [.val ty10, .val ty0] [(.bool, .dp)]
noncomputable def eS : List EnTryz := [Z36.eE N, Z3x.eE N]
noncomputable def eE : EnTryz := ⟨151, sG, [.v ty10, .v ty0], _, Z1a N, pk1 .bool, enK Tryz.func151 (by kernel_rfl),
 fun d l => eok (eS N) (by kernel_rfl) Tryz.func151 rfl N an0 rfl (Y4 .bool) (by kernel_rfl)⟩
end Z1a
namespace Z46
def sG := sgV [.val ty10, .val ty12] [(ty15, .dp)]
noncomputable def eS : List EnTryz := [Z1i.eE N, Z1a.eE N, Z26.eE N]
def an_ : Nat -> Option (List Nat)
 | 0 => some [2, 5, 6, 7]
 | _ => none
noncomputable def lP (p : List Dir) (rs : List (Env -> Option L0)) (k : Nat) (env : Env) : Option L0 :=
 lpE (eS N) N an_ p Tryz.f86 (endK Tb sG Tryz.f86 [] (un1 ty15)) rs k env
noncomputable def El0 (k_ : Nat) (d2 : R0) (d3 : A0) (out : L0) (l : List (List Int × List Int)) (i : Int) : Option L0 :=
 lP N [.r, .r, .r, .l, .r, .b] [] k_ (un 2 (.con (.box ⟨39, false, []⟩) [lf ty8 d2 .ro, lf ty9 d3 .ro] :: (un 2 (.con .val [lf ty15 out .dp] :: (.con .val [lf ty14 l .dp] :: (.con .val [lf i64 i .ro] :: (un 25 [])))))))
theorem ql0 (N : Nat) : ∀ k_, El0 N k_ = Z5a N k_
 | 0 => by kernel_rfl
 | k_ + 1 => (show El0 N (k_ + 1) = Z7p N (El0 N k_) from by kernel_rfl).trans (by simp only [ql0 N k_]; rfl)
noncomputable def eE : EnTryz := ⟨86, sG, [.v ty10, .v ty12], _, Z46 N, pk1 ty15, enK Tryz.func86 (by kernel_rfl),
 fun d q => eok (eS N) (by kernel_rfl) Tryz.func86 rfl N an_ rfl (Y4 ty15) (.trans (b := Z8h N (El0 N N) d q) (by kernel_rfl) (by rw [ql0]; rfl))⟩
end Z46
namespace Z3r
def sG := sgV [.val ty10] [(ty0, .dp)]
noncomputable def eS : List EnTryz := [Z22.eE N]
def an_ : Nat -> Option (List Nat)
 | 0 => some [3, 4, 5]
 | _ => none
noncomputable def lP (p : List Dir) (rs : List (Env -> Option I0)) (k : Nat) (env : Env) : Option I0 :=
 lpE (eS N) N an_ p Tryz.f188 (endK Tb sG Tryz.f188 [] (un1 ty0)) rs k env
noncomputable def El0 (k_ : Nat) (out : I0) (l : L0) (i : Int) : Option I0 :=
 lP N [.r, .r, .r, .l, .r, .b] [] k_ (un 3 (.con .val [lf ty0 out .dp] :: (.con .val [lf ty15 l .dp] :: (.con .val [lf i64 i .ro] :: (un 18 [])))))
theorem ql0 (N : Nat) : ∀ k_, El0 N k_ = Z3c N k_
 | 0 => by kernel_rfl
 | k_ + 1 => (show El0 N (k_ + 1) = Z5d N (El0 N k_) from by kernel_rfl).trans (by simp only [ql0 N k_]; rfl)
noncomputable def eE : EnTryz := ⟨188, sG, [.v ty10], _, Z3r N, pk1 ty0, enK Tryz.func188 (by kernel_rfl),
 fun d => eok (eS N) (by kernel_rfl) Tryz.func188 rfl N an_ rfl (Y4 ty0) (.trans (b := Z8d N (El0 N N) d) (by kernel_rfl) (by rw [ql0]; rfl))⟩
end Z3r
namespace Z1h
def sG := sgV [.val ty10] [(i64, .dp)]
noncomputable def eS : List EnTryz := [Z0.eE N, Z3r.eE N]
def an_ : Nat -> Option (List Nat)
 | 0 => some [3, 4, 5]
 | _ => none
noncomputable def lP (p : List Dir) (rs : List (Env -> Option (Int))) (k : Nat) (env : Env) : Option (Int) :=
 lpE (eS N) N an_ p Tryz.f126 (endK Tb sG Tryz.f126 [] (un1 i64)) rs k env
noncomputable def El0 (k_ : Nat) (n : Int) (l : I0) (i : Int) : Option (Int) :=
 lP N [.r, .r, .r, .r, .l, .r, .b] [] k_ (un 3 (.con .val [lf i64 n .ro] :: (.con .val [lf ty0 l .dp] :: (.con .val [lf i64 i .ro] :: (un 18 [])))))
theorem ql0 (N : Nat) : ∀ k_, El0 N k_ = Z1x N k_
 | 0 => by kernel_rfl
 | k_ + 1 => (show El0 N (k_ + 1) = Z4g N (El0 N k_) from by kernel_rfl).trans (by simp only [ql0 N k_]; rfl)
noncomputable def eE : EnTryz := ⟨126, sG, [.v ty10], _, Z1h N, pk1 i64, enK Tryz.func126 (by kernel_rfl),
 fun d => eok (eS N) (by kernel_rfl) Tryz.func126 rfl N an_ rfl (Y4 i64) (.trans (b := Z7q N (El0 N N) d) (by kernel_rfl) (by rw [ql0]; rfl))⟩
end Z1h
namespace Z47
def sG := sgV [.val ty10, .val i64] [(ty0, .dp), (.bool, .dp)]
noncomputable def eS : List EnTryz := [Z1i.eE N, Z1h.eE N, Z0o.eE N, Z22.eE N]
def an_ : Nat -> Option (List Nat)
 | 0 => some [1, 6, 7, 8]
 | _ => none
noncomputable def lP (p : List Dir) (rs : List (Env -> Option (List Int × Bool))) (k : Nat) (env : Env) : Option (List Int × Bool) :=
 lpE (eS N) N an_ p Tryz.f127 (endK Tb sG Tryz.f127 [] (un2 ty0 .bool)) rs k env
noncomputable def El0 (k_ : Nat) (k2 : Int) (b : L0) (out : I0) (i : Int) : Option (List Int × Bool) :=
 lP N [.r, .r, .r, .r, .l, .r, .b] [] k_ (un 1 (.con .val [lf i64 k2 .ro] :: (un 4 (.con .val [lf ty15 b .dp] :: (.con .val [lf ty0 out .dp] :: (.con .val [lf i64 i .ro] :: (un 42 [])))))))
theorem ql0 (N : Nat) : ∀ k_, El0 N k_ = Z3y N k_
 | 0 => by kernel_rfl
 | k_ + 1 => (show El0 N (k_ + 1) = Z64 N (El0 N k_) from by kernel_rfl).trans (by simp only [ql0 N k_]; rfl)
noncomputable def eE : EnTryz := ⟨127, sG, [.v ty10, .v i64], _, Z47 N, pk2 ty0 .bool, enK Tryz.func127 (by kernel_rfl),
 fun d k => eok (eS N) (by kernel_rfl) Tryz.func127 rfl N an_ rfl (Y4d ty0 .bool) (.trans (b := Z8i N (El0 N N) d k) (by kernel_rfl) (by rw [ql0]; rfl))⟩
end Z47
namespace Z7d
def sG := sgV [.val ty0, .val i64] [(.bool, .dp)]
noncomputable def eS (N : Nat) : List EnTryz := []
def an_ : Nat -> Option (List Nat)
 | 0 => some [0, 1, 5]
 | _ => none
noncomputable def lP (p : List Dir) (rs : List (Env -> Option (Bool))) (k : Nat) (env : Env) : Option (Bool) :=
 lpE (eS N) N an_ p Tryz.f108 (endK Tb sG Tryz.f108 [] (un1 .bool)) rs k env
noncomputable def El0 (k_ : Nat) (l2 : I0) (x2 : Int) (i : Int) : Option (Bool) :=
 lP N [.r, .l, .r, .b] [] k_ (.con .val [lf ty0 l2 .ro] :: (.con .val [lf i64 x2 .ro] :: (un 3 (.con .val [lf i64 i .ro] :: (un 12 [])))))
theorem ql0 (N : Nat) : ∀ k_, El0 N k_ = Z6c N k_
 | 0 => by kernel_rfl
 | k_ + 1 => (show El0 N (k_ + 1) = Z7y N (El0 N k_) from by kernel_rfl).trans (by simp only [ql0 N k_]; rfl)
noncomputable def eE : EnTryz := ⟨108, sG, [.v ty0, .v i64], _, Z7d N, pk1 .bool, enK Tryz.func108 (by kernel_rfl),
 fun l x => eok (eS N) (by kernel_rfl) Tryz.func108 rfl N an_ rfl (Y4 .bool) (.trans (b := Z9k N (El0 N N) l x) (by kernel_rfl) (by rw [ql0]; rfl))⟩
end Z7d
namespace Z7m
def sG := sgV [.val ty15, .val ty0] [(.bool, .dp)]
noncomputable def eS : List EnTryz := [Z7d.eE N]
def an_ : Nat -> Option (List Nat)
 | 0 => some [0, 1, 5]
 | 2 => some [0, 1, 5, 6, 7]
 | _ => none
noncomputable def lP (p : List Dir) (rs : List (Env -> Option (Bool))) (k : Nat) (env : Env) : Option (Bool) :=
 lpE (eS N) N an_ p Tryz.f152 (endK Tb sG Tryz.f152 [] (un1 .bool)) rs k env
noncomputable def El1 (k0_ : Nat) (k_ : Nat) (l3 : L0) (s3 : I0) (i2 : Int) (all : Bool) (k : Int) : Option (Bool) :=
 lP N [.r, .l, .r, .b, .b, .r, .l, .b, .r, .l, .r, .b] [lP N [.r, .l, .r, .b] [] k0_] k_ (.con .val [lf ty15 l3 .ro] :: (.con .val [lf ty0 s3 .ro] :: (un 3 (.con .val [lf i64 i2 .ro] :: (.con .val [lf .bool all .ro] :: (.con .val [lf i64 k .ro] :: (un 28 [])))))))
noncomputable def El0 (k_ : Nat) (l2 : L0) (s2 : I0) (i : Int) : Option (Bool) :=
 lP N [.r, .l, .r, .b] [] k_ (.con .val [lf ty15 l2 .ro] :: (.con .val [lf ty0 s2 .ro] :: (un 3 (.con .val [lf i64 i .ro] :: (un 30 [])))))
theorem ql1 (N : Nat) (k0_ : Nat) : ∀ k_, El1 N k0_ k_ = Z75 (El0 N k0_) N k_
 | 0 => by kernel_rfl
 | k_ + 1 => (show El1 N k0_ (k_ + 1) = Z8j N (El0 N k0_) (El1 N k0_ k_) from by kernel_rfl).trans (by simp only [ql1 N k0_ k_]; rfl)
theorem ql0 (N : Nat) : ∀ k_, El0 N k_ = Z2j N k_
 | 0 => by kernel_rfl
 | k_ + 1 => (show El0 N (k_ + 1) = Z7e N (El1 N k_ N) (El0 N k_) from by kernel_rfl).trans (by simp only [ql1, ql0 N k_]; rfl)
noncomputable def eE : EnTryz := ⟨152, sG, [.v ty15, .v ty0], _, Z7m N, pk1 .bool, enK Tryz.func152 (by kernel_rfl),
 fun l s => eok (eS N) (by kernel_rfl) Tryz.func152 rfl N an_ rfl (Y4 .bool) (.trans (b := Z95 N (El0 N N) l s) (by kernel_rfl) (by rw [ql0]; rfl))⟩
end Z7m
namespace Z3d
def sG := sgV [.val ty15, .val ty0] [(.bool, .dp)]
noncomputable def eS : List EnTryz := [Z7m.eE N]
noncomputable def eE : EnTryz := ⟨87, sG, [.v ty15, .v ty0], _, Z3d N, pk1 .bool, enK Tryz.func87 (by kernel_rfl),
 fun l s => eok (eS N) (by kernel_rfl) Tryz.func87 rfl N an0 rfl (Y4 .bool) (by kernel_rfl)⟩
end Z3d
namespace Z25
def sG := sgV [.val ty10, .val ty0, .val ty0] [(i64, .dp)]
noncomputable def eS : List EnTryz := [Z0l.eE N, Z5c.eE N]
def an_ : Nat -> Option (List Nat)
 | 0 => some [1, 2, 7, 8]
 | _ => none
noncomputable def lP (p : List Dir) (rs : List (Env -> Option (Int))) (k : Nat) (env : Env) : Option (Int) :=
 lpE (eS N) N an_ p Tryz.f128 (endK Tb sG Tryz.f128 [] (un1 i64)) rs k env
noncomputable def El0 (k_ : Nat) (w2 : I0) (l2 : I0) (n : Int) (i : Int) : Option (Int) :=
 lP N [.r, .r, .r, .l, .r, .b] [] k_ (un 1 (.con .val [lf ty0 w2 .ro] :: (.con .val [lf ty0 l2 .ro] :: (un 4 (.con .val [lf i64 n .ro] :: (.con .val [lf i64 i .ro] :: (un 26 [])))))))
theorem ql0 (N : Nat) : ∀ k_, El0 N k_ = Z11 N k_
 | 0 => by kernel_rfl
 | k_ + 1 => (show El0 N (k_ + 1) = Z31 N (El0 N k_) from by kernel_rfl).trans (by simp only [ql0 N k_]; rfl)
noncomputable def eE : EnTryz := ⟨128, sG, [.v ty10, .v ty0, .v ty0], _, Z25 N, pk1 i64, enK Tryz.func128 (by kernel_rfl),
 fun d w l => eok (eS N) (by kernel_rfl) Tryz.func128 rfl N an_ rfl (Y4 i64) (.trans (b := Z7r N (El0 N N) d w l) (by kernel_rfl) (by rw [ql0]; rfl))⟩
end Z25
namespace Z7f
def sG := sgV [.val ty10, .val ty0, .val ty12] [(i64, .dp)]
noncomputable def eS : List EnTryz := [Z1h.eE N, Z47.eE N, Z3d.eE N, Z25.eE N, Z46.eE N]
def an_ : Nat -> Option (List Nat)
 | 0 => some [1, 3, 7, 8, 9]
 | _ => none
noncomputable def lP (p : List Dir) (rs : List (Env -> Option (Int))) (k : Nat) (env : Env) : Option (Int) :=
 lpE (eS N) N an_ p Tryz.f63 (endK Tb sG Tryz.f63 [] (un1 i64)) rs k env
noncomputable def El0 (k_ : Nat) (w2 : I0) (d2 : R0) (d3 : A0) (n : Int) (need : L0) (k : Int) : Option (Int) :=
 lP N [.r, .r, .r, .l, .r, .b] [] k_ (un 1 (.con .val [lf ty0 w2 .ro] :: (un 1 (.con (.box ⟨39, false, []⟩) [lf ty8 d2 .ro, lf ty9 d3 .ro] :: (un 3 (.con .val [lf i64 n .ro] :: (.con .val [lf ty15 need .dp] :: (.con .val [lf i64 k .ro] :: (un 27 [])))))))))
theorem ql0 (N : Nat) : ∀ k_, El0 N k_ = Z7k N k_
 | 0 => by kernel_rfl
 | k_ + 1 => (show El0 N (k_ + 1) = Z8n N (El0 N k_) from by kernel_rfl).trans (by simp only [ql0 N k_]; rfl)
noncomputable def eE : EnTryz := ⟨63, sG, [.v ty10, .v ty0, .v ty12], _, Z7f N, pk1 i64, enK Tryz.func63 (by kernel_rfl),
 fun d w q => eok (eS N) (by kernel_rfl) Tryz.func63 rfl N an_ rfl (Y4 i64) (.trans (b := Z9l N (El0 N N) d w q) (by kernel_rfl) (by rw [ql0]; rfl))⟩
end Z7f
namespace Z2f
def sG := sgV [.val ty10, .val ty0] [(i64, .dp)]
noncomputable def eS : List EnTryz := [Z0l.eE N, Z22.eE N]
def an_ : Nat -> Option (List Nat)
 | 0 => some [1, 5, 6, 7]
 | 2 => some [1, 5, 6, 7, 8, 9]
 | _ => none
noncomputable def lP (p : List Dir) (rs : List (Env -> Option (Int))) (k : Nat) (env : Env) : Option (Int) :=
 lpE (eS N) N an_ p Tryz.f64 (endK Tb sG Tryz.f64 [] (un1 i64)) rs k env
noncomputable def El1 (k0_ : Nat) (k_ : Nat) (w3 : I0) (n2 : Int) (b2 : L0) (i2 : Int) (s : Int) (k : Int) : Option (Int) :=
 lP N [.r, .r, .r, .r, .l, .r, .b, .b, .r, .l, .b, .r, .l, .r, .b] [lP N [.r, .r, .r, .r, .l, .r, .b] [] k0_] k_ (un 1 (.con .val [lf ty0 w3 .ro] :: (un 3 (.con .val [lf i64 n2 .ro] :: (.con .val [lf ty15 b2 .dp] :: (.con .val [lf i64 i2 .ro] :: (.con .val [lf i64 s .ro] :: (.con .val [lf i64 k .ro] :: (un 37 [])))))))))
noncomputable def El0 (k_ : Nat) (w2 : I0) (n : Int) (b : L0) (i : Int) : Option (Int) :=
 lP N [.r, .r, .r, .r, .l, .r, .b] [] k_ (un 1 (.con .val [lf ty0 w2 .ro] :: (un 3 (.con .val [lf i64 n .ro] :: (.con .val [lf ty15 b .dp] :: (.con .val [lf i64 i .ro] :: (un 39 [])))))))
theorem ql1 (N : Nat) (k0_ : Nat) : ∀ k_, El1 N k0_ k_ = Z0w (El0 N k0_) N k_
 | 0 => by kernel_rfl
 | k_ + 1 => (show El1 N k0_ (k_ + 1) = Z2d N (El0 N k0_) (El1 N k0_ k_) from by kernel_rfl).trans (by simp only [ql1 N k0_ k_]; rfl)
theorem ql0 (N : Nat) : ∀ k_, El0 N k_ = Z0p N k_
 | 0 => by kernel_rfl
 | k_ + 1 => (show El0 N (k_ + 1) = Z3e N (El1 N k_ N) (El0 N k_) from by kernel_rfl).trans (by simp only [ql1, ql0 N k_]; rfl)
noncomputable def eE : EnTryz := ⟨64, sG, [.v ty10, .v ty0], _, Z2f N, pk1 i64, enK Tryz.func64 (by kernel_rfl),
 fun d w => eok (eS N) (by kernel_rfl) Tryz.func64 rfl N an_ rfl (Y4 i64) (.trans (b := Z84 N (El0 N N) d w) (by kernel_rfl) (by rw [ql0]; rfl))⟩
end Z2f
namespace Z7n
def sG := sgV [.val i64, .val i64] [(i64, .dp)]
noncomputable def eS (N : Nat) : List EnTryz := []
def an_ : Nat -> Option (List Nat)
 | 0 => some [0, 1]
 | _ => none
noncomputable def lP (p : List Dir) (rs : List (Env -> Option (Int))) (k : Nat) (env : Env) : Option (Int) :=
 lpE (eS N) N an_ p Tryz.f125 (endK Tb sG Tryz.f125 [] (un1 i64)) rs k env
noncomputable def El0 (k_ : Nat) (a2 : Int) (b2 : Int) : Option (Int) :=
 lP N [.r, .l, .b] [] k_ (.con .val [lf i64 a2 .ro] :: (.con .val [lf i64 b2 .ro] :: (un 12 [])))
theorem ql0 (N : Nat) : ∀ k_, El0 N k_ = Z76 N k_
 | 0 => by kernel_rfl
 | k_ + 1 => (show El0 N (k_ + 1) = Z8k N (El0 N k_) from by kernel_rfl).trans (by simp only [ql0 N k_]; rfl)
noncomputable def eE : EnTryz := ⟨125, sG, [.v i64, .v i64], _, Z7n N, pk1 i64, enK Tryz.func125 (by kernel_rfl),
 fun a b => eok (eS N) (by kernel_rfl) Tryz.func125 rfl N an_ rfl (Y4 i64) (.trans (b := Z96 N (El0 N N) a b) (by kernel_rfl) (by rw [ql0]; rfl))⟩
end Z7n
namespace Z55
def sG := sgV [.val i64, .val i64] [(ty16, .dp)]
noncomputable def eS : List EnTryz := [Z7n.eE N]
noncomputable def eE : EnTryz := ⟨62, sG, [.v i64, .v i64], _, Z55 N, pk1 ty16, enK Tryz.func62 (by kernel_rfl),
 fun n m => eok (eS N) (by kernel_rfl) Tryz.func62 rfl N an0 rfl (Y4 ty16) (by kernel_rfl)⟩
end Z55
namespace Z38
def sG := sgV [.val ty10, .val ty0, .val ty12] [(ty16, .dp), (.bool, .dp)]
noncomputable def eS : List EnTryz := [Z29.eE N, Z0l.eE N, Z7f.eE N, Z2f.eE N, Z55.eE N]
noncomputable def eE : EnTryz := ⟨16, sG, [.v ty10, .v ty0, .v ty12], _, Z38 N, pk2 ty16 .bool, enK Tryz.func16 (by kernel_rfl),
 fun d w q => eok (eS N) (by kernel_rfl) Tryz.func16 rfl N an0 rfl (Y4d ty16 .bool) (by kernel_rfl)⟩
end Z38
namespace Z0h
def sG := sgV [.val i64, .val i64, .val i64] [(.bool, .dp)]
noncomputable def eS (N : Nat) : List EnTryz := []
noncomputable def eE : EnTryz := ⟨135, sG, [.v i64, .v i64, .v i64], _, Z0h N, pk1 .bool, enK Tryz.func135 (by kernel_rfl),
 fun n low high => eok (eS N) (by kernel_rfl) Tryz.func135 rfl N an0 rfl (Y4 .bool) (by kernel_rfl)⟩
end Z0h
namespace Z1y
def sG := sgV [.val ty1] [(.bool, .dp)]
noncomputable def eS : List EnTryz := [Z0h.eE N]
noncomputable def eE : EnTryz := ⟨233, sG, [.v ty1], _, Z1y N, pk1 .bool, enK Tryz.func233 (by kernel_rfl),
 fun relation => eok (eS N) (by kernel_rfl) Tryz.func233 rfl N an0 rfl (Y4 .bool) (by kernel_rfl)⟩
end Z1y
namespace Z0s
def sG := sgV [.val ty8] [(.bool, .dp)]
noncomputable def eS : List EnTryz := [Z1y.eE N]
def an_ : Nat -> Option (List Nat)
 | 0 => some [0, 5, 6, 7]
 | _ => none
noncomputable def lP (p : List Dir) (rs : List (Env -> Option (Bool))) (k : Nat) (env : Env) : Option (Bool) :=
 lpE (eS N) N an_ p Tryz.f177 (endK Tb sG Tryz.f177 [] (un1 .bool)) rs k env
noncomputable def El0 (k_ : Nat) (relations2 : R0) (t5 : R0) (t6 : Int) (t7 : Int) : Option (Bool) :=
 lP N [.r, .l, .r, .b] [] k_ (.con .val [lf ty8 relations2 .ro] :: (un 4 (.con .val [lf ty8 t5 .ro] :: (.con .val [lf i64 t6 .ro] :: (.con .val [lf i64 t7 .ro] :: (un 26 []))))))
theorem ql0 (N : Nat) : ∀ k_, El0 N k_ = Z1f N k_
 | 0 => by kernel_rfl
 | k_ + 1 => (show El0 N (k_ + 1) = Z2u N (El0 N k_) from by kernel_rfl).trans (by simp only [ql0 N k_]; rfl)
noncomputable def eE : EnTryz := ⟨177, sG, [.v ty8], _, Z0s N, pk1 .bool, enK Tryz.func177 (by kernel_rfl),
 fun relations => eok (eS N) (by kernel_rfl) Tryz.func177 rfl N an_ rfl (Y4 .bool) (.trans (b := Z5w N (El0 N N) relations) (by kernel_rfl) (by rw [ql0]; rfl))⟩
end Z0s
namespace Z3z
def sG := sgV [.val i64] [(.bool, .dp)]
noncomputable def eS : List EnTryz := [Z0h.eE N]
noncomputable def eE : EnTryz := ⟨282, sG, [.v i64], _, Z3z N, pk1 .bool, enK Tryz.func282 (by kernel_rfl),
 fun v => eok (eS N) (by kernel_rfl) Tryz.func282 rfl N an0 rfl (Y4 .bool) (by kernel_rfl)⟩
end Z3z
namespace Z0g
def sG := sgV [.val ty0, .clo] [(i64, .dp)]
noncomputable def eS : List EnTryz := [Z3z.eE N]
def an_ : Nat -> Option (List Nat)
 | 0 => some [0, 1, 7, 8]
 | _ => none
noncomputable def lP (p : List Dir) (rs : List (Env -> Option (Int))) (k : Nat) (env : Env) : Option (Int) :=
 lpE (eS N) N an_ p Tryz.f193 (endK Tb sG Tryz.f193 [] (un1 i64)) rs k env
noncomputable def El0 (k_ : Nat) (s2 : I0) (t7 : Int) (t8 : Int) : Option (Int) :=
 lP N [.r, .l, .r, .b] [] k_ (.con .val [lf ty0 s2 .ro] :: (.cloR 282 [] :: (un 5 (.con .val [lf i64 t7 .ro] :: (.con .val [lf i64 t8 .ro] :: (un 10 []))))))
theorem ql0 (N : Nat) : ∀ k_, El0 N k_ = Z0a N k_
 | 0 => by kernel_rfl
 | k_ + 1 => (show El0 N (k_ + 1) = Z0t N (El0 N k_) from by kernel_rfl).trans (by simp only [ql0 N k_]; rfl)
noncomputable def eE : EnTryz := ⟨193, sG, [.v ty0, .c 282 []], _, Z0g N, pk1 i64, enK Tryz.func193 (by kernel_rfl),
 fun s => eok (eS N) (by kernel_rfl) Tryz.func193 rfl N an_ rfl (Y4 i64) (.trans (b := Z1z N (El0 N N) s) (by kernel_rfl) (by rw [ql0]; rfl))⟩
end Z0g
namespace Z0b
def sG := sgV [.val ty0, .clo] [(.bool, .dp)]
noncomputable def eS : List EnTryz := [Z0g.eE N]
noncomputable def eE : EnTryz := ⟨133, sG, [.v ty0, .c 282 []], _, Z0b N, pk1 .bool, enK Tryz.func133 (by kernel_rfl),
 fun s => eok (eS N) (by kernel_rfl) Tryz.func133 rfl N an0 rfl (Y4 .bool) (by kernel_rfl)⟩
end Z0b
namespace Z48
def sG := sgV [.val ty0] [(.bool, .dp)]
noncomputable def eS : List EnTryz := [Z0b.eE N]
noncomputable def eE : EnTryz := ⟨234, sG, [.v ty0], _, Z48 N, pk1 .bool, enK Tryz.func234 (by kernel_rfl),
 fun list => eok (eS N) (by kernel_rfl) Tryz.func234 rfl N an0 rfl (Y4 .bool) (by kernel_rfl)⟩
end Z48
namespace Z6p
def sG := sgV [.val ty8, .val ty3] [(.bool, .dp)]
noncomputable def eS : List EnTryz := [Z0h.eE N, Z48.eE N]
noncomputable def eE : EnTryz := ⟨178, sG, [.v ty8, .v ty3], _, Z6p N, pk1 .bool, enK Tryz.func178 (by kernel_rfl),
 fun relations fact => eok (eS N) (by kernel_rfl) Tryz.func178 rfl N an0 rfl (Y4 .bool) (by kernel_rfl)⟩
end Z6p
namespace Z78
def sG := sgV [.val i64, .val i64] [(i64, .dp)]
noncomputable def eS (N : Nat) : List EnTryz := []
noncomputable def eE : EnTryz := ⟨235, sG, [.v i64, .v i64], _, Z78 N, pk1 i64, enK Tryz.func235 (by kernel_rfl),
 fun a b => eok (eS N) (by kernel_rfl) Tryz.func235 rfl N an0 rfl (Y4 i64) (by kernel_rfl)⟩
end Z78
namespace Z56
def sG := sgV [.val i64] [(.bool, .dp)]
noncomputable def eS (N : Nat) : List EnTryz := []
noncomputable def eE : EnTryz := ⟨293, sG, [.v i64], _, Z56 N, pk1 .bool, enK Tryz.func293 (by kernel_rfl),
 fun x => eok (eS N) (by kernel_rfl) Tryz.func293 rfl N an0 rfl (Y4 .bool) (by kernel_rfl)⟩
end Z56
namespace Z3s
def sG := sgV [.val i64, .val i64] [(i64, .dp)]
noncomputable def eS : List EnTryz := [Z56.eE N]
noncomputable def eE : EnTryz := ⟨283, sG, [.v i64, .v i64], _, Z3s N, pk1 i64, enK Tryz.func283 (by kernel_rfl),
 fun x y => eok (eS N) (by kernel_rfl) Tryz.func283 rfl N an0 rfl (Y4 i64) (by kernel_rfl)⟩
end Z3s
namespace Z17
def sG := sgV [.val ty0, .val ty0] [(i64, .dp)]
noncomputable def eS : List EnTryz := [Z3s.eE N]
def an_ : Nat -> Option (List Nat)
 | 0 => some [0, 1, 9, 10, 11]
 | _ => none
noncomputable def lP (p : List Dir) (rs : List (Env -> Option (Int))) (k : Nat) (env : Env) : Option (Int) :=
 lpE (eS N) N an_ p Tryz.f236 (endK Tb sG Tryz.f236 [] (un1 i64)) rs k env
noncomputable def El0 (k_ : Nat) (s12 : I0) (s22 : I0) (t9 : I0) (t10 : Int) (t11 : Int) : Option (Int) :=
 lP N [.r, .l, .r, .b] [] k_ (.con .val [lf ty0 s12 .ro] :: (.con .val [lf ty0 s22 .ro] :: (un 7 (.con .val [lf ty0 t9 .ro] :: (.con .val [lf i64 t10 .ro] :: (.con .val [lf i64 t11 .ro] :: (un 24 [])))))))
theorem ql0 (N : Nat) : ∀ k_, El0 N k_ = Z0z N k_
 | 0 => by kernel_rfl
 | k_ + 1 => (show El0 N (k_ + 1) = Z1k N (El0 N k_) from by kernel_rfl).trans (by simp only [ql0 N k_]; rfl)
noncomputable def eE : EnTryz := ⟨236, sG, [.v ty0, .v ty0], _, Z17 N, pk1 i64, enK Tryz.func236 (by kernel_rfl),
 fun s1 s2 => eok (eS N) (by kernel_rfl) Tryz.func236 rfl N an_ rfl (Y4 i64) (.trans (b := Z5f N (El0 N N) s1 s2) (by kernel_rfl) (by rw [ql0]; rfl))⟩
end Z17
namespace Z2q
def sG := sgV [.val ty3, .val ty3] [(i64, .dp)]
noncomputable def eS : List EnTryz := [Z78.eE N, Z17.eE N]
noncomputable def eE : EnTryz := ⟨179, sG, [.v ty3, .v ty3], _, Z2q N, pk1 i64, enK Tryz.func179 (by kernel_rfl),
 fun a b => eok (eS N) (by kernel_rfl) Tryz.func179 rfl N an0 rfl (Y4 i64) (by kernel_rfl)⟩
end Z2q
namespace Z12
def sG := sgV [.val ty10] [(.bool, .dp)]
noncomputable def eS : List EnTryz := [Z6p.eE N, Z2q.eE N, Z0s.eE N]
def an_ : Nat -> Option (List Nat)
 | 0 => some [1, 16, 17, 18]
 | _ => none
noncomputable def lP (p : List Dir) (rs : List (Env -> Option (Bool))) (k : Nat) (env : Env) : Option (Bool) :=
 lpE (eS N) N an_ p Tryz.f116 (endK Tb sG Tryz.f116 [] (un1 .bool)) rs k env
noncomputable def El0 (k_ : Nat) (db2 : R0) (db3 : A0) (t16 : A0) (t17 : Int) (t18 : Int) : Option (Bool) :=
 lP N [.r, .r, .l, .r, .b] [] k_ (un 1 (.con (.box ⟨39, false, []⟩) [lf ty8 db2 .ro, lf ty9 db3 .ro] :: (un 14 (.con .val [lf ty9 t16 .ro] :: (.con .val [lf i64 t17 .ro] :: (.con .val [lf i64 t18 .ro] :: (un 25 [])))))))
theorem ql0 (N : Nat) : ∀ k_, El0 N k_ = Z1r N k_
 | 0 => by kernel_rfl
 | k_ + 1 => (show El0 N (k_ + 1) = Z3m N (El0 N k_) from by kernel_rfl).trans (by simp only [ql0 N k_]; rfl)
noncomputable def eE : EnTryz := ⟨116, sG, [.v ty10], _, Z12 N, pk1 .bool, enK Tryz.func116 (by kernel_rfl),
 fun db => eok (eS N) (by kernel_rfl) Tryz.func116 rfl N an_ rfl (Y4 .bool) (.trans (b := Z6q N (El0 N N) db) (by kernel_rfl) (by rw [ql0]; rfl))⟩
end Z12
namespace Z3t
def sG := sgV [.val ty0, .val i64] [(.bool, .dp)]
noncomputable def eS : List EnTryz := [Z0h.eE N]
def an_ : Nat -> Option (List Nat)
 | 0 => some [0, 1, 7, 8, 9]
 | _ => none
noncomputable def lP (p : List Dir) (rs : List (Env -> Option (Bool))) (k : Nat) (env : Env) : Option (Bool) :=
 lpE (eS N) N an_ p Tryz.f189 (endK Tb sG Tryz.f189 [] (un1 .bool)) rs k env
noncomputable def El0 (k_ : Nat) (indices2 : I0) (n2 : Int) (t7 : I0) (t8 : Int) (t9 : Int) : Option (Bool) :=
 lP N [.r, .l, .r, .b] [] k_ (.con .val [lf ty0 indices2 .ro] :: (.con .val [lf i64 n2 .ro] :: (un 5 (.con .val [lf ty0 t7 .ro] :: (.con .val [lf i64 t8 .ro] :: (.con .val [lf i64 t9 .ro] :: (un 23 [])))))))
theorem ql0 (N : Nat) : ∀ k_, El0 N k_ = Z3f N k_
 | 0 => by kernel_rfl
 | k_ + 1 => (show El0 N (k_ + 1) = Z5g N (El0 N k_) from by kernel_rfl).trans (by simp only [ql0 N k_]; rfl)
noncomputable def eE : EnTryz := ⟨189, sG, [.v ty0, .v i64], _, Z3t N, pk1 .bool, enK Tryz.func189 (by kernel_rfl),
 fun indices n => eok (eS N) (by kernel_rfl) Tryz.func189 rfl N an_ rfl (Y4 .bool) (.trans (b := Z8e N (El0 N N) indices n) (by kernel_rfl) (by rw [ql0]; rfl))⟩
end Z3t
namespace Z2k
def sG := sgV [.val ty3, .ptr ty3] [(.bool, .dp)]
noncomputable def eS (N : Nat) : List EnTryz := []
noncomputable def eE : EnTryz := ⟨191, sG, [.v ty3, .p ty3], _, Z2k N, pk1 .bool, enK Tryz.func191 (by kernel_rfl),
 fun own c1 => eok (eS N) (by kernel_rfl) Tryz.func191 rfl N an0 rfl (Y4 .bool) (by kernel_rfl)⟩
end Z2k
namespace Z7
def sG := sgV [.val ty11, .clo] [(i64, .dp)]
noncomputable def eS : List EnTryz := [Z2k.eE N]
def an_ : Nat -> Option (List Nat)
 | 0 => some [0, 1, 7, 8]
 | _ => none
noncomputable def lP (p : List Dir) (rs : List (Env -> Option (Int))) (k : Nat) (env : Env) : Option (Int) :=
 lpE (eS N) N an_ p Tryz.f247 (endK Tb sG Tryz.f247 [] (un1 i64)) rs k env
noncomputable def El0 (k_ : Nat) (s2 : A0) (f : Int × List Int) (t7 : Int) (t8 : Int) : Option (Int) :=
 lP N [.r, .l, .r, .b] [] k_ (.con .val [lf ty11 s2 .ro] :: (.cloR 191 [⟨ty3, f⟩] :: (un 5 (.con .val [lf i64 t7 .ro] :: (.con .val [lf i64 t8 .ro] :: (un 10 []))))))
theorem ql0 (N : Nat) : ∀ k_, El0 N k_ = Z4 N k_
 | 0 => by kernel_rfl
 | k_ + 1 => (show El0 N (k_ + 1) = Z0m N (El0 N k_) from by kernel_rfl).trans (by simp only [ql0 N k_]; rfl)
noncomputable def eE : EnTryz := ⟨247, sG, [.v ty11, .c 191 [ty3]], _, Z7 N, pk1 i64, enK Tryz.func247 (by kernel_rfl),
 fun s c => eok (eS N) (by kernel_rfl) Tryz.func247 rfl N an_ rfl (Y4 i64) (.trans (b := Z1b N (El0 N N) s c) (by kernel_rfl) (by rw [ql0]; rfl))⟩
end Z7
namespace Z1
def sG := sgV [.val ty11, .clo] [(.bool, .dp)]
noncomputable def eS : List EnTryz := [Z7.eE N]
noncomputable def eE : EnTryz := ⟨190, sG, [.v ty11, .c 191 [ty3]], _, Z1 N, pk1 .bool, enK Tryz.func190 (by kernel_rfl),
 fun s c => eok (eS N) (by kernel_rfl) Tryz.func190 rfl N an0 rfl (Y4 .bool) (by kernel_rfl)⟩
end Z1
namespace Z1d
def sG := sgV [.val ty15] [(ty0, .dp)]
noncomputable def eS : List EnTryz := [Z9r N]
def an_ : Nat -> Option (List Nat)
 | 0 => some [0, 3, 9, 10, 11]
 | 2 => some [6, 25, 26, 27]
 | _ => none
noncomputable def lP (p : List Dir) (rs : List (Env -> Option I0)) (k : Nat) (env : Env) : Option I0 :=
 lpE (eS N) N an_ p Tryz.f169 (endK Tb sG Tryz.f169 [] (un1 ty0)) rs k env
noncomputable def El1 (k_ : Nat) (newslice : I0) (t25 : L0) (t26 : Int) (t27 : Int) : Option I0 :=
 lP N [.r, .r, .r, .r, .l, .r, .b] [] k_ (un 6 (.con .val [lf ty0 newslice .dp] :: (un 18 (.con .val [lf ty15 t25 .ro] :: (.con .val [lf i64 t26 .ro] :: (.con .val [lf i64 t27 .ro] :: (un 8 [])))))))
noncomputable def El0 (k_ : Nat) (slices2 : L0) (size : Int) (t9 : L0) (t10 : Int) (t11 : Int) : Option I0 :=
 lP N [.r, .r, .l, .r, .b] [] k_ (.con .val [lf ty15 slices2 .ro] :: (un 2 (.con .val [lf i64 size .ro] :: (un 5 (.con .val [lf ty15 t9 .ro] :: (.con .val [lf i64 t10 .ro] :: (.con .val [lf i64 t11 .ro] :: (un 24 []))))))))
theorem ql1 (N : Nat) : ∀ k_, El1 N k_ = Z1g N k_
 | 0 => by kernel_rfl
 | k_ + 1 => (show El1 N (k_ + 1) = Z4m N (El1 N k_) from by kernel_rfl).trans (by simp only [ql1 N k_]; rfl)
theorem ql0 (N : Nat) : ∀ k_, El0 N k_ = Z2a N k_
 | 0 => by kernel_rfl
 | k_ + 1 => (show El0 N (k_ + 1) = Z4n N (El1 N N) (El0 N k_) from by kernel_rfl).trans (by simp only [ql1, ql0 N k_]; rfl)
noncomputable def eE : EnTryz := ⟨169, sG, [.v ty15], _, Z1d N, pk1 ty0, enK Tryz.func169 (by kernel_rfl),
 fun slices => eok (eS N) (by kernel_rfl) Tryz.func169 rfl N an_ rfl (Y4 ty0) (.trans (b := Z5x N (El0 N N) slices) (by kernel_rfl) (by rw [ql0]; rfl))⟩
end Z1d
namespace Z5h
def sG := sgV [.val ty0, .val ty0] [(ty0, .dp)]
noncomputable def eS : List EnTryz := [Z1d.eE N, Z8g N, Z9g N]
noncomputable def eE : EnTryz := ⟨113, sG, [.v ty0, .v ty0], _, Z5h N, pk1 ty0, enK Tryz.func113 (by kernel_rfl),
 fun a b => eok (eS N) (by kernel_rfl) Tryz.func113 rfl N an0 rfl (Y4 ty0) (by kernel_rfl)⟩
end Z5h
namespace Z2g
def sG := sgV [.val ty3] [(ty0, .dp)]
noncomputable def eS : List EnTryz := [Z0h.eE N, Z5h.eE N]
def an_ : Nat -> Option (List Nat)
 | 0 => some [3, 8, 9, 10]
 | _ => none
noncomputable def lP (p : List Dir) (rs : List (Env -> Option I0)) (k : Nat) (env : Env) : Option I0 :=
 lpE (eS N) N an_ p Tryz.f192 (endK Tb sG Tryz.f192 [] (un1 ty0)) rs k env
noncomputable def El0 (k_ : Nat) (out : I0) (t8 : I0) (t9 : Int) (t10 : Int) : Option I0 :=
 lP N [.r, .r, .l, .r, .b] [] k_ (un 3 (.con .val [lf ty0 out .dp] :: (un 4 (.con .val [lf ty0 t8 .ro] :: (.con .val [lf i64 t9 .ro] :: (.con .val [lf i64 t10 .ro] :: (un 12 [])))))))
theorem ql0 (N : Nat) : ∀ k_, El0 N k_ = Z3g N k_
 | 0 => by kernel_rfl
 | k_ + 1 => (show El0 N (k_ + 1) = Z68 N (El0 N k_) from by kernel_rfl).trans (by simp only [ql0 N k_]; rfl)
noncomputable def eE : EnTryz := ⟨192, sG, [.v ty3], _, Z2g N, pk1 ty0, enK Tryz.func192 (by kernel_rfl),
 fun atom => eok (eS N) (by kernel_rfl) Tryz.func192 rfl N an_ rfl (Y4 ty0) (.trans (b := Z7g N (El0 N N) atom) (by kernel_rfl) (by rw [ql0]; rfl))⟩
end Z2g
namespace Z2r
def sG := sgV [.val ty8, .val ty12] [(.bool, .dp)]
noncomputable def eS : List EnTryz := [Z0h.eE N, Z2g.eE N, Z5h.eE N, Z1.eE N, Z0s.eE N, Z3t.eE N]
def an_ : Nat -> Option (List Nat)
 | 0 => some [0, 3, 5, 36, 37, 38]
 | 2 => some [0, 3, 5, 7, 36, 37, 38, 71, 72, 73]
 | _ => none
noncomputable def lP (p : List Dir) (rs : List (Env -> Option (Bool))) (k : Nat) (env : Env) : Option (Bool) :=
 lpE (eS N) N an_ p Tryz.f132 (endK Tb sG Tryz.f132 [] (un1 .bool)) rs k env
noncomputable def El1 (k0_ : Nat) (k_ : Nat) (relations3 : R0) (query5 : Int) (query6 : A0) (query7 : I0) (occurring2 : I0) (atom : Int) (atom2 : I0) (t362 : A0) (t372 : Int) (t382 : Int) (t71 : I0) (t72 : Int) (t73 : Int) : Option (Bool) :=
 lP N [.r, .r, .r, .l, .r, .b, .b, .r, .r, .l, .b, .r, .r, .l, .r, .b] [lP N [.r, .r, .r, .l, .r, .b] [] k0_] k_ (.con .val [lf ty8 relations3 .ro] :: (un 2 (.con (.box ⟨44, false, []⟩) [lf i64 query5 .ro, lf ty11 query6 .ro, lf ty0 query7 .ro] :: (un 1 (.con .val [lf ty0 occurring2 .dp] :: (un 1 (.con (.box ⟨145, false, []⟩) [lf i64 atom .ro, lf ty0 atom2 .ro] :: (un 28 (.con .val [lf ty11 t362 .ro] :: (.con .val [lf i64 t372 .ro] :: (.con .val [lf i64 t382 .ro] :: (un 32 (.con .val [lf ty0 t71 .ro] :: (.con .val [lf i64 t72 .ro] :: (.con .val [lf i64 t73 .ro] :: (un 20 []))))))))))))))))
noncomputable def El0 (k_ : Nat) (relations2 : R0) (query2 : Int) (query3 : A0) (query4 : I0) (occurring : I0) (t36 : A0) (t37 : Int) (t38 : Int) : Option (Bool) :=
 lP N [.r, .r, .r, .l, .r, .b] [] k_ (.con .val [lf ty8 relations2 .ro] :: (un 2 (.con (.box ⟨44, false, []⟩) [lf i64 query2 .ro, lf ty11 query3 .ro, lf ty0 query4 .ro] :: (un 1 (.con .val [lf ty0 occurring .dp] :: (un 30 (.con .val [lf ty11 t36 .ro] :: (.con .val [lf i64 t37 .ro] :: (.con .val [lf i64 t38 .ro] :: (un 55 []))))))))))
theorem ql1 (N : Nat) (k0_ : Nat) : ∀ k_, El1 N k0_ k_ = Z20 (El0 N k0_) N k_
 | 0 => by kernel_rfl
 | k_ + 1 => (show El1 N k0_ (k_ + 1) = Z4h N (El0 N k0_) (El1 N k0_ k_) from by kernel_rfl).trans (by simp only [ql1 N k0_ k_]; rfl)
theorem ql0 (N : Nat) : ∀ k_, El0 N k_ = Z2l N k_
 | 0 => by kernel_rfl
 | k_ + 1 => (show El0 N (k_ + 1) = Z6r N (El1 N k_ N) (El0 N k_) from by kernel_rfl).trans (by simp only [ql1, ql0 N k_]; rfl)
noncomputable def eE : EnTryz := ⟨132, sG, [.v ty8, .v ty12], _, Z2r N, pk1 .bool, enK Tryz.func132 (by kernel_rfl),
 fun relations query => eok (eS N) (by kernel_rfl) Tryz.func132 rfl N an_ rfl (Y4 .bool) (.trans (b := Z7s N (El0 N N) relations query) (by kernel_rfl) (by rw [ql0]; rfl))⟩
end Z2r
namespace Z2b
def sG := sgV [.val ty10, .val ty12] [(.bool, .dp)]
noncomputable def eS : List EnTryz := [Z12.eE N, Z2r.eE N]
noncomputable def eE : EnTryz := ⟨68, sG, [.v ty10, .v ty12], _, Z2b N, pk1 .bool, enK Tryz.func68 (by kernel_rfl),
 fun db query => eok (eS N) (by kernel_rfl) Tryz.func68 rfl N an0 rfl (Y4 .bool) (by kernel_rfl)⟩
end Z2b
namespace Z1s
def sG := sgV [.val i64] [(.bool, .dp)]
noncomputable def eS : List EnTryz := [Z0h.eE N]
noncomputable def eE : EnTryz := ⟨134, sG, [.v i64], _, Z1s N, pk1 .bool, enK Tryz.func134 (by kernel_rfl),
 fun w => eok (eS N) (by kernel_rfl) Tryz.func134 rfl N an0 rfl (Y4 .bool) (by kernel_rfl)⟩
end Z1s
namespace Z6
def sG := sgV [.val ty0, .clo] [(i64, .dp)]
noncomputable def eS : List EnTryz := [Z1s.eE N]
def an_ : Nat -> Option (List Nat)
 | 0 => some [0, 1, 7, 8]
 | _ => none
noncomputable def lP (p : List Dir) (rs : List (Env -> Option (Int))) (k : Nat) (env : Env) : Option (Int) :=
 lpE (eS N) N an_ p Tryz.f193 (endK Tb sG Tryz.f193 [] (un1 i64)) rs k env
noncomputable def El0 (k_ : Nat) (s2 : I0) (t7 : Int) (t8 : Int) : Option (Int) :=
 lP N [.r, .l, .r, .b] [] k_ (.con .val [lf ty0 s2 .ro] :: (.cloR 134 [] :: (un 5 (.con .val [lf i64 t7 .ro] :: (.con .val [lf i64 t8 .ro] :: (un 10 []))))))
theorem ql0 (N : Nat) : ∀ k_, El0 N k_ = Z2 N k_
 | 0 => by kernel_rfl
 | k_ + 1 => (show El0 N (k_ + 1) = Z0k N (El0 N k_) from by kernel_rfl).trans (by simp only [ql0 N k_]; rfl)
noncomputable def eE : EnTryz := ⟨193, sG, [.v ty0, .c 134 []], _, Z6 N, pk1 i64, enK Tryz.func193 (by kernel_rfl),
 fun s => eok (eS N) (by kernel_rfl) Tryz.func193 rfl N an_ rfl (Y4 i64) (.trans (b := Z18 N (El0 N N) s) (by kernel_rfl) (by rw [ql0]; rfl))⟩
end Z6
namespace Z3
def sG := sgV [.val ty0, .clo] [(.bool, .dp)]
noncomputable def eS : List EnTryz := [Z6.eE N]
noncomputable def eE : EnTryz := ⟨133, sG, [.v ty0, .c 134 []], _, Z3 N, pk1 .bool, enK Tryz.func133 (by kernel_rfl),
 fun s => eok (eS N) (by kernel_rfl) Tryz.func133 rfl N an0 rfl (Y4 .bool) (by kernel_rfl)⟩
end Z3
namespace Z13
def sG := sgV [.val ty10, .val ty0] [(.bool, .dp)]
noncomputable def eS : List EnTryz := [Z12.eE N, Z3.eE N]
noncomputable def eE : EnTryz := ⟨69, sG, [.v ty10, .v ty0], _, Z13 N, pk1 .bool, enK Tryz.func69 (by kernel_rfl),
 fun db weights => eok (eS N) (by kernel_rfl) Tryz.func69 rfl N an0 rfl (Y4 .bool) (by kernel_rfl)⟩
end Z13
namespace Z4o
def sG := sgV [.val i64] [(ty0, .dp)]
noncomputable def eS : List EnTryz := [Z9o N]
noncomputable def eE : EnTryz := ⟨196, sG, [.v i64], _, Z4o N, pk1 ty0, enK Tryz.func196 (by kernel_rfl),
 fun n => eok (eS N) (by kernel_rfl) Tryz.func196 rfl N an0 rfl (Y4 ty0) (by kernel_rfl)⟩
end Z4o
namespace Z50
def sG := sgV [.val i64] [(.bool, .dp)]
noncomputable def eS (N : Nat) : List EnTryz := []
noncomputable def eE : EnTryz := ⟨248, sG, [.v i64], _, Z50 N, pk1 .bool, enK Tryz.func248 (by kernel_rfl),
 fun t => eok (eS N) (by kernel_rfl) Tryz.func248 rfl N an0 rfl (Y4 .bool) (by kernel_rfl)⟩
end Z50
namespace Z40
def sG := sgV [.val i64] [(i64, .dp)]
noncomputable def eS (N : Nat) : List EnTryz := []
noncomputable def eE : EnTryz := ⟨249, sG, [.v i64], _, Z40 N, pk1 i64, enK Tryz.func249 (by kernel_rfl),
 fun v => eok (eS N) (by kernel_rfl) Tryz.func249 rfl N an0 rfl (Y4 i64) (by kernel_rfl)⟩
end Z40
namespace Z7h
def sG := sgV [.val ty0, .val ty0, .val ty0] [(ty0, .dp), (.bool, .dp)]
noncomputable def eS : List EnTryz := [Z50.eE N, Z40.eE N, Z89 N]
def an_ : Nat -> Option (List Nat)
 | 0 => some [2, 8, 13, 14, 15]
 | _ => none
noncomputable def lP (p : List Dir) (rs : List (Env -> Option (List Int × Bool))) (k : Nat) (env : Env) : Option (List Int × Bool) :=
 lpE (eS N) N an_ p Tryz.f195 (endK Tb sG Tryz.f195 [] (un2 ty0 .bool)) rs k env
noncomputable def El0 (k_ : Nat) (from_2 : I0) (out : I0) (t13 : I0) (t14 : Int) (t15 : Int) : Option (List Int × Bool) :=
 lP N [.r, .r, .l, .r, .b] [] k_ (un 2 (.con .val [lf ty0 from_2 .ro] :: (un 5 (.con .val [lf ty0 out .dp] :: (un 4 (.con .val [lf ty0 t13 .ro] :: (.con .val [lf i64 t14 .ro] :: (.con .val [lf i64 t15 .ro] :: (un 40 [])))))))))
theorem ql0 (N : Nat) : ∀ k_, El0 N k_ = Z7l N k_
 | 0 => by kernel_rfl
 | k_ + 1 => (show El0 N (k_ + 1) = Z8o N (El0 N k_) from by kernel_rfl).trans (by simp only [ql0 N k_]; rfl)
noncomputable def eE : EnTryz := ⟨195, sG, [.v ty0, .v ty0, .v ty0], _, Z7h N, pk2 ty0 .bool, enK Tryz.func195 (by kernel_rfl),
 fun values terms from_ => eok (eS N) (by kernel_rfl) Tryz.func195 rfl N an_ rfl (Y4d ty0 .bool) (.trans (b := Z9n N (El0 N N) values terms from_) (by kernel_rfl) (by rw [ql0]; rfl))⟩
end Z7h
namespace Z23
def bX : BoxSig := ⟨3, 149, [.dp]⟩
def sG : Sig := ⟨[.val ty0, .val ty0, .ptr ty12, .ptr ty14, .ptr ty10, .self], [], false, false, some bX, none, none⟩
theorem eN : Enterable Tryz.prog 194 := Y28 Tryz.func194 (code := Tryz.f194.body.getD .skip) (by kernel_rfl) (by kernel_rfl)
noncomputable def eS (Rf : I0 -> I0 -> Q0 -> (List (List Int × List Int)) -> D0 -> Q0 -> D0 -> Option (List (List Int × List Int))) (hR : OkP (Option (List (List Int × List Int))) [.v ty0, .v ty0, .p ty12, .p ty14, .p ty10, .s 194 [.ro ty12, .pin, .ro ty10, .self]] Rf (fun xs_ q => ∀ x, q = some x -> FnOk Tryz.prog 194 sG xs_ (pk1 ty14 x))) : List EnTryz := [Z7h.eE N, Z89 N, ⟨194, sG, [.v ty0, .v ty0, .p ty12, .p ty14, .p ty10, .s 194 [.ro ty12, .pin, .ro ty10, .self]], List (List Int × List Int), Rf, pk1 ty14, eN, hR⟩]
def an_ : Nat -> Option (List Nat)
 | 0 => some [0, 1, 3, 5, 8, 34, 35, 36]
 | _ => none
noncomputable def lP (Rf : I0 -> I0 -> Q0 -> (List (List Int × List Int)) -> D0 -> Q0 -> D0 -> Option (List (List Int × List Int))) (hR : OkP (Option (List (List Int × List Int))) [.v ty0, .v ty0, .p ty12, .p ty14, .p ty10, .s 194 [.ro ty12, .pin, .ro ty10, .self]] Rf (fun xs_ q => ∀ x, q = some x -> FnOk Tryz.prog 194 sG xs_ (pk1 ty14 x))) (p : List Dir) (rs : List (Env -> Option (List (List Int × List Int)))) (k : Nat) (env : Env) : Option (List (List Int × List Int)) :=
 lpE (eS N Rf hR) N an_ p Tryz.f194 (endB Tb sG bX Tryz.f194 ty14 (un1 ty14)) rs k env
noncomputable def El0 (Rf : I0 -> I0 -> Q0 -> (List (List Int × List Int)) -> D0 -> Q0 -> D0 -> Option (List (List Int × List Int))) (hR : OkP (Option (List (List Int × List Int))) [.v ty0, .v ty0, .p ty12, .p ty14, .p ty10, .s 194 [.ro ty12, .pin, .ro ty10, .self]] Rf (fun xs_ q => ∀ x, q = some x -> FnOk Tryz.prog 194 sG xs_ (pk1 ty14 x))) (k_ : Nat) (values2 : I0) (facts2 : I0) (t3 : List (List Int × List Int)) (t5c : Q0) (t5c2 : D0) (atom : Int) (atom2 : I0) (t34 : A0) (t35 : Int) (t36 : Int) : Option (List (List Int × List Int)) :=
 lP N Rf hR [.r, .r, .r, .b] [] k_ (.con .val [lf ty0 values2 .ro] :: (.con .val [lf ty0 facts2 .ro] :: (un 1 (.con (.box ⟨149, true, [false]⟩) [lf ty14 t3 .dp] :: (un 1 (.fptr 194 [.ro ⟨ty12, t5c⟩, .path 3 0, .ro ⟨ty10, t5c2⟩, .self] :: (un 2 (.con (.box ⟨145, false, []⟩) [lf i64 atom .ro, lf ty0 atom2 .ro] :: (un 25 (.con .val [lf ty9 t34 .ro] :: (.con .val [lf i64 t35 .ro] :: (.con .val [lf i64 t36 .ro] :: (un 28 [])))))))))))))
theorem ql0 (N : Nat) (Rf : I0 -> I0 -> Q0 -> (List (List Int × List Int)) -> D0 -> Q0 -> D0 -> Option (List (List Int × List Int))) (hR : OkP (Option (List (List Int × List Int))) [.v ty0, .v ty0, .p ty12, .p ty14, .p ty10, .s 194 [.ro ty12, .pin, .ro ty10, .self]] Rf (fun xs_ q => ∀ x, q = some x -> FnOk Tryz.prog 194 sG xs_ (pk1 ty14 x))) : ∀ k_, El0 N Rf hR k_ = Z2c N Rf k_
 | 0 => by kernel_rfl
 | k_ + 1 => (show El0 N Rf hR (k_ + 1) = Z4p N Rf (El0 N Rf hR k_) from by kernel_rfl).trans (by simp only [ql0 N Rf hR k_]; rfl)
theorem vV (Rf : I0 -> I0 -> Q0 -> (List (List Int × List Int)) -> D0 -> Q0 -> D0 -> Option (List (List Int × List Int))) (hR : OkP (Option (List (List Int × List Int))) [.v ty0, .v ty0, .p ty12, .p ty14, .p ty10, .s 194 [.ro ty12, .pin, .ro ty10, .self]] Rf (fun xs_ q => ∀ x, q = some x -> FnOk Tryz.prog 194 sG xs_ (pk1 ty14 x))) (values : I0) (facts : I0) (c2 : Q0) (c3 : List (List Int × List Int)) (c4 : D0) (sc2 : Q0) (sc4 : D0) :
  evB (eS N Rf hR) N an_ sG bX Tryz.f194 [.val ty0 values, .val ty0 facts, .ptr ty12 c2, .ptr ty14 c3, .ptr ty10 c4, .fptr 194 [.ro ⟨ty12, sc2⟩, .pin, .ro ⟨ty10, sc4⟩, .self]] (un1 ty14) = Z3u N Rf (El0 N Rf hR N) values facts c2 c3 c4 sc2 sc4 := by kernel_rfl
theorem oK (N : Nat) : ∀ k_, OkP (Option (List (List Int × List Int))) [.v ty0, .v ty0, .p ty12, .p ty14, .p ty10, .s 194 [.ro ty12, .pin, .ro ty10, .self]] (Z0n N k_) (fun xs_ q => ∀ x, q = some x -> FnOk Tryz.prog 194 sG xs_ (pk1 ty14 x))
 | 0 => fun values facts c2 c3 c4 sc2 sc4 =>  fun x h => absurd (show (none : Option (List (List Int × List Int))) = some x from h) (by simp)
 | k_ + 1 => fun values facts c2 c3 c4 sc2 sc4 => Ycp tab_ok (es := eS N (Z0n N k_) (oK N k_)) (by kernel_rfl) mixed Tryz.func194 (by kernel_rfl) rfl rfl (fun _ => ⟨_, _, rfl⟩) (Y4 ty14) ((vV N _ _ values facts c2 c3 c4 sc2 sc4).trans (by rw [ql0]; rfl))
noncomputable def eE : EnTryz := ⟨194, sG, [.v ty0, .v ty0, .p ty12, .p ty14, .p ty10, .s 194 [.ro ty12, .pin, .ro ty10, .self]], List (List Int × List Int), Z23 N, pk1 ty14, eN, oK N N⟩
end Z23
namespace Z27
def sG := sgV [.val ty10, .val ty12] [(ty14, .dp)]
noncomputable def eS : List EnTryz := [Z2b.eE N, Z4o.eE N, Z23.eE N]
noncomputable def eE : EnTryz := ⟨136, sG, [.v ty10, .v ty12], _, Z27 N, pk1 ty14, enK Tryz.func136 (by kernel_rfl),
 fun db query => eok (eS N) (by kernel_rfl) Tryz.func136 rfl N an0 rfl (Y4 ty14) (by kernel_rfl)⟩
end Z27
namespace Z49
def sG := sgV [.val ty10, .val ty12] [(ty15, .dp)]
noncomputable def eS : List EnTryz := [Z8g N, Z27.eE N]
def an_ : Nat -> Option (List Nat)
 | 0 => some [5, 11, 12, 13]
 | _ => none
noncomputable def lP (p : List Dir) (rs : List (Env -> Option L0)) (k : Nat) (env : Env) : Option L0 :=
 lpEK (eS N) N an_ p Tryz.f70 (endK Tb sG Tryz.f70 [] (un1 ty15)) rs k env
noncomputable def El1 (k_ : Nat) (out2 : L0) (t112 : List (List Int × List Int)) (t11n : Int) (t122 : Int) (t132 : Int) : Option L0 :=
 lP N [.r, .r, .l, .r, .b] [] k_ (un 5 (.con .val [lf ty15 out2 .dp] :: (un 5 (.part 152 ty17 t112 t11n :: (.con .val [lf i64 t122 .ro] :: (.con .val [lf i64 t132 .ro] :: (un 13 [])))))))
noncomputable def El0 (k_ : Nat) (out : L0) (t11 : List (List Int × List Int)) (t12 : Int) (t13 : Int) : Option L0 :=
 lP N [.r, .r, .l, .r, .b] [] k_ (un 5 (.con .val [lf ty15 out .dp] :: (un 5 (.con .val [lf ty14 t11 .dp] :: (.con .val [lf i64 t12 .ro] :: (.con .val [lf i64 t13 .ro] :: (un 13 [])))))))
theorem ql1 (N : Nat) : ∀ k_, El1 N k_ = Z5b N k_
 | 0 => by kernel_rfl
 | k_ + 1 => (show El1 N (k_ + 1) = Z7t N (El1 N k_) from by kernel_rfl).trans (by simp only [ql1 N k_]; rfl)
theorem ql0 (N : Nat) : ∀ k_, El0 N k_ = Z70 N k_
 | 0 => by kernel_rfl
 | k_ + 1 => (show El0 N (k_ + 1) = Z7u N (El1 N k_) (El0 N k_) from by kernel_rfl).trans (by simp only [ql1, ql0 N k_]; rfl)
noncomputable def eE : EnTryz := ⟨70, sG, [.v ty10, .v ty12], _, Z49 N, pk1 ty15, enK Tryz.func70 (by kernel_rfl),
 fun db query => eokK (eS N) (by kernel_rfl) Tryz.func70 rfl N an_ rfl (Y4 ty15) (.trans (b := Z8l N (El0 N N) db query) (by kernel_rfl) (by rw [ql0]; rfl))⟩
end Z49
namespace Z1m
def sG := sgV [.val ty0, .val ty0] [(.bool, .dp)]
noncomputable def eS (N : Nat) : List EnTryz := []
def an_ : Nat -> Option (List Nat)
 | 0 => some [0, 1, 12, 13]
 | _ => none
noncomputable def lP (p : List Dir) (rs : List (Env -> Option (Bool))) (k : Nat) (env : Env) : Option (Bool) :=
 lpE (eS N) N an_ p Tryz.f199 (endK Tb sG Tryz.f199 [] (un1 .bool)) rs k env
noncomputable def El0 (k_ : Nat) (s12 : I0) (s22 : I0) (t12 : Int) (t13 : Int) : Option (Bool) :=
 lP N [.r, .r, .l, .r, .b] [] k_ (.con .val [lf ty0 s12 .ro] :: (.con .val [lf ty0 s22 .ro] :: (un 10 (.con .val [lf i64 t12 .ro] :: (.con .val [lf i64 t13 .ro] :: (un 12 []))))))
theorem ql0 (N : Nat) : ∀ k_, El0 N k_ = Z1l N k_
 | 0 => by kernel_rfl
 | k_ + 1 => (show El0 N (k_ + 1) = Z32 N (El0 N k_) from by kernel_rfl).trans (by simp only [ql0 N k_]; rfl)
noncomputable def eE : EnTryz := ⟨199, sG, [.v ty0, .v ty0], _, Z1m N, pk1 .bool, enK Tryz.func199 (by kernel_rfl),
 fun s1 s2 => eok (eS N) (by kernel_rfl) Tryz.func199 rfl N an_ rfl (Y4 .bool) (.trans (b := Z69 N (El0 N N) s1 s2) (by kernel_rfl) (by rw [ql0]; rfl))⟩
end Z1m
namespace Z5z
def sG := sgV [.val ty8, .val ty3, .val ty3] [(.bool, .dp)]
noncomputable def eS : List EnTryz := [Z1m.eE N]
noncomputable def eE : EnTryz := ⟨138, sG, [.v ty8, .v ty3, .v ty3], _, Z5z N, pk1 .bool, enK Tryz.func138 (by kernel_rfl),
 fun relations a b => eok (eS N) (by kernel_rfl) Tryz.func138 rfl N an0 rfl (Y4 .bool) (by kernel_rfl)⟩
end Z5z
namespace Z4i
def sG := sgV [.val ty10] [(ty15, .dp)]
noncomputable def eS : List EnTryz := [Z5z.eE N]
def an_ : Nat -> Option (List Nat)
 | 0 => some [1, 3, 9, 10, 11]
 | _ => none
noncomputable def lP (p : List Dir) (rs : List (Env -> Option L0)) (k : Nat) (env : Env) : Option L0 :=
 lpE (eS N) N an_ p Tryz.f71 (endK Tb sG Tryz.f71 [] (un1 ty15)) rs k env
noncomputable def El0 (k_ : Nat) (db2 : R0) (db3 : A0) (out : L0) (t9 : A0) (t10 : Int) (t11 : Int) : Option L0 :=
 lP N [.r, .r, .l, .r, .b] [] k_ (un 1 (.con (.box ⟨39, false, []⟩) [lf ty8 db2 .ro, lf ty9 db3 .ro] :: (un 1 (.con .val [lf ty15 out .dp] :: (un 5 (.con .val [lf ty9 t9 .ro] :: (.con .val [lf i64 t10 .ro] :: (.con .val [lf i64 t11 .ro] :: (un 42 [])))))))))
theorem ql0 (N : Nat) : ∀ k_, El0 N k_ = Z2m N k_
 | 0 => by kernel_rfl
 | k_ + 1 => (show El0 N (k_ + 1) = Z7i N (El0 N k_) from by kernel_rfl).trans (by simp only [ql0 N k_]; rfl)
noncomputable def eE : EnTryz := ⟨71, sG, [.v ty10], _, Z4i N, pk1 ty15, enK Tryz.func71 (by kernel_rfl),
 fun db => eok (eS N) (by kernel_rfl) Tryz.func71 rfl N an_ rfl (Y4 ty15) (.trans (b := Z9b N (El0 N N) db) (by kernel_rfl) (by rw [ql0]; rfl))⟩
end Z4i
namespace Z2s
def sG := sgV [.val ty15] [(i64, .dp)]
noncomputable def eS (N : Nat) : List EnTryz := []
def an_ : Nat -> Option (List Nat)
 | 0 => some [3, 6, 7, 8]
 | _ => none
noncomputable def lP (p : List Dir) (rs : List (Env -> Option (Int))) (k : Nat) (env : Env) : Option (Int) :=
 lpE (eS N) N an_ p Tryz.f72 (endK Tb sG Tryz.f72 [] (un1 i64)) rs k env
noncomputable def El0 (k_ : Nat) (out : Int) (t6 : L0) (t7 : Int) (t8 : Int) : Option (Int) :=
 lP N [.r, .r, .l, .r, .b] [] k_ (un 3 (.con .val [lf i64 out .ro] :: (un 2 (.con .val [lf ty15 t6 .ro] :: (.con .val [lf i64 t7 .ro] :: (.con .val [lf i64 t8 .ro] :: (un 9 [])))))))
theorem ql0 (N : Nat) : ∀ k_, El0 N k_ = Z2n N k_
 | 0 => by kernel_rfl
 | k_ + 1 => (show El0 N (k_ + 1) = Z4j N (El0 N k_) from by kernel_rfl).trans (by simp only [ql0 N k_]; rfl)
noncomputable def eE : EnTryz := ⟨72, sG, [.v ty15], _, Z2s N, pk1 i64, enK Tryz.func72 (by kernel_rfl),
 fun list => eok (eS N) (by kernel_rfl) Tryz.func72 rfl N an_ rfl (Y4 i64) (.trans (b := Z7v N (El0 N N) list) (by kernel_rfl) (by rw [ql0]; rfl))⟩
end Z2s
namespace Z4a
def sG := sgV [.val ty15, .val i64] [(ty0, .dp)]
noncomputable def eS (N : Nat) : List EnTryz := []
def an_ : Nat -> Option (List Nat)
 | 0 => some [0, 1, 5, 6]
 | _ => none
noncomputable def lP (p : List Dir) (rs : List (Env -> Option I0)) (k : Nat) (env : Env) : Option I0 :=
 lpE (eS N) N an_ p Tryz.f73 (endK Tb sG Tryz.f73 [] (un1 ty0)) rs k env
noncomputable def El0 (k_ : Nat) (list2 : L0) (rank2 : Int) (out : I0) (i : Int) : Option I0 :=
 lP N [.r, .r, .l, .r, .b] [] k_ (.con .val [lf ty15 list2 .ro] :: (.con .val [lf i64 rank2 .ro] :: (un 3 (.con .val [lf ty0 out .dp] :: (.con .val [lf i64 i .ro] :: (un 34 []))))))
theorem ql0 (N : Nat) : ∀ k_, El0 N k_ = Z41 N k_
 | 0 => by kernel_rfl
 | k_ + 1 => (show El0 N (k_ + 1) = Z65 N (El0 N k_) from by kernel_rfl).trans (by simp only [ql0 N k_]; rfl)
noncomputable def eE : EnTryz := ⟨73, sG, [.v ty15, .v i64], _, Z4a N, pk1 ty0, enK Tryz.func73 (by kernel_rfl),
 fun list rank => eok (eS N) (by kernel_rfl) Tryz.func73 rfl N an_ rfl (Y4 ty0) (.trans (b := Z8m N (El0 N N) list rank) (by kernel_rfl) (by rw [ql0]; rfl))⟩
end Z4a
namespace Z2e
def sG := sgV [.val ty0, .val i64] [(i64, .dp)]
noncomputable def eS (N : Nat) : List EnTryz := []
def an_ : Nat -> Option (List Nat)
 | 0 => some [0, 1, 7, 8]
 | _ => none
noncomputable def lP (p : List Dir) (rs : List (Env -> Option (Int))) (k : Nat) (env : Env) : Option (Int) :=
 lpE (eS N) N an_ p Tryz.f262 (endK Tb sG Tryz.f262 [] (un1 i64)) rs k env
noncomputable def El0 (k_ : Nat) (s2 : I0) (v2 : Int) (t7 : Int) (t8 : Int) : Option (Int) :=
 lP N [.r, .l, .r, .b] [] k_ (.con .val [lf ty0 s2 .ro] :: (.con .val [lf i64 v2 .ro] :: (un 5 (.con .val [lf i64 t7 .ro] :: (.con .val [lf i64 t8 .ro] :: (un 10 []))))))
theorem ql0 (N : Nat) : ∀ k_, El0 N k_ = Z1n N k_
 | 0 => by kernel_rfl
 | k_ + 1 => (show El0 N (k_ + 1) = Z33 N (El0 N k_) from by kernel_rfl).trans (by simp only [ql0 N k_]; rfl)
noncomputable def eE : EnTryz := ⟨262, sG, [.v ty0, .v i64], _, Z2e N, pk1 i64, enK Tryz.func262 (by kernel_rfl),
 fun s v => eok (eS N) (by kernel_rfl) Tryz.func262 rfl N an_ rfl (Y4 i64) (.trans (b := Z6a N (El0 N N) s v) (by kernel_rfl) (by rw [ql0]; rfl))⟩
end Z2e
namespace Z14
def sG := sgV [.val ty0, .val i64] [(.bool, .dp)]
noncomputable def eS : List EnTryz := [Z2e.eE N]
noncomputable def eE : EnTryz := ⟨202, sG, [.v ty0, .v i64], _, Z14 N, pk1 .bool, enK Tryz.func202 (by kernel_rfl),
 fun s v => eok (eS N) (by kernel_rfl) Tryz.func202 rfl N an0 rfl (Y4 .bool) (by kernel_rfl)⟩
end Z14
namespace Z4b
def sG := sgV [.val i64, .ptr ty0] [(.bool, .dp)]
noncomputable def eS : List EnTryz := [Z14.eE N]
noncomputable def eE : EnTryz := ⟨201, sG, [.v i64, .p ty0], _, Z4b N, pk1 .bool, enK Tryz.func201 (by kernel_rfl),
 fun n c1 => eok (eS N) (by kernel_rfl) Tryz.func201 rfl N an0 rfl (Y4 .bool) (by kernel_rfl)⟩
end Z4b
namespace Z0i
def sG := sgV [.val ty0, .clo] [(i64, .dp)]
noncomputable def eS : List EnTryz := [Z4b.eE N]
def an_ : Nat -> Option (List Nat)
 | 0 => some [0, 1, 7, 8]
 | _ => none
noncomputable def lP (p : List Dir) (rs : List (Env -> Option (Int))) (k : Nat) (env : Env) : Option (Int) :=
 lpE (eS N) N an_ p Tryz.f193 (endK Tb sG Tryz.f193 [] (un1 i64)) rs k env
noncomputable def El0 (k_ : Nat) (s2 : I0) (f : I0) (t7 : Int) (t8 : Int) : Option (Int) :=
 lP N [.r, .l, .r, .b] [] k_ (.con .val [lf ty0 s2 .ro] :: (.cloR 201 [⟨ty0, f⟩] :: (un 5 (.con .val [lf i64 t7 .ro] :: (.con .val [lf i64 t8 .ro] :: (un 10 []))))))
theorem ql0 (N : Nat) : ∀ k_, El0 N k_ = Z0d N k_
 | 0 => by kernel_rfl
 | k_ + 1 => (show El0 N (k_ + 1) = Z0v N (El0 N k_) from by kernel_rfl).trans (by simp only [ql0 N k_]; rfl)
noncomputable def eE : EnTryz := ⟨193, sG, [.v ty0, .c 201 [ty0]], _, Z0i N, pk1 i64, enK Tryz.func193 (by kernel_rfl),
 fun s c => eok (eS N) (by kernel_rfl) Tryz.func193 rfl N an_ rfl (Y4 i64) (.trans (b := Z21 N (El0 N N) s c) (by kernel_rfl) (by rw [ql0]; rfl))⟩
end Z0i
namespace Z0e
def sG := sgV [.val ty0, .clo] [(.bool, .dp)]
noncomputable def eS : List EnTryz := [Z0i.eE N]
noncomputable def eE : EnTryz := ⟨133, sG, [.v ty0, .c 201 [ty0]], _, Z0e N, pk1 .bool, enK Tryz.func133 (by kernel_rfl),
 fun s c => eok (eS N) (by kernel_rfl) Tryz.func133 rfl N an0 rfl (Y4 .bool) (by kernel_rfl)⟩
end Z0e
namespace Z57
def sG := sgV [.val ty0, .val ty0] [(.bool, .dp)]
noncomputable def eS : List EnTryz := [Z0e.eE N]
noncomputable def eE : EnTryz := ⟨141, sG, [.v ty0, .v ty0], _, Z57 N, pk1 .bool, enK Tryz.func141 (by kernel_rfl),
 fun a b => eok (eS N) (by kernel_rfl) Tryz.func141 rfl N an0 rfl (Y4 .bool) (by kernel_rfl)⟩
end Z57
namespace Z42
def sG := sgV [.val ty0, .ptr ty0] [(.bool, .dp)]
noncomputable def eS : List EnTryz := [Z57.eE N]
noncomputable def eE : EnTryz := ⟨140, sG, [.v ty0, .p ty0], _, Z42 N, pk1 .bool, enK Tryz.func140 (by kernel_rfl),
 fun own c1 => eok (eS N) (by kernel_rfl) Tryz.func140 rfl N an0 rfl (Y4 .bool) (by kernel_rfl)⟩
end Z42
namespace Z0f
def sG := sgV [.val ty15, .clo] [(i64, .dp)]
noncomputable def eS : List EnTryz := [Z42.eE N]
def an_ : Nat -> Option (List Nat)
 | 0 => some [0, 1, 7, 8]
 | _ => none
noncomputable def lP (p : List Dir) (rs : List (Env -> Option (Int))) (k : Nat) (env : Env) : Option (Int) :=
 lpE (eS N) N an_ p Tryz.f200 (endK Tb sG Tryz.f200 [] (un1 i64)) rs k env
noncomputable def El0 (k_ : Nat) (s2 : L0) (f : I0) (t7 : Int) (t8 : Int) : Option (Int) :=
 lP N [.r, .l, .r, .b] [] k_ (.con .val [lf ty15 s2 .ro] :: (.cloR 140 [⟨ty0, f⟩] :: (un 5 (.con .val [lf i64 t7 .ro] :: (.con .val [lf i64 t8 .ro] :: (un 10 []))))))
theorem ql0 (N : Nat) : ∀ k_, El0 N k_ = Z8 N k_
 | 0 => by kernel_rfl
 | k_ + 1 => (show El0 N (k_ + 1) = Z0q N (El0 N k_) from by kernel_rfl).trans (by simp only [ql0 N k_]; rfl)
noncomputable def eE : EnTryz := ⟨200, sG, [.v ty15, .c 140 [ty0]], _, Z0f N, pk1 i64, enK Tryz.func200 (by kernel_rfl),
 fun s c => eok (eS N) (by kernel_rfl) Tryz.func200 rfl N an_ rfl (Y4 i64) (.trans (b := Z1o N (El0 N N) s c) (by kernel_rfl) (by rw [ql0]; rfl))⟩
end Z0f
namespace Z9
def sG := sgV [.val ty15, .clo] [(.bool, .dp)]
noncomputable def eS : List EnTryz := [Z0f.eE N]
noncomputable def eE : EnTryz := ⟨139, sG, [.v ty15, .c 140 [ty0]], _, Z9 N, pk1 .bool, enK Tryz.func139 (by kernel_rfl),
 fun s c => eok (eS N) (by kernel_rfl) Tryz.func139 rfl N an0 rfl (Y4 .bool) (by kernel_rfl)⟩
end Z9
namespace Z3h
def sG := sgV [.val ty15, .val ty0] [(.bool, .dp)]
noncomputable def eS : List EnTryz := [Z9.eE N]
noncomputable def eE : EnTryz := ⟨74, sG, [.v ty15, .v ty0], _, Z3h N, pk1 .bool, enK Tryz.func74 (by kernel_rfl),
 fun sets set => eok (eS N) (by kernel_rfl) Tryz.func74 rfl N an0 rfl (Y4 .bool) (by kernel_rfl)⟩
end Z3h
namespace Z58
def sG := sgV [.val ty0, .val ty0] [(i64, .dp)]
noncomputable def eS (N : Nat) : List EnTryz := []
def an_ : Nat -> Option (List Nat)
 | 0 => some [0, 5, 8, 9, 10]
 | _ => none
noncomputable def lP (p : List Dir) (rs : List (Env -> Option (Int))) (k : Nat) (env : Env) : Option (Int) :=
 lpE (eS N) N an_ p Tryz.f75 (endK Tb sG Tryz.f75 [] (un1 i64)) rs k env
noncomputable def El0 (k_ : Nat) (weights2 : I0) (out : Int) (t8 : I0) (t9 : Int) (t10 : Int) : Option (Int) :=
 lP N [.r, .r, .l, .r, .b] [] k_ (.con .val [lf ty0 weights2 .ro] :: (un 4 (.con .val [lf i64 out .ro] :: (un 2 (.con .val [lf ty0 t8 .ro] :: (.con .val [lf i64 t9 .ro] :: (.con .val [lf i64 t10 .ro] :: (un 11 []))))))))
theorem ql0 (N : Nat) : ∀ k_, El0 N k_ = Z60 N k_
 | 0 => by kernel_rfl
 | k_ + 1 => (show El0 N (k_ + 1) = Z85 N (El0 N k_) from by kernel_rfl).trans (by simp only [ql0 N k_]; rfl)
noncomputable def eE : EnTryz := ⟨75, sG, [.v ty0, .v ty0], _, Z58 N, pk1 i64, enK Tryz.func75 (by kernel_rfl),
 fun weights indices => eok (eS N) (by kernel_rfl) Tryz.func75 rfl N an_ rfl (Y4 i64) (.trans (b := Z8p N (El0 N N) weights indices) (by kernel_rfl) (by rw [ql0]; rfl))⟩
end Z58
namespace Z1e
def sG := sgV [.val ty10, .val ty0] [(i64, .dp)]
noncomputable def eS : List EnTryz := [Z13.eE N, Z4i.eE N]
def an_ : Nat -> Option (List Nat)
 | 0 => some [1, 5, 16, 17, 18]
 | 2 => some [1, 5, 8, 16, 17, 18, 22, 23, 24]
 | _ => none
noncomputable def lP (p : List Dir) (rs : List (Env -> Option (Int))) (k : Nat) (env : Env) : Option (Int) :=
 lpE (eS N) N an_ p Tryz.f77 (endK Tb sG Tryz.f77 [] (un1 i64)) rs k env
noncomputable def El1 (k0_ : Nat) (k_ : Nat) (weights3 : I0) (out2 : Int) (sum : Int) (t162 : L0) (t172 : Int) (t182 : Int) (t22i : Int) (t22 : I0) (t23 : Int) (t24 : Int) : Option (Int) :=
 lP N [.r, .r, .r, .l, .r, .b, .b, .r, .r, .l, .b, .r, .r, .l, .r, .b] [lP N [.r, .r, .r, .l, .r, .b] [] k0_] k_ (un 1 (.con .val [lf ty0 weights3 .ro] :: (un 3 (.con .val [lf i64 out2 .ro] :: (un 2 (.con .val [lf i64 sum .ro] :: (un 7 (.con .val [lf ty15 t162 .dp] :: (.con .val [lf i64 t172 .ro] :: (.con .val [lf i64 t182 .ro] :: (un 3 (.con .val [⟨ty0, t22, (.bor 16 0 [(t22i, 0)])⟩] :: (.con .val [lf i64 t23 .ro] :: (.con .val [lf i64 t24 .ro] :: (un 15 [])))))))))))))))
noncomputable def El0 (k_ : Nat) (weights2 : I0) (out : Int) (t16 : L0) (t17 : Int) (t18 : Int) : Option (Int) :=
 lP N [.r, .r, .r, .l, .r, .b] [] k_ (un 1 (.con .val [lf ty0 weights2 .ro] :: (un 3 (.con .val [lf i64 out .ro] :: (un 10 (.con .val [lf ty15 t16 .dp] :: (.con .val [lf i64 t17 .ro] :: (.con .val [lf i64 t18 .ro] :: (un 21 [])))))))))
theorem ql1 (N : Nat) (k0_ : Nat) : ∀ k_, El1 N k0_ k_ = Z15 (El0 N k0_) N k_
 | 0 => by kernel_rfl
 | k_ + 1 => (show El1 N k0_ (k_ + 1) = Z3i N (El0 N k0_) (El1 N k0_ k_) from by kernel_rfl).trans (by simp only [ql1 N k0_ k_]; rfl)
theorem ql0 (N : Nat) : ∀ k_, El0 N k_ = Z0x N k_
 | 0 => by kernel_rfl
 | k_ + 1 => (show El0 N (k_ + 1) = Z3j N (El1 N k_ N) (El0 N k_) from by kernel_rfl).trans (by simp only [ql1, ql0 N k_]; rfl)
noncomputable def eE : EnTryz := ⟨77, sG, [.v ty10, .v ty0], _, Z1e N, pk1 i64, enK Tryz.func77 (by kernel_rfl),
 fun db weights => eok (eS N) (by kernel_rfl) Tryz.func77 rfl N an_ rfl (Y4 i64) (.trans (b := Z6h N (El0 N N) db weights) (by kernel_rfl) (by rw [ql0]; rfl))⟩
end Z1e
namespace Z8x
def sG := sgV [.val i64, .val i64] [(i64, .dp)]
noncomputable def eS (N : Nat) : List EnTryz := []
def an_ : Nat -> Option (List Nat)
 | 0 => some [0, 1]
 | _ => none
noncomputable def lP (p : List Dir) (rs : List (Env -> Option (Int))) (k : Nat) (env : Env) : Option (Int) :=
 lpE (eS N) N an_ p Tryz.f142 (endK Tb sG Tryz.f142 [] (un1 i64)) rs k env
noncomputable def El0 (k_ : Nat) (a2 : Int) (b2 : Int) : Option (Int) :=
 lP N [.r, .l, .b] [] k_ (.con .val [lf i64 a2 .ro] :: (.con .val [lf i64 b2 .ro] :: (un 10 [])))
theorem ql0 (N : Nat) : ∀ k_, El0 N k_ = Z8f N k_
 | 0 => by kernel_rfl
 | k_ + 1 => (show El0 N (k_ + 1) = Z9c N (El0 N k_) from by kernel_rfl).trans (by simp only [ql0 N k_]; rfl)
noncomputable def eE : EnTryz := ⟨142, sG, [.v i64, .v i64], _, Z8x N, pk1 i64, enK Tryz.func142 (by kernel_rfl),
 fun a b => eok (eS N) (by kernel_rfl) Tryz.func142 rfl N an_ rfl (Y4 i64) (.trans (b := Z0aa N (El0 N N) a b) (by kernel_rfl) (by rw [ql0]; rfl))⟩
end Z8x
namespace Z4q
def sG := sgV [.val i64, .val i64] [(ty16, .dp)]
noncomputable def eS : List EnTryz := [Z8x.eE N]
noncomputable def eE : EnTryz := ⟨76, sG, [.v i64, .v i64], _, Z4q N, pk1 ty16, enK Tryz.func76 (by kernel_rfl),
 fun a b => eok (eS N) (by kernel_rfl) Tryz.func76 rfl N an0 rfl (Y4 ty16) (by kernel_rfl)⟩
end Z4q
namespace Z39
def sG := sgV [.val ty10, .val ty0, .val ty12] [(ty16, .dp), (.bool, .dp)]
noncomputable def eS : List EnTryz := [Z4a.eE N, Z3h.eE N, Z58.eE N, Z1e.eE N, Z4q.eE N, Z2b.eE N, Z13.eE N, Z49.eE N, Z4i.eE N, Z2s.eE N]
def an_ : Nat -> Option (List Nat)
 | 0 => some [1, 3, 6, 8, 9, 10, 30, 31]
 | _ => none
noncomputable def lP (p : List Dir) (rs : List (Env -> Option ((Int × Int) × Bool))) (k : Nat) (env : Env) : Option ((Int × Int) × Bool) :=
 lpE (eS N) N an_ p Tryz.f20 (endK Tb sG Tryz.f20 [] (un2 ty16 .bool)) rs k env
noncomputable def El0 (k_ : Nat) (weights2 : I0) (db2 : R0) (db3 : A0) (t6 : Int) (t62 : Int) (witnesses : L0) (list : L0) (sum : Int) (t30 : Int) (t31 : Int) : Option ((Int × Int) × Bool) :=
 lP N [.r, .r, .r, .l, .r, .b] [] k_ (un 1 (.con .val [lf ty0 weights2 .ro] :: (un 1 (.con (.box ⟨39, false, []⟩) [lf ty8 db2 .ro, lf ty9 db3 .ro] :: (un 2 (.con (.box ⟨33, false, []⟩) [lf i64 t6 .ro, lf i64 t62 .ro] :: (un 1 (.con .val [lf ty15 witnesses .dp] :: (.con .val [lf ty15 list .dp] :: (.con .val [lf i64 sum .ro] :: (un 19 (.con .val [lf i64 t30 .ro] :: (.con .val [lf i64 t31 .ro] :: (un 19 []))))))))))))))
theorem ql0 (N : Nat) : ∀ k_, El0 N k_ = Z2y N k_
 | 0 => by kernel_rfl
 | k_ + 1 => (show El0 N (k_ + 1) = Z79 N (El0 N k_) from by kernel_rfl).trans (by simp only [ql0 N k_]; rfl)
noncomputable def eE : EnTryz := ⟨20, sG, [.v ty10, .v ty0, .v ty12], _, Z39 N, pk2 ty16 .bool, enK Tryz.func20 (by kernel_rfl),
 fun db weights query => eok (eS N) (by kernel_rfl) Tryz.func20 rfl N an_ rfl (Y4d ty16 .bool) (.trans (b := Z86 N (El0 N N) db weights query) (by kernel_rfl) (by rw [ql0]; rfl))⟩
end Z39
namespace Z51
def sG := sgV [.val ty16, .val ty16] [(.bool, .dp)]
noncomputable def eS (N : Nat) : List EnTryz := []
noncomputable def eE : EnTryz := ⟨21, sG, [.v ty16, .v ty16], _, Z51 N, pk1 .bool, enK Tryz.func21 (by kernel_rfl),
 fun a b => eok (eS N) (by kernel_rfl) Tryz.func21 rfl N an0 rfl (Y4 .bool) (by kernel_rfl)⟩
end Z51
namespace Z3v
def sG := sgV [.val ty1, .val ty1] [(.bool, .dp)]
noncomputable def eS (N : Nat) : List EnTryz := []
noncomputable def eE : EnTryz := ⟨143, sG, [.v ty1, .v ty1], _, Z3v N, pk1 .bool, enK Tryz.func143 (by kernel_rfl),
 fun a b => eok (eS N) (by kernel_rfl) Tryz.func143 rfl N an0 rfl (Y4 .bool) (by kernel_rfl)⟩
end Z3v
namespace Z3a
def sG := sgV [.val ty8, .val ty8] [(.bool, .dp)]
noncomputable def eS : List EnTryz := [Z3v.eE N]
def an_ : Nat -> Option (List Nat)
 | 0 => some [0, 1, 5]
 | _ => none
noncomputable def lP (p : List Dir) (rs : List (Env -> Option (Bool))) (k : Nat) (env : Env) : Option (Bool) :=
 lpE (eS N) N an_ p Tryz.f78 (endK Tb sG Tryz.f78 [] (un1 .bool)) rs k env
noncomputable def El0 (k_ : Nat) (a2 : R0) (b2 : R0) (i : Int) : Option (Bool) :=
 lP N [.r, .r, .l, .r, .b] [] k_ (.con .val [lf ty8 a2 .ro] :: (.con .val [lf ty8 b2 .ro] :: (un 3 (.con .val [lf i64 i .ro] :: (un 21 [])))))
theorem ql0 (N : Nat) : ∀ k_, El0 N k_ = Z2z N k_
 | 0 => by kernel_rfl
 | k_ + 1 => (show El0 N (k_ + 1) = Z52 N (El0 N k_) from by kernel_rfl).trans (by simp only [ql0 N k_]; rfl)
noncomputable def eE : EnTryz := ⟨78, sG, [.v ty8, .v ty8], _, Z3a N, pk1 .bool, enK Tryz.func78 (by kernel_rfl),
 fun a b => eok (eS N) (by kernel_rfl) Tryz.func78 rfl N an_ rfl (Y4 .bool) (.trans (b := Z87 N (El0 N N) a b) (by kernel_rfl) (by rw [ql0]; rfl))⟩
end Z3a
namespace Z24
def sG := sgV [.val ty0, .val ty0] [(.bool, .dp)]
noncomputable def eS (N : Nat) : List EnTryz := []
def an_ : Nat -> Option (List Nat)
 | 0 => some [0, 1, 5]
 | _ => none
noncomputable def lP (p : List Dir) (rs : List (Env -> Option (Bool))) (k : Nat) (env : Env) : Option (Bool) :=
 lpE (eS N) N an_ p Tryz.f23 (endK Tb sG Tryz.f23 [] (un1 .bool)) rs k env
noncomputable def El0 (k_ : Nat) (a2 : I0) (b2 : I0) (i : Int) : Option (Bool) :=
 lP N [.r, .r, .l, .r, .b] [] k_ (.con .val [lf ty0 a2 .ro] :: (.con .val [lf ty0 b2 .ro] :: (un 3 (.con .val [lf i64 i .ro] :: (un 20 [])))))
theorem ql0 (N : Nat) : ∀ k_, El0 N k_ = Z5m N k_
 | 0 => by kernel_rfl
 | k_ + 1 => (show El0 N (k_ + 1) = Z7j N (El0 N k_) from by kernel_rfl).trans (by simp only [ql0 N k_]; rfl)
noncomputable def eE : EnTryz := ⟨23, sG, [.v ty0, .v ty0], _, Z24 N, pk1 .bool, enK Tryz.func23 (by kernel_rfl),
 fun a b => eok (eS N) (by kernel_rfl) Tryz.func23 rfl N an_ rfl (Y4 .bool) (.trans (b := Z9d N (El0 N N) a b) (by kernel_rfl) (by rw [ql0]; rfl))⟩
end Z24
namespace Z6t
def sG := sgV [.val ty3, .val ty3] [(.bool, .dp)]
noncomputable def eS : List EnTryz := [Z24.eE N]
noncomputable def eE : EnTryz := ⟨144, sG, [.v ty3, .v ty3], _, Z6t N, pk1 .bool, enK Tryz.func144 (by kernel_rfl),
 fun a b => eok (eS N) (by kernel_rfl) Tryz.func144 rfl N an0 rfl (Y4 .bool) (by kernel_rfl)⟩
end Z6t
namespace Z61
def sG := sgV [.val ty9, .val ty9] [(.bool, .dp)]
noncomputable def eS : List EnTryz := [Z6t.eE N]
def an_ : Nat -> Option (List Nat)
 | 0 => some [0, 1, 5]
 | _ => none
noncomputable def lP (p : List Dir) (rs : List (Env -> Option (Bool))) (k : Nat) (env : Env) : Option (Bool) :=
 lpE (eS N) N an_ p Tryz.f79 (endK Tb sG Tryz.f79 [] (un1 .bool)) rs k env
noncomputable def El0 (k_ : Nat) (a2 : A0) (b2 : A0) (i : Int) : Option (Bool) :=
 lP N [.r, .r, .l, .r, .b] [] k_ (.con .val [lf ty9 a2 .ro] :: (.con .val [lf ty9 b2 .ro] :: (un 3 (.con .val [lf i64 i .ro] :: (un 21 [])))))
theorem ql0 (N : Nat) : ∀ k_, El0 N k_ = Z53 N k_
 | 0 => by kernel_rfl
 | k_ + 1 => (show El0 N (k_ + 1) = Z71 N (El0 N k_) from by kernel_rfl).trans (by simp only [ql0 N k_]; rfl)
noncomputable def eE : EnTryz := ⟨79, sG, [.v ty9, .v ty9], _, Z61 N, pk1 .bool, enK Tryz.func79 (by kernel_rfl),
 fun a b => eok (eS N) (by kernel_rfl) Tryz.func79 rfl N an_ rfl (Y4 .bool) (.trans (b := Z8y N (El0 N N) a b) (by kernel_rfl) (by rw [ql0]; rfl))⟩
end Z61
namespace Z3w
def sG := sgV [.val ty10, .val ty10] [(.bool, .dp)]
noncomputable def eS : List EnTryz := [Z3a.eE N, Z61.eE N]
noncomputable def eE : EnTryz := ⟨22, sG, [.v ty10, .v ty10], _, Z3w N, pk1 .bool, enK Tryz.func22 (by kernel_rfl),
 fun a b => eok (eS N) (by kernel_rfl) Tryz.func22 rfl N an0 rfl (Y4 .bool) (by kernel_rfl)⟩
end Z3w
namespace Z6u
def sG := sgV [.val ty3, .val ty3] [(.bool, .dp)]
noncomputable def eS : List EnTryz := [Z24.eE N]
noncomputable def eE : EnTryz := ⟨145, sG, [.v ty3, .v ty3], _, Z6u N, pk1 .bool, enK Tryz.func145 (by kernel_rfl),
 fun a b => eok (eS N) (by kernel_rfl) Tryz.func145 rfl N an0 rfl (Y4 .bool) (by kernel_rfl)⟩
end Z6u
namespace Z62
def sG := sgV [.val ty11, .val ty11] [(.bool, .dp)]
noncomputable def eS : List EnTryz := [Z6u.eE N]
def an_ : Nat -> Option (List Nat)
 | 0 => some [0, 1, 5]
 | _ => none
noncomputable def lP (p : List Dir) (rs : List (Env -> Option (Bool))) (k : Nat) (env : Env) : Option (Bool) :=
 lpE (eS N) N an_ p Tryz.f80 (endK Tb sG Tryz.f80 [] (un1 .bool)) rs k env
noncomputable def El0 (k_ : Nat) (a2 : A0) (b2 : A0) (i : Int) : Option (Bool) :=
 lP N [.r, .r, .l, .r, .b] [] k_ (.con .val [lf ty11 a2 .ro] :: (.con .val [lf ty11 b2 .ro] :: (un 3 (.con .val [lf i64 i .ro] :: (un 21 [])))))
theorem ql0 (N : Nat) : ∀ k_, El0 N k_ = Z54 N k_
 | 0 => by kernel_rfl
 | k_ + 1 => (show El0 N (k_ + 1) = Z72 N (El0 N k_) from by kernel_rfl).trans (by simp only [ql0 N k_]; rfl)
noncomputable def eE : EnTryz := ⟨80, sG, [.v ty11, .v ty11], _, Z62 N, pk1 .bool, enK Tryz.func80 (by kernel_rfl),
 fun a b => eok (eS N) (by kernel_rfl) Tryz.func80 rfl N an_ rfl (Y4 .bool) (.trans (b := Z8z N (El0 N N) a b) (by kernel_rfl) (by rw [ql0]; rfl))⟩
end Z62
namespace Z63
def sG := sgV [.val ty12, .val ty12] [(.bool, .dp)]
noncomputable def eS : List EnTryz := [Z62.eE N, Z24.eE N]
noncomputable def eE : EnTryz := ⟨24, sG, [.v ty12, .v ty12], _, Z63 N, pk1 .bool, enK Tryz.func24 (by kernel_rfl),
 fun a b => eok (eS N) (by kernel_rfl) Tryz.func24 rfl N an0 rfl (Y4 .bool) (by kernel_rfl)⟩
end Z63
namespace laws_FnExactProbability
def sG := sgV [.val ty5, .val ty0, .val ty7] [(.bool, .dp)]
noncomputable def eS : List EnTryz := [Z3n.eE N, Z5p.eE N, Z28.eE N, Z1c.eE N, Z3p.eE N, Z38.eE N, Z39.eE N, Z51.eE N, Z3w.eE N, Z24.eE N, Z63.eE N]
noncomputable def eE : EnTryz := ⟨3, sG, [.v ty5, .v ty0, .v ty7], _, laws_FnExactProbability N, pk1 .bool, enK Tryz.func3 (by kernel_rfl),
 fun aDb aWeights aQuery => eok (eS N) (by kernel_rfl) Tryz.func3 rfl N an0 rfl (Y4 .bool) (by kernel_rfl)⟩
end laws_FnExactProbability
end Go.PL
