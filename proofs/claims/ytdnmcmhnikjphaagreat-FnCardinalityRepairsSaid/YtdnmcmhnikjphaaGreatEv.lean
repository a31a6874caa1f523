/- What the machine does at each function is what the plain reading says. Conditions: none. -/
import Derived.Test.YtdnmcmhnikjphaaGreatFpG
import Derived.Test.YtdnmcmhnikjphaaGreatPlA
import Derived.Test.YtdnmcmhnikjphaaGreatProg

set_option linter.unusedVariables false
set_option linter.unusedSimpArgs false
set_option linter.unnecessarySimpa false

namespace Go.Proofs
open Go.Shelf
open Go.RowKit Go.Lib
def Tryz.lays189_ren : Go.Shelf.Ren := ⟨fun | 189 => 138 | 125 => 188 | 257 => 187 | 128 => 228 | 129 => 229 | 294 => 219 | 295 => 220 | 296 => 221 | 297 => 222 | 298 => 223 | 299 => 224 | 216 => 225 | 300 => 226 | 301 => 227 | 328 => 242 | 329 => 243 | 330 => 244 | 331 => 245 | 332 => 246 | 215 => 247 | 343 => 252 | n => n, fun | 28 => 26 | 3 => 3 | 46 => 194 | 0 => 0 | 51 => 221 | 53 => 223 | 4 => 4 | 183 => 214 | 182 => 213 | 131 => 218 | 5 => 5 | 9 => 9 | 218 => 232 | 222 => 236 | 228 => 244 | 229 => 73 | n => n, fun | n => n⟩
theorem Tryz.lays189 : Go.Proofs.Lays.n189 Tryz.prog Tryz.lays189_ren := {
 mixed := by kernel_rfl
 f125 := Tryz.func188.trans (congrArg some (by kernel_rfl))
 f128 := Tryz.func228.trans (congrArg some (by kernel_rfl))
 f129 := Tryz.func229.trans (congrArg some (by kernel_rfl))
 f189 := Tryz.func138.trans (congrArg some (by kernel_rfl))
 f215 := Tryz.func247.trans (congrArg some (by kernel_rfl))
 f216 := Tryz.func225.trans (congrArg some (by kernel_rfl))
 f257 := Tryz.func187.trans (congrArg some (by kernel_rfl))
 f294 := Tryz.func219.trans (congrArg some (by kernel_rfl))
 f295 := Tryz.func220.trans (congrArg some (by kernel_rfl))
 f296 := Tryz.func221.trans (congrArg some (by kernel_rfl))
 f297 := Tryz.func222.trans (congrArg some (by kernel_rfl))
 f298 := Tryz.func223.trans (congrArg some (by kernel_rfl))
 f299 := Tryz.func224.trans (congrArg some (by kernel_rfl))
 f300 := Tryz.func226.trans (congrArg some (by kernel_rfl))
 f301 := Tryz.func227.trans (congrArg some (by kernel_rfl))
 f328 := Tryz.func242.trans (congrArg some (by kernel_rfl))
 f329 := Tryz.func243.trans (congrArg some (by kernel_rfl))
 f330 := Tryz.func244.trans (congrArg some (by kernel_rfl))
 f331 := Tryz.func245.trans (congrArg some (by kernel_rfl))
 f332 := Tryz.func246.trans (congrArg some (by kernel_rfl))
 f343 := Tryz.func252.trans (congrArg some (by kernel_rfl))
 t0 := Tryz.underlying0
 a0 := Tryz.isAgg0
 z0 := Tryz.sizeOf0
 v0 := Tryz.zeroValue0
 t3 := Tryz.underlying3
 a3 := Tryz.isAgg3
 z3 := Tryz.sizeOf3
 v3 := Tryz.zeroValue3
 t4 := Tryz.underlying4
 a4 := Tryz.isAgg4
 z4 := Tryz.sizeOf4
 v4 := Tryz.zeroValue4
 t5 := Tryz.underlying5
 a5 := Tryz.isAgg5
 z5 := Tryz.sizeOf5
 v5 := Tryz.zeroValue5
 t9 := Tryz.underlying9
 a9 := Tryz.isAgg9
 z9 := Tryz.sizeOf9
 v9 := Tryz.zeroValue9
 t28 := Tryz.underlying26
 a28 := Tryz.isAgg26
 z28 := Tryz.sizeOf26
 v28 := Tryz.zeroValue26
 t46 := Tryz.underlying194
 a46 := Tryz.isAgg194
 z46 := Tryz.sizeOf194
 v46 := Tryz.zeroValue194
 t51 := Tryz.underlying221
 a51 := Tryz.isAgg221
 z51 := Tryz.sizeOf221
 v51 := Tryz.zeroValue221
 t53 := Tryz.underlying223
 a53 := Tryz.isAgg223
 z53 := Tryz.sizeOf223
 v53 := Tryz.zeroValue223
 t131 := Tryz.underlying218
 a131 := Tryz.isAgg218
 z131 := Tryz.sizeOf218
 v131 := Tryz.zeroValue218
 t182 := Tryz.underlying213
 a182 := Tryz.isAgg213
 z182 := Tryz.sizeOf213
 v182 := Tryz.zeroValue213
 t183 := Tryz.underlying214
 a183 := Tryz.isAgg214
 z183 := Tryz.sizeOf214
 v183 := Tryz.zeroValue214
 t218 := Tryz.underlying232
 a218 := Tryz.isAgg232
 z218 := Tryz.sizeOf232
 v218 := Tryz.zeroValue232
 t222 := Tryz.underlying236
 a222 := Tryz.isAgg236
 z222 := Tryz.sizeOf236
 v222 := Tryz.zeroValue236
 t228 := Tryz.underlying244
 a228 := Tryz.isAgg244
 z228 := Tryz.sizeOf244
 v228 := Tryz.zeroValue244
 t229 := Tryz.underlying73
 a229 := Tryz.isAgg73
 z229 := Tryz.sizeOf73
 v229 := Tryz.zeroValue73 }
def Tryz.lays212_ren : Go.Shelf.Ren := ⟨fun | 212 => 241 | 263 => 250 | 264 => 251 | n => n, fun | 46 => 194 | 51 => 221 | 146 => 240 | 53 => 223 | 148 => 242 | n => n, fun | n => n⟩
theorem Tryz.lays212 : Go.Proofs.Lays.n212 Tryz.prog Tryz.lays212_ren := {
 mixed := by kernel_rfl
 f212 := Tryz.func241.trans (congrArg some (by kernel_rfl))
 f263 := Tryz.func250.trans (congrArg some (by kernel_rfl))
 f264 := Tryz.func251.trans (congrArg some (by kernel_rfl))
 t46 := Tryz.underlying194
 a46 := Tryz.isAgg194
 z46 := Tryz.sizeOf194
 v46 := Tryz.zeroValue194
 t51 := Tryz.underlying221
 a51 := Tryz.isAgg221
 z51 := Tryz.sizeOf221
 v51 := Tryz.zeroValue221
 t53 := Tryz.underlying223
 a53 := Tryz.isAgg223
 z53 := Tryz.sizeOf223
 v53 := Tryz.zeroValue223
 t146 := Tryz.underlying240
 a146 := Tryz.isAgg240
 z146 := Tryz.sizeOf240
 v146 := Tryz.zeroValue240
 t148 := Tryz.underlying242
 a148 := Tryz.isAgg242
 z148 := Tryz.sizeOf242
 v148 := Tryz.zeroValue242 }
def Tryz.laysNm220_ren : Go.Shelf.Ren := ⟨fun | 20 => 215 | n => n, fun | 22 => 26 | 3 => 3 | 4 => 4 | 0 => 0 | n => n, fun | n => n⟩
theorem Tryz.laysNm220 : Go.Proofs.Lays2.n20 Tryz.prog Tryz.laysNm220_ren := {
 mixed := by kernel_rfl
 f20 := Tryz.func215.trans (congrArg some (by kernel_rfl))
 t0 := Tryz.underlying0
 a0 := Tryz.isAgg0
 z0 := Tryz.sizeOf0
 v0 := Tryz.zeroValue0
 t3 := Tryz.underlying3
 a3 := Tryz.isAgg3
 z3 := Tryz.sizeOf3
 v3 := Tryz.zeroValue3
 t4 := Tryz.underlying4
 a4 := Tryz.isAgg4
 z4 := Tryz.sizeOf4
 v4 := Tryz.zeroValue4
 t22 := Tryz.underlying26
 a22 := Tryz.isAgg26
 z22 := Tryz.sizeOf26
 v22 := Tryz.zeroValue26
 i3 := by kernel_rfl }
set_option maxHeartbeats 1000000 in
set_option maxRecDepth 100000 in
theorem repeat_walk
  (n : Nat) (hn : n * 8 <= 140737488355328) (ad : Addr) (cx : Nat) (v : Int) (w : World) (hc : w.cell? ad = some (.int .i64 v)) :
  Calls Tryz.prog 218 #[.slice (some ad) 1 cx, .int .i64 (n : Int)] w fun e w' => e = .returned (.slice (some ⟨w.heap.size, 0, none⟩) n n) /\ ∃ m, w' = (Go.Sort.ahead w m).alloc (.cells (Array.replicate n (.int .i64 v)) 3) := by
 have mixed : Tryz.prog.follows .mixedOrders = true := by decide
 have t3 := Tryz.underlying3
 have a3 := Tryz.isAgg3
 have z3 := Tryz.sizeOf3
 have t4 := Tryz.underlying4
 have t26 := Tryz.underlying26
 have a26 := Tryz.isAgg26
 have z26 := Tryz.sizeOf26
 have v26 := Tryz.zeroValue26
 have t191 := Tryz.underlying194
 have e241 := fun args w => Tryz.call241 args w
 have hinfo : (Tryz.prog.info? 3).map (fun i => (i.zero, i.size, i.bytes)) = some (some (.int .i64 0), 1, 8) := by kernel_rfl
 have hM : Calls Tryz.prog 241 #[.int .u64 1, .int .u64 (n : Int)] w fun e w' => e = .returned (.tuple #[.int .u64 0, .int .u64 (n : Int)]) /\ w' = w := by
  have h := Any.bits_Mul Tryz.lays212 1 n (by omega) (by omega) w
  rw [show Tryz.lays212_ren.f 212 = 241 from rfl, Nat.one_mul, Nat.div_eq_of_lt (by omega), Nat.mod_eq_of_lt (by omega)] at h
  exact h
 have hmk := run_make_row' (P := Tryz.prog) 26 3 (.int .i64 0) 8 t26 hinfo rfl .i64 .i64 n (by omega) (by omega)
 go_enter Tryz.func218, Tryz.ntmps218
 have hsz : (Tryz.prog.info? 3).map (·.size) = some 1 := by
  cases h : Tryz.prog.info? 3 with
  | none => rw [h] at hinfo; cases hinfo
  | some i => rw [h] at hinfo; simp at hinfo; simp [hinfo.2.1]
 have hcp1 := fun (ty : TypeId) => Yd0 (n := n) (cx := cx) (v := v) t26 hsz hc ty
 have hcpk := fun (k : Nat) (hk : k <= n) (cx cy : Nat) (ty : TypeId) => Y8w (w := w) (v := v) t26 hsz hk cx cy ty
 go_wp2_with (first
  | (go_at_call 241; go_fit hM; rintro e w' ⟨rfl, hw⟩; rw [hw])
  | (refine wpList_copy_runI _ rfl (.tmp 31) (.tmp 32) 26 26 rfl _ _ rfl rfl (hcp1 _) ?_))
 go_loopg [8] (n - min 1 n) (fun g s8 wx => ∃ k m : Nat, min 1 n <= k /\ k <= n /\ g = n - k /\ s8 = .int .i64 (k : Int) /\ wx = (Go.Sort.ahead w m).alloc (.cells (repRow n v k).toArray 3))
 case atStart => exact ⟨min 1 n, 0, Nat.le_refl _, by omega, rfl, rfl, rfl⟩
 case round =>
  obtain ⟨k, m, hk1, hk2, hkg, rfl, hwr⟩ := hrel
  by_cases hlt : (k : Int) < (n : Int)
  ·have A : Aside (wr = (Go.Sort.ahead w m).alloc (.cells (repRow n v k).toArray 3)) := hwr
   clear hwr hcp1 hmk
   go_wp2_with fail
   have hcp := fun (ty : TypeId) => Y8w (P := Tryz.prog) (w := Go.Sort.ahead w (m + 1)) (n := n) (k := k) (v := v) t26 hsz (by omega) (n - k) n ty
   have hW : wr.drew = (Go.Sort.ahead w (m + 1)).alloc (.cells (repRow n v k).toArray 3) := by rw [A.out]; rfl
   rw [<- hW] at hcp
   go_region_law_o (refine step_copy_runI rfl _ _ 26 26 rfl (.slice (some ⟨w.heap.size, k, none⟩) (n - k) (n - k)) (.slice (some ⟨w.heap.size, 0, none⟩) k n) (by simp [Act.eval, Act.put]; try omega) (by simp [Act.eval, Act.put]; try omega) (hcp _) ?_)
   go_wp2
   go_roundg (n - (k + min k (n - k)))
   case measure => omega
   case rel => exact ⟨k + min k (n - k), m + 1, by omega, by omega, rfl, by
     congr 1
     rw [IntKind.wrap_i64]
     omega, rfl⟩
  ·obtain rfl : k = n := by omega
   go_wp2
   go_ret
   refine ⟨rfl, m, ?_⟩
   simp [repRow]
theorem repeat_said : Go.FP.RepeatSaid Tryz.prog 218 3 := fun n ad cx v w hn hc => repeat_walk n hn ad cx v w hc
end Go.Proofs
namespace Go.PL
noncomputable section
open Go.FP Go.Proofs Go.Shelf
set_option maxRecDepth 10000
variable (N : Nat)
abbrev i64 : Ty := .int .i64
abbrev ty0 : Ty := (.slice 3 i64)
abbrev ty1 : Ty := (.slice 5 (.int .u8))
abbrev ty2 : Ty := (.pair (.slice 5 (.int .u8)) (.pair i64 i64))
abbrev ty3 : Ty := (.slice 142 (.pair .str (.pair i64 i64)))
abbrev ty4 : Ty := (.pair i64 (.slice 3 i64))
abbrev ty5 : Ty := (.pair (.slice 142 (.pair .str (.pair i64 i64))) (.slice 110 (.pair i64 (.slice 3 i64))))
abbrev ty6 : Ty := (.slice 110 (.pair i64 (.slice 3 i64)))
abbrev ty7 : Ty := (.pair .str (.pair i64 i64))
abbrev ty8 : Ty := (.pair i64 (.pair (.slice 145 (.pair i64 (.slice 3 i64))) (.slice 3 i64)))
abbrev ty9 : Ty := (.slice 145 (.pair i64 (.slice 3 i64)))
abbrev ty10 : Ty := (.slice 9 .str)
abbrev ty11 : Ty := (.slice 4 .bool)
abbrev ty12 : Ty := (.pair i64 (.pair i64 (.pair i64 (.pair i64 (.pair i64 (.pair i64 i64))))))
abbrev ty13 : Ty := (.slice 117 (.pair i64 (.pair i64 (.pair i64 (.pair i64 (.pair i64 (.pair i64 i64)))))))
abbrev ty14 : Ty := (.slice 119 (.pair i64 i64))
abbrev ty15 : Ty := (.pair i64 i64)
abbrev ty16 : Ty := (.slice 26 (.slice 3 i64))
abbrev ty17 : Ty := (.slice 159 (.pair (.slice 3 i64) (.slice 3 i64)))
abbrev ty18 : Ty := (.pair (.slice 3 i64) (.slice 3 i64))
def Tb : Tab := [⟨3, i64, 8, [], false, false⟩,
 ⟨4, .bool, 1, [], false, false⟩,
 ⟨5, (.int .u8), 1, [], false, false⟩,
 ⟨9, .str, 16, [], false, false⟩,
 ⟨26, ty0, 24, [], false, false⟩,
 ⟨36, ty3, 24, [], false, false⟩,
 ⟨37, ty6, 24, [], false, false⟩,
 ⟨39, ty5, 48, [(0, 36), (1, 37)], false, false⟩,
 ⟨42, ty9, 24, [], false, false⟩,
 ⟨44, ty8, 56, [(0, 3), (1, 42), (2, 26)], false, false⟩,
 ⟨51, ty1, 24, [], false, false⟩,
 ⟨57, ty13, 24, [], false, false⟩,
 ⟨60, ty16, 24, [], false, false⟩,
 ⟨69, ty14, 24, [], false, false⟩,
 ⟨110, ty4, 32, [(0, 3), (1, 26)], false, false⟩,
 ⟨117, ty12, 56, [(0, 3), (1, 3), (2, 3), (3, 3), (4, 3), (5, 3), (6, 3)], false, false⟩,
 ⟨119, ty15, 16, [(0, 3), (1, 3)], false, false⟩,
 ⟨121, ty17, 24, [], false, false⟩,
 ⟨142, ty7, 32, [(0, 9), (1, 3), (2, 3)], false, false⟩,
 ⟨145, ty4, 32, [(0, 3), (1, 26)], false, false⟩,
 ⟨159, ty18, 48, [(0, 26), (1, 26)], false, false⟩,
 ⟨174, ty11, 24, [], false, false⟩,
 ⟨177, ty2, 40, [(0, 51), (1, 3), (2, 3)], false, false⟩,
 ⟨207, ty10, 24, [], false, false⟩,
 ⟨171, .bool, 8, [], true, false⟩,
 ⟨190, .bool, 8, [], true, false⟩]
theorem tab_ok : TabOk Tryz.prog Tb :=
 (Ye (TEOk.plain (i := Tryz.t3) (by kernel_rfl) rfl rfl (by kernel_rfl) rfl rfl rfl Tryz.underlying3)
 (Ye (TEOk.plain (i := Tryz.t4) (by kernel_rfl) rfl rfl (by kernel_rfl) rfl rfl rfl Tryz.underlying4)
 (Ye (TEOk.plain (i := Tryz.t5) (by kernel_rfl) rfl rfl (by kernel_rfl) rfl rfl rfl Tryz.underlying5)
 (Ye (TEOk.plain (i := Tryz.t9) (by kernel_rfl) rfl rfl (by kernel_rfl) rfl rfl rfl Tryz.underlying9)
 (Ye (TEOk.plain (i := Tryz.t26) (by kernel_rfl) rfl rfl (by kernel_rfl) rfl rfl rfl Tryz.underlying26)
 (Ye (TEOk.plain (i := Tryz.t36) (by kernel_rfl) rfl rfl (by kernel_rfl) rfl rfl rfl Tryz.underlying36)
 (Ye (TEOk.plain (i := Tryz.t37) (by kernel_rfl) rfl rfl (by kernel_rfl) rfl rfl rfl Tryz.underlying37)
 (Ye (TEOk.struct (i := Tryz.t39) (pl := [(0, 1), (1, 1)]) (by kernel_rfl) rfl rfl (by kernel_rfl) Tryz.underlying39 (by kernel_rfl) (by kernel_rfl) rfl rfl (fun h => by cases h))
 (Ye (TEOk.plain (i := Tryz.t42) (by kernel_rfl) rfl rfl (by kernel_rfl) rfl rfl rfl Tryz.underlying42)
 (Ye (TEOk.struct (i := Tryz.t44) (pl := [(0, 1), (1, 1), (2, 1)]) (by kernel_rfl) rfl rfl (by kernel_rfl) Tryz.underlying44 (by kernel_rfl) (by kernel_rfl) rfl rfl (fun h => by cases h))
 (Ye (TEOk.plain (i := Tryz.t51) (by kernel_rfl) rfl rfl (by kernel_rfl) rfl rfl rfl Tryz.underlying51)
 (Ye (TEOk.plain (i := Tryz.t57) (by kernel_rfl) rfl rfl (by kernel_rfl) rfl rfl rfl Tryz.underlying57)
 (Ye (TEOk.plain (i := Tryz.t60) (by kernel_rfl) rfl rfl (by kernel_rfl) rfl rfl rfl Tryz.underlying60)
 (Ye (TEOk.plain (i := Tryz.t69) (by kernel_rfl) rfl rfl (by kernel_rfl) rfl rfl rfl Tryz.underlying69)
 (Ye (TEOk.struct (i := Tryz.t110) (pl := [(0, 1), (1, 1)]) (by kernel_rfl) rfl rfl (by kernel_rfl) Tryz.underlying110 (by kernel_rfl) (by kernel_rfl) rfl rfl (fun h => by cases h))
 (Ye (TEOk.struct (i := Tryz.t117) (pl := [(0, 1), (1, 1), (2, 1), (3, 1), (4, 1), (5, 1), (6, 1)]) (by kernel_rfl) rfl rfl (by kernel_rfl) Tryz.underlying117 (by kernel_rfl) (by kernel_rfl) rfl rfl (fun h => by cases h))
 (Ye (TEOk.struct (i := Tryz.t119) (pl := [(0, 1), (1, 1)]) (by kernel_rfl) rfl rfl (by kernel_rfl) Tryz.underlying119 (by kernel_rfl) (by kernel_rfl) rfl rfl (fun h => by cases h))
 (Ye (TEOk.plain (i := Tryz.t121) (by kernel_rfl) rfl rfl (by kernel_rfl) rfl rfl rfl Tryz.underlying121)
 (Ye (TEOk.struct (i := Tryz.t142) (pl := [(0, 1), (1, 1), (2, 1)]) (by kernel_rfl) rfl rfl (by kernel_rfl) Tryz.underlying142 (by kernel_rfl) (by kernel_rfl) rfl rfl (fun h => by cases h))
 (Ye (TEOk.struct (i := Tryz.t145) (pl := [(0, 1), (1, 1)]) (by kernel_rfl) rfl rfl (by kernel_rfl) Tryz.underlying145 (by kernel_rfl) (by kernel_rfl) rfl rfl (fun h => by cases h))
 (Ye (TEOk.struct (i := Tryz.t159) (pl := [(0, 1), (1, 1)]) (by kernel_rfl) rfl rfl (by kernel_rfl) Tryz.underlying159 (by kernel_rfl) (by kernel_rfl) rfl rfl (fun h => by cases h))
 (Ye (TEOk.plain (i := Tryz.t174) (by kernel_rfl) rfl rfl (by kernel_rfl) rfl rfl rfl Tryz.underlying174)
 (Ye (TEOk.struct (i := Tryz.t177) (pl := [(0, 1), (1, 1), (2, 1)]) (by kernel_rfl) rfl rfl (by kernel_rfl) Tryz.underlying177 (by kernel_rfl) (by kernel_rfl) rfl rfl (fun h => by cases h))
 (Ye (TEOk.plain (i := Tryz.t207) (by kernel_rfl) rfl rfl (by kernel_rfl) rfl rfl rfl Tryz.underlying207)
 (Ye (TEOk.ofFn (i := Tryz.t171) (z := (Tryz.t171.zero).getD default) (by kernel_rfl) rfl (by kernel_rfl) (by kernel_rfl) Tryz.underlying171 rfl rfl)
 (Ye (TEOk.ofFn (i := Tryz.t190) (z := (Tryz.t190.zero).getD default) (by kernel_rfl) rfl (by kernel_rfl) (by kernel_rfl) Tryz.underlying190 rfl rfl)
 Yf1))))))))))))))))))))))))))
theorem mixed : Tryz.prog.follows .mixedOrders = true := by decide
def cps : FuncId -> List Ty := capsL [(162, [i64, ty14, .bool, .bool]), (167, [ty13, ty5]), (180, [ty4]), (184, [ty8, .bool, ty5, .bool]), (205, [ty0]), (231, [])]
def cpsS : FuncId -> List Ty := fun f => if f = 1000000007 then [.unit] else cps f
def cpsK : FuncId -> List Ty := fun f => if f = 1000000009 then [.unit] else cps f
section
variable {R : Type} (es : List (Entry Tryz.prog)) (N : Nat) (an : Nat -> Option (List Nat))
abbrev evE (sg : Sig) (fn : Func) (args : List RV) (K : List (Σ t : Ty, t.D) -> Option R) : Option R :=
 evFn Tb (sigL es) cps (orcL es) (drawReg Tb (sigL es) cps (orcL es)) N an sg fn (fn.body.getD .skip) args K
abbrev evES (sg : Sig) (fn : Func) (args : List RV) (K : List (Σ t : Ty, t.D) -> Option R) : Option R :=
 evFn Tb (sigL es) cpsS (orcL es) (drawReg Tb (sigL es) cpsS (orcL es)) N an sg fn (fn.body.getD .skip) args K
abbrev lpES (p : List Dir) (fn : Func) (K : Exit -> Env -> Option R) (rs : List (Env -> Option R)) (k : Nat) (env : Env) : Option R :=
 loopAt Tb (sigL es) cpsS (orcL es) N an p (fn.body.getD .skip) K rs k env
abbrev evEK (sg : Sig) (fn : Func) (args : List RV) (K : List (Σ t : Ty, t.D) -> Option R) : Option R :=
 evFn Tb (sigL es) cpsK (orcL es) (drawReg Tb (sigL es) cpsK (orcL es)) N an sg fn (fn.body.getD .skip) args K
abbrev lpEK (p : List Dir) (fn : Func) (K : Exit -> Env -> Option R) (rs : List (Env -> Option R)) (k : Nat) (env : Env) : Option R :=
 loopAt Tb (sigL es) cpsK (orcL es) N an p (fn.body.getD .skip) K rs k env
abbrev evB (sg : Sig) (b : BoxSig) (fn : Func) (args : List RV) (K : List (Σ t : Ty, t.D) -> Option R) : Option R :=
 evFnB Tb (sigL es) cps (orcL es) (drawReg Tb (sigL es) cps (orcL es)) N an sg b fn (fn.body.getD .skip) args K
abbrev evG (k : Nat) (sg : Sig) (fn : Func) (args : List RV) (K : List (Σ t : Ty, t.D) -> Option R) : Option R :=
 evFnG Tb (sigL es) cps (orcL es) (drawReg Tb (sigL es) cps (orcL es)) N an k sg fn (fn.body.getD .skip) args K
abbrev evN (id : TypeId) (t : Ty) (rs : List (Ty × Lvl)) (fn : Func) (args : List RV) (K : List (Σ t : Ty, t.D) -> Option R) : Option R :=
 evFnN Tb (sigL es) cps (orcL es) (drawReg Tb (sigL es) cps (orcL es)) N an id t rs fn (fn.body.getD .skip) args K
abbrev lpE (p : List Dir) (fn : Func) (K : Exit -> Env -> Option R) (rs : List (Env -> Option R)) (k : Nat) (env : Env) : Option R :=
 loopAt Tb (sigL es) cps (orcL es) N an p (fn.body.getD .skip) K rs k env
end
abbrev EnTryz := Entry Tryz.prog
theorem qL {α : Type} {E f : Nat -> α} (B : α -> α) (h0 : E 0 = f 0 := by kernel_rfl) (h1 : ∀ k, E (k + 1) = B (E k) := by intro k; kernel_rfl) (h2 : ∀ k, f (k + 1) = B (f k) := by intro k; rfl) : ∀ k, E k = f k
 | 0 => h0
 | k + 1 => by rw [h1, h2, qL B h0 h1 h2 k]
theorem tq {α : Type} {a b c : α} (h2 : b = c) (h1 : a = b := by kernel_rfl) : a = c := h1.trans h2
abbrev cr (t : Ty) (x : t.D) : AV := .con .val [lf t x .ro]
abbrev cd (t : Ty) (x : t.D) : AV := .con .val [lf t x .dp]
def an0 : Nat -> Option (List Nat) := fun _ => none
def sgV (ps : List PTy) (rs : List (Ty × Lvl)) : Sig := ⟨ps, rs, false, false, none, none, none⟩
theorem enK {f : FuncId} {fn : Func} (hf : Tryz.prog.funcs[f]? = some fn) (h : (fn.body.isNone || fn.name == "runtime.NumGoroutine") = false := by kernel_rfl) : Enterable Tryz.prog f := ⟨fn, hf, (Bool.or_eq_false_iff.1 h).1, (Bool.or_eq_false_iff.1 h).2⟩
def plG (sg : Sig) : Bool := sg.box.isNone && (sg.newb.isNone && (!sg.muts && !sg.own))
theorem eok (es : List (Entry Tryz.prog)) (ha : agreeL es = true) {f : FuncId} {fn : Func} (hf : Tryz.prog.funcs[f]? = some fn) (hb : fn.body.isSome = true) (N : Nat) (an : Nat -> Option (List Nat)) {sg : Sig} (hs : plG sg = true) {args : List RV} {α : Type} {un : List (Σ t : Ty, t.D) -> Option α} {pk : α -> List (Σ t : Ty, t.D)} (hu : ∀ r xs, un xs = some r -> xs = pk r) {q : Option α} (h : evE es N an sg fn args un = q) :
  ∀ x, q = some x -> FnOk Tryz.prog f sg args (pk x) := by
 obtain ⟨ps, rs, m, o, b, n, g⟩ := sg
 simp only [plG, Bool.and_eq_true, Bool.not_eq_true', Option.isNone_iff_eq_none] at hs
 obtain ⟨rfl, rfl, rfl, rfl⟩ := hs
 exact Y4a tab_ok ha mixed hf (by cases h : fn.body with | none => rw [h] at hb; cases hb | some c => rfl) ⟨⟨rfl, rfl⟩, rfl, rfl⟩ hu h
theorem eo (es : List (Entry Tryz.prog)) {f : FuncId} {fn : Func} (hf : Tryz.prog.funcs[f]? = some fn) (N : Nat) (an : Nat -> Option (List Nat)) {sg : Sig} {args : List RV} {α : Type} {un : List (Σ t : Ty, t.D) -> Option α} {pk : α -> List (Σ t : Ty, t.D)} (hu : ∀ r xs, un xs = some r -> xs = pk r) {q : Option α} (h : evE es N an sg fn args un = q := by kernel_rfl) (ha : agreeL es = true := by kernel_rfl) (hb : fn.body.isSome = true := by rfl) (hs : plG sg = true := by rfl) : ∀ x, q = some x -> FnOk Tryz.prog f sg args (pk x) := eok es ha hf hb N an hs hu h
theorem eokS (es : List (Entry Tryz.prog)) (ha : agreeL es = true) {f : FuncId} {fn : Func} (hf : Tryz.prog.funcs[f]? = some fn) (hb : fn.body.isSome = true) (N : Nat) (an : Nat -> Option (List Nat)) {sg : Sig} (hs : plG sg = true) {args : List RV} {α : Type} {un : List (Σ t : Ty, t.D) -> Option α} {pk : α -> List (Σ t : Ty, t.D)} (hu : ∀ r xs, un xs = some r -> xs = pk r) {q : Option α} (h : evES es N an sg fn args un = q) :
  ∀ x, q = some x -> FnOk Tryz.prog f sg args (pk x) := by
 obtain ⟨ps, rs, m, o, b, n, g⟩ := sg
 simp only [plG, Bool.and_eq_true, Bool.not_eq_true', Option.isNone_iff_eq_none] at hs
 obtain ⟨rfl, rfl, rfl, rfl⟩ := hs
 exact Y4a tab_ok ha mixed hf (by cases h : fn.body with | none => rw [h] at hb; cases hb | some c => rfl) ⟨⟨rfl, rfl⟩, rfl, rfl⟩ hu h
theorem eoS (es : List (Entry Tryz.prog)) {f : FuncId} {fn : Func} (hf : Tryz.prog.funcs[f]? = some fn) (N : Nat) (an : Nat -> Option (List Nat)) {sg : Sig} {args : List RV} {α : Type} {un : List (Σ t : Ty, t.D) -> Option α} {pk : α -> List (Σ t : Ty, t.D)} (hu : ∀ r xs, un xs = some r -> xs = pk r) {q : Option α} (h : evES es N an sg fn args un = q := by kernel_rfl) (ha : agreeL es = true := by kernel_rfl) (hb : fn.body.isSome = true := by rfl) (hs : plG sg = true := by rfl) : ∀ x, q = some x -> FnOk Tryz.prog f sg args (pk x) := eokS es ha hf hb N an hs hu h
theorem eokK (es : List (Entry Tryz.prog)) (ha : agreeL es = true) {f : FuncId} {fn : Func} (hf : Tryz.prog.funcs[f]? = some fn) (hb : fn.body.isSome = true) (N : Nat) (an : Nat -> Option (List Nat)) {sg : Sig} (hs : plG sg = true) {args : List RV} {α : Type} {un : List (Σ t : Ty, t.D) -> Option α} {pk : α -> List (Σ t : Ty, t.D)} (hu : ∀ r xs, un xs = some r -> xs = pk r) {q : Option α} (h : evEK es N an sg fn args un = q) :
  ∀ x, q = some x -> FnOk Tryz.prog f sg args (pk x) := by
 obtain ⟨ps, rs, m, o, b, n, g⟩ := sg
 simp only [plG, Bool.and_eq_true, Bool.not_eq_true', Option.isNone_iff_eq_none] at hs
 obtain ⟨rfl, rfl, rfl, rfl⟩ := hs
 exact Y4a tab_ok ha mixed hf (by cases h : fn.body with | none => rw [h] at hb; cases hb | some c => rfl) ⟨⟨rfl, rfl⟩, rfl, rfl⟩ hu h
theorem eoK (es : List (Entry Tryz.prog)) {f : FuncId} {fn : Func} (hf : Tryz.prog.funcs[f]? = some fn) (N : Nat) (an : Nat -> Option (List Nat)) {sg : Sig} {args : List RV} {α : Type} {un : List (Σ t : Ty, t.D) -> Option α} {pk : α -> List (Σ t : Ty, t.D)} (hu : ∀ r xs, un xs = some r -> xs = pk r) {q : Option α} (h : evEK es N an sg fn args un = q := by kernel_rfl) (ha : agreeL es = true := by kernel_rfl) (hb : fn.body.isSome = true := by rfl) (hs : plG sg = true := by rfl) : ∀ x, q = some x -> FnOk Tryz.prog f sg args (pk x) := eokK es ha hf hb N an hs hu h
theorem Z0c4 : Bears Tryz.prog 164 (SlBodyN.n41 (renL 164 0 3 4 26 3)) := ⟨Tryz.f164.name, by kernel_rfl, Tryz.func164.trans (congrArg some (by kernel_rfl))⟩
def Z56 : Entry Tryz.prog := ⟨164, ⟨[.val ty0], [(ty0, .dp)], false, false, none, none, none⟩, [.v ty0], I0, Z14 N, pk1 ty0, Y1z Tryz.func164 (code := Tryz.f164.body.getD .skip) (by kernel_rfl) (by kernel_rfl),
 fun s q h => Ydm tab_ok mixed Z0c4 (by kernel_rfl) Tryz.underlying4 (te := ⟨3, i64, 8, [], false, false⟩) (by kernel_rfl) rfl rfl h⟩
def lay_Grow_ren : Ren := ⟨fun _ => 240, fun | 0 => 0 | 3 => 3 | 4 => 4 | 9 => 9 | 20 => 20 | 22 => 26 | _ => 3, id⟩
theorem lay_Grow : Lays8.n4 Tryz.prog lay_Grow_ren := {
 mixed := by kernel_rfl
 f4 := ⟨Tryz.f240.name, by kernel_rfl, Tryz.func240.trans (congrArg some (by kernel_rfl))⟩
 t0 := Tryz.underlying0
 a0 := Tryz.isAgg0
 z0 := Tryz.sizeOf0
 v0 := Tryz.zeroValue0
 t3 := Tryz.underlying3
 a3 := Tryz.isAgg3
 z3 := Tryz.sizeOf3
 v3 := Tryz.zeroValue3
 t4 := Tryz.underlying4
 a4 := Tryz.isAgg4
 z4 := Tryz.sizeOf4
 v4 := Tryz.zeroValue4
 t9 := Tryz.underlying9
 a9 := Tryz.isAgg9
 z9 := Tryz.sizeOf9
 v9 := Tryz.zeroValue9
 t20 := Tryz.underlying20
 a20 := Tryz.isAgg20
 z20 := Tryz.sizeOf20
 v20 := Tryz.zeroValue20
 t22 := Tryz.underlying26
 a22 := Tryz.isAgg26
 z22 := Tryz.sizeOf26
 v22 := Tryz.zeroValue26 }
def Z0cg : Entry Tryz.prog := ⟨240, ⟨[.val ty0, .val i64], [(ty0, .dp)], true, true, none, none, none⟩, [.v ty0, .v i64], I0, Z8g N, pk1 ty0, Y1z Tryz.func240 (code := Tryz.f240.body.getD .skip) (by kernel_rfl) (by kernel_rfl),
 fun s n q h => Yel (Yem lay_Grow (i0 := Tryz.t3) (z := (Tryz.t3.zero).getD default) (by kernel_rfl) (by kernel_rfl) (by kernel_rfl) (by kernel_rfl) (by kernel_rfl)) h⟩
def Z0ch : Entry Tryz.prog := ⟨138, ⟨[.val ty0], [], true, false, none, none, none⟩, [.v ty0], I0, Z8h N, pk1 ty0, Y1z Tryz.func138 (code := Tryz.f138.body.getD .skip) (by kernel_rfl) (by kernel_rfl),
 fun s q h => Yek (Yen Tryz.lays189) h⟩
def Z0br : Entry Tryz.prog := ⟨215, ⟨[.val ty0], [(ty0, .dp)], true, true, none, none, none⟩, [.v ty0], I0, Z70 N, pk1 ty0, Y1z Tryz.func215 (code := Tryz.f215.body.getD .skip) (by kernel_rfl) (by kernel_rfl),
 fun s q h => Ybe (Ybf Tryz.laysNm220) h⟩
def Z0c3 : Entry Tryz.prog := ⟨218, ⟨[.val ty0, .val i64], [(ty0, .dp)], true, true, none, none, none⟩, [.v ty0, .v i64], I0, Z7j N, pk1 ty0, Y1z Tryz.func218 (code := Tryz.f218.body.getD .skip) (by kernel_rfl) (by kernel_rfl),
 fun s n q h => Ycy repeat_said h⟩
namespace Z0b0
def sG := sgV [.val ty1] [(.bool, .dp)]
def eS (N : Nat) : List EnTryz := []
def eE : EnTryz := ⟨18, sG, [.v ty1], _, Z0b0 N, pk1 .bool, enK Tryz.func18,
 fun a => eo (eS N) Tryz.func18 N an0 (Y4 .bool)⟩
end Z0b0
namespace Z8i
def sG : Sig := ⟨[.val ty1], [], false, false, none, some 177, none⟩
def eS (N : Nat) : List EnTryz := []
def an_ : Nat -> Option (List Nat)
 | 0 => some [0, 3, 4]
 | _ => none
def lP (p : List Dir) := lpE (eS N) N an_ p Tryz.f125 (endN Tb 177 ty2 sG.results Tryz.f125 (un1 ty2))
def El0 (k_ : Nat) (a : I0) (h : Int) (i : Int) : Option (List Int × Int × Int) :=
 lP N [.r, .r, .l, .r, .b] [] k_ (cr ty1 a :: (un 2 (cr i64 h :: (cr i64 i :: (un 27 [])))))
theorem ql0 (N : Nat) : ∀ k_, El0 N k_ = Z8v N k_ := qL (Z0ai N)
theorem vV (code : I0) :
  evN (eS N) N an_ 177 ty2 sG.results Tryz.f125 [.val ty1 code] (un1 ty2) = Z0bs N (El0 N N) code := by kernel_rfl
def eE : EnTryz := ⟨125, sG, [.v ty1], _, Z8i N, pk1 ty2, enK Tryz.func125,
 fun a => Y68 tab_ok (es := eS N) (by kernel_rfl) mixed Tryz.func125 (by kernel_rfl) rfl rfl (fun _ => ⟨_, _, rfl⟩) (Y4 ty2) ((vV N a).trans (by rw [ql0]; rfl))⟩
end Z8i
namespace Z3j
def bX : BoxSig := ⟨0, 177, [.fx, .ro, .ro]⟩
def sG : Sig := ⟨[.ptr ty2], [(i64, .dp)], false, false, some bX, none, none⟩
def eS (N : Nat) : List EnTryz := []
theorem vV (c : List Int × Int × Int) :
  evB (eS N) N an0 sG bX Tryz.f175 [.ptr ty2 c] (un2 ty2 i64) = Z3j N c := by kernel_rfl
def eE : EnTryz := ⟨175, sG, [.p ty2], _, Z3j N, pk2 ty2 i64, enK Tryz.func175,
 fun c => Ys tab_ok (es := eS N) (by kernel_rfl) mixed Tryz.func175 (by kernel_rfl) rfl rfl (fun _ => ⟨_, _, rfl⟩) (Ym ty2 i64) (vV N c)⟩
end Z3j
namespace Z1
def bX : BoxSig := ⟨0, 177, [.fx, .ro, .ro]⟩
def sG : Sig := ⟨[.ptr ty2, .val i64], [(i64, .dp)], false, false, some bX, none, none⟩
def eS : List EnTryz := [Z3j.eE N]
theorem vV (c : List Int × Int × Int) (n : Int) :
  evB (eS N) N an0 sG bX Tryz.f128 [.ptr ty2 c, .val i64 n] (un2 ty2 i64) = Z1 N c n := by kernel_rfl
def eE : EnTryz := ⟨128, sG, [.p ty2, .v i64], _, Z1 N, pk2 ty2 i64, enK Tryz.func128,
 fun c n => Ys tab_ok (es := eS N) (by kernel_rfl) mixed Tryz.func128 (by kernel_rfl) rfl rfl (fun _ => ⟨_, _, rfl⟩) (Ym ty2 i64) (vV N c n)⟩
end Z1
namespace Z0y
def bX : BoxSig := ⟨0, 177, [.fx, .ro, .ro]⟩
def sG : Sig := ⟨[.ptr ty2, .val ty0], [(i64, .dp)], false, false, some bX, none, none⟩
def eS : List EnTryz := [Z1.eE N]
theorem vV (c : List Int × Int × Int) (list : I0) :
  evB (eS N) N an0 sG bX Tryz.f131 [.ptr ty2 c, .val ty0 list] (un2 ty2 i64) = Z0y N c list := by kernel_rfl
def eE : EnTryz := ⟨131, sG, [.p ty2, .v ty0], _, Z0y N, pk2 ty2 i64, enK Tryz.func131,
 fun c a => Ys tab_ok (es := eS N) (by kernel_rfl) mixed Tryz.func131 (by kernel_rfl) rfl rfl (fun _ => ⟨_, _, rfl⟩) (Ym ty2 i64) (vV N c a)⟩
end Z0y
namespace Z7k
def bX : BoxSig := ⟨0, 177, [.fx, .ro, .ro]⟩
def sG : Sig := ⟨[.ptr ty2], [(ty3, .dp)], false, false, some bX, none, none⟩
def eS : List EnTryz := [Z0y.eE N, Z1.eE N]
theorem vV (c : List Int × Int × Int) :
  evB (eS N) N an0 sG bX Tryz.f170 [.ptr ty2 c] (un2 ty2 ty3) = Z7k N c := by kernel_rfl
def eE : EnTryz := ⟨170, sG, [.p ty2], _, Z7k N, pk2 ty2 ty3, enK Tryz.func170,
 fun c => Ys tab_ok (es := eS N) (by kernel_rfl) mixed Tryz.func170 (by kernel_rfl) rfl rfl (fun _ => ⟨_, _, rfl⟩) (Ym ty2 ty3) (vV N c)⟩
end Z7k
namespace Z7l
def bX : BoxSig := ⟨0, 177, [.fx, .ro, .ro]⟩
def sG : Sig := ⟨[.ptr ty2, .val ty3, .val i64], [(ty4, .dp)], false, false, some bX, none, none⟩
def eS : List EnTryz := [Z1.eE N]
def an_ : Nat -> Option (List Nat)
 | 0 => some [0, 1, 2, 6, 7]
 | _ => none
def lP (p : List Dir) := lpE (eS N) N an_ p Tryz.f172 (endB Tb sG bX Tryz.f172 ty2 (un2 ty2 ty4))
def El0 (k_ : Nat) (c2 : I0) (c3 : Int) (c4 : Int) (l2 : R0) (a : Int) (t6 : Int) (c : I0) (f : Int) (f2 : I0) : Option ((List Int × Int × Int) × Int × List Int) :=
 lP N [.r, .r, .l, .b] [] k_ (.con (.box ⟨177, true, [true, false, false]⟩) [lf ty1 c2 .ro, lf i64 c3 .ro, lf i64 c4 .ro] :: (cr ty3 l2 :: (cr i64 a :: (un 3 (.con (.box ⟨110, false, []⟩) [lf i64 t6 .ro, lf ty0 c .dp] :: (.con (.box ⟨110, false, []⟩) [lf i64 f .ro, lf ty0 f2 .dp] :: (un 24 [])))))))
theorem ql0 (N : Nat) : ∀ k_, El0 N k_ = Z80 N k_ := qL (Z0a7 N)
theorem vV (c : List Int × Int × Int) (l : R0) (val : Int) :
  evB (eS N) N an_ sG bX Tryz.f172 [.ptr ty2 c, .val ty3 l, .val i64 val] (un2 ty2 ty4) = Z0d1 N (El0 N N) c l val := by kernel_rfl
def eE : EnTryz := ⟨172, sG, [.p ty2, .v ty3, .v i64], _, Z7l N, pk2 ty2 ty4, enK Tryz.func172,
 fun c l a => Ys tab_ok (es := eS N) (by kernel_rfl) mixed Tryz.func172 (by kernel_rfl) rfl rfl (fun _ => ⟨_, _, rfl⟩) (Ym ty2 ty4) ((vV N c l a).trans (by rw [ql0]; rfl))⟩
end Z7l
namespace Z7m
def sG := sgV [.val ty5] [(ty5, .dp)]
def eS (N : Nat) : List EnTryz := []
def an_ : Nat -> Option (List Nat)
 | 0 => some [1, 2, 3, 4]
 | _ => none
def lP (p : List Dir) := lpE (eS N) N an_ p Tryz.f208 (endK Tb sG Tryz.f208 [] (un1 ty5))
def El0 (k_ : Nat) (d2 : R0) (d3 : A0) (t2 : R0) (a : A0) (x : R0) (x2 : A0) (i : Int) : Option D0 :=
 lP N [.r, .r, .l, .r, .b] [] k_ (un 1 (.con (.box ⟨39, false, []⟩) [lf ty3 d2 .ro, lf ty6 d3 .ro] :: (.con (.box ⟨39, false, []⟩) [lf ty3 t2 .dp, lf ty6 a .dp] :: (.con (.box ⟨39, false, []⟩) [lf ty3 x .dp, lf ty6 x2 .dp] :: (cr i64 i :: (un 33 []))))))
theorem ql0 (N : Nat) : ∀ k_, El0 N k_ = Z81 N k_ := qL (Z0a8 N)
def eE : EnTryz := ⟨208, sG, [.v ty5], _, Z7m N, pk1 ty5, enK Tryz.func208,
 fun d => eo (eS N) Tryz.func208 N an_ (Y4 ty5) (tq (b := Z0bd N (El0 N N) d) (by rw [ql0]; rfl))⟩
end Z7m
namespace Z5
def sG := sgV [.val i64, .val i64, .val i64] [(.bool, .dp)]
def eS (N : Nat) : List EnTryz := []
def eE : EnTryz := ⟨114, sG, [.v i64, .v i64, .v i64], _, Z5 N, pk1 .bool, enK Tryz.func114,
 fun x a b => eo (eS N) Tryz.func114 N an0 (Y4 .bool)⟩
end Z5
namespace Z0c
def sG := sgV [.val ty7] [(.bool, .dp)]
def eS : List EnTryz := [Z5.eE N]
def eE : EnTryz := ⟨147, sG, [.v ty7], _, Z0c N, pk1 .bool, enK Tryz.func147,
 fun s => eo (eS N) Tryz.func147 N an0 (Y4 .bool)⟩
end Z0c
namespace Z0h
def sG := sgV [.val ty3] [(.bool, .dp)]
def eS : List EnTryz := [Z0c.eE N]
def an_ : Nat -> Option (List Nat)
 | 0 => some [0, 3]
 | _ => none
def lP (p : List Dir) := lpE (eS N) N an_ p Tryz.f92 (endK Tb sG Tryz.f92 [] (un1 .bool))
def El0 (k_ : Nat) (l2 : R0) (i : Int) : Option (Bool) :=
 lP N [.r, .l, .r, .b] [] k_ (cr ty3 l2 :: (un 2 (cr i64 i :: (un 33 []))))
theorem ql0 (N : Nat) : ∀ k_, El0 N k_ = Z0o N k_ := qL (Z1k N)
def eE : EnTryz := ⟨92, sG, [.v ty3], _, Z0h N, pk1 .bool, enK Tryz.func92,
 fun l => eo (eS N) Tryz.func92 N an_ (Y4 .bool) (tq (b := Z4o N (El0 N N) l) (by rw [ql0]; rfl))⟩
end Z0h
namespace Z0r
def sG := sgV [.val ty3, .val ty4] [(.bool, .dp)]
def eS : List EnTryz := [Z5.eE N, Z0h.eE N]
def an_ : Nat -> Option (List Nat)
 | 0 => some [3, 5]
 | _ => none
def lP (p : List Dir) := lpE (eS N) N an_ p Tryz.f90 (endK Tb sG Tryz.f90 [] (un1 .bool))
def El0 (k_ : Nat) (f2 : Int) (f3 : I0) (i : Int) : Option (Bool) :=
 lP N [.r, .r, .l, .r, .b] [] k_ (un 3 (.con (.box ⟨110, false, []⟩) [lf i64 f2 .ro, lf ty0 f3 .ro] :: (un 1 (cr i64 i :: (un 38 [])))))
theorem ql0 (N : Nat) : ∀ k_, El0 N k_ = Z44 N k_ := qL (Z61 N)
def eE : EnTryz := ⟨90, sG, [.v ty3, .v ty4], _, Z0r N, pk1 .bool, enK Tryz.func90,
 fun l f => eo (eS N) Tryz.func90 N an_ (Y4 .bool) (tq (b := Z9d N (El0 N N) l f) (by rw [ql0]; rfl))⟩
end Z0r
namespace Z6l
def sG := sgV [.val ty0, .val ty0] [(i64, .dp)]
def eS (N : Nat) : List EnTryz := []
def an_ : Nat -> Option (List Nat)
 | 0 => some [0, 1, 5]
 | _ => none
def lP (p : List Dir) := lpE (eS N) N an_ p Tryz.f146 (endK Tb sG Tryz.f146 [] (un1 i64))
def El0 (k_ : Nat) (a2 : I0) (b2 : I0) (i : Int) : Option (Int) :=
 lP N [.r, .l, .r, .b] [] k_ (cr ty0 a2 :: (cr ty0 b2 :: (un 3 (cr i64 i :: (un 40 [])))))
theorem ql0 (N : Nat) : ∀ k_, El0 N k_ = Z59 N k_ := qL (Z6o N)
def eE : EnTryz := ⟨146, sG, [.v ty0, .v ty0], _, Z6l N, pk1 i64, enK Tryz.func146,
 fun a b => eo (eS N) Tryz.func146 N an_ (Y4 i64) (tq (b := Z0d2 N (El0 N N) a b) (by rw [ql0]; rfl))⟩
end Z6l
namespace Z1c
def sG := sgV [.val ty4, .val ty4] [(i64, .dp)]
def eS : List EnTryz := [Z6l.eE N]
def eE : EnTryz := ⟨91, sG, [.v ty4, .v ty4], _, Z1c N, pk1 i64, enK Tryz.func91,
 fun a b => eo (eS N) Tryz.func91 N an0 (Y4 i64)⟩
end Z1c
namespace Z0
def sG := sgV [.val ty5] [(.bool, .dp)]
def eS : List EnTryz := [Z0r.eE N, Z1c.eE N, Z0h.eE N]
def an_ : Nat -> Option (List Nat)
 | 0 => some [1, 3]
 | _ => none
def lP (p : List Dir) := lpE (eS N) N an_ p Tryz.f35 (endK Tb sG Tryz.f35 [] (un1 .bool))
def El0 (k_ : Nat) (d2 : R0) (d3 : A0) (i : Int) : Option (Bool) :=
 lP N [.r, .l, .r, .b] [] k_ (un 1 (.con (.box ⟨39, false, []⟩) [lf ty3 d2 .ro, lf ty6 d3 .ro] :: (un 1 (cr i64 i :: (un 44 [])))))
theorem ql0 (N : Nat) : ∀ k_, El0 N k_ = Z2m N k_ := qL (Z4l N)
def eE : EnTryz := ⟨35, sG, [.v ty5], _, Z0 N, pk1 .bool, enK Tryz.func35,
 fun d => eo (eS N) Tryz.func35 N an_ (Y4 .bool) (tq (b := Z7n N (El0 N N) d) (by rw [ql0]; rfl))⟩
end Z0
namespace Z6m
def sG := sgV [.val ty5, .val ty4] [(i64, .dp)]
def eS : List EnTryz := [Z1c.eE N]
def an_ : Nat -> Option (List Nat)
 | 0 => some [2, 3, 5]
 | _ => none
def lP (p : List Dir) := lpE (eS N) N an_ p Tryz.f234 (endK Tb sG Tryz.f234 [] (un1 i64))
def El0 (k_ : Nat) (d2 : R0) (d3 : A0) (f2 : Int) (f3 : I0) (i : Int) : Option (Int) :=
 lP N [.r, .l, .r, .b] [] k_ (un 2 (.con (.box ⟨39, false, []⟩) [lf ty3 d2 .ro, lf ty6 d3 .ro] :: (.con (.box ⟨110, false, []⟩) [lf i64 f2 .ro, lf ty0 f3 .ro] :: (un 1 (cr i64 i :: (un 16 []))))))
theorem ql0 (N : Nat) : ∀ k_, El0 N k_ = Z6c N k_ := qL (Z90 N)
def eE : EnTryz := ⟨234, sG, [.v ty5, .v ty4], _, Z6m N, pk1 i64, enK Tryz.func234,
 fun d f => eo (eS N) Tryz.func234 N an_ (Y4 i64) (tq (b := Z0bu N (El0 N N) d f) (by rw [ql0]; rfl))⟩
end Z6m
namespace Z3x
def sG := sgV [.val ty5, .val ty4] [(.bool, .dp)]
def eS : List EnTryz := [Z0.eE N, Z6m.eE N]
def eE : EnTryz := ⟨209, sG, [.v ty5, .v ty4], _, Z3x N, pk1 .bool, enK Tryz.func209,
 fun d f => eo (eS N) Tryz.func209 N an0 (Y4 .bool)⟩
end Z3x
namespace Z42
def sG := sgV [.val ty5, .val ty4] [(ty5, .sh), (.bool, .dp)]
def eS : List EnTryz := [Z1c.eE N, Z7m.eE N, Z0.eE N, Z0r.eE N, Z3x.eE N]
def an_ : Nat -> Option (List Nat)
 | 0 => some [3, 4, 6, 7]
 | _ => none
def lP (p : List Dir) := lpE (eS N) N an_ p Tryz.f171 (endK Tb sG Tryz.f171 [] (un2 ty5 .bool))
def El0 (k_ : Nat) (f2 : Int) (f3 : I0) (t4 : R0) (a : A0) (x : R0) (x2 : A0) (k : Int) : Option (D0 × Bool) :=
 lP N [.r, .r, .r, .r, .l, .b] [] k_ (un 3 (.con (.box ⟨110, false, []⟩) [lf i64 f2 .ro, lf ty0 f3 .ro] :: (.con (.box ⟨39, false, []⟩) [lf ty3 t4 .dp, lf ty6 a .dp] :: (un 1 (.con (.box ⟨39, false, []⟩) [lf ty3 x .dp, lf ty6 x2 .dp] :: (cr i64 k :: (un 65 [])))))))
theorem ql0 (N : Nat) : ∀ k_, El0 N k_ = Z5p N k_ := qL (Z8j N)
def eE : EnTryz := ⟨171, sG, [.v ty5, .v ty4], _, Z42 N, pk2 ty5 .bool, enK Tryz.func171,
 fun d f => eo (eS N) Tryz.func171 N an_ (Ym ty5 .bool) (tq (b := Z9v N (El0 N N) d f) (by rw [ql0]; rfl))⟩
end Z42
namespace Z0ac
def bX : BoxSig := ⟨0, 177, [.fx, .ro, .ro]⟩
def sG : Sig := ⟨[.ptr ty2], [(ty5, .sh)], false, false, some bX, none, none⟩
def eS : List EnTryz := [Z7l.eE N, Z42.eE N, Z7k.eE N, Z0y.eE N, Z1.eE N]
def an_ : Nat -> Option (List Nat)
 | 0 => some [0, 2, 3, 4, 5]
 | _ => none
def lP (p : List Dir) := lpE (eS N) N an_ p Tryz.f126 (endB Tb sG bX Tryz.f126 ty2 (un2 ty2 ty5))
def El1 (k_ : Nat) (c5 : I0) (c6 : Int) (c7 : Int) (a : R0) (c : A0) (d3 : R0) (d4 : A0) (d : Int) (n2 : Int) : Option ((List Int × Int × Int) × List (ByteArray × Int × Int) × List (Int × List Int)) :=
 lP N [.r, .r, .r, .l, .r, .b] [] k_ (.con (.box ⟨177, true, [true, false, false]⟩) [lf ty1 c5 .ro, lf i64 c6 .ro, lf i64 c7 .ro] :: (un 1 (.con (.box ⟨39, false, []⟩) [lf ty3 a .dp, lf ty6 c .dp] :: (.con (.box ⟨39, false, []⟩) [lf ty3 d3 .dp, lf ty6 d4 .sh] :: (cr i64 d :: (cr i64 n2 :: (un 24 [])))))))
def El0 (k_ : Nat) (c2 : I0) (c3 : Int) (c4 : Int) (t2 : R0) (a : A0) (d : R0) (d2 : A0) (c : Int) (n : Int) : Option ((List Int × Int × Int) × List (ByteArray × Int × Int) × List (Int × List Int)) :=
 lP N [.r, .r, .r, .l, .r, .b] [] k_ (.con (.box ⟨177, true, [true, false, false]⟩) [lf ty1 c2 .ro, lf i64 c3 .ro, lf i64 c4 .ro] :: (un 1 (.con (.box ⟨39, false, []⟩) [lf ty3 t2 .dp, lf ty6 a .dp] :: (.con (.box ⟨39, false, []⟩) [lf ty3 d .dp, lf ty6 d2 .dp] :: (cr i64 c :: (cr i64 n :: (un 24 [])))))))
theorem ql1 (N : Nat) : ∀ k_, El1 N k_ = Z82 N k_ := qL (Z0b1 N)
theorem ql0 (N : Nat) : ∀ k_, El0 N k_ = Z0aj N k_
 | 0 => by kernel_rfl
 | k_ + 1 => (show El0 N (k_ + 1) = Z0b2 N (El1 N k_) (El0 N k_) from by kernel_rfl).trans (by simp only [ql1, ql0 N k_]; rfl)
theorem vV (c : List Int × Int × Int) :
  evB (eS N) N an_ sG bX Tryz.f126 [.ptr ty2 c] (un2 ty2 ty5) = Z0dp N (El0 N N) c := by kernel_rfl
def eE : EnTryz := ⟨126, sG, [.p ty2], _, Z0ac N, pk2 ty2 ty5, enK Tryz.func126,
 fun c => Ys tab_ok (es := eS N) (by kernel_rfl) mixed Tryz.func126 (by kernel_rfl) rfl rfl (fun _ => ⟨_, _, rfl⟩) (Ym ty2 ty5) ((vV N c).trans (by rw [ql0]; rfl))⟩
end Z0ac
namespace Z9q
def bX : BoxSig := ⟨0, 177, [.fx, .ro, .ro]⟩
def sG : Sig := ⟨[.ptr ty2], [(ty5, .ro)], false, false, some bX, none, none⟩
def eS : List EnTryz := [Z0ac.eE N]
def an_ : Nat -> Option (List Nat)
 | 0 => some [0, 2, 3]
 | _ => none
def lP (p : List Dir) := lpE (eS N) N an_ p Tryz.f195 (endB Tb sG bX Tryz.f195 ty2 (un2 ty2 ty5))
def El1 (k_ : Nat) (c5 : I0) (c6 : Int) (c7 : Int) (a : R0) (c : A0) (d3 : R0) (d4 : A0) : Option ((List Int × Int × Int) × List (ByteArray × Int × Int) × List (Int × List Int)) :=
 lP N [.r, .r, .l, .b] [] k_ (.con (.box ⟨177, true, [true, false, false]⟩) [lf ty1 c5 .ro, lf i64 c6 .ro, lf i64 c7 .ro] :: (un 1 (.con (.box ⟨39, false, []⟩) [lf ty3 a .dp, lf ty6 c .dp] :: (.con (.box ⟨39, false, []⟩) [lf ty3 d3 .dp, lf ty6 d4 .ro] :: (un 15 [])))))
def El0 (k_ : Nat) (c2 : I0) (c3 : Int) (c4 : Int) (t2 : R0) (a : A0) (d : R0) (d2 : A0) : Option ((List Int × Int × Int) × List (ByteArray × Int × Int) × List (Int × List Int)) :=
 lP N [.r, .r, .l, .b] [] k_ (.con (.box ⟨177, true, [true, false, false]⟩) [lf ty1 c2 .ro, lf i64 c3 .ro, lf i64 c4 .ro] :: (un 1 (.con (.box ⟨39, false, []⟩) [lf ty3 t2 .dp, lf ty6 a .dp] :: (.con (.box ⟨39, false, []⟩) [lf ty3 d .dp, lf ty6 d2 .sh] :: (un 15 [])))))
theorem ql1 (N : Nat) : ∀ k_, El1 N k_ = Z75 N k_ := qL (Z0ak N)
theorem ql0 (N : Nat) : ∀ k_, El0 N k_ = Z0a5 N k_
 | 0 => by kernel_rfl
 | k_ + 1 => (show El0 N (k_ + 1) = Z0al N (El1 N k_) (El0 N k_) from by kernel_rfl).trans (by simp only [ql1, ql0 N k_]; rfl)
theorem vV (c : List Int × Int × Int) :
  evB (eS N) N an_ sG bX Tryz.f195 [.ptr ty2 c] (un2 ty2 ty5) = Z0db N (El0 N N) c := by kernel_rfl
def eE : EnTryz := ⟨195, sG, [.p ty2], _, Z9q N, pk2 ty2 ty5, enK Tryz.func195,
 fun c => Ys tab_ok (es := eS N) (by kernel_rfl) mixed Tryz.func195 (by kernel_rfl) rfl rfl (fun _ => ⟨_, _, rfl⟩) (Ym ty2 ty5) ((vV N c).trans (by rw [ql0]; rfl))⟩
end Z9q
namespace Z2h
def bX : BoxSig := ⟨0, 177, [.fx, .ro, .ro]⟩
def sG : Sig := ⟨[.ptr ty2, .val i64], [(.bool, .dp)], false, false, some bX, none, none⟩
def eS : List EnTryz := [Z1.eE N]
theorem vV (c : List Int × Int × Int) (n : Int) :
  evB (eS N) N an0 sG bX Tryz.f132 [.ptr ty2 c, .val i64 n] (un2 ty2 .bool) = Z2h N c n := by kernel_rfl
def eE : EnTryz := ⟨132, sG, [.p ty2, .v i64], _, Z2h N, pk2 ty2 .bool, enK Tryz.func132,
 fun c n => Ys tab_ok (es := eS N) (by kernel_rfl) mixed Tryz.func132 (by kernel_rfl) rfl rfl (fun _ => ⟨_, _, rfl⟩) (Ym ty2 .bool) (vV N c n)⟩
end Z2h
namespace Z6p
def sG := sgV [.val ty8] [(ty8, .dp)]
def eS (N : Nat) : List EnTryz := []
def an_ : Nat -> Option (List Nat)
 | 0 => some [1, 2, 3, 4]
 | _ => none
def lP (p : List Dir) := lpE (eS N) N an_ p Tryz.f235 (endK Tb sG Tryz.f235 [] (un1 ty8))
def El0 (k_ : Nat) (q2 : Int) (q3 : A0) (q4 : I0) (t2 : Int) (a : A0) (c : I0) (x : Int) (x2 : A0) (x3 : I0) (i : Int) : Option Q0 :=
 lP N [.r, .r, .l, .r, .b] [] k_ (un 1 (.con (.box ⟨44, false, []⟩) [lf i64 q2 .ro, lf ty9 q3 .ro, lf ty0 q4 .ro] :: (.con (.box ⟨44, false, []⟩) [lf i64 t2 .ro, lf ty9 a .dp, lf ty0 c .dp] :: (.con (.box ⟨44, false, []⟩) [lf i64 x .ro, lf ty9 x2 .dp, lf ty0 x3 .dp] :: (cr i64 i :: (un 35 []))))))
theorem ql0 (N : Nat) : ∀ k_, El0 N k_ = Z7b N k_ := qL (Z9w N)
def eE : EnTryz := ⟨235, sG, [.v ty8], _, Z6p N, pk1 ty8, enK Tryz.func235,
 fun q => eo (eS N) Tryz.func235 N an_ (Y4 ty8) (tq (b := Z0b3 N (El0 N N) q) (by rw [ql0]; rfl))⟩
end Z6p
namespace Z66
def sG := sgV [.val ty8] [(ty8, .dp)]
def eS : List EnTryz := [Z6p.eE N]
def an_ : Nat -> Option (List Nat)
 | 0 => some [2, 3, 4, 5]
 | 2 => some [2, 3, 4, 5, 6]
 | 4 => some [2, 3, 4, 5, 6, 7, 8, 9]
 | _ => none
def lP (p : List Dir) := lpE (eS N) N an_ p Tryz.f210 (endK Tb sG Tryz.f210 [] (un1 ty8))
def El2 (a : Nat) (c : Nat) (k_ : Nat) (d : Int) (e : A0) (f : I0) (x7 : Int) (x8 : A0) (x9 : I0) (g : I0) (i3 : Int) (k2 : Int) (t : Int) (h : Int) (j : Int) : Option Q0 :=
 lP N [.r, .r, .r, .l, .r, .b, .b, .r, .l, .b, .r, .b, .b, .r, .l, .b, .r, .r, .r, .l, .r, .b] [lP N [.r, .r, .r, .l, .r, .b] [] a, lP N [.r, .r, .r, .l, .r, .b, .b, .r, .l, .b, .r, .b] [lP N [.r, .r, .r, .l, .r, .b] [] a] c] k_ (un 2 (.con (.box ⟨44, false, []⟩) [lf i64 d .ro, lf ty9 e .dp, lf ty0 f .dp] :: (.con (.box ⟨44, false, []⟩) [lf i64 x7 .ro, lf ty9 x8 .dp, lf ty0 x9 .dp] :: (cd ty0 g :: (cr i64 i3 :: (cr i64 k2 :: (cr i64 t :: (cr i64 h :: (cr i64 j :: (un 66 []))))))))))
def El1 (a : Nat) (k_ : Nat) (c : Int) (d : A0) (e : I0) (x4 : Int) (x5 : A0) (x6 : I0) (f : I0) (i2 : Int) (k : Int) : Option Q0 :=
 lP N [.r, .r, .r, .l, .r, .b, .b, .r, .l, .b, .r, .b] [lP N [.r, .r, .r, .l, .r, .b] [] a] k_ (un 2 (.con (.box ⟨44, false, []⟩) [lf i64 c .ro, lf ty9 d .dp, lf ty0 e .dp] :: (.con (.box ⟨44, false, []⟩) [lf i64 x4 .ro, lf ty9 x5 .dp, lf ty0 x6 .dp] :: (cd ty0 f :: (cr i64 i2 :: (cr i64 k :: (un 69 [])))))))
def El0 (k_ : Nat) (t2 : Int) (a : A0) (c : I0) (x : Int) (x2 : A0) (x3 : I0) (d : I0) (i : Int) : Option Q0 :=
 lP N [.r, .r, .r, .l, .r, .b] [] k_ (un 2 (.con (.box ⟨44, false, []⟩) [lf i64 t2 .ro, lf ty9 a .dp, lf ty0 c .dp] :: (.con (.box ⟨44, false, []⟩) [lf i64 x .ro, lf ty9 x2 .dp, lf ty0 x3 .dp] :: (cd ty0 d :: (cr i64 i :: (un 70 []))))))
theorem ql2 (N : Nat) (k0_ : Nat) (k1_ : Nat) : ∀ k_, El2 N k0_ k1_ k_ = Z5a (El1 N k0_ k1_) N k_ := qL (Z9e N (El1 N k0_ k1_))
theorem ql1 (N : Nat) (k0_ : Nat) : ∀ k_, El1 N k0_ k_ = Z4e (El0 N k0_) N k_
 | 0 => by kernel_rfl
 | k_ + 1 => (show El1 N k0_ (k_ + 1) = Z9f N (El0 N k0_) (El2 N k0_ k_ N) (El1 N k0_ k_) from by kernel_rfl).trans (by simp only [ql2, ql1 N k0_ k_]; rfl)
theorem ql0 (N : Nat) : ∀ k_, El0 N k_ = Z5b N k_
 | 0 => by kernel_rfl
 | k_ + 1 => (show El0 N (k_ + 1) = Z9g N (El1 N k_ N) (El0 N k_) from by kernel_rfl).trans (by simp only [ql1, ql0 N k_]; rfl)
def eE : EnTryz := ⟨210, sG, [.v ty8], _, Z66 N, pk1 ty8, enK Tryz.func210,
 fun q => eo (eS N) Tryz.func210 N an_ (Y4 ty8) (tq (b := Z0am N (El0 N N) q) (by rw [ql0]; rfl))⟩
end Z66
namespace Z76
def bX : BoxSig := ⟨0, 177, [.fx, .ro, .ro]⟩
def sG : Sig := ⟨[.ptr ty2], [(ty8, .dp)], false, false, some bX, none, none⟩
def eS : List EnTryz := [Z2h.eE N, Z1.eE N, Z66.eE N]
def an_ : Nat -> Option (List Nat)
 | 0 => some [0, 2, 3, 4, 5, 6, 7]
 | 2 => some [0, 2, 3, 4, 5, 6, 7, 9, 10]
 | _ => none
def lP (p : List Dir) := lpE (eS N) N an_ p Tryz.f173 (endB Tb sG bX Tryz.f173 ty2 (un2 ty2 ty8))
def El1 (c : Nat) (k_ : Nat) (c5 : I0) (c6 : Int) (c7 : Int) (d : Int) (e : A0) (f : I0) (q4 : Int) (q5 : A0) (q6 : I0) (n2 : Int) (g : Int) (h : Int) (i2 : Int) (a : Int) (a2 : I0) (m4 : Int) : Option ((List Int × Int × Int) × Int × List (Int × List Int) × List Int) :=
 lP N [.r, .r, .r, .r, .r, .l, .r, .b, .b, .r, .l, .b, .r, .r, .l, .r, .b] [lP N [.r, .r, .r, .r, .r, .l, .r, .b] [] c] k_ (.con (.box ⟨177, true, [true, false, false]⟩) [lf ty1 c5 .ro, lf i64 c6 .ro, lf i64 c7 .ro] :: (un 1 (.con (.box ⟨44, false, []⟩) [lf i64 d .ro, lf ty9 e .dp, lf ty0 f .dp] :: (.con (.box ⟨44, false, []⟩) [lf i64 q4 .ro, lf ty9 q5 .dp, lf ty0 q6 .dp] :: (cr i64 n2 :: (cr i64 g :: (cr i64 h :: (cr i64 i2 :: (un 1 (.con (.box ⟨145, false, []⟩) [lf i64 a .ro, lf ty0 a2 .dp] :: (cr i64 m4 :: (un 53 []))))))))))))
def El0 (k_ : Nat) (c2 : I0) (c3 : Int) (c4 : Int) (t2 : Int) (a : A0) (c : I0) (q : Int) (q2 : A0) (q3 : I0) (n : Int) (d : Int) (e : Int) (i : Int) : Option ((List Int × Int × Int) × Int × List (Int × List Int) × List Int) :=
 lP N [.r, .r, .r, .r, .r, .l, .r, .b] [] k_ (.con (.box ⟨177, true, [true, false, false]⟩) [lf ty1 c2 .ro, lf i64 c3 .ro, lf i64 c4 .ro] :: (un 1 (.con (.box ⟨44, false, []⟩) [lf i64 t2 .ro, lf ty9 a .dp, lf ty0 c .dp] :: (.con (.box ⟨44, false, []⟩) [lf i64 q .ro, lf ty9 q2 .dp, lf ty0 q3 .dp] :: (cr i64 n :: (cr i64 d :: (cr i64 e :: (cr i64 i :: (un 56 [])))))))))
theorem ql1 (N : Nat) (k0_ : Nat) : ∀ k_, El1 N k0_ k_ = Z5c (El0 N k0_) N k_ := qL (Z9h N (El0 N k0_))
theorem ql0 (N : Nat) : ∀ k_, El0 N k_ = Z5d N k_
 | 0 => by kernel_rfl
 | k_ + 1 => (show El0 N (k_ + 1) = Z9i N (El1 N k_ N) (El0 N k_) from by kernel_rfl).trans (by simp only [ql1, ql0 N k_]; rfl)
theorem vV (c : List Int × Int × Int) :
  evB (eS N) N an_ sG bX Tryz.f173 [.ptr ty2 c] (un2 ty2 ty8) = Z0c5 N (El0 N N) c := by kernel_rfl
def eE : EnTryz := ⟨173, sG, [.p ty2], _, Z76 N, pk2 ty2 ty8, enK Tryz.func173,
 fun c => Ys tab_ok (es := eS N) (by kernel_rfl) mixed Tryz.func173 (by kernel_rfl) rfl rfl (fun _ => ⟨_, _, rfl⟩) (Ym ty2 ty8) ((vV N c).trans (by rw [ql0]; rfl))⟩
end Z76
namespace Z7o
def bX : BoxSig := ⟨0, 177, [.fx, .ro, .ro]⟩
def sG : Sig := ⟨[.ptr ty2, .val ty10], [(.str, .dp)], false, false, some bX, none, none⟩
def eS : List EnTryz := [Z1.eE N]
theorem vV (c : List Int × Int × Int) (list : List ByteArray) :
  evB (eS N) N an0 sG bX Tryz.f212 [.ptr ty2 c, .val ty10 list] (un2 ty2 .str) = Z7o N c list := by kernel_rfl
def eE : EnTryz := ⟨212, sG, [.p ty2, .v ty10], _, Z7o N, pk2 ty2 .str, enK Tryz.func212,
 fun c a => Ys tab_ok (es := eS N) (by kernel_rfl) mixed Tryz.func212 (by kernel_rfl) rfl rfl (fun _ => ⟨_, _, rfl⟩) (Ym ty2 .str) (vV N c a)⟩
end Z7o
namespace Z9r
def sG := sgV [.val .str, .val (.int .u8)] [(ty10, .dp)]
def eS (N : Nat) : List EnTryz := []
def an_ : Nat -> Option (List Nat)
 | 0 => some [0, 1, 5, 6, 7]
 | _ => none
def lP (p : List Dir) := lpE (eS N) N an_ p Tryz.f236 (endK Tb sG Tryz.f236 [] (un1 ty10))
def El0 (k_ : Nat) (s2 : ByteArray) (a : Int) (c : List ByteArray) (d : Int) (i : Int) : Option (List ByteArray) :=
 lP N [.r, .r, .r, .l, .r, .b] [] k_ (cr .str s2 :: (cr (.int .u8) a :: (un 3 (cd ty10 c :: (cr i64 d :: (cr i64 i :: (un 27 [])))))))
theorem ql0 (N : Nat) : ∀ k_, El0 N k_ = Z0bf N k_ := qL (Z0c6 N)
def eE : EnTryz := ⟨236, sG, [.v .str, .v (.int .u8)], _, Z9r N, pk1 ty10, enK Tryz.func236,
 fun s a => eo (eS N) Tryz.func236 N an_ (Y4 ty10) (tq (b := Z0dc N (El0 N N) s a) (by rw [ql0]; rfl))⟩
end Z9r
namespace Z83
def sG := sgV [.val i64] [(i64, .dp), (.bool, .dp)]
def eS : List EnTryz := [Z5.eE N]
def eE : EnTryz := ⟨253, sG, [.v i64], _, Z83 N, pk2 i64 .bool, enK Tryz.func253,
 fun t => eo (eS N) Tryz.func253 N an0 (Ym i64 .bool)⟩
end Z83
namespace Z84
def sG := sgV [.val i64] [(.str, .dp)]
def eS (N : Nat) : List EnTryz := []
def an_ : Nat -> Option (List Nat)
 | 0 => some [0, 3, 4]
 | _ => none
def lP (p : List Dir) := lpE (eS N) N an_ p Tryz.f254 (endK Tb sG Tryz.f254 [] (un1 .str))
def El0 (k_ : Nat) (n2 : Int) (a : ByteArray) (c : Bool) : Option (ByteArray) :=
 lP N [.r, .r, .r, .r, .l, .b] [] k_ (cr i64 n2 :: (un 2 (cr .str a :: (cr .bool c :: (un 26 [])))))
theorem ql0 (N : Nat) : ∀ k_, El0 N k_ = Z9x N k_ := qL (Z0ay N)
def eE : EnTryz := ⟨254, sG, [.v i64], _, Z84 N, pk1 .str, enK Tryz.func254,
 fun n => eo (eS N) Tryz.func254 N an_ (Y4 .str) (tq (b := Z0bv N (El0 N N) n) (by rw [ql0]; rfl))⟩
end Z84
namespace Z2i
def sG := sgV [.val i64] [(.str, .dp)]
def eS : List EnTryz := [Z83.eE N, Z84.eE N, Z5.eE N]
def eE : EnTryz := ⟨248, sG, [.v i64], _, Z2i N, pk1 .str, enK Tryz.func248,
 fun t => eo (eS N) Tryz.func248 N an0 (Y4 .str)⟩
end Z2i
namespace Z6n
def sG := sgV [.val .str] [(i64, .dp), (.bool, .dp)]
def eS : List EnTryz := [Z2i.eE N]
def an_ : Nat -> Option (List Nat)
 | 0 => some [0, 4]
 | _ => none
def lP (p : List Dir) := lpE (eS N) N an_ p Tryz.f237 (endK Tb sG Tryz.f237 [] (un2 i64 .bool))
def El0 (k_ : Nat) (s2 : ByteArray) (t : Int) : Option (Int × Bool) :=
 lP N [.r, .l, .r, .b] [] k_ (cr .str s2 :: (un 3 (cr i64 t :: (un 9 []))))
theorem ql0 (N : Nat) : ∀ k_, El0 N k_ = Z9y N k_ := qL (Z0az N)
def eE : EnTryz := ⟨237, sG, [.v .str], _, Z6n N, pk2 i64 .bool, enK Tryz.func237,
 fun s => eo (eS N) Tryz.func237 N an_ (Ym i64 .bool) (tq (b := Z0bw N (El0 N N) s) (by rw [ql0]; rfl))⟩
end Z6n
namespace Z5q
def sG := sgV [.val ty3, .val .str] [(i64, .dp)]
def eS (N : Nat) : List EnTryz := []
def an_ : Nat -> Option (List Nat)
 | 0 => some [0, 1, 5]
 | _ => none
def lP (p : List Dir) := lpE (eS N) N an_ p Tryz.f238 (endK Tb sG Tryz.f238 [] (un1 i64))
def El0 (k_ : Nat) (l2 : R0) (a : ByteArray) (i : Int) : Option (Int) :=
 lP N [.r, .l, .r, .b] [] k_ (cr ty3 l2 :: (cr .str a :: (un 3 (cr i64 i :: (un 14 [])))))
theorem ql0 (N : Nat) : ∀ k_, El0 N k_ = Z85 N k_ := qL (Z9u N)
def eE : EnTryz := ⟨238, sG, [.v ty3, .v .str], _, Z5q N, pk1 i64, enK Tryz.func238,
 fun l a => eo (eS N) Tryz.func238 N an_ (Y4 i64) (tq (b := Z0an N (El0 N N) l a) (by rw [ql0]; rfl))⟩
end Z5q
namespace Z29
def sG := sgV [.val ty3, .val ty8] [(.bool, .dp)]
def eS : List EnTryz := [Z5.eE N, Z0h.eE N]
def an_ : Nat -> Option (List Nat)
 | 0 => some [0, 3, 5, 6]
 | 2 => some [0, 3, 5, 6, 7, 8]
 | 4 => some [0, 3, 5, 6, 7, 9]
 | 6 => some [3, 5, 10]
 | 8 => some [3, 11]
 | _ => none
def lP (p : List Dir) := lpE (eS N) N an_ p Tryz.f105 (endK Tb sG Tryz.f105 [] (un1 .bool))
def El2 (a : Nat) (k_ : Nat) (l4 : R0) (q8 : Int) (q9 : A0) (c : I0) (d : List Bool) (i3 : Int) (a3 : Int) (a4 : I0) (k2 : Int) : Option (Bool) :=
 lP N [.r, .r, .r, .l, .r, .b, .b, .r, .l, .b, .r, .r, .r, .r, .b] [lP N [.r, .r, .r, .l, .r, .b] [] a] k_ (cr ty3 l4 :: (un 2 (.con (.box ⟨44, false, []⟩) [lf i64 q8 .ro, lf ty9 q9 .ro, lf ty0 c .ro] :: (un 1 (cd ty11 d :: (cr i64 i3 :: (.con (.box ⟨145, false, []⟩) [lf i64 a3 .ro, lf ty0 a4 .ro] :: (un 1 (cr i64 k2 :: (un 140 []))))))))))
def El1 (c : Nat) (k_ : Nat) (l3 : R0) (q5 : Int) (q6 : A0) (q7 : I0) (d : List Bool) (i2 : Int) (a : Int) (a2 : I0) (k : Int) : Option (Bool) :=
 lP N [.r, .r, .r, .l, .r, .b, .b, .r, .l, .b, .r, .r, .l, .r, .b] [lP N [.r, .r, .r, .l, .r, .b] [] c] k_ (cr ty3 l3 :: (un 2 (.con (.box ⟨44, false, []⟩) [lf i64 q5 .ro, lf ty9 q6 .ro, lf ty0 q7 .ro] :: (un 1 (cd ty11 d :: (cr i64 i2 :: (.con (.box ⟨145, false, []⟩) [lf i64 a .ro, lf ty0 a2 .ro] :: (cr i64 k :: (un 141 [])))))))))
def El4 (k_ : Nat) (a : Int) (c : A0) (d : I0) (i4 : Int) : Option (Bool) :=
 lP N [.r, .r, .r, .r, .r, .l, .r, .b] [] k_ (un 3 (.con (.box ⟨44, false, []⟩) [lf i64 a .ro, lf ty9 c .ro, lf ty0 d .ro] :: (un 7 (cr i64 i4 :: (un 138 [])))))
def El3 (k_ : Nat) (a : Int) (c : A0) (d : I0) (e : List Bool) (v : Int) : Option (Bool) :=
 lP N [.r, .r, .r, .r, .l, .r, .b] [] k_ (un 3 (.con (.box ⟨44, false, []⟩) [lf i64 a .ro, lf ty9 c .ro, lf ty0 d .ro] :: (un 1 (cd ty11 e :: (un 4 (cr i64 v :: (un 139 [])))))))
def El0 (k_ : Nat) (l2 : R0) (q2 : Int) (q3 : A0) (q4 : I0) (a : List Bool) (i : Int) : Option (Bool) :=
 lP N [.r, .r, .r, .l, .r, .b] [] k_ (cr ty3 l2 :: (un 2 (.con (.box ⟨44, false, []⟩) [lf i64 q2 .ro, lf ty9 q3 .ro, lf ty0 q4 .ro] :: (un 1 (cd ty11 a :: (cr i64 i :: (un 143 [])))))))
theorem ql2 (N : Nat) (k0_ : Nat) : ∀ k_, El2 N k0_ k_ = Z1x (El0 N k0_) N k_ := qL (Z7p N (El0 N k0_))
theorem ql1 (N : Nat) (k0_ : Nat) : ∀ k_, El1 N k0_ k_ = Z2p (El0 N k0_) N k_
 | 0 => by kernel_rfl
 | k_ + 1 => (show El1 N k0_ (k_ + 1) = Z5k N (El0 N k0_) (El2 N k0_ N) (El1 N k0_ k_) from by kernel_rfl).trans (by simp only [ql2, ql1 N k0_ k_]; rfl)
theorem ql4 (N : Nat) : ∀ k_, El4 N k_ = Z2q N k_ := qL (Z5l N)
theorem ql3 (N : Nat) : ∀ k_, El3 N k_ = Z2r N k_
 | 0 => by kernel_rfl
 | k_ + 1 => (show El3 N (k_ + 1) = Z5m N (El4 N N) (El3 N k_) from by kernel_rfl).trans (by simp only [ql4, ql3 N k_]; rfl)
theorem ql0 (N : Nat) : ∀ k_, El0 N k_ = Z3l N k_
 | 0 => by kernel_rfl
 | k_ + 1 => (show El0 N (k_ + 1) = Z7q N (El1 N k_ N) (El3 N N) (El0 N k_) from by kernel_rfl).trans (by simp only [ql1, ql3, ql0 N k_]; rfl)
def eE : EnTryz := ⟨105, sG, [.v ty3, .v ty8], _, Z29 N, pk1 .bool, enK Tryz.func105,
 fun l q => eo (eS N) Tryz.func105 N an_ (Y4 .bool) (tq (b := Z91 N (El0 N N) l q) (by rw [ql0]; rfl))⟩
end Z29
namespace Z86
def sG := sgV [.val ty3, .val ty4] [(.str, .dp)]
def eS : List EnTryz := [Z2i.eE N]
def an_ : Nat -> Option (List Nat)
 | 0 => some [0, 3, 5, 6]
 | _ => none
def lP (p : List Dir) := lpE (eS N) N an_ p Tryz.f249 (endK Tb sG Tryz.f249 [] (un1 .str))
def El0 (k_ : Nat) (l2 : R0) (a2 : Int) (a3 : I0) (s : ByteArray) (i : Int) : Option (ByteArray) :=
 lP N [.r, .r, .l, .r, .b] [] k_ (cr ty3 l2 :: (un 2 (.con (.box ⟨145, false, []⟩) [lf i64 a2 .ro, lf ty0 a3 .ro] :: (un 1 (cr .str s :: (cr i64 i :: (un 32 [])))))))
theorem ql0 (N : Nat) : ∀ k_, El0 N k_ = Z0ao N k_ := qL (Z0bm N)
def eE : EnTryz := ⟨249, sG, [.v ty3, .v ty4], _, Z86 N, pk1 .str, enK Tryz.func249,
 fun l a => eo (eS N) Tryz.func249 N an_ (Y4 .str) (tq (b := Z0cn N (El0 N N) l a) (by rw [ql0]; rfl))⟩
end Z86
namespace Z6q
def sG := sgV [.val ty3, .val ty8] [(.str, .dp)]
def eS : List EnTryz := [Z86.eE N, Z2i.eE N, Z29.eE N]
def an_ : Nat -> Option (List Nat)
 | 0 => some [0, 3, 5, 6]
 | 2 => some [0, 3, 5, 7]
 | _ => none
def lP (p : List Dir) := lpE (eS N) N an_ p Tryz.f239 (endK Tb sG Tryz.f239 [] (un1 .str))
def El1 (k_ : Nat) (l3 : R0) (q5 : Int) (q6 : A0) (q7 : I0) (s2 : ByteArray) (i2 : Int) : Option (ByteArray) :=
 lP N [.r, .r, .r, .r, .r, .l, .r, .b] [] k_ (cr ty3 l3 :: (un 2 (.con (.box ⟨44, false, []⟩) [lf i64 q5 .ro, lf ty9 q6 .ro, lf ty0 q7 .ro] :: (un 1 (cr .str s2 :: (un 1 (cr i64 i2 :: (un 42 []))))))))
def El0 (k_ : Nat) (l2 : R0) (q2 : Int) (q3 : A0) (q4 : I0) (s : ByteArray) (i : Int) : Option (ByteArray) :=
 lP N [.r, .r, .r, .l, .r, .b] [] k_ (cr ty3 l2 :: (un 2 (.con (.box ⟨44, false, []⟩) [lf i64 q2 .ro, lf ty9 q3 .ro, lf ty0 q4 .ro] :: (un 1 (cr .str s :: (cr i64 i :: (un 43 [])))))))
theorem ql1 (N : Nat) : ∀ k_, El1 N k_ = Z92 N k_ := qL (Z0ad N)
theorem ql0 (N : Nat) : ∀ k_, El0 N k_ = Z93 N k_
 | 0 => by kernel_rfl
 | k_ + 1 => (show El0 N (k_ + 1) = Z0ae N (El1 N N) (El0 N k_) from by kernel_rfl).trans (by simp only [ql1, ql0 N k_]; rfl)
def eE : EnTryz := ⟨239, sG, [.v ty3, .v ty8], _, Z6q N, pk1 .str, enK Tryz.func239,
 fun l q => eo (eS N) Tryz.func239 N an_ (Y4 .str) (tq (b := Z0b5 N (El0 N N) l q) (by rw [ql0]; rfl))⟩
end Z6q
namespace Z2j
def sG := sgV [.val ty3, .val .str] [(ty8, .dp), (.bool, .dp)]
def eS : List EnTryz := [Z5q.eE N, Z6n.eE N, Z6q.eE N, Z9r.eE N]
def an_ : Nat -> Option (List Nat)
 | 0 => some [0, 1, 4, 6, 7, 8]
 | 2 => some [0, 1, 4, 7, 11, 12]
 | 4 => some [0, 1, 4, 7, 11, 12, 13, 14]
 | _ => none
def lP (p : List Dir) := lpE (eS N) N an_ p Tryz.f211 (endK Tb sG Tryz.f211 [] (un2 ty8 .bool))
def El2 (c : Nat) (k_ : Nat) (l4 : R0) (s4 : ByteArray) (d : Int) (e : A0) (f : I0) (q7 : Int) (q8 : A0) (q9 : I0) (p2 : List ByteArray) (i3 : Int) (a : Int) (a2 : I0) (k : Int) : Option (Q0 × Bool) :=
 lP N [.r, .r, .r, .r, .r, .r, .l, .r, .b, .b, .r, .l, .b, .r, .l, .r, .b] [lP N [.r, .r, .r, .r, .r, .r, .l, .r, .b] [] c] k_ (cr ty3 l4 :: (cr .str s4 :: (un 2 (.con (.box ⟨44, false, []⟩) [lf i64 d .ro, lf ty9 e .dp, lf ty0 f .dp] :: (un 2 (.con (.box ⟨44, false, []⟩) [lf i64 q7 .ro, lf ty9 q8 .dp, lf ty0 q9 .dp] :: (un 3 (cd ty10 p2 :: (cr i64 i3 :: (.con (.box ⟨145, false, []⟩) [lf i64 a .ro, lf ty0 a2 .dp] :: (cr i64 k :: (un 108 []))))))))))))
def El1 (k_ : Nat) (l3 : R0) (s3 : ByteArray) (a : Int) (c : A0) (d : I0) (q4 : Int) (q5 : A0) (q6 : I0) (p : List ByteArray) (i2 : Int) : Option (Q0 × Bool) :=
 lP N [.r, .r, .r, .r, .r, .r, .l, .r, .b] [] k_ (cr ty3 l3 :: (cr .str s3 :: (un 2 (.con (.box ⟨44, false, []⟩) [lf i64 a .ro, lf ty9 c .dp, lf ty0 d .dp] :: (un 2 (.con (.box ⟨44, false, []⟩) [lf i64 q4 .ro, lf ty9 q5 .dp, lf ty0 q6 .dp] :: (un 3 (cd ty10 p :: (cr i64 i2 :: (un 110 []))))))))))
def El0 (k_ : Nat) (l2 : R0) (s2 : ByteArray) (t4 : Int) (a : A0) (c : I0) (w : List ByteArray) (q : Int) (q2 : A0) (q3 : I0) (i : Int) : Option (Q0 × Bool) :=
 lP N [.r, .r, .r, .r, .l, .r, .b] [] k_ (cr ty3 l2 :: (cr .str s2 :: (un 2 (.con (.box ⟨44, false, []⟩) [lf i64 t4 .ro, lf ty9 a .dp, lf ty0 c .dp] :: (un 1 (cd ty10 w :: (.con (.box ⟨44, false, []⟩) [lf i64 q .ro, lf ty9 q2 .dp, lf ty0 q3 .dp] :: (cr i64 i :: (un 114 [])))))))))
theorem ql2 (N : Nat) (k0_ : Nat) : ∀ k_, El2 N k0_ k_ = Z9j (El1 N k0_) N k_ := qL (Z0ap N (El1 N k0_))
theorem ql1 (N : Nat) : ∀ k_, El1 N k_ = Z7c N k_
 | 0 => by kernel_rfl
 | k_ + 1 => (show El1 N (k_ + 1) = Z0aq N (El2 N k_ N) (El1 N k_) from by kernel_rfl).trans (by simp only [ql2, ql1 N k_]; rfl)
theorem ql0 (N : Nat) : ∀ k_, El0 N k_ = Z9k N k_
 | 0 => by kernel_rfl
 | k_ + 1 => (show El0 N (k_ + 1) = Z0ar N (El1 N N) (El0 N k_) from by kernel_rfl).trans (by simp only [ql1, ql0 N k_]; rfl)
def eE : EnTryz := ⟨211, sG, [.v ty3, .v .str], _, Z2j N, pk2 ty8 .bool, enK Tryz.func211,
 fun l s => eo (eS N) Tryz.func211 N an_ (Ym ty8 .bool) (tq (b := Z0bn N (El0 N N) l s) (by rw [ql0]; rfl))⟩
end Z2j
namespace Z67
def bX : BoxSig := ⟨0, 177, [.fx, .ro, .ro]⟩
def sG : Sig := ⟨[.ptr ty2, .val ty3], [(ty8, .dp)], false, false, some bX, none, none⟩
def eS : List EnTryz := [Z7o.eE N, Z2j.eE N]
theorem vV (c : List Int × Int × Int) (l : R0) :
  evB (eS N) N an0 sG bX Tryz.f174 [.ptr ty2 c, .val ty3 l] (un2 ty2 ty8) = Z67 N c l := by kernel_rfl
def eE : EnTryz := ⟨174, sG, [.p ty2, .v ty3], _, Z67 N, pk2 ty2 ty8, enK Tryz.func174,
 fun c l => Ys tab_ok (es := eS N) (by kernel_rfl) mixed Tryz.func174 (by kernel_rfl) rfl rfl (fun _ => ⟨_, _, rfl⟩) (Ym ty2 ty8) (vV N c l)⟩
end Z67
namespace Z5r
def bX : BoxSig := ⟨0, 177, [.fx, .ro, .ro]⟩
def sG : Sig := ⟨[.ptr ty2, .val ty3], [(ty8, .dp)], false, false, some bX, none, none⟩
def eS : List EnTryz := [Z2h.eE N, Z76.eE N, Z67.eE N]
def an_ : Nat -> Option (List Nat)
 | 0 => some [0, 4, 5, 6]
 | _ => none
def lP (p : List Dir) := lpE (eS N) N an_ p Tryz.f127 (endB Tb sG bX Tryz.f127 ty2 (un2 ty2 ty8))
def El0 (k_ : Nat) (c2 : I0) (c3 : Int) (c4 : Int) (t4 : Int) (a : A0) (c : I0) (q : Int) (q2 : A0) (q3 : I0) (v : Int) : Option ((List Int × Int × Int) × Int × List (Int × List Int) × List Int) :=
 lP N [.r, .r, .r, .l, .r, .t, .r, .b] [] k_ (.con (.box ⟨177, true, [true, false, false]⟩) [lf ty1 c2 .ro, lf i64 c3 .ro, lf i64 c4 .ro] :: (un 3 (.con (.box ⟨44, false, []⟩) [lf i64 t4 .ro, lf ty9 a .dp, lf ty0 c .dp] :: (.con (.box ⟨44, false, []⟩) [lf i64 q .ro, lf ty9 q2 .dp, lf ty0 q3 .dp] :: (cr i64 v :: (un 24 []))))))
theorem ql0 (N : Nat) : ∀ k_, El0 N k_ = Z62 N k_ := qL (Z9z N)
theorem vV (c : List Int × Int × Int) (l : R0) :
  evB (eS N) N an_ sG bX Tryz.f127 [.ptr ty2 c, .val ty3 l] (un2 ty2 ty8) = Z0co N (El0 N N) c l := by kernel_rfl
def eE : EnTryz := ⟨127, sG, [.p ty2, .v ty3], _, Z5r N, pk2 ty2 ty8, enK Tryz.func127,
 fun c l => Ys tab_ok (es := eS N) (by kernel_rfl) mixed Tryz.func127 (by kernel_rfl) rfl rfl (fun _ => ⟨_, _, rfl⟩) (Ym ty2 ty8) ((vV N c l).trans (by rw [ql0]; rfl))⟩
end Z5r
namespace Z7r
def bX : BoxSig := ⟨0, 177, [.fx, .ro, .ro]⟩
def sG : Sig := ⟨[.ptr ty2, .val ty3], [(ty8, .dp)], false, false, some bX, none, none⟩
def eS : List EnTryz := [Z5r.eE N, Z1.eE N, Z0y.eE N]
theorem vV (c : List Int × Int × Int) (l : R0) :
  evB (eS N) N an0 sG bX Tryz.f130 [.ptr ty2 c, .val ty3 l] (un2 ty2 ty8) = Z7r N c l := by kernel_rfl
def eE : EnTryz := ⟨130, sG, [.p ty2, .v ty3], _, Z7r N, pk2 ty2 ty8, enK Tryz.func130,
 fun c l => Ys tab_ok (es := eS N) (by kernel_rfl) mixed Tryz.func130 (by kernel_rfl) rfl rfl (fun _ => ⟨_, _, rfl⟩) (Ym ty2 ty8) (vV N c l)⟩
end Z7r
namespace Z5s
def sG : Sig := ⟨[.val ty1], [(ty5, .ro), (ty8, .dp)], false, false, none, some 177, none⟩
def eS : List EnTryz := [Z8i.eE N, Z9q.eE N, Z5r.eE N, Z2h.eE N, Z7r.eE N]
theorem vV (code : I0) :
  evN (eS N) N an0 177 ty2 sG.results Tryz.f153 [.val ty1 code] (un3 ty2 ty5 ty8) = Z5s N code := by kernel_rfl
def eE : EnTryz := ⟨153, sG, [.v ty1], _, Z5s N, pk3 ty2 ty5 ty8, enK Tryz.func153,
 fun a => Y68 tab_ok (es := eS N) (by kernel_rfl) mixed Tryz.func153 (by kernel_rfl) rfl rfl (fun _ => ⟨_, _, rfl⟩) (Yau ty2 ty5 ty8) (vV N a)⟩
end Z5s
namespace Z7s
def bX : BoxSig := ⟨0, 177, [.fx, .ro, .ro]⟩
def sG : Sig := ⟨[.ptr ty2], [(ty12, .dp)], false, false, some bX, none, none⟩
def eS : List EnTryz := [Z1.eE N, Z0y.eE N]
theorem vV (c : List Int × Int × Int) :
  evB (eS N) N an0 sG bX Tryz.f196 [.ptr ty2 c] (un2 ty2 ty12) = Z7s N c := by kernel_rfl
def eE : EnTryz := ⟨196, sG, [.p ty2], _, Z7s N, pk2 ty2 ty12, enK Tryz.func196,
 fun c => Ys tab_ok (es := eS N) (by kernel_rfl) mixed Tryz.func196 (by kernel_rfl) rfl rfl (fun _ => ⟨_, _, rfl⟩) (Ym ty2 ty12) (vV N c)⟩
end Z7s
namespace Z8x
def bX : BoxSig := ⟨0, 177, [.fx, .ro, .ro]⟩
def sG : Sig := ⟨[.ptr ty2], [(ty13, .dp)], false, false, some bX, none, none⟩
def eS : List EnTryz := [Z7s.eE N, Z1.eE N]
def an_ : Nat -> Option (List Nat)
 | 0 => some [0, 3, 4]
 | _ => none
def lP (p : List Dir) := lpE (eS N) N an_ p Tryz.f154 (endB Tb sG bX Tryz.f154 ty2 (un2 ty2 ty13))
def El0 (k_ : Nat) (c2 : I0) (c3 : Int) (c4 : Int) (l : List C0) (n : Int) : Option ((List Int × Int × Int) × List C0) :=
 lP N [.r, .r, .l, .r, .b] [] k_ (.con (.box ⟨177, true, [true, false, false]⟩) [lf ty1 c2 .ro, lf i64 c3 .ro, lf i64 c4 .ro] :: (un 2 (cd ty13 l :: (cr i64 n :: (un 13 [])))))
theorem ql0 (N : Nat) : ∀ k_, El0 N k_ = Z87 N k_ := qL (Z0a9 N)
theorem vV (c : List Int × Int × Int) :
  evB (eS N) N an_ sG bX Tryz.f154 [.ptr ty2 c] (un2 ty2 ty13) = Z0d3 N (El0 N N) c := by kernel_rfl
def eE : EnTryz := ⟨154, sG, [.p ty2], _, Z8x N, pk2 ty2 ty13, enK Tryz.func154,
 fun c => Ys tab_ok (es := eS N) (by kernel_rfl) mixed Tryz.func154 (by kernel_rfl) rfl rfl (fun _ => ⟨_, _, rfl⟩) (Ym ty2 ty13) ((vV N c).trans (by rw [ql0]; rfl))⟩
end Z8x
namespace Z5t
def sG : Sig := ⟨[.val ty1], [(ty5, .ro), (ty13, .dp), (ty8, .dp)], false, false, none, some 177, none⟩
def eS : List EnTryz := [Z5s.eE N, Z8x.eE N]
theorem vV (code : I0) :
  evN (eS N) N an0 177 ty2 sG.results Tryz.f98 [.val ty1 code] (un4 ty2 ty5 ty13 ty8) = Z5t N code := by kernel_rfl
def eE : EnTryz := ⟨98, sG, [.v ty1], _, Z5t N, pk4 ty2 ty5 ty13 ty8, enK Tryz.func98,
 fun a => Y68 tab_ok (es := eS N) (by kernel_rfl) mixed Tryz.func98 (by kernel_rfl) rfl rfl (fun _ => ⟨_, _, rfl⟩) (Yf8 ty2 ty5 ty13 ty8) (vV N a)⟩
end Z5t
namespace Z0p
def sG := sgV [.val ty1] [(ty5, .ro), (ty13, .ro), (ty8, .dp)]
def eS : List EnTryz := [Z5t.eE N]
def eE : EnTryz := ⟨41, sG, [.v ty1], _, Z0p N, pk3 ty5 ty13 ty8, enK Tryz.func41,
 fun a => eo (eS N) Tryz.func41 N an0 (Yau ty5 ty13 ty8)⟩
end Z0p
namespace Z1l
def sG := sgV [.val ty1] [(ty5, .ro), (ty13, .ro), (ty8, .dp)]
def eS : List EnTryz := [Z0p.eE N]
def eE : EnTryz := ⟨25, sG, [.v ty1], _, Z1l N, pk3 ty5 ty13 ty8, enK Tryz.func25,
 fun a => eo (eS N) Tryz.func25 N an0 (Yau ty5 ty13 ty8)⟩
end Z1l
namespace Z6
def sG := sgV [.val i64, .val i64, .val i64] [(.bool, .dp)]
def eS (N : Nat) : List EnTryz := []
def eE : EnTryz := ⟨136, sG, [.v i64, .v i64, .v i64], _, Z6 N, pk1 .bool, enK Tryz.func136,
 fun n a b => eo (eS N) Tryz.func136 N an0 (Y4 .bool)⟩
end Z6
namespace Z2s
def sG := sgV [.val ty7] [(.bool, .dp)]
def eS : List EnTryz := [Z6.eE N]
def eE : EnTryz := ⟨199, sG, [.v ty7], _, Z2s N, pk1 .bool, enK Tryz.func199,
 fun a => eo (eS N) Tryz.func199 N an0 (Y4 .bool)⟩
end Z2s
namespace Z0z
def sG := sgV [.val ty3] [(.bool, .dp)]
def eS : List EnTryz := [Z2s.eE N]
def an_ : Nat -> Option (List Nat)
 | 0 => some [0, 5, 6, 7]
 | _ => none
def lP (p : List Dir) := lpE (eS N) N an_ p Tryz.f158 (endK Tb sG Tryz.f158 [] (un1 .bool))
def El0 (k_ : Nat) (a : R0) (t5 : R0) (t6 : Int) (t7 : Int) : Option (Bool) :=
 lP N [.r, .l, .r, .b] [] k_ (cr ty3 a :: (un 4 (cr ty3 t5 :: (cr i64 t6 :: (cr i64 t7 :: (un 26 []))))))
theorem ql0 (N : Nat) : ∀ k_, El0 N k_ = Z27 N k_ := qL (Z43 N)
def eE : EnTryz := ⟨158, sG, [.v ty3], _, Z0z N, pk1 .bool, enK Tryz.func158,
 fun a => eo (eS N) Tryz.func158 N an_ (Y4 .bool) (tq (b := Z6r N (El0 N N) a) (by rw [ql0]; rfl))⟩
end Z0z
namespace Z4v
def sG := sgV [.val i64] [(.bool, .dp)]
def eS : List EnTryz := [Z6.eE N]
def eE : EnTryz := ⟨231, sG, [.v i64], _, Z4v N, pk1 .bool, enK Tryz.func231,
 fun v => eo (eS N) Tryz.func231 N an0 (Y4 .bool)⟩
end Z4v
namespace Z0k
def sG := sgV [.val ty0, .clo] [(i64, .dp)]
def eS : List EnTryz := [Z4v.eE N]
def an_ : Nat -> Option (List Nat)
 | 0 => some [0, 1, 7, 8]
 | _ => none
def lP (p : List Dir) := lpE (eS N) N an_ p Tryz.f183 (endK Tb sG Tryz.f183 [] (un1 i64))
def El0 (k_ : Nat) (s2 : I0) (t7 : Int) (t8 : Int) : Option (Int) :=
 lP N [.r, .l, .r, .b] [] k_ (cr ty0 s2 :: (.cloR 231 [] :: (un 5 (cr i64 t7 :: (cr i64 t8 :: (un 10 []))))))
theorem ql0 (N : Nat) : ∀ k_, El0 N k_ = Z0f N k_ := qL (Z13 N)
def eE : EnTryz := ⟨183, sG, [.v ty0, .c 231 []], _, Z0k N, pk1 i64, enK Tryz.func183,
 fun s => eo (eS N) Tryz.func183 N an_ (Y4 i64) (tq (b := Z2t N (El0 N N) s) (by rw [ql0]; rfl))⟩
end Z0k
namespace Z0g
def sG := sgV [.val ty0, .clo] [(.bool, .dp)]
def eS : List EnTryz := [Z0k.eE N]
def eE : EnTryz := ⟨134, sG, [.v ty0, .c 231 []], _, Z0g N, pk1 .bool, enK Tryz.func134,
 fun s => eo (eS N) Tryz.func134 N an0 (Y4 .bool)⟩
end Z0g
namespace Z5e
def sG := sgV [.val ty0] [(.bool, .dp)]
def eS : List EnTryz := [Z0g.eE N]
def eE : EnTryz := ⟨200, sG, [.v ty0], _, Z5e N, pk1 .bool, enK Tryz.func200,
 fun a => eo (eS N) Tryz.func200 N an0 (Y4 .bool)⟩
end Z5e
namespace Z7t
def sG := sgV [.val ty3, .val ty4] [(.bool, .dp)]
def eS : List EnTryz := [Z6.eE N, Z5e.eE N]
def eE : EnTryz := ⟨159, sG, [.v ty3, .v ty4], _, Z7t N, pk1 .bool, enK Tryz.func159,
 fun a b => eo (eS N) Tryz.func159 N an0 (Y4 .bool)⟩
end Z7t
namespace Z89
def sG := sgV [.val i64, .val i64] [(i64, .dp)]
def eS (N : Nat) : List EnTryz := []
def eE : EnTryz := ⟨201, sG, [.v i64, .v i64], _, Z89 N, pk1 i64, enK Tryz.func201,
 fun a b => eo (eS N) Tryz.func201 N an0 (Y4 i64)⟩
end Z89
namespace Z68
def sG := sgV [.val i64] [(.bool, .dp)]
def eS (N : Nat) : List EnTryz := []
def eE : EnTryz := ⟨247, sG, [.v i64], _, Z68 N, pk1 .bool, enK Tryz.func247,
 fun x => eo (eS N) Tryz.func247 N an0 (Y4 .bool)⟩
end Z68
namespace Z4p
def sG := sgV [.val i64, .val i64] [(i64, .dp)]
def eS : List EnTryz := [Z68.eE N]
def eE : EnTryz := ⟨232, sG, [.v i64, .v i64], _, Z4p N, pk1 i64, enK Tryz.func232,
 fun x y => eo (eS N) Tryz.func232 N an0 (Y4 i64)⟩
end Z4p
namespace Z2n
def sG := sgV [.val ty0, .val ty0] [(i64, .dp)]
def eS : List EnTryz := [Z4p.eE N]
def an_ : Nat -> Option (List Nat)
 | 0 => some [0, 1, 9, 10, 11]
 | _ => none
def lP (p : List Dir) := lpE (eS N) N an_ p Tryz.f202 (endK Tb sG Tryz.f202 [] (un1 i64))
def El0 (k_ : Nat) (a : I0) (c : I0) (t9 : I0) (d : Int) (e : Int) : Option (Int) :=
 lP N [.r, .l, .r, .b] [] k_ (cr ty0 a :: (cr ty0 c :: (un 7 (cr ty0 t9 :: (cr i64 d :: (cr i64 e :: (un 24 [])))))))
theorem ql0 (N : Nat) : ∀ k_, El0 N k_ = Z19 N k_ := qL (Z2a N)
def eE : EnTryz := ⟨202, sG, [.v ty0, .v ty0], _, Z2n N, pk1 i64, enK Tryz.func202,
 fun s1 s2 => eo (eS N) Tryz.func202 N an_ (Y4 i64) (tq (b := Z98 N (El0 N N) s1 s2) (by rw [ql0]; rfl))⟩
end Z2n
namespace Z3y
def sG := sgV [.val ty4, .val ty4] [(i64, .dp)]
def eS : List EnTryz := [Z89.eE N, Z2n.eE N]
def eE : EnTryz := ⟨160, sG, [.v ty4, .v ty4], _, Z3y N, pk1 i64, enK Tryz.func160,
 fun a b => eo (eS N) Tryz.func160 N an0 (Y4 i64)⟩
end Z3y
namespace Z0d
def sG := sgV [.val ty5] [(.bool, .dp)]
def eS : List EnTryz := [Z7t.eE N, Z3y.eE N, Z0z.eE N]
def an_ : Nat -> Option (List Nat)
 | 0 => some [1, 16, 17, 18]
 | _ => none
def lP (p : List Dir) := lpE (eS N) N an_ p Tryz.f102 (endK Tb sG Tryz.f102 [] (un1 .bool))
def El0 (k_ : Nat) (a : R0) (c : A0) (d : A0) (e : Int) (f : Int) : Option (Bool) :=
 lP N [.r, .r, .l, .r, .b] [] k_ (un 1 (.con (.box ⟨39, false, []⟩) [lf ty3 a .ro, lf ty6 c .ro] :: (un 14 (cr ty6 d :: (cr i64 e :: (cr i64 f :: (un 25 [])))))))
theorem ql0 (N : Nat) : ∀ k_, El0 N k_ = Z2o N k_ := qL (Z4m N)
def eE : EnTryz := ⟨102, sG, [.v ty5], _, Z0d N, pk1 .bool, enK Tryz.func102,
 fun db => eo (eS N) Tryz.func102 N an_ (Y4 .bool) (tq (b := Z7u N (El0 N N) db) (by rw [ql0]; rfl))⟩
end Z0d
namespace Z26
def sG := sgV [.val ty5, .val ty12] [(.bool, .dp)]
def eS : List EnTryz := [Z0d.eE N, Z6.eE N]
def eE : EnTryz := ⟨206, sG, [.v ty5, .v ty12], _, Z26 N, pk1 .bool, enK Tryz.func206,
 fun db a => eo (eS N) Tryz.func206 N an0 (Y4 .bool)⟩
end Z26
namespace Z77
def sG := sgV [.val ty12, .val ty4, .val ty4] [(.bool, .dp)]
def eS (N : Nat) : List EnTryz := []
def eE : EnTryz := ⟨207, sG, [.v ty12, .v ty4, .v ty4], _, Z77 N, pk1 .bool, enK Tryz.func207,
 fun c a b => eo (eS N) Tryz.func207 N an0 (Y4 .bool)⟩
end Z77
namespace Z1a
def sG := sgV [.val ty5, .val ty12, .val i64, .val i64] [(.bool, .dp)]
def eS : List EnTryz := [Z26.eE N, Z6.eE N, Z77.eE N]
def eE : EnTryz := ⟨168, sG, [.v ty5, .v ty12, .v i64, .v i64], _, Z1a N, pk1 .bool, enK Tryz.func168,
 fun db a b c => eo (eS N) Tryz.func168 N an0 (Y4 .bool)⟩
end Z1a
namespace Z2c
def sG := sgV [.val ty0, .val ty0] [(.bool, .dp)]
def eS (N : Nat) : List EnTryz := []
def an_ : Nat -> Option (List Nat)
 | 0 => some [0, 1, 12, 13]
 | _ => none
def lP (p : List Dir) := lpE (eS N) N an_ p Tryz.f189 (endK Tb sG Tryz.f189 [] (un1 .bool))
def El0 (k_ : Nat) (a : I0) (c : I0) (d : Int) (e : Int) : Option (Bool) :=
 lP N [.r, .r, .l, .r, .b] [] k_ (cr ty0 a :: (cr ty0 c :: (un 10 (cr i64 d :: (cr i64 e :: (un 12 []))))))
theorem ql0 (N : Nat) : ∀ k_, El0 N k_ = Z2b N k_ := qL (Z4a N)
def eE : EnTryz := ⟨189, sG, [.v ty0, .v ty0], _, Z2c N, pk1 .bool, enK Tryz.func189,
 fun s1 s2 => eo (eS N) Tryz.func189 N an_ (Y4 .bool) (tq (b := Z71 N (El0 N N) s1 s2) (by rw [ql0]; rfl))⟩
end Z2c
namespace Z6s
def sG := sgV [.val ty3, .val ty4, .val ty4] [(.bool, .dp)]
def eS : List EnTryz := [Z2c.eE N]
def eE : EnTryz := ⟨139, sG, [.v ty3, .v ty4, .v ty4], _, Z6s N, pk1 .bool, enK Tryz.func139,
 fun c a b => eo (eS N) Tryz.func139 N an0 (Y4 .bool)⟩
end Z6s
namespace Z2e
def sG := sgV [.val i64, .val i64, .ptr ty13, .ptr ty5] [(.bool, .dp)]
def eS : List EnTryz := [Z1a.eE N, Z6s.eE N]
def an_ : Nat -> Option (List Nat)
 | 0 => some [0, 1, 3, 9, 10, 11]
 | _ => none
def lP (p : List Dir) := lpE (eS N) N an_ p Tryz.f167 (endK Tb sG Tryz.f167 [] (un1 .bool))
def El0 (k_ : Nat) (a2 : Int) (b2 : Int) (t3 : R0) (a : A0) (t9 : List C0) (c : Int) (d : Int) : Option (Bool) :=
 lP N [.r, .l, .r, .b] [] k_ (cr i64 a2 :: (cr i64 b2 :: (un 1 (.eptr [lf ty3 t3 .ro, lf ty6 a .ro] none :: (un 5 (cr ty13 t9 :: (cr i64 c :: (cr i64 d :: (un 29 [])))))))))
theorem ql0 (N : Nat) : ∀ k_, El0 N k_ = Z2d N k_ := qL (Z4b N)
def eE : EnTryz := ⟨167, sG, [.v i64, .v i64, .p ty13, .p ty5], _, Z2e N, pk1 .bool, enK Tryz.func167,
 fun a b c2 c3 => eo (eS N) Tryz.func167 N an_ (Y4 .bool) (tq (b := Z72 N (El0 N N) a b c2 c3) (by rw [ql0]; rfl))⟩
end Z2e
namespace Z1m
def sG := sgV [.val i64, .clo] [(ty14, .dp)]
def eS : List EnTryz := [Z2e.eE N]
def an_ : Nat -> Option (List Nat)
 | 0 => some [0, 1, 5, 9, 10]
 | 2 => some [0, 1, 5, 6, 7, 9, 10]
 | _ => none
def lP (p : List Dir) := lpE (eS N) N an_ p Tryz.f166 (endK Tb sG Tryz.f166 [] (un1 ty14))
def El1 (c : Nat) (k_ : Nat) (n3 : Int) (d : List C0) (e : D0) (f : E0) (a : Int) (b : Int) (g : Int) (h : Int) : Option E0 :=
 lP N [.r, .r, .l, .r, .b, .b, .r, .r, .l, .b, .r, .r, .b] [lP N [.r, .r, .l, .r, .b] [] c] k_ (cr i64 n3 :: (.cloR 167 [⟨ty13, d⟩, ⟨ty5, e⟩] :: (un 3 (cd ty14 f :: (cr i64 a :: (cr i64 b :: (un 1 (cr i64 g :: (cr i64 h :: (un 21 []))))))))))
def El0 (k_ : Nat) (n2 : Int) (a : List C0) (c : D0) (d : E0) (t9 : Int) (e : Int) : Option E0 :=
 lP N [.r, .r, .l, .r, .b] [] k_ (cr i64 n2 :: (.cloR 167 [⟨ty13, a⟩, ⟨ty5, c⟩] :: (un 3 (cd ty14 d :: (un 3 (cr i64 t9 :: (cr i64 e :: (un 21 []))))))))
theorem ql1 (N : Nat) (k0_ : Nat) : ∀ k_, El1 N k0_ k_ = Z0s (El0 N k0_) N k_ := qL (Z2u N (El0 N k0_))
theorem ql0 (N : Nat) : ∀ k_, El0 N k_ = Z0t N k_
 | 0 => by kernel_rfl
 | k_ + 1 => (show El0 N (k_ + 1) = Z2v N (El1 N k_ N) (El0 N k_) from by kernel_rfl).trans (by simp only [ql1, ql0 N k_]; rfl)
def eE : EnTryz := ⟨166, sG, [.v i64, .c 167 [ty13, ty5]], _, Z1m N, pk1 ty14, enK Tryz.func166,
 fun n c c2 => eo (eS N) Tryz.func166 N an_ (Y4 ty14) (tq (b := Z4z N (El0 N N) n c c2) (by rw [ql0]; rfl))⟩
end Z1m
namespace Z3f
def sG := sgV [.val ty5, .val ty13] [(ty14, .dp)]
def eS : List EnTryz := [Z0d.eE N, Z1m.eE N]
def eE : EnTryz := ⟨104, sG, [.v ty5, .v ty13], _, Z3f N, pk1 ty14, enK Tryz.func104,
 fun db a => eo (eS N) Tryz.func104 N an0 (Y4 ty14)⟩
end Z3f
namespace Z1y
def sG := sgV [.val i64, .val ty14] [(.bool, .dp)]
def eS : List EnTryz := [Z6.eE N]
def an_ : Nat -> Option (List Nat)
 | 0 => some [0, 1, 10, 11, 12]
 | _ => none
def lP (p : List Dir) := lpE (eS N) N an_ p Tryz.f161 (endK Tb sG Tryz.f161 [] (un1 .bool))
def El0 (k_ : Nat) (n2 : Int) (a : E0) (c : E0) (d : Int) (e : Int) : Option (Bool) :=
 lP N [.r, .r, .l, .r, .b] [] k_ (cr i64 n2 :: (cr ty14 a :: (un 8 (cr ty14 c :: (cr i64 d :: (cr i64 e :: (un 58 [])))))))
theorem ql0 (N : Nat) : ∀ k_, El0 N k_ = Z38 N k_ := qL (Z51 N)
def eE : EnTryz := ⟨161, sG, [.v i64, .v ty14], _, Z1y N, pk1 .bool, enK Tryz.func161,
 fun n a => eo (eS N) Tryz.func161 N an_ (Y4 .bool) (tq (b := Z8k N (El0 N N) n a) (by rw [ql0]; rfl))⟩
end Z1y
namespace Z1z
def sG := sgV [.val ty0, .val i64] [(.bool, .dp)]
def eS : List EnTryz := [Z6.eE N]
def an_ : Nat -> Option (List Nat)
 | 0 => some [0, 1, 7, 8, 9]
 | _ => none
def lP (p : List Dir) := lpE (eS N) N an_ p Tryz.f178 (endK Tb sG Tryz.f178 [] (un1 .bool))
def El0 (k_ : Nat) (a : I0) (n2 : Int) (t7 : I0) (t8 : Int) (t9 : Int) : Option (Bool) :=
 lP N [.r, .l, .r, .b] [] k_ (cr ty0 a :: (cr i64 n2 :: (un 5 (cr ty0 t7 :: (cr i64 t8 :: (cr i64 t9 :: (un 23 [])))))))
theorem ql0 (N : Nat) : ∀ k_, El0 N k_ = Z4i N k_ := qL (Z6h N)
def eE : EnTryz := ⟨178, sG, [.v ty0, .v i64], _, Z1z N, pk1 .bool, enK Tryz.func178,
 fun a n => eo (eS N) Tryz.func178 N an_ (Y4 .bool) (tq (b := Z0a0 N (El0 N N) a n) (by rw [ql0]; rfl))⟩
end Z1z
namespace Z39
def sG := sgV [.val ty0, .val i64] [(i64, .dp)]
def eS (N : Nat) : List EnTryz := []
def an_ : Nat -> Option (List Nat)
 | 0 => some [0, 1, 7, 8]
 | _ => none
def lP (p : List Dir) := lpE (eS N) N an_ p Tryz.f230 (endK Tb sG Tryz.f230 [] (un1 i64))
def El0 (k_ : Nat) (s2 : I0) (v2 : Int) (t7 : Int) (t8 : Int) : Option (Int) :=
 lP N [.r, .l, .r, .b] [] k_ (cr ty0 s2 :: (cr i64 v2 :: (un 5 (cr i64 t7 :: (cr i64 t8 :: (un 10 []))))))
theorem ql0 (N : Nat) : ∀ k_, El0 N k_ = Z2f N k_ := qL (Z4c N)
def eE : EnTryz := ⟨230, sG, [.v ty0, .v i64], _, Z39 N, pk1 i64, enK Tryz.func230,
 fun s v => eo (eS N) Tryz.func230 N an_ (Y4 i64) (tq (b := Z73 N (El0 N N) s v) (by rw [ql0]; rfl))⟩
end Z39
namespace Z0l
def sG := sgV [.val ty0, .val i64] [(.bool, .dp)]
def eS : List EnTryz := [Z39.eE N]
def eE : EnTryz := ⟨192, sG, [.v ty0, .v i64], _, Z0l N, pk1 .bool, enK Tryz.func192,
 fun s v => eo (eS N) Tryz.func192 N an0 (Y4 .bool)⟩
end Z0l
namespace Z3a
def sG := sgV [.val ty15, .ptr ty0] [(.bool, .dp)]
def eS : List EnTryz := [Z0l.eE N]
def eE : EnTryz := ⟨205, sG, [.v ty15, .p ty0], _, Z3a N, pk1 .bool, enK Tryz.func205,
 fun e c1 => eo (eS N) Tryz.func205 N an0 (Y4 .bool)⟩
end Z3a
namespace Z4
def sG := sgV [.val ty14, .clo] [(i64, .dp)]
def eS : List EnTryz := [Z3a.eE N]
def an_ : Nat -> Option (List Nat)
 | 0 => some [0, 1, 7, 8]
 | _ => none
def lP (p : List Dir) := lpE (eS N) N an_ p Tryz.f233 (endK Tb sG Tryz.f233 [] (un1 i64))
def El0 (k_ : Nat) (s2 : E0) (f : I0) (t7 : Int) (t8 : Int) : Option (Int) :=
 lP N [.r, .l, .r, .b] [] k_ (cr ty14 s2 :: (.cloR 205 [⟨ty0, f⟩] :: (un 5 (cr i64 t7 :: (cr i64 t8 :: (un 10 []))))))
theorem ql0 (N : Nat) : ∀ k_, El0 N k_ = Z2 N k_ := qL (Z9 N)
def eE : EnTryz := ⟨233, sG, [.v ty14, .c 205 [ty0]], _, Z4 N, pk1 i64, enK Tryz.func233,
 fun s c => eo (eS N) Tryz.func233 N an_ (Y4 i64) (tq (b := Z0q N (El0 N N) s c) (by rw [ql0]; rfl))⟩
end Z4
namespace Z3
def sG := sgV [.val ty14, .clo] [(.bool, .dp)]
def eS : List EnTryz := [Z4.eE N]
def eE : EnTryz := ⟨204, sG, [.v ty14, .c 205 [ty0]], _, Z3 N, pk1 .bool, enK Tryz.func204,
 fun s c => eo (eS N) Tryz.func204 N an0 (Y4 .bool)⟩
end Z3
namespace Z10
def sG := sgV [.val ty14, .val ty0] [(.bool, .dp)]
def eS : List EnTryz := [Z3.eE N]
def eE : EnTryz := ⟨165, sG, [.v ty14, .v ty0], _, Z10 N, pk1 .bool, enK Tryz.func165,
 fun a b => eo (eS N) Tryz.func165 N an0 (Y4 .bool)⟩
end Z10
namespace Z3b
def sG := sgV [.val i64, .val ty14, .val ty0] [(.bool, .dp)]
def eS : List EnTryz := [Z1y.eE N, Z1z.eE N, Z10.eE N]
def eE : EnTryz := ⟨203, sG, [.v i64, .v ty14, .v ty0], _, Z3b N, pk1 .bool, enK Tryz.func203,
 fun n a b => eo (eS N) Tryz.func203 N an0 (Y4 .bool)⟩
end Z3b
namespace Z1d
def sG := sgV [.val i64, .val ty14, .val ty0] [(.bool, .dp)]
def eS : List EnTryz := [Z0l.eE N, Z56 N, Z10.eE N, Z3b.eE N]
def an_ : Nat -> Option (List Nat)
 | 0 => some [1, 2, 13, 14]
 | _ => none
def lP (p : List Dir) := lpE (eS N) N an_ p Tryz.f163 (endK Tb sG Tryz.f163 [] (un1 .bool))
def El0 (k_ : Nat) (a : E0) (c : I0) (d : Int) (e : Int) : Option (Bool) :=
 lP N [.r, .r, .l, .r, .b] [] k_ (un 1 (cr ty14 a :: (cr ty0 c :: (un 10 (cr i64 d :: (cr i64 e :: (un 16 [])))))))
theorem ql0 (N : Nat) : ∀ k_, El0 N k_ = Z1h N k_ := qL (Z34 N)
def eE : EnTryz := ⟨163, sG, [.v i64, .v ty14, .v ty0], _, Z1d N, pk1 .bool, enK Tryz.func163,
 fun n a c => eo (eS N) Tryz.func163 N an_ (Y4 .bool) (tq (b := Z5u N (El0 N N) n a c) (by rw [ql0]; rfl))⟩
end Z1d
namespace Z16
def bX : BoxSig := ⟨4, 60, [.dp]⟩
def sG : Sig := ⟨[.val i64, .val ty0, .ptr i64, .ptr ty14, .ptr ty16, .self], [], false, false, some bX, none, none⟩
theorem eN : Enterable Tryz.prog 162 := Y1z Tryz.func162 (code := Tryz.f162.body.getD .skip) (by kernel_rfl) (by kernel_rfl)
def eS (Rf : Int -> I0 -> Int -> E0 -> L0 -> Int -> E0 -> Option L0) (hR : OkP (Option L0) [.v i64, .v ty0, .p i64, .p ty14, .p ty16, .s 162 [.ro i64, .ro ty14, .pin, .self]] Rf (fun xs_ q => ∀ x, q = some x -> FnOk Tryz.prog 162 sG xs_ (pk1 ty16 x))) : List EnTryz := [Z1d.eE N, Z56 N, Z10.eE N, ⟨162, sG, [.v i64, .v ty0, .p i64, .p ty14, .p ty16, .s 162 [.ro i64, .ro ty14, .pin, .self]], L0, Rf, pk1 ty16, eN, hR⟩]
theorem vV (Rf : Int -> I0 -> Int -> E0 -> L0 -> Int -> E0 -> Option L0) (hR : OkP (Option L0) [.v i64, .v ty0, .p i64, .p ty14, .p ty16, .s 162 [.ro i64, .ro ty14, .pin, .self]] Rf (fun xs_ q => ∀ x, q = some x -> FnOk Tryz.prog 162 sG xs_ (pk1 ty16 x))) (v : Int) (set : I0) (c2 : Int) (c3 : E0) (c4 : L0) (sc2 : Int) (sc3 : E0) :
  evB (eS N Rf hR) N an0 sG bX Tryz.f162 [.val i64 v, .val ty0 set, .ptr i64 c2, .ptr ty14 c3, .ptr ty16 c4, .fptr 162 [.ro ⟨i64, sc2⟩, .ro ⟨ty14, sc3⟩, .pin, .self]] (un1 ty16) = Z2w N Rf v set c2 c3 c4 sc2 sc3 := by kernel_rfl
theorem oK (N : Nat) : ∀ k_, OkP (Option L0) [.v i64, .v ty0, .p i64, .p ty14, .p ty16, .s 162 [.ro i64, .ro ty14, .pin, .self]] (Z0m N k_) (fun xs_ q => ∀ x, q = some x -> FnOk Tryz.prog 162 sG xs_ (pk1 ty16 x))
 | 0 => fun v set c2 c3 c4 sc2 sc3 =>  fun x h => absurd (show (none : Option L0) = some x from h) (by simp)
 | k_ + 1 => fun v set c2 c3 c4 sc2 sc3 => Ys tab_ok (es := eS N (Z0m N k_) (oK N k_)) (by kernel_rfl) mixed Tryz.func162 (by kernel_rfl) rfl rfl (fun _ => ⟨_, _, rfl⟩) (Y4 ty16) (vV N _ _ v set c2 c3 c4 sc2 sc3)
def eE : EnTryz := ⟨162, sG, [.v i64, .v ty0, .p i64, .p ty14, .p ty16, .s 162 [.ro i64, .ro ty14, .pin, .self]], L0, Z16 N, pk1 ty16, eN, oK N N⟩
end Z16
namespace Z11
def sG := sgV [.val i64, .val ty14] [(ty16, .dp)]
def eS : List EnTryz := [Z1y.eE N, Z16.eE N]
def eE : EnTryz := ⟨103, sG, [.v i64, .v ty14], _, Z11 N, pk1 ty16, enK Tryz.func103,
 fun n a => eo (eS N) Tryz.func103 N an0 (Y4 ty16)⟩
end Z11
namespace Z3g
def sG := sgV [.val ty5, .val ty13] [(ty16, .dp)]
def eS : List EnTryz := [Z0d.eE N, Z3f.eE N, Z11.eE N]
def eE : EnTryz := ⟨47, sG, [.v ty5, .v ty13], _, Z3g N, pk1 ty16, enK Tryz.func47,
 fun db a => eo (eS N) Tryz.func47 N an0 (Y4 ty16)⟩
end Z3g
namespace Z0a
def sG := sgV [.val ty5, .val ty13] [(ty16, .dp)]
def eS : List EnTryz := [Z3g.eE N]
def an_ : Nat -> Option (List Nat)
 | 0 => some [5, 6, 7, 16, 17, 18]
 | 2 => some [5, 6, 7, 27, 28, 29]
 | _ => none
def lP (p : List Dir) := lpES (eS N) N an_ p Tryz.f26 (endK Tb sG Tryz.f26 [] (un1 ty16))
def El2 (k_ : Nat) (a : Int) (c : L0) (d : I0) (e : L0) (f : L0) (g : Int) (h : Int) : Option L0 :=
 lP N [.r, .r, .r, .l, .r, .b] [] k_ (un 5 (cr i64 a :: (cd ty16 c :: (.sel 6 0 26 3 i64 d e :: (un 19 (.con .val [lb ty16 f 6 0] :: (cr i64 g :: (cr i64 h :: (un 13 [])))))))))
def El1 (k_ : Nat) (a : Int) (c : L0) (d : L0) (e : L0) (f : Int) (g : Int) : Option L0 :=
 lP N [.r, .r, .r, .l, .r, .b] [] k_ (un 5 (cr i64 a :: (cd ty16 c :: (cd ty16 d :: (un 19 (.con .val [lb ty16 e 6 0] :: (cr i64 f :: (cr i64 g :: (un 13 [])))))))))
def El0 (k_ : Nat) (a : Int) (c : L0) (d : L0) (e : L0) (f : Int) (g : Int) : Option L0 :=
 lP N [.r, .r, .l, .r, .b] [] k_ (un 5 (cr i64 a :: (cd ty16 c :: (cd ty16 d :: (un 8 (.con .val [lb ty16 e 6 0] :: (cr i64 f :: (cr i64 g :: (un 24 [])))))))))
theorem ql2 (N : Nat) : ∀ k_, El2 N k_ = Z1r N k_ := qL (Z3m N)
theorem ql1 (N : Nat) : ∀ k_, El1 N k_ = Z1s N k_
 | 0 => by kernel_rfl
 | k_ + 1 => (show El1 N (k_ + 1) = Z3n N (El2 N k_) (El1 N k_) from by kernel_rfl).trans (by simp only [ql2, ql1 N k_]; rfl)
theorem ql0 (N : Nat) : ∀ k_, El0 N k_ = Z1t N k_
 | 0 => by kernel_rfl
 | k_ + 1 => (show El0 N (k_ + 1) = Z3o N (El1 N N) (El0 N k_) from by kernel_rfl).trans (by simp only [ql1, ql0 N k_]; rfl)
def eE : EnTryz := ⟨26, sG, [.v ty5, .v ty13], _, Z0a N, pk1 ty16, enK Tryz.func26,
 fun db a => eoS (eS N) Tryz.func26 N an_ (Y4 ty16) (tq (b := Z6i N (El0 N N) db a) (by rw [ql0]; rfl))⟩
end Z0a
namespace Z3p
def sG := sgV [.val ty4, .ptr ty4] [(.bool, .dp)]
def eS (N : Nat) : List EnTryz := []
def eE : EnTryz := ⟨180, sG, [.v ty4, .p ty4], _, Z3p N, pk1 .bool, enK Tryz.func180,
 fun a c1 => eo (eS N) Tryz.func180 N an0 (Y4 .bool)⟩
end Z3p
namespace Z0e
def sG := sgV [.val ty9, .clo] [(i64, .dp)]
def eS : List EnTryz := [Z3p.eE N]
def an_ : Nat -> Option (List Nat)
 | 0 => some [0, 1, 7, 8]
 | _ => none
def lP (p : List Dir) := lpE (eS N) N an_ p Tryz.f213 (endK Tb sG Tryz.f213 [] (un1 i64))
def El0 (k_ : Nat) (s2 : A0) (f : Int × List Int) (t7 : Int) (t8 : Int) : Option (Int) :=
 lP N [.r, .l, .r, .b] [] k_ (cr ty9 s2 :: (.cloR 180 [⟨ty4, f⟩] :: (un 5 (cr i64 t7 :: (cr i64 t8 :: (un 10 []))))))
theorem ql0 (N : Nat) : ∀ k_, El0 N k_ = Z0b N k_ := qL (Z0u N)
def eE : EnTryz := ⟨213, sG, [.v ty9, .c 180 [ty4]], _, Z0e N, pk1 i64, enK Tryz.func213,
 fun s c => eo (eS N) Tryz.func213 N an_ (Y4 i64) (tq (b := Z20 N (El0 N N) s c) (by rw [ql0]; rfl))⟩
end Z0e
namespace Z7
def sG := sgV [.val ty9, .clo] [(.bool, .dp)]
def eS : List EnTryz := [Z0e.eE N]
def eE : EnTryz := ⟨179, sG, [.v ty9, .c 180 [ty4]], _, Z7 N, pk1 .bool, enK Tryz.func179,
 fun s c => eo (eS N) Tryz.func179 N an0 (Y4 .bool)⟩
end Z7
namespace Z31
def sG := sgV [.val ty16] [(ty0, .dp)]
def eS : List EnTryz := [Z0cg N]
def an_ : Nat -> Option (List Nat)
 | 0 => some [0, 3, 9, 10, 11]
 | 2 => some [6, 25, 26, 27]
 | _ => none
def lP (p : List Dir) := lpE (eS N) N an_ p Tryz.f214 (endK Tb sG Tryz.f214 [] (un1 ty0))
def El1 (k_ : Nat) (a : I0) (c : L0) (d : Int) (e : Int) : Option I0 :=
 lP N [.r, .r, .r, .r, .l, .r, .b] [] k_ (un 6 (cd ty0 a :: (un 18 (cr ty16 c :: (cr i64 d :: (cr i64 e :: (un 8 [])))))))
def El0 (k_ : Nat) (a : L0) (c : Int) (t9 : L0) (d : Int) (e : Int) : Option I0 :=
 lP N [.r, .r, .l, .r, .b] [] k_ (cr ty16 a :: (un 2 (cr i64 c :: (un 5 (cr ty16 t9 :: (cr i64 d :: (cr i64 e :: (un 24 []))))))))
theorem ql1 (N : Nat) : ∀ k_, El1 N k_ = Z28 N k_ := qL (Z5v N)
theorem ql0 (N : Nat) : ∀ k_, El0 N k_ = Z35 N k_
 | 0 => by kernel_rfl
 | k_ + 1 => (show El0 N (k_ + 1) = Z5w N (El1 N N) (El0 N k_) from by kernel_rfl).trans (by simp only [ql1, ql0 N k_]; rfl)
def eE : EnTryz := ⟨214, sG, [.v ty16], _, Z31 N, pk1 ty0, enK Tryz.func214,
 fun a => eo (eS N) Tryz.func214 N an_ (Y4 ty0) (tq (b := Z9l N (El0 N N) a) (by rw [ql0]; rfl))⟩
end Z31
namespace Z6j
def sG := sgV [.val ty0, .val ty0] [(ty0, .dp)]
def eS : List EnTryz := [Z31.eE N, Z0ch N, Z0br N]
def eE : EnTryz := ⟨181, sG, [.v ty0, .v ty0], _, Z6j N, pk1 ty0, enK Tryz.func181,
 fun a b => eo (eS N) Tryz.func181 N an0 (Y4 ty0)⟩
end Z6j
namespace Z3h
def sG := sgV [.val ty4] [(ty0, .dp)]
def eS : List EnTryz := [Z6.eE N, Z6j.eE N]
def an_ : Nat -> Option (List Nat)
 | 0 => some [3, 8, 9, 10]
 | _ => none
def lP (p : List Dir) := lpE (eS N) N an_ p Tryz.f182 (endK Tb sG Tryz.f182 [] (un1 ty0))
def El0 (k_ : Nat) (a : I0) (t8 : I0) (t9 : Int) (c : Int) : Option I0 :=
 lP N [.r, .r, .l, .r, .b] [] k_ (un 3 (cd ty0 a :: (un 4 (cr ty0 t8 :: (cr i64 t9 :: (cr i64 c :: (un 12 [])))))))
theorem ql0 (N : Nat) : ∀ k_, El0 N k_ = Z4j N k_ := qL (Z74 N)
def eE : EnTryz := ⟨182, sG, [.v ty4], _, Z3h N, pk1 ty0, enK Tryz.func182,
 fun a => eo (eS N) Tryz.func182 N an_ (Y4 ty0) (tq (b := Z8l N (El0 N N) a) (by rw [ql0]; rfl))⟩
end Z3h
namespace Z3z
def sG := sgV [.val ty3, .val ty8] [(.bool, .dp)]
def eS : List EnTryz := [Z6.eE N, Z3h.eE N, Z6j.eE N, Z7.eE N, Z0z.eE N, Z1z.eE N]
def an_ : Nat -> Option (List Nat)
 | 0 => some [0, 3, 5, 36, 37, 38]
 | 2 => some [0, 3, 5, 7, 36, 37, 38, 71, 72, 73]
 | _ => none
def lP (p : List Dir) := lpE (eS N) N an_ p Tryz.f133 (endK Tb sG Tryz.f133 [] (un1 .bool))
def El1 (a : Nat) (k_ : Nat) (c : R0) (d : Int) (e : A0) (f : I0) (g : I0) (h : Int) (i : I0) (j : A0) (k : Int) (m : Int) (n : I0) (o : Int) (p : Int) : Option (Bool) :=
 lP N [.r, .r, .r, .l, .r, .b, .b, .r, .r, .l, .b, .r, .r, .l, .r, .b] [lP N [.r, .r, .r, .l, .r, .b] [] a] k_ (cr ty3 c :: (un 2 (.con (.box ⟨44, false, []⟩) [lf i64 d .ro, lf ty9 e .ro, lf ty0 f .ro] :: (un 1 (cd ty0 g :: (un 1 (.con (.box ⟨145, false, []⟩) [lf i64 h .ro, lf ty0 i .ro] :: (un 28 (cr ty9 j :: (cr i64 k :: (cr i64 m :: (un 32 (cr ty0 n :: (cr i64 o :: (cr i64 p :: (un 20 []))))))))))))))))
def El0 (k_ : Nat) (a : R0) (c : Int) (d : A0) (e : I0) (f : I0) (g : A0) (h : Int) (i : Int) : Option (Bool) :=
 lP N [.r, .r, .r, .l, .r, .b] [] k_ (cr ty3 a :: (un 2 (.con (.box ⟨44, false, []⟩) [lf i64 c .ro, lf ty9 d .ro, lf ty0 e .ro] :: (un 1 (cd ty0 f :: (un 30 (cr ty9 g :: (cr i64 h :: (cr i64 i :: (un 55 []))))))))))
theorem ql1 (N : Nat) (k0_ : Nat) : ∀ k_, El1 N k0_ k_ = Z2x (El0 N k0_) N k_ := qL (Z5n N (El0 N k0_))
theorem ql0 (N : Nat) : ∀ k_, El0 N k_ = Z3q N k_
 | 0 => by kernel_rfl
 | k_ + 1 => (show El0 N (k_ + 1) = Z7v N (El1 N k_ N) (El0 N k_) from by kernel_rfl).trans (by simp only [ql1, ql0 N k_]; rfl)
def eE : EnTryz := ⟨133, sG, [.v ty3, .v ty8], _, Z3z N, pk1 .bool, enK Tryz.func133,
 fun a c => eo (eS N) Tryz.func133 N an_ (Y4 .bool) (tq (b := Z94 N (El0 N N) a c) (by rw [ql0]; rfl))⟩
end Z3z
namespace Z0v
def sG := sgV [.val ty5, .val ty8] [(.bool, .dp)]
def eS : List EnTryz := [Z0d.eE N, Z3z.eE N]
def eE : EnTryz := ⟨73, sG, [.v ty5, .v ty8], _, Z0v N, pk1 .bool, enK Tryz.func73,
 fun db a => eo (eS N) Tryz.func73 N an0 (Y4 .bool)⟩
end Z0v
namespace Z40
def sG := sgV [.val ty5] [(ty5, .dp)]
def eS (N : Nat) : List EnTryz := []
def an_ : Nat -> Option (List Nat)
 | 0 => some [2, 3, 13, 14, 15]
 | _ => none
def lP (p : List Dir) := lpE (eS N) N an_ p Tryz.f197 (endK Tb sG Tryz.f197 [] (un1 ty5))
def El0 (k_ : Nat) (t2 : R0) (a : A0) (c : R0) (d : A0) (e : A0) (f : Int) (g : Int) : Option D0 :=
 lP N [.r, .r, .l, .r, .b] [] k_ (un 2 (.con (.box ⟨39, false, []⟩) [lf ty3 t2 .dp, lf ty6 a .dp] :: (.con (.box ⟨39, false, []⟩) [lf ty3 c .dp, lf ty6 d .dp] :: (un 9 (cr ty6 e :: (cr i64 f :: (cr i64 g :: (un 17 []))))))))
theorem ql0 (N : Nat) : ∀ k_, El0 N k_ = Z4q N k_ := qL (Z7w N)
def eE : EnTryz := ⟨197, sG, [.v ty5], _, Z40 N, pk1 ty5, enK Tryz.func197,
 fun db => eo (eS N) Tryz.func197 N an_ (Y4 ty5) (tq (b := Z95 N (El0 N N) db) (by rw [ql0]; rfl))⟩
end Z40
namespace Z4g
def sG := sgV [.val ty5, .val ty0] [(ty5, .sh), (.bool, .dp)]
def eS : List EnTryz := [Z0d.eE N, Z1z.eE N, Z40.eE N]
def an_ : Nat -> Option (List Nat)
 | 0 => some [4, 6, 7, 27, 28, 29]
 | _ => none
def lP (p : List Dir) := lpE (eS N) N an_ p Tryz.f155 (endK Tb sG Tryz.f155 [] (un2 ty5 .bool))
def El1 (k_ : Nat) (a : R0) (c : A0) (d : R0) (e : A0) (f : R0) (g : A0) (h : I0) (i : Int) (j : Int) : Option (D0 × Bool) :=
 lP N [.r, .r, .r, .r, .l, .r, .b] [] k_ (un 4 (.con (.box ⟨39, false, []⟩) [lf ty3 a .dp, lf ty6 c .dp] :: (un 1 (.con (.box ⟨39, false, []⟩) [⟨ty3, d, .dead⟩, lf ty6 e .ro] :: (.con (.box ⟨39, false, []⟩) [lf ty3 f .dp, lf ty6 g .sh] :: (un 19 (cr ty0 h :: (cr i64 i :: (cr i64 j :: (un 15 []))))))))))
def El0 (k_ : Nat) (t4 : R0) (a : A0) (c : R0) (d : A0) (e : R0) (f : A0) (g : I0) (h : Int) (i : Int) : Option (D0 × Bool) :=
 lP N [.r, .r, .r, .r, .l, .r, .b] [] k_ (un 4 (.con (.box ⟨39, false, []⟩) [lf ty3 t4 .dp, lf ty6 a .dp] :: (un 1 (.con (.box ⟨39, false, []⟩) [⟨ty3, c, .dead⟩, lf ty6 d .dp] :: (.con (.box ⟨39, false, []⟩) [lf ty3 e .dp, lf ty6 f .dp] :: (un 19 (cr ty0 g :: (cr i64 h :: (cr i64 i :: (un 15 []))))))))))
theorem ql1 (N : Nat) : ∀ k_, El1 N k_ = Z57 N k_ := qL (Z8a N)
theorem ql0 (N : Nat) : ∀ k_, El0 N k_ = Z6y N k_
 | 0 => by kernel_rfl
 | k_ + 1 => (show El0 N (k_ + 1) = Z8b N (El1 N k_) (El0 N k_) from by kernel_rfl).trans (by simp only [ql1, ql0 N k_]; rfl)
def eE : EnTryz := ⟨155, sG, [.v ty5, .v ty0], _, Z4g N, pk2 ty5 .bool, enK Tryz.func155,
 fun db a => eo (eS N) Tryz.func155 N an_ (Ym ty5 .bool) (tq (b := Z9m N (El0 N N) db a) (by rw [ql0]; rfl))⟩
end Z4g
namespace Z5x
def sG := sgV [.val i64] [(ty0, .dp)]
def eS : List EnTryz := [Z0c3 N]
def eE : EnTryz := ⟨186, sG, [.v i64], _, Z5x N, pk1 ty0, enK Tryz.func186,
 fun n => eo (eS N) Tryz.func186 N an0 (Y4 ty0)⟩
end Z5x
namespace Z64
def sG := sgV [.val i64] [(.bool, .dp)]
def eS (N : Nat) : List EnTryz := []
def eE : EnTryz := ⟨216, sG, [.v i64], _, Z64 N, pk1 .bool, enK Tryz.func216,
 fun t => eo (eS N) Tryz.func216 N an0 (Y4 .bool)⟩
end Z64
namespace Z4w
def sG := sgV [.val i64] [(i64, .dp)]
def eS (N : Nat) : List EnTryz := []
def eE : EnTryz := ⟨217, sG, [.v i64], _, Z4w N, pk1 i64, enK Tryz.func217,
 fun v => eo (eS N) Tryz.func217 N an0 (Y4 i64)⟩
end Z4w
namespace Z8m
def sG := sgV [.val ty0, .val ty0, .val ty0] [(ty0, .dp), (.bool, .dp)]
def eS : List EnTryz := [Z64.eE N, Z4w.eE N, Z56 N]
def an_ : Nat -> Option (List Nat)
 | 0 => some [2, 8, 13, 14, 15]
 | _ => none
def lP (p : List Dir) := lpE (eS N) N an_ p Tryz.f185 (endK Tb sG Tryz.f185 [] (un2 ty0 .bool))
def El0 (k_ : Nat) (a : I0) (c : I0) (d : I0) (e : Int) (f : Int) : Option (List Int × Bool) :=
 lP N [.r, .r, .l, .r, .b] [] k_ (un 2 (cr ty0 a :: (un 5 (cd ty0 c :: (un 4 (cr ty0 d :: (cr i64 e :: (cr i64 f :: (un 40 [])))))))))
theorem ql0 (N : Nat) : ∀ k_, El0 N k_ = Z8w N k_ := qL (Z0as N)
def eE : EnTryz := ⟨185, sG, [.v ty0, .v ty0, .v ty0], _, Z8m N, pk2 ty0 .bool, enK Tryz.func185,
 fun a c d => eo (eS N) Tryz.func185 N an_ (Ym ty0 .bool) (tq (b := Z0bz N (El0 N N) a c d) (by rw [ql0]; rfl))⟩
end Z8m
namespace Z32
def bX : BoxSig := ⟨3, 121, [.dp]⟩
def sG : Sig := ⟨[.val ty0, .val ty0, .ptr ty8, .ptr ty17, .ptr ty5, .self], [], false, false, some bX, none, none⟩
theorem eN : Enterable Tryz.prog 184 := Y1z Tryz.func184 (code := Tryz.f184.body.getD .skip) (by kernel_rfl) (by kernel_rfl)
def eS (Rf : I0 -> I0 -> Q0 -> (List (List Int × List Int)) -> D0 -> Q0 -> D0 -> Option (List (List Int × List Int))) (hR : OkP (Option (List (List Int × List Int))) [.v ty0, .v ty0, .p ty8, .p ty17, .p ty5, .s 184 [.ro ty8, .pin, .ro ty5, .self]] Rf (fun xs_ q => ∀ x, q = some x -> FnOk Tryz.prog 184 sG xs_ (pk1 ty17 x))) : List EnTryz := [Z8m.eE N, Z56 N, ⟨184, sG, [.v ty0, .v ty0, .p ty8, .p ty17, .p ty5, .s 184 [.ro ty8, .pin, .ro ty5, .self]], List (List Int × List Int), Rf, pk1 ty17, eN, hR⟩]
def an_ : Nat -> Option (List Nat)
 | 0 => some [0, 1, 3, 5, 8, 34, 35, 36]
 | _ => none
def lP (Rf : I0 -> I0 -> Q0 -> (List (List Int × List Int)) -> D0 -> Q0 -> D0 -> Option (List (List Int × List Int))) (hR : OkP (Option (List (List Int × List Int))) [.v ty0, .v ty0, .p ty8, .p ty17, .p ty5, .s 184 [.ro ty8, .pin, .ro ty5, .self]] Rf (fun xs_ q => ∀ x, q = some x -> FnOk Tryz.prog 184 sG xs_ (pk1 ty17 x))) (p : List Dir) := lpE (eS N Rf hR) N an_ p Tryz.f184 (endB Tb sG bX Tryz.f184 ty17 (un1 ty17))
def El0 (Rf : I0 -> I0 -> Q0 -> (List (List Int × List Int)) -> D0 -> Q0 -> D0 -> Option (List (List Int × List Int))) (hR : OkP (Option (List (List Int × List Int))) [.v ty0, .v ty0, .p ty8, .p ty17, .p ty5, .s 184 [.ro ty8, .pin, .ro ty5, .self]] Rf (fun k q => ∀ x, q = some x -> FnOk Tryz.prog 184 sG k (pk1 ty17 x))) (k_ : Nat) (a : I0) (c : I0) (t3 : List (List Int × List Int)) (d : Q0) (e : D0) (f : Int) (g : I0) (h : A0) (i : Int) (j : Int) : Option (List (List Int × List Int)) :=
 lP N Rf hR [.r, .r, .r, .b] [] k_ (cr ty0 a :: (cr ty0 c :: (un 1 (.con (.box ⟨121, true, [false]⟩) [lf ty17 t3 .dp] :: (un 1 (.fptr 184 [.ro ⟨ty8, d⟩, .path 3 0, .ro ⟨ty5, e⟩, .self] :: (un 2 (.con (.box ⟨145, false, []⟩) [lf i64 f .ro, lf ty0 g .ro] :: (un 25 (cr ty6 h :: (cr i64 i :: (cr i64 j :: (un 28 [])))))))))))))
theorem ql0 (N : Nat) (Rf : I0 -> I0 -> Q0 -> (List (List Int × List Int)) -> D0 -> Q0 -> D0 -> Option (List (List Int × List Int))) (hR : OkP (Option (List (List Int × List Int))) [.v ty0, .v ty0, .p ty8, .p ty17, .p ty5, .s 184 [.ro ty8, .pin, .ro ty5, .self]] Rf (fun xs_ q => ∀ x, q = some x -> FnOk Tryz.prog 184 sG xs_ (pk1 ty17 x))) : ∀ k_, El0 N Rf hR k_ = Z36 N Rf k_
 | 0 => by kernel_rfl
 | k_ + 1 => (show El0 N Rf hR (k_ + 1) = Z5y N Rf (El0 N Rf hR k_) from by kernel_rfl).trans (by simp only [ql0 N Rf hR k_]; rfl)
theorem vV (Rf : I0 -> I0 -> Q0 -> (List (List Int × List Int)) -> D0 -> Q0 -> D0 -> Option (List (List Int × List Int))) (hR : OkP (Option (List (List Int × List Int))) [.v ty0, .v ty0, .p ty8, .p ty17, .p ty5, .s 184 [.ro ty8, .pin, .ro ty5, .self]] Rf (fun xs_ q => ∀ x, q = some x -> FnOk Tryz.prog 184 sG xs_ (pk1 ty17 x))) (values : I0) (facts : I0) (c2 : Q0) (c3 : List (List Int × List Int)) (c4 : D0) (sc2 : Q0) (sc4 : D0) :
  evB (eS N Rf hR) N an_ sG bX Tryz.f184 [.val ty0 values, .val ty0 facts, .ptr ty8 c2, .ptr ty17 c3, .ptr ty5 c4, .fptr 184 [.ro ⟨ty8, sc2⟩, .pin, .ro ⟨ty5, sc4⟩, .self]] (un1 ty17) = Z4r N Rf (El0 N Rf hR N) values facts c2 c3 c4 sc2 sc4 := by kernel_rfl
theorem oK (N : Nat) : ∀ k_, OkP (Option (List (List Int × List Int))) [.v ty0, .v ty0, .p ty8, .p ty17, .p ty5, .s 184 [.ro ty8, .pin, .ro ty5, .self]] (Z0w N k_) (fun xs_ q => ∀ x, q = some x -> FnOk Tryz.prog 184 sG xs_ (pk1 ty17 x))
 | 0 => fun values facts c2 c3 c4 sc2 sc4 =>  fun x h => absurd (show (none : Option (List (List Int × List Int))) = some x from h) (by simp)
 | k_ + 1 => fun values facts c2 c3 c4 sc2 sc4 => Ys tab_ok (es := eS N (Z0w N k_) (oK N k_)) (by kernel_rfl) mixed Tryz.func184 (by kernel_rfl) rfl rfl (fun _ => ⟨_, _, rfl⟩) (Y4 ty17) ((vV N _ _ values facts c2 c3 c4 sc2 sc4).trans (by rw [ql0]; rfl))
def eE : EnTryz := ⟨184, sG, [.v ty0, .v ty0, .p ty8, .p ty17, .p ty5, .s 184 [.ro ty8, .pin, .ro ty5, .self]], List (List Int × List Int), Z32 N, pk1 ty17, eN, oK N N⟩
end Z32
namespace Z33
def sG := sgV [.val ty5, .val ty8] [(ty17, .dp)]
def eS : List EnTryz := [Z0v.eE N, Z5x.eE N, Z32.eE N]
def eE : EnTryz := ⟨137, sG, [.v ty5, .v ty8], _, Z33 N, pk1 ty17, enK Tryz.func137,
 fun db a => eo (eS N) Tryz.func137 N an0 (Y4 ty17)⟩
end Z33
namespace Z45
def sG := sgV [.val ty5, .val ty0, .val ty8] [(.bool, .dp)]
def eS : List EnTryz := [Z4g.eE N, Z33.eE N]
def eE : EnTryz := ⟨99, sG, [.v ty5, .v ty0, .v ty8], _, Z45 N, pk1 .bool, enK Tryz.func99,
 fun db a b => eo (eS N) Tryz.func99 N an0 (Y4 .bool)⟩
end Z45
namespace Z4s
def sG := sgV [.val ty5, .val ty16, .val ty8] [(ty0, .ro), (.bool, .dp)]
def eS : List EnTryz := [Z0v.eE N, Z45.eE N]
def an_ : Nat -> Option (List Nat)
 | 0 => some [3, 5, 10, 11, 12]
 | _ => none
def lP (p : List Dir) := lpE (eS N) N an_ p Tryz.f88 (endK Tb sG Tryz.f88 [] (un2 ty0 .bool))
def El0 (k_ : Nat) (a : R0) (c : A0) (d : Int) (e : A0) (f : I0) (g : L0) (h : Int) (i : Int) : Option (List Int × Bool) :=
 lP N [.r, .l, .r, .b] [] k_ (un 3 (.con (.box ⟨39, false, []⟩) [lf ty3 a .ro, lf ty6 c .ro] :: (un 1 (.con (.box ⟨44, false, []⟩) [lf i64 d .ro, lf ty9 e .ro, lf ty0 f .ro] :: (un 4 (cr ty16 g :: (cr i64 h :: (cr i64 i :: (un 15 [])))))))))
theorem ql0 (N : Nat) : ∀ k_, El0 N k_ = Z5z N k_ := qL (Z8n N)
def eE : EnTryz := ⟨88, sG, [.v ty5, .v ty16, .v ty8], _, Z4s N, pk2 ty0 .bool, enK Tryz.func88,
 fun db a c => eo (eS N) Tryz.func88 N an_ (Ym ty0 .bool) (tq (b := Z0a1 N (El0 N N) db a c) (by rw [ql0]; rfl))⟩
end Z4s
namespace Z4t
def sG := sgV [.val ty5, .val ty16, .val ty8] [(.bool, .dp)]
def eS : List EnTryz := [Z4s.eE N, Z0v.eE N]
def eE : EnTryz := ⟨87, sG, [.v ty5, .v ty16, .v ty8], _, Z4t N, pk1 .bool, enK Tryz.func87,
 fun db a b => eo (eS N) Tryz.func87 N an0 (Y4 .bool)⟩
end Z4t
namespace Z1p
def sG := sgV [.val ty5, .val ty13, .val ty8] [(.bool, .dp)]
def eS : List EnTryz := [Z0a.eE N, Z4t.eE N]
def eE : EnTryz := ⟨27, sG, [.v ty5, .v ty13, .v ty8], _, Z1p N, pk1 .bool, enK Tryz.func27,
 fun db a b => eo (eS N) Tryz.func27 N an0 (Y4 .bool)⟩
end Z1p
namespace Z41
def sG : Sig := ⟨[.val ty5, .val ty16, .val ty8], [(ty0, .dp), (.bool, .dp)], false, true, none, none, some 1⟩
def eS : List EnTryz := [Z0v.eE N, Z45.eE N]
def an_ : Nat -> Option (List Nat)
 | 0 => some [1, 3, 5, 10, 11, 12]
 | _ => none
def lP (p : List Dir) := lpE (eS N) N an_ p Tryz.f88 (endK Tb sG Tryz.f88 [] (un2 ty0 .bool))
def El0 (k_ : Nat) (a : L0) (c : R0) (d : A0) (e : Int) (f : A0) (g : I0) (h : L0) (i : Int) (j : Int) : Option (List Int × Bool) :=
 lP N [.r, .l, .r, .b] [] k_ (un 1 (cd ty16 a :: (un 1 (.con (.box ⟨39, false, []⟩) [lf ty3 c .ro, lf ty6 d .ro] :: (un 1 (.con (.box ⟨44, false, []⟩) [lf i64 e .ro, lf ty9 f .ro, lf ty0 g .ro] :: (un 4 (.con .val [lb ty16 h 1 0] :: (cr i64 i :: (cr i64 j :: (un 15 [])))))))))))
theorem ql0 (N : Nat) : ∀ k_, El0 N k_ = Z4u N k_ := qL (Z7x N)
theorem vV (db : D0) (sets : L0) (query : Q0) :
  evG (eS N) N an_ 1 sG Tryz.f88 [.val ty5 db, .val ty16 sets, .val ty8 query] (un2 ty0 .bool) = Z96 N (El0 N N) db sets query := by kernel_rfl
def eE : EnTryz := ⟨88, sG, [.v ty5, .v ty16, .v ty8], _, Z41 N, pk2 ty0 .bool, enK Tryz.func88,
 fun db a b => Ydk tab_ok (es := eS N) (by kernel_rfl) mixed Tryz.func88 (by kernel_rfl) (k := 1) (x0 := a) (rest := [.val ty5 db, .val ty8 b]) ⟨⟨rfl, rfl⟩, rfl, rfl, rfl⟩ (Ym ty0 .bool) ((vV N db a b).trans (by rw [ql0]; rfl))⟩
end Z41
namespace Z0n
def sG := sgV [.val ty5, .val ty13, .val ty8] [(ty0, .dp), (.bool, .dp)]
def eS : List EnTryz := [Z0a.eE N, Z41.eE N]
def eE : EnTryz := ⟨28, sG, [.v ty5, .v ty13, .v ty8], _, Z0n N, pk2 ty0 .bool, enK Tryz.func28,
 fun db a b => eo (eS N) Tryz.func28 N an0 (Ym ty0 .bool)⟩
end Z0n
namespace Z7d
def sG := sgV [.val ty3, .val ty4] [(ty0, .dp)]
def eS : List EnTryz := [Z0r.eE N]
def eE : EnTryz := ⟨149, sG, [.v ty3, .v ty4], _, Z7d N, pk1 ty0, enK Tryz.func149,
 fun l f => eo (eS N) Tryz.func149 N an0 (Y4 ty0)⟩
end Z7d
namespace Z2y
def sG := sgV [.val ty3, .val ty4, .val ty4] [(.bool, .dp)]
def eS : List EnTryz := [Z0r.eE N, Z7d.eE N, Z6l.eE N]
def eE : EnTryz := ⟨94, sG, [.v ty3, .v ty4, .v ty4], _, Z2y N, pk1 .bool, enK Tryz.func94,
 fun l a b => eo (eS N) Tryz.func94 N an0 (Y4 .bool)⟩
end Z2y
namespace Z1f
def sG := sgV [.val ty5, .val ty12] [(.bool, .dp)]
def eS : List EnTryz := [Z0.eE N, Z5.eE N]
def eE : EnTryz := ⟨150, sG, [.v ty5, .v ty12], _, Z1f N, pk1 .bool, enK Tryz.func150,
 fun d x => eo (eS N) Tryz.func150 N an0 (Y4 .bool)⟩
end Z1f
namespace Z1b
def sG := sgV [.val ty5, .val ty12, .val i64, .val i64] [(.bool, .dp)]
def eS : List EnTryz := [Z1f.eE N, Z5.eE N]
def eE : EnTryz := ⟨95, sG, [.v ty5, .v ty12, .v i64, .v i64], _, Z1b N, pk1 .bool, enK Tryz.func95,
 fun d x i k => eo (eS N) Tryz.func95 N an0 (Y4 .bool)⟩
end Z1b
namespace Z1g
def sG := sgV [.val ty5, .val ty13] [(ty14, .dp)]
def eS : List EnTryz := [Z1b.eE N, Z2y.eE N, Z0.eE N]
def an_ : Nat -> Option (List Nat)
 | 0 => some [1, 2, 5, 6]
 | 2 => some [1, 2, 5, 6, 7]
 | 4 => some [1, 2, 5, 6, 7, 8, 9]
 | _ => none
def lP (p : List Dir) := lpE (eS N) N an_ p Tryz.f37 (endK Tb sG Tryz.f37 [] (un1 ty14))
def El2 (a : Nat) (c : Nat) (k_ : Nat) (l4 : List C0) (d6 : R0) (d7 : A0) (d : E0) (i3 : Int) (k2 : Int) (e : Bool) (n : Int) : Option E0 :=
 lP N [.r, .r, .l, .r, .b, .b, .r, .l, .b, .r, .b, .b, .r, .l, .b, .r, .l, .r, .b] [lP N [.r, .r, .l, .r, .b] [] a, lP N [.r, .r, .l, .r, .b, .b, .r, .l, .b, .r, .b] [lP N [.r, .r, .l, .r, .b] [] a] c] k_ (un 1 (cr ty13 l4 :: (.con (.box ⟨39, false, []⟩) [lf ty3 d6 .ro, lf ty6 d7 .ro] :: (un 2 (cd ty14 d :: (cr i64 i3 :: (cr i64 k2 :: (cr .bool e :: (cr i64 n :: (un 69 []))))))))))
def El1 (a : Nat) (k_ : Nat) (l3 : List C0) (d4 : R0) (d5 : A0) (c : E0) (i2 : Int) (k : Int) : Option E0 :=
 lP N [.r, .r, .l, .r, .b, .b, .r, .l, .b, .r, .b] [lP N [.r, .r, .l, .r, .b] [] a] k_ (un 1 (cr ty13 l3 :: (.con (.box ⟨39, false, []⟩) [lf ty3 d4 .ro, lf ty6 d5 .ro] :: (un 2 (cd ty14 c :: (cr i64 i2 :: (cr i64 k :: (un 71 []))))))))
def El0 (k_ : Nat) (l2 : List C0) (d2 : R0) (d3 : A0) (a : E0) (i : Int) : Option E0 :=
 lP N [.r, .r, .l, .r, .b] [] k_ (un 1 (cr ty13 l2 :: (.con (.box ⟨39, false, []⟩) [lf ty3 d2 .ro, lf ty6 d3 .ro] :: (un 2 (cd ty14 a :: (cr i64 i :: (un 72 [])))))))
theorem ql2 (N : Nat) (k0_ : Nat) (k1_ : Nat) : ∀ k_, El2 N k0_ k1_ k_ = Z3c (El1 N k0_ k1_) N k_ := qL (Z52 N (El1 N k0_ k1_))
theorem ql1 (N : Nat) (k0_ : Nat) : ∀ k_, El1 N k0_ k_ = Z17 (El0 N k0_) N k_
 | 0 => by kernel_rfl
 | k_ + 1 => (show El1 N k0_ (k_ + 1) = Z53 N (El0 N k0_) (El2 N k0_ k_ N) (El1 N k0_ k_) from by kernel_rfl).trans (by simp only [ql2, ql1 N k0_ k_]; rfl)
theorem ql0 (N : Nat) : ∀ k_, El0 N k_ = Z1n N k_
 | 0 => by kernel_rfl
 | k_ + 1 => (show El0 N (k_ + 1) = Z3w N (El1 N k_ N) (El0 N k_) from by kernel_rfl).trans (by simp only [ql1, ql0 N k_]; rfl)
def eE : EnTryz := ⟨37, sG, [.v ty5, .v ty13], _, Z1g N, pk1 ty14, enK Tryz.func37,
 fun d l => eo (eS N) Tryz.func37 N an_ (Y4 ty14) (tq (b := Z8o N (El0 N N) d l) (by rw [ql0]; rfl))⟩
end Z1g
namespace Z21
def sG := sgV [.val i64, .val ty14] [(.bool, .dp)]
def eS : List EnTryz := [Z5.eE N]
def an_ : Nat -> Option (List Nat)
 | 0 => some [0, 1, 5]
 | _ => none
def lP (p : List Dir) := lpE (eS N) N an_ p Tryz.f106 (endK Tb sG Tryz.f106 [] (un1 .bool))
def El0 (k_ : Nat) (n2 : Int) (l2 : E0) (i : Int) : Option (Bool) :=
 lP N [.r, .l, .r, .b] [] k_ (cr i64 n2 :: (cr ty14 l2 :: (un 3 (cr i64 i :: (un 78 [])))))
theorem ql0 (N : Nat) : ∀ k_, El0 N k_ = Z3d N k_ := qL (Z54 N)
def eE : EnTryz := ⟨106, sG, [.v i64, .v ty14], _, Z21 N, pk1 .bool, enK Tryz.func106,
 fun n l => eo (eS N) Tryz.func106 N an_ (Y4 .bool) (tq (b := Z8p N (El0 N N) n l) (by rw [ql0]; rfl))⟩
end Z21
namespace Z8q
def sG := sgV [.val i64, .val ty0] [(.bool, .dp)]
def eS : List EnTryz := [Z5.eE N]
def an_ : Nat -> Option (List Nat)
 | 0 => some [0, 1, 5]
 | _ => none
def lP (p : List Dir) := lpE (eS N) N an_ p Tryz.f107 (endK Tb sG Tryz.f107 [] (un1 .bool))
def El0 (k_ : Nat) (n2 : Int) (s2 : I0) (i : Int) : Option (Bool) :=
 lP N [.r, .l, .r, .b] [] k_ (cr i64 n2 :: (cr ty0 s2 :: (un 3 (cr i64 i :: (un 30 [])))))
theorem ql0 (N : Nat) : ∀ k_, El0 N k_ = Z78 N k_ := qL (Z99 N)
def eE : EnTryz := ⟨107, sG, [.v i64, .v ty0], _, Z8q N, pk1 .bool, enK Tryz.func107,
 fun n s => eo (eS N) Tryz.func107 N an_ (Y4 .bool) (tq (b := Z0c0 N (El0 N N) n s) (by rw [ql0]; rfl))⟩
end Z8q
namespace Z4d
def sG := sgV [.val ty0, .val i64] [(.bool, .dp)]
def eS (N : Nat) : List EnTryz := []
def an_ : Nat -> Option (List Nat)
 | 0 => some [0, 1, 5]
 | _ => none
def lP (p : List Dir) := lpE (eS N) N an_ p Tryz.f169 (endK Tb sG Tryz.f169 [] (un1 .bool))
def El0 (k_ : Nat) (l2 : I0) (x2 : Int) (i : Int) : Option (Bool) :=
 lP N [.r, .l, .r, .b] [] k_ (cr ty0 l2 :: (cr i64 x2 :: (un 3 (cr i64 i :: (un 12 [])))))
theorem ql0 (N : Nat) : ∀ k_, El0 N k_ = Z79 N k_ := qL (Z9a N)
def eE : EnTryz := ⟨169, sG, [.v ty0, .v i64], _, Z4d N, pk1 .bool, enK Tryz.func169,
 fun l x => eo (eS N) Tryz.func169 N an_ (Y4 .bool) (tq (b := Z0c1 N (El0 N N) l x) (by rw [ql0]; rfl))⟩
end Z4d
namespace Z22
def sG := sgV [.val ty14, .val ty0] [(.bool, .dp)]
def eS : List EnTryz := [Z4d.eE N]
def an_ : Nat -> Option (List Nat)
 | 0 => some [0, 1, 5]
 | _ => none
def lP (p : List Dir) := lpE (eS N) N an_ p Tryz.f108 (endK Tb sG Tryz.f108 [] (un1 .bool))
def El0 (k_ : Nat) (l2 : E0) (s2 : I0) (i : Int) : Option (Bool) :=
 lP N [.r, .l, .r, .b] [] k_ (cr ty14 l2 :: (cr ty0 s2 :: (un 3 (cr i64 i :: (un 22 [])))))
theorem ql0 (N : Nat) : ∀ k_, El0 N k_ = Z3e N k_ := qL (Z55 N)
def eE : EnTryz := ⟨108, sG, [.v ty14, .v ty0], _, Z22 N, pk1 .bool, enK Tryz.func108,
 fun l s => eo (eS N) Tryz.func108 N an_ (Y4 .bool) (tq (b := Z8r N (El0 N N) l s) (by rw [ql0]; rfl))⟩
end Z22
namespace Z5o
def sG := sgV [.val ty14, .val ty0, .val i64] [(.bool, .dp)]
def eS : List EnTryz := [Z4d.eE N, Z22.eE N]
def eE : EnTryz := ⟨109, sG, [.v ty14, .v ty0, .v i64], _, Z5o N, pk1 .bool, enK Tryz.func109,
 fun l s x => eo (eS N) Tryz.func109 N an0 (Y4 .bool)⟩
end Z5o
namespace Z1e
def sG := sgV [.val i64, .val ty14, .val ty0] [(.bool, .dp)]
def eS : List EnTryz := [Z5o.eE N, Z21.eE N, Z8q.eE N, Z22.eE N]
def an_ : Nat -> Option (List Nat)
 | 0 => some [0, 1, 2, 7]
 | _ => none
def lP (p : List Dir) := lpE (eS N) N an_ p Tryz.f52 (endK Tb sG Tryz.f52 [] (un1 .bool))
def El0 (k_ : Nat) (n2 : Int) (l2 : E0) (s2 : I0) (x : Int) : Option (Bool) :=
 lP N [.r, .r, .l, .r, .b] [] k_ (cr i64 n2 :: (cr ty14 l2 :: (cr ty0 s2 :: (un 4 (cr i64 x :: (un 25 []))))))
theorem ql0 (N : Nat) : ∀ k_, El0 N k_ = Z1i N k_ := qL (Z37 N)
def eE : EnTryz := ⟨52, sG, [.v i64, .v ty14, .v ty0], _, Z1e N, pk1 .bool, enK Tryz.func52,
 fun n l s => eo (eS N) Tryz.func52 N an_ (Y4 .bool) (tq (b := Z60 N (El0 N N) n l s) (by rw [ql0]; rfl))⟩
end Z1e
namespace Z8y
def sG := sgV [.val i64, .val ty14, .val ty0, .val i64] [(ty16, .dp)]
theorem eN : Enterable Tryz.prog 148 := Y1z Tryz.func148 (code := Tryz.f148.body.getD .skip) (by kernel_rfl) (by kernel_rfl)
def eS (Rf : Int -> E0 -> I0 -> Int -> Option L0) (hR : OkP (Option L0) [.v i64, .v ty14, .v ty0, .v i64] Rf (fun xs_ q => ∀ x, q = some x -> FnOk Tryz.prog 148 sG xs_ (pk1 ty16 x))) : List EnTryz := [Z1e.eE N, Z5o.eE N, ⟨148, sG, [.v i64, .v ty14, .v ty0, .v i64], L0, Rf, pk1 ty16, eN, hR⟩]
def an_ : Nat -> Option (List Nat)
 | 0 => some [0, 1, 2, 3, 9, 10, 11]
 | _ => none
def lP (Rf : Int -> E0 -> I0 -> Int -> Option L0) (hR : OkP (Option L0) [.v i64, .v ty14, .v ty0, .v i64] Rf (fun xs_ q => ∀ x, q = some x -> FnOk Tryz.prog 148 sG xs_ (pk1 ty16 x))) (p : List Dir) := lpE (eS N Rf hR) N an_ p Tryz.f148 (endK Tb sG Tryz.f148 [] (un1 ty16))
def El0 (Rf : Int -> E0 -> I0 -> Int -> Option L0) (hR : OkP (Option L0) [.v i64, .v ty14, .v ty0, .v i64] Rf (fun d q => ∀ x, q = some x -> FnOk Tryz.prog 148 sG d (pk1 ty16 x))) (k_ : Nat) (n2 : Int) (l2 : E0) (s2 : I0) (x2 : Int) (a : L0) (c : Bool) (i : Int) : Option L0 :=
 lP N Rf hR [.r, .r, .r, .r, .r, .l, .r, .b] [] k_ (cr i64 n2 :: (cr ty14 l2 :: (cr ty0 s2 :: (cr i64 x2 :: (un 5 (cd ty16 a :: (cr .bool c :: (cr i64 i :: (un 63 [])))))))))
theorem ql0 (N : Nat) (Rf : Int -> E0 -> I0 -> Int -> Option L0) (hR : OkP (Option L0) [.v i64, .v ty14, .v ty0, .v i64] Rf (fun xs_ q => ∀ x, q = some x -> FnOk Tryz.prog 148 sG xs_ (pk1 ty16 x))) : ∀ k_, El0 N Rf hR k_ = Z5f N Rf k_
 | 0 => by kernel_rfl
 | k_ + 1 => (show El0 N Rf hR (k_ + 1) = Z8s N Rf (El0 N Rf hR k_) from by kernel_rfl).trans (by simp only [ql0 N Rf hR k_]; rfl)
theorem vV (Rf : Int -> E0 -> I0 -> Int -> Option L0) (hR : OkP (Option L0) [.v i64, .v ty14, .v ty0, .v i64] Rf (fun xs_ q => ∀ x, q = some x -> FnOk Tryz.prog 148 sG xs_ (pk1 ty16 x))) (n : Int) (l : E0) (s : I0) (x : Int) :
  evE (eS N Rf hR) N an_ sG Tryz.f148 [.val i64 n, .val ty14 l, .val ty0 s, .val i64 x] (un1 ty16) = Z0a6 N Rf (El0 N Rf hR N) n l s x := by kernel_rfl
theorem oK (N : Nat) : ∀ k_, OkP (Option L0) [.v i64, .v ty14, .v ty0, .v i64] (Z3k N k_) (fun xs_ q => ∀ x, q = some x -> FnOk Tryz.prog 148 sG xs_ (pk1 ty16 x))
 | 0 => fun n l s x =>  fun x h => absurd (show (none : Option L0) = some x from h) (by simp)
 | k_ + 1 => fun n l s x => Y4a tab_ok (es := eS N (Z3k N k_) (oK N k_)) (by kernel_rfl) mixed Tryz.func148 (by kernel_rfl) ⟨⟨rfl, rfl⟩, rfl, rfl⟩ (Y4 ty16) ((vV N _ _ n l s x).trans (by rw [ql0]; rfl))
def eE : EnTryz := ⟨148, sG, [.v i64, .v ty14, .v ty0, .v i64], L0, Z8y N, pk1 ty16, eN, oK N N⟩
end Z8y
namespace Z0j
def sG := sgV [.val i64, .val ty14] [(ty16, .dp)]
def eS : List EnTryz := [Z21.eE N, Z8y.eE N]
def eE : EnTryz := ⟨93, sG, [.v i64, .v ty14], _, Z0j N, pk1 ty16, enK Tryz.func93,
 fun n l => eo (eS N) Tryz.func93 N an0 (Y4 ty16)⟩
end Z0j
namespace Z23
def sG := sgV [.val ty5, .val ty13] [(ty16, .dp)]
def eS : List EnTryz := [Z0.eE N, Z1g.eE N, Z0j.eE N]
def eE : EnTryz := ⟨48, sG, [.v ty5, .v ty13], _, Z23 N, pk1 ty16, enK Tryz.func48,
 fun d l => eo (eS N) Tryz.func48 N an0 (Y4 ty16)⟩
end Z23
namespace Z0i
def sG := sgV [.val ty5, .val ty13] [(ty16, .dp)]
def eS : List EnTryz := [Z23.eE N]
def an_ : Nat -> Option (List Nat)
 | 0 => some [5, 6, 7, 8]
 | 2 => some [5, 6, 7, 9]
 | _ => none
def lP (p : List Dir) := lpES (eS N) N an_ p Tryz.f32 (endK Tb sG Tryz.f32 [] (un1 ty16))
def El2 (k_ : Nat) (a : I0) (c : L0) (d : L0) (n3 : Int) (i3 : Int) : Option L0 :=
 lP N [.r, .r, .r, .r, .r, .l, .r, .b] [] k_ (un 5 (.sel 6 0 26 3 i64 a c :: (cd ty16 d :: (cr i64 n3 :: (un 1 (cr i64 i3 :: (un 38 [])))))))
def El1 (k_ : Nat) (a : L0) (c : L0) (n2 : Int) (i2 : Int) : Option L0 :=
 lP N [.r, .r, .r, .r, .r, .l, .r, .b] [] k_ (un 5 (cd ty16 a :: (cd ty16 c :: (cr i64 n2 :: (un 1 (cr i64 i2 :: (un 38 [])))))))
def El0 (k_ : Nat) (a : L0) (c : L0) (n : Int) (i : Int) : Option L0 :=
 lP N [.r, .r, .r, .r, .l, .r, .b] [] k_ (un 5 (cd ty16 a :: (cd ty16 c :: (cr i64 n :: (cr i64 i :: (un 39 []))))))
theorem ql2 (N : Nat) : ∀ k_, El2 N k_ = Z1u N k_ := qL (Z3r N)
theorem ql1 (N : Nat) : ∀ k_, El1 N k_ = Z1v N k_
 | 0 => by kernel_rfl
 | k_ + 1 => (show El1 N (k_ + 1) = Z3s N (El2 N k_) (El1 N k_) from by kernel_rfl).trans (by simp only [ql2, ql1 N k_]; rfl)
theorem ql0 (N : Nat) : ∀ k_, El0 N k_ = Z1w N k_
 | 0 => by kernel_rfl
 | k_ + 1 => (show El0 N (k_ + 1) = Z3t N (El1 N N) (El0 N k_) from by kernel_rfl).trans (by simp only [ql1, ql0 N k_]; rfl)
def eE : EnTryz := ⟨32, sG, [.v ty5, .v ty13], _, Z0i N, pk1 ty16, enK Tryz.func32,
 fun d l => eoS (eS N) Tryz.func32 N an_ (Y4 ty16) (tq (b := Z6k N (El0 N N) d l) (by rw [ql0]; rfl))⟩
end Z0i
namespace Z0x
def sG := sgV [.val ty5, .val ty8] [(.bool, .dp)]
def eS : List EnTryz := [Z0.eE N, Z29.eE N]
def eE : EnTryz := ⟨49, sG, [.v ty5, .v ty8], _, Z0x N, pk1 .bool, enK Tryz.func49,
 fun d q => eo (eS N) Tryz.func49 N an0 (Y4 .bool)⟩
end Z0x
namespace Z6t
def sG := sgV [.val i64] [(ty0, .dp)]
def eS (N : Nat) : List EnTryz := []
def an_ : Nat -> Option (List Nat)
 | 0 => some [0, 3]
 | _ => none
def lP (p : List Dir) := lpE (eS N) N an_ p Tryz.f152 (endK Tb sG Tryz.f152 [] (un1 ty0))
def El0 (k_ : Nat) (n2 : Int) (l : I0) : Option I0 :=
 lP N [.r, .r, .l, .b] [] k_ (cr i64 n2 :: (un 2 (cd ty0 l :: (un 9 []))))
theorem ql0 (N : Nat) : ∀ k_, El0 N k_ = Z7e N k_ := qL (Z0a2 N)
def eE : EnTryz := ⟨152, sG, [.v i64], _, Z6t N, pk1 ty0, enK Tryz.func152,
 fun n => eo (eS N) Tryz.func152 N an_ (Y4 ty0) (tq (b := Z0ct N (El0 N N) n) (by rw [ql0]; rfl))⟩
end Z6t
namespace Z6u
def sG := sgV [.val ty4, .val ty4, .val ty0] [(ty0, .dp), (.bool, .dp)]
def eS (N : Nat) : List EnTryz := []
def an_ : Nat -> Option (List Nat)
 | 0 => some [3, 4, 8, 9]
 | _ => none
def lP (p : List Dir) := lpE (eS N) N an_ p Tryz.f194 (endK Tb sG Tryz.f194 [] (un2 ty0 .bool))
def El0 (k_ : Nat) (a2 : Int) (a3 : I0) (f2 : Int) (f3 : I0) (x : I0) (i : Int) : Option (List Int × Bool) :=
 lP N [.r, .r, .r, .l, .r, .b] [] k_ (un 3 (.con (.box ⟨145, false, []⟩) [lf i64 a2 .ro, lf ty0 a3 .ro] :: (.con (.box ⟨110, false, []⟩) [lf i64 f2 .ro, lf ty0 f3 .ro] :: (un 3 (cd ty0 x :: (cr i64 i :: (un 69 [])))))))
theorem ql0 (N : Nat) : ∀ k_, El0 N k_ = Z7f N k_ := qL (Z0a3 N)
def eE : EnTryz := ⟨194, sG, [.v ty4, .v ty4, .v ty0], _, Z6u N, pk2 ty0 .bool, enK Tryz.func194,
 fun a f c => eo (eS N) Tryz.func194 N an_ (Ym ty0 .bool) (tq (b := Z0b4 N (El0 N N) a f c) (by rw [ql0]; rfl))⟩
end Z6u
namespace Z8c
def sG := sgV [.val ty5, .val ty8, .val i64, .val ty0, .val ty0] [(ty17, .dp)]
theorem eN : Enterable Tryz.prog 151 := Y1z Tryz.func151 (code := Tryz.f151.body.getD .skip) (by kernel_rfl) (by kernel_rfl)
def eS (Rf : D0 -> Q0 -> Int -> I0 -> I0 -> Option (List (List Int × List Int))) (hR : OkP (Option (List (List Int × List Int))) [.v ty5, .v ty8, .v i64, .v ty0, .v ty0] Rf (fun xs_ q => ∀ x, q = some x -> FnOk Tryz.prog 151 sG xs_ (pk1 ty17 x))) : List EnTryz := [Z6u.eE N, ⟨151, sG, [.v ty5, .v ty8, .v i64, .v ty0, .v ty0], List (List Int × List Int), Rf, pk1 ty17, eN, hR⟩]
def an_ : Nat -> Option (List Nat)
 | 0 => some [2, 3, 4, 5, 6, 11, 12]
 | _ => none
def lP (Rf : D0 -> Q0 -> Int -> I0 -> I0 -> Option (List (List Int × List Int))) (hR : OkP (Option (List (List Int × List Int))) [.v ty5, .v ty8, .v i64, .v ty0, .v ty0] Rf (fun xs_ q => ∀ x, q = some x -> FnOk Tryz.prog 151 sG xs_ (pk1 ty17 x))) (p : List Dir) := lpE (eS N Rf hR) N an_ p Tryz.f151 (endK Tb sG Tryz.f151 [] (un1 ty17))
def El0 (Rf : D0 -> Q0 -> Int -> I0 -> I0 -> Option (List (List Int × List Int))) (hR : OkP (Option (List (List Int × List Int))) [.v ty5, .v ty8, .v i64, .v ty0, .v ty0] Rf (fun e q => ∀ x, q = some x -> FnOk Tryz.prog 151 sG e (pk1 ty17 x))) (k_ : Nat) (k2 : Int) (a : I0) (c : I0) (d2 : R0) (d3 : A0) (q2 : Int) (q3 : A0) (q4 : I0) (d : List (List Int × List Int)) (i : Int) : Option (List (List Int × List Int)) :=
 lP N Rf hR [.r, .r, .r, .l, .r, .b] [] k_ (un 2 (cr i64 k2 :: (cr ty0 a :: (cr ty0 c :: (.con (.box ⟨39, false, []⟩) [lf ty3 d2 .ro, lf ty6 d3 .ro] :: (.con (.box ⟨44, false, []⟩) [lf i64 q2 .ro, lf ty9 q3 .ro, lf ty0 q4 .ro] :: (un 4 (cd ty17 d :: (cr i64 i :: (un 54 []))))))))))
theorem ql0 (N : Nat) (Rf : D0 -> Q0 -> Int -> I0 -> I0 -> Option (List (List Int × List Int))) (hR : OkP (Option (List (List Int × List Int))) [.v ty5, .v ty8, .v i64, .v ty0, .v ty0] Rf (fun xs_ q => ∀ x, q = some x -> FnOk Tryz.prog 151 sG xs_ (pk1 ty17 x))) : ∀ k_, El0 N Rf hR k_ = Z7g N Rf k_
 | 0 => by kernel_rfl
 | k_ + 1 => (show El0 N Rf hR (k_ + 1) = Z0a4 N Rf (El0 N Rf hR k_) from by kernel_rfl).trans (by simp only [ql0 N Rf hR k_]; rfl)
theorem vV (Rf : D0 -> Q0 -> Int -> I0 -> I0 -> Option (List (List Int × List Int))) (hR : OkP (Option (List (List Int × List Int))) [.v ty5, .v ty8, .v i64, .v ty0, .v ty0] Rf (fun xs_ q => ∀ x, q = some x -> FnOk Tryz.prog 151 sG xs_ (pk1 ty17 x))) (d : D0) (q : Q0) (k : Int) (vals : I0) (facts : I0) :
  evE (eS N Rf hR) N an_ sG Tryz.f151 [.val ty5 d, .val ty8 q, .val i64 k, .val ty0 vals, .val ty0 facts] (un1 ty17) = Z9s N Rf (El0 N Rf hR N) d q k vals facts := by kernel_rfl
theorem oK (N : Nat) : ∀ k_, OkP (Option (List (List Int × List Int))) [.v ty5, .v ty8, .v i64, .v ty0, .v ty0] (Z3u N k_) (fun xs_ q => ∀ x, q = some x -> FnOk Tryz.prog 151 sG xs_ (pk1 ty17 x))
 | 0 => fun d q k vals facts =>  fun x h => absurd (show (none : Option (List (List Int × List Int))) = some x from h) (by simp)
 | k_ + 1 => fun d q k vals facts => Y4a tab_ok (es := eS N (Z3u N k_) (oK N k_)) (by kernel_rfl) mixed Tryz.func151 (by kernel_rfl) ⟨⟨rfl, rfl⟩, rfl, rfl⟩ (Y4 ty17) ((vV N _ _ d q k vals facts).trans (by rw [ql0]; rfl))
def eE : EnTryz := ⟨151, sG, [.v ty5, .v ty8, .v i64, .v ty0, .v ty0], List (List Int × List Int), Z8c N, pk1 ty17, eN, oK N N⟩
end Z8c
namespace Z1j
def sG := sgV [.val ty5, .val ty8] [(ty17, .dp)]
def eS : List EnTryz := [Z0x.eE N, Z6t.eE N, Z8c.eE N]
def eE : EnTryz := ⟨97, sG, [.v ty5, .v ty8], _, Z1j N, pk1 ty17, enK Tryz.func97,
 fun d q => eo (eS N) Tryz.func97 N an0 (Y4 ty17)⟩
end Z1j
namespace Z69
def sG := sgV [.val ty0] [(ty0, .dp)]
def eS (N : Nat) : List EnTryz := []
def an_ : Nat -> Option (List Nat)
 | 0 => some [0, 3, 4]
 | 2 => some [0, 3, 4, 5]
 | _ => none
def lP (p : List Dir) := lpE (eS N) N an_ p Tryz.f60 (endK Tb sG Tryz.f60 [] (un1 ty0))
def El1 (a : Nat) (k_ : Nat) (l3 : I0) (c : I0) (i2 : Int) (k : Int) : Option I0 :=
 lP N [.r, .r, .l, .r, .b, .b, .r, .l, .b, .r, .l, .b] [lP N [.r, .r, .l, .r, .b] [] a] k_ (cr ty0 l3 :: (un 2 (cd ty0 c :: (cr i64 i2 :: (cr i64 k :: (un 41 []))))))
def El0 (k_ : Nat) (l2 : I0) (a : I0) (i : Int) : Option I0 :=
 lP N [.r, .r, .l, .r, .b] [] k_ (cr ty0 l2 :: (un 2 (cd ty0 a :: (cr i64 i :: (un 42 [])))))
theorem ql1 (N : Nat) (k0_ : Nat) : ∀ k_, El1 N k0_ k_ = Z5g (El0 N k0_) N k_ := qL (Z7h N (El0 N k0_))
theorem ql0 (N : Nat) : ∀ k_, El0 N k_ = Z3i N k_
 | 0 => by kernel_rfl
 | k_ + 1 => (show El0 N (k_ + 1) = Z9n N (El1 N k_ N) (El0 N k_) from by kernel_rfl).trans (by simp only [ql1, ql0 N k_]; rfl)
def eE : EnTryz := ⟨60, sG, [.v ty0], _, Z69 N, pk1 ty0, enK Tryz.func60,
 fun l => eo (eS N) Tryz.func60 N an_ (Y4 ty0) (tq (b := Z0at N (El0 N N) l) (by rw [ql0]; rfl))⟩
end Z69
namespace Z8t
def sG := sgV [.val ty5, .val ty0] [(.bool, .dp)]
def eS : List EnTryz := [Z5.eE N]
def an_ : Nat -> Option (List Nat)
 | 0 => some [1, 2, 5]
 | _ => none
def lP (p : List Dir) := lpE (eS N) N an_ p Tryz.f116 (endK Tb sG Tryz.f116 [] (un1 .bool))
def El0 (k_ : Nat) (l2 : I0) (d2 : R0) (d3 : A0) (i : Int) : Option (Bool) :=
 lP N [.r, .l, .r, .b] [] k_ (un 1 (cr ty0 l2 :: (.con (.box ⟨39, false, []⟩) [lf ty3 d2 .ro, lf ty6 d3 .ro] :: (un 2 (cr i64 i :: (un 32 []))))))
theorem ql0 (N : Nat) : ∀ k_, El0 N k_ = Z7a N k_ := qL (Z9b N)
def eE : EnTryz := ⟨116, sG, [.v ty5, .v ty0], _, Z8t N, pk1 .bool, enK Tryz.func116,
 fun d l => eo (eS N) Tryz.func116 N an_ (Y4 .bool) (tq (b := Z0c2 N (El0 N N) d l) (by rw [ql0]; rfl))⟩
end Z8t
namespace Z2z
def sG := sgV [.val ty5, .val ty0] [(ty5, .dp), (.bool, .dp)]
def eS : List EnTryz := [Z0.eE N, Z8t.eE N]
def an_ : Nat -> Option (List Nat)
 | 0 => some [1, 2, 4, 6, 7]
 | _ => none
def lP (p : List Dir) := lpE (eS N) N an_ p Tryz.f61 (endK Tb sG Tryz.f61 [] (un2 ty5 .bool))
def El0 (k_ : Nat) (l2 : I0) (d2 : R0) (d3 : A0) (t4 : R0) (a : A0) (x : R0) (x2 : A0) (i : Int) : Option (D0 × Bool) :=
 lP N [.r, .r, .r, .l, .r, .b] [] k_ (un 1 (cr ty0 l2 :: (.con (.box ⟨39, false, []⟩) [lf ty3 d2 .ro, lf ty6 d3 .ro] :: (un 1 (.con (.box ⟨39, false, []⟩) [lf ty3 t4 .dp, lf ty6 a .dp] :: (un 1 (.con (.box ⟨39, false, []⟩) [lf ty3 x .dp, lf ty6 x2 .dp] :: (cr i64 i :: (un 43 [])))))))))
theorem ql0 (N : Nat) : ∀ k_, El0 N k_ = Z58 N k_ := qL (Z8d N)
def eE : EnTryz := ⟨61, sG, [.v ty5, .v ty0], _, Z2z N, pk2 ty5 .bool, enK Tryz.func61,
 fun d l => eo (eS N) Tryz.func61 N an_ (Ym ty5 .bool) (tq (b := Z9o N (El0 N N) d l) (by rw [ql0]; rfl))⟩
end Z2z
namespace Z8e
def sG := sgV [.val ty5, .val i64] [(ty0, .dp)]
def eS : List EnTryz := [Z0.eE N, Z5.eE N, Z2y.eE N]
def an_ : Nat -> Option (List Nat)
 | 0 => some [1, 2, 5, 6]
 | _ => none
def lP (p : List Dir) := lpE (eS N) N an_ p Tryz.f96 (endK Tb sG Tryz.f96 [] (un1 ty0))
def El0 (k_ : Nat) (i2 : Int) (d2 : R0) (d3 : A0) (a : I0) (k : Int) : Option I0 :=
 lP N [.r, .r, .l, .r, .b] [] k_ (un 1 (cr i64 i2 :: (.con (.box ⟨39, false, []⟩) [lf ty3 d2 .ro, lf ty6 d3 .ro] :: (un 2 (cd ty0 a :: (cr i64 k :: (un 38 [])))))))
theorem ql0 (N : Nat) : ∀ k_, El0 N k_ = Z65 N k_ := qL (Z7z N)
def eE : EnTryz := ⟨96, sG, [.v ty5, .v i64], _, Z8e N, pk1 ty0, enK Tryz.func96,
 fun d i => eo (eS N) Tryz.func96 N an_ (Y4 ty0) (tq (b := Z0cu N (El0 N N) d i) (by rw [ql0]; rfl))⟩
end Z8e
namespace Z4n
def sG := sgV [.val ty5] [(ty16, .dp)]
def eS : List EnTryz := [Z0.eE N, Z8e.eE N]
def an_ : Nat -> Option (List Nat)
 | 0 => some [1, 3, 4]
 | _ => none
def lP (p : List Dir) := lpE (eS N) N an_ p Tryz.f38 (endK Tb sG Tryz.f38 [] (un1 ty16))
def El0 (k_ : Nat) (d2 : R0) (d3 : A0) (a : L0) (i : Int) : Option L0 :=
 lP N [.r, .r, .l, .r, .b] [] k_ (un 1 (.con (.box ⟨39, false, []⟩) [lf ty3 d2 .ro, lf ty6 d3 .ro] :: (un 1 (cd ty16 a :: (cr i64 i :: (un 26 []))))))
theorem ql0 (N : Nat) : ∀ k_, El0 N k_ = Z5h N k_ := qL (Z6v N)
def eE : EnTryz := ⟨38, sG, [.v ty5], _, Z4n N, pk1 ty16, enK Tryz.func38,
 fun d => eo (eS N) Tryz.func38 N an_ (Y4 ty16) (tq (b := Z0bk N (El0 N N) d) (by rw [ql0]; rfl))⟩
end Z4n
namespace Z4x
def sG := sgV [.val ty5] [(.bool, .dp)]
def eS : List EnTryz := [Z0.eE N, Z4n.eE N]
def eE : EnTryz := ⟨198, sG, [.v ty5], _, Z4x N, pk1 .bool, enK Tryz.func198,
 fun d => eo (eS N) Tryz.func198 N an0 (Y4 .bool)⟩
end Z4x
namespace Z24
def sG := sgV [.val ty5, .val ty0] [(.bool, .dp)]
def eS : List EnTryz := [Z2z.eE N, Z4x.eE N]
def eE : EnTryz := ⟨156, sG, [.v ty5, .v ty0], _, Z24 N, pk1 .bool, enK Tryz.func156,
 fun d l => eo (eS N) Tryz.func156 N an0 (Y4 .bool)⟩
end Z24
namespace Z5i
def sG := sgV [.val ty5, .val ty8] [(ty16, .dp)]
def eS : List EnTryz := [Z69.eE N, Z24.eE N, Z1j.eE N]
def an_ : Nat -> Option (List Nat)
 | 0 => some [2, 5, 6, 7]
 | _ => none
def lP (p : List Dir) := lpE (eS N) N an_ p Tryz.f100 (endK Tb sG Tryz.f100 [] (un1 ty16))
def El0 (k_ : Nat) (d2 : R0) (d3 : A0) (a : L0) (l : List (List Int × List Int)) (i : Int) : Option L0 :=
 lP N [.r, .r, .r, .l, .r, .b] [] k_ (un 2 (.con (.box ⟨39, false, []⟩) [lf ty3 d2 .ro, lf ty6 d3 .ro] :: (un 2 (cd ty16 a :: (cd ty17 l :: (cr i64 i :: (un 25 [])))))))
theorem ql0 (N : Nat) : ∀ k_, El0 N k_ = Z6g N k_ := qL (Z97 N)
def eE : EnTryz := ⟨100, sG, [.v ty5, .v ty8], _, Z5i N, pk1 ty16, enK Tryz.func100,
 fun d q => eo (eS N) Tryz.func100 N an_ (Y4 ty16) (tq (b := Z0aa N (El0 N N) d q) (by rw [ql0]; rfl))⟩
end Z5i
namespace Z8z
def sG := sgV [.val ty16, .val ty0] [(.bool, .dp)]
def eS : List EnTryz := [Z4d.eE N]
def an_ : Nat -> Option (List Nat)
 | 0 => some [0, 1, 5]
 | 2 => some [0, 1, 5, 6, 7]
 | _ => none
def lP (p : List Dir) := lpE (eS N) N an_ p Tryz.f157 (endK Tb sG Tryz.f157 [] (un1 .bool))
def El1 (a : Nat) (k_ : Nat) (l3 : L0) (s3 : I0) (i2 : Int) (c : Bool) (k : Int) : Option (Bool) :=
 lP N [.r, .l, .r, .b, .b, .r, .l, .b, .r, .l, .r, .b] [lP N [.r, .l, .r, .b] [] a] k_ (cr ty16 l3 :: (cr ty0 s3 :: (un 3 (cr i64 i2 :: (cr .bool c :: (cr i64 k :: (un 28 [])))))))
def El0 (k_ : Nat) (l2 : L0) (s2 : I0) (i : Int) : Option (Bool) :=
 lP N [.r, .l, .r, .b] [] k_ (cr ty16 l2 :: (cr ty0 s2 :: (un 3 (cr i64 i :: (un 30 [])))))
theorem ql1 (N : Nat) (k0_ : Nat) : ∀ k_, El1 N k0_ k_ = Z8f (El0 N k0_) N k_ := qL (Z0ab N (El0 N k0_))
theorem ql0 (N : Nat) : ∀ k_, El0 N k_ = Z3v N k_
 | 0 => by kernel_rfl
 | k_ + 1 => (show El0 N (k_ + 1) = Z8u N (El1 N k_ N) (El0 N k_) from by kernel_rfl).trans (by simp only [ql1, ql0 N k_]; rfl)
def eE : EnTryz := ⟨157, sG, [.v ty16, .v ty0], _, Z8z N, pk1 .bool, enK Tryz.func157,
 fun l s => eo (eS N) Tryz.func157 N an_ (Y4 .bool) (tq (b := Z0bl N (El0 N N) l s) (by rw [ql0]; rfl))⟩
end Z8z
namespace Z4k
def sG := sgV [.val ty16, .val ty0] [(.bool, .dp)]
def eS : List EnTryz := [Z8z.eE N]
def eE : EnTryz := ⟨101, sG, [.v ty16, .v ty0], _, Z4k N, pk1 .bool, enK Tryz.func101,
 fun l s => eo (eS N) Tryz.func101 N an0 (Y4 .bool)⟩
end Z4k
namespace Z48
def sG := sgV [.val ty5, .val ty8, .val ty16, .val .bool] [(ty0, .dp), (.bool, .dp)]
def eS : List EnTryz := [Z0x.eE N, Z4k.eE N, Z5i.eE N]
def an_ : Nat -> Option (List Nat)
 | 0 => some [2, 3, 4, 5, 10, 11]
 | _ => none
def lP (p : List Dir) := lpE (eS N) N an_ p Tryz.f89 (endK Tb sG Tryz.f89 [] (un2 ty0 .bool))
def El0 (k_ : Nat) (a : L0) (c : Bool) (d2 : R0) (d3 : A0) (q2 : Int) (q3 : A0) (q4 : I0) (d : L0) (i : Int) : Option (List Int × Bool) :=
 lP N [.r, .r, .l, .r, .b] [] k_ (un 2 (cr ty16 a :: (cr .bool c :: (.con (.box ⟨39, false, []⟩) [lf ty3 d2 .ro, lf ty6 d3 .ro] :: (.con (.box ⟨44, false, []⟩) [lf i64 q2 .ro, lf ty9 q3 .ro, lf ty0 q4 .ro] :: (un 4 (cd ty16 d :: (cr i64 i :: (un 29 [])))))))))
theorem ql0 (N : Nat) : ∀ k_, El0 N k_ = Z2k N k_ := qL (Z4y N)
def eE : EnTryz := ⟨89, sG, [.v ty5, .v ty8, .v ty16, .v .bool], _, Z48 N, pk2 ty0 .bool, enK Tryz.func89,
 fun d q a c => eo (eS N) Tryz.func89 N an_ (Ym ty0 .bool) (tq (b := Z9t N (El0 N N) d q a c) (by rw [ql0]; rfl))⟩
end Z48
namespace Z8
def sG := sgV [.val ty5, .val ty13, .val ty8] [(ty0, .dp), (.bool, .dp)]
def eS : List EnTryz := [Z0i.eE N, Z48.eE N]
def eE : EnTryz := ⟨29, sG, [.v ty5, .v ty13, .v ty8], _, Z8 N, pk2 ty0 .bool, enK Tryz.func29,
 fun d l q => eo (eS N) Tryz.func29 N an0 (Ym ty0 .bool)⟩
end Z8
namespace Z18
def sG := sgV [.val ty5, .val ty13] [(i64, .dp)]
def eS : List EnTryz := [Z0a.eE N]
def eE : EnTryz := ⟨30, sG, [.v ty5, .v ty13], _, Z18 N, pk1 i64, enK Tryz.func30,
 fun db a => eo (eS N) Tryz.func30 N an0 (Y4 i64)⟩
end Z18
namespace Z6a
def sG := sgV [.val ty0, .val ty0] [(.bool, .dp)]
def eS (N : Nat) : List EnTryz := []
def an_ : Nat -> Option (List Nat)
 | 0 => some [0, 1, 5]
 | _ => none
def lP (p : List Dir) := lpE (eS N) N an_ p Tryz.f46 (endK Tb sG Tryz.f46 [] (un1 .bool))
def El0 (k_ : Nat) (a2 : I0) (b2 : I0) (i : Int) : Option (Bool) :=
 lP N [.r, .r, .l, .r, .b] [] k_ (cr ty0 a2 :: (cr ty0 b2 :: (un 3 (cr i64 i :: (un 20 [])))))
theorem ql0 (N : Nat) : ∀ k_, El0 N k_ = Z5j N k_ := qL (Z7i N)
def eE : EnTryz := ⟨46, sG, [.v ty0, .v ty0], _, Z6a N, pk1 .bool, enK Tryz.func46,
 fun a b => eo (eS N) Tryz.func46 N an_ (Y4 .bool) (tq (b := Z0au N (El0 N N) a b) (by rw [ql0]; rfl))⟩
end Z6a
namespace Z6b
def sG := sgV [.val ty16, .val ty16] [(.bool, .dp)]
def eS : List EnTryz := [Z6a.eE N]
def an_ : Nat -> Option (List Nat)
 | 0 => some [0, 1, 5]
 | _ => none
def lP (p : List Dir) := lpE (eS N) N an_ p Tryz.f31 (endK Tb sG Tryz.f31 [] (un1 .bool))
def El0 (k_ : Nat) (a2 : L0) (b2 : L0) (i : Int) : Option (Bool) :=
 lP N [.r, .r, .l, .r, .b] [] k_ (cr ty16 a2 :: (cr ty16 b2 :: (un 3 (cr i64 i :: (un 21 [])))))
theorem ql0 (N : Nat) : ∀ k_, El0 N k_ = Z6w N k_ := qL (Z9p N)
def eE : EnTryz := ⟨31, sG, [.v ty16, .v ty16], _, Z6b N, pk1 .bool, enK Tryz.func31,
 fun a b => eo (eS N) Tryz.func31 N an_ (Y4 .bool) (tq (b := Z0av N (El0 N N) a b) (by rw [ql0]; rfl))⟩
end Z6b
namespace Z1q
def sG := sgV [.val ty5, .val ty13, .val ty8] [(.bool, .dp)]
def eS : List EnTryz := [Z8.eE N, Z0x.eE N]
def eE : EnTryz := ⟨33, sG, [.v ty5, .v ty13, .v ty8], _, Z1q N, pk1 .bool, enK Tryz.func33,
 fun d l q => eo (eS N) Tryz.func33 N an0 (Y4 .bool)⟩
end Z1q
namespace Z2g
def sG := sgV [.val ty5, .val ty13] [(i64, .dp)]
def eS : List EnTryz := [Z0i.eE N]
def eE : EnTryz := ⟨34, sG, [.v ty5, .v ty13], _, Z2g N, pk1 i64, enK Tryz.func34,
 fun d l => eo (eS N) Tryz.func34 N an0 (Y4 i64)⟩
end Z2g
namespace Z12
def sG := sgV [.val i64, .val ty14] [(i64, .dp)]
def eS : List EnTryz := [Z0j.eE N]
def an_ : Nat -> Option (List Nat)
 | 0 => some [5, 6, 7]
 | _ => none
def lP (p : List Dir) := lpE (eS N) N an_ p Tryz.f36 (endK Tb sG Tryz.f36 [] (un1 i64))
def El0 (k_ : Nat) (a : Int) (c : L0) (i : Int) : Option (Int) :=
 lP N [.r, .r, .r, .l, .r, .b] [] k_ (un 5 (cr i64 a :: (cd ty16 c :: (cr i64 i :: (un 17 [])))))
theorem ql0 (N : Nat) : ∀ k_, El0 N k_ = Z25 N k_ := qL (Z4h N)
def eE : EnTryz := ⟨36, sG, [.v i64, .v ty14], _, Z12 N, pk1 i64, enK Tryz.func36,
 fun n l => eo (eS N) Tryz.func36 N an_ (Y4 i64) (tq (b := Z50 N (El0 N N) n l) (by rw [ql0]; rfl))⟩
end Z12
namespace Z1o
def sG := sgV [.val ty5, .val ty13, .val ty8] [(ty0, .dp), (.bool, .dp)]
def eS : List EnTryz := [Z23.eE N, Z48.eE N]
def eE : EnTryz := ⟨43, sG, [.v ty5, .v ty13, .v ty8], _, Z1o N, pk2 ty0 .bool, enK Tryz.func43,
 fun d l q => eo (eS N) Tryz.func43 N an0 (Ym ty0 .bool)⟩
end Z1o
namespace Z2l
def sG := sgV [.val ty5, .val ty13, .val ty8] [(.bool, .dp)]
def eS : List EnTryz := [Z1o.eE N, Z0x.eE N]
def eE : EnTryz := ⟨39, sG, [.v ty5, .v ty13, .v ty8], _, Z2l N, pk1 .bool, enK Tryz.func39,
 fun d l q => eo (eS N) Tryz.func39 N an0 (Y4 .bool)⟩
end Z2l
namespace Z49
def sG := sgV [.val ty5, .val ty0, .val ty8] [(.bool, .dp)]
def eS : List EnTryz := [Z2z.eE N, Z1j.eE N]
def eE : EnTryz := ⟨40, sG, [.v ty5, .v ty0, .v ty8], _, Z49 N, pk1 .bool, enK Tryz.func40,
 fun d l q => eo (eS N) Tryz.func40 N an0 (Y4 .bool)⟩
end Z49
namespace laws_FnCardinalityRepairs
def sG := sgV [.val ty1] [(.bool, .dp)]
def eS : List EnTryz := [Z18.eE N, Z1g.eE N, Z12.eE N, Z4n.eE N, Z2l.eE N, Z49.eE N, Z0b0.eE N, Z1l.eE N, Z0a.eE N, Z1p.eE N, Z0n.eE N, Z8.eE N, Z0i.eE N, Z6b.eE N, Z1q.eE N, Z2g.eE N, Z0.eE N]
def an_ : Nat -> Option (List Nat)
 | 0 => some [3, 4, 5, 6, 7, 8, 9, 12, 13]
 | _ => none
def lP (p : List Dir) := lpE (eS N) N an_ p Tryz.f5 (endK Tb sG Tryz.f5 [] (un1 .bool))
def El0 (k_ : Nat) (d : R0) (d2 : A0) (l : List C0) (q : Int) (q2 : A0) (q3 : I0) (a : L0) (c : Bool) (e : I0) (f : Bool) (n : Int) (i : Int) : Option (Bool) :=
 lP N [.r, .r, .r, .r, .r, .r, .r, .r, .r, .r, .l, .r, .b] [] k_ (un 3 (.con (.box ⟨39, false, []⟩) [lf ty3 d .ro, lf ty6 d2 .ro] :: (cr ty13 l :: (.con (.box ⟨44, false, []⟩) [lf i64 q .ro, lf ty9 q2 .dp, lf ty0 q3 .dp] :: (cd ty16 a :: (cr .bool c :: (cd ty0 e :: (cr .bool f :: (un 2 (cr i64 n :: (cr i64 i :: (un 139 []))))))))))))
theorem ql0 (N : Nat) : ∀ k_, El0 N k_ = laws_FnCardinalityRepairs_l0 N k_ := qL (laws_FnCardinalityRepairs_l0_b N)
def eE : EnTryz := ⟨5, sG, [.v ty1], _, laws_FnCardinalityRepairs N, pk1 .bool, enK Tryz.func5,
 fun a => eo (eS N) Tryz.func5 N an_ (Y4 .bool) (tq (b := laws_FnCardinalityRepairs_b N (El0 N N) a) (by rw [ql0]; rfl))⟩
end laws_FnCardinalityRepairs
end
end Go.PL
