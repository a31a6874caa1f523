/- What the machine does at each function is what the plain reading says. Conditions: none. -/
import Derived.Test.YtdnmcmhnikjphaaGreatFpG
import Derived.Test.YtdnmcmhnikjphaaGreatPlA
import Derived.Test.YtdnmcmhnikjphaaGreatProg

set_option linter.unusedVariables false
set_option linter.unusedSimpArgs false
set_option linter.unnecessarySimpa false

namespace Go.Proofs
open Go.Shelf
open Go.RowKit Go.Lib
def Tryz.lays189_ren : Go.Shelf.Ren := ⟨fun | 189 => 138 | 125 => 188 | 257 => 187 | 128 => 228 | 129 => 229 | 294 => 219 | 295 => 220 | 296 => 221 | 297 => 222 | 298 => 223 | 299 => 224 | 216 => 225 | 300 => 226 | 301 => 227 | 328 => 242 | 329 => 243 | 330 => 244 | 331 => 245 | 332 => 246 | 215 => 247 | 343 => 252 | n => n, fun | 28 => 26 | 3 => 3 | 46 => 194 | 0 => 0 | 51 => 221 | 53 => 223 | 4 => 4 | 183 => 214 | 182 => 213 | 131 => 218 | 5 => 5 | 9 => 9 | 218 => 232 | 222 => 236 | 228 => 244 | 229 => 73 | n => n, fun | n => n⟩
theorem Tryz.lays189 : Go.Proofs.Lays.n189 Tryz.prog Tryz.lays189_ren := {
 mixed := by kernel_rfl
 f125 := Tryz.func188.trans (congrArg some (by kernel_rfl))
 f128 := Tryz.func228.trans (congrArg some (by kernel_rfl))
 f129 := Tryz.func229.trans (congrArg some (by kernel_rfl))
 f189 := Tryz.func138.trans (congrArg some (by kernel_rfl))
 f215 := Tryz.func247.trans (congrArg some (by kernel_rfl))
 f216 := Tryz.func225.trans (congrArg some (by kernel_rfl))
 f257 := Tryz.func187.trans (congrArg some (by kernel_rfl))
 f294 := Tryz.func219.trans (congrArg some (by kernel_rfl))
 f295 := Tryz.func220.trans (congrArg some (by kernel_rfl))
 f296 := Tryz.func221.trans (congrArg some (by kernel_rfl))
 f297 := Tryz.func222.trans (congrArg some (by kernel_rfl))
 f298 := Tryz.func223.trans (congrArg some (by kernel_rfl))
 f299 := Tryz.func224.trans (congrArg some (by kernel_rfl))
 f300 := Tryz.func226.trans (congrArg some (by kernel_rfl))
 f301 := Tryz.func227.trans (congrArg some (by kernel_rfl))
 f328 := Tryz.func242.trans (congrArg some (by kernel_rfl))
 f329 := Tryz.func243.trans (congrArg some (by kernel_rfl))
 f330 := Tryz.func244.trans (congrArg some (by kernel_rfl))
 f331 := Tryz.func245.trans (congrArg some (by kernel_rfl))
 f332 := Tryz.func246.trans (congrArg some (by kernel_rfl))
 f343 := Tryz.func252.trans (congrArg some (by kernel_rfl))
 t0 := Tryz.underlying0
 a0 := Tryz.isAgg0
 z0 := Tryz.sizeOf0
 v0 := Tryz.zeroValue0
 t3 := Tryz.underlying3
 a3 := Tryz.isAgg3
 z3 := Tryz.sizeOf3
 v3 := Tryz.zeroValue3
 t4 := Tryz.underlying4
 a4 := Tryz.isAgg4
 z4 := Tryz.sizeOf4
 v4 := Tryz.zeroValue4
 t5 := Tryz.underlying5
 a5 := Tryz.isAgg5
 z5 := Tryz.sizeOf5
 v5 := Tryz.zeroValue5
 t9 := Tryz.underlying9
 a9 := Tryz.isAgg9
 z9 := Tryz.sizeOf9
 v9 := Tryz.zeroValue9
 t28 := Tryz.underlying26
 a28 := Tryz.isAgg26
 z28 := Tryz.sizeOf26
 v28 := Tryz.zeroValue26
 t46 := Tryz.underlying194
 a46 := Tryz.isAgg194
 z46 := Tryz.sizeOf194
 v46 := Tryz.zeroValue194
 t51 := Tryz.underlying221
 a51 := Tryz.isAgg221
 z51 := Tryz.sizeOf221
 v51 := Tryz.zeroValue221
 t53 := Tryz.underlying223
 a53 := Tryz.isAgg223
 z53 := Tryz.sizeOf223
 v53 := Tryz.zeroValue223
 t131 := Tryz.underlying218
 a131 := Tryz.isAgg218
 z131 := Tryz.sizeOf218
 v131 := Tryz.zeroValue218
 t182 := Tryz.underlying213
 a182 := Tryz.isAgg213
 z182 := Tryz.sizeOf213
 v182 := Tryz.zeroValue213
 t183 := Tryz.underlying214
 a183 := Tryz.isAgg214
 z183 := Tryz.sizeOf214
 v183 := Tryz.zeroValue214
 t218 := Tryz.underlying232
 a218 := Tryz.isAgg232
 z218 := Tryz.sizeOf232
 v218 := Tryz.zeroValue232
 t222 := Tryz.underlying236
 a222 := Tryz.isAgg236
 z222 := Tryz.sizeOf236
 v222 := Tryz.zeroValue236
 t228 := Tryz.underlying244
 a228 := Tryz.isAgg244
 z228 := Tryz.sizeOf244
 v228 := Tryz.zeroValue244
 t229 := Tryz.underlying73
 a229 := Tryz.isAgg73
 z229 := Tryz.sizeOf73
 v229 := Tryz.zeroValue73 }
def Tryz.lays212_ren : Go.Shelf.Ren := ⟨fun | 212 => 241 | 263 => 250 | 264 => 251 | n => n, fun | 46 => 194 | 51 => 221 | 146 => 240 | 53 => 223 | 148 => 242 | n => n, fun | n => n⟩
theorem Tryz.lays212 : Go.Proofs.Lays.n212 Tryz.prog Tryz.lays212_ren := {
 mixed := by kernel_rfl
 f212 := Tryz.func241.trans (congrArg some (by kernel_rfl))
 f263 := Tryz.func250.trans (congrArg some (by kernel_rfl))
 f264 := Tryz.func251.trans (congrArg some (by kernel_rfl))
 t46 := Tryz.underlying194
 a46 := Tryz.isAgg194
 z46 := Tryz.sizeOf194
 v46 := Tryz.zeroValue194
 t51 := Tryz.underlying221
 a51 := Tryz.isAgg221
 z51 := Tryz.sizeOf221
 v51 := Tryz.zeroValue221
 t53 := Tryz.underlying223
 a53 := Tryz.isAgg223
 z53 := Tryz.sizeOf223
 v53 := Tryz.zeroValue223
 t146 := Tryz.underlying240
 a146 := Tryz.isAgg240
 z146 := Tryz.sizeOf240
 v146 := Tryz.zeroValue240
 t148 := Tryz.underlying242
 a148 := Tryz.isAgg242
 z148 := Tryz.sizeOf242
 v148 := Tryz.zeroValue242 }
def Tryz.laysNm220_ren : Go.Shelf.Ren := ⟨fun | 20 => 215 | n => n, fun | 22 => 26 | 3 => 3 | 4 => 4 | 0 => 0 | n => n, fun | n => n⟩
theorem Tryz.laysNm220 : Go.Proofs.Lays2.n20 Tryz.prog Tryz.laysNm220_ren := {
 mixed := by kernel_rfl
 f20 := Tryz.func215.trans (congrArg some (by kernel_rfl))
 t0 := Tryz.underlying0
 a0 := Tryz.isAgg0
 z0 := Tryz.sizeOf0
 v0 := Tryz.zeroValue0
 t3 := Tryz.underlying3
 a3 := Tryz.isAgg3
 z3 := Tryz.sizeOf3
 v3 := Tryz.zeroValue3
 t4 := Tryz.underlying4
 a4 := Tryz.isAgg4
 z4 := Tryz.sizeOf4
 v4 := Tryz.zeroValue4
 t22 := Tryz.underlying26
 a22 := Tryz.isAgg26
 z22 := Tryz.sizeOf26
 v22 := Tryz.zeroValue26
 i3 := by kernel_rfl }
set_option maxHeartbeats 1000000 in
set_option maxRecDepth 100000 in
theorem repeat_walk
  (n : Nat) (hn : n * 8 <= 140737488355328) (ad : Addr) (cx : Nat) (v : Int) (w : World) (hc : w.cell? ad = some (.int .i64 v)) :
  Calls Tryz.prog 218 #[.slice (some ad) 1 cx, .int .i64 (n : Int)] w fun e w' => e = .returned (.slice (some ⟨w.heap.size, 0, none⟩) n n) /\ ∃ m, w' = (Go.Sort.ahead w m).alloc (.cells (Array.replicate n (.int .i64 v)) 3) := by
 have mixed : Tryz.prog.follows .mixedOrders = true := by decide
 have t3 := Tryz.underlying3
 have a3 := Tryz.isAgg3
 have z3 := Tryz.sizeOf3
 have t4 := Tryz.underlying4
 have t26 := Tryz.underlying26
 have a26 := Tryz.isAgg26
 have z26 := Tryz.sizeOf26
 have v26 := Tryz.zeroValue26
 have t191 := Tryz.underlying194
 have e241 := fun args w => Tryz.call241 args w
 have hinfo : (Tryz.prog.info? 3).map (fun i => (i.zero, i.size, i.bytes)) = some (some (.int .i64 0), 1, 8) := by kernel_rfl
 have hM : Calls Tryz.prog 241 #[.int .u64 1, .int .u64 (n : Int)] w fun e w' => e = .returned (.tuple #[.int .u64 0, .int .u64 (n : Int)]) /\ w' = w := by
  have h := Any.bits_Mul Tryz.lays212 1 n (by omega) (by omega) w
  rw [show Tryz.lays212_ren.f 212 = 241 from rfl, Nat.one_mul, Nat.div_eq_of_lt (by omega), Nat.mod_eq_of_lt (by omega)] at h
  exact h
 have hmk := run_make_row' (P := Tryz.prog) 26 3 (.int .i64 0) 8 t26 hinfo rfl .i64 .i64 n (by omega) (by omega)
 go_enter Tryz.func218, Tryz.ntmps218
 have hsz : (Tryz.prog.info? 3).map (·.size) = some 1 := by
  cases h : Tryz.prog.info? 3 with
  | none => rw [h] at hinfo; cases hinfo
  | some i => rw [h] at hinfo; simp at hinfo; simp [hinfo.2.1]
 have hcp1 := fun (ty : TypeId) => Yd3 (n := n) (cx := cx) (v := v) t26 hsz hc ty
 have hcpk := fun (k : Nat) (hk : k <= n) (cx cy : Nat) (ty : TypeId) => Y93 (w := w) (v := v) t26 hsz hk cx cy ty
 go_wp2_with (first
  | (go_at_call 241; go_fit hM; rintro e w' ⟨rfl, hw⟩; rw [hw])
  | (refine wpList_copy_runI _ rfl (.tmp 31) (.tmp 32) 26 26 rfl _ _ rfl rfl (hcp1 _) ?_))
 go_loopg [8] (n - min 1 n) (fun g s8 wx => ∃ k m : Nat, min 1 n <= k /\ k <= n /\ g = n - k /\ s8 = .int .i64 (k : Int) /\ wx = (Go.Sort.ahead w m).alloc (.cells (repRow n v k).toArray 3))
 case atStart => exact ⟨min 1 n, 0, Nat.le_refl _, by omega, rfl, rfl, rfl⟩
 case round =>
  obtain ⟨k, m, hk1, hk2, hkg, rfl, hwr⟩ := hrel
  by_cases hlt : (k : Int) < (n : Int)
  ·have A : Aside (wr = (Go.Sort.ahead w m).alloc (.cells (repRow n v k).toArray 3)) := hwr
   clear hwr hcp1 hmk
   go_wp2_with fail
   have hcp := fun (ty : TypeId) => Y93 (P := Tryz.prog) (w := Go.Sort.ahead w (m + 1)) (n := n) (k := k) (v := v) t26 hsz (by omega) (n - k) n ty
   have hW : wr.drew = (Go.Sort.ahead w (m + 1)).alloc (.cells (repRow n v k).toArray 3) := by rw [A.out]; rfl
   rw [<- hW] at hcp
   go_region_law_o (refine step_copy_runI rfl _ _ 26 26 rfl (.slice (some ⟨w.heap.size, k, none⟩) (n - k) (n - k)) (.slice (some ⟨w.heap.size, 0, none⟩) k n) (by simp [Act.eval, Act.put]; try omega) (by simp [Act.eval, Act.put]; try omega) (hcp _) ?_)
   go_wp2
   go_roundg (n - (k + min k (n - k)))
   case measure => omega
   case rel => exact ⟨k + min k (n - k), m + 1, by omega, by omega, rfl, by
     congr 1
     rw [IntKind.wrap_i64]
     omega, rfl⟩
  ·obtain rfl : k = n := by omega
   go_wp2
   go_ret
   refine ⟨rfl, m, ?_⟩
   simp [repRow]
theorem repeat_said : Go.FP.RepeatSaid Tryz.prog 218 3 := fun n ad cx v w hn hc => repeat_walk n hn ad cx v w hc
end Go.Proofs
namespace Go.PL
noncomputable section
open Go.FP Go.Proofs Go.Shelf
set_option maxRecDepth 10000
variable (N : Nat)
abbrev i64 : Ty := .int .i64
abbrev ty0 : Ty := (.slice 3 i64)
abbrev ty1 : Ty := (.slice 5 (.int .u8))
abbrev ty2 : Ty := (.pair (.slice 5 (.int .u8)) (.pair i64 i64))
abbrev ty3 : Ty := (.slice 142 (.pair .str (.pair i64 i64)))
abbrev ty4 : Ty := (.pair i64 (.slice 3 i64))
abbrev ty5 : Ty := (.pair (.slice 142 (.pair .str (.pair i64 i64))) (.slice 110 (.pair i64 (.slice 3 i64))))
abbrev ty6 : Ty := (.slice 110 (.pair i64 (.slice 3 i64)))
abbrev ty7 : Ty := (.pair .str (.pair i64 i64))
abbrev ty8 : Ty := (.pair i64 (.pair (.slice 145 (.pair i64 (.slice 3 i64))) (.slice 3 i64)))
abbrev ty9 : Ty := (.slice 145 (.pair i64 (.slice 3 i64)))
abbrev ty10 : Ty := (.slice 9 .str)
abbrev ty11 : Ty := (.slice 4 .bool)
abbrev ty12 : Ty := (.slice 26 (.slice 3 i64))
abbrev ty13 : Ty := (.slice 159 (.pair (.slice 3 i64) (.slice 3 i64)))
abbrev ty14 : Ty := (.pair (.slice 3 i64) (.slice 3 i64))
abbrev ty15 : Ty := (.pair i64 i64)
def Tb : Tab := [⟨3, i64, 8, [], false, false⟩,
 ⟨4, .bool, 1, [], false, false⟩,
 ⟨5, (.int .u8), 1, [], false, false⟩,
 ⟨9, .str, 16, [], false, false⟩,
 ⟨26, ty0, 24, [], false, false⟩,
 ⟨33, ty15, 16, [(0, 3), (1, 3)], false, true⟩,
 ⟨36, ty3, 24, [], false, false⟩,
 ⟨37, ty6, 24, [], false, false⟩,
 ⟨39, ty5, 48, [(0, 36), (1, 37)], false, false⟩,
 ⟨42, ty9, 24, [], false, false⟩,
 ⟨44, ty8, 56, [(0, 3), (1, 42), (2, 26)], false, false⟩,
 ⟨51, ty1, 24, [], false, false⟩,
 ⟨60, ty12, 24, [], false, false⟩,
 ⟨110, ty4, 32, [(0, 3), (1, 26)], false, false⟩,
 ⟨121, ty13, 24, [], false, false⟩,
 ⟨142, ty7, 32, [(0, 9), (1, 3), (2, 3)], false, false⟩,
 ⟨145, ty4, 32, [(0, 3), (1, 26)], false, false⟩,
 ⟨159, ty14, 48, [(0, 26), (1, 26)], false, false⟩,
 ⟨174, ty11, 24, [], false, false⟩,
 ⟨177, ty2, 40, [(0, 51), (1, 3), (2, 3)], false, false⟩,
 ⟨207, ty10, 24, [], false, false⟩,
 ⟨190, .bool, 8, [], true, false⟩]
theorem tab_ok : TabOk Tryz.prog Tb :=
 (Yi (TEOk.plain (i := Tryz.t3) (by kernel_rfl) rfl rfl (by kernel_rfl) rfl rfl rfl Tryz.underlying3)
 (Yi (TEOk.plain (i := Tryz.t4) (by kernel_rfl) rfl rfl (by kernel_rfl) rfl rfl rfl Tryz.underlying4)
 (Yi (TEOk.plain (i := Tryz.t5) (by kernel_rfl) rfl rfl (by kernel_rfl) rfl rfl rfl Tryz.underlying5)
 (Yi (TEOk.plain (i := Tryz.t9) (by kernel_rfl) rfl rfl (by kernel_rfl) rfl rfl rfl Tryz.underlying9)
 (Yi (TEOk.plain (i := Tryz.t26) (by kernel_rfl) rfl rfl (by kernel_rfl) rfl rfl rfl Tryz.underlying26)
 (Yi (TEOk.struct (i := Tryz.t33) (pl := [(0, 1), (1, 1)]) (by kernel_rfl) rfl rfl (by kernel_rfl) Tryz.underlying33 (by kernel_rfl) (by kernel_rfl) rfl rfl (fun _ => ⟨⟨by kernel_rfl, by kernel_rfl⟩, ⟨⟨by decide, rfl, fun w => Tryz.isAgg3 w, Tryz.underlying3⟩, ⟨⟨by decide, rfl, fun w => Tryz.isAgg3 w, Tryz.underlying3⟩, trivial⟩⟩⟩))
 (Yi (TEOk.plain (i := Tryz.t36) (by kernel_rfl) rfl rfl (by kernel_rfl) rfl rfl rfl Tryz.underlying36)
 (Yi (TEOk.plain (i := Tryz.t37) (by kernel_rfl) rfl rfl (by kernel_rfl) rfl rfl rfl Tryz.underlying37)
 (Yi (TEOk.struct (i := Tryz.t39) (pl := [(0, 1), (1, 1)]) (by kernel_rfl) rfl rfl (by kernel_rfl) Tryz.underlying39 (by kernel_rfl) (by kernel_rfl) rfl rfl (fun h => by cases h))
 (Yi (TEOk.plain (i := Tryz.t42) (by kernel_rfl) rfl rfl (by kernel_rfl) rfl rfl rfl Tryz.underlying42)
 (Yi (TEOk.struct (i := Tryz.t44) (pl := [(0, 1), (1, 1), (2, 1)]) (by kernel_rfl) rfl rfl (by kernel_rfl) Tryz.underlying44 (by kernel_rfl) (by kernel_rfl) rfl rfl (fun h => by cases h))
 (Yi (TEOk.plain (i := Tryz.t51) (by kernel_rfl) rfl rfl (by kernel_rfl) rfl rfl rfl Tryz.underlying51)
 (Yi (TEOk.plain (i := Tryz.t60) (by kernel_rfl) rfl rfl (by kernel_rfl) rfl rfl rfl Tryz.underlying60)
 (Yi (TEOk.struct (i := Tryz.t110) (pl := [(0, 1), (1, 1)]) (by kernel_rfl) rfl rfl (by kernel_rfl) Tryz.underlying110 (by kernel_rfl) (by kernel_rfl) rfl rfl (fun h => by cases h))
 (Yi (TEOk.plain (i := Tryz.t121) (by kernel_rfl) rfl rfl (by kernel_rfl) rfl rfl rfl Tryz.underlying121)
 (Yi (TEOk.struct (i := Tryz.t142) (pl := [(0, 1), (1, 1), (2, 1)]) (by kernel_rfl) rfl rfl (by kernel_rfl) Tryz.underlying142 (by kernel_rfl) (by kernel_rfl) rfl rfl (fun h => by cases h))
 (Yi (TEOk.struct (i := Tryz.t145) (pl := [(0, 1), (1, 1)]) (by kernel_rfl) rfl rfl (by kernel_rfl) Tryz.underlying145 (by kernel_rfl) (by kernel_rfl) rfl rfl (fun h => by cases h))
 (Yi (TEOk.struct (i := Tryz.t159) (pl := [(0, 1), (1, 1)]) (by kernel_rfl) rfl rfl (by kernel_rfl) Tryz.underlying159 (by kernel_rfl) (by kernel_rfl) rfl rfl (fun h => by cases h))
 (Yi (TEOk.plain (i := Tryz.t174) (by kernel_rfl) rfl rfl (by kernel_rfl) rfl rfl rfl Tryz.underlying174)
 (Yi (TEOk.struct (i := Tryz.t177) (pl := [(0, 1), (1, 1), (2, 1)]) (by kernel_rfl) rfl rfl (by kernel_rfl) Tryz.underlying177 (by kernel_rfl) (by kernel_rfl) rfl rfl (fun h => by cases h))
 (Yi (TEOk.plain (i := Tryz.t207) (by kernel_rfl) rfl rfl (by kernel_rfl) rfl rfl rfl Tryz.underlying207)
 (Yi (TEOk.ofFn (i := Tryz.t190) (z := (Tryz.t190.zero).getD default) (by kernel_rfl) rfl (by kernel_rfl) (by kernel_rfl) Tryz.underlying190 rfl rfl)
 Yf2))))))))))))))))))))))
theorem mixed : Tryz.prog.follows .mixedOrders = true := by decide
def cps : FuncId -> List Ty := capsL [(135, []), (141, [ty0]), (180, [ty4]), (184, [ty8, .bool, ty5, .bool]), (191, [ty0]), (231, [])]
def cpsS : FuncId -> List Ty := fun f => if f = 1000000007 then [.unit] else cps f
def cpsK : FuncId -> List Ty := fun f => if f = 1000000009 then [.unit] else cps f
section
variable {R : Type} (es : List (Entry Tryz.prog)) (N : Nat) (an : Nat -> Option (List Nat))
abbrev evE (sg : Sig) (fn : Func) (args : List RV) (K : List (Σ t : Ty, t.D) -> Option R) : Option R :=
 evFn Tb (sigL es) cps (orcL es) (drawReg Tb (sigL es) cps (orcL es)) N an sg fn (fn.body.getD .skip) args K
abbrev evES (sg : Sig) (fn : Func) (args : List RV) (K : List (Σ t : Ty, t.D) -> Option R) : Option R :=
 evFn Tb (sigL es) cpsS (orcL es) (drawReg Tb (sigL es) cpsS (orcL es)) N an sg fn (fn.body.getD .skip) args K
abbrev lpES (p : List Dir) (fn : Func) (K : Exit -> Env -> Option R) (rs : List (Env -> Option R)) (k : Nat) (env : Env) : Option R :=
 loopAt Tb (sigL es) cpsS (orcL es) N an p (fn.body.getD .skip) K rs k env
abbrev evEK (sg : Sig) (fn : Func) (args : List RV) (K : List (Σ t : Ty, t.D) -> Option R) : Option R :=
 evFn Tb (sigL es) cpsK (orcL es) (drawReg Tb (sigL es) cpsK (orcL es)) N an sg fn (fn.body.getD .skip) args K
abbrev lpEK (p : List Dir) (fn : Func) (K : Exit -> Env -> Option R) (rs : List (Env -> Option R)) (k : Nat) (env : Env) : Option R :=
 loopAt Tb (sigL es) cpsK (orcL es) N an p (fn.body.getD .skip) K rs k env
abbrev evB (sg : Sig) (b : BoxSig) (fn : Func) (args : List RV) (K : List (Σ t : Ty, t.D) -> Option R) : Option R :=
 evFnB Tb (sigL es) cps (orcL es) (drawReg Tb (sigL es) cps (orcL es)) N an sg b fn (fn.body.getD .skip) args K
abbrev evG (k : Nat) (sg : Sig) (fn : Func) (args : List RV) (K : List (Σ t : Ty, t.D) -> Option R) : Option R :=
 evFnG Tb (sigL es) cps (orcL es) (drawReg Tb (sigL es) cps (orcL es)) N an k sg fn (fn.body.getD .skip) args K
abbrev evN (id : TypeId) (t : Ty) (rs : List (Ty × Lvl)) (fn : Func) (args : List RV) (K : List (Σ t : Ty, t.D) -> Option R) : Option R :=
 evFnN Tb (sigL es) cps (orcL es) (drawReg Tb (sigL es) cps (orcL es)) N an id t rs fn (fn.body.getD .skip) args K
abbrev lpE (p : List Dir) (fn : Func) (K : Exit -> Env -> Option R) (rs : List (Env -> Option R)) (k : Nat) (env : Env) : Option R :=
 loopAt Tb (sigL es) cps (orcL es) N an p (fn.body.getD .skip) K rs k env
end
abbrev EnTryz := Entry Tryz.prog
theorem qL {α : Type} {E f : Nat -> α} (B : α -> α) (h0 : E 0 = f 0 := by kernel_rfl) (h1 : ∀ k, E (k + 1) = B (E k) := by intro k; kernel_rfl) (h2 : ∀ k, f (k + 1) = B (f k) := by intro k; rfl) : ∀ k, E k = f k
 | 0 => h0
 | k + 1 => by rw [h1, h2, qL B h0 h1 h2 k]
theorem tq {α : Type} {a b c : α} (h2 : b = c) (h1 : a = b := by kernel_rfl) : a = c := h1.trans h2
abbrev cr (t : Ty) (x : t.D) : AV := .con .val [lf t x .ro]
abbrev cd (t : Ty) (x : t.D) : AV := .con .val [lf t x .dp]
def an0 : Nat -> Option (List Nat) := fun _ => none
def sgV (ps : List PTy) (rs : List (Ty × Lvl)) : Sig := ⟨ps, rs, false, false, none, none, none⟩
theorem enK {f : FuncId} {fn : Func} (hf : Tryz.prog.funcs[f]? = some fn) (h : (fn.body.isNone || fn.name == "runtime.NumGoroutine") = false := by kernel_rfl) : Enterable Tryz.prog f := ⟨fn, hf, (Bool.or_eq_false_iff.1 h).1, (Bool.or_eq_false_iff.1 h).2⟩
def plG (sg : Sig) : Bool := sg.box.isNone && (sg.newb.isNone && (!sg.muts && !sg.own))
theorem eok (es : List (Entry Tryz.prog)) (ha : agreeL es = true) {f : FuncId} {fn : Func} (hf : Tryz.prog.funcs[f]? = some fn) (hb : fn.body.isSome = true) (N : Nat) (an : Nat -> Option (List Nat)) {sg : Sig} (hs : plG sg = true) {args : List RV} {α : Type} {un : List (Σ t : Ty, t.D) -> Option α} {pk : α -> List (Σ t : Ty, t.D)} (hu : ∀ r xs, un xs = some r -> xs = pk r) {q : Option α} (h : evE es N an sg fn args un = q) :
  ∀ x, q = some x -> FnOk Tryz.prog f sg args (pk x) := by
 obtain ⟨ps, rs, m, o, b, n, g⟩ := sg
 simp only [plG, Bool.and_eq_true, Bool.not_eq_true', Option.isNone_iff_eq_none] at hs
 obtain ⟨rfl, rfl, rfl, rfl⟩ := hs
 exact Y5a tab_ok ha mixed hf (by cases h : fn.body with | none => rw [h] at hb; cases hb | some c => rfl) ⟨⟨rfl, rfl⟩, rfl, rfl⟩ hu h
theorem eo (es : List (Entry Tryz.prog)) {f : FuncId} {fn : Func} (hf : Tryz.prog.funcs[f]? = some fn) (N : Nat) (an : Nat -> Option (List Nat)) {sg : Sig} {args : List RV} {α : Type} {un : List (Σ t : Ty, t.D) -> Option α} {pk : α -> List (Σ t : Ty, t.D)} (hu : ∀ r xs, un xs = some r -> xs = pk r) {q : Option α} (h : evE es N an sg fn args un = q := by kernel_rfl) (ha : agreeL es = true := by kernel_rfl) (hb : fn.body.isSome = true := by rfl) (hs : plG sg = true := by rfl) : ∀ x, q = some x -> FnOk Tryz.prog f sg args (pk x) := eok es ha hf hb N an hs hu h
theorem eokS (es : List (Entry Tryz.prog)) (ha : agreeL es = true) {f : FuncId} {fn : Func} (hf : Tryz.prog.funcs[f]? = some fn) (hb : fn.body.isSome = true) (N : Nat) (an : Nat -> Option (List Nat)) {sg : Sig} (hs : plG sg = true) {args : List RV} {α : Type} {un : List (Σ t : Ty, t.D) -> Option α} {pk : α -> List (Σ t : Ty, t.D)} (hu : ∀ r xs, un xs = some r -> xs = pk r) {q : Option α} (h : evES es N an sg fn args un = q) :
  ∀ x, q = some x -> FnOk Tryz.prog f sg args (pk x) := by
 obtain ⟨ps, rs, m, o, b, n, g⟩ := sg
 simp only [plG, Bool.and_eq_true, Bool.not_eq_true', Option.isNone_iff_eq_none] at hs
 obtain ⟨rfl, rfl, rfl, rfl⟩ := hs
 exact Y5a tab_ok ha mixed hf (by cases h : fn.body with | none => rw [h] at hb; cases hb | some c => rfl) ⟨⟨rfl, rfl⟩, rfl, rfl⟩ hu h
theorem eoS (es : List (Entry Tryz.prog)) {f : FuncId} {fn : Func} (hf : Tryz.prog.funcs[f]? = some fn) (N : Nat) (an : Nat -> Option (List Nat)) {sg : Sig} {args : List RV} {α : Type} {un : List (Σ t : Ty, t.D) -> Option α} {pk : α -> List (Σ t : Ty, t.D)} (hu : ∀ r xs, un xs = some r -> xs = pk r) {q : Option α} (h : evES es N an sg fn args un = q := by kernel_rfl) (ha : agreeL es = true := by kernel_rfl) (hb : fn.body.isSome = true := by rfl) (hs : plG sg = true := by rfl) : ∀ x, q = some x -> FnOk Tryz.prog f sg args (pk x) := eokS es ha hf hb N an hs hu h
theorem eokK (es : List (Entry Tryz.prog)) (ha : agreeL es = true) {f : FuncId} {fn : Func} (hf : Tryz.prog.funcs[f]? = some fn) (hb : fn.body.isSome = true) (N : Nat) (an : Nat -> Option (List Nat)) {sg : Sig} (hs : plG sg = true) {args : List RV} {α : Type} {un : List (Σ t : Ty, t.D) -> Option α} {pk : α -> List (Σ t : Ty, t.D)} (hu : ∀ r xs, un xs = some r -> xs = pk r) {q : Option α} (h : evEK es N an sg fn args un = q) :
  ∀ x, q = some x -> FnOk Tryz.prog f sg args (pk x) := by
 obtain ⟨ps, rs, m, o, b, n, g⟩ := sg
 simp only [plG, Bool.and_eq_true, Bool.not_eq_true', Option.isNone_iff_eq_none] at hs
 obtain ⟨rfl, rfl, rfl, rfl⟩ := hs
 exact Y5a tab_ok ha mixed hf (by cases h : fn.body with | none => rw [h] at hb; cases hb | some c => rfl) ⟨⟨rfl, rfl⟩, rfl, rfl⟩ hu h
theorem eoK (es : List (Entry Tryz.prog)) {f : FuncId} {fn : Func} (hf : Tryz.prog.funcs[f]? = some fn) (N : Nat) (an : Nat -> Option (List Nat)) {sg : Sig} {args : List RV} {α : Type} {un : List (Σ t : Ty, t.D) -> Option α} {pk : α -> List (Σ t : Ty, t.D)} (hu : ∀ r xs, un xs = some r -> xs = pk r) {q : Option α} (h : evEK es N an sg fn args un = q := by kernel_rfl) (ha : agreeL es = true := by kernel_rfl) (hb : fn.body.isSome = true := by rfl) (hs : plG sg = true := by rfl) : ∀ x, q = some x -> FnOk Tryz.prog f sg args (pk x) := eokK es ha hf hb N an hs hu h
def lay_Grow_ren : Ren := ⟨fun _ => 240, fun | 0 => 0 | 3 => 3 | 4 => 4 | 9 => 9 | 20 => 20 | 22 => 26 | _ => 3, id⟩
theorem lay_Grow : Lays8.n4 Tryz.prog lay_Grow_ren := {
 mixed := by kernel_rfl
 f4 := ⟨Tryz.f240.name, by kernel_rfl, Tryz.func240.trans (congrArg some (by kernel_rfl))⟩
 t0 := Tryz.underlying0
 a0 := Tryz.isAgg0
 z0 := Tryz.sizeOf0
 v0 := Tryz.zeroValue0
 t3 := Tryz.underlying3
 a3 := Tryz.isAgg3
 z3 := Tryz.sizeOf3
 v3 := Tryz.zeroValue3
 t4 := Tryz.underlying4
 a4 := Tryz.isAgg4
 z4 := Tryz.sizeOf4
 v4 := Tryz.zeroValue4
 t9 := Tryz.underlying9
 a9 := Tryz.isAgg9
 z9 := Tryz.sizeOf9
 v9 := Tryz.zeroValue9
 t20 := Tryz.underlying20
 a20 := Tryz.isAgg20
 z20 := Tryz.sizeOf20
 v20 := Tryz.zeroValue20
 t22 := Tryz.underlying26
 a22 := Tryz.isAgg26
 z22 := Tryz.sizeOf26
 v22 := Tryz.zeroValue26 }
def Z0cd : Entry Tryz.prog := ⟨240, ⟨[.val ty0, .val i64], [(ty0, .dp)], true, true, none, none, none⟩, [.v ty0, .v i64], I0, Z8i N, pk1 ty0, Y2p Tryz.func240 (code := Tryz.f240.body.getD .skip) (by kernel_rfl) (by kernel_rfl),
 fun s n q h => Yem (Yen lay_Grow (i0 := Tryz.t3) (z := (Tryz.t3.zero).getD default) (by kernel_rfl) (by kernel_rfl) (by kernel_rfl) (by kernel_rfl) (by kernel_rfl)) h⟩
def Z0a6 : Entry Tryz.prog := ⟨138, ⟨[.val ty0], [], true, false, none, none, none⟩, [.v ty0], I0, Z1d N, pk1 ty0, Y2p Tryz.func138 (code := Tryz.f138.body.getD .skip) (by kernel_rfl) (by kernel_rfl),
 fun s q h => Yel (Yeo Tryz.lays189) h⟩
def Z0bl : Entry Tryz.prog := ⟨215, ⟨[.val ty0], [(ty0, .dp)], true, true, none, none, none⟩, [.v ty0], I0, Z74 N, pk1 ty0, Y2p Tryz.func215 (code := Tryz.f215.body.getD .skip) (by kernel_rfl) (by kernel_rfl),
 fun s q h => Ybg (Ybh Tryz.laysNm220) h⟩
def Z0c7 : Entry Tryz.prog := ⟨218, ⟨[.val ty0, .val i64], [(ty0, .dp)], true, true, none, none, none⟩, [.v ty0, .v i64], I0, Z7j N, pk1 ty0, Y2p Tryz.func218 (code := Tryz.f218.body.getD .skip) (by kernel_rfl) (by kernel_rfl),
 fun s n q h => Yd1 repeat_said h⟩
theorem Z0c8 : Bears Tryz.prog 164 (SlBodyN.n41 (renL 164 0 3 4 26 3)) := ⟨Tryz.f164.name, by kernel_rfl, Tryz.func164.trans (congrArg some (by kernel_rfl))⟩
def Z9t : Entry Tryz.prog := ⟨164, ⟨[.val ty0], [(ty0, .dp)], false, false, none, none, none⟩, [.v ty0], I0, Z1z N, pk1 ty0, Y2p Tryz.func164 (code := Tryz.f164.body.getD .skip) (by kernel_rfl) (by kernel_rfl),
 fun s q h => Ydp tab_ok mixed Z0c8 (by kernel_rfl) Tryz.underlying4 (te := ⟨3, i64, 8, [], false, false⟩) (by kernel_rfl) rfl rfl h⟩
namespace Z0ay
def sG := sgV [.val ty1] [(.bool, .dp)]
def eS (N : Nat) : List EnTryz := []
def eE : EnTryz := ⟨18, sG, [.v ty1], _, Z0ay N, pk1 .bool, enK Tryz.func18,
 fun a => eo (eS N) Tryz.func18 N an0 (Y4 .bool)⟩
end Z0ay
namespace Z8j
def sG : Sig := ⟨[.val ty1], [], false, false, none, some 177, none⟩
def eS (N : Nat) : List EnTryz := []
def an_ : Nat -> Option (List Nat)
 | 0 => some [0, 3, 4]
 | _ => none
def lP (p : List Dir) := lpE (eS N) N an_ p Tryz.f125 (endN Tb 177 ty2 sG.results Tryz.f125 (un1 ty2))
def El0 (k_ : Nat) (a : I0) (h : Int) (i : Int) : Option (List Int × Int × Int) :=
 lP N [.r, .r, .l, .r, .b] [] k_ (cr ty1 a :: (un 2 (cr i64 h :: (cr i64 i :: (un 27 [])))))
theorem ql0 (N : Nat) : ∀ k_, El0 N k_ = Z8u N k_ := qL (Z0aj N)
theorem vV (code : I0) :
  evN (eS N) N an_ 177 ty2 sG.results Tryz.f125 [.val ty1 code] (un1 ty2) = Z0bm N (El0 N N) code := by kernel_rfl
def eE : EnTryz := ⟨125, sG, [.v ty1], _, Z8j N, pk1 ty2, enK Tryz.func125,
 fun a => Y90 tab_ok (es := eS N) (by kernel_rfl) mixed Tryz.func125 (by kernel_rfl) rfl rfl (fun _ => ⟨_, _, rfl⟩) (Y4 ty2) ((vV N a).trans (by rw [ql0]; rfl))⟩
end Z8j
namespace Z3d
def bX : BoxSig := ⟨0, 177, [.fx, .ro, .ro]⟩
def sG : Sig := ⟨[.ptr ty2], [(i64, .dp)], false, false, some bX, none, none⟩
def eS (N : Nat) : List EnTryz := []
theorem vV (c : List Int × Int × Int) :
  evB (eS N) N an0 sG bX Tryz.f175 [.ptr ty2 c] (un2 ty2 i64) = Z3d N c := by kernel_rfl
def eE : EnTryz := ⟨175, sG, [.p ty2], _, Z3d N, pk2 ty2 i64, enK Tryz.func175,
 fun c => Yq tab_ok (es := eS N) (by kernel_rfl) mixed Tryz.func175 (by kernel_rfl) rfl rfl (fun _ => ⟨_, _, rfl⟩) (Yh ty2 i64) (vV N c)⟩
end Z3d
namespace Z0
def bX : BoxSig := ⟨0, 177, [.fx, .ro, .ro]⟩
def sG : Sig := ⟨[.ptr ty2, .val i64], [(i64, .dp)], false, false, some bX, none, none⟩
def eS : List EnTryz := [Z3d.eE N]
theorem vV (c : List Int × Int × Int) (n : Int) :
  evB (eS N) N an0 sG bX Tryz.f128 [.ptr ty2 c, .val i64 n] (un2 ty2 i64) = Z0 N c n := by kernel_rfl
def eE : EnTryz := ⟨128, sG, [.p ty2, .v i64], _, Z0 N, pk2 ty2 i64, enK Tryz.func128,
 fun c n => Yq tab_ok (es := eS N) (by kernel_rfl) mixed Tryz.func128 (by kernel_rfl) rfl rfl (fun _ => ⟨_, _, rfl⟩) (Yh ty2 i64) (vV N c n)⟩
end Z0
namespace Z0n
def bX : BoxSig := ⟨0, 177, [.fx, .ro, .ro]⟩
def sG : Sig := ⟨[.ptr ty2, .val ty0], [(i64, .dp)], false, false, some bX, none, none⟩
def eS : List EnTryz := [Z0.eE N]
theorem vV (c : List Int × Int × Int) (list : I0) :
  evB (eS N) N an0 sG bX Tryz.f131 [.ptr ty2 c, .val ty0 list] (un2 ty2 i64) = Z0n N c list := by kernel_rfl
def eE : EnTryz := ⟨131, sG, [.p ty2, .v ty0], _, Z0n N, pk2 ty2 i64, enK Tryz.func131,
 fun c a => Yq tab_ok (es := eS N) (by kernel_rfl) mixed Tryz.func131 (by kernel_rfl) rfl rfl (fun _ => ⟨_, _, rfl⟩) (Yh ty2 i64) (vV N c a)⟩
end Z0n
namespace Z7k
def bX : BoxSig := ⟨0, 177, [.fx, .ro, .ro]⟩
def sG : Sig := ⟨[.ptr ty2], [(ty3, .dp)], false, false, some bX, none, none⟩
def eS : List EnTryz := [Z0n.eE N, Z0.eE N]
theorem vV (c : List Int × Int × Int) :
  evB (eS N) N an0 sG bX Tryz.f170 [.ptr ty2 c] (un2 ty2 ty3) = Z7k N c := by kernel_rfl
def eE : EnTryz := ⟨170, sG, [.p ty2], _, Z7k N, pk2 ty2 ty3, enK Tryz.func170,
 fun c => Yq tab_ok (es := eS N) (by kernel_rfl) mixed Tryz.func170 (by kernel_rfl) rfl rfl (fun _ => ⟨_, _, rfl⟩) (Yh ty2 ty3) (vV N c)⟩
end Z7k
namespace Z57
def bX : BoxSig := ⟨0, 177, [.fx, .ro, .ro]⟩
def sG : Sig := ⟨[.ptr ty2, .val ty3, .val i64], [(ty4, .dp)], false, false, some bX, none, none⟩
def eS : List EnTryz := [Z0.eE N]
def an_ : Nat -> Option (List Nat)
 | 0 => some [0, 1, 2, 6, 7]
 | _ => none
def lP (p : List Dir) := lpE (eS N) N an_ p Tryz.f172 (endB Tb sG bX Tryz.f172 ty2 (un2 ty2 ty4))
def El0 (k_ : Nat) (c2 : I0) (c3 : Int) (c4 : Int) (l2 : R0) (a : Int) (t6 : Int) (c : I0) (f : Int) (f2 : I0) : Option ((List Int × Int × Int) × Int × List Int) :=
 lP N [.r, .r, .l, .b] [] k_ (.con (.box ⟨177, true, [true, false, false]⟩) [lf ty1 c2 .ro, lf i64 c3 .ro, lf i64 c4 .ro] :: (cr ty3 l2 :: (cr i64 a :: (un 3 (.con (.box ⟨110, false, []⟩) [lf i64 t6 .ro, lf ty0 c .dp] :: (.con (.box ⟨110, false, []⟩) [lf i64 f .ro, lf ty0 f2 .dp] :: (un 24 [])))))))
theorem ql0 (N : Nat) : ∀ k_, El0 N k_ = Z80 N k_ := qL (Z0a8 N)
theorem vV (c : List Int × Int × Int) (l : R0) (val : Int) :
  evB (eS N) N an_ sG bX Tryz.f172 [.ptr ty2 c, .val ty3 l, .val i64 val] (un2 ty2 ty4) = Z0d2 N (El0 N N) c l val := by kernel_rfl
def eE : EnTryz := ⟨172, sG, [.p ty2, .v ty3, .v i64], _, Z57 N, pk2 ty2 ty4, enK Tryz.func172,
 fun c l a => Yq tab_ok (es := eS N) (by kernel_rfl) mixed Tryz.func172 (by kernel_rfl) rfl rfl (fun _ => ⟨_, _, rfl⟩) (Yh ty2 ty4) ((vV N c l a).trans (by rw [ql0]; rfl))⟩
end Z57
namespace Z7l
def sG := sgV [.val ty5] [(ty5, .dp)]
def eS (N : Nat) : List EnTryz := []
def an_ : Nat -> Option (List Nat)
 | 0 => some [1, 2, 3, 4]
 | _ => none
def lP (p : List Dir) := lpE (eS N) N an_ p Tryz.f208 (endK Tb sG Tryz.f208 [] (un1 ty5))
def El0 (k_ : Nat) (d2 : R0) (d3 : A0) (t2 : R0) (a : A0) (x : R0) (x2 : A0) (i : Int) : Option D0 :=
 lP N [.r, .r, .l, .r, .b] [] k_ (un 1 (.con (.box ⟨39, false, []⟩) [lf ty3 d2 .ro, lf ty6 d3 .ro] :: (.con (.box ⟨39, false, []⟩) [lf ty3 t2 .dp, lf ty6 a .dp] :: (.con (.box ⟨39, false, []⟩) [lf ty3 x .dp, lf ty6 x2 .dp] :: (cr i64 i :: (un 33 []))))))
theorem ql0 (N : Nat) : ∀ k_, El0 N k_ = Z81 N k_ := qL (Z0a9 N)
def eE : EnTryz := ⟨208, sG, [.v ty5], _, Z7l N, pk1 ty5, enK Tryz.func208,
 fun d => eo (eS N) Tryz.func208 N an_ (Y4 ty5) (tq (b := Z0b6 N (El0 N N) d) (by rw [ql0]; rfl))⟩
end Z7l
namespace Z0j
def sG := sgV [.val i64, .val i64, .val i64] [(.bool, .dp)]
def eS (N : Nat) : List EnTryz := []
def eE : EnTryz := ⟨114, sG, [.v i64, .v i64, .v i64], _, Z0j N, pk1 .bool, enK Tryz.func114,
 fun x a b => eo (eS N) Tryz.func114 N an0 (Y4 .bool)⟩
end Z0j
namespace Z8
def sG := sgV [.val ty7] [(.bool, .dp)]
def eS : List EnTryz := [Z0j.eE N]
def eE : EnTryz := ⟨147, sG, [.v ty7], _, Z8 N, pk1 .bool, enK Tryz.func147,
 fun s => eo (eS N) Tryz.func147 N an0 (Y4 .bool)⟩
end Z8
namespace Z0f
def sG := sgV [.val ty3] [(.bool, .dp)]
def eS : List EnTryz := [Z8.eE N]
def an_ : Nat -> Option (List Nat)
 | 0 => some [0, 3]
 | _ => none
def lP (p : List Dir) := lpE (eS N) N an_ p Tryz.f92 (endK Tb sG Tryz.f92 [] (un1 .bool))
def El0 (k_ : Nat) (l2 : R0) (i : Int) : Option (Bool) :=
 lP N [.r, .l, .r, .b] [] k_ (cr ty3 l2 :: (un 2 (cr i64 i :: (un 33 []))))
theorem ql0 (N : Nat) : ∀ k_, El0 N k_ = Z0o N k_ := qL (Z1l N)
def eE : EnTryz := ⟨92, sG, [.v ty3], _, Z0f N, pk1 .bool, enK Tryz.func92,
 fun l => eo (eS N) Tryz.func92 N an_ (Y4 .bool) (tq (b := Z4h N (El0 N N) l) (by rw [ql0]; rfl))⟩
end Z0f
namespace Z0r
def sG := sgV [.val ty3, .val ty4] [(.bool, .dp)]
def eS : List EnTryz := [Z0j.eE N, Z0f.eE N]
def an_ : Nat -> Option (List Nat)
 | 0 => some [3, 5]
 | _ => none
def lP (p : List Dir) := lpE (eS N) N an_ p Tryz.f90 (endK Tb sG Tryz.f90 [] (un1 .bool))
def El0 (k_ : Nat) (f2 : Int) (f3 : I0) (i : Int) : Option (Bool) :=
 lP N [.r, .r, .l, .r, .b] [] k_ (un 3 (.con (.box ⟨110, false, []⟩) [lf i64 f2 .ro, lf ty0 f3 .ro] :: (un 1 (cr i64 i :: (un 38 [])))))
theorem ql0 (N : Nat) : ∀ k_, El0 N k_ = Z3t N k_ := qL (Z5q N)
def eE : EnTryz := ⟨90, sG, [.v ty3, .v ty4], _, Z0r N, pk1 .bool, enK Tryz.func90,
 fun l f => eo (eS N) Tryz.func90 N an_ (Y4 .bool) (tq (b := Z9c N (El0 N N) l f) (by rw [ql0]; rfl))⟩
end Z0r
namespace Z6l
def sG := sgV [.val ty0, .val ty0] [(i64, .dp)]
def eS (N : Nat) : List EnTryz := []
def an_ : Nat -> Option (List Nat)
 | 0 => some [0, 1, 5]
 | _ => none
def lP (p : List Dir) := lpE (eS N) N an_ p Tryz.f146 (endK Tb sG Tryz.f146 [] (un1 i64))
def El0 (k_ : Nat) (a2 : I0) (b2 : I0) (i : Int) : Option (Int) :=
 lP N [.r, .l, .r, .b] [] k_ (cr ty0 a2 :: (cr ty0 b2 :: (un 3 (cr i64 i :: (un 40 [])))))
theorem ql0 (N : Nat) : ∀ k_, El0 N k_ = Z4x N k_ := qL (Z6p N)
def eE : EnTryz := ⟨146, sG, [.v ty0, .v ty0], _, Z6l N, pk1 i64, enK Tryz.func146,
 fun a b => eo (eS N) Tryz.func146 N an_ (Y4 i64) (tq (b := Z0d3 N (El0 N N) a b) (by rw [ql0]; rfl))⟩
end Z6l
namespace Z1c
def sG := sgV [.val ty4, .val ty4] [(i64, .dp)]
def eS : List EnTryz := [Z6l.eE N]
def eE : EnTryz := ⟨91, sG, [.v ty4, .v ty4], _, Z1c N, pk1 i64, enK Tryz.func91,
 fun a b => eo (eS N) Tryz.func91 N an0 (Y4 i64)⟩
end Z1c
namespace Z1
def sG := sgV [.val ty5] [(.bool, .dp)]
def eS : List EnTryz := [Z0r.eE N, Z1c.eE N, Z0f.eE N]
def an_ : Nat -> Option (List Nat)
 | 0 => some [1, 3]
 | _ => none
def lP (p : List Dir) := lpE (eS N) N an_ p Tryz.f35 (endK Tb sG Tryz.f35 [] (un1 .bool))
def El0 (k_ : Nat) (d2 : R0) (d3 : A0) (i : Int) : Option (Bool) :=
 lP N [.r, .l, .r, .b] [] k_ (un 1 (.con (.box ⟨39, false, []⟩) [lf ty3 d2 .ro, lf ty6 d3 .ro] :: (un 1 (cr i64 i :: (un 44 [])))))
theorem ql0 (N : Nat) : ∀ k_, El0 N k_ = Z2a N k_ := qL (Z4c N)
def eE : EnTryz := ⟨35, sG, [.v ty5], _, Z1 N, pk1 .bool, enK Tryz.func35,
 fun d => eo (eS N) Tryz.func35 N an_ (Y4 .bool) (tq (b := Z7m N (El0 N N) d) (by rw [ql0]; rfl))⟩
end Z1
namespace Z6n
def sG := sgV [.val ty5, .val ty4] [(i64, .dp)]
def eS : List EnTryz := [Z1c.eE N]
def an_ : Nat -> Option (List Nat)
 | 0 => some [2, 3, 5]
 | _ => none
def lP (p : List Dir) := lpE (eS N) N an_ p Tryz.f234 (endK Tb sG Tryz.f234 [] (un1 i64))
def El0 (k_ : Nat) (d2 : R0) (d3 : A0) (f2 : Int) (f3 : I0) (i : Int) : Option (Int) :=
 lP N [.r, .l, .r, .b] [] k_ (un 2 (.con (.box ⟨39, false, []⟩) [lf ty3 d2 .ro, lf ty6 d3 .ro] :: (.con (.box ⟨110, false, []⟩) [lf i64 f2 .ro, lf ty0 f3 .ro] :: (un 1 (cr i64 i :: (un 16 []))))))
theorem ql0 (N : Nat) : ∀ k_, El0 N k_ = Z61 N k_ := qL (Z8x N)
def eE : EnTryz := ⟨234, sG, [.v ty5, .v ty4], _, Z6n N, pk1 i64, enK Tryz.func234,
 fun d f => eo (eS N) Tryz.func234 N an_ (Y4 i64) (tq (b := Z0bo N (El0 N N) d f) (by rw [ql0]; rfl))⟩
end Z6n
namespace Z3n
def sG := sgV [.val ty5, .val ty4] [(.bool, .dp)]
def eS : List EnTryz := [Z1.eE N, Z6n.eE N]
def eE : EnTryz := ⟨209, sG, [.v ty5, .v ty4], _, Z3n N, pk1 .bool, enK Tryz.func209,
 fun d f => eo (eS N) Tryz.func209 N an0 (Y4 .bool)⟩
end Z3n
namespace Z3q
def sG := sgV [.val ty5, .val ty4] [(ty5, .sh), (.bool, .dp)]
def eS : List EnTryz := [Z1c.eE N, Z7l.eE N, Z1.eE N, Z0r.eE N, Z3n.eE N]
def an_ : Nat -> Option (List Nat)
 | 0 => some [3, 4, 6, 7]
 | _ => none
def lP (p : List Dir) := lpE (eS N) N an_ p Tryz.f171 (endK Tb sG Tryz.f171 [] (un2 ty5 .bool))
def El0 (k_ : Nat) (f2 : Int) (f3 : I0) (t4 : R0) (a : A0) (x : R0) (x2 : A0) (k : Int) : Option (D0 × Bool) :=
 lP N [.r, .r, .r, .r, .l, .b] [] k_ (un 3 (.con (.box ⟨110, false, []⟩) [lf i64 f2 .ro, lf ty0 f3 .ro] :: (.con (.box ⟨39, false, []⟩) [lf ty3 t4 .dp, lf ty6 a .dp] :: (un 1 (.con (.box ⟨39, false, []⟩) [lf ty3 x .dp, lf ty6 x2 .dp] :: (cr i64 k :: (un 65 [])))))))
theorem ql0 (N : Nat) : ∀ k_, El0 N k_ = Z5f N k_ := qL (Z8k N)
def eE : EnTryz := ⟨171, sG, [.v ty5, .v ty4], _, Z3q N, pk2 ty5 .bool, enK Tryz.func171,
 fun d f => eo (eS N) Tryz.func171 N an_ (Yh ty5 .bool) (tq (b := Z9u N (El0 N N) d f) (by rw [ql0]; rfl))⟩
end Z3q
namespace Z8h
def bX : BoxSig := ⟨0, 177, [.fx, .ro, .ro]⟩
def sG : Sig := ⟨[.ptr ty2], [(ty5, .sh)], false, false, some bX, none, none⟩
def eS : List EnTryz := [Z57.eE N, Z3q.eE N, Z7k.eE N, Z0n.eE N, Z0.eE N]
def an_ : Nat -> Option (List Nat)
 | 0 => some [0, 2, 3, 4, 5]
 | _ => none
def lP (p : List Dir) := lpE (eS N) N an_ p Tryz.f126 (endB Tb sG bX Tryz.f126 ty2 (un2 ty2 ty5))
def El1 (k_ : Nat) (c5 : I0) (c6 : Int) (c7 : Int) (a : R0) (c : A0) (d3 : R0) (d4 : A0) (d : Int) (n2 : Int) : Option ((List Int × Int × Int) × List (ByteArray × Int × Int) × List (Int × List Int)) :=
 lP N [.r, .r, .r, .l, .r, .b] [] k_ (.con (.box ⟨177, true, [true, false, false]⟩) [lf ty1 c5 .ro, lf i64 c6 .ro, lf i64 c7 .ro] :: (un 1 (.con (.box ⟨39, false, []⟩) [lf ty3 a .dp, lf ty6 c .dp] :: (.con (.box ⟨39, false, []⟩) [lf ty3 d3 .dp, lf ty6 d4 .sh] :: (cr i64 d :: (cr i64 n2 :: (un 24 [])))))))
def El0 (k_ : Nat) (c2 : I0) (c3 : Int) (c4 : Int) (t2 : R0) (a : A0) (d : R0) (d2 : A0) (c : Int) (n : Int) : Option ((List Int × Int × Int) × List (ByteArray × Int × Int) × List (Int × List Int)) :=
 lP N [.r, .r, .r, .l, .r, .b] [] k_ (.con (.box ⟨177, true, [true, false, false]⟩) [lf ty1 c2 .ro, lf i64 c3 .ro, lf i64 c4 .ro] :: (un 1 (.con (.box ⟨39, false, []⟩) [lf ty3 t2 .dp, lf ty6 a .dp] :: (.con (.box ⟨39, false, []⟩) [lf ty3 d .dp, lf ty6 d2 .dp] :: (cr i64 c :: (cr i64 n :: (un 24 [])))))))
theorem ql1 (N : Nat) : ∀ k_, El1 N k_ = Z82 N k_ := qL (Z0az N)
theorem ql0 (N : Nat) : ∀ k_, El0 N k_ = Z0ak N k_
 | 0 => by kernel_rfl
 | k_ + 1 => (show El0 N (k_ + 1) = Z0b0 N (El1 N k_) (El0 N k_) from by kernel_rfl).trans (by simp only [ql1, ql0 N k_]; rfl)
theorem vV (c : List Int × Int × Int) :
  evB (eS N) N an_ sG bX Tryz.f126 [.ptr ty2 c] (un2 ty2 ty5) = Z0du N (El0 N N) c := by kernel_rfl
def eE : EnTryz := ⟨126, sG, [.p ty2], _, Z8h N, pk2 ty2 ty5, enK Tryz.func126,
 fun c => Yq tab_ok (es := eS N) (by kernel_rfl) mixed Tryz.func126 (by kernel_rfl) rfl rfl (fun _ => ⟨_, _, rfl⟩) (Yh ty2 ty5) ((vV N c).trans (by rw [ql0]; rfl))⟩
end Z8h
namespace Z26
def bX : BoxSig := ⟨0, 177, [.fx, .ro, .ro]⟩
def sG : Sig := ⟨[.ptr ty2, .val i64], [(.bool, .dp)], false, false, some bX, none, none⟩
def eS : List EnTryz := [Z0.eE N]
theorem vV (c : List Int × Int × Int) (n : Int) :
  evB (eS N) N an0 sG bX Tryz.f132 [.ptr ty2 c, .val i64 n] (un2 ty2 .bool) = Z26 N c n := by kernel_rfl
def eE : EnTryz := ⟨132, sG, [.p ty2, .v i64], _, Z26 N, pk2 ty2 .bool, enK Tryz.func132,
 fun c n => Yq tab_ok (es := eS N) (by kernel_rfl) mixed Tryz.func132 (by kernel_rfl) rfl rfl (fun _ => ⟨_, _, rfl⟩) (Yh ty2 .bool) (vV N c n)⟩
end Z26
namespace Z6q
def sG := sgV [.val ty8] [(ty8, .dp)]
def eS (N : Nat) : List EnTryz := []
def an_ : Nat -> Option (List Nat)
 | 0 => some [1, 2, 3, 4]
 | _ => none
def lP (p : List Dir) := lpE (eS N) N an_ p Tryz.f235 (endK Tb sG Tryz.f235 [] (un1 ty8))
def El0 (k_ : Nat) (q2 : Int) (q3 : A0) (q4 : I0) (t2 : Int) (a : A0) (c : I0) (x : Int) (x2 : A0) (x3 : I0) (i : Int) : Option Q0 :=
 lP N [.r, .r, .l, .r, .b] [] k_ (un 1 (.con (.box ⟨44, false, []⟩) [lf i64 q2 .ro, lf ty9 q3 .ro, lf ty0 q4 .ro] :: (.con (.box ⟨44, false, []⟩) [lf i64 t2 .ro, lf ty9 a .dp, lf ty0 c .dp] :: (.con (.box ⟨44, false, []⟩) [lf i64 x .ro, lf ty9 x2 .dp, lf ty0 x3 .dp] :: (cr i64 i :: (un 35 []))))))
theorem ql0 (N : Nat) : ∀ k_, El0 N k_ = Z7b N k_ := qL (Z9v N)
def eE : EnTryz := ⟨235, sG, [.v ty8], _, Z6q N, pk1 ty8, enK Tryz.func235,
 fun q => eo (eS N) Tryz.func235 N an_ (Y4 ty8) (tq (b := Z0b1 N (El0 N N) q) (by rw [ql0]; rfl))⟩
end Z6q
namespace Z5w
def sG := sgV [.val ty8] [(ty8, .dp)]
def eS : List EnTryz := [Z6q.eE N]
def an_ : Nat -> Option (List Nat)
 | 0 => some [2, 3, 4, 5]
 | 2 => some [2, 3, 4, 5, 6]
 | 4 => some [2, 3, 4, 5, 6, 7, 8, 9]
 | _ => none
def lP (p : List Dir) := lpE (eS N) N an_ p Tryz.f210 (endK Tb sG Tryz.f210 [] (un1 ty8))
def El2 (a : Nat) (c : Nat) (k_ : Nat) (d : Int) (e : A0) (f : I0) (x7 : Int) (x8 : A0) (x9 : I0) (g : I0) (i3 : Int) (k2 : Int) (t : Int) (h : Int) (j : Int) : Option Q0 :=
 lP N [.r, .r, .r, .l, .r, .b, .b, .r, .l, .b, .r, .b, .b, .r, .l, .b, .r, .r, .r, .l, .r, .b] [lP N [.r, .r, .r, .l, .r, .b] [] a, lP N [.r, .r, .r, .l, .r, .b, .b, .r, .l, .b, .r, .b] [lP N [.r, .r, .r, .l, .r, .b] [] a] c] k_ (un 2 (.con (.box ⟨44, false, []⟩) [lf i64 d .ro, lf ty9 e .dp, lf ty0 f .dp] :: (.con (.box ⟨44, false, []⟩) [lf i64 x7 .ro, lf ty9 x8 .dp, lf ty0 x9 .dp] :: (cd ty0 g :: (cr i64 i3 :: (cr i64 k2 :: (cr i64 t :: (cr i64 h :: (cr i64 j :: (un 66 []))))))))))
def El1 (a : Nat) (k_ : Nat) (c : Int) (d : A0) (e : I0) (x4 : Int) (x5 : A0) (x6 : I0) (f : I0) (i2 : Int) (k : Int) : Option Q0 :=
 lP N [.r, .r, .r, .l, .r, .b, .b, .r, .l, .b, .r, .b] [lP N [.r, .r, .r, .l, .r, .b] [] a] k_ (un 2 (.con (.box ⟨44, false, []⟩) [lf i64 c .ro, lf ty9 d .dp, lf ty0 e .dp] :: (.con (.box ⟨44, false, []⟩) [lf i64 x4 .ro, lf ty9 x5 .dp, lf ty0 x6 .dp] :: (cd ty0 f :: (cr i64 i2 :: (cr i64 k :: (un 69 [])))))))
def El0 (k_ : Nat) (t2 : Int) (a : A0) (c : I0) (x : Int) (x2 : A0) (x3 : I0) (d : I0) (i : Int) : Option Q0 :=
 lP N [.r, .r, .r, .l, .r, .b] [] k_ (un 2 (.con (.box ⟨44, false, []⟩) [lf i64 t2 .ro, lf ty9 a .dp, lf ty0 c .dp] :: (.con (.box ⟨44, false, []⟩) [lf i64 x .ro, lf ty9 x2 .dp, lf ty0 x3 .dp] :: (cd ty0 d :: (cr i64 i :: (un 70 []))))))
theorem ql2 (N : Nat) (k0_ : Nat) (k1_ : Nat) : ∀ k_, El2 N k0_ k1_ k_ = Z4y (El1 N k0_ k1_) N k_ := qL (Z9d N (El1 N k0_ k1_))
theorem ql1 (N : Nat) (k0_ : Nat) : ∀ k_, El1 N k0_ k_ = Z3z (El0 N k0_) N k_
 | 0 => by kernel_rfl
 | k_ + 1 => (show El1 N k0_ (k_ + 1) = Z9e N (El0 N k0_) (El2 N k0_ k_ N) (El1 N k0_ k_) from by kernel_rfl).trans (by simp only [ql2, ql1 N k0_ k_]; rfl)
theorem ql0 (N : Nat) : ∀ k_, El0 N k_ = Z4z N k_
 | 0 => by kernel_rfl
 | k_ + 1 => (show El0 N (k_ + 1) = Z9f N (El1 N k_ N) (El0 N k_) from by kernel_rfl).trans (by simp only [ql1, ql0 N k_]; rfl)
def eE : EnTryz := ⟨210, sG, [.v ty8], _, Z5w N, pk1 ty8, enK Tryz.func210,
 fun q => eo (eS N) Tryz.func210 N an_ (Y4 ty8) (tq (b := Z0al N (El0 N N) q) (by rw [ql0]; rfl))⟩
end Z5w
namespace Z78
def bX : BoxSig := ⟨0, 177, [.fx, .ro, .ro]⟩
def sG : Sig := ⟨[.ptr ty2], [(ty8, .dp)], false, false, some bX, none, none⟩
def eS : List EnTryz := [Z26.eE N, Z0.eE N, Z5w.eE N]
def an_ : Nat -> Option (List Nat)
 | 0 => some [0, 2, 3, 4, 5, 6, 7]
 | 2 => some [0, 2, 3, 4, 5, 6, 7, 9, 10]
 | _ => none
def lP (p : List Dir) := lpE (eS N) N an_ p Tryz.f173 (endB Tb sG bX Tryz.f173 ty2 (un2 ty2 ty8))
def El1 (c : Nat) (k_ : Nat) (c5 : I0) (c6 : Int) (c7 : Int) (d : Int) (e : A0) (f : I0) (q4 : Int) (q5 : A0) (q6 : I0) (n2 : Int) (g : Int) (h : Int) (i2 : Int) (a : Int) (a2 : I0) (m4 : Int) : Option ((List Int × Int × Int) × Int × List (Int × List Int) × List Int) :=
 lP N [.r, .r, .r, .r, .r, .l, .r, .b, .b, .r, .l, .b, .r, .r, .l, .r, .b] [lP N [.r, .r, .r, .r, .r, .l, .r, .b] [] c] k_ (.con (.box ⟨177, true, [true, false, false]⟩) [lf ty1 c5 .ro, lf i64 c6 .ro, lf i64 c7 .ro] :: (un 1 (.con (.box ⟨44, false, []⟩) [lf i64 d .ro, lf ty9 e .dp, lf ty0 f .dp] :: (.con (.box ⟨44, false, []⟩) [lf i64 q4 .ro, lf ty9 q5 .dp, lf ty0 q6 .dp] :: (cr i64 n2 :: (cr i64 g :: (cr i64 h :: (cr i64 i2 :: (un 1 (.con (.box ⟨145, false, []⟩) [lf i64 a .ro, lf ty0 a2 .dp] :: (cr i64 m4 :: (un 53 []))))))))))))
def El0 (k_ : Nat) (c2 : I0) (c3 : Int) (c4 : Int) (t2 : Int) (a : A0) (c : I0) (q : Int) (q2 : A0) (q3 : I0) (n : Int) (d : Int) (e : Int) (i : Int) : Option ((List Int × Int × Int) × Int × List (Int × List Int) × List Int) :=
 lP N [.r, .r, .r, .r, .r, .l, .r, .b] [] k_ (.con (.box ⟨177, true, [true, false, false]⟩) [lf ty1 c2 .ro, lf i64 c3 .ro, lf i64 c4 .ro] :: (un 1 (.con (.box ⟨44, false, []⟩) [lf i64 t2 .ro, lf ty9 a .dp, lf ty0 c .dp] :: (.con (.box ⟨44, false, []⟩) [lf i64 q .ro, lf ty9 q2 .dp, lf ty0 q3 .dp] :: (cr i64 n :: (cr i64 d :: (cr i64 e :: (cr i64 i :: (un 56 [])))))))))
theorem ql1 (N : Nat) (k0_ : Nat) : ∀ k_, El1 N k0_ k_ = Z50 (El0 N k0_) N k_ := qL (Z9g N (El0 N k0_))
theorem ql0 (N : Nat) : ∀ k_, El0 N k_ = Z51 N k_
 | 0 => by kernel_rfl
 | k_ + 1 => (show El0 N (k_ + 1) = Z9h N (El1 N k_ N) (El0 N k_) from by kernel_rfl).trans (by simp only [ql1, ql0 N k_]; rfl)
theorem vV (c : List Int × Int × Int) :
  evB (eS N) N an_ sG bX Tryz.f173 [.ptr ty2 c] (un2 ty2 ty8) = Z0c9 N (El0 N N) c := by kernel_rfl
def eE : EnTryz := ⟨173, sG, [.p ty2], _, Z78 N, pk2 ty2 ty8, enK Tryz.func173,
 fun c => Yq tab_ok (es := eS N) (by kernel_rfl) mixed Tryz.func173 (by kernel_rfl) rfl rfl (fun _ => ⟨_, _, rfl⟩) (Yh ty2 ty8) ((vV N c).trans (by rw [ql0]; rfl))⟩
end Z78
namespace Z58
def bX : BoxSig := ⟨0, 177, [.fx, .ro, .ro]⟩
def sG : Sig := ⟨[.ptr ty2, .val ty10], [(.str, .dp)], false, false, some bX, none, none⟩
def eS : List EnTryz := [Z0.eE N]
theorem vV (c : List Int × Int × Int) (list : List ByteArray) :
  evB (eS N) N an0 sG bX Tryz.f212 [.ptr ty2 c, .val ty10 list] (un2 ty2 .str) = Z58 N c list := by kernel_rfl
def eE : EnTryz := ⟨212, sG, [.p ty2, .v ty10], _, Z58 N, pk2 ty2 .str, enK Tryz.func212,
 fun c a => Yq tab_ok (es := eS N) (by kernel_rfl) mixed Tryz.func212 (by kernel_rfl) rfl rfl (fun _ => ⟨_, _, rfl⟩) (Yh ty2 .str) (vV N c a)⟩
end Z58
namespace Z9q
def sG := sgV [.val .str, .val (.int .u8)] [(ty10, .dp)]
def eS (N : Nat) : List EnTryz := []
def an_ : Nat -> Option (List Nat)
 | 0 => some [0, 1, 5, 6, 7]
 | _ => none
def lP (p : List Dir) := lpE (eS N) N an_ p Tryz.f236 (endK Tb sG Tryz.f236 [] (un1 ty10))
def El0 (k_ : Nat) (s2 : ByteArray) (a : Int) (c : List ByteArray) (d : Int) (i : Int) : Option (List ByteArray) :=
 lP N [.r, .r, .r, .l, .r, .b] [] k_ (cr .str s2 :: (cr (.int .u8) a :: (un 3 (cd ty10 c :: (cr i64 d :: (cr i64 i :: (un 27 [])))))))
theorem ql0 (N : Nat) : ∀ k_, El0 N k_ = Z0b8 N k_ := qL (Z0ca N)
def eE : EnTryz := ⟨236, sG, [.v .str, .v (.int .u8)], _, Z9q N, pk1 ty10, enK Tryz.func236,
 fun s a => eo (eS N) Tryz.func236 N an_ (Y4 ty10) (tq (b := Z0dd N (El0 N N) s a) (by rw [ql0]; rfl))⟩
end Z9q
namespace Z83
def sG := sgV [.val i64] [(i64, .dp), (.bool, .dp)]
def eS : List EnTryz := [Z0j.eE N]
def eE : EnTryz := ⟨253, sG, [.v i64], _, Z83 N, pk2 i64 .bool, enK Tryz.func253,
 fun t => eo (eS N) Tryz.func253 N an0 (Yh i64 .bool)⟩
end Z83
namespace Z84
def sG := sgV [.val i64] [(.str, .dp)]
def eS (N : Nat) : List EnTryz := []
def an_ : Nat -> Option (List Nat)
 | 0 => some [0, 3, 4]
 | _ => none
def lP (p : List Dir) := lpE (eS N) N an_ p Tryz.f254 (endK Tb sG Tryz.f254 [] (un1 .str))
def El0 (k_ : Nat) (n2 : Int) (a : ByteArray) (c : Bool) : Option (ByteArray) :=
 lP N [.r, .r, .r, .r, .l, .b] [] k_ (cr i64 n2 :: (un 2 (cr .str a :: (cr .bool c :: (un 26 [])))))
theorem ql0 (N : Nat) : ∀ k_, El0 N k_ = Z9w N k_ := qL (Z0av N)
def eE : EnTryz := ⟨254, sG, [.v i64], _, Z84 N, pk1 .str, enK Tryz.func254,
 fun n => eo (eS N) Tryz.func254 N an_ (Y4 .str) (tq (b := Z0bp N (El0 N N) n) (by rw [ql0]; rfl))⟩
end Z84
namespace Z27
def sG := sgV [.val i64] [(.str, .dp)]
def eS : List EnTryz := [Z83.eE N, Z84.eE N, Z0j.eE N]
def eE : EnTryz := ⟨248, sG, [.v i64], _, Z27 N, pk1 .str, enK Tryz.func248,
 fun t => eo (eS N) Tryz.func248 N an0 (Y4 .str)⟩
end Z27
namespace Z6o
def sG := sgV [.val .str] [(i64, .dp), (.bool, .dp)]
def eS : List EnTryz := [Z27.eE N]
def an_ : Nat -> Option (List Nat)
 | 0 => some [0, 4]
 | _ => none
def lP (p : List Dir) := lpE (eS N) N an_ p Tryz.f237 (endK Tb sG Tryz.f237 [] (un2 i64 .bool))
def El0 (k_ : Nat) (s2 : ByteArray) (t : Int) : Option (Int × Bool) :=
 lP N [.r, .l, .r, .b] [] k_ (cr .str s2 :: (un 3 (cr i64 t :: (un 9 []))))
theorem ql0 (N : Nat) : ∀ k_, El0 N k_ = Z9x N k_ := qL (Z0aw N)
def eE : EnTryz := ⟨237, sG, [.v .str], _, Z6o N, pk2 i64 .bool, enK Tryz.func237,
 fun s => eo (eS N) Tryz.func237 N an_ (Yh i64 .bool) (tq (b := Z0bq N (El0 N N) s) (by rw [ql0]; rfl))⟩
end Z6o
namespace Z5g
def sG := sgV [.val ty3, .val .str] [(i64, .dp)]
def eS (N : Nat) : List EnTryz := []
def an_ : Nat -> Option (List Nat)
 | 0 => some [0, 1, 5]
 | _ => none
def lP (p : List Dir) := lpE (eS N) N an_ p Tryz.f238 (endK Tb sG Tryz.f238 [] (un1 i64))
def El0 (k_ : Nat) (l2 : R0) (a : ByteArray) (i : Int) : Option (Int) :=
 lP N [.r, .l, .r, .b] [] k_ (cr ty3 l2 :: (cr .str a :: (un 3 (cr i64 i :: (un 14 [])))))
theorem ql0 (N : Nat) : ∀ k_, El0 N k_ = Z85 N k_ := qL (Z9s N)
def eE : EnTryz := ⟨238, sG, [.v ty3, .v .str], _, Z5g N, pk1 i64, enK Tryz.func238,
 fun l a => eo (eS N) Tryz.func238 N an_ (Y4 i64) (tq (b := Z0am N (El0 N N) l a) (by rw [ql0]; rfl))⟩
end Z5g
namespace Z1y
def sG := sgV [.val ty3, .val ty8] [(.bool, .dp)]
def eS : List EnTryz := [Z0j.eE N, Z0f.eE N]
def an_ : Nat -> Option (List Nat)
 | 0 => some [0, 3, 5, 6]
 | 2 => some [0, 3, 5, 6, 7, 8]
 | 4 => some [0, 3, 5, 6, 7, 9]
 | 6 => some [3, 5, 10]
 | 8 => some [3, 11]
 | _ => none
def lP (p : List Dir) := lpE (eS N) N an_ p Tryz.f105 (endK Tb sG Tryz.f105 [] (un1 .bool))
def El2 (a : Nat) (k_ : Nat) (l4 : R0) (q8 : Int) (q9 : A0) (c : I0) (d : List Bool) (i3 : Int) (a3 : Int) (a4 : I0) (k2 : Int) : Option (Bool) :=
 lP N [.r, .r, .r, .l, .r, .b, .b, .r, .l, .b, .r, .r, .r, .r, .b] [lP N [.r, .r, .r, .l, .r, .b] [] a] k_ (cr ty3 l4 :: (un 2 (.con (.box ⟨44, false, []⟩) [lf i64 q8 .ro, lf ty9 q9 .ro, lf ty0 c .ro] :: (un 1 (cd ty11 d :: (cr i64 i3 :: (.con (.box ⟨145, false, []⟩) [lf i64 a3 .ro, lf ty0 a4 .ro] :: (un 1 (cr i64 k2 :: (un 140 []))))))))))
def El1 (c : Nat) (k_ : Nat) (l3 : R0) (q5 : Int) (q6 : A0) (q7 : I0) (d : List Bool) (i2 : Int) (a : Int) (a2 : I0) (k : Int) : Option (Bool) :=
 lP N [.r, .r, .r, .l, .r, .b, .b, .r, .l, .b, .r, .r, .l, .r, .b] [lP N [.r, .r, .r, .l, .r, .b] [] c] k_ (cr ty3 l3 :: (un 2 (.con (.box ⟨44, false, []⟩) [lf i64 q5 .ro, lf ty9 q6 .ro, lf ty0 q7 .ro] :: (un 1 (cd ty11 d :: (cr i64 i2 :: (.con (.box ⟨145, false, []⟩) [lf i64 a .ro, lf ty0 a2 .ro] :: (cr i64 k :: (un 141 [])))))))))
def El4 (k_ : Nat) (a : Int) (c : A0) (d : I0) (i4 : Int) : Option (Bool) :=
 lP N [.r, .r, .r, .r, .r, .l, .r, .b] [] k_ (un 3 (.con (.box ⟨44, false, []⟩) [lf i64 a .ro, lf ty9 c .ro, lf ty0 d .ro] :: (un 7 (cr i64 i4 :: (un 138 [])))))
def El3 (k_ : Nat) (a : Int) (c : A0) (d : I0) (e : List Bool) (v : Int) : Option (Bool) :=
 lP N [.r, .r, .r, .r, .l, .r, .b] [] k_ (un 3 (.con (.box ⟨44, false, []⟩) [lf i64 a .ro, lf ty9 c .ro, lf ty0 d .ro] :: (un 1 (cd ty11 e :: (un 4 (cr i64 v :: (un 139 [])))))))
def El0 (k_ : Nat) (l2 : R0) (q2 : Int) (q3 : A0) (q4 : I0) (a : List Bool) (i : Int) : Option (Bool) :=
 lP N [.r, .r, .r, .l, .r, .b] [] k_ (cr ty3 l2 :: (un 2 (.con (.box ⟨44, false, []⟩) [lf i64 q2 .ro, lf ty9 q3 .ro, lf ty0 q4 .ro] :: (un 1 (cd ty11 a :: (cr i64 i :: (un 143 [])))))))
theorem ql2 (N : Nat) (k0_ : Nat) : ∀ k_, El2 N k0_ k_ = Z1q (El0 N k0_) N k_ := qL (Z7n N (El0 N k0_))
theorem ql1 (N : Nat) (k0_ : Nat) : ∀ k_, El1 N k0_ k_ = Z2j (El0 N k0_) N k_
 | 0 => by kernel_rfl
 | k_ + 1 => (show El1 N k0_ (k_ + 1) = Z59 N (El0 N k0_) (El2 N k0_ N) (El1 N k0_ k_) from by kernel_rfl).trans (by simp only [ql2, ql1 N k0_ k_]; rfl)
theorem ql4 (N : Nat) : ∀ k_, El4 N k_ = Z2k N k_ := qL (Z5a N)
theorem ql3 (N : Nat) : ∀ k_, El3 N k_ = Z2l N k_
 | 0 => by kernel_rfl
 | k_ + 1 => (show El3 N (k_ + 1) = Z5b N (El4 N N) (El3 N k_) from by kernel_rfl).trans (by simp only [ql4, ql3 N k_]; rfl)
theorem ql0 (N : Nat) : ∀ k_, El0 N k_ = Z3f N k_
 | 0 => by kernel_rfl
 | k_ + 1 => (show El0 N (k_ + 1) = Z7o N (El1 N k_ N) (El3 N N) (El0 N k_) from by kernel_rfl).trans (by simp only [ql1, ql3, ql0 N k_]; rfl)
def eE : EnTryz := ⟨105, sG, [.v ty3, .v ty8], _, Z1y N, pk1 .bool, enK Tryz.func105,
 fun l q => eo (eS N) Tryz.func105 N an_ (Y4 .bool) (tq (b := Z8y N (El0 N N) l q) (by rw [ql0]; rfl))⟩
end Z1y
namespace Z86
def sG := sgV [.val ty3, .val ty4] [(.str, .dp)]
def eS : List EnTryz := [Z27.eE N]
def an_ : Nat -> Option (List Nat)
 | 0 => some [0, 3, 5, 6]
 | _ => none
def lP (p : List Dir) := lpE (eS N) N an_ p Tryz.f249 (endK Tb sG Tryz.f249 [] (un1 .str))
def El0 (k_ : Nat) (l2 : R0) (a2 : Int) (a3 : I0) (s : ByteArray) (i : Int) : Option (ByteArray) :=
 lP N [.r, .r, .l, .r, .b] [] k_ (cr ty3 l2 :: (un 2 (.con (.box ⟨145, false, []⟩) [lf i64 a2 .ro, lf ty0 a3 .ro] :: (un 1 (cr .str s :: (cr i64 i :: (un 32 [])))))))
theorem ql0 (N : Nat) : ∀ k_, El0 N k_ = Z0an N k_ := qL (Z0bg N)
def eE : EnTryz := ⟨249, sG, [.v ty3, .v ty4], _, Z86 N, pk1 .str, enK Tryz.func249,
 fun l a => eo (eS N) Tryz.func249 N an_ (Y4 .str) (tq (b := Z0cj N (El0 N N) l a) (by rw [ql0]; rfl))⟩
end Z86
namespace Z6r
def sG := sgV [.val ty3, .val ty8] [(.str, .dp)]
def eS : List EnTryz := [Z86.eE N, Z27.eE N, Z1y.eE N]
def an_ : Nat -> Option (List Nat)
 | 0 => some [0, 3, 5, 6]
 | 2 => some [0, 3, 5, 7]
 | _ => none
def lP (p : List Dir) := lpE (eS N) N an_ p Tryz.f239 (endK Tb sG Tryz.f239 [] (un1 .str))
def El1 (k_ : Nat) (l3 : R0) (q5 : Int) (q6 : A0) (q7 : I0) (s2 : ByteArray) (i2 : Int) : Option (ByteArray) :=
 lP N [.r, .r, .r, .r, .r, .l, .r, .b] [] k_ (cr ty3 l3 :: (un 2 (.con (.box ⟨44, false, []⟩) [lf i64 q5 .ro, lf ty9 q6 .ro, lf ty0 q7 .ro] :: (un 1 (cr .str s2 :: (un 1 (cr i64 i2 :: (un 42 []))))))))
def El0 (k_ : Nat) (l2 : R0) (q2 : Int) (q3 : A0) (q4 : I0) (s : ByteArray) (i : Int) : Option (ByteArray) :=
 lP N [.r, .r, .r, .l, .r, .b] [] k_ (cr ty3 l2 :: (un 2 (.con (.box ⟨44, false, []⟩) [lf i64 q2 .ro, lf ty9 q3 .ro, lf ty0 q4 .ro] :: (un 1 (cr .str s :: (cr i64 i :: (un 43 [])))))))
theorem ql1 (N : Nat) : ∀ k_, El1 N k_ = Z8z N k_ := qL (Z0ag N)
theorem ql0 (N : Nat) : ∀ k_, El0 N k_ = Z90 N k_
 | 0 => by kernel_rfl
 | k_ + 1 => (show El0 N (k_ + 1) = Z0ah N (El1 N N) (El0 N k_) from by kernel_rfl).trans (by simp only [ql1, ql0 N k_]; rfl)
def eE : EnTryz := ⟨239, sG, [.v ty3, .v ty8], _, Z6r N, pk1 .str, enK Tryz.func239,
 fun l q => eo (eS N) Tryz.func239 N an_ (Y4 .str) (tq (b := Z0b4 N (El0 N N) l q) (by rw [ql0]; rfl))⟩
end Z6r
namespace Z28
def sG := sgV [.val ty3, .val .str] [(ty8, .dp), (.bool, .dp)]
def eS : List EnTryz := [Z5g.eE N, Z6o.eE N, Z6r.eE N, Z9q.eE N]
def an_ : Nat -> Option (List Nat)
 | 0 => some [0, 1, 4, 6, 7, 8]
 | 2 => some [0, 1, 4, 7, 11, 12]
 | 4 => some [0, 1, 4, 7, 11, 12, 13, 14]
 | _ => none
def lP (p : List Dir) := lpE (eS N) N an_ p Tryz.f211 (endK Tb sG Tryz.f211 [] (un2 ty8 .bool))
def El2 (c : Nat) (k_ : Nat) (l4 : R0) (s4 : ByteArray) (d : Int) (e : A0) (f : I0) (q7 : Int) (q8 : A0) (q9 : I0) (p2 : List ByteArray) (i3 : Int) (a : Int) (a2 : I0) (k : Int) : Option (Q0 × Bool) :=
 lP N [.r, .r, .r, .r, .r, .r, .l, .r, .b, .b, .r, .l, .b, .r, .l, .r, .b] [lP N [.r, .r, .r, .r, .r, .r, .l, .r, .b] [] c] k_ (cr ty3 l4 :: (cr .str s4 :: (un 2 (.con (.box ⟨44, false, []⟩) [lf i64 d .ro, lf ty9 e .dp, lf ty0 f .dp] :: (un 2 (.con (.box ⟨44, false, []⟩) [lf i64 q7 .ro, lf ty9 q8 .dp, lf ty0 q9 .dp] :: (un 3 (cd ty10 p2 :: (cr i64 i3 :: (.con (.box ⟨145, false, []⟩) [lf i64 a .ro, lf ty0 a2 .dp] :: (cr i64 k :: (un 108 []))))))))))))
def El1 (k_ : Nat) (l3 : R0) (s3 : ByteArray) (a : Int) (c : A0) (d : I0) (q4 : Int) (q5 : A0) (q6 : I0) (p : List ByteArray) (i2 : Int) : Option (Q0 × Bool) :=
 lP N [.r, .r, .r, .r, .r, .r, .l, .r, .b] [] k_ (cr ty3 l3 :: (cr .str s3 :: (un 2 (.con (.box ⟨44, false, []⟩) [lf i64 a .ro, lf ty9 c .dp, lf ty0 d .dp] :: (un 2 (.con (.box ⟨44, false, []⟩) [lf i64 q4 .ro, lf ty9 q5 .dp, lf ty0 q6 .dp] :: (un 3 (cd ty10 p :: (cr i64 i2 :: (un 110 []))))))))))
def El0 (k_ : Nat) (l2 : R0) (s2 : ByteArray) (t4 : Int) (a : A0) (c : I0) (w : List ByteArray) (q : Int) (q2 : A0) (q3 : I0) (i : Int) : Option (Q0 × Bool) :=
 lP N [.r, .r, .r, .r, .l, .r, .b] [] k_ (cr ty3 l2 :: (cr .str s2 :: (un 2 (.con (.box ⟨44, false, []⟩) [lf i64 t4 .ro, lf ty9 a .dp, lf ty0 c .dp] :: (un 1 (cd ty10 w :: (.con (.box ⟨44, false, []⟩) [lf i64 q .ro, lf ty9 q2 .dp, lf ty0 q3 .dp] :: (cr i64 i :: (un 114 [])))))))))
theorem ql2 (N : Nat) (k0_ : Nat) : ∀ k_, El2 N k0_ k_ = Z9i (El1 N k0_) N k_ := qL (Z0ao N (El1 N k0_))
theorem ql1 (N : Nat) : ∀ k_, El1 N k_ = Z7c N k_
 | 0 => by kernel_rfl
 | k_ + 1 => (show El1 N (k_ + 1) = Z0ap N (El2 N k_ N) (El1 N k_) from by kernel_rfl).trans (by simp only [ql2, ql1 N k_]; rfl)
theorem ql0 (N : Nat) : ∀ k_, El0 N k_ = Z9j N k_
 | 0 => by kernel_rfl
 | k_ + 1 => (show El0 N (k_ + 1) = Z0aq N (El1 N N) (El0 N k_) from by kernel_rfl).trans (by simp only [ql1, ql0 N k_]; rfl)
def eE : EnTryz := ⟨211, sG, [.v ty3, .v .str], _, Z28 N, pk2 ty8 .bool, enK Tryz.func211,
 fun l s => eo (eS N) Tryz.func211 N an_ (Yh ty8 .bool) (tq (b := Z0bh N (El0 N N) l s) (by rw [ql0]; rfl))⟩
end Z28
namespace Z5x
def bX : BoxSig := ⟨0, 177, [.fx, .ro, .ro]⟩
def sG : Sig := ⟨[.ptr ty2, .val ty3], [(ty8, .dp)], false, false, some bX, none, none⟩
def eS : List EnTryz := [Z58.eE N, Z28.eE N]
theorem vV (c : List Int × Int × Int) (l : R0) :
  evB (eS N) N an0 sG bX Tryz.f174 [.ptr ty2 c, .val ty3 l] (un2 ty2 ty8) = Z5x N c l := by kernel_rfl
def eE : EnTryz := ⟨174, sG, [.p ty2, .v ty3], _, Z5x N, pk2 ty2 ty8, enK Tryz.func174,
 fun c l => Yq tab_ok (es := eS N) (by kernel_rfl) mixed Tryz.func174 (by kernel_rfl) rfl rfl (fun _ => ⟨_, _, rfl⟩) (Yh ty2 ty8) (vV N c l)⟩
end Z5x
namespace Z5h
def bX : BoxSig := ⟨0, 177, [.fx, .ro, .ro]⟩
def sG : Sig := ⟨[.ptr ty2, .val ty3], [(ty8, .dp)], false, false, some bX, none, none⟩
def eS : List EnTryz := [Z26.eE N, Z78.eE N, Z5x.eE N]
def an_ : Nat -> Option (List Nat)
 | 0 => some [0, 4, 5, 6]
 | _ => none
def lP (p : List Dir) := lpE (eS N) N an_ p Tryz.f127 (endB Tb sG bX Tryz.f127 ty2 (un2 ty2 ty8))
def El0 (k_ : Nat) (c2 : I0) (c3 : Int) (c4 : Int) (t4 : Int) (a : A0) (c : I0) (q : Int) (q2 : A0) (q3 : I0) (v : Int) : Option ((List Int × Int × Int) × Int × List (Int × List Int) × List Int) :=
 lP N [.r, .r, .r, .l, .r, .t, .r, .b] [] k_ (.con (.box ⟨177, true, [true, false, false]⟩) [lf ty1 c2 .ro, lf i64 c3 .ro, lf i64 c4 .ro] :: (un 3 (.con (.box ⟨44, false, []⟩) [lf i64 t4 .ro, lf ty9 a .dp, lf ty0 c .dp] :: (.con (.box ⟨44, false, []⟩) [lf i64 q .ro, lf ty9 q2 .dp, lf ty0 q3 .dp] :: (cr i64 v :: (un 24 []))))))
theorem ql0 (N : Nat) : ∀ k_, El0 N k_ = Z5r N k_ := qL (Z9y N)
theorem vV (c : List Int × Int × Int) (l : R0) :
  evB (eS N) N an_ sG bX Tryz.f127 [.ptr ty2 c, .val ty3 l] (un2 ty2 ty8) = Z0ck N (El0 N N) c l := by kernel_rfl
def eE : EnTryz := ⟨127, sG, [.p ty2, .v ty3], _, Z5h N, pk2 ty2 ty8, enK Tryz.func127,
 fun c l => Yq tab_ok (es := eS N) (by kernel_rfl) mixed Tryz.func127 (by kernel_rfl) rfl rfl (fun _ => ⟨_, _, rfl⟩) (Yh ty2 ty8) ((vV N c l).trans (by rw [ql0]; rfl))⟩
end Z5h
namespace Z8l
def bX : BoxSig := ⟨0, 177, [.fx, .ro, .ro]⟩
def sG : Sig := ⟨[.ptr ty2, .val ty3], [(ty4, .dp)], false, false, some bX, none, none⟩
def eS : List EnTryz := [Z57.eE N, Z0.eE N, Z0n.eE N]
theorem vV (c : List Int × Int × Int) (l : R0) :
  evB (eS N) N an0 sG bX Tryz.f176 [.ptr ty2 c, .val ty3 l] (un2 ty2 ty4) = Z8l N c l := by kernel_rfl
def eE : EnTryz := ⟨176, sG, [.p ty2, .v ty3], _, Z8l N, pk2 ty2 ty4, enK Tryz.func176,
 fun c l => Yq tab_ok (es := eS N) (by kernel_rfl) mixed Tryz.func176 (by kernel_rfl) rfl rfl (fun _ => ⟨_, _, rfl⟩) (Yh ty2 ty4) (vV N c l)⟩
end Z8l
namespace Z8m
def bX : BoxSig := ⟨0, 177, [.fx, .ro, .ro]⟩
def sG : Sig := ⟨[.ptr ty2], [(ty7, .dp)], false, false, some bX, none, none⟩
def eS : List EnTryz := [Z58.eE N, Z0.eE N]
theorem vV (c : List Int × Int × Int) :
  evB (eS N) N an0 sG bX Tryz.f177 [.ptr ty2 c] (un2 ty2 ty7) = Z8m N c := by kernel_rfl
def eE : EnTryz := ⟨177, sG, [.p ty2], _, Z8m N, pk2 ty2 ty7, enK Tryz.func177,
 fun c => Yq tab_ok (es := eS N) (by kernel_rfl) mixed Tryz.func177 (by kernel_rfl) rfl rfl (fun _ => ⟨_, _, rfl⟩) (Yh ty2 ty7) (vV N c)⟩
end Z8m
namespace Z8n
def bX : BoxSig := ⟨0, 177, [.fx, .ro, .ro]⟩
def sG : Sig := ⟨[.ptr ty2], [(ty5, .ro)], false, false, some bX, none, none⟩
def eS : List EnTryz := [Z8h.eE N, Z0.eE N, Z8l.eE N, Z8m.eE N]
theorem vV (c : List Int × Int × Int) :
  evB (eS N) N an0 sG bX Tryz.f129 [.ptr ty2 c] (un2 ty2 ty5) = Z8n N c := by kernel_rfl
def eE : EnTryz := ⟨129, sG, [.p ty2], _, Z8n N, pk2 ty2 ty5, enK Tryz.func129,
 fun c => Yq tab_ok (es := eS N) (by kernel_rfl) mixed Tryz.func129 (by kernel_rfl) rfl rfl (fun _ => ⟨_, _, rfl⟩) (Yh ty2 ty5) (vV N c)⟩
end Z8n
namespace Z7p
def bX : BoxSig := ⟨0, 177, [.fx, .ro, .ro]⟩
def sG : Sig := ⟨[.ptr ty2, .val ty3], [(ty8, .dp)], false, false, some bX, none, none⟩
def eS : List EnTryz := [Z5h.eE N, Z0.eE N, Z0n.eE N]
theorem vV (c : List Int × Int × Int) (l : R0) :
  evB (eS N) N an0 sG bX Tryz.f130 [.ptr ty2 c, .val ty3 l] (un2 ty2 ty8) = Z7p N c l := by kernel_rfl
def eE : EnTryz := ⟨130, sG, [.p ty2, .v ty3], _, Z7p N, pk2 ty2 ty8, enK Tryz.func130,
 fun c l => Yq tab_ok (es := eS N) (by kernel_rfl) mixed Tryz.func130 (by kernel_rfl) rfl rfl (fun _ => ⟨_, _, rfl⟩) (Yh ty2 ty8) (vV N c l)⟩
end Z7p
namespace Z5i
def sG : Sig := ⟨[.val ty1], [(ty5, .ro), (ty8, .dp)], false, false, none, some 177, none⟩
def eS : List EnTryz := [Z8j.eE N, Z8h.eE N, Z5h.eE N, Z0.eE N, Z8n.eE N, Z7p.eE N]
theorem vV (code : I0) :
  evN (eS N) N an0 177 ty2 sG.results Tryz.f71 [.val ty1 code] (un3 ty2 ty5 ty8) = Z5i N code := by kernel_rfl
def eE : EnTryz := ⟨71, sG, [.v ty1], _, Z5i N, pk3 ty2 ty5 ty8, enK Tryz.func71,
 fun a => Y90 tab_ok (es := eS N) (by kernel_rfl) mixed Tryz.func71 (by kernel_rfl) rfl rfl (fun _ => ⟨_, _, rfl⟩) (Ydn ty2 ty5 ty8) (vV N a)⟩
end Z5i
namespace Z5s
def bX : BoxSig := ⟨0, 177, [.fx, .ro, .ro]⟩
def sG : Sig := ⟨[.ptr ty2, .val ty5], [(ty0, .dp)], false, false, some bX, none, none⟩
def eS : List EnTryz := [Z0.eE N, Z26.eE N, Z0n.eE N]
def an_ : Nat -> Option (List Nat)
 | 0 => some [0, 3, 5, 6]
 | _ => none
def lP (p : List Dir) := lpE (eS N) N an_ p Tryz.f72 (endB Tb sG bX Tryz.f72 ty2 (un2 ty2 ty0))
def El0 (k_ : Nat) (c2 : I0) (c3 : Int) (c4 : Int) (d2 : R0) (d3 : A0) (w : I0) (a : Int) : Option ((List Int × Int × Int) × List Int) :=
 lP N [.r, .r, .r, .l, .b] [] k_ (.con (.box ⟨177, true, [true, false, false]⟩) [lf ty1 c2 .ro, lf i64 c3 .ro, lf i64 c4 .ro] :: (un 2 (.con (.box ⟨39, false, []⟩) [lf ty3 d2 .ro, lf ty6 d3 .ro] :: (un 1 (cd ty0 w :: (cr i64 a :: (un 30 [])))))))
theorem ql0 (N : Nat) : ∀ k_, El0 N k_ = Z5j N k_ := qL (Z8o N)
theorem vV (c : List Int × Int × Int) (d : D0) :
  evB (eS N) N an_ sG bX Tryz.f72 [.ptr ty2 c, .val ty5 d] (un2 ty2 ty0) = Z0bi N (El0 N N) c d := by kernel_rfl
def eE : EnTryz := ⟨72, sG, [.p ty2, .v ty5], _, Z5s N, pk2 ty2 ty0, enK Tryz.func72,
 fun c d => Yq tab_ok (es := eS N) (by kernel_rfl) mixed Tryz.func72 (by kernel_rfl) rfl rfl (fun _ => ⟨_, _, rfl⟩) (Yh ty2 ty0) ((vV N c d).trans (by rw [ql0]; rfl))⟩
end Z5s
namespace Z2m
def sG := sgV [.val ty1] [(ty5, .ro), (ty0, .dp), (ty8, .dp)]
def eS : List EnTryz := [Z5i.eE N, Z5s.eE N]
def eE : EnTryz := ⟨19, sG, [.v ty1], _, Z2m N, pk3 ty5 ty0 ty8, enK Tryz.func19,
 fun a => eo (eS N) Tryz.func19 N an0 (Ydn ty5 ty0 ty8)⟩
end Z2m
namespace Z0l
def sG := sgV [.val i64, .val i64, .val i64] [(.bool, .dp)]
def eS (N : Nat) : List EnTryz := []
def eE : EnTryz := ⟨136, sG, [.v i64, .v i64, .v i64], _, Z0l N, pk1 .bool, enK Tryz.func136,
 fun n a b => eo (eS N) Tryz.func136 N an0 (Y4 .bool)⟩
end Z0l
namespace Z2n
def sG := sgV [.val ty7] [(.bool, .dp)]
def eS : List EnTryz := [Z0l.eE N]
def eE : EnTryz := ⟨199, sG, [.v ty7], _, Z2n N, pk1 .bool, enK Tryz.func199,
 fun a => eo (eS N) Tryz.func199 N an0 (Y4 .bool)⟩
end Z2n
namespace Z10
def sG := sgV [.val ty3] [(.bool, .dp)]
def eS : List EnTryz := [Z2n.eE N]
def an_ : Nat -> Option (List Nat)
 | 0 => some [0, 5, 6, 7]
 | _ => none
def lP (p : List Dir) := lpE (eS N) N an_ p Tryz.f158 (endK Tb sG Tryz.f158 [] (un1 .bool))
def El0 (k_ : Nat) (a : R0) (t5 : R0) (t6 : Int) (t7 : Int) : Option (Bool) :=
 lP N [.r, .l, .r, .b] [] k_ (cr ty3 a :: (un 4 (cr ty3 t5 :: (cr i64 t6 :: (cr i64 t7 :: (un 26 []))))))
theorem ql0 (N : Nat) : ∀ k_, El0 N k_ = Z1w N k_ := qL (Z3r N)
def eE : EnTryz := ⟨158, sG, [.v ty3], _, Z10 N, pk1 .bool, enK Tryz.func158,
 fun a => eo (eS N) Tryz.func158 N an_ (Y4 .bool) (tq (b := Z6s N (El0 N N) a) (by rw [ql0]; rfl))⟩
end Z10
namespace Z4n
def sG := sgV [.val i64] [(.bool, .dp)]
def eS : List EnTryz := [Z0l.eE N]
def eE : EnTryz := ⟨231, sG, [.v i64], _, Z4n N, pk1 .bool, enK Tryz.func231,
 fun v => eo (eS N) Tryz.func231 N an0 (Y4 .bool)⟩
end Z4n
namespace Z0k
def sG := sgV [.val ty0, .clo] [(i64, .dp)]
def eS : List EnTryz := [Z4n.eE N]
def an_ : Nat -> Option (List Nat)
 | 0 => some [0, 1, 7, 8]
 | _ => none
def lP (p : List Dir) := lpE (eS N) N an_ p Tryz.f183 (endK Tb sG Tryz.f183 [] (un1 i64))
def El0 (k_ : Nat) (s2 : I0) (t7 : Int) (t8 : Int) : Option (Int) :=
 lP N [.r, .l, .r, .b] [] k_ (cr ty0 s2 :: (.cloR 231 [] :: (un 5 (cr i64 t7 :: (cr i64 t8 :: (un 10 []))))))
theorem ql0 (N : Nat) : ∀ k_, El0 N k_ = Z0d N k_ := qL (Z11 N)
def eE : EnTryz := ⟨183, sG, [.v ty0, .c 231 []], _, Z0k N, pk1 i64, enK Tryz.func183,
 fun s => eo (eS N) Tryz.func183 N an_ (Y4 i64) (tq (b := Z2o N (El0 N N) s) (by rw [ql0]; rfl))⟩
end Z0k
namespace Z0e
def sG := sgV [.val ty0, .clo] [(.bool, .dp)]
def eS : List EnTryz := [Z0k.eE N]
def eE : EnTryz := ⟨134, sG, [.v ty0, .c 231 []], _, Z0e N, pk1 .bool, enK Tryz.func134,
 fun s => eo (eS N) Tryz.func134 N an0 (Y4 .bool)⟩
end Z0e
namespace Z52
def sG := sgV [.val ty0] [(.bool, .dp)]
def eS : List EnTryz := [Z0e.eE N]
def eE : EnTryz := ⟨200, sG, [.v ty0], _, Z52 N, pk1 .bool, enK Tryz.func200,
 fun a => eo (eS N) Tryz.func200 N an0 (Y4 .bool)⟩
end Z52
namespace Z7q
def sG := sgV [.val ty3, .val ty4] [(.bool, .dp)]
def eS : List EnTryz := [Z0l.eE N, Z52.eE N]
def eE : EnTryz := ⟨159, sG, [.v ty3, .v ty4], _, Z7q N, pk1 .bool, enK Tryz.func159,
 fun a b => eo (eS N) Tryz.func159 N an0 (Y4 .bool)⟩
end Z7q
namespace Z88
def sG := sgV [.val i64, .val i64] [(i64, .dp)]
def eS (N : Nat) : List EnTryz := []
def eE : EnTryz := ⟨201, sG, [.v i64, .v i64], _, Z88 N, pk1 i64, enK Tryz.func201,
 fun a b => eo (eS N) Tryz.func201 N an0 (Y4 i64)⟩
end Z88
namespace Z5y
def sG := sgV [.val i64] [(.bool, .dp)]
def eS (N : Nat) : List EnTryz := []
def eE : EnTryz := ⟨247, sG, [.v i64], _, Z5y N, pk1 .bool, enK Tryz.func247,
 fun x => eo (eS N) Tryz.func247 N an0 (Y4 .bool)⟩
end Z5y
namespace Z4i
def sG := sgV [.val i64, .val i64] [(i64, .dp)]
def eS : List EnTryz := [Z5y.eE N]
def eE : EnTryz := ⟨232, sG, [.v i64, .v i64], _, Z4i N, pk1 i64, enK Tryz.func232,
 fun x y => eo (eS N) Tryz.func232 N an0 (Y4 i64)⟩
end Z4i
namespace Z2b
def sG := sgV [.val ty0, .val ty0] [(i64, .dp)]
def eS : List EnTryz := [Z4i.eE N]
def an_ : Nat -> Option (List Nat)
 | 0 => some [0, 1, 9, 10, 11]
 | _ => none
def lP (p : List Dir) := lpE (eS N) N an_ p Tryz.f202 (endK Tb sG Tryz.f202 [] (un1 i64))
def El0 (k_ : Nat) (a : I0) (c : I0) (t9 : I0) (d : Int) (e : Int) : Option (Int) :=
 lP N [.r, .l, .r, .b] [] k_ (cr ty0 a :: (cr ty0 c :: (un 7 (cr ty0 t9 :: (cr i64 d :: (cr i64 e :: (un 24 [])))))))
theorem ql0 (N : Nat) : ∀ k_, El0 N k_ = Z17 N k_ := qL (Z20 N)
def eE : EnTryz := ⟨202, sG, [.v ty0, .v ty0], _, Z2b N, pk1 i64, enK Tryz.func202,
 fun s1 s2 => eo (eS N) Tryz.func202 N an_ (Y4 i64) (tq (b := Z97 N (El0 N N) s1 s2) (by rw [ql0]; rfl))⟩
end Z2b
namespace Z3o
def sG := sgV [.val ty4, .val ty4] [(i64, .dp)]
def eS : List EnTryz := [Z88.eE N, Z2b.eE N]
def eE : EnTryz := ⟨160, sG, [.v ty4, .v ty4], _, Z3o N, pk1 i64, enK Tryz.func160,
 fun a b => eo (eS N) Tryz.func160 N an0 (Y4 i64)⟩
end Z3o
namespace Z1e
def sG := sgV [.val ty5] [(.bool, .dp)]
def eS : List EnTryz := [Z7q.eE N, Z3o.eE N, Z10.eE N]
def an_ : Nat -> Option (List Nat)
 | 0 => some [1, 16, 17, 18]
 | _ => none
def lP (p : List Dir) := lpE (eS N) N an_ p Tryz.f102 (endK Tb sG Tryz.f102 [] (un1 .bool))
def El0 (k_ : Nat) (a : R0) (c : A0) (d : A0) (e : Int) (f : Int) : Option (Bool) :=
 lP N [.r, .r, .l, .r, .b] [] k_ (un 1 (.con (.box ⟨39, false, []⟩) [lf ty3 a .ro, lf ty6 c .ro] :: (un 14 (cr ty6 d :: (cr i64 e :: (cr i64 f :: (un 25 [])))))))
theorem ql0 (N : Nat) : ∀ k_, El0 N k_ = Z2c N k_ := qL (Z4d N)
def eE : EnTryz := ⟨102, sG, [.v ty5], _, Z1e N, pk1 .bool, enK Tryz.func102,
 fun db => eo (eS N) Tryz.func102 N an_ (Y4 .bool) (tq (b := Z7r N (El0 N N) db) (by rw [ql0]; rfl))⟩
end Z1e
namespace Z4j
def sG := sgV [.val ty0, .val i64] [(.bool, .dp)]
def eS : List EnTryz := [Z0l.eE N]
def an_ : Nat -> Option (List Nat)
 | 0 => some [0, 1, 7, 8, 9]
 | _ => none
def lP (p : List Dir) := lpE (eS N) N an_ p Tryz.f178 (endK Tb sG Tryz.f178 [] (un1 .bool))
def El0 (k_ : Nat) (a : I0) (n2 : Int) (t7 : I0) (t8 : Int) (t9 : Int) : Option (Bool) :=
 lP N [.r, .l, .r, .b] [] k_ (cr ty0 a :: (cr i64 n2 :: (un 5 (cr ty0 t7 :: (cr i64 t8 :: (cr i64 t9 :: (un 23 [])))))))
theorem ql0 (N : Nat) : ∀ k_, El0 N k_ = Z42 N k_ := qL (Z67 N)
def eE : EnTryz := ⟨178, sG, [.v ty0, .v i64], _, Z4j N, pk1 .bool, enK Tryz.func178,
 fun a n => eo (eS N) Tryz.func178 N an_ (Y4 .bool) (tq (b := Z9z N (El0 N N) a n) (by rw [ql0]; rfl))⟩
end Z4j
namespace Z3g
def sG := sgV [.val ty4, .ptr ty4] [(.bool, .dp)]
def eS (N : Nat) : List EnTryz := []
def eE : EnTryz := ⟨180, sG, [.v ty4, .p ty4], _, Z3g N, pk1 .bool, enK Tryz.func180,
 fun a c1 => eo (eS N) Tryz.func180 N an0 (Y4 .bool)⟩
end Z3g
namespace Z0a
def sG := sgV [.val ty9, .clo] [(i64, .dp)]
def eS : List EnTryz := [Z3g.eE N]
def an_ : Nat -> Option (List Nat)
 | 0 => some [0, 1, 7, 8]
 | _ => none
def lP (p : List Dir) := lpE (eS N) N an_ p Tryz.f213 (endK Tb sG Tryz.f213 [] (un1 i64))
def El0 (k_ : Nat) (s2 : A0) (f : Int × List Int) (t7 : Int) (t8 : Int) : Option (Int) :=
 lP N [.r, .l, .r, .b] [] k_ (cr ty9 s2 :: (.cloR 180 [⟨ty4, f⟩] :: (un 5 (cr i64 t7 :: (cr i64 t8 :: (un 10 []))))))
theorem ql0 (N : Nat) : ∀ k_, El0 N k_ = Z7 N k_ := qL (Z0s N)
def eE : EnTryz := ⟨213, sG, [.v ty9, .c 180 [ty4]], _, Z0a N, pk1 i64, enK Tryz.func213,
 fun s c => eo (eS N) Tryz.func213 N an_ (Y4 i64) (tq (b := Z1r N (El0 N N) s c) (by rw [ql0]; rfl))⟩
end Z0a
namespace Z3
def sG := sgV [.val ty9, .clo] [(.bool, .dp)]
def eS : List EnTryz := [Z0a.eE N]
def eE : EnTryz := ⟨179, sG, [.v ty9, .c 180 [ty4]], _, Z3 N, pk1 .bool, enK Tryz.func179,
 fun s c => eo (eS N) Tryz.func179 N an0 (Y4 .bool)⟩
end Z3
namespace Z2w
def sG := sgV [.val ty12] [(ty0, .dp)]
def eS : List EnTryz := [Z0cd N]
def an_ : Nat -> Option (List Nat)
 | 0 => some [0, 3, 9, 10, 11]
 | 2 => some [6, 25, 26, 27]
 | _ => none
def lP (p : List Dir) := lpE (eS N) N an_ p Tryz.f214 (endK Tb sG Tryz.f214 [] (un1 ty0))
def El1 (k_ : Nat) (a : I0) (c : L0) (d : Int) (e : Int) : Option I0 :=
 lP N [.r, .r, .r, .r, .l, .r, .b] [] k_ (un 6 (cd ty0 a :: (un 18 (cr ty12 c :: (cr i64 d :: (cr i64 e :: (un 8 [])))))))
def El0 (k_ : Nat) (a : L0) (c : Int) (t9 : L0) (d : Int) (e : Int) : Option I0 :=
 lP N [.r, .r, .l, .r, .b] [] k_ (cr ty12 a :: (un 2 (cr i64 c :: (un 5 (cr ty12 t9 :: (cr i64 d :: (cr i64 e :: (un 24 []))))))))
theorem ql1 (N : Nat) : ∀ k_, El1 N k_ = Z1x N k_ := qL (Z5k N)
theorem ql0 (N : Nat) : ∀ k_, El0 N k_ = Z32 N k_
 | 0 => by kernel_rfl
 | k_ + 1 => (show El0 N (k_ + 1) = Z5l N (El1 N N) (El0 N k_) from by kernel_rfl).trans (by simp only [ql1, ql0 N k_]; rfl)
def eE : EnTryz := ⟨214, sG, [.v ty12], _, Z2w N, pk1 ty0, enK Tryz.func214,
 fun a => eo (eS N) Tryz.func214 N an_ (Y4 ty0) (tq (b := Z9k N (El0 N N) a) (by rw [ql0]; rfl))⟩
end Z2w
namespace Z68
def sG := sgV [.val ty0, .val ty0] [(ty0, .dp)]
def eS : List EnTryz := [Z2w.eE N, Z0a6 N, Z0bl N]
def eE : EnTryz := ⟨181, sG, [.v ty0, .v ty0], _, Z68 N, pk1 ty0, enK Tryz.func181,
 fun a b => eo (eS N) Tryz.func181 N an0 (Y4 ty0)⟩
end Z68
namespace Z39
def sG := sgV [.val ty4] [(ty0, .dp)]
def eS : List EnTryz := [Z0l.eE N, Z68.eE N]
def an_ : Nat -> Option (List Nat)
 | 0 => some [3, 8, 9, 10]
 | _ => none
def lP (p : List Dir) := lpE (eS N) N an_ p Tryz.f182 (endK Tb sG Tryz.f182 [] (un1 ty0))
def El0 (k_ : Nat) (a : I0) (t8 : I0) (t9 : Int) (c : Int) : Option I0 :=
 lP N [.r, .r, .l, .r, .b] [] k_ (un 3 (cd ty0 a :: (un 4 (cr ty0 t8 :: (cr i64 t9 :: (cr i64 c :: (un 12 [])))))))
theorem ql0 (N : Nat) : ∀ k_, El0 N k_ = Z43 N k_ := qL (Z75 N)
def eE : EnTryz := ⟨182, sG, [.v ty4], _, Z39 N, pk1 ty0, enK Tryz.func182,
 fun a => eo (eS N) Tryz.func182 N an_ (Y4 ty0) (tq (b := Z8p N (El0 N N) a) (by rw [ql0]; rfl))⟩
end Z39
namespace Z3p
def sG := sgV [.val ty3, .val ty8] [(.bool, .dp)]
def eS : List EnTryz := [Z0l.eE N, Z39.eE N, Z68.eE N, Z3.eE N, Z10.eE N, Z4j.eE N]
def an_ : Nat -> Option (List Nat)
 | 0 => some [0, 3, 5, 36, 37, 38]
 | 2 => some [0, 3, 5, 7, 36, 37, 38, 71, 72, 73]
 | _ => none
def lP (p : List Dir) := lpE (eS N) N an_ p Tryz.f133 (endK Tb sG Tryz.f133 [] (un1 .bool))
def El1 (a : Nat) (k_ : Nat) (c : R0) (d : Int) (e : A0) (f : I0) (g : I0) (h : Int) (i : I0) (j : A0) (k : Int) (m : Int) (n : I0) (o : Int) (p : Int) : Option (Bool) :=
 lP N [.r, .r, .r, .l, .r, .b, .b, .r, .r, .l, .b, .r, .r, .l, .r, .b] [lP N [.r, .r, .r, .l, .r, .b] [] a] k_ (cr ty3 c :: (un 2 (.con (.box ⟨44, false, []⟩) [lf i64 d .ro, lf ty9 e .ro, lf ty0 f .ro] :: (un 1 (cd ty0 g :: (un 1 (.con (.box ⟨145, false, []⟩) [lf i64 h .ro, lf ty0 i .ro] :: (un 28 (cr ty9 j :: (cr i64 k :: (cr i64 m :: (un 32 (cr ty0 n :: (cr i64 o :: (cr i64 p :: (un 20 []))))))))))))))))
def El0 (k_ : Nat) (a : R0) (c : Int) (d : A0) (e : I0) (f : I0) (g : A0) (h : Int) (i : Int) : Option (Bool) :=
 lP N [.r, .r, .r, .l, .r, .b] [] k_ (cr ty3 a :: (un 2 (.con (.box ⟨44, false, []⟩) [lf i64 c .ro, lf ty9 d .ro, lf ty0 e .ro] :: (un 1 (cd ty0 f :: (un 30 (cr ty9 g :: (cr i64 h :: (cr i64 i :: (un 55 []))))))))))
theorem ql1 (N : Nat) (k0_ : Nat) : ∀ k_, El1 N k0_ k_ = Z2p (El0 N k0_) N k_ := qL (Z5c N (El0 N k0_))
theorem ql0 (N : Nat) : ∀ k_, El0 N k_ = Z3h N k_
 | 0 => by kernel_rfl
 | k_ + 1 => (show El0 N (k_ + 1) = Z7s N (El1 N k_ N) (El0 N k_) from by kernel_rfl).trans (by simp only [ql1, ql0 N k_]; rfl)
def eE : EnTryz := ⟨133, sG, [.v ty3, .v ty8], _, Z3p N, pk1 .bool, enK Tryz.func133,
 fun a c => eo (eS N) Tryz.func133 N an_ (Y4 .bool) (tq (b := Z91 N (El0 N N) a c) (by rw [ql0]; rfl))⟩
end Z3p
namespace Z33
def sG := sgV [.val ty5, .val ty8] [(.bool, .dp)]
def eS : List EnTryz := [Z1e.eE N, Z3p.eE N]
def eE : EnTryz := ⟨73, sG, [.v ty5, .v ty8], _, Z33 N, pk1 .bool, enK Tryz.func73,
 fun db a => eo (eS N) Tryz.func73 N an0 (Y4 .bool)⟩
end Z33
namespace Z2d
def sG := sgV [.val i64] [(.bool, .dp)]
def eS : List EnTryz := [Z0l.eE N]
def eE : EnTryz := ⟨135, sG, [.v i64], _, Z2d N, pk1 .bool, enK Tryz.func135,
 fun w => eo (eS N) Tryz.func135 N an0 (Y4 .bool)⟩
end Z2d
namespace Z9
def sG := sgV [.val ty0, .clo] [(i64, .dp)]
def eS : List EnTryz := [Z2d.eE N]
def an_ : Nat -> Option (List Nat)
 | 0 => some [0, 1, 7, 8]
 | _ => none
def lP (p : List Dir) := lpE (eS N) N an_ p Tryz.f183 (endK Tb sG Tryz.f183 [] (un1 i64))
def El0 (k_ : Nat) (s2 : I0) (t7 : Int) (t8 : Int) : Option (Int) :=
 lP N [.r, .l, .r, .b] [] k_ (cr ty0 s2 :: (.cloR 135 [] :: (un 5 (cr i64 t7 :: (cr i64 t8 :: (un 10 []))))))
theorem ql0 (N : Nat) : ∀ k_, El0 N k_ = Z5 N k_ := qL (Z0p N)
def eE : EnTryz := ⟨183, sG, [.v ty0, .c 135 []], _, Z9 N, pk1 i64, enK Tryz.func183,
 fun s => eo (eS N) Tryz.func183 N an_ (Y4 i64) (tq (b := Z1m N (El0 N N) s) (by rw [ql0]; rfl))⟩
end Z9
namespace Z6
def sG := sgV [.val ty0, .clo] [(.bool, .dp)]
def eS : List EnTryz := [Z9.eE N]
def eE : EnTryz := ⟨134, sG, [.v ty0, .c 135 []], _, Z6 N, pk1 .bool, enK Tryz.func134,
 fun s => eo (eS N) Tryz.func134 N an0 (Y4 .bool)⟩
end Z6
namespace Z1f
def sG := sgV [.val ty5, .val ty0] [(.bool, .dp)]
def eS : List EnTryz := [Z1e.eE N, Z6.eE N]
def eE : EnTryz := ⟨74, sG, [.v ty5, .v ty0], _, Z1f N, pk1 .bool, enK Tryz.func74,
 fun db a => eo (eS N) Tryz.func74 N an0 (Y4 .bool)⟩
end Z1f
namespace Z5m
def sG := sgV [.val i64] [(ty0, .dp)]
def eS : List EnTryz := [Z0c7 N]
def eE : EnTryz := ⟨186, sG, [.v i64], _, Z5m N, pk1 ty0, enK Tryz.func186,
 fun n => eo (eS N) Tryz.func186 N an0 (Y4 ty0)⟩
end Z5m
namespace Z5u
def sG := sgV [.val i64] [(.bool, .dp)]
def eS (N : Nat) : List EnTryz := []
def eE : EnTryz := ⟨216, sG, [.v i64], _, Z5u N, pk1 .bool, enK Tryz.func216,
 fun t => eo (eS N) Tryz.func216 N an0 (Y4 .bool)⟩
end Z5u
namespace Z4o
def sG := sgV [.val i64] [(i64, .dp)]
def eS (N : Nat) : List EnTryz := []
def eE : EnTryz := ⟨217, sG, [.v i64], _, Z4o N, pk1 i64, enK Tryz.func217,
 fun v => eo (eS N) Tryz.func217 N an0 (Y4 i64)⟩
end Z4o
namespace Z8q
def sG := sgV [.val ty0, .val ty0, .val ty0] [(ty0, .dp), (.bool, .dp)]
def eS : List EnTryz := [Z5u.eE N, Z4o.eE N, Z9t N]
def an_ : Nat -> Option (List Nat)
 | 0 => some [2, 8, 13, 14, 15]
 | _ => none
def lP (p : List Dir) := lpE (eS N) N an_ p Tryz.f185 (endK Tb sG Tryz.f185 [] (un2 ty0 .bool))
def El0 (k_ : Nat) (a : I0) (c : I0) (d : I0) (e : Int) (f : Int) : Option (List Int × Bool) :=
 lP N [.r, .r, .l, .r, .b] [] k_ (un 2 (cr ty0 a :: (un 5 (cd ty0 c :: (un 4 (cr ty0 d :: (cr i64 e :: (cr i64 f :: (un 40 [])))))))))
theorem ql0 (N : Nat) : ∀ k_, El0 N k_ = Z8v N k_ := qL (Z0ar N)
def eE : EnTryz := ⟨185, sG, [.v ty0, .v ty0, .v ty0], _, Z8q N, pk2 ty0 .bool, enK Tryz.func185,
 fun a c d => eo (eS N) Tryz.func185 N an_ (Yh ty0 .bool) (tq (b := Z0bt N (El0 N N) a c d) (by rw [ql0]; rfl))⟩
end Z8q
namespace Z2x
def bX : BoxSig := ⟨3, 121, [.dp]⟩
def sG : Sig := ⟨[.val ty0, .val ty0, .ptr ty8, .ptr ty13, .ptr ty5, .self], [], false, false, some bX, none, none⟩
theorem eN : Enterable Tryz.prog 184 := Y2p Tryz.func184 (code := Tryz.f184.body.getD .skip) (by kernel_rfl) (by kernel_rfl)
def eS (Rf : I0 -> I0 -> Q0 -> (List (List Int × List Int)) -> D0 -> Q0 -> D0 -> Option (List (List Int × List Int))) (hR : OkP (Option (List (List Int × List Int))) [.v ty0, .v ty0, .p ty8, .p ty13, .p ty5, .s 184 [.ro ty8, .pin, .ro ty5, .self]] Rf (fun xs_ q => ∀ x, q = some x -> FnOk Tryz.prog 184 sG xs_ (pk1 ty13 x))) : List EnTryz := [Z8q.eE N, Z9t N, ⟨184, sG, [.v ty0, .v ty0, .p ty8, .p ty13, .p ty5, .s 184 [.ro ty8, .pin, .ro ty5, .self]], List (List Int × List Int), Rf, pk1 ty13, eN, hR⟩]
def an_ : Nat -> Option (List Nat)
 | 0 => some [0, 1, 3, 5, 8, 34, 35, 36]
 | _ => none
def lP (Rf : I0 -> I0 -> Q0 -> (List (List Int × List Int)) -> D0 -> Q0 -> D0 -> Option (List (List Int × List Int))) (hR : OkP (Option (List (List Int × List Int))) [.v ty0, .v ty0, .p ty8, .p ty13, .p ty5, .s 184 [.ro ty8, .pin, .ro ty5, .self]] Rf (fun xs_ q => ∀ x, q = some x -> FnOk Tryz.prog 184 sG xs_ (pk1 ty13 x))) (p : List Dir) := lpE (eS N Rf hR) N an_ p Tryz.f184 (endB Tb sG bX Tryz.f184 ty13 (un1 ty13))
def El0 (Rf : I0 -> I0 -> Q0 -> (List (List Int × List Int)) -> D0 -> Q0 -> D0 -> Option (List (List Int × List Int))) (hR : OkP (Option (List (List Int × List Int))) [.v ty0, .v ty0, .p ty8, .p ty13, .p ty5, .s 184 [.ro ty8, .pin, .ro ty5, .self]] Rf (fun k q => ∀ x, q = some x -> FnOk Tryz.prog 184 sG k (pk1 ty13 x))) (k_ : Nat) (a : I0) (c : I0) (t3 : List (List Int × List Int)) (d : Q0) (e : D0) (f : Int) (g : I0) (h : A0) (i : Int) (j : Int) : Option (List (List Int × List Int)) :=
 lP N Rf hR [.r, .r, .r, .b] [] k_ (cr ty0 a :: (cr ty0 c :: (un 1 (.con (.box ⟨121, true, [false]⟩) [lf ty13 t3 .dp] :: (un 1 (.fptr 184 [.ro ⟨ty8, d⟩, .path 3 0, .ro ⟨ty5, e⟩, .self] :: (un 2 (.con (.box ⟨145, false, []⟩) [lf i64 f .ro, lf ty0 g .ro] :: (un 25 (cr ty6 h :: (cr i64 i :: (cr i64 j :: (un 28 [])))))))))))))
theorem ql0 (N : Nat) (Rf : I0 -> I0 -> Q0 -> (List (List Int × List Int)) -> D0 -> Q0 -> D0 -> Option (List (List Int × List Int))) (hR : OkP (Option (List (List Int × List Int))) [.v ty0, .v ty0, .p ty8, .p ty13, .p ty5, .s 184 [.ro ty8, .pin, .ro ty5, .self]] Rf (fun xs_ q => ∀ x, q = some x -> FnOk Tryz.prog 184 sG xs_ (pk1 ty13 x))) : ∀ k_, El0 N Rf hR k_ = Z34 N Rf k_
 | 0 => by kernel_rfl
 | k_ + 1 => (show El0 N Rf hR (k_ + 1) = Z5n N Rf (El0 N Rf hR k_) from by kernel_rfl).trans (by simp only [ql0 N Rf hR k_]; rfl)
theorem vV (Rf : I0 -> I0 -> Q0 -> (List (List Int × List Int)) -> D0 -> Q0 -> D0 -> Option (List (List Int × List Int))) (hR : OkP (Option (List (List Int × List Int))) [.v ty0, .v ty0, .p ty8, .p ty13, .p ty5, .s 184 [.ro ty8, .pin, .ro ty5, .self]] Rf (fun xs_ q => ∀ x, q = some x -> FnOk Tryz.prog 184 sG xs_ (pk1 ty13 x))) (values : I0) (facts : I0) (c2 : Q0) (c3 : List (List Int × List Int)) (c4 : D0) (sc2 : Q0) (sc4 : D0) :
  evB (eS N Rf hR) N an_ sG bX Tryz.f184 [.val ty0 values, .val ty0 facts, .ptr ty8 c2, .ptr ty13 c3, .ptr ty5 c4, .fptr 184 [.ro ⟨ty8, sc2⟩, .pin, .ro ⟨ty5, sc4⟩, .self]] (un1 ty13) = Z4k N Rf (El0 N Rf hR N) values facts c2 c3 c4 sc2 sc4 := by kernel_rfl
theorem oK (N : Nat) : ∀ k_, OkP (Option (List (List Int × List Int))) [.v ty0, .v ty0, .p ty8, .p ty13, .p ty5, .s 184 [.ro ty8, .pin, .ro ty5, .self]] (Z0t N k_) (fun xs_ q => ∀ x, q = some x -> FnOk Tryz.prog 184 sG xs_ (pk1 ty13 x))
 | 0 => fun values facts c2 c3 c4 sc2 sc4 =>  fun x h => absurd (show (none : Option (List (List Int × List Int))) = some x from h) (by simp)
 | k_ + 1 => fun values facts c2 c3 c4 sc2 sc4 => Yq tab_ok (es := eS N (Z0t N k_) (oK N k_)) (by kernel_rfl) mixed Tryz.func184 (by kernel_rfl) rfl rfl (fun _ => ⟨_, _, rfl⟩) (Y4 ty13) ((vV N _ _ values facts c2 c3 c4 sc2 sc4).trans (by rw [ql0]; rfl))
def eE : EnTryz := ⟨184, sG, [.v ty0, .v ty0, .p ty8, .p ty13, .p ty5, .s 184 [.ro ty8, .pin, .ro ty5, .self]], List (List Int × List Int), Z2x N, pk1 ty13, eN, oK N N⟩
end Z2x
namespace Z30
def sG := sgV [.val ty5, .val ty8] [(ty13, .dp)]
def eS : List EnTryz := [Z33.eE N, Z5m.eE N, Z2x.eE N]
def eE : EnTryz := ⟨137, sG, [.v ty5, .v ty8], _, Z30 N, pk1 ty13, enK Tryz.func137,
 fun db a => eo (eS N) Tryz.func137 N an0 (Y4 ty13)⟩
end Z30
namespace Z53
def sG := sgV [.val ty5, .val ty8] [(ty12, .dp)]
def eS : List EnTryz := [Z0a6 N, Z30.eE N]
def an_ : Nat -> Option (List Nat)
 | 0 => some [5, 11, 12, 13]
 | _ => none
def lP (p : List Dir) := lpEK (eS N) N an_ p Tryz.f75 (endK Tb sG Tryz.f75 [] (un1 ty12))
def El1 (k_ : Nat) (a : L0) (c : List (List Int × List Int)) (d : Int) (e : Int) (f : Int) : Option L0 :=
 lP N [.r, .r, .l, .r, .b] [] k_ (un 5 (cd ty12 a :: (un 5 (.part 159 ty14 c d :: (cr i64 e :: (cr i64 f :: (un 13 [])))))))
def El0 (k_ : Nat) (a : L0) (c : List (List Int × List Int)) (d : Int) (e : Int) : Option L0 :=
 lP N [.r, .r, .l, .r, .b] [] k_ (un 5 (cd ty12 a :: (un 5 (cd ty13 c :: (cr i64 d :: (cr i64 e :: (un 13 [])))))))
theorem ql1 (N : Nat) : ∀ k_, El1 N k_ = Z64 N k_ := qL (Z92 N)
theorem ql0 (N : Nat) : ∀ k_, El0 N k_ = Z7y N k_
 | 0 => by kernel_rfl
 | k_ + 1 => (show El0 N (k_ + 1) = Z93 N (El1 N k_) (El0 N k_) from by kernel_rfl).trans (by simp only [ql1, ql0 N k_]; rfl)
def eE : EnTryz := ⟨75, sG, [.v ty5, .v ty8], _, Z53 N, pk1 ty12, enK Tryz.func75,
 fun db a => eoK (eS N) Tryz.func75 N an_ (Y4 ty12) (tq (b := Z0aa N (El0 N N) db a) (by rw [ql0]; rfl))⟩
end Z53
namespace Z22
def sG := sgV [.val ty0, .val ty0] [(.bool, .dp)]
def eS (N : Nat) : List EnTryz := []
def an_ : Nat -> Option (List Nat)
 | 0 => some [0, 1, 12, 13]
 | _ => none
def lP (p : List Dir) := lpE (eS N) N an_ p Tryz.f189 (endK Tb sG Tryz.f189 [] (un1 .bool))
def El0 (k_ : Nat) (a : I0) (c : I0) (d : Int) (e : Int) : Option (Bool) :=
 lP N [.r, .r, .l, .r, .b] [] k_ (cr ty0 a :: (cr ty0 c :: (un 10 (cr i64 d :: (cr i64 e :: (un 12 []))))))
theorem ql0 (N : Nat) : ∀ k_, El0 N k_ = Z21 N k_ := qL (Z3x N)
def eE : EnTryz := ⟨189, sG, [.v ty0, .v ty0], _, Z22 N, pk1 .bool, enK Tryz.func189,
 fun s1 s2 => eo (eS N) Tryz.func189 N an_ (Y4 .bool) (tq (b := Z76 N (El0 N N) s1 s2) (by rw [ql0]; rfl))⟩
end Z22
namespace Z6u
def sG := sgV [.val ty3, .val ty4, .val ty4] [(.bool, .dp)]
def eS : List EnTryz := [Z22.eE N]
def eE : EnTryz := ⟨139, sG, [.v ty3, .v ty4, .v ty4], _, Z6u N, pk1 .bool, enK Tryz.func139,
 fun c a b => eo (eS N) Tryz.func139 N an0 (Y4 .bool)⟩
end Z6u
namespace Z6m
def sG := sgV [.val ty5] [(ty12, .dp)]
def eS : List EnTryz := [Z6u.eE N]
def an_ : Nat -> Option (List Nat)
 | 0 => some [1, 3, 9, 10, 11]
 | _ => none
def lP (p : List Dir) := lpE (eS N) N an_ p Tryz.f76 (endK Tb sG Tryz.f76 [] (un1 ty12))
def El0 (k_ : Nat) (a : R0) (c : A0) (d : L0) (t9 : A0) (e : Int) (f : Int) : Option L0 :=
 lP N [.r, .r, .l, .r, .b] [] k_ (un 1 (.con (.box ⟨39, false, []⟩) [lf ty3 a .ro, lf ty6 c .ro] :: (un 1 (cd ty12 d :: (un 5 (cr ty6 t9 :: (cr i64 e :: (cr i64 f :: (un 42 [])))))))))
theorem ql0 (N : Nat) : ∀ k_, El0 N k_ = Z44 N k_ := qL (Z8r N)
def eE : EnTryz := ⟨76, sG, [.v ty5], _, Z6m N, pk1 ty12, enK Tryz.func76,
 fun db => eo (eS N) Tryz.func76 N an_ (Y4 ty12) (tq (b := Z0d4 N (El0 N N) db) (by rw [ql0]; rfl))⟩
end Z6m
namespace Z4p
def sG := sgV [.val ty12] [(i64, .dp)]
def eS (N : Nat) : List EnTryz := []
def an_ : Nat -> Option (List Nat)
 | 0 => some [3, 6, 7, 8]
 | _ => none
def lP (p : List Dir) := lpE (eS N) N an_ p Tryz.f77 (endK Tb sG Tryz.f77 [] (un1 i64))
def El0 (k_ : Nat) (a : Int) (t6 : L0) (t7 : Int) (t8 : Int) : Option (Int) :=
 lP N [.r, .r, .l, .r, .b] [] k_ (un 3 (cr i64 a :: (un 2 (cr ty12 t6 :: (cr i64 t7 :: (cr i64 t8 :: (un 9 [])))))))
theorem ql0 (N : Nat) : ∀ k_, El0 N k_ = Z3i N k_ := qL (Z5d N)
def eE : EnTryz := ⟨77, sG, [.v ty12], _, Z4p N, pk1 i64, enK Tryz.func77,
 fun a => eo (eS N) Tryz.func77 N an_ (Y4 i64) (tq (b := Z0ax N (El0 N N) a) (by rw [ql0]; rfl))⟩
end Z4p
namespace Z54
def sG := sgV [.val ty12, .val i64] [(ty0, .dp)]
def eS (N : Nat) : List EnTryz := []
def an_ : Nat -> Option (List Nat)
 | 0 => some [0, 1, 5, 6]
 | _ => none
def lP (p : List Dir) := lpE (eS N) N an_ p Tryz.f78 (endK Tb sG Tryz.f78 [] (un1 ty0))
def El0 (k_ : Nat) (a : L0) (c : Int) (d : I0) (i : Int) : Option I0 :=
 lP N [.r, .r, .l, .r, .b] [] k_ (cr ty12 a :: (cr i64 c :: (un 3 (cd ty0 d :: (cr i64 i :: (un 34 []))))))
theorem ql0 (N : Nat) : ∀ k_, El0 N k_ = Z4q N k_ := qL (Z71 N)
def eE : EnTryz := ⟨78, sG, [.v ty12, .v i64], _, Z54 N, pk1 ty0, enK Tryz.func78,
 fun a c => eo (eS N) Tryz.func78 N an_ (Y4 ty0) (tq (b := Z0ab N (El0 N N) a c) (by rw [ql0]; rfl))⟩
end Z54
namespace Z35
def sG := sgV [.val ty0, .val i64] [(i64, .dp)]
def eS (N : Nat) : List EnTryz := []
def an_ : Nat -> Option (List Nat)
 | 0 => some [0, 1, 7, 8]
 | _ => none
def lP (p : List Dir) := lpE (eS N) N an_ p Tryz.f230 (endK Tb sG Tryz.f230 [] (un1 i64))
def El0 (k_ : Nat) (s2 : I0) (v2 : Int) (t7 : Int) (t8 : Int) : Option (Int) :=
 lP N [.r, .l, .r, .b] [] k_ (cr ty0 s2 :: (cr i64 v2 :: (un 5 (cr i64 t7 :: (cr i64 t8 :: (un 10 []))))))
theorem ql0 (N : Nat) : ∀ k_, El0 N k_ = Z23 N k_ := qL (Z3y N)
def eE : EnTryz := ⟨230, sG, [.v ty0, .v i64], _, Z35 N, pk1 i64, enK Tryz.func230,
 fun s v => eo (eS N) Tryz.func230 N an_ (Y4 i64) (tq (b := Z77 N (El0 N N) s v) (by rw [ql0]; rfl))⟩
end Z35
namespace Z1i
def sG := sgV [.val ty0, .val i64] [(.bool, .dp)]
def eS : List EnTryz := [Z35.eE N]
def eE : EnTryz := ⟨192, sG, [.v ty0, .v i64], _, Z1i N, pk1 .bool, enK Tryz.func192,
 fun s v => eo (eS N) Tryz.func192 N an0 (Y4 .bool)⟩
end Z1i
namespace Z55
def sG := sgV [.val i64, .ptr ty0] [(.bool, .dp)]
def eS : List EnTryz := [Z1i.eE N]
def eE : EnTryz := ⟨191, sG, [.v i64, .p ty0], _, Z55 N, pk1 .bool, enK Tryz.func191,
 fun n c1 => eo (eS N) Tryz.func191 N an0 (Y4 .bool)⟩
end Z55
namespace Z0m
def sG := sgV [.val ty0, .clo] [(i64, .dp)]
def eS : List EnTryz := [Z55.eE N]
def an_ : Nat -> Option (List Nat)
 | 0 => some [0, 1, 7, 8]
 | _ => none
def lP (p : List Dir) := lpE (eS N) N an_ p Tryz.f183 (endK Tb sG Tryz.f183 [] (un1 i64))
def El0 (k_ : Nat) (s2 : I0) (f : I0) (t7 : Int) (t8 : Int) : Option (Int) :=
 lP N [.r, .l, .r, .b] [] k_ (cr ty0 s2 :: (.cloR 191 [⟨ty0, f⟩] :: (un 5 (cr i64 t7 :: (cr i64 t8 :: (un 10 []))))))
theorem ql0 (N : Nat) : ∀ k_, El0 N k_ = Z0g N k_ := qL (Z13 N)
def eE : EnTryz := ⟨183, sG, [.v ty0, .c 191 [ty0]], _, Z0m N, pk1 i64, enK Tryz.func183,
 fun s c => eo (eS N) Tryz.func183 N an_ (Y4 i64) (tq (b := Z2v N (El0 N N) s c) (by rw [ql0]; rfl))⟩
end Z0m
namespace Z0h
def sG := sgV [.val ty0, .clo] [(.bool, .dp)]
def eS : List EnTryz := [Z0m.eE N]
def eE : EnTryz := ⟨134, sG, [.v ty0, .c 191 [ty0]], _, Z0h N, pk1 .bool, enK Tryz.func134,
 fun s c => eo (eS N) Tryz.func134 N an0 (Y4 .bool)⟩
end Z0h
namespace Z5z
def sG := sgV [.val ty0, .val ty0] [(.bool, .dp)]
def eS : List EnTryz := [Z0h.eE N]
def eE : EnTryz := ⟨142, sG, [.v ty0, .v ty0], _, Z5z N, pk1 .bool, enK Tryz.func142,
 fun a b => eo (eS N) Tryz.func142 N an0 (Y4 .bool)⟩
end Z5z
namespace Z4r
def sG := sgV [.val ty0, .ptr ty0] [(.bool, .dp)]
def eS : List EnTryz := [Z5z.eE N]
def eE : EnTryz := ⟨141, sG, [.v ty0, .p ty0], _, Z4r N, pk1 .bool, enK Tryz.func141,
 fun a c1 => eo (eS N) Tryz.func141 N an0 (Y4 .bool)⟩
end Z4r
namespace Z0i
def sG := sgV [.val ty12, .clo] [(i64, .dp)]
def eS : List EnTryz := [Z4r.eE N]
def an_ : Nat -> Option (List Nat)
 | 0 => some [0, 1, 7, 8]
 | _ => none
def lP (p : List Dir) := lpE (eS N) N an_ p Tryz.f190 (endK Tb sG Tryz.f190 [] (un1 i64))
def El0 (k_ : Nat) (s2 : L0) (f : I0) (t7 : Int) (t8 : Int) : Option (Int) :=
 lP N [.r, .l, .r, .b] [] k_ (cr ty12 s2 :: (.cloR 141 [⟨ty0, f⟩] :: (un 5 (cr i64 t7 :: (cr i64 t8 :: (un 10 []))))))
theorem ql0 (N : Nat) : ∀ k_, El0 N k_ = Z0b N k_ := qL (Z0x N)
def eE : EnTryz := ⟨190, sG, [.v ty12, .c 141 [ty0]], _, Z0i N, pk1 i64, enK Tryz.func190,
 fun s c => eo (eS N) Tryz.func190 N an_ (Y4 i64) (tq (b := Z24 N (El0 N N) s c) (by rw [ql0]; rfl))⟩
end Z0i
namespace Z0c
def sG := sgV [.val ty12, .clo] [(.bool, .dp)]
def eS : List EnTryz := [Z0i.eE N]
def eE : EnTryz := ⟨140, sG, [.v ty12, .c 141 [ty0]], _, Z0c N, pk1 .bool, enK Tryz.func140,
 fun s c => eo (eS N) Tryz.func140 N an0 (Y4 .bool)⟩
end Z0c
namespace Z45
def sG := sgV [.val ty12, .val ty0] [(.bool, .dp)]
def eS : List EnTryz := [Z0c.eE N]
def eE : EnTryz := ⟨79, sG, [.v ty12, .v ty0], _, Z45 N, pk1 .bool, enK Tryz.func79,
 fun a b => eo (eS N) Tryz.func79 N an0 (Y4 .bool)⟩
end Z45
namespace Z60
def sG := sgV [.val ty0, .val ty0] [(i64, .dp)]
def eS (N : Nat) : List EnTryz := []
def an_ : Nat -> Option (List Nat)
 | 0 => some [0, 5, 8, 9, 10]
 | _ => none
def lP (p : List Dir) := lpE (eS N) N an_ p Tryz.f80 (endK Tb sG Tryz.f80 [] (un1 i64))
def El0 (k_ : Nat) (a : I0) (c : Int) (t8 : I0) (t9 : Int) (d : Int) : Option (Int) :=
 lP N [.r, .r, .l, .r, .b] [] k_ (cr ty0 a :: (un 4 (cr i64 c :: (un 2 (cr ty0 t8 :: (cr i64 t9 :: (cr i64 d :: (un 11 []))))))))
theorem ql0 (N : Nat) : ∀ k_, El0 N k_ = Z6v N k_ := qL (Z9l N)
def eE : EnTryz := ⟨80, sG, [.v ty0, .v ty0], _, Z60 N, pk1 i64, enK Tryz.func80,
 fun a c => eo (eS N) Tryz.func80 N an_ (Y4 i64) (tq (b := Z0as N (El0 N N) a c) (by rw [ql0]; rfl))⟩
end Z60
namespace Z1u
def sG := sgV [.val ty5, .val ty0] [(i64, .dp)]
def eS : List EnTryz := [Z1f.eE N, Z6m.eE N]
def an_ : Nat -> Option (List Nat)
 | 0 => some [1, 5, 16, 17, 18]
 | 2 => some [1, 5, 8, 16, 17, 18, 22, 23, 24]
 | _ => none
def lP (p : List Dir) := lpE (eS N) N an_ p Tryz.f82 (endK Tb sG Tryz.f82 [] (un1 i64))
def El1 (a : Nat) (k_ : Nat) (c : I0) (d : Int) (e : Int) (f : L0) (g : Int) (h : Int) (i : Int) (j : I0) (k : Int) (m : Int) : Option (Int) :=
 lP N [.r, .r, .r, .l, .r, .b, .b, .r, .r, .l, .b, .r, .r, .l, .r, .b] [lP N [.r, .r, .r, .l, .r, .b] [] a] k_ (un 1 (cr ty0 c :: (un 3 (cr i64 d :: (un 2 (cr i64 e :: (un 7 (cd ty12 f :: (cr i64 g :: (cr i64 h :: (un 3 (.con .val [⟨ty0, j, (.bor 16 0 [(i, 0)])⟩] :: (cr i64 k :: (cr i64 m :: (un 15 [])))))))))))))))
def El0 (k_ : Nat) (a : I0) (c : Int) (d : L0) (e : Int) (f : Int) : Option (Int) :=
 lP N [.r, .r, .r, .l, .r, .b] [] k_ (un 1 (cr ty0 a :: (un 3 (cr i64 c :: (un 10 (cd ty12 d :: (cr i64 e :: (cr i64 f :: (un 21 [])))))))))
theorem ql1 (N : Nat) (k0_ : Nat) : ∀ k_, El1 N k0_ k_ = Z1k (El0 N k0_) N k_ := qL (Z46 N (El0 N k0_))
theorem ql0 (N : Nat) : ∀ k_, El0 N k_ = Z15 N k_
 | 0 => by kernel_rfl
 | k_ + 1 => (show El0 N (k_ + 1) = Z47 N (El1 N k_ N) (El0 N k_) from by kernel_rfl).trans (by simp only [ql1, ql0 N k_]; rfl)
def eE : EnTryz := ⟨82, sG, [.v ty5, .v ty0], _, Z1u N, pk1 i64, enK Tryz.func82,
 fun db a => eo (eS N) Tryz.func82 N an_ (Y4 i64) (tq (b := Z7d N (El0 N N) db a) (by rw [ql0]; rfl))⟩
end Z1u
namespace Z0b2
def sG := sgV [.val i64, .val i64] [(i64, .dp)]
def eS (N : Nat) : List EnTryz := []
def an_ : Nat -> Option (List Nat)
 | 0 => some [0, 1]
 | _ => none
def lP (p : List Dir) := lpE (eS N) N an_ p Tryz.f143 (endK Tb sG Tryz.f143 [] (un1 i64))
def El0 (k_ : Nat) (a2 : Int) (b2 : Int) : Option (Int) :=
 lP N [.r, .l, .b] [] k_ (cr i64 a2 :: (cr i64 b2 :: (un 10 [])))
theorem ql0 (N : Nat) : ∀ k_, El0 N k_ = Z0a5 N k_ := qL (Z0bd N)
def eE : EnTryz := ⟨143, sG, [.v i64, .v i64], _, Z0b2 N, pk1 i64, enK Tryz.func143,
 fun a b => eo (eS N) Tryz.func143 N an_ (Y4 i64) (tq (b := Z0cx N (El0 N N) a b) (by rw [ql0]; rfl))⟩
end Z0b2
namespace Z5o
def sG := sgV [.val i64, .val i64] [(ty15, .dp)]
def eS : List EnTryz := [Z0b2.eE N]
def eE : EnTryz := ⟨81, sG, [.v i64, .v i64], _, Z5o N, pk1 ty15, enK Tryz.func81,
 fun a b => eo (eS N) Tryz.func81 N an0 (Y4 ty15)⟩
end Z5o
namespace Z18
def sG := sgV [.val ty5, .val ty0, .val ty8] [(ty15, .dp), (.bool, .dp)]
def eS : List EnTryz := [Z54.eE N, Z45.eE N, Z60.eE N, Z1u.eE N, Z5o.eE N, Z33.eE N, Z1f.eE N, Z53.eE N, Z6m.eE N, Z4p.eE N]
def an_ : Nat -> Option (List Nat)
 | 0 => some [1, 3, 6, 8, 9, 10, 30, 31]
 | _ => none
def lP (p : List Dir) := lpE (eS N) N an_ p Tryz.f20 (endK Tb sG Tryz.f20 [] (un2 ty15 .bool))
def El0 (k_ : Nat) (a : I0) (c : R0) (d : A0) (t6 : Int) (e : Int) (f : L0) (g : L0) (h : Int) (i : Int) (j : Int) : Option ((Int × Int) × Bool) :=
 lP N [.r, .r, .r, .l, .r, .b] [] k_ (un 1 (cr ty0 a :: (un 1 (.con (.box ⟨39, false, []⟩) [lf ty3 c .ro, lf ty6 d .ro] :: (un 2 (.con (.box ⟨33, false, []⟩) [lf i64 t6 .ro, lf i64 e .ro] :: (un 1 (cd ty12 f :: (cd ty12 g :: (cr i64 h :: (un 19 (cr i64 i :: (cr i64 j :: (un 19 []))))))))))))))
theorem ql0 (N : Nat) : ∀ k_, El0 N k_ = Z3u N k_ := qL (Z89 N)
def eE : EnTryz := ⟨20, sG, [.v ty5, .v ty0, .v ty8], _, Z18 N, pk2 ty15 .bool, enK Tryz.func20,
 fun db a c => eo (eS N) Tryz.func20 N an_ (Yh ty15 .bool) (tq (b := Z9m N (El0 N N) db a c) (by rw [ql0]; rfl))⟩
end Z18
namespace Z0y
def sG := sgV [.val ty5, .val ty0, .val ty8] [(ty15, .dp), (.bool, .dp)]
def eS : List EnTryz := [Z18.eE N]
def eE : EnTryz := ⟨13, sG, [.v ty5, .v ty0, .v ty8], _, Z0y N, pk2 ty15 .bool, enK Tryz.func13,
 fun db a b => eo (eS N) Tryz.func13 N an0 (Yh ty15 .bool)⟩
end Z0y
namespace Z2
def sG := sgV [.val ty5, .val ty8] [(.bool, .dp)]
def eS : List EnTryz := [Z1.eE N, Z1y.eE N]
def eE : EnTryz := ⟨49, sG, [.v ty5, .v ty8], _, Z2 N, pk1 .bool, enK Tryz.func49,
 fun d q => eo (eS N) Tryz.func49 N an0 (Y4 .bool)⟩
end Z2
namespace Z0u
def sG := sgV [.val ty5, .val ty0] [(.bool, .dp)]
def eS : List EnTryz := [Z0j.eE N, Z1.eE N]
def an_ : Nat -> Option (List Nat)
 | 0 => some [1, 2, 5]
 | _ => none
def lP (p : List Dir) := lpE (eS N) N an_ p Tryz.f58 (endK Tb sG Tryz.f58 [] (un1 .bool))
def El0 (k_ : Nat) (w2 : I0) (d2 : R0) (d3 : A0) (i : Int) : Option (Bool) :=
 lP N [.r, .l, .r, .b] [] k_ (un 1 (cr ty0 w2 :: (.con (.box ⟨39, false, []⟩) [lf ty3 d2 .ro, lf ty6 d3 .ro] :: (un 2 (cr i64 i :: (un 22 []))))))
theorem ql0 (N : Nat) : ∀ k_, El0 N k_ = Z2e N k_ := qL (Z4e N)
def eE : EnTryz := ⟨58, sG, [.v ty5, .v ty0], _, Z0u N, pk1 .bool, enK Tryz.func58,
 fun d w => eo (eS N) Tryz.func58 N an_ (Y4 .bool) (tq (b := Z7u N (El0 N N) d w) (by rw [ql0]; rfl))⟩
end Z0u
namespace Z6w
def sG := sgV [.val i64] [(ty0, .dp)]
def eS (N : Nat) : List EnTryz := []
def an_ : Nat -> Option (List Nat)
 | 0 => some [0, 3]
 | _ => none
def lP (p : List Dir) := lpE (eS N) N an_ p Tryz.f152 (endK Tb sG Tryz.f152 [] (un1 ty0))
def El0 (k_ : Nat) (n2 : Int) (l : I0) : Option I0 :=
 lP N [.r, .r, .l, .b] [] k_ (cr i64 n2 :: (un 2 (cd ty0 l :: (un 9 []))))
theorem ql0 (N : Nat) : ∀ k_, El0 N k_ = Z7e N k_ := qL (Z0a0 N)
def eE : EnTryz := ⟨152, sG, [.v i64], _, Z6w N, pk1 ty0, enK Tryz.func152,
 fun n => eo (eS N) Tryz.func152 N an_ (Y4 ty0) (tq (b := Z0co N (El0 N N) n) (by rw [ql0]; rfl))⟩
end Z6w
namespace Z6x
def sG := sgV [.val ty4, .val ty4, .val ty0] [(ty0, .dp), (.bool, .dp)]
def eS (N : Nat) : List EnTryz := []
def an_ : Nat -> Option (List Nat)
 | 0 => some [3, 4, 8, 9]
 | _ => none
def lP (p : List Dir) := lpE (eS N) N an_ p Tryz.f194 (endK Tb sG Tryz.f194 [] (un2 ty0 .bool))
def El0 (k_ : Nat) (a2 : Int) (a3 : I0) (f2 : Int) (f3 : I0) (x : I0) (i : Int) : Option (List Int × Bool) :=
 lP N [.r, .r, .r, .l, .r, .b] [] k_ (un 3 (.con (.box ⟨145, false, []⟩) [lf i64 a2 .ro, lf ty0 a3 .ro] :: (.con (.box ⟨110, false, []⟩) [lf i64 f2 .ro, lf ty0 f3 .ro] :: (un 3 (cd ty0 x :: (cr i64 i :: (un 69 [])))))))
theorem ql0 (N : Nat) : ∀ k_, El0 N k_ = Z7f N k_ := qL (Z0a1 N)
def eE : EnTryz := ⟨194, sG, [.v ty4, .v ty4, .v ty0], _, Z6x N, pk2 ty0 .bool, enK Tryz.func194,
 fun a f c => eo (eS N) Tryz.func194 N an_ (Yh ty0 .bool) (tq (b := Z0b3 N (El0 N N) a f c) (by rw [ql0]; rfl))⟩
end Z6x
namespace Z8a
def sG := sgV [.val ty5, .val ty8, .val i64, .val ty0, .val ty0] [(ty13, .dp)]
theorem eN : Enterable Tryz.prog 151 := Y2p Tryz.func151 (code := Tryz.f151.body.getD .skip) (by kernel_rfl) (by kernel_rfl)
def eS (Rf : D0 -> Q0 -> Int -> I0 -> I0 -> Option (List (List Int × List Int))) (hR : OkP (Option (List (List Int × List Int))) [.v ty5, .v ty8, .v i64, .v ty0, .v ty0] Rf (fun xs_ q => ∀ x, q = some x -> FnOk Tryz.prog 151 sG xs_ (pk1 ty13 x))) : List EnTryz := [Z6x.eE N, ⟨151, sG, [.v ty5, .v ty8, .v i64, .v ty0, .v ty0], List (List Int × List Int), Rf, pk1 ty13, eN, hR⟩]
def an_ : Nat -> Option (List Nat)
 | 0 => some [2, 3, 4, 5, 6, 11, 12]
 | _ => none
def lP (Rf : D0 -> Q0 -> Int -> I0 -> I0 -> Option (List (List Int × List Int))) (hR : OkP (Option (List (List Int × List Int))) [.v ty5, .v ty8, .v i64, .v ty0, .v ty0] Rf (fun xs_ q => ∀ x, q = some x -> FnOk Tryz.prog 151 sG xs_ (pk1 ty13 x))) (p : List Dir) := lpE (eS N Rf hR) N an_ p Tryz.f151 (endK Tb sG Tryz.f151 [] (un1 ty13))
def El0 (Rf : D0 -> Q0 -> Int -> I0 -> I0 -> Option (List (List Int × List Int))) (hR : OkP (Option (List (List Int × List Int))) [.v ty5, .v ty8, .v i64, .v ty0, .v ty0] Rf (fun e q => ∀ x, q = some x -> FnOk Tryz.prog 151 sG e (pk1 ty13 x))) (k_ : Nat) (k2 : Int) (a : I0) (c : I0) (d2 : R0) (d3 : A0) (q2 : Int) (q3 : A0) (q4 : I0) (d : List (List Int × List Int)) (i : Int) : Option (List (List Int × List Int)) :=
 lP N Rf hR [.r, .r, .r, .l, .r, .b] [] k_ (un 2 (cr i64 k2 :: (cr ty0 a :: (cr ty0 c :: (.con (.box ⟨39, false, []⟩) [lf ty3 d2 .ro, lf ty6 d3 .ro] :: (.con (.box ⟨44, false, []⟩) [lf i64 q2 .ro, lf ty9 q3 .ro, lf ty0 q4 .ro] :: (un 4 (cd ty13 d :: (cr i64 i :: (un 54 []))))))))))
theorem ql0 (N : Nat) (Rf : D0 -> Q0 -> Int -> I0 -> I0 -> Option (List (List Int × List Int))) (hR : OkP (Option (List (List Int × List Int))) [.v ty5, .v ty8, .v i64, .v ty0, .v ty0] Rf (fun xs_ q => ∀ x, q = some x -> FnOk Tryz.prog 151 sG xs_ (pk1 ty13 x))) : ∀ k_, El0 N Rf hR k_ = Z7g N Rf k_
 | 0 => by kernel_rfl
 | k_ + 1 => (show El0 N Rf hR (k_ + 1) = Z0a2 N Rf (El0 N Rf hR k_) from by kernel_rfl).trans (by simp only [ql0 N Rf hR k_]; rfl)
theorem vV (Rf : D0 -> Q0 -> Int -> I0 -> I0 -> Option (List (List Int × List Int))) (hR : OkP (Option (List (List Int × List Int))) [.v ty5, .v ty8, .v i64, .v ty0, .v ty0] Rf (fun xs_ q => ∀ x, q = some x -> FnOk Tryz.prog 151 sG xs_ (pk1 ty13 x))) (d : D0) (q : Q0) (k : Int) (vals : I0) (facts : I0) :
  evE (eS N Rf hR) N an_ sG Tryz.f151 [.val ty5 d, .val ty8 q, .val i64 k, .val ty0 vals, .val ty0 facts] (un1 ty13) = Z9r N Rf (El0 N Rf hR N) d q k vals facts := by kernel_rfl
theorem oK (N : Nat) : ∀ k_, OkP (Option (List (List Int × List Int))) [.v ty5, .v ty8, .v i64, .v ty0, .v ty0] (Z3j N k_) (fun xs_ q => ∀ x, q = some x -> FnOk Tryz.prog 151 sG xs_ (pk1 ty13 x))
 | 0 => fun d q k vals facts =>  fun x h => absurd (show (none : Option (List (List Int × List Int))) = some x from h) (by simp)
 | k_ + 1 => fun d q k vals facts => Y5a tab_ok (es := eS N (Z3j N k_) (oK N k_)) (by kernel_rfl) mixed Tryz.func151 (by kernel_rfl) ⟨⟨rfl, rfl⟩, rfl, rfl⟩ (Y4 ty13) ((vV N _ _ d q k vals facts).trans (by rw [ql0]; rfl))
def eE : EnTryz := ⟨151, sG, [.v ty5, .v ty8, .v i64, .v ty0, .v ty0], List (List Int × List Int), Z8a N, pk1 ty13, eN, oK N N⟩
end Z8a
namespace Z31
def sG := sgV [.val ty5, .val ty8] [(ty13, .dp)]
def eS : List EnTryz := [Z2.eE N, Z6w.eE N, Z8a.eE N]
def eE : EnTryz := ⟨97, sG, [.v ty5, .v ty8], _, Z31 N, pk1 ty13, enK Tryz.func97,
 fun d q => eo (eS N) Tryz.func97 N an0 (Y4 ty13)⟩
end Z31
namespace Z19
def sG := sgV [.val ty0] [(ty0, .dp)]
def eS (N : Nat) : List EnTryz := []
def an_ : Nat -> Option (List Nat)
 | 0 => some [0, 3, 4]
 | 2 => some [0, 3, 4, 5]
 | _ => none
def lP (p : List Dir) := lpE (eS N) N an_ p Tryz.f60 (endK Tb sG Tryz.f60 [] (un1 ty0))
def El1 (a : Nat) (k_ : Nat) (l3 : I0) (c : I0) (i2 : Int) (k : Int) : Option I0 :=
 lP N [.r, .r, .l, .r, .b, .b, .r, .l, .b, .r, .l, .b] [lP N [.r, .r, .l, .r, .b] [] a] k_ (cr ty0 l3 :: (un 2 (cd ty0 c :: (cr i64 i2 :: (cr i64 k :: (un 41 []))))))
def El0 (k_ : Nat) (l2 : I0) (a : I0) (i : Int) : Option I0 :=
 lP N [.r, .r, .l, .r, .b] [] k_ (cr ty0 l2 :: (un 2 (cd ty0 a :: (cr i64 i :: (un 42 [])))))
theorem ql1 (N : Nat) (k0_ : Nat) : ∀ k_, El1 N k0_ k_ = Z2q (El0 N k0_) N k_ := qL (Z48 N (El0 N k0_))
theorem ql0 (N : Nat) : ∀ k_, El0 N k_ = Z0z N k_
 | 0 => by kernel_rfl
 | k_ + 1 => (show El0 N (k_ + 1) = Z5p N (El1 N k_ N) (El0 N k_) from by kernel_rfl).trans (by simp only [ql1, ql0 N k_]; rfl)
def eE : EnTryz := ⟨60, sG, [.v ty0], _, Z19 N, pk1 ty0, enK Tryz.func60,
 fun l => eo (eS N) Tryz.func60 N an_ (Y4 ty0) (tq (b := Z98 N (El0 N N) l) (by rw [ql0]; rfl))⟩
end Z19
namespace Z6a
def sG := sgV [.val ty5, .val ty0] [(.bool, .dp)]
def eS : List EnTryz := [Z0j.eE N]
def an_ : Nat -> Option (List Nat)
 | 0 => some [1, 2, 5]
 | _ => none
def lP (p : List Dir) := lpE (eS N) N an_ p Tryz.f116 (endK Tb sG Tryz.f116 [] (un1 .bool))
def El0 (k_ : Nat) (l2 : I0) (d2 : R0) (d3 : A0) (i : Int) : Option (Bool) :=
 lP N [.r, .l, .r, .b] [] k_ (un 1 (cr ty0 l2 :: (.con (.box ⟨39, false, []⟩) [lf ty3 d2 .ro, lf ty6 d3 .ro] :: (un 2 (cr i64 i :: (un 32 []))))))
theorem ql0 (N : Nat) : ∀ k_, El0 N k_ = Z79 N k_ := qL (Z99 N)
def eE : EnTryz := ⟨116, sG, [.v ty5, .v ty0], _, Z6a N, pk1 .bool, enK Tryz.func116,
 fun d l => eo (eS N) Tryz.func116 N an_ (Y4 .bool) (tq (b := Z0bv N (El0 N N) d l) (by rw [ql0]; rfl))⟩
end Z6a
namespace Z1v
def sG := sgV [.val ty5, .val ty0] [(ty5, .dp), (.bool, .dp)]
def eS : List EnTryz := [Z1.eE N, Z6a.eE N]
def an_ : Nat -> Option (List Nat)
 | 0 => some [1, 2, 4, 6, 7]
 | _ => none
def lP (p : List Dir) := lpE (eS N) N an_ p Tryz.f61 (endK Tb sG Tryz.f61 [] (un2 ty5 .bool))
def El0 (k_ : Nat) (l2 : I0) (d2 : R0) (d3 : A0) (t4 : R0) (a : A0) (x : R0) (x2 : A0) (i : Int) : Option (D0 × Bool) :=
 lP N [.r, .r, .r, .l, .r, .b] [] k_ (un 1 (cr ty0 l2 :: (.con (.box ⟨39, false, []⟩) [lf ty3 d2 .ro, lf ty6 d3 .ro] :: (un 1 (.con (.box ⟨39, false, []⟩) [lf ty3 t4 .dp, lf ty6 a .dp] :: (un 1 (.con (.box ⟨39, false, []⟩) [lf ty3 x .dp, lf ty6 x2 .dp] :: (cr i64 i :: (un 43 [])))))))))
theorem ql0 (N : Nat) : ∀ k_, El0 N k_ = Z4w N k_ := qL (Z8b N)
def eE : EnTryz := ⟨61, sG, [.v ty5, .v ty0], _, Z1v N, pk2 ty5 .bool, enK Tryz.func61,
 fun d l => eo (eS N) Tryz.func61 N an_ (Yh ty5 .bool) (tq (b := Z9n N (El0 N N) d l) (by rw [ql0]; rfl))⟩
end Z1v
namespace Z7h
def sG := sgV [.val ty3, .val ty4] [(ty0, .dp)]
def eS : List EnTryz := [Z0r.eE N]
def eE : EnTryz := ⟨149, sG, [.v ty3, .v ty4], _, Z7h N, pk1 ty0, enK Tryz.func149,
 fun l f => eo (eS N) Tryz.func149 N an0 (Y4 ty0)⟩
end Z7h
namespace Z40
def sG := sgV [.val ty3, .val ty4, .val ty4] [(.bool, .dp)]
def eS : List EnTryz := [Z0r.eE N, Z7h.eE N, Z6l.eE N]
def eE : EnTryz := ⟨94, sG, [.v ty3, .v ty4, .v ty4], _, Z40 N, pk1 .bool, enK Tryz.func94,
 fun l a b => eo (eS N) Tryz.func94 N an0 (Y4 .bool)⟩
end Z40
namespace Z8c
def sG := sgV [.val ty5, .val i64] [(ty0, .dp)]
def eS : List EnTryz := [Z1.eE N, Z0j.eE N, Z40.eE N]
def an_ : Nat -> Option (List Nat)
 | 0 => some [1, 2, 5, 6]
 | _ => none
def lP (p : List Dir) := lpE (eS N) N an_ p Tryz.f96 (endK Tb sG Tryz.f96 [] (un1 ty0))
def El0 (k_ : Nat) (i2 : Int) (d2 : R0) (d3 : A0) (a : I0) (k : Int) : Option I0 :=
 lP N [.r, .r, .l, .r, .b] [] k_ (un 1 (cr i64 i2 :: (.con (.box ⟨39, false, []⟩) [lf ty3 d2 .ro, lf ty6 d3 .ro] :: (un 2 (cd ty0 a :: (cr i64 k :: (un 38 [])))))))
theorem ql0 (N : Nat) : ∀ k_, El0 N k_ = Z5v N k_ := qL (Z7z N)
def eE : EnTryz := ⟨96, sG, [.v ty5, .v i64], _, Z8c N, pk1 ty0, enK Tryz.func96,
 fun d i => eo (eS N) Tryz.func96 N an_ (Y4 ty0) (tq (b := Z0cp N (El0 N N) d i) (by rw [ql0]; rfl))⟩
end Z8c
namespace Z1h
def sG := sgV [.val ty5] [(ty12, .dp)]
def eS : List EnTryz := [Z1.eE N, Z8c.eE N]
def an_ : Nat -> Option (List Nat)
 | 0 => some [1, 3, 4]
 | _ => none
def lP (p : List Dir) := lpE (eS N) N an_ p Tryz.f38 (endK Tb sG Tryz.f38 [] (un1 ty12))
def El0 (k_ : Nat) (d2 : R0) (d3 : A0) (a : L0) (i : Int) : Option L0 :=
 lP N [.r, .r, .l, .r, .b] [] k_ (un 1 (.con (.box ⟨39, false, []⟩) [lf ty3 d2 .ro, lf ty6 d3 .ro] :: (un 1 (cd ty12 a :: (cr i64 i :: (un 26 []))))))
theorem ql0 (N : Nat) : ∀ k_, El0 N k_ = Z56 N k_ := qL (Z6y N)
def eE : EnTryz := ⟨38, sG, [.v ty5], _, Z1h N, pk1 ty12, enK Tryz.func38,
 fun d => eo (eS N) Tryz.func38 N an_ (Y4 ty12) (tq (b := Z0be N (El0 N N) d) (by rw [ql0]; rfl))⟩
end Z1h
namespace Z4s
def sG := sgV [.val ty5] [(.bool, .dp)]
def eS : List EnTryz := [Z1.eE N, Z1h.eE N]
def eE : EnTryz := ⟨198, sG, [.v ty5], _, Z4s N, pk1 .bool, enK Tryz.func198,
 fun d => eo (eS N) Tryz.func198 N an0 (Y4 .bool)⟩
end Z4s
namespace Z1s
def sG := sgV [.val ty5, .val ty0] [(.bool, .dp)]
def eS : List EnTryz := [Z1v.eE N, Z4s.eE N]
def eE : EnTryz := ⟨156, sG, [.v ty5, .v ty0], _, Z1s N, pk1 .bool, enK Tryz.func156,
 fun d l => eo (eS N) Tryz.func156 N an0 (Y4 .bool)⟩
end Z1s
namespace Z14
def sG := sgV [.val ty5, .val ty8] [(ty12, .dp)]
def eS : List EnTryz := [Z19.eE N, Z1s.eE N, Z31.eE N]
def an_ : Nat -> Option (List Nat)
 | 0 => some [2, 5, 6, 7]
 | _ => none
def lP (p : List Dir) := lpE (eS N) N an_ p Tryz.f100 (endK Tb sG Tryz.f100 [] (un1 ty12))
def El0 (k_ : Nat) (d2 : R0) (d3 : A0) (a : L0) (l : List (List Int × List Int)) (i : Int) : Option L0 :=
 lP N [.r, .r, .r, .l, .r, .b] [] k_ (un 2 (.con (.box ⟨39, false, []⟩) [lf ty3 d2 .ro, lf ty6 d3 .ro] :: (un 2 (cd ty12 a :: (cd ty13 l :: (cr i64 i :: (un 25 [])))))))
theorem ql0 (N : Nat) : ∀ k_, El0 N k_ = Z66 N k_ := qL (Z94 N)
def eE : EnTryz := ⟨100, sG, [.v ty5, .v ty8], _, Z14 N, pk1 ty12, enK Tryz.func100,
 fun d q => eo (eS N) Tryz.func100 N an_ (Y4 ty12) (tq (b := Z0ac N (El0 N N) d q) (by rw [ql0]; rfl))⟩
end Z14
namespace Z4l
def sG := sgV [.val ty5] [(ty0, .dp)]
def eS : List EnTryz := [Z1h.eE N]
def an_ : Nat -> Option (List Nat)
 | 0 => some [3, 4, 5]
 | _ => none
def lP (p : List Dir) := lpE (eS N) N an_ p Tryz.f110 (endK Tb sG Tryz.f110 [] (un1 ty0))
def El0 (k_ : Nat) (a : I0) (l : L0) (i : Int) : Option I0 :=
 lP N [.r, .r, .r, .l, .r, .b] [] k_ (un 3 (cd ty0 a :: (cd ty12 l :: (cr i64 i :: (un 18 [])))))
theorem ql0 (N : Nat) : ∀ k_, El0 N k_ = Z49 N k_ := qL (Z6b N)
def eE : EnTryz := ⟨110, sG, [.v ty5], _, Z4l N, pk1 ty0, enK Tryz.func110,
 fun d => eo (eS N) Tryz.func110 N an_ (Y4 ty0) (tq (b := Z0a3 N (El0 N N) d) (by rw [ql0]; rfl))⟩
end Z4l
namespace Z4
def sG := sgV [.val ty5] [(i64, .dp)]
def eS : List EnTryz := [Z1.eE N, Z4l.eE N]
def an_ : Nat -> Option (List Nat)
 | 0 => some [3, 4, 5]
 | _ => none
def lP (p : List Dir) := lpE (eS N) N an_ p Tryz.f53 (endK Tb sG Tryz.f53 [] (un1 i64))
def El0 (k_ : Nat) (n : Int) (l : I0) (i : Int) : Option (Int) :=
 lP N [.r, .r, .r, .r, .l, .r, .b] [] k_ (un 3 (cr i64 n :: (cd ty0 l :: (cr i64 i :: (un 18 [])))))
theorem ql0 (N : Nat) : ∀ k_, El0 N k_ = Z2r N k_ := qL (Z5e N)
def eE : EnTryz := ⟨53, sG, [.v ty5], _, Z4 N, pk1 i64, enK Tryz.func53,
 fun d => eo (eS N) Tryz.func53 N an_ (Y4 i64) (tq (b := Z95 N (El0 N N) d) (by rw [ql0]; rfl))⟩
end Z4
namespace Z25
def sG := sgV [.val ty5, .val i64] [(ty0, .dp), (.bool, .dp)]
def eS : List EnTryz := [Z19.eE N, Z4.eE N, Z0j.eE N, Z1h.eE N]
def an_ : Nat -> Option (List Nat)
 | 0 => some [1, 6, 7, 8]
 | _ => none
def lP (p : List Dir) := lpE (eS N) N an_ p Tryz.f117 (endK Tb sG Tryz.f117 [] (un2 ty0 .bool))
def El0 (k_ : Nat) (k2 : Int) (b : L0) (a : I0) (i : Int) : Option (List Int × Bool) :=
 lP N [.r, .r, .r, .r, .l, .r, .b] [] k_ (un 1 (cr i64 k2 :: (un 4 (cd ty12 b :: (cd ty0 a :: (cr i64 i :: (un 42 [])))))))
theorem ql0 (N : Nat) : ∀ k_, El0 N k_ = Z4t N k_ := qL (Z72 N)
def eE : EnTryz := ⟨117, sG, [.v ty5, .v i64], _, Z25 N, pk2 ty0 .bool, enK Tryz.func117,
 fun d k => eo (eS N) Tryz.func117 N an_ (Yh ty0 .bool) (tq (b := Z0ad N (El0 N N) d k) (by rw [ql0]; rfl))⟩
end Z25
namespace Z6c
def sG := sgV [.val ty0, .val i64] [(.bool, .dp)]
def eS (N : Nat) : List EnTryz := []
def an_ : Nat -> Option (List Nat)
 | 0 => some [0, 1, 5]
 | _ => none
def lP (p : List Dir) := lpE (eS N) N an_ p Tryz.f169 (endK Tb sG Tryz.f169 [] (un1 .bool))
def El0 (k_ : Nat) (l2 : I0) (x2 : Int) (i : Int) : Option (Bool) :=
 lP N [.r, .l, .r, .b] [] k_ (cr ty0 l2 :: (cr i64 x2 :: (un 3 (cr i64 i :: (un 12 [])))))
theorem ql0 (N : Nat) : ∀ k_, El0 N k_ = Z7a N k_ := qL (Z9a N)
def eE : EnTryz := ⟨169, sG, [.v ty0, .v i64], _, Z6c N, pk1 .bool, enK Tryz.func169,
 fun l x => eo (eS N) Tryz.func169 N an_ (Y4 .bool) (tq (b := Z0bw N (El0 N N) l x) (by rw [ql0]; rfl))⟩
end Z6c
namespace Z29
def sG := sgV [.val ty12, .val ty0] [(.bool, .dp)]
def eS : List EnTryz := [Z6c.eE N]
def an_ : Nat -> Option (List Nat)
 | 0 => some [0, 1, 5]
 | 2 => some [0, 1, 5, 6, 7]
 | _ => none
def lP (p : List Dir) := lpE (eS N) N an_ p Tryz.f157 (endK Tb sG Tryz.f157 [] (un1 .bool))
def El1 (a : Nat) (k_ : Nat) (l3 : L0) (s3 : I0) (i2 : Int) (c : Bool) (k : Int) : Option (Bool) :=
 lP N [.r, .l, .r, .b, .b, .r, .l, .b, .r, .l, .r, .b] [lP N [.r, .l, .r, .b] [] a] k_ (cr ty12 l3 :: (cr ty0 s3 :: (un 3 (cr i64 i2 :: (cr .bool c :: (cr i64 k :: (un 28 [])))))))
def El0 (k_ : Nat) (l2 : L0) (s2 : I0) (i : Int) : Option (Bool) :=
 lP N [.r, .l, .r, .b] [] k_ (cr ty12 l2 :: (cr ty0 s2 :: (un 3 (cr i64 i :: (un 30 [])))))
theorem ql1 (N : Nat) (k0_ : Nat) : ∀ k_, El1 N k0_ k_ = Z8d (El0 N k0_) N k_ := qL (Z0ae N (El0 N k0_))
theorem ql0 (N : Nat) : ∀ k_, El0 N k_ = Z3k N k_
 | 0 => by kernel_rfl
 | k_ + 1 => (show El0 N (k_ + 1) = Z8s N (El1 N k_ N) (El0 N k_) from by kernel_rfl).trans (by simp only [ql1, ql0 N k_]; rfl)
def eE : EnTryz := ⟨157, sG, [.v ty12, .v ty0], _, Z29 N, pk1 .bool, enK Tryz.func157,
 fun l s => eo (eS N) Tryz.func157 N an_ (Y4 .bool) (tq (b := Z0bf N (El0 N N) l s) (by rw [ql0]; rfl))⟩
end Z29
namespace Z2y
def sG := sgV [.val ty12, .val ty0] [(.bool, .dp)]
def eS : List EnTryz := [Z29.eE N]
def eE : EnTryz := ⟨101, sG, [.v ty12, .v ty0], _, Z2y N, pk1 .bool, enK Tryz.func101,
 fun l s => eo (eS N) Tryz.func101 N an0 (Y4 .bool)⟩
end Z2y
namespace Z2z
def sG := sgV [.val ty5, .val ty0, .val ty0] [(i64, .dp)]
def eS : List EnTryz := [Z0u.eE N, Z6a.eE N]
def an_ : Nat -> Option (List Nat)
 | 0 => some [1, 2, 7, 8]
 | _ => none
def lP (p : List Dir) := lpE (eS N) N an_ p Tryz.f118 (endK Tb sG Tryz.f118 [] (un1 i64))
def El0 (k_ : Nat) (w2 : I0) (l2 : I0) (n : Int) (i : Int) : Option (Int) :=
 lP N [.r, .r, .r, .l, .r, .b] [] k_ (un 1 (cr ty0 w2 :: (cr ty0 l2 :: (un 4 (cr i64 n :: (cr i64 i :: (un 26 [])))))))
theorem ql0 (N : Nat) : ∀ k_, El0 N k_ = Z1g N k_ := qL (Z3v N)
def eE : EnTryz := ⟨118, sG, [.v ty5, .v ty0, .v ty0], _, Z2z N, pk1 i64, enK Tryz.func118,
 fun d w l => eo (eS N) Tryz.func118 N an_ (Y4 i64) (tq (b := Z96 N (El0 N N) d w l) (by rw [ql0]; rfl))⟩
end Z2z
namespace Z8t
def sG := sgV [.val ty5, .val ty0, .val ty8] [(i64, .dp)]
def eS : List EnTryz := [Z4.eE N, Z25.eE N, Z2y.eE N, Z2z.eE N, Z14.eE N]
def an_ : Nat -> Option (List Nat)
 | 0 => some [1, 3, 7, 8, 9]
 | _ => none
def lP (p : List Dir) := lpE (eS N) N an_ p Tryz.f63 (endK Tb sG Tryz.f63 [] (un1 i64))
def El0 (k_ : Nat) (w2 : I0) (d2 : R0) (d3 : A0) (n : Int) (a : L0) (k : Int) : Option (Int) :=
 lP N [.r, .r, .r, .l, .r, .b] [] k_ (un 1 (cr ty0 w2 :: (un 1 (.con (.box ⟨39, false, []⟩) [lf ty3 d2 .ro, lf ty6 d3 .ro] :: (un 3 (cr i64 n :: (cd ty12 a :: (cr i64 k :: (un 27 [])))))))))
theorem ql0 (N : Nat) : ∀ k_, El0 N k_ = Z8w N k_ := qL (Z0at N)
def eE : EnTryz := ⟨63, sG, [.v ty5, .v ty0, .v ty8], _, Z8t N, pk1 i64, enK Tryz.func63,
 fun d w q => eo (eS N) Tryz.func63 N an_ (Y4 i64) (tq (b := Z0bx N (El0 N N) d w q) (by rw [ql0]; rfl))⟩
end Z8t
namespace Z2s
def sG := sgV [.val ty5, .val ty0] [(i64, .dp)]
def eS : List EnTryz := [Z0u.eE N, Z1h.eE N]
def an_ : Nat -> Option (List Nat)
 | 0 => some [1, 5, 6, 7]
 | 2 => some [1, 5, 6, 7, 8, 9]
 | _ => none
def lP (p : List Dir) := lpE (eS N) N an_ p Tryz.f62 (endK Tb sG Tryz.f62 [] (un1 i64))
def El1 (a : Nat) (k_ : Nat) (w3 : I0) (n2 : Int) (b2 : L0) (i2 : Int) (s : Int) (k : Int) : Option (Int) :=
 lP N [.r, .r, .r, .r, .l, .r, .b, .b, .r, .l, .b, .r, .l, .r, .b] [lP N [.r, .r, .r, .r, .l, .r, .b] [] a] k_ (un 1 (cr ty0 w3 :: (un 3 (cr i64 n2 :: (cd ty12 b2 :: (cr i64 i2 :: (cr i64 s :: (cr i64 k :: (un 37 [])))))))))
def El0 (k_ : Nat) (w2 : I0) (n : Int) (b : L0) (i : Int) : Option (Int) :=
 lP N [.r, .r, .r, .r, .l, .r, .b] [] k_ (un 1 (cr ty0 w2 :: (un 3 (cr i64 n :: (cd ty12 b :: (cr i64 i :: (un 39 [])))))))
theorem ql1 (N : Nat) (k0_ : Nat) : ∀ k_, El1 N k0_ k_ = Z16 (El0 N k0_) N k_ := qL (Z36 N (El0 N k0_))
theorem ql0 (N : Nat) : ∀ k_, El0 N k_ = Z0w N k_
 | 0 => by kernel_rfl
 | k_ + 1 => (show El0 N (k_ + 1) = Z4a N (El1 N k_ N) (El0 N k_) from by kernel_rfl).trans (by simp only [ql1, ql0 N k_]; rfl)
def eE : EnTryz := ⟨62, sG, [.v ty5, .v ty0], _, Z2s N, pk1 i64, enK Tryz.func62,
 fun d w => eo (eS N) Tryz.func62 N an_ (Y4 i64) (tq (b := Z9o N (El0 N N) d w) (by rw [ql0]; rfl))⟩
end Z2s
namespace Z3w
def sG := sgV [.val i64, .val i64] [(i64, .dp)]
def eS (N : Nat) : List EnTryz := []
def an_ : Nat -> Option (List Nat)
 | 0 => some [0, 1]
 | _ => none
def lP (p : List Dir) := lpE (eS N) N an_ p Tryz.f84 (endK Tb sG Tryz.f84 [] (un1 i64))
def El0 (k_ : Nat) (a2 : Int) (b2 : Int) : Option (Int) :=
 lP N [.r, .l, .b] [] k_ (cr i64 a2 :: (cr i64 b2 :: (un 12 [])))
theorem ql0 (N : Nat) : ∀ k_, El0 N k_ = Z8e N k_ := qL (Z0af N)
def eE : EnTryz := ⟨84, sG, [.v i64, .v i64], _, Z3w N, pk1 i64, enK Tryz.func84,
 fun a b => eo (eS N) Tryz.func84 N an_ (Y4 i64) (tq (b := Z0a7 N (El0 N N) a b) (by rw [ql0]; rfl))⟩
end Z3w
namespace Z3e
def sG := sgV [.val i64, .val i64] [(ty15, .dp)]
def eS : List EnTryz := [Z3w.eE N]
def eE : EnTryz := ⟨64, sG, [.v i64, .v i64], _, Z3e N, pk1 ty15, enK Tryz.func64,
 fun n m => eo (eS N) Tryz.func64 N an0 (Y4 ty15)⟩
end Z3e
namespace Z1j
def sG := sgV [.val ty5, .val ty0, .val ty8] [(ty15, .dp), (.bool, .dp)]
def eS : List EnTryz := [Z2.eE N, Z0u.eE N, Z8t.eE N, Z2s.eE N, Z3e.eE N]
def eE : EnTryz := ⟨21, sG, [.v ty5, .v ty0, .v ty8], _, Z1j N, pk2 ty15 .bool, enK Tryz.func21,
 fun d w q => eo (eS N) Tryz.func21 N an0 (Yh ty15 .bool)⟩
end Z1j
namespace Z4u
def sG := sgV [.val ty0, .val ty0] [(.bool, .dp)]
def eS : List EnTryz := [Z6c.eE N]
def an_ : Nat -> Option (List Nat)
 | 0 => some [0, 1, 5]
 | _ => none
def lP (p : List Dir) := lpE (eS N) N an_ p Tryz.f115 (endK Tb sG Tryz.f115 [] (un1 .bool))
def El0 (k_ : Nat) (a2 : I0) (b2 : I0) (i : Int) : Option (Bool) :=
 lP N [.r, .l, .r, .b] [] k_ (cr ty0 a2 :: (cr ty0 b2 :: (un 3 (cr i64 i :: (un 12 [])))))
theorem ql0 (N : Nat) : ∀ k_, El0 N k_ = Z6z N k_ := qL (Z9p N)
def eE : EnTryz := ⟨115, sG, [.v ty0, .v ty0], _, Z4u N, pk1 .bool, enK Tryz.func115,
 fun a b => eo (eS N) Tryz.func115 N an_ (Y4 .bool) (tq (b := Z0au N (El0 N N) a b) (by rw [ql0]; rfl))⟩
end Z4u
namespace Z2t
def sG := sgV [.val ty5, .val ty8] [(ty12, .dp)]
def eS : List EnTryz := [Z4u.eE N, Z2.eE N, Z14.eE N, Z1h.eE N]
def an_ : Nat -> Option (List Nat)
 | 0 => some [2, 3, 5, 6, 7]
 | 2 => some [2, 3, 5, 6, 8, 9]
 | 4 => some [2, 3, 5, 6, 8, 9, 10]
 | 6 => some [2, 3, 5, 6, 8, 9, 10, 11, 12]
 | 8 => some [2, 3, 5, 6, 8, 9, 10, 11, 13]
 | 10 => some [2, 3, 5, 6, 14, 15]
 | 12 => some [2, 3, 5, 6, 14, 15, 16, 17]
 | _ => none
def lP (p : List Dir) := lpE (eS N) N an_ p Tryz.f59 (endK Tb sG Tryz.f59 [] (un1 ty12))
def El4 (a : Nat) (c : Nat) (k_ : Nat) (d : R0) (e : A0) (f : Int) (g : A0) (h : I0) (b5 : L0) (i : I0) (j : L0) (n4 : Int) (i4 : Int) (k : Int) (k2 : Int) : Option L0 :=
 lP N [.r, .r, .r, .r, .r, .l, .r, .b, .b, .r, .l, .b, .r, .b, .b, .r, .l, .b, .r, .r, .r, .b] [lP N [.r, .r, .r, .r, .r, .l, .r, .b] [] a, lP N [.r, .r, .r, .r, .r, .l, .r, .b, .b, .r, .l, .b, .r, .b] [lP N [.r, .r, .r, .r, .r, .l, .r, .b] [] a] c] k_ (un 2 (.con (.box ⟨39, false, []⟩) [lf ty3 d .ro, lf ty6 e .ro] :: (.con (.box ⟨44, false, []⟩) [lf i64 f .ro, lf ty9 g .ro, lf ty0 h .ro] :: (un 1 (cd ty12 b5 :: (cd ty0 i :: (un 1 (cd ty12 j :: (cr i64 n4 :: (cr i64 i4 :: (cr i64 k :: (un 1 (cr i64 k2 :: (un 111 []))))))))))))))
def El3 (a : Nat) (c : Nat) (k_ : Nat) (d8 : R0) (d9 : A0) (d : Int) (e : A0) (f : I0) (b4 : L0) (g : I0) (h : L0) (n3 : Int) (i3 : Int) (i : Int) (k : Int) : Option L0 :=
 lP N [.r, .r, .r, .r, .r, .l, .r, .b, .b, .r, .l, .b, .r, .b, .b, .r, .l, .b, .r, .l, .r, .b] [lP N [.r, .r, .r, .r, .r, .l, .r, .b] [] a, lP N [.r, .r, .r, .r, .r, .l, .r, .b, .b, .r, .l, .b, .r, .b] [lP N [.r, .r, .r, .r, .r, .l, .r, .b] [] a] c] k_ (un 2 (.con (.box ⟨39, false, []⟩) [lf ty3 d8 .ro, lf ty6 d9 .ro] :: (.con (.box ⟨44, false, []⟩) [lf i64 d .ro, lf ty9 e .ro, lf ty0 f .ro] :: (un 1 (cd ty12 b4 :: (cd ty0 g :: (un 1 (cd ty12 h :: (cr i64 n3 :: (cr i64 i3 :: (cr i64 i :: (cr i64 k :: (un 112 [])))))))))))))
def El2 (a : Nat) (k_ : Nat) (d6 : R0) (d7 : A0) (q8 : Int) (q9 : A0) (c : I0) (b3 : L0) (d : I0) (e : L0) (n2 : Int) (i2 : Int) : Option L0 :=
 lP N [.r, .r, .r, .r, .r, .l, .r, .b, .b, .r, .l, .b, .r, .b] [lP N [.r, .r, .r, .r, .r, .l, .r, .b] [] a] k_ (un 2 (.con (.box ⟨39, false, []⟩) [lf ty3 d6 .ro, lf ty6 d7 .ro] :: (.con (.box ⟨44, false, []⟩) [lf i64 q8 .ro, lf ty9 q9 .ro, lf ty0 c .ro] :: (un 1 (cd ty12 b3 :: (cd ty0 d :: (un 1 (cd ty12 e :: (cr i64 n2 :: (cr i64 i2 :: (un 114 [])))))))))))
def El6 (a : Nat) (k_ : Nat) (c : R0) (d : A0) (e : Int) (f : A0) (g : I0) (b7 : L0) (h : I0) (i : L0) (i6 : Int) (j : I0) (k3 : Int) : Option L0 :=
 lP N [.r, .r, .r, .r, .r, .r, .r, .l, .r, .b, .b, .r, .l, .b, .r, .l, .r, .b] [lP N [.r, .r, .r, .r, .r, .r, .r, .l, .r, .b] [] a] k_ (un 2 (.con (.box ⟨39, false, []⟩) [lf ty3 c .ro, lf ty6 d .ro] :: (.con (.box ⟨44, false, []⟩) [lf i64 e .ro, lf ty9 f .ro, lf ty0 g .ro] :: (un 1 (cd ty12 b7 :: (cd ty0 h :: (un 7 (cd ty12 i :: (cr i64 i6 :: (cd ty0 j :: (cr i64 k3 :: (un 107 []))))))))))))
def El5 (k_ : Nat) (a : R0) (c : A0) (d : Int) (e : A0) (f : I0) (b6 : L0) (g : I0) (h : L0) (i5 : Int) : Option L0 :=
 lP N [.r, .r, .r, .r, .r, .r, .r, .l, .r, .b] [] k_ (un 2 (.con (.box ⟨39, false, []⟩) [lf ty3 a .ro, lf ty6 c .ro] :: (.con (.box ⟨44, false, []⟩) [lf i64 d .ro, lf ty9 e .ro, lf ty0 f .ro] :: (un 1 (cd ty12 b6 :: (cd ty0 g :: (un 7 (cd ty12 h :: (cr i64 i5 :: (un 109 []))))))))))
def El1 (k_ : Nat) (d4 : R0) (d5 : A0) (q5 : Int) (q6 : A0) (q7 : I0) (b2 : L0) (a : I0) (c : L0) (n : Int) : Option L0 :=
 lP N [.r, .r, .r, .r, .r, .l, .r, .b] [] k_ (un 2 (.con (.box ⟨39, false, []⟩) [lf ty3 d4 .ro, lf ty6 d5 .ro] :: (.con (.box ⟨44, false, []⟩) [lf i64 q5 .ro, lf ty9 q6 .ro, lf ty0 q7 .ro] :: (un 1 (cd ty12 b2 :: (cd ty0 a :: (un 1 (cd ty12 c :: (cr i64 n :: (un 115 []))))))))))
def El0 (k_ : Nat) (d2 : R0) (d3 : A0) (q2 : Int) (q3 : A0) (q4 : I0) (b : L0) (a : I0) (i : Int) : Option L0 :=
 lP N [.r, .r, .r, .l, .r, .b] [] k_ (un 2 (.con (.box ⟨39, false, []⟩) [lf ty3 d2 .ro, lf ty6 d3 .ro] :: (.con (.box ⟨44, false, []⟩) [lf i64 q2 .ro, lf ty9 q3 .ro, lf ty0 q4 .ro] :: (un 1 (cd ty12 b :: (cd ty0 a :: (cr i64 i :: (un 117 []))))))))
theorem ql4 (N : Nat) (k0_ : Nat) (k1_ : Nat) : ∀ k_, El4 N k0_ k1_ k_ = Z2f (El2 N k0_ k1_) N k_ := qL (Z6e N (El2 N k0_ k1_))
theorem ql3 (N : Nat) (k0_ : Nat) (k1_ : Nat) : ∀ k_, El3 N k0_ k1_ k_ = Z2g (El2 N k0_ k1_) N k_
 | 0 => by kernel_rfl
 | k_ + 1 => (show El3 N k0_ k1_ (k_ + 1) = Z6f N (El2 N k0_ k1_) (El4 N k0_ k1_ N) (El3 N k0_ k1_ k_) from by kernel_rfl).trans (by simp only [ql4, ql3 N k0_ k1_ k_]; rfl)
theorem ql2 (N : Nat) (k0_ : Nat) : ∀ k_, El2 N k0_ k_ = Z1n (El1 N k0_) N k_
 | 0 => by kernel_rfl
 | k_ + 1 => (show El2 N k0_ (k_ + 1) = Z6g N (El1 N k0_) (El3 N k0_ k_ N) (El2 N k0_ k_) from by kernel_rfl).trans (by simp only [ql3, ql2 N k0_ k_]; rfl)
theorem ql6 (N : Nat) (k0_ : Nat) : ∀ k_, El6 N k0_ k_ = Z2h (El5 N k0_) N k_ := qL (Z6h N (El5 N k0_))
theorem ql5 (N : Nat) : ∀ k_, El5 N k_ = Z1a N k_
 | 0 => by kernel_rfl
 | k_ + 1 => (show El5 N (k_ + 1) = Z4f N (El6 N k_ N) (El5 N k_) from by kernel_rfl).trans (by simp only [ql6, ql5 N k_]; rfl)
theorem ql1 (N : Nat) : ∀ k_, El1 N k_ = Z1o N k_
 | 0 => by kernel_rfl
 | k_ + 1 => (show El1 N (k_ + 1) = Z6i N (El2 N k_ N) (El5 N N) (El1 N k_) from by kernel_rfl).trans (by simp only [ql2, ql5, ql1 N k_]; rfl)
theorem ql0 (N : Nat) : ∀ k_, El0 N k_ = Z3m N k_
 | 0 => by kernel_rfl
 | k_ + 1 => (show El0 N (k_ + 1) = Z6j N (El1 N N) (El0 N k_) from by kernel_rfl).trans (by simp only [ql1, ql0 N k_]; rfl)
def eE : EnTryz := ⟨59, sG, [.v ty5, .v ty8], _, Z2t N, pk1 ty12, enK Tryz.func59,
 fun d q => eo (eS N) Tryz.func59 N an_ (Y4 ty12) (tq (b := Z7v N (El0 N N) d q) (by rw [ql0]; rfl))⟩
end Z2t
namespace Z0q
def sG := sgV [.val ty5, .val ty8] [(i64, .dp)]
def eS : List EnTryz := [Z4.eE N, Z2.eE N, Z25.eE N, Z29.eE N, Z14.eE N]
def an_ : Nat -> Option (List Nat)
 | 0 => some [2, 3, 5, 6, 7]
 | _ => none
def lP (p : List Dir) := lpE (eS N) N an_ p Tryz.f193 (endK Tb sG Tryz.f193 [] (un1 i64))
def El0 (k_ : Nat) (d2 : R0) (d3 : A0) (q2 : Int) (q3 : A0) (q4 : I0) (n : Int) (l : L0) (k : Int) : Option (Int) :=
 lP N [.r, .r, .r, .l, .r, .b] [] k_ (un 2 (.con (.box ⟨39, false, []⟩) [lf ty3 d2 .ro, lf ty6 d3 .ro] :: (.con (.box ⟨44, false, []⟩) [lf i64 q2 .ro, lf ty9 q3 .ro, lf ty0 q4 .ro] :: (un 1 (cr i64 n :: (cd ty12 l :: (cr i64 k :: (un 28 []))))))))
theorem ql0 (N : Nat) : ∀ k_, El0 N k_ = Z1t N k_ := qL (Z41 N)
def eE : EnTryz := ⟨193, sG, [.v ty5, .v ty8], _, Z0q N, pk1 i64, enK Tryz.func193,
 fun d q => eo (eS N) Tryz.func193 N an_ (Y4 i64) (tq (b := Z4v N (El0 N N) d q) (by rw [ql0]; rfl))⟩
end Z0q
namespace Z2u
def sG := sgV [.val ty5, .val ty8] [(i64, .dp)]
def eS : List EnTryz := [Z19.eE N, Z1v.eE N, Z4.eE N, Z0q.eE N, Z2.eE N, Z1h.eE N, Z2t.eE N]
def an_ : Nat -> Option (List Nat)
 | 0 => some [2, 3, 5, 6, 7, 8]
 | 2 => some [2, 3, 5, 6, 7, 8, 9, 10]
 | _ => none
def lP (p : List Dir) := lpE (eS N) N an_ p Tryz.f144 (endK Tb sG Tryz.f144 [] (un1 i64))
def El1 (a : Nat) (k_ : Nat) (d4 : R0) (d5 : A0) (q5 : Int) (q6 : A0) (q7 : I0) (b2 : L0) (p2 : L0) (c : Int) (i2 : Int) (d : I0) (k : Int) : Option (Int) :=
 lP N [.r, .r, .r, .r, .r, .l, .r, .b, .b, .r, .l, .b, .r, .l, .r, .b] [lP N [.r, .r, .r, .r, .r, .l, .r, .b] [] a] k_ (un 2 (.con (.box ⟨39, false, []⟩) [lf ty3 d4 .ro, lf ty6 d5 .ro] :: (.con (.box ⟨44, false, []⟩) [lf i64 q5 .ro, lf ty9 q6 .ro, lf ty0 q7 .ro] :: (un 1 (cd ty12 b2 :: (cd ty12 p2 :: (cr i64 c :: (cr i64 i2 :: (cd ty0 d :: (cr i64 k :: (un 55 [])))))))))))
def El0 (k_ : Nat) (d2 : R0) (d3 : A0) (q2 : Int) (q3 : A0) (q4 : I0) (b : L0) (p : L0) (a : Int) (i : Int) : Option (Int) :=
 lP N [.r, .r, .r, .r, .r, .l, .r, .b] [] k_ (un 2 (.con (.box ⟨39, false, []⟩) [lf ty3 d2 .ro, lf ty6 d3 .ro] :: (.con (.box ⟨44, false, []⟩) [lf i64 q2 .ro, lf ty9 q3 .ro, lf ty0 q4 .ro] :: (un 1 (cd ty12 b :: (cd ty12 p :: (cr i64 a :: (cr i64 i :: (un 57 [])))))))))
theorem ql1 (N : Nat) (k0_ : Nat) : ∀ k_, El1 N k0_ k_ = Z2i (El0 N k0_) N k_ := qL (Z6k N (El0 N k0_))
theorem ql0 (N : Nat) : ∀ k_, El0 N k_ = Z1p N k_
 | 0 => by kernel_rfl
 | k_ + 1 => (show El0 N (k_ + 1) = Z4g N (El1 N k_ N) (El0 N k_) from by kernel_rfl).trans (by simp only [ql1, ql0 N k_]; rfl)
def eE : EnTryz := ⟨144, sG, [.v ty5, .v ty8], _, Z2u N, pk1 i64, enK Tryz.func144,
 fun d q => eo (eS N) Tryz.func144 N an_ (Y4 i64) (tq (b := Z7w N (El0 N N) d q) (by rw [ql0]; rfl))⟩
end Z2u
namespace Z3l
def sG := sgV [.val ty5, .val ty8] [(i64, .dp)]
def eS : List EnTryz := [Z2.eE N, Z4.eE N, Z2u.eE N]
def eE : EnTryz := ⟨83, sG, [.v ty5, .v ty8], _, Z3l N, pk1 i64, enK Tryz.func83,
 fun d q => eo (eS N) Tryz.func83 N an0 (Y4 i64)⟩
end Z3l
namespace Z1b
def sG := sgV [.val ty5, .val ty8] [(ty15, .dp), (.bool, .dp)]
def eS : List EnTryz := [Z2.eE N, Z3l.eE N, Z4.eE N, Z3w.eE N]
def eE : EnTryz := ⟨22, sG, [.v ty5, .v ty8], _, Z1b N, pk2 ty15 .bool, enK Tryz.func22,
 fun d q => eo (eS N) Tryz.func22 N an0 (Yh ty15 .bool)⟩
end Z1b
namespace Z3c
def sG := sgV [.val ty5, .val ty8, .val .bool] [(ty0, .dp), (.bool, .dp)]
def eS : List EnTryz := [Z4.eE N, Z25.eE N, Z29.eE N, Z2.eE N, Z14.eE N]
def an_ : Nat -> Option (List Nat)
 | 0 => some [2, 3, 8, 9]
 | _ => none
def lP (p : List Dir) := lpE (eS N) N an_ p Tryz.f145 (endK Tb sG Tryz.f145 [] (un2 ty0 .bool))
def El0 (k_ : Nat) (a : Bool) (d2 : R0) (d3 : A0) (l : L0) (k : Int) : Option (List Int × Bool) :=
 lP N [.r, .r, .r, .l, .r, .b] [] k_ (un 2 (cr .bool a :: (.con (.box ⟨39, false, []⟩) [lf ty3 d2 .ro, lf ty6 d3 .ro] :: (un 4 (cd ty12 l :: (cr i64 k :: (un 29 [])))))))
theorem ql0 (N : Nat) : ∀ k_, El0 N k_ = Z7i N k_ := qL (Z0a4 N)
def eE : EnTryz := ⟨145, sG, [.v ty5, .v ty8, .v .bool], _, Z3c N, pk2 ty0 .bool, enK Tryz.func145,
 fun d q a => eo (eS N) Tryz.func145 N an_ (Yh ty0 .bool) (tq (b := Z8f N (El0 N N) d q a) (by rw [ql0]; rfl))⟩
end Z3c
namespace Z37
def sG := sgV [.val ty5, .val ty8] [(ty0, .dp), (.bool, .dp)]
def eS : List EnTryz := [Z3c.eE N]
def eE : EnTryz := ⟨85, sG, [.v ty5, .v ty8], _, Z37 N, pk2 ty0 .bool, enK Tryz.func85,
 fun d q => eo (eS N) Tryz.func85 N an0 (Yh ty0 .bool)⟩
end Z37
namespace Z4b
def sG := sgV [.val ty5, .val ty8] [(.bool, .dp)]
def eS : List EnTryz := [Z37.eE N, Z2.eE N]
def eE : EnTryz := ⟨23, sG, [.v ty5, .v ty8], _, Z4b N, pk1 .bool, enK Tryz.func23,
 fun d q => eo (eS N) Tryz.func23 N an0 (Y4 .bool)⟩
end Z4b
namespace Z38
def sG := sgV [.val ty5, .val ty8] [(ty0, .dp), (.bool, .dp)]
def eS : List EnTryz := [Z3c.eE N]
def eE : EnTryz := ⟨86, sG, [.v ty5, .v ty8], _, Z38 N, pk2 ty0 .bool, enK Tryz.func86,
 fun d q => eo (eS N) Tryz.func86 N an0 (Yh ty0 .bool)⟩
end Z38
namespace Z3s
def sG := sgV [.val ty5, .val ty8] [(.bool, .dp)]
def eS : List EnTryz := [Z38.eE N]
def eE : EnTryz := ⟨24, sG, [.v ty5, .v ty8], _, Z3s N, pk1 .bool, enK Tryz.func24,
 fun d q => eo (eS N) Tryz.func24 N an0 (Y4 .bool)⟩
end Z3s
namespace laws_FnProbability
def sG := sgV [.val ty1] [(.bool, .dp)]
def eS : List EnTryz := [Z18.eE N, Z1b.eE N, Z4b.eE N, Z3s.eE N, Z0ay.eE N, Z2m.eE N, Z0y.eE N, Z1j.eE N]
def an_ : Nat -> Option (List Nat)
 | 0 => some [3, 5, 6, 12, 13]
 | _ => none
def lP (p : List Dir) := lpE (eS N) N an_ p Tryz.f4 (endK Tb sG Tryz.f4 [] (un1 .bool))
def El0 (k_ : Nat) (d : R0) (d2 : A0) (q : Int) (q2 : A0) (q3 : I0) (a : Int) (a2 : Int) (c : I0) (i : Int) : Option (Bool) :=
 lP N [.r, .r, .r, .r, .r, .r, .r, .r, .r, .l, .r, .b] [] k_ (un 3 (.con (.box ⟨39, false, []⟩) [lf ty3 d .ro, lf ty6 d2 .ro] :: (un 1 (.con (.box ⟨44, false, []⟩) [lf i64 q .ro, lf ty9 q2 .dp, lf ty0 q3 .dp] :: (.con (.box ⟨33, false, []⟩) [lf i64 a .ro, lf i64 a2 .ro] :: (un 5 (cd ty0 c :: (cr i64 i :: (un 123 [])))))))))
theorem ql0 (N : Nat) : ∀ k_, El0 N k_ = laws_FnProbability_l0 N k_ := qL (laws_FnProbability_l0_b N)
def eE : EnTryz := ⟨4, sG, [.v ty1], _, laws_FnProbability N, pk1 .bool, enK Tryz.func4,
 fun a => eo (eS N) Tryz.func4 N an_ (Y4 .bool) (tq (b := laws_FnProbability_b N (El0 N N) a) (by rw [ql0]; rfl))⟩
end laws_FnProbability
end
end Go.PL
