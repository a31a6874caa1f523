/- What the machine does at each function is what the plain reading says. Conditions: none. -/
import Derived.Test.YtjppmoblodlepaaFpG
import Derived.Test.YtjppmoblodlepaaPlA
import Derived.Test.YtjppmoblodlepaaProg

set_option linter.unusedVariables false
set_option linter.unusedSimpArgs false
set_option linter.unnecessarySimpa false

namespace Go.Proofs
open Go.Shelf
open Go.RowKit Go.Lib
def Try.sortF12_ren : Go.Shelf.Ren := ⟨fun | 6 => 12 | 15 => 26 | 14 => 25 | 28 => 45 | 29 => 46 | 20 => 37 | 21 => 38 | 22 => 39 | 23 => 40 | 24 => 41 | 25 => 42 | 26 => 43 | 27 => 44 | 46 => 50 | 47 => 51 | 48 => 52 | 49 => 53 | 50 => 54 | 57 => 56 | n => n, fun | 22 => 23 | 24 => 37 | 25 => 39 | 3 => 3 | 39 => 50 | 0 => 0 | 53 => 68 | 55 => 70 | 4 => 4 | 46 => 61 | 45 => 60 | 50 => 65 | 5 => 5 | 9 => 9 | 66 => 74 | 70 => 78 | 76 => 81 | 77 => 82 | n => n, fun | n => n⟩
theorem Try.sortF12 : Go.Proofs.SlLaysF0.n6 Try.prog Try.sortF12_ren := {
 mixed := by kernel_rfl
 f6 := ⟨Try.f12.name, by decide, Try.func12.trans (congrArg some (by kernel_rfl))⟩
 f14 := ⟨Try.f25.name, by decide, Try.func25.trans (congrArg some (by kernel_rfl))⟩
 f15 := Try.func26.trans (congrArg some (by kernel_rfl))
 f20 := ⟨Try.f37.name, by decide, Try.func37.trans (congrArg some (by kernel_rfl))⟩
 f21 := ⟨Try.f38.name, by decide, Try.func38.trans (congrArg some (by kernel_rfl))⟩
 f22 := ⟨Try.f39.name, by decide, Try.func39.trans (congrArg some (by kernel_rfl))⟩
 f23 := ⟨Try.f40.name, by decide, Try.func40.trans (congrArg some (by kernel_rfl))⟩
 f24 := ⟨Try.f41.name, by decide, Try.func41.trans (congrArg some (by kernel_rfl))⟩
 f25 := ⟨Try.f42.name, by decide, Try.func42.trans (congrArg some (by kernel_rfl))⟩
 f26 := ⟨Try.f43.name, by decide, Try.func43.trans (congrArg some (by kernel_rfl))⟩
 f27 := ⟨Try.f44.name, by decide, Try.func44.trans (congrArg some (by kernel_rfl))⟩
 f28 := Try.func45.trans (congrArg some (by kernel_rfl))
 f29 := Try.func46.trans (congrArg some (by kernel_rfl))
 f46 := ⟨Try.f50.name, by decide, Try.func50.trans (congrArg some (by kernel_rfl))⟩
 f47 := Try.func51.trans (congrArg some (by kernel_rfl))
 f48 := Try.func52.trans (congrArg some (by kernel_rfl))
 f49 := ⟨Try.f53.name, by decide, Try.func53.trans (congrArg some (by kernel_rfl))⟩
 f50 := ⟨Try.f54.name, by decide, Try.func54.trans (congrArg some (by kernel_rfl))⟩
 f57 := ⟨Try.f56.name, by decide, Try.func56.trans (congrArg some (by kernel_rfl))⟩
 t0 := Try.underlying0
 a0 := Try.isAgg0
 z0 := Try.sizeOf0
 v0 := Try.zeroValue0
 t3 := Try.underlying3
 a3 := Try.isAgg3
 z3 := Try.sizeOf3
 v3 := Try.zeroValue3
 t4 := Try.underlying4
 a4 := Try.isAgg4
 z4 := Try.sizeOf4
 v4 := Try.zeroValue4
 t5 := Try.underlying5
 a5 := Try.isAgg5
 z5 := Try.sizeOf5
 v5 := Try.zeroValue5
 t9 := Try.underlying9
 a9 := Try.isAgg9
 z9 := Try.sizeOf9
 v9 := Try.zeroValue9
 t22 := Try.underlying23
 a22 := Try.isAgg23
 z22 := Try.sizeOf23
 v22 := Try.zeroValue23
 t25 := Try.underlying39
 a25 := Try.isAgg39
 z25 := Try.sizeOf39
 v25 := Try.zeroValue39
 t39 := Try.underlying50
 a39 := Try.isAgg50
 z39 := Try.sizeOf50
 v39 := Try.zeroValue50
 t45 := Try.underlying60
 a45 := Try.isAgg60
 z45 := Try.sizeOf60
 v45 := Try.zeroValue60
 t46 := Try.underlying61
 a46 := Try.isAgg61
 z46 := Try.sizeOf61
 v46 := Try.zeroValue61
 t50 := Try.underlying65
 a50 := Try.isAgg65
 z50 := Try.sizeOf65
 v50 := Try.zeroValue65
 t53 := Try.underlying68
 a53 := Try.isAgg68
 z53 := Try.sizeOf68
 v53 := Try.zeroValue68
 t55 := Try.underlying70
 a55 := Try.isAgg70
 z55 := Try.sizeOf70
 v55 := Try.zeroValue70
 t66 := Try.underlying74
 a66 := Try.isAgg74
 z66 := Try.sizeOf74
 v66 := Try.zeroValue74
 t70 := Try.underlying78
 a70 := Try.isAgg78
 z70 := Try.sizeOf78
 v70 := Try.zeroValue78
 t76 := Try.underlying81
 a76 := Try.isAgg81
 z76 := Try.sizeOf81
 v76 := Try.zeroValue81
 t77 := Try.underlying82
 a77 := Try.isAgg82
 z77 := Try.sizeOf82
 v77 := Try.zeroValue82 }
set_option maxHeartbeats 2000000
set_option maxRecDepth 100000
theorem isnan_walk (x : Int) (w : World) : Calls Try.prog 55 #[.int .i64 x] w fun e w' => e = .returned (.bool false) /\ w' = w := by
 go_enter Try.func55, Try.ntmps55
 go_wp2
 go_ret
 simp
theorem Z34 (x y : Int) (w : World) : Calls Try.prog 47 #[.int .i64 x, .int .i64 y] w fun e w' => e = .returned (.int .i64 (if x < y then -1 else if y < x then 1 else 0)) /\ w' = w := by
 go_enter Try.func47, Try.ntmps47
 go_wp2_with (first | (go_at_call 55; refine (isnan_walk _ _).mono ?_; rintro e w' ⟨rfl, rfl⟩))
 all_goals go_ret
 all_goals simp_all
theorem cmpI_at {xs ys : List Int} {k : Nat} (h1 : k < xs.length) (h2 : k < ys.length) : Go.FP.cmpI (xs.drop k) (ys.drop k) = if xs.getD k 0 < ys.getD k 0 then -1 else if ys.getD k 0 < xs.getD k 0 then 1 else Go.FP.cmpI (xs.drop (k + 1)) (ys.drop (k + 1)) := by
 rw [List.drop_eq_getElem_cons h1, List.drop_eq_getElem_cons h2, Go.FP.cmpI]
 simp [h1, h2]
theorem cmpI_r {xs ys : List Int} {k : Nat} (h1 : k < xs.length) (h2 : ys.length <= k) : Go.FP.cmpI (xs.drop k) (ys.drop k) = 1 := by
 rw [List.drop_eq_getElem_cons h1, List.drop_eq_nil_of_le h2, Go.FP.cmpI]
theorem cmpI_l {xs ys : List Int} {k : Nat} (h1 : xs.length <= k) (h2 : k < ys.length) : Go.FP.cmpI (xs.drop k) (ys.drop k) = -1 := by
 rw [List.drop_eq_getElem_cons h2, List.drop_eq_nil_of_le h1, Go.FP.cmpI]
theorem cmpI_e {xs ys : List Int} {k : Nat} (h1 : xs.length <= k) (h2 : ys.length <= k) : Go.FP.cmpI (xs.drop k) (ys.drop k) = 0 := by
 rw [List.drop_eq_nil_of_le h2, List.drop_eq_nil_of_le h1, Go.FP.cmpI]
theorem slcmp_walk (b1 o1 c1 b2 o2 c2 : Nat) (xs ys : List Int) (w : World) (hx : ∀ j, j < xs.length -> w.cell? ⟨b1, o1 + j, none⟩ = some (.int .i64 (xs.getD j 0))) (hy : ∀ j, j < ys.length -> w.cell? ⟨b2, o2 + j, none⟩ = some (.int .i64 (ys.getD j 0)))
  (hmx : xs.length <= 9223372036854775807) (hmy : ys.length <= 9223372036854775807) :
  Calls Try.prog 28 #[.slice (some ⟨b1, o1, none⟩) xs.length c1, .slice (some ⟨b2, o2, none⟩) ys.length c2] w fun e w' => e = .returned (.int .i64 (Go.FP.cmpI xs ys)) /\ w' = w := by
 have t26 := Try.underlying35
 have a3 := Try.isAgg3
 have z3 := Try.sizeOf3
 go_enter Try.func28, Try.ntmps28
 go_wp2
 go_loop [11] (fun i => ∃ k : Nat, k <= xs.length /\ k <= ys.length /\ i = .int .i64 k /\ Go.FP.cmpI xs ys = Go.FP.cmpI (xs.drop k) (ys.drop k)) (fun i => xs.length - (intOf i).toNat)
 case atStart => exact ⟨0, by omega, by omega, rfl, rfl⟩
 case round =>
  obtain ⟨k, hk, hk2, rfl, hd⟩ := hrel
  have hcx := hx k
  have hcy : ¬ ys.length <= k -> w.cell? ⟨b2, o2 + k, none⟩ = some (.int .i64 (ys.getD k 0)) := fun h => hy k (by omega)
  clear hx hy
  have HD : Hid (Go.FP.cmpI xs ys = Go.FP.cmpI (xs.drop k) (ys.drop k)) := hd
  clear hd
  go_wp2_with (first | (go_at_call 47; refine (Z34 _ _ _).mono ?_; rintro e w' ⟨rfl, rfl⟩))
  ·have r := HD.out.trans (cmpI_r ‹_› ‹_›)
   go_ret
   simp [r]
  ·have r := HD.out.trans (cmpI_at (xs := xs) (ys := ys) (k := k) ‹_› (by omega))
   go_ret
   simp_all
  ·have r := HD.out.trans (cmpI_at (xs := xs) (ys := ys) (k := k) ‹_› (by omega))
   go_ret
   have h1 : ¬ xs[k] < ys[k]?.getD 0 := by omega
   simp_all
  ·simp_all
   omega
  ·have e := cmpI_at (xs := xs) (ys := ys) (k := k) ‹_› (by omega)
   refine ⟨⟨k + 1, by omega, by omega, by simp, ?_⟩, by simp [intOf]; omega⟩
   rw [HD.out, e]
   simp_all
   grind
  ·have r := HD.out.trans (cmpI_l (xs := xs) (ys := ys) (k := k) (by omega) (by omega))
   go_ret
   simp [r]
  ·have r := HD.out.trans (cmpI_e (xs := xs) (ys := ys) (k := k) (by omega) (by omega))
   go_ret
   simp [r]
theorem slcmp_l (A1 A2 : Option Addr) (c1 m c2 : Nat) (w : World) (hm : m <= 9223372036854775807) :
  Calls Try.prog 28 #[.slice A1 0 c1, .slice A2 m c2] w fun e w' => e = .returned (.int .i64 (if m = 0 then 0 else -1)) /\ w' = w := by
 have t26 := Try.underlying35
 have a3 := Try.isAgg3
 have z3 := Try.sizeOf3
 go_enter Try.func28, Try.ntmps28
 go_wp2
 refine wp_loop_rounds 1 ?_
 rw [rounds_succ]
 go_wp2
 all_goals go_ret
 all_goals simp_all
 all_goals omega
theorem slcmp_r (b1 o1 : Nat) (A2 : Option Addr) (n c1 c2 : Nat) (x : Int) (w : World) (hn : 0 < n) (hx : w.cell? ⟨b1, o1, none⟩ = some (.int .i64 x)) (hm : n <= 9223372036854775807) :
  Calls Try.prog 28 #[.slice (some ⟨b1, o1, none⟩) n c1, .slice A2 0 c2] w fun e w' => e = .returned (.int .i64 1) /\ w' = w := by
 have t26 := Try.underlying35
 have a3 := Try.isAgg3
 have z3 := Try.sizeOf3
 go_enter Try.func28, Try.ntmps28
 go_wp2
 refine wp_loop_rounds 1 ?_
 rw [rounds_succ]
 go_wp2
 all_goals go_ret
 all_goals simp_all
theorem compare_walk (x y : Int) (w : World) : Calls Try.prog 27 #[.int .i64 x, .int .i64 y] w fun e w' => e = .returned (.int .i64 (if x < y then -1 else if y < x then 1 else 0)) /\ w' = w := by
 go_enter Try.func27, Try.ntmps27
 go_wp2
 all_goals go_ret
 all_goals simp_all
 all_goals try omega
theorem factcmp_walk (p q : Int) (u v : Value) (r : Int) (w W : World) (hW : (w.alloc (.cells #[.int .i64 p, u] 37)).alloc (.cells #[.int .i64 q, v] 37) = W) (h : Calls Try.prog 28 #[u, v] W fun e w' => e = .returned (.int .i64 r) /\ w' = W) :
  Calls Try.prog 13 #[.agg #[.int .i64 p, u], .agg #[.int .i64 q, v]] w fun e w' => e = .returned (.int .i64 (if p < q then -1 else if q < p then 1 else r)) /\ w' = W := by
 subst hW
 go_enter Try.func13, Try.ntmps13
 go_wp2_with (first | (go_at_call 28; refine h.mono ?_; rintro e w' ⟨rfl, hw⟩; rw [hw]) | (go_at_call 27; refine (compare_walk _ _ _).mono ?_; rintro e w' ⟨rfl, hw⟩; rw [hw]))
 all_goals go_ret
 all_goals simp_all
 all_goals try omega
theorem cmpRows_walk : Go.FP.CmpRowsSaid Try.prog 28 := by
 intro A1 A2 c1 c2 xs ys w h1 h2 l1 l2
 have l1' : xs.length <= 9223372036854775807 := Nat.le_trans l1 (by decide)
 have l2' : ys.length <= 9223372036854775807 := Nat.le_trans l2 (by decide)
 rcases h1 with rfl | ⟨b1, o1, rfl, _, hx⟩
 ·refine (slcmp_l A1 A2 c1 ys.length c2 w l2').mono ?_
  rintro e w' ⟨rfl, rfl⟩
  refine ⟨?_, rfl⟩
  cases ys <;> simp [Go.FP.cmpI]
 rcases h2 with rfl | ⟨b2, o2, rfl, _, hy⟩
 ·cases xs with
  | nil =>
   refine (slcmp_l (some ⟨b1, o1, none⟩) A2 c1 0 c2 w (by omega)).mono ?_
   rintro e w' ⟨rfl, rfl⟩
   exact ⟨rfl, rfl⟩
  | cons x xs =>
   refine (slcmp_r b1 o1 A2 _ c1 c2 x w (by simp) (by simpa using hx 0 (by simp)) l1').mono ?_
   rintro e w' ⟨rfl, rfl⟩
   exact ⟨by simp [Go.FP.cmpI], rfl⟩
 ·exact slcmp_walk b1 o1 c1 b2 o2 c2 xs ys w hx hy l1' l2'
theorem cmpFacts_walk {e : TypeId} : Go.FP.CmpSaid Try.prog 13 (.pair (.int .i64) (Go.FP.tInts e)) Go.FP.cmpF := Go.FP.Y8v cmpRows_walk factcmp_walk
theorem cmpInts_walk {e : TypeId} : Go.FP.CmpSaid Try.prog 28 (Go.FP.tInts e) Go.FP.cmpI := Go.FP.Yae cmpRows_walk
theorem cmpI_pl : PL.cmpI = Go.FP.cmpI := by
 funext a
 induction a with
 | nil => funext b; cases b <;> rfl
 | cons x a ih => funext b; cases b with
  | nil => rfl
  | cons y b => simp only [PL.cmpI, Go.FP.cmpI, ih]
theorem cmpF_pl : PL.cmpF = Go.FP.cmpF := by
 funext a b
 simp only [PL.cmpF, Go.FP.cmpF, cmpI_pl]
end Go.Proofs
namespace Go.PL
noncomputable section
open Go.FP Go.Proofs Go.Shelf
set_option maxRecDepth 10000
variable (N : Nat)
abbrev i64 : Ty := .int .i64
abbrev ty0 : Ty := (.slice 37 (.pair i64 (.slice 3 i64)))
abbrev ty1 : Ty := (.pair i64 (.slice 3 i64))
abbrev ty2 : Ty := (.pair (.slice 33 (.pair .str (.pair i64 i64))) (.slice 37 (.pair i64 (.slice 3 i64))))
abbrev ty3 : Ty := (.slice 33 (.pair .str (.pair i64 i64)))
abbrev ty4 : Ty := (.pair .str (.pair i64 i64))
abbrev ty5 : Ty := (.slice 3 i64)
abbrev ty6 : Ty := (.slice 5 (.int .u8))
def Tb : Tab := [⟨3, i64, 8, [], false, false⟩,
 ⟨4, .bool, 1, [], false, false⟩,
 ⟨5, (.int .u8), 1, [], false, false⟩,
 ⟨9, .str, 16, [], false, false⟩,
 ⟨22, ty3, 24, [], false, false⟩,
 ⟨23, ty0, 24, [], false, false⟩,
 ⟨25, ty2, 48, [(0, 22), (1, 23)], false, false⟩,
 ⟨33, ty4, 32, [(0, 9), (1, 3), (2, 3)], false, false⟩,
 ⟨35, ty5, 24, [], false, false⟩,
 ⟨37, ty1, 32, [(0, 3), (1, 35)], false, false⟩,
 ⟨72, ty6, 24, [], false, false⟩]
theorem tab_ok : TabOk Try.prog Tb :=
 (Y17 (TEOk.plain (i := Try.t3) (by kernel_rfl) rfl rfl (by kernel_rfl) rfl rfl rfl Try.underlying3)
 (Y17 (TEOk.plain (i := Try.t4) (by kernel_rfl) rfl rfl (by kernel_rfl) rfl rfl rfl Try.underlying4)
 (Y17 (TEOk.plain (i := Try.t5) (by kernel_rfl) rfl rfl (by kernel_rfl) rfl rfl rfl Try.underlying5)
 (Y17 (TEOk.plain (i := Try.t9) (by kernel_rfl) rfl rfl (by kernel_rfl) rfl rfl rfl Try.underlying9)
 (Y17 (TEOk.plain (i := Try.t22) (by kernel_rfl) rfl rfl (by kernel_rfl) rfl rfl rfl Try.underlying22)
 (Y17 (TEOk.plain (i := Try.t23) (by kernel_rfl) rfl rfl (by kernel_rfl) rfl rfl rfl Try.underlying23)
 (Y17 (TEOk.struct (i := Try.t25) (pl := [(0, 1), (1, 1)]) (by kernel_rfl) rfl rfl (by kernel_rfl) Try.underlying25 (by kernel_rfl) (by kernel_rfl) rfl rfl (fun h => by cases h))
 (Y17 (TEOk.struct (i := Try.t33) (pl := [(0, 1), (1, 1), (2, 1)]) (by kernel_rfl) rfl rfl (by kernel_rfl) Try.underlying33 (by kernel_rfl) (by kernel_rfl) rfl rfl (fun h => by cases h))
 (Y17 (TEOk.plain (i := Try.t35) (by kernel_rfl) rfl rfl (by kernel_rfl) rfl rfl rfl Try.underlying35)
 (Y17 (TEOk.struct (i := Try.t37) (pl := [(0, 1), (1, 1)]) (by kernel_rfl) rfl rfl (by kernel_rfl) Try.underlying37 (by kernel_rfl) (by kernel_rfl) rfl rfl (fun h => by cases h))
 (Y17 (TEOk.plain (i := Try.t72) (by kernel_rfl) rfl rfl (by kernel_rfl) rfl rfl rfl Try.underlying72)
 Ye5)))))))))))
theorem mixed : Try.prog.follows .mixedOrders = true := by decide
def cps : FuncId -> List Ty := capsL []
def cpsS : FuncId -> List Ty := fun f => if f = 1000000007 then [.unit] else cps f
def cpsK : FuncId -> List Ty := fun f => if f = 1000000009 then [.unit] else cps f
section
variable {R : Type} (es : List (Entry Try.prog)) (N : Nat) (an : Nat -> Option (List Nat))
abbrev evE (sg : Sig) (fn : Func) (args : List RV) (K : List (Σ t : Ty, t.D) -> Option R) : Option R :=
 evFn Tb (sigL es) cps (orcL es) (drawReg Tb (sigL es) cps (orcL es)) N an sg fn (fn.body.getD .skip) args K
abbrev evES (sg : Sig) (fn : Func) (args : List RV) (K : List (Σ t : Ty, t.D) -> Option R) : Option R :=
 evFn Tb (sigL es) cpsS (orcL es) (drawReg Tb (sigL es) cpsS (orcL es)) N an sg fn (fn.body.getD .skip) args K
abbrev lpES (p : List Dir) (fn : Func) (K : Exit -> Env -> Option R) (rs : List (Env -> Option R)) (k : Nat) (env : Env) : Option R :=
 loopAt Tb (sigL es) cpsS (orcL es) N an p (fn.body.getD .skip) K rs k env
abbrev evEK (sg : Sig) (fn : Func) (args : List RV) (K : List (Σ t : Ty, t.D) -> Option R) : Option R :=
 evFn Tb (sigL es) cpsK (orcL es) (drawReg Tb (sigL es) cpsK (orcL es)) N an sg fn (fn.body.getD .skip) args K
abbrev lpEK (p : List Dir) (fn : Func) (K : Exit -> Env -> Option R) (rs : List (Env -> Option R)) (k : Nat) (env : Env) : Option R :=
 loopAt Tb (sigL es) cpsK (orcL es) N an p (fn.body.getD .skip) K rs k env
abbrev evB (sg : Sig) (b : BoxSig) (fn : Func) (args : List RV) (K : List (Σ t : Ty, t.D) -> Option R) : Option R :=
 evFnB Tb (sigL es) cps (orcL es) (drawReg Tb (sigL es) cps (orcL es)) N an sg b fn (fn.body.getD .skip) args K
abbrev evG (k : Nat) (sg : Sig) (fn : Func) (args : List RV) (K : List (Σ t : Ty, t.D) -> Option R) : Option R :=
 evFnG Tb (sigL es) cps (orcL es) (drawReg Tb (sigL es) cps (orcL es)) N an k sg fn (fn.body.getD .skip) args K
abbrev evN (id : TypeId) (t : Ty) (rs : List (Ty × Lvl)) (fn : Func) (args : List RV) (K : List (Σ t : Ty, t.D) -> Option R) : Option R :=
 evFnN Tb (sigL es) cps (orcL es) (drawReg Tb (sigL es) cps (orcL es)) N an id t rs fn (fn.body.getD .skip) args K
abbrev lpE (p : List Dir) (fn : Func) (K : Exit -> Env -> Option R) (rs : List (Env -> Option R)) (k : Nat) (env : Env) : Option R :=
 loopAt Tb (sigL es) cps (orcL es) N an p (fn.body.getD .skip) K rs k env
end
abbrev EnTry := Entry Try.prog
theorem qL {α : Type} {E f : Nat -> α} (B : α -> α) (h0 : E 0 = f 0 := by kernel_rfl) (h1 : ∀ k, E (k + 1) = B (E k) := by intro k; kernel_rfl) (h2 : ∀ k, f (k + 1) = B (f k) := by intro k; rfl) : ∀ k, E k = f k
 | 0 => h0
 | k + 1 => by rw [h1, h2, qL B h0 h1 h2 k]
theorem tq {α : Type} {a b c : α} (h2 : b = c) (h1 : a = b := by kernel_rfl) : a = c := h1.trans h2
abbrev cr (t : Ty) (x : t.D) : AV := .con .val [lf t x .ro]
abbrev cd (t : Ty) (x : t.D) : AV := .con .val [lf t x .dp]
def an0 : Nat -> Option (List Nat) := fun _ => none
def sgV (ps : List PTy) (rs : List (Ty × Lvl)) : Sig := ⟨ps, rs, false, false, none, none, none⟩
theorem enK {f : FuncId} {fn : Func} (hf : Try.prog.funcs[f]? = some fn) (h : (fn.body.isNone || fn.name == "runtime.NumGoroutine") = false := by kernel_rfl) : Enterable Try.prog f := ⟨fn, hf, (Bool.or_eq_false_iff.1 h).1, (Bool.or_eq_false_iff.1 h).2⟩
def plG (sg : Sig) : Bool := sg.box.isNone && (sg.newb.isNone && (!sg.muts && !sg.own))
theorem eok (es : List (Entry Try.prog)) (ha : agreeL es = true) {f : FuncId} {fn : Func} (hf : Try.prog.funcs[f]? = some fn) (hb : fn.body.isSome = true) (N : Nat) (an : Nat -> Option (List Nat)) {sg : Sig} (hs : plG sg = true) {args : List RV} {α : Type} {un : List (Σ t : Ty, t.D) -> Option α} {pk : α -> List (Σ t : Ty, t.D)} (hu : ∀ r xs, un xs = some r -> xs = pk r) {q : Option α} (h : evE es N an sg fn args un = q) :
  ∀ x, q = some x -> FnOk Try.prog f sg args (pk x) := by
 obtain ⟨ps, rs, m, o, b, n, g⟩ := sg
 simp only [plG, Bool.and_eq_true, Bool.not_eq_true', Option.isNone_iff_eq_none] at hs
 obtain ⟨rfl, rfl, rfl, rfl⟩ := hs
 exact Y6t tab_ok ha mixed hf (by cases h : fn.body with | none => rw [h] at hb; cases hb | some c => rfl) ⟨⟨rfl, rfl⟩, rfl, rfl⟩ hu h
theorem eo (es : List (Entry Try.prog)) {f : FuncId} {fn : Func} (hf : Try.prog.funcs[f]? = some fn) (N : Nat) (an : Nat -> Option (List Nat)) {sg : Sig} {args : List RV} {α : Type} {un : List (Σ t : Ty, t.D) -> Option α} {pk : α -> List (Σ t : Ty, t.D)} (hu : ∀ r xs, un xs = some r -> xs = pk r) {q : Option α} (h : evE es N an sg fn args un = q := by kernel_rfl) (ha : agreeL es = true := by kernel_rfl) (hb : fn.body.isSome = true := by rfl) (hs : plG sg = true := by rfl) : ∀ x, q = some x -> FnOk Try.prog f sg args (pk x) := eok es ha hf hb N an hs hu h
theorem eokS (es : List (Entry Try.prog)) (ha : agreeL es = true) {f : FuncId} {fn : Func} (hf : Try.prog.funcs[f]? = some fn) (hb : fn.body.isSome = true) (N : Nat) (an : Nat -> Option (List Nat)) {sg : Sig} (hs : plG sg = true) {args : List RV} {α : Type} {un : List (Σ t : Ty, t.D) -> Option α} {pk : α -> List (Σ t : Ty, t.D)} (hu : ∀ r xs, un xs = some r -> xs = pk r) {q : Option α} (h : evES es N an sg fn args un = q) :
  ∀ x, q = some x -> FnOk Try.prog f sg args (pk x) := by
 obtain ⟨ps, rs, m, o, b, n, g⟩ := sg
 simp only [plG, Bool.and_eq_true, Bool.not_eq_true', Option.isNone_iff_eq_none] at hs
 obtain ⟨rfl, rfl, rfl, rfl⟩ := hs
 exact Y6t tab_ok ha mixed hf (by cases h : fn.body with | none => rw [h] at hb; cases hb | some c => rfl) ⟨⟨rfl, rfl⟩, rfl, rfl⟩ hu h
theorem eoS (es : List (Entry Try.prog)) {f : FuncId} {fn : Func} (hf : Try.prog.funcs[f]? = some fn) (N : Nat) (an : Nat -> Option (List Nat)) {sg : Sig} {args : List RV} {α : Type} {un : List (Σ t : Ty, t.D) -> Option α} {pk : α -> List (Σ t : Ty, t.D)} (hu : ∀ r xs, un xs = some r -> xs = pk r) {q : Option α} (h : evES es N an sg fn args un = q := by kernel_rfl) (ha : agreeL es = true := by kernel_rfl) (hb : fn.body.isSome = true := by rfl) (hs : plG sg = true := by rfl) : ∀ x, q = some x -> FnOk Try.prog f sg args (pk x) := eokS es ha hf hb N an hs hu h
theorem eokK (es : List (Entry Try.prog)) (ha : agreeL es = true) {f : FuncId} {fn : Func} (hf : Try.prog.funcs[f]? = some fn) (hb : fn.body.isSome = true) (N : Nat) (an : Nat -> Option (List Nat)) {sg : Sig} (hs : plG sg = true) {args : List RV} {α : Type} {un : List (Σ t : Ty, t.D) -> Option α} {pk : α -> List (Σ t : Ty, t.D)} (hu : ∀ r xs, un xs = some r -> xs = pk r) {q : Option α} (h : evEK es N an sg fn args un = q) :
  ∀ x, q = some x -> FnOk Try.prog f sg args (pk x) := by
 obtain ⟨ps, rs, m, o, b, n, g⟩ := sg
 simp only [plG, Bool.and_eq_true, Bool.not_eq_true', Option.isNone_iff_eq_none] at hs
 obtain ⟨rfl, rfl, rfl, rfl⟩ := hs
 exact Y6t tab_ok ha mixed hf (by cases h : fn.body with | none => rw [h] at hb; cases hb | some c => rfl) ⟨⟨rfl, rfl⟩, rfl, rfl⟩ hu h
theorem eoK (es : List (Entry Try.prog)) {f : FuncId} {fn : Func} (hf : Try.prog.funcs[f]? = some fn) (N : Nat) (an : Nat -> Option (List Nat)) {sg : Sig} {args : List RV} {α : Type} {un : List (Σ t : Ty, t.D) -> Option α} {pk : α -> List (Σ t : Ty, t.D)} (hu : ∀ r xs, un xs = some r -> xs = pk r) {q : Option α} (h : evEK es N an sg fn args un = q := by kernel_rfl) (ha : agreeL es = true := by kernel_rfl) (hb : fn.body.isSome = true := by rfl) (hs : plG sg = true := by rfl) : ∀ x, q = some x -> FnOk Try.prog f sg args (pk x) := eokK es ha hf hb N an hs hu h
theorem Z0q : SortFSaid Try.prog 12 13 true 2 := Yaw Try.sortF12 2 (fun w => Try.isAgg37 w) (fun w => Try.sizeOf37 w) (enters_of Try.func13 (by kernel_rfl) rfl)
theorem Z0y {N : Nat} {x q : A0} (h : Z0 N x = some q) : FnOk Try.prog 12 ⟨[.val ty0, .clo], [], true, false, none, none, none⟩ [.val ty0 x, .clo 13 []] [⟨ty0, q⟩] := by
 unfold Z0 grd at h
 simp only [cmpF_pl] at h
 exact Ycv (e := 37) (t := ty1) Z0q cmpFacts_walk Yds (fun _ _ => Ycw) h
def Z0z : Entry Try.prog := ⟨12, ⟨[.val ty0, .clo], [], true, false, none, none, none⟩, [.v ty0, .c 13 []], A0, Z0 N, pk1 ty0, Ydp Try.func12 (code := Try.f12.body.getD .skip) (by kernel_rfl) (by kernel_rfl),
 fun s q h => Z0y h⟩
namespace Z9
def sG := sgV [.val i64, .val i64, .val i64] [(.bool, .dp)]
def eS (N : Nat) : List EnTry := []
def eE : EnTry := ⟨9, sG, [.v i64, .v i64, .v i64], _, Z9 N, pk1 .bool, enK Try.func9,
 fun x a b => eo (eS N) Try.func9 N an0 (Yk .bool)⟩
end Z9
namespace Z1h
def sG := sgV [.val ty2] [(ty2, .dp)]
def eS (N : Nat) : List EnTry := []
def an_ : Nat -> Option (List Nat)
 | 0 => some [1, 2, 3, 4]
 | _ => none
def lP (p : List Dir) := lpE (eS N) N an_ p Try.f20 (endK Tb sG Try.f20 [] (un1 ty2))
def El0 (k_ : Nat) (d2 : R0) (d3 : A0) (t2 : R0) (a : A0) (x : R0) (x2 : A0) (i : Int) : Option D0 :=
 lP N [.r, .r, .l, .r, .b] [] k_ (un 1 (.con (.box ⟨25, false, []⟩) [lf ty3 d2 .ro, lf ty0 d3 .ro] :: (.con (.box ⟨25, false, []⟩) [lf ty3 t2 .dp, lf ty0 a .dp] :: (.con (.box ⟨25, false, []⟩) [lf ty3 x .dp, lf ty0 x2 .dp] :: (cr i64 i :: (un 33 []))))))
theorem ql0 (N : Nat) : ∀ k_, El0 N k_ = Z1y N k_ := qL (Z29 N)
def eE : EnTry := ⟨20, sG, [.v ty2], _, Z1h N, pk1 ty2, enK Try.func20,
 fun d => eo (eS N) Try.func20 N an_ (Yk ty2) (tq (b := Z2q N (El0 N N) d) (by rw [ql0]; rfl))⟩
end Z1h
namespace Z0a
def sG := sgV [.val ty4] [(.bool, .dp)]
def eS : List EnTry := [Z9.eE N]
def eE : EnTry := ⟨49, sG, [.v ty4], _, Z0a N, pk1 .bool, enK Try.func49,
 fun s => eo (eS N) Try.func49 N an0 (Yk .bool)⟩
end Z0a
namespace Z5
def sG := sgV [.val ty3] [(.bool, .dp)]
def eS : List EnTry := [Z0a.eE N]
def an_ : Nat -> Option (List Nat)
 | 0 => some [0, 3]
 | _ => none
def lP (p : List Dir) := lpE (eS N) N an_ p Try.f34 (endK Tb sG Try.f34 [] (un1 .bool))
def El0 (k_ : Nat) (l2 : R0) (i : Int) : Option (Bool) :=
 lP N [.r, .l, .r, .b] [] k_ (cr ty3 l2 :: (un 2 (cr i64 i :: (un 33 []))))
theorem ql0 (N : Nat) : ∀ k_, El0 N k_ = Z0i N k_ := qL (Z10 N)
def eE : EnTry := ⟨34, sG, [.v ty3], _, Z5 N, pk1 .bool, enK Try.func34,
 fun l => eo (eS N) Try.func34 N an_ (Yk .bool) (tq (b := Z16 N (El0 N N) l) (by rw [ql0]; rfl))⟩
end Z5
namespace Z8
def sG := sgV [.val ty3, .val ty1] [(.bool, .dp)]
def eS : List EnTry := [Z9.eE N, Z5.eE N]
def an_ : Nat -> Option (List Nat)
 | 0 => some [3, 5]
 | _ => none
def lP (p : List Dir) := lpE (eS N) N an_ p Try.f22 (endK Tb sG Try.f22 [] (un1 .bool))
def El0 (k_ : Nat) (f2 : Int) (f3 : I0) (i : Int) : Option (Bool) :=
 lP N [.r, .r, .l, .r, .b] [] k_ (un 3 (.con (.box ⟨37, false, []⟩) [lf i64 f2 .ro, lf ty5 f3 .ro] :: (un 1 (cr i64 i :: (un 38 [])))))
theorem ql0 (N : Nat) : ∀ k_, El0 N k_ = Z13 N k_ := qL (Z1p N)
def eE : EnTry := ⟨22, sG, [.v ty3, .v ty1], _, Z8 N, pk1 .bool, enK Try.func22,
 fun l f => eo (eS N) Try.func22 N an_ (Yk .bool) (tq (b := Z21 N (El0 N N) l f) (by rw [ql0]; rfl))⟩
end Z8
namespace Z1i
def sG := sgV [.val ty5, .val ty5] [(i64, .dp)]
def eS (N : Nat) : List EnTry := []
def an_ : Nat -> Option (List Nat)
 | 0 => some [0, 1, 5]
 | _ => none
def lP (p : List Dir) := lpE (eS N) N an_ p Try.f36 (endK Tb sG Try.f36 [] (un1 i64))
def El0 (k_ : Nat) (a2 : I0) (b2 : I0) (i : Int) : Option (Int) :=
 lP N [.r, .l, .r, .b] [] k_ (cr ty5 a2 :: (cr ty5 b2 :: (un 3 (cr i64 i :: (un 40 [])))))
theorem ql0 (N : Nat) : ∀ k_, El0 N k_ = Z1z N k_ := qL (Z2a N)
def eE : EnTry := ⟨36, sG, [.v ty5, .v ty5], _, Z1i N, pk1 i64, enK Try.func36,
 fun a b => eo (eS N) Try.func36 N an_ (Yk i64) (tq (b := Z2r N (El0 N N) a b) (by rw [ql0]; rfl))⟩
end Z1i
namespace Z6
def sG := sgV [.val ty1, .val ty1] [(i64, .dp)]
def eS : List EnTry := [Z1i.eE N]
def eE : EnTry := ⟨24, sG, [.v ty1, .v ty1], _, Z6 N, pk1 i64, enK Try.func24,
 fun a b => eo (eS N) Try.func24 N an0 (Yk i64)⟩
end Z6
namespace Z7
def sG := sgV [.val ty2] [(.bool, .dp)]
def eS : List EnTry := [Z8.eE N, Z6.eE N, Z5.eE N]
def an_ : Nat -> Option (List Nat)
 | 0 => some [1, 3]
 | _ => none
def lP (p : List Dir) := lpE (eS N) N an_ p Try.f21 (endK Tb sG Try.f21 [] (un1 .bool))
def El0 (k_ : Nat) (d2 : R0) (d3 : A0) (i : Int) : Option (Bool) :=
 lP N [.r, .l, .r, .b] [] k_ (un 1 (.con (.box ⟨25, false, []⟩) [lf ty3 d2 .ro, lf ty0 d3 .ro] :: (un 1 (cr i64 i :: (un 44 [])))))
theorem ql0 (N : Nat) : ∀ k_, El0 N k_ = Z0k N k_ := qL (Z15 N)
def eE : EnTry := ⟨21, sG, [.v ty2], _, Z7 N, pk1 .bool, enK Try.func21,
 fun d => eo (eS N) Try.func21 N an_ (Yk .bool) (tq (b := Z1j N (El0 N N) d) (by rw [ql0]; rfl))⟩
end Z7
namespace Z0r
def sG := sgV [.val ty2, .val ty1] [(i64, .dp)]
def eS : List EnTry := [Z6.eE N]
def an_ : Nat -> Option (List Nat)
 | 0 => some [2, 3, 5]
 | _ => none
def lP (p : List Dir) := lpE (eS N) N an_ p Try.f35 (endK Tb sG Try.f35 [] (un1 i64))
def El0 (k_ : Nat) (d2 : R0) (d3 : A0) (f2 : Int) (f3 : I0) (i : Int) : Option (Int) :=
 lP N [.r, .l, .r, .b] [] k_ (un 2 (.con (.box ⟨25, false, []⟩) [lf ty3 d2 .ro, lf ty0 d3 .ro] :: (.con (.box ⟨37, false, []⟩) [lf i64 f2 .ro, lf ty5 f3 .ro] :: (un 1 (cr i64 i :: (un 16 []))))))
theorem ql0 (N : Nat) : ∀ k_, El0 N k_ = Z1e N k_ := qL (Z1v N)
def eE : EnTry := ⟨35, sG, [.v ty2, .v ty1], _, Z0r N, pk1 i64, enK Try.func35,
 fun d f => eo (eS N) Try.func35 N an_ (Yk i64) (tq (b := Z2c N (El0 N N) d f) (by rw [ql0]; rfl))⟩
end Z0r
namespace Z0h
def sG := sgV [.val ty2, .val ty1] [(.bool, .dp)]
def eS : List EnTry := [Z7.eE N, Z0r.eE N]
def eE : EnTry := ⟨23, sG, [.v ty2, .v ty1], _, Z0h N, pk1 .bool, enK Try.func23,
 fun d f => eo (eS N) Try.func23 N an0 (Yk .bool)⟩
end Z0h
namespace Z1
def sG := sgV [.val ty2, .val ty1] [(ty2, .sh), (.bool, .dp)]
def eS : List EnTry := [Z6.eE N, Z1h.eE N, Z7.eE N, Z8.eE N, Z0h.eE N]
def an_ : Nat -> Option (List Nat)
 | 0 => some [3, 4, 6, 7]
 | _ => none
def lP (p : List Dir) := lpE (eS N) N an_ p Try.f10 (endK Tb sG Try.f10 [] (un2 ty2 .bool))
def El0 (k_ : Nat) (f2 : Int) (f3 : I0) (t4 : R0) (a : A0) (x : R0) (x2 : A0) (k : Int) : Option (D0 × Bool) :=
 lP N [.r, .r, .r, .r, .l, .b] [] k_ (un 3 (.con (.box ⟨37, false, []⟩) [lf i64 f2 .ro, lf ty5 f3 .ro] :: (.con (.box ⟨25, false, []⟩) [lf ty3 t4 .dp, lf ty0 a .dp] :: (un 1 (.con (.box ⟨25, false, []⟩) [lf ty3 x .dp, lf ty0 x2 .dp] :: (cr i64 k :: (un 65 [])))))))
theorem ql0 (N : Nat) : ∀ k_, El0 N k_ = Z17 N k_ := qL (Z1r N)
def eE : EnTry := ⟨10, sG, [.v ty2, .v ty1], _, Z1 N, pk2 ty2 .bool, enK Try.func10,
 fun d f => eo (eS N) Try.func10 N an_ (Y3w ty2 .bool) (tq (b := Z27 N (El0 N N) d f) (by rw [ql0]; rfl))⟩
end Z1
namespace Z3
def sG := sgV [.val i64, .val i64] [(ty2, .sh), (.bool, .dp)]
def eS : List EnTry := [Z1.eE N, Z9.eE N]
def an_ : Nat -> Option (List Nat)
 | 0 => some [0, 1, 4, 6, 7]
 | _ => none
def lP (p : List Dir) := lpE (eS N) N an_ p Try.f4 (endK Tb sG Try.f4 [] (un2 ty2 .bool))
def El1 (k_ : Nat) (n3 : Int) (a : Int) (c : R0) (d : A0) (d3 : R0) (d4 : A0) (i2 : Int) : Option (D0 × Bool) :=
 lP N [.r, .r, .r, .l, .r, .b] [] k_ (cr i64 n3 :: (cr i64 a :: (un 2 (.con (.box ⟨25, false, []⟩) [lf ty3 c .dp, lf ty0 d .dp] :: (un 1 (.con (.box ⟨25, false, []⟩) [lf ty3 d3 .dp, lf ty0 d4 .sh] :: (cr i64 i2 :: (un 76 []))))))))
def El0 (k_ : Nat) (n2 : Int) (a : Int) (t4 : R0) (c : A0) (d : R0) (d2 : A0) (i : Int) : Option (D0 × Bool) :=
 lP N [.r, .r, .r, .l, .r, .b] [] k_ (cr i64 n2 :: (cr i64 a :: (un 2 (.con (.box ⟨25, false, []⟩) [lf ty3 t4 .dp, lf ty0 c .dp] :: (un 1 (.con (.box ⟨25, false, []⟩) [lf ty3 d .dp, lf ty0 d2 .dp] :: (cr i64 i :: (un 76 []))))))))
theorem ql1 (N : Nat) : ∀ k_, El1 N k_ = Z0m N k_ := qL (Z18 N)
theorem ql0 (N : Nat) : ∀ k_, El0 N k_ = Z0n N k_
 | 0 => by kernel_rfl
 | k_ + 1 => (show El0 N (k_ + 1) = Z19 N (El1 N k_) (El0 N k_) from by kernel_rfl).trans (by simp only [ql1, ql0 N k_]; rfl)
def eE : EnTry := ⟨4, sG, [.v i64, .v i64], _, Z3 N, pk2 ty2 .bool, enK Try.func4,
 fun n a => eo (eS N) Try.func4 N an_ (Y3w ty2 .bool) (tq (b := Z0s N (El0 N N) n a) (by rw [ql0]; rfl))⟩
end Z3
namespace Z0o
def sG := sgV [.val i64, .val i64, .val i64] [(.bool, .dp)]
def eS (N : Nat) : List EnTry := []
def eE : EnTry := ⟨11, sG, [.v i64, .v i64, .v i64], _, Z0o N, pk1 .bool, enK Try.func11,
 fun n a b => eo (eS N) Try.func11 N an0 (Yk .bool)⟩
end Z0o
namespace Z2
def sG := sgV [.val i64, .val i64] [(ty2, .dp), (.bool, .dp)]
def eS : List EnTry := [Z0z N, Z0o.eE N]
def an_ : Nat -> Option (List Nat)
 | 0 => some [0, 1, 4, 6, 21, 22]
 | _ => none
def lP (p : List Dir) := lpE (eS N) N an_ p Try.f5 (endK Tb sG Try.f5 [] (un2 ty2 .bool))
def El0 (k_ : Nat) (a : Int) (c : Int) (t4 : R0) (d : A0) (db : R0) (e : A0) (f : Int) (g : Int) : Option (D0 × Bool) :=
 lP N [.r, .r, .r, .l, .r, .b] [] k_ (cr i64 a :: (cr i64 c :: (un 2 (.con (.box ⟨25, false, []⟩) [lf ty3 t4 .dp, lf ty0 d .dp] :: (un 1 (.con (.box ⟨25, false, []⟩) [lf ty3 db .dp, lf ty0 e .dp] :: (un 14 (cr i64 f :: (cr i64 g :: (un 59 []))))))))))
theorem ql0 (N : Nat) : ∀ k_, El0 N k_ = Z0p N k_ := qL (Z1a N)
def eE : EnTry := ⟨5, sG, [.v i64, .v i64], _, Z2 N, pk2 ty2 .bool, enK Try.func5,
 fun a c => eo (eS N) Try.func5 N an_ (Y3w ty2 .bool) (tq (b := Z0t N (El0 N N) a c) (by rw [ql0]; rfl))⟩
end Z2
namespace Z0l
def sG := sgV [.val ty4, .val ty4] [(.bool, .dp)]
def eS (N : Nat) : List EnTry := []
def eE : EnTry := ⟨29, sG, [.v ty4, .v ty4], _, Z0l N, pk1 .bool, enK Try.func29,
 fun a b => eo (eS N) Try.func29 N an0 (Yk .bool)⟩
end Z0l
namespace Z0j
def sG := sgV [.val ty3, .val ty3] [(.bool, .dp)]
def eS : List EnTry := [Z0l.eE N]
def an_ : Nat -> Option (List Nat)
 | 0 => some [0, 1, 5]
 | _ => none
def lP (p : List Dir) := lpE (eS N) N an_ p Try.f14 (endK Tb sG Try.f14 [] (un1 .bool))
def El0 (k_ : Nat) (a2 : R0) (b2 : R0) (i : Int) : Option (Bool) :=
 lP N [.r, .r, .l, .r, .b] [] k_ (cr ty3 a2 :: (cr ty3 b2 :: (un 3 (cr i64 i :: (un 21 [])))))
theorem ql0 (N : Nat) : ∀ k_, El0 N k_ = Z14 N k_ := qL (Z1q N)
def eE : EnTry := ⟨14, sG, [.v ty3, .v ty3], _, Z0j N, pk1 .bool, enK Try.func14,
 fun a b => eo (eS N) Try.func14 N an_ (Yk .bool) (tq (b := Z22 N (El0 N N) a b) (by rw [ql0]; rfl))⟩
end Z0j
namespace Z1k
def sG := sgV [.val ty5, .val ty5] [(.bool, .dp)]
def eS (N : Nat) : List EnTry := []
def an_ : Nat -> Option (List Nat)
 | 0 => some [0, 1, 5]
 | _ => none
def lP (p : List Dir) := lpE (eS N) N an_ p Try.f48 (endK Tb sG Try.f48 [] (un1 .bool))
def El0 (k_ : Nat) (a2 : I0) (b2 : I0) (i : Int) : Option (Bool) :=
 lP N [.r, .r, .l, .r, .b] [] k_ (cr ty5 a2 :: (cr ty5 b2 :: (un 3 (cr i64 i :: (un 20 [])))))
theorem ql0 (N : Nat) : ∀ k_, El0 N k_ = Z20 N k_ := qL (Z2d N)
def eE : EnTry := ⟨48, sG, [.v ty5, .v ty5], _, Z1k N, pk1 .bool, enK Try.func48,
 fun a b => eo (eS N) Try.func48 N an_ (Yk .bool) (tq (b := Z2s N (El0 N N) a b) (by rw [ql0]; rfl))⟩
end Z1k
namespace Z1l
def sG := sgV [.val ty1, .val ty1] [(.bool, .dp)]
def eS : List EnTry := [Z1k.eE N]
def eE : EnTry := ⟨30, sG, [.v ty1, .v ty1], _, Z1l N, pk1 .bool, enK Try.func30,
 fun a b => eo (eS N) Try.func30 N an0 (Yk .bool)⟩
end Z1l
namespace Z1b
def sG := sgV [.val ty0, .val ty0] [(.bool, .dp)]
def eS : List EnTry := [Z1l.eE N]
def an_ : Nat -> Option (List Nat)
 | 0 => some [0, 1, 5]
 | _ => none
def lP (p : List Dir) := lpE (eS N) N an_ p Try.f15 (endK Tb sG Try.f15 [] (un1 .bool))
def El0 (k_ : Nat) (a2 : A0) (b2 : A0) (i : Int) : Option (Bool) :=
 lP N [.r, .r, .l, .r, .b] [] k_ (cr ty0 a2 :: (cr ty0 b2 :: (un 3 (cr i64 i :: (un 21 [])))))
theorem ql0 (N : Nat) : ∀ k_, El0 N k_ = Z1s N k_ := qL (Z28 N)
def eE : EnTry := ⟨15, sG, [.v ty0, .v ty0], _, Z1b N, pk1 .bool, enK Try.func15,
 fun a b => eo (eS N) Try.func15 N an_ (Yk .bool) (tq (b := Z2n N (El0 N N) a b) (by rw [ql0]; rfl))⟩
end Z1b
namespace Z0f
def sG := sgV [.val ty2, .val ty2] [(.bool, .dp)]
def eS : List EnTry := [Z0j.eE N, Z1b.eE N]
def eE : EnTry := ⟨6, sG, [.v ty2, .v ty2], _, Z0f N, pk1 .bool, enK Try.func6,
 fun a b => eo (eS N) Try.func6 N an0 (Yk .bool)⟩
end Z0f
namespace Z0g
def sG := sgV [.val i64] [(.str, .dp)]
def eS (N : Nat) : List EnTry := []
def an_ : Nat -> Option (List Nat)
 | 0 => some [0, 3]
 | _ => none
def lP (p : List Dir) := lpE (eS N) N an_ p Try.f31 (endK Tb sG Try.f31 [] (un1 .str))
def El0 (k_ : Nat) (k2 : Int) (a : ByteArray) : Option (ByteArray) :=
 lP N [.r, .r, .r, .l, .b] [] k_ (cr i64 k2 :: (un 2 (cr .str a :: (un 16 []))))
theorem ql0 (N : Nat) : ∀ k_, El0 N k_ = Z1m N k_ := qL (Z23 N)
def eE : EnTry := ⟨31, sG, [.v i64], _, Z0g N, pk1 .str, enK Try.func31,
 fun k => eo (eS N) Try.func31 N an_ (Yk .str) (tq (b := Z2i N (El0 N N) k) (by rw [ql0]; rfl))⟩
end Z0g
namespace Z0d
def sG : Sig := ⟨[.val ty3, .val i64], [(i64, .dp)], true, false, none, none, none⟩
def eS : List EnTry := [Z0g.eE N]
def an_ : Nat -> Option (List Nat)
 | 0 => some [0, 1, 5]
 | _ => none
def lP (p : List Dir) := lpE (eS N) N an_ p Try.f16 (endK Tb sG Try.f16 [.val ty3 []] (un2 ty3 i64))
def El0 (k_ : Nat) (a2 : R0) (k2 : Int) (i : Int) : Option (R0 × Int) :=
 lP N [.r, .l, .r, .b] [] k_ (.con .val [⟨ty3, a2, (.at_ (.pn 0))⟩] :: (cr i64 k2 :: (un 3 (cr i64 i :: (un 29 [])))))
theorem ql0 (N : Nat) : ∀ k_, El0 N k_ = Z0u N k_ := qL (Z1c N)
theorem vV (a : R0) (k : Int) :
  evE (eS N) N an_ sG Try.f16 [.val ty3 a, .val i64 k] (un2 ty3 i64) = Z1t N (El0 N N) a k := by kernel_rfl
def eE : EnTry := ⟨16, sG, [.v ty3, .v i64], _, Z0d N, pk2 ty3 i64, enK Try.func16,
 fun a k => Y45 tab_ok (es := eS N) (by kernel_rfl) mixed Try.func16 (by kernel_rfl) ⟨⟨rfl, rfl⟩, rfl, rfl⟩ (fun _ => ⟨_, _, rfl⟩) (Y3w ty3 i64) ((vV N a k).trans (by rw [ql0]; rfl))⟩
end Z0d
namespace Z11
def sG : Sig := ⟨[.val ty5, .val i64], [(i64, .dp)], true, false, none, none, none⟩
def eS (N : Nat) : List EnTry := []
def an_ : Nat -> Option (List Nat)
 | 0 => some [0, 1, 5]
 | _ => none
def lP (p : List Dir) := lpE (eS N) N an_ p Try.f32 (endK Tb sG Try.f32 [.val ty5 []] (un2 ty5 i64))
def El0 (k_ : Nat) (a2 : I0) (k2 : Int) (i : Int) : Option (List Int × Int) :=
 lP N [.r, .l, .r, .b] [] k_ (.con .val [⟨ty5, a2, (.at_ (.pn 0))⟩] :: (cr i64 k2 :: (un 3 (cr i64 i :: (un 13 [])))))
theorem ql0 (N : Nat) : ∀ k_, El0 N k_ = Z1n N k_ := qL (Z24 N)
theorem vV (a : I0) (k : Int) :
  evE (eS N) N an_ sG Try.f32 [.val ty5 a, .val i64 k] (un2 ty5 i64) = Z2j N (El0 N N) a k := by kernel_rfl
def eE : EnTry := ⟨32, sG, [.v ty5, .v i64], _, Z11 N, pk2 ty5 i64, enK Try.func32,
 fun a k => Y45 tab_ok (es := eS N) (by kernel_rfl) mixed Try.func32 (by kernel_rfl) ⟨⟨rfl, rfl⟩, rfl, rfl⟩ (fun _ => ⟨_, _, rfl⟩) (Y3w ty5 i64) ((vV N a k).trans (by rw [ql0]; rfl))⟩
end Z11
namespace Z0v
def sG : Sig := ⟨[.val ty0, .val i64], [(i64, .dp)], true, false, none, none, none⟩
def eS : List EnTry := [Z11.eE N]
def an_ : Nat -> Option (List Nat)
 | 0 => some [0, 1, 5]
 | _ => none
def lP (p : List Dir) := lpE (eS N) N an_ p Try.f17 (endK Tb sG Try.f17 [.val ty0 []] (un2 ty0 i64))
def El0 (k_ : Nat) (a2 : A0) (k2 : Int) (i : Int) : Option (A0 × Int) :=
 lP N [.r, .l, .r, .b] [] k_ (.con .val [⟨ty0, a2, (.at_ (.pn 0))⟩] :: (cr i64 k2 :: (un 3 (cr i64 i :: (un 21 [])))))
theorem ql0 (N : Nat) : ∀ k_, El0 N k_ = Z1f N k_ := qL (Z1w N)
theorem vV (a : A0) (k : Int) :
  evE (eS N) N an_ sG Try.f17 [.val ty0 a, .val i64 k] (un2 ty0 i64) = Z2e N (El0 N N) a k := by kernel_rfl
def eE : EnTry := ⟨17, sG, [.v ty0, .v i64], _, Z0v N, pk2 ty0 i64, enK Try.func17,
 fun a k => Y45 tab_ok (es := eS N) (by kernel_rfl) mixed Try.func17 (by kernel_rfl) ⟨⟨rfl, rfl⟩, rfl, rfl⟩ (fun _ => ⟨_, _, rfl⟩) (Y3w ty0 i64) ((vV N a k).trans (by rw [ql0]; rfl))⟩
end Z0v
namespace Z0b
def sG : Sig := ⟨[.val ty2, .val i64], [(i64, .dp)], true, false, none, none, none⟩
def eS : List EnTry := [Z0d.eE N, Z0v.eE N]
theorem vV (a : D0) (k : Int) :
  evE (eS N) N an0 sG Try.f7 [.val ty2 a, .val i64 k] (un2 ty2 i64) = Z0b N a k := by kernel_rfl
def eE : EnTry := ⟨7, sG, [.v ty2, .v i64], _, Z0b N, pk2 ty2 i64, enK Try.func7,
 fun a k => Y45 tab_ok (es := eS N) (by kernel_rfl) mixed Try.func7 (by kernel_rfl) ⟨⟨rfl, rfl⟩, rfl, rfl⟩ (fun _ => ⟨_, _, rfl⟩) (Y3w ty2 i64) (vV N a k)⟩
end Z0b
namespace Z0e
def sG := sgV [.val ty3, .val i64] [(i64, .dp)]
def eS : List EnTry := [Z0g.eE N]
def an_ : Nat -> Option (List Nat)
 | 0 => some [0, 1, 5]
 | _ => none
def lP (p : List Dir) := lpE (eS N) N an_ p Try.f18 (endK Tb sG Try.f18 [] (un1 i64))
def El0 (k_ : Nat) (a2 : R0) (k2 : Int) (i : Int) : Option (Int) :=
 lP N [.r, .l, .r, .b] [] k_ (cr ty3 a2 :: (cr i64 k2 :: (un 3 (cr i64 i :: (un 35 [])))))
theorem ql0 (N : Nat) : ∀ k_, El0 N k_ = Z0w N k_ := qL (Z1d N)
def eE : EnTry := ⟨18, sG, [.v ty3, .v i64], _, Z0e N, pk1 i64, enK Try.func18,
 fun a k => eo (eS N) Try.func18 N an_ (Yk i64) (tq (b := Z1u N (El0 N N) a k) (by rw [ql0]; rfl))⟩
end Z0e
namespace Z12
def sG := sgV [.val ty5, .val i64] [(i64, .dp)]
def eS (N : Nat) : List EnTry := []
def an_ : Nat -> Option (List Nat)
 | 0 => some [0, 1, 5]
 | _ => none
def lP (p : List Dir) := lpE (eS N) N an_ p Try.f33 (endK Tb sG Try.f33 [] (un1 i64))
def El0 (k_ : Nat) (a2 : I0) (k2 : Int) (i : Int) : Option (Int) :=
 lP N [.r, .l, .r, .b] [] k_ (cr ty5 a2 :: (cr i64 k2 :: (un 3 (cr i64 i :: (un 15 [])))))
theorem ql0 (N : Nat) : ∀ k_, El0 N k_ = Z1o N k_ := qL (Z25 N)
def eE : EnTry := ⟨33, sG, [.v ty5, .v i64], _, Z12 N, pk1 i64, enK Try.func33,
 fun a k => eo (eS N) Try.func33 N an_ (Yk i64) (tq (b := Z2k N (El0 N N) a k) (by rw [ql0]; rfl))⟩
end Z12
namespace Z0x
def sG := sgV [.val ty0, .val i64] [(i64, .dp)]
def eS : List EnTry := [Z12.eE N]
def an_ : Nat -> Option (List Nat)
 | 0 => some [0, 1, 5]
 | _ => none
def lP (p : List Dir) := lpE (eS N) N an_ p Try.f19 (endK Tb sG Try.f19 [] (un1 i64))
def El0 (k_ : Nat) (a2 : A0) (k2 : Int) (i : Int) : Option (Int) :=
 lP N [.r, .l, .r, .b] [] k_ (cr ty0 a2 :: (cr i64 k2 :: (un 3 (cr i64 i :: (un 25 [])))))
theorem ql0 (N : Nat) : ∀ k_, El0 N k_ = Z1g N k_ := qL (Z1x N)
def eE : EnTry := ⟨19, sG, [.v ty0, .v i64], _, Z0x N, pk1 i64, enK Try.func19,
 fun a k => eo (eS N) Try.func19 N an_ (Yk i64) (tq (b := Z2f N (El0 N N) a k) (by rw [ql0]; rfl))⟩
end Z0x
namespace Z0c
def sG := sgV [.val ty2, .val i64] [(i64, .dp)]
def eS : List EnTry := [Z0e.eE N, Z0x.eE N]
def eE : EnTry := ⟨8, sG, [.v ty2, .v i64], _, Z0c N, pk1 i64, enK Try.func8,
 fun a k => eo (eS N) Try.func8 N an0 (Yk i64)⟩
end Z0c
namespace laws_FnExactLadderDatabase
def sG := sgV [.val i64, .val i64] [(.bool, .dp)]
def eS : List EnTry := [Z3.eE N, Z2.eE N, Z0f.eE N, Z0b.eE N, Z0c.eE N]
def eE : EnTry := ⟨3, sG, [.v i64, .v i64], _, laws_FnExactLadderDatabase N, pk1 .bool, enK Try.func3,
 fun a b => eo (eS N) Try.func3 N an0 (Yk .bool)⟩
end laws_FnExactLadderDatabase
end
end Go.PL
