/- What the machine does at each function is what the plain reading says. Conditions: none. -/
import Derived.Test.YtpbgkahaplnfmaaFpF
import Derived.Test.YtpbgkahaplnfmaaPlain
import Derived.Test.YtpbgkahaplnfmaaProg

/- What the machine does is what the plain reading says. Conditions: none. -/
namespace Go.Proofs
open Go.Shelf
def Try.lays189_ren : Go.Shelf.Ren := ⟨fun | 189 => 44 | 125 => 66 | 257 => 65 | 128 => 87 | 129 => 88 | 294 => 78 | 295 => 79 | 296 => 80 | 297 => 81 | 298 => 82 | 299 => 83 | 216 => 84 | 300 => 85 | 301 => 86 | 328 => 94 | 329 => 95 | 330 => 96 | 331 => 97 | 332 => 98 | 215 => 99 | 343 => 102 | n => n, fun | 28 => 51 | 3 => 3 | 46 => 92 | 0 => 0 | 51 => 112 | 53 => 114 | 4 => 4 | 183 => 104 | 182 => 103 | 131 => 109 | 5 => 5 | 9 => 9 | 218 => 118 | 222 => 122 | 228 => 125 | 229 => 78 | n => n, fun | n => n⟩
theorem Try.lays189 : Go.Proofs.Lays.n189 Try.prog Try.lays189_ren := {
 mixed := by kernel_rfl
 f125 := Try.func66.trans (congrArg some (by kernel_rfl))
 f128 := Try.func87.trans (congrArg some (by kernel_rfl))
 f129 := Try.func88.trans (congrArg some (by kernel_rfl))
 f189 := Try.func44.trans (congrArg some (by kernel_rfl))
 f215 := Try.func99.trans (congrArg some (by kernel_rfl))
 f216 := Try.func84.trans (congrArg some (by kernel_rfl))
 f257 := Try.func65.trans (congrArg some (by kernel_rfl))
 f294 := Try.func78.trans (congrArg some (by kernel_rfl))
 f295 := Try.func79.trans (congrArg some (by kernel_rfl))
 f296 := Try.func80.trans (congrArg some (by kernel_rfl))
 f297 := Try.func81.trans (congrArg some (by kernel_rfl))
 f298 := Try.func82.trans (congrArg some (by kernel_rfl))
 f299 := Try.func83.trans (congrArg some (by kernel_rfl))
 f300 := Try.func85.trans (congrArg some (by kernel_rfl))
 f301 := Try.func86.trans (congrArg some (by kernel_rfl))
 f328 := Try.func94.trans (congrArg some (by kernel_rfl))
 f329 := Try.func95.trans (congrArg some (by kernel_rfl))
 f330 := Try.func96.trans (congrArg some (by kernel_rfl))
 f331 := Try.func97.trans (congrArg some (by kernel_rfl))
 f332 := Try.func98.trans (congrArg some (by kernel_rfl))
 f343 := Try.func102.trans (congrArg some (by kernel_rfl))
 t0 := Try.underlying0
 a0 := Try.isAgg0
 z0 := Try.sizeOf0
 v0 := Try.zeroValue0
 t3 := Try.underlying3
 a3 := Try.isAgg3
 z3 := Try.sizeOf3
 v3 := Try.zeroValue3
 t4 := Try.underlying4
 a4 := Try.isAgg4
 z4 := Try.sizeOf4
 v4 := Try.zeroValue4
 t5 := Try.underlying5
 a5 := Try.isAgg5
 z5 := Try.sizeOf5
 v5 := Try.zeroValue5
 t9 := Try.underlying9
 a9 := Try.isAgg9
 z9 := Try.sizeOf9
 v9 := Try.zeroValue9
 t28 := Try.underlying51
 a28 := Try.isAgg51
 z28 := Try.sizeOf51
 v28 := Try.zeroValue51
 t46 := Try.underlying92
 a46 := Try.isAgg92
 z46 := Try.sizeOf92
 v46 := Try.zeroValue92
 t51 := Try.underlying112
 a51 := Try.isAgg112
 z51 := Try.sizeOf112
 v51 := Try.zeroValue112
 t53 := Try.underlying114
 a53 := Try.isAgg114
 z53 := Try.sizeOf114
 v53 := Try.zeroValue114
 t131 := Try.underlying109
 a131 := Try.isAgg109
 z131 := Try.sizeOf109
 v131 := Try.zeroValue109
 t182 := Try.underlying103
 a182 := Try.isAgg103
 z182 := Try.sizeOf103
 v182 := Try.zeroValue103
 t183 := Try.underlying104
 a183 := Try.isAgg104
 z183 := Try.sizeOf104
 v183 := Try.zeroValue104
 t218 := Try.underlying118
 a218 := Try.isAgg118
 z218 := Try.sizeOf118
 v218 := Try.zeroValue118
 t222 := Try.underlying122
 a222 := Try.isAgg122
 z222 := Try.sizeOf122
 v222 := Try.zeroValue122
 t228 := Try.underlying125
 a228 := Try.isAgg125
 z228 := Try.sizeOf125
 v228 := Try.zeroValue125
 t229 := Try.underlying78
 a229 := Try.isAgg78
 z229 := Try.sizeOf78
 v229 := Try.zeroValue78 }
def Try.laysNm220_ren : Go.Shelf.Ren := ⟨fun | 20 => 45 | n => n, fun | 22 => 51 | 3 => 3 | 4 => 4 | 0 => 0 | n => n, fun | n => n⟩
theorem Try.laysNm220 : Go.Proofs.Lays2.n20 Try.prog Try.laysNm220_ren := {
 mixed := by kernel_rfl
 f20 := Try.func45.trans (congrArg some (by kernel_rfl))
 t0 := Try.underlying0
 a0 := Try.isAgg0
 z0 := Try.sizeOf0
 v0 := Try.zeroValue0
 t3 := Try.underlying3
 a3 := Try.isAgg3
 z3 := Try.sizeOf3
 v3 := Try.zeroValue3
 t4 := Try.underlying4
 a4 := Try.isAgg4
 z4 := Try.sizeOf4
 v4 := Try.zeroValue4
 t22 := Try.underlying51
 a22 := Try.isAgg51
 z22 := Try.sizeOf51
 v22 := Try.zeroValue51
 i3 := by kernel_rfl }
end Go.Proofs
namespace Go.PL
open Go.FP Go.Proofs Go.Shelf
set_option linter.unusedVariables false
set_option maxRecDepth 10000

abbrev i64 : Ty := .int .i64
abbrev ty0 : Ty := (.slice 3 i64)
abbrev ty1 : Ty := (.pair .str (.pair i64 i64))
abbrev ty2 : Ty := (.slice 61 (.pair .str (.pair i64 i64)))
abbrev ty3 : Ty := (.pair i64 (.slice 3 i64))
abbrev ty4 : Ty := (.slice 64 (.pair i64 (.slice 3 i64)))
abbrev ty5 : Ty := (.pair (.slice 61 (.pair .str (.pair i64 i64))) (.slice 64 (.pair i64 (.slice 3 i64))))
abbrev ty6 : Ty := (.slice 67 (.pair .str (.pair i64 i64)))
abbrev ty7 : Ty := (.slice 71 (.pair i64 (.slice 3 i64)))
abbrev ty8 : Ty := (.pair (.slice 67 (.pair .str (.pair i64 i64))) (.slice 71 (.pair i64 (.slice 3 i64))))
abbrev ty9 : Ty := (.slice 51 (.slice 3 i64))
abbrev ty10 : Ty := (.slice 48 (.pair i64 (.pair i64 (.pair i64 .bool))))
abbrev ty11 : Ty := (.pair i64 (.pair i64 (.pair i64 .bool)))
abbrev ty12 : Ty := (.slice 5 (.int .u8))
def Tb : Tab := [⟨3, i64, 8, [], false⟩,
 ⟨4, .bool, 1, [], false⟩,
 ⟨5, (.int .u8), 1, [], false⟩,
 ⟨9, .str, 16, [], false⟩,
 ⟨22, ty2, 24, [], false⟩,
 ⟨23, ty4, 24, [], false⟩,
 ⟨25, ty5, 48, [(0, 22), (1, 23)], false⟩,
 ⟨27, ty10, 24, [], false⟩,
 ⟨30, ty6, 24, [], false⟩,
 ⟨31, ty7, 24, [], false⟩,
 ⟨33, ty8, 48, [(0, 30), (1, 31)], false⟩,
 ⟨48, ty11, 32, [(0, 3), (1, 3), (2, 3), (3, 4)], false⟩,
 ⟨51, ty0, 24, [], false⟩,
 ⟨61, ty1, 32, [(0, 9), (1, 3), (2, 3)], false⟩,
 ⟨64, ty3, 32, [(0, 3), (1, 51)], false⟩,
 ⟨67, ty1, 32, [(0, 9), (1, 3), (2, 3)], false⟩,
 ⟨68, ty9, 24, [], false⟩,
 ⟨71, ty3, 32, [(0, 3), (1, 51)], false⟩,
 ⟨96, ty12, 24, [], false⟩]
theorem tab_ok : TabOk Try.prog Tb :=
 (tab_cons (TEOk.plain (i := Try.t3) (by kernel_rfl) rfl rfl (by kernel_rfl) rfl rfl Try.underlying3)
 (tab_cons (TEOk.plain (i := Try.t4) (by kernel_rfl) rfl rfl (by kernel_rfl) rfl rfl Try.underlying4)
 (tab_cons (TEOk.plain (i := Try.t5) (by kernel_rfl) rfl rfl (by kernel_rfl) rfl rfl Try.underlying5)
 (tab_cons (TEOk.plain (i := Try.t9) (by kernel_rfl) rfl rfl (by kernel_rfl) rfl rfl Try.underlying9)
 (tab_cons (TEOk.plain (i := Try.t22) (by kernel_rfl) rfl rfl (by kernel_rfl) rfl rfl Try.underlying22)
 (tab_cons (TEOk.plain (i := Try.t23) (by kernel_rfl) rfl rfl (by kernel_rfl) rfl rfl Try.underlying23)
 (tab_cons (TEOk.struct (i := Try.t25) (pl := [(0, 1), (1, 1)]) (by kernel_rfl) rfl rfl (by kernel_rfl) Try.underlying25 (by kernel_rfl) (by kernel_rfl) rfl rfl)
 (tab_cons (TEOk.plain (i := Try.t27) (by kernel_rfl) rfl rfl (by kernel_rfl) rfl rfl Try.underlying27)
 (tab_cons (TEOk.plain (i := Try.t30) (by kernel_rfl) rfl rfl (by kernel_rfl) rfl rfl Try.underlying30)
 (tab_cons (TEOk.plain (i := Try.t31) (by kernel_rfl) rfl rfl (by kernel_rfl) rfl rfl Try.underlying31)
 (tab_cons (TEOk.struct (i := Try.t33) (pl := [(0, 1), (1, 1)]) (by kernel_rfl) rfl rfl (by kernel_rfl) Try.underlying33 (by kernel_rfl) (by kernel_rfl) rfl rfl)
 (tab_cons (TEOk.struct (i := Try.t48) (pl := [(0, 1), (1, 1), (2, 1), (3, 1)]) (by kernel_rfl) rfl rfl (by kernel_rfl) Try.underlying48 (by kernel_rfl) (by kernel_rfl) rfl rfl)
 (tab_cons (TEOk.plain (i := Try.t51) (by kernel_rfl) rfl rfl (by kernel_rfl) rfl rfl Try.underlying51)
 (tab_cons (TEOk.struct (i := Try.t61) (pl := [(0, 1), (1, 1), (2, 1)]) (by kernel_rfl) rfl rfl (by kernel_rfl) Try.underlying61 (by kernel_rfl) (by kernel_rfl) rfl rfl)
 (tab_cons (TEOk.struct (i := Try.t64) (pl := [(0, 1), (1, 1)]) (by kernel_rfl) rfl rfl (by kernel_rfl) Try.underlying64 (by kernel_rfl) (by kernel_rfl) rfl rfl)
 (tab_cons (TEOk.struct (i := Try.t67) (pl := [(0, 1), (1, 1), (2, 1)]) (by kernel_rfl) rfl rfl (by kernel_rfl) Try.underlying67 (by kernel_rfl) (by kernel_rfl) rfl rfl)
 (tab_cons (TEOk.plain (i := Try.t68) (by kernel_rfl) rfl rfl (by kernel_rfl) rfl rfl Try.underlying68)
 (tab_cons (TEOk.struct (i := Try.t71) (pl := [(0, 1), (1, 1)]) (by kernel_rfl) rfl rfl (by kernel_rfl) Try.underlying71 (by kernel_rfl) (by kernel_rfl) rfl rfl)
 (tab_cons (TEOk.plain (i := Try.t96) (by kernel_rfl) rfl rfl (by kernel_rfl) rfl rfl Try.underlying96)
 tab_nil)))))))))))))))))))
theorem mixed : Try.prog.follows .mixedOrders = true := by decide
def cps : FuncId → List Ty := capsL [(47, [ty8, i64, i64, i64, i64]), (50, [ty8, i64, i64, i64]), (92, [])]
section
variable {R : Type} (es : List (Entry Try.prog)) (N : Nat) (an : Nat → Option (List Nat))
noncomputable abbrev evE (sg : Sig) (fn : Func) (args : List RV) (K : List (Σ t : Ty, t.D) → Option R) : Option R :=
 evFn Tb (sigL es) cps (orcL es) (drawReg Tb (sigL es) cps (orcL es)) N an sg fn (fn.body.getD .skip) args K
noncomputable abbrev evB (sg : Sig) (b : BoxSig) (fn : Func) (args : List RV) (K : List (Σ t : Ty, t.D) → Option R) : Option R :=
 evFnB Tb (sigL es) cps (orcL es) (drawReg Tb (sigL es) cps (orcL es)) N an sg b fn (fn.body.getD .skip) args K
noncomputable abbrev evN (id : TypeId) (t : Ty) (fn : Func) (args : List RV) (K : List (Σ t : Ty, t.D) → Option R) : Option R :=
 evFnN Tb (sigL es) cps (orcL es) (drawReg Tb (sigL es) cps (orcL es)) N an id t fn (fn.body.getD .skip) args K
noncomputable abbrev lpE (p : List Dir) (fn : Func) (K : Exit → Env → Option R) (rs : List (Env → Option R)) (k : Nat) (env : Env) : Option R :=
 loopAt Tb (sigL es) cps (orcL es) N an p (fn.body.getD .skip) K rs k env
end

def lay_Grow_ren : Ren := ⟨fun _ => 64, fun | 0 => 0 | 3 => 3 | 4 => 4 | 9 => 9 | 20 => 20 | 22 => 51 | _ => 3, id⟩
theorem lay_Grow : Lays8.n4 Try.prog lay_Grow_ren := {
 mixed := by kernel_rfl
 f4 := ⟨Try.f64.name, by kernel_rfl, Try.func64.trans (congrArg some (by kernel_rfl))⟩
 t0 := Try.underlying0
 a0 := Try.isAgg0
 z0 := Try.sizeOf0
 v0 := Try.zeroValue0
 t3 := Try.underlying3
 a3 := Try.isAgg3
 z3 := Try.sizeOf3
 v3 := Try.zeroValue3
 t4 := Try.underlying4
 a4 := Try.isAgg4
 z4 := Try.sizeOf4
 v4 := Try.zeroValue4
 t9 := Try.underlying9
 a9 := Try.isAgg9
 z9 := Try.sizeOf9
 v9 := Try.zeroValue9
 t20 := Try.underlying20
 a20 := Try.isAgg20
 z20 := Try.sizeOf20
 v20 := Try.zeroValue20
 t22 := Try.underlying51
 a22 := Try.isAgg51
 z22 := Try.sizeOf51
 v22 := Try.zeroValue51 }
noncomputable def slices_Grow_Lint_int_e (N : Nat) : Entry Try.prog := ⟨64, ⟨[.val ty0, .val i64], [(ty0, .dp)], true, true, none, none⟩, [.v ty0, .v i64], List Int, slices_Grow_Lint_int N, pk1 ty0, entry_en Try.func64 (code := Try.f64.body.getD .skip) (by kernel_rfl) (by kernel_rfl),
 fun s n q h => grow_ent (growSaid lay_Grow (i0 := Try.t3) (z := (Try.t3.zero).getD default) (by kernel_rfl) (by kernel_rfl) (by kernel_rfl) (by kernel_rfl) (by kernel_rfl)) h⟩
noncomputable def slices_Sort_Lint_int_e (N : Nat) : Entry Try.prog := ⟨44, ⟨[.val ty0], [], true, false, none, none⟩, [.v ty0], List Int, slices_Sort_Lint_int N, pk1 ty0, entry_en Try.func44 (code := Try.f44.body.getD .skip) (by kernel_rfl) (by kernel_rfl),
 fun s q h => sort_ent (sortSaid Try.lays189) h⟩
noncomputable def slices_Compact_Lint_int_e (N : Nat) : Entry Try.prog := ⟨45, ⟨[.val ty0], [(ty0, .dp)], true, true, none, none⟩, [.v ty0], List Int, slices_Compact_Lint_int N, pk1 ty0, entry_en Try.func45 (code := Try.f45.body.getD .skip) (by kernel_rfl) (by kernel_rfl),
 fun s q h => compact_ent (compactSaid Try.laysNm220) h⟩
namespace laws_szRelation
def sG : Sig := ⟨[.val ty1, .val i64], [(i64, .dp)], false, false, none, none⟩
noncomputable def eS (N : Nat) : List (Entry Try.prog) := []
def aN : Nat → Option (List Nat) := fun _ => none
theorem vV (N : Nat) (a : ByteArray × Int × Int) (left_ : Int) :
  evE (eS N) N aN sG Try.f31 [.val ty1 a, .val i64 left_] (un1 i64) = laws_szRelation N a left_ := by kernel_rfl
noncomputable def eE (N : Nat) : Entry Try.prog := ⟨31, sG, [.v ty1, .v i64], Int, laws_szRelation N, pk1 i64, entry_en Try.func31 (code := Try.f31.body.getD .skip) (by kernel_rfl) (by kernel_rfl),
 fun a left_ => entry_ok tab_ok (es := eS N) (by kernel_rfl) mixed Try.func31 (by kernel_rfl) ⟨⟨rfl, rfl⟩, rfl, rfl⟩ (un1_pk i64) (vV N a left_)⟩
end laws_szRelation
namespace laws_szRelationS
def sG : Sig := ⟨[.val ty2, .val i64], [(i64, .dp)], false, false, none, none⟩
noncomputable def eS (N : Nat) : List (Entry Try.prog) := [laws_szRelation.eE N]
def aN : Nat → Option (List Nat)
 | 0 => some [0, 1, 5]
 | _ => none
noncomputable def lP (N : Nat) (p : List Dir) (rs : List (Env → Option (Int))) (k : Nat) (env : Env) : Option (Int) :=
 lpE (eS N) N aN p Try.f13 (endK Tb sG Try.f13 [] (un1 i64)) rs k env
noncomputable def El0 (N : Nat) (k_ : Nat) (a2 : List (ByteArray × Int × Int)) (left_2 : Int) (i : Int) : Option (Int) :=
 lP N [.r, .r, .r, .l, .r, .b] [] k_ (.con .val [lf ty2 a2 .ro] :: (.con .val [lf i64 left_2 .ro] :: (un 3 (.con .val [lf i64 i .ro] :: (un 21 [])))))
theorem ql0 (N : Nat) : ∀ k_, El0 N k_ = laws_szRelationS_l0 N k_
 | 0 => by funext a2 left_2 i; kernel_rfl
 | k_ + 1 => by funext a2 left_2 i; rw [show El0 N (k_ + 1) a2 left_2 i = laws_szRelationS_l0_b N (El0 N k_) a2 left_2 i from by kernel_rfl]; simp only [ql0 N k_]; rfl
theorem vV (N : Nat) (a : List (ByteArray × Int × Int)) (left_ : Int) :
  evE (eS N) N aN sG Try.f13 [.val ty2 a, .val i64 left_] (un1 i64) = laws_szRelationS_b N (El0 N N) a left_ := by kernel_rfl
noncomputable def eE (N : Nat) : Entry Try.prog := ⟨13, sG, [.v ty2, .v i64], Int, laws_szRelationS N, pk1 i64, entry_en Try.func13 (code := Try.f13.body.getD .skip) (by kernel_rfl) (by kernel_rfl),
 fun a left_ => entry_ok tab_ok (es := eS N) (by kernel_rfl) mixed Try.func13 (by kernel_rfl) ⟨⟨rfl, rfl⟩, rfl, rfl⟩ (un1_pk i64) ((vV N a left_).trans (by rw [ql0]; rfl))⟩
end laws_szRelationS
namespace laws_szIntS
def sG : Sig := ⟨[.val ty0, .val i64], [(i64, .dp)], false, false, none, none⟩
noncomputable def eS (N : Nat) : List (Entry Try.prog) := []
def aN : Nat → Option (List Nat) := fun _ => none
theorem vV (N : Nat) (a : List Int) (left_ : Int) :
  evE (eS N) N aN sG Try.f55 [.val ty0 a, .val i64 left_] (un1 i64) = laws_szIntS N a left_ := by kernel_rfl
noncomputable def eE (N : Nat) : Entry Try.prog := ⟨55, sG, [.v ty0, .v i64], Int, laws_szIntS N, pk1 i64, entry_en Try.func55 (code := Try.f55.body.getD .skip) (by kernel_rfl) (by kernel_rfl),
 fun a left_ => entry_ok tab_ok (es := eS N) (by kernel_rfl) mixed Try.func55 (by kernel_rfl) ⟨⟨rfl, rfl⟩, rfl, rfl⟩ (un1_pk i64) (vV N a left_)⟩
end laws_szIntS
namespace laws_szFact
def sG : Sig := ⟨[.val ty3, .val i64], [(i64, .dp)], false, false, none, none⟩
noncomputable def eS (N : Nat) : List (Entry Try.prog) := [laws_szIntS.eE N]
def aN : Nat → Option (List Nat) := fun _ => none
theorem vV (N : Nat) (a : Int × List Int) (left_ : Int) :
  evE (eS N) N aN sG Try.f32 [.val ty3 a, .val i64 left_] (un1 i64) = laws_szFact N a left_ := by kernel_rfl
noncomputable def eE (N : Nat) : Entry Try.prog := ⟨32, sG, [.v ty3, .v i64], Int, laws_szFact N, pk1 i64, entry_en Try.func32 (code := Try.f32.body.getD .skip) (by kernel_rfl) (by kernel_rfl),
 fun a left_ => entry_ok tab_ok (es := eS N) (by kernel_rfl) mixed Try.func32 (by kernel_rfl) ⟨⟨rfl, rfl⟩, rfl, rfl⟩ (un1_pk i64) (vV N a left_)⟩
end laws_szFact
namespace laws_szFactS
def sG : Sig := ⟨[.val ty4, .val i64], [(i64, .dp)], false, false, none, none⟩
noncomputable def eS (N : Nat) : List (Entry Try.prog) := [laws_szFact.eE N]
def aN : Nat → Option (List Nat)
 | 0 => some [0, 1, 5]
 | _ => none
noncomputable def lP (N : Nat) (p : List Dir) (rs : List (Env → Option (Int))) (k : Nat) (env : Env) : Option (Int) :=
 lpE (eS N) N aN p Try.f14 (endK Tb sG Try.f14 [] (un1 i64)) rs k env
noncomputable def El0 (N : Nat) (k_ : Nat) (a2 : List (Int × List Int)) (left_2 : Int) (i : Int) : Option (Int) :=
 lP N [.r, .r, .r, .l, .r, .b] [] k_ (.con .val [lf ty4 a2 .ro] :: (.con .val [lf i64 left_2 .ro] :: (un 3 (.con .val [lf i64 i .ro] :: (un 21 [])))))
theorem ql0 (N : Nat) : ∀ k_, El0 N k_ = laws_szFactS_l0 N k_
 | 0 => by funext a2 left_2 i; kernel_rfl
 | k_ + 1 => by funext a2 left_2 i; rw [show El0 N (k_ + 1) a2 left_2 i = laws_szFactS_l0_b N (El0 N k_) a2 left_2 i from by kernel_rfl]; simp only [ql0 N k_]; rfl
theorem vV (N : Nat) (a : List (Int × List Int)) (left_ : Int) :
  evE (eS N) N aN sG Try.f14 [.val ty4 a, .val i64 left_] (un1 i64) = laws_szFactS_b N (El0 N N) a left_ := by kernel_rfl
noncomputable def eE (N : Nat) : Entry Try.prog := ⟨14, sG, [.v ty4, .v i64], Int, laws_szFactS N, pk1 i64, entry_en Try.func14 (code := Try.f14.body.getD .skip) (by kernel_rfl) (by kernel_rfl),
 fun a left_ => entry_ok tab_ok (es := eS N) (by kernel_rfl) mixed Try.func14 (by kernel_rfl) ⟨⟨rfl, rfl⟩, rfl, rfl⟩ (un1_pk i64) ((vV N a left_).trans (by rw [ql0]; rfl))⟩
end laws_szFactS
namespace laws_szDatabase
def sG : Sig := ⟨[.val ty5, .val i64], [(i64, .dp)], false, false, none, none⟩
noncomputable def eS (N : Nat) : List (Entry Try.prog) := [laws_szRelationS.eE N, laws_szFactS.eE N]
def aN : Nat → Option (List Nat) := fun _ => none
theorem vV (N : Nat) (a : List (ByteArray × Int × Int) × List (Int × List Int)) (left_ : Int) :
  evE (eS N) N aN sG Try.f4 [.val ty5 a, .val i64 left_] (un1 i64) = laws_szDatabase N a left_ := by kernel_rfl
noncomputable def eE (N : Nat) : Entry Try.prog := ⟨4, sG, [.v ty5, .v i64], Int, laws_szDatabase N, pk1 i64, entry_en Try.func4 (code := Try.f4.body.getD .skip) (by kernel_rfl) (by kernel_rfl),
 fun a left_ => entry_ok tab_ok (es := eS N) (by kernel_rfl) mixed Try.func4 (by kernel_rfl) ⟨⟨rfl, rfl⟩, rfl, rfl⟩ (un1_pk i64) (vV N a left_)⟩
end laws_szDatabase
namespace laws_toRelation
def sG : Sig := ⟨[.val ty1], [(ty1, .dp)], false, false, none, none⟩
noncomputable def eS (N : Nat) : List (Entry Try.prog) := []
def aN : Nat → Option (List Nat) := fun _ => none
theorem vV (N : Nat) (a : ByteArray × Int × Int) :
  evE (eS N) N aN sG Try.f39 [.val ty1 a] (un1 ty1) = laws_toRelation N a := by kernel_rfl
noncomputable def eE (N : Nat) : Entry Try.prog := ⟨39, sG, [.v ty1], ByteArray × Int × Int, laws_toRelation N, pk1 ty1, entry_en Try.func39 (code := Try.f39.body.getD .skip) (by kernel_rfl) (by kernel_rfl),
 fun a => entry_ok tab_ok (es := eS N) (by kernel_rfl) mixed Try.func39 (by kernel_rfl) ⟨⟨rfl, rfl⟩, rfl, rfl⟩ (un1_pk ty1) (vV N a)⟩
end laws_toRelation
namespace laws_toRelationS
def sG : Sig := ⟨[.val ty2], [(ty6, .dp)], false, false, none, none⟩
noncomputable def eS (N : Nat) : List (Entry Try.prog) := [laws_toRelation.eE N]
def aN : Nat → Option (List Nat)
 | 0 => some [0, 3, 4]
 | _ => none
noncomputable def lP (N : Nat) (p : List Dir) (rs : List (Env → Option (List (ByteArray × Int × Int)))) (k : Nat) (env : Env) : Option (List (ByteArray × Int × Int)) :=
 lpE (eS N) N aN p Try.f19 (endK Tb sG Try.f19 [] (un1 ty6)) rs k env
noncomputable def El0 (N : Nat) (k_ : Nat) (a2 : List (ByteArray × Int × Int)) (out : List (ByteArray × Int × Int)) (i : Int) : Option (List (ByteArray × Int × Int)) :=
 lP N [.r, .r, .l, .r, .b] [] k_ (.con .val [lf ty2 a2 .ro] :: (un 2 (.con .val [lf ty6 out .dp] :: (.con .val [lf i64 i .ro] :: (un 18 [])))))
theorem ql0 (N : Nat) : ∀ k_, El0 N k_ = laws_toRelationS_l0 N k_
 | 0 => by funext a2 out i; kernel_rfl
 | k_ + 1 => by funext a2 out i; rw [show El0 N (k_ + 1) a2 out i = laws_toRelationS_l0_b N (El0 N k_) a2 out i from by kernel_rfl]; simp only [ql0 N k_]; rfl
theorem vV (N : Nat) (a : List (ByteArray × Int × Int)) :
  evE (eS N) N aN sG Try.f19 [.val ty2 a] (un1 ty6) = laws_toRelationS_b N (El0 N N) a := by kernel_rfl
noncomputable def eE (N : Nat) : Entry Try.prog := ⟨19, sG, [.v ty2], List (ByteArray × Int × Int), laws_toRelationS N, pk1 ty6, entry_en Try.func19 (code := Try.f19.body.getD .skip) (by kernel_rfl) (by kernel_rfl),
 fun a => entry_ok tab_ok (es := eS N) (by kernel_rfl) mixed Try.func19 (by kernel_rfl) ⟨⟨rfl, rfl⟩, rfl, rfl⟩ (un1_pk ty6) ((vV N a).trans (by rw [ql0]; rfl))⟩
end laws_toRelationS
namespace laws_toIntS
def sG : Sig := ⟨[.val ty0], [(ty0, .dp)], false, false, none, none⟩
noncomputable def eS (N : Nat) : List (Entry Try.prog) := []
def aN : Nat → Option (List Nat)
 | 0 => some [0, 3, 4]
 | _ => none
noncomputable def lP (N : Nat) (p : List Dir) (rs : List (Env → Option (List Int))) (k : Nat) (env : Env) : Option (List Int) :=
 lpE (eS N) N aN p Try.f60 (endK Tb sG Try.f60 [] (un1 ty0)) rs k env
noncomputable def El0 (N : Nat) (k_ : Nat) (a2 : List Int) (out : List Int) (i : Int) : Option (List Int) :=
 lP N [.r, .r, .l, .r, .b] [] k_ (.con .val [lf ty0 a2 .ro] :: (un 2 (.con .val [lf ty0 out .dp] :: (.con .val [lf i64 i .ro] :: (un 17 [])))))
theorem ql0 (N : Nat) : ∀ k_, El0 N k_ = laws_toIntS_l0 N k_
 | 0 => by funext a2 out i; kernel_rfl
 | k_ + 1 => by funext a2 out i; rw [show El0 N (k_ + 1) a2 out i = laws_toIntS_l0_b N (El0 N k_) a2 out i from by kernel_rfl]; simp only [ql0 N k_]; rfl
theorem vV (N : Nat) (a : List Int) :
  evE (eS N) N aN sG Try.f60 [.val ty0 a] (un1 ty0) = laws_toIntS_b N (El0 N N) a := by kernel_rfl
noncomputable def eE (N : Nat) : Entry Try.prog := ⟨60, sG, [.v ty0], List Int, laws_toIntS N, pk1 ty0, entry_en Try.func60 (code := Try.f60.body.getD .skip) (by kernel_rfl) (by kernel_rfl),
 fun a => entry_ok tab_ok (es := eS N) (by kernel_rfl) mixed Try.func60 (by kernel_rfl) ⟨⟨rfl, rfl⟩, rfl, rfl⟩ (un1_pk ty0) ((vV N a).trans (by rw [ql0]; rfl))⟩
end laws_toIntS
namespace laws_toFact
def sG : Sig := ⟨[.val ty3], [(ty3, .dp)], false, false, none, none⟩
noncomputable def eS (N : Nat) : List (Entry Try.prog) := [laws_toIntS.eE N]
def aN : Nat → Option (List Nat) := fun _ => none
theorem vV (N : Nat) (a : Int × List Int) :
  evE (eS N) N aN sG Try.f40 [.val ty3 a] (un1 ty3) = laws_toFact N a := by kernel_rfl
noncomputable def eE (N : Nat) : Entry Try.prog := ⟨40, sG, [.v ty3], Int × List Int, laws_toFact N, pk1 ty3, entry_en Try.func40 (code := Try.f40.body.getD .skip) (by kernel_rfl) (by kernel_rfl),
 fun a => entry_ok tab_ok (es := eS N) (by kernel_rfl) mixed Try.func40 (by kernel_rfl) ⟨⟨rfl, rfl⟩, rfl, rfl⟩ (un1_pk ty3) (vV N a)⟩
end laws_toFact
namespace laws_toFactS
def sG : Sig := ⟨[.val ty4], [(ty7, .dp)], false, false, none, none⟩
noncomputable def eS (N : Nat) : List (Entry Try.prog) := [laws_toFact.eE N]
def aN : Nat → Option (List Nat)
 | 0 => some [0, 3, 4]
 | _ => none
noncomputable def lP (N : Nat) (p : List Dir) (rs : List (Env → Option (List (Int × List Int)))) (k : Nat) (env : Env) : Option (List (Int × List Int)) :=
 lpE (eS N) N aN p Try.f20 (endK Tb sG Try.f20 [] (un1 ty7)) rs k env
noncomputable def El0 (N : Nat) (k_ : Nat) (a2 : List (Int × List Int)) (out : List (Int × List Int)) (i : Int) : Option (List (Int × List Int)) :=
 lP N [.r, .r, .l, .r, .b] [] k_ (.con .val [lf ty4 a2 .ro] :: (un 2 (.con .val [lf ty7 out .dp] :: (.con .val [lf i64 i .ro] :: (un 18 [])))))
theorem ql0 (N : Nat) : ∀ k_, El0 N k_ = laws_toFactS_l0 N k_
 | 0 => by funext a2 out i; kernel_rfl
 | k_ + 1 => by funext a2 out i; rw [show El0 N (k_ + 1) a2 out i = laws_toFactS_l0_b N (El0 N k_) a2 out i from by kernel_rfl]; simp only [ql0 N k_]; rfl
theorem vV (N : Nat) (a : List (Int × List Int)) :
  evE (eS N) N aN sG Try.f20 [.val ty4 a] (un1 ty7) = laws_toFactS_b N (El0 N N) a := by kernel_rfl
noncomputable def eE (N : Nat) : Entry Try.prog := ⟨20, sG, [.v ty4], List (Int × List Int), laws_toFactS N, pk1 ty7, entry_en Try.func20 (code := Try.f20.body.getD .skip) (by kernel_rfl) (by kernel_rfl),
 fun a => entry_ok tab_ok (es := eS N) (by kernel_rfl) mixed Try.func20 (by kernel_rfl) ⟨⟨rfl, rfl⟩, rfl, rfl⟩ (un1_pk ty7) ((vV N a).trans (by rw [ql0]; rfl))⟩
end laws_toFactS
namespace laws_toDatabase
def sG : Sig := ⟨[.val ty5], [(ty8, .dp)], false, false, none, none⟩
noncomputable def eS (N : Nat) : List (Entry Try.prog) := [laws_toRelationS.eE N, laws_toFactS.eE N]
def aN : Nat → Option (List Nat) := fun _ => none
theorem vV (N : Nat) (a : List (ByteArray × Int × Int) × List (Int × List Int)) :
  evE (eS N) N aN sG Try.f6 [.val ty5 a] (un1 ty8) = laws_toDatabase N a := by kernel_rfl
noncomputable def eE (N : Nat) : Entry Try.prog := ⟨6, sG, [.v ty5], List (ByteArray × Int × Int) × List (Int × List Int), laws_toDatabase N, pk1 ty8, entry_en Try.func6 (code := Try.f6.body.getD .skip) (by kernel_rfl) (by kernel_rfl),
 fun a => entry_ok tab_ok (es := eS N) (by kernel_rfl) mixed Try.func6 (by kernel_rfl) ⟨⟨rfl, rfl⟩, rfl, rfl⟩ (un1_pk ty8) (vV N a)⟩
end laws_toDatabase
namespace spec_l1In
def sG : Sig := ⟨[.val i64, .val i64, .val i64], [(.bool, .dp)], false, false, none, none⟩
noncomputable def eS (N : Nat) : List (Entry Try.prog) := []
def aN : Nat → Option (List Nat) := fun _ => none
theorem vV (N : Nat) (x : Int) (low : Int) (high : Int) :
  evE (eS N) N aN sG Try.f34 [.val i64 x, .val i64 low, .val i64 high] (un1 .bool) = spec_l1In N x low high := by kernel_rfl
noncomputable def eE (N : Nat) : Entry Try.prog := ⟨34, sG, [.v i64, .v i64, .v i64], Bool, spec_l1In N, pk1 .bool, entry_en Try.func34 (code := Try.f34.body.getD .skip) (by kernel_rfl) (by kernel_rfl),
 fun x low high => entry_ok tab_ok (es := eS N) (by kernel_rfl) mixed Try.func34 (by kernel_rfl) ⟨⟨rfl, rfl⟩, rfl, rfl⟩ (un1_pk .bool) (vV N x low high)⟩
end spec_l1In
namespace spec_IsValidRelation
def sG : Sig := ⟨[.val ty1], [(.bool, .dp)], false, false, none, none⟩
noncomputable def eS (N : Nat) : List (Entry Try.prog) := [spec_l1In.eE N]
def aN : Nat → Option (List Nat) := fun _ => none
theorem vV (N : Nat) (s : ByteArray × Int × Int) :
  evE (eS N) N aN sG Try.f72 [.val ty1 s] (un1 .bool) = spec_IsValidRelation N s := by kernel_rfl
noncomputable def eE (N : Nat) : Entry Try.prog := ⟨72, sG, [.v ty1], Bool, spec_IsValidRelation N, pk1 .bool, entry_en Try.func72 (code := Try.f72.body.getD .skip) (by kernel_rfl) (by kernel_rfl),
 fun s => entry_ok tab_ok (es := eS N) (by kernel_rfl) mixed Try.func72 (by kernel_rfl) ⟨⟨rfl, rfl⟩, rfl, rfl⟩ (un1_pk .bool) (vV N s)⟩
end spec_IsValidRelation
namespace spec_AreValidRelations
def sG : Sig := ⟨[.val ty6], [(.bool, .dp)], false, false, none, none⟩
noncomputable def eS (N : Nat) : List (Entry Try.prog) := [spec_IsValidRelation.eE N]
def aN : Nat → Option (List Nat)
 | 0 => some [0, 3]
 | _ => none
noncomputable def lP (N : Nat) (p : List Dir) (rs : List (Env → Option (Bool))) (k : Nat) (env : Env) : Option (Bool) :=
 lpE (eS N) N aN p Try.f58 (endK Tb sG Try.f58 [] (un1 .bool)) rs k env
noncomputable def El0 (N : Nat) (k_ : Nat) (l2 : List (ByteArray × Int × Int)) (i : Int) : Option (Bool) :=
 lP N [.r, .l, .r, .b] [] k_ (.con .val [lf ty6 l2 .ro] :: (un 2 (.con .val [lf i64 i .ro] :: (un 33 []))))
theorem ql0 (N : Nat) : ∀ k_, El0 N k_ = spec_AreValidRelations_l0 N k_
 | 0 => by funext l2 i; kernel_rfl
 | k_ + 1 => by funext l2 i; rw [show El0 N (k_ + 1) l2 i = spec_AreValidRelations_l0_b N (El0 N k_) l2 i from by kernel_rfl]; simp only [ql0 N k_]; rfl
theorem vV (N : Nat) (l : List (ByteArray × Int × Int)) :
  evE (eS N) N aN sG Try.f58 [.val ty6 l] (un1 .bool) = spec_AreValidRelations_b N (El0 N N) l := by kernel_rfl
noncomputable def eE (N : Nat) : Entry Try.prog := ⟨58, sG, [.v ty6], Bool, spec_AreValidRelations N, pk1 .bool, entry_en Try.func58 (code := Try.f58.body.getD .skip) (by kernel_rfl) (by kernel_rfl),
 fun l => entry_ok tab_ok (es := eS N) (by kernel_rfl) mixed Try.func58 (by kernel_rfl) ⟨⟨rfl, rfl⟩, rfl, rfl⟩ (un1_pk .bool) ((vV N l).trans (by rw [ql0]; rfl))⟩
end spec_AreValidRelations
namespace spec_IsValidFact
def sG : Sig := ⟨[.val ty6, .val ty3], [(.bool, .dp)], false, false, none, none⟩
noncomputable def eS (N : Nat) : List (Entry Try.prog) := [spec_l1In.eE N, spec_AreValidRelations.eE N]
def aN : Nat → Option (List Nat)
 | 0 => some [3, 5]
 | _ => none
noncomputable def lP (N : Nat) (p : List Dir) (rs : List (Env → Option (Bool))) (k : Nat) (env : Env) : Option (Bool) :=
 lpE (eS N) N aN p Try.f56 (endK Tb sG Try.f56 [] (un1 .bool)) rs k env
noncomputable def El0 (N : Nat) (k_ : Nat) (f2 : Int) (f3 : List Int) (i : Int) : Option (Bool) :=
 lP N [.r, .r, .l, .r, .b] [] k_ (un 3 (.con (.box ⟨71, false, []⟩) [lf i64 f2 .ro, lf ty0 f3 .ro] :: (un 1 (.con .val [lf i64 i .ro] :: (un 38 [])))))
theorem ql0 (N : Nat) : ∀ k_, El0 N k_ = spec_IsValidFact_l0 N k_
 | 0 => by funext f2 f3 i; kernel_rfl
 | k_ + 1 => by funext f2 f3 i; rw [show El0 N (k_ + 1) f2 f3 i = spec_IsValidFact_l0_b N (El0 N k_) f2 f3 i from by kernel_rfl]; simp only [ql0 N k_]; rfl
theorem vV (N : Nat) (l : List (ByteArray × Int × Int)) (f : Int × List Int) :
  evE (eS N) N aN sG Try.f56 [.val ty6 l, .val ty3 f] (un1 .bool) = spec_IsValidFact_b N (El0 N N) l f := by kernel_rfl
noncomputable def eE (N : Nat) : Entry Try.prog := ⟨56, sG, [.v ty6, .v ty3], Bool, spec_IsValidFact N, pk1 .bool, entry_en Try.func56 (code := Try.f56.body.getD .skip) (by kernel_rfl) (by kernel_rfl),
 fun l f => entry_ok tab_ok (es := eS N) (by kernel_rfl) mixed Try.func56 (by kernel_rfl) ⟨⟨rfl, rfl⟩, rfl, rfl⟩ (un1_pk .bool) ((vV N l f).trans (by rw [ql0]; rfl))⟩
end spec_IsValidFact
namespace spec_l3Ints
def sG : Sig := ⟨[.val ty0, .val ty0], [(i64, .dp)], false, false, none, none⟩
noncomputable def eS (N : Nat) : List (Entry Try.prog) := []
def aN : Nat → Option (List Nat)
 | 0 => some [0, 1, 5]
 | _ => none
noncomputable def lP (N : Nat) (p : List Dir) (rs : List (Env → Option (Int))) (k : Nat) (env : Env) : Option (Int) :=
 lpE (eS N) N aN p Try.f71 (endK Tb sG Try.f71 [] (un1 i64)) rs k env
noncomputable def El0 (N : Nat) (k_ : Nat) (a2 : List Int) (b2 : List Int) (i : Int) : Option (Int) :=
 lP N [.r, .l, .r, .b] [] k_ (.con .val [lf ty0 a2 .ro] :: (.con .val [lf ty0 b2 .ro] :: (un 3 (.con .val [lf i64 i .ro] :: (un 40 [])))))
theorem ql0 (N : Nat) : ∀ k_, El0 N k_ = spec_l3Ints_l0 N k_
 | 0 => by funext a2 b2 i; kernel_rfl
 | k_ + 1 => by funext a2 b2 i; rw [show El0 N (k_ + 1) a2 b2 i = spec_l3Ints_l0_b N (El0 N k_) a2 b2 i from by kernel_rfl]; simp only [ql0 N k_]; rfl
theorem vV (N : Nat) (a : List Int) (b : List Int) :
  evE (eS N) N aN sG Try.f71 [.val ty0 a, .val ty0 b] (un1 i64) = spec_l3Ints_b N (El0 N N) a b := by kernel_rfl
noncomputable def eE (N : Nat) : Entry Try.prog := ⟨71, sG, [.v ty0, .v ty0], Int, spec_l3Ints N, pk1 i64, entry_en Try.func71 (code := Try.f71.body.getD .skip) (by kernel_rfl) (by kernel_rfl),
 fun a b => entry_ok tab_ok (es := eS N) (by kernel_rfl) mixed Try.func71 (by kernel_rfl) ⟨⟨rfl, rfl⟩, rfl, rfl⟩ (un1_pk i64) ((vV N a b).trans (by rw [ql0]; rfl))⟩
end spec_l3Ints
namespace spec_CompareFacts
def sG : Sig := ⟨[.val ty3, .val ty3], [(i64, .dp)], false, false, none, none⟩
noncomputable def eS (N : Nat) : List (Entry Try.prog) := [spec_l3Ints.eE N]
def aN : Nat → Option (List Nat) := fun _ => none
theorem vV (N : Nat) (a : Int × List Int) (b : Int × List Int) :
  evE (eS N) N aN sG Try.f57 [.val ty3 a, .val ty3 b] (un1 i64) = spec_CompareFacts N a b := by kernel_rfl
noncomputable def eE (N : Nat) : Entry Try.prog := ⟨57, sG, [.v ty3, .v ty3], Int, spec_CompareFacts N, pk1 i64, entry_en Try.func57 (code := Try.f57.body.getD .skip) (by kernel_rfl) (by kernel_rfl),
 fun a b => entry_ok tab_ok (es := eS N) (by kernel_rfl) mixed Try.func57 (by kernel_rfl) ⟨⟨rfl, rfl⟩, rfl, rfl⟩ (un1_pk i64) (vV N a b)⟩
end spec_CompareFacts
namespace spec_IsValidDatabase
def sG : Sig := ⟨[.val ty8], [(.bool, .dp)], false, false, none, none⟩
noncomputable def eS (N : Nat) : List (Entry Try.prog) := [spec_IsValidFact.eE N, spec_CompareFacts.eE N, spec_AreValidRelations.eE N]
def aN : Nat → Option (List Nat)
 | 0 => some [1, 3]
 | _ => none
noncomputable def lP (N : Nat) (p : List Dir) (rs : List (Env → Option (Bool))) (k : Nat) (env : Env) : Option (Bool) :=
 lpE (eS N) N aN p Try.f33 (endK Tb sG Try.f33 [] (un1 .bool)) rs k env
noncomputable def El0 (N : Nat) (k_ : Nat) (d2 : List (ByteArray × Int × Int)) (d3 : List (Int × List Int)) (i : Int) : Option (Bool) :=
 lP N [.r, .l, .r, .b] [] k_ (un 1 (.con (.box ⟨33, false, []⟩) [lf ty6 d2 .ro, lf ty7 d3 .ro] :: (un 1 (.con .val [lf i64 i .ro] :: (un 44 [])))))
theorem ql0 (N : Nat) : ∀ k_, El0 N k_ = spec_IsValidDatabase_l0 N k_
 | 0 => by funext d2 d3 i; kernel_rfl
 | k_ + 1 => by funext d2 d3 i; rw [show El0 N (k_ + 1) d2 d3 i = spec_IsValidDatabase_l0_b N (El0 N k_) d2 d3 i from by kernel_rfl]; simp only [ql0 N k_]; rfl
theorem vV (N : Nat) (d : List (ByteArray × Int × Int) × List (Int × List Int)) :
  evE (eS N) N aN sG Try.f33 [.val ty8 d] (un1 .bool) = spec_IsValidDatabase_b N (El0 N N) d := by kernel_rfl
noncomputable def eE (N : Nat) : Entry Try.prog := ⟨33, sG, [.v ty8], Bool, spec_IsValidDatabase N, pk1 .bool, entry_en Try.func33 (code := Try.f33.body.getD .skip) (by kernel_rfl) (by kernel_rfl),
 fun d => entry_ok tab_ok (es := eS N) (by kernel_rfl) mixed Try.func33 (by kernel_rfl) ⟨⟨rfl, rfl⟩, rfl, rfl⟩ (un1_pk .bool) ((vV N d).trans (by rw [ql0]; rfl))⟩
end spec_IsValidDatabase
namespace spec_l27Ok
def sG : Sig := ⟨[.val ty8, .val i64, .val i64], [(.bool, .dp)], false, false, none, none⟩
noncomputable def eS (N : Nat) : List (Entry Try.prog) := [spec_IsValidDatabase.eE N, spec_l1In.eE N]
def aN : Nat → Option (List Nat) := fun _ => none
theorem vV (N : Nat) (d : List (ByteArray × Int × Int) × List (Int × List Int)) (r : Int) (col : Int) :
  evE (eS N) N aN sG Try.f15 [.val ty8 d, .val i64 r, .val i64 col] (un1 .bool) = spec_l27Ok N d r col := by kernel_rfl
noncomputable def eE (N : Nat) : Entry Try.prog := ⟨15, sG, [.v ty8, .v i64, .v i64], Bool, spec_l27Ok N, pk1 .bool, entry_en Try.func15 (code := Try.f15.body.getD .skip) (by kernel_rfl) (by kernel_rfl),
 fun d r col => entry_ok tab_ok (es := eS N) (by kernel_rfl) mixed Try.func15 (by kernel_rfl) ⟨⟨rfl, rfl⟩, rfl, rfl⟩ (un1_pk .bool) (vV N d r col)⟩
end spec_l27Ok
namespace spec_KeyOf
def sG : Sig := ⟨[.val ty6, .val ty3], [(ty0, .dp)], false, false, none, none⟩
noncomputable def eS (N : Nat) : List (Entry Try.prog) := [spec_IsValidFact.eE N]
def aN : Nat → Option (List Nat) := fun _ => none
theorem vV (N : Nat) (l : List (ByteArray × Int × Int)) (f : Int × List Int) :
  evE (eS N) N aN sG Try.f90 [.val ty6 l, .val ty3 f] (un1 ty0) = spec_KeyOf N l f := by kernel_rfl
noncomputable def eE (N : Nat) : Entry Try.prog := ⟨90, sG, [.v ty6, .v ty3], List Int, spec_KeyOf N, pk1 ty0, entry_en Try.func90 (code := Try.f90.body.getD .skip) (by kernel_rfl) (by kernel_rfl),
 fun l f => entry_ok tab_ok (es := eS N) (by kernel_rfl) mixed Try.func90 (by kernel_rfl) ⟨⟨rfl, rfl⟩, rfl, rfl⟩ (un1_pk ty0) (vV N l f)⟩
end spec_KeyOf
namespace spec_HaveSameKey
def sG : Sig := ⟨[.val ty6, .val ty3, .val ty3], [(.bool, .dp)], false, false, none, none⟩
noncomputable def eS (N : Nat) : List (Entry Try.prog) := [spec_IsValidFact.eE N, spec_KeyOf.eE N, spec_l3Ints.eE N]
def aN : Nat → Option (List Nat) := fun _ => none
theorem vV (N : Nat) (l : List (ByteArray × Int × Int)) (a : Int × List Int) (b : Int × List Int) :
  evE (eS N) N aN sG Try.f73 [.val ty6 l, .val ty3 a, .val ty3 b] (un1 .bool) = spec_HaveSameKey N l a b := by kernel_rfl
noncomputable def eE (N : Nat) : Entry Try.prog := ⟨73, sG, [.v ty6, .v ty3, .v ty3], Bool, spec_HaveSameKey N, pk1 .bool, entry_en Try.func73 (code := Try.f73.body.getD .skip) (by kernel_rfl) (by kernel_rfl),
 fun l a b => entry_ok tab_ok (es := eS N) (by kernel_rfl) mixed Try.func73 (by kernel_rfl) ⟨⟨rfl, rfl⟩, rfl, rfl⟩ (un1_pk .bool) (vV N l a b)⟩
end spec_HaveSameKey
namespace spec_BlockOf
def sG : Sig := ⟨[.val ty8, .val i64], [(ty0, .dp)], false, false, none, none⟩
noncomputable def eS (N : Nat) : List (Entry Try.prog) := [spec_IsValidDatabase.eE N, spec_l1In.eE N, spec_HaveSameKey.eE N]
def aN : Nat → Option (List Nat)
 | 0 => some [1, 2, 5, 6]
 | _ => none
noncomputable def lP (N : Nat) (p : List Dir) (rs : List (Env → Option (List Int))) (k : Nat) (env : Env) : Option (List Int) :=
 lpE (eS N) N aN p Try.f59 (endK Tb sG Try.f59 [] (un1 ty0)) rs k env
noncomputable def El0 (N : Nat) (k_ : Nat) (i2 : Int) (d2 : List (ByteArray × Int × Int)) (d3 : List (Int × List Int)) (out : List Int) (k : Int) : Option (List Int) :=
 lP N [.r, .r, .l, .r, .b] [] k_ (un 1 (.con .val [lf i64 i2 .ro] :: (.con (.box ⟨33, false, []⟩) [lf ty6 d2 .ro, lf ty7 d3 .ro] :: (un 2 (.con .val [lf ty0 out .dp] :: (.con .val [lf i64 k .ro] :: (un 38 [])))))))
theorem ql0 (N : Nat) : ∀ k_, El0 N k_ = spec_BlockOf_l0 N k_
 | 0 => by funext i2 d2 d3 out k; kernel_rfl
 | k_ + 1 => by funext i2 d2 d3 out k; rw [show El0 N (k_ + 1) i2 d2 d3 out k = spec_BlockOf_l0_b N (El0 N k_) i2 d2 d3 out k from by kernel_rfl]; simp only [ql0 N k_]; rfl
theorem vV (N : Nat) (d : List (ByteArray × Int × Int) × List (Int × List Int)) (i : Int) :
  evE (eS N) N aN sG Try.f59 [.val ty8 d, .val i64 i] (un1 ty0) = spec_BlockOf_b N (El0 N N) d i := by kernel_rfl
noncomputable def eE (N : Nat) : Entry Try.prog := ⟨59, sG, [.v ty8, .v i64], List Int, spec_BlockOf N, pk1 ty0, entry_en Try.func59 (code := Try.f59.body.getD .skip) (by kernel_rfl) (by kernel_rfl),
 fun d i => entry_ok tab_ok (es := eS N) (by kernel_rfl) mixed Try.func59 (by kernel_rfl) ⟨⟨rfl, rfl⟩, rfl, rfl⟩ (un1_pk ty0) ((vV N d i).trans (by rw [ql0]; rfl))⟩
end spec_BlockOf
namespace spec_Blocks
def sG : Sig := ⟨[.val ty8], [(ty9, .dp)], false, false, none, none⟩
noncomputable def eS (N : Nat) : List (Entry Try.prog) := [spec_IsValidDatabase.eE N, spec_BlockOf.eE N]
def aN : Nat → Option (List Nat)
 | 0 => some [1, 3, 4]
 | _ => none
noncomputable def lP (N : Nat) (p : List Dir) (rs : List (Env → Option (List (List Int)))) (k : Nat) (env : Env) : Option (List (List Int)) :=
 lpE (eS N) N aN p Try.f36 (endK Tb sG Try.f36 [] (un1 ty9)) rs k env
noncomputable def El0 (N : Nat) (k_ : Nat) (d2 : List (ByteArray × Int × Int)) (d3 : List (Int × List Int)) (out : List (List Int)) (i : Int) : Option (List (List Int)) :=
 lP N [.r, .r, .l, .r, .b] [] k_ (un 1 (.con (.box ⟨33, false, []⟩) [lf ty6 d2 .ro, lf ty7 d3 .ro] :: (un 1 (.con .val [lf ty9 out .dp] :: (.con .val [lf i64 i .ro] :: (un 26 []))))))
theorem ql0 (N : Nat) : ∀ k_, El0 N k_ = spec_Blocks_l0 N k_
 | 0 => by funext d2 d3 out i; kernel_rfl
 | k_ + 1 => by funext d2 d3 out i; rw [show El0 N (k_ + 1) d2 d3 out i = spec_Blocks_l0_b N (El0 N k_) d2 d3 out i from by kernel_rfl]; simp only [ql0 N k_]; rfl
theorem vV (N : Nat) (d : List (ByteArray × Int × Int) × List (Int × List Int)) :
  evE (eS N) N aN sG Try.f36 [.val ty8 d] (un1 ty9) = spec_Blocks_b N (El0 N N) d := by kernel_rfl
noncomputable def eE (N : Nat) : Entry Try.prog := ⟨36, sG, [.v ty8], List (List Int), spec_Blocks N, pk1 ty9, entry_en Try.func36 (code := Try.f36.body.getD .skip) (by kernel_rfl) (by kernel_rfl),
 fun d => entry_ok tab_ok (es := eS N) (by kernel_rfl) mixed Try.func36 (by kernel_rfl) ⟨⟨rfl, rfl⟩, rfl, rfl⟩ (un1_pk ty9) ((vV N d).trans (by rw [ql0]; rfl))⟩
end spec_Blocks
namespace spec_l27Vals
def sG : Sig := ⟨[.val ty8, .val i64, .val i64], [(ty9, .dp)], false, false, none, none⟩
noncomputable def eS (N : Nat) : List (Entry Try.prog) := [spec_Blocks.eE N]
def aN : Nat → Option (List Nat)
 | 0 => some [1, 2, 3, 7, 8, 9]
 | 2 => some [1, 2, 3, 7, 8, 9, 10, 11]
 | _ => none
noncomputable def lP (N : Nat) (p : List Dir) (rs : List (Env → Option (List (List Int)))) (k : Nat) (env : Env) : Option (List (List Int)) :=
 lpE (eS N) N aN p Try.f35 (endK Tb sG Try.f35 [] (un1 ty9)) rs k env
noncomputable def El1 (N : Nat) (k0_ : Nat) (k_ : Nat) (r4 : Int) (col3 : Int) (d4 : List (ByteArray × Int × Int)) (d5 : List (Int × List Int)) (out2 : List (List Int)) (b2 : List (List Int)) (i2 : Int) (l : List Int) (k : Int) : Option (List (List Int)) :=
 lP N [.r, .r, .r, .l, .r, .b, .b, .r, .l, .b, .r, .r, .l, .r, .b] [lP N [.r, .r, .r, .l, .r, .b] [] k0_] k_ (un 1 (.con .val [lf i64 r4 .ro] :: (.con .val [lf i64 col3 .ro] :: (.con (.box ⟨33, false, []⟩) [lf ty6 d4 .ro, lf ty7 d5 .ro] :: (un 3 (.con .val [lf ty9 out2 .dp] :: (.con .val [lf ty9 b2 .dp] :: (.con .val [lf i64 i2 .ro] :: (.con .val [lf ty0 l .dp] :: (.con .val [lf i64 k .ro] :: (un 55 [])))))))))))
noncomputable def El0 (N : Nat) (k_ : Nat) (r3 : Int) (col2 : Int) (d2 : List (ByteArray × Int × Int)) (d3 : List (Int × List Int)) (out : List (List Int)) (b : List (List Int)) (i : Int) : Option (List (List Int)) :=
 lP N [.r, .r, .r, .l, .r, .b] [] k_ (un 1 (.con .val [lf i64 r3 .ro] :: (.con .val [lf i64 col2 .ro] :: (.con (.box ⟨33, false, []⟩) [lf ty6 d2 .ro, lf ty7 d3 .ro] :: (un 3 (.con .val [lf ty9 out .dp] :: (.con .val [lf ty9 b .dp] :: (.con .val [lf i64 i .ro] :: (un 57 [])))))))))
theorem ql1 (N : Nat) (k0_ : Nat) : ∀ k_, El1 N k0_ k_ = spec_l27Vals_l1 (El0 N k0_) N k_
 | 0 => by funext r4 col3 d4 d5 out2 b2 i2 l k; kernel_rfl
 | k_ + 1 => by funext r4 col3 d4 d5 out2 b2 i2 l k; rw [show El1 N k0_ (k_ + 1) r4 col3 d4 d5 out2 b2 i2 l k = spec_l27Vals_l1_b N (El0 N k0_) (El1 N k0_ k_) r4 col3 d4 d5 out2 b2 i2 l k from by kernel_rfl]; simp only [ql1 N k0_ k_]; rfl
theorem ql0 (N : Nat) : ∀ k_, El0 N k_ = spec_l27Vals_l0 N k_
 | 0 => by funext r3 col2 d2 d3 out b i; kernel_rfl
 | k_ + 1 => by funext r3 col2 d2 d3 out b i; rw [show El0 N (k_ + 1) r3 col2 d2 d3 out b i = spec_l27Vals_l0_b N (El1 N k_ N) (El0 N k_) r3 col2 d2 d3 out b i from by kernel_rfl]; simp only [ql1, ql0 N k_]; rfl
theorem vV (N : Nat) (d : List (ByteArray × Int × Int) × List (Int × List Int)) (r : Int) (col : Int) :
  evE (eS N) N aN sG Try.f35 [.val ty8 d, .val i64 r, .val i64 col] (un1 ty9) = spec_l27Vals_b N (El0 N N) d r col := by kernel_rfl
noncomputable def eE (N : Nat) : Entry Try.prog := ⟨35, sG, [.v ty8, .v i64, .v i64], List (List Int), spec_l27Vals N, pk1 ty9, entry_en Try.func35 (code := Try.f35.body.getD .skip) (by kernel_rfl) (by kernel_rfl),
 fun d r col => entry_ok tab_ok (es := eS N) (by kernel_rfl) mixed Try.func35 (by kernel_rfl) ⟨⟨rfl, rfl⟩, rfl, rfl⟩ (un1_pk ty9) ((vV N d r col).trans (by rw [ql0]; rfl))⟩
end spec_l27Vals
namespace spec_CountRange
def sG : Sig := ⟨[.val ty8, .val i64, .val i64, .val i64], [(i64, .dp), (i64, .dp), (.bool, .dp)], false, false, none, none⟩
noncomputable def eS (N : Nat) : List (Entry Try.prog) := [spec_l27Ok.eE N, spec_l27Vals.eE N]
def aN : Nat → Option (List Nat)
 | 0 => some [3, 11, 12, 13, 14]
 | 2 => some [3, 11, 12, 13, 14, 15, 16]
 | _ => none
noncomputable def lP (N : Nat) (p : List Dir) (rs : List (Env → Option (Int × Int × Bool))) (k : Nat) (env : Env) : Option (Int × Int × Bool) :=
 lpE (eS N) N aN p Try.f16 (endK Tb sG Try.f16 [] (un3 i64 i64 .bool)) rs k env
noncomputable def El1 (N : Nat) (k0_ : Nat) (k_ : Nat) (v3 : Int) (lo2 : Int) (hi2 : Int) (l2 : List (List Int)) (i2 : Int) (n : Int) (k : Int) : Option (Int × Int × Bool) :=
 lP N [.r, .r, .r, .r, .r, .l, .r, .b, .b, .r, .l, .b, .r, .l, .r, .b] [lP N [.r, .r, .r, .r, .r, .l, .r, .b] [] k0_] k_ (un 3 (.con .val [lf i64 v3 .ro] :: (un 7 (.con .val [lf i64 lo2 .ro] :: (.con .val [lf i64 hi2 .ro] :: (.con .val [lf ty9 l2 .dp] :: (.con .val [lf i64 i2 .ro] :: (.con .val [lf i64 n .ro] :: (.con .val [lf i64 k .ro] :: (un 50 []))))))))))
noncomputable def El0 (N : Nat) (k_ : Nat) (v2 : Int) (lo : Int) (hi : Int) (l : List (List Int)) (i : Int) : Option (Int × Int × Bool) :=
 lP N [.r, .r, .r, .r, .r, .l, .r, .b] [] k_ (un 3 (.con .val [lf i64 v2 .ro] :: (un 7 (.con .val [lf i64 lo .ro] :: (.con .val [lf i64 hi .ro] :: (.con .val [lf ty9 l .dp] :: (.con .val [lf i64 i .ro] :: (un 52 []))))))))
theorem ql1 (N : Nat) (k0_ : Nat) : ∀ k_, El1 N k0_ k_ = spec_CountRange_l1 (El0 N k0_) N k_
 | 0 => by funext v3 lo2 hi2 l2 i2 n k; kernel_rfl
 | k_ + 1 => by funext v3 lo2 hi2 l2 i2 n k; rw [show El1 N k0_ (k_ + 1) v3 lo2 hi2 l2 i2 n k = spec_CountRange_l1_b N (El0 N k0_) (El1 N k0_ k_) v3 lo2 hi2 l2 i2 n k from by kernel_rfl]; simp only [ql1 N k0_ k_]; rfl
theorem ql0 (N : Nat) : ∀ k_, El0 N k_ = spec_CountRange_l0 N k_
 | 0 => by funext v2 lo hi l i; kernel_rfl
 | k_ + 1 => by funext v2 lo hi l i; rw [show El0 N (k_ + 1) v2 lo hi l i = spec_CountRange_l0_b N (El1 N k_ N) (El0 N k_) v2 lo hi l i from by kernel_rfl]; simp only [ql1, ql0 N k_]; rfl
theorem vV (N : Nat) (d : List (ByteArray × Int × Int) × List (Int × List Int)) (r : Int) (col : Int) (v : Int) :
  evE (eS N) N aN sG Try.f16 [.val ty8 d, .val i64 r, .val i64 col, .val i64 v] (un3 i64 i64 .bool) = spec_CountRange_b N (El0 N N) d r col v := by kernel_rfl
noncomputable def eE (N : Nat) : Entry Try.prog := ⟨16, sG, [.v ty8, .v i64, .v i64, .v i64], Int × Int × Bool, spec_CountRange N, pk3 i64 i64 .bool, entry_en Try.func16 (code := Try.f16.body.getD .skip) (by kernel_rfl) (by kernel_rfl),
 fun d r col v => entry_ok tab_ok (es := eS N) (by kernel_rfl) mixed Try.func16 (by kernel_rfl) ⟨⟨rfl, rfl⟩, rfl, rfl⟩ (un3_pk i64 i64 .bool) ((vV N d r col v).trans (by rw [ql0]; rfl))⟩
end spec_CountRange
namespace spec_l27Least
def sG : Sig := ⟨[.val ty0], [(i64, .dp)], false, false, none, none⟩
noncomputable def eS (N : Nat) : List (Entry Try.prog) := []
def aN : Nat → Option (List Nat)
 | 0 => some [0, 3, 4]
 | _ => none
noncomputable def lP (N : Nat) (p : List Dir) (rs : List (Env → Option (Int))) (k : Nat) (env : Env) : Option (Int) :=
 lpE (eS N) N aN p Try.f37 (endK Tb sG Try.f37 [] (un1 i64)) rs k env
noncomputable def El0 (N : Nat) (k_ : Nat) (l2 : List Int) (n : Int) (i : Int) : Option (Int) :=
 lP N [.r, .r, .l, .r, .b] [] k_ (.con .val [lf ty0 l2 .ro] :: (un 2 (.con .val [lf i64 n .ro] :: (.con .val [lf i64 i .ro] :: (un 16 [])))))
theorem ql0 (N : Nat) : ∀ k_, El0 N k_ = spec_l27Least_l0 N k_
 | 0 => by funext l2 n i; kernel_rfl
 | k_ + 1 => by funext l2 n i; rw [show El0 N (k_ + 1) l2 n i = spec_l27Least_l0_b N (El0 N k_) l2 n i from by kernel_rfl]; simp only [ql0 N k_]; rfl
theorem vV (N : Nat) (l : List Int) :
  evE (eS N) N aN sG Try.f37 [.val ty0 l] (un1 i64) = spec_l27Least_b N (El0 N N) l := by kernel_rfl
noncomputable def eE (N : Nat) : Entry Try.prog := ⟨37, sG, [.v ty0], Int, spec_l27Least N, pk1 i64, entry_en Try.func37 (code := Try.f37.body.getD .skip) (by kernel_rfl) (by kernel_rfl),
 fun l => entry_ok tab_ok (es := eS N) (by kernel_rfl) mixed Try.func37 (by kernel_rfl) ⟨⟨rfl, rfl⟩, rfl, rfl⟩ (un1_pk i64) ((vV N l).trans (by rw [ql0]; rfl))⟩
end spec_l27Least
namespace spec_l27Most
def sG : Sig := ⟨[.val ty0], [(i64, .dp)], false, false, none, none⟩
noncomputable def eS (N : Nat) : List (Entry Try.prog) := []
def aN : Nat → Option (List Nat)
 | 0 => some [0, 3, 4]
 | _ => none
noncomputable def lP (N : Nat) (p : List Dir) (rs : List (Env → Option (Int))) (k : Nat) (env : Env) : Option (Int) :=
 lpE (eS N) N aN p Try.f38 (endK Tb sG Try.f38 [] (un1 i64)) rs k env
noncomputable def El0 (N : Nat) (k_ : Nat) (l2 : List Int) (n : Int) (i : Int) : Option (Int) :=
 lP N [.r, .r, .l, .r, .b] [] k_ (.con .val [lf ty0 l2 .ro] :: (un 2 (.con .val [lf i64 n .ro] :: (.con .val [lf i64 i .ro] :: (un 16 [])))))
theorem ql0 (N : Nat) : ∀ k_, El0 N k_ = spec_l27Most_l0 N k_
 | 0 => by funext l2 n i; kernel_rfl
 | k_ + 1 => by funext l2 n i; rw [show El0 N (k_ + 1) l2 n i = spec_l27Most_l0_b N (El0 N k_) l2 n i from by kernel_rfl]; simp only [ql0 N k_]; rfl
theorem vV (N : Nat) (l : List Int) :
  evE (eS N) N aN sG Try.f38 [.val ty0 l] (un1 i64) = spec_l27Most_b N (El0 N N) l := by kernel_rfl
noncomputable def eE (N : Nat) : Entry Try.prog := ⟨38, sG, [.v ty0], Int, spec_l27Most N, pk1 i64, entry_en Try.func38 (code := Try.f38.body.getD .skip) (by kernel_rfl) (by kernel_rfl),
 fun l => entry_ok tab_ok (es := eS N) (by kernel_rfl) mixed Try.func38 (by kernel_rfl) ⟨⟨rfl, rfl⟩, rfl, rfl⟩ (un1_pk i64) ((vV N l).trans (by rw [ql0]; rfl))⟩
end spec_l27Most
namespace spec_GroupSumRange
def sG : Sig := ⟨[.val ty8, .val i64, .val i64, .val i64, .val i64], [(i64, .dp), (i64, .dp), (.bool, .dp)], false, false, none, none⟩
noncomputable def eS (N : Nat) : List (Entry Try.prog) := [spec_l27Least.eE N, spec_l27Most.eE N, spec_l27Ok.eE N, spec_Blocks.eE N]
def aN : Nat → Option (List Nat)
 | 0 => some [1, 2, 3, 4, 5, 13, 14, 15, 16]
 | 2 => some [1, 2, 3, 4, 5, 13, 14, 15, 16, 17, 18]
 | _ => none
noncomputable def lP (N : Nat) (p : List Dir) (rs : List (Env → Option (Int × Int × Bool))) (k : Nat) (env : Env) : Option (Int × Int × Bool) :=
 lpE (eS N) N aN p Try.f17 (endK Tb sG Try.f17 [] (un3 i64 i64 .bool)) rs k env
noncomputable def El1 (N : Nat) (k0_ : Nat) (k_ : Nat) (r6 : Int) (by_3 : Int) (col3 : Int) (v3 : Int) (d4 : List (ByteArray × Int × Int)) (d5 : List (Int × List Int)) (lo2 : Int) (hi2 : Int) (b2 : List (List Int)) (i2 : Int) (l : List Int) (k : Int) : Option (Int × Int × Bool) :=
 lP N [.r, .r, .r, .r, .r, .l, .r, .b, .b, .r, .l, .b, .r, .r, .l, .r, .b] [lP N [.r, .r, .r, .r, .r, .l, .r, .b] [] k0_] k_ (un 1 (.con .val [lf i64 r6 .ro] :: (.con .val [lf i64 by_3 .ro] :: (.con .val [lf i64 col3 .ro] :: (.con .val [lf i64 v3 .ro] :: (.con (.box ⟨33, false, []⟩) [lf ty6 d4 .ro, lf ty7 d5 .ro] :: (un 7 (.con .val [lf i64 lo2 .ro] :: (.con .val [lf i64 hi2 .ro] :: (.con .val [lf ty9 b2 .dp] :: (.con .val [lf i64 i2 .ro] :: (.con .val [lf ty0 l .dp] :: (.con .val [lf i64 k .ro] :: (un 90 []))))))))))))))
noncomputable def El0 (N : Nat) (k_ : Nat) (r5 : Int) (by_2 : Int) (col2 : Int) (v2 : Int) (d2 : List (ByteArray × Int × Int)) (d3 : List (Int × List Int)) (lo : Int) (hi : Int) (b : List (List Int)) (i : Int) : Option (Int × Int × Bool) :=
 lP N [.r, .r, .r, .r, .r, .l, .r, .b] [] k_ (un 1 (.con .val [lf i64 r5 .ro] :: (.con .val [lf i64 by_2 .ro] :: (.con .val [lf i64 col2 .ro] :: (.con .val [lf i64 v2 .ro] :: (.con (.box ⟨33, false, []⟩) [lf ty6 d2 .ro, lf ty7 d3 .ro] :: (un 7 (.con .val [lf i64 lo .ro] :: (.con .val [lf i64 hi .ro] :: (.con .val [lf ty9 b .dp] :: (.con .val [lf i64 i .ro] :: (un 92 []))))))))))))
theorem ql1 (N : Nat) (k0_ : Nat) : ∀ k_, El1 N k0_ k_ = spec_GroupSumRange_l1 (El0 N k0_) N k_
 | 0 => by funext r6 by_3 col3 v3 d4 d5 lo2 hi2 b2 i2 l k; kernel_rfl
 | k_ + 1 => by funext r6 by_3 col3 v3 d4 d5 lo2 hi2 b2 i2 l k; rw [show El1 N k0_ (k_ + 1) r6 by_3 col3 v3 d4 d5 lo2 hi2 b2 i2 l k = spec_GroupSumRange_l1_b N (El0 N k0_) (El1 N k0_ k_) r6 by_3 col3 v3 d4 d5 lo2 hi2 b2 i2 l k from by kernel_rfl]; simp only [ql1 N k0_ k_]; rfl
theorem ql0 (N : Nat) : ∀ k_, El0 N k_ = spec_GroupSumRange_l0 N k_
 | 0 => by funext r5 by_2 col2 v2 d2 d3 lo hi b i; kernel_rfl
 | k_ + 1 => by funext r5 by_2 col2 v2 d2 d3 lo hi b i; rw [show El0 N (k_ + 1) r5 by_2 col2 v2 d2 d3 lo hi b i = spec_GroupSumRange_l0_b N (El1 N k_ N) (El0 N k_) r5 by_2 col2 v2 d2 d3 lo hi b i from by kernel_rfl]; simp only [ql1, ql0 N k_]; rfl
theorem vV (N : Nat) (d : List (ByteArray × Int × Int) × List (Int × List Int)) (r : Int) (by_ : Int) (col : Int) (v : Int) :
  evE (eS N) N aN sG Try.f17 [.val ty8 d, .val i64 r, .val i64 by_, .val i64 col, .val i64 v] (un3 i64 i64 .bool) = spec_GroupSumRange_b N (El0 N N) d r by_ col v := by kernel_rfl
noncomputable def eE (N : Nat) : Entry Try.prog := ⟨17, sG, [.v ty8, .v i64, .v i64, .v i64, .v i64], Int × Int × Bool, spec_GroupSumRange N, pk3 i64 i64 .bool, entry_en Try.func17 (code := Try.f17.body.getD .skip) (by kernel_rfl) (by kernel_rfl),
 fun d r by_ col v => entry_ok tab_ok (es := eS N) (by kernel_rfl) mixed Try.func17 (by kernel_rfl) ⟨⟨rfl, rfl⟩, rfl, rfl⟩ (un3_pk i64 i64 .bool) ((vV N d r by_ col v).trans (by rw [ql0]; rfl))⟩
end spec_GroupSumRange
namespace spec_GroupInAllRepairs
def sG : Sig := ⟨[.val ty8, .val i64, .val i64, .val i64], [(.bool, .dp)], false, false, none, none⟩
noncomputable def eS (N : Nat) : List (Entry Try.prog) := [spec_CountRange.eE N]
def aN : Nat → Option (List Nat) := fun _ => none
theorem vV (N : Nat) (d : List (ByteArray × Int × Int) × List (Int × List Int)) (r : Int) (by_ : Int) (v : Int) :
  evE (eS N) N aN sG Try.f18 [.val ty8 d, .val i64 r, .val i64 by_, .val i64 v] (un1 .bool) = spec_GroupInAllRepairs N d r by_ v := by kernel_rfl
noncomputable def eE (N : Nat) : Entry Try.prog := ⟨18, sG, [.v ty8, .v i64, .v i64, .v i64], Bool, spec_GroupInAllRepairs N, pk1 .bool, entry_en Try.func18 (code := Try.f18.body.getD .skip) (by kernel_rfl) (by kernel_rfl),
 fun d r by_ v => entry_ok tab_ok (es := eS N) (by kernel_rfl) mixed Try.func18 (by kernel_rfl) ⟨⟨rfl, rfl⟩, rfl, rfl⟩ (un1_pk .bool) (vV N d r by_ v)⟩
end spec_GroupInAllRepairs
namespace spec_GroupRanges
def sG : Sig := ⟨[.val ty8, .val i64, .val i64, .val i64], [(ty10, .dp), (.bool, .dp)], false, false, none, none⟩
noncomputable def eS (N : Nat) : List (Entry Try.prog) := [spec_CountRange.eE N, spec_GroupSumRange.eE N, spec_GroupInAllRepairs.eE N, spec_l27Ok.eE N]
def aN : Nat → Option (List Nat)
 | 0 => some [1, 2, 3, 4, 10, 11]
 | _ => none
noncomputable def lP (N : Nat) (p : List Dir) (rs : List (Env → Option ((List (Int × Int × Int × Bool)) × Bool))) (k : Nat) (env : Env) : Option ((List (Int × Int × Int × Bool)) × Bool) :=
 lpE (eS N) N aN p Try.f5 (endK Tb sG Try.f5 [] (un2 ty10 .bool)) rs k env
noncomputable def El0 (N : Nat) (k_ : Nat) (r4 : Int) (by_2 : Int) (col2 : Int) (d2 : List (ByteArray × Int × Int)) (d3 : List (Int × List Int)) (out : List (Int × Int × Int × Bool)) (v : Int) : Option ((List (Int × Int × Int × Bool)) × Bool) :=
 lP N [.r, .r, .r, .l, .r, .b] [] k_ (un 1 (.con .val [lf i64 r4 .ro] :: (.con .val [lf i64 by_2 .ro] :: (.con .val [lf i64 col2 .ro] :: (.con (.box ⟨33, false, []⟩) [lf ty6 d2 .ro, lf ty7 d3 .ro] :: (un 5 (.con .val [lf ty10 out .dp] :: (.con .val [lf i64 v .ro] :: (un 58 [])))))))))
theorem ql0 (N : Nat) : ∀ k_, El0 N k_ = spec_GroupRanges_l0 N k_
 | 0 => by funext r4 by_2 col2 d2 d3 out v; kernel_rfl
 | k_ + 1 => by funext r4 by_2 col2 d2 d3 out v; rw [show El0 N (k_ + 1) r4 by_2 col2 d2 d3 out v = spec_GroupRanges_l0_b N (El0 N k_) r4 by_2 col2 d2 d3 out v from by kernel_rfl]; simp only [ql0 N k_]; rfl
theorem vV (N : Nat) (d : List (ByteArray × Int × Int) × List (Int × List Int)) (r : Int) (by_ : Int) (col : Int) :
  evE (eS N) N aN sG Try.f5 [.val ty8 d, .val i64 r, .val i64 by_, .val i64 col] (un2 ty10 .bool) = spec_GroupRanges_b N (El0 N N) d r by_ col := by kernel_rfl
noncomputable def eE (N : Nat) : Entry Try.prog := ⟨5, sG, [.v ty8, .v i64, .v i64, .v i64], (List (Int × Int × Int × Bool)) × Bool, spec_GroupRanges N, pk2 ty10 .bool, entry_en Try.func5 (code := Try.f5.body.getD .skip) (by kernel_rfl) (by kernel_rfl),
 fun d r by_ col => entry_ok tab_ok (es := eS N) (by kernel_rfl) mixed Try.func5 (by kernel_rfl) ⟨⟨rfl, rfl⟩, rfl, rfl⟩ (un2_pk ty10 .bool) ((vV N d r by_ col).trans (by rw [ql0]; rfl))⟩
end spec_GroupRanges
namespace impl_within
def sG : Sig := ⟨[.val i64, .val i64, .val i64], [(.bool, .dp)], false, false, none, none⟩
noncomputable def eS (N : Nat) : List (Entry Try.prog) := []
def aN : Nat → Option (List Nat) := fun _ => none
theorem vV (N : Nat) (n : Int) (low : Int) (high : Int) :
  evE (eS N) N aN sG Try.f42 [.val i64 n, .val i64 low, .val i64 high] (un1 .bool) = impl_within N n low high := by kernel_rfl
noncomputable def eE (N : Nat) : Entry Try.prog := ⟨42, sG, [.v i64, .v i64, .v i64], Bool, impl_within N, pk1 .bool, entry_en Try.func42 (code := Try.f42.body.getD .skip) (by kernel_rfl) (by kernel_rfl),
 fun n low high => entry_ok tab_ok (es := eS N) (by kernel_rfl) mixed Try.func42 (by kernel_rfl) ⟨⟨rfl, rfl⟩, rfl, rfl⟩ (un1_pk .bool) (vV N n low high)⟩
end impl_within
namespace impl_IsValidRelation
def sG : Sig := ⟨[.val ty1], [(.bool, .dp)], false, false, none, none⟩
noncomputable def eS (N : Nat) : List (Entry Try.prog) := [impl_within.eE N]
def aN : Nat → Option (List Nat) := fun _ => none
theorem vV (N : Nat) (relation : ByteArray × Int × Int) :
  evE (eS N) N aN sG Try.f74 [.val ty1 relation] (un1 .bool) = impl_IsValidRelation N relation := by kernel_rfl
noncomputable def eE (N : Nat) : Entry Try.prog := ⟨74, sG, [.v ty1], Bool, impl_IsValidRelation N, pk1 .bool, entry_en Try.func74 (code := Try.f74.body.getD .skip) (by kernel_rfl) (by kernel_rfl),
 fun relation => entry_ok tab_ok (es := eS N) (by kernel_rfl) mixed Try.func74 (by kernel_rfl) ⟨⟨rfl, rfl⟩, rfl, rfl⟩ (un1_pk .bool) (vV N relation)⟩
end impl_IsValidRelation
namespace impl_AreValidRelations
def sG : Sig := ⟨[.val ty6], [(.bool, .dp)], false, false, none, none⟩
noncomputable def eS (N : Nat) : List (Entry Try.prog) := [impl_IsValidRelation.eE N]
def aN : Nat → Option (List Nat)
 | 0 => some [0, 5, 6, 7]
 | _ => none
noncomputable def lP (N : Nat) (p : List Dir) (rs : List (Env → Option (Bool))) (k : Nat) (env : Env) : Option (Bool) :=
 lpE (eS N) N aN p Try.f61 (endK Tb sG Try.f61 [] (un1 .bool)) rs k env
noncomputable def El0 (N : Nat) (k_ : Nat) (relations2 : List (ByteArray × Int × Int)) (t5 : List (ByteArray × Int × Int)) (t6 : Int) (t7 : Int) : Option (Bool) :=
 lP N [.r, .l, .r, .b] [] k_ (.con .val [lf ty6 relations2 .ro] :: (un 4 (.con .val [lf ty6 t5 .ro] :: (.con .val [lf i64 t6 .ro] :: (.con .val [lf i64 t7 .ro] :: (un 26 []))))))
theorem ql0 (N : Nat) : ∀ k_, El0 N k_ = impl_AreValidRelations_l0 N k_
 | 0 => by funext relations2 t5 t6 t7; kernel_rfl
 | k_ + 1 => by funext relations2 t5 t6 t7; rw [show El0 N (k_ + 1) relations2 t5 t6 t7 = impl_AreValidRelations_l0_b N (El0 N k_) relations2 t5 t6 t7 from by kernel_rfl]; simp only [ql0 N k_]; rfl
theorem vV (N : Nat) (relations : List (ByteArray × Int × Int)) :
  evE (eS N) N aN sG Try.f61 [.val ty6 relations] (un1 .bool) = impl_AreValidRelations_b N (El0 N N) relations := by kernel_rfl
noncomputable def eE (N : Nat) : Entry Try.prog := ⟨61, sG, [.v ty6], Bool, impl_AreValidRelations N, pk1 .bool, entry_en Try.func61 (code := Try.f61.body.getD .skip) (by kernel_rfl) (by kernel_rfl),
 fun relations => entry_ok tab_ok (es := eS N) (by kernel_rfl) mixed Try.func61 (by kernel_rfl) ⟨⟨rfl, rfl⟩, rfl, rfl⟩ (un1_pk .bool) ((vV N relations).trans (by rw [ql0]; rfl))⟩
end impl_AreValidRelations
namespace impl_areValues_c1
def sG : Sig := ⟨[.val i64], [(.bool, .dp)], false, false, none, none⟩
noncomputable def eS (N : Nat) : List (Entry Try.prog) := [impl_within.eE N]
def aN : Nat → Option (List Nat) := fun _ => none
theorem vV (N : Nat) (v : Int) :
  evE (eS N) N aN sG Try.f92 [.val i64 v] (un1 .bool) = impl_areValues_c1 N v := by kernel_rfl
noncomputable def eE (N : Nat) : Entry Try.prog := ⟨92, sG, [.v i64], Bool, impl_areValues_c1 N, pk1 .bool, entry_en Try.func92 (code := Try.f92.body.getD .skip) (by kernel_rfl) (by kernel_rfl),
 fun v => entry_ok tab_ok (es := eS N) (by kernel_rfl) mixed Try.func92 (by kernel_rfl) ⟨⟨rfl, rfl⟩, rfl, rfl⟩ (un1_pk .bool) (vV N v)⟩
end impl_areValues_c1
namespace slices_IndexFunc_Lint_int_areValues_c1
def sG : Sig := ⟨[.val ty0, .clo], [(i64, .dp)], false, false, none, none⟩
noncomputable def eS (N : Nat) : List (Entry Try.prog) := [impl_areValues_c1.eE N]
def aN : Nat → Option (List Nat)
 | 0 => some [0, 1, 7, 8]
 | _ => none
noncomputable def lP (N : Nat) (p : List Dir) (rs : List (Env → Option (Int))) (k : Nat) (env : Env) : Option (Int) :=
 lpE (eS N) N aN p Try.f101 (endK Tb sG Try.f101 [] (un1 i64)) rs k env
noncomputable def El0 (N : Nat) (k_ : Nat) (s2 : List Int) (t7 : Int) (t8 : Int) : Option (Int) :=
 lP N [.r, .l, .r, .b] [] k_ (.con .val [lf ty0 s2 .ro] :: (.cloR 92 [] :: (un 5 (.con .val [lf i64 t7 .ro] :: (.con .val [lf i64 t8 .ro] :: (un 10 []))))))
theorem ql0 (N : Nat) : ∀ k_, El0 N k_ = slices_IndexFunc_Lint_int_areValues_c1_l0 N k_
 | 0 => by funext s2 t7 t8; kernel_rfl
 | k_ + 1 => by funext s2 t7 t8; rw [show El0 N (k_ + 1) s2 t7 t8 = slices_IndexFunc_Lint_int_areValues_c1_l0_b N (El0 N k_) s2 t7 t8 from by kernel_rfl]; simp only [ql0 N k_]; rfl
theorem vV (N : Nat) (s : List Int) :
  evE (eS N) N aN sG Try.f101 [.val ty0 s, .clo 92 []] (un1 i64) = slices_IndexFunc_Lint_int_areValues_c1_b N (El0 N N) s := by kernel_rfl
noncomputable def eE (N : Nat) : Entry Try.prog := ⟨101, sG, [.v ty0, .c 92 []], Int, slices_IndexFunc_Lint_int_areValues_c1 N, pk1 i64, entry_en Try.func101 (code := Try.f101.body.getD .skip) (by kernel_rfl) (by kernel_rfl),
 fun s => entry_ok tab_ok (es := eS N) (by kernel_rfl) mixed Try.func101 (by kernel_rfl) ⟨⟨rfl, rfl⟩, rfl, rfl⟩ (un1_pk i64) ((vV N s).trans (by rw [ql0]; rfl))⟩
end slices_IndexFunc_Lint_int_areValues_c1
namespace slices_ContainsFunc_Lint_int_areValues_c1
def sG : Sig := ⟨[.val ty0, .clo], [(.bool, .dp)], false, false, none, none⟩
noncomputable def eS (N : Nat) : List (Entry Try.prog) := [slices_IndexFunc_Lint_int_areValues_c1.eE N]
def aN : Nat → Option (List Nat) := fun _ => none
theorem vV (N : Nat) (s : List Int) :
  evE (eS N) N aN sG Try.f91 [.val ty0 s, .clo 92 []] (un1 .bool) = slices_ContainsFunc_Lint_int_areValues_c1 N s := by kernel_rfl
noncomputable def eE (N : Nat) : Entry Try.prog := ⟨91, sG, [.v ty0, .c 92 []], Bool, slices_ContainsFunc_Lint_int_areValues_c1 N, pk1 .bool, entry_en Try.func91 (code := Try.f91.body.getD .skip) (by kernel_rfl) (by kernel_rfl),
 fun s => entry_ok tab_ok (es := eS N) (by kernel_rfl) mixed Try.func91 (by kernel_rfl) ⟨⟨rfl, rfl⟩, rfl, rfl⟩ (un1_pk .bool) (vV N s)⟩
end slices_ContainsFunc_Lint_int_areValues_c1
namespace impl_areValues
def sG : Sig := ⟨[.val ty0], [(.bool, .dp)], false, false, none, none⟩
noncomputable def eS (N : Nat) : List (Entry Try.prog) := [slices_ContainsFunc_Lint_int_areValues_c1.eE N]
def aN : Nat → Option (List Nat) := fun _ => none
theorem vV (N : Nat) (list : List Int) :
  evE (eS N) N aN sG Try.f75 [.val ty0 list] (un1 .bool) = impl_areValues N list := by kernel_rfl
noncomputable def eE (N : Nat) : Entry Try.prog := ⟨75, sG, [.v ty0], Bool, impl_areValues N, pk1 .bool, entry_en Try.func75 (code := Try.f75.body.getD .skip) (by kernel_rfl) (by kernel_rfl),
 fun list => entry_ok tab_ok (es := eS N) (by kernel_rfl) mixed Try.func75 (by kernel_rfl) ⟨⟨rfl, rfl⟩, rfl, rfl⟩ (un1_pk .bool) (vV N list)⟩
end impl_areValues
namespace impl_isFact
def sG : Sig := ⟨[.val ty6, .val ty3], [(.bool, .dp)], false, false, none, none⟩
noncomputable def eS (N : Nat) : List (Entry Try.prog) := [impl_within.eE N, impl_areValues.eE N]
def aN : Nat → Option (List Nat) := fun _ => none
theorem vV (N : Nat) (relations : List (ByteArray × Int × Int)) (fact : Int × List Int) :
  evE (eS N) N aN sG Try.f62 [.val ty6 relations, .val ty3 fact] (un1 .bool) = impl_isFact N relations fact := by kernel_rfl
noncomputable def eE (N : Nat) : Entry Try.prog := ⟨62, sG, [.v ty6, .v ty3], Bool, impl_isFact N, pk1 .bool, entry_en Try.func62 (code := Try.f62.body.getD .skip) (by kernel_rfl) (by kernel_rfl),
 fun relations fact => entry_ok tab_ok (es := eS N) (by kernel_rfl) mixed Try.func62 (by kernel_rfl) ⟨⟨rfl, rfl⟩, rfl, rfl⟩ (un1_pk .bool) (vV N relations fact)⟩
end impl_isFact
namespace impl_compare
def sG : Sig := ⟨[.val i64, .val i64], [(i64, .dp)], false, false, none, none⟩
noncomputable def eS (N : Nat) : List (Entry Try.prog) := []
def aN : Nat → Option (List Nat) := fun _ => none
theorem vV (N : Nat) (a : Int) (b : Int) :
  evE (eS N) N aN sG Try.f76 [.val i64 a, .val i64 b] (un1 i64) = impl_compare N a b := by kernel_rfl
noncomputable def eE (N : Nat) : Entry Try.prog := ⟨76, sG, [.v i64, .v i64], Int, impl_compare N, pk1 i64, entry_en Try.func76 (code := Try.f76.body.getD .skip) (by kernel_rfl) (by kernel_rfl),
 fun a b => entry_ok tab_ok (es := eS N) (by kernel_rfl) mixed Try.func76 (by kernel_rfl) ⟨⟨rfl, rfl⟩, rfl, rfl⟩ (un1_pk i64) (vV N a b)⟩
end impl_compare
namespace cmp_isNaN_int
def sG : Sig := ⟨[.val i64], [(.bool, .dp)], false, false, none, none⟩
noncomputable def eS (N : Nat) : List (Entry Try.prog) := []
def aN : Nat → Option (List Nat) := fun _ => none
theorem vV (N : Nat) (x : Int) :
  evE (eS N) N aN sG Try.f99 [.val i64 x] (un1 .bool) = cmp_isNaN_int N x := by kernel_rfl
noncomputable def eE (N : Nat) : Entry Try.prog := ⟨99, sG, [.v i64], Bool, cmp_isNaN_int N, pk1 .bool, entry_en Try.func99 (code := Try.f99.body.getD .skip) (by kernel_rfl) (by kernel_rfl),
 fun x => entry_ok tab_ok (es := eS N) (by kernel_rfl) mixed Try.func99 (by kernel_rfl) ⟨⟨rfl, rfl⟩, rfl, rfl⟩ (un1_pk .bool) (vV N x)⟩
end cmp_isNaN_int
namespace cmp_Compare_int
def sG : Sig := ⟨[.val i64, .val i64], [(i64, .dp)], false, false, none, none⟩
noncomputable def eS (N : Nat) : List (Entry Try.prog) := [cmp_isNaN_int.eE N]
def aN : Nat → Option (List Nat) := fun _ => none
theorem vV (N : Nat) (x : Int) (y : Int) :
  evE (eS N) N aN sG Try.f93 [.val i64 x, .val i64 y] (un1 i64) = cmp_Compare_int N x y := by kernel_rfl
noncomputable def eE (N : Nat) : Entry Try.prog := ⟨93, sG, [.v i64, .v i64], Int, cmp_Compare_int N, pk1 i64, entry_en Try.func93 (code := Try.f93.body.getD .skip) (by kernel_rfl) (by kernel_rfl),
 fun x y => entry_ok tab_ok (es := eS N) (by kernel_rfl) mixed Try.func93 (by kernel_rfl) ⟨⟨rfl, rfl⟩, rfl, rfl⟩ (un1_pk i64) (vV N x y)⟩
end cmp_Compare_int
namespace slices_Compare_Lint_int
def sG : Sig := ⟨[.val ty0, .val ty0], [(i64, .dp)], false, false, none, none⟩
noncomputable def eS (N : Nat) : List (Entry Try.prog) := [cmp_Compare_int.eE N]
def aN : Nat → Option (List Nat)
 | 0 => some [0, 1, 9, 10, 11]
 | _ => none
noncomputable def lP (N : Nat) (p : List Dir) (rs : List (Env → Option (Int))) (k : Nat) (env : Env) : Option (Int) :=
 lpE (eS N) N aN p Try.f77 (endK Tb sG Try.f77 [] (un1 i64)) rs k env
noncomputable def El0 (N : Nat) (k_ : Nat) (s12 : List Int) (s22 : List Int) (t9 : List Int) (t10 : Int) (t11 : Int) : Option (Int) :=
 lP N [.r, .l, .r, .b] [] k_ (.con .val [lf ty0 s12 .ro] :: (.con .val [lf ty0 s22 .ro] :: (un 7 (.con .val [lf ty0 t9 .ro] :: (.con .val [lf i64 t10 .ro] :: (.con .val [lf i64 t11 .ro] :: (un 24 [])))))))
theorem ql0 (N : Nat) : ∀ k_, El0 N k_ = slices_Compare_Lint_int_l0 N k_
 | 0 => by funext s12 s22 t9 t10 t11; kernel_rfl
 | k_ + 1 => by funext s12 s22 t9 t10 t11; rw [show El0 N (k_ + 1) s12 s22 t9 t10 t11 = slices_Compare_Lint_int_l0_b N (El0 N k_) s12 s22 t9 t10 t11 from by kernel_rfl]; simp only [ql0 N k_]; rfl
theorem vV (N : Nat) (s1 : List Int) (s2 : List Int) :
  evE (eS N) N aN sG Try.f77 [.val ty0 s1, .val ty0 s2] (un1 i64) = slices_Compare_Lint_int_b N (El0 N N) s1 s2 := by kernel_rfl
noncomputable def eE (N : Nat) : Entry Try.prog := ⟨77, sG, [.v ty0, .v ty0], Int, slices_Compare_Lint_int N, pk1 i64, entry_en Try.func77 (code := Try.f77.body.getD .skip) (by kernel_rfl) (by kernel_rfl),
 fun s1 s2 => entry_ok tab_ok (es := eS N) (by kernel_rfl) mixed Try.func77 (by kernel_rfl) ⟨⟨rfl, rfl⟩, rfl, rfl⟩ (un1_pk i64) ((vV N s1 s2).trans (by rw [ql0]; rfl))⟩
end slices_Compare_Lint_int
namespace impl_CompareFacts
def sG : Sig := ⟨[.val ty3, .val ty3], [(i64, .dp)], false, false, none, none⟩
noncomputable def eS (N : Nat) : List (Entry Try.prog) := [impl_compare.eE N, slices_Compare_Lint_int.eE N]
def aN : Nat → Option (List Nat) := fun _ => none
theorem vV (N : Nat) (a : Int × List Int) (b : Int × List Int) :
  evE (eS N) N aN sG Try.f63 [.val ty3 a, .val ty3 b] (un1 i64) = impl_CompareFacts N a b := by kernel_rfl
noncomputable def eE (N : Nat) : Entry Try.prog := ⟨63, sG, [.v ty3, .v ty3], Int, impl_CompareFacts N, pk1 i64, entry_en Try.func63 (code := Try.f63.body.getD .skip) (by kernel_rfl) (by kernel_rfl),
 fun a b => entry_ok tab_ok (es := eS N) (by kernel_rfl) mixed Try.func63 (by kernel_rfl) ⟨⟨rfl, rfl⟩, rfl, rfl⟩ (un1_pk i64) (vV N a b)⟩
end impl_CompareFacts
namespace impl_IsValidDatabase
def sG : Sig := ⟨[.val ty8], [(.bool, .dp)], false, false, none, none⟩
noncomputable def eS (N : Nat) : List (Entry Try.prog) := [impl_isFact.eE N, impl_CompareFacts.eE N, impl_AreValidRelations.eE N]
def aN : Nat → Option (List Nat)
 | 0 => some [1, 16, 17, 18]
 | _ => none
noncomputable def lP (N : Nat) (p : List Dir) (rs : List (Env → Option (Bool))) (k : Nat) (env : Env) : Option (Bool) :=
 lpE (eS N) N aN p Try.f41 (endK Tb sG Try.f41 [] (un1 .bool)) rs k env
noncomputable def El0 (N : Nat) (k_ : Nat) (db2 : List (ByteArray × Int × Int)) (db3 : List (Int × List Int)) (t16 : List (Int × List Int)) (t17 : Int) (t18 : Int) : Option (Bool) :=
 lP N [.r, .r, .l, .r, .b] [] k_ (un 1 (.con (.box ⟨33, false, []⟩) [lf ty6 db2 .ro, lf ty7 db3 .ro] :: (un 14 (.con .val [lf ty7 t16 .ro] :: (.con .val [lf i64 t17 .ro] :: (.con .val [lf i64 t18 .ro] :: (un 25 [])))))))
theorem ql0 (N : Nat) : ∀ k_, El0 N k_ = impl_IsValidDatabase_l0 N k_
 | 0 => by funext db2 db3 t16 t17 t18; kernel_rfl
 | k_ + 1 => by funext db2 db3 t16 t17 t18; rw [show El0 N (k_ + 1) db2 db3 t16 t17 t18 = impl_IsValidDatabase_l0_b N (El0 N k_) db2 db3 t16 t17 t18 from by kernel_rfl]; simp only [ql0 N k_]; rfl
theorem vV (N : Nat) (db : List (ByteArray × Int × Int) × List (Int × List Int)) :
  evE (eS N) N aN sG Try.f41 [.val ty8 db] (un1 .bool) = impl_IsValidDatabase_b N (El0 N N) db := by kernel_rfl
noncomputable def eE (N : Nat) : Entry Try.prog := ⟨41, sG, [.v ty8], Bool, impl_IsValidDatabase N, pk1 .bool, entry_en Try.func41 (code := Try.f41.body.getD .skip) (by kernel_rfl) (by kernel_rfl),
 fun db => entry_ok tab_ok (es := eS N) (by kernel_rfl) mixed Try.func41 (by kernel_rfl) ⟨⟨rfl, rfl⟩, rfl, rfl⟩ (un1_pk .bool) ((vV N db).trans (by rw [ql0]; rfl))⟩
end impl_IsValidDatabase
namespace impl_isColumn
def sG : Sig := ⟨[.val ty8, .val i64, .val i64], [(.bool, .dp)], false, false, none, none⟩
noncomputable def eS (N : Nat) : List (Entry Try.prog) := [impl_IsValidDatabase.eE N, impl_within.eE N]
def aN : Nat → Option (List Nat) := fun _ => none
theorem vV (N : Nat) (db : List (ByteArray × Int × Int) × List (Int × List Int)) (relation : Int) (column : Int) :
  evE (eS N) N aN sG Try.f21 [.val ty8 db, .val i64 relation, .val i64 column] (un1 .bool) = impl_isColumn N db relation column := by kernel_rfl
noncomputable def eE (N : Nat) : Entry Try.prog := ⟨21, sG, [.v ty8, .v i64, .v i64], Bool, impl_isColumn N, pk1 .bool, entry_en Try.func21 (code := Try.f21.body.getD .skip) (by kernel_rfl) (by kernel_rfl),
 fun db relation column => entry_ok tab_ok (es := eS N) (by kernel_rfl) mixed Try.func21 (by kernel_rfl) ⟨⟨rfl, rfl⟩, rfl, rfl⟩ (un1_pk .bool) (vV N db relation column)⟩
end impl_isColumn
namespace impl_columnOf
def sG : Sig := ⟨[.val ty8, .val ty0, .val i64, .val i64], [(ty0, .dp)], false, false, none, none⟩
noncomputable def eS (N : Nat) : List (Entry Try.prog) := []
def aN : Nat → Option (List Nat)
 | 0 => some [2, 3, 4, 9, 13, 14, 15]
 | _ => none
noncomputable def lP (N : Nat) (p : List Dir) (rs : List (Env → Option (List Int))) (k : Nat) (env : Env) : Option (List Int) :=
 lpE (eS N) N aN p Try.f23 (endK Tb sG Try.f23 [] (un1 ty0)) rs k env
noncomputable def El0 (N : Nat) (k_ : Nat) (relation2 : Int) (column2 : Int) (db2 : List (ByteArray × Int × Int)) (db3 : List (Int × List Int)) (out : List Int) (t13 : List Int) (t14 : Int) (t15 : Int) : Option (List Int) :=
 lP N [.r, .r, .l, .r, .b] [] k_ (un 2 (.con .val [lf i64 relation2 .ro] :: (.con .val [lf i64 column2 .ro] :: (.con (.box ⟨33, false, []⟩) [lf ty6 db2 .ro, lf ty7 db3 .ro] :: (un 4 (.con .val [lf ty0 out .dp] :: (un 3 (.con .val [lf ty0 t13 .ro] :: (.con .val [lf i64 t14 .ro] :: (.con .val [lf i64 t15 .ro] :: (un 25 [])))))))))))
theorem ql0 (N : Nat) : ∀ k_, El0 N k_ = impl_columnOf_l0 N k_
 | 0 => by funext relation2 column2 db2 db3 out t13 t14 t15; kernel_rfl
 | k_ + 1 => by funext relation2 column2 db2 db3 out t13 t14 t15; rw [show El0 N (k_ + 1) relation2 column2 db2 db3 out t13 t14 t15 = impl_columnOf_l0_b N (El0 N k_) relation2 column2 db2 db3 out t13 t14 t15 from by kernel_rfl]; simp only [ql0 N k_]; rfl
theorem vV (N : Nat) (db : List (ByteArray × Int × Int) × List (Int × List Int)) (indices : List Int) (relation : Int) (column : Int) :
  evE (eS N) N aN sG Try.f23 [.val ty8 db, .val ty0 indices, .val i64 relation, .val i64 column] (un1 ty0) = impl_columnOf_b N (El0 N N) db indices relation column := by kernel_rfl
noncomputable def eE (N : Nat) : Entry Try.prog := ⟨23, sG, [.v ty8, .v ty0, .v i64, .v i64], List Int, impl_columnOf N, pk1 ty0, entry_en Try.func23 (code := Try.f23.body.getD .skip) (by kernel_rfl) (by kernel_rfl),
 fun db indices relation column => entry_ok tab_ok (es := eS N) (by kernel_rfl) mixed Try.func23 (by kernel_rfl) ⟨⟨rfl, rfl⟩, rfl, rfl⟩ (un1_pk ty0) ((vV N db indices relation column).trans (by rw [ql0]; rfl))⟩
end impl_columnOf
namespace slices_Concat_Lint_int
def sG : Sig := ⟨[.val ty9], [(ty0, .dp)], false, false, none, none⟩
noncomputable def eS (N : Nat) : List (Entry Try.prog) := [slices_Grow_Lint_int_e N]
def aN : Nat → Option (List Nat)
 | 0 => some [0, 3, 9, 10, 11]
 | 2 => some [6, 25, 26, 27]
 | _ => none
noncomputable def lP (N : Nat) (p : List Dir) (rs : List (Env → Option (List Int))) (k : Nat) (env : Env) : Option (List Int) :=
 lpE (eS N) N aN p Try.f43 (endK Tb sG Try.f43 [] (un1 ty0)) rs k env
noncomputable def El1 (N : Nat) (k_ : Nat) (newslice : List Int) (t25 : List (List Int)) (t26 : Int) (t27 : Int) : Option (List Int) :=
 lP N [.r, .r, .r, .r, .l, .r, .b] [] k_ (un 6 (.con .val [lf ty0 newslice .dp] :: (un 18 (.con .val [lf ty9 t25 .ro] :: (.con .val [lf i64 t26 .ro] :: (.con .val [lf i64 t27 .ro] :: (un 8 [])))))))
noncomputable def El0 (N : Nat) (k_ : Nat) (slices2 : List (List Int)) (size : Int) (t9 : List (List Int)) (t10 : Int) (t11 : Int) : Option (List Int) :=
 lP N [.r, .r, .l, .r, .b] [] k_ (.con .val [lf ty9 slices2 .ro] :: (un 2 (.con .val [lf i64 size .ro] :: (un 5 (.con .val [lf ty9 t9 .ro] :: (.con .val [lf i64 t10 .ro] :: (.con .val [lf i64 t11 .ro] :: (un 24 []))))))))
theorem ql1 (N : Nat) : ∀ k_, El1 N k_ = slices_Concat_Lint_int_l1 N k_
 | 0 => by funext newslice t25 t26 t27; kernel_rfl
 | k_ + 1 => by funext newslice t25 t26 t27; rw [show El1 N (k_ + 1) newslice t25 t26 t27 = slices_Concat_Lint_int_l1_b N (El1 N k_) newslice t25 t26 t27 from by kernel_rfl]; simp only [ql1 N k_]; rfl
theorem ql0 (N : Nat) : ∀ k_, El0 N k_ = slices_Concat_Lint_int_l0 N k_
 | 0 => by funext slices2 size t9 t10 t11; kernel_rfl
 | k_ + 1 => by funext slices2 size t9 t10 t11; rw [show El0 N (k_ + 1) slices2 size t9 t10 t11 = slices_Concat_Lint_int_l0_b N (El1 N N) (El0 N k_) slices2 size t9 t10 t11 from by kernel_rfl]; simp only [ql1, ql0 N k_]; rfl
theorem vV (N : Nat) (slices : List (List Int)) :
  evE (eS N) N aN sG Try.f43 [.val ty9 slices] (un1 ty0) = slices_Concat_Lint_int_b N (El0 N N) slices := by kernel_rfl
noncomputable def eE (N : Nat) : Entry Try.prog := ⟨43, sG, [.v ty9], List Int, slices_Concat_Lint_int N, pk1 ty0, entry_en Try.func43 (code := Try.f43.body.getD .skip) (by kernel_rfl) (by kernel_rfl),
 fun slices => entry_ok tab_ok (es := eS N) (by kernel_rfl) mixed Try.func43 (by kernel_rfl) ⟨⟨rfl, rfl⟩, rfl, rfl⟩ (un1_pk ty0) ((vV N slices).trans (by rw [ql0]; rfl))⟩
end slices_Concat_Lint_int
namespace impl_union
def sG : Sig := ⟨[.val ty0, .val ty0], [(ty0, .dp)], false, false, none, none⟩
noncomputable def eS (N : Nat) : List (Entry Try.prog) := [slices_Concat_Lint_int.eE N, slices_Sort_Lint_int_e N, slices_Compact_Lint_int_e N]
def aN : Nat → Option (List Nat) := fun _ => none
theorem vV (N : Nat) (a : List Int) (b : List Int) :
  evE (eS N) N aN sG Try.f22 [.val ty0 a, .val ty0 b] (un1 ty0) = impl_union N a b := by kernel_rfl
noncomputable def eE (N : Nat) : Entry Try.prog := ⟨22, sG, [.v ty0, .v ty0], List Int, impl_union N, pk1 ty0, entry_en Try.func22 (code := Try.f22.body.getD .skip) (by kernel_rfl) (by kernel_rfl),
 fun a b => entry_ok tab_ok (es := eS N) (by kernel_rfl) mixed Try.func22 (by kernel_rfl) ⟨⟨rfl, rfl⟩, rfl, rfl⟩ (un1_pk ty0) (vV N a b)⟩
end impl_union
namespace slices_Equal_Lint_int
def sG : Sig := ⟨[.val ty0, .val ty0], [(.bool, .dp)], false, false, none, none⟩
noncomputable def eS (N : Nat) : List (Entry Try.prog) := []
def aN : Nat → Option (List Nat)
 | 0 => some [0, 1, 12, 13]
 | _ => none
noncomputable def lP (N : Nat) (p : List Dir) (rs : List (Env → Option (Bool))) (k : Nat) (env : Env) : Option (Bool) :=
 lpE (eS N) N aN p Try.f100 (endK Tb sG Try.f100 [] (un1 .bool)) rs k env
noncomputable def El0 (N : Nat) (k_ : Nat) (s12 : List Int) (s22 : List Int) (t12 : Int) (t13 : Int) : Option (Bool) :=
 lP N [.r, .r, .l, .r, .b] [] k_ (.con .val [lf ty0 s12 .ro] :: (.con .val [lf ty0 s22 .ro] :: (un 10 (.con .val [lf i64 t12 .ro] :: (.con .val [lf i64 t13 .ro] :: (un 12 []))))))
theorem ql0 (N : Nat) : ∀ k_, El0 N k_ = slices_Equal_Lint_int_l0 N k_
 | 0 => by funext s12 s22 t12 t13; kernel_rfl
 | k_ + 1 => by funext s12 s22 t12 t13; rw [show El0 N (k_ + 1) s12 s22 t12 t13 = slices_Equal_Lint_int_l0_b N (El0 N k_) s12 s22 t12 t13 from by kernel_rfl]; simp only [ql0 N k_]; rfl
theorem vV (N : Nat) (s1 : List Int) (s2 : List Int) :
  evE (eS N) N aN sG Try.f100 [.val ty0 s1, .val ty0 s2] (un1 .bool) = slices_Equal_Lint_int_b N (El0 N N) s1 s2 := by kernel_rfl
noncomputable def eE (N : Nat) : Entry Try.prog := ⟨100, sG, [.v ty0, .v ty0], Bool, slices_Equal_Lint_int N, pk1 .bool, entry_en Try.func100 (code := Try.f100.body.getD .skip) (by kernel_rfl) (by kernel_rfl),
 fun s1 s2 => entry_ok tab_ok (es := eS N) (by kernel_rfl) mixed Try.func100 (by kernel_rfl) ⟨⟨rfl, rfl⟩, rfl, rfl⟩ (un1_pk .bool) ((vV N s1 s2).trans (by rw [ql0]; rfl))⟩
end slices_Equal_Lint_int
namespace impl_sameKey
def sG : Sig := ⟨[.val ty6, .val ty3, .val ty3], [(.bool, .dp)], false, false, none, none⟩
noncomputable def eS (N : Nat) : List (Entry Try.prog) := [slices_Equal_Lint_int.eE N]
def aN : Nat → Option (List Nat) := fun _ => none
theorem vV (N : Nat) (relations : List (ByteArray × Int × Int)) (a : Int × List Int) (b : Int × List Int) :
  evE (eS N) N aN sG Try.f89 [.val ty6 relations, .val ty3 a, .val ty3 b] (un1 .bool) = impl_sameKey N relations a b := by kernel_rfl
noncomputable def eE (N : Nat) : Entry Try.prog := ⟨89, sG, [.v ty6, .v ty3, .v ty3], Bool, impl_sameKey N, pk1 .bool, entry_en Try.func89 (code := Try.f89.body.getD .skip) (by kernel_rfl) (by kernel_rfl),
 fun relations a b => entry_ok tab_ok (es := eS N) (by kernel_rfl) mixed Try.func89 (by kernel_rfl) ⟨⟨rfl, rfl⟩, rfl, rfl⟩ (un1_pk .bool) (vV N relations a b)⟩
end impl_sameKey
namespace impl_blocks
def sG : Sig := ⟨[.val ty8], [(ty9, .dp)], false, false, none, none⟩
noncomputable def eS (N : Nat) : List (Entry Try.prog) := [impl_sameKey.eE N]
def aN : Nat → Option (List Nat)
 | 0 => some [1, 3, 9, 10, 11]
 | _ => none
noncomputable def lP (N : Nat) (p : List Dir) (rs : List (Env → Option (List (List Int)))) (k : Nat) (env : Env) : Option (List (List Int)) :=
 lpE (eS N) N aN p Try.f67 (endK Tb sG Try.f67 [] (un1 ty9)) rs k env
noncomputable def El0 (N : Nat) (k_ : Nat) (db2 : List (ByteArray × Int × Int)) (db3 : List (Int × List Int)) (out : List (List Int)) (t9 : List (Int × List Int)) (t10 : Int) (t11 : Int) : Option (List (List Int)) :=
 lP N [.r, .r, .l, .r, .b] [] k_ (un 1 (.con (.box ⟨33, false, []⟩) [lf ty6 db2 .ro, lf ty7 db3 .ro] :: (un 1 (.con .val [lf ty9 out .dp] :: (un 5 (.con .val [lf ty7 t9 .ro] :: (.con .val [lf i64 t10 .ro] :: (.con .val [lf i64 t11 .ro] :: (un 42 [])))))))))
theorem ql0 (N : Nat) : ∀ k_, El0 N k_ = impl_blocks_l0 N k_
 | 0 => by funext db2 db3 out t9 t10 t11; kernel_rfl
 | k_ + 1 => by funext db2 db3 out t9 t10 t11; rw [show El0 N (k_ + 1) db2 db3 out t9 t10 t11 = impl_blocks_l0_b N (El0 N k_) db2 db3 out t9 t10 t11 from by kernel_rfl]; simp only [ql0 N k_]; rfl
theorem vV (N : Nat) (db : List (ByteArray × Int × Int) × List (Int × List Int)) :
  evE (eS N) N aN sG Try.f67 [.val ty8 db] (un1 ty9) = impl_blocks_b N (El0 N N) db := by kernel_rfl
noncomputable def eE (N : Nat) : Entry Try.prog := ⟨67, sG, [.v ty8], List (List Int), impl_blocks N, pk1 ty9, entry_en Try.func67 (code := Try.f67.body.getD .skip) (by kernel_rfl) (by kernel_rfl),
 fun db => entry_ok tab_ok (es := eS N) (by kernel_rfl) mixed Try.func67 (by kernel_rfl) ⟨⟨rfl, rfl⟩, rfl, rfl⟩ (un1_pk ty9) ((vV N db).trans (by rw [ql0]; rfl))⟩
end impl_blocks
namespace impl_nthRepair
def sG : Sig := ⟨[.val ty9, .val i64], [(ty0, .dp)], false, false, none, none⟩
noncomputable def eS (N : Nat) : List (Entry Try.prog) := []
def aN : Nat → Option (List Nat)
 | 0 => some [0, 1, 5, 6]
 | _ => none
noncomputable def lP (N : Nat) (p : List Dir) (rs : List (Env → Option (List Int))) (k : Nat) (env : Env) : Option (List Int) :=
 lpE (eS N) N aN p Try.f68 (endK Tb sG Try.f68 [] (un1 ty0)) rs k env
noncomputable def El0 (N : Nat) (k_ : Nat) (list2 : List (List Int)) (rank2 : Int) (out : List Int) (i : Int) : Option (List Int) :=
 lP N [.r, .r, .l, .r, .b] [] k_ (.con .val [lf ty9 list2 .ro] :: (.con .val [lf i64 rank2 .ro] :: (un 3 (.con .val [lf ty0 out .dp] :: (.con .val [lf i64 i .ro] :: (un 34 []))))))
theorem ql0 (N : Nat) : ∀ k_, El0 N k_ = impl_nthRepair_l0 N k_
 | 0 => by funext list2 rank2 out i; kernel_rfl
 | k_ + 1 => by funext list2 rank2 out i; rw [show El0 N (k_ + 1) list2 rank2 out i = impl_nthRepair_l0_b N (El0 N k_) list2 rank2 out i from by kernel_rfl]; simp only [ql0 N k_]; rfl
theorem vV (N : Nat) (list : List (List Int)) (rank : Int) :
  evE (eS N) N aN sG Try.f68 [.val ty9 list, .val i64 rank] (un1 ty0) = impl_nthRepair_b N (El0 N N) list rank := by kernel_rfl
noncomputable def eE (N : Nat) : Entry Try.prog := ⟨68, sG, [.v ty9, .v i64], List Int, impl_nthRepair N, pk1 ty0, entry_en Try.func68 (code := Try.f68.body.getD .skip) (by kernel_rfl) (by kernel_rfl),
 fun list rank => entry_ok tab_ok (es := eS N) (by kernel_rfl) mixed Try.func68 (by kernel_rfl) ⟨⟨rfl, rfl⟩, rfl, rfl⟩ (un1_pk ty0) ((vV N list rank).trans (by rw [ql0]; rfl))⟩
end impl_nthRepair
namespace impl_groupOf
def sG : Sig := ⟨[.val ty8, .val ty0, .val i64, .val i64, .val i64], [(ty0, .dp)], false, false, none, none⟩
noncomputable def eS (N : Nat) : List (Entry Try.prog) := []
def aN : Nat → Option (List Nat)
 | 0 => some [2, 3, 4, 5, 11, 15, 16, 17]
 | _ => none
noncomputable def lP (N : Nat) (p : List Dir) (rs : List (Env → Option (List Int))) (k : Nat) (env : Env) : Option (List Int) :=
 lpE (eS N) N aN p Try.f49 (endK Tb sG Try.f49 [] (un1 ty0)) rs k env
noncomputable def El0 (N : Nat) (k_ : Nat) (relation2 : Int) (groupColumn2 : Int) (value2 : Int) (db2 : List (ByteArray × Int × Int)) (db3 : List (Int × List Int)) (out : List Int) (t15 : List Int) (t16 : Int) (t17 : Int) : Option (List Int) :=
 lP N [.r, .r, .l, .r, .b] [] k_ (un 2 (.con .val [lf i64 relation2 .ro] :: (.con .val [lf i64 groupColumn2 .ro] :: (.con .val [lf i64 value2 .ro] :: (.con (.box ⟨33, false, []⟩) [lf ty6 db2 .ro, lf ty7 db3 .ro] :: (un 5 (.con .val [lf ty0 out .dp] :: (un 3 (.con .val [lf ty0 t15 .ro] :: (.con .val [lf i64 t16 .ro] :: (.con .val [lf i64 t17 .ro] :: (un 30 []))))))))))))
theorem ql0 (N : Nat) : ∀ k_, El0 N k_ = impl_groupOf_l0 N k_
 | 0 => by funext relation2 groupColumn2 value2 db2 db3 out t15 t16 t17; kernel_rfl
 | k_ + 1 => by funext relation2 groupColumn2 value2 db2 db3 out t15 t16 t17; rw [show El0 N (k_ + 1) relation2 groupColumn2 value2 db2 db3 out t15 t16 t17 = impl_groupOf_l0_b N (El0 N k_) relation2 groupColumn2 value2 db2 db3 out t15 t16 t17 from by kernel_rfl]; simp only [ql0 N k_]; rfl
theorem vV (N : Nat) (db : List (ByteArray × Int × Int) × List (Int × List Int)) (indices : List Int) (relation : Int) (groupColumn : Int) (value : Int) :
  evE (eS N) N aN sG Try.f49 [.val ty8 db, .val ty0 indices, .val i64 relation, .val i64 groupColumn, .val i64 value] (un1 ty0) = impl_groupOf_b N (El0 N N) db indices relation groupColumn value := by kernel_rfl
noncomputable def eE (N : Nat) : Entry Try.prog := ⟨49, sG, [.v ty8, .v ty0, .v i64, .v i64, .v i64], List Int, impl_groupOf N, pk1 ty0, entry_en Try.func49 (code := Try.f49.body.getD .skip) (by kernel_rfl) (by kernel_rfl),
 fun db indices relation groupColumn value => entry_ok tab_ok (es := eS N) (by kernel_rfl) mixed Try.func49 (by kernel_rfl) ⟨⟨rfl, rfl⟩, rfl, rfl⟩ (un1_pk ty0) ((vV N db indices relation groupColumn value).trans (by rw [ql0]; rfl))⟩
end impl_groupOf
namespace impl_sumOf
def sG : Sig := ⟨[.val ty0], [(i64, .dp)], false, false, none, none⟩
noncomputable def eS (N : Nat) : List (Entry Try.prog) := []
def aN : Nat → Option (List Nat)
 | 0 => some [3, 6, 7, 8]
 | _ => none
noncomputable def lP (N : Nat) (p : List Dir) (rs : List (Env → Option (Int))) (k : Nat) (env : Env) : Option (Int) :=
 lpE (eS N) N aN p Try.f48 (endK Tb sG Try.f48 [] (un1 i64)) rs k env
noncomputable def El0 (N : Nat) (k_ : Nat) (sum : Int) (t6 : List Int) (t7 : Int) (t8 : Int) : Option (Int) :=
 lP N [.r, .r, .l, .r, .b] [] k_ (un 3 (.con .val [lf i64 sum .ro] :: (un 2 (.con .val [lf ty0 t6 .ro] :: (.con .val [lf i64 t7 .ro] :: (.con .val [lf i64 t8 .ro] :: (un 8 [])))))))
theorem ql0 (N : Nat) : ∀ k_, El0 N k_ = impl_sumOf_l0 N k_
 | 0 => by funext sum t6 t7 t8; kernel_rfl
 | k_ + 1 => by funext sum t6 t7 t8; rw [show El0 N (k_ + 1) sum t6 t7 t8 = impl_sumOf_l0_b N (El0 N k_) sum t6 t7 t8 from by kernel_rfl]; simp only [ql0 N k_]; rfl
theorem vV (N : Nat) (values : List Int) :
  evE (eS N) N aN sG Try.f48 [.val ty0 values] (un1 i64) = impl_sumOf_b N (El0 N N) values := by kernel_rfl
noncomputable def eE (N : Nat) : Entry Try.prog := ⟨48, sG, [.v ty0], Int, impl_sumOf N, pk1 i64, entry_en Try.func48 (code := Try.f48.body.getD .skip) (by kernel_rfl) (by kernel_rfl),
 fun values => entry_ok tab_ok (es := eS N) (by kernel_rfl) mixed Try.func48 (by kernel_rfl) ⟨⟨rfl, rfl⟩, rfl, rfl⟩ (un1_pk i64) ((vV N values).trans (by rw [ql0]; rfl))⟩
end impl_sumOf
namespace impl_GroupSumRange_c1
def sG : Sig := ⟨[.val ty0, .ptr ty8, .ptr i64, .ptr i64, .ptr i64, .ptr i64], [(i64, .dp)], false, false, none, none⟩
noncomputable def eS (N : Nat) : List (Entry Try.prog) := [impl_groupOf.eE N, impl_columnOf.eE N, impl_sumOf.eE N]
def aN : Nat → Option (List Nat) := fun _ => none
theorem vV (N : Nat) (repair : List Int) (c1 : List (ByteArray × Int × Int) × List (Int × List Int)) (c2 : Int) (c3 : Int) (c4 : Int) (c5 : Int) :
  evE (eS N) N aN sG Try.f47 [.val ty0 repair, .ptr ty8 c1, .ptr i64 c2, .ptr i64 c3, .ptr i64 c4, .ptr i64 c5] (un1 i64) = impl_GroupSumRange_c1 N repair c1 c2 c3 c4 c5 := by kernel_rfl
noncomputable def eE (N : Nat) : Entry Try.prog := ⟨47, sG, [.v ty0, .p ty8, .p i64, .p i64, .p i64, .p i64], Int, impl_GroupSumRange_c1 N, pk1 i64, entry_en Try.func47 (code := Try.f47.body.getD .skip) (by kernel_rfl) (by kernel_rfl),
 fun repair c1 c2 c3 c4 c5 => entry_ok tab_ok (es := eS N) (by kernel_rfl) mixed Try.func47 (by kernel_rfl) ⟨⟨rfl, rfl⟩, rfl, rfl⟩ (un1_pk i64) (vV N repair c1 c2 c3 c4 c5)⟩
end impl_GroupSumRange_c1
namespace impl_countRepairs
def sG : Sig := ⟨[.val ty9], [(i64, .dp)], false, false, none, none⟩
noncomputable def eS (N : Nat) : List (Entry Try.prog) := []
def aN : Nat → Option (List Nat)
 | 0 => some [3, 6, 7, 8]
 | _ => none
noncomputable def lP (N : Nat) (p : List Dir) (rs : List (Env → Option (Int))) (k : Nat) (env : Env) : Option (Int) :=
 lpE (eS N) N aN p Try.f69 (endK Tb sG Try.f69 [] (un1 i64)) rs k env
noncomputable def El0 (N : Nat) (k_ : Nat) (out : Int) (t6 : List (List Int)) (t7 : Int) (t8 : Int) : Option (Int) :=
 lP N [.r, .r, .l, .r, .b] [] k_ (un 3 (.con .val [lf i64 out .ro] :: (un 2 (.con .val [lf ty9 t6 .ro] :: (.con .val [lf i64 t7 .ro] :: (.con .val [lf i64 t8 .ro] :: (un 9 [])))))))
theorem ql0 (N : Nat) : ∀ k_, El0 N k_ = impl_countRepairs_l0 N k_
 | 0 => by funext out t6 t7 t8; kernel_rfl
 | k_ + 1 => by funext out t6 t7 t8; rw [show El0 N (k_ + 1) out t6 t7 t8 = impl_countRepairs_l0_b N (El0 N k_) out t6 t7 t8 from by kernel_rfl]; simp only [ql0 N k_]; rfl
theorem vV (N : Nat) (list : List (List Int)) :
  evE (eS N) N aN sG Try.f69 [.val ty9 list] (un1 i64) = impl_countRepairs_b N (El0 N N) list := by kernel_rfl
noncomputable def eE (N : Nat) : Entry Try.prog := ⟨69, sG, [.v ty9], Int, impl_countRepairs N, pk1 i64, entry_en Try.func69 (code := Try.f69.body.getD .skip) (by kernel_rfl) (by kernel_rfl),
 fun list => entry_ok tab_ok (es := eS N) (by kernel_rfl) mixed Try.func69 (by kernel_rfl) ⟨⟨rfl, rfl⟩, rfl, rfl⟩ (un1_pk i64) ((vV N list).trans (by rw [ql0]; rfl))⟩
end impl_countRepairs
namespace impl_rangeOf_GroupSumRange_c1
def sG : Sig := ⟨[.val ty8, .clo], [(i64, .dp), (i64, .dp)], false, false, none, none⟩
noncomputable def eS (N : Nat) : List (Entry Try.prog) := [impl_nthRepair.eE N, impl_GroupSumRange_c1.eE N, impl_blocks.eE N, impl_countRepairs.eE N]
def aN : Nat → Option (List Nat)
 | 0 => some [1, 6, 7, 8, 19, 20]
 | _ => none
noncomputable def lP (N : Nat) (p : List Dir) (rs : List (Env → Option (Int × Int))) (k : Nat) (env : Env) : Option (Int × Int) :=
 lpE (eS N) N aN p Try.f46 (endK Tb sG Try.f46 [] (un2 i64 i64)) rs k env
noncomputable def El0 (N : Nat) (k_ : Nat) (aggregate : List (ByteArray × Int × Int) × List (Int × List Int)) (aggregate2 : Int) (aggregate3 : Int) (aggregate4 : Int) (aggregate5 : Int) (list : List (List Int)) (least : Int) (most : Int) (t19 : Int) (t20 : Int) : Option (Int × Int) :=
 lP N [.r, .r, .r, .r, .l, .r, .b] [] k_ (un 1 (.cloR 47 [⟨ty8, aggregate⟩, ⟨i64, aggregate2⟩, ⟨i64, aggregate3⟩, ⟨i64, aggregate4⟩, ⟨i64, aggregate5⟩] :: (un 4 (.con .val [lf ty9 list .dp] :: (.con .val [lf i64 least .ro] :: (.con .val [lf i64 most .ro] :: (un 10 (.con .val [lf i64 t19 .ro] :: (.con .val [lf i64 t20 .ro] :: (un 16 []))))))))))
theorem ql0 (N : Nat) : ∀ k_, El0 N k_ = impl_rangeOf_GroupSumRange_c1_l0 N k_
 | 0 => by funext aggregate aggregate2 aggregate3 aggregate4 aggregate5 list least most t19 t20; kernel_rfl
 | k_ + 1 => by funext aggregate aggregate2 aggregate3 aggregate4 aggregate5 list least most t19 t20; rw [show El0 N (k_ + 1) aggregate aggregate2 aggregate3 aggregate4 aggregate5 list least most t19 t20 = impl_rangeOf_GroupSumRange_c1_l0_b N (El0 N k_) aggregate aggregate2 aggregate3 aggregate4 aggregate5 list least most t19 t20 from by kernel_rfl]; simp only [ql0 N k_]; rfl
theorem vV (N : Nat) (db : List (ByteArray × Int × Int) × List (Int × List Int)) (c : List (ByteArray × Int × Int) × List (Int × List Int)) (c2 : Int) (c3 : Int) (c4 : Int) (c5 : Int) :
  evE (eS N) N aN sG Try.f46 [.val ty8 db, .clo 47 [⟨ty8, c⟩, ⟨i64, c2⟩, ⟨i64, c3⟩, ⟨i64, c4⟩, ⟨i64, c5⟩]] (un2 i64 i64) = impl_rangeOf_GroupSumRange_c1_b N (El0 N N) db c c2 c3 c4 c5 := by kernel_rfl
noncomputable def eE (N : Nat) : Entry Try.prog := ⟨46, sG, [.v ty8, .c 47 [ty8, i64, i64, i64, i64]], Int × Int, impl_rangeOf_GroupSumRange_c1 N, pk2 i64 i64, entry_en Try.func46 (code := Try.f46.body.getD .skip) (by kernel_rfl) (by kernel_rfl),
 fun db c c2 c3 c4 c5 => entry_ok tab_ok (es := eS N) (by kernel_rfl) mixed Try.func46 (by kernel_rfl) ⟨⟨rfl, rfl⟩, rfl, rfl⟩ (un2_pk i64 i64) ((vV N db c c2 c3 c4 c5).trans (by rw [ql0]; rfl))⟩
end impl_rangeOf_GroupSumRange_c1
namespace impl_GroupSumRange
def sG : Sig := ⟨[.val ty8, .val i64, .val i64, .val i64, .val i64], [(i64, .dp), (i64, .dp), (.bool, .dp)], false, false, none, none⟩
noncomputable def eS (N : Nat) : List (Entry Try.prog) := [impl_isColumn.eE N, impl_rangeOf_GroupSumRange_c1.eE N]
def aN : Nat → Option (List Nat) := fun _ => none
theorem vV (N : Nat) (db : List (ByteArray × Int × Int) × List (Int × List Int)) (relation : Int) (groupColumn : Int) (column : Int) (value : Int) :
  evE (eS N) N aN sG Try.f24 [.val ty8 db, .val i64 relation, .val i64 groupColumn, .val i64 column, .val i64 value] (un3 i64 i64 .bool) = impl_GroupSumRange N db relation groupColumn column value := by kernel_rfl
noncomputable def eE (N : Nat) : Entry Try.prog := ⟨24, sG, [.v ty8, .v i64, .v i64, .v i64, .v i64], Int × Int × Bool, impl_GroupSumRange N, pk3 i64 i64 .bool, entry_en Try.func24 (code := Try.f24.body.getD .skip) (by kernel_rfl) (by kernel_rfl),
 fun db relation groupColumn column value => entry_ok tab_ok (es := eS N) (by kernel_rfl) mixed Try.func24 (by kernel_rfl) ⟨⟨rfl, rfl⟩, rfl, rfl⟩ (un3_pk i64 i64 .bool) (vV N db relation groupColumn column value)⟩
end impl_GroupSumRange
namespace impl_GroupInAllRepairs_c1
def sG : Sig := ⟨[.val ty0, .ptr ty8, .ptr i64, .ptr i64, .ptr i64], [(i64, .dp)], false, false, none, none⟩
noncomputable def eS (N : Nat) : List (Entry Try.prog) := [impl_groupOf.eE N]
def aN : Nat → Option (List Nat) := fun _ => none
theorem vV (N : Nat) (repair : List Int) (c1 : List (ByteArray × Int × Int) × List (Int × List Int)) (c2 : Int) (c3 : Int) (c4 : Int) :
  evE (eS N) N aN sG Try.f50 [.val ty0 repair, .ptr ty8 c1, .ptr i64 c2, .ptr i64 c3, .ptr i64 c4] (un1 i64) = impl_GroupInAllRepairs_c1 N repair c1 c2 c3 c4 := by kernel_rfl
noncomputable def eE (N : Nat) : Entry Try.prog := ⟨50, sG, [.v ty0, .p ty8, .p i64, .p i64, .p i64], Int, impl_GroupInAllRepairs_c1 N, pk1 i64, entry_en Try.func50 (code := Try.f50.body.getD .skip) (by kernel_rfl) (by kernel_rfl),
 fun repair c1 c2 c3 c4 => entry_ok tab_ok (es := eS N) (by kernel_rfl) mixed Try.func50 (by kernel_rfl) ⟨⟨rfl, rfl⟩, rfl, rfl⟩ (un1_pk i64) (vV N repair c1 c2 c3 c4)⟩
end impl_GroupInAllRepairs_c1
namespace impl_rangeOf_GroupInAllRepairs_c1
def sG : Sig := ⟨[.val ty8, .clo], [(i64, .dp), (i64, .dp)], false, false, none, none⟩
noncomputable def eS (N : Nat) : List (Entry Try.prog) := [impl_nthRepair.eE N, impl_GroupInAllRepairs_c1.eE N, impl_blocks.eE N, impl_countRepairs.eE N]
def aN : Nat → Option (List Nat)
 | 0 => some [1, 6, 7, 8, 19, 20]
 | _ => none
noncomputable def lP (N : Nat) (p : List Dir) (rs : List (Env → Option (Int × Int))) (k : Nat) (env : Env) : Option (Int × Int) :=
 lpE (eS N) N aN p Try.f46 (endK Tb sG Try.f46 [] (un2 i64 i64)) rs k env
noncomputable def El0 (N : Nat) (k_ : Nat) (aggregate : List (ByteArray × Int × Int) × List (Int × List Int)) (aggregate2 : Int) (aggregate3 : Int) (aggregate4 : Int) (list : List (List Int)) (least : Int) (most : Int) (t19 : Int) (t20 : Int) : Option (Int × Int) :=
 lP N [.r, .r, .r, .r, .l, .r, .b] [] k_ (un 1 (.cloR 50 [⟨ty8, aggregate⟩, ⟨i64, aggregate2⟩, ⟨i64, aggregate3⟩, ⟨i64, aggregate4⟩] :: (un 4 (.con .val [lf ty9 list .dp] :: (.con .val [lf i64 least .ro] :: (.con .val [lf i64 most .ro] :: (un 10 (.con .val [lf i64 t19 .ro] :: (.con .val [lf i64 t20 .ro] :: (un 16 []))))))))))
theorem ql0 (N : Nat) : ∀ k_, El0 N k_ = impl_rangeOf_GroupInAllRepairs_c1_l0 N k_
 | 0 => by funext aggregate aggregate2 aggregate3 aggregate4 list least most t19 t20; kernel_rfl
 | k_ + 1 => by funext aggregate aggregate2 aggregate3 aggregate4 list least most t19 t20; rw [show El0 N (k_ + 1) aggregate aggregate2 aggregate3 aggregate4 list least most t19 t20 = impl_rangeOf_GroupInAllRepairs_c1_l0_b N (El0 N k_) aggregate aggregate2 aggregate3 aggregate4 list least most t19 t20 from by kernel_rfl]; simp only [ql0 N k_]; rfl
theorem vV (N : Nat) (db : List (ByteArray × Int × Int) × List (Int × List Int)) (c : List (ByteArray × Int × Int) × List (Int × List Int)) (c2 : Int) (c3 : Int) (c4 : Int) :
  evE (eS N) N aN sG Try.f46 [.val ty8 db, .clo 50 [⟨ty8, c⟩, ⟨i64, c2⟩, ⟨i64, c3⟩, ⟨i64, c4⟩]] (un2 i64 i64) = impl_rangeOf_GroupInAllRepairs_c1_b N (El0 N N) db c c2 c3 c4 := by kernel_rfl
noncomputable def eE (N : Nat) : Entry Try.prog := ⟨46, sG, [.v ty8, .c 50 [ty8, i64, i64, i64]], Int × Int, impl_rangeOf_GroupInAllRepairs_c1 N, pk2 i64 i64, entry_en Try.func46 (code := Try.f46.body.getD .skip) (by kernel_rfl) (by kernel_rfl),
 fun db c c2 c3 c4 => entry_ok tab_ok (es := eS N) (by kernel_rfl) mixed Try.func46 (by kernel_rfl) ⟨⟨rfl, rfl⟩, rfl, rfl⟩ (un2_pk i64 i64) ((vV N db c c2 c3 c4).trans (by rw [ql0]; rfl))⟩
end impl_rangeOf_GroupInAllRepairs_c1
namespace impl_GroupInAllRepairs
def sG : Sig := ⟨[.val ty8, .val i64, .val i64, .val i64], [(.bool, .dp)], false, false, none, none⟩
noncomputable def eS (N : Nat) : List (Entry Try.prog) := [impl_isColumn.eE N, impl_rangeOf_GroupInAllRepairs_c1.eE N]
def aN : Nat → Option (List Nat) := fun _ => none
theorem vV (N : Nat) (db : List (ByteArray × Int × Int) × List (Int × List Int)) (relation : Int) (groupColumn : Int) (value : Int) :
  evE (eS N) N aN sG Try.f25 [.val ty8 db, .val i64 relation, .val i64 groupColumn, .val i64 value] (un1 .bool) = impl_GroupInAllRepairs N db relation groupColumn value := by kernel_rfl
noncomputable def eE (N : Nat) : Entry Try.prog := ⟨25, sG, [.v ty8, .v i64, .v i64, .v i64], Bool, impl_GroupInAllRepairs N, pk1 .bool, entry_en Try.func25 (code := Try.f25.body.getD .skip) (by kernel_rfl) (by kernel_rfl),
 fun db relation groupColumn value => entry_ok tab_ok (es := eS N) (by kernel_rfl) mixed Try.func25 (by kernel_rfl) ⟨⟨rfl, rfl⟩, rfl, rfl⟩ (un1_pk .bool) (vV N db relation groupColumn value)⟩
end impl_GroupInAllRepairs
namespace impl_GroupRanges
def sG : Sig := ⟨[.val ty8, .val i64, .val i64, .val i64], [(ty10, .dp), (.bool, .dp)], false, false, none, none⟩
noncomputable def eS (N : Nat) : List (Entry Try.prog) := [impl_GroupSumRange.eE N, impl_GroupInAllRepairs.eE N, impl_columnOf.eE N, impl_union.eE N, impl_isColumn.eE N]
def aN : Nat → Option (List Nat)
 | 0 => some [1, 2, 3, 4, 10, 11, 34, 35]
 | 2 => some [1, 2, 3, 4, 11, 48, 49, 50]
 | _ => none
noncomputable def lP (N : Nat) (p : List Dir) (rs : List (Env → Option ((List (Int × Int × Int × Bool)) × Bool))) (k : Nat) (env : Env) : Option ((List (Int × Int × Int × Bool)) × Bool) :=
 lpE (eS N) N aN p Try.f7 (endK Tb sG Try.f7 [] (un2 ty10 .bool)) rs k env
noncomputable def El1 (N : Nat) (k_ : Nat) (relation3 : Int) (groupColumn3 : Int) (column3 : Int) (db4 : List (ByteArray × Int × Int)) (db5 : List (Int × List Int)) (out2 : List (Int × Int × Int × Bool)) (t48 : List Int) (t49 : Int) (t50 : Int) : Option ((List (Int × Int × Int × Bool)) × Bool) :=
 lP N [.r, .r, .r, .r, .l, .r, .b] [] k_ (un 1 (.con .val [lf i64 relation3 .ro] :: (.con .val [lf i64 groupColumn3 .ro] :: (.con .val [lf i64 column3 .ro] :: (.con (.box ⟨33, false, []⟩) [lf ty6 db4 .ro, lf ty7 db5 .ro] :: (un 6 (.con .val [lf ty10 out2 .dp] :: (un 36 (.con .val [lf ty0 t48 .dp] :: (.con .val [lf i64 t49 .ro] :: (.con .val [lf i64 t50 .ro] :: (un 27 []))))))))))))
noncomputable def El0 (N : Nat) (k_ : Nat) (relation2 : Int) (groupColumn2 : Int) (column2 : Int) (db2 : List (ByteArray × Int × Int)) (db3 : List (Int × List Int)) (all : List Int) (out : List (Int × Int × Int × Bool)) (t34 : Int) (t35 : Int) : Option ((List (Int × Int × Int × Bool)) × Bool) :=
 lP N [.r, .r, .r, .l, .r, .b] [] k_ (un 1 (.con .val [lf i64 relation2 .ro] :: (.con .val [lf i64 groupColumn2 .ro] :: (.con .val [lf i64 column2 .ro] :: (.con (.box ⟨33, false, []⟩) [lf ty6 db2 .ro, lf ty7 db3 .ro] :: (un 5 (.con .val [lf ty0 all .dp] :: (.con .val [lf ty10 out .dp] :: (un 22 (.con .val [lf i64 t34 .ro] :: (.con .val [lf i64 t35 .ro] :: (un 42 []))))))))))))
theorem ql1 (N : Nat) : ∀ k_, El1 N k_ = impl_GroupRanges_l1 N k_
 | 0 => by funext relation3 groupColumn3 column3 db4 db5 out2 t48 t49 t50; kernel_rfl
 | k_ + 1 => by funext relation3 groupColumn3 column3 db4 db5 out2 t48 t49 t50; rw [show El1 N (k_ + 1) relation3 groupColumn3 column3 db4 db5 out2 t48 t49 t50 = impl_GroupRanges_l1_b N (El1 N k_) relation3 groupColumn3 column3 db4 db5 out2 t48 t49 t50 from by kernel_rfl]; simp only [ql1 N k_]; rfl
theorem ql0 (N : Nat) : ∀ k_, El0 N k_ = impl_GroupRanges_l0 N k_
 | 0 => by funext relation2 groupColumn2 column2 db2 db3 all out t34 t35; kernel_rfl
 | k_ + 1 => by funext relation2 groupColumn2 column2 db2 db3 all out t34 t35; rw [show El0 N (k_ + 1) relation2 groupColumn2 column2 db2 db3 all out t34 t35 = impl_GroupRanges_l0_b N (El1 N N) (El0 N k_) relation2 groupColumn2 column2 db2 db3 all out t34 t35 from by kernel_rfl]; simp only [ql1, ql0 N k_]; rfl
theorem vV (N : Nat) (db : List (ByteArray × Int × Int) × List (Int × List Int)) (relation : Int) (groupColumn : Int) (column : Int) :
  evE (eS N) N aN sG Try.f7 [.val ty8 db, .val i64 relation, .val i64 groupColumn, .val i64 column] (un2 ty10 .bool) = impl_GroupRanges_b N (El0 N N) db relation groupColumn column := by kernel_rfl
noncomputable def eE (N : Nat) : Entry Try.prog := ⟨7, sG, [.v ty8, .v i64, .v i64, .v i64], (List (Int × Int × Int × Bool)) × Bool, impl_GroupRanges N, pk2 ty10 .bool, entry_en Try.func7 (code := Try.f7.body.getD .skip) (by kernel_rfl) (by kernel_rfl),
 fun db relation groupColumn column => entry_ok tab_ok (es := eS N) (by kernel_rfl) mixed Try.func7 (by kernel_rfl) ⟨⟨rfl, rfl⟩, rfl, rfl⟩ (un2_pk ty10 .bool) ((vV N db relation groupColumn column).trans (by rw [ql0]; rfl))⟩
end impl_GroupRanges
namespace laws_eqGroupRange
def sG : Sig := ⟨[.val ty11, .val ty11], [(.bool, .dp)], false, false, none, none⟩
noncomputable def eS (N : Nat) : List (Entry Try.prog) := []
def aN : Nat → Option (List Nat) := fun _ => none
theorem vV (N : Nat) (a : Int × Int × Int × Bool) (b : Int × Int × Int × Bool) :
  evE (eS N) N aN sG Try.f26 [.val ty11 a, .val ty11 b] (un1 .bool) = laws_eqGroupRange N a b := by kernel_rfl
noncomputable def eE (N : Nat) : Entry Try.prog := ⟨26, sG, [.v ty11, .v ty11], Bool, laws_eqGroupRange N, pk1 .bool, entry_en Try.func26 (code := Try.f26.body.getD .skip) (by kernel_rfl) (by kernel_rfl),
 fun a b => entry_ok tab_ok (es := eS N) (by kernel_rfl) mixed Try.func26 (by kernel_rfl) ⟨⟨rfl, rfl⟩, rfl, rfl⟩ (un1_pk .bool) (vV N a b)⟩
end laws_eqGroupRange
namespace laws_eqGroupRangeS
def sG : Sig := ⟨[.val ty10, .val ty10], [(.bool, .dp)], false, false, none, none⟩
noncomputable def eS (N : Nat) : List (Entry Try.prog) := [laws_eqGroupRange.eE N]
def aN : Nat → Option (List Nat)
 | 0 => some [0, 1, 5]
 | _ => none
noncomputable def lP (N : Nat) (p : List Dir) (rs : List (Env → Option (Bool))) (k : Nat) (env : Env) : Option (Bool) :=
 lpE (eS N) N aN p Try.f8 (endK Tb sG Try.f8 [] (un1 .bool)) rs k env
noncomputable def El0 (N : Nat) (k_ : Nat) (a2 : List (Int × Int × Int × Bool)) (b2 : List (Int × Int × Int × Bool)) (i : Int) : Option (Bool) :=
 lP N [.r, .r, .l, .r, .b] [] k_ (.con .val [lf ty10 a2 .ro] :: (.con .val [lf ty10 b2 .ro] :: (un 3 (.con .val [lf i64 i .ro] :: (un 21 [])))))
theorem ql0 (N : Nat) : ∀ k_, El0 N k_ = laws_eqGroupRangeS_l0 N k_
 | 0 => by funext a2 b2 i; kernel_rfl
 | k_ + 1 => by funext a2 b2 i; rw [show El0 N (k_ + 1) a2 b2 i = laws_eqGroupRangeS_l0_b N (El0 N k_) a2 b2 i from by kernel_rfl]; simp only [ql0 N k_]; rfl
theorem vV (N : Nat) (a : List (Int × Int × Int × Bool)) (b : List (Int × Int × Int × Bool)) :
  evE (eS N) N aN sG Try.f8 [.val ty10 a, .val ty10 b] (un1 .bool) = laws_eqGroupRangeS_b N (El0 N N) a b := by kernel_rfl
noncomputable def eE (N : Nat) : Entry Try.prog := ⟨8, sG, [.v ty10, .v ty10], Bool, laws_eqGroupRangeS N, pk1 .bool, entry_en Try.func8 (code := Try.f8.body.getD .skip) (by kernel_rfl) (by kernel_rfl),
 fun a b => entry_ok tab_ok (es := eS N) (by kernel_rfl) mixed Try.func8 (by kernel_rfl) ⟨⟨rfl, rfl⟩, rfl, rfl⟩ (un1_pk .bool) ((vV N a b).trans (by rw [ql0]; rfl))⟩
end laws_eqGroupRangeS
namespace laws_eqRelation
def sG : Sig := ⟨[.val ty1, .val ty1], [(.bool, .dp)], false, false, none, none⟩
noncomputable def eS (N : Nat) : List (Entry Try.prog) := []
def aN : Nat → Option (List Nat) := fun _ => none
theorem vV (N : Nat) (a : ByteArray × Int × Int) (b : ByteArray × Int × Int) :
  evE (eS N) N aN sG Try.f51 [.val ty1 a, .val ty1 b] (un1 .bool) = laws_eqRelation N a b := by kernel_rfl
noncomputable def eE (N : Nat) : Entry Try.prog := ⟨51, sG, [.v ty1, .v ty1], Bool, laws_eqRelation N, pk1 .bool, entry_en Try.func51 (code := Try.f51.body.getD .skip) (by kernel_rfl) (by kernel_rfl),
 fun a b => entry_ok tab_ok (es := eS N) (by kernel_rfl) mixed Try.func51 (by kernel_rfl) ⟨⟨rfl, rfl⟩, rfl, rfl⟩ (un1_pk .bool) (vV N a b)⟩
end laws_eqRelation
namespace laws_eqRelationS
def sG : Sig := ⟨[.val ty6, .val ty6], [(.bool, .dp)], false, false, none, none⟩
noncomputable def eS (N : Nat) : List (Entry Try.prog) := [laws_eqRelation.eE N]
def aN : Nat → Option (List Nat)
 | 0 => some [0, 1, 5]
 | _ => none
noncomputable def lP (N : Nat) (p : List Dir) (rs : List (Env → Option (Bool))) (k : Nat) (env : Env) : Option (Bool) :=
 lpE (eS N) N aN p Try.f27 (endK Tb sG Try.f27 [] (un1 .bool)) rs k env
noncomputable def El0 (N : Nat) (k_ : Nat) (a2 : List (ByteArray × Int × Int)) (b2 : List (ByteArray × Int × Int)) (i : Int) : Option (Bool) :=
 lP N [.r, .r, .l, .r, .b] [] k_ (.con .val [lf ty6 a2 .ro] :: (.con .val [lf ty6 b2 .ro] :: (un 3 (.con .val [lf i64 i .ro] :: (un 21 [])))))
theorem ql0 (N : Nat) : ∀ k_, El0 N k_ = laws_eqRelationS_l0 N k_
 | 0 => by funext a2 b2 i; kernel_rfl
 | k_ + 1 => by funext a2 b2 i; rw [show El0 N (k_ + 1) a2 b2 i = laws_eqRelationS_l0_b N (El0 N k_) a2 b2 i from by kernel_rfl]; simp only [ql0 N k_]; rfl
theorem vV (N : Nat) (a : List (ByteArray × Int × Int)) (b : List (ByteArray × Int × Int)) :
  evE (eS N) N aN sG Try.f27 [.val ty6 a, .val ty6 b] (un1 .bool) = laws_eqRelationS_b N (El0 N N) a b := by kernel_rfl
noncomputable def eE (N : Nat) : Entry Try.prog := ⟨27, sG, [.v ty6, .v ty6], Bool, laws_eqRelationS N, pk1 .bool, entry_en Try.func27 (code := Try.f27.body.getD .skip) (by kernel_rfl) (by kernel_rfl),
 fun a b => entry_ok tab_ok (es := eS N) (by kernel_rfl) mixed Try.func27 (by kernel_rfl) ⟨⟨rfl, rfl⟩, rfl, rfl⟩ (un1_pk .bool) ((vV N a b).trans (by rw [ql0]; rfl))⟩
end laws_eqRelationS
namespace laws_eqIntS
def sG : Sig := ⟨[.val ty0, .val ty0], [(.bool, .dp)], false, false, none, none⟩
noncomputable def eS (N : Nat) : List (Entry Try.prog) := []
def aN : Nat → Option (List Nat)
 | 0 => some [0, 1, 5]
 | _ => none
noncomputable def lP (N : Nat) (p : List Dir) (rs : List (Env → Option (Bool))) (k : Nat) (env : Env) : Option (Bool) :=
 lpE (eS N) N aN p Try.f70 (endK Tb sG Try.f70 [] (un1 .bool)) rs k env
noncomputable def El0 (N : Nat) (k_ : Nat) (a2 : List Int) (b2 : List Int) (i : Int) : Option (Bool) :=
 lP N [.r, .r, .l, .r, .b] [] k_ (.con .val [lf ty0 a2 .ro] :: (.con .val [lf ty0 b2 .ro] :: (un 3 (.con .val [lf i64 i .ro] :: (un 20 [])))))
theorem ql0 (N : Nat) : ∀ k_, El0 N k_ = laws_eqIntS_l0 N k_
 | 0 => by funext a2 b2 i; kernel_rfl
 | k_ + 1 => by funext a2 b2 i; rw [show El0 N (k_ + 1) a2 b2 i = laws_eqIntS_l0_b N (El0 N k_) a2 b2 i from by kernel_rfl]; simp only [ql0 N k_]; rfl
theorem vV (N : Nat) (a : List Int) (b : List Int) :
  evE (eS N) N aN sG Try.f70 [.val ty0 a, .val ty0 b] (un1 .bool) = laws_eqIntS_b N (El0 N N) a b := by kernel_rfl
noncomputable def eE (N : Nat) : Entry Try.prog := ⟨70, sG, [.v ty0, .v ty0], Bool, laws_eqIntS N, pk1 .bool, entry_en Try.func70 (code := Try.f70.body.getD .skip) (by kernel_rfl) (by kernel_rfl),
 fun a b => entry_ok tab_ok (es := eS N) (by kernel_rfl) mixed Try.func70 (by kernel_rfl) ⟨⟨rfl, rfl⟩, rfl, rfl⟩ (un1_pk .bool) ((vV N a b).trans (by rw [ql0]; rfl))⟩
end laws_eqIntS
namespace laws_eqFact
def sG : Sig := ⟨[.val ty3, .val ty3], [(.bool, .dp)], false, false, none, none⟩
noncomputable def eS (N : Nat) : List (Entry Try.prog) := [laws_eqIntS.eE N]
def aN : Nat → Option (List Nat) := fun _ => none
theorem vV (N : Nat) (a : Int × List Int) (b : Int × List Int) :
  evE (eS N) N aN sG Try.f52 [.val ty3 a, .val ty3 b] (un1 .bool) = laws_eqFact N a b := by kernel_rfl
noncomputable def eE (N : Nat) : Entry Try.prog := ⟨52, sG, [.v ty3, .v ty3], Bool, laws_eqFact N, pk1 .bool, entry_en Try.func52 (code := Try.f52.body.getD .skip) (by kernel_rfl) (by kernel_rfl),
 fun a b => entry_ok tab_ok (es := eS N) (by kernel_rfl) mixed Try.func52 (by kernel_rfl) ⟨⟨rfl, rfl⟩, rfl, rfl⟩ (un1_pk .bool) (vV N a b)⟩
end laws_eqFact
namespace laws_eqFactS
def sG : Sig := ⟨[.val ty7, .val ty7], [(.bool, .dp)], false, false, none, none⟩
noncomputable def eS (N : Nat) : List (Entry Try.prog) := [laws_eqFact.eE N]
def aN : Nat → Option (List Nat)
 | 0 => some [0, 1, 5]
 | _ => none
noncomputable def lP (N : Nat) (p : List Dir) (rs : List (Env → Option (Bool))) (k : Nat) (env : Env) : Option (Bool) :=
 lpE (eS N) N aN p Try.f28 (endK Tb sG Try.f28 [] (un1 .bool)) rs k env
noncomputable def El0 (N : Nat) (k_ : Nat) (a2 : List (Int × List Int)) (b2 : List (Int × List Int)) (i : Int) : Option (Bool) :=
 lP N [.r, .r, .l, .r, .b] [] k_ (.con .val [lf ty7 a2 .ro] :: (.con .val [lf ty7 b2 .ro] :: (un 3 (.con .val [lf i64 i .ro] :: (un 21 [])))))
theorem ql0 (N : Nat) : ∀ k_, El0 N k_ = laws_eqFactS_l0 N k_
 | 0 => by funext a2 b2 i; kernel_rfl
 | k_ + 1 => by funext a2 b2 i; rw [show El0 N (k_ + 1) a2 b2 i = laws_eqFactS_l0_b N (El0 N k_) a2 b2 i from by kernel_rfl]; simp only [ql0 N k_]; rfl
theorem vV (N : Nat) (a : List (Int × List Int)) (b : List (Int × List Int)) :
  evE (eS N) N aN sG Try.f28 [.val ty7 a, .val ty7 b] (un1 .bool) = laws_eqFactS_b N (El0 N N) a b := by kernel_rfl
noncomputable def eE (N : Nat) : Entry Try.prog := ⟨28, sG, [.v ty7, .v ty7], Bool, laws_eqFactS N, pk1 .bool, entry_en Try.func28 (code := Try.f28.body.getD .skip) (by kernel_rfl) (by kernel_rfl),
 fun a b => entry_ok tab_ok (es := eS N) (by kernel_rfl) mixed Try.func28 (by kernel_rfl) ⟨⟨rfl, rfl⟩, rfl, rfl⟩ (un1_pk .bool) ((vV N a b).trans (by rw [ql0]; rfl))⟩
end laws_eqFactS
namespace laws_eqDatabase
def sG : Sig := ⟨[.val ty8, .val ty8], [(.bool, .dp)], false, false, none, none⟩
noncomputable def eS (N : Nat) : List (Entry Try.prog) := [laws_eqRelationS.eE N, laws_eqFactS.eE N]
def aN : Nat → Option (List Nat) := fun _ => none
theorem vV (N : Nat) (a : List (ByteArray × Int × Int) × List (Int × List Int)) (b : List (ByteArray × Int × Int) × List (Int × List Int)) :
  evE (eS N) N aN sG Try.f9 [.val ty8 a, .val ty8 b] (un1 .bool) = laws_eqDatabase N a b := by kernel_rfl
noncomputable def eE (N : Nat) : Entry Try.prog := ⟨9, sG, [.v ty8, .v ty8], Bool, laws_eqDatabase N, pk1 .bool, entry_en Try.func9 (code := Try.f9.body.getD .skip) (by kernel_rfl) (by kernel_rfl),
 fun a b => entry_ok tab_ok (es := eS N) (by kernel_rfl) mixed Try.func9 (by kernel_rfl) ⟨⟨rfl, rfl⟩, rfl, rfl⟩ (un1_pk .bool) (vV N a b)⟩
end laws_eqDatabase
namespace laws_markText
def sG : Sig := ⟨[.val i64], [(.str, .dp)], false, false, none, none⟩
noncomputable def eS (N : Nat) : List (Entry Try.prog) := []
def aN : Nat → Option (List Nat)
 | 0 => some [0, 3]
 | _ => none
noncomputable def lP (N : Nat) (p : List Dir) (rs : List (Env → Option (ByteArray))) (k : Nat) (env : Env) : Option (ByteArray) :=
 lpE (eS N) N aN p Try.f53 (endK Tb sG Try.f53 [] (un1 .str)) rs k env
noncomputable def El0 (N : Nat) (k_ : Nat) (k2 : Int) (out : ByteArray) : Option (ByteArray) :=
 lP N [.r, .r, .r, .l, .b] [] k_ (.con .val [lf i64 k2 .ro] :: (un 2 (.con .val [lf .str out .ro] :: (un 16 []))))
theorem ql0 (N : Nat) : ∀ k_, El0 N k_ = laws_markText_l0 N k_
 | 0 => by funext k2 out; kernel_rfl
 | k_ + 1 => by funext k2 out; rw [show El0 N (k_ + 1) k2 out = laws_markText_l0_b N (El0 N k_) k2 out from by kernel_rfl]; simp only [ql0 N k_]; rfl
theorem vV (N : Nat) (k : Int) :
  evE (eS N) N aN sG Try.f53 [.val i64 k] (un1 .str) = laws_markText_b N (El0 N N) k := by kernel_rfl
noncomputable def eE (N : Nat) : Entry Try.prog := ⟨53, sG, [.v i64], ByteArray, laws_markText N, pk1 .str, entry_en Try.func53 (code := Try.f53.body.getD .skip) (by kernel_rfl) (by kernel_rfl),
 fun k => entry_ok tab_ok (es := eS N) (by kernel_rfl) mixed Try.func53 (by kernel_rfl) ⟨⟨rfl, rfl⟩, rfl, rfl⟩ (un1_pk .str) ((vV N k).trans (by rw [ql0]; rfl))⟩
end laws_markText
namespace laws_markRelationS
def sG : Sig := ⟨[.val ty6, .val i64], [(i64, .dp)], true, false, none, none⟩
noncomputable def eS (N : Nat) : List (Entry Try.prog) := [laws_markText.eE N]
def aN : Nat → Option (List Nat)
 | 0 => some [0, 1, 5]
 | _ => none
noncomputable def lP (N : Nat) (p : List Dir) (rs : List (Env → Option ((List (ByteArray × Int × Int)) × Int))) (k : Nat) (env : Env) : Option ((List (ByteArray × Int × Int)) × Int) :=
 lpE (eS N) N aN p Try.f29 (endK Tb sG Try.f29 [.val ty6 []] (un2 ty6 i64)) rs k env
noncomputable def El0 (N : Nat) (k_ : Nat) (a2 : List (ByteArray × Int × Int)) (k2 : Int) (i : Int) : Option ((List (ByteArray × Int × Int)) × Int) :=
 lP N [.r, .l, .r, .b] [] k_ (.con .val [⟨ty6, a2, (.at_ (.pn 0))⟩] :: (.con .val [lf i64 k2 .ro] :: (un 3 (.con .val [lf i64 i .ro] :: (un 29 [])))))
theorem ql0 (N : Nat) : ∀ k_, El0 N k_ = laws_markRelationS_l0 N k_
 | 0 => by funext a2 k2 i; kernel_rfl
 | k_ + 1 => by funext a2 k2 i; rw [show El0 N (k_ + 1) a2 k2 i = laws_markRelationS_l0_b N (El0 N k_) a2 k2 i from by kernel_rfl]; simp only [ql0 N k_]; rfl
theorem vV (N : Nat) (a : List (ByteArray × Int × Int)) (k : Int) :
  evE (eS N) N aN sG Try.f29 [.val ty6 a, .val i64 k] (un2 ty6 i64) = laws_markRelationS_b N (El0 N N) a k := by kernel_rfl
noncomputable def eE (N : Nat) : Entry Try.prog := ⟨29, sG, [.v ty6, .v i64], (List (ByteArray × Int × Int)) × Int, laws_markRelationS N, pk2 ty6 i64, entry_en Try.func29 (code := Try.f29.body.getD .skip) (by kernel_rfl) (by kernel_rfl),
 fun a k => entry_okM tab_ok (es := eS N) (by kernel_rfl) mixed Try.func29 (by kernel_rfl) ⟨⟨rfl, rfl⟩, rfl, rfl⟩ (fun _ => ⟨_, _, rfl⟩) (un2_pk ty6 i64) ((vV N a k).trans (by rw [ql0]; rfl))⟩
end laws_markRelationS
namespace laws_markIntS
def sG : Sig := ⟨[.val ty0, .val i64], [(i64, .dp)], true, false, none, none⟩
noncomputable def eS (N : Nat) : List (Entry Try.prog) := []
def aN : Nat → Option (List Nat)
 | 0 => some [0, 1, 5]
 | _ => none
noncomputable def lP (N : Nat) (p : List Dir) (rs : List (Env → Option (List Int × Int))) (k : Nat) (env : Env) : Option (List Int × Int) :=
 lpE (eS N) N aN p Try.f54 (endK Tb sG Try.f54 [.val ty0 []] (un2 ty0 i64)) rs k env
noncomputable def El0 (N : Nat) (k_ : Nat) (a2 : List Int) (k2 : Int) (i : Int) : Option (List Int × Int) :=
 lP N [.r, .l, .r, .b] [] k_ (.con .val [⟨ty0, a2, (.at_ (.pn 0))⟩] :: (.con .val [lf i64 k2 .ro] :: (un 3 (.con .val [lf i64 i .ro] :: (un 13 [])))))
theorem ql0 (N : Nat) : ∀ k_, El0 N k_ = laws_markIntS_l0 N k_
 | 0 => by funext a2 k2 i; kernel_rfl
 | k_ + 1 => by funext a2 k2 i; rw [show El0 N (k_ + 1) a2 k2 i = laws_markIntS_l0_b N (El0 N k_) a2 k2 i from by kernel_rfl]; simp only [ql0 N k_]; rfl
theorem vV (N : Nat) (a : List Int) (k : Int) :
  evE (eS N) N aN sG Try.f54 [.val ty0 a, .val i64 k] (un2 ty0 i64) = laws_markIntS_b N (El0 N N) a k := by kernel_rfl
noncomputable def eE (N : Nat) : Entry Try.prog := ⟨54, sG, [.v ty0, .v i64], List Int × Int, laws_markIntS N, pk2 ty0 i64, entry_en Try.func54 (code := Try.f54.body.getD .skip) (by kernel_rfl) (by kernel_rfl),
 fun a k => entry_okM tab_ok (es := eS N) (by kernel_rfl) mixed Try.func54 (by kernel_rfl) ⟨⟨rfl, rfl⟩, rfl, rfl⟩ (fun _ => ⟨_, _, rfl⟩) (un2_pk ty0 i64) ((vV N a k).trans (by rw [ql0]; rfl))⟩
end laws_markIntS
namespace laws_markFactS
def sG : Sig := ⟨[.val ty7, .val i64], [(i64, .dp)], true, false, none, none⟩
noncomputable def eS (N : Nat) : List (Entry Try.prog) := [laws_markIntS.eE N]
def aN : Nat → Option (List Nat)
 | 0 => some [0, 1, 5]
 | _ => none
noncomputable def lP (N : Nat) (p : List Dir) (rs : List (Env → Option ((List (Int × List Int)) × Int))) (k : Nat) (env : Env) : Option ((List (Int × List Int)) × Int) :=
 lpE (eS N) N aN p Try.f30 (endK Tb sG Try.f30 [.val ty7 []] (un2 ty7 i64)) rs k env
noncomputable def El0 (N : Nat) (k_ : Nat) (a2 : List (Int × List Int)) (k2 : Int) (i : Int) : Option ((List (Int × List Int)) × Int) :=
 lP N [.r, .l, .r, .b] [] k_ (.con .val [⟨ty7, a2, (.at_ (.pn 0))⟩] :: (.con .val [lf i64 k2 .ro] :: (un 3 (.con .val [lf i64 i .ro] :: (un 21 [])))))
theorem ql0 (N : Nat) : ∀ k_, El0 N k_ = laws_markFactS_l0 N k_
 | 0 => by funext a2 k2 i; kernel_rfl
 | k_ + 1 => by funext a2 k2 i; rw [show El0 N (k_ + 1) a2 k2 i = laws_markFactS_l0_b N (El0 N k_) a2 k2 i from by kernel_rfl]; simp only [ql0 N k_]; rfl
theorem vV (N : Nat) (a : List (Int × List Int)) (k : Int) :
  evE (eS N) N aN sG Try.f30 [.val ty7 a, .val i64 k] (un2 ty7 i64) = laws_markFactS_b N (El0 N N) a k := by kernel_rfl
noncomputable def eE (N : Nat) : Entry Try.prog := ⟨30, sG, [.v ty7, .v i64], (List (Int × List Int)) × Int, laws_markFactS N, pk2 ty7 i64, entry_en Try.func30 (code := Try.f30.body.getD .skip) (by kernel_rfl) (by kernel_rfl),
 fun a k => entry_okM tab_ok (es := eS N) (by kernel_rfl) mixed Try.func30 (by kernel_rfl) ⟨⟨rfl, rfl⟩, rfl, rfl⟩ (fun _ => ⟨_, _, rfl⟩) (un2_pk ty7 i64) ((vV N a k).trans (by rw [ql0]; rfl))⟩
end laws_markFactS
namespace laws_markDatabase
def sG : Sig := ⟨[.val ty8, .val i64], [(i64, .dp)], true, false, none, none⟩
noncomputable def eS (N : Nat) : List (Entry Try.prog) := [laws_markRelationS.eE N, laws_markFactS.eE N]
def aN : Nat → Option (List Nat) := fun _ => none
theorem vV (N : Nat) (a : List (ByteArray × Int × Int) × List (Int × List Int)) (k : Int) :
  evE (eS N) N aN sG Try.f10 [.val ty8 a, .val i64 k] (un2 ty8 i64) = laws_markDatabase N a k := by kernel_rfl
noncomputable def eE (N : Nat) : Entry Try.prog := ⟨10, sG, [.v ty8, .v i64], (List (ByteArray × Int × Int) × List (Int × List Int)) × Int, laws_markDatabase N, pk2 ty8 i64, entry_en Try.func10 (code := Try.f10.body.getD .skip) (by kernel_rfl) (by kernel_rfl),
 fun a k => entry_okM tab_ok (es := eS N) (by kernel_rfl) mixed Try.func10 (by kernel_rfl) ⟨⟨rfl, rfl⟩, rfl, rfl⟩ (fun _ => ⟨_, _, rfl⟩) (un2_pk ty8 i64) (vV N a k)⟩
end laws_markDatabase
namespace laws_markGroupRangeS
def sG : Sig := ⟨[.val ty10, .val i64], [(i64, .dp)], true, false, none, none⟩
noncomputable def eS (N : Nat) : List (Entry Try.prog) := []
def aN : Nat → Option (List Nat)
 | 0 => some [0, 1, 5]
 | _ => none
noncomputable def lP (N : Nat) (p : List Dir) (rs : List (Env → Option ((List (Int × Int × Int × Bool)) × Int))) (k : Nat) (env : Env) : Option ((List (Int × Int × Int × Bool)) × Int) :=
 lpE (eS N) N aN p Try.f11 (endK Tb sG Try.f11 [.val ty10 []] (un2 ty10 i64)) rs k env
noncomputable def El0 (N : Nat) (k_ : Nat) (a2 : List (Int × Int × Int × Bool)) (k2 : Int) (i : Int) : Option ((List (Int × Int × Int × Bool)) × Int) :=
 lP N [.r, .l, .r, .b] [] k_ (.con .val [⟨ty10, a2, (.at_ (.pn 0))⟩] :: (.con .val [lf i64 k2 .ro] :: (un 3 (.con .val [lf i64 i .ro] :: (un 37 [])))))
theorem ql0 (N : Nat) : ∀ k_, El0 N k_ = laws_markGroupRangeS_l0 N k_
 | 0 => by funext a2 k2 i; kernel_rfl
 | k_ + 1 => by funext a2 k2 i; rw [show El0 N (k_ + 1) a2 k2 i = laws_markGroupRangeS_l0_b N (El0 N k_) a2 k2 i from by kernel_rfl]; simp only [ql0 N k_]; rfl
theorem vV (N : Nat) (a : List (Int × Int × Int × Bool)) (k : Int) :
  evE (eS N) N aN sG Try.f11 [.val ty10 a, .val i64 k] (un2 ty10 i64) = laws_markGroupRangeS_b N (El0 N N) a k := by kernel_rfl
noncomputable def eE (N : Nat) : Entry Try.prog := ⟨11, sG, [.v ty10, .v i64], (List (Int × Int × Int × Bool)) × Int, laws_markGroupRangeS N, pk2 ty10 i64, entry_en Try.func11 (code := Try.f11.body.getD .skip) (by kernel_rfl) (by kernel_rfl),
 fun a k => entry_okM tab_ok (es := eS N) (by kernel_rfl) mixed Try.func11 (by kernel_rfl) ⟨⟨rfl, rfl⟩, rfl, rfl⟩ (fun _ => ⟨_, _, rfl⟩) (un2_pk ty10 i64) ((vV N a k).trans (by rw [ql0]; rfl))⟩
end laws_markGroupRangeS
namespace laws_heldGroupRangeS
def sG : Sig := ⟨[.val ty10, .val i64], [(i64, .dp)], false, false, none, none⟩
noncomputable def eS (N : Nat) : List (Entry Try.prog) := []
def aN : Nat → Option (List Nat)
 | 0 => some [0, 1, 5]
 | _ => none
noncomputable def lP (N : Nat) (p : List Dir) (rs : List (Env → Option (Int))) (k : Nat) (env : Env) : Option (Int) :=
 lpE (eS N) N aN p Try.f12 (endK Tb sG Try.f12 [] (un1 i64)) rs k env
noncomputable def El0 (N : Nat) (k_ : Nat) (a2 : List (Int × Int × Int × Bool)) (k2 : Int) (i : Int) : Option (Int) :=
 lP N [.r, .l, .r, .b] [] k_ (.con .val [lf ty10 a2 .ro] :: (.con .val [lf i64 k2 .ro] :: (un 3 (.con .val [lf i64 i .ro] :: (un 45 [])))))
theorem ql0 (N : Nat) : ∀ k_, El0 N k_ = laws_heldGroupRangeS_l0 N k_
 | 0 => by funext a2 k2 i; kernel_rfl
 | k_ + 1 => by funext a2 k2 i; rw [show El0 N (k_ + 1) a2 k2 i = laws_heldGroupRangeS_l0_b N (El0 N k_) a2 k2 i from by kernel_rfl]; simp only [ql0 N k_]; rfl
theorem vV (N : Nat) (a : List (Int × Int × Int × Bool)) (k : Int) :
  evE (eS N) N aN sG Try.f12 [.val ty10 a, .val i64 k] (un1 i64) = laws_heldGroupRangeS_b N (El0 N N) a k := by kernel_rfl
noncomputable def eE (N : Nat) : Entry Try.prog := ⟨12, sG, [.v ty10, .v i64], Int, laws_heldGroupRangeS N, pk1 i64, entry_en Try.func12 (code := Try.f12.body.getD .skip) (by kernel_rfl) (by kernel_rfl),
 fun a k => entry_ok tab_ok (es := eS N) (by kernel_rfl) mixed Try.func12 (by kernel_rfl) ⟨⟨rfl, rfl⟩, rfl, rfl⟩ (un1_pk i64) ((vV N a k).trans (by rw [ql0]; rfl))⟩
end laws_heldGroupRangeS
namespace laws_FnExactGroupRanges
def sG : Sig := ⟨[.val ty5, .val i64, .val i64, .val i64], [(.bool, .dp)], false, false, none, none⟩
noncomputable def eS (N : Nat) : List (Entry Try.prog) := [laws_szDatabase.eE N, laws_toDatabase.eE N, spec_GroupRanges.eE N, impl_GroupRanges.eE N, laws_eqGroupRangeS.eE N, laws_eqDatabase.eE N, laws_markDatabase.eE N, laws_markGroupRangeS.eE N, laws_heldGroupRangeS.eE N]
def aN : Nat → Option (List Nat) := fun _ => none
theorem vV (N : Nat) (aDb : List (ByteArray × Int × Int) × List (Int × List Int)) (aRelation : Int) (aGroupColumn : Int) (aColumn : Int) :
  evE (eS N) N aN sG Try.f3 [.val ty5 aDb, .val i64 aRelation, .val i64 aGroupColumn, .val i64 aColumn] (un1 .bool) = laws_FnExactGroupRanges N aDb aRelation aGroupColumn aColumn := by kernel_rfl
noncomputable def eE (N : Nat) : Entry Try.prog := ⟨3, sG, [.v ty5, .v i64, .v i64, .v i64], Bool, laws_FnExactGroupRanges N, pk1 .bool, entry_en Try.func3 (code := Try.f3.body.getD .skip) (by kernel_rfl) (by kernel_rfl),
 fun aDb aRelation aGroupColumn aColumn => entry_ok tab_ok (es := eS N) (by kernel_rfl) mixed Try.func3 (by kernel_rfl) ⟨⟨rfl, rfl⟩, rfl, rfl⟩ (un1_pk .bool) (vV N aDb aRelation aGroupColumn aColumn)⟩
end laws_FnExactGroupRanges
end Go.PL
