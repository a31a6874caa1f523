/- What the machine does at each function is what the plain reading says. Conditions: none. -/
import Derived.Test.YtonpdomdcgfpfaaFpF
import Derived.Test.YtonpdomdcgfpfaaPlain
import Derived.Test.YtonpdomdcgfpfaaProg

/- What the machine does is what the plain reading says. Conditions: none. -/
namespace Go.PL
open Go.FP Go.Proofs Go.Shelf
set_option linter.unusedVariables false
set_option maxRecDepth 10000

abbrev i64 : Ty := .int .i64
abbrev ty0 : Ty := (.slice 3 i64)
abbrev ty1 : Ty := (.pair .str (.pair i64 i64))
abbrev ty2 : Ty := (.slice 147 (.pair .str (.pair i64 i64)))
abbrev ty3 : Ty := (.pair i64 (.slice 3 i64))
abbrev ty4 : Ty := (.slice 149 (.pair i64 (.slice 3 i64)))
abbrev ty5 : Ty := (.pair (.slice 147 (.pair .str (.pair i64 i64))) (.slice 149 (.pair i64 (.slice 3 i64))))
abbrev ty6 : Ty := (.slice 120 (.pair i64 (.pair i64 (.pair i64 (.pair i64 (.pair i64 (.pair i64 i64)))))))
abbrev ty7 : Ty := (.slice 124 (.pair .str (.pair i64 i64)))
abbrev ty8 : Ty := (.slice 90 (.pair i64 (.slice 3 i64)))
abbrev ty9 : Ty := (.pair (.slice 124 (.pair .str (.pair i64 i64))) (.slice 90 (.pair i64 (.slice 3 i64))))
abbrev ty10 : Ty := (.pair i64 (.pair i64 (.pair i64 (.pair i64 (.pair i64 (.pair i64 i64))))))
abbrev ty11 : Ty := (.slice 118 (.pair i64 (.pair i64 (.pair i64 (.pair i64 (.pair i64 (.pair i64 i64)))))))
abbrev ty12 : Ty := (.slice 116 (.pair i64 i64))
abbrev ty13 : Ty := (.slice 38 (.slice 3 i64))
abbrev ty14 : Ty := (.pair i64 i64)
abbrev ty15 : Ty := (.slice 5 (.int .u8))
def Tb : Tab := [⟨3, i64, 8, [], false⟩,
 ⟨4, .bool, 1, [], false⟩,
 ⟨5, (.int .u8), 1, [], false⟩,
 ⟨9, .str, 16, [], false⟩,
 ⟨22, ty15, 24, [], false⟩,
 ⟨24, ty7, 24, [], false⟩,
 ⟨25, ty8, 24, [], false⟩,
 ⟨27, ty9, 48, [(0, 24), (1, 25)], false⟩,
 ⟨33, ty13, 24, [], false⟩,
 ⟨38, ty0, 24, [], false⟩,
 ⟨44, ty2, 24, [], false⟩,
 ⟨45, ty4, 24, [], false⟩,
 ⟨47, ty5, 48, [(0, 44), (1, 45)], false⟩,
 ⟨65, ty6, 24, [], false⟩,
 ⟨67, ty12, 24, [], false⟩,
 ⟨69, ty11, 24, [], false⟩,
 ⟨90, ty3, 32, [(0, 3), (1, 38)], false⟩,
 ⟨116, ty14, 16, [(0, 3), (1, 3)], false⟩,
 ⟨118, ty10, 56, [(0, 3), (1, 3), (2, 3), (3, 3), (4, 3), (5, 3), (6, 3)], false⟩,
 ⟨120, ty10, 56, [(0, 3), (1, 3), (2, 3), (3, 3), (4, 3), (5, 3), (6, 3)], false⟩,
 ⟨124, ty1, 32, [(0, 9), (1, 3), (2, 3)], false⟩,
 ⟨147, ty1, 32, [(0, 9), (1, 3), (2, 3)], false⟩,
 ⟨149, ty3, 32, [(0, 3), (1, 38)], false⟩,
 ⟨168, .bool, 8, [], true⟩]
theorem tab_ok : TabOk Try.prog Tb :=
 (tab_cons (TEOk.plain (i := Try.t3) (by kernel_rfl) rfl rfl (by kernel_rfl) rfl rfl Try.underlying3)
 (tab_cons (TEOk.plain (i := Try.t4) (by kernel_rfl) rfl rfl (by kernel_rfl) rfl rfl Try.underlying4)
 (tab_cons (TEOk.plain (i := Try.t5) (by kernel_rfl) rfl rfl (by kernel_rfl) rfl rfl Try.underlying5)
 (tab_cons (TEOk.plain (i := Try.t9) (by kernel_rfl) rfl rfl (by kernel_rfl) rfl rfl Try.underlying9)
 (tab_cons (TEOk.plain (i := Try.t22) (by kernel_rfl) rfl rfl (by kernel_rfl) rfl rfl Try.underlying22)
 (tab_cons (TEOk.plain (i := Try.t24) (by kernel_rfl) rfl rfl (by kernel_rfl) rfl rfl Try.underlying24)
 (tab_cons (TEOk.plain (i := Try.t25) (by kernel_rfl) rfl rfl (by kernel_rfl) rfl rfl Try.underlying25)
 (tab_cons (TEOk.struct (i := Try.t27) (pl := [(0, 1), (1, 1)]) (by kernel_rfl) rfl rfl (by kernel_rfl) Try.underlying27 (by kernel_rfl) (by kernel_rfl) rfl rfl)
 (tab_cons (TEOk.plain (i := Try.t33) (by kernel_rfl) rfl rfl (by kernel_rfl) rfl rfl Try.underlying33)
 (tab_cons (TEOk.plain (i := Try.t38) (by kernel_rfl) rfl rfl (by kernel_rfl) rfl rfl Try.underlying38)
 (tab_cons (TEOk.plain (i := Try.t44) (by kernel_rfl) rfl rfl (by kernel_rfl) rfl rfl Try.underlying44)
 (tab_cons (TEOk.plain (i := Try.t45) (by kernel_rfl) rfl rfl (by kernel_rfl) rfl rfl Try.underlying45)
 (tab_cons (TEOk.struct (i := Try.t47) (pl := [(0, 1), (1, 1)]) (by kernel_rfl) rfl rfl (by kernel_rfl) Try.underlying47 (by kernel_rfl) (by kernel_rfl) rfl rfl)
 (tab_cons (TEOk.plain (i := Try.t65) (by kernel_rfl) rfl rfl (by kernel_rfl) rfl rfl Try.underlying65)
 (tab_cons (TEOk.plain (i := Try.t67) (by kernel_rfl) rfl rfl (by kernel_rfl) rfl rfl Try.underlying67)
 (tab_cons (TEOk.plain (i := Try.t69) (by kernel_rfl) rfl rfl (by kernel_rfl) rfl rfl Try.underlying69)
 (tab_cons (TEOk.struct (i := Try.t90) (pl := [(0, 1), (1, 1)]) (by kernel_rfl) rfl rfl (by kernel_rfl) Try.underlying90 (by kernel_rfl) (by kernel_rfl) rfl rfl)
 (tab_cons (TEOk.struct (i := Try.t116) (pl := [(0, 1), (1, 1)]) (by kernel_rfl) rfl rfl (by kernel_rfl) Try.underlying116 (by kernel_rfl) (by kernel_rfl) rfl rfl)
 (tab_cons (TEOk.struct (i := Try.t118) (pl := [(0, 1), (1, 1), (2, 1), (3, 1), (4, 1), (5, 1), (6, 1)]) (by kernel_rfl) rfl rfl (by kernel_rfl) Try.underlying118 (by kernel_rfl) (by kernel_rfl) rfl rfl)
 (tab_cons (TEOk.struct (i := Try.t120) (pl := [(0, 1), (1, 1), (2, 1), (3, 1), (4, 1), (5, 1), (6, 1)]) (by kernel_rfl) rfl rfl (by kernel_rfl) Try.underlying120 (by kernel_rfl) (by kernel_rfl) rfl rfl)
 (tab_cons (TEOk.struct (i := Try.t124) (pl := [(0, 1), (1, 1), (2, 1)]) (by kernel_rfl) rfl rfl (by kernel_rfl) Try.underlying124 (by kernel_rfl) (by kernel_rfl) rfl rfl)
 (tab_cons (TEOk.struct (i := Try.t147) (pl := [(0, 1), (1, 1), (2, 1)]) (by kernel_rfl) rfl rfl (by kernel_rfl) Try.underlying147 (by kernel_rfl) (by kernel_rfl) rfl rfl)
 (tab_cons (TEOk.struct (i := Try.t149) (pl := [(0, 1), (1, 1)]) (by kernel_rfl) rfl rfl (by kernel_rfl) Try.underlying149 (by kernel_rfl) (by kernel_rfl) rfl rfl)
 (tab_cons (TEOk.ofFn (i := Try.t168) (z := (Try.t168.zero).getD default) (by kernel_rfl) rfl (by kernel_rfl) (by kernel_rfl) Try.underlying168 rfl)
 tab_nil))))))))))))))))))))))))
theorem mixed : Try.prog.follows .mixedOrders = true := by decide
def cps : FuncId → List Ty := capsL [(171, [ty11, ty9]), (182, [i64, ty12, .bool, .bool]), (216, [ty0]), (217, [])]

theorem slices_Clone_Lint_int_b : Bears Try.prog 92 (SlBodyN.n41 (renL 92 0 3 4 38 3)) := ⟨"slices.Clone[[]int,int]", by kernel_rfl, Try.func92.trans (congrArg some (by kernel_rfl))⟩
noncomputable def slices_Clone_Lint_int_e (N : Nat) : Entry Try.prog := ⟨92, ⟨[.val ty0], [(ty0, .dp)], false, false, none, none⟩, [.v ty0], List Int, slices_Clone_Lint_int N, pk1 ty0, entry_en Try.func92 (code := Try.f92.body.getD .skip) (by kernel_rfl) (by kernel_rfl),
 fun s q h => clone_ent tab_ok mixed slices_Clone_Lint_int_b (by kernel_rfl) Try.underlying4 (te := ⟨3, i64, 8, [], false⟩) (by kernel_rfl) rfl rfl h⟩
def laws_szRelation_sg : Sig := ⟨[.val ty1, .val i64], [(i64, .dp)], false, false, none, none⟩
noncomputable def laws_szRelation_es (N : Nat) : List (Entry Try.prog) := []
def laws_szRelation_an : Nat → Option (List Nat) := fun _ => none
theorem laws_szRelation_v (N : Nat) (a : ByteArray × Int × Int) (left_ : Int) :
  evFn Tb (sigL (laws_szRelation_es N)) cps (orcL (laws_szRelation_es N)) (drawReg Tb (sigL (laws_szRelation_es N)) cps (orcL (laws_szRelation_es N))) N laws_szRelation_an laws_szRelation_sg Try.f158 (Try.f158.body.getD .skip) [.val ty1 a, .val i64 left_] (un1 i64) = laws_szRelation N a left_ := by kernel_rfl
noncomputable def laws_szRelation_e (N : Nat) : Entry Try.prog := ⟨158, laws_szRelation_sg, [.v ty1, .v i64], Int, laws_szRelation N, pk1 i64, entry_en Try.func158 (code := Try.f158.body.getD .skip) (by kernel_rfl) (by kernel_rfl),
 fun a left_ => entry_ok tab_ok (es := laws_szRelation_es N) (by kernel_rfl) mixed Try.func158 (by kernel_rfl) ⟨⟨rfl, rfl⟩, rfl, rfl⟩ (un1_pk i64) (laws_szRelation_v N a left_)⟩
def laws_szRelationS_sg : Sig := ⟨[.val ty2, .val i64], [(i64, .dp)], false, false, none, none⟩
noncomputable def laws_szRelationS_es (N : Nat) : List (Entry Try.prog) := [laws_szRelation_e N]
def laws_szRelationS_an : Nat → Option (List Nat)
 | 0 => some [0, 1, 5]
 | _ => none
noncomputable def laws_szRelationS_lp (N : Nat) (p : List Dir) (rs : List (Env → Option (Int))) (k : Nat) (env : Env) : Option (Int) :=
 loopAt Tb (sigL (laws_szRelationS_es N)) cps (orcL (laws_szRelationS_es N)) N laws_szRelationS_an p (Try.f104.body.getD .skip) (endK Tb laws_szRelationS_sg Try.f104 [] (un1 i64)) rs k env
noncomputable def laws_szRelationS_l0_E (N : Nat) (k_ : Nat) (a2 : List (ByteArray × Int × Int)) (left_2 : Int) (i : Int) : Option (Int) :=
 laws_szRelationS_lp N [.r, .r, .r, .l, .r, .b] [] k_ (.con .val [lf ty2 a2 .ro] :: (.con .val [lf i64 left_2 .ro] :: (un 3 (.con .val [lf i64 i .ro] :: (un 21 [])))))
theorem laws_szRelationS_l0_z (N : Nat) (a2 : List (ByteArray × Int × Int)) (left_2 : Int) (i : Int) : laws_szRelationS_l0_E N 0 a2 left_2 i = none := by kernel_rfl
theorem laws_szRelationS_l0_s (N : Nat) (k_ : Nat) (a2 : List (ByteArray × Int × Int)) (left_2 : Int) (i : Int) : laws_szRelationS_l0_E N (k_ + 1) a2 left_2 i = laws_szRelationS_l0_b N (laws_szRelationS_l0_E N k_) a2 left_2 i := by kernel_rfl
theorem laws_szRelationS_l0_q (N : Nat) : ∀ k_, laws_szRelationS_l0_E N k_ = laws_szRelationS_l0 N k_
 | 0 => by funext a2 left_2 i; exact laws_szRelationS_l0_z N a2 left_2 i
 | k_ + 1 => by funext a2 left_2 i; rw [laws_szRelationS_l0_s]; simp only [laws_szRelationS_l0_q N k_]; rfl
theorem laws_szRelationS_v (N : Nat) (a : List (ByteArray × Int × Int)) (left_ : Int) :
  evFn Tb (sigL (laws_szRelationS_es N)) cps (orcL (laws_szRelationS_es N)) (drawReg Tb (sigL (laws_szRelationS_es N)) cps (orcL (laws_szRelationS_es N))) N laws_szRelationS_an laws_szRelationS_sg Try.f104 (Try.f104.body.getD .skip) [.val ty2 a, .val i64 left_] (un1 i64) = laws_szRelationS_b N (laws_szRelationS_l0_E N N) a left_ := by kernel_rfl
noncomputable def laws_szRelationS_e (N : Nat) : Entry Try.prog := ⟨104, laws_szRelationS_sg, [.v ty2, .v i64], Int, laws_szRelationS N, pk1 i64, entry_en Try.func104 (code := Try.f104.body.getD .skip) (by kernel_rfl) (by kernel_rfl),
 fun a left_ => entry_ok tab_ok (es := laws_szRelationS_es N) (by kernel_rfl) mixed Try.func104 (by kernel_rfl) ⟨⟨rfl, rfl⟩, rfl, rfl⟩ (un1_pk i64) ((laws_szRelationS_v N a left_).trans (by rw [laws_szRelationS_l0_q]; rfl))⟩
def laws_szIntS_sg : Sig := ⟨[.val ty0, .val i64], [(i64, .dp)], false, false, none, none⟩
noncomputable def laws_szIntS_es (N : Nat) : List (Entry Try.prog) := []
def laws_szIntS_an : Nat → Option (List Nat) := fun _ => none
theorem laws_szIntS_v (N : Nat) (a : List Int) (left_ : Int) :
  evFn Tb (sigL (laws_szIntS_es N)) cps (orcL (laws_szIntS_es N)) (drawReg Tb (sigL (laws_szIntS_es N)) cps (orcL (laws_szIntS_es N))) N laws_szIntS_an laws_szIntS_sg Try.f195 (Try.f195.body.getD .skip) [.val ty0 a, .val i64 left_] (un1 i64) = laws_szIntS N a left_ := by kernel_rfl
noncomputable def laws_szIntS_e (N : Nat) : Entry Try.prog := ⟨195, laws_szIntS_sg, [.v ty0, .v i64], Int, laws_szIntS N, pk1 i64, entry_en Try.func195 (code := Try.f195.body.getD .skip) (by kernel_rfl) (by kernel_rfl),
 fun a left_ => entry_ok tab_ok (es := laws_szIntS_es N) (by kernel_rfl) mixed Try.func195 (by kernel_rfl) ⟨⟨rfl, rfl⟩, rfl, rfl⟩ (un1_pk i64) (laws_szIntS_v N a left_)⟩
def laws_szFact_sg : Sig := ⟨[.val ty3, .val i64], [(i64, .dp)], false, false, none, none⟩
noncomputable def laws_szFact_es (N : Nat) : List (Entry Try.prog) := [laws_szIntS_e N]
def laws_szFact_an : Nat → Option (List Nat) := fun _ => none
theorem laws_szFact_v (N : Nat) (a : Int × List Int) (left_ : Int) :
  evFn Tb (sigL (laws_szFact_es N)) cps (orcL (laws_szFact_es N)) (drawReg Tb (sigL (laws_szFact_es N)) cps (orcL (laws_szFact_es N))) N laws_szFact_an laws_szFact_sg Try.f159 (Try.f159.body.getD .skip) [.val ty3 a, .val i64 left_] (un1 i64) = laws_szFact N a left_ := by kernel_rfl
noncomputable def laws_szFact_e (N : Nat) : Entry Try.prog := ⟨159, laws_szFact_sg, [.v ty3, .v i64], Int, laws_szFact N, pk1 i64, entry_en Try.func159 (code := Try.f159.body.getD .skip) (by kernel_rfl) (by kernel_rfl),
 fun a left_ => entry_ok tab_ok (es := laws_szFact_es N) (by kernel_rfl) mixed Try.func159 (by kernel_rfl) ⟨⟨rfl, rfl⟩, rfl, rfl⟩ (un1_pk i64) (laws_szFact_v N a left_)⟩
def laws_szFactS_sg : Sig := ⟨[.val ty4, .val i64], [(i64, .dp)], false, false, none, none⟩
noncomputable def laws_szFactS_es (N : Nat) : List (Entry Try.prog) := [laws_szFact_e N]
def laws_szFactS_an : Nat → Option (List Nat)
 | 0 => some [0, 1, 5]
 | _ => none
noncomputable def laws_szFactS_lp (N : Nat) (p : List Dir) (rs : List (Env → Option (Int))) (k : Nat) (env : Env) : Option (Int) :=
 loopAt Tb (sigL (laws_szFactS_es N)) cps (orcL (laws_szFactS_es N)) N laws_szFactS_an p (Try.f105.body.getD .skip) (endK Tb laws_szFactS_sg Try.f105 [] (un1 i64)) rs k env
noncomputable def laws_szFactS_l0_E (N : Nat) (k_ : Nat) (a2 : List (Int × List Int)) (left_2 : Int) (i : Int) : Option (Int) :=
 laws_szFactS_lp N [.r, .r, .r, .l, .r, .b] [] k_ (.con .val [lf ty4 a2 .ro] :: (.con .val [lf i64 left_2 .ro] :: (un 3 (.con .val [lf i64 i .ro] :: (un 21 [])))))
theorem laws_szFactS_l0_z (N : Nat) (a2 : List (Int × List Int)) (left_2 : Int) (i : Int) : laws_szFactS_l0_E N 0 a2 left_2 i = none := by kernel_rfl
theorem laws_szFactS_l0_s (N : Nat) (k_ : Nat) (a2 : List (Int × List Int)) (left_2 : Int) (i : Int) : laws_szFactS_l0_E N (k_ + 1) a2 left_2 i = laws_szFactS_l0_b N (laws_szFactS_l0_E N k_) a2 left_2 i := by kernel_rfl
theorem laws_szFactS_l0_q (N : Nat) : ∀ k_, laws_szFactS_l0_E N k_ = laws_szFactS_l0 N k_
 | 0 => by funext a2 left_2 i; exact laws_szFactS_l0_z N a2 left_2 i
 | k_ + 1 => by funext a2 left_2 i; rw [laws_szFactS_l0_s]; simp only [laws_szFactS_l0_q N k_]; rfl
theorem laws_szFactS_v (N : Nat) (a : List (Int × List Int)) (left_ : Int) :
  evFn Tb (sigL (laws_szFactS_es N)) cps (orcL (laws_szFactS_es N)) (drawReg Tb (sigL (laws_szFactS_es N)) cps (orcL (laws_szFactS_es N))) N laws_szFactS_an laws_szFactS_sg Try.f105 (Try.f105.body.getD .skip) [.val ty4 a, .val i64 left_] (un1 i64) = laws_szFactS_b N (laws_szFactS_l0_E N N) a left_ := by kernel_rfl
noncomputable def laws_szFactS_e (N : Nat) : Entry Try.prog := ⟨105, laws_szFactS_sg, [.v ty4, .v i64], Int, laws_szFactS N, pk1 i64, entry_en Try.func105 (code := Try.f105.body.getD .skip) (by kernel_rfl) (by kernel_rfl),
 fun a left_ => entry_ok tab_ok (es := laws_szFactS_es N) (by kernel_rfl) mixed Try.func105 (by kernel_rfl) ⟨⟨rfl, rfl⟩, rfl, rfl⟩ (un1_pk i64) ((laws_szFactS_v N a left_).trans (by rw [laws_szFactS_l0_q]; rfl))⟩
def laws_szDatabase_sg : Sig := ⟨[.val ty5, .val i64], [(i64, .dp)], false, false, none, none⟩
noncomputable def laws_szDatabase_es (N : Nat) : List (Entry Try.prog) := [laws_szRelationS_e N, laws_szFactS_e N]
def laws_szDatabase_an : Nat → Option (List Nat) := fun _ => none
theorem laws_szDatabase_v (N : Nat) (a : List (ByteArray × Int × Int) × List (Int × List Int)) (left_ : Int) :
  evFn Tb (sigL (laws_szDatabase_es N)) cps (orcL (laws_szDatabase_es N)) (drawReg Tb (sigL (laws_szDatabase_es N)) cps (orcL (laws_szDatabase_es N))) N laws_szDatabase_an laws_szDatabase_sg Try.f33 (Try.f33.body.getD .skip) [.val ty5 a, .val i64 left_] (un1 i64) = laws_szDatabase N a left_ := by kernel_rfl
noncomputable def laws_szDatabase_e (N : Nat) : Entry Try.prog := ⟨33, laws_szDatabase_sg, [.v ty5, .v i64], Int, laws_szDatabase N, pk1 i64, entry_en Try.func33 (code := Try.f33.body.getD .skip) (by kernel_rfl) (by kernel_rfl),
 fun a left_ => entry_ok tab_ok (es := laws_szDatabase_es N) (by kernel_rfl) mixed Try.func33 (by kernel_rfl) ⟨⟨rfl, rfl⟩, rfl, rfl⟩ (un1_pk i64) (laws_szDatabase_v N a left_)⟩
def laws_szDenialConstraintS_sg : Sig := ⟨[.val ty6, .val i64], [(i64, .dp)], false, false, none, none⟩
noncomputable def laws_szDenialConstraintS_es (N : Nat) : List (Entry Try.prog) := []
def laws_szDenialConstraintS_an : Nat → Option (List Nat) := fun _ => none
theorem laws_szDenialConstraintS_v (N : Nat) (a : List (Int × Int × Int × Int × Int × Int × Int)) (left_ : Int) :
  evFn Tb (sigL (laws_szDenialConstraintS_es N)) cps (orcL (laws_szDenialConstraintS_es N)) (drawReg Tb (sigL (laws_szDenialConstraintS_es N)) cps (orcL (laws_szDenialConstraintS_es N))) N laws_szDenialConstraintS_an laws_szDenialConstraintS_sg Try.f53 (Try.f53.body.getD .skip) [.val ty6 a, .val i64 left_] (un1 i64) = laws_szDenialConstraintS N a left_ := by kernel_rfl
noncomputable def laws_szDenialConstraintS_e (N : Nat) : Entry Try.prog := ⟨53, laws_szDenialConstraintS_sg, [.v ty6, .v i64], Int, laws_szDenialConstraintS N, pk1 i64, entry_en Try.func53 (code := Try.f53.body.getD .skip) (by kernel_rfl) (by kernel_rfl),
 fun a left_ => entry_ok tab_ok (es := laws_szDenialConstraintS_es N) (by kernel_rfl) mixed Try.func53 (by kernel_rfl) ⟨⟨rfl, rfl⟩, rfl, rfl⟩ (un1_pk i64) (laws_szDenialConstraintS_v N a left_)⟩
def laws_toRelation_sg : Sig := ⟨[.val ty1], [(ty1, .dp)], false, false, none, none⟩
noncomputable def laws_toRelation_es (N : Nat) : List (Entry Try.prog) := []
def laws_toRelation_an : Nat → Option (List Nat) := fun _ => none
theorem laws_toRelation_v (N : Nat) (a : ByteArray × Int × Int) :
  evFn Tb (sigL (laws_toRelation_es N)) cps (orcL (laws_toRelation_es N)) (drawReg Tb (sigL (laws_toRelation_es N)) cps (orcL (laws_toRelation_es N))) N laws_toRelation_an laws_toRelation_sg Try.f160 (Try.f160.body.getD .skip) [.val ty1 a] (un1 ty1) = laws_toRelation N a := by kernel_rfl
noncomputable def laws_toRelation_e (N : Nat) : Entry Try.prog := ⟨160, laws_toRelation_sg, [.v ty1], ByteArray × Int × Int, laws_toRelation N, pk1 ty1, entry_en Try.func160 (code := Try.f160.body.getD .skip) (by kernel_rfl) (by kernel_rfl),
 fun a => entry_ok tab_ok (es := laws_toRelation_es N) (by kernel_rfl) mixed Try.func160 (by kernel_rfl) ⟨⟨rfl, rfl⟩, rfl, rfl⟩ (un1_pk ty1) (laws_toRelation_v N a)⟩
def laws_toRelationS_sg : Sig := ⟨[.val ty2], [(ty7, .dp)], false, false, none, none⟩
noncomputable def laws_toRelationS_es (N : Nat) : List (Entry Try.prog) := [laws_toRelation_e N]
def laws_toRelationS_an : Nat → Option (List Nat)
 | 0 => some [0, 3, 4]
 | _ => none
noncomputable def laws_toRelationS_lp (N : Nat) (p : List Dir) (rs : List (Env → Option (List (ByteArray × Int × Int)))) (k : Nat) (env : Env) : Option (List (ByteArray × Int × Int)) :=
 loopAt Tb (sigL (laws_toRelationS_es N)) cps (orcL (laws_toRelationS_es N)) N laws_toRelationS_an p (Try.f107.body.getD .skip) (endK Tb laws_toRelationS_sg Try.f107 [] (un1 ty7)) rs k env
noncomputable def laws_toRelationS_l0_E (N : Nat) (k_ : Nat) (a2 : List (ByteArray × Int × Int)) (out : List (ByteArray × Int × Int)) (i : Int) : Option (List (ByteArray × Int × Int)) :=
 laws_toRelationS_lp N [.r, .r, .l, .r, .b] [] k_ (.con .val [lf ty2 a2 .ro] :: (un 2 (.con .val [lf ty7 out .dp] :: (.con .val [lf i64 i .ro] :: (un 18 [])))))
theorem laws_toRelationS_l0_z (N : Nat) (a2 : List (ByteArray × Int × Int)) (out : List (ByteArray × Int × Int)) (i : Int) : laws_toRelationS_l0_E N 0 a2 out i = none := by kernel_rfl
theorem laws_toRelationS_l0_s (N : Nat) (k_ : Nat) (a2 : List (ByteArray × Int × Int)) (out : List (ByteArray × Int × Int)) (i : Int) : laws_toRelationS_l0_E N (k_ + 1) a2 out i = laws_toRelationS_l0_b N (laws_toRelationS_l0_E N k_) a2 out i := by kernel_rfl
theorem laws_toRelationS_l0_q (N : Nat) : ∀ k_, laws_toRelationS_l0_E N k_ = laws_toRelationS_l0 N k_
 | 0 => by funext a2 out i; exact laws_toRelationS_l0_z N a2 out i
 | k_ + 1 => by funext a2 out i; rw [laws_toRelationS_l0_s]; simp only [laws_toRelationS_l0_q N k_]; rfl
theorem laws_toRelationS_v (N : Nat) (a : List (ByteArray × Int × Int)) :
  evFn Tb (sigL (laws_toRelationS_es N)) cps (orcL (laws_toRelationS_es N)) (drawReg Tb (sigL (laws_toRelationS_es N)) cps (orcL (laws_toRelationS_es N))) N laws_toRelationS_an laws_toRelationS_sg Try.f107 (Try.f107.body.getD .skip) [.val ty2 a] (un1 ty7) = laws_toRelationS_b N (laws_toRelationS_l0_E N N) a := by kernel_rfl
noncomputable def laws_toRelationS_e (N : Nat) : Entry Try.prog := ⟨107, laws_toRelationS_sg, [.v ty2], List (ByteArray × Int × Int), laws_toRelationS N, pk1 ty7, entry_en Try.func107 (code := Try.f107.body.getD .skip) (by kernel_rfl) (by kernel_rfl),
 fun a => entry_ok tab_ok (es := laws_toRelationS_es N) (by kernel_rfl) mixed Try.func107 (by kernel_rfl) ⟨⟨rfl, rfl⟩, rfl, rfl⟩ (un1_pk ty7) ((laws_toRelationS_v N a).trans (by rw [laws_toRelationS_l0_q]; rfl))⟩
def laws_toIntS_sg : Sig := ⟨[.val ty0], [(ty0, .dp)], false, false, none, none⟩
noncomputable def laws_toIntS_es (N : Nat) : List (Entry Try.prog) := []
def laws_toIntS_an : Nat → Option (List Nat)
 | 0 => some [0, 3, 4]
 | _ => none
noncomputable def laws_toIntS_lp (N : Nat) (p : List Dir) (rs : List (Env → Option (List Int))) (k : Nat) (env : Env) : Option (List Int) :=
 loopAt Tb (sigL (laws_toIntS_es N)) cps (orcL (laws_toIntS_es N)) N laws_toIntS_an p (Try.f36.body.getD .skip) (endK Tb laws_toIntS_sg Try.f36 [] (un1 ty0)) rs k env
noncomputable def laws_toIntS_l0_E (N : Nat) (k_ : Nat) (a2 : List Int) (out : List Int) (i : Int) : Option (List Int) :=
 laws_toIntS_lp N [.r, .r, .l, .r, .b] [] k_ (.con .val [lf ty0 a2 .ro] :: (un 2 (.con .val [lf ty0 out .dp] :: (.con .val [lf i64 i .ro] :: (un 17 [])))))
theorem laws_toIntS_l0_z (N : Nat) (a2 : List Int) (out : List Int) (i : Int) : laws_toIntS_l0_E N 0 a2 out i = none := by kernel_rfl
theorem laws_toIntS_l0_s (N : Nat) (k_ : Nat) (a2 : List Int) (out : List Int) (i : Int) : laws_toIntS_l0_E N (k_ + 1) a2 out i = laws_toIntS_l0_b N (laws_toIntS_l0_E N k_) a2 out i := by kernel_rfl
theorem laws_toIntS_l0_q (N : Nat) : ∀ k_, laws_toIntS_l0_E N k_ = laws_toIntS_l0 N k_
 | 0 => by funext a2 out i; exact laws_toIntS_l0_z N a2 out i
 | k_ + 1 => by funext a2 out i; rw [laws_toIntS_l0_s]; simp only [laws_toIntS_l0_q N k_]; rfl
theorem laws_toIntS_v (N : Nat) (a : List Int) :
  evFn Tb (sigL (laws_toIntS_es N)) cps (orcL (laws_toIntS_es N)) (drawReg Tb (sigL (laws_toIntS_es N)) cps (orcL (laws_toIntS_es N))) N laws_toIntS_an laws_toIntS_sg Try.f36 (Try.f36.body.getD .skip) [.val ty0 a] (un1 ty0) = laws_toIntS_b N (laws_toIntS_l0_E N N) a := by kernel_rfl
noncomputable def laws_toIntS_e (N : Nat) : Entry Try.prog := ⟨36, laws_toIntS_sg, [.v ty0], List Int, laws_toIntS N, pk1 ty0, entry_en Try.func36 (code := Try.f36.body.getD .skip) (by kernel_rfl) (by kernel_rfl),
 fun a => entry_ok tab_ok (es := laws_toIntS_es N) (by kernel_rfl) mixed Try.func36 (by kernel_rfl) ⟨⟨rfl, rfl⟩, rfl, rfl⟩ (un1_pk ty0) ((laws_toIntS_v N a).trans (by rw [laws_toIntS_l0_q]; rfl))⟩
def laws_toFact_sg : Sig := ⟨[.val ty3], [(ty3, .dp)], false, false, none, none⟩
noncomputable def laws_toFact_es (N : Nat) : List (Entry Try.prog) := [laws_toIntS_e N]
def laws_toFact_an : Nat → Option (List Nat) := fun _ => none
theorem laws_toFact_v (N : Nat) (a : Int × List Int) :
  evFn Tb (sigL (laws_toFact_es N)) cps (orcL (laws_toFact_es N)) (drawReg Tb (sigL (laws_toFact_es N)) cps (orcL (laws_toFact_es N))) N laws_toFact_an laws_toFact_sg Try.f161 (Try.f161.body.getD .skip) [.val ty3 a] (un1 ty3) = laws_toFact N a := by kernel_rfl
noncomputable def laws_toFact_e (N : Nat) : Entry Try.prog := ⟨161, laws_toFact_sg, [.v ty3], Int × List Int, laws_toFact N, pk1 ty3, entry_en Try.func161 (code := Try.f161.body.getD .skip) (by kernel_rfl) (by kernel_rfl),
 fun a => entry_ok tab_ok (es := laws_toFact_es N) (by kernel_rfl) mixed Try.func161 (by kernel_rfl) ⟨⟨rfl, rfl⟩, rfl, rfl⟩ (un1_pk ty3) (laws_toFact_v N a)⟩
def laws_toFactS_sg : Sig := ⟨[.val ty4], [(ty8, .dp)], false, false, none, none⟩
noncomputable def laws_toFactS_es (N : Nat) : List (Entry Try.prog) := [laws_toFact_e N]
def laws_toFactS_an : Nat → Option (List Nat)
 | 0 => some [0, 3, 4]
 | _ => none
noncomputable def laws_toFactS_lp (N : Nat) (p : List Dir) (rs : List (Env → Option (List (Int × List Int)))) (k : Nat) (env : Env) : Option (List (Int × List Int)) :=
 loopAt Tb (sigL (laws_toFactS_es N)) cps (orcL (laws_toFactS_es N)) N laws_toFactS_an p (Try.f108.body.getD .skip) (endK Tb laws_toFactS_sg Try.f108 [] (un1 ty8)) rs k env
noncomputable def laws_toFactS_l0_E (N : Nat) (k_ : Nat) (a2 : List (Int × List Int)) (out : List (Int × List Int)) (i : Int) : Option (List (Int × List Int)) :=
 laws_toFactS_lp N [.r, .r, .l, .r, .b] [] k_ (.con .val [lf ty4 a2 .ro] :: (un 2 (.con .val [lf ty8 out .dp] :: (.con .val [lf i64 i .ro] :: (un 18 [])))))
theorem laws_toFactS_l0_z (N : Nat) (a2 : List (Int × List Int)) (out : List (Int × List Int)) (i : Int) : laws_toFactS_l0_E N 0 a2 out i = none := by kernel_rfl
theorem laws_toFactS_l0_s (N : Nat) (k_ : Nat) (a2 : List (Int × List Int)) (out : List (Int × List Int)) (i : Int) : laws_toFactS_l0_E N (k_ + 1) a2 out i = laws_toFactS_l0_b N (laws_toFactS_l0_E N k_) a2 out i := by kernel_rfl
theorem laws_toFactS_l0_q (N : Nat) : ∀ k_, laws_toFactS_l0_E N k_ = laws_toFactS_l0 N k_
 | 0 => by funext a2 out i; exact laws_toFactS_l0_z N a2 out i
 | k_ + 1 => by funext a2 out i; rw [laws_toFactS_l0_s]; simp only [laws_toFactS_l0_q N k_]; rfl
theorem laws_toFactS_v (N : Nat) (a : List (Int × List Int)) :
  evFn Tb (sigL (laws_toFactS_es N)) cps (orcL (laws_toFactS_es N)) (drawReg Tb (sigL (laws_toFactS_es N)) cps (orcL (laws_toFactS_es N))) N laws_toFactS_an laws_toFactS_sg Try.f108 (Try.f108.body.getD .skip) [.val ty4 a] (un1 ty8) = laws_toFactS_b N (laws_toFactS_l0_E N N) a := by kernel_rfl
noncomputable def laws_toFactS_e (N : Nat) : Entry Try.prog := ⟨108, laws_toFactS_sg, [.v ty4], List (Int × List Int), laws_toFactS N, pk1 ty8, entry_en Try.func108 (code := Try.f108.body.getD .skip) (by kernel_rfl) (by kernel_rfl),
 fun a => entry_ok tab_ok (es := laws_toFactS_es N) (by kernel_rfl) mixed Try.func108 (by kernel_rfl) ⟨⟨rfl, rfl⟩, rfl, rfl⟩ (un1_pk ty8) ((laws_toFactS_v N a).trans (by rw [laws_toFactS_l0_q]; rfl))⟩
def laws_toDatabase_sg : Sig := ⟨[.val ty5], [(ty9, .dp)], false, false, none, none⟩
noncomputable def laws_toDatabase_es (N : Nat) : List (Entry Try.prog) := [laws_toRelationS_e N, laws_toFactS_e N]
def laws_toDatabase_an : Nat → Option (List Nat) := fun _ => none
theorem laws_toDatabase_v (N : Nat) (a : List (ByteArray × Int × Int) × List (Int × List Int)) :
  evFn Tb (sigL (laws_toDatabase_es N)) cps (orcL (laws_toDatabase_es N)) (drawReg Tb (sigL (laws_toDatabase_es N)) cps (orcL (laws_toDatabase_es N))) N laws_toDatabase_an laws_toDatabase_sg Try.f35 (Try.f35.body.getD .skip) [.val ty5 a] (un1 ty9) = laws_toDatabase N a := by kernel_rfl
noncomputable def laws_toDatabase_e (N : Nat) : Entry Try.prog := ⟨35, laws_toDatabase_sg, [.v ty5], List (ByteArray × Int × Int) × List (Int × List Int), laws_toDatabase N, pk1 ty9, entry_en Try.func35 (code := Try.f35.body.getD .skip) (by kernel_rfl) (by kernel_rfl),
 fun a => entry_ok tab_ok (es := laws_toDatabase_es N) (by kernel_rfl) mixed Try.func35 (by kernel_rfl) ⟨⟨rfl, rfl⟩, rfl, rfl⟩ (un1_pk ty9) (laws_toDatabase_v N a)⟩
def laws_toDenialConstraint_sg : Sig := ⟨[.val ty10], [(ty10, .dp)], false, false, none, none⟩
noncomputable def laws_toDenialConstraint_es (N : Nat) : List (Entry Try.prog) := []
def laws_toDenialConstraint_an : Nat → Option (List Nat) := fun _ => none
theorem laws_toDenialConstraint_v (N : Nat) (a : Int × Int × Int × Int × Int × Int × Int) :
  evFn Tb (sigL (laws_toDenialConstraint_es N)) cps (orcL (laws_toDenialConstraint_es N)) (drawReg Tb (sigL (laws_toDenialConstraint_es N)) cps (orcL (laws_toDenialConstraint_es N))) N laws_toDenialConstraint_an laws_toDenialConstraint_sg Try.f126 (Try.f126.body.getD .skip) [.val ty10 a] (un1 ty10) = laws_toDenialConstraint N a := by kernel_rfl
noncomputable def laws_toDenialConstraint_e (N : Nat) : Entry Try.prog := ⟨126, laws_toDenialConstraint_sg, [.v ty10], Int × Int × Int × Int × Int × Int × Int, laws_toDenialConstraint N, pk1 ty10, entry_en Try.func126 (code := Try.f126.body.getD .skip) (by kernel_rfl) (by kernel_rfl),
 fun a => entry_ok tab_ok (es := laws_toDenialConstraint_es N) (by kernel_rfl) mixed Try.func126 (by kernel_rfl) ⟨⟨rfl, rfl⟩, rfl, rfl⟩ (un1_pk ty10) (laws_toDenialConstraint_v N a)⟩
def laws_toDenialConstraintS_sg : Sig := ⟨[.val ty6], [(ty11, .dp)], false, false, none, none⟩
noncomputable def laws_toDenialConstraintS_es (N : Nat) : List (Entry Try.prog) := [laws_toDenialConstraint_e N]
def laws_toDenialConstraintS_an : Nat → Option (List Nat)
 | 0 => some [0, 3, 4]
 | _ => none
noncomputable def laws_toDenialConstraintS_lp (N : Nat) (p : List Dir) (rs : List (Env → Option (List (Int × Int × Int × Int × Int × Int × Int)))) (k : Nat) (env : Env) : Option (List (Int × Int × Int × Int × Int × Int × Int)) :=
 loopAt Tb (sigL (laws_toDenialConstraintS_es N)) cps (orcL (laws_toDenialConstraintS_es N)) N laws_toDenialConstraintS_an p (Try.f55.body.getD .skip) (endK Tb laws_toDenialConstraintS_sg Try.f55 [] (un1 ty11)) rs k env
noncomputable def laws_toDenialConstraintS_l0_E (N : Nat) (k_ : Nat) (a2 : List (Int × Int × Int × Int × Int × Int × Int)) (out : List (Int × Int × Int × Int × Int × Int × Int)) (i : Int) : Option (List (Int × Int × Int × Int × Int × Int × Int)) :=
 laws_toDenialConstraintS_lp N [.r, .r, .l, .r, .b] [] k_ (.con .val [lf ty6 a2 .ro] :: (un 2 (.con .val [lf ty11 out .dp] :: (.con .val [lf i64 i .ro] :: (un 18 [])))))
theorem laws_toDenialConstraintS_l0_z (N : Nat) (a2 : List (Int × Int × Int × Int × Int × Int × Int)) (out : List (Int × Int × Int × Int × Int × Int × Int)) (i : Int) : laws_toDenialConstraintS_l0_E N 0 a2 out i = none := by kernel_rfl
theorem laws_toDenialConstraintS_l0_s (N : Nat) (k_ : Nat) (a2 : List (Int × Int × Int × Int × Int × Int × Int)) (out : List (Int × Int × Int × Int × Int × Int × Int)) (i : Int) : laws_toDenialConstraintS_l0_E N (k_ + 1) a2 out i = laws_toDenialConstraintS_l0_b N (laws_toDenialConstraintS_l0_E N k_) a2 out i := by kernel_rfl
theorem laws_toDenialConstraintS_l0_q (N : Nat) : ∀ k_, laws_toDenialConstraintS_l0_E N k_ = laws_toDenialConstraintS_l0 N k_
 | 0 => by funext a2 out i; exact laws_toDenialConstraintS_l0_z N a2 out i
 | k_ + 1 => by funext a2 out i; rw [laws_toDenialConstraintS_l0_s]; simp only [laws_toDenialConstraintS_l0_q N k_]; rfl
theorem laws_toDenialConstraintS_v (N : Nat) (a : List (Int × Int × Int × Int × Int × Int × Int)) :
  evFn Tb (sigL (laws_toDenialConstraintS_es N)) cps (orcL (laws_toDenialConstraintS_es N)) (drawReg Tb (sigL (laws_toDenialConstraintS_es N)) cps (orcL (laws_toDenialConstraintS_es N))) N laws_toDenialConstraintS_an laws_toDenialConstraintS_sg Try.f55 (Try.f55.body.getD .skip) [.val ty6 a] (un1 ty11) = laws_toDenialConstraintS_b N (laws_toDenialConstraintS_l0_E N N) a := by kernel_rfl
noncomputable def laws_toDenialConstraintS_e (N : Nat) : Entry Try.prog := ⟨55, laws_toDenialConstraintS_sg, [.v ty6], List (Int × Int × Int × Int × Int × Int × Int), laws_toDenialConstraintS N, pk1 ty11, entry_en Try.func55 (code := Try.f55.body.getD .skip) (by kernel_rfl) (by kernel_rfl),
 fun a => entry_ok tab_ok (es := laws_toDenialConstraintS_es N) (by kernel_rfl) mixed Try.func55 (by kernel_rfl) ⟨⟨rfl, rfl⟩, rfl, rfl⟩ (un1_pk ty11) ((laws_toDenialConstraintS_v N a).trans (by rw [laws_toDenialConstraintS_l0_q]; rfl))⟩
def spec_l1In_sg : Sig := ⟨[.val i64, .val i64, .val i64], [(.bool, .dp)], false, false, none, none⟩
noncomputable def spec_l1In_es (N : Nat) : List (Entry Try.prog) := []
def spec_l1In_an : Nat → Option (List Nat) := fun _ => none
theorem spec_l1In_v (N : Nat) (x : Int) (low : Int) (high : Int) :
  evFn Tb (sigL (spec_l1In_es N)) cps (orcL (spec_l1In_es N)) (drawReg Tb (sigL (spec_l1In_es N)) cps (orcL (spec_l1In_es N))) N spec_l1In_an spec_l1In_sg Try.f98 (Try.f98.body.getD .skip) [.val i64 x, .val i64 low, .val i64 high] (un1 .bool) = spec_l1In N x low high := by kernel_rfl
noncomputable def spec_l1In_e (N : Nat) : Entry Try.prog := ⟨98, spec_l1In_sg, [.v i64, .v i64, .v i64], Bool, spec_l1In N, pk1 .bool, entry_en Try.func98 (code := Try.f98.body.getD .skip) (by kernel_rfl) (by kernel_rfl),
 fun x low high => entry_ok tab_ok (es := spec_l1In_es N) (by kernel_rfl) mixed Try.func98 (by kernel_rfl) ⟨⟨rfl, rfl⟩, rfl, rfl⟩ (un1_pk .bool) (spec_l1In_v N x low high)⟩
def spec_IsValidRelation_sg : Sig := ⟨[.val ty1], [(.bool, .dp)], false, false, none, none⟩
noncomputable def spec_IsValidRelation_es (N : Nat) : List (Entry Try.prog) := [spec_l1In_e N]
def spec_IsValidRelation_an : Nat → Option (List Nat) := fun _ => none
theorem spec_IsValidRelation_v (N : Nat) (s : ByteArray × Int × Int) :
  evFn Tb (sigL (spec_IsValidRelation_es N)) cps (orcL (spec_IsValidRelation_es N)) (drawReg Tb (sigL (spec_IsValidRelation_es N)) cps (orcL (spec_IsValidRelation_es N))) N spec_IsValidRelation_an spec_IsValidRelation_sg Try.f146 (Try.f146.body.getD .skip) [.val ty1 s] (un1 .bool) = spec_IsValidRelation N s := by kernel_rfl
noncomputable def spec_IsValidRelation_e (N : Nat) : Entry Try.prog := ⟨146, spec_IsValidRelation_sg, [.v ty1], Bool, spec_IsValidRelation N, pk1 .bool, entry_en Try.func146 (code := Try.f146.body.getD .skip) (by kernel_rfl) (by kernel_rfl),
 fun s => entry_ok tab_ok (es := spec_IsValidRelation_es N) (by kernel_rfl) mixed Try.func146 (by kernel_rfl) ⟨⟨rfl, rfl⟩, rfl, rfl⟩ (un1_pk .bool) (spec_IsValidRelation_v N s)⟩
def spec_AreValidRelations_sg : Sig := ⟨[.val ty7], [(.bool, .dp)], false, false, none, none⟩
noncomputable def spec_AreValidRelations_es (N : Nat) : List (Entry Try.prog) := [spec_IsValidRelation_e N]
def spec_AreValidRelations_an : Nat → Option (List Nat)
 | 0 => some [0, 3]
 | _ => none
noncomputable def spec_AreValidRelations_lp (N : Nat) (p : List Dir) (rs : List (Env → Option (Bool))) (k : Nat) (env : Env) : Option (Bool) :=
 loopAt Tb (sigL (spec_AreValidRelations_es N)) cps (orcL (spec_AreValidRelations_es N)) N spec_AreValidRelations_an p (Try.f85.body.getD .skip) (endK Tb spec_AreValidRelations_sg Try.f85 [] (un1 .bool)) rs k env
noncomputable def spec_AreValidRelations_l0_E (N : Nat) (k_ : Nat) (l2 : List (ByteArray × Int × Int)) (i : Int) : Option (Bool) :=
 spec_AreValidRelations_lp N [.r, .l, .r, .b] [] k_ (.con .val [lf ty7 l2 .ro] :: (un 2 (.con .val [lf i64 i .ro] :: (un 33 []))))
theorem spec_AreValidRelations_l0_z (N : Nat) (l2 : List (ByteArray × Int × Int)) (i : Int) : spec_AreValidRelations_l0_E N 0 l2 i = none := by kernel_rfl
theorem spec_AreValidRelations_l0_s (N : Nat) (k_ : Nat) (l2 : List (ByteArray × Int × Int)) (i : Int) : spec_AreValidRelations_l0_E N (k_ + 1) l2 i = spec_AreValidRelations_l0_b N (spec_AreValidRelations_l0_E N k_) l2 i := by kernel_rfl
theorem spec_AreValidRelations_l0_q (N : Nat) : ∀ k_, spec_AreValidRelations_l0_E N k_ = spec_AreValidRelations_l0 N k_
 | 0 => by funext l2 i; exact spec_AreValidRelations_l0_z N l2 i
 | k_ + 1 => by funext l2 i; rw [spec_AreValidRelations_l0_s]; simp only [spec_AreValidRelations_l0_q N k_]; rfl
theorem spec_AreValidRelations_v (N : Nat) (l : List (ByteArray × Int × Int)) :
  evFn Tb (sigL (spec_AreValidRelations_es N)) cps (orcL (spec_AreValidRelations_es N)) (drawReg Tb (sigL (spec_AreValidRelations_es N)) cps (orcL (spec_AreValidRelations_es N))) N spec_AreValidRelations_an spec_AreValidRelations_sg Try.f85 (Try.f85.body.getD .skip) [.val ty7 l] (un1 .bool) = spec_AreValidRelations_b N (spec_AreValidRelations_l0_E N N) l := by kernel_rfl
noncomputable def spec_AreValidRelations_e (N : Nat) : Entry Try.prog := ⟨85, spec_AreValidRelations_sg, [.v ty7], Bool, spec_AreValidRelations N, pk1 .bool, entry_en Try.func85 (code := Try.f85.body.getD .skip) (by kernel_rfl) (by kernel_rfl),
 fun l => entry_ok tab_ok (es := spec_AreValidRelations_es N) (by kernel_rfl) mixed Try.func85 (by kernel_rfl) ⟨⟨rfl, rfl⟩, rfl, rfl⟩ (un1_pk .bool) ((spec_AreValidRelations_v N l).trans (by rw [spec_AreValidRelations_l0_q]; rfl))⟩
def spec_IsValidFact_sg : Sig := ⟨[.val ty7, .val ty3], [(.bool, .dp)], false, false, none, none⟩
noncomputable def spec_IsValidFact_es (N : Nat) : List (Entry Try.prog) := [spec_l1In_e N, spec_AreValidRelations_e N]
def spec_IsValidFact_an : Nat → Option (List Nat)
 | 0 => some [3, 5]
 | _ => none
noncomputable def spec_IsValidFact_lp (N : Nat) (p : List Dir) (rs : List (Env → Option (Bool))) (k : Nat) (env : Env) : Option (Bool) :=
 loopAt Tb (sigL (spec_IsValidFact_es N)) cps (orcL (spec_IsValidFact_es N)) N spec_IsValidFact_an p (Try.f83.body.getD .skip) (endK Tb spec_IsValidFact_sg Try.f83 [] (un1 .bool)) rs k env
noncomputable def spec_IsValidFact_l0_E (N : Nat) (k_ : Nat) (f2 : Int) (f3 : List Int) (i : Int) : Option (Bool) :=
 spec_IsValidFact_lp N [.r, .r, .l, .r, .b] [] k_ (un 3 (.con (.box ⟨90, false, []⟩) [lf i64 f2 .ro, lf ty0 f3 .ro] :: (un 1 (.con .val [lf i64 i .ro] :: (un 38 [])))))
theorem spec_IsValidFact_l0_z (N : Nat) (f2 : Int) (f3 : List Int) (i : Int) : spec_IsValidFact_l0_E N 0 f2 f3 i = none := by kernel_rfl
theorem spec_IsValidFact_l0_s (N : Nat) (k_ : Nat) (f2 : Int) (f3 : List Int) (i : Int) : spec_IsValidFact_l0_E N (k_ + 1) f2 f3 i = spec_IsValidFact_l0_b N (spec_IsValidFact_l0_E N k_) f2 f3 i := by kernel_rfl
theorem spec_IsValidFact_l0_q (N : Nat) : ∀ k_, spec_IsValidFact_l0_E N k_ = spec_IsValidFact_l0 N k_
 | 0 => by funext f2 f3 i; exact spec_IsValidFact_l0_z N f2 f3 i
 | k_ + 1 => by funext f2 f3 i; rw [spec_IsValidFact_l0_s]; simp only [spec_IsValidFact_l0_q N k_]; rfl
theorem spec_IsValidFact_v (N : Nat) (l : List (ByteArray × Int × Int)) (f : Int × List Int) :
  evFn Tb (sigL (spec_IsValidFact_es N)) cps (orcL (spec_IsValidFact_es N)) (drawReg Tb (sigL (spec_IsValidFact_es N)) cps (orcL (spec_IsValidFact_es N))) N spec_IsValidFact_an spec_IsValidFact_sg Try.f83 (Try.f83.body.getD .skip) [.val ty7 l, .val ty3 f] (un1 .bool) = spec_IsValidFact_b N (spec_IsValidFact_l0_E N N) l f := by kernel_rfl
noncomputable def spec_IsValidFact_e (N : Nat) : Entry Try.prog := ⟨83, spec_IsValidFact_sg, [.v ty7, .v ty3], Bool, spec_IsValidFact N, pk1 .bool, entry_en Try.func83 (code := Try.f83.body.getD .skip) (by kernel_rfl) (by kernel_rfl),
 fun l f => entry_ok tab_ok (es := spec_IsValidFact_es N) (by kernel_rfl) mixed Try.func83 (by kernel_rfl) ⟨⟨rfl, rfl⟩, rfl, rfl⟩ (un1_pk .bool) ((spec_IsValidFact_v N l f).trans (by rw [spec_IsValidFact_l0_q]; rfl))⟩
def spec_l3Ints_sg : Sig := ⟨[.val ty0, .val ty0], [(i64, .dp)], false, false, none, none⟩
noncomputable def spec_l3Ints_es (N : Nat) : List (Entry Try.prog) := []
def spec_l3Ints_an : Nat → Option (List Nat)
 | 0 => some [0, 1, 5]
 | _ => none
noncomputable def spec_l3Ints_lp (N : Nat) (p : List Dir) (rs : List (Env → Option (Int))) (k : Nat) (env : Env) : Option (Int) :=
 loopAt Tb (sigL (spec_l3Ints_es N)) cps (orcL (spec_l3Ints_es N)) N spec_l3Ints_an p (Try.f145.body.getD .skip) (endK Tb spec_l3Ints_sg Try.f145 [] (un1 i64)) rs k env
noncomputable def spec_l3Ints_l0_E (N : Nat) (k_ : Nat) (a2 : List Int) (b2 : List Int) (i : Int) : Option (Int) :=
 spec_l3Ints_lp N [.r, .l, .r, .b] [] k_ (.con .val [lf ty0 a2 .ro] :: (.con .val [lf ty0 b2 .ro] :: (un 3 (.con .val [lf i64 i .ro] :: (un 40 [])))))
theorem spec_l3Ints_l0_z (N : Nat) (a2 : List Int) (b2 : List Int) (i : Int) : spec_l3Ints_l0_E N 0 a2 b2 i = none := by kernel_rfl
theorem spec_l3Ints_l0_s (N : Nat) (k_ : Nat) (a2 : List Int) (b2 : List Int) (i : Int) : spec_l3Ints_l0_E N (k_ + 1) a2 b2 i = spec_l3Ints_l0_b N (spec_l3Ints_l0_E N k_) a2 b2 i := by kernel_rfl
theorem spec_l3Ints_l0_q (N : Nat) : ∀ k_, spec_l3Ints_l0_E N k_ = spec_l3Ints_l0 N k_
 | 0 => by funext a2 b2 i; exact spec_l3Ints_l0_z N a2 b2 i
 | k_ + 1 => by funext a2 b2 i; rw [spec_l3Ints_l0_s]; simp only [spec_l3Ints_l0_q N k_]; rfl
theorem spec_l3Ints_v (N : Nat) (a : List Int) (b : List Int) :
  evFn Tb (sigL (spec_l3Ints_es N)) cps (orcL (spec_l3Ints_es N)) (drawReg Tb (sigL (spec_l3Ints_es N)) cps (orcL (spec_l3Ints_es N))) N spec_l3Ints_an spec_l3Ints_sg Try.f145 (Try.f145.body.getD .skip) [.val ty0 a, .val ty0 b] (un1 i64) = spec_l3Ints_b N (spec_l3Ints_l0_E N N) a b := by kernel_rfl
noncomputable def spec_l3Ints_e (N : Nat) : Entry Try.prog := ⟨145, spec_l3Ints_sg, [.v ty0, .v ty0], Int, spec_l3Ints N, pk1 i64, entry_en Try.func145 (code := Try.f145.body.getD .skip) (by kernel_rfl) (by kernel_rfl),
 fun a b => entry_ok tab_ok (es := spec_l3Ints_es N) (by kernel_rfl) mixed Try.func145 (by kernel_rfl) ⟨⟨rfl, rfl⟩, rfl, rfl⟩ (un1_pk i64) ((spec_l3Ints_v N a b).trans (by rw [spec_l3Ints_l0_q]; rfl))⟩
def spec_CompareFacts_sg : Sig := ⟨[.val ty3, .val ty3], [(i64, .dp)], false, false, none, none⟩
noncomputable def spec_CompareFacts_es (N : Nat) : List (Entry Try.prog) := [spec_l3Ints_e N]
def spec_CompareFacts_an : Nat → Option (List Nat) := fun _ => none
theorem spec_CompareFacts_v (N : Nat) (a : Int × List Int) (b : Int × List Int) :
  evFn Tb (sigL (spec_CompareFacts_es N)) cps (orcL (spec_CompareFacts_es N)) (drawReg Tb (sigL (spec_CompareFacts_es N)) cps (orcL (spec_CompareFacts_es N))) N spec_CompareFacts_an spec_CompareFacts_sg Try.f84 (Try.f84.body.getD .skip) [.val ty3 a, .val ty3 b] (un1 i64) = spec_CompareFacts N a b := by kernel_rfl
noncomputable def spec_CompareFacts_e (N : Nat) : Entry Try.prog := ⟨84, spec_CompareFacts_sg, [.v ty3, .v ty3], Int, spec_CompareFacts N, pk1 i64, entry_en Try.func84 (code := Try.f84.body.getD .skip) (by kernel_rfl) (by kernel_rfl),
 fun a b => entry_ok tab_ok (es := spec_CompareFacts_es N) (by kernel_rfl) mixed Try.func84 (by kernel_rfl) ⟨⟨rfl, rfl⟩, rfl, rfl⟩ (un1_pk i64) (spec_CompareFacts_v N a b)⟩
def spec_IsValidDatabase_sg : Sig := ⟨[.val ty9], [(.bool, .dp)], false, false, none, none⟩
noncomputable def spec_IsValidDatabase_es (N : Nat) : List (Entry Try.prog) := [spec_IsValidFact_e N, spec_CompareFacts_e N, spec_AreValidRelations_e N]
def spec_IsValidDatabase_an : Nat → Option (List Nat)
 | 0 => some [1, 3]
 | _ => none
noncomputable def spec_IsValidDatabase_lp (N : Nat) (p : List Dir) (rs : List (Env → Option (Bool))) (k : Nat) (env : Env) : Option (Bool) :=
 loopAt Tb (sigL (spec_IsValidDatabase_es N)) cps (orcL (spec_IsValidDatabase_es N)) N spec_IsValidDatabase_an p (Try.f19.body.getD .skip) (endK Tb spec_IsValidDatabase_sg Try.f19 [] (un1 .bool)) rs k env
noncomputable def spec_IsValidDatabase_l0_E (N : Nat) (k_ : Nat) (d2 : List (ByteArray × Int × Int)) (d3 : List (Int × List Int)) (i : Int) : Option (Bool) :=
 spec_IsValidDatabase_lp N [.r, .l, .r, .b] [] k_ (un 1 (.con (.box ⟨27, false, []⟩) [lf ty7 d2 .ro, lf ty8 d3 .ro] :: (un 1 (.con .val [lf i64 i .ro] :: (un 44 [])))))
theorem spec_IsValidDatabase_l0_z (N : Nat) (d2 : List (ByteArray × Int × Int)) (d3 : List (Int × List Int)) (i : Int) : spec_IsValidDatabase_l0_E N 0 d2 d3 i = none := by kernel_rfl
theorem spec_IsValidDatabase_l0_s (N : Nat) (k_ : Nat) (d2 : List (ByteArray × Int × Int)) (d3 : List (Int × List Int)) (i : Int) : spec_IsValidDatabase_l0_E N (k_ + 1) d2 d3 i = spec_IsValidDatabase_l0_b N (spec_IsValidDatabase_l0_E N k_) d2 d3 i := by kernel_rfl
theorem spec_IsValidDatabase_l0_q (N : Nat) : ∀ k_, spec_IsValidDatabase_l0_E N k_ = spec_IsValidDatabase_l0 N k_
 | 0 => by funext d2 d3 i; exact spec_IsValidDatabase_l0_z N d2 d3 i
 | k_ + 1 => by funext d2 d3 i; rw [spec_IsValidDatabase_l0_s]; simp only [spec_IsValidDatabase_l0_q N k_]; rfl
theorem spec_IsValidDatabase_v (N : Nat) (d : List (ByteArray × Int × Int) × List (Int × List Int)) :
  evFn Tb (sigL (spec_IsValidDatabase_es N)) cps (orcL (spec_IsValidDatabase_es N)) (drawReg Tb (sigL (spec_IsValidDatabase_es N)) cps (orcL (spec_IsValidDatabase_es N))) N spec_IsValidDatabase_an spec_IsValidDatabase_sg Try.f19 (Try.f19.body.getD .skip) [.val ty9 d] (un1 .bool) = spec_IsValidDatabase_b N (spec_IsValidDatabase_l0_E N N) d := by kernel_rfl
noncomputable def spec_IsValidDatabase_e (N : Nat) : Entry Try.prog := ⟨19, spec_IsValidDatabase_sg, [.v ty9], Bool, spec_IsValidDatabase N, pk1 .bool, entry_en Try.func19 (code := Try.f19.body.getD .skip) (by kernel_rfl) (by kernel_rfl),
 fun d => entry_ok tab_ok (es := spec_IsValidDatabase_es N) (by kernel_rfl) mixed Try.func19 (by kernel_rfl) ⟨⟨rfl, rfl⟩, rfl, rfl⟩ (un1_pk .bool) ((spec_IsValidDatabase_v N d).trans (by rw [spec_IsValidDatabase_l0_q]; rfl))⟩
def spec_KeyOf_sg : Sig := ⟨[.val ty7, .val ty3], [(ty0, .dp)], false, false, none, none⟩
noncomputable def spec_KeyOf_es (N : Nat) : List (Entry Try.prog) := [spec_IsValidFact_e N]
def spec_KeyOf_an : Nat → Option (List Nat) := fun _ => none
theorem spec_KeyOf_v (N : Nat) (l : List (ByteArray × Int × Int)) (f : Int × List Int) :
  evFn Tb (sigL (spec_KeyOf_es N)) cps (orcL (spec_KeyOf_es N)) (drawReg Tb (sigL (spec_KeyOf_es N)) cps (orcL (spec_KeyOf_es N))) N spec_KeyOf_an spec_KeyOf_sg Try.f191 (Try.f191.body.getD .skip) [.val ty7 l, .val ty3 f] (un1 ty0) = spec_KeyOf N l f := by kernel_rfl
noncomputable def spec_KeyOf_e (N : Nat) : Entry Try.prog := ⟨191, spec_KeyOf_sg, [.v ty7, .v ty3], List Int, spec_KeyOf N, pk1 ty0, entry_en Try.func191 (code := Try.f191.body.getD .skip) (by kernel_rfl) (by kernel_rfl),
 fun l f => entry_ok tab_ok (es := spec_KeyOf_es N) (by kernel_rfl) mixed Try.func191 (by kernel_rfl) ⟨⟨rfl, rfl⟩, rfl, rfl⟩ (un1_pk ty0) (spec_KeyOf_v N l f)⟩
def spec_HaveSameKey_sg : Sig := ⟨[.val ty7, .val ty3, .val ty3], [(.bool, .dp)], false, false, none, none⟩
noncomputable def spec_HaveSameKey_es (N : Nat) : List (Entry Try.prog) := [spec_IsValidFact_e N, spec_KeyOf_e N, spec_l3Ints_e N]
def spec_HaveSameKey_an : Nat → Option (List Nat) := fun _ => none
theorem spec_HaveSameKey_v (N : Nat) (l : List (ByteArray × Int × Int)) (a : Int × List Int) (b : Int × List Int) :
  evFn Tb (sigL (spec_HaveSameKey_es N)) cps (orcL (spec_HaveSameKey_es N)) (drawReg Tb (sigL (spec_HaveSameKey_es N)) cps (orcL (spec_HaveSameKey_es N))) N spec_HaveSameKey_an spec_HaveSameKey_sg Try.f147 (Try.f147.body.getD .skip) [.val ty7 l, .val ty3 a, .val ty3 b] (un1 .bool) = spec_HaveSameKey N l a b := by kernel_rfl
noncomputable def spec_HaveSameKey_e (N : Nat) : Entry Try.prog := ⟨147, spec_HaveSameKey_sg, [.v ty7, .v ty3, .v ty3], Bool, spec_HaveSameKey N, pk1 .bool, entry_en Try.func147 (code := Try.f147.body.getD .skip) (by kernel_rfl) (by kernel_rfl),
 fun l a b => entry_ok tab_ok (es := spec_HaveSameKey_es N) (by kernel_rfl) mixed Try.func147 (by kernel_rfl) ⟨⟨rfl, rfl⟩, rfl, rfl⟩ (un1_pk .bool) (spec_HaveSameKey_v N l a b)⟩
def spec_IsValidConstraint_sg : Sig := ⟨[.val ty9, .val ty10], [(.bool, .dp)], false, false, none, none⟩
noncomputable def spec_IsValidConstraint_es (N : Nat) : List (Entry Try.prog) := [spec_IsValidDatabase_e N, spec_l1In_e N]
def spec_IsValidConstraint_an : Nat → Option (List Nat) := fun _ => none
theorem spec_IsValidConstraint_v (N : Nat) (d : List (ByteArray × Int × Int) × List (Int × List Int)) (x : Int × Int × Int × Int × Int × Int × Int) :
  evFn Tb (sigL (spec_IsValidConstraint_es N)) cps (orcL (spec_IsValidConstraint_es N)) (drawReg Tb (sigL (spec_IsValidConstraint_es N)) cps (orcL (spec_IsValidConstraint_es N))) N spec_IsValidConstraint_an spec_IsValidConstraint_sg Try.f197 (Try.f197.body.getD .skip) [.val ty9 d, .val ty10 x] (un1 .bool) = spec_IsValidConstraint N d x := by kernel_rfl
noncomputable def spec_IsValidConstraint_e (N : Nat) : Entry Try.prog := ⟨197, spec_IsValidConstraint_sg, [.v ty9, .v ty10], Bool, spec_IsValidConstraint N, pk1 .bool, entry_en Try.func197 (code := Try.f197.body.getD .skip) (by kernel_rfl) (by kernel_rfl),
 fun d x => entry_ok tab_ok (es := spec_IsValidConstraint_es N) (by kernel_rfl) mixed Try.func197 (by kernel_rfl) ⟨⟨rfl, rfl⟩, rfl, rfl⟩ (un1_pk .bool) (spec_IsValidConstraint_v N d x)⟩
def spec_ViolatesConstraint_sg : Sig := ⟨[.val ty9, .val ty10, .val i64, .val i64], [(.bool, .dp)], false, false, none, none⟩
noncomputable def spec_ViolatesConstraint_es (N : Nat) : List (Entry Try.prog) := [spec_IsValidConstraint_e N, spec_l1In_e N]
def spec_ViolatesConstraint_an : Nat → Option (List Nat) := fun _ => none
theorem spec_ViolatesConstraint_v (N : Nat) (d : List (ByteArray × Int × Int) × List (Int × List Int)) (x : Int × Int × Int × Int × Int × Int × Int) (i : Int) (k : Int) :
  evFn Tb (sigL (spec_ViolatesConstraint_es N)) cps (orcL (spec_ViolatesConstraint_es N)) (drawReg Tb (sigL (spec_ViolatesConstraint_es N)) cps (orcL (spec_ViolatesConstraint_es N))) N spec_ViolatesConstraint_an spec_ViolatesConstraint_sg Try.f169 (Try.f169.body.getD .skip) [.val ty9 d, .val ty10 x, .val i64 i, .val i64 k] (un1 .bool) = spec_ViolatesConstraint N d x i k := by kernel_rfl
noncomputable def spec_ViolatesConstraint_e (N : Nat) : Entry Try.prog := ⟨169, spec_ViolatesConstraint_sg, [.v ty9, .v ty10, .v i64, .v i64], Bool, spec_ViolatesConstraint N, pk1 .bool, entry_en Try.func169 (code := Try.f169.body.getD .skip) (by kernel_rfl) (by kernel_rfl),
 fun d x i k => entry_ok tab_ok (es := spec_ViolatesConstraint_es N) (by kernel_rfl) mixed Try.func169 (by kernel_rfl) ⟨⟨rfl, rfl⟩, rfl, rfl⟩ (un1_pk .bool) (spec_ViolatesConstraint_v N d x i k)⟩
def spec_ConflictEdges_sg : Sig := ⟨[.val ty9, .val ty11], [(ty12, .dp)], false, false, none, none⟩
noncomputable def spec_ConflictEdges_es (N : Nat) : List (Entry Try.prog) := [spec_ViolatesConstraint_e N, spec_HaveSameKey_e N, spec_IsValidDatabase_e N]
def spec_ConflictEdges_an : Nat → Option (List Nat)
 | 0 => some [1, 2, 5, 6]
 | 2 => some [1, 2, 5, 6, 7]
 | 4 => some [1, 2, 5, 6, 7, 8, 9]
 | _ => none
noncomputable def spec_ConflictEdges_lp (N : Nat) (p : List Dir) (rs : List (Env → Option (List (Int × Int)))) (k : Nat) (env : Env) : Option (List (Int × Int)) :=
 loopAt Tb (sigL (spec_ConflictEdges_es N)) cps (orcL (spec_ConflictEdges_es N)) N spec_ConflictEdges_an p (Try.f125.body.getD .skip) (endK Tb spec_ConflictEdges_sg Try.f125 [] (un1 ty12)) rs k env
noncomputable def spec_ConflictEdges_l2_E (N : Nat) (k0_ : Nat) (k1_ : Nat) (k_ : Nat) (l4 : List (Int × Int × Int × Int × Int × Int × Int)) (d6 : List (ByteArray × Int × Int)) (d7 : List (Int × List Int)) (out3 : List (Int × Int)) (i3 : Int) (k2 : Int) (is_ : Bool) (n : Int) : Option (List (Int × Int)) :=
 spec_ConflictEdges_lp N [.r, .r, .l, .r, .b, .b, .r, .l, .b, .r, .b, .b, .r, .l, .b, .r, .l, .r, .b] [spec_ConflictEdges_lp N [.r, .r, .l, .r, .b] [] k0_, spec_ConflictEdges_lp N [.r, .r, .l, .r, .b, .b, .r, .l, .b, .r, .b] [spec_ConflictEdges_lp N [.r, .r, .l, .r, .b] [] k0_] k1_] k_ (un 1 (.con .val [lf ty11 l4 .ro] :: (.con (.box ⟨27, false, []⟩) [lf ty7 d6 .ro, lf ty8 d7 .ro] :: (un 2 (.con .val [lf ty12 out3 .dp] :: (.con .val [lf i64 i3 .ro] :: (.con .val [lf i64 k2 .ro] :: (.con .val [lf .bool is_ .ro] :: (.con .val [lf i64 n .ro] :: (un 69 []))))))))))
noncomputable def spec_ConflictEdges_l1_E (N : Nat) (k0_ : Nat) (k_ : Nat) (l3 : List (Int × Int × Int × Int × Int × Int × Int)) (d4 : List (ByteArray × Int × Int)) (d5 : List (Int × List Int)) (out2 : List (Int × Int)) (i2 : Int) (k : Int) : Option (List (Int × Int)) :=
 spec_ConflictEdges_lp N [.r, .r, .l, .r, .b, .b, .r, .l, .b, .r, .b] [spec_ConflictEdges_lp N [.r, .r, .l, .r, .b] [] k0_] k_ (un 1 (.con .val [lf ty11 l3 .ro] :: (.con (.box ⟨27, false, []⟩) [lf ty7 d4 .ro, lf ty8 d5 .ro] :: (un 2 (.con .val [lf ty12 out2 .dp] :: (.con .val [lf i64 i2 .ro] :: (.con .val [lf i64 k .ro] :: (un 71 []))))))))
noncomputable def spec_ConflictEdges_l0_E (N : Nat) (k_ : Nat) (l2 : List (Int × Int × Int × Int × Int × Int × Int)) (d2 : List (ByteArray × Int × Int)) (d3 : List (Int × List Int)) (out : List (Int × Int)) (i : Int) : Option (List (Int × Int)) :=
 spec_ConflictEdges_lp N [.r, .r, .l, .r, .b] [] k_ (un 1 (.con .val [lf ty11 l2 .ro] :: (.con (.box ⟨27, false, []⟩) [lf ty7 d2 .ro, lf ty8 d3 .ro] :: (un 2 (.con .val [lf ty12 out .dp] :: (.con .val [lf i64 i .ro] :: (un 72 [])))))))
theorem spec_ConflictEdges_l2_z (N : Nat) (k0_ : Nat) (k1_ : Nat) (l4 : List (Int × Int × Int × Int × Int × Int × Int)) (d6 : List (ByteArray × Int × Int)) (d7 : List (Int × List Int)) (out3 : List (Int × Int)) (i3 : Int) (k2 : Int) (is_ : Bool) (n : Int) : spec_ConflictEdges_l2_E N k0_ k1_ 0 l4 d6 d7 out3 i3 k2 is_ n = none := by kernel_rfl
theorem spec_ConflictEdges_l2_s (N : Nat) (k0_ : Nat) (k1_ : Nat) (k_ : Nat) (l4 : List (Int × Int × Int × Int × Int × Int × Int)) (d6 : List (ByteArray × Int × Int)) (d7 : List (Int × List Int)) (out3 : List (Int × Int)) (i3 : Int) (k2 : Int) (is_ : Bool) (n : Int) : spec_ConflictEdges_l2_E N k0_ k1_ (k_ + 1) l4 d6 d7 out3 i3 k2 is_ n = spec_ConflictEdges_l2_b N (spec_ConflictEdges_l1_E N k0_ k1_) (spec_ConflictEdges_l2_E N k0_ k1_ k_) l4 d6 d7 out3 i3 k2 is_ n := by kernel_rfl
theorem spec_ConflictEdges_l1_z (N : Nat) (k0_ : Nat) (l3 : List (Int × Int × Int × Int × Int × Int × Int)) (d4 : List (ByteArray × Int × Int)) (d5 : List (Int × List Int)) (out2 : List (Int × Int)) (i2 : Int) (k : Int) : spec_ConflictEdges_l1_E N k0_ 0 l3 d4 d5 out2 i2 k = none := by kernel_rfl
theorem spec_ConflictEdges_l1_s (N : Nat) (k0_ : Nat) (k_ : Nat) (l3 : List (Int × Int × Int × Int × Int × Int × Int)) (d4 : List (ByteArray × Int × Int)) (d5 : List (Int × List Int)) (out2 : List (Int × Int)) (i2 : Int) (k : Int) : spec_ConflictEdges_l1_E N k0_ (k_ + 1) l3 d4 d5 out2 i2 k = spec_ConflictEdges_l1_b N (spec_ConflictEdges_l0_E N k0_) (spec_ConflictEdges_l2_E N k0_ k_ N) (spec_ConflictEdges_l1_E N k0_ k_) l3 d4 d5 out2 i2 k := by kernel_rfl
theorem spec_ConflictEdges_l0_z (N : Nat) (l2 : List (Int × Int × Int × Int × Int × Int × Int)) (d2 : List (ByteArray × Int × Int)) (d3 : List (Int × List Int)) (out : List (Int × Int)) (i : Int) : spec_ConflictEdges_l0_E N 0 l2 d2 d3 out i = none := by kernel_rfl
theorem spec_ConflictEdges_l0_s (N : Nat) (k_ : Nat) (l2 : List (Int × Int × Int × Int × Int × Int × Int)) (d2 : List (ByteArray × Int × Int)) (d3 : List (Int × List Int)) (out : List (Int × Int)) (i : Int) : spec_ConflictEdges_l0_E N (k_ + 1) l2 d2 d3 out i = spec_ConflictEdges_l0_b N (spec_ConflictEdges_l1_E N k_ N) (spec_ConflictEdges_l0_E N k_) l2 d2 d3 out i := by kernel_rfl
theorem spec_ConflictEdges_l2_q (N : Nat) (k0_ : Nat) (k1_ : Nat) : ∀ k_, spec_ConflictEdges_l2_E N k0_ k1_ k_ = spec_ConflictEdges_l2 (spec_ConflictEdges_l1_E N k0_ k1_) N k_
 | 0 => by funext l4 d6 d7 out3 i3 k2 is_ n; exact spec_ConflictEdges_l2_z N k0_ k1_ l4 d6 d7 out3 i3 k2 is_ n
 | k_ + 1 => by funext l4 d6 d7 out3 i3 k2 is_ n; rw [spec_ConflictEdges_l2_s]; simp only [spec_ConflictEdges_l2_q N k0_ k1_ k_]; rfl
theorem spec_ConflictEdges_l1_q (N : Nat) (k0_ : Nat) : ∀ k_, spec_ConflictEdges_l1_E N k0_ k_ = spec_ConflictEdges_l1 (spec_ConflictEdges_l0_E N k0_) N k_
 | 0 => by funext l3 d4 d5 out2 i2 k; exact spec_ConflictEdges_l1_z N k0_ l3 d4 d5 out2 i2 k
 | k_ + 1 => by funext l3 d4 d5 out2 i2 k; rw [spec_ConflictEdges_l1_s]; simp only [spec_ConflictEdges_l2_q, spec_ConflictEdges_l1_q N k0_ k_]; rfl
theorem spec_ConflictEdges_l0_q (N : Nat) : ∀ k_, spec_ConflictEdges_l0_E N k_ = spec_ConflictEdges_l0 N k_
 | 0 => by funext l2 d2 d3 out i; exact spec_ConflictEdges_l0_z N l2 d2 d3 out i
 | k_ + 1 => by funext l2 d2 d3 out i; rw [spec_ConflictEdges_l0_s]; simp only [spec_ConflictEdges_l1_q, spec_ConflictEdges_l0_q N k_]; rfl
theorem spec_ConflictEdges_v (N : Nat) (d : List (ByteArray × Int × Int) × List (Int × List Int)) (l : List (Int × Int × Int × Int × Int × Int × Int)) :
  evFn Tb (sigL (spec_ConflictEdges_es N)) cps (orcL (spec_ConflictEdges_es N)) (drawReg Tb (sigL (spec_ConflictEdges_es N)) cps (orcL (spec_ConflictEdges_es N))) N spec_ConflictEdges_an spec_ConflictEdges_sg Try.f125 (Try.f125.body.getD .skip) [.val ty9 d, .val ty11 l] (un1 ty12) = spec_ConflictEdges_b N (spec_ConflictEdges_l0_E N N) d l := by kernel_rfl
noncomputable def spec_ConflictEdges_e (N : Nat) : Entry Try.prog := ⟨125, spec_ConflictEdges_sg, [.v ty9, .v ty11], List (Int × Int), spec_ConflictEdges N, pk1 ty12, entry_en Try.func125 (code := Try.f125.body.getD .skip) (by kernel_rfl) (by kernel_rfl),
 fun d l => entry_ok tab_ok (es := spec_ConflictEdges_es N) (by kernel_rfl) mixed Try.func125 (by kernel_rfl) ⟨⟨rfl, rfl⟩, rfl, rfl⟩ (un1_pk ty12) ((spec_ConflictEdges_v N d l).trans (by rw [spec_ConflictEdges_l0_q]; rfl))⟩
def spec_AreValidEdges_sg : Sig := ⟨[.val i64, .val ty12], [(.bool, .dp)], false, false, none, none⟩
noncomputable def spec_AreValidEdges_es (N : Nat) : List (Entry Try.prog) := [spec_l1In_e N]
def spec_AreValidEdges_an : Nat → Option (List Nat)
 | 0 => some [0, 1, 5]
 | _ => none
noncomputable def spec_AreValidEdges_lp (N : Nat) (p : List Dir) (rs : List (Env → Option (Bool))) (k : Nat) (env : Env) : Option (Bool) :=
 loopAt Tb (sigL (spec_AreValidEdges_es N)) cps (orcL (spec_AreValidEdges_es N)) N spec_AreValidEdges_an p (Try.f179.body.getD .skip) (endK Tb spec_AreValidEdges_sg Try.f179 [] (un1 .bool)) rs k env
noncomputable def spec_AreValidEdges_l0_E (N : Nat) (k_ : Nat) (n2 : Int) (l2 : List (Int × Int)) (i : Int) : Option (Bool) :=
 spec_AreValidEdges_lp N [.r, .l, .r, .b] [] k_ (.con .val [lf i64 n2 .ro] :: (.con .val [lf ty12 l2 .ro] :: (un 3 (.con .val [lf i64 i .ro] :: (un 78 [])))))
theorem spec_AreValidEdges_l0_z (N : Nat) (n2 : Int) (l2 : List (Int × Int)) (i : Int) : spec_AreValidEdges_l0_E N 0 n2 l2 i = none := by kernel_rfl
theorem spec_AreValidEdges_l0_s (N : Nat) (k_ : Nat) (n2 : Int) (l2 : List (Int × Int)) (i : Int) : spec_AreValidEdges_l0_E N (k_ + 1) n2 l2 i = spec_AreValidEdges_l0_b N (spec_AreValidEdges_l0_E N k_) n2 l2 i := by kernel_rfl
theorem spec_AreValidEdges_l0_q (N : Nat) : ∀ k_, spec_AreValidEdges_l0_E N k_ = spec_AreValidEdges_l0 N k_
 | 0 => by funext n2 l2 i; exact spec_AreValidEdges_l0_z N n2 l2 i
 | k_ + 1 => by funext n2 l2 i; rw [spec_AreValidEdges_l0_s]; simp only [spec_AreValidEdges_l0_q N k_]; rfl
theorem spec_AreValidEdges_v (N : Nat) (n : Int) (l : List (Int × Int)) :
  evFn Tb (sigL (spec_AreValidEdges_es N)) cps (orcL (spec_AreValidEdges_es N)) (drawReg Tb (sigL (spec_AreValidEdges_es N)) cps (orcL (spec_AreValidEdges_es N))) N spec_AreValidEdges_an spec_AreValidEdges_sg Try.f179 (Try.f179.body.getD .skip) [.val i64 n, .val ty12 l] (un1 .bool) = spec_AreValidEdges_b N (spec_AreValidEdges_l0_E N N) n l := by kernel_rfl
noncomputable def spec_AreValidEdges_e (N : Nat) : Entry Try.prog := ⟨179, spec_AreValidEdges_sg, [.v i64, .v ty12], Bool, spec_AreValidEdges N, pk1 .bool, entry_en Try.func179 (code := Try.f179.body.getD .skip) (by kernel_rfl) (by kernel_rfl),
 fun n l => entry_ok tab_ok (es := spec_AreValidEdges_es N) (by kernel_rfl) mixed Try.func179 (by kernel_rfl) ⟨⟨rfl, rfl⟩, rfl, rfl⟩ (un1_pk .bool) ((spec_AreValidEdges_v N n l).trans (by rw [spec_AreValidEdges_l0_q]; rfl))⟩
def spec_l8Set_sg : Sig := ⟨[.val i64, .val ty0], [(.bool, .dp)], false, false, none, none⟩
noncomputable def spec_l8Set_es (N : Nat) : List (Entry Try.prog) := [spec_l1In_e N]
def spec_l8Set_an : Nat → Option (List Nat)
 | 0 => some [0, 1, 5]
 | _ => none
noncomputable def spec_l8Set_lp (N : Nat) (p : List Dir) (rs : List (Env → Option (Bool))) (k : Nat) (env : Env) : Option (Bool) :=
 loopAt Tb (sigL (spec_l8Set_es N)) cps (orcL (spec_l8Set_es N)) N spec_l8Set_an p (Try.f225.body.getD .skip) (endK Tb spec_l8Set_sg Try.f225 [] (un1 .bool)) rs k env
noncomputable def spec_l8Set_l0_E (N : Nat) (k_ : Nat) (n2 : Int) (s2 : List Int) (i : Int) : Option (Bool) :=
 spec_l8Set_lp N [.r, .l, .r, .b] [] k_ (.con .val [lf i64 n2 .ro] :: (.con .val [lf ty0 s2 .ro] :: (un 3 (.con .val [lf i64 i .ro] :: (un 30 [])))))
theorem spec_l8Set_l0_z (N : Nat) (n2 : Int) (s2 : List Int) (i : Int) : spec_l8Set_l0_E N 0 n2 s2 i = none := by kernel_rfl
theorem spec_l8Set_l0_s (N : Nat) (k_ : Nat) (n2 : Int) (s2 : List Int) (i : Int) : spec_l8Set_l0_E N (k_ + 1) n2 s2 i = spec_l8Set_l0_b N (spec_l8Set_l0_E N k_) n2 s2 i := by kernel_rfl
theorem spec_l8Set_l0_q (N : Nat) : ∀ k_, spec_l8Set_l0_E N k_ = spec_l8Set_l0 N k_
 | 0 => by funext n2 s2 i; exact spec_l8Set_l0_z N n2 s2 i
 | k_ + 1 => by funext n2 s2 i; rw [spec_l8Set_l0_s]; simp only [spec_l8Set_l0_q N k_]; rfl
theorem spec_l8Set_v (N : Nat) (n : Int) (s : List Int) :
  evFn Tb (sigL (spec_l8Set_es N)) cps (orcL (spec_l8Set_es N)) (drawReg Tb (sigL (spec_l8Set_es N)) cps (orcL (spec_l8Set_es N))) N spec_l8Set_an spec_l8Set_sg Try.f225 (Try.f225.body.getD .skip) [.val i64 n, .val ty0 s] (un1 .bool) = spec_l8Set_b N (spec_l8Set_l0_E N N) n s := by kernel_rfl
noncomputable def spec_l8Set_e (N : Nat) : Entry Try.prog := ⟨225, spec_l8Set_sg, [.v i64, .v ty0], Bool, spec_l8Set N, pk1 .bool, entry_en Try.func225 (code := Try.f225.body.getD .skip) (by kernel_rfl) (by kernel_rfl),
 fun n s => entry_ok tab_ok (es := spec_l8Set_es N) (by kernel_rfl) mixed Try.func225 (by kernel_rfl) ⟨⟨rfl, rfl⟩, rfl, rfl⟩ (un1_pk .bool) ((spec_l8Set_v N n s).trans (by rw [spec_l8Set_l0_q]; rfl))⟩
def spec_l7Has_sg : Sig := ⟨[.val ty0, .val i64], [(.bool, .dp)], false, false, none, none⟩
noncomputable def spec_l7Has_es (N : Nat) : List (Entry Try.prog) := []
def spec_l7Has_an : Nat → Option (List Nat)
 | 0 => some [0, 1, 5]
 | _ => none
noncomputable def spec_l7Has_lp (N : Nat) (p : List Dir) (rs : List (Env → Option (Bool))) (k : Nat) (env : Env) : Option (Bool) :=
 loopAt Tb (sigL (spec_l7Has_es N)) cps (orcL (spec_l7Has_es N)) N spec_l7Has_an p (Try.f137.body.getD .skip) (endK Tb spec_l7Has_sg Try.f137 [] (un1 .bool)) rs k env
noncomputable def spec_l7Has_l0_E (N : Nat) (k_ : Nat) (l2 : List Int) (x2 : Int) (i : Int) : Option (Bool) :=
 spec_l7Has_lp N [.r, .l, .r, .b] [] k_ (.con .val [lf ty0 l2 .ro] :: (.con .val [lf i64 x2 .ro] :: (un 3 (.con .val [lf i64 i .ro] :: (un 12 [])))))
theorem spec_l7Has_l0_z (N : Nat) (l2 : List Int) (x2 : Int) (i : Int) : spec_l7Has_l0_E N 0 l2 x2 i = none := by kernel_rfl
theorem spec_l7Has_l0_s (N : Nat) (k_ : Nat) (l2 : List Int) (x2 : Int) (i : Int) : spec_l7Has_l0_E N (k_ + 1) l2 x2 i = spec_l7Has_l0_b N (spec_l7Has_l0_E N k_) l2 x2 i := by kernel_rfl
theorem spec_l7Has_l0_q (N : Nat) : ∀ k_, spec_l7Has_l0_E N k_ = spec_l7Has_l0 N k_
 | 0 => by funext l2 x2 i; exact spec_l7Has_l0_z N l2 x2 i
 | k_ + 1 => by funext l2 x2 i; rw [spec_l7Has_l0_s]; simp only [spec_l7Has_l0_q N k_]; rfl
theorem spec_l7Has_v (N : Nat) (l : List Int) (x : Int) :
  evFn Tb (sigL (spec_l7Has_es N)) cps (orcL (spec_l7Has_es N)) (drawReg Tb (sigL (spec_l7Has_es N)) cps (orcL (spec_l7Has_es N))) N spec_l7Has_an spec_l7Has_sg Try.f137 (Try.f137.body.getD .skip) [.val ty0 l, .val i64 x] (un1 .bool) = spec_l7Has_b N (spec_l7Has_l0_E N N) l x := by kernel_rfl
noncomputable def spec_l7Has_e (N : Nat) : Entry Try.prog := ⟨137, spec_l7Has_sg, [.v ty0, .v i64], Bool, spec_l7Has N, pk1 .bool, entry_en Try.func137 (code := Try.f137.body.getD .skip) (by kernel_rfl) (by kernel_rfl),
 fun l x => entry_ok tab_ok (es := spec_l7Has_es N) (by kernel_rfl) mixed Try.func137 (by kernel_rfl) ⟨⟨rfl, rfl⟩, rfl, rfl⟩ (un1_pk .bool) ((spec_l7Has_v N l x).trans (by rw [spec_l7Has_l0_q]; rfl))⟩
def spec_IsIndependent_sg : Sig := ⟨[.val ty12, .val ty0], [(.bool, .dp)], false, false, none, none⟩
noncomputable def spec_IsIndependent_es (N : Nat) : List (Entry Try.prog) := [spec_l7Has_e N]
def spec_IsIndependent_an : Nat → Option (List Nat)
 | 0 => some [0, 1, 5]
 | _ => none
noncomputable def spec_IsIndependent_lp (N : Nat) (p : List Dir) (rs : List (Env → Option (Bool))) (k : Nat) (env : Env) : Option (Bool) :=
 loopAt Tb (sigL (spec_IsIndependent_es N)) cps (orcL (spec_IsIndependent_es N)) N spec_IsIndependent_an p (Try.f226.body.getD .skip) (endK Tb spec_IsIndependent_sg Try.f226 [] (un1 .bool)) rs k env
noncomputable def spec_IsIndependent_l0_E (N : Nat) (k_ : Nat) (l2 : List (Int × Int)) (s2 : List Int) (i : Int) : Option (Bool) :=
 spec_IsIndependent_lp N [.r, .l, .r, .b] [] k_ (.con .val [lf ty12 l2 .ro] :: (.con .val [lf ty0 s2 .ro] :: (un 3 (.con .val [lf i64 i .ro] :: (un 22 [])))))
theorem spec_IsIndependent_l0_z (N : Nat) (l2 : List (Int × Int)) (s2 : List Int) (i : Int) : spec_IsIndependent_l0_E N 0 l2 s2 i = none := by kernel_rfl
theorem spec_IsIndependent_l0_s (N : Nat) (k_ : Nat) (l2 : List (Int × Int)) (s2 : List Int) (i : Int) : spec_IsIndependent_l0_E N (k_ + 1) l2 s2 i = spec_IsIndependent_l0_b N (spec_IsIndependent_l0_E N k_) l2 s2 i := by kernel_rfl
theorem spec_IsIndependent_l0_q (N : Nat) : ∀ k_, spec_IsIndependent_l0_E N k_ = spec_IsIndependent_l0 N k_
 | 0 => by funext l2 s2 i; exact spec_IsIndependent_l0_z N l2 s2 i
 | k_ + 1 => by funext l2 s2 i; rw [spec_IsIndependent_l0_s]; simp only [spec_IsIndependent_l0_q N k_]; rfl
theorem spec_IsIndependent_v (N : Nat) (l : List (Int × Int)) (s : List Int) :
  evFn Tb (sigL (spec_IsIndependent_es N)) cps (orcL (spec_IsIndependent_es N)) (drawReg Tb (sigL (spec_IsIndependent_es N)) cps (orcL (spec_IsIndependent_es N))) N spec_IsIndependent_an spec_IsIndependent_sg Try.f226 (Try.f226.body.getD .skip) [.val ty12 l, .val ty0 s] (un1 .bool) = spec_IsIndependent_b N (spec_IsIndependent_l0_E N N) l s := by kernel_rfl
noncomputable def spec_IsIndependent_e (N : Nat) : Entry Try.prog := ⟨226, spec_IsIndependent_sg, [.v ty12, .v ty0], Bool, spec_IsIndependent N, pk1 .bool, entry_en Try.func226 (code := Try.f226.body.getD .skip) (by kernel_rfl) (by kernel_rfl),
 fun l s => entry_ok tab_ok (es := spec_IsIndependent_es N) (by kernel_rfl) mixed Try.func226 (by kernel_rfl) ⟨⟨rfl, rfl⟩, rfl, rfl⟩ (un1_pk .bool) ((spec_IsIndependent_v N l s).trans (by rw [spec_IsIndependent_l0_q]; rfl))⟩
def spec_l8Fits_sg : Sig := ⟨[.val ty12, .val ty0, .val i64], [(.bool, .dp)], false, false, none, none⟩
noncomputable def spec_l8Fits_es (N : Nat) : List (Entry Try.prog) := [spec_l7Has_e N, spec_IsIndependent_e N]
def spec_l8Fits_an : Nat → Option (List Nat) := fun _ => none
theorem spec_l8Fits_v (N : Nat) (l : List (Int × Int)) (s : List Int) (x : Int) :
  evFn Tb (sigL (spec_l8Fits_es N)) cps (orcL (spec_l8Fits_es N)) (drawReg Tb (sigL (spec_l8Fits_es N)) cps (orcL (spec_l8Fits_es N))) N spec_l8Fits_an spec_l8Fits_sg Try.f213 (Try.f213.body.getD .skip) [.val ty12 l, .val ty0 s, .val i64 x] (un1 .bool) = spec_l8Fits N l s x := by kernel_rfl
noncomputable def spec_l8Fits_e (N : Nat) : Entry Try.prog := ⟨213, spec_l8Fits_sg, [.v ty12, .v ty0, .v i64], Bool, spec_l8Fits N, pk1 .bool, entry_en Try.func213 (code := Try.f213.body.getD .skip) (by kernel_rfl) (by kernel_rfl),
 fun l s x => entry_ok tab_ok (es := spec_l8Fits_es N) (by kernel_rfl) mixed Try.func213 (by kernel_rfl) ⟨⟨rfl, rfl⟩, rfl, rfl⟩ (un1_pk .bool) (spec_l8Fits_v N l s x)⟩
def spec_IsMaximalIndependent_sg : Sig := ⟨[.val i64, .val ty12, .val ty0], [(.bool, .dp)], false, false, none, none⟩
noncomputable def spec_IsMaximalIndependent_es (N : Nat) : List (Entry Try.prog) := [spec_l8Fits_e N, spec_AreValidEdges_e N, spec_l8Set_e N, spec_IsIndependent_e N]
def spec_IsMaximalIndependent_an : Nat → Option (List Nat)
 | 0 => some [0, 1, 2, 7]
 | _ => none
noncomputable def spec_IsMaximalIndependent_lp (N : Nat) (p : List Dir) (rs : List (Env → Option (Bool))) (k : Nat) (env : Env) : Option (Bool) :=
 loopAt Tb (sigL (spec_IsMaximalIndependent_es N)) cps (orcL (spec_IsMaximalIndependent_es N)) N spec_IsMaximalIndependent_an p (Try.f212.body.getD .skip) (endK Tb spec_IsMaximalIndependent_sg Try.f212 [] (un1 .bool)) rs k env
noncomputable def spec_IsMaximalIndependent_l0_E (N : Nat) (k_ : Nat) (n2 : Int) (l2 : List (Int × Int)) (s2 : List Int) (x : Int) : Option (Bool) :=
 spec_IsMaximalIndependent_lp N [.r, .r, .l, .r, .b] [] k_ (.con .val [lf i64 n2 .ro] :: (.con .val [lf ty12 l2 .ro] :: (.con .val [lf ty0 s2 .ro] :: (un 4 (.con .val [lf i64 x .ro] :: (un 25 []))))))
theorem spec_IsMaximalIndependent_l0_z (N : Nat) (n2 : Int) (l2 : List (Int × Int)) (s2 : List Int) (x : Int) : spec_IsMaximalIndependent_l0_E N 0 n2 l2 s2 x = none := by kernel_rfl
theorem spec_IsMaximalIndependent_l0_s (N : Nat) (k_ : Nat) (n2 : Int) (l2 : List (Int × Int)) (s2 : List Int) (x : Int) : spec_IsMaximalIndependent_l0_E N (k_ + 1) n2 l2 s2 x = spec_IsMaximalIndependent_l0_b N (spec_IsMaximalIndependent_l0_E N k_) n2 l2 s2 x := by kernel_rfl
theorem spec_IsMaximalIndependent_l0_q (N : Nat) : ∀ k_, spec_IsMaximalIndependent_l0_E N k_ = spec_IsMaximalIndependent_l0 N k_
 | 0 => by funext n2 l2 s2 x; exact spec_IsMaximalIndependent_l0_z N n2 l2 s2 x
 | k_ + 1 => by funext n2 l2 s2 x; rw [spec_IsMaximalIndependent_l0_s]; simp only [spec_IsMaximalIndependent_l0_q N k_]; rfl
theorem spec_IsMaximalIndependent_v (N : Nat) (n : Int) (l : List (Int × Int)) (s : List Int) :
  evFn Tb (sigL (spec_IsMaximalIndependent_es N)) cps (orcL (spec_IsMaximalIndependent_es N)) (drawReg Tb (sigL (spec_IsMaximalIndependent_es N)) cps (orcL (spec_IsMaximalIndependent_es N))) N spec_IsMaximalIndependent_an spec_IsMaximalIndependent_sg Try.f212 (Try.f212.body.getD .skip) [.val i64 n, .val ty12 l, .val ty0 s] (un1 .bool) = spec_IsMaximalIndependent_b N (spec_IsMaximalIndependent_l0_E N N) n l s := by kernel_rfl
noncomputable def spec_IsMaximalIndependent_e (N : Nat) : Entry Try.prog := ⟨212, spec_IsMaximalIndependent_sg, [.v i64, .v ty12, .v ty0], Bool, spec_IsMaximalIndependent N, pk1 .bool, entry_en Try.func212 (code := Try.f212.body.getD .skip) (by kernel_rfl) (by kernel_rfl),
 fun n l s => entry_ok tab_ok (es := spec_IsMaximalIndependent_es N) (by kernel_rfl) mixed Try.func212 (by kernel_rfl) ⟨⟨rfl, rfl⟩, rfl, rfl⟩ (un1_pk .bool) ((spec_IsMaximalIndependent_v N n l s).trans (by rw [spec_IsMaximalIndependent_l0_q]; rfl))⟩
def spec_l8Walk_sg : Sig := ⟨[.val i64, .val ty12, .val ty0, .val i64], [(ty13, .dp)], false, false, none, none⟩
theorem spec_l8Walk_en : Enterable Try.prog 180 := entry_en Try.func180 (code := Try.f180.body.getD .skip) (by kernel_rfl) (by kernel_rfl)
noncomputable def spec_l8Walk_es (N : Nat) (Rf : Int → (List (Int × Int)) → (List Int) → Int → Option (List (List Int))) (hR : OkP (Option (List (List Int))) [.v i64, .v ty12, .v ty0, .v i64] Rf (fun xs_ q => ∀ x, q = some x → FnOk Try.prog 180 spec_l8Walk_sg xs_ (pk1 ty13 x))) : List (Entry Try.prog) := [spec_IsMaximalIndependent_e N, spec_l8Fits_e N, ⟨180, spec_l8Walk_sg, [.v i64, .v ty12, .v ty0, .v i64], List (List Int), Rf, pk1 ty13, spec_l8Walk_en, hR⟩]
def spec_l8Walk_an : Nat → Option (List Nat)
 | 0 => some [0, 1, 2, 3, 9, 10, 11]
 | _ => none
noncomputable def spec_l8Walk_lp (N : Nat) (Rf : Int → (List (Int × Int)) → (List Int) → Int → Option (List (List Int))) (hR : OkP (Option (List (List Int))) [.v i64, .v ty12, .v ty0, .v i64] Rf (fun xs_ q => ∀ x, q = some x → FnOk Try.prog 180 spec_l8Walk_sg xs_ (pk1 ty13 x))) (p : List Dir) (rs : List (Env → Option (List (List Int)))) (k : Nat) (env : Env) : Option (List (List Int)) :=
 loopAt Tb (sigL (spec_l8Walk_es N Rf hR)) cps (orcL (spec_l8Walk_es N Rf hR)) N spec_l8Walk_an p (Try.f180.body.getD .skip) (endK Tb spec_l8Walk_sg Try.f180 [] (un1 ty13)) rs k env
noncomputable def spec_l8Walk_l0_E (N : Nat) (Rf : Int → (List (Int × Int)) → (List Int) → Int → Option (List (List Int))) (hR : OkP (Option (List (List Int))) [.v i64, .v ty12, .v ty0, .v i64] Rf (fun xs_ q => ∀ x, q = some x → FnOk Try.prog 180 spec_l8Walk_sg xs_ (pk1 ty13 x))) (k_ : Nat) (n2 : Int) (l2 : List (Int × Int)) (s2 : List Int) (x2 : Int) (out : List (List Int)) (met : Bool) (i : Int) : Option (List (List Int)) :=
 spec_l8Walk_lp N Rf hR [.r, .r, .r, .r, .r, .l, .r, .b] [] k_ (.con .val [lf i64 n2 .ro] :: (.con .val [lf ty12 l2 .ro] :: (.con .val [lf ty0 s2 .ro] :: (.con .val [lf i64 x2 .ro] :: (un 5 (.con .val [lf ty13 out .dp] :: (.con .val [lf .bool met .ro] :: (.con .val [lf i64 i .ro] :: (un 63 [])))))))))
theorem spec_l8Walk_l0_z (N : Nat) (Rf : Int → (List (Int × Int)) → (List Int) → Int → Option (List (List Int))) (hR : OkP (Option (List (List Int))) [.v i64, .v ty12, .v ty0, .v i64] Rf (fun xs_ q => ∀ x, q = some x → FnOk Try.prog 180 spec_l8Walk_sg xs_ (pk1 ty13 x))) (n2 : Int) (l2 : List (Int × Int)) (s2 : List Int) (x2 : Int) (out : List (List Int)) (met : Bool) (i : Int) : spec_l8Walk_l0_E N Rf hR 0 n2 l2 s2 x2 out met i = none := by kernel_rfl
theorem spec_l8Walk_l0_s (N : Nat) (Rf : Int → (List (Int × Int)) → (List Int) → Int → Option (List (List Int))) (hR : OkP (Option (List (List Int))) [.v i64, .v ty12, .v ty0, .v i64] Rf (fun xs_ q => ∀ x, q = some x → FnOk Try.prog 180 spec_l8Walk_sg xs_ (pk1 ty13 x))) (k_ : Nat) (n2 : Int) (l2 : List (Int × Int)) (s2 : List Int) (x2 : Int) (out : List (List Int)) (met : Bool) (i : Int) : spec_l8Walk_l0_E N Rf hR (k_ + 1) n2 l2 s2 x2 out met i = spec_l8Walk_l0_b N Rf (spec_l8Walk_l0_E N Rf hR k_) n2 l2 s2 x2 out met i := by kernel_rfl
theorem spec_l8Walk_l0_q (N : Nat) (Rf : Int → (List (Int × Int)) → (List Int) → Int → Option (List (List Int))) (hR : OkP (Option (List (List Int))) [.v i64, .v ty12, .v ty0, .v i64] Rf (fun xs_ q => ∀ x, q = some x → FnOk Try.prog 180 spec_l8Walk_sg xs_ (pk1 ty13 x))) : ∀ k_, spec_l8Walk_l0_E N Rf hR k_ = spec_l8Walk_l0 N Rf k_
 | 0 => by funext n2 l2 s2 x2 out met i; exact spec_l8Walk_l0_z N Rf hR n2 l2 s2 x2 out met i
 | k_ + 1 => by funext n2 l2 s2 x2 out met i; rw [spec_l8Walk_l0_s]; simp only [spec_l8Walk_l0_q N Rf hR k_]; rfl
theorem spec_l8Walk_v (N : Nat) (Rf : Int → (List (Int × Int)) → (List Int) → Int → Option (List (List Int))) (hR : OkP (Option (List (List Int))) [.v i64, .v ty12, .v ty0, .v i64] Rf (fun xs_ q => ∀ x, q = some x → FnOk Try.prog 180 spec_l8Walk_sg xs_ (pk1 ty13 x))) (n : Int) (l : List (Int × Int)) (s : List Int) (x : Int) :
  evFn Tb (sigL (spec_l8Walk_es N Rf hR)) cps (orcL (spec_l8Walk_es N Rf hR)) (drawReg Tb (sigL (spec_l8Walk_es N Rf hR)) cps (orcL (spec_l8Walk_es N Rf hR))) N spec_l8Walk_an spec_l8Walk_sg Try.f180 (Try.f180.body.getD .skip) [.val i64 n, .val ty12 l, .val ty0 s, .val i64 x] (un1 ty13) = spec_l8Walk_b N Rf (spec_l8Walk_l0_E N Rf hR N) n l s x := by kernel_rfl
theorem spec_l8Walk_ok (N : Nat) : ∀ k_, OkP (Option (List (List Int))) [.v i64, .v ty12, .v ty0, .v i64] (spec_l8Walk_r N k_) (fun xs_ q => ∀ x, q = some x → FnOk Try.prog 180 spec_l8Walk_sg xs_ (pk1 ty13 x))
 | 0 => fun n l s x =>  fun x h => absurd (show (none : Option (List (List Int))) = some x from h) (by simp)
 | k_ + 1 => fun n l s x => entry_ok tab_ok (es := spec_l8Walk_es N (spec_l8Walk_r N k_) (spec_l8Walk_ok N k_)) (by kernel_rfl) mixed Try.func180 (by kernel_rfl) ⟨⟨rfl, rfl⟩, rfl, rfl⟩ (un1_pk ty13) ((spec_l8Walk_v N _ _ n l s x).trans (by rw [spec_l8Walk_l0_q]; rfl))
noncomputable def spec_l8Walk_e (N : Nat) : Entry Try.prog := ⟨180, spec_l8Walk_sg, [.v i64, .v ty12, .v ty0, .v i64], List (List Int), spec_l8Walk N, pk1 ty13, spec_l8Walk_en, spec_l8Walk_ok N N⟩
def spec_MaximalIndependentSets_sg : Sig := ⟨[.val i64, .val ty12], [(ty13, .dp)], false, false, none, none⟩
noncomputable def spec_MaximalIndependentSets_es (N : Nat) : List (Entry Try.prog) := [spec_AreValidEdges_e N, spec_l8Walk_e N]
def spec_MaximalIndependentSets_an : Nat → Option (List Nat) := fun _ => none
theorem spec_MaximalIndependentSets_v (N : Nat) (n : Int) (l : List (Int × Int)) :
  evFn Tb (sigL (spec_MaximalIndependentSets_es N)) cps (orcL (spec_MaximalIndependentSets_es N)) (drawReg Tb (sigL (spec_MaximalIndependentSets_es N)) cps (orcL (spec_MaximalIndependentSets_es N))) N spec_MaximalIndependentSets_an spec_MaximalIndependentSets_sg Try.f135 (Try.f135.body.getD .skip) [.val i64 n, .val ty12 l] (un1 ty13) = spec_MaximalIndependentSets N n l := by kernel_rfl
noncomputable def spec_MaximalIndependentSets_e (N : Nat) : Entry Try.prog := ⟨135, spec_MaximalIndependentSets_sg, [.v i64, .v ty12], List (List Int), spec_MaximalIndependentSets N, pk1 ty13, entry_en Try.func135 (code := Try.f135.body.getD .skip) (by kernel_rfl) (by kernel_rfl),
 fun n l => entry_ok tab_ok (es := spec_MaximalIndependentSets_es N) (by kernel_rfl) mixed Try.func135 (by kernel_rfl) ⟨⟨rfl, rfl⟩, rfl, rfl⟩ (un1_pk ty13) (spec_MaximalIndependentSets_v N n l)⟩
def spec_SubsetRepairs_sg : Sig := ⟨[.val ty9, .val ty11], [(ty13, .dp)], false, false, none, none⟩
noncomputable def spec_SubsetRepairs_es (N : Nat) : List (Entry Try.prog) := [spec_IsValidDatabase_e N, spec_ConflictEdges_e N, spec_MaximalIndependentSets_e N]
def spec_SubsetRepairs_an : Nat → Option (List Nat) := fun _ => none
theorem spec_SubsetRepairs_v (N : Nat) (d : List (ByteArray × Int × Int) × List (Int × List Int)) (l : List (Int × Int × Int × Int × Int × Int × Int)) :
  evFn Tb (sigL (spec_SubsetRepairs_es N)) cps (orcL (spec_SubsetRepairs_es N)) (drawReg Tb (sigL (spec_SubsetRepairs_es N)) cps (orcL (spec_SubsetRepairs_es N))) N spec_SubsetRepairs_an spec_SubsetRepairs_sg Try.f67 (Try.f67.body.getD .skip) [.val ty9 d, .val ty11 l] (un1 ty13) = spec_SubsetRepairs N d l := by kernel_rfl
noncomputable def spec_SubsetRepairs_e (N : Nat) : Entry Try.prog := ⟨67, spec_SubsetRepairs_sg, [.v ty9, .v ty11], List (List Int), spec_SubsetRepairs N, pk1 ty13, entry_en Try.func67 (code := Try.f67.body.getD .skip) (by kernel_rfl) (by kernel_rfl),
 fun d l => entry_ok tab_ok (es := spec_SubsetRepairs_es N) (by kernel_rfl) mixed Try.func67 (by kernel_rfl) ⟨⟨rfl, rfl⟩, rfl, rfl⟩ (un1_pk ty13) (spec_SubsetRepairs_v N d l)⟩
def impl_within_sg : Sig := ⟨[.val i64, .val i64, .val i64], [(.bool, .dp)], false, false, none, none⟩
noncomputable def impl_within_es (N : Nat) : List (Entry Try.prog) := []
def impl_within_an : Nat → Option (List Nat) := fun _ => none
theorem impl_within_v (N : Nat) (n : Int) (low : Int) (high : Int) :
  evFn Tb (sigL (impl_within_es N)) cps (orcL (impl_within_es N)) (drawReg Tb (sigL (impl_within_es N)) cps (orcL (impl_within_es N))) N impl_within_an impl_within_sg Try.f103 (Try.f103.body.getD .skip) [.val i64 n, .val i64 low, .val i64 high] (un1 .bool) = impl_within N n low high := by kernel_rfl
noncomputable def impl_within_e (N : Nat) : Entry Try.prog := ⟨103, impl_within_sg, [.v i64, .v i64, .v i64], Bool, impl_within N, pk1 .bool, entry_en Try.func103 (code := Try.f103.body.getD .skip) (by kernel_rfl) (by kernel_rfl),
 fun n low high => entry_ok tab_ok (es := impl_within_es N) (by kernel_rfl) mixed Try.func103 (by kernel_rfl) ⟨⟨rfl, rfl⟩, rfl, rfl⟩ (un1_pk .bool) (impl_within_v N n low high)⟩
def impl_IsValidRelation_sg : Sig := ⟨[.val ty1], [(.bool, .dp)], false, false, none, none⟩
noncomputable def impl_IsValidRelation_es (N : Nat) : List (Entry Try.prog) := [impl_within_e N]
def impl_IsValidRelation_an : Nat → Option (List Nat) := fun _ => none
theorem impl_IsValidRelation_v (N : Nat) (relation : ByteArray × Int × Int) :
  evFn Tb (sigL (impl_IsValidRelation_es N)) cps (orcL (impl_IsValidRelation_es N)) (drawReg Tb (sigL (impl_IsValidRelation_es N)) cps (orcL (impl_IsValidRelation_es N))) N impl_IsValidRelation_an impl_IsValidRelation_sg Try.f189 (Try.f189.body.getD .skip) [.val ty1 relation] (un1 .bool) = impl_IsValidRelation N relation := by kernel_rfl
noncomputable def impl_IsValidRelation_e (N : Nat) : Entry Try.prog := ⟨189, impl_IsValidRelation_sg, [.v ty1], Bool, impl_IsValidRelation N, pk1 .bool, entry_en Try.func189 (code := Try.f189.body.getD .skip) (by kernel_rfl) (by kernel_rfl),
 fun relation => entry_ok tab_ok (es := impl_IsValidRelation_es N) (by kernel_rfl) mixed Try.func189 (by kernel_rfl) ⟨⟨rfl, rfl⟩, rfl, rfl⟩ (un1_pk .bool) (impl_IsValidRelation_v N relation)⟩
def impl_AreValidRelations_sg : Sig := ⟨[.val ty7], [(.bool, .dp)], false, false, none, none⟩
noncomputable def impl_AreValidRelations_es (N : Nat) : List (Entry Try.prog) := [impl_IsValidRelation_e N]
def impl_AreValidRelations_an : Nat → Option (List Nat)
 | 0 => some [0, 5, 6, 7]
 | _ => none
noncomputable def impl_AreValidRelations_lp (N : Nat) (p : List Dir) (rs : List (Env → Option (Bool))) (k : Nat) (env : Env) : Option (Bool) :=
 loopAt Tb (sigL (impl_AreValidRelations_es N)) cps (orcL (impl_AreValidRelations_es N)) N impl_AreValidRelations_an p (Try.f143.body.getD .skip) (endK Tb impl_AreValidRelations_sg Try.f143 [] (un1 .bool)) rs k env
noncomputable def impl_AreValidRelations_l0_E (N : Nat) (k_ : Nat) (relations2 : List (ByteArray × Int × Int)) (t5 : List (ByteArray × Int × Int)) (t6 : Int) (t7 : Int) : Option (Bool) :=
 impl_AreValidRelations_lp N [.r, .l, .r, .b] [] k_ (.con .val [lf ty7 relations2 .ro] :: (un 4 (.con .val [lf ty7 t5 .ro] :: (.con .val [lf i64 t6 .ro] :: (.con .val [lf i64 t7 .ro] :: (un 26 []))))))
theorem impl_AreValidRelations_l0_z (N : Nat) (relations2 : List (ByteArray × Int × Int)) (t5 : List (ByteArray × Int × Int)) (t6 : Int) (t7 : Int) : impl_AreValidRelations_l0_E N 0 relations2 t5 t6 t7 = none := by kernel_rfl
theorem impl_AreValidRelations_l0_s (N : Nat) (k_ : Nat) (relations2 : List (ByteArray × Int × Int)) (t5 : List (ByteArray × Int × Int)) (t6 : Int) (t7 : Int) : impl_AreValidRelations_l0_E N (k_ + 1) relations2 t5 t6 t7 = impl_AreValidRelations_l0_b N (impl_AreValidRelations_l0_E N k_) relations2 t5 t6 t7 := by kernel_rfl
theorem impl_AreValidRelations_l0_q (N : Nat) : ∀ k_, impl_AreValidRelations_l0_E N k_ = impl_AreValidRelations_l0 N k_
 | 0 => by funext relations2 t5 t6 t7; exact impl_AreValidRelations_l0_z N relations2 t5 t6 t7
 | k_ + 1 => by funext relations2 t5 t6 t7; rw [impl_AreValidRelations_l0_s]; simp only [impl_AreValidRelations_l0_q N k_]; rfl
theorem impl_AreValidRelations_v (N : Nat) (relations : List (ByteArray × Int × Int)) :
  evFn Tb (sigL (impl_AreValidRelations_es N)) cps (orcL (impl_AreValidRelations_es N)) (drawReg Tb (sigL (impl_AreValidRelations_es N)) cps (orcL (impl_AreValidRelations_es N))) N impl_AreValidRelations_an impl_AreValidRelations_sg Try.f143 (Try.f143.body.getD .skip) [.val ty7 relations] (un1 .bool) = impl_AreValidRelations_b N (impl_AreValidRelations_l0_E N N) relations := by kernel_rfl
noncomputable def impl_AreValidRelations_e (N : Nat) : Entry Try.prog := ⟨143, impl_AreValidRelations_sg, [.v ty7], Bool, impl_AreValidRelations N, pk1 .bool, entry_en Try.func143 (code := Try.f143.body.getD .skip) (by kernel_rfl) (by kernel_rfl),
 fun relations => entry_ok tab_ok (es := impl_AreValidRelations_es N) (by kernel_rfl) mixed Try.func143 (by kernel_rfl) ⟨⟨rfl, rfl⟩, rfl, rfl⟩ (un1_pk .bool) ((impl_AreValidRelations_v N relations).trans (by rw [impl_AreValidRelations_l0_q]; rfl))⟩
def impl_areValues_c1_sg : Sig := ⟨[.val i64], [(.bool, .dp)], false, false, none, none⟩
noncomputable def impl_areValues_c1_es (N : Nat) : List (Entry Try.prog) := [impl_within_e N]
def impl_areValues_c1_an : Nat → Option (List Nat) := fun _ => none
theorem impl_areValues_c1_v (N : Nat) (v : Int) :
  evFn Tb (sigL (impl_areValues_c1_es N)) cps (orcL (impl_areValues_c1_es N)) (drawReg Tb (sigL (impl_areValues_c1_es N)) cps (orcL (impl_areValues_c1_es N))) N impl_areValues_c1_an impl_areValues_c1_sg Try.f217 (Try.f217.body.getD .skip) [.val i64 v] (un1 .bool) = impl_areValues_c1 N v := by kernel_rfl
noncomputable def impl_areValues_c1_e (N : Nat) : Entry Try.prog := ⟨217, impl_areValues_c1_sg, [.v i64], Bool, impl_areValues_c1 N, pk1 .bool, entry_en Try.func217 (code := Try.f217.body.getD .skip) (by kernel_rfl) (by kernel_rfl),
 fun v => entry_ok tab_ok (es := impl_areValues_c1_es N) (by kernel_rfl) mixed Try.func217 (by kernel_rfl) ⟨⟨rfl, rfl⟩, rfl, rfl⟩ (un1_pk .bool) (impl_areValues_c1_v N v)⟩
def slices_IndexFunc_Lint_int_areValues_c1_sg : Sig := ⟨[.val ty0, .clo], [(i64, .dp)], false, false, none, none⟩
noncomputable def slices_IndexFunc_Lint_int_areValues_c1_es (N : Nat) : List (Entry Try.prog) := [impl_areValues_c1_e N]
def slices_IndexFunc_Lint_int_areValues_c1_an : Nat → Option (List Nat)
 | 0 => some [0, 1, 7, 8]
 | _ => none
noncomputable def slices_IndexFunc_Lint_int_areValues_c1_lp (N : Nat) (p : List Dir) (rs : List (Env → Option (Int))) (k : Nat) (env : Env) : Option (Int) :=
 loopAt Tb (sigL (slices_IndexFunc_Lint_int_areValues_c1_es N)) cps (orcL (slices_IndexFunc_Lint_int_areValues_c1_es N)) N slices_IndexFunc_Lint_int_areValues_c1_an p (Try.f167.body.getD .skip) (endK Tb slices_IndexFunc_Lint_int_areValues_c1_sg Try.f167 [] (un1 i64)) rs k env
noncomputable def slices_IndexFunc_Lint_int_areValues_c1_l0_E (N : Nat) (k_ : Nat) (s2 : List Int) (t7 : Int) (t8 : Int) : Option (Int) :=
 slices_IndexFunc_Lint_int_areValues_c1_lp N [.r, .l, .r, .b] [] k_ (.con .val [lf ty0 s2 .ro] :: (.cloR 217 [] :: (un 5 (.con .val [lf i64 t7 .ro] :: (.con .val [lf i64 t8 .ro] :: (un 10 []))))))
theorem slices_IndexFunc_Lint_int_areValues_c1_l0_z (N : Nat) (s2 : List Int) (t7 : Int) (t8 : Int) : slices_IndexFunc_Lint_int_areValues_c1_l0_E N 0 s2 t7 t8 = none := by kernel_rfl
theorem slices_IndexFunc_Lint_int_areValues_c1_l0_s (N : Nat) (k_ : Nat) (s2 : List Int) (t7 : Int) (t8 : Int) : slices_IndexFunc_Lint_int_areValues_c1_l0_E N (k_ + 1) s2 t7 t8 = slices_IndexFunc_Lint_int_areValues_c1_l0_b N (slices_IndexFunc_Lint_int_areValues_c1_l0_E N k_) s2 t7 t8 := by kernel_rfl
theorem slices_IndexFunc_Lint_int_areValues_c1_l0_q (N : Nat) : ∀ k_, slices_IndexFunc_Lint_int_areValues_c1_l0_E N k_ = slices_IndexFunc_Lint_int_areValues_c1_l0 N k_
 | 0 => by funext s2 t7 t8; exact slices_IndexFunc_Lint_int_areValues_c1_l0_z N s2 t7 t8
 | k_ + 1 => by funext s2 t7 t8; rw [slices_IndexFunc_Lint_int_areValues_c1_l0_s]; simp only [slices_IndexFunc_Lint_int_areValues_c1_l0_q N k_]; rfl
theorem slices_IndexFunc_Lint_int_areValues_c1_v (N : Nat) (s : List Int) :
  evFn Tb (sigL (slices_IndexFunc_Lint_int_areValues_c1_es N)) cps (orcL (slices_IndexFunc_Lint_int_areValues_c1_es N)) (drawReg Tb (sigL (slices_IndexFunc_Lint_int_areValues_c1_es N)) cps (orcL (slices_IndexFunc_Lint_int_areValues_c1_es N))) N slices_IndexFunc_Lint_int_areValues_c1_an slices_IndexFunc_Lint_int_areValues_c1_sg Try.f167 (Try.f167.body.getD .skip) [.val ty0 s, .clo 217 []] (un1 i64) = slices_IndexFunc_Lint_int_areValues_c1_b N (slices_IndexFunc_Lint_int_areValues_c1_l0_E N N) s := by kernel_rfl
noncomputable def slices_IndexFunc_Lint_int_areValues_c1_e (N : Nat) : Entry Try.prog := ⟨167, slices_IndexFunc_Lint_int_areValues_c1_sg, [.v ty0, .c 217 []], Int, slices_IndexFunc_Lint_int_areValues_c1 N, pk1 i64, entry_en Try.func167 (code := Try.f167.body.getD .skip) (by kernel_rfl) (by kernel_rfl),
 fun s => entry_ok tab_ok (es := slices_IndexFunc_Lint_int_areValues_c1_es N) (by kernel_rfl) mixed Try.func167 (by kernel_rfl) ⟨⟨rfl, rfl⟩, rfl, rfl⟩ (un1_pk i64) ((slices_IndexFunc_Lint_int_areValues_c1_v N s).trans (by rw [slices_IndexFunc_Lint_int_areValues_c1_l0_q]; rfl))⟩
def slices_ContainsFunc_Lint_int_areValues_c1_sg : Sig := ⟨[.val ty0, .clo], [(.bool, .dp)], false, false, none, none⟩
noncomputable def slices_ContainsFunc_Lint_int_areValues_c1_es (N : Nat) : List (Entry Try.prog) := [slices_IndexFunc_Lint_int_areValues_c1_e N]
def slices_ContainsFunc_Lint_int_areValues_c1_an : Nat → Option (List Nat) := fun _ => none
theorem slices_ContainsFunc_Lint_int_areValues_c1_v (N : Nat) (s : List Int) :
  evFn Tb (sigL (slices_ContainsFunc_Lint_int_areValues_c1_es N)) cps (orcL (slices_ContainsFunc_Lint_int_areValues_c1_es N)) (drawReg Tb (sigL (slices_ContainsFunc_Lint_int_areValues_c1_es N)) cps (orcL (slices_ContainsFunc_Lint_int_areValues_c1_es N))) N slices_ContainsFunc_Lint_int_areValues_c1_an slices_ContainsFunc_Lint_int_areValues_c1_sg Try.f119 (Try.f119.body.getD .skip) [.val ty0 s, .clo 217 []] (un1 .bool) = slices_ContainsFunc_Lint_int_areValues_c1 N s := by kernel_rfl
noncomputable def slices_ContainsFunc_Lint_int_areValues_c1_e (N : Nat) : Entry Try.prog := ⟨119, slices_ContainsFunc_Lint_int_areValues_c1_sg, [.v ty0, .c 217 []], Bool, slices_ContainsFunc_Lint_int_areValues_c1 N, pk1 .bool, entry_en Try.func119 (code := Try.f119.body.getD .skip) (by kernel_rfl) (by kernel_rfl),
 fun s => entry_ok tab_ok (es := slices_ContainsFunc_Lint_int_areValues_c1_es N) (by kernel_rfl) mixed Try.func119 (by kernel_rfl) ⟨⟨rfl, rfl⟩, rfl, rfl⟩ (un1_pk .bool) (slices_ContainsFunc_Lint_int_areValues_c1_v N s)⟩
def impl_areValues_sg : Sig := ⟨[.val ty0], [(.bool, .dp)], false, false, none, none⟩
noncomputable def impl_areValues_es (N : Nat) : List (Entry Try.prog) := [slices_ContainsFunc_Lint_int_areValues_c1_e N]
def impl_areValues_an : Nat → Option (List Nat) := fun _ => none
theorem impl_areValues_v (N : Nat) (list : List Int) :
  evFn Tb (sigL (impl_areValues_es N)) cps (orcL (impl_areValues_es N)) (drawReg Tb (sigL (impl_areValues_es N)) cps (orcL (impl_areValues_es N))) N impl_areValues_an impl_areValues_sg Try.f190 (Try.f190.body.getD .skip) [.val ty0 list] (un1 .bool) = impl_areValues N list := by kernel_rfl
noncomputable def impl_areValues_e (N : Nat) : Entry Try.prog := ⟨190, impl_areValues_sg, [.v ty0], Bool, impl_areValues N, pk1 .bool, entry_en Try.func190 (code := Try.f190.body.getD .skip) (by kernel_rfl) (by kernel_rfl),
 fun list => entry_ok tab_ok (es := impl_areValues_es N) (by kernel_rfl) mixed Try.func190 (by kernel_rfl) ⟨⟨rfl, rfl⟩, rfl, rfl⟩ (un1_pk .bool) (impl_areValues_v N list)⟩
def impl_isFact_sg : Sig := ⟨[.val ty7, .val ty3], [(.bool, .dp)], false, false, none, none⟩
noncomputable def impl_isFact_es (N : Nat) : List (Entry Try.prog) := [impl_within_e N, impl_areValues_e N]
def impl_isFact_an : Nat → Option (List Nat) := fun _ => none
theorem impl_isFact_v (N : Nat) (relations : List (ByteArray × Int × Int)) (fact : Int × List Int) :
  evFn Tb (sigL (impl_isFact_es N)) cps (orcL (impl_isFact_es N)) (drawReg Tb (sigL (impl_isFact_es N)) cps (orcL (impl_isFact_es N))) N impl_isFact_an impl_isFact_sg Try.f144 (Try.f144.body.getD .skip) [.val ty7 relations, .val ty3 fact] (un1 .bool) = impl_isFact N relations fact := by kernel_rfl
noncomputable def impl_isFact_e (N : Nat) : Entry Try.prog := ⟨144, impl_isFact_sg, [.v ty7, .v ty3], Bool, impl_isFact N, pk1 .bool, entry_en Try.func144 (code := Try.f144.body.getD .skip) (by kernel_rfl) (by kernel_rfl),
 fun relations fact => entry_ok tab_ok (es := impl_isFact_es N) (by kernel_rfl) mixed Try.func144 (by kernel_rfl) ⟨⟨rfl, rfl⟩, rfl, rfl⟩ (un1_pk .bool) (impl_isFact_v N relations fact)⟩
def impl_compare_sg : Sig := ⟨[.val i64, .val i64], [(i64, .dp)], false, false, none, none⟩
noncomputable def impl_compare_es (N : Nat) : List (Entry Try.prog) := []
def impl_compare_an : Nat → Option (List Nat) := fun _ => none
theorem impl_compare_v (N : Nat) (a : Int) (b : Int) :
  evFn Tb (sigL (impl_compare_es N)) cps (orcL (impl_compare_es N)) (drawReg Tb (sigL (impl_compare_es N)) cps (orcL (impl_compare_es N))) N impl_compare_an impl_compare_sg Try.f177 (Try.f177.body.getD .skip) [.val i64 a, .val i64 b] (un1 i64) = impl_compare N a b := by kernel_rfl
noncomputable def impl_compare_e (N : Nat) : Entry Try.prog := ⟨177, impl_compare_sg, [.v i64, .v i64], Int, impl_compare N, pk1 i64, entry_en Try.func177 (code := Try.f177.body.getD .skip) (by kernel_rfl) (by kernel_rfl),
 fun a b => entry_ok tab_ok (es := impl_compare_es N) (by kernel_rfl) mixed Try.func177 (by kernel_rfl) ⟨⟨rfl, rfl⟩, rfl, rfl⟩ (un1_pk i64) (impl_compare_v N a b)⟩
def cmp_isNaN_int_sg : Sig := ⟨[.val i64], [(.bool, .dp)], false, false, none, none⟩
noncomputable def cmp_isNaN_int_es (N : Nat) : List (Entry Try.prog) := []
def cmp_isNaN_int_an : Nat → Option (List Nat) := fun _ => none
theorem cmp_isNaN_int_v (N : Nat) (x : Int) :
  evFn Tb (sigL (cmp_isNaN_int_es N)) cps (orcL (cmp_isNaN_int_es N)) (drawReg Tb (sigL (cmp_isNaN_int_es N)) cps (orcL (cmp_isNaN_int_es N))) N cmp_isNaN_int_an cmp_isNaN_int_sg Try.f224 (Try.f224.body.getD .skip) [.val i64 x] (un1 .bool) = cmp_isNaN_int N x := by kernel_rfl
noncomputable def cmp_isNaN_int_e (N : Nat) : Entry Try.prog := ⟨224, cmp_isNaN_int_sg, [.v i64], Bool, cmp_isNaN_int N, pk1 .bool, entry_en Try.func224 (code := Try.f224.body.getD .skip) (by kernel_rfl) (by kernel_rfl),
 fun x => entry_ok tab_ok (es := cmp_isNaN_int_es N) (by kernel_rfl) mixed Try.func224 (by kernel_rfl) ⟨⟨rfl, rfl⟩, rfl, rfl⟩ (un1_pk .bool) (cmp_isNaN_int_v N x)⟩
def cmp_Compare_int_sg : Sig := ⟨[.val i64, .val i64], [(i64, .dp)], false, false, none, none⟩
noncomputable def cmp_Compare_int_es (N : Nat) : List (Entry Try.prog) := [cmp_isNaN_int_e N]
def cmp_Compare_int_an : Nat → Option (List Nat) := fun _ => none
theorem cmp_Compare_int_v (N : Nat) (x : Int) (y : Int) :
  evFn Tb (sigL (cmp_Compare_int_es N)) cps (orcL (cmp_Compare_int_es N)) (drawReg Tb (sigL (cmp_Compare_int_es N)) cps (orcL (cmp_Compare_int_es N))) N cmp_Compare_int_an cmp_Compare_int_sg Try.f211 (Try.f211.body.getD .skip) [.val i64 x, .val i64 y] (un1 i64) = cmp_Compare_int N x y := by kernel_rfl
noncomputable def cmp_Compare_int_e (N : Nat) : Entry Try.prog := ⟨211, cmp_Compare_int_sg, [.v i64, .v i64], Int, cmp_Compare_int N, pk1 i64, entry_en Try.func211 (code := Try.f211.body.getD .skip) (by kernel_rfl) (by kernel_rfl),
 fun x y => entry_ok tab_ok (es := cmp_Compare_int_es N) (by kernel_rfl) mixed Try.func211 (by kernel_rfl) ⟨⟨rfl, rfl⟩, rfl, rfl⟩ (un1_pk i64) (cmp_Compare_int_v N x y)⟩
def slices_Compare_Lint_int_sg : Sig := ⟨[.val ty0, .val ty0], [(i64, .dp)], false, false, none, none⟩
noncomputable def slices_Compare_Lint_int_es (N : Nat) : List (Entry Try.prog) := [cmp_Compare_int_e N]
def slices_Compare_Lint_int_an : Nat → Option (List Nat)
 | 0 => some [0, 1, 9, 10, 11]
 | _ => none
noncomputable def slices_Compare_Lint_int_lp (N : Nat) (p : List Dir) (rs : List (Env → Option (Int))) (k : Nat) (env : Env) : Option (Int) :=
 loopAt Tb (sigL (slices_Compare_Lint_int_es N)) cps (orcL (slices_Compare_Lint_int_es N)) N slices_Compare_Lint_int_an p (Try.f178.body.getD .skip) (endK Tb slices_Compare_Lint_int_sg Try.f178 [] (un1 i64)) rs k env
noncomputable def slices_Compare_Lint_int_l0_E (N : Nat) (k_ : Nat) (s12 : List Int) (s22 : List Int) (t9 : List Int) (t10 : Int) (t11 : Int) : Option (Int) :=
 slices_Compare_Lint_int_lp N [.r, .l, .r, .b] [] k_ (.con .val [lf ty0 s12 .ro] :: (.con .val [lf ty0 s22 .ro] :: (un 7 (.con .val [lf ty0 t9 .ro] :: (.con .val [lf i64 t10 .ro] :: (.con .val [lf i64 t11 .ro] :: (un 24 [])))))))
theorem slices_Compare_Lint_int_l0_z (N : Nat) (s12 : List Int) (s22 : List Int) (t9 : List Int) (t10 : Int) (t11 : Int) : slices_Compare_Lint_int_l0_E N 0 s12 s22 t9 t10 t11 = none := by kernel_rfl
theorem slices_Compare_Lint_int_l0_s (N : Nat) (k_ : Nat) (s12 : List Int) (s22 : List Int) (t9 : List Int) (t10 : Int) (t11 : Int) : slices_Compare_Lint_int_l0_E N (k_ + 1) s12 s22 t9 t10 t11 = slices_Compare_Lint_int_l0_b N (slices_Compare_Lint_int_l0_E N k_) s12 s22 t9 t10 t11 := by kernel_rfl
theorem slices_Compare_Lint_int_l0_q (N : Nat) : ∀ k_, slices_Compare_Lint_int_l0_E N k_ = slices_Compare_Lint_int_l0 N k_
 | 0 => by funext s12 s22 t9 t10 t11; exact slices_Compare_Lint_int_l0_z N s12 s22 t9 t10 t11
 | k_ + 1 => by funext s12 s22 t9 t10 t11; rw [slices_Compare_Lint_int_l0_s]; simp only [slices_Compare_Lint_int_l0_q N k_]; rfl
theorem slices_Compare_Lint_int_v (N : Nat) (s1 : List Int) (s2 : List Int) :
  evFn Tb (sigL (slices_Compare_Lint_int_es N)) cps (orcL (slices_Compare_Lint_int_es N)) (drawReg Tb (sigL (slices_Compare_Lint_int_es N)) cps (orcL (slices_Compare_Lint_int_es N))) N slices_Compare_Lint_int_an slices_Compare_Lint_int_sg Try.f178 (Try.f178.body.getD .skip) [.val ty0 s1, .val ty0 s2] (un1 i64) = slices_Compare_Lint_int_b N (slices_Compare_Lint_int_l0_E N N) s1 s2 := by kernel_rfl
noncomputable def slices_Compare_Lint_int_e (N : Nat) : Entry Try.prog := ⟨178, slices_Compare_Lint_int_sg, [.v ty0, .v ty0], Int, slices_Compare_Lint_int N, pk1 i64, entry_en Try.func178 (code := Try.f178.body.getD .skip) (by kernel_rfl) (by kernel_rfl),
 fun s1 s2 => entry_ok tab_ok (es := slices_Compare_Lint_int_es N) (by kernel_rfl) mixed Try.func178 (by kernel_rfl) ⟨⟨rfl, rfl⟩, rfl, rfl⟩ (un1_pk i64) ((slices_Compare_Lint_int_v N s1 s2).trans (by rw [slices_Compare_Lint_int_l0_q]; rfl))⟩
def impl_CompareFacts_sg : Sig := ⟨[.val ty3, .val ty3], [(i64, .dp)], false, false, none, none⟩
noncomputable def impl_CompareFacts_es (N : Nat) : List (Entry Try.prog) := [impl_compare_e N, slices_Compare_Lint_int_e N]
def impl_CompareFacts_an : Nat → Option (List Nat) := fun _ => none
theorem impl_CompareFacts_v (N : Nat) (a : Int × List Int) (b : Int × List Int) :
  evFn Tb (sigL (impl_CompareFacts_es N)) cps (orcL (impl_CompareFacts_es N)) (drawReg Tb (sigL (impl_CompareFacts_es N)) cps (orcL (impl_CompareFacts_es N))) N impl_CompareFacts_an impl_CompareFacts_sg Try.f132 (Try.f132.body.getD .skip) [.val ty3 a, .val ty3 b] (un1 i64) = impl_CompareFacts N a b := by kernel_rfl
noncomputable def impl_CompareFacts_e (N : Nat) : Entry Try.prog := ⟨132, impl_CompareFacts_sg, [.v ty3, .v ty3], Int, impl_CompareFacts N, pk1 i64, entry_en Try.func132 (code := Try.f132.body.getD .skip) (by kernel_rfl) (by kernel_rfl),
 fun a b => entry_ok tab_ok (es := impl_CompareFacts_es N) (by kernel_rfl) mixed Try.func132 (by kernel_rfl) ⟨⟨rfl, rfl⟩, rfl, rfl⟩ (un1_pk i64) (impl_CompareFacts_v N a b)⟩
def impl_IsValidDatabase_sg : Sig := ⟨[.val ty9], [(.bool, .dp)], false, false, none, none⟩
noncomputable def impl_IsValidDatabase_es (N : Nat) : List (Entry Try.prog) := [impl_isFact_e N, impl_CompareFacts_e N, impl_AreValidRelations_e N]
def impl_IsValidDatabase_an : Nat → Option (List Nat)
 | 0 => some [1, 16, 17, 18]
 | _ => none
noncomputable def impl_IsValidDatabase_lp (N : Nat) (p : List Dir) (rs : List (Env → Option (Bool))) (k : Nat) (env : Env) : Option (Bool) :=
 loopAt Tb (sigL (impl_IsValidDatabase_es N)) cps (orcL (impl_IsValidDatabase_es N)) N impl_IsValidDatabase_an p (Try.f79.body.getD .skip) (endK Tb impl_IsValidDatabase_sg Try.f79 [] (un1 .bool)) rs k env
noncomputable def impl_IsValidDatabase_l0_E (N : Nat) (k_ : Nat) (db2 : List (ByteArray × Int × Int)) (db3 : List (Int × List Int)) (t16 : List (Int × List Int)) (t17 : Int) (t18 : Int) : Option (Bool) :=
 impl_IsValidDatabase_lp N [.r, .r, .l, .r, .b] [] k_ (un 1 (.con (.box ⟨27, false, []⟩) [lf ty7 db2 .ro, lf ty8 db3 .ro] :: (un 14 (.con .val [lf ty8 t16 .ro] :: (.con .val [lf i64 t17 .ro] :: (.con .val [lf i64 t18 .ro] :: (un 25 [])))))))
theorem impl_IsValidDatabase_l0_z (N : Nat) (db2 : List (ByteArray × Int × Int)) (db3 : List (Int × List Int)) (t16 : List (Int × List Int)) (t17 : Int) (t18 : Int) : impl_IsValidDatabase_l0_E N 0 db2 db3 t16 t17 t18 = none := by kernel_rfl
theorem impl_IsValidDatabase_l0_s (N : Nat) (k_ : Nat) (db2 : List (ByteArray × Int × Int)) (db3 : List (Int × List Int)) (t16 : List (Int × List Int)) (t17 : Int) (t18 : Int) : impl_IsValidDatabase_l0_E N (k_ + 1) db2 db3 t16 t17 t18 = impl_IsValidDatabase_l0_b N (impl_IsValidDatabase_l0_E N k_) db2 db3 t16 t17 t18 := by kernel_rfl
theorem impl_IsValidDatabase_l0_q (N : Nat) : ∀ k_, impl_IsValidDatabase_l0_E N k_ = impl_IsValidDatabase_l0 N k_
 | 0 => by funext db2 db3 t16 t17 t18; exact impl_IsValidDatabase_l0_z N db2 db3 t16 t17 t18
 | k_ + 1 => by funext db2 db3 t16 t17 t18; rw [impl_IsValidDatabase_l0_s]; simp only [impl_IsValidDatabase_l0_q N k_]; rfl
theorem impl_IsValidDatabase_v (N : Nat) (db : List (ByteArray × Int × Int) × List (Int × List Int)) :
  evFn Tb (sigL (impl_IsValidDatabase_es N)) cps (orcL (impl_IsValidDatabase_es N)) (drawReg Tb (sigL (impl_IsValidDatabase_es N)) cps (orcL (impl_IsValidDatabase_es N))) N impl_IsValidDatabase_an impl_IsValidDatabase_sg Try.f79 (Try.f79.body.getD .skip) [.val ty9 db] (un1 .bool) = impl_IsValidDatabase_b N (impl_IsValidDatabase_l0_E N N) db := by kernel_rfl
noncomputable def impl_IsValidDatabase_e (N : Nat) : Entry Try.prog := ⟨79, impl_IsValidDatabase_sg, [.v ty9], Bool, impl_IsValidDatabase N, pk1 .bool, entry_en Try.func79 (code := Try.f79.body.getD .skip) (by kernel_rfl) (by kernel_rfl),
 fun db => entry_ok tab_ok (es := impl_IsValidDatabase_es N) (by kernel_rfl) mixed Try.func79 (by kernel_rfl) ⟨⟨rfl, rfl⟩, rfl, rfl⟩ (un1_pk .bool) ((impl_IsValidDatabase_v N db).trans (by rw [impl_IsValidDatabase_l0_q]; rfl))⟩
def impl_IsValidConstraint_sg : Sig := ⟨[.val ty9, .val ty10], [(.bool, .dp)], false, false, none, none⟩
noncomputable def impl_IsValidConstraint_es (N : Nat) : List (Entry Try.prog) := [impl_IsValidDatabase_e N, impl_within_e N]
def impl_IsValidConstraint_an : Nat → Option (List Nat) := fun _ => none
theorem impl_IsValidConstraint_v (N : Nat) (db : List (ByteArray × Int × Int) × List (Int × List Int)) (constraint : Int × Int × Int × Int × Int × Int × Int) :
  evFn Tb (sigL (impl_IsValidConstraint_es N)) cps (orcL (impl_IsValidConstraint_es N)) (drawReg Tb (sigL (impl_IsValidConstraint_es N)) cps (orcL (impl_IsValidConstraint_es N))) N impl_IsValidConstraint_an impl_IsValidConstraint_sg Try.f198 (Try.f198.body.getD .skip) [.val ty9 db, .val ty10 constraint] (un1 .bool) = impl_IsValidConstraint N db constraint := by kernel_rfl
noncomputable def impl_IsValidConstraint_e (N : Nat) : Entry Try.prog := ⟨198, impl_IsValidConstraint_sg, [.v ty9, .v ty10], Bool, impl_IsValidConstraint N, pk1 .bool, entry_en Try.func198 (code := Try.f198.body.getD .skip) (by kernel_rfl) (by kernel_rfl),
 fun db constraint => entry_ok tab_ok (es := impl_IsValidConstraint_es N) (by kernel_rfl) mixed Try.func198 (by kernel_rfl) ⟨⟨rfl, rfl⟩, rfl, rfl⟩ (un1_pk .bool) (impl_IsValidConstraint_v N db constraint)⟩
def impl_violates_sg : Sig := ⟨[.val ty10, .val ty3, .val ty3], [(.bool, .dp)], false, false, none, none⟩
noncomputable def impl_violates_es (N : Nat) : List (Entry Try.prog) := []
def impl_violates_an : Nat → Option (List Nat) := fun _ => none
theorem impl_violates_v (N : Nat) (c : Int × Int × Int × Int × Int × Int × Int) (a : Int × List Int) (b : Int × List Int) :
  evFn Tb (sigL (impl_violates_es N)) cps (orcL (impl_violates_es N)) (drawReg Tb (sigL (impl_violates_es N)) cps (orcL (impl_violates_es N))) N impl_violates_an impl_violates_sg Try.f199 (Try.f199.body.getD .skip) [.val ty10 c, .val ty3 a, .val ty3 b] (un1 .bool) = impl_violates N c a b := by kernel_rfl
noncomputable def impl_violates_e (N : Nat) : Entry Try.prog := ⟨199, impl_violates_sg, [.v ty10, .v ty3, .v ty3], Bool, impl_violates N, pk1 .bool, entry_en Try.func199 (code := Try.f199.body.getD .skip) (by kernel_rfl) (by kernel_rfl),
 fun c a b => entry_ok tab_ok (es := impl_violates_es N) (by kernel_rfl) mixed Try.func199 (by kernel_rfl) ⟨⟨rfl, rfl⟩, rfl, rfl⟩ (un1_pk .bool) (impl_violates_v N c a b)⟩
def impl_ViolatesConstraint_sg : Sig := ⟨[.val ty9, .val ty10, .val i64, .val i64], [(.bool, .dp)], false, false, none, none⟩
noncomputable def impl_ViolatesConstraint_es (N : Nat) : List (Entry Try.prog) := [impl_IsValidConstraint_e N, impl_within_e N, impl_violates_e N]
def impl_ViolatesConstraint_an : Nat → Option (List Nat) := fun _ => none
theorem impl_ViolatesConstraint_v (N : Nat) (db : List (ByteArray × Int × Int) × List (Int × List Int)) (constraint : Int × Int × Int × Int × Int × Int × Int) (first : Int) (second : Int) :
  evFn Tb (sigL (impl_ViolatesConstraint_es N)) cps (orcL (impl_ViolatesConstraint_es N)) (drawReg Tb (sigL (impl_ViolatesConstraint_es N)) cps (orcL (impl_ViolatesConstraint_es N))) N impl_ViolatesConstraint_an impl_ViolatesConstraint_sg Try.f172 (Try.f172.body.getD .skip) [.val ty9 db, .val ty10 constraint, .val i64 first, .val i64 second] (un1 .bool) = impl_ViolatesConstraint N db constraint first second := by kernel_rfl
noncomputable def impl_ViolatesConstraint_e (N : Nat) : Entry Try.prog := ⟨172, impl_ViolatesConstraint_sg, [.v ty9, .v ty10, .v i64, .v i64], Bool, impl_ViolatesConstraint N, pk1 .bool, entry_en Try.func172 (code := Try.f172.body.getD .skip) (by kernel_rfl) (by kernel_rfl),
 fun db constraint first second => entry_ok tab_ok (es := impl_ViolatesConstraint_es N) (by kernel_rfl) mixed Try.func172 (by kernel_rfl) ⟨⟨rfl, rfl⟩, rfl, rfl⟩ (un1_pk .bool) (impl_ViolatesConstraint_v N db constraint first second)⟩
def slices_Equal_Lint_int_sg : Sig := ⟨[.val ty0, .val ty0], [(.bool, .dp)], false, false, none, none⟩
noncomputable def slices_Equal_Lint_int_es (N : Nat) : List (Entry Try.prog) := []
def slices_Equal_Lint_int_an : Nat → Option (List Nat)
 | 0 => some [0, 1, 12, 13]
 | _ => none
noncomputable def slices_Equal_Lint_int_lp (N : Nat) (p : List Dir) (rs : List (Env → Option (Bool))) (k : Nat) (env : Env) : Option (Bool) :=
 loopAt Tb (sigL (slices_Equal_Lint_int_es N)) cps (orcL (slices_Equal_Lint_int_es N)) N slices_Equal_Lint_int_an p (Try.f196.body.getD .skip) (endK Tb slices_Equal_Lint_int_sg Try.f196 [] (un1 .bool)) rs k env
noncomputable def slices_Equal_Lint_int_l0_E (N : Nat) (k_ : Nat) (s12 : List Int) (s22 : List Int) (t12 : Int) (t13 : Int) : Option (Bool) :=
 slices_Equal_Lint_int_lp N [.r, .r, .l, .r, .b] [] k_ (.con .val [lf ty0 s12 .ro] :: (.con .val [lf ty0 s22 .ro] :: (un 10 (.con .val [lf i64 t12 .ro] :: (.con .val [lf i64 t13 .ro] :: (un 12 []))))))
theorem slices_Equal_Lint_int_l0_z (N : Nat) (s12 : List Int) (s22 : List Int) (t12 : Int) (t13 : Int) : slices_Equal_Lint_int_l0_E N 0 s12 s22 t12 t13 = none := by kernel_rfl
theorem slices_Equal_Lint_int_l0_s (N : Nat) (k_ : Nat) (s12 : List Int) (s22 : List Int) (t12 : Int) (t13 : Int) : slices_Equal_Lint_int_l0_E N (k_ + 1) s12 s22 t12 t13 = slices_Equal_Lint_int_l0_b N (slices_Equal_Lint_int_l0_E N k_) s12 s22 t12 t13 := by kernel_rfl
theorem slices_Equal_Lint_int_l0_q (N : Nat) : ∀ k_, slices_Equal_Lint_int_l0_E N k_ = slices_Equal_Lint_int_l0 N k_
 | 0 => by funext s12 s22 t12 t13; exact slices_Equal_Lint_int_l0_z N s12 s22 t12 t13
 | k_ + 1 => by funext s12 s22 t12 t13; rw [slices_Equal_Lint_int_l0_s]; simp only [slices_Equal_Lint_int_l0_q N k_]; rfl
theorem slices_Equal_Lint_int_v (N : Nat) (s1 : List Int) (s2 : List Int) :
  evFn Tb (sigL (slices_Equal_Lint_int_es N)) cps (orcL (slices_Equal_Lint_int_es N)) (drawReg Tb (sigL (slices_Equal_Lint_int_es N)) cps (orcL (slices_Equal_Lint_int_es N))) N slices_Equal_Lint_int_an slices_Equal_Lint_int_sg Try.f196 (Try.f196.body.getD .skip) [.val ty0 s1, .val ty0 s2] (un1 .bool) = slices_Equal_Lint_int_b N (slices_Equal_Lint_int_l0_E N N) s1 s2 := by kernel_rfl
noncomputable def slices_Equal_Lint_int_e (N : Nat) : Entry Try.prog := ⟨196, slices_Equal_Lint_int_sg, [.v ty0, .v ty0], Bool, slices_Equal_Lint_int N, pk1 .bool, entry_en Try.func196 (code := Try.f196.body.getD .skip) (by kernel_rfl) (by kernel_rfl),
 fun s1 s2 => entry_ok tab_ok (es := slices_Equal_Lint_int_es N) (by kernel_rfl) mixed Try.func196 (by kernel_rfl) ⟨⟨rfl, rfl⟩, rfl, rfl⟩ (un1_pk .bool) ((slices_Equal_Lint_int_v N s1 s2).trans (by rw [slices_Equal_Lint_int_l0_q]; rfl))⟩
def impl_sameKey_sg : Sig := ⟨[.val ty7, .val ty3, .val ty3], [(.bool, .dp)], false, false, none, none⟩
noncomputable def impl_sameKey_es (N : Nat) : List (Entry Try.prog) := [slices_Equal_Lint_int_e N]
def impl_sameKey_an : Nat → Option (List Nat) := fun _ => none
theorem impl_sameKey_v (N : Nat) (relations : List (ByteArray × Int × Int)) (a : Int × List Int) (b : Int × List Int) :
  evFn Tb (sigL (impl_sameKey_es N)) cps (orcL (impl_sameKey_es N)) (drawReg Tb (sigL (impl_sameKey_es N)) cps (orcL (impl_sameKey_es N))) N impl_sameKey_an impl_sameKey_sg Try.f162 (Try.f162.body.getD .skip) [.val ty7 relations, .val ty3 a, .val ty3 b] (un1 .bool) = impl_sameKey N relations a b := by kernel_rfl
noncomputable def impl_sameKey_e (N : Nat) : Entry Try.prog := ⟨162, impl_sameKey_sg, [.v ty7, .v ty3, .v ty3], Bool, impl_sameKey N, pk1 .bool, entry_en Try.func162 (code := Try.f162.body.getD .skip) (by kernel_rfl) (by kernel_rfl),
 fun relations a b => entry_ok tab_ok (es := impl_sameKey_es N) (by kernel_rfl) mixed Try.func162 (by kernel_rfl) ⟨⟨rfl, rfl⟩, rfl, rfl⟩ (un1_pk .bool) (impl_sameKey_v N relations a b)⟩
def impl_ConflictEdges_c1_sg : Sig := ⟨[.val i64, .val i64, .ptr ty11, .ptr ty9], [(.bool, .dp)], false, false, none, none⟩
noncomputable def impl_ConflictEdges_c1_es (N : Nat) : List (Entry Try.prog) := [impl_ViolatesConstraint_e N, impl_sameKey_e N]
def impl_ConflictEdges_c1_an : Nat → Option (List Nat)
 | 0 => some [0, 1, 3, 9, 10, 11]
 | _ => none
noncomputable def impl_ConflictEdges_c1_lp (N : Nat) (p : List Dir) (rs : List (Env → Option (Bool))) (k : Nat) (env : Env) : Option (Bool) :=
 loopAt Tb (sigL (impl_ConflictEdges_c1_es N)) cps (orcL (impl_ConflictEdges_c1_es N)) N impl_ConflictEdges_c1_an p (Try.f171.body.getD .skip) (endK Tb impl_ConflictEdges_c1_sg Try.f171 [] (un1 .bool)) rs k env
noncomputable def impl_ConflictEdges_c1_l0_E (N : Nat) (k_ : Nat) (a2 : Int) (b2 : Int) (t3 : List (ByteArray × Int × Int)) (t32 : List (Int × List Int)) (t9 : List (Int × Int × Int × Int × Int × Int × Int)) (t10 : Int) (t11 : Int) : Option (Bool) :=
 impl_ConflictEdges_c1_lp N [.r, .l, .r, .b] [] k_ (.con .val [lf i64 a2 .ro] :: (.con .val [lf i64 b2 .ro] :: (un 1 (.eptr [lf ty7 t3 .ro, lf ty8 t32 .ro] none :: (un 5 (.con .val [lf ty11 t9 .ro] :: (.con .val [lf i64 t10 .ro] :: (.con .val [lf i64 t11 .ro] :: (un 29 [])))))))))
theorem impl_ConflictEdges_c1_l0_z (N : Nat) (a2 : Int) (b2 : Int) (t3 : List (ByteArray × Int × Int)) (t32 : List (Int × List Int)) (t9 : List (Int × Int × Int × Int × Int × Int × Int)) (t10 : Int) (t11 : Int) : impl_ConflictEdges_c1_l0_E N 0 a2 b2 t3 t32 t9 t10 t11 = none := by kernel_rfl
theorem impl_ConflictEdges_c1_l0_s (N : Nat) (k_ : Nat) (a2 : Int) (b2 : Int) (t3 : List (ByteArray × Int × Int)) (t32 : List (Int × List Int)) (t9 : List (Int × Int × Int × Int × Int × Int × Int)) (t10 : Int) (t11 : Int) : impl_ConflictEdges_c1_l0_E N (k_ + 1) a2 b2 t3 t32 t9 t10 t11 = impl_ConflictEdges_c1_l0_b N (impl_ConflictEdges_c1_l0_E N k_) a2 b2 t3 t32 t9 t10 t11 := by kernel_rfl
theorem impl_ConflictEdges_c1_l0_q (N : Nat) : ∀ k_, impl_ConflictEdges_c1_l0_E N k_ = impl_ConflictEdges_c1_l0 N k_
 | 0 => by funext a2 b2 t3 t32 t9 t10 t11; exact impl_ConflictEdges_c1_l0_z N a2 b2 t3 t32 t9 t10 t11
 | k_ + 1 => by funext a2 b2 t3 t32 t9 t10 t11; rw [impl_ConflictEdges_c1_l0_s]; simp only [impl_ConflictEdges_c1_l0_q N k_]; rfl
theorem impl_ConflictEdges_c1_v (N : Nat) (a : Int) (b : Int) (c2 : List (Int × Int × Int × Int × Int × Int × Int)) (c3 : List (ByteArray × Int × Int) × List (Int × List Int)) :
  evFn Tb (sigL (impl_ConflictEdges_c1_es N)) cps (orcL (impl_ConflictEdges_c1_es N)) (drawReg Tb (sigL (impl_ConflictEdges_c1_es N)) cps (orcL (impl_ConflictEdges_c1_es N))) N impl_ConflictEdges_c1_an impl_ConflictEdges_c1_sg Try.f171 (Try.f171.body.getD .skip) [.val i64 a, .val i64 b, .ptr ty11 c2, .ptr ty9 c3] (un1 .bool) = impl_ConflictEdges_c1_b N (impl_ConflictEdges_c1_l0_E N N) a b c2 c3 := by kernel_rfl
noncomputable def impl_ConflictEdges_c1_e (N : Nat) : Entry Try.prog := ⟨171, impl_ConflictEdges_c1_sg, [.v i64, .v i64, .p ty11, .p ty9], Bool, impl_ConflictEdges_c1 N, pk1 .bool, entry_en Try.func171 (code := Try.f171.body.getD .skip) (by kernel_rfl) (by kernel_rfl),
 fun a b c2 c3 => entry_ok tab_ok (es := impl_ConflictEdges_c1_es N) (by kernel_rfl) mixed Try.func171 (by kernel_rfl) ⟨⟨rfl, rfl⟩, rfl, rfl⟩ (un1_pk .bool) ((impl_ConflictEdges_c1_v N a b c2 c3).trans (by rw [impl_ConflictEdges_c1_l0_q]; rfl))⟩
def impl_pairs_ConflictEdges_c1_sg : Sig := ⟨[.val i64, .clo], [(ty12, .dp)], false, false, none, none⟩
noncomputable def impl_pairs_ConflictEdges_c1_es (N : Nat) : List (Entry Try.prog) := [impl_ConflictEdges_c1_e N]
def impl_pairs_ConflictEdges_c1_an : Nat → Option (List Nat)
 | 0 => some [0, 1, 5, 9, 10]
 | 2 => some [0, 1, 5, 6, 7, 9, 10]
 | _ => none
noncomputable def impl_pairs_ConflictEdges_c1_lp (N : Nat) (p : List Dir) (rs : List (Env → Option (List (Int × Int)))) (k : Nat) (env : Env) : Option (List (Int × Int)) :=
 loopAt Tb (sigL (impl_pairs_ConflictEdges_c1_es N)) cps (orcL (impl_pairs_ConflictEdges_c1_es N)) N impl_pairs_ConflictEdges_c1_an p (Try.f170.body.getD .skip) (endK Tb impl_pairs_ConflictEdges_c1_sg Try.f170 [] (un1 ty12)) rs k env
noncomputable def impl_pairs_ConflictEdges_c1_l1_E (N : Nat) (k0_ : Nat) (k_ : Nat) (n3 : Int) (holds3 : List (Int × Int × Int × Int × Int × Int × Int)) (holds4 : List (ByteArray × Int × Int) × List (Int × List Int)) (out2 : List (Int × Int)) (a : Int) (b : Int) (t92 : Int) (t102 : Int) : Option (List (Int × Int)) :=
 impl_pairs_ConflictEdges_c1_lp N [.r, .r, .l, .r, .b, .b, .r, .r, .l, .b, .r, .r, .b] [impl_pairs_ConflictEdges_c1_lp N [.r, .r, .l, .r, .b] [] k0_] k_ (.con .val [lf i64 n3 .ro] :: (.cloR 171 [⟨ty11, holds3⟩, ⟨ty9, holds4⟩] :: (un 3 (.con .val [lf ty12 out2 .dp] :: (.con .val [lf i64 a .ro] :: (.con .val [lf i64 b .ro] :: (un 1 (.con .val [lf i64 t92 .ro] :: (.con .val [lf i64 t102 .ro] :: (un 21 []))))))))))
noncomputable def impl_pairs_ConflictEdges_c1_l0_E (N : Nat) (k_ : Nat) (n2 : Int) (holds : List (Int × Int × Int × Int × Int × Int × Int)) (holds2 : List (ByteArray × Int × Int) × List (Int × List Int)) (out : List (Int × Int)) (t9 : Int) (t10 : Int) : Option (List (Int × Int)) :=
 impl_pairs_ConflictEdges_c1_lp N [.r, .r, .l, .r, .b] [] k_ (.con .val [lf i64 n2 .ro] :: (.cloR 171 [⟨ty11, holds⟩, ⟨ty9, holds2⟩] :: (un 3 (.con .val [lf ty12 out .dp] :: (un 3 (.con .val [lf i64 t9 .ro] :: (.con .val [lf i64 t10 .ro] :: (un 21 []))))))))
theorem impl_pairs_ConflictEdges_c1_l1_z (N : Nat) (k0_ : Nat) (n3 : Int) (holds3 : List (Int × Int × Int × Int × Int × Int × Int)) (holds4 : List (ByteArray × Int × Int) × List (Int × List Int)) (out2 : List (Int × Int)) (a : Int) (b : Int) (t92 : Int) (t102 : Int) : impl_pairs_ConflictEdges_c1_l1_E N k0_ 0 n3 holds3 holds4 out2 a b t92 t102 = none := by kernel_rfl
theorem impl_pairs_ConflictEdges_c1_l1_s (N : Nat) (k0_ : Nat) (k_ : Nat) (n3 : Int) (holds3 : List (Int × Int × Int × Int × Int × Int × Int)) (holds4 : List (ByteArray × Int × Int) × List (Int × List Int)) (out2 : List (Int × Int)) (a : Int) (b : Int) (t92 : Int) (t102 : Int) : impl_pairs_ConflictEdges_c1_l1_E N k0_ (k_ + 1) n3 holds3 holds4 out2 a b t92 t102 = impl_pairs_ConflictEdges_c1_l1_b N (impl_pairs_ConflictEdges_c1_l0_E N k0_) (impl_pairs_ConflictEdges_c1_l1_E N k0_ k_) n3 holds3 holds4 out2 a b t92 t102 := by kernel_rfl
theorem impl_pairs_ConflictEdges_c1_l0_z (N : Nat) (n2 : Int) (holds : List (Int × Int × Int × Int × Int × Int × Int)) (holds2 : List (ByteArray × Int × Int) × List (Int × List Int)) (out : List (Int × Int)) (t9 : Int) (t10 : Int) : impl_pairs_ConflictEdges_c1_l0_E N 0 n2 holds holds2 out t9 t10 = none := by kernel_rfl
theorem impl_pairs_ConflictEdges_c1_l0_s (N : Nat) (k_ : Nat) (n2 : Int) (holds : List (Int × Int × Int × Int × Int × Int × Int)) (holds2 : List (ByteArray × Int × Int) × List (Int × List Int)) (out : List (Int × Int)) (t9 : Int) (t10 : Int) : impl_pairs_ConflictEdges_c1_l0_E N (k_ + 1) n2 holds holds2 out t9 t10 = impl_pairs_ConflictEdges_c1_l0_b N (impl_pairs_ConflictEdges_c1_l1_E N k_ N) (impl_pairs_ConflictEdges_c1_l0_E N k_) n2 holds holds2 out t9 t10 := by kernel_rfl
theorem impl_pairs_ConflictEdges_c1_l1_q (N : Nat) (k0_ : Nat) : ∀ k_, impl_pairs_ConflictEdges_c1_l1_E N k0_ k_ = impl_pairs_ConflictEdges_c1_l1 (impl_pairs_ConflictEdges_c1_l0_E N k0_) N k_
 | 0 => by funext n3 holds3 holds4 out2 a b t92 t102; exact impl_pairs_ConflictEdges_c1_l1_z N k0_ n3 holds3 holds4 out2 a b t92 t102
 | k_ + 1 => by funext n3 holds3 holds4 out2 a b t92 t102; rw [impl_pairs_ConflictEdges_c1_l1_s]; simp only [impl_pairs_ConflictEdges_c1_l1_q N k0_ k_]; rfl
theorem impl_pairs_ConflictEdges_c1_l0_q (N : Nat) : ∀ k_, impl_pairs_ConflictEdges_c1_l0_E N k_ = impl_pairs_ConflictEdges_c1_l0 N k_
 | 0 => by funext n2 holds holds2 out t9 t10; exact impl_pairs_ConflictEdges_c1_l0_z N n2 holds holds2 out t9 t10
 | k_ + 1 => by funext n2 holds holds2 out t9 t10; rw [impl_pairs_ConflictEdges_c1_l0_s]; simp only [impl_pairs_ConflictEdges_c1_l1_q, impl_pairs_ConflictEdges_c1_l0_q N k_]; rfl
theorem impl_pairs_ConflictEdges_c1_v (N : Nat) (n : Int) (c : List (Int × Int × Int × Int × Int × Int × Int)) (c2 : List (ByteArray × Int × Int) × List (Int × List Int)) :
  evFn Tb (sigL (impl_pairs_ConflictEdges_c1_es N)) cps (orcL (impl_pairs_ConflictEdges_c1_es N)) (drawReg Tb (sigL (impl_pairs_ConflictEdges_c1_es N)) cps (orcL (impl_pairs_ConflictEdges_c1_es N))) N impl_pairs_ConflictEdges_c1_an impl_pairs_ConflictEdges_c1_sg Try.f170 (Try.f170.body.getD .skip) [.val i64 n, .clo 171 [⟨ty11, c⟩, ⟨ty9, c2⟩]] (un1 ty12) = impl_pairs_ConflictEdges_c1_b N (impl_pairs_ConflictEdges_c1_l0_E N N) n c c2 := by kernel_rfl
noncomputable def impl_pairs_ConflictEdges_c1_e (N : Nat) : Entry Try.prog := ⟨170, impl_pairs_ConflictEdges_c1_sg, [.v i64, .c 171 [ty11, ty9]], List (Int × Int), impl_pairs_ConflictEdges_c1 N, pk1 ty12, entry_en Try.func170 (code := Try.f170.body.getD .skip) (by kernel_rfl) (by kernel_rfl),
 fun n c c2 => entry_ok tab_ok (es := impl_pairs_ConflictEdges_c1_es N) (by kernel_rfl) mixed Try.func170 (by kernel_rfl) ⟨⟨rfl, rfl⟩, rfl, rfl⟩ (un1_pk ty12) ((impl_pairs_ConflictEdges_c1_v N n c c2).trans (by rw [impl_pairs_ConflictEdges_c1_l0_q]; rfl))⟩
def impl_ConflictEdges_sg : Sig := ⟨[.val ty9, .val ty11], [(ty12, .dp)], false, false, none, none⟩
noncomputable def impl_ConflictEdges_es (N : Nat) : List (Entry Try.prog) := [impl_IsValidDatabase_e N, impl_pairs_ConflictEdges_c1_e N]
def impl_ConflictEdges_an : Nat → Option (List Nat) := fun _ => none
theorem impl_ConflictEdges_v (N : Nat) (db : List (ByteArray × Int × Int) × List (Int × List Int)) (constraints : List (Int × Int × Int × Int × Int × Int × Int)) :
  evFn Tb (sigL (impl_ConflictEdges_es N)) cps (orcL (impl_ConflictEdges_es N)) (drawReg Tb (sigL (impl_ConflictEdges_es N)) cps (orcL (impl_ConflictEdges_es N))) N impl_ConflictEdges_an impl_ConflictEdges_sg Try.f127 (Try.f127.body.getD .skip) [.val ty9 db, .val ty11 constraints] (un1 ty12) = impl_ConflictEdges N db constraints := by kernel_rfl
noncomputable def impl_ConflictEdges_e (N : Nat) : Entry Try.prog := ⟨127, impl_ConflictEdges_sg, [.v ty9, .v ty11], List (Int × Int), impl_ConflictEdges N, pk1 ty12, entry_en Try.func127 (code := Try.f127.body.getD .skip) (by kernel_rfl) (by kernel_rfl),
 fun db constraints => entry_ok tab_ok (es := impl_ConflictEdges_es N) (by kernel_rfl) mixed Try.func127 (by kernel_rfl) ⟨⟨rfl, rfl⟩, rfl, rfl⟩ (un1_pk ty12) (impl_ConflictEdges_v N db constraints)⟩
def impl_AreValidEdges_sg : Sig := ⟨[.val i64, .val ty12], [(.bool, .dp)], false, false, none, none⟩
noncomputable def impl_AreValidEdges_es (N : Nat) : List (Entry Try.prog) := [impl_within_e N]
def impl_AreValidEdges_an : Nat → Option (List Nat)
 | 0 => some [0, 1, 10, 11, 12]
 | _ => none
noncomputable def impl_AreValidEdges_lp (N : Nat) (p : List Dir) (rs : List (Env → Option (Bool))) (k : Nat) (env : Env) : Option (Bool) :=
 loopAt Tb (sigL (impl_AreValidEdges_es N)) cps (orcL (impl_AreValidEdges_es N)) N impl_AreValidEdges_an p (Try.f181.body.getD .skip) (endK Tb impl_AreValidEdges_sg Try.f181 [] (un1 .bool)) rs k env
noncomputable def impl_AreValidEdges_l0_E (N : Nat) (k_ : Nat) (n2 : Int) (edges2 : List (Int × Int)) (t10 : List (Int × Int)) (t11 : Int) (t12 : Int) : Option (Bool) :=
 impl_AreValidEdges_lp N [.r, .r, .l, .r, .b] [] k_ (.con .val [lf i64 n2 .ro] :: (.con .val [lf ty12 edges2 .ro] :: (un 8 (.con .val [lf ty12 t10 .ro] :: (.con .val [lf i64 t11 .ro] :: (.con .val [lf i64 t12 .ro] :: (un 58 [])))))))
theorem impl_AreValidEdges_l0_z (N : Nat) (n2 : Int) (edges2 : List (Int × Int)) (t10 : List (Int × Int)) (t11 : Int) (t12 : Int) : impl_AreValidEdges_l0_E N 0 n2 edges2 t10 t11 t12 = none := by kernel_rfl
theorem impl_AreValidEdges_l0_s (N : Nat) (k_ : Nat) (n2 : Int) (edges2 : List (Int × Int)) (t10 : List (Int × Int)) (t11 : Int) (t12 : Int) : impl_AreValidEdges_l0_E N (k_ + 1) n2 edges2 t10 t11 t12 = impl_AreValidEdges_l0_b N (impl_AreValidEdges_l0_E N k_) n2 edges2 t10 t11 t12 := by kernel_rfl
theorem impl_AreValidEdges_l0_q (N : Nat) : ∀ k_, impl_AreValidEdges_l0_E N k_ = impl_AreValidEdges_l0 N k_
 | 0 => by funext n2 edges2 t10 t11 t12; exact impl_AreValidEdges_l0_z N n2 edges2 t10 t11 t12
 | k_ + 1 => by funext n2 edges2 t10 t11 t12; rw [impl_AreValidEdges_l0_s]; simp only [impl_AreValidEdges_l0_q N k_]; rfl
theorem impl_AreValidEdges_v (N : Nat) (n : Int) (edges : List (Int × Int)) :
  evFn Tb (sigL (impl_AreValidEdges_es N)) cps (orcL (impl_AreValidEdges_es N)) (drawReg Tb (sigL (impl_AreValidEdges_es N)) cps (orcL (impl_AreValidEdges_es N))) N impl_AreValidEdges_an impl_AreValidEdges_sg Try.f181 (Try.f181.body.getD .skip) [.val i64 n, .val ty12 edges] (un1 .bool) = impl_AreValidEdges_b N (impl_AreValidEdges_l0_E N N) n edges := by kernel_rfl
noncomputable def impl_AreValidEdges_e (N : Nat) : Entry Try.prog := ⟨181, impl_AreValidEdges_sg, [.v i64, .v ty12], Bool, impl_AreValidEdges N, pk1 .bool, entry_en Try.func181 (code := Try.f181.body.getD .skip) (by kernel_rfl) (by kernel_rfl),
 fun n edges => entry_ok tab_ok (es := impl_AreValidEdges_es N) (by kernel_rfl) mixed Try.func181 (by kernel_rfl) ⟨⟨rfl, rfl⟩, rfl, rfl⟩ (un1_pk .bool) ((impl_AreValidEdges_v N n edges).trans (by rw [impl_AreValidEdges_l0_q]; rfl))⟩
def impl_areIndices_sg : Sig := ⟨[.val ty0, .val i64], [(.bool, .dp)], false, false, none, none⟩
noncomputable def impl_areIndices_es (N : Nat) : List (Entry Try.prog) := [impl_within_e N]
def impl_areIndices_an : Nat → Option (List Nat)
 | 0 => some [0, 1, 7, 8, 9]
 | _ => none
noncomputable def impl_areIndices_lp (N : Nat) (p : List Dir) (rs : List (Env → Option (Bool))) (k : Nat) (env : Env) : Option (Bool) :=
 loopAt Tb (sigL (impl_areIndices_es N)) cps (orcL (impl_areIndices_es N)) N impl_areIndices_an p (Try.f121.body.getD .skip) (endK Tb impl_areIndices_sg Try.f121 [] (un1 .bool)) rs k env
noncomputable def impl_areIndices_l0_E (N : Nat) (k_ : Nat) (indices2 : List Int) (n2 : Int) (t7 : List Int) (t8 : Int) (t9 : Int) : Option (Bool) :=
 impl_areIndices_lp N [.r, .l, .r, .b] [] k_ (.con .val [lf ty0 indices2 .ro] :: (.con .val [lf i64 n2 .ro] :: (un 5 (.con .val [lf ty0 t7 .ro] :: (.con .val [lf i64 t8 .ro] :: (.con .val [lf i64 t9 .ro] :: (un 23 [])))))))
theorem impl_areIndices_l0_z (N : Nat) (indices2 : List Int) (n2 : Int) (t7 : List Int) (t8 : Int) (t9 : Int) : impl_areIndices_l0_E N 0 indices2 n2 t7 t8 t9 = none := by kernel_rfl
theorem impl_areIndices_l0_s (N : Nat) (k_ : Nat) (indices2 : List Int) (n2 : Int) (t7 : List Int) (t8 : Int) (t9 : Int) : impl_areIndices_l0_E N (k_ + 1) indices2 n2 t7 t8 t9 = impl_areIndices_l0_b N (impl_areIndices_l0_E N k_) indices2 n2 t7 t8 t9 := by kernel_rfl
theorem impl_areIndices_l0_q (N : Nat) : ∀ k_, impl_areIndices_l0_E N k_ = impl_areIndices_l0 N k_
 | 0 => by funext indices2 n2 t7 t8 t9; exact impl_areIndices_l0_z N indices2 n2 t7 t8 t9
 | k_ + 1 => by funext indices2 n2 t7 t8 t9; rw [impl_areIndices_l0_s]; simp only [impl_areIndices_l0_q N k_]; rfl
theorem impl_areIndices_v (N : Nat) (indices : List Int) (n : Int) :
  evFn Tb (sigL (impl_areIndices_es N)) cps (orcL (impl_areIndices_es N)) (drawReg Tb (sigL (impl_areIndices_es N)) cps (orcL (impl_areIndices_es N))) N impl_areIndices_an impl_areIndices_sg Try.f121 (Try.f121.body.getD .skip) [.val ty0 indices, .val i64 n] (un1 .bool) = impl_areIndices_b N (impl_areIndices_l0_E N N) indices n := by kernel_rfl
noncomputable def impl_areIndices_e (N : Nat) : Entry Try.prog := ⟨121, impl_areIndices_sg, [.v ty0, .v i64], Bool, impl_areIndices N, pk1 .bool, entry_en Try.func121 (code := Try.f121.body.getD .skip) (by kernel_rfl) (by kernel_rfl),
 fun indices n => entry_ok tab_ok (es := impl_areIndices_es N) (by kernel_rfl) mixed Try.func121 (by kernel_rfl) ⟨⟨rfl, rfl⟩, rfl, rfl⟩ (un1_pk .bool) ((impl_areIndices_v N indices n).trans (by rw [impl_areIndices_l0_q]; rfl))⟩
def slices_Index_Lint_int_sg : Sig := ⟨[.val ty0, .val i64], [(i64, .dp)], false, false, none, none⟩
noncomputable def slices_Index_Lint_int_es (N : Nat) : List (Entry Try.prog) := []
def slices_Index_Lint_int_an : Nat → Option (List Nat)
 | 0 => some [0, 1, 7, 8]
 | _ => none
noncomputable def slices_Index_Lint_int_lp (N : Nat) (p : List Dir) (rs : List (Env → Option (Int))) (k : Nat) (env : Env) : Option (Int) :=
 loopAt Tb (sigL (slices_Index_Lint_int_es N)) cps (orcL (slices_Index_Lint_int_es N)) N slices_Index_Lint_int_an p (Try.f194.body.getD .skip) (endK Tb slices_Index_Lint_int_sg Try.f194 [] (un1 i64)) rs k env
noncomputable def slices_Index_Lint_int_l0_E (N : Nat) (k_ : Nat) (s2 : List Int) (v2 : Int) (t7 : Int) (t8 : Int) : Option (Int) :=
 slices_Index_Lint_int_lp N [.r, .l, .r, .b] [] k_ (.con .val [lf ty0 s2 .ro] :: (.con .val [lf i64 v2 .ro] :: (un 5 (.con .val [lf i64 t7 .ro] :: (.con .val [lf i64 t8 .ro] :: (un 10 []))))))
theorem slices_Index_Lint_int_l0_z (N : Nat) (s2 : List Int) (v2 : Int) (t7 : Int) (t8 : Int) : slices_Index_Lint_int_l0_E N 0 s2 v2 t7 t8 = none := by kernel_rfl
theorem slices_Index_Lint_int_l0_s (N : Nat) (k_ : Nat) (s2 : List Int) (v2 : Int) (t7 : Int) (t8 : Int) : slices_Index_Lint_int_l0_E N (k_ + 1) s2 v2 t7 t8 = slices_Index_Lint_int_l0_b N (slices_Index_Lint_int_l0_E N k_) s2 v2 t7 t8 := by kernel_rfl
theorem slices_Index_Lint_int_l0_q (N : Nat) : ∀ k_, slices_Index_Lint_int_l0_E N k_ = slices_Index_Lint_int_l0 N k_
 | 0 => by funext s2 v2 t7 t8; exact slices_Index_Lint_int_l0_z N s2 v2 t7 t8
 | k_ + 1 => by funext s2 v2 t7 t8; rw [slices_Index_Lint_int_l0_s]; simp only [slices_Index_Lint_int_l0_q N k_]; rfl
theorem slices_Index_Lint_int_v (N : Nat) (s : List Int) (v : Int) :
  evFn Tb (sigL (slices_Index_Lint_int_es N)) cps (orcL (slices_Index_Lint_int_es N)) (drawReg Tb (sigL (slices_Index_Lint_int_es N)) cps (orcL (slices_Index_Lint_int_es N))) N slices_Index_Lint_int_an slices_Index_Lint_int_sg Try.f194 (Try.f194.body.getD .skip) [.val ty0 s, .val i64 v] (un1 i64) = slices_Index_Lint_int_b N (slices_Index_Lint_int_l0_E N N) s v := by kernel_rfl
noncomputable def slices_Index_Lint_int_e (N : Nat) : Entry Try.prog := ⟨194, slices_Index_Lint_int_sg, [.v ty0, .v i64], Int, slices_Index_Lint_int N, pk1 i64, entry_en Try.func194 (code := Try.f194.body.getD .skip) (by kernel_rfl) (by kernel_rfl),
 fun s v => entry_ok tab_ok (es := slices_Index_Lint_int_es N) (by kernel_rfl) mixed Try.func194 (by kernel_rfl) ⟨⟨rfl, rfl⟩, rfl, rfl⟩ (un1_pk i64) ((slices_Index_Lint_int_v N s v).trans (by rw [slices_Index_Lint_int_l0_q]; rfl))⟩
def slices_Contains_Lint_int_sg : Sig := ⟨[.val ty0, .val i64], [(.bool, .dp)], false, false, none, none⟩
noncomputable def slices_Contains_Lint_int_es (N : Nat) : List (Entry Try.prog) := [slices_Index_Lint_int_e N]
def slices_Contains_Lint_int_an : Nat → Option (List Nat) := fun _ => none
theorem slices_Contains_Lint_int_v (N : Nat) (s : List Int) (v : Int) :
  evFn Tb (sigL (slices_Contains_Lint_int_es N)) cps (orcL (slices_Contains_Lint_int_es N)) (drawReg Tb (sigL (slices_Contains_Lint_int_es N)) cps (orcL (slices_Contains_Lint_int_es N))) N slices_Contains_Lint_int_an slices_Contains_Lint_int_sg Try.f157 (Try.f157.body.getD .skip) [.val ty0 s, .val i64 v] (un1 .bool) = slices_Contains_Lint_int N s v := by kernel_rfl
noncomputable def slices_Contains_Lint_int_e (N : Nat) : Entry Try.prog := ⟨157, slices_Contains_Lint_int_sg, [.v ty0, .v i64], Bool, slices_Contains_Lint_int N, pk1 .bool, entry_en Try.func157 (code := Try.f157.body.getD .skip) (by kernel_rfl) (by kernel_rfl),
 fun s v => entry_ok tab_ok (es := slices_Contains_Lint_int_es N) (by kernel_rfl) mixed Try.func157 (by kernel_rfl) ⟨⟨rfl, rfl⟩, rfl, rfl⟩ (un1_pk .bool) (slices_Contains_Lint_int_v N s v)⟩
def impl_IsIndependent_c1_sg : Sig := ⟨[.val ty14, .ptr ty0], [(.bool, .dp)], false, false, none, none⟩
noncomputable def impl_IsIndependent_c1_es (N : Nat) : List (Entry Try.prog) := [slices_Contains_Lint_int_e N]
def impl_IsIndependent_c1_an : Nat → Option (List Nat) := fun _ => none
theorem impl_IsIndependent_c1_v (N : Nat) (e : Int × Int) (c1 : List Int) :
  evFn Tb (sigL (impl_IsIndependent_c1_es N)) cps (orcL (impl_IsIndependent_c1_es N)) (drawReg Tb (sigL (impl_IsIndependent_c1_es N)) cps (orcL (impl_IsIndependent_c1_es N))) N impl_IsIndependent_c1_an impl_IsIndependent_c1_sg Try.f216 (Try.f216.body.getD .skip) [.val ty14 e, .ptr ty0 c1] (un1 .bool) = impl_IsIndependent_c1 N e c1 := by kernel_rfl
noncomputable def impl_IsIndependent_c1_e (N : Nat) : Entry Try.prog := ⟨216, impl_IsIndependent_c1_sg, [.v ty14, .p ty0], Bool, impl_IsIndependent_c1 N, pk1 .bool, entry_en Try.func216 (code := Try.f216.body.getD .skip) (by kernel_rfl) (by kernel_rfl),
 fun e c1 => entry_ok tab_ok (es := impl_IsIndependent_c1_es N) (by kernel_rfl) mixed Try.func216 (by kernel_rfl) ⟨⟨rfl, rfl⟩, rfl, rfl⟩ (un1_pk .bool) (impl_IsIndependent_c1_v N e c1)⟩
def slices_IndexFunc_LConflictEdge_ConflictEdge_IsIndependent_c1_sg : Sig := ⟨[.val ty12, .clo], [(i64, .dp)], false, false, none, none⟩
noncomputable def slices_IndexFunc_LConflictEdge_ConflictEdge_IsIndependent_c1_es (N : Nat) : List (Entry Try.prog) := [impl_IsIndependent_c1_e N]
def slices_IndexFunc_LConflictEdge_ConflictEdge_IsIndependent_c1_an : Nat → Option (List Nat)
 | 0 => some [0, 1, 7, 8]
 | _ => none
noncomputable def slices_IndexFunc_LConflictEdge_ConflictEdge_IsIndependent_c1_lp (N : Nat) (p : List Dir) (rs : List (Env → Option (Int))) (k : Nat) (env : Env) : Option (Int) :=
 loopAt Tb (sigL (slices_IndexFunc_LConflictEdge_ConflictEdge_IsIndependent_c1_es N)) cps (orcL (slices_IndexFunc_LConflictEdge_ConflictEdge_IsIndependent_c1_es N)) N slices_IndexFunc_LConflictEdge_ConflictEdge_IsIndependent_c1_an p (Try.f227.body.getD .skip) (endK Tb slices_IndexFunc_LConflictEdge_ConflictEdge_IsIndependent_c1_sg Try.f227 [] (un1 i64)) rs k env
noncomputable def slices_IndexFunc_LConflictEdge_ConflictEdge_IsIndependent_c1_l0_E (N : Nat) (k_ : Nat) (s2 : List (Int × Int)) (f : List Int) (t7 : Int) (t8 : Int) : Option (Int) :=
 slices_IndexFunc_LConflictEdge_ConflictEdge_IsIndependent_c1_lp N [.r, .l, .r, .b] [] k_ (.con .val [lf ty12 s2 .ro] :: (.cloR 216 [⟨ty0, f⟩] :: (un 5 (.con .val [lf i64 t7 .ro] :: (.con .val [lf i64 t8 .ro] :: (un 10 []))))))
theorem slices_IndexFunc_LConflictEdge_ConflictEdge_IsIndependent_c1_l0_z (N : Nat) (s2 : List (Int × Int)) (f : List Int) (t7 : Int) (t8 : Int) : slices_IndexFunc_LConflictEdge_ConflictEdge_IsIndependent_c1_l0_E N 0 s2 f t7 t8 = none := by kernel_rfl
theorem slices_IndexFunc_LConflictEdge_ConflictEdge_IsIndependent_c1_l0_s (N : Nat) (k_ : Nat) (s2 : List (Int × Int)) (f : List Int) (t7 : Int) (t8 : Int) : slices_IndexFunc_LConflictEdge_ConflictEdge_IsIndependent_c1_l0_E N (k_ + 1) s2 f t7 t8 = slices_IndexFunc_LConflictEdge_ConflictEdge_IsIndependent_c1_l0_b N (slices_IndexFunc_LConflictEdge_ConflictEdge_IsIndependent_c1_l0_E N k_) s2 f t7 t8 := by kernel_rfl
theorem slices_IndexFunc_LConflictEdge_ConflictEdge_IsIndependent_c1_l0_q (N : Nat) : ∀ k_, slices_IndexFunc_LConflictEdge_ConflictEdge_IsIndependent_c1_l0_E N k_ = slices_IndexFunc_LConflictEdge_ConflictEdge_IsIndependent_c1_l0 N k_
 | 0 => by funext s2 f t7 t8; exact slices_IndexFunc_LConflictEdge_ConflictEdge_IsIndependent_c1_l0_z N s2 f t7 t8
 | k_ + 1 => by funext s2 f t7 t8; rw [slices_IndexFunc_LConflictEdge_ConflictEdge_IsIndependent_c1_l0_s]; simp only [slices_IndexFunc_LConflictEdge_ConflictEdge_IsIndependent_c1_l0_q N k_]; rfl
theorem slices_IndexFunc_LConflictEdge_ConflictEdge_IsIndependent_c1_v (N : Nat) (s : List (Int × Int)) (c : List Int) :
  evFn Tb (sigL (slices_IndexFunc_LConflictEdge_ConflictEdge_IsIndependent_c1_es N)) cps (orcL (slices_IndexFunc_LConflictEdge_ConflictEdge_IsIndependent_c1_es N)) (drawReg Tb (sigL (slices_IndexFunc_LConflictEdge_ConflictEdge_IsIndependent_c1_es N)) cps (orcL (slices_IndexFunc_LConflictEdge_ConflictEdge_IsIndependent_c1_es N))) N slices_IndexFunc_LConflictEdge_ConflictEdge_IsIndependent_c1_an slices_IndexFunc_LConflictEdge_ConflictEdge_IsIndependent_c1_sg Try.f227 (Try.f227.body.getD .skip) [.val ty12 s, .clo 216 [⟨ty0, c⟩]] (un1 i64) = slices_IndexFunc_LConflictEdge_ConflictEdge_IsIndependent_c1_b N (slices_IndexFunc_LConflictEdge_ConflictEdge_IsIndependent_c1_l0_E N N) s c := by kernel_rfl
noncomputable def slices_IndexFunc_LConflictEdge_ConflictEdge_IsIndependent_c1_e (N : Nat) : Entry Try.prog := ⟨227, slices_IndexFunc_LConflictEdge_ConflictEdge_IsIndependent_c1_sg, [.v ty12, .c 216 [ty0]], Int, slices_IndexFunc_LConflictEdge_ConflictEdge_IsIndependent_c1 N, pk1 i64, entry_en Try.func227 (code := Try.f227.body.getD .skip) (by kernel_rfl) (by kernel_rfl),
 fun s c => entry_ok tab_ok (es := slices_IndexFunc_LConflictEdge_ConflictEdge_IsIndependent_c1_es N) (by kernel_rfl) mixed Try.func227 (by kernel_rfl) ⟨⟨rfl, rfl⟩, rfl, rfl⟩ (un1_pk i64) ((slices_IndexFunc_LConflictEdge_ConflictEdge_IsIndependent_c1_v N s c).trans (by rw [slices_IndexFunc_LConflictEdge_ConflictEdge_IsIndependent_c1_l0_q]; rfl))⟩
def slices_ContainsFunc_LConflictEdge_ConflictEdge_IsIndependent_c1_sg : Sig := ⟨[.val ty12, .clo], [(.bool, .dp)], false, false, none, none⟩
noncomputable def slices_ContainsFunc_LConflictEdge_ConflictEdge_IsIndependent_c1_es (N : Nat) : List (Entry Try.prog) := [slices_IndexFunc_LConflictEdge_ConflictEdge_IsIndependent_c1_e N]
def slices_ContainsFunc_LConflictEdge_ConflictEdge_IsIndependent_c1_an : Nat → Option (List Nat) := fun _ => none
theorem slices_ContainsFunc_LConflictEdge_ConflictEdge_IsIndependent_c1_v (N : Nat) (s : List (Int × Int)) (c : List Int) :
  evFn Tb (sigL (slices_ContainsFunc_LConflictEdge_ConflictEdge_IsIndependent_c1_es N)) cps (orcL (slices_ContainsFunc_LConflictEdge_ConflictEdge_IsIndependent_c1_es N)) (drawReg Tb (sigL (slices_ContainsFunc_LConflictEdge_ConflictEdge_IsIndependent_c1_es N)) cps (orcL (slices_ContainsFunc_LConflictEdge_ConflictEdge_IsIndependent_c1_es N))) N slices_ContainsFunc_LConflictEdge_ConflictEdge_IsIndependent_c1_an slices_ContainsFunc_LConflictEdge_ConflictEdge_IsIndependent_c1_sg Try.f215 (Try.f215.body.getD .skip) [.val ty12 s, .clo 216 [⟨ty0, c⟩]] (un1 .bool) = slices_ContainsFunc_LConflictEdge_ConflictEdge_IsIndependent_c1 N s c := by kernel_rfl
noncomputable def slices_ContainsFunc_LConflictEdge_ConflictEdge_IsIndependent_c1_e (N : Nat) : Entry Try.prog := ⟨215, slices_ContainsFunc_LConflictEdge_ConflictEdge_IsIndependent_c1_sg, [.v ty12, .c 216 [ty0]], Bool, slices_ContainsFunc_LConflictEdge_ConflictEdge_IsIndependent_c1 N, pk1 .bool, entry_en Try.func215 (code := Try.f215.body.getD .skip) (by kernel_rfl) (by kernel_rfl),
 fun s c => entry_ok tab_ok (es := slices_ContainsFunc_LConflictEdge_ConflictEdge_IsIndependent_c1_es N) (by kernel_rfl) mixed Try.func215 (by kernel_rfl) ⟨⟨rfl, rfl⟩, rfl, rfl⟩ (un1_pk .bool) (slices_ContainsFunc_LConflictEdge_ConflictEdge_IsIndependent_c1_v N s c)⟩
def impl_IsIndependent_sg : Sig := ⟨[.val ty12, .val ty0], [(.bool, .dp)], false, false, none, none⟩
noncomputable def impl_IsIndependent_es (N : Nat) : List (Entry Try.prog) := [slices_ContainsFunc_LConflictEdge_ConflictEdge_IsIndependent_c1_e N]
def impl_IsIndependent_an : Nat → Option (List Nat) := fun _ => none
theorem impl_IsIndependent_v (N : Nat) (edges : List (Int × Int)) (set : List Int) :
  evFn Tb (sigL (impl_IsIndependent_es N)) cps (orcL (impl_IsIndependent_es N)) (drawReg Tb (sigL (impl_IsIndependent_es N)) cps (orcL (impl_IsIndependent_es N))) N impl_IsIndependent_an impl_IsIndependent_sg Try.f184 (Try.f184.body.getD .skip) [.val ty12 edges, .val ty0 set] (un1 .bool) = impl_IsIndependent N edges set := by kernel_rfl
noncomputable def impl_IsIndependent_e (N : Nat) : Entry Try.prog := ⟨184, impl_IsIndependent_sg, [.v ty12, .v ty0], Bool, impl_IsIndependent N, pk1 .bool, entry_en Try.func184 (code := Try.f184.body.getD .skip) (by kernel_rfl) (by kernel_rfl),
 fun edges set => entry_ok tab_ok (es := impl_IsIndependent_es N) (by kernel_rfl) mixed Try.func184 (by kernel_rfl) ⟨⟨rfl, rfl⟩, rfl, rfl⟩ (un1_pk .bool) (impl_IsIndependent_v N edges set)⟩
def impl_isIndependentSet_sg : Sig := ⟨[.val i64, .val ty12, .val ty0], [(.bool, .dp)], false, false, none, none⟩
noncomputable def impl_isIndependentSet_es (N : Nat) : List (Entry Try.prog) := [impl_AreValidEdges_e N, impl_areIndices_e N, impl_IsIndependent_e N]
def impl_isIndependentSet_an : Nat → Option (List Nat) := fun _ => none
theorem impl_isIndependentSet_v (N : Nat) (n : Int) (edges : List (Int × Int)) (set : List Int) :
  evFn Tb (sigL (impl_isIndependentSet_es N)) cps (orcL (impl_isIndependentSet_es N)) (drawReg Tb (sigL (impl_isIndependentSet_es N)) cps (orcL (impl_isIndependentSet_es N))) N impl_isIndependentSet_an impl_isIndependentSet_sg Try.f214 (Try.f214.body.getD .skip) [.val i64 n, .val ty12 edges, .val ty0 set] (un1 .bool) = impl_isIndependentSet N n edges set := by kernel_rfl
noncomputable def impl_isIndependentSet_e (N : Nat) : Entry Try.prog := ⟨214, impl_isIndependentSet_sg, [.v i64, .v ty12, .v ty0], Bool, impl_isIndependentSet N, pk1 .bool, entry_en Try.func214 (code := Try.f214.body.getD .skip) (by kernel_rfl) (by kernel_rfl),
 fun n edges set => entry_ok tab_ok (es := impl_isIndependentSet_es N) (by kernel_rfl) mixed Try.func214 (by kernel_rfl) ⟨⟨rfl, rfl⟩, rfl, rfl⟩ (un1_pk .bool) (impl_isIndependentSet_v N n edges set)⟩
def impl_IsMaximalIndependent_sg : Sig := ⟨[.val i64, .val ty12, .val ty0], [(.bool, .dp)], false, false, none, none⟩
noncomputable def impl_IsMaximalIndependent_es (N : Nat) : List (Entry Try.prog) := [slices_Contains_Lint_int_e N, slices_Clone_Lint_int_e N, impl_IsIndependent_e N, impl_isIndependentSet_e N]
def impl_IsMaximalIndependent_an : Nat → Option (List Nat)
 | 0 => some [1, 2, 13, 14]
 | _ => none
noncomputable def impl_IsMaximalIndependent_lp (N : Nat) (p : List Dir) (rs : List (Env → Option (Bool))) (k : Nat) (env : Env) : Option (Bool) :=
 loopAt Tb (sigL (impl_IsMaximalIndependent_es N)) cps (orcL (impl_IsMaximalIndependent_es N)) N impl_IsMaximalIndependent_an p (Try.f183.body.getD .skip) (endK Tb impl_IsMaximalIndependent_sg Try.f183 [] (un1 .bool)) rs k env
noncomputable def impl_IsMaximalIndependent_l0_E (N : Nat) (k_ : Nat) (edges2 : List (Int × Int)) (set2 : List Int) (t13 : Int) (t14 : Int) : Option (Bool) :=
 impl_IsMaximalIndependent_lp N [.r, .r, .l, .r, .b] [] k_ (un 1 (.con .val [lf ty12 edges2 .ro] :: (.con .val [lf ty0 set2 .ro] :: (un 10 (.con .val [lf i64 t13 .ro] :: (.con .val [lf i64 t14 .ro] :: (un 16 [])))))))
theorem impl_IsMaximalIndependent_l0_z (N : Nat) (edges2 : List (Int × Int)) (set2 : List Int) (t13 : Int) (t14 : Int) : impl_IsMaximalIndependent_l0_E N 0 edges2 set2 t13 t14 = none := by kernel_rfl
theorem impl_IsMaximalIndependent_l0_s (N : Nat) (k_ : Nat) (edges2 : List (Int × Int)) (set2 : List Int) (t13 : Int) (t14 : Int) : impl_IsMaximalIndependent_l0_E N (k_ + 1) edges2 set2 t13 t14 = impl_IsMaximalIndependent_l0_b N (impl_IsMaximalIndependent_l0_E N k_) edges2 set2 t13 t14 := by kernel_rfl
theorem impl_IsMaximalIndependent_l0_q (N : Nat) : ∀ k_, impl_IsMaximalIndependent_l0_E N k_ = impl_IsMaximalIndependent_l0 N k_
 | 0 => by funext edges2 set2 t13 t14; exact impl_IsMaximalIndependent_l0_z N edges2 set2 t13 t14
 | k_ + 1 => by funext edges2 set2 t13 t14; rw [impl_IsMaximalIndependent_l0_s]; simp only [impl_IsMaximalIndependent_l0_q N k_]; rfl
theorem impl_IsMaximalIndependent_v (N : Nat) (n : Int) (edges : List (Int × Int)) (set : List Int) :
  evFn Tb (sigL (impl_IsMaximalIndependent_es N)) cps (orcL (impl_IsMaximalIndependent_es N)) (drawReg Tb (sigL (impl_IsMaximalIndependent_es N)) cps (orcL (impl_IsMaximalIndependent_es N))) N impl_IsMaximalIndependent_an impl_IsMaximalIndependent_sg Try.f183 (Try.f183.body.getD .skip) [.val i64 n, .val ty12 edges, .val ty0 set] (un1 .bool) = impl_IsMaximalIndependent_b N (impl_IsMaximalIndependent_l0_E N N) n edges set := by kernel_rfl
noncomputable def impl_IsMaximalIndependent_e (N : Nat) : Entry Try.prog := ⟨183, impl_IsMaximalIndependent_sg, [.v i64, .v ty12, .v ty0], Bool, impl_IsMaximalIndependent N, pk1 .bool, entry_en Try.func183 (code := Try.f183.body.getD .skip) (by kernel_rfl) (by kernel_rfl),
 fun n edges set => entry_ok tab_ok (es := impl_IsMaximalIndependent_es N) (by kernel_rfl) mixed Try.func183 (by kernel_rfl) ⟨⟨rfl, rfl⟩, rfl, rfl⟩ (un1_pk .bool) ((impl_IsMaximalIndependent_v N n edges set).trans (by rw [impl_IsMaximalIndependent_l0_q]; rfl))⟩
def impl_MaximalIndependentSets_c1_bx : BoxSig := ⟨4, 33, [.dp]⟩
def impl_MaximalIndependentSets_c1_sg : Sig := ⟨[.val i64, .val ty0, .ptr i64, .ptr ty12, .ptr ty13, .self], [], false, false, some impl_MaximalIndependentSets_c1_bx, none⟩
theorem impl_MaximalIndependentSets_c1_en : Enterable Try.prog 182 := entry_en Try.func182 (code := Try.f182.body.getD .skip) (by kernel_rfl) (by kernel_rfl)
noncomputable def impl_MaximalIndependentSets_c1_es (N : Nat) (Rf : Int → (List Int) → Int → (List (Int × Int)) → (List (List Int)) → Int → (List (Int × Int)) → Option (List (List Int))) (hR : OkP (Option (List (List Int))) [.v i64, .v ty0, .p i64, .p ty12, .p ty13, .s 182 [.ro i64, .ro ty12, .pin, .self]] Rf (fun xs_ q => ∀ x, q = some x → FnOk Try.prog 182 impl_MaximalIndependentSets_c1_sg xs_ (pk1 ty13 x))) : List (Entry Try.prog) := [impl_IsMaximalIndependent_e N, slices_Clone_Lint_int_e N, impl_IsIndependent_e N, ⟨182, impl_MaximalIndependentSets_c1_sg, [.v i64, .v ty0, .p i64, .p ty12, .p ty13, .s 182 [.ro i64, .ro ty12, .pin, .self]], List (List Int), Rf, pk1 ty13, impl_MaximalIndependentSets_c1_en, hR⟩]
def impl_MaximalIndependentSets_c1_an : Nat → Option (List Nat) := fun _ => none
theorem impl_MaximalIndependentSets_c1_v (N : Nat) (Rf : Int → (List Int) → Int → (List (Int × Int)) → (List (List Int)) → Int → (List (Int × Int)) → Option (List (List Int))) (hR : OkP (Option (List (List Int))) [.v i64, .v ty0, .p i64, .p ty12, .p ty13, .s 182 [.ro i64, .ro ty12, .pin, .self]] Rf (fun xs_ q => ∀ x, q = some x → FnOk Try.prog 182 impl_MaximalIndependentSets_c1_sg xs_ (pk1 ty13 x))) (v : Int) (set : List Int) (c2 : Int) (c3 : List (Int × Int)) (c4 : List (List Int)) (sc2 : Int) (sc3 : List (Int × Int)) :
  evFnB Tb (sigL (impl_MaximalIndependentSets_c1_es N Rf hR)) cps (orcL (impl_MaximalIndependentSets_c1_es N Rf hR)) (drawReg Tb (sigL (impl_MaximalIndependentSets_c1_es N Rf hR)) cps (orcL (impl_MaximalIndependentSets_c1_es N Rf hR))) N impl_MaximalIndependentSets_c1_an impl_MaximalIndependentSets_c1_sg impl_MaximalIndependentSets_c1_bx Try.f182 (Try.f182.body.getD .skip) [.val i64 v, .val ty0 set, .ptr i64 c2, .ptr ty12 c3, .ptr ty13 c4, .fptr 182 [.ro ⟨i64, sc2⟩, .ro ⟨ty12, sc3⟩, .pin, .self]] (un1 ty13) = impl_MaximalIndependentSets_c1_b N Rf v set c2 c3 c4 sc2 sc3 := by kernel_rfl
theorem impl_MaximalIndependentSets_c1_ok (N : Nat) : ∀ k_, OkP (Option (List (List Int))) [.v i64, .v ty0, .p i64, .p ty12, .p ty13, .s 182 [.ro i64, .ro ty12, .pin, .self]] (impl_MaximalIndependentSets_c1_r N k_) (fun xs_ q => ∀ x, q = some x → FnOk Try.prog 182 impl_MaximalIndependentSets_c1_sg xs_ (pk1 ty13 x))
 | 0 => fun v set c2 c3 c4 sc2 sc3 =>  fun x h => absurd (show (none : Option (List (List Int))) = some x from h) (by simp)
 | k_ + 1 => fun v set c2 c3 c4 sc2 sc3 => entry_okB tab_ok (es := impl_MaximalIndependentSets_c1_es N (impl_MaximalIndependentSets_c1_r N k_) (impl_MaximalIndependentSets_c1_ok N k_)) (by kernel_rfl) mixed Try.func182 (by kernel_rfl) rfl rfl (fun _ => ⟨_, _, rfl⟩) (un1_pk ty13) (impl_MaximalIndependentSets_c1_v N _ _ v set c2 c3 c4 sc2 sc3)
noncomputable def impl_MaximalIndependentSets_c1_e (N : Nat) : Entry Try.prog := ⟨182, impl_MaximalIndependentSets_c1_sg, [.v i64, .v ty0, .p i64, .p ty12, .p ty13, .s 182 [.ro i64, .ro ty12, .pin, .self]], List (List Int), impl_MaximalIndependentSets_c1 N, pk1 ty13, impl_MaximalIndependentSets_c1_en, impl_MaximalIndependentSets_c1_ok N N⟩
def impl_MaximalIndependentSets_sg : Sig := ⟨[.val i64, .val ty12], [(ty13, .dp)], false, false, none, none⟩
noncomputable def impl_MaximalIndependentSets_es (N : Nat) : List (Entry Try.prog) := [impl_AreValidEdges_e N, impl_MaximalIndependentSets_c1_e N]
def impl_MaximalIndependentSets_an : Nat → Option (List Nat) := fun _ => none
theorem impl_MaximalIndependentSets_v (N : Nat) (n : Int) (edges : List (Int × Int)) :
  evFn Tb (sigL (impl_MaximalIndependentSets_es N)) cps (orcL (impl_MaximalIndependentSets_es N)) (drawReg Tb (sigL (impl_MaximalIndependentSets_es N)) cps (orcL (impl_MaximalIndependentSets_es N))) N impl_MaximalIndependentSets_an impl_MaximalIndependentSets_sg Try.f136 (Try.f136.body.getD .skip) [.val i64 n, .val ty12 edges] (un1 ty13) = impl_MaximalIndependentSets N n edges := by kernel_rfl
noncomputable def impl_MaximalIndependentSets_e (N : Nat) : Entry Try.prog := ⟨136, impl_MaximalIndependentSets_sg, [.v i64, .v ty12], List (List Int), impl_MaximalIndependentSets N, pk1 ty13, entry_en Try.func136 (code := Try.f136.body.getD .skip) (by kernel_rfl) (by kernel_rfl),
 fun n edges => entry_ok tab_ok (es := impl_MaximalIndependentSets_es N) (by kernel_rfl) mixed Try.func136 (by kernel_rfl) ⟨⟨rfl, rfl⟩, rfl, rfl⟩ (un1_pk ty13) (impl_MaximalIndependentSets_v N n edges)⟩
def impl_SubsetRepairs_sg : Sig := ⟨[.val ty9, .val ty11], [(ty13, .dp)], false, false, none, none⟩
noncomputable def impl_SubsetRepairs_es (N : Nat) : List (Entry Try.prog) := [impl_IsValidDatabase_e N, impl_ConflictEdges_e N, impl_MaximalIndependentSets_e N]
def impl_SubsetRepairs_an : Nat → Option (List Nat) := fun _ => none
theorem impl_SubsetRepairs_v (N : Nat) (db : List (ByteArray × Int × Int) × List (Int × List Int)) (constraints : List (Int × Int × Int × Int × Int × Int × Int)) :
  evFn Tb (sigL (impl_SubsetRepairs_es N)) cps (orcL (impl_SubsetRepairs_es N)) (drawReg Tb (sigL (impl_SubsetRepairs_es N)) cps (orcL (impl_SubsetRepairs_es N))) N impl_SubsetRepairs_an impl_SubsetRepairs_sg Try.f68 (Try.f68.body.getD .skip) [.val ty9 db, .val ty11 constraints] (un1 ty13) = impl_SubsetRepairs N db constraints := by kernel_rfl
noncomputable def impl_SubsetRepairs_e (N : Nat) : Entry Try.prog := ⟨68, impl_SubsetRepairs_sg, [.v ty9, .v ty11], List (List Int), impl_SubsetRepairs N, pk1 ty13, entry_en Try.func68 (code := Try.f68.body.getD .skip) (by kernel_rfl) (by kernel_rfl),
 fun db constraints => entry_ok tab_ok (es := impl_SubsetRepairs_es N) (by kernel_rfl) mixed Try.func68 (by kernel_rfl) ⟨⟨rfl, rfl⟩, rfl, rfl⟩ (un1_pk ty13) (impl_SubsetRepairs_v N db constraints)⟩
def laws_eqIntS_sg : Sig := ⟨[.val ty0, .val ty0], [(.bool, .dp)], false, false, none, none⟩
noncomputable def laws_eqIntS_es (N : Nat) : List (Entry Try.prog) := []
def laws_eqIntS_an : Nat → Option (List Nat)
 | 0 => some [0, 1, 5]
 | _ => none
noncomputable def laws_eqIntS_lp (N : Nat) (p : List Dir) (rs : List (Env → Option (Bool))) (k : Nat) (env : Env) : Option (Bool) :=
 loopAt Tb (sigL (laws_eqIntS_es N)) cps (orcL (laws_eqIntS_es N)) N laws_eqIntS_an p (Try.f38.body.getD .skip) (endK Tb laws_eqIntS_sg Try.f38 [] (un1 .bool)) rs k env
noncomputable def laws_eqIntS_l0_E (N : Nat) (k_ : Nat) (a2 : List Int) (b2 : List Int) (i : Int) : Option (Bool) :=
 laws_eqIntS_lp N [.r, .r, .l, .r, .b] [] k_ (.con .val [lf ty0 a2 .ro] :: (.con .val [lf ty0 b2 .ro] :: (un 3 (.con .val [lf i64 i .ro] :: (un 20 [])))))
theorem laws_eqIntS_l0_z (N : Nat) (a2 : List Int) (b2 : List Int) (i : Int) : laws_eqIntS_l0_E N 0 a2 b2 i = none := by kernel_rfl
theorem laws_eqIntS_l0_s (N : Nat) (k_ : Nat) (a2 : List Int) (b2 : List Int) (i : Int) : laws_eqIntS_l0_E N (k_ + 1) a2 b2 i = laws_eqIntS_l0_b N (laws_eqIntS_l0_E N k_) a2 b2 i := by kernel_rfl
theorem laws_eqIntS_l0_q (N : Nat) : ∀ k_, laws_eqIntS_l0_E N k_ = laws_eqIntS_l0 N k_
 | 0 => by funext a2 b2 i; exact laws_eqIntS_l0_z N a2 b2 i
 | k_ + 1 => by funext a2 b2 i; rw [laws_eqIntS_l0_s]; simp only [laws_eqIntS_l0_q N k_]; rfl
theorem laws_eqIntS_v (N : Nat) (a : List Int) (b : List Int) :
  evFn Tb (sigL (laws_eqIntS_es N)) cps (orcL (laws_eqIntS_es N)) (drawReg Tb (sigL (laws_eqIntS_es N)) cps (orcL (laws_eqIntS_es N))) N laws_eqIntS_an laws_eqIntS_sg Try.f38 (Try.f38.body.getD .skip) [.val ty0 a, .val ty0 b] (un1 .bool) = laws_eqIntS_b N (laws_eqIntS_l0_E N N) a b := by kernel_rfl
noncomputable def laws_eqIntS_e (N : Nat) : Entry Try.prog := ⟨38, laws_eqIntS_sg, [.v ty0, .v ty0], Bool, laws_eqIntS N, pk1 .bool, entry_en Try.func38 (code := Try.f38.body.getD .skip) (by kernel_rfl) (by kernel_rfl),
 fun a b => entry_ok tab_ok (es := laws_eqIntS_es N) (by kernel_rfl) mixed Try.func38 (by kernel_rfl) ⟨⟨rfl, rfl⟩, rfl, rfl⟩ (un1_pk .bool) ((laws_eqIntS_v N a b).trans (by rw [laws_eqIntS_l0_q]; rfl))⟩
def laws_eqIntSS_sg : Sig := ⟨[.val ty13, .val ty13], [(.bool, .dp)], false, false, none, none⟩
noncomputable def laws_eqIntSS_es (N : Nat) : List (Entry Try.prog) := [laws_eqIntS_e N]
def laws_eqIntSS_an : Nat → Option (List Nat)
 | 0 => some [0, 1, 5]
 | _ => none
noncomputable def laws_eqIntSS_lp (N : Nat) (p : List Dir) (rs : List (Env → Option (Bool))) (k : Nat) (env : Env) : Option (Bool) :=
 loopAt Tb (sigL (laws_eqIntSS_es N)) cps (orcL (laws_eqIntSS_es N)) N laws_eqIntSS_an p (Try.f69.body.getD .skip) (endK Tb laws_eqIntSS_sg Try.f69 [] (un1 .bool)) rs k env
noncomputable def laws_eqIntSS_l0_E (N : Nat) (k_ : Nat) (a2 : List (List Int)) (b2 : List (List Int)) (i : Int) : Option (Bool) :=
 laws_eqIntSS_lp N [.r, .r, .l, .r, .b] [] k_ (.con .val [lf ty13 a2 .ro] :: (.con .val [lf ty13 b2 .ro] :: (un 3 (.con .val [lf i64 i .ro] :: (un 21 [])))))
theorem laws_eqIntSS_l0_z (N : Nat) (a2 : List (List Int)) (b2 : List (List Int)) (i : Int) : laws_eqIntSS_l0_E N 0 a2 b2 i = none := by kernel_rfl
theorem laws_eqIntSS_l0_s (N : Nat) (k_ : Nat) (a2 : List (List Int)) (b2 : List (List Int)) (i : Int) : laws_eqIntSS_l0_E N (k_ + 1) a2 b2 i = laws_eqIntSS_l0_b N (laws_eqIntSS_l0_E N k_) a2 b2 i := by kernel_rfl
theorem laws_eqIntSS_l0_q (N : Nat) : ∀ k_, laws_eqIntSS_l0_E N k_ = laws_eqIntSS_l0 N k_
 | 0 => by funext a2 b2 i; exact laws_eqIntSS_l0_z N a2 b2 i
 | k_ + 1 => by funext a2 b2 i; rw [laws_eqIntSS_l0_s]; simp only [laws_eqIntSS_l0_q N k_]; rfl
theorem laws_eqIntSS_v (N : Nat) (a : List (List Int)) (b : List (List Int)) :
  evFn Tb (sigL (laws_eqIntSS_es N)) cps (orcL (laws_eqIntSS_es N)) (drawReg Tb (sigL (laws_eqIntSS_es N)) cps (orcL (laws_eqIntSS_es N))) N laws_eqIntSS_an laws_eqIntSS_sg Try.f69 (Try.f69.body.getD .skip) [.val ty13 a, .val ty13 b] (un1 .bool) = laws_eqIntSS_b N (laws_eqIntSS_l0_E N N) a b := by kernel_rfl
noncomputable def laws_eqIntSS_e (N : Nat) : Entry Try.prog := ⟨69, laws_eqIntSS_sg, [.v ty13, .v ty13], Bool, laws_eqIntSS N, pk1 .bool, entry_en Try.func69 (code := Try.f69.body.getD .skip) (by kernel_rfl) (by kernel_rfl),
 fun a b => entry_ok tab_ok (es := laws_eqIntSS_es N) (by kernel_rfl) mixed Try.func69 (by kernel_rfl) ⟨⟨rfl, rfl⟩, rfl, rfl⟩ (un1_pk .bool) ((laws_eqIntSS_v N a b).trans (by rw [laws_eqIntSS_l0_q]; rfl))⟩
def laws_eqRelation_sg : Sig := ⟨[.val ty1, .val ty1], [(.bool, .dp)], false, false, none, none⟩
noncomputable def laws_eqRelation_es (N : Nat) : List (Entry Try.prog) := []
def laws_eqRelation_an : Nat → Option (List Nat) := fun _ => none
theorem laws_eqRelation_v (N : Nat) (a : ByteArray × Int × Int) (b : ByteArray × Int × Int) :
  evFn Tb (sigL (laws_eqRelation_es N)) cps (orcL (laws_eqRelation_es N)) (drawReg Tb (sigL (laws_eqRelation_es N)) cps (orcL (laws_eqRelation_es N))) N laws_eqRelation_an laws_eqRelation_sg Try.f163 (Try.f163.body.getD .skip) [.val ty1 a, .val ty1 b] (un1 .bool) = laws_eqRelation N a b := by kernel_rfl
noncomputable def laws_eqRelation_e (N : Nat) : Entry Try.prog := ⟨163, laws_eqRelation_sg, [.v ty1, .v ty1], Bool, laws_eqRelation N, pk1 .bool, entry_en Try.func163 (code := Try.f163.body.getD .skip) (by kernel_rfl) (by kernel_rfl),
 fun a b => entry_ok tab_ok (es := laws_eqRelation_es N) (by kernel_rfl) mixed Try.func163 (by kernel_rfl) ⟨⟨rfl, rfl⟩, rfl, rfl⟩ (un1_pk .bool) (laws_eqRelation_v N a b)⟩
def laws_eqRelationS_sg : Sig := ⟨[.val ty7, .val ty7], [(.bool, .dp)], false, false, none, none⟩
noncomputable def laws_eqRelationS_es (N : Nat) : List (Entry Try.prog) := [laws_eqRelation_e N]
def laws_eqRelationS_an : Nat → Option (List Nat)
 | 0 => some [0, 1, 5]
 | _ => none
noncomputable def laws_eqRelationS_lp (N : Nat) (p : List Dir) (rs : List (Env → Option (Bool))) (k : Nat) (env : Env) : Option (Bool) :=
 loopAt Tb (sigL (laws_eqRelationS_es N)) cps (orcL (laws_eqRelationS_es N)) N laws_eqRelationS_an p (Try.f110.body.getD .skip) (endK Tb laws_eqRelationS_sg Try.f110 [] (un1 .bool)) rs k env
noncomputable def laws_eqRelationS_l0_E (N : Nat) (k_ : Nat) (a2 : List (ByteArray × Int × Int)) (b2 : List (ByteArray × Int × Int)) (i : Int) : Option (Bool) :=
 laws_eqRelationS_lp N [.r, .r, .l, .r, .b] [] k_ (.con .val [lf ty7 a2 .ro] :: (.con .val [lf ty7 b2 .ro] :: (un 3 (.con .val [lf i64 i .ro] :: (un 21 [])))))
theorem laws_eqRelationS_l0_z (N : Nat) (a2 : List (ByteArray × Int × Int)) (b2 : List (ByteArray × Int × Int)) (i : Int) : laws_eqRelationS_l0_E N 0 a2 b2 i = none := by kernel_rfl
theorem laws_eqRelationS_l0_s (N : Nat) (k_ : Nat) (a2 : List (ByteArray × Int × Int)) (b2 : List (ByteArray × Int × Int)) (i : Int) : laws_eqRelationS_l0_E N (k_ + 1) a2 b2 i = laws_eqRelationS_l0_b N (laws_eqRelationS_l0_E N k_) a2 b2 i := by kernel_rfl
theorem laws_eqRelationS_l0_q (N : Nat) : ∀ k_, laws_eqRelationS_l0_E N k_ = laws_eqRelationS_l0 N k_
 | 0 => by funext a2 b2 i; exact laws_eqRelationS_l0_z N a2 b2 i
 | k_ + 1 => by funext a2 b2 i; rw [laws_eqRelationS_l0_s]; simp only [laws_eqRelationS_l0_q N k_]; rfl
theorem laws_eqRelationS_v (N : Nat) (a : List (ByteArray × Int × Int)) (b : List (ByteArray × Int × Int)) :
  evFn Tb (sigL (laws_eqRelationS_es N)) cps (orcL (laws_eqRelationS_es N)) (drawReg Tb (sigL (laws_eqRelationS_es N)) cps (orcL (laws_eqRelationS_es N))) N laws_eqRelationS_an laws_eqRelationS_sg Try.f110 (Try.f110.body.getD .skip) [.val ty7 a, .val ty7 b] (un1 .bool) = laws_eqRelationS_b N (laws_eqRelationS_l0_E N N) a b := by kernel_rfl
noncomputable def laws_eqRelationS_e (N : Nat) : Entry Try.prog := ⟨110, laws_eqRelationS_sg, [.v ty7, .v ty7], Bool, laws_eqRelationS N, pk1 .bool, entry_en Try.func110 (code := Try.f110.body.getD .skip) (by kernel_rfl) (by kernel_rfl),
 fun a b => entry_ok tab_ok (es := laws_eqRelationS_es N) (by kernel_rfl) mixed Try.func110 (by kernel_rfl) ⟨⟨rfl, rfl⟩, rfl, rfl⟩ (un1_pk .bool) ((laws_eqRelationS_v N a b).trans (by rw [laws_eqRelationS_l0_q]; rfl))⟩
def laws_eqFact_sg : Sig := ⟨[.val ty3, .val ty3], [(.bool, .dp)], false, false, none, none⟩
noncomputable def laws_eqFact_es (N : Nat) : List (Entry Try.prog) := [laws_eqIntS_e N]
def laws_eqFact_an : Nat → Option (List Nat) := fun _ => none
theorem laws_eqFact_v (N : Nat) (a : Int × List Int) (b : Int × List Int) :
  evFn Tb (sigL (laws_eqFact_es N)) cps (orcL (laws_eqFact_es N)) (drawReg Tb (sigL (laws_eqFact_es N)) cps (orcL (laws_eqFact_es N))) N laws_eqFact_an laws_eqFact_sg Try.f164 (Try.f164.body.getD .skip) [.val ty3 a, .val ty3 b] (un1 .bool) = laws_eqFact N a b := by kernel_rfl
noncomputable def laws_eqFact_e (N : Nat) : Entry Try.prog := ⟨164, laws_eqFact_sg, [.v ty3, .v ty3], Bool, laws_eqFact N, pk1 .bool, entry_en Try.func164 (code := Try.f164.body.getD .skip) (by kernel_rfl) (by kernel_rfl),
 fun a b => entry_ok tab_ok (es := laws_eqFact_es N) (by kernel_rfl) mixed Try.func164 (by kernel_rfl) ⟨⟨rfl, rfl⟩, rfl, rfl⟩ (un1_pk .bool) (laws_eqFact_v N a b)⟩
def laws_eqFactS_sg : Sig := ⟨[.val ty8, .val ty8], [(.bool, .dp)], false, false, none, none⟩
noncomputable def laws_eqFactS_es (N : Nat) : List (Entry Try.prog) := [laws_eqFact_e N]
def laws_eqFactS_an : Nat → Option (List Nat)
 | 0 => some [0, 1, 5]
 | _ => none
noncomputable def laws_eqFactS_lp (N : Nat) (p : List Dir) (rs : List (Env → Option (Bool))) (k : Nat) (env : Env) : Option (Bool) :=
 loopAt Tb (sigL (laws_eqFactS_es N)) cps (orcL (laws_eqFactS_es N)) N laws_eqFactS_an p (Try.f111.body.getD .skip) (endK Tb laws_eqFactS_sg Try.f111 [] (un1 .bool)) rs k env
noncomputable def laws_eqFactS_l0_E (N : Nat) (k_ : Nat) (a2 : List (Int × List Int)) (b2 : List (Int × List Int)) (i : Int) : Option (Bool) :=
 laws_eqFactS_lp N [.r, .r, .l, .r, .b] [] k_ (.con .val [lf ty8 a2 .ro] :: (.con .val [lf ty8 b2 .ro] :: (un 3 (.con .val [lf i64 i .ro] :: (un 21 [])))))
theorem laws_eqFactS_l0_z (N : Nat) (a2 : List (Int × List Int)) (b2 : List (Int × List Int)) (i : Int) : laws_eqFactS_l0_E N 0 a2 b2 i = none := by kernel_rfl
theorem laws_eqFactS_l0_s (N : Nat) (k_ : Nat) (a2 : List (Int × List Int)) (b2 : List (Int × List Int)) (i : Int) : laws_eqFactS_l0_E N (k_ + 1) a2 b2 i = laws_eqFactS_l0_b N (laws_eqFactS_l0_E N k_) a2 b2 i := by kernel_rfl
theorem laws_eqFactS_l0_q (N : Nat) : ∀ k_, laws_eqFactS_l0_E N k_ = laws_eqFactS_l0 N k_
 | 0 => by funext a2 b2 i; exact laws_eqFactS_l0_z N a2 b2 i
 | k_ + 1 => by funext a2 b2 i; rw [laws_eqFactS_l0_s]; simp only [laws_eqFactS_l0_q N k_]; rfl
theorem laws_eqFactS_v (N : Nat) (a : List (Int × List Int)) (b : List (Int × List Int)) :
  evFn Tb (sigL (laws_eqFactS_es N)) cps (orcL (laws_eqFactS_es N)) (drawReg Tb (sigL (laws_eqFactS_es N)) cps (orcL (laws_eqFactS_es N))) N laws_eqFactS_an laws_eqFactS_sg Try.f111 (Try.f111.body.getD .skip) [.val ty8 a, .val ty8 b] (un1 .bool) = laws_eqFactS_b N (laws_eqFactS_l0_E N N) a b := by kernel_rfl
noncomputable def laws_eqFactS_e (N : Nat) : Entry Try.prog := ⟨111, laws_eqFactS_sg, [.v ty8, .v ty8], Bool, laws_eqFactS N, pk1 .bool, entry_en Try.func111 (code := Try.f111.body.getD .skip) (by kernel_rfl) (by kernel_rfl),
 fun a b => entry_ok tab_ok (es := laws_eqFactS_es N) (by kernel_rfl) mixed Try.func111 (by kernel_rfl) ⟨⟨rfl, rfl⟩, rfl, rfl⟩ (un1_pk .bool) ((laws_eqFactS_v N a b).trans (by rw [laws_eqFactS_l0_q]; rfl))⟩
def laws_eqDatabase_sg : Sig := ⟨[.val ty9, .val ty9], [(.bool, .dp)], false, false, none, none⟩
noncomputable def laws_eqDatabase_es (N : Nat) : List (Entry Try.prog) := [laws_eqRelationS_e N, laws_eqFactS_e N]
def laws_eqDatabase_an : Nat → Option (List Nat) := fun _ => none
theorem laws_eqDatabase_v (N : Nat) (a : List (ByteArray × Int × Int) × List (Int × List Int)) (b : List (ByteArray × Int × Int) × List (Int × List Int)) :
  evFn Tb (sigL (laws_eqDatabase_es N)) cps (orcL (laws_eqDatabase_es N)) (drawReg Tb (sigL (laws_eqDatabase_es N)) cps (orcL (laws_eqDatabase_es N))) N laws_eqDatabase_an laws_eqDatabase_sg Try.f39 (Try.f39.body.getD .skip) [.val ty9 a, .val ty9 b] (un1 .bool) = laws_eqDatabase N a b := by kernel_rfl
noncomputable def laws_eqDatabase_e (N : Nat) : Entry Try.prog := ⟨39, laws_eqDatabase_sg, [.v ty9, .v ty9], Bool, laws_eqDatabase N, pk1 .bool, entry_en Try.func39 (code := Try.f39.body.getD .skip) (by kernel_rfl) (by kernel_rfl),
 fun a b => entry_ok tab_ok (es := laws_eqDatabase_es N) (by kernel_rfl) mixed Try.func39 (by kernel_rfl) ⟨⟨rfl, rfl⟩, rfl, rfl⟩ (un1_pk .bool) (laws_eqDatabase_v N a b)⟩
def laws_eqDenialConstraint_sg : Sig := ⟨[.val ty10, .val ty10], [(.bool, .dp)], false, false, none, none⟩
noncomputable def laws_eqDenialConstraint_es (N : Nat) : List (Entry Try.prog) := []
def laws_eqDenialConstraint_an : Nat → Option (List Nat) := fun _ => none
theorem laws_eqDenialConstraint_v (N : Nat) (a : Int × Int × Int × Int × Int × Int × Int) (b : Int × Int × Int × Int × Int × Int × Int) :
  evFn Tb (sigL (laws_eqDenialConstraint_es N)) cps (orcL (laws_eqDenialConstraint_es N)) (drawReg Tb (sigL (laws_eqDenialConstraint_es N)) cps (orcL (laws_eqDenialConstraint_es N))) N laws_eqDenialConstraint_an laws_eqDenialConstraint_sg Try.f129 (Try.f129.body.getD .skip) [.val ty10 a, .val ty10 b] (un1 .bool) = laws_eqDenialConstraint N a b := by kernel_rfl
noncomputable def laws_eqDenialConstraint_e (N : Nat) : Entry Try.prog := ⟨129, laws_eqDenialConstraint_sg, [.v ty10, .v ty10], Bool, laws_eqDenialConstraint N, pk1 .bool, entry_en Try.func129 (code := Try.f129.body.getD .skip) (by kernel_rfl) (by kernel_rfl),
 fun a b => entry_ok tab_ok (es := laws_eqDenialConstraint_es N) (by kernel_rfl) mixed Try.func129 (by kernel_rfl) ⟨⟨rfl, rfl⟩, rfl, rfl⟩ (un1_pk .bool) (laws_eqDenialConstraint_v N a b)⟩
def laws_eqDenialConstraintS_sg : Sig := ⟨[.val ty11, .val ty11], [(.bool, .dp)], false, false, none, none⟩
noncomputable def laws_eqDenialConstraintS_es (N : Nat) : List (Entry Try.prog) := [laws_eqDenialConstraint_e N]
def laws_eqDenialConstraintS_an : Nat → Option (List Nat)
 | 0 => some [0, 1, 5]
 | _ => none
noncomputable def laws_eqDenialConstraintS_lp (N : Nat) (p : List Dir) (rs : List (Env → Option (Bool))) (k : Nat) (env : Env) : Option (Bool) :=
 loopAt Tb (sigL (laws_eqDenialConstraintS_es N)) cps (orcL (laws_eqDenialConstraintS_es N)) N laws_eqDenialConstraintS_an p (Try.f58.body.getD .skip) (endK Tb laws_eqDenialConstraintS_sg Try.f58 [] (un1 .bool)) rs k env
noncomputable def laws_eqDenialConstraintS_l0_E (N : Nat) (k_ : Nat) (a2 : List (Int × Int × Int × Int × Int × Int × Int)) (b2 : List (Int × Int × Int × Int × Int × Int × Int)) (i : Int) : Option (Bool) :=
 laws_eqDenialConstraintS_lp N [.r, .r, .l, .r, .b] [] k_ (.con .val [lf ty11 a2 .ro] :: (.con .val [lf ty11 b2 .ro] :: (un 3 (.con .val [lf i64 i .ro] :: (un 21 [])))))
theorem laws_eqDenialConstraintS_l0_z (N : Nat) (a2 : List (Int × Int × Int × Int × Int × Int × Int)) (b2 : List (Int × Int × Int × Int × Int × Int × Int)) (i : Int) : laws_eqDenialConstraintS_l0_E N 0 a2 b2 i = none := by kernel_rfl
theorem laws_eqDenialConstraintS_l0_s (N : Nat) (k_ : Nat) (a2 : List (Int × Int × Int × Int × Int × Int × Int)) (b2 : List (Int × Int × Int × Int × Int × Int × Int)) (i : Int) : laws_eqDenialConstraintS_l0_E N (k_ + 1) a2 b2 i = laws_eqDenialConstraintS_l0_b N (laws_eqDenialConstraintS_l0_E N k_) a2 b2 i := by kernel_rfl
theorem laws_eqDenialConstraintS_l0_q (N : Nat) : ∀ k_, laws_eqDenialConstraintS_l0_E N k_ = laws_eqDenialConstraintS_l0 N k_
 | 0 => by funext a2 b2 i; exact laws_eqDenialConstraintS_l0_z N a2 b2 i
 | k_ + 1 => by funext a2 b2 i; rw [laws_eqDenialConstraintS_l0_s]; simp only [laws_eqDenialConstraintS_l0_q N k_]; rfl
theorem laws_eqDenialConstraintS_v (N : Nat) (a : List (Int × Int × Int × Int × Int × Int × Int)) (b : List (Int × Int × Int × Int × Int × Int × Int)) :
  evFn Tb (sigL (laws_eqDenialConstraintS_es N)) cps (orcL (laws_eqDenialConstraintS_es N)) (drawReg Tb (sigL (laws_eqDenialConstraintS_es N)) cps (orcL (laws_eqDenialConstraintS_es N))) N laws_eqDenialConstraintS_an laws_eqDenialConstraintS_sg Try.f58 (Try.f58.body.getD .skip) [.val ty11 a, .val ty11 b] (un1 .bool) = laws_eqDenialConstraintS_b N (laws_eqDenialConstraintS_l0_E N N) a b := by kernel_rfl
noncomputable def laws_eqDenialConstraintS_e (N : Nat) : Entry Try.prog := ⟨58, laws_eqDenialConstraintS_sg, [.v ty11, .v ty11], Bool, laws_eqDenialConstraintS N, pk1 .bool, entry_en Try.func58 (code := Try.f58.body.getD .skip) (by kernel_rfl) (by kernel_rfl),
 fun a b => entry_ok tab_ok (es := laws_eqDenialConstraintS_es N) (by kernel_rfl) mixed Try.func58 (by kernel_rfl) ⟨⟨rfl, rfl⟩, rfl, rfl⟩ (un1_pk .bool) ((laws_eqDenialConstraintS_v N a b).trans (by rw [laws_eqDenialConstraintS_l0_q]; rfl))⟩
def laws_markText_sg : Sig := ⟨[.val i64], [(.str, .dp)], false, false, none, none⟩
noncomputable def laws_markText_es (N : Nat) : List (Entry Try.prog) := []
def laws_markText_an : Nat → Option (List Nat)
 | 0 => some [0, 3]
 | _ => none
noncomputable def laws_markText_lp (N : Nat) (p : List Dir) (rs : List (Env → Option (ByteArray))) (k : Nat) (env : Env) : Option (ByteArray) :=
 loopAt Tb (sigL (laws_markText_es N)) cps (orcL (laws_markText_es N)) N laws_markText_an p (Try.f165.body.getD .skip) (endK Tb laws_markText_sg Try.f165 [] (un1 .str)) rs k env
noncomputable def laws_markText_l0_E (N : Nat) (k_ : Nat) (k2 : Int) (out : ByteArray) : Option (ByteArray) :=
 laws_markText_lp N [.r, .r, .r, .l, .b] [] k_ (.con .val [lf i64 k2 .ro] :: (un 2 (.con .val [lf .str out .ro] :: (un 16 []))))
theorem laws_markText_l0_z (N : Nat) (k2 : Int) (out : ByteArray) : laws_markText_l0_E N 0 k2 out = none := by kernel_rfl
theorem laws_markText_l0_s (N : Nat) (k_ : Nat) (k2 : Int) (out : ByteArray) : laws_markText_l0_E N (k_ + 1) k2 out = laws_markText_l0_b N (laws_markText_l0_E N k_) k2 out := by kernel_rfl
theorem laws_markText_l0_q (N : Nat) : ∀ k_, laws_markText_l0_E N k_ = laws_markText_l0 N k_
 | 0 => by funext k2 out; exact laws_markText_l0_z N k2 out
 | k_ + 1 => by funext k2 out; rw [laws_markText_l0_s]; simp only [laws_markText_l0_q N k_]; rfl
theorem laws_markText_v (N : Nat) (k : Int) :
  evFn Tb (sigL (laws_markText_es N)) cps (orcL (laws_markText_es N)) (drawReg Tb (sigL (laws_markText_es N)) cps (orcL (laws_markText_es N))) N laws_markText_an laws_markText_sg Try.f165 (Try.f165.body.getD .skip) [.val i64 k] (un1 .str) = laws_markText_b N (laws_markText_l0_E N N) k := by kernel_rfl
noncomputable def laws_markText_e (N : Nat) : Entry Try.prog := ⟨165, laws_markText_sg, [.v i64], ByteArray, laws_markText N, pk1 .str, entry_en Try.func165 (code := Try.f165.body.getD .skip) (by kernel_rfl) (by kernel_rfl),
 fun k => entry_ok tab_ok (es := laws_markText_es N) (by kernel_rfl) mixed Try.func165 (by kernel_rfl) ⟨⟨rfl, rfl⟩, rfl, rfl⟩ (un1_pk .str) ((laws_markText_v N k).trans (by rw [laws_markText_l0_q]; rfl))⟩
def laws_markRelationS_sg : Sig := ⟨[.val ty7, .val i64], [(i64, .dp)], true, false, none, none⟩
noncomputable def laws_markRelationS_es (N : Nat) : List (Entry Try.prog) := [laws_markText_e N]
def laws_markRelationS_an : Nat → Option (List Nat)
 | 0 => some [0, 1, 5]
 | _ => none
noncomputable def laws_markRelationS_lp (N : Nat) (p : List Dir) (rs : List (Env → Option ((List (ByteArray × Int × Int)) × Int))) (k : Nat) (env : Env) : Option ((List (ByteArray × Int × Int)) × Int) :=
 loopAt Tb (sigL (laws_markRelationS_es N)) cps (orcL (laws_markRelationS_es N)) N laws_markRelationS_an p (Try.f112.body.getD .skip) (endK Tb laws_markRelationS_sg Try.f112 [.val ty7 []] (un2 ty7 i64)) rs k env
noncomputable def laws_markRelationS_l0_E (N : Nat) (k_ : Nat) (a2 : List (ByteArray × Int × Int)) (k2 : Int) (i : Int) : Option ((List (ByteArray × Int × Int)) × Int) :=
 laws_markRelationS_lp N [.r, .l, .r, .b] [] k_ (.con .val [⟨ty7, a2, (.at_ (.pn 0))⟩] :: (.con .val [lf i64 k2 .ro] :: (un 3 (.con .val [lf i64 i .ro] :: (un 29 [])))))
theorem laws_markRelationS_l0_z (N : Nat) (a2 : List (ByteArray × Int × Int)) (k2 : Int) (i : Int) : laws_markRelationS_l0_E N 0 a2 k2 i = none := by kernel_rfl
theorem laws_markRelationS_l0_s (N : Nat) (k_ : Nat) (a2 : List (ByteArray × Int × Int)) (k2 : Int) (i : Int) : laws_markRelationS_l0_E N (k_ + 1) a2 k2 i = laws_markRelationS_l0_b N (laws_markRelationS_l0_E N k_) a2 k2 i := by kernel_rfl
theorem laws_markRelationS_l0_q (N : Nat) : ∀ k_, laws_markRelationS_l0_E N k_ = laws_markRelationS_l0 N k_
 | 0 => by funext a2 k2 i; exact laws_markRelationS_l0_z N a2 k2 i
 | k_ + 1 => by funext a2 k2 i; rw [laws_markRelationS_l0_s]; simp only [laws_markRelationS_l0_q N k_]; rfl
theorem laws_markRelationS_v (N : Nat) (a : List (ByteArray × Int × Int)) (k : Int) :
  evFn Tb (sigL (laws_markRelationS_es N)) cps (orcL (laws_markRelationS_es N)) (drawReg Tb (sigL (laws_markRelationS_es N)) cps (orcL (laws_markRelationS_es N))) N laws_markRelationS_an laws_markRelationS_sg Try.f112 (Try.f112.body.getD .skip) [.val ty7 a, .val i64 k] (un2 ty7 i64) = laws_markRelationS_b N (laws_markRelationS_l0_E N N) a k := by kernel_rfl
noncomputable def laws_markRelationS_e (N : Nat) : Entry Try.prog := ⟨112, laws_markRelationS_sg, [.v ty7, .v i64], (List (ByteArray × Int × Int)) × Int, laws_markRelationS N, pk2 ty7 i64, entry_en Try.func112 (code := Try.f112.body.getD .skip) (by kernel_rfl) (by kernel_rfl),
 fun a k => entry_okM tab_ok (es := laws_markRelationS_es N) (by kernel_rfl) mixed Try.func112 (by kernel_rfl) ⟨⟨rfl, rfl⟩, rfl, rfl⟩ (fun _ => ⟨_, _, rfl⟩) (un2_pk ty7 i64) ((laws_markRelationS_v N a k).trans (by rw [laws_markRelationS_l0_q]; rfl))⟩
def laws_markIntS_sg : Sig := ⟨[.val ty0, .val i64], [(i64, .dp)], true, false, none, none⟩
noncomputable def laws_markIntS_es (N : Nat) : List (Entry Try.prog) := []
def laws_markIntS_an : Nat → Option (List Nat)
 | 0 => some [0, 1, 5]
 | _ => none
noncomputable def laws_markIntS_lp (N : Nat) (p : List Dir) (rs : List (Env → Option (List Int × Int))) (k : Nat) (env : Env) : Option (List Int × Int) :=
 loopAt Tb (sigL (laws_markIntS_es N)) cps (orcL (laws_markIntS_es N)) N laws_markIntS_an p (Try.f41.body.getD .skip) (endK Tb laws_markIntS_sg Try.f41 [.val ty0 []] (un2 ty0 i64)) rs k env
noncomputable def laws_markIntS_l0_E (N : Nat) (k_ : Nat) (a2 : List Int) (k2 : Int) (i : Int) : Option (List Int × Int) :=
 laws_markIntS_lp N [.r, .l, .r, .b] [] k_ (.con .val [⟨ty0, a2, (.at_ (.pn 0))⟩] :: (.con .val [lf i64 k2 .ro] :: (un 3 (.con .val [lf i64 i .ro] :: (un 13 [])))))
theorem laws_markIntS_l0_z (N : Nat) (a2 : List Int) (k2 : Int) (i : Int) : laws_markIntS_l0_E N 0 a2 k2 i = none := by kernel_rfl
theorem laws_markIntS_l0_s (N : Nat) (k_ : Nat) (a2 : List Int) (k2 : Int) (i : Int) : laws_markIntS_l0_E N (k_ + 1) a2 k2 i = laws_markIntS_l0_b N (laws_markIntS_l0_E N k_) a2 k2 i := by kernel_rfl
theorem laws_markIntS_l0_q (N : Nat) : ∀ k_, laws_markIntS_l0_E N k_ = laws_markIntS_l0 N k_
 | 0 => by funext a2 k2 i; exact laws_markIntS_l0_z N a2 k2 i
 | k_ + 1 => by funext a2 k2 i; rw [laws_markIntS_l0_s]; simp only [laws_markIntS_l0_q N k_]; rfl
theorem laws_markIntS_v (N : Nat) (a : List Int) (k : Int) :
  evFn Tb (sigL (laws_markIntS_es N)) cps (orcL (laws_markIntS_es N)) (drawReg Tb (sigL (laws_markIntS_es N)) cps (orcL (laws_markIntS_es N))) N laws_markIntS_an laws_markIntS_sg Try.f41 (Try.f41.body.getD .skip) [.val ty0 a, .val i64 k] (un2 ty0 i64) = laws_markIntS_b N (laws_markIntS_l0_E N N) a k := by kernel_rfl
noncomputable def laws_markIntS_e (N : Nat) : Entry Try.prog := ⟨41, laws_markIntS_sg, [.v ty0, .v i64], List Int × Int, laws_markIntS N, pk2 ty0 i64, entry_en Try.func41 (code := Try.f41.body.getD .skip) (by kernel_rfl) (by kernel_rfl),
 fun a k => entry_okM tab_ok (es := laws_markIntS_es N) (by kernel_rfl) mixed Try.func41 (by kernel_rfl) ⟨⟨rfl, rfl⟩, rfl, rfl⟩ (fun _ => ⟨_, _, rfl⟩) (un2_pk ty0 i64) ((laws_markIntS_v N a k).trans (by rw [laws_markIntS_l0_q]; rfl))⟩
def laws_markFactS_sg : Sig := ⟨[.val ty8, .val i64], [(i64, .dp)], true, false, none, none⟩
noncomputable def laws_markFactS_es (N : Nat) : List (Entry Try.prog) := [laws_markIntS_e N]
def laws_markFactS_an : Nat → Option (List Nat)
 | 0 => some [0, 1, 5]
 | _ => none
noncomputable def laws_markFactS_lp (N : Nat) (p : List Dir) (rs : List (Env → Option ((List (Int × List Int)) × Int))) (k : Nat) (env : Env) : Option ((List (Int × List Int)) × Int) :=
 loopAt Tb (sigL (laws_markFactS_es N)) cps (orcL (laws_markFactS_es N)) N laws_markFactS_an p (Try.f113.body.getD .skip) (endK Tb laws_markFactS_sg Try.f113 [.val ty8 []] (un2 ty8 i64)) rs k env
noncomputable def laws_markFactS_l0_E (N : Nat) (k_ : Nat) (a2 : List (Int × List Int)) (k2 : Int) (i : Int) : Option ((List (Int × List Int)) × Int) :=
 laws_markFactS_lp N [.r, .l, .r, .b] [] k_ (.con .val [⟨ty8, a2, (.at_ (.pn 0))⟩] :: (.con .val [lf i64 k2 .ro] :: (un 3 (.con .val [lf i64 i .ro] :: (un 21 [])))))
theorem laws_markFactS_l0_z (N : Nat) (a2 : List (Int × List Int)) (k2 : Int) (i : Int) : laws_markFactS_l0_E N 0 a2 k2 i = none := by kernel_rfl
theorem laws_markFactS_l0_s (N : Nat) (k_ : Nat) (a2 : List (Int × List Int)) (k2 : Int) (i : Int) : laws_markFactS_l0_E N (k_ + 1) a2 k2 i = laws_markFactS_l0_b N (laws_markFactS_l0_E N k_) a2 k2 i := by kernel_rfl
theorem laws_markFactS_l0_q (N : Nat) : ∀ k_, laws_markFactS_l0_E N k_ = laws_markFactS_l0 N k_
 | 0 => by funext a2 k2 i; exact laws_markFactS_l0_z N a2 k2 i
 | k_ + 1 => by funext a2 k2 i; rw [laws_markFactS_l0_s]; simp only [laws_markFactS_l0_q N k_]; rfl
theorem laws_markFactS_v (N : Nat) (a : List (Int × List Int)) (k : Int) :
  evFn Tb (sigL (laws_markFactS_es N)) cps (orcL (laws_markFactS_es N)) (drawReg Tb (sigL (laws_markFactS_es N)) cps (orcL (laws_markFactS_es N))) N laws_markFactS_an laws_markFactS_sg Try.f113 (Try.f113.body.getD .skip) [.val ty8 a, .val i64 k] (un2 ty8 i64) = laws_markFactS_b N (laws_markFactS_l0_E N N) a k := by kernel_rfl
noncomputable def laws_markFactS_e (N : Nat) : Entry Try.prog := ⟨113, laws_markFactS_sg, [.v ty8, .v i64], (List (Int × List Int)) × Int, laws_markFactS N, pk2 ty8 i64, entry_en Try.func113 (code := Try.f113.body.getD .skip) (by kernel_rfl) (by kernel_rfl),
 fun a k => entry_okM tab_ok (es := laws_markFactS_es N) (by kernel_rfl) mixed Try.func113 (by kernel_rfl) ⟨⟨rfl, rfl⟩, rfl, rfl⟩ (fun _ => ⟨_, _, rfl⟩) (un2_pk ty8 i64) ((laws_markFactS_v N a k).trans (by rw [laws_markFactS_l0_q]; rfl))⟩
def laws_markDatabase_sg : Sig := ⟨[.val ty9, .val i64], [(i64, .dp)], true, false, none, none⟩
noncomputable def laws_markDatabase_es (N : Nat) : List (Entry Try.prog) := [laws_markRelationS_e N, laws_markFactS_e N]
def laws_markDatabase_an : Nat → Option (List Nat) := fun _ => none
theorem laws_markDatabase_v (N : Nat) (a : List (ByteArray × Int × Int) × List (Int × List Int)) (k : Int) :
  evFn Tb (sigL (laws_markDatabase_es N)) cps (orcL (laws_markDatabase_es N)) (drawReg Tb (sigL (laws_markDatabase_es N)) cps (orcL (laws_markDatabase_es N))) N laws_markDatabase_an laws_markDatabase_sg Try.f40 (Try.f40.body.getD .skip) [.val ty9 a, .val i64 k] (un2 ty9 i64) = laws_markDatabase N a k := by kernel_rfl
noncomputable def laws_markDatabase_e (N : Nat) : Entry Try.prog := ⟨40, laws_markDatabase_sg, [.v ty9, .v i64], (List (ByteArray × Int × Int) × List (Int × List Int)) × Int, laws_markDatabase N, pk2 ty9 i64, entry_en Try.func40 (code := Try.f40.body.getD .skip) (by kernel_rfl) (by kernel_rfl),
 fun a k => entry_okM tab_ok (es := laws_markDatabase_es N) (by kernel_rfl) mixed Try.func40 (by kernel_rfl) ⟨⟨rfl, rfl⟩, rfl, rfl⟩ (fun _ => ⟨_, _, rfl⟩) (un2_pk ty9 i64) (laws_markDatabase_v N a k)⟩
def laws_markDenialConstraintS_sg : Sig := ⟨[.val ty11, .val i64], [(i64, .dp)], true, false, none, none⟩
noncomputable def laws_markDenialConstraintS_es (N : Nat) : List (Entry Try.prog) := []
def laws_markDenialConstraintS_an : Nat → Option (List Nat)
 | 0 => some [0, 1, 5]
 | _ => none
noncomputable def laws_markDenialConstraintS_lp (N : Nat) (p : List Dir) (rs : List (Env → Option ((List (Int × Int × Int × Int × Int × Int × Int)) × Int))) (k : Nat) (env : Env) : Option ((List (Int × Int × Int × Int × Int × Int × Int)) × Int) :=
 loopAt Tb (sigL (laws_markDenialConstraintS_es N)) cps (orcL (laws_markDenialConstraintS_es N)) N laws_markDenialConstraintS_an p (Try.f59.body.getD .skip) (endK Tb laws_markDenialConstraintS_sg Try.f59 [.val ty11 []] (un2 ty11 i64)) rs k env
noncomputable def laws_markDenialConstraintS_l0_E (N : Nat) (k_ : Nat) (a2 : List (Int × Int × Int × Int × Int × Int × Int)) (k2 : Int) (i : Int) : Option ((List (Int × Int × Int × Int × Int × Int × Int)) × Int) :=
 laws_markDenialConstraintS_lp N [.r, .l, .r, .b] [] k_ (.con .val [⟨ty11, a2, (.at_ (.pn 0))⟩] :: (.con .val [lf i64 k2 .ro] :: (un 3 (.con .val [lf i64 i .ro] :: (un 56 [])))))
theorem laws_markDenialConstraintS_l0_z (N : Nat) (a2 : List (Int × Int × Int × Int × Int × Int × Int)) (k2 : Int) (i : Int) : laws_markDenialConstraintS_l0_E N 0 a2 k2 i = none := by kernel_rfl
theorem laws_markDenialConstraintS_l0_s (N : Nat) (k_ : Nat) (a2 : List (Int × Int × Int × Int × Int × Int × Int)) (k2 : Int) (i : Int) : laws_markDenialConstraintS_l0_E N (k_ + 1) a2 k2 i = laws_markDenialConstraintS_l0_b N (laws_markDenialConstraintS_l0_E N k_) a2 k2 i := by kernel_rfl
theorem laws_markDenialConstraintS_l0_q (N : Nat) : ∀ k_, laws_markDenialConstraintS_l0_E N k_ = laws_markDenialConstraintS_l0 N k_
 | 0 => by funext a2 k2 i; exact laws_markDenialConstraintS_l0_z N a2 k2 i
 | k_ + 1 => by funext a2 k2 i; rw [laws_markDenialConstraintS_l0_s]; simp only [laws_markDenialConstraintS_l0_q N k_]; rfl
theorem laws_markDenialConstraintS_v (N : Nat) (a : List (Int × Int × Int × Int × Int × Int × Int)) (k : Int) :
  evFn Tb (sigL (laws_markDenialConstraintS_es N)) cps (orcL (laws_markDenialConstraintS_es N)) (drawReg Tb (sigL (laws_markDenialConstraintS_es N)) cps (orcL (laws_markDenialConstraintS_es N))) N laws_markDenialConstraintS_an laws_markDenialConstraintS_sg Try.f59 (Try.f59.body.getD .skip) [.val ty11 a, .val i64 k] (un2 ty11 i64) = laws_markDenialConstraintS_b N (laws_markDenialConstraintS_l0_E N N) a k := by kernel_rfl
noncomputable def laws_markDenialConstraintS_e (N : Nat) : Entry Try.prog := ⟨59, laws_markDenialConstraintS_sg, [.v ty11, .v i64], (List (Int × Int × Int × Int × Int × Int × Int)) × Int, laws_markDenialConstraintS N, pk2 ty11 i64, entry_en Try.func59 (code := Try.f59.body.getD .skip) (by kernel_rfl) (by kernel_rfl),
 fun a k => entry_okM tab_ok (es := laws_markDenialConstraintS_es N) (by kernel_rfl) mixed Try.func59 (by kernel_rfl) ⟨⟨rfl, rfl⟩, rfl, rfl⟩ (fun _ => ⟨_, _, rfl⟩) (un2_pk ty11 i64) ((laws_markDenialConstraintS_v N a k).trans (by rw [laws_markDenialConstraintS_l0_q]; rfl))⟩
def laws_markIntSS_sg : Sig := ⟨[.val ty13, .val i64], [(i64, .dp)], true, false, none, none⟩
noncomputable def laws_markIntSS_es (N : Nat) : List (Entry Try.prog) := [laws_markIntS_e N]
def laws_markIntSS_an : Nat → Option (List Nat)
 | 0 => some [0, 1, 5]
 | _ => none
noncomputable def laws_markIntSS_lp (N : Nat) (p : List Dir) (rs : List (Env → Option (List (List Int) × Int))) (k : Nat) (env : Env) : Option (List (List Int) × Int) :=
 loopAt Tb (sigL (laws_markIntSS_es N)) cps (orcL (laws_markIntSS_es N)) N laws_markIntSS_an p (Try.f70.body.getD .skip) (endK Tb laws_markIntSS_sg Try.f70 [.val ty13 []] (un2 ty13 i64)) rs k env
noncomputable def laws_markIntSS_l0_E (N : Nat) (k_ : Nat) (a2 : List (List Int)) (k2 : Int) (i : Int) : Option (List (List Int) × Int) :=
 laws_markIntSS_lp N [.r, .l, .r, .b] [] k_ (.con .val [⟨ty13, a2, (.at_ (.pn 0))⟩] :: (.con .val [lf i64 k2 .ro] :: (un 3 (.con .val [lf i64 i .ro] :: (un 13 [])))))
theorem laws_markIntSS_l0_z (N : Nat) (a2 : List (List Int)) (k2 : Int) (i : Int) : laws_markIntSS_l0_E N 0 a2 k2 i = none := by kernel_rfl
theorem laws_markIntSS_l0_s (N : Nat) (k_ : Nat) (a2 : List (List Int)) (k2 : Int) (i : Int) : laws_markIntSS_l0_E N (k_ + 1) a2 k2 i = laws_markIntSS_l0_b N (laws_markIntSS_l0_E N k_) a2 k2 i := by kernel_rfl
theorem laws_markIntSS_l0_q (N : Nat) : ∀ k_, laws_markIntSS_l0_E N k_ = laws_markIntSS_l0 N k_
 | 0 => by funext a2 k2 i; exact laws_markIntSS_l0_z N a2 k2 i
 | k_ + 1 => by funext a2 k2 i; rw [laws_markIntSS_l0_s]; simp only [laws_markIntSS_l0_q N k_]; rfl
theorem laws_markIntSS_v (N : Nat) (a : List (List Int)) (k : Int) :
  evFn Tb (sigL (laws_markIntSS_es N)) cps (orcL (laws_markIntSS_es N)) (drawReg Tb (sigL (laws_markIntSS_es N)) cps (orcL (laws_markIntSS_es N))) N laws_markIntSS_an laws_markIntSS_sg Try.f70 (Try.f70.body.getD .skip) [.val ty13 a, .val i64 k] (un2 ty13 i64) = laws_markIntSS_b N (laws_markIntSS_l0_E N N) a k := by kernel_rfl
noncomputable def laws_markIntSS_e (N : Nat) : Entry Try.prog := ⟨70, laws_markIntSS_sg, [.v ty13, .v i64], List (List Int) × Int, laws_markIntSS N, pk2 ty13 i64, entry_en Try.func70 (code := Try.f70.body.getD .skip) (by kernel_rfl) (by kernel_rfl),
 fun a k => entry_okM tab_ok (es := laws_markIntSS_es N) (by kernel_rfl) mixed Try.func70 (by kernel_rfl) ⟨⟨rfl, rfl⟩, rfl, rfl⟩ (fun _ => ⟨_, _, rfl⟩) (un2_pk ty13 i64) ((laws_markIntSS_v N a k).trans (by rw [laws_markIntSS_l0_q]; rfl))⟩
def laws_heldIntS_sg : Sig := ⟨[.val ty0, .val i64], [(i64, .dp)], false, false, none, none⟩
noncomputable def laws_heldIntS_es (N : Nat) : List (Entry Try.prog) := []
def laws_heldIntS_an : Nat → Option (List Nat)
 | 0 => some [0, 1, 5]
 | _ => none
noncomputable def laws_heldIntS_lp (N : Nat) (p : List Dir) (rs : List (Env → Option (Int))) (k : Nat) (env : Env) : Option (Int) :=
 loopAt Tb (sigL (laws_heldIntS_es N)) cps (orcL (laws_heldIntS_es N)) N laws_heldIntS_an p (Try.f42.body.getD .skip) (endK Tb laws_heldIntS_sg Try.f42 [] (un1 i64)) rs k env
noncomputable def laws_heldIntS_l0_E (N : Nat) (k_ : Nat) (a2 : List Int) (k2 : Int) (i : Int) : Option (Int) :=
 laws_heldIntS_lp N [.r, .l, .r, .b] [] k_ (.con .val [lf ty0 a2 .ro] :: (.con .val [lf i64 k2 .ro] :: (un 3 (.con .val [lf i64 i .ro] :: (un 15 [])))))
theorem laws_heldIntS_l0_z (N : Nat) (a2 : List Int) (k2 : Int) (i : Int) : laws_heldIntS_l0_E N 0 a2 k2 i = none := by kernel_rfl
theorem laws_heldIntS_l0_s (N : Nat) (k_ : Nat) (a2 : List Int) (k2 : Int) (i : Int) : laws_heldIntS_l0_E N (k_ + 1) a2 k2 i = laws_heldIntS_l0_b N (laws_heldIntS_l0_E N k_) a2 k2 i := by kernel_rfl
theorem laws_heldIntS_l0_q (N : Nat) : ∀ k_, laws_heldIntS_l0_E N k_ = laws_heldIntS_l0 N k_
 | 0 => by funext a2 k2 i; exact laws_heldIntS_l0_z N a2 k2 i
 | k_ + 1 => by funext a2 k2 i; rw [laws_heldIntS_l0_s]; simp only [laws_heldIntS_l0_q N k_]; rfl
theorem laws_heldIntS_v (N : Nat) (a : List Int) (k : Int) :
  evFn Tb (sigL (laws_heldIntS_es N)) cps (orcL (laws_heldIntS_es N)) (drawReg Tb (sigL (laws_heldIntS_es N)) cps (orcL (laws_heldIntS_es N))) N laws_heldIntS_an laws_heldIntS_sg Try.f42 (Try.f42.body.getD .skip) [.val ty0 a, .val i64 k] (un1 i64) = laws_heldIntS_b N (laws_heldIntS_l0_E N N) a k := by kernel_rfl
noncomputable def laws_heldIntS_e (N : Nat) : Entry Try.prog := ⟨42, laws_heldIntS_sg, [.v ty0, .v i64], Int, laws_heldIntS N, pk1 i64, entry_en Try.func42 (code := Try.f42.body.getD .skip) (by kernel_rfl) (by kernel_rfl),
 fun a k => entry_ok tab_ok (es := laws_heldIntS_es N) (by kernel_rfl) mixed Try.func42 (by kernel_rfl) ⟨⟨rfl, rfl⟩, rfl, rfl⟩ (un1_pk i64) ((laws_heldIntS_v N a k).trans (by rw [laws_heldIntS_l0_q]; rfl))⟩
def laws_heldIntSS_sg : Sig := ⟨[.val ty13, .val i64], [(i64, .dp)], false, false, none, none⟩
noncomputable def laws_heldIntSS_es (N : Nat) : List (Entry Try.prog) := [laws_heldIntS_e N]
def laws_heldIntSS_an : Nat → Option (List Nat)
 | 0 => some [0, 1, 5]
 | _ => none
noncomputable def laws_heldIntSS_lp (N : Nat) (p : List Dir) (rs : List (Env → Option (Int))) (k : Nat) (env : Env) : Option (Int) :=
 loopAt Tb (sigL (laws_heldIntSS_es N)) cps (orcL (laws_heldIntSS_es N)) N laws_heldIntSS_an p (Try.f71.body.getD .skip) (endK Tb laws_heldIntSS_sg Try.f71 [] (un1 i64)) rs k env
noncomputable def laws_heldIntSS_l0_E (N : Nat) (k_ : Nat) (a2 : List (List Int)) (k2 : Int) (i : Int) : Option (Int) :=
 laws_heldIntSS_lp N [.r, .l, .r, .b] [] k_ (.con .val [lf ty13 a2 .ro] :: (.con .val [lf i64 k2 .ro] :: (un 3 (.con .val [lf i64 i .ro] :: (un 15 [])))))
theorem laws_heldIntSS_l0_z (N : Nat) (a2 : List (List Int)) (k2 : Int) (i : Int) : laws_heldIntSS_l0_E N 0 a2 k2 i = none := by kernel_rfl
theorem laws_heldIntSS_l0_s (N : Nat) (k_ : Nat) (a2 : List (List Int)) (k2 : Int) (i : Int) : laws_heldIntSS_l0_E N (k_ + 1) a2 k2 i = laws_heldIntSS_l0_b N (laws_heldIntSS_l0_E N k_) a2 k2 i := by kernel_rfl
theorem laws_heldIntSS_l0_q (N : Nat) : ∀ k_, laws_heldIntSS_l0_E N k_ = laws_heldIntSS_l0 N k_
 | 0 => by funext a2 k2 i; exact laws_heldIntSS_l0_z N a2 k2 i
 | k_ + 1 => by funext a2 k2 i; rw [laws_heldIntSS_l0_s]; simp only [laws_heldIntSS_l0_q N k_]; rfl
theorem laws_heldIntSS_v (N : Nat) (a : List (List Int)) (k : Int) :
  evFn Tb (sigL (laws_heldIntSS_es N)) cps (orcL (laws_heldIntSS_es N)) (drawReg Tb (sigL (laws_heldIntSS_es N)) cps (orcL (laws_heldIntSS_es N))) N laws_heldIntSS_an laws_heldIntSS_sg Try.f71 (Try.f71.body.getD .skip) [.val ty13 a, .val i64 k] (un1 i64) = laws_heldIntSS_b N (laws_heldIntSS_l0_E N N) a k := by kernel_rfl
noncomputable def laws_heldIntSS_e (N : Nat) : Entry Try.prog := ⟨71, laws_heldIntSS_sg, [.v ty13, .v i64], Int, laws_heldIntSS N, pk1 i64, entry_en Try.func71 (code := Try.f71.body.getD .skip) (by kernel_rfl) (by kernel_rfl),
 fun a k => entry_ok tab_ok (es := laws_heldIntSS_es N) (by kernel_rfl) mixed Try.func71 (by kernel_rfl) ⟨⟨rfl, rfl⟩, rfl, rfl⟩ (un1_pk i64) ((laws_heldIntSS_v N a k).trans (by rw [laws_heldIntSS_l0_q]; rfl))⟩
def laws_FnExactSubsetRepairs_sg : Sig := ⟨[.val ty5, .val ty6], [(.bool, .dp)], false, false, none, none⟩
noncomputable def laws_FnExactSubsetRepairs_es (N : Nat) : List (Entry Try.prog) := [laws_szDatabase_e N, laws_szDenialConstraintS_e N, laws_toDatabase_e N, laws_toDenialConstraintS_e N, spec_SubsetRepairs_e N, impl_SubsetRepairs_e N, laws_eqIntSS_e N, laws_eqDatabase_e N, laws_eqDenialConstraintS_e N, laws_markDatabase_e N, laws_markDenialConstraintS_e N, laws_markIntSS_e N, laws_heldIntSS_e N]
def laws_FnExactSubsetRepairs_an : Nat → Option (List Nat) := fun _ => none
theorem laws_FnExactSubsetRepairs_v (N : Nat) (aDb : List (ByteArray × Int × Int) × List (Int × List Int)) (aConstraints : List (Int × Int × Int × Int × Int × Int × Int)) :
  evFn Tb (sigL (laws_FnExactSubsetRepairs_es N)) cps (orcL (laws_FnExactSubsetRepairs_es N)) (drawReg Tb (sigL (laws_FnExactSubsetRepairs_es N)) cps (orcL (laws_FnExactSubsetRepairs_es N))) N laws_FnExactSubsetRepairs_an laws_FnExactSubsetRepairs_sg Try.f10 (Try.f10.body.getD .skip) [.val ty5 aDb, .val ty6 aConstraints] (un1 .bool) = laws_FnExactSubsetRepairs N aDb aConstraints := by kernel_rfl
noncomputable def laws_FnExactSubsetRepairs_e (N : Nat) : Entry Try.prog := ⟨10, laws_FnExactSubsetRepairs_sg, [.v ty5, .v ty6], Bool, laws_FnExactSubsetRepairs N, pk1 .bool, entry_en Try.func10 (code := Try.f10.body.getD .skip) (by kernel_rfl) (by kernel_rfl),
 fun aDb aConstraints => entry_ok tab_ok (es := laws_FnExactSubsetRepairs_es N) (by kernel_rfl) mixed Try.func10 (by kernel_rfl) ⟨⟨rfl, rfl⟩, rfl, rfl⟩ (un1_pk .bool) (laws_FnExactSubsetRepairs_v N aDb aConstraints)⟩
end Go.PL
