/- What the machine does at each function is what the plain reading says. Conditions: none. -/
import Derived.Test.YtonpdomdcgfpfaaFpD
import Derived.Test.YtonpdomdcgfpfaaPlain
import Derived.Test.YtonpdomdcgfpfaaProg

/- What the machine does is what the plain reading says. Conditions: none. -/
namespace Go.PL
open Go.FP Go.Proofs
set_option linter.unusedVariables false
set_option maxRecDepth 10000

abbrev i64 : Ty := .int .i64
abbrev ty0 : Ty := (.pair .str (.pair i64 i64))
abbrev ty1 : Ty := (.slice 147 (.pair .str (.pair i64 i64)))
abbrev ty2 : Ty := (.slice 3 i64)
abbrev ty3 : Ty := (.pair i64 (.slice 3 i64))
abbrev ty4 : Ty := (.slice 149 (.pair i64 (.slice 3 i64)))
abbrev ty5 : Ty := (.pair (.slice 147 (.pair .str (.pair i64 i64))) (.slice 149 (.pair i64 (.slice 3 i64))))
abbrev ty6 : Ty := (.slice 120 (.pair i64 (.pair i64 (.pair i64 (.pair i64 (.pair i64 (.pair i64 i64)))))))
abbrev ty7 : Ty := (.slice 124 (.pair .str (.pair i64 i64)))
abbrev ty8 : Ty := (.slice 90 (.pair i64 (.slice 3 i64)))
abbrev ty9 : Ty := (.pair (.slice 124 (.pair .str (.pair i64 i64))) (.slice 90 (.pair i64 (.slice 3 i64))))
abbrev ty10 : Ty := (.pair i64 (.pair i64 (.pair i64 (.pair i64 (.pair i64 (.pair i64 i64))))))
abbrev ty11 : Ty := (.slice 118 (.pair i64 (.pair i64 (.pair i64 (.pair i64 (.pair i64 (.pair i64 i64)))))))
abbrev ty12 : Ty := (.slice 116 (.pair i64 i64))
abbrev ty13 : Ty := (.pair i64 i64)
abbrev ty14 : Ty := (.slice 5 (.int .u8))
def Tb : Tab := [⟨3, i64, 8, []⟩,
  ⟨4, .bool, 1, []⟩,
  ⟨5, (.int .u8), 1, []⟩,
  ⟨9, .str, 16, []⟩,
  ⟨22, ty14, 24, []⟩,
  ⟨24, ty7, 24, []⟩,
  ⟨25, ty8, 24, []⟩,
  ⟨27, ty9, 48, [(0, 24), (1, 25)]⟩,
  ⟨38, ty2, 24, []⟩,
  ⟨44, ty1, 24, []⟩,
  ⟨45, ty4, 24, []⟩,
  ⟨47, ty5, 48, [(0, 44), (1, 45)]⟩,
  ⟨65, ty6, 24, []⟩,
  ⟨67, ty12, 24, []⟩,
  ⟨69, ty11, 24, []⟩,
  ⟨90, ty3, 32, [(0, 3), (1, 38)]⟩,
  ⟨116, ty13, 16, [(0, 3), (1, 3)]⟩,
  ⟨118, ty10, 56, [(0, 3), (1, 3), (2, 3), (3, 3), (4, 3), (5, 3), (6, 3)]⟩,
  ⟨120, ty10, 56, [(0, 3), (1, 3), (2, 3), (3, 3), (4, 3), (5, 3), (6, 3)]⟩,
  ⟨124, ty0, 32, [(0, 9), (1, 3), (2, 3)]⟩,
  ⟨147, ty0, 32, [(0, 9), (1, 3), (2, 3)]⟩,
  ⟨149, ty3, 32, [(0, 3), (1, 38)]⟩]
theorem tab_ok : TabOk Try.prog Tb :=
  (tab_cons (TEOk.plain (i := Try.t3) (by kernel_rfl) rfl rfl (by kernel_rfl) rfl Try.underlying3)
  (tab_cons (TEOk.plain (i := Try.t4) (by kernel_rfl) rfl rfl (by kernel_rfl) rfl Try.underlying4)
  (tab_cons (TEOk.plain (i := Try.t5) (by kernel_rfl) rfl rfl (by kernel_rfl) rfl Try.underlying5)
  (tab_cons (TEOk.plain (i := Try.t9) (by kernel_rfl) rfl rfl (by kernel_rfl) rfl Try.underlying9)
  (tab_cons (TEOk.plain (i := Try.t22) (by kernel_rfl) rfl rfl (by kernel_rfl) rfl Try.underlying22)
  (tab_cons (TEOk.plain (i := Try.t24) (by kernel_rfl) rfl rfl (by kernel_rfl) rfl Try.underlying24)
  (tab_cons (TEOk.plain (i := Try.t25) (by kernel_rfl) rfl rfl (by kernel_rfl) rfl Try.underlying25)
  (tab_cons (TEOk.struct (i := Try.t27) (pl := [(0, 1), (1, 1)]) (by kernel_rfl) rfl rfl (by kernel_rfl) Try.underlying27 (by kernel_rfl) (by kernel_rfl) rfl)
  (tab_cons (TEOk.plain (i := Try.t38) (by kernel_rfl) rfl rfl (by kernel_rfl) rfl Try.underlying38)
  (tab_cons (TEOk.plain (i := Try.t44) (by kernel_rfl) rfl rfl (by kernel_rfl) rfl Try.underlying44)
  (tab_cons (TEOk.plain (i := Try.t45) (by kernel_rfl) rfl rfl (by kernel_rfl) rfl Try.underlying45)
  (tab_cons (TEOk.struct (i := Try.t47) (pl := [(0, 1), (1, 1)]) (by kernel_rfl) rfl rfl (by kernel_rfl) Try.underlying47 (by kernel_rfl) (by kernel_rfl) rfl)
  (tab_cons (TEOk.plain (i := Try.t65) (by kernel_rfl) rfl rfl (by kernel_rfl) rfl Try.underlying65)
  (tab_cons (TEOk.plain (i := Try.t67) (by kernel_rfl) rfl rfl (by kernel_rfl) rfl Try.underlying67)
  (tab_cons (TEOk.plain (i := Try.t69) (by kernel_rfl) rfl rfl (by kernel_rfl) rfl Try.underlying69)
  (tab_cons (TEOk.struct (i := Try.t90) (pl := [(0, 1), (1, 1)]) (by kernel_rfl) rfl rfl (by kernel_rfl) Try.underlying90 (by kernel_rfl) (by kernel_rfl) rfl)
  (tab_cons (TEOk.struct (i := Try.t116) (pl := [(0, 1), (1, 1)]) (by kernel_rfl) rfl rfl (by kernel_rfl) Try.underlying116 (by kernel_rfl) (by kernel_rfl) rfl)
  (tab_cons (TEOk.struct (i := Try.t118) (pl := [(0, 1), (1, 1), (2, 1), (3, 1), (4, 1), (5, 1), (6, 1)]) (by kernel_rfl) rfl rfl (by kernel_rfl) Try.underlying118 (by kernel_rfl) (by kernel_rfl) rfl)
  (tab_cons (TEOk.struct (i := Try.t120) (pl := [(0, 1), (1, 1), (2, 1), (3, 1), (4, 1), (5, 1), (6, 1)]) (by kernel_rfl) rfl rfl (by kernel_rfl) Try.underlying120 (by kernel_rfl) (by kernel_rfl) rfl)
  (tab_cons (TEOk.struct (i := Try.t124) (pl := [(0, 1), (1, 1), (2, 1)]) (by kernel_rfl) rfl rfl (by kernel_rfl) Try.underlying124 (by kernel_rfl) (by kernel_rfl) rfl)
  (tab_cons (TEOk.struct (i := Try.t147) (pl := [(0, 1), (1, 1), (2, 1)]) (by kernel_rfl) rfl rfl (by kernel_rfl) Try.underlying147 (by kernel_rfl) (by kernel_rfl) rfl)
  (tab_cons (TEOk.struct (i := Try.t149) (pl := [(0, 1), (1, 1)]) (by kernel_rfl) rfl rfl (by kernel_rfl) Try.underlying149 (by kernel_rfl) (by kernel_rfl) rfl)
  tab_nil))))))))))))))))))))))
theorem mixed : Try.prog.follows .mixedOrders = true := by decide
def cps : FuncId → List Ty := capsL [(171, [ty11, ty9]), (217, [])]

noncomputable def laws_szRelation_es (N : Nat) : List (Entry Try.prog) := []
def laws_szRelation_sg : Sig := ⟨[.val ty0, .val i64], [(i64, true)], false⟩
def laws_szRelation_an : Nat → Option (List Nat) := fun _ => none
theorem laws_szRelation_v (N : Nat) (a : ByteArray × Int × Int) (left_ : Int) :
    evFn Tb (sigL (laws_szRelation_es N)) cps (orcL (laws_szRelation_es N)) (drawReg Tb (sigL (laws_szRelation_es N)) cps (orcL (laws_szRelation_es N))) N laws_szRelation_an laws_szRelation_sg Try.f158 (Try.f158.body.getD .skip) [.val ty0 a, .val i64 left_] (un1 i64) = laws_szRelation N a left_ := by kernel_rfl
noncomputable def laws_szRelation_e (N : Nat) : Entry Try.prog := ⟨158, laws_szRelation_sg, [.v ty0, .v i64], Int, laws_szRelation N, pk1 i64, entry_en Try.func158 (code := Try.f158.body.getD .skip) (by kernel_rfl) (by kernel_rfl),
  fun a left_ => entry_ok tab_ok (es := laws_szRelation_es N) (by kernel_rfl) mixed Try.func158 (by kernel_rfl) rfl (un1_pk i64) (laws_szRelation_v N a left_)⟩
noncomputable def laws_szRelationS_es (N : Nat) : List (Entry Try.prog) := [laws_szRelation_e N]
def laws_szRelationS_sg : Sig := ⟨[.val ty1, .val i64], [(i64, true)], false⟩
def laws_szRelationS_an : Nat → Option (List Nat)
  | 0 => some [0, 1, 5]
  | _ => none
noncomputable def laws_szRelationS_lp (N : Nat) (p : List Dir) (rs : List (Env → Option (Int))) (k : Nat) (env : Env) : Option (Int) :=
  loopAt Tb (sigL (laws_szRelationS_es N)) cps (orcL (laws_szRelationS_es N)) N laws_szRelationS_an p (Try.f104.body.getD .skip) (endK Tb laws_szRelationS_sg Try.f104 [] (un1 i64)) rs k env
noncomputable def laws_szRelationS_l0_E (N : Nat) (k_ : Nat) (a2 : List (ByteArray × Int × Int)) (left_2 : Int) (i : Int) : Option (Int) :=
  laws_szRelationS_lp N [.r, .r, .r, .l, .r, .b] [] k_ (.con .val [lf ty1 a2 .ro] :: (.con .val [lf i64 left_2 .ro] :: (un 3 (.con .val [lf i64 i .ro] :: (un 21 [])))))
theorem laws_szRelationS_l0_z (N : Nat) (a2 : List (ByteArray × Int × Int)) (left_2 : Int) (i : Int) : laws_szRelationS_l0_E N 0 a2 left_2 i = none := by kernel_rfl
theorem laws_szRelationS_l0_s (N : Nat) (k_ : Nat) (a2 : List (ByteArray × Int × Int)) (left_2 : Int) (i : Int) : laws_szRelationS_l0_E N (k_ + 1) a2 left_2 i = laws_szRelationS_l0_b N (laws_szRelationS_l0_E N k_) a2 left_2 i := by kernel_rfl
theorem laws_szRelationS_l0_q (N : Nat) : ∀ k_, laws_szRelationS_l0_E N k_ = laws_szRelationS_l0 N k_
  | 0 => by funext a2 left_2 i; exact laws_szRelationS_l0_z N a2 left_2 i
  | k_ + 1 => by funext a2 left_2 i; rw [laws_szRelationS_l0_s]; simp only [laws_szRelationS_l0_q N k_]; rfl
theorem laws_szRelationS_v (N : Nat) (a : List (ByteArray × Int × Int)) (left_ : Int) :
    evFn Tb (sigL (laws_szRelationS_es N)) cps (orcL (laws_szRelationS_es N)) (drawReg Tb (sigL (laws_szRelationS_es N)) cps (orcL (laws_szRelationS_es N))) N laws_szRelationS_an laws_szRelationS_sg Try.f104 (Try.f104.body.getD .skip) [.val ty1 a, .val i64 left_] (un1 i64) = laws_szRelationS_b N (laws_szRelationS_l0_E N N) a left_ := by kernel_rfl
noncomputable def laws_szRelationS_e (N : Nat) : Entry Try.prog := ⟨104, laws_szRelationS_sg, [.v ty1, .v i64], Int, laws_szRelationS N, pk1 i64, entry_en Try.func104 (code := Try.f104.body.getD .skip) (by kernel_rfl) (by kernel_rfl),
  fun a left_ => entry_ok tab_ok (es := laws_szRelationS_es N) (by kernel_rfl) mixed Try.func104 (by kernel_rfl) rfl (un1_pk i64) (by rw [laws_szRelationS_v, laws_szRelationS_l0_q]; rfl)⟩
noncomputable def laws_szIntS_es (N : Nat) : List (Entry Try.prog) := []
def laws_szIntS_sg : Sig := ⟨[.val ty2, .val i64], [(i64, true)], false⟩
def laws_szIntS_an : Nat → Option (List Nat) := fun _ => none
theorem laws_szIntS_v (N : Nat) (a : List Int) (left_ : Int) :
    evFn Tb (sigL (laws_szIntS_es N)) cps (orcL (laws_szIntS_es N)) (drawReg Tb (sigL (laws_szIntS_es N)) cps (orcL (laws_szIntS_es N))) N laws_szIntS_an laws_szIntS_sg Try.f195 (Try.f195.body.getD .skip) [.val ty2 a, .val i64 left_] (un1 i64) = laws_szIntS N a left_ := by kernel_rfl
noncomputable def laws_szIntS_e (N : Nat) : Entry Try.prog := ⟨195, laws_szIntS_sg, [.v ty2, .v i64], Int, laws_szIntS N, pk1 i64, entry_en Try.func195 (code := Try.f195.body.getD .skip) (by kernel_rfl) (by kernel_rfl),
  fun a left_ => entry_ok tab_ok (es := laws_szIntS_es N) (by kernel_rfl) mixed Try.func195 (by kernel_rfl) rfl (un1_pk i64) (laws_szIntS_v N a left_)⟩
noncomputable def laws_szFact_es (N : Nat) : List (Entry Try.prog) := [laws_szIntS_e N]
def laws_szFact_sg : Sig := ⟨[.val ty3, .val i64], [(i64, true)], false⟩
def laws_szFact_an : Nat → Option (List Nat) := fun _ => none
theorem laws_szFact_v (N : Nat) (a : Int × List Int) (left_ : Int) :
    evFn Tb (sigL (laws_szFact_es N)) cps (orcL (laws_szFact_es N)) (drawReg Tb (sigL (laws_szFact_es N)) cps (orcL (laws_szFact_es N))) N laws_szFact_an laws_szFact_sg Try.f159 (Try.f159.body.getD .skip) [.val ty3 a, .val i64 left_] (un1 i64) = laws_szFact N a left_ := by kernel_rfl
noncomputable def laws_szFact_e (N : Nat) : Entry Try.prog := ⟨159, laws_szFact_sg, [.v ty3, .v i64], Int, laws_szFact N, pk1 i64, entry_en Try.func159 (code := Try.f159.body.getD .skip) (by kernel_rfl) (by kernel_rfl),
  fun a left_ => entry_ok tab_ok (es := laws_szFact_es N) (by kernel_rfl) mixed Try.func159 (by kernel_rfl) rfl (un1_pk i64) (laws_szFact_v N a left_)⟩
noncomputable def laws_szFactS_es (N : Nat) : List (Entry Try.prog) := [laws_szFact_e N]
def laws_szFactS_sg : Sig := ⟨[.val ty4, .val i64], [(i64, true)], false⟩
def laws_szFactS_an : Nat → Option (List Nat)
  | 0 => some [0, 1, 5]
  | _ => none
noncomputable def laws_szFactS_lp (N : Nat) (p : List Dir) (rs : List (Env → Option (Int))) (k : Nat) (env : Env) : Option (Int) :=
  loopAt Tb (sigL (laws_szFactS_es N)) cps (orcL (laws_szFactS_es N)) N laws_szFactS_an p (Try.f105.body.getD .skip) (endK Tb laws_szFactS_sg Try.f105 [] (un1 i64)) rs k env
noncomputable def laws_szFactS_l0_E (N : Nat) (k_ : Nat) (a2 : List (Int × List Int)) (left_2 : Int) (i : Int) : Option (Int) :=
  laws_szFactS_lp N [.r, .r, .r, .l, .r, .b] [] k_ (.con .val [lf ty4 a2 .ro] :: (.con .val [lf i64 left_2 .ro] :: (un 3 (.con .val [lf i64 i .ro] :: (un 21 [])))))
theorem laws_szFactS_l0_z (N : Nat) (a2 : List (Int × List Int)) (left_2 : Int) (i : Int) : laws_szFactS_l0_E N 0 a2 left_2 i = none := by kernel_rfl
theorem laws_szFactS_l0_s (N : Nat) (k_ : Nat) (a2 : List (Int × List Int)) (left_2 : Int) (i : Int) : laws_szFactS_l0_E N (k_ + 1) a2 left_2 i = laws_szFactS_l0_b N (laws_szFactS_l0_E N k_) a2 left_2 i := by kernel_rfl
theorem laws_szFactS_l0_q (N : Nat) : ∀ k_, laws_szFactS_l0_E N k_ = laws_szFactS_l0 N k_
  | 0 => by funext a2 left_2 i; exact laws_szFactS_l0_z N a2 left_2 i
  | k_ + 1 => by funext a2 left_2 i; rw [laws_szFactS_l0_s]; simp only [laws_szFactS_l0_q N k_]; rfl
theorem laws_szFactS_v (N : Nat) (a : List (Int × List Int)) (left_ : Int) :
    evFn Tb (sigL (laws_szFactS_es N)) cps (orcL (laws_szFactS_es N)) (drawReg Tb (sigL (laws_szFactS_es N)) cps (orcL (laws_szFactS_es N))) N laws_szFactS_an laws_szFactS_sg Try.f105 (Try.f105.body.getD .skip) [.val ty4 a, .val i64 left_] (un1 i64) = laws_szFactS_b N (laws_szFactS_l0_E N N) a left_ := by kernel_rfl
noncomputable def laws_szFactS_e (N : Nat) : Entry Try.prog := ⟨105, laws_szFactS_sg, [.v ty4, .v i64], Int, laws_szFactS N, pk1 i64, entry_en Try.func105 (code := Try.f105.body.getD .skip) (by kernel_rfl) (by kernel_rfl),
  fun a left_ => entry_ok tab_ok (es := laws_szFactS_es N) (by kernel_rfl) mixed Try.func105 (by kernel_rfl) rfl (un1_pk i64) (by rw [laws_szFactS_v, laws_szFactS_l0_q]; rfl)⟩
noncomputable def laws_szDatabase_es (N : Nat) : List (Entry Try.prog) := [laws_szRelationS_e N, laws_szFactS_e N]
def laws_szDatabase_sg : Sig := ⟨[.val ty5, .val i64], [(i64, true)], false⟩
def laws_szDatabase_an : Nat → Option (List Nat) := fun _ => none
theorem laws_szDatabase_v (N : Nat) (a : List (ByteArray × Int × Int) × List (Int × List Int)) (left_ : Int) :
    evFn Tb (sigL (laws_szDatabase_es N)) cps (orcL (laws_szDatabase_es N)) (drawReg Tb (sigL (laws_szDatabase_es N)) cps (orcL (laws_szDatabase_es N))) N laws_szDatabase_an laws_szDatabase_sg Try.f33 (Try.f33.body.getD .skip) [.val ty5 a, .val i64 left_] (un1 i64) = laws_szDatabase N a left_ := by kernel_rfl
noncomputable def laws_szDatabase_e (N : Nat) : Entry Try.prog := ⟨33, laws_szDatabase_sg, [.v ty5, .v i64], Int, laws_szDatabase N, pk1 i64, entry_en Try.func33 (code := Try.f33.body.getD .skip) (by kernel_rfl) (by kernel_rfl),
  fun a left_ => entry_ok tab_ok (es := laws_szDatabase_es N) (by kernel_rfl) mixed Try.func33 (by kernel_rfl) rfl (un1_pk i64) (laws_szDatabase_v N a left_)⟩
noncomputable def laws_szDenialConstraintS_es (N : Nat) : List (Entry Try.prog) := []
def laws_szDenialConstraintS_sg : Sig := ⟨[.val ty6, .val i64], [(i64, true)], false⟩
def laws_szDenialConstraintS_an : Nat → Option (List Nat) := fun _ => none
theorem laws_szDenialConstraintS_v (N : Nat) (a : List (Int × Int × Int × Int × Int × Int × Int)) (left_ : Int) :
    evFn Tb (sigL (laws_szDenialConstraintS_es N)) cps (orcL (laws_szDenialConstraintS_es N)) (drawReg Tb (sigL (laws_szDenialConstraintS_es N)) cps (orcL (laws_szDenialConstraintS_es N))) N laws_szDenialConstraintS_an laws_szDenialConstraintS_sg Try.f53 (Try.f53.body.getD .skip) [.val ty6 a, .val i64 left_] (un1 i64) = laws_szDenialConstraintS N a left_ := by kernel_rfl
noncomputable def laws_szDenialConstraintS_e (N : Nat) : Entry Try.prog := ⟨53, laws_szDenialConstraintS_sg, [.v ty6, .v i64], Int, laws_szDenialConstraintS N, pk1 i64, entry_en Try.func53 (code := Try.f53.body.getD .skip) (by kernel_rfl) (by kernel_rfl),
  fun a left_ => entry_ok tab_ok (es := laws_szDenialConstraintS_es N) (by kernel_rfl) mixed Try.func53 (by kernel_rfl) rfl (un1_pk i64) (laws_szDenialConstraintS_v N a left_)⟩
noncomputable def laws_toRelation_es (N : Nat) : List (Entry Try.prog) := []
def laws_toRelation_sg : Sig := ⟨[.val ty0], [(ty0, true)], false⟩
def laws_toRelation_an : Nat → Option (List Nat) := fun _ => none
theorem laws_toRelation_v (N : Nat) (a : ByteArray × Int × Int) :
    evFn Tb (sigL (laws_toRelation_es N)) cps (orcL (laws_toRelation_es N)) (drawReg Tb (sigL (laws_toRelation_es N)) cps (orcL (laws_toRelation_es N))) N laws_toRelation_an laws_toRelation_sg Try.f160 (Try.f160.body.getD .skip) [.val ty0 a] (un1 ty0) = laws_toRelation N a := by kernel_rfl
noncomputable def laws_toRelation_e (N : Nat) : Entry Try.prog := ⟨160, laws_toRelation_sg, [.v ty0], ByteArray × Int × Int, laws_toRelation N, pk1 ty0, entry_en Try.func160 (code := Try.f160.body.getD .skip) (by kernel_rfl) (by kernel_rfl),
  fun a => entry_ok tab_ok (es := laws_toRelation_es N) (by kernel_rfl) mixed Try.func160 (by kernel_rfl) rfl (un1_pk ty0) (laws_toRelation_v N a)⟩
noncomputable def laws_toRelationS_es (N : Nat) : List (Entry Try.prog) := [laws_toRelation_e N]
def laws_toRelationS_sg : Sig := ⟨[.val ty1], [(ty7, true)], false⟩
def laws_toRelationS_an : Nat → Option (List Nat)
  | 0 => some [0, 3, 4]
  | _ => none
noncomputable def laws_toRelationS_lp (N : Nat) (p : List Dir) (rs : List (Env → Option (List (ByteArray × Int × Int)))) (k : Nat) (env : Env) : Option (List (ByteArray × Int × Int)) :=
  loopAt Tb (sigL (laws_toRelationS_es N)) cps (orcL (laws_toRelationS_es N)) N laws_toRelationS_an p (Try.f107.body.getD .skip) (endK Tb laws_toRelationS_sg Try.f107 [] (un1 ty7)) rs k env
noncomputable def laws_toRelationS_l0_E (N : Nat) (k_ : Nat) (a2 : List (ByteArray × Int × Int)) (out : List (ByteArray × Int × Int)) (i : Int) : Option (List (ByteArray × Int × Int)) :=
  laws_toRelationS_lp N [.r, .r, .l, .r, .b] [] k_ (.con .val [lf ty1 a2 .ro] :: (un 2 (.con .val [lf ty7 out .dp] :: (.con .val [lf i64 i .ro] :: (un 18 [])))))
theorem laws_toRelationS_l0_z (N : Nat) (a2 : List (ByteArray × Int × Int)) (out : List (ByteArray × Int × Int)) (i : Int) : laws_toRelationS_l0_E N 0 a2 out i = none := by kernel_rfl
theorem laws_toRelationS_l0_s (N : Nat) (k_ : Nat) (a2 : List (ByteArray × Int × Int)) (out : List (ByteArray × Int × Int)) (i : Int) : laws_toRelationS_l0_E N (k_ + 1) a2 out i = laws_toRelationS_l0_b N (laws_toRelationS_l0_E N k_) a2 out i := by kernel_rfl
theorem laws_toRelationS_l0_q (N : Nat) : ∀ k_, laws_toRelationS_l0_E N k_ = laws_toRelationS_l0 N k_
  | 0 => by funext a2 out i; exact laws_toRelationS_l0_z N a2 out i
  | k_ + 1 => by funext a2 out i; rw [laws_toRelationS_l0_s]; simp only [laws_toRelationS_l0_q N k_]; rfl
theorem laws_toRelationS_v (N : Nat) (a : List (ByteArray × Int × Int)) :
    evFn Tb (sigL (laws_toRelationS_es N)) cps (orcL (laws_toRelationS_es N)) (drawReg Tb (sigL (laws_toRelationS_es N)) cps (orcL (laws_toRelationS_es N))) N laws_toRelationS_an laws_toRelationS_sg Try.f107 (Try.f107.body.getD .skip) [.val ty1 a] (un1 ty7) = laws_toRelationS_b N (laws_toRelationS_l0_E N N) a := by kernel_rfl
noncomputable def laws_toRelationS_e (N : Nat) : Entry Try.prog := ⟨107, laws_toRelationS_sg, [.v ty1], List (ByteArray × Int × Int), laws_toRelationS N, pk1 ty7, entry_en Try.func107 (code := Try.f107.body.getD .skip) (by kernel_rfl) (by kernel_rfl),
  fun a => entry_ok tab_ok (es := laws_toRelationS_es N) (by kernel_rfl) mixed Try.func107 (by kernel_rfl) rfl (un1_pk ty7) (by rw [laws_toRelationS_v, laws_toRelationS_l0_q]; rfl)⟩
noncomputable def laws_toIntS_es (N : Nat) : List (Entry Try.prog) := []
def laws_toIntS_sg : Sig := ⟨[.val ty2], [(ty2, true)], false⟩
def laws_toIntS_an : Nat → Option (List Nat)
  | 0 => some [0, 3, 4]
  | _ => none
noncomputable def laws_toIntS_lp (N : Nat) (p : List Dir) (rs : List (Env → Option (List Int))) (k : Nat) (env : Env) : Option (List Int) :=
  loopAt Tb (sigL (laws_toIntS_es N)) cps (orcL (laws_toIntS_es N)) N laws_toIntS_an p (Try.f36.body.getD .skip) (endK Tb laws_toIntS_sg Try.f36 [] (un1 ty2)) rs k env
noncomputable def laws_toIntS_l0_E (N : Nat) (k_ : Nat) (a2 : List Int) (out : List Int) (i : Int) : Option (List Int) :=
  laws_toIntS_lp N [.r, .r, .l, .r, .b] [] k_ (.con .val [lf ty2 a2 .ro] :: (un 2 (.con .val [lf ty2 out .dp] :: (.con .val [lf i64 i .ro] :: (un 17 [])))))
theorem laws_toIntS_l0_z (N : Nat) (a2 : List Int) (out : List Int) (i : Int) : laws_toIntS_l0_E N 0 a2 out i = none := by kernel_rfl
theorem laws_toIntS_l0_s (N : Nat) (k_ : Nat) (a2 : List Int) (out : List Int) (i : Int) : laws_toIntS_l0_E N (k_ + 1) a2 out i = laws_toIntS_l0_b N (laws_toIntS_l0_E N k_) a2 out i := by kernel_rfl
theorem laws_toIntS_l0_q (N : Nat) : ∀ k_, laws_toIntS_l0_E N k_ = laws_toIntS_l0 N k_
  | 0 => by funext a2 out i; exact laws_toIntS_l0_z N a2 out i
  | k_ + 1 => by funext a2 out i; rw [laws_toIntS_l0_s]; simp only [laws_toIntS_l0_q N k_]; rfl
theorem laws_toIntS_v (N : Nat) (a : List Int) :
    evFn Tb (sigL (laws_toIntS_es N)) cps (orcL (laws_toIntS_es N)) (drawReg Tb (sigL (laws_toIntS_es N)) cps (orcL (laws_toIntS_es N))) N laws_toIntS_an laws_toIntS_sg Try.f36 (Try.f36.body.getD .skip) [.val ty2 a] (un1 ty2) = laws_toIntS_b N (laws_toIntS_l0_E N N) a := by kernel_rfl
noncomputable def laws_toIntS_e (N : Nat) : Entry Try.prog := ⟨36, laws_toIntS_sg, [.v ty2], List Int, laws_toIntS N, pk1 ty2, entry_en Try.func36 (code := Try.f36.body.getD .skip) (by kernel_rfl) (by kernel_rfl),
  fun a => entry_ok tab_ok (es := laws_toIntS_es N) (by kernel_rfl) mixed Try.func36 (by kernel_rfl) rfl (un1_pk ty2) (by rw [laws_toIntS_v, laws_toIntS_l0_q]; rfl)⟩
noncomputable def laws_toFact_es (N : Nat) : List (Entry Try.prog) := [laws_toIntS_e N]
def laws_toFact_sg : Sig := ⟨[.val ty3], [(ty3, true)], false⟩
def laws_toFact_an : Nat → Option (List Nat) := fun _ => none
theorem laws_toFact_v (N : Nat) (a : Int × List Int) :
    evFn Tb (sigL (laws_toFact_es N)) cps (orcL (laws_toFact_es N)) (drawReg Tb (sigL (laws_toFact_es N)) cps (orcL (laws_toFact_es N))) N laws_toFact_an laws_toFact_sg Try.f161 (Try.f161.body.getD .skip) [.val ty3 a] (un1 ty3) = laws_toFact N a := by kernel_rfl
noncomputable def laws_toFact_e (N : Nat) : Entry Try.prog := ⟨161, laws_toFact_sg, [.v ty3], Int × List Int, laws_toFact N, pk1 ty3, entry_en Try.func161 (code := Try.f161.body.getD .skip) (by kernel_rfl) (by kernel_rfl),
  fun a => entry_ok tab_ok (es := laws_toFact_es N) (by kernel_rfl) mixed Try.func161 (by kernel_rfl) rfl (un1_pk ty3) (laws_toFact_v N a)⟩
noncomputable def laws_toFactS_es (N : Nat) : List (Entry Try.prog) := [laws_toFact_e N]
def laws_toFactS_sg : Sig := ⟨[.val ty4], [(ty8, true)], false⟩
def laws_toFactS_an : Nat → Option (List Nat)
  | 0 => some [0, 3, 4]
  | _ => none
noncomputable def laws_toFactS_lp (N : Nat) (p : List Dir) (rs : List (Env → Option (List (Int × List Int)))) (k : Nat) (env : Env) : Option (List (Int × List Int)) :=
  loopAt Tb (sigL (laws_toFactS_es N)) cps (orcL (laws_toFactS_es N)) N laws_toFactS_an p (Try.f108.body.getD .skip) (endK Tb laws_toFactS_sg Try.f108 [] (un1 ty8)) rs k env
noncomputable def laws_toFactS_l0_E (N : Nat) (k_ : Nat) (a2 : List (Int × List Int)) (out : List (Int × List Int)) (i : Int) : Option (List (Int × List Int)) :=
  laws_toFactS_lp N [.r, .r, .l, .r, .b] [] k_ (.con .val [lf ty4 a2 .ro] :: (un 2 (.con .val [lf ty8 out .dp] :: (.con .val [lf i64 i .ro] :: (un 18 [])))))
theorem laws_toFactS_l0_z (N : Nat) (a2 : List (Int × List Int)) (out : List (Int × List Int)) (i : Int) : laws_toFactS_l0_E N 0 a2 out i = none := by kernel_rfl
theorem laws_toFactS_l0_s (N : Nat) (k_ : Nat) (a2 : List (Int × List Int)) (out : List (Int × List Int)) (i : Int) : laws_toFactS_l0_E N (k_ + 1) a2 out i = laws_toFactS_l0_b N (laws_toFactS_l0_E N k_) a2 out i := by kernel_rfl
theorem laws_toFactS_l0_q (N : Nat) : ∀ k_, laws_toFactS_l0_E N k_ = laws_toFactS_l0 N k_
  | 0 => by funext a2 out i; exact laws_toFactS_l0_z N a2 out i
  | k_ + 1 => by funext a2 out i; rw [laws_toFactS_l0_s]; simp only [laws_toFactS_l0_q N k_]; rfl
theorem laws_toFactS_v (N : Nat) (a : List (Int × List Int)) :
    evFn Tb (sigL (laws_toFactS_es N)) cps (orcL (laws_toFactS_es N)) (drawReg Tb (sigL (laws_toFactS_es N)) cps (orcL (laws_toFactS_es N))) N laws_toFactS_an laws_toFactS_sg Try.f108 (Try.f108.body.getD .skip) [.val ty4 a] (un1 ty8) = laws_toFactS_b N (laws_toFactS_l0_E N N) a := by kernel_rfl
noncomputable def laws_toFactS_e (N : Nat) : Entry Try.prog := ⟨108, laws_toFactS_sg, [.v ty4], List (Int × List Int), laws_toFactS N, pk1 ty8, entry_en Try.func108 (code := Try.f108.body.getD .skip) (by kernel_rfl) (by kernel_rfl),
  fun a => entry_ok tab_ok (es := laws_toFactS_es N) (by kernel_rfl) mixed Try.func108 (by kernel_rfl) rfl (un1_pk ty8) (by rw [laws_toFactS_v, laws_toFactS_l0_q]; rfl)⟩
noncomputable def laws_toDatabase_es (N : Nat) : List (Entry Try.prog) := [laws_toRelationS_e N, laws_toFactS_e N]
def laws_toDatabase_sg : Sig := ⟨[.val ty5], [(ty9, true)], false⟩
def laws_toDatabase_an : Nat → Option (List Nat) := fun _ => none
theorem laws_toDatabase_v (N : Nat) (a : List (ByteArray × Int × Int) × List (Int × List Int)) :
    evFn Tb (sigL (laws_toDatabase_es N)) cps (orcL (laws_toDatabase_es N)) (drawReg Tb (sigL (laws_toDatabase_es N)) cps (orcL (laws_toDatabase_es N))) N laws_toDatabase_an laws_toDatabase_sg Try.f35 (Try.f35.body.getD .skip) [.val ty5 a] (un1 ty9) = laws_toDatabase N a := by kernel_rfl
noncomputable def laws_toDatabase_e (N : Nat) : Entry Try.prog := ⟨35, laws_toDatabase_sg, [.v ty5], List (ByteArray × Int × Int) × List (Int × List Int), laws_toDatabase N, pk1 ty9, entry_en Try.func35 (code := Try.f35.body.getD .skip) (by kernel_rfl) (by kernel_rfl),
  fun a => entry_ok tab_ok (es := laws_toDatabase_es N) (by kernel_rfl) mixed Try.func35 (by kernel_rfl) rfl (un1_pk ty9) (laws_toDatabase_v N a)⟩
noncomputable def laws_toDenialConstraint_es (N : Nat) : List (Entry Try.prog) := []
def laws_toDenialConstraint_sg : Sig := ⟨[.val ty10], [(ty10, true)], false⟩
def laws_toDenialConstraint_an : Nat → Option (List Nat) := fun _ => none
theorem laws_toDenialConstraint_v (N : Nat) (a : Int × Int × Int × Int × Int × Int × Int) :
    evFn Tb (sigL (laws_toDenialConstraint_es N)) cps (orcL (laws_toDenialConstraint_es N)) (drawReg Tb (sigL (laws_toDenialConstraint_es N)) cps (orcL (laws_toDenialConstraint_es N))) N laws_toDenialConstraint_an laws_toDenialConstraint_sg Try.f126 (Try.f126.body.getD .skip) [.val ty10 a] (un1 ty10) = laws_toDenialConstraint N a := by kernel_rfl
noncomputable def laws_toDenialConstraint_e (N : Nat) : Entry Try.prog := ⟨126, laws_toDenialConstraint_sg, [.v ty10], Int × Int × Int × Int × Int × Int × Int, laws_toDenialConstraint N, pk1 ty10, entry_en Try.func126 (code := Try.f126.body.getD .skip) (by kernel_rfl) (by kernel_rfl),
  fun a => entry_ok tab_ok (es := laws_toDenialConstraint_es N) (by kernel_rfl) mixed Try.func126 (by kernel_rfl) rfl (un1_pk ty10) (laws_toDenialConstraint_v N a)⟩
noncomputable def laws_toDenialConstraintS_es (N : Nat) : List (Entry Try.prog) := [laws_toDenialConstraint_e N]
def laws_toDenialConstraintS_sg : Sig := ⟨[.val ty6], [(ty11, true)], false⟩
def laws_toDenialConstraintS_an : Nat → Option (List Nat)
  | 0 => some [0, 3, 4]
  | _ => none
noncomputable def laws_toDenialConstraintS_lp (N : Nat) (p : List Dir) (rs : List (Env → Option (List (Int × Int × Int × Int × Int × Int × Int)))) (k : Nat) (env : Env) : Option (List (Int × Int × Int × Int × Int × Int × Int)) :=
  loopAt Tb (sigL (laws_toDenialConstraintS_es N)) cps (orcL (laws_toDenialConstraintS_es N)) N laws_toDenialConstraintS_an p (Try.f55.body.getD .skip) (endK Tb laws_toDenialConstraintS_sg Try.f55 [] (un1 ty11)) rs k env
noncomputable def laws_toDenialConstraintS_l0_E (N : Nat) (k_ : Nat) (a2 : List (Int × Int × Int × Int × Int × Int × Int)) (out : List (Int × Int × Int × Int × Int × Int × Int)) (i : Int) : Option (List (Int × Int × Int × Int × Int × Int × Int)) :=
  laws_toDenialConstraintS_lp N [.r, .r, .l, .r, .b] [] k_ (.con .val [lf ty6 a2 .ro] :: (un 2 (.con .val [lf ty11 out .dp] :: (.con .val [lf i64 i .ro] :: (un 18 [])))))
theorem laws_toDenialConstraintS_l0_z (N : Nat) (a2 : List (Int × Int × Int × Int × Int × Int × Int)) (out : List (Int × Int × Int × Int × Int × Int × Int)) (i : Int) : laws_toDenialConstraintS_l0_E N 0 a2 out i = none := by kernel_rfl
theorem laws_toDenialConstraintS_l0_s (N : Nat) (k_ : Nat) (a2 : List (Int × Int × Int × Int × Int × Int × Int)) (out : List (Int × Int × Int × Int × Int × Int × Int)) (i : Int) : laws_toDenialConstraintS_l0_E N (k_ + 1) a2 out i = laws_toDenialConstraintS_l0_b N (laws_toDenialConstraintS_l0_E N k_) a2 out i := by kernel_rfl
theorem laws_toDenialConstraintS_l0_q (N : Nat) : ∀ k_, laws_toDenialConstraintS_l0_E N k_ = laws_toDenialConstraintS_l0 N k_
  | 0 => by funext a2 out i; exact laws_toDenialConstraintS_l0_z N a2 out i
  | k_ + 1 => by funext a2 out i; rw [laws_toDenialConstraintS_l0_s]; simp only [laws_toDenialConstraintS_l0_q N k_]; rfl
theorem laws_toDenialConstraintS_v (N : Nat) (a : List (Int × Int × Int × Int × Int × Int × Int)) :
    evFn Tb (sigL (laws_toDenialConstraintS_es N)) cps (orcL (laws_toDenialConstraintS_es N)) (drawReg Tb (sigL (laws_toDenialConstraintS_es N)) cps (orcL (laws_toDenialConstraintS_es N))) N laws_toDenialConstraintS_an laws_toDenialConstraintS_sg Try.f55 (Try.f55.body.getD .skip) [.val ty6 a] (un1 ty11) = laws_toDenialConstraintS_b N (laws_toDenialConstraintS_l0_E N N) a := by kernel_rfl
noncomputable def laws_toDenialConstraintS_e (N : Nat) : Entry Try.prog := ⟨55, laws_toDenialConstraintS_sg, [.v ty6], List (Int × Int × Int × Int × Int × Int × Int), laws_toDenialConstraintS N, pk1 ty11, entry_en Try.func55 (code := Try.f55.body.getD .skip) (by kernel_rfl) (by kernel_rfl),
  fun a => entry_ok tab_ok (es := laws_toDenialConstraintS_es N) (by kernel_rfl) mixed Try.func55 (by kernel_rfl) rfl (un1_pk ty11) (by rw [laws_toDenialConstraintS_v, laws_toDenialConstraintS_l0_q]; rfl)⟩
noncomputable def spec_l1In_es (N : Nat) : List (Entry Try.prog) := []
def spec_l1In_sg : Sig := ⟨[.val i64, .val i64, .val i64], [(.bool, true)], false⟩
def spec_l1In_an : Nat → Option (List Nat) := fun _ => none
theorem spec_l1In_v (N : Nat) (x : Int) (low : Int) (high : Int) :
    evFn Tb (sigL (spec_l1In_es N)) cps (orcL (spec_l1In_es N)) (drawReg Tb (sigL (spec_l1In_es N)) cps (orcL (spec_l1In_es N))) N spec_l1In_an spec_l1In_sg Try.f98 (Try.f98.body.getD .skip) [.val i64 x, .val i64 low, .val i64 high] (un1 .bool) = spec_l1In N x low high := by kernel_rfl
noncomputable def spec_l1In_e (N : Nat) : Entry Try.prog := ⟨98, spec_l1In_sg, [.v i64, .v i64, .v i64], Bool, spec_l1In N, pk1 .bool, entry_en Try.func98 (code := Try.f98.body.getD .skip) (by kernel_rfl) (by kernel_rfl),
  fun x low high => entry_ok tab_ok (es := spec_l1In_es N) (by kernel_rfl) mixed Try.func98 (by kernel_rfl) rfl (un1_pk .bool) (spec_l1In_v N x low high)⟩
noncomputable def spec_IsValidRelation_es (N : Nat) : List (Entry Try.prog) := [spec_l1In_e N]
def spec_IsValidRelation_sg : Sig := ⟨[.val ty0], [(.bool, true)], false⟩
def spec_IsValidRelation_an : Nat → Option (List Nat) := fun _ => none
theorem spec_IsValidRelation_v (N : Nat) (s : ByteArray × Int × Int) :
    evFn Tb (sigL (spec_IsValidRelation_es N)) cps (orcL (spec_IsValidRelation_es N)) (drawReg Tb (sigL (spec_IsValidRelation_es N)) cps (orcL (spec_IsValidRelation_es N))) N spec_IsValidRelation_an spec_IsValidRelation_sg Try.f146 (Try.f146.body.getD .skip) [.val ty0 s] (un1 .bool) = spec_IsValidRelation N s := by kernel_rfl
noncomputable def spec_IsValidRelation_e (N : Nat) : Entry Try.prog := ⟨146, spec_IsValidRelation_sg, [.v ty0], Bool, spec_IsValidRelation N, pk1 .bool, entry_en Try.func146 (code := Try.f146.body.getD .skip) (by kernel_rfl) (by kernel_rfl),
  fun s => entry_ok tab_ok (es := spec_IsValidRelation_es N) (by kernel_rfl) mixed Try.func146 (by kernel_rfl) rfl (un1_pk .bool) (spec_IsValidRelation_v N s)⟩
noncomputable def spec_AreValidRelations_es (N : Nat) : List (Entry Try.prog) := [spec_IsValidRelation_e N]
def spec_AreValidRelations_sg : Sig := ⟨[.val ty7], [(.bool, true)], false⟩
def spec_AreValidRelations_an : Nat → Option (List Nat)
  | 0 => some [0, 3]
  | _ => none
noncomputable def spec_AreValidRelations_lp (N : Nat) (p : List Dir) (rs : List (Env → Option (Bool))) (k : Nat) (env : Env) : Option (Bool) :=
  loopAt Tb (sigL (spec_AreValidRelations_es N)) cps (orcL (spec_AreValidRelations_es N)) N spec_AreValidRelations_an p (Try.f85.body.getD .skip) (endK Tb spec_AreValidRelations_sg Try.f85 [] (un1 .bool)) rs k env
noncomputable def spec_AreValidRelations_l0_E (N : Nat) (k_ : Nat) (l2 : List (ByteArray × Int × Int)) (i : Int) : Option (Bool) :=
  spec_AreValidRelations_lp N [.r, .l, .r, .b] [] k_ (.con .val [lf ty7 l2 .ro] :: (un 2 (.con .val [lf i64 i .ro] :: (un 33 []))))
theorem spec_AreValidRelations_l0_z (N : Nat) (l2 : List (ByteArray × Int × Int)) (i : Int) : spec_AreValidRelations_l0_E N 0 l2 i = none := by kernel_rfl
theorem spec_AreValidRelations_l0_s (N : Nat) (k_ : Nat) (l2 : List (ByteArray × Int × Int)) (i : Int) : spec_AreValidRelations_l0_E N (k_ + 1) l2 i = spec_AreValidRelations_l0_b N (spec_AreValidRelations_l0_E N k_) l2 i := by kernel_rfl
theorem spec_AreValidRelations_l0_q (N : Nat) : ∀ k_, spec_AreValidRelations_l0_E N k_ = spec_AreValidRelations_l0 N k_
  | 0 => by funext l2 i; exact spec_AreValidRelations_l0_z N l2 i
  | k_ + 1 => by funext l2 i; rw [spec_AreValidRelations_l0_s]; simp only [spec_AreValidRelations_l0_q N k_]; rfl
theorem spec_AreValidRelations_v (N : Nat) (l : List (ByteArray × Int × Int)) :
    evFn Tb (sigL (spec_AreValidRelations_es N)) cps (orcL (spec_AreValidRelations_es N)) (drawReg Tb (sigL (spec_AreValidRelations_es N)) cps (orcL (spec_AreValidRelations_es N))) N spec_AreValidRelations_an spec_AreValidRelations_sg Try.f85 (Try.f85.body.getD .skip) [.val ty7 l] (un1 .bool) = spec_AreValidRelations_b N (spec_AreValidRelations_l0_E N N) l := by kernel_rfl
noncomputable def spec_AreValidRelations_e (N : Nat) : Entry Try.prog := ⟨85, spec_AreValidRelations_sg, [.v ty7], Bool, spec_AreValidRelations N, pk1 .bool, entry_en Try.func85 (code := Try.f85.body.getD .skip) (by kernel_rfl) (by kernel_rfl),
  fun l => entry_ok tab_ok (es := spec_AreValidRelations_es N) (by kernel_rfl) mixed Try.func85 (by kernel_rfl) rfl (un1_pk .bool) (by rw [spec_AreValidRelations_v, spec_AreValidRelations_l0_q]; rfl)⟩
noncomputable def spec_IsValidFact_es (N : Nat) : List (Entry Try.prog) := [spec_l1In_e N, spec_AreValidRelations_e N]
def spec_IsValidFact_sg : Sig := ⟨[.val ty7, .val ty3], [(.bool, true)], false⟩
def spec_IsValidFact_an : Nat → Option (List Nat)
  | 0 => some [3, 5]
  | _ => none
noncomputable def spec_IsValidFact_lp (N : Nat) (p : List Dir) (rs : List (Env → Option (Bool))) (k : Nat) (env : Env) : Option (Bool) :=
  loopAt Tb (sigL (spec_IsValidFact_es N)) cps (orcL (spec_IsValidFact_es N)) N spec_IsValidFact_an p (Try.f83.body.getD .skip) (endK Tb spec_IsValidFact_sg Try.f83 [] (un1 .bool)) rs k env
noncomputable def spec_IsValidFact_l0_E (N : Nat) (k_ : Nat) (f2 : Int) (f3 : List Int) (i : Int) : Option (Bool) :=
  spec_IsValidFact_lp N [.r, .r, .l, .r, .b] [] k_ (un 3 (.con (.box 90) [lf i64 f2 .ro, lf ty2 f3 .ro] :: (un 1 (.con .val [lf i64 i .ro] :: (un 38 [])))))
theorem spec_IsValidFact_l0_z (N : Nat) (f2 : Int) (f3 : List Int) (i : Int) : spec_IsValidFact_l0_E N 0 f2 f3 i = none := by kernel_rfl
theorem spec_IsValidFact_l0_s (N : Nat) (k_ : Nat) (f2 : Int) (f3 : List Int) (i : Int) : spec_IsValidFact_l0_E N (k_ + 1) f2 f3 i = spec_IsValidFact_l0_b N (spec_IsValidFact_l0_E N k_) f2 f3 i := by kernel_rfl
theorem spec_IsValidFact_l0_q (N : Nat) : ∀ k_, spec_IsValidFact_l0_E N k_ = spec_IsValidFact_l0 N k_
  | 0 => by funext f2 f3 i; exact spec_IsValidFact_l0_z N f2 f3 i
  | k_ + 1 => by funext f2 f3 i; rw [spec_IsValidFact_l0_s]; simp only [spec_IsValidFact_l0_q N k_]; rfl
theorem spec_IsValidFact_v (N : Nat) (l : List (ByteArray × Int × Int)) (f : Int × List Int) :
    evFn Tb (sigL (spec_IsValidFact_es N)) cps (orcL (spec_IsValidFact_es N)) (drawReg Tb (sigL (spec_IsValidFact_es N)) cps (orcL (spec_IsValidFact_es N))) N spec_IsValidFact_an spec_IsValidFact_sg Try.f83 (Try.f83.body.getD .skip) [.val ty7 l, .val ty3 f] (un1 .bool) = spec_IsValidFact_b N (spec_IsValidFact_l0_E N N) l f := by kernel_rfl
noncomputable def spec_IsValidFact_e (N : Nat) : Entry Try.prog := ⟨83, spec_IsValidFact_sg, [.v ty7, .v ty3], Bool, spec_IsValidFact N, pk1 .bool, entry_en Try.func83 (code := Try.f83.body.getD .skip) (by kernel_rfl) (by kernel_rfl),
  fun l f => entry_ok tab_ok (es := spec_IsValidFact_es N) (by kernel_rfl) mixed Try.func83 (by kernel_rfl) rfl (un1_pk .bool) (by rw [spec_IsValidFact_v, spec_IsValidFact_l0_q]; rfl)⟩
noncomputable def spec_l3Ints_es (N : Nat) : List (Entry Try.prog) := []
def spec_l3Ints_sg : Sig := ⟨[.val ty2, .val ty2], [(i64, true)], false⟩
def spec_l3Ints_an : Nat → Option (List Nat)
  | 0 => some [0, 1, 5]
  | _ => none
noncomputable def spec_l3Ints_lp (N : Nat) (p : List Dir) (rs : List (Env → Option (Int))) (k : Nat) (env : Env) : Option (Int) :=
  loopAt Tb (sigL (spec_l3Ints_es N)) cps (orcL (spec_l3Ints_es N)) N spec_l3Ints_an p (Try.f145.body.getD .skip) (endK Tb spec_l3Ints_sg Try.f145 [] (un1 i64)) rs k env
noncomputable def spec_l3Ints_l0_E (N : Nat) (k_ : Nat) (a2 : List Int) (b2 : List Int) (i : Int) : Option (Int) :=
  spec_l3Ints_lp N [.r, .l, .r, .b] [] k_ (.con .val [lf ty2 a2 .ro] :: (.con .val [lf ty2 b2 .ro] :: (un 3 (.con .val [lf i64 i .ro] :: (un 40 [])))))
theorem spec_l3Ints_l0_z (N : Nat) (a2 : List Int) (b2 : List Int) (i : Int) : spec_l3Ints_l0_E N 0 a2 b2 i = none := by kernel_rfl
theorem spec_l3Ints_l0_s (N : Nat) (k_ : Nat) (a2 : List Int) (b2 : List Int) (i : Int) : spec_l3Ints_l0_E N (k_ + 1) a2 b2 i = spec_l3Ints_l0_b N (spec_l3Ints_l0_E N k_) a2 b2 i := by kernel_rfl
theorem spec_l3Ints_l0_q (N : Nat) : ∀ k_, spec_l3Ints_l0_E N k_ = spec_l3Ints_l0 N k_
  | 0 => by funext a2 b2 i; exact spec_l3Ints_l0_z N a2 b2 i
  | k_ + 1 => by funext a2 b2 i; rw [spec_l3Ints_l0_s]; simp only [spec_l3Ints_l0_q N k_]; rfl
theorem spec_l3Ints_v (N : Nat) (a : List Int) (b : List Int) :
    evFn Tb (sigL (spec_l3Ints_es N)) cps (orcL (spec_l3Ints_es N)) (drawReg Tb (sigL (spec_l3Ints_es N)) cps (orcL (spec_l3Ints_es N))) N spec_l3Ints_an spec_l3Ints_sg Try.f145 (Try.f145.body.getD .skip) [.val ty2 a, .val ty2 b] (un1 i64) = spec_l3Ints_b N (spec_l3Ints_l0_E N N) a b := by kernel_rfl
noncomputable def spec_l3Ints_e (N : Nat) : Entry Try.prog := ⟨145, spec_l3Ints_sg, [.v ty2, .v ty2], Int, spec_l3Ints N, pk1 i64, entry_en Try.func145 (code := Try.f145.body.getD .skip) (by kernel_rfl) (by kernel_rfl),
  fun a b => entry_ok tab_ok (es := spec_l3Ints_es N) (by kernel_rfl) mixed Try.func145 (by kernel_rfl) rfl (un1_pk i64) (by rw [spec_l3Ints_v, spec_l3Ints_l0_q]; rfl)⟩
noncomputable def spec_CompareFacts_es (N : Nat) : List (Entry Try.prog) := [spec_l3Ints_e N]
def spec_CompareFacts_sg : Sig := ⟨[.val ty3, .val ty3], [(i64, true)], false⟩
def spec_CompareFacts_an : Nat → Option (List Nat) := fun _ => none
theorem spec_CompareFacts_v (N : Nat) (a : Int × List Int) (b : Int × List Int) :
    evFn Tb (sigL (spec_CompareFacts_es N)) cps (orcL (spec_CompareFacts_es N)) (drawReg Tb (sigL (spec_CompareFacts_es N)) cps (orcL (spec_CompareFacts_es N))) N spec_CompareFacts_an spec_CompareFacts_sg Try.f84 (Try.f84.body.getD .skip) [.val ty3 a, .val ty3 b] (un1 i64) = spec_CompareFacts N a b := by kernel_rfl
noncomputable def spec_CompareFacts_e (N : Nat) : Entry Try.prog := ⟨84, spec_CompareFacts_sg, [.v ty3, .v ty3], Int, spec_CompareFacts N, pk1 i64, entry_en Try.func84 (code := Try.f84.body.getD .skip) (by kernel_rfl) (by kernel_rfl),
  fun a b => entry_ok tab_ok (es := spec_CompareFacts_es N) (by kernel_rfl) mixed Try.func84 (by kernel_rfl) rfl (un1_pk i64) (spec_CompareFacts_v N a b)⟩
noncomputable def spec_IsValidDatabase_es (N : Nat) : List (Entry Try.prog) := [spec_IsValidFact_e N, spec_CompareFacts_e N, spec_AreValidRelations_e N]
def spec_IsValidDatabase_sg : Sig := ⟨[.val ty9], [(.bool, true)], false⟩
def spec_IsValidDatabase_an : Nat → Option (List Nat)
  | 0 => some [1, 3]
  | _ => none
noncomputable def spec_IsValidDatabase_lp (N : Nat) (p : List Dir) (rs : List (Env → Option (Bool))) (k : Nat) (env : Env) : Option (Bool) :=
  loopAt Tb (sigL (spec_IsValidDatabase_es N)) cps (orcL (spec_IsValidDatabase_es N)) N spec_IsValidDatabase_an p (Try.f19.body.getD .skip) (endK Tb spec_IsValidDatabase_sg Try.f19 [] (un1 .bool)) rs k env
noncomputable def spec_IsValidDatabase_l0_E (N : Nat) (k_ : Nat) (d2 : List (ByteArray × Int × Int)) (d3 : List (Int × List Int)) (i : Int) : Option (Bool) :=
  spec_IsValidDatabase_lp N [.r, .l, .r, .b] [] k_ (un 1 (.con (.box 27) [lf ty7 d2 .ro, lf ty8 d3 .ro] :: (un 1 (.con .val [lf i64 i .ro] :: (un 44 [])))))
theorem spec_IsValidDatabase_l0_z (N : Nat) (d2 : List (ByteArray × Int × Int)) (d3 : List (Int × List Int)) (i : Int) : spec_IsValidDatabase_l0_E N 0 d2 d3 i = none := by kernel_rfl
theorem spec_IsValidDatabase_l0_s (N : Nat) (k_ : Nat) (d2 : List (ByteArray × Int × Int)) (d3 : List (Int × List Int)) (i : Int) : spec_IsValidDatabase_l0_E N (k_ + 1) d2 d3 i = spec_IsValidDatabase_l0_b N (spec_IsValidDatabase_l0_E N k_) d2 d3 i := by kernel_rfl
theorem spec_IsValidDatabase_l0_q (N : Nat) : ∀ k_, spec_IsValidDatabase_l0_E N k_ = spec_IsValidDatabase_l0 N k_
  | 0 => by funext d2 d3 i; exact spec_IsValidDatabase_l0_z N d2 d3 i
  | k_ + 1 => by funext d2 d3 i; rw [spec_IsValidDatabase_l0_s]; simp only [spec_IsValidDatabase_l0_q N k_]; rfl
theorem spec_IsValidDatabase_v (N : Nat) (d : List (ByteArray × Int × Int) × List (Int × List Int)) :
    evFn Tb (sigL (spec_IsValidDatabase_es N)) cps (orcL (spec_IsValidDatabase_es N)) (drawReg Tb (sigL (spec_IsValidDatabase_es N)) cps (orcL (spec_IsValidDatabase_es N))) N spec_IsValidDatabase_an spec_IsValidDatabase_sg Try.f19 (Try.f19.body.getD .skip) [.val ty9 d] (un1 .bool) = spec_IsValidDatabase_b N (spec_IsValidDatabase_l0_E N N) d := by kernel_rfl
noncomputable def spec_IsValidDatabase_e (N : Nat) : Entry Try.prog := ⟨19, spec_IsValidDatabase_sg, [.v ty9], Bool, spec_IsValidDatabase N, pk1 .bool, entry_en Try.func19 (code := Try.f19.body.getD .skip) (by kernel_rfl) (by kernel_rfl),
  fun d => entry_ok tab_ok (es := spec_IsValidDatabase_es N) (by kernel_rfl) mixed Try.func19 (by kernel_rfl) rfl (un1_pk .bool) (by rw [spec_IsValidDatabase_v, spec_IsValidDatabase_l0_q]; rfl)⟩
noncomputable def spec_KeyOf_es (N : Nat) : List (Entry Try.prog) := [spec_IsValidFact_e N]
def spec_KeyOf_sg : Sig := ⟨[.val ty7, .val ty3], [(ty2, true)], false⟩
def spec_KeyOf_an : Nat → Option (List Nat) := fun _ => none
theorem spec_KeyOf_v (N : Nat) (l : List (ByteArray × Int × Int)) (f : Int × List Int) :
    evFn Tb (sigL (spec_KeyOf_es N)) cps (orcL (spec_KeyOf_es N)) (drawReg Tb (sigL (spec_KeyOf_es N)) cps (orcL (spec_KeyOf_es N))) N spec_KeyOf_an spec_KeyOf_sg Try.f191 (Try.f191.body.getD .skip) [.val ty7 l, .val ty3 f] (un1 ty2) = spec_KeyOf N l f := by kernel_rfl
noncomputable def spec_KeyOf_e (N : Nat) : Entry Try.prog := ⟨191, spec_KeyOf_sg, [.v ty7, .v ty3], List Int, spec_KeyOf N, pk1 ty2, entry_en Try.func191 (code := Try.f191.body.getD .skip) (by kernel_rfl) (by kernel_rfl),
  fun l f => entry_ok tab_ok (es := spec_KeyOf_es N) (by kernel_rfl) mixed Try.func191 (by kernel_rfl) rfl (un1_pk ty2) (spec_KeyOf_v N l f)⟩
noncomputable def spec_HaveSameKey_es (N : Nat) : List (Entry Try.prog) := [spec_IsValidFact_e N, spec_KeyOf_e N, spec_l3Ints_e N]
def spec_HaveSameKey_sg : Sig := ⟨[.val ty7, .val ty3, .val ty3], [(.bool, true)], false⟩
def spec_HaveSameKey_an : Nat → Option (List Nat) := fun _ => none
theorem spec_HaveSameKey_v (N : Nat) (l : List (ByteArray × Int × Int)) (a : Int × List Int) (b : Int × List Int) :
    evFn Tb (sigL (spec_HaveSameKey_es N)) cps (orcL (spec_HaveSameKey_es N)) (drawReg Tb (sigL (spec_HaveSameKey_es N)) cps (orcL (spec_HaveSameKey_es N))) N spec_HaveSameKey_an spec_HaveSameKey_sg Try.f147 (Try.f147.body.getD .skip) [.val ty7 l, .val ty3 a, .val ty3 b] (un1 .bool) = spec_HaveSameKey N l a b := by kernel_rfl
noncomputable def spec_HaveSameKey_e (N : Nat) : Entry Try.prog := ⟨147, spec_HaveSameKey_sg, [.v ty7, .v ty3, .v ty3], Bool, spec_HaveSameKey N, pk1 .bool, entry_en Try.func147 (code := Try.f147.body.getD .skip) (by kernel_rfl) (by kernel_rfl),
  fun l a b => entry_ok tab_ok (es := spec_HaveSameKey_es N) (by kernel_rfl) mixed Try.func147 (by kernel_rfl) rfl (un1_pk .bool) (spec_HaveSameKey_v N l a b)⟩
noncomputable def spec_IsValidConstraint_es (N : Nat) : List (Entry Try.prog) := [spec_IsValidDatabase_e N, spec_l1In_e N]
def spec_IsValidConstraint_sg : Sig := ⟨[.val ty9, .val ty10], [(.bool, true)], false⟩
def spec_IsValidConstraint_an : Nat → Option (List Nat) := fun _ => none
theorem spec_IsValidConstraint_v (N : Nat) (d : List (ByteArray × Int × Int) × List (Int × List Int)) (x : Int × Int × Int × Int × Int × Int × Int) :
    evFn Tb (sigL (spec_IsValidConstraint_es N)) cps (orcL (spec_IsValidConstraint_es N)) (drawReg Tb (sigL (spec_IsValidConstraint_es N)) cps (orcL (spec_IsValidConstraint_es N))) N spec_IsValidConstraint_an spec_IsValidConstraint_sg Try.f197 (Try.f197.body.getD .skip) [.val ty9 d, .val ty10 x] (un1 .bool) = spec_IsValidConstraint N d x := by kernel_rfl
noncomputable def spec_IsValidConstraint_e (N : Nat) : Entry Try.prog := ⟨197, spec_IsValidConstraint_sg, [.v ty9, .v ty10], Bool, spec_IsValidConstraint N, pk1 .bool, entry_en Try.func197 (code := Try.f197.body.getD .skip) (by kernel_rfl) (by kernel_rfl),
  fun d x => entry_ok tab_ok (es := spec_IsValidConstraint_es N) (by kernel_rfl) mixed Try.func197 (by kernel_rfl) rfl (un1_pk .bool) (spec_IsValidConstraint_v N d x)⟩
noncomputable def spec_ViolatesConstraint_es (N : Nat) : List (Entry Try.prog) := [spec_IsValidConstraint_e N, spec_l1In_e N]
def spec_ViolatesConstraint_sg : Sig := ⟨[.val ty9, .val ty10, .val i64, .val i64], [(.bool, true)], false⟩
def spec_ViolatesConstraint_an : Nat → Option (List Nat) := fun _ => none
theorem spec_ViolatesConstraint_v (N : Nat) (d : List (ByteArray × Int × Int) × List (Int × List Int)) (x : Int × Int × Int × Int × Int × Int × Int) (i : Int) (k : Int) :
    evFn Tb (sigL (spec_ViolatesConstraint_es N)) cps (orcL (spec_ViolatesConstraint_es N)) (drawReg Tb (sigL (spec_ViolatesConstraint_es N)) cps (orcL (spec_ViolatesConstraint_es N))) N spec_ViolatesConstraint_an spec_ViolatesConstraint_sg Try.f169 (Try.f169.body.getD .skip) [.val ty9 d, .val ty10 x, .val i64 i, .val i64 k] (un1 .bool) = spec_ViolatesConstraint N d x i k := by kernel_rfl
noncomputable def spec_ViolatesConstraint_e (N : Nat) : Entry Try.prog := ⟨169, spec_ViolatesConstraint_sg, [.v ty9, .v ty10, .v i64, .v i64], Bool, spec_ViolatesConstraint N, pk1 .bool, entry_en Try.func169 (code := Try.f169.body.getD .skip) (by kernel_rfl) (by kernel_rfl),
  fun d x i k => entry_ok tab_ok (es := spec_ViolatesConstraint_es N) (by kernel_rfl) mixed Try.func169 (by kernel_rfl) rfl (un1_pk .bool) (spec_ViolatesConstraint_v N d x i k)⟩
noncomputable def spec_ConflictEdges_es (N : Nat) : List (Entry Try.prog) := [spec_ViolatesConstraint_e N, spec_HaveSameKey_e N, spec_IsValidDatabase_e N]
def spec_ConflictEdges_sg : Sig := ⟨[.val ty9, .val ty11], [(ty12, true)], false⟩
def spec_ConflictEdges_an : Nat → Option (List Nat)
  | 0 => some [1, 2, 5, 6]
  | 2 => some [1, 2, 5, 6, 7]
  | 4 => some [1, 2, 5, 6, 7, 8, 9]
  | _ => none
noncomputable def spec_ConflictEdges_lp (N : Nat) (p : List Dir) (rs : List (Env → Option (List (Int × Int)))) (k : Nat) (env : Env) : Option (List (Int × Int)) :=
  loopAt Tb (sigL (spec_ConflictEdges_es N)) cps (orcL (spec_ConflictEdges_es N)) N spec_ConflictEdges_an p (Try.f125.body.getD .skip) (endK Tb spec_ConflictEdges_sg Try.f125 [] (un1 ty12)) rs k env
noncomputable def spec_ConflictEdges_l2_E (N : Nat) (k0_ : Nat) (k1_ : Nat) (k_ : Nat) (l4 : List (Int × Int × Int × Int × Int × Int × Int)) (d6 : List (ByteArray × Int × Int)) (d7 : List (Int × List Int)) (out3 : List (Int × Int)) (i3 : Int) (k2 : Int) (is_ : Bool) (n : Int) : Option (List (Int × Int)) :=
  spec_ConflictEdges_lp N [.r, .r, .l, .r, .b, .b, .r, .l, .b, .r, .b, .b, .r, .l, .b, .r, .l, .r, .b] [spec_ConflictEdges_lp N [.r, .r, .l, .r, .b] [] k0_, spec_ConflictEdges_lp N [.r, .r, .l, .r, .b, .b, .r, .l, .b, .r, .b] [spec_ConflictEdges_lp N [.r, .r, .l, .r, .b] [] k0_] k1_] k_ (un 1 (.con .val [lf ty11 l4 .ro] :: (.con (.box 27) [lf ty7 d6 .ro, lf ty8 d7 .ro] :: (un 2 (.con .val [lf ty12 out3 .dp] :: (.con .val [lf i64 i3 .ro] :: (.con .val [lf i64 k2 .ro] :: (.con .val [lf .bool is_ .ro] :: (.con .val [lf i64 n .ro] :: (un 69 []))))))))))
noncomputable def spec_ConflictEdges_l1_E (N : Nat) (k0_ : Nat) (k_ : Nat) (l3 : List (Int × Int × Int × Int × Int × Int × Int)) (d4 : List (ByteArray × Int × Int)) (d5 : List (Int × List Int)) (out2 : List (Int × Int)) (i2 : Int) (k : Int) : Option (List (Int × Int)) :=
  spec_ConflictEdges_lp N [.r, .r, .l, .r, .b, .b, .r, .l, .b, .r, .b] [spec_ConflictEdges_lp N [.r, .r, .l, .r, .b] [] k0_] k_ (un 1 (.con .val [lf ty11 l3 .ro] :: (.con (.box 27) [lf ty7 d4 .ro, lf ty8 d5 .ro] :: (un 2 (.con .val [lf ty12 out2 .dp] :: (.con .val [lf i64 i2 .ro] :: (.con .val [lf i64 k .ro] :: (un 71 []))))))))
noncomputable def spec_ConflictEdges_l0_E (N : Nat) (k_ : Nat) (l2 : List (Int × Int × Int × Int × Int × Int × Int)) (d2 : List (ByteArray × Int × Int)) (d3 : List (Int × List Int)) (out : List (Int × Int)) (i : Int) : Option (List (Int × Int)) :=
  spec_ConflictEdges_lp N [.r, .r, .l, .r, .b] [] k_ (un 1 (.con .val [lf ty11 l2 .ro] :: (.con (.box 27) [lf ty7 d2 .ro, lf ty8 d3 .ro] :: (un 2 (.con .val [lf ty12 out .dp] :: (.con .val [lf i64 i .ro] :: (un 72 [])))))))
theorem spec_ConflictEdges_l2_z (N : Nat) (k0_ : Nat) (k1_ : Nat) (l4 : List (Int × Int × Int × Int × Int × Int × Int)) (d6 : List (ByteArray × Int × Int)) (d7 : List (Int × List Int)) (out3 : List (Int × Int)) (i3 : Int) (k2 : Int) (is_ : Bool) (n : Int) : spec_ConflictEdges_l2_E N k0_ k1_ 0 l4 d6 d7 out3 i3 k2 is_ n = none := by kernel_rfl
theorem spec_ConflictEdges_l2_s (N : Nat) (k0_ : Nat) (k1_ : Nat) (k_ : Nat) (l4 : List (Int × Int × Int × Int × Int × Int × Int)) (d6 : List (ByteArray × Int × Int)) (d7 : List (Int × List Int)) (out3 : List (Int × Int)) (i3 : Int) (k2 : Int) (is_ : Bool) (n : Int) : spec_ConflictEdges_l2_E N k0_ k1_ (k_ + 1) l4 d6 d7 out3 i3 k2 is_ n = spec_ConflictEdges_l2_b N (spec_ConflictEdges_l1_E N k0_ k1_) (spec_ConflictEdges_l2_E N k0_ k1_ k_) l4 d6 d7 out3 i3 k2 is_ n := by kernel_rfl
theorem spec_ConflictEdges_l1_z (N : Nat) (k0_ : Nat) (l3 : List (Int × Int × Int × Int × Int × Int × Int)) (d4 : List (ByteArray × Int × Int)) (d5 : List (Int × List Int)) (out2 : List (Int × Int)) (i2 : Int) (k : Int) : spec_ConflictEdges_l1_E N k0_ 0 l3 d4 d5 out2 i2 k = none := by kernel_rfl
theorem spec_ConflictEdges_l1_s (N : Nat) (k0_ : Nat) (k_ : Nat) (l3 : List (Int × Int × Int × Int × Int × Int × Int)) (d4 : List (ByteArray × Int × Int)) (d5 : List (Int × List Int)) (out2 : List (Int × Int)) (i2 : Int) (k : Int) : spec_ConflictEdges_l1_E N k0_ (k_ + 1) l3 d4 d5 out2 i2 k = spec_ConflictEdges_l1_b N (spec_ConflictEdges_l0_E N k0_) (spec_ConflictEdges_l2_E N k0_ k_ N) (spec_ConflictEdges_l1_E N k0_ k_) l3 d4 d5 out2 i2 k := by kernel_rfl
theorem spec_ConflictEdges_l0_z (N : Nat) (l2 : List (Int × Int × Int × Int × Int × Int × Int)) (d2 : List (ByteArray × Int × Int)) (d3 : List (Int × List Int)) (out : List (Int × Int)) (i : Int) : spec_ConflictEdges_l0_E N 0 l2 d2 d3 out i = none := by kernel_rfl
theorem spec_ConflictEdges_l0_s (N : Nat) (k_ : Nat) (l2 : List (Int × Int × Int × Int × Int × Int × Int)) (d2 : List (ByteArray × Int × Int)) (d3 : List (Int × List Int)) (out : List (Int × Int)) (i : Int) : spec_ConflictEdges_l0_E N (k_ + 1) l2 d2 d3 out i = spec_ConflictEdges_l0_b N (spec_ConflictEdges_l1_E N k_ N) (spec_ConflictEdges_l0_E N k_) l2 d2 d3 out i := by kernel_rfl
theorem spec_ConflictEdges_l2_q (N : Nat) (k0_ : Nat) (k1_ : Nat) : ∀ k_, spec_ConflictEdges_l2_E N k0_ k1_ k_ = spec_ConflictEdges_l2 (spec_ConflictEdges_l1_E N k0_ k1_) N k_
  | 0 => by funext l4 d6 d7 out3 i3 k2 is_ n; exact spec_ConflictEdges_l2_z N k0_ k1_ l4 d6 d7 out3 i3 k2 is_ n
  | k_ + 1 => by funext l4 d6 d7 out3 i3 k2 is_ n; rw [spec_ConflictEdges_l2_s]; simp only [spec_ConflictEdges_l2_q N k0_ k1_ k_]; rfl
theorem spec_ConflictEdges_l1_q (N : Nat) (k0_ : Nat) : ∀ k_, spec_ConflictEdges_l1_E N k0_ k_ = spec_ConflictEdges_l1 (spec_ConflictEdges_l0_E N k0_) N k_
  | 0 => by funext l3 d4 d5 out2 i2 k; exact spec_ConflictEdges_l1_z N k0_ l3 d4 d5 out2 i2 k
  | k_ + 1 => by funext l3 d4 d5 out2 i2 k; rw [spec_ConflictEdges_l1_s]; simp only [spec_ConflictEdges_l2_q, spec_ConflictEdges_l1_q N k0_ k_]; rfl
theorem spec_ConflictEdges_l0_q (N : Nat) : ∀ k_, spec_ConflictEdges_l0_E N k_ = spec_ConflictEdges_l0 N k_
  | 0 => by funext l2 d2 d3 out i; exact spec_ConflictEdges_l0_z N l2 d2 d3 out i
  | k_ + 1 => by funext l2 d2 d3 out i; rw [spec_ConflictEdges_l0_s]; simp only [spec_ConflictEdges_l1_q, spec_ConflictEdges_l0_q N k_]; rfl
theorem spec_ConflictEdges_v (N : Nat) (d : List (ByteArray × Int × Int) × List (Int × List Int)) (l : List (Int × Int × Int × Int × Int × Int × Int)) :
    evFn Tb (sigL (spec_ConflictEdges_es N)) cps (orcL (spec_ConflictEdges_es N)) (drawReg Tb (sigL (spec_ConflictEdges_es N)) cps (orcL (spec_ConflictEdges_es N))) N spec_ConflictEdges_an spec_ConflictEdges_sg Try.f125 (Try.f125.body.getD .skip) [.val ty9 d, .val ty11 l] (un1 ty12) = spec_ConflictEdges_b N (spec_ConflictEdges_l0_E N N) d l := by kernel_rfl
noncomputable def spec_ConflictEdges_e (N : Nat) : Entry Try.prog := ⟨125, spec_ConflictEdges_sg, [.v ty9, .v ty11], List (Int × Int), spec_ConflictEdges N, pk1 ty12, entry_en Try.func125 (code := Try.f125.body.getD .skip) (by kernel_rfl) (by kernel_rfl),
  fun d l => entry_ok tab_ok (es := spec_ConflictEdges_es N) (by kernel_rfl) mixed Try.func125 (by kernel_rfl) rfl (un1_pk ty12) (by rw [spec_ConflictEdges_v, spec_ConflictEdges_l0_q]; rfl)⟩
noncomputable def spec_NewestFirst_es (N : Nat) : List (Entry Try.prog) := [spec_ConflictEdges_e N]
def spec_NewestFirst_sg : Sig := ⟨[.val ty9, .val ty11], [(ty12, true)], false⟩
def spec_NewestFirst_an : Nat → Option (List Nat)
  | 0 => some [5, 6, 7]
  | _ => none
noncomputable def spec_NewestFirst_lp (N : Nat) (p : List Dir) (rs : List (Env → Option (List (Int × Int)))) (k : Nat) (env : Env) : Option (List (Int × Int)) :=
  loopAt Tb (sigL (spec_NewestFirst_es N)) cps (orcL (spec_NewestFirst_es N)) N spec_NewestFirst_an p (Try.f54.body.getD .skip) (endK Tb spec_NewestFirst_sg Try.f54 [] (un1 ty12)) rs k env
noncomputable def spec_NewestFirst_l0_E (N : Nat) (k_ : Nat) (out : List (Int × Int)) (e : List (Int × Int)) (i : Int) : Option (List (Int × Int)) :=
  spec_NewestFirst_lp N [.r, .r, .r, .l, .r, .b] [] k_ (un 5 (.con .val [lf ty12 out .dp] :: (.con .val [lf ty12 e .dp] :: (.con .val [lf i64 i .ro] :: (un 25 [])))))
theorem spec_NewestFirst_l0_z (N : Nat) (out : List (Int × Int)) (e : List (Int × Int)) (i : Int) : spec_NewestFirst_l0_E N 0 out e i = none := by kernel_rfl
theorem spec_NewestFirst_l0_s (N : Nat) (k_ : Nat) (out : List (Int × Int)) (e : List (Int × Int)) (i : Int) : spec_NewestFirst_l0_E N (k_ + 1) out e i = spec_NewestFirst_l0_b N (spec_NewestFirst_l0_E N k_) out e i := by kernel_rfl
theorem spec_NewestFirst_l0_q (N : Nat) : ∀ k_, spec_NewestFirst_l0_E N k_ = spec_NewestFirst_l0 N k_
  | 0 => by funext out e i; exact spec_NewestFirst_l0_z N out e i
  | k_ + 1 => by funext out e i; rw [spec_NewestFirst_l0_s]; simp only [spec_NewestFirst_l0_q N k_]; rfl
theorem spec_NewestFirst_v (N : Nat) (d : List (ByteArray × Int × Int) × List (Int × List Int)) (l : List (Int × Int × Int × Int × Int × Int × Int)) :
    evFn Tb (sigL (spec_NewestFirst_es N)) cps (orcL (spec_NewestFirst_es N)) (drawReg Tb (sigL (spec_NewestFirst_es N)) cps (orcL (spec_NewestFirst_es N))) N spec_NewestFirst_an spec_NewestFirst_sg Try.f54 (Try.f54.body.getD .skip) [.val ty9 d, .val ty11 l] (un1 ty12) = spec_NewestFirst_b N (spec_NewestFirst_l0_E N N) d l := by kernel_rfl
noncomputable def spec_NewestFirst_e (N : Nat) : Entry Try.prog := ⟨54, spec_NewestFirst_sg, [.v ty9, .v ty11], List (Int × Int), spec_NewestFirst N, pk1 ty12, entry_en Try.func54 (code := Try.f54.body.getD .skip) (by kernel_rfl) (by kernel_rfl),
  fun d l => entry_ok tab_ok (es := spec_NewestFirst_es N) (by kernel_rfl) mixed Try.func54 (by kernel_rfl) rfl (un1_pk ty12) (by rw [spec_NewestFirst_v, spec_NewestFirst_l0_q]; rfl)⟩
noncomputable def impl_within_es (N : Nat) : List (Entry Try.prog) := []
def impl_within_sg : Sig := ⟨[.val i64, .val i64, .val i64], [(.bool, true)], false⟩
def impl_within_an : Nat → Option (List Nat) := fun _ => none
theorem impl_within_v (N : Nat) (n : Int) (low : Int) (high : Int) :
    evFn Tb (sigL (impl_within_es N)) cps (orcL (impl_within_es N)) (drawReg Tb (sigL (impl_within_es N)) cps (orcL (impl_within_es N))) N impl_within_an impl_within_sg Try.f103 (Try.f103.body.getD .skip) [.val i64 n, .val i64 low, .val i64 high] (un1 .bool) = impl_within N n low high := by kernel_rfl
noncomputable def impl_within_e (N : Nat) : Entry Try.prog := ⟨103, impl_within_sg, [.v i64, .v i64, .v i64], Bool, impl_within N, pk1 .bool, entry_en Try.func103 (code := Try.f103.body.getD .skip) (by kernel_rfl) (by kernel_rfl),
  fun n low high => entry_ok tab_ok (es := impl_within_es N) (by kernel_rfl) mixed Try.func103 (by kernel_rfl) rfl (un1_pk .bool) (impl_within_v N n low high)⟩
noncomputable def impl_IsValidRelation_es (N : Nat) : List (Entry Try.prog) := [impl_within_e N]
def impl_IsValidRelation_sg : Sig := ⟨[.val ty0], [(.bool, true)], false⟩
def impl_IsValidRelation_an : Nat → Option (List Nat) := fun _ => none
theorem impl_IsValidRelation_v (N : Nat) (relation : ByteArray × Int × Int) :
    evFn Tb (sigL (impl_IsValidRelation_es N)) cps (orcL (impl_IsValidRelation_es N)) (drawReg Tb (sigL (impl_IsValidRelation_es N)) cps (orcL (impl_IsValidRelation_es N))) N impl_IsValidRelation_an impl_IsValidRelation_sg Try.f189 (Try.f189.body.getD .skip) [.val ty0 relation] (un1 .bool) = impl_IsValidRelation N relation := by kernel_rfl
noncomputable def impl_IsValidRelation_e (N : Nat) : Entry Try.prog := ⟨189, impl_IsValidRelation_sg, [.v ty0], Bool, impl_IsValidRelation N, pk1 .bool, entry_en Try.func189 (code := Try.f189.body.getD .skip) (by kernel_rfl) (by kernel_rfl),
  fun relation => entry_ok tab_ok (es := impl_IsValidRelation_es N) (by kernel_rfl) mixed Try.func189 (by kernel_rfl) rfl (un1_pk .bool) (impl_IsValidRelation_v N relation)⟩
noncomputable def impl_AreValidRelations_es (N : Nat) : List (Entry Try.prog) := [impl_IsValidRelation_e N]
def impl_AreValidRelations_sg : Sig := ⟨[.val ty7], [(.bool, true)], false⟩
def impl_AreValidRelations_an : Nat → Option (List Nat)
  | 0 => some [0, 5, 6, 7]
  | _ => none
noncomputable def impl_AreValidRelations_lp (N : Nat) (p : List Dir) (rs : List (Env → Option (Bool))) (k : Nat) (env : Env) : Option (Bool) :=
  loopAt Tb (sigL (impl_AreValidRelations_es N)) cps (orcL (impl_AreValidRelations_es N)) N impl_AreValidRelations_an p (Try.f143.body.getD .skip) (endK Tb impl_AreValidRelations_sg Try.f143 [] (un1 .bool)) rs k env
noncomputable def impl_AreValidRelations_l0_E (N : Nat) (k_ : Nat) (relations2 : List (ByteArray × Int × Int)) (t5 : List (ByteArray × Int × Int)) (t6 : Int) (t7 : Int) : Option (Bool) :=
  impl_AreValidRelations_lp N [.r, .l, .r, .b] [] k_ (.con .val [lf ty7 relations2 .ro] :: (un 4 (.con .val [lf ty7 t5 .ro] :: (.con .val [lf i64 t6 .ro] :: (.con .val [lf i64 t7 .ro] :: (un 26 []))))))
theorem impl_AreValidRelations_l0_z (N : Nat) (relations2 : List (ByteArray × Int × Int)) (t5 : List (ByteArray × Int × Int)) (t6 : Int) (t7 : Int) : impl_AreValidRelations_l0_E N 0 relations2 t5 t6 t7 = none := by kernel_rfl
theorem impl_AreValidRelations_l0_s (N : Nat) (k_ : Nat) (relations2 : List (ByteArray × Int × Int)) (t5 : List (ByteArray × Int × Int)) (t6 : Int) (t7 : Int) : impl_AreValidRelations_l0_E N (k_ + 1) relations2 t5 t6 t7 = impl_AreValidRelations_l0_b N (impl_AreValidRelations_l0_E N k_) relations2 t5 t6 t7 := by kernel_rfl
theorem impl_AreValidRelations_l0_q (N : Nat) : ∀ k_, impl_AreValidRelations_l0_E N k_ = impl_AreValidRelations_l0 N k_
  | 0 => by funext relations2 t5 t6 t7; exact impl_AreValidRelations_l0_z N relations2 t5 t6 t7
  | k_ + 1 => by funext relations2 t5 t6 t7; rw [impl_AreValidRelations_l0_s]; simp only [impl_AreValidRelations_l0_q N k_]; rfl
theorem impl_AreValidRelations_v (N : Nat) (relations : List (ByteArray × Int × Int)) :
    evFn Tb (sigL (impl_AreValidRelations_es N)) cps (orcL (impl_AreValidRelations_es N)) (drawReg Tb (sigL (impl_AreValidRelations_es N)) cps (orcL (impl_AreValidRelations_es N))) N impl_AreValidRelations_an impl_AreValidRelations_sg Try.f143 (Try.f143.body.getD .skip) [.val ty7 relations] (un1 .bool) = impl_AreValidRelations_b N (impl_AreValidRelations_l0_E N N) relations := by kernel_rfl
noncomputable def impl_AreValidRelations_e (N : Nat) : Entry Try.prog := ⟨143, impl_AreValidRelations_sg, [.v ty7], Bool, impl_AreValidRelations N, pk1 .bool, entry_en Try.func143 (code := Try.f143.body.getD .skip) (by kernel_rfl) (by kernel_rfl),
  fun relations => entry_ok tab_ok (es := impl_AreValidRelations_es N) (by kernel_rfl) mixed Try.func143 (by kernel_rfl) rfl (un1_pk .bool) (by rw [impl_AreValidRelations_v, impl_AreValidRelations_l0_q]; rfl)⟩
noncomputable def impl_areValues_c1_es (N : Nat) : List (Entry Try.prog) := [impl_within_e N]
def impl_areValues_c1_sg : Sig := ⟨[.val i64], [(.bool, true)], false⟩
def impl_areValues_c1_an : Nat → Option (List Nat) := fun _ => none
theorem impl_areValues_c1_v (N : Nat) (v : Int) :
    evFn Tb (sigL (impl_areValues_c1_es N)) cps (orcL (impl_areValues_c1_es N)) (drawReg Tb (sigL (impl_areValues_c1_es N)) cps (orcL (impl_areValues_c1_es N))) N impl_areValues_c1_an impl_areValues_c1_sg Try.f217 (Try.f217.body.getD .skip) [.val i64 v] (un1 .bool) = impl_areValues_c1 N v := by kernel_rfl
noncomputable def impl_areValues_c1_e (N : Nat) : Entry Try.prog := ⟨217, impl_areValues_c1_sg, [.v i64], Bool, impl_areValues_c1 N, pk1 .bool, entry_en Try.func217 (code := Try.f217.body.getD .skip) (by kernel_rfl) (by kernel_rfl),
  fun v => entry_ok tab_ok (es := impl_areValues_c1_es N) (by kernel_rfl) mixed Try.func217 (by kernel_rfl) rfl (un1_pk .bool) (impl_areValues_c1_v N v)⟩
noncomputable def slices_IndexFunc_Lint_int_areValues_c1_es (N : Nat) : List (Entry Try.prog) := [impl_areValues_c1_e N]
def slices_IndexFunc_Lint_int_areValues_c1_sg : Sig := ⟨[.val ty2, .clo], [(i64, true)], false⟩
def slices_IndexFunc_Lint_int_areValues_c1_an : Nat → Option (List Nat)
  | 0 => some [0, 1, 7, 8]
  | _ => none
noncomputable def slices_IndexFunc_Lint_int_areValues_c1_lp (N : Nat) (p : List Dir) (rs : List (Env → Option (Int))) (k : Nat) (env : Env) : Option (Int) :=
  loopAt Tb (sigL (slices_IndexFunc_Lint_int_areValues_c1_es N)) cps (orcL (slices_IndexFunc_Lint_int_areValues_c1_es N)) N slices_IndexFunc_Lint_int_areValues_c1_an p (Try.f167.body.getD .skip) (endK Tb slices_IndexFunc_Lint_int_areValues_c1_sg Try.f167 [] (un1 i64)) rs k env
noncomputable def slices_IndexFunc_Lint_int_areValues_c1_l0_E (N : Nat) (k_ : Nat) (s2 : List Int) (t7 : Int) (t8 : Int) : Option (Int) :=
  slices_IndexFunc_Lint_int_areValues_c1_lp N [.r, .l, .r, .b] [] k_ (.con .val [lf ty2 s2 .ro] :: (.cloR 217 [] :: (un 5 (.con .val [lf i64 t7 .ro] :: (.con .val [lf i64 t8 .ro] :: (un 10 []))))))
theorem slices_IndexFunc_Lint_int_areValues_c1_l0_z (N : Nat) (s2 : List Int) (t7 : Int) (t8 : Int) : slices_IndexFunc_Lint_int_areValues_c1_l0_E N 0 s2 t7 t8 = none := by kernel_rfl
theorem slices_IndexFunc_Lint_int_areValues_c1_l0_s (N : Nat) (k_ : Nat) (s2 : List Int) (t7 : Int) (t8 : Int) : slices_IndexFunc_Lint_int_areValues_c1_l0_E N (k_ + 1) s2 t7 t8 = slices_IndexFunc_Lint_int_areValues_c1_l0_b N (slices_IndexFunc_Lint_int_areValues_c1_l0_E N k_) s2 t7 t8 := by kernel_rfl
theorem slices_IndexFunc_Lint_int_areValues_c1_l0_q (N : Nat) : ∀ k_, slices_IndexFunc_Lint_int_areValues_c1_l0_E N k_ = slices_IndexFunc_Lint_int_areValues_c1_l0 N k_
  | 0 => by funext s2 t7 t8; exact slices_IndexFunc_Lint_int_areValues_c1_l0_z N s2 t7 t8
  | k_ + 1 => by funext s2 t7 t8; rw [slices_IndexFunc_Lint_int_areValues_c1_l0_s]; simp only [slices_IndexFunc_Lint_int_areValues_c1_l0_q N k_]; rfl
theorem slices_IndexFunc_Lint_int_areValues_c1_v (N : Nat) (s : List Int) :
    evFn Tb (sigL (slices_IndexFunc_Lint_int_areValues_c1_es N)) cps (orcL (slices_IndexFunc_Lint_int_areValues_c1_es N)) (drawReg Tb (sigL (slices_IndexFunc_Lint_int_areValues_c1_es N)) cps (orcL (slices_IndexFunc_Lint_int_areValues_c1_es N))) N slices_IndexFunc_Lint_int_areValues_c1_an slices_IndexFunc_Lint_int_areValues_c1_sg Try.f167 (Try.f167.body.getD .skip) [.val ty2 s, .clo 217 []] (un1 i64) = slices_IndexFunc_Lint_int_areValues_c1_b N (slices_IndexFunc_Lint_int_areValues_c1_l0_E N N) s := by kernel_rfl
noncomputable def slices_IndexFunc_Lint_int_areValues_c1_e (N : Nat) : Entry Try.prog := ⟨167, slices_IndexFunc_Lint_int_areValues_c1_sg, [.v ty2, .c 217 []], Int, slices_IndexFunc_Lint_int_areValues_c1 N, pk1 i64, entry_en Try.func167 (code := Try.f167.body.getD .skip) (by kernel_rfl) (by kernel_rfl),
  fun s => entry_ok tab_ok (es := slices_IndexFunc_Lint_int_areValues_c1_es N) (by kernel_rfl) mixed Try.func167 (by kernel_rfl) rfl (un1_pk i64) (by rw [slices_IndexFunc_Lint_int_areValues_c1_v, slices_IndexFunc_Lint_int_areValues_c1_l0_q]; rfl)⟩
noncomputable def slices_ContainsFunc_Lint_int_areValues_c1_es (N : Nat) : List (Entry Try.prog) := [slices_IndexFunc_Lint_int_areValues_c1_e N]
def slices_ContainsFunc_Lint_int_areValues_c1_sg : Sig := ⟨[.val ty2, .clo], [(.bool, true)], false⟩
def slices_ContainsFunc_Lint_int_areValues_c1_an : Nat → Option (List Nat) := fun _ => none
theorem slices_ContainsFunc_Lint_int_areValues_c1_v (N : Nat) (s : List Int) :
    evFn Tb (sigL (slices_ContainsFunc_Lint_int_areValues_c1_es N)) cps (orcL (slices_ContainsFunc_Lint_int_areValues_c1_es N)) (drawReg Tb (sigL (slices_ContainsFunc_Lint_int_areValues_c1_es N)) cps (orcL (slices_ContainsFunc_Lint_int_areValues_c1_es N))) N slices_ContainsFunc_Lint_int_areValues_c1_an slices_ContainsFunc_Lint_int_areValues_c1_sg Try.f119 (Try.f119.body.getD .skip) [.val ty2 s, .clo 217 []] (un1 .bool) = slices_ContainsFunc_Lint_int_areValues_c1 N s := by kernel_rfl
noncomputable def slices_ContainsFunc_Lint_int_areValues_c1_e (N : Nat) : Entry Try.prog := ⟨119, slices_ContainsFunc_Lint_int_areValues_c1_sg, [.v ty2, .c 217 []], Bool, slices_ContainsFunc_Lint_int_areValues_c1 N, pk1 .bool, entry_en Try.func119 (code := Try.f119.body.getD .skip) (by kernel_rfl) (by kernel_rfl),
  fun s => entry_ok tab_ok (es := slices_ContainsFunc_Lint_int_areValues_c1_es N) (by kernel_rfl) mixed Try.func119 (by kernel_rfl) rfl (un1_pk .bool) (slices_ContainsFunc_Lint_int_areValues_c1_v N s)⟩
noncomputable def impl_areValues_es (N : Nat) : List (Entry Try.prog) := [slices_ContainsFunc_Lint_int_areValues_c1_e N]
def impl_areValues_sg : Sig := ⟨[.val ty2], [(.bool, true)], false⟩
def impl_areValues_an : Nat → Option (List Nat) := fun _ => none
theorem impl_areValues_v (N : Nat) (list : List Int) :
    evFn Tb (sigL (impl_areValues_es N)) cps (orcL (impl_areValues_es N)) (drawReg Tb (sigL (impl_areValues_es N)) cps (orcL (impl_areValues_es N))) N impl_areValues_an impl_areValues_sg Try.f190 (Try.f190.body.getD .skip) [.val ty2 list] (un1 .bool) = impl_areValues N list := by kernel_rfl
noncomputable def impl_areValues_e (N : Nat) : Entry Try.prog := ⟨190, impl_areValues_sg, [.v ty2], Bool, impl_areValues N, pk1 .bool, entry_en Try.func190 (code := Try.f190.body.getD .skip) (by kernel_rfl) (by kernel_rfl),
  fun list => entry_ok tab_ok (es := impl_areValues_es N) (by kernel_rfl) mixed Try.func190 (by kernel_rfl) rfl (un1_pk .bool) (impl_areValues_v N list)⟩
noncomputable def impl_isFact_es (N : Nat) : List (Entry Try.prog) := [impl_within_e N, impl_areValues_e N]
def impl_isFact_sg : Sig := ⟨[.val ty7, .val ty3], [(.bool, true)], false⟩
def impl_isFact_an : Nat → Option (List Nat) := fun _ => none
theorem impl_isFact_v (N : Nat) (relations : List (ByteArray × Int × Int)) (fact : Int × List Int) :
    evFn Tb (sigL (impl_isFact_es N)) cps (orcL (impl_isFact_es N)) (drawReg Tb (sigL (impl_isFact_es N)) cps (orcL (impl_isFact_es N))) N impl_isFact_an impl_isFact_sg Try.f144 (Try.f144.body.getD .skip) [.val ty7 relations, .val ty3 fact] (un1 .bool) = impl_isFact N relations fact := by kernel_rfl
noncomputable def impl_isFact_e (N : Nat) : Entry Try.prog := ⟨144, impl_isFact_sg, [.v ty7, .v ty3], Bool, impl_isFact N, pk1 .bool, entry_en Try.func144 (code := Try.f144.body.getD .skip) (by kernel_rfl) (by kernel_rfl),
  fun relations fact => entry_ok tab_ok (es := impl_isFact_es N) (by kernel_rfl) mixed Try.func144 (by kernel_rfl) rfl (un1_pk .bool) (impl_isFact_v N relations fact)⟩
noncomputable def impl_compare_es (N : Nat) : List (Entry Try.prog) := []
def impl_compare_sg : Sig := ⟨[.val i64, .val i64], [(i64, true)], false⟩
def impl_compare_an : Nat → Option (List Nat) := fun _ => none
theorem impl_compare_v (N : Nat) (a : Int) (b : Int) :
    evFn Tb (sigL (impl_compare_es N)) cps (orcL (impl_compare_es N)) (drawReg Tb (sigL (impl_compare_es N)) cps (orcL (impl_compare_es N))) N impl_compare_an impl_compare_sg Try.f177 (Try.f177.body.getD .skip) [.val i64 a, .val i64 b] (un1 i64) = impl_compare N a b := by kernel_rfl
noncomputable def impl_compare_e (N : Nat) : Entry Try.prog := ⟨177, impl_compare_sg, [.v i64, .v i64], Int, impl_compare N, pk1 i64, entry_en Try.func177 (code := Try.f177.body.getD .skip) (by kernel_rfl) (by kernel_rfl),
  fun a b => entry_ok tab_ok (es := impl_compare_es N) (by kernel_rfl) mixed Try.func177 (by kernel_rfl) rfl (un1_pk i64) (impl_compare_v N a b)⟩
noncomputable def cmp_isNaN_int_es (N : Nat) : List (Entry Try.prog) := []
def cmp_isNaN_int_sg : Sig := ⟨[.val i64], [(.bool, true)], false⟩
def cmp_isNaN_int_an : Nat → Option (List Nat) := fun _ => none
theorem cmp_isNaN_int_v (N : Nat) (x : Int) :
    evFn Tb (sigL (cmp_isNaN_int_es N)) cps (orcL (cmp_isNaN_int_es N)) (drawReg Tb (sigL (cmp_isNaN_int_es N)) cps (orcL (cmp_isNaN_int_es N))) N cmp_isNaN_int_an cmp_isNaN_int_sg Try.f224 (Try.f224.body.getD .skip) [.val i64 x] (un1 .bool) = cmp_isNaN_int N x := by kernel_rfl
noncomputable def cmp_isNaN_int_e (N : Nat) : Entry Try.prog := ⟨224, cmp_isNaN_int_sg, [.v i64], Bool, cmp_isNaN_int N, pk1 .bool, entry_en Try.func224 (code := Try.f224.body.getD .skip) (by kernel_rfl) (by kernel_rfl),
  fun x => entry_ok tab_ok (es := cmp_isNaN_int_es N) (by kernel_rfl) mixed Try.func224 (by kernel_rfl) rfl (un1_pk .bool) (cmp_isNaN_int_v N x)⟩
noncomputable def cmp_Compare_int_es (N : Nat) : List (Entry Try.prog) := [cmp_isNaN_int_e N]
def cmp_Compare_int_sg : Sig := ⟨[.val i64, .val i64], [(i64, true)], false⟩
def cmp_Compare_int_an : Nat → Option (List Nat) := fun _ => none
theorem cmp_Compare_int_v (N : Nat) (x : Int) (y : Int) :
    evFn Tb (sigL (cmp_Compare_int_es N)) cps (orcL (cmp_Compare_int_es N)) (drawReg Tb (sigL (cmp_Compare_int_es N)) cps (orcL (cmp_Compare_int_es N))) N cmp_Compare_int_an cmp_Compare_int_sg Try.f211 (Try.f211.body.getD .skip) [.val i64 x, .val i64 y] (un1 i64) = cmp_Compare_int N x y := by kernel_rfl
noncomputable def cmp_Compare_int_e (N : Nat) : Entry Try.prog := ⟨211, cmp_Compare_int_sg, [.v i64, .v i64], Int, cmp_Compare_int N, pk1 i64, entry_en Try.func211 (code := Try.f211.body.getD .skip) (by kernel_rfl) (by kernel_rfl),
  fun x y => entry_ok tab_ok (es := cmp_Compare_int_es N) (by kernel_rfl) mixed Try.func211 (by kernel_rfl) rfl (un1_pk i64) (cmp_Compare_int_v N x y)⟩
noncomputable def slices_Compare_Lint_int_es (N : Nat) : List (Entry Try.prog) := [cmp_Compare_int_e N]
def slices_Compare_Lint_int_sg : Sig := ⟨[.val ty2, .val ty2], [(i64, true)], false⟩
def slices_Compare_Lint_int_an : Nat → Option (List Nat)
  | 0 => some [0, 1, 9, 10, 11]
  | _ => none
noncomputable def slices_Compare_Lint_int_lp (N : Nat) (p : List Dir) (rs : List (Env → Option (Int))) (k : Nat) (env : Env) : Option (Int) :=
  loopAt Tb (sigL (slices_Compare_Lint_int_es N)) cps (orcL (slices_Compare_Lint_int_es N)) N slices_Compare_Lint_int_an p (Try.f178.body.getD .skip) (endK Tb slices_Compare_Lint_int_sg Try.f178 [] (un1 i64)) rs k env
noncomputable def slices_Compare_Lint_int_l0_E (N : Nat) (k_ : Nat) (s12 : List Int) (s22 : List Int) (t9 : List Int) (t10 : Int) (t11 : Int) : Option (Int) :=
  slices_Compare_Lint_int_lp N [.r, .l, .r, .b] [] k_ (.con .val [lf ty2 s12 .ro] :: (.con .val [lf ty2 s22 .ro] :: (un 7 (.con .val [lf ty2 t9 .ro] :: (.con .val [lf i64 t10 .ro] :: (.con .val [lf i64 t11 .ro] :: (un 24 [])))))))
theorem slices_Compare_Lint_int_l0_z (N : Nat) (s12 : List Int) (s22 : List Int) (t9 : List Int) (t10 : Int) (t11 : Int) : slices_Compare_Lint_int_l0_E N 0 s12 s22 t9 t10 t11 = none := by kernel_rfl
theorem slices_Compare_Lint_int_l0_s (N : Nat) (k_ : Nat) (s12 : List Int) (s22 : List Int) (t9 : List Int) (t10 : Int) (t11 : Int) : slices_Compare_Lint_int_l0_E N (k_ + 1) s12 s22 t9 t10 t11 = slices_Compare_Lint_int_l0_b N (slices_Compare_Lint_int_l0_E N k_) s12 s22 t9 t10 t11 := by kernel_rfl
theorem slices_Compare_Lint_int_l0_q (N : Nat) : ∀ k_, slices_Compare_Lint_int_l0_E N k_ = slices_Compare_Lint_int_l0 N k_
  | 0 => by funext s12 s22 t9 t10 t11; exact slices_Compare_Lint_int_l0_z N s12 s22 t9 t10 t11
  | k_ + 1 => by funext s12 s22 t9 t10 t11; rw [slices_Compare_Lint_int_l0_s]; simp only [slices_Compare_Lint_int_l0_q N k_]; rfl
theorem slices_Compare_Lint_int_v (N : Nat) (s1 : List Int) (s2 : List Int) :
    evFn Tb (sigL (slices_Compare_Lint_int_es N)) cps (orcL (slices_Compare_Lint_int_es N)) (drawReg Tb (sigL (slices_Compare_Lint_int_es N)) cps (orcL (slices_Compare_Lint_int_es N))) N slices_Compare_Lint_int_an slices_Compare_Lint_int_sg Try.f178 (Try.f178.body.getD .skip) [.val ty2 s1, .val ty2 s2] (un1 i64) = slices_Compare_Lint_int_b N (slices_Compare_Lint_int_l0_E N N) s1 s2 := by kernel_rfl
noncomputable def slices_Compare_Lint_int_e (N : Nat) : Entry Try.prog := ⟨178, slices_Compare_Lint_int_sg, [.v ty2, .v ty2], Int, slices_Compare_Lint_int N, pk1 i64, entry_en Try.func178 (code := Try.f178.body.getD .skip) (by kernel_rfl) (by kernel_rfl),
  fun s1 s2 => entry_ok tab_ok (es := slices_Compare_Lint_int_es N) (by kernel_rfl) mixed Try.func178 (by kernel_rfl) rfl (un1_pk i64) (by rw [slices_Compare_Lint_int_v, slices_Compare_Lint_int_l0_q]; rfl)⟩
noncomputable def impl_CompareFacts_es (N : Nat) : List (Entry Try.prog) := [impl_compare_e N, slices_Compare_Lint_int_e N]
def impl_CompareFacts_sg : Sig := ⟨[.val ty3, .val ty3], [(i64, true)], false⟩
def impl_CompareFacts_an : Nat → Option (List Nat) := fun _ => none
theorem impl_CompareFacts_v (N : Nat) (a : Int × List Int) (b : Int × List Int) :
    evFn Tb (sigL (impl_CompareFacts_es N)) cps (orcL (impl_CompareFacts_es N)) (drawReg Tb (sigL (impl_CompareFacts_es N)) cps (orcL (impl_CompareFacts_es N))) N impl_CompareFacts_an impl_CompareFacts_sg Try.f132 (Try.f132.body.getD .skip) [.val ty3 a, .val ty3 b] (un1 i64) = impl_CompareFacts N a b := by kernel_rfl
noncomputable def impl_CompareFacts_e (N : Nat) : Entry Try.prog := ⟨132, impl_CompareFacts_sg, [.v ty3, .v ty3], Int, impl_CompareFacts N, pk1 i64, entry_en Try.func132 (code := Try.f132.body.getD .skip) (by kernel_rfl) (by kernel_rfl),
  fun a b => entry_ok tab_ok (es := impl_CompareFacts_es N) (by kernel_rfl) mixed Try.func132 (by kernel_rfl) rfl (un1_pk i64) (impl_CompareFacts_v N a b)⟩
noncomputable def impl_IsValidDatabase_es (N : Nat) : List (Entry Try.prog) := [impl_isFact_e N, impl_CompareFacts_e N, impl_AreValidRelations_e N]
def impl_IsValidDatabase_sg : Sig := ⟨[.val ty9], [(.bool, true)], false⟩
def impl_IsValidDatabase_an : Nat → Option (List Nat)
  | 0 => some [1, 16, 17, 18]
  | _ => none
noncomputable def impl_IsValidDatabase_lp (N : Nat) (p : List Dir) (rs : List (Env → Option (Bool))) (k : Nat) (env : Env) : Option (Bool) :=
  loopAt Tb (sigL (impl_IsValidDatabase_es N)) cps (orcL (impl_IsValidDatabase_es N)) N impl_IsValidDatabase_an p (Try.f79.body.getD .skip) (endK Tb impl_IsValidDatabase_sg Try.f79 [] (un1 .bool)) rs k env
noncomputable def impl_IsValidDatabase_l0_E (N : Nat) (k_ : Nat) (db2 : List (ByteArray × Int × Int)) (db3 : List (Int × List Int)) (t16 : List (Int × List Int)) (t17 : Int) (t18 : Int) : Option (Bool) :=
  impl_IsValidDatabase_lp N [.r, .r, .l, .r, .b] [] k_ (un 1 (.con (.box 27) [lf ty7 db2 .ro, lf ty8 db3 .ro] :: (un 14 (.con .val [lf ty8 t16 .ro] :: (.con .val [lf i64 t17 .ro] :: (.con .val [lf i64 t18 .ro] :: (un 25 [])))))))
theorem impl_IsValidDatabase_l0_z (N : Nat) (db2 : List (ByteArray × Int × Int)) (db3 : List (Int × List Int)) (t16 : List (Int × List Int)) (t17 : Int) (t18 : Int) : impl_IsValidDatabase_l0_E N 0 db2 db3 t16 t17 t18 = none := by kernel_rfl
theorem impl_IsValidDatabase_l0_s (N : Nat) (k_ : Nat) (db2 : List (ByteArray × Int × Int)) (db3 : List (Int × List Int)) (t16 : List (Int × List Int)) (t17 : Int) (t18 : Int) : impl_IsValidDatabase_l0_E N (k_ + 1) db2 db3 t16 t17 t18 = impl_IsValidDatabase_l0_b N (impl_IsValidDatabase_l0_E N k_) db2 db3 t16 t17 t18 := by kernel_rfl
theorem impl_IsValidDatabase_l0_q (N : Nat) : ∀ k_, impl_IsValidDatabase_l0_E N k_ = impl_IsValidDatabase_l0 N k_
  | 0 => by funext db2 db3 t16 t17 t18; exact impl_IsValidDatabase_l0_z N db2 db3 t16 t17 t18
  | k_ + 1 => by funext db2 db3 t16 t17 t18; rw [impl_IsValidDatabase_l0_s]; simp only [impl_IsValidDatabase_l0_q N k_]; rfl
theorem impl_IsValidDatabase_v (N : Nat) (db : List (ByteArray × Int × Int) × List (Int × List Int)) :
    evFn Tb (sigL (impl_IsValidDatabase_es N)) cps (orcL (impl_IsValidDatabase_es N)) (drawReg Tb (sigL (impl_IsValidDatabase_es N)) cps (orcL (impl_IsValidDatabase_es N))) N impl_IsValidDatabase_an impl_IsValidDatabase_sg Try.f79 (Try.f79.body.getD .skip) [.val ty9 db] (un1 .bool) = impl_IsValidDatabase_b N (impl_IsValidDatabase_l0_E N N) db := by kernel_rfl
noncomputable def impl_IsValidDatabase_e (N : Nat) : Entry Try.prog := ⟨79, impl_IsValidDatabase_sg, [.v ty9], Bool, impl_IsValidDatabase N, pk1 .bool, entry_en Try.func79 (code := Try.f79.body.getD .skip) (by kernel_rfl) (by kernel_rfl),
  fun db => entry_ok tab_ok (es := impl_IsValidDatabase_es N) (by kernel_rfl) mixed Try.func79 (by kernel_rfl) rfl (un1_pk .bool) (by rw [impl_IsValidDatabase_v, impl_IsValidDatabase_l0_q]; rfl)⟩
noncomputable def impl_IsValidConstraint_es (N : Nat) : List (Entry Try.prog) := [impl_IsValidDatabase_e N, impl_within_e N]
def impl_IsValidConstraint_sg : Sig := ⟨[.val ty9, .val ty10], [(.bool, true)], false⟩
def impl_IsValidConstraint_an : Nat → Option (List Nat) := fun _ => none
theorem impl_IsValidConstraint_v (N : Nat) (db : List (ByteArray × Int × Int) × List (Int × List Int)) (constraint : Int × Int × Int × Int × Int × Int × Int) :
    evFn Tb (sigL (impl_IsValidConstraint_es N)) cps (orcL (impl_IsValidConstraint_es N)) (drawReg Tb (sigL (impl_IsValidConstraint_es N)) cps (orcL (impl_IsValidConstraint_es N))) N impl_IsValidConstraint_an impl_IsValidConstraint_sg Try.f198 (Try.f198.body.getD .skip) [.val ty9 db, .val ty10 constraint] (un1 .bool) = impl_IsValidConstraint N db constraint := by kernel_rfl
noncomputable def impl_IsValidConstraint_e (N : Nat) : Entry Try.prog := ⟨198, impl_IsValidConstraint_sg, [.v ty9, .v ty10], Bool, impl_IsValidConstraint N, pk1 .bool, entry_en Try.func198 (code := Try.f198.body.getD .skip) (by kernel_rfl) (by kernel_rfl),
  fun db constraint => entry_ok tab_ok (es := impl_IsValidConstraint_es N) (by kernel_rfl) mixed Try.func198 (by kernel_rfl) rfl (un1_pk .bool) (impl_IsValidConstraint_v N db constraint)⟩
noncomputable def impl_violates_es (N : Nat) : List (Entry Try.prog) := []
def impl_violates_sg : Sig := ⟨[.val ty10, .val ty3, .val ty3], [(.bool, true)], false⟩
def impl_violates_an : Nat → Option (List Nat) := fun _ => none
theorem impl_violates_v (N : Nat) (c : Int × Int × Int × Int × Int × Int × Int) (a : Int × List Int) (b : Int × List Int) :
    evFn Tb (sigL (impl_violates_es N)) cps (orcL (impl_violates_es N)) (drawReg Tb (sigL (impl_violates_es N)) cps (orcL (impl_violates_es N))) N impl_violates_an impl_violates_sg Try.f199 (Try.f199.body.getD .skip) [.val ty10 c, .val ty3 a, .val ty3 b] (un1 .bool) = impl_violates N c a b := by kernel_rfl
noncomputable def impl_violates_e (N : Nat) : Entry Try.prog := ⟨199, impl_violates_sg, [.v ty10, .v ty3, .v ty3], Bool, impl_violates N, pk1 .bool, entry_en Try.func199 (code := Try.f199.body.getD .skip) (by kernel_rfl) (by kernel_rfl),
  fun c a b => entry_ok tab_ok (es := impl_violates_es N) (by kernel_rfl) mixed Try.func199 (by kernel_rfl) rfl (un1_pk .bool) (impl_violates_v N c a b)⟩
noncomputable def impl_ViolatesConstraint_es (N : Nat) : List (Entry Try.prog) := [impl_IsValidConstraint_e N, impl_within_e N, impl_violates_e N]
def impl_ViolatesConstraint_sg : Sig := ⟨[.val ty9, .val ty10, .val i64, .val i64], [(.bool, true)], false⟩
def impl_ViolatesConstraint_an : Nat → Option (List Nat) := fun _ => none
theorem impl_ViolatesConstraint_v (N : Nat) (db : List (ByteArray × Int × Int) × List (Int × List Int)) (constraint : Int × Int × Int × Int × Int × Int × Int) (first : Int) (second : Int) :
    evFn Tb (sigL (impl_ViolatesConstraint_es N)) cps (orcL (impl_ViolatesConstraint_es N)) (drawReg Tb (sigL (impl_ViolatesConstraint_es N)) cps (orcL (impl_ViolatesConstraint_es N))) N impl_ViolatesConstraint_an impl_ViolatesConstraint_sg Try.f172 (Try.f172.body.getD .skip) [.val ty9 db, .val ty10 constraint, .val i64 first, .val i64 second] (un1 .bool) = impl_ViolatesConstraint N db constraint first second := by kernel_rfl
noncomputable def impl_ViolatesConstraint_e (N : Nat) : Entry Try.prog := ⟨172, impl_ViolatesConstraint_sg, [.v ty9, .v ty10, .v i64, .v i64], Bool, impl_ViolatesConstraint N, pk1 .bool, entry_en Try.func172 (code := Try.f172.body.getD .skip) (by kernel_rfl) (by kernel_rfl),
  fun db constraint first second => entry_ok tab_ok (es := impl_ViolatesConstraint_es N) (by kernel_rfl) mixed Try.func172 (by kernel_rfl) rfl (un1_pk .bool) (impl_ViolatesConstraint_v N db constraint first second)⟩
noncomputable def slices_Equal_Lint_int_es (N : Nat) : List (Entry Try.prog) := []
def slices_Equal_Lint_int_sg : Sig := ⟨[.val ty2, .val ty2], [(.bool, true)], false⟩
def slices_Equal_Lint_int_an : Nat → Option (List Nat)
  | 0 => some [0, 1, 12, 13]
  | _ => none
noncomputable def slices_Equal_Lint_int_lp (N : Nat) (p : List Dir) (rs : List (Env → Option (Bool))) (k : Nat) (env : Env) : Option (Bool) :=
  loopAt Tb (sigL (slices_Equal_Lint_int_es N)) cps (orcL (slices_Equal_Lint_int_es N)) N slices_Equal_Lint_int_an p (Try.f196.body.getD .skip) (endK Tb slices_Equal_Lint_int_sg Try.f196 [] (un1 .bool)) rs k env
noncomputable def slices_Equal_Lint_int_l0_E (N : Nat) (k_ : Nat) (s12 : List Int) (s22 : List Int) (t12 : Int) (t13 : Int) : Option (Bool) :=
  slices_Equal_Lint_int_lp N [.r, .r, .l, .r, .b] [] k_ (.con .val [lf ty2 s12 .ro] :: (.con .val [lf ty2 s22 .ro] :: (un 10 (.con .val [lf i64 t12 .ro] :: (.con .val [lf i64 t13 .ro] :: (un 12 []))))))
theorem slices_Equal_Lint_int_l0_z (N : Nat) (s12 : List Int) (s22 : List Int) (t12 : Int) (t13 : Int) : slices_Equal_Lint_int_l0_E N 0 s12 s22 t12 t13 = none := by kernel_rfl
theorem slices_Equal_Lint_int_l0_s (N : Nat) (k_ : Nat) (s12 : List Int) (s22 : List Int) (t12 : Int) (t13 : Int) : slices_Equal_Lint_int_l0_E N (k_ + 1) s12 s22 t12 t13 = slices_Equal_Lint_int_l0_b N (slices_Equal_Lint_int_l0_E N k_) s12 s22 t12 t13 := by kernel_rfl
theorem slices_Equal_Lint_int_l0_q (N : Nat) : ∀ k_, slices_Equal_Lint_int_l0_E N k_ = slices_Equal_Lint_int_l0 N k_
  | 0 => by funext s12 s22 t12 t13; exact slices_Equal_Lint_int_l0_z N s12 s22 t12 t13
  | k_ + 1 => by funext s12 s22 t12 t13; rw [slices_Equal_Lint_int_l0_s]; simp only [slices_Equal_Lint_int_l0_q N k_]; rfl
theorem slices_Equal_Lint_int_v (N : Nat) (s1 : List Int) (s2 : List Int) :
    evFn Tb (sigL (slices_Equal_Lint_int_es N)) cps (orcL (slices_Equal_Lint_int_es N)) (drawReg Tb (sigL (slices_Equal_Lint_int_es N)) cps (orcL (slices_Equal_Lint_int_es N))) N slices_Equal_Lint_int_an slices_Equal_Lint_int_sg Try.f196 (Try.f196.body.getD .skip) [.val ty2 s1, .val ty2 s2] (un1 .bool) = slices_Equal_Lint_int_b N (slices_Equal_Lint_int_l0_E N N) s1 s2 := by kernel_rfl
noncomputable def slices_Equal_Lint_int_e (N : Nat) : Entry Try.prog := ⟨196, slices_Equal_Lint_int_sg, [.v ty2, .v ty2], Bool, slices_Equal_Lint_int N, pk1 .bool, entry_en Try.func196 (code := Try.f196.body.getD .skip) (by kernel_rfl) (by kernel_rfl),
  fun s1 s2 => entry_ok tab_ok (es := slices_Equal_Lint_int_es N) (by kernel_rfl) mixed Try.func196 (by kernel_rfl) rfl (un1_pk .bool) (by rw [slices_Equal_Lint_int_v, slices_Equal_Lint_int_l0_q]; rfl)⟩
noncomputable def impl_sameKey_es (N : Nat) : List (Entry Try.prog) := [slices_Equal_Lint_int_e N]
def impl_sameKey_sg : Sig := ⟨[.val ty7, .val ty3, .val ty3], [(.bool, true)], false⟩
def impl_sameKey_an : Nat → Option (List Nat) := fun _ => none
theorem impl_sameKey_v (N : Nat) (relations : List (ByteArray × Int × Int)) (a : Int × List Int) (b : Int × List Int) :
    evFn Tb (sigL (impl_sameKey_es N)) cps (orcL (impl_sameKey_es N)) (drawReg Tb (sigL (impl_sameKey_es N)) cps (orcL (impl_sameKey_es N))) N impl_sameKey_an impl_sameKey_sg Try.f162 (Try.f162.body.getD .skip) [.val ty7 relations, .val ty3 a, .val ty3 b] (un1 .bool) = impl_sameKey N relations a b := by kernel_rfl
noncomputable def impl_sameKey_e (N : Nat) : Entry Try.prog := ⟨162, impl_sameKey_sg, [.v ty7, .v ty3, .v ty3], Bool, impl_sameKey N, pk1 .bool, entry_en Try.func162 (code := Try.f162.body.getD .skip) (by kernel_rfl) (by kernel_rfl),
  fun relations a b => entry_ok tab_ok (es := impl_sameKey_es N) (by kernel_rfl) mixed Try.func162 (by kernel_rfl) rfl (un1_pk .bool) (impl_sameKey_v N relations a b)⟩
noncomputable def impl_ConflictEdges_c1_es (N : Nat) : List (Entry Try.prog) := [impl_ViolatesConstraint_e N, impl_sameKey_e N]
def impl_ConflictEdges_c1_sg : Sig := ⟨[.val i64, .val i64, .ptr ty11, .ptr ty9], [(.bool, true)], false⟩
def impl_ConflictEdges_c1_an : Nat → Option (List Nat)
  | 0 => some [0, 1, 3, 9, 10, 11]
  | _ => none
noncomputable def impl_ConflictEdges_c1_lp (N : Nat) (p : List Dir) (rs : List (Env → Option (Bool))) (k : Nat) (env : Env) : Option (Bool) :=
  loopAt Tb (sigL (impl_ConflictEdges_c1_es N)) cps (orcL (impl_ConflictEdges_c1_es N)) N impl_ConflictEdges_c1_an p (Try.f171.body.getD .skip) (endK Tb impl_ConflictEdges_c1_sg Try.f171 [] (un1 .bool)) rs k env
noncomputable def impl_ConflictEdges_c1_l0_E (N : Nat) (k_ : Nat) (a2 : Int) (b2 : Int) (t3 : List (ByteArray × Int × Int)) (t32 : List (Int × List Int)) (t9 : List (Int × Int × Int × Int × Int × Int × Int)) (t10 : Int) (t11 : Int) : Option (Bool) :=
  impl_ConflictEdges_c1_lp N [.r, .l, .r, .b] [] k_ (.con .val [lf i64 a2 .ro] :: (.con .val [lf i64 b2 .ro] :: (un 1 (.eptr [lf ty7 t3 .ro, lf ty8 t32 .ro] none :: (un 5 (.con .val [lf ty11 t9 .ro] :: (.con .val [lf i64 t10 .ro] :: (.con .val [lf i64 t11 .ro] :: (un 29 [])))))))))
theorem impl_ConflictEdges_c1_l0_z (N : Nat) (a2 : Int) (b2 : Int) (t3 : List (ByteArray × Int × Int)) (t32 : List (Int × List Int)) (t9 : List (Int × Int × Int × Int × Int × Int × Int)) (t10 : Int) (t11 : Int) : impl_ConflictEdges_c1_l0_E N 0 a2 b2 t3 t32 t9 t10 t11 = none := by kernel_rfl
theorem impl_ConflictEdges_c1_l0_s (N : Nat) (k_ : Nat) (a2 : Int) (b2 : Int) (t3 : List (ByteArray × Int × Int)) (t32 : List (Int × List Int)) (t9 : List (Int × Int × Int × Int × Int × Int × Int)) (t10 : Int) (t11 : Int) : impl_ConflictEdges_c1_l0_E N (k_ + 1) a2 b2 t3 t32 t9 t10 t11 = impl_ConflictEdges_c1_l0_b N (impl_ConflictEdges_c1_l0_E N k_) a2 b2 t3 t32 t9 t10 t11 := by kernel_rfl
theorem impl_ConflictEdges_c1_l0_q (N : Nat) : ∀ k_, impl_ConflictEdges_c1_l0_E N k_ = impl_ConflictEdges_c1_l0 N k_
  | 0 => by funext a2 b2 t3 t32 t9 t10 t11; exact impl_ConflictEdges_c1_l0_z N a2 b2 t3 t32 t9 t10 t11
  | k_ + 1 => by funext a2 b2 t3 t32 t9 t10 t11; rw [impl_ConflictEdges_c1_l0_s]; simp only [impl_ConflictEdges_c1_l0_q N k_]; rfl
theorem impl_ConflictEdges_c1_v (N : Nat) (a : Int) (b : Int) (c2 : List (Int × Int × Int × Int × Int × Int × Int)) (c3 : List (ByteArray × Int × Int) × List (Int × List Int)) :
    evFn Tb (sigL (impl_ConflictEdges_c1_es N)) cps (orcL (impl_ConflictEdges_c1_es N)) (drawReg Tb (sigL (impl_ConflictEdges_c1_es N)) cps (orcL (impl_ConflictEdges_c1_es N))) N impl_ConflictEdges_c1_an impl_ConflictEdges_c1_sg Try.f171 (Try.f171.body.getD .skip) [.val i64 a, .val i64 b, .ptr ty11 c2, .ptr ty9 c3] (un1 .bool) = impl_ConflictEdges_c1_b N (impl_ConflictEdges_c1_l0_E N N) a b c2 c3 := by kernel_rfl
noncomputable def impl_ConflictEdges_c1_e (N : Nat) : Entry Try.prog := ⟨171, impl_ConflictEdges_c1_sg, [.v i64, .v i64, .p ty11, .p ty9], Bool, impl_ConflictEdges_c1 N, pk1 .bool, entry_en Try.func171 (code := Try.f171.body.getD .skip) (by kernel_rfl) (by kernel_rfl),
  fun a b c2 c3 => entry_ok tab_ok (es := impl_ConflictEdges_c1_es N) (by kernel_rfl) mixed Try.func171 (by kernel_rfl) rfl (un1_pk .bool) (by rw [impl_ConflictEdges_c1_v, impl_ConflictEdges_c1_l0_q]; rfl)⟩
noncomputable def impl_pairs_ConflictEdges_c1_es (N : Nat) : List (Entry Try.prog) := [impl_ConflictEdges_c1_e N]
def impl_pairs_ConflictEdges_c1_sg : Sig := ⟨[.val i64, .clo], [(ty12, true)], false⟩
def impl_pairs_ConflictEdges_c1_an : Nat → Option (List Nat)
  | 0 => some [0, 1, 5, 9, 10]
  | 2 => some [0, 1, 5, 6, 7, 9, 10]
  | _ => none
noncomputable def impl_pairs_ConflictEdges_c1_lp (N : Nat) (p : List Dir) (rs : List (Env → Option (List (Int × Int)))) (k : Nat) (env : Env) : Option (List (Int × Int)) :=
  loopAt Tb (sigL (impl_pairs_ConflictEdges_c1_es N)) cps (orcL (impl_pairs_ConflictEdges_c1_es N)) N impl_pairs_ConflictEdges_c1_an p (Try.f170.body.getD .skip) (endK Tb impl_pairs_ConflictEdges_c1_sg Try.f170 [] (un1 ty12)) rs k env
noncomputable def impl_pairs_ConflictEdges_c1_l1_E (N : Nat) (k0_ : Nat) (k_ : Nat) (n3 : Int) (holds3 : List (Int × Int × Int × Int × Int × Int × Int)) (holds4 : List (ByteArray × Int × Int) × List (Int × List Int)) (out2 : List (Int × Int)) (a : Int) (b : Int) (t92 : Int) (t102 : Int) : Option (List (Int × Int)) :=
  impl_pairs_ConflictEdges_c1_lp N [.r, .r, .l, .r, .b, .b, .r, .r, .l, .b, .r, .r, .b] [impl_pairs_ConflictEdges_c1_lp N [.r, .r, .l, .r, .b] [] k0_] k_ (.con .val [lf i64 n3 .ro] :: (.cloR 171 [⟨ty11, holds3⟩, ⟨ty9, holds4⟩] :: (un 3 (.con .val [lf ty12 out2 .dp] :: (.con .val [lf i64 a .ro] :: (.con .val [lf i64 b .ro] :: (un 1 (.con .val [lf i64 t92 .ro] :: (.con .val [lf i64 t102 .ro] :: (un 21 []))))))))))
noncomputable def impl_pairs_ConflictEdges_c1_l0_E (N : Nat) (k_ : Nat) (n2 : Int) (holds : List (Int × Int × Int × Int × Int × Int × Int)) (holds2 : List (ByteArray × Int × Int) × List (Int × List Int)) (out : List (Int × Int)) (t9 : Int) (t10 : Int) : Option (List (Int × Int)) :=
  impl_pairs_ConflictEdges_c1_lp N [.r, .r, .l, .r, .b] [] k_ (.con .val [lf i64 n2 .ro] :: (.cloR 171 [⟨ty11, holds⟩, ⟨ty9, holds2⟩] :: (un 3 (.con .val [lf ty12 out .dp] :: (un 3 (.con .val [lf i64 t9 .ro] :: (.con .val [lf i64 t10 .ro] :: (un 21 []))))))))
theorem impl_pairs_ConflictEdges_c1_l1_z (N : Nat) (k0_ : Nat) (n3 : Int) (holds3 : List (Int × Int × Int × Int × Int × Int × Int)) (holds4 : List (ByteArray × Int × Int) × List (Int × List Int)) (out2 : List (Int × Int)) (a : Int) (b : Int) (t92 : Int) (t102 : Int) : impl_pairs_ConflictEdges_c1_l1_E N k0_ 0 n3 holds3 holds4 out2 a b t92 t102 = none := by kernel_rfl
theorem impl_pairs_ConflictEdges_c1_l1_s (N : Nat) (k0_ : Nat) (k_ : Nat) (n3 : Int) (holds3 : List (Int × Int × Int × Int × Int × Int × Int)) (holds4 : List (ByteArray × Int × Int) × List (Int × List Int)) (out2 : List (Int × Int)) (a : Int) (b : Int) (t92 : Int) (t102 : Int) : impl_pairs_ConflictEdges_c1_l1_E N k0_ (k_ + 1) n3 holds3 holds4 out2 a b t92 t102 = impl_pairs_ConflictEdges_c1_l1_b N (impl_pairs_ConflictEdges_c1_l0_E N k0_) (impl_pairs_ConflictEdges_c1_l1_E N k0_ k_) n3 holds3 holds4 out2 a b t92 t102 := by kernel_rfl
theorem impl_pairs_ConflictEdges_c1_l0_z (N : Nat) (n2 : Int) (holds : List (Int × Int × Int × Int × Int × Int × Int)) (holds2 : List (ByteArray × Int × Int) × List (Int × List Int)) (out : List (Int × Int)) (t9 : Int) (t10 : Int) : impl_pairs_ConflictEdges_c1_l0_E N 0 n2 holds holds2 out t9 t10 = none := by kernel_rfl
theorem impl_pairs_ConflictEdges_c1_l0_s (N : Nat) (k_ : Nat) (n2 : Int) (holds : List (Int × Int × Int × Int × Int × Int × Int)) (holds2 : List (ByteArray × Int × Int) × List (Int × List Int)) (out : List (Int × Int)) (t9 : Int) (t10 : Int) : impl_pairs_ConflictEdges_c1_l0_E N (k_ + 1) n2 holds holds2 out t9 t10 = impl_pairs_ConflictEdges_c1_l0_b N (impl_pairs_ConflictEdges_c1_l1_E N k_ N) (impl_pairs_ConflictEdges_c1_l0_E N k_) n2 holds holds2 out t9 t10 := by kernel_rfl
theorem impl_pairs_ConflictEdges_c1_l1_q (N : Nat) (k0_ : Nat) : ∀ k_, impl_pairs_ConflictEdges_c1_l1_E N k0_ k_ = impl_pairs_ConflictEdges_c1_l1 (impl_pairs_ConflictEdges_c1_l0_E N k0_) N k_
  | 0 => by funext n3 holds3 holds4 out2 a b t92 t102; exact impl_pairs_ConflictEdges_c1_l1_z N k0_ n3 holds3 holds4 out2 a b t92 t102
  | k_ + 1 => by funext n3 holds3 holds4 out2 a b t92 t102; rw [impl_pairs_ConflictEdges_c1_l1_s]; simp only [impl_pairs_ConflictEdges_c1_l1_q N k0_ k_]; rfl
theorem impl_pairs_ConflictEdges_c1_l0_q (N : Nat) : ∀ k_, impl_pairs_ConflictEdges_c1_l0_E N k_ = impl_pairs_ConflictEdges_c1_l0 N k_
  | 0 => by funext n2 holds holds2 out t9 t10; exact impl_pairs_ConflictEdges_c1_l0_z N n2 holds holds2 out t9 t10
  | k_ + 1 => by funext n2 holds holds2 out t9 t10; rw [impl_pairs_ConflictEdges_c1_l0_s]; simp only [impl_pairs_ConflictEdges_c1_l1_q, impl_pairs_ConflictEdges_c1_l0_q N k_]; rfl
theorem impl_pairs_ConflictEdges_c1_v (N : Nat) (n : Int) (c : List (Int × Int × Int × Int × Int × Int × Int)) (c2 : List (ByteArray × Int × Int) × List (Int × List Int)) :
    evFn Tb (sigL (impl_pairs_ConflictEdges_c1_es N)) cps (orcL (impl_pairs_ConflictEdges_c1_es N)) (drawReg Tb (sigL (impl_pairs_ConflictEdges_c1_es N)) cps (orcL (impl_pairs_ConflictEdges_c1_es N))) N impl_pairs_ConflictEdges_c1_an impl_pairs_ConflictEdges_c1_sg Try.f170 (Try.f170.body.getD .skip) [.val i64 n, .clo 171 [⟨ty11, c⟩, ⟨ty9, c2⟩]] (un1 ty12) = impl_pairs_ConflictEdges_c1_b N (impl_pairs_ConflictEdges_c1_l0_E N N) n c c2 := by kernel_rfl
noncomputable def impl_pairs_ConflictEdges_c1_e (N : Nat) : Entry Try.prog := ⟨170, impl_pairs_ConflictEdges_c1_sg, [.v i64, .c 171 [ty11, ty9]], List (Int × Int), impl_pairs_ConflictEdges_c1 N, pk1 ty12, entry_en Try.func170 (code := Try.f170.body.getD .skip) (by kernel_rfl) (by kernel_rfl),
  fun n c c2 => entry_ok tab_ok (es := impl_pairs_ConflictEdges_c1_es N) (by kernel_rfl) mixed Try.func170 (by kernel_rfl) rfl (un1_pk ty12) (by rw [impl_pairs_ConflictEdges_c1_v, impl_pairs_ConflictEdges_c1_l0_q]; rfl)⟩
noncomputable def impl_ConflictEdges_es (N : Nat) : List (Entry Try.prog) := [impl_IsValidDatabase_e N, impl_pairs_ConflictEdges_c1_e N]
def impl_ConflictEdges_sg : Sig := ⟨[.val ty9, .val ty11], [(ty12, true)], false⟩
def impl_ConflictEdges_an : Nat → Option (List Nat) := fun _ => none
theorem impl_ConflictEdges_v (N : Nat) (db : List (ByteArray × Int × Int) × List (Int × List Int)) (constraints : List (Int × Int × Int × Int × Int × Int × Int)) :
    evFn Tb (sigL (impl_ConflictEdges_es N)) cps (orcL (impl_ConflictEdges_es N)) (drawReg Tb (sigL (impl_ConflictEdges_es N)) cps (orcL (impl_ConflictEdges_es N))) N impl_ConflictEdges_an impl_ConflictEdges_sg Try.f127 (Try.f127.body.getD .skip) [.val ty9 db, .val ty11 constraints] (un1 ty12) = impl_ConflictEdges N db constraints := by kernel_rfl
noncomputable def impl_ConflictEdges_e (N : Nat) : Entry Try.prog := ⟨127, impl_ConflictEdges_sg, [.v ty9, .v ty11], List (Int × Int), impl_ConflictEdges N, pk1 ty12, entry_en Try.func127 (code := Try.f127.body.getD .skip) (by kernel_rfl) (by kernel_rfl),
  fun db constraints => entry_ok tab_ok (es := impl_ConflictEdges_es N) (by kernel_rfl) mixed Try.func127 (by kernel_rfl) rfl (un1_pk ty12) (impl_ConflictEdges_v N db constraints)⟩
noncomputable def impl_NewestFirst_es (N : Nat) : List (Entry Try.prog) := [impl_ConflictEdges_e N]
def impl_NewestFirst_sg : Sig := ⟨[.val ty9, .val ty11], [(ty12, true)], false⟩
def impl_NewestFirst_an : Nat → Option (List Nat)
  | 0 => some [5, 11, 12, 13]
  | _ => none
noncomputable def impl_NewestFirst_lp (N : Nat) (p : List Dir) (rs : List (Env → Option (List (Int × Int)))) (k : Nat) (env : Env) : Option (List (Int × Int)) :=
  loopAt Tb (sigL (impl_NewestFirst_es N)) cps (orcL (impl_NewestFirst_es N)) N impl_NewestFirst_an p (Try.f56.body.getD .skip) (endK Tb impl_NewestFirst_sg Try.f56 [] (un1 ty12)) rs k env
noncomputable def impl_NewestFirst_l0_E (N : Nat) (k_ : Nat) (out : List (Int × Int)) (t11 : List (Int × Int)) (t12 : Int) (t13 : Int) : Option (List (Int × Int)) :=
  impl_NewestFirst_lp N [.r, .r, .l, .r, .b] [] k_ (un 5 (.con .val [lf ty12 out .dp] :: (un 5 (.con .val [lf ty12 t11 .dp] :: (.con .val [lf i64 t12 .ro] :: (.con .val [lf i64 t13 .ro] :: (un 13 [])))))))
theorem impl_NewestFirst_l0_z (N : Nat) (out : List (Int × Int)) (t11 : List (Int × Int)) (t12 : Int) (t13 : Int) : impl_NewestFirst_l0_E N 0 out t11 t12 t13 = none := by kernel_rfl
theorem impl_NewestFirst_l0_s (N : Nat) (k_ : Nat) (out : List (Int × Int)) (t11 : List (Int × Int)) (t12 : Int) (t13 : Int) : impl_NewestFirst_l0_E N (k_ + 1) out t11 t12 t13 = impl_NewestFirst_l0_b N (impl_NewestFirst_l0_E N k_) out t11 t12 t13 := by kernel_rfl
theorem impl_NewestFirst_l0_q (N : Nat) : ∀ k_, impl_NewestFirst_l0_E N k_ = impl_NewestFirst_l0 N k_
  | 0 => by funext out t11 t12 t13; exact impl_NewestFirst_l0_z N out t11 t12 t13
  | k_ + 1 => by funext out t11 t12 t13; rw [impl_NewestFirst_l0_s]; simp only [impl_NewestFirst_l0_q N k_]; rfl
theorem impl_NewestFirst_v (N : Nat) (db : List (ByteArray × Int × Int) × List (Int × List Int)) (constraints : List (Int × Int × Int × Int × Int × Int × Int)) :
    evFn Tb (sigL (impl_NewestFirst_es N)) cps (orcL (impl_NewestFirst_es N)) (drawReg Tb (sigL (impl_NewestFirst_es N)) cps (orcL (impl_NewestFirst_es N))) N impl_NewestFirst_an impl_NewestFirst_sg Try.f56 (Try.f56.body.getD .skip) [.val ty9 db, .val ty11 constraints] (un1 ty12) = impl_NewestFirst_b N (impl_NewestFirst_l0_E N N) db constraints := by kernel_rfl
noncomputable def impl_NewestFirst_e (N : Nat) : Entry Try.prog := ⟨56, impl_NewestFirst_sg, [.v ty9, .v ty11], List (Int × Int), impl_NewestFirst N, pk1 ty12, entry_en Try.func56 (code := Try.f56.body.getD .skip) (by kernel_rfl) (by kernel_rfl),
  fun db constraints => entry_ok tab_ok (es := impl_NewestFirst_es N) (by kernel_rfl) mixed Try.func56 (by kernel_rfl) rfl (un1_pk ty12) (by rw [impl_NewestFirst_v, impl_NewestFirst_l0_q]; rfl)⟩
noncomputable def laws_eqConflictEdge_es (N : Nat) : List (Entry Try.prog) := []
def laws_eqConflictEdge_sg : Sig := ⟨[.val ty13, .val ty13], [(.bool, true)], false⟩
def laws_eqConflictEdge_an : Nat → Option (List Nat) := fun _ => none
theorem laws_eqConflictEdge_v (N : Nat) (a : Int × Int) (b : Int × Int) :
    evFn Tb (sigL (laws_eqConflictEdge_es N)) cps (orcL (laws_eqConflictEdge_es N)) (drawReg Tb (sigL (laws_eqConflictEdge_es N)) cps (orcL (laws_eqConflictEdge_es N))) N laws_eqConflictEdge_an laws_eqConflictEdge_sg Try.f128 (Try.f128.body.getD .skip) [.val ty13 a, .val ty13 b] (un1 .bool) = laws_eqConflictEdge N a b := by kernel_rfl
noncomputable def laws_eqConflictEdge_e (N : Nat) : Entry Try.prog := ⟨128, laws_eqConflictEdge_sg, [.v ty13, .v ty13], Bool, laws_eqConflictEdge N, pk1 .bool, entry_en Try.func128 (code := Try.f128.body.getD .skip) (by kernel_rfl) (by kernel_rfl),
  fun a b => entry_ok tab_ok (es := laws_eqConflictEdge_es N) (by kernel_rfl) mixed Try.func128 (by kernel_rfl) rfl (un1_pk .bool) (laws_eqConflictEdge_v N a b)⟩
noncomputable def laws_eqConflictEdgeS_es (N : Nat) : List (Entry Try.prog) := [laws_eqConflictEdge_e N]
def laws_eqConflictEdgeS_sg : Sig := ⟨[.val ty12, .val ty12], [(.bool, true)], false⟩
def laws_eqConflictEdgeS_an : Nat → Option (List Nat)
  | 0 => some [0, 1, 5]
  | _ => none
noncomputable def laws_eqConflictEdgeS_lp (N : Nat) (p : List Dir) (rs : List (Env → Option (Bool))) (k : Nat) (env : Env) : Option (Bool) :=
  loopAt Tb (sigL (laws_eqConflictEdgeS_es N)) cps (orcL (laws_eqConflictEdgeS_es N)) N laws_eqConflictEdgeS_an p (Try.f57.body.getD .skip) (endK Tb laws_eqConflictEdgeS_sg Try.f57 [] (un1 .bool)) rs k env
noncomputable def laws_eqConflictEdgeS_l0_E (N : Nat) (k_ : Nat) (a2 : List (Int × Int)) (b2 : List (Int × Int)) (i : Int) : Option (Bool) :=
  laws_eqConflictEdgeS_lp N [.r, .r, .l, .r, .b] [] k_ (.con .val [lf ty12 a2 .ro] :: (.con .val [lf ty12 b2 .ro] :: (un 3 (.con .val [lf i64 i .ro] :: (un 21 [])))))
theorem laws_eqConflictEdgeS_l0_z (N : Nat) (a2 : List (Int × Int)) (b2 : List (Int × Int)) (i : Int) : laws_eqConflictEdgeS_l0_E N 0 a2 b2 i = none := by kernel_rfl
theorem laws_eqConflictEdgeS_l0_s (N : Nat) (k_ : Nat) (a2 : List (Int × Int)) (b2 : List (Int × Int)) (i : Int) : laws_eqConflictEdgeS_l0_E N (k_ + 1) a2 b2 i = laws_eqConflictEdgeS_l0_b N (laws_eqConflictEdgeS_l0_E N k_) a2 b2 i := by kernel_rfl
theorem laws_eqConflictEdgeS_l0_q (N : Nat) : ∀ k_, laws_eqConflictEdgeS_l0_E N k_ = laws_eqConflictEdgeS_l0 N k_
  | 0 => by funext a2 b2 i; exact laws_eqConflictEdgeS_l0_z N a2 b2 i
  | k_ + 1 => by funext a2 b2 i; rw [laws_eqConflictEdgeS_l0_s]; simp only [laws_eqConflictEdgeS_l0_q N k_]; rfl
theorem laws_eqConflictEdgeS_v (N : Nat) (a : List (Int × Int)) (b : List (Int × Int)) :
    evFn Tb (sigL (laws_eqConflictEdgeS_es N)) cps (orcL (laws_eqConflictEdgeS_es N)) (drawReg Tb (sigL (laws_eqConflictEdgeS_es N)) cps (orcL (laws_eqConflictEdgeS_es N))) N laws_eqConflictEdgeS_an laws_eqConflictEdgeS_sg Try.f57 (Try.f57.body.getD .skip) [.val ty12 a, .val ty12 b] (un1 .bool) = laws_eqConflictEdgeS_b N (laws_eqConflictEdgeS_l0_E N N) a b := by kernel_rfl
noncomputable def laws_eqConflictEdgeS_e (N : Nat) : Entry Try.prog := ⟨57, laws_eqConflictEdgeS_sg, [.v ty12, .v ty12], Bool, laws_eqConflictEdgeS N, pk1 .bool, entry_en Try.func57 (code := Try.f57.body.getD .skip) (by kernel_rfl) (by kernel_rfl),
  fun a b => entry_ok tab_ok (es := laws_eqConflictEdgeS_es N) (by kernel_rfl) mixed Try.func57 (by kernel_rfl) rfl (un1_pk .bool) (by rw [laws_eqConflictEdgeS_v, laws_eqConflictEdgeS_l0_q]; rfl)⟩
noncomputable def laws_eqRelation_es (N : Nat) : List (Entry Try.prog) := []
def laws_eqRelation_sg : Sig := ⟨[.val ty0, .val ty0], [(.bool, true)], false⟩
def laws_eqRelation_an : Nat → Option (List Nat) := fun _ => none
theorem laws_eqRelation_v (N : Nat) (a : ByteArray × Int × Int) (b : ByteArray × Int × Int) :
    evFn Tb (sigL (laws_eqRelation_es N)) cps (orcL (laws_eqRelation_es N)) (drawReg Tb (sigL (laws_eqRelation_es N)) cps (orcL (laws_eqRelation_es N))) N laws_eqRelation_an laws_eqRelation_sg Try.f163 (Try.f163.body.getD .skip) [.val ty0 a, .val ty0 b] (un1 .bool) = laws_eqRelation N a b := by kernel_rfl
noncomputable def laws_eqRelation_e (N : Nat) : Entry Try.prog := ⟨163, laws_eqRelation_sg, [.v ty0, .v ty0], Bool, laws_eqRelation N, pk1 .bool, entry_en Try.func163 (code := Try.f163.body.getD .skip) (by kernel_rfl) (by kernel_rfl),
  fun a b => entry_ok tab_ok (es := laws_eqRelation_es N) (by kernel_rfl) mixed Try.func163 (by kernel_rfl) rfl (un1_pk .bool) (laws_eqRelation_v N a b)⟩
noncomputable def laws_eqRelationS_es (N : Nat) : List (Entry Try.prog) := [laws_eqRelation_e N]
def laws_eqRelationS_sg : Sig := ⟨[.val ty7, .val ty7], [(.bool, true)], false⟩
def laws_eqRelationS_an : Nat → Option (List Nat)
  | 0 => some [0, 1, 5]
  | _ => none
noncomputable def laws_eqRelationS_lp (N : Nat) (p : List Dir) (rs : List (Env → Option (Bool))) (k : Nat) (env : Env) : Option (Bool) :=
  loopAt Tb (sigL (laws_eqRelationS_es N)) cps (orcL (laws_eqRelationS_es N)) N laws_eqRelationS_an p (Try.f110.body.getD .skip) (endK Tb laws_eqRelationS_sg Try.f110 [] (un1 .bool)) rs k env
noncomputable def laws_eqRelationS_l0_E (N : Nat) (k_ : Nat) (a2 : List (ByteArray × Int × Int)) (b2 : List (ByteArray × Int × Int)) (i : Int) : Option (Bool) :=
  laws_eqRelationS_lp N [.r, .r, .l, .r, .b] [] k_ (.con .val [lf ty7 a2 .ro] :: (.con .val [lf ty7 b2 .ro] :: (un 3 (.con .val [lf i64 i .ro] :: (un 21 [])))))
theorem laws_eqRelationS_l0_z (N : Nat) (a2 : List (ByteArray × Int × Int)) (b2 : List (ByteArray × Int × Int)) (i : Int) : laws_eqRelationS_l0_E N 0 a2 b2 i = none := by kernel_rfl
theorem laws_eqRelationS_l0_s (N : Nat) (k_ : Nat) (a2 : List (ByteArray × Int × Int)) (b2 : List (ByteArray × Int × Int)) (i : Int) : laws_eqRelationS_l0_E N (k_ + 1) a2 b2 i = laws_eqRelationS_l0_b N (laws_eqRelationS_l0_E N k_) a2 b2 i := by kernel_rfl
theorem laws_eqRelationS_l0_q (N : Nat) : ∀ k_, laws_eqRelationS_l0_E N k_ = laws_eqRelationS_l0 N k_
  | 0 => by funext a2 b2 i; exact laws_eqRelationS_l0_z N a2 b2 i
  | k_ + 1 => by funext a2 b2 i; rw [laws_eqRelationS_l0_s]; simp only [laws_eqRelationS_l0_q N k_]; rfl
theorem laws_eqRelationS_v (N : Nat) (a : List (ByteArray × Int × Int)) (b : List (ByteArray × Int × Int)) :
    evFn Tb (sigL (laws_eqRelationS_es N)) cps (orcL (laws_eqRelationS_es N)) (drawReg Tb (sigL (laws_eqRelationS_es N)) cps (orcL (laws_eqRelationS_es N))) N laws_eqRelationS_an laws_eqRelationS_sg Try.f110 (Try.f110.body.getD .skip) [.val ty7 a, .val ty7 b] (un1 .bool) = laws_eqRelationS_b N (laws_eqRelationS_l0_E N N) a b := by kernel_rfl
noncomputable def laws_eqRelationS_e (N : Nat) : Entry Try.prog := ⟨110, laws_eqRelationS_sg, [.v ty7, .v ty7], Bool, laws_eqRelationS N, pk1 .bool, entry_en Try.func110 (code := Try.f110.body.getD .skip) (by kernel_rfl) (by kernel_rfl),
  fun a b => entry_ok tab_ok (es := laws_eqRelationS_es N) (by kernel_rfl) mixed Try.func110 (by kernel_rfl) rfl (un1_pk .bool) (by rw [laws_eqRelationS_v, laws_eqRelationS_l0_q]; rfl)⟩
noncomputable def laws_eqIntS_es (N : Nat) : List (Entry Try.prog) := []
def laws_eqIntS_sg : Sig := ⟨[.val ty2, .val ty2], [(.bool, true)], false⟩
def laws_eqIntS_an : Nat → Option (List Nat)
  | 0 => some [0, 1, 5]
  | _ => none
noncomputable def laws_eqIntS_lp (N : Nat) (p : List Dir) (rs : List (Env → Option (Bool))) (k : Nat) (env : Env) : Option (Bool) :=
  loopAt Tb (sigL (laws_eqIntS_es N)) cps (orcL (laws_eqIntS_es N)) N laws_eqIntS_an p (Try.f38.body.getD .skip) (endK Tb laws_eqIntS_sg Try.f38 [] (un1 .bool)) rs k env
noncomputable def laws_eqIntS_l0_E (N : Nat) (k_ : Nat) (a2 : List Int) (b2 : List Int) (i : Int) : Option (Bool) :=
  laws_eqIntS_lp N [.r, .r, .l, .r, .b] [] k_ (.con .val [lf ty2 a2 .ro] :: (.con .val [lf ty2 b2 .ro] :: (un 3 (.con .val [lf i64 i .ro] :: (un 20 [])))))
theorem laws_eqIntS_l0_z (N : Nat) (a2 : List Int) (b2 : List Int) (i : Int) : laws_eqIntS_l0_E N 0 a2 b2 i = none := by kernel_rfl
theorem laws_eqIntS_l0_s (N : Nat) (k_ : Nat) (a2 : List Int) (b2 : List Int) (i : Int) : laws_eqIntS_l0_E N (k_ + 1) a2 b2 i = laws_eqIntS_l0_b N (laws_eqIntS_l0_E N k_) a2 b2 i := by kernel_rfl
theorem laws_eqIntS_l0_q (N : Nat) : ∀ k_, laws_eqIntS_l0_E N k_ = laws_eqIntS_l0 N k_
  | 0 => by funext a2 b2 i; exact laws_eqIntS_l0_z N a2 b2 i
  | k_ + 1 => by funext a2 b2 i; rw [laws_eqIntS_l0_s]; simp only [laws_eqIntS_l0_q N k_]; rfl
theorem laws_eqIntS_v (N : Nat) (a : List Int) (b : List Int) :
    evFn Tb (sigL (laws_eqIntS_es N)) cps (orcL (laws_eqIntS_es N)) (drawReg Tb (sigL (laws_eqIntS_es N)) cps (orcL (laws_eqIntS_es N))) N laws_eqIntS_an laws_eqIntS_sg Try.f38 (Try.f38.body.getD .skip) [.val ty2 a, .val ty2 b] (un1 .bool) = laws_eqIntS_b N (laws_eqIntS_l0_E N N) a b := by kernel_rfl
noncomputable def laws_eqIntS_e (N : Nat) : Entry Try.prog := ⟨38, laws_eqIntS_sg, [.v ty2, .v ty2], Bool, laws_eqIntS N, pk1 .bool, entry_en Try.func38 (code := Try.f38.body.getD .skip) (by kernel_rfl) (by kernel_rfl),
  fun a b => entry_ok tab_ok (es := laws_eqIntS_es N) (by kernel_rfl) mixed Try.func38 (by kernel_rfl) rfl (un1_pk .bool) (by rw [laws_eqIntS_v, laws_eqIntS_l0_q]; rfl)⟩
noncomputable def laws_eqFact_es (N : Nat) : List (Entry Try.prog) := [laws_eqIntS_e N]
def laws_eqFact_sg : Sig := ⟨[.val ty3, .val ty3], [(.bool, true)], false⟩
def laws_eqFact_an : Nat → Option (List Nat) := fun _ => none
theorem laws_eqFact_v (N : Nat) (a : Int × List Int) (b : Int × List Int) :
    evFn Tb (sigL (laws_eqFact_es N)) cps (orcL (laws_eqFact_es N)) (drawReg Tb (sigL (laws_eqFact_es N)) cps (orcL (laws_eqFact_es N))) N laws_eqFact_an laws_eqFact_sg Try.f164 (Try.f164.body.getD .skip) [.val ty3 a, .val ty3 b] (un1 .bool) = laws_eqFact N a b := by kernel_rfl
noncomputable def laws_eqFact_e (N : Nat) : Entry Try.prog := ⟨164, laws_eqFact_sg, [.v ty3, .v ty3], Bool, laws_eqFact N, pk1 .bool, entry_en Try.func164 (code := Try.f164.body.getD .skip) (by kernel_rfl) (by kernel_rfl),
  fun a b => entry_ok tab_ok (es := laws_eqFact_es N) (by kernel_rfl) mixed Try.func164 (by kernel_rfl) rfl (un1_pk .bool) (laws_eqFact_v N a b)⟩
noncomputable def laws_eqFactS_es (N : Nat) : List (Entry Try.prog) := [laws_eqFact_e N]
def laws_eqFactS_sg : Sig := ⟨[.val ty8, .val ty8], [(.bool, true)], false⟩
def laws_eqFactS_an : Nat → Option (List Nat)
  | 0 => some [0, 1, 5]
  | _ => none
noncomputable def laws_eqFactS_lp (N : Nat) (p : List Dir) (rs : List (Env → Option (Bool))) (k : Nat) (env : Env) : Option (Bool) :=
  loopAt Tb (sigL (laws_eqFactS_es N)) cps (orcL (laws_eqFactS_es N)) N laws_eqFactS_an p (Try.f111.body.getD .skip) (endK Tb laws_eqFactS_sg Try.f111 [] (un1 .bool)) rs k env
noncomputable def laws_eqFactS_l0_E (N : Nat) (k_ : Nat) (a2 : List (Int × List Int)) (b2 : List (Int × List Int)) (i : Int) : Option (Bool) :=
  laws_eqFactS_lp N [.r, .r, .l, .r, .b] [] k_ (.con .val [lf ty8 a2 .ro] :: (.con .val [lf ty8 b2 .ro] :: (un 3 (.con .val [lf i64 i .ro] :: (un 21 [])))))
theorem laws_eqFactS_l0_z (N : Nat) (a2 : List (Int × List Int)) (b2 : List (Int × List Int)) (i : Int) : laws_eqFactS_l0_E N 0 a2 b2 i = none := by kernel_rfl
theorem laws_eqFactS_l0_s (N : Nat) (k_ : Nat) (a2 : List (Int × List Int)) (b2 : List (Int × List Int)) (i : Int) : laws_eqFactS_l0_E N (k_ + 1) a2 b2 i = laws_eqFactS_l0_b N (laws_eqFactS_l0_E N k_) a2 b2 i := by kernel_rfl
theorem laws_eqFactS_l0_q (N : Nat) : ∀ k_, laws_eqFactS_l0_E N k_ = laws_eqFactS_l0 N k_
  | 0 => by funext a2 b2 i; exact laws_eqFactS_l0_z N a2 b2 i
  | k_ + 1 => by funext a2 b2 i; rw [laws_eqFactS_l0_s]; simp only [laws_eqFactS_l0_q N k_]; rfl
theorem laws_eqFactS_v (N : Nat) (a : List (Int × List Int)) (b : List (Int × List Int)) :
    evFn Tb (sigL (laws_eqFactS_es N)) cps (orcL (laws_eqFactS_es N)) (drawReg Tb (sigL (laws_eqFactS_es N)) cps (orcL (laws_eqFactS_es N))) N laws_eqFactS_an laws_eqFactS_sg Try.f111 (Try.f111.body.getD .skip) [.val ty8 a, .val ty8 b] (un1 .bool) = laws_eqFactS_b N (laws_eqFactS_l0_E N N) a b := by kernel_rfl
noncomputable def laws_eqFactS_e (N : Nat) : Entry Try.prog := ⟨111, laws_eqFactS_sg, [.v ty8, .v ty8], Bool, laws_eqFactS N, pk1 .bool, entry_en Try.func111 (code := Try.f111.body.getD .skip) (by kernel_rfl) (by kernel_rfl),
  fun a b => entry_ok tab_ok (es := laws_eqFactS_es N) (by kernel_rfl) mixed Try.func111 (by kernel_rfl) rfl (un1_pk .bool) (by rw [laws_eqFactS_v, laws_eqFactS_l0_q]; rfl)⟩
noncomputable def laws_eqDatabase_es (N : Nat) : List (Entry Try.prog) := [laws_eqRelationS_e N, laws_eqFactS_e N]
def laws_eqDatabase_sg : Sig := ⟨[.val ty9, .val ty9], [(.bool, true)], false⟩
def laws_eqDatabase_an : Nat → Option (List Nat) := fun _ => none
theorem laws_eqDatabase_v (N : Nat) (a : List (ByteArray × Int × Int) × List (Int × List Int)) (b : List (ByteArray × Int × Int) × List (Int × List Int)) :
    evFn Tb (sigL (laws_eqDatabase_es N)) cps (orcL (laws_eqDatabase_es N)) (drawReg Tb (sigL (laws_eqDatabase_es N)) cps (orcL (laws_eqDatabase_es N))) N laws_eqDatabase_an laws_eqDatabase_sg Try.f39 (Try.f39.body.getD .skip) [.val ty9 a, .val ty9 b] (un1 .bool) = laws_eqDatabase N a b := by kernel_rfl
noncomputable def laws_eqDatabase_e (N : Nat) : Entry Try.prog := ⟨39, laws_eqDatabase_sg, [.v ty9, .v ty9], Bool, laws_eqDatabase N, pk1 .bool, entry_en Try.func39 (code := Try.f39.body.getD .skip) (by kernel_rfl) (by kernel_rfl),
  fun a b => entry_ok tab_ok (es := laws_eqDatabase_es N) (by kernel_rfl) mixed Try.func39 (by kernel_rfl) rfl (un1_pk .bool) (laws_eqDatabase_v N a b)⟩
noncomputable def laws_eqDenialConstraint_es (N : Nat) : List (Entry Try.prog) := []
def laws_eqDenialConstraint_sg : Sig := ⟨[.val ty10, .val ty10], [(.bool, true)], false⟩
def laws_eqDenialConstraint_an : Nat → Option (List Nat) := fun _ => none
theorem laws_eqDenialConstraint_v (N : Nat) (a : Int × Int × Int × Int × Int × Int × Int) (b : Int × Int × Int × Int × Int × Int × Int) :
    evFn Tb (sigL (laws_eqDenialConstraint_es N)) cps (orcL (laws_eqDenialConstraint_es N)) (drawReg Tb (sigL (laws_eqDenialConstraint_es N)) cps (orcL (laws_eqDenialConstraint_es N))) N laws_eqDenialConstraint_an laws_eqDenialConstraint_sg Try.f129 (Try.f129.body.getD .skip) [.val ty10 a, .val ty10 b] (un1 .bool) = laws_eqDenialConstraint N a b := by kernel_rfl
noncomputable def laws_eqDenialConstraint_e (N : Nat) : Entry Try.prog := ⟨129, laws_eqDenialConstraint_sg, [.v ty10, .v ty10], Bool, laws_eqDenialConstraint N, pk1 .bool, entry_en Try.func129 (code := Try.f129.body.getD .skip) (by kernel_rfl) (by kernel_rfl),
  fun a b => entry_ok tab_ok (es := laws_eqDenialConstraint_es N) (by kernel_rfl) mixed Try.func129 (by kernel_rfl) rfl (un1_pk .bool) (laws_eqDenialConstraint_v N a b)⟩
noncomputable def laws_eqDenialConstraintS_es (N : Nat) : List (Entry Try.prog) := [laws_eqDenialConstraint_e N]
def laws_eqDenialConstraintS_sg : Sig := ⟨[.val ty11, .val ty11], [(.bool, true)], false⟩
def laws_eqDenialConstraintS_an : Nat → Option (List Nat)
  | 0 => some [0, 1, 5]
  | _ => none
noncomputable def laws_eqDenialConstraintS_lp (N : Nat) (p : List Dir) (rs : List (Env → Option (Bool))) (k : Nat) (env : Env) : Option (Bool) :=
  loopAt Tb (sigL (laws_eqDenialConstraintS_es N)) cps (orcL (laws_eqDenialConstraintS_es N)) N laws_eqDenialConstraintS_an p (Try.f58.body.getD .skip) (endK Tb laws_eqDenialConstraintS_sg Try.f58 [] (un1 .bool)) rs k env
noncomputable def laws_eqDenialConstraintS_l0_E (N : Nat) (k_ : Nat) (a2 : List (Int × Int × Int × Int × Int × Int × Int)) (b2 : List (Int × Int × Int × Int × Int × Int × Int)) (i : Int) : Option (Bool) :=
  laws_eqDenialConstraintS_lp N [.r, .r, .l, .r, .b] [] k_ (.con .val [lf ty11 a2 .ro] :: (.con .val [lf ty11 b2 .ro] :: (un 3 (.con .val [lf i64 i .ro] :: (un 21 [])))))
theorem laws_eqDenialConstraintS_l0_z (N : Nat) (a2 : List (Int × Int × Int × Int × Int × Int × Int)) (b2 : List (Int × Int × Int × Int × Int × Int × Int)) (i : Int) : laws_eqDenialConstraintS_l0_E N 0 a2 b2 i = none := by kernel_rfl
theorem laws_eqDenialConstraintS_l0_s (N : Nat) (k_ : Nat) (a2 : List (Int × Int × Int × Int × Int × Int × Int)) (b2 : List (Int × Int × Int × Int × Int × Int × Int)) (i : Int) : laws_eqDenialConstraintS_l0_E N (k_ + 1) a2 b2 i = laws_eqDenialConstraintS_l0_b N (laws_eqDenialConstraintS_l0_E N k_) a2 b2 i := by kernel_rfl
theorem laws_eqDenialConstraintS_l0_q (N : Nat) : ∀ k_, laws_eqDenialConstraintS_l0_E N k_ = laws_eqDenialConstraintS_l0 N k_
  | 0 => by funext a2 b2 i; exact laws_eqDenialConstraintS_l0_z N a2 b2 i
  | k_ + 1 => by funext a2 b2 i; rw [laws_eqDenialConstraintS_l0_s]; simp only [laws_eqDenialConstraintS_l0_q N k_]; rfl
theorem laws_eqDenialConstraintS_v (N : Nat) (a : List (Int × Int × Int × Int × Int × Int × Int)) (b : List (Int × Int × Int × Int × Int × Int × Int)) :
    evFn Tb (sigL (laws_eqDenialConstraintS_es N)) cps (orcL (laws_eqDenialConstraintS_es N)) (drawReg Tb (sigL (laws_eqDenialConstraintS_es N)) cps (orcL (laws_eqDenialConstraintS_es N))) N laws_eqDenialConstraintS_an laws_eqDenialConstraintS_sg Try.f58 (Try.f58.body.getD .skip) [.val ty11 a, .val ty11 b] (un1 .bool) = laws_eqDenialConstraintS_b N (laws_eqDenialConstraintS_l0_E N N) a b := by kernel_rfl
noncomputable def laws_eqDenialConstraintS_e (N : Nat) : Entry Try.prog := ⟨58, laws_eqDenialConstraintS_sg, [.v ty11, .v ty11], Bool, laws_eqDenialConstraintS N, pk1 .bool, entry_en Try.func58 (code := Try.f58.body.getD .skip) (by kernel_rfl) (by kernel_rfl),
  fun a b => entry_ok tab_ok (es := laws_eqDenialConstraintS_es N) (by kernel_rfl) mixed Try.func58 (by kernel_rfl) rfl (un1_pk .bool) (by rw [laws_eqDenialConstraintS_v, laws_eqDenialConstraintS_l0_q]; rfl)⟩
noncomputable def laws_markText_es (N : Nat) : List (Entry Try.prog) := []
def laws_markText_sg : Sig := ⟨[.val i64], [(.str, true)], false⟩
def laws_markText_an : Nat → Option (List Nat)
  | 0 => some [0, 3]
  | _ => none
noncomputable def laws_markText_lp (N : Nat) (p : List Dir) (rs : List (Env → Option (ByteArray))) (k : Nat) (env : Env) : Option (ByteArray) :=
  loopAt Tb (sigL (laws_markText_es N)) cps (orcL (laws_markText_es N)) N laws_markText_an p (Try.f165.body.getD .skip) (endK Tb laws_markText_sg Try.f165 [] (un1 .str)) rs k env
noncomputable def laws_markText_l0_E (N : Nat) (k_ : Nat) (k2 : Int) (out : ByteArray) : Option (ByteArray) :=
  laws_markText_lp N [.r, .r, .r, .l, .b] [] k_ (.con .val [lf i64 k2 .ro] :: (un 2 (.con .val [lf .str out .ro] :: (un 16 []))))
theorem laws_markText_l0_z (N : Nat) (k2 : Int) (out : ByteArray) : laws_markText_l0_E N 0 k2 out = none := by kernel_rfl
theorem laws_markText_l0_s (N : Nat) (k_ : Nat) (k2 : Int) (out : ByteArray) : laws_markText_l0_E N (k_ + 1) k2 out = laws_markText_l0_b N (laws_markText_l0_E N k_) k2 out := by kernel_rfl
theorem laws_markText_l0_q (N : Nat) : ∀ k_, laws_markText_l0_E N k_ = laws_markText_l0 N k_
  | 0 => by funext k2 out; exact laws_markText_l0_z N k2 out
  | k_ + 1 => by funext k2 out; rw [laws_markText_l0_s]; simp only [laws_markText_l0_q N k_]; rfl
theorem laws_markText_v (N : Nat) (k : Int) :
    evFn Tb (sigL (laws_markText_es N)) cps (orcL (laws_markText_es N)) (drawReg Tb (sigL (laws_markText_es N)) cps (orcL (laws_markText_es N))) N laws_markText_an laws_markText_sg Try.f165 (Try.f165.body.getD .skip) [.val i64 k] (un1 .str) = laws_markText_b N (laws_markText_l0_E N N) k := by kernel_rfl
noncomputable def laws_markText_e (N : Nat) : Entry Try.prog := ⟨165, laws_markText_sg, [.v i64], ByteArray, laws_markText N, pk1 .str, entry_en Try.func165 (code := Try.f165.body.getD .skip) (by kernel_rfl) (by kernel_rfl),
  fun k => entry_ok tab_ok (es := laws_markText_es N) (by kernel_rfl) mixed Try.func165 (by kernel_rfl) rfl (un1_pk .str) (by rw [laws_markText_v, laws_markText_l0_q]; rfl)⟩
noncomputable def laws_markRelationS_es (N : Nat) : List (Entry Try.prog) := [laws_markText_e N]
def laws_markRelationS_sg : Sig := ⟨[.val ty7, .val i64], [(i64, true)], true⟩
def laws_markRelationS_an : Nat → Option (List Nat)
  | 0 => some [0, 1, 5]
  | _ => none
noncomputable def laws_markRelationS_lp (N : Nat) (p : List Dir) (rs : List (Env → Option ((List (ByteArray × Int × Int)) × Int))) (k : Nat) (env : Env) : Option ((List (ByteArray × Int × Int)) × Int) :=
  loopAt Tb (sigL (laws_markRelationS_es N)) cps (orcL (laws_markRelationS_es N)) N laws_markRelationS_an p (Try.f112.body.getD .skip) (endK Tb laws_markRelationS_sg Try.f112 [.val ty7 []] (un2 ty7 i64)) rs k env
noncomputable def laws_markRelationS_l0_E (N : Nat) (k_ : Nat) (a2 : List (ByteArray × Int × Int)) (k2 : Int) (i : Int) : Option ((List (ByteArray × Int × Int)) × Int) :=
  laws_markRelationS_lp N [.r, .l, .r, .b] [] k_ (.con .val [⟨ty7, a2, (.at_ (.pn 0))⟩] :: (.con .val [lf i64 k2 .ro] :: (un 3 (.con .val [lf i64 i .ro] :: (un 29 [])))))
theorem laws_markRelationS_l0_z (N : Nat) (a2 : List (ByteArray × Int × Int)) (k2 : Int) (i : Int) : laws_markRelationS_l0_E N 0 a2 k2 i = none := by kernel_rfl
theorem laws_markRelationS_l0_s (N : Nat) (k_ : Nat) (a2 : List (ByteArray × Int × Int)) (k2 : Int) (i : Int) : laws_markRelationS_l0_E N (k_ + 1) a2 k2 i = laws_markRelationS_l0_b N (laws_markRelationS_l0_E N k_) a2 k2 i := by kernel_rfl
theorem laws_markRelationS_l0_q (N : Nat) : ∀ k_, laws_markRelationS_l0_E N k_ = laws_markRelationS_l0 N k_
  | 0 => by funext a2 k2 i; exact laws_markRelationS_l0_z N a2 k2 i
  | k_ + 1 => by funext a2 k2 i; rw [laws_markRelationS_l0_s]; simp only [laws_markRelationS_l0_q N k_]; rfl
theorem laws_markRelationS_v (N : Nat) (a : List (ByteArray × Int × Int)) (k : Int) :
    evFn Tb (sigL (laws_markRelationS_es N)) cps (orcL (laws_markRelationS_es N)) (drawReg Tb (sigL (laws_markRelationS_es N)) cps (orcL (laws_markRelationS_es N))) N laws_markRelationS_an laws_markRelationS_sg Try.f112 (Try.f112.body.getD .skip) [.val ty7 a, .val i64 k] (un2 ty7 i64) = laws_markRelationS_b N (laws_markRelationS_l0_E N N) a k := by kernel_rfl
noncomputable def laws_markRelationS_e (N : Nat) : Entry Try.prog := ⟨112, laws_markRelationS_sg, [.v ty7, .v i64], (List (ByteArray × Int × Int)) × Int, laws_markRelationS N, pk2 ty7 i64, entry_en Try.func112 (code := Try.f112.body.getD .skip) (by kernel_rfl) (by kernel_rfl),
  fun a k => entry_okM tab_ok (es := laws_markRelationS_es N) (by kernel_rfl) mixed Try.func112 (by kernel_rfl) rfl (fun _ => ⟨_, _, rfl⟩) (un2_pk ty7 i64) (by rw [laws_markRelationS_v, laws_markRelationS_l0_q]; rfl)⟩
noncomputable def laws_markIntS_es (N : Nat) : List (Entry Try.prog) := []
def laws_markIntS_sg : Sig := ⟨[.val ty2, .val i64], [(i64, true)], true⟩
def laws_markIntS_an : Nat → Option (List Nat)
  | 0 => some [0, 1, 5]
  | _ => none
noncomputable def laws_markIntS_lp (N : Nat) (p : List Dir) (rs : List (Env → Option (List Int × Int))) (k : Nat) (env : Env) : Option (List Int × Int) :=
  loopAt Tb (sigL (laws_markIntS_es N)) cps (orcL (laws_markIntS_es N)) N laws_markIntS_an p (Try.f41.body.getD .skip) (endK Tb laws_markIntS_sg Try.f41 [.val ty2 []] (un2 ty2 i64)) rs k env
noncomputable def laws_markIntS_l0_E (N : Nat) (k_ : Nat) (a2 : List Int) (k2 : Int) (i : Int) : Option (List Int × Int) :=
  laws_markIntS_lp N [.r, .l, .r, .b] [] k_ (.con .val [⟨ty2, a2, (.at_ (.pn 0))⟩] :: (.con .val [lf i64 k2 .ro] :: (un 3 (.con .val [lf i64 i .ro] :: (un 13 [])))))
theorem laws_markIntS_l0_z (N : Nat) (a2 : List Int) (k2 : Int) (i : Int) : laws_markIntS_l0_E N 0 a2 k2 i = none := by kernel_rfl
theorem laws_markIntS_l0_s (N : Nat) (k_ : Nat) (a2 : List Int) (k2 : Int) (i : Int) : laws_markIntS_l0_E N (k_ + 1) a2 k2 i = laws_markIntS_l0_b N (laws_markIntS_l0_E N k_) a2 k2 i := by kernel_rfl
theorem laws_markIntS_l0_q (N : Nat) : ∀ k_, laws_markIntS_l0_E N k_ = laws_markIntS_l0 N k_
  | 0 => by funext a2 k2 i; exact laws_markIntS_l0_z N a2 k2 i
  | k_ + 1 => by funext a2 k2 i; rw [laws_markIntS_l0_s]; simp only [laws_markIntS_l0_q N k_]; rfl
theorem laws_markIntS_v (N : Nat) (a : List Int) (k : Int) :
    evFn Tb (sigL (laws_markIntS_es N)) cps (orcL (laws_markIntS_es N)) (drawReg Tb (sigL (laws_markIntS_es N)) cps (orcL (laws_markIntS_es N))) N laws_markIntS_an laws_markIntS_sg Try.f41 (Try.f41.body.getD .skip) [.val ty2 a, .val i64 k] (un2 ty2 i64) = laws_markIntS_b N (laws_markIntS_l0_E N N) a k := by kernel_rfl
noncomputable def laws_markIntS_e (N : Nat) : Entry Try.prog := ⟨41, laws_markIntS_sg, [.v ty2, .v i64], List Int × Int, laws_markIntS N, pk2 ty2 i64, entry_en Try.func41 (code := Try.f41.body.getD .skip) (by kernel_rfl) (by kernel_rfl),
  fun a k => entry_okM tab_ok (es := laws_markIntS_es N) (by kernel_rfl) mixed Try.func41 (by kernel_rfl) rfl (fun _ => ⟨_, _, rfl⟩) (un2_pk ty2 i64) (by rw [laws_markIntS_v, laws_markIntS_l0_q]; rfl)⟩
noncomputable def laws_markFactS_es (N : Nat) : List (Entry Try.prog) := [laws_markIntS_e N]
def laws_markFactS_sg : Sig := ⟨[.val ty8, .val i64], [(i64, true)], true⟩
def laws_markFactS_an : Nat → Option (List Nat)
  | 0 => some [0, 1, 5]
  | _ => none
noncomputable def laws_markFactS_lp (N : Nat) (p : List Dir) (rs : List (Env → Option ((List (Int × List Int)) × Int))) (k : Nat) (env : Env) : Option ((List (Int × List Int)) × Int) :=
  loopAt Tb (sigL (laws_markFactS_es N)) cps (orcL (laws_markFactS_es N)) N laws_markFactS_an p (Try.f113.body.getD .skip) (endK Tb laws_markFactS_sg Try.f113 [.val ty8 []] (un2 ty8 i64)) rs k env
noncomputable def laws_markFactS_l0_E (N : Nat) (k_ : Nat) (a2 : List (Int × List Int)) (k2 : Int) (i : Int) : Option ((List (Int × List Int)) × Int) :=
  laws_markFactS_lp N [.r, .l, .r, .b] [] k_ (.con .val [⟨ty8, a2, (.at_ (.pn 0))⟩] :: (.con .val [lf i64 k2 .ro] :: (un 3 (.con .val [lf i64 i .ro] :: (un 21 [])))))
theorem laws_markFactS_l0_z (N : Nat) (a2 : List (Int × List Int)) (k2 : Int) (i : Int) : laws_markFactS_l0_E N 0 a2 k2 i = none := by kernel_rfl
theorem laws_markFactS_l0_s (N : Nat) (k_ : Nat) (a2 : List (Int × List Int)) (k2 : Int) (i : Int) : laws_markFactS_l0_E N (k_ + 1) a2 k2 i = laws_markFactS_l0_b N (laws_markFactS_l0_E N k_) a2 k2 i := by kernel_rfl
theorem laws_markFactS_l0_q (N : Nat) : ∀ k_, laws_markFactS_l0_E N k_ = laws_markFactS_l0 N k_
  | 0 => by funext a2 k2 i; exact laws_markFactS_l0_z N a2 k2 i
  | k_ + 1 => by funext a2 k2 i; rw [laws_markFactS_l0_s]; simp only [laws_markFactS_l0_q N k_]; rfl
theorem laws_markFactS_v (N : Nat) (a : List (Int × List Int)) (k : Int) :
    evFn Tb (sigL (laws_markFactS_es N)) cps (orcL (laws_markFactS_es N)) (drawReg Tb (sigL (laws_markFactS_es N)) cps (orcL (laws_markFactS_es N))) N laws_markFactS_an laws_markFactS_sg Try.f113 (Try.f113.body.getD .skip) [.val ty8 a, .val i64 k] (un2 ty8 i64) = laws_markFactS_b N (laws_markFactS_l0_E N N) a k := by kernel_rfl
noncomputable def laws_markFactS_e (N : Nat) : Entry Try.prog := ⟨113, laws_markFactS_sg, [.v ty8, .v i64], (List (Int × List Int)) × Int, laws_markFactS N, pk2 ty8 i64, entry_en Try.func113 (code := Try.f113.body.getD .skip) (by kernel_rfl) (by kernel_rfl),
  fun a k => entry_okM tab_ok (es := laws_markFactS_es N) (by kernel_rfl) mixed Try.func113 (by kernel_rfl) rfl (fun _ => ⟨_, _, rfl⟩) (un2_pk ty8 i64) (by rw [laws_markFactS_v, laws_markFactS_l0_q]; rfl)⟩
noncomputable def laws_markDatabase_es (N : Nat) : List (Entry Try.prog) := [laws_markRelationS_e N, laws_markFactS_e N]
def laws_markDatabase_sg : Sig := ⟨[.val ty9, .val i64], [(i64, true)], true⟩
def laws_markDatabase_an : Nat → Option (List Nat) := fun _ => none
theorem laws_markDatabase_v (N : Nat) (a : List (ByteArray × Int × Int) × List (Int × List Int)) (k : Int) :
    evFn Tb (sigL (laws_markDatabase_es N)) cps (orcL (laws_markDatabase_es N)) (drawReg Tb (sigL (laws_markDatabase_es N)) cps (orcL (laws_markDatabase_es N))) N laws_markDatabase_an laws_markDatabase_sg Try.f40 (Try.f40.body.getD .skip) [.val ty9 a, .val i64 k] (un2 ty9 i64) = laws_markDatabase N a k := by kernel_rfl
noncomputable def laws_markDatabase_e (N : Nat) : Entry Try.prog := ⟨40, laws_markDatabase_sg, [.v ty9, .v i64], (List (ByteArray × Int × Int) × List (Int × List Int)) × Int, laws_markDatabase N, pk2 ty9 i64, entry_en Try.func40 (code := Try.f40.body.getD .skip) (by kernel_rfl) (by kernel_rfl),
  fun a k => entry_okM tab_ok (es := laws_markDatabase_es N) (by kernel_rfl) mixed Try.func40 (by kernel_rfl) rfl (fun _ => ⟨_, _, rfl⟩) (un2_pk ty9 i64) (laws_markDatabase_v N a k)⟩
noncomputable def laws_markDenialConstraintS_es (N : Nat) : List (Entry Try.prog) := []
def laws_markDenialConstraintS_sg : Sig := ⟨[.val ty11, .val i64], [(i64, true)], true⟩
def laws_markDenialConstraintS_an : Nat → Option (List Nat)
  | 0 => some [0, 1, 5]
  | _ => none
noncomputable def laws_markDenialConstraintS_lp (N : Nat) (p : List Dir) (rs : List (Env → Option ((List (Int × Int × Int × Int × Int × Int × Int)) × Int))) (k : Nat) (env : Env) : Option ((List (Int × Int × Int × Int × Int × Int × Int)) × Int) :=
  loopAt Tb (sigL (laws_markDenialConstraintS_es N)) cps (orcL (laws_markDenialConstraintS_es N)) N laws_markDenialConstraintS_an p (Try.f59.body.getD .skip) (endK Tb laws_markDenialConstraintS_sg Try.f59 [.val ty11 []] (un2 ty11 i64)) rs k env
noncomputable def laws_markDenialConstraintS_l0_E (N : Nat) (k_ : Nat) (a2 : List (Int × Int × Int × Int × Int × Int × Int)) (k2 : Int) (i : Int) : Option ((List (Int × Int × Int × Int × Int × Int × Int)) × Int) :=
  laws_markDenialConstraintS_lp N [.r, .l, .r, .b] [] k_ (.con .val [⟨ty11, a2, (.at_ (.pn 0))⟩] :: (.con .val [lf i64 k2 .ro] :: (un 3 (.con .val [lf i64 i .ro] :: (un 56 [])))))
theorem laws_markDenialConstraintS_l0_z (N : Nat) (a2 : List (Int × Int × Int × Int × Int × Int × Int)) (k2 : Int) (i : Int) : laws_markDenialConstraintS_l0_E N 0 a2 k2 i = none := by kernel_rfl
theorem laws_markDenialConstraintS_l0_s (N : Nat) (k_ : Nat) (a2 : List (Int × Int × Int × Int × Int × Int × Int)) (k2 : Int) (i : Int) : laws_markDenialConstraintS_l0_E N (k_ + 1) a2 k2 i = laws_markDenialConstraintS_l0_b N (laws_markDenialConstraintS_l0_E N k_) a2 k2 i := by kernel_rfl
theorem laws_markDenialConstraintS_l0_q (N : Nat) : ∀ k_, laws_markDenialConstraintS_l0_E N k_ = laws_markDenialConstraintS_l0 N k_
  | 0 => by funext a2 k2 i; exact laws_markDenialConstraintS_l0_z N a2 k2 i
  | k_ + 1 => by funext a2 k2 i; rw [laws_markDenialConstraintS_l0_s]; simp only [laws_markDenialConstraintS_l0_q N k_]; rfl
theorem laws_markDenialConstraintS_v (N : Nat) (a : List (Int × Int × Int × Int × Int × Int × Int)) (k : Int) :
    evFn Tb (sigL (laws_markDenialConstraintS_es N)) cps (orcL (laws_markDenialConstraintS_es N)) (drawReg Tb (sigL (laws_markDenialConstraintS_es N)) cps (orcL (laws_markDenialConstraintS_es N))) N laws_markDenialConstraintS_an laws_markDenialConstraintS_sg Try.f59 (Try.f59.body.getD .skip) [.val ty11 a, .val i64 k] (un2 ty11 i64) = laws_markDenialConstraintS_b N (laws_markDenialConstraintS_l0_E N N) a k := by kernel_rfl
noncomputable def laws_markDenialConstraintS_e (N : Nat) : Entry Try.prog := ⟨59, laws_markDenialConstraintS_sg, [.v ty11, .v i64], (List (Int × Int × Int × Int × Int × Int × Int)) × Int, laws_markDenialConstraintS N, pk2 ty11 i64, entry_en Try.func59 (code := Try.f59.body.getD .skip) (by kernel_rfl) (by kernel_rfl),
  fun a k => entry_okM tab_ok (es := laws_markDenialConstraintS_es N) (by kernel_rfl) mixed Try.func59 (by kernel_rfl) rfl (fun _ => ⟨_, _, rfl⟩) (un2_pk ty11 i64) (by rw [laws_markDenialConstraintS_v, laws_markDenialConstraintS_l0_q]; rfl)⟩
noncomputable def laws_markConflictEdgeS_es (N : Nat) : List (Entry Try.prog) := []
def laws_markConflictEdgeS_sg : Sig := ⟨[.val ty12, .val i64], [(i64, true)], true⟩
def laws_markConflictEdgeS_an : Nat → Option (List Nat)
  | 0 => some [0, 1, 5]
  | _ => none
noncomputable def laws_markConflictEdgeS_lp (N : Nat) (p : List Dir) (rs : List (Env → Option ((List (Int × Int)) × Int))) (k : Nat) (env : Env) : Option ((List (Int × Int)) × Int) :=
  loopAt Tb (sigL (laws_markConflictEdgeS_es N)) cps (orcL (laws_markConflictEdgeS_es N)) N laws_markConflictEdgeS_an p (Try.f60.body.getD .skip) (endK Tb laws_markConflictEdgeS_sg Try.f60 [.val ty12 []] (un2 ty12 i64)) rs k env
noncomputable def laws_markConflictEdgeS_l0_E (N : Nat) (k_ : Nat) (a2 : List (Int × Int)) (k2 : Int) (i : Int) : Option ((List (Int × Int)) × Int) :=
  laws_markConflictEdgeS_lp N [.r, .l, .r, .b] [] k_ (.con .val [⟨ty12, a2, (.at_ (.pn 0))⟩] :: (.con .val [lf i64 k2 .ro] :: (un 3 (.con .val [lf i64 i .ro] :: (un 21 [])))))
theorem laws_markConflictEdgeS_l0_z (N : Nat) (a2 : List (Int × Int)) (k2 : Int) (i : Int) : laws_markConflictEdgeS_l0_E N 0 a2 k2 i = none := by kernel_rfl
theorem laws_markConflictEdgeS_l0_s (N : Nat) (k_ : Nat) (a2 : List (Int × Int)) (k2 : Int) (i : Int) : laws_markConflictEdgeS_l0_E N (k_ + 1) a2 k2 i = laws_markConflictEdgeS_l0_b N (laws_markConflictEdgeS_l0_E N k_) a2 k2 i := by kernel_rfl
theorem laws_markConflictEdgeS_l0_q (N : Nat) : ∀ k_, laws_markConflictEdgeS_l0_E N k_ = laws_markConflictEdgeS_l0 N k_
  | 0 => by funext a2 k2 i; exact laws_markConflictEdgeS_l0_z N a2 k2 i
  | k_ + 1 => by funext a2 k2 i; rw [laws_markConflictEdgeS_l0_s]; simp only [laws_markConflictEdgeS_l0_q N k_]; rfl
theorem laws_markConflictEdgeS_v (N : Nat) (a : List (Int × Int)) (k : Int) :
    evFn Tb (sigL (laws_markConflictEdgeS_es N)) cps (orcL (laws_markConflictEdgeS_es N)) (drawReg Tb (sigL (laws_markConflictEdgeS_es N)) cps (orcL (laws_markConflictEdgeS_es N))) N laws_markConflictEdgeS_an laws_markConflictEdgeS_sg Try.f60 (Try.f60.body.getD .skip) [.val ty12 a, .val i64 k] (un2 ty12 i64) = laws_markConflictEdgeS_b N (laws_markConflictEdgeS_l0_E N N) a k := by kernel_rfl
noncomputable def laws_markConflictEdgeS_e (N : Nat) : Entry Try.prog := ⟨60, laws_markConflictEdgeS_sg, [.v ty12, .v i64], (List (Int × Int)) × Int, laws_markConflictEdgeS N, pk2 ty12 i64, entry_en Try.func60 (code := Try.f60.body.getD .skip) (by kernel_rfl) (by kernel_rfl),
  fun a k => entry_okM tab_ok (es := laws_markConflictEdgeS_es N) (by kernel_rfl) mixed Try.func60 (by kernel_rfl) rfl (fun _ => ⟨_, _, rfl⟩) (un2_pk ty12 i64) (by rw [laws_markConflictEdgeS_v, laws_markConflictEdgeS_l0_q]; rfl)⟩
noncomputable def laws_heldConflictEdgeS_es (N : Nat) : List (Entry Try.prog) := []
def laws_heldConflictEdgeS_sg : Sig := ⟨[.val ty12, .val i64], [(i64, true)], false⟩
def laws_heldConflictEdgeS_an : Nat → Option (List Nat)
  | 0 => some [0, 1, 5]
  | _ => none
noncomputable def laws_heldConflictEdgeS_lp (N : Nat) (p : List Dir) (rs : List (Env → Option (Int))) (k : Nat) (env : Env) : Option (Int) :=
  loopAt Tb (sigL (laws_heldConflictEdgeS_es N)) cps (orcL (laws_heldConflictEdgeS_es N)) N laws_heldConflictEdgeS_an p (Try.f61.body.getD .skip) (endK Tb laws_heldConflictEdgeS_sg Try.f61 [] (un1 i64)) rs k env
noncomputable def laws_heldConflictEdgeS_l0_E (N : Nat) (k_ : Nat) (a2 : List (Int × Int)) (k2 : Int) (i : Int) : Option (Int) :=
  laws_heldConflictEdgeS_lp N [.r, .l, .r, .b] [] k_ (.con .val [lf ty12 a2 .ro] :: (.con .val [lf i64 k2 .ro] :: (un 3 (.con .val [lf i64 i .ro] :: (un 25 [])))))
theorem laws_heldConflictEdgeS_l0_z (N : Nat) (a2 : List (Int × Int)) (k2 : Int) (i : Int) : laws_heldConflictEdgeS_l0_E N 0 a2 k2 i = none := by kernel_rfl
theorem laws_heldConflictEdgeS_l0_s (N : Nat) (k_ : Nat) (a2 : List (Int × Int)) (k2 : Int) (i : Int) : laws_heldConflictEdgeS_l0_E N (k_ + 1) a2 k2 i = laws_heldConflictEdgeS_l0_b N (laws_heldConflictEdgeS_l0_E N k_) a2 k2 i := by kernel_rfl
theorem laws_heldConflictEdgeS_l0_q (N : Nat) : ∀ k_, laws_heldConflictEdgeS_l0_E N k_ = laws_heldConflictEdgeS_l0 N k_
  | 0 => by funext a2 k2 i; exact laws_heldConflictEdgeS_l0_z N a2 k2 i
  | k_ + 1 => by funext a2 k2 i; rw [laws_heldConflictEdgeS_l0_s]; simp only [laws_heldConflictEdgeS_l0_q N k_]; rfl
theorem laws_heldConflictEdgeS_v (N : Nat) (a : List (Int × Int)) (k : Int) :
    evFn Tb (sigL (laws_heldConflictEdgeS_es N)) cps (orcL (laws_heldConflictEdgeS_es N)) (drawReg Tb (sigL (laws_heldConflictEdgeS_es N)) cps (orcL (laws_heldConflictEdgeS_es N))) N laws_heldConflictEdgeS_an laws_heldConflictEdgeS_sg Try.f61 (Try.f61.body.getD .skip) [.val ty12 a, .val i64 k] (un1 i64) = laws_heldConflictEdgeS_b N (laws_heldConflictEdgeS_l0_E N N) a k := by kernel_rfl
noncomputable def laws_heldConflictEdgeS_e (N : Nat) : Entry Try.prog := ⟨61, laws_heldConflictEdgeS_sg, [.v ty12, .v i64], Int, laws_heldConflictEdgeS N, pk1 i64, entry_en Try.func61 (code := Try.f61.body.getD .skip) (by kernel_rfl) (by kernel_rfl),
  fun a k => entry_ok tab_ok (es := laws_heldConflictEdgeS_es N) (by kernel_rfl) mixed Try.func61 (by kernel_rfl) rfl (un1_pk i64) (by rw [laws_heldConflictEdgeS_v, laws_heldConflictEdgeS_l0_q]; rfl)⟩
noncomputable def laws_FnExactNewestFirst_es (N : Nat) : List (Entry Try.prog) := [laws_szDatabase_e N, laws_szDenialConstraintS_e N, laws_toDatabase_e N, laws_toDenialConstraintS_e N, spec_NewestFirst_e N, impl_NewestFirst_e N, laws_eqConflictEdgeS_e N, laws_eqDatabase_e N, laws_eqDenialConstraintS_e N, laws_markDatabase_e N, laws_markDenialConstraintS_e N, laws_markConflictEdgeS_e N, laws_heldConflictEdgeS_e N]
def laws_FnExactNewestFirst_sg : Sig := ⟨[.val ty5, .val ty6], [(.bool, true)], false⟩
def laws_FnExactNewestFirst_an : Nat → Option (List Nat) := fun _ => none
theorem laws_FnExactNewestFirst_v (N : Nat) (aDb : List (ByteArray × Int × Int) × List (Int × List Int)) (aConstraints : List (Int × Int × Int × Int × Int × Int × Int)) :
    evFn Tb (sigL (laws_FnExactNewestFirst_es N)) cps (orcL (laws_FnExactNewestFirst_es N)) (drawReg Tb (sigL (laws_FnExactNewestFirst_es N)) cps (orcL (laws_FnExactNewestFirst_es N))) N laws_FnExactNewestFirst_an laws_FnExactNewestFirst_sg Try.f7 (Try.f7.body.getD .skip) [.val ty5 aDb, .val ty6 aConstraints] (un1 .bool) = laws_FnExactNewestFirst N aDb aConstraints := by kernel_rfl
noncomputable def laws_FnExactNewestFirst_e (N : Nat) : Entry Try.prog := ⟨7, laws_FnExactNewestFirst_sg, [.v ty5, .v ty6], Bool, laws_FnExactNewestFirst N, pk1 .bool, entry_en Try.func7 (code := Try.f7.body.getD .skip) (by kernel_rfl) (by kernel_rfl),
  fun aDb aConstraints => entry_ok tab_ok (es := laws_FnExactNewestFirst_es N) (by kernel_rfl) mixed Try.func7 (by kernel_rfl) rfl (un1_pk .bool) (laws_FnExactNewestFirst_v N aDb aConstraints)⟩
end Go.PL
