/- What the machine does at each function is what the plain reading says. Conditions: none. -/
import Derived.Test.YtnnljnfnomfgkaaFpD
import Derived.Test.YtnnljnfnomfgkaaPlain
import Derived.Test.YtnnljnfnomfgkaaProg

/- What the machine does is what the plain reading says. Conditions: none. -/
namespace Go.PL
open Go.FP Go.Proofs
set_option linter.unusedVariables false
set_option maxRecDepth 10000

abbrev i64 : Ty := .int .i64
abbrev ty0 : Ty := (.pair .str (.pair i64 i64))
abbrev ty1 : Ty := (.slice 123 (.pair .str (.pair i64 i64)))
abbrev ty2 : Ty := (.slice 3 i64)
abbrev ty3 : Ty := (.pair i64 (.slice 3 i64))
abbrev ty4 : Ty := (.slice 125 (.pair i64 (.slice 3 i64)))
abbrev ty5 : Ty := (.pair (.slice 123 (.pair .str (.pair i64 i64))) (.slice 125 (.pair i64 (.slice 3 i64))))
abbrev ty6 : Ty := (.slice 129 (.pair .str (.pair i64 i64)))
abbrev ty7 : Ty := (.slice 118 (.pair i64 (.slice 3 i64)))
abbrev ty8 : Ty := (.pair (.slice 129 (.pair .str (.pair i64 i64))) (.slice 118 (.pair i64 (.slice 3 i64))))
abbrev ty9 : Ty := (.slice 23 (.slice 3 i64))
def Tb : Tab := [⟨3, i64, 8, []⟩,
  ⟨4, .bool, 1, []⟩,
  ⟨5, (.int .u8), 1, []⟩,
  ⟨9, .str, 16, []⟩,
  ⟨23, ty2, 24, []⟩,
  ⟨30, ty9, 24, []⟩,
  ⟨39, ty1, 24, []⟩,
  ⟨40, ty4, 24, []⟩,
  ⟨42, ty5, 48, [(0, 39), (1, 40)]⟩,
  ⟨45, ty6, 24, []⟩,
  ⟨46, ty7, 24, []⟩,
  ⟨48, ty8, 48, [(0, 45), (1, 46)]⟩,
  ⟨118, ty3, 32, [(0, 3), (1, 23)]⟩,
  ⟨123, ty0, 32, [(0, 9), (1, 3), (2, 3)]⟩,
  ⟨125, ty3, 32, [(0, 3), (1, 23)]⟩,
  ⟨129, ty0, 32, [(0, 9), (1, 3), (2, 3)]⟩]
theorem tab_ok : TabOk Try.prog Tb :=
  (tab_cons (TEOk.plain (i := Try.t3) (by kernel_rfl) rfl rfl (by kernel_rfl) rfl Try.underlying3)
  (tab_cons (TEOk.plain (i := Try.t4) (by kernel_rfl) rfl rfl (by kernel_rfl) rfl Try.underlying4)
  (tab_cons (TEOk.plain (i := Try.t5) (by kernel_rfl) rfl rfl (by kernel_rfl) rfl Try.underlying5)
  (tab_cons (TEOk.plain (i := Try.t9) (by kernel_rfl) rfl rfl (by kernel_rfl) rfl Try.underlying9)
  (tab_cons (TEOk.plain (i := Try.t23) (by kernel_rfl) rfl rfl (by kernel_rfl) rfl Try.underlying23)
  (tab_cons (TEOk.plain (i := Try.t30) (by kernel_rfl) rfl rfl (by kernel_rfl) rfl Try.underlying30)
  (tab_cons (TEOk.plain (i := Try.t39) (by kernel_rfl) rfl rfl (by kernel_rfl) rfl Try.underlying39)
  (tab_cons (TEOk.plain (i := Try.t40) (by kernel_rfl) rfl rfl (by kernel_rfl) rfl Try.underlying40)
  (tab_cons (TEOk.struct (i := Try.t42) (pl := [(0, 1), (1, 1)]) (by kernel_rfl) rfl rfl (by kernel_rfl) Try.underlying42 (by kernel_rfl) (by kernel_rfl) rfl)
  (tab_cons (TEOk.plain (i := Try.t45) (by kernel_rfl) rfl rfl (by kernel_rfl) rfl Try.underlying45)
  (tab_cons (TEOk.plain (i := Try.t46) (by kernel_rfl) rfl rfl (by kernel_rfl) rfl Try.underlying46)
  (tab_cons (TEOk.struct (i := Try.t48) (pl := [(0, 1), (1, 1)]) (by kernel_rfl) rfl rfl (by kernel_rfl) Try.underlying48 (by kernel_rfl) (by kernel_rfl) rfl)
  (tab_cons (TEOk.struct (i := Try.t118) (pl := [(0, 1), (1, 1)]) (by kernel_rfl) rfl rfl (by kernel_rfl) Try.underlying118 (by kernel_rfl) (by kernel_rfl) rfl)
  (tab_cons (TEOk.struct (i := Try.t123) (pl := [(0, 1), (1, 1), (2, 1)]) (by kernel_rfl) rfl rfl (by kernel_rfl) Try.underlying123 (by kernel_rfl) (by kernel_rfl) rfl)
  (tab_cons (TEOk.struct (i := Try.t125) (pl := [(0, 1), (1, 1)]) (by kernel_rfl) rfl rfl (by kernel_rfl) Try.underlying125 (by kernel_rfl) (by kernel_rfl) rfl)
  (tab_cons (TEOk.struct (i := Try.t129) (pl := [(0, 1), (1, 1), (2, 1)]) (by kernel_rfl) rfl rfl (by kernel_rfl) Try.underlying129 (by kernel_rfl) (by kernel_rfl) rfl)
  tab_nil))))))))))))))))
theorem mixed : Try.prog.follows .mixedOrders = true := by decide
def cps : FuncId → List Ty := capsL [(104, [ty8, i64, i64, i64, i64]), (159, [])]

noncomputable def laws_szRelation_es (N : Nat) : List (Entry Try.prog) := []
def laws_szRelation_sg : Sig := ⟨[.val ty0, .val i64], [(i64, true)], false⟩
def laws_szRelation_an : Nat → Option (List Nat) := fun _ => none
theorem laws_szRelation_v (N : Nat) (a : ByteArray × Int × Int) (left_ : Int) :
    evFn Tb (sigL (laws_szRelation_es N)) cps (orcL (laws_szRelation_es N)) (drawReg Tb (sigL (laws_szRelation_es N)) cps (orcL (laws_szRelation_es N))) N laws_szRelation_an laws_szRelation_sg Try.f108 (Try.f108.body.getD .skip) [.val ty0 a, .val i64 left_] (un1 i64) = laws_szRelation N a left_ := by kernel_rfl
noncomputable def laws_szRelation_e (N : Nat) : Entry Try.prog := ⟨108, laws_szRelation_sg, [.v ty0, .v i64], Int, laws_szRelation N, pk1 i64, rfl, entry_en Try.func108 (code := Try.f108.body.getD .skip) (by kernel_rfl) (by kernel_rfl),
  fun a left_ => entry_ok tab_ok (es := laws_szRelation_es N) (by kernel_rfl) mixed Try.func108 (by kernel_rfl) (un1_pk i64) (laws_szRelation_v N a left_)⟩
noncomputable def laws_szRelationS_es (N : Nat) : List (Entry Try.prog) := [laws_szRelation_e N]
def laws_szRelationS_sg : Sig := ⟨[.val ty1, .val i64], [(i64, true)], false⟩
def laws_szRelationS_an : Nat → Option (List Nat)
  | 0 => some [0, 1, 5]
  | _ => none
noncomputable def laws_szRelationS_lp (N : Nat) (p : List Dir) (rs : List (Env → Option (Int))) (k : Nat) (env : Env) : Option (Int) :=
  loopAt Tb (sigL (laws_szRelationS_es N)) cps (orcL (laws_szRelationS_es N)) N laws_szRelationS_an p (Try.f64.body.getD .skip) (endK Tb laws_szRelationS_sg Try.f64 (un1 i64)) rs k env
noncomputable def laws_szRelationS_l0_E (N : Nat) (k_ : Nat) (a2 : List (ByteArray × Int × Int)) (left_2 : Int) (i : Int) : Option (Int) :=
  laws_szRelationS_lp N [.r, .r, .r, .l, .r, .b] [] k_ (.con .val [lf ty1 a2 .ro] :: (.con .val [lf i64 left_2 .ro] :: (un 3 (.con .val [lf i64 i .ro] :: (un 21 [])))))
theorem laws_szRelationS_l0_z (N : Nat) (a2 : List (ByteArray × Int × Int)) (left_2 : Int) (i : Int) : laws_szRelationS_l0_E N 0 a2 left_2 i = none := by kernel_rfl
theorem laws_szRelationS_l0_s (N : Nat) (k_ : Nat) (a2 : List (ByteArray × Int × Int)) (left_2 : Int) (i : Int) : laws_szRelationS_l0_E N (k_ + 1) a2 left_2 i = laws_szRelationS_l0_b N (laws_szRelationS_l0_E N k_) a2 left_2 i := by kernel_rfl
theorem laws_szRelationS_l0_q (N : Nat) : ∀ k_, laws_szRelationS_l0_E N k_ = laws_szRelationS_l0 N k_
  | 0 => by funext a2 left_2 i; exact laws_szRelationS_l0_z N a2 left_2 i
  | k_ + 1 => by funext a2 left_2 i; rw [laws_szRelationS_l0_s]; simp only [laws_szRelationS_l0_q N k_]; rfl
theorem laws_szRelationS_v (N : Nat) (a : List (ByteArray × Int × Int)) (left_ : Int) :
    evFn Tb (sigL (laws_szRelationS_es N)) cps (orcL (laws_szRelationS_es N)) (drawReg Tb (sigL (laws_szRelationS_es N)) cps (orcL (laws_szRelationS_es N))) N laws_szRelationS_an laws_szRelationS_sg Try.f64 (Try.f64.body.getD .skip) [.val ty1 a, .val i64 left_] (un1 i64) = laws_szRelationS_b N (laws_szRelationS_l0_E N N) a left_ := by kernel_rfl
noncomputable def laws_szRelationS_e (N : Nat) : Entry Try.prog := ⟨64, laws_szRelationS_sg, [.v ty1, .v i64], Int, laws_szRelationS N, pk1 i64, rfl, entry_en Try.func64 (code := Try.f64.body.getD .skip) (by kernel_rfl) (by kernel_rfl),
  fun a left_ => entry_ok tab_ok (es := laws_szRelationS_es N) (by kernel_rfl) mixed Try.func64 (by kernel_rfl) (un1_pk i64) (by rw [laws_szRelationS_v, laws_szRelationS_l0_q]; rfl)⟩
noncomputable def laws_szIntS_es (N : Nat) : List (Entry Try.prog) := []
def laws_szIntS_sg : Sig := ⟨[.val ty2, .val i64], [(i64, true)], false⟩
def laws_szIntS_an : Nat → Option (List Nat) := fun _ => none
theorem laws_szIntS_v (N : Nat) (a : List Int) (left_ : Int) :
    evFn Tb (sigL (laws_szIntS_es N)) cps (orcL (laws_szIntS_es N)) (drawReg Tb (sigL (laws_szIntS_es N)) cps (orcL (laws_szIntS_es N))) N laws_szIntS_an laws_szIntS_sg Try.f61 (Try.f61.body.getD .skip) [.val ty2 a, .val i64 left_] (un1 i64) = laws_szIntS N a left_ := by kernel_rfl
noncomputable def laws_szIntS_e (N : Nat) : Entry Try.prog := ⟨61, laws_szIntS_sg, [.v ty2, .v i64], Int, laws_szIntS N, pk1 i64, rfl, entry_en Try.func61 (code := Try.f61.body.getD .skip) (by kernel_rfl) (by kernel_rfl),
  fun a left_ => entry_ok tab_ok (es := laws_szIntS_es N) (by kernel_rfl) mixed Try.func61 (by kernel_rfl) (un1_pk i64) (laws_szIntS_v N a left_)⟩
noncomputable def laws_szFact_es (N : Nat) : List (Entry Try.prog) := [laws_szIntS_e N]
def laws_szFact_sg : Sig := ⟨[.val ty3, .val i64], [(i64, true)], false⟩
def laws_szFact_an : Nat → Option (List Nat) := fun _ => none
theorem laws_szFact_v (N : Nat) (a : Int × List Int) (left_ : Int) :
    evFn Tb (sigL (laws_szFact_es N)) cps (orcL (laws_szFact_es N)) (drawReg Tb (sigL (laws_szFact_es N)) cps (orcL (laws_szFact_es N))) N laws_szFact_an laws_szFact_sg Try.f109 (Try.f109.body.getD .skip) [.val ty3 a, .val i64 left_] (un1 i64) = laws_szFact N a left_ := by kernel_rfl
noncomputable def laws_szFact_e (N : Nat) : Entry Try.prog := ⟨109, laws_szFact_sg, [.v ty3, .v i64], Int, laws_szFact N, pk1 i64, rfl, entry_en Try.func109 (code := Try.f109.body.getD .skip) (by kernel_rfl) (by kernel_rfl),
  fun a left_ => entry_ok tab_ok (es := laws_szFact_es N) (by kernel_rfl) mixed Try.func109 (by kernel_rfl) (un1_pk i64) (laws_szFact_v N a left_)⟩
noncomputable def laws_szFactS_es (N : Nat) : List (Entry Try.prog) := [laws_szFact_e N]
def laws_szFactS_sg : Sig := ⟨[.val ty4, .val i64], [(i64, true)], false⟩
def laws_szFactS_an : Nat → Option (List Nat)
  | 0 => some [0, 1, 5]
  | _ => none
noncomputable def laws_szFactS_lp (N : Nat) (p : List Dir) (rs : List (Env → Option (Int))) (k : Nat) (env : Env) : Option (Int) :=
  loopAt Tb (sigL (laws_szFactS_es N)) cps (orcL (laws_szFactS_es N)) N laws_szFactS_an p (Try.f65.body.getD .skip) (endK Tb laws_szFactS_sg Try.f65 (un1 i64)) rs k env
noncomputable def laws_szFactS_l0_E (N : Nat) (k_ : Nat) (a2 : List (Int × List Int)) (left_2 : Int) (i : Int) : Option (Int) :=
  laws_szFactS_lp N [.r, .r, .r, .l, .r, .b] [] k_ (.con .val [lf ty4 a2 .ro] :: (.con .val [lf i64 left_2 .ro] :: (un 3 (.con .val [lf i64 i .ro] :: (un 21 [])))))
theorem laws_szFactS_l0_z (N : Nat) (a2 : List (Int × List Int)) (left_2 : Int) (i : Int) : laws_szFactS_l0_E N 0 a2 left_2 i = none := by kernel_rfl
theorem laws_szFactS_l0_s (N : Nat) (k_ : Nat) (a2 : List (Int × List Int)) (left_2 : Int) (i : Int) : laws_szFactS_l0_E N (k_ + 1) a2 left_2 i = laws_szFactS_l0_b N (laws_szFactS_l0_E N k_) a2 left_2 i := by kernel_rfl
theorem laws_szFactS_l0_q (N : Nat) : ∀ k_, laws_szFactS_l0_E N k_ = laws_szFactS_l0 N k_
  | 0 => by funext a2 left_2 i; exact laws_szFactS_l0_z N a2 left_2 i
  | k_ + 1 => by funext a2 left_2 i; rw [laws_szFactS_l0_s]; simp only [laws_szFactS_l0_q N k_]; rfl
theorem laws_szFactS_v (N : Nat) (a : List (Int × List Int)) (left_ : Int) :
    evFn Tb (sigL (laws_szFactS_es N)) cps (orcL (laws_szFactS_es N)) (drawReg Tb (sigL (laws_szFactS_es N)) cps (orcL (laws_szFactS_es N))) N laws_szFactS_an laws_szFactS_sg Try.f65 (Try.f65.body.getD .skip) [.val ty4 a, .val i64 left_] (un1 i64) = laws_szFactS_b N (laws_szFactS_l0_E N N) a left_ := by kernel_rfl
noncomputable def laws_szFactS_e (N : Nat) : Entry Try.prog := ⟨65, laws_szFactS_sg, [.v ty4, .v i64], Int, laws_szFactS N, pk1 i64, rfl, entry_en Try.func65 (code := Try.f65.body.getD .skip) (by kernel_rfl) (by kernel_rfl),
  fun a left_ => entry_ok tab_ok (es := laws_szFactS_es N) (by kernel_rfl) mixed Try.func65 (by kernel_rfl) (un1_pk i64) (by rw [laws_szFactS_v, laws_szFactS_l0_q]; rfl)⟩
noncomputable def laws_szDatabase_es (N : Nat) : List (Entry Try.prog) := [laws_szRelationS_e N, laws_szFactS_e N]
def laws_szDatabase_sg : Sig := ⟨[.val ty5, .val i64], [(i64, true)], false⟩
def laws_szDatabase_an : Nat → Option (List Nat) := fun _ => none
theorem laws_szDatabase_v (N : Nat) (a : List (ByteArray × Int × Int) × List (Int × List Int)) (left_ : Int) :
    evFn Tb (sigL (laws_szDatabase_es N)) cps (orcL (laws_szDatabase_es N)) (drawReg Tb (sigL (laws_szDatabase_es N)) cps (orcL (laws_szDatabase_es N))) N laws_szDatabase_an laws_szDatabase_sg Try.f30 (Try.f30.body.getD .skip) [.val ty5 a, .val i64 left_] (un1 i64) = laws_szDatabase N a left_ := by kernel_rfl
noncomputable def laws_szDatabase_e (N : Nat) : Entry Try.prog := ⟨30, laws_szDatabase_sg, [.v ty5, .v i64], Int, laws_szDatabase N, pk1 i64, rfl, entry_en Try.func30 (code := Try.f30.body.getD .skip) (by kernel_rfl) (by kernel_rfl),
  fun a left_ => entry_ok tab_ok (es := laws_szDatabase_es N) (by kernel_rfl) mixed Try.func30 (by kernel_rfl) (un1_pk i64) (laws_szDatabase_v N a left_)⟩
noncomputable def laws_toRelation_es (N : Nat) : List (Entry Try.prog) := []
def laws_toRelation_sg : Sig := ⟨[.val ty0], [(ty0, true)], false⟩
def laws_toRelation_an : Nat → Option (List Nat) := fun _ => none
theorem laws_toRelation_v (N : Nat) (a : ByteArray × Int × Int) :
    evFn Tb (sigL (laws_toRelation_es N)) cps (orcL (laws_toRelation_es N)) (drawReg Tb (sigL (laws_toRelation_es N)) cps (orcL (laws_toRelation_es N))) N laws_toRelation_an laws_toRelation_sg Try.f113 (Try.f113.body.getD .skip) [.val ty0 a] (un1 ty0) = laws_toRelation N a := by kernel_rfl
noncomputable def laws_toRelation_e (N : Nat) : Entry Try.prog := ⟨113, laws_toRelation_sg, [.v ty0], ByteArray × Int × Int, laws_toRelation N, pk1 ty0, rfl, entry_en Try.func113 (code := Try.f113.body.getD .skip) (by kernel_rfl) (by kernel_rfl),
  fun a => entry_ok tab_ok (es := laws_toRelation_es N) (by kernel_rfl) mixed Try.func113 (by kernel_rfl) (un1_pk ty0) (laws_toRelation_v N a)⟩
noncomputable def laws_toRelationS_es (N : Nat) : List (Entry Try.prog) := [laws_toRelation_e N]
def laws_toRelationS_sg : Sig := ⟨[.val ty1], [(ty6, true)], false⟩
def laws_toRelationS_an : Nat → Option (List Nat)
  | 0 => some [0, 3, 4]
  | _ => none
noncomputable def laws_toRelationS_lp (N : Nat) (p : List Dir) (rs : List (Env → Option (List (ByteArray × Int × Int)))) (k : Nat) (env : Env) : Option (List (ByteArray × Int × Int)) :=
  loopAt Tb (sigL (laws_toRelationS_es N)) cps (orcL (laws_toRelationS_es N)) N laws_toRelationS_an p (Try.f67.body.getD .skip) (endK Tb laws_toRelationS_sg Try.f67 (un1 ty6)) rs k env
noncomputable def laws_toRelationS_l0_E (N : Nat) (k_ : Nat) (a2 : List (ByteArray × Int × Int)) (out : List (ByteArray × Int × Int)) (i : Int) : Option (List (ByteArray × Int × Int)) :=
  laws_toRelationS_lp N [.r, .r, .l, .r, .b] [] k_ (.con .val [lf ty1 a2 .ro] :: (un 2 (.con .val [lf ty6 out .dp] :: (.con .val [lf i64 i .ro] :: (un 18 [])))))
theorem laws_toRelationS_l0_z (N : Nat) (a2 : List (ByteArray × Int × Int)) (out : List (ByteArray × Int × Int)) (i : Int) : laws_toRelationS_l0_E N 0 a2 out i = none := by kernel_rfl
theorem laws_toRelationS_l0_s (N : Nat) (k_ : Nat) (a2 : List (ByteArray × Int × Int)) (out : List (ByteArray × Int × Int)) (i : Int) : laws_toRelationS_l0_E N (k_ + 1) a2 out i = laws_toRelationS_l0_b N (laws_toRelationS_l0_E N k_) a2 out i := by kernel_rfl
theorem laws_toRelationS_l0_q (N : Nat) : ∀ k_, laws_toRelationS_l0_E N k_ = laws_toRelationS_l0 N k_
  | 0 => by funext a2 out i; exact laws_toRelationS_l0_z N a2 out i
  | k_ + 1 => by funext a2 out i; rw [laws_toRelationS_l0_s]; simp only [laws_toRelationS_l0_q N k_]; rfl
theorem laws_toRelationS_v (N : Nat) (a : List (ByteArray × Int × Int)) :
    evFn Tb (sigL (laws_toRelationS_es N)) cps (orcL (laws_toRelationS_es N)) (drawReg Tb (sigL (laws_toRelationS_es N)) cps (orcL (laws_toRelationS_es N))) N laws_toRelationS_an laws_toRelationS_sg Try.f67 (Try.f67.body.getD .skip) [.val ty1 a] (un1 ty6) = laws_toRelationS_b N (laws_toRelationS_l0_E N N) a := by kernel_rfl
noncomputable def laws_toRelationS_e (N : Nat) : Entry Try.prog := ⟨67, laws_toRelationS_sg, [.v ty1], List (ByteArray × Int × Int), laws_toRelationS N, pk1 ty6, rfl, entry_en Try.func67 (code := Try.f67.body.getD .skip) (by kernel_rfl) (by kernel_rfl),
  fun a => entry_ok tab_ok (es := laws_toRelationS_es N) (by kernel_rfl) mixed Try.func67 (by kernel_rfl) (un1_pk ty6) (by rw [laws_toRelationS_v, laws_toRelationS_l0_q]; rfl)⟩
noncomputable def laws_toIntS_es (N : Nat) : List (Entry Try.prog) := []
def laws_toIntS_sg : Sig := ⟨[.val ty2], [(ty2, true)], false⟩
def laws_toIntS_an : Nat → Option (List Nat)
  | 0 => some [0, 3, 4]
  | _ => none
noncomputable def laws_toIntS_lp (N : Nat) (p : List Dir) (rs : List (Env → Option (List Int))) (k : Nat) (env : Env) : Option (List Int) :=
  loopAt Tb (sigL (laws_toIntS_es N)) cps (orcL (laws_toIntS_es N)) N laws_toIntS_an p (Try.f23.body.getD .skip) (endK Tb laws_toIntS_sg Try.f23 (un1 ty2)) rs k env
noncomputable def laws_toIntS_l0_E (N : Nat) (k_ : Nat) (a2 : List Int) (out : List Int) (i : Int) : Option (List Int) :=
  laws_toIntS_lp N [.r, .r, .l, .r, .b] [] k_ (.con .val [lf ty2 a2 .ro] :: (un 2 (.con .val [lf ty2 out .dp] :: (.con .val [lf i64 i .ro] :: (un 17 [])))))
theorem laws_toIntS_l0_z (N : Nat) (a2 : List Int) (out : List Int) (i : Int) : laws_toIntS_l0_E N 0 a2 out i = none := by kernel_rfl
theorem laws_toIntS_l0_s (N : Nat) (k_ : Nat) (a2 : List Int) (out : List Int) (i : Int) : laws_toIntS_l0_E N (k_ + 1) a2 out i = laws_toIntS_l0_b N (laws_toIntS_l0_E N k_) a2 out i := by kernel_rfl
theorem laws_toIntS_l0_q (N : Nat) : ∀ k_, laws_toIntS_l0_E N k_ = laws_toIntS_l0 N k_
  | 0 => by funext a2 out i; exact laws_toIntS_l0_z N a2 out i
  | k_ + 1 => by funext a2 out i; rw [laws_toIntS_l0_s]; simp only [laws_toIntS_l0_q N k_]; rfl
theorem laws_toIntS_v (N : Nat) (a : List Int) :
    evFn Tb (sigL (laws_toIntS_es N)) cps (orcL (laws_toIntS_es N)) (drawReg Tb (sigL (laws_toIntS_es N)) cps (orcL (laws_toIntS_es N))) N laws_toIntS_an laws_toIntS_sg Try.f23 (Try.f23.body.getD .skip) [.val ty2 a] (un1 ty2) = laws_toIntS_b N (laws_toIntS_l0_E N N) a := by kernel_rfl
noncomputable def laws_toIntS_e (N : Nat) : Entry Try.prog := ⟨23, laws_toIntS_sg, [.v ty2], List Int, laws_toIntS N, pk1 ty2, rfl, entry_en Try.func23 (code := Try.f23.body.getD .skip) (by kernel_rfl) (by kernel_rfl),
  fun a => entry_ok tab_ok (es := laws_toIntS_es N) (by kernel_rfl) mixed Try.func23 (by kernel_rfl) (un1_pk ty2) (by rw [laws_toIntS_v, laws_toIntS_l0_q]; rfl)⟩
noncomputable def laws_toFact_es (N : Nat) : List (Entry Try.prog) := [laws_toIntS_e N]
def laws_toFact_sg : Sig := ⟨[.val ty3], [(ty3, true)], false⟩
def laws_toFact_an : Nat → Option (List Nat) := fun _ => none
theorem laws_toFact_v (N : Nat) (a : Int × List Int) :
    evFn Tb (sigL (laws_toFact_es N)) cps (orcL (laws_toFact_es N)) (drawReg Tb (sigL (laws_toFact_es N)) cps (orcL (laws_toFact_es N))) N laws_toFact_an laws_toFact_sg Try.f114 (Try.f114.body.getD .skip) [.val ty3 a] (un1 ty3) = laws_toFact N a := by kernel_rfl
noncomputable def laws_toFact_e (N : Nat) : Entry Try.prog := ⟨114, laws_toFact_sg, [.v ty3], Int × List Int, laws_toFact N, pk1 ty3, rfl, entry_en Try.func114 (code := Try.f114.body.getD .skip) (by kernel_rfl) (by kernel_rfl),
  fun a => entry_ok tab_ok (es := laws_toFact_es N) (by kernel_rfl) mixed Try.func114 (by kernel_rfl) (un1_pk ty3) (laws_toFact_v N a)⟩
noncomputable def laws_toFactS_es (N : Nat) : List (Entry Try.prog) := [laws_toFact_e N]
def laws_toFactS_sg : Sig := ⟨[.val ty4], [(ty7, true)], false⟩
def laws_toFactS_an : Nat → Option (List Nat)
  | 0 => some [0, 3, 4]
  | _ => none
noncomputable def laws_toFactS_lp (N : Nat) (p : List Dir) (rs : List (Env → Option (List (Int × List Int)))) (k : Nat) (env : Env) : Option (List (Int × List Int)) :=
  loopAt Tb (sigL (laws_toFactS_es N)) cps (orcL (laws_toFactS_es N)) N laws_toFactS_an p (Try.f68.body.getD .skip) (endK Tb laws_toFactS_sg Try.f68 (un1 ty7)) rs k env
noncomputable def laws_toFactS_l0_E (N : Nat) (k_ : Nat) (a2 : List (Int × List Int)) (out : List (Int × List Int)) (i : Int) : Option (List (Int × List Int)) :=
  laws_toFactS_lp N [.r, .r, .l, .r, .b] [] k_ (.con .val [lf ty4 a2 .ro] :: (un 2 (.con .val [lf ty7 out .dp] :: (.con .val [lf i64 i .ro] :: (un 18 [])))))
theorem laws_toFactS_l0_z (N : Nat) (a2 : List (Int × List Int)) (out : List (Int × List Int)) (i : Int) : laws_toFactS_l0_E N 0 a2 out i = none := by kernel_rfl
theorem laws_toFactS_l0_s (N : Nat) (k_ : Nat) (a2 : List (Int × List Int)) (out : List (Int × List Int)) (i : Int) : laws_toFactS_l0_E N (k_ + 1) a2 out i = laws_toFactS_l0_b N (laws_toFactS_l0_E N k_) a2 out i := by kernel_rfl
theorem laws_toFactS_l0_q (N : Nat) : ∀ k_, laws_toFactS_l0_E N k_ = laws_toFactS_l0 N k_
  | 0 => by funext a2 out i; exact laws_toFactS_l0_z N a2 out i
  | k_ + 1 => by funext a2 out i; rw [laws_toFactS_l0_s]; simp only [laws_toFactS_l0_q N k_]; rfl
theorem laws_toFactS_v (N : Nat) (a : List (Int × List Int)) :
    evFn Tb (sigL (laws_toFactS_es N)) cps (orcL (laws_toFactS_es N)) (drawReg Tb (sigL (laws_toFactS_es N)) cps (orcL (laws_toFactS_es N))) N laws_toFactS_an laws_toFactS_sg Try.f68 (Try.f68.body.getD .skip) [.val ty4 a] (un1 ty7) = laws_toFactS_b N (laws_toFactS_l0_E N N) a := by kernel_rfl
noncomputable def laws_toFactS_e (N : Nat) : Entry Try.prog := ⟨68, laws_toFactS_sg, [.v ty4], List (Int × List Int), laws_toFactS N, pk1 ty7, rfl, entry_en Try.func68 (code := Try.f68.body.getD .skip) (by kernel_rfl) (by kernel_rfl),
  fun a => entry_ok tab_ok (es := laws_toFactS_es N) (by kernel_rfl) mixed Try.func68 (by kernel_rfl) (un1_pk ty7) (by rw [laws_toFactS_v, laws_toFactS_l0_q]; rfl)⟩
noncomputable def laws_toDatabase_es (N : Nat) : List (Entry Try.prog) := [laws_toRelationS_e N, laws_toFactS_e N]
def laws_toDatabase_sg : Sig := ⟨[.val ty5], [(ty8, true)], false⟩
def laws_toDatabase_an : Nat → Option (List Nat) := fun _ => none
theorem laws_toDatabase_v (N : Nat) (a : List (ByteArray × Int × Int) × List (Int × List Int)) :
    evFn Tb (sigL (laws_toDatabase_es N)) cps (orcL (laws_toDatabase_es N)) (drawReg Tb (sigL (laws_toDatabase_es N)) cps (orcL (laws_toDatabase_es N))) N laws_toDatabase_an laws_toDatabase_sg Try.f32 (Try.f32.body.getD .skip) [.val ty5 a] (un1 ty8) = laws_toDatabase N a := by kernel_rfl
noncomputable def laws_toDatabase_e (N : Nat) : Entry Try.prog := ⟨32, laws_toDatabase_sg, [.v ty5], List (ByteArray × Int × Int) × List (Int × List Int), laws_toDatabase N, pk1 ty8, rfl, entry_en Try.func32 (code := Try.f32.body.getD .skip) (by kernel_rfl) (by kernel_rfl),
  fun a => entry_ok tab_ok (es := laws_toDatabase_es N) (by kernel_rfl) mixed Try.func32 (by kernel_rfl) (un1_pk ty8) (laws_toDatabase_v N a)⟩
noncomputable def spec_l1In_es (N : Nat) : List (Entry Try.prog) := []
def spec_l1In_sg : Sig := ⟨[.val i64, .val i64, .val i64], [(.bool, true)], false⟩
def spec_l1In_an : Nat → Option (List Nat) := fun _ => none
theorem spec_l1In_v (N : Nat) (x : Int) (low : Int) (high : Int) :
    evFn Tb (sigL (spec_l1In_es N)) cps (orcL (spec_l1In_es N)) (drawReg Tb (sigL (spec_l1In_es N)) cps (orcL (spec_l1In_es N))) N spec_l1In_an spec_l1In_sg Try.f62 (Try.f62.body.getD .skip) [.val i64 x, .val i64 low, .val i64 high] (un1 .bool) = spec_l1In N x low high := by kernel_rfl
noncomputable def spec_l1In_e (N : Nat) : Entry Try.prog := ⟨62, spec_l1In_sg, [.v i64, .v i64, .v i64], Bool, spec_l1In N, pk1 .bool, rfl, entry_en Try.func62 (code := Try.f62.body.getD .skip) (by kernel_rfl) (by kernel_rfl),
  fun x low high => entry_ok tab_ok (es := spec_l1In_es N) (by kernel_rfl) mixed Try.func62 (by kernel_rfl) (un1_pk .bool) (spec_l1In_v N x low high)⟩
noncomputable def spec_IsValidRelation_es (N : Nat) : List (Entry Try.prog) := [spec_l1In_e N]
def spec_IsValidRelation_sg : Sig := ⟨[.val ty0], [(.bool, true)], false⟩
def spec_IsValidRelation_an : Nat → Option (List Nat) := fun _ => none
theorem spec_IsValidRelation_v (N : Nat) (s : ByteArray × Int × Int) :
    evFn Tb (sigL (spec_IsValidRelation_es N)) cps (orcL (spec_IsValidRelation_es N)) (drawReg Tb (sigL (spec_IsValidRelation_es N)) cps (orcL (spec_IsValidRelation_es N))) N spec_IsValidRelation_an spec_IsValidRelation_sg Try.f139 (Try.f139.body.getD .skip) [.val ty0 s] (un1 .bool) = spec_IsValidRelation N s := by kernel_rfl
noncomputable def spec_IsValidRelation_e (N : Nat) : Entry Try.prog := ⟨139, spec_IsValidRelation_sg, [.v ty0], Bool, spec_IsValidRelation N, pk1 .bool, rfl, entry_en Try.func139 (code := Try.f139.body.getD .skip) (by kernel_rfl) (by kernel_rfl),
  fun s => entry_ok tab_ok (es := spec_IsValidRelation_es N) (by kernel_rfl) mixed Try.func139 (by kernel_rfl) (un1_pk .bool) (spec_IsValidRelation_v N s)⟩
noncomputable def spec_AreValidRelations_es (N : Nat) : List (Entry Try.prog) := [spec_IsValidRelation_e N]
def spec_AreValidRelations_sg : Sig := ⟨[.val ty6], [(.bool, true)], false⟩
def spec_AreValidRelations_an : Nat → Option (List Nat)
  | 0 => some [0, 3]
  | _ => none
noncomputable def spec_AreValidRelations_lp (N : Nat) (p : List Dir) (rs : List (Env → Option (Bool))) (k : Nat) (env : Env) : Option (Bool) :=
  loopAt Tb (sigL (spec_AreValidRelations_es N)) cps (orcL (spec_AreValidRelations_es N)) N spec_AreValidRelations_an p (Try.f112.body.getD .skip) (endK Tb spec_AreValidRelations_sg Try.f112 (un1 .bool)) rs k env
noncomputable def spec_AreValidRelations_l0_E (N : Nat) (k_ : Nat) (l2 : List (ByteArray × Int × Int)) (i : Int) : Option (Bool) :=
  spec_AreValidRelations_lp N [.r, .l, .r, .b] [] k_ (.con .val [lf ty6 l2 .ro] :: (un 2 (.con .val [lf i64 i .ro] :: (un 33 []))))
theorem spec_AreValidRelations_l0_z (N : Nat) (l2 : List (ByteArray × Int × Int)) (i : Int) : spec_AreValidRelations_l0_E N 0 l2 i = none := by kernel_rfl
theorem spec_AreValidRelations_l0_s (N : Nat) (k_ : Nat) (l2 : List (ByteArray × Int × Int)) (i : Int) : spec_AreValidRelations_l0_E N (k_ + 1) l2 i = spec_AreValidRelations_l0_b N (spec_AreValidRelations_l0_E N k_) l2 i := by kernel_rfl
theorem spec_AreValidRelations_l0_q (N : Nat) : ∀ k_, spec_AreValidRelations_l0_E N k_ = spec_AreValidRelations_l0 N k_
  | 0 => by funext l2 i; exact spec_AreValidRelations_l0_z N l2 i
  | k_ + 1 => by funext l2 i; rw [spec_AreValidRelations_l0_s]; simp only [spec_AreValidRelations_l0_q N k_]; rfl
theorem spec_AreValidRelations_v (N : Nat) (l : List (ByteArray × Int × Int)) :
    evFn Tb (sigL (spec_AreValidRelations_es N)) cps (orcL (spec_AreValidRelations_es N)) (drawReg Tb (sigL (spec_AreValidRelations_es N)) cps (orcL (spec_AreValidRelations_es N))) N spec_AreValidRelations_an spec_AreValidRelations_sg Try.f112 (Try.f112.body.getD .skip) [.val ty6 l] (un1 .bool) = spec_AreValidRelations_b N (spec_AreValidRelations_l0_E N N) l := by kernel_rfl
noncomputable def spec_AreValidRelations_e (N : Nat) : Entry Try.prog := ⟨112, spec_AreValidRelations_sg, [.v ty6], Bool, spec_AreValidRelations N, pk1 .bool, rfl, entry_en Try.func112 (code := Try.f112.body.getD .skip) (by kernel_rfl) (by kernel_rfl),
  fun l => entry_ok tab_ok (es := spec_AreValidRelations_es N) (by kernel_rfl) mixed Try.func112 (by kernel_rfl) (un1_pk .bool) (by rw [spec_AreValidRelations_v, spec_AreValidRelations_l0_q]; rfl)⟩
noncomputable def spec_IsValidFact_es (N : Nat) : List (Entry Try.prog) := [spec_l1In_e N, spec_AreValidRelations_e N]
def spec_IsValidFact_sg : Sig := ⟨[.val ty6, .val ty3], [(.bool, true)], false⟩
def spec_IsValidFact_an : Nat → Option (List Nat)
  | 0 => some [3, 5]
  | _ => none
noncomputable def spec_IsValidFact_lp (N : Nat) (p : List Dir) (rs : List (Env → Option (Bool))) (k : Nat) (env : Env) : Option (Bool) :=
  loopAt Tb (sigL (spec_IsValidFact_es N)) cps (orcL (spec_IsValidFact_es N)) N spec_IsValidFact_an p (Try.f110.body.getD .skip) (endK Tb spec_IsValidFact_sg Try.f110 (un1 .bool)) rs k env
noncomputable def spec_IsValidFact_l0_E (N : Nat) (k_ : Nat) (f2 : Int) (f3 : List Int) (i : Int) : Option (Bool) :=
  spec_IsValidFact_lp N [.r, .r, .l, .r, .b] [] k_ (un 3 (.con (.box 118) [lf i64 f2 .ro, lf ty2 f3 .ro] :: (un 1 (.con .val [lf i64 i .ro] :: (un 38 [])))))
theorem spec_IsValidFact_l0_z (N : Nat) (f2 : Int) (f3 : List Int) (i : Int) : spec_IsValidFact_l0_E N 0 f2 f3 i = none := by kernel_rfl
theorem spec_IsValidFact_l0_s (N : Nat) (k_ : Nat) (f2 : Int) (f3 : List Int) (i : Int) : spec_IsValidFact_l0_E N (k_ + 1) f2 f3 i = spec_IsValidFact_l0_b N (spec_IsValidFact_l0_E N k_) f2 f3 i := by kernel_rfl
theorem spec_IsValidFact_l0_q (N : Nat) : ∀ k_, spec_IsValidFact_l0_E N k_ = spec_IsValidFact_l0 N k_
  | 0 => by funext f2 f3 i; exact spec_IsValidFact_l0_z N f2 f3 i
  | k_ + 1 => by funext f2 f3 i; rw [spec_IsValidFact_l0_s]; simp only [spec_IsValidFact_l0_q N k_]; rfl
theorem spec_IsValidFact_v (N : Nat) (l : List (ByteArray × Int × Int)) (f : Int × List Int) :
    evFn Tb (sigL (spec_IsValidFact_es N)) cps (orcL (spec_IsValidFact_es N)) (drawReg Tb (sigL (spec_IsValidFact_es N)) cps (orcL (spec_IsValidFact_es N))) N spec_IsValidFact_an spec_IsValidFact_sg Try.f110 (Try.f110.body.getD .skip) [.val ty6 l, .val ty3 f] (un1 .bool) = spec_IsValidFact_b N (spec_IsValidFact_l0_E N N) l f := by kernel_rfl
noncomputable def spec_IsValidFact_e (N : Nat) : Entry Try.prog := ⟨110, spec_IsValidFact_sg, [.v ty6, .v ty3], Bool, spec_IsValidFact N, pk1 .bool, rfl, entry_en Try.func110 (code := Try.f110.body.getD .skip) (by kernel_rfl) (by kernel_rfl),
  fun l f => entry_ok tab_ok (es := spec_IsValidFact_es N) (by kernel_rfl) mixed Try.func110 (by kernel_rfl) (un1_pk .bool) (by rw [spec_IsValidFact_v, spec_IsValidFact_l0_q]; rfl)⟩
noncomputable def spec_l3Ints_es (N : Nat) : List (Entry Try.prog) := []
def spec_l3Ints_sg : Sig := ⟨[.val ty2, .val ty2], [(i64, true)], false⟩
def spec_l3Ints_an : Nat → Option (List Nat)
  | 0 => some [0, 1, 5]
  | _ => none
noncomputable def spec_l3Ints_lp (N : Nat) (p : List Dir) (rs : List (Env → Option (Int))) (k : Nat) (env : Env) : Option (Int) :=
  loopAt Tb (sigL (spec_l3Ints_es N)) cps (orcL (spec_l3Ints_es N)) N spec_l3Ints_an p (Try.f138.body.getD .skip) (endK Tb spec_l3Ints_sg Try.f138 (un1 i64)) rs k env
noncomputable def spec_l3Ints_l0_E (N : Nat) (k_ : Nat) (a2 : List Int) (b2 : List Int) (i : Int) : Option (Int) :=
  spec_l3Ints_lp N [.r, .l, .r, .b] [] k_ (.con .val [lf ty2 a2 .ro] :: (.con .val [lf ty2 b2 .ro] :: (un 3 (.con .val [lf i64 i .ro] :: (un 40 [])))))
theorem spec_l3Ints_l0_z (N : Nat) (a2 : List Int) (b2 : List Int) (i : Int) : spec_l3Ints_l0_E N 0 a2 b2 i = none := by kernel_rfl
theorem spec_l3Ints_l0_s (N : Nat) (k_ : Nat) (a2 : List Int) (b2 : List Int) (i : Int) : spec_l3Ints_l0_E N (k_ + 1) a2 b2 i = spec_l3Ints_l0_b N (spec_l3Ints_l0_E N k_) a2 b2 i := by kernel_rfl
theorem spec_l3Ints_l0_q (N : Nat) : ∀ k_, spec_l3Ints_l0_E N k_ = spec_l3Ints_l0 N k_
  | 0 => by funext a2 b2 i; exact spec_l3Ints_l0_z N a2 b2 i
  | k_ + 1 => by funext a2 b2 i; rw [spec_l3Ints_l0_s]; simp only [spec_l3Ints_l0_q N k_]; rfl
theorem spec_l3Ints_v (N : Nat) (a : List Int) (b : List Int) :
    evFn Tb (sigL (spec_l3Ints_es N)) cps (orcL (spec_l3Ints_es N)) (drawReg Tb (sigL (spec_l3Ints_es N)) cps (orcL (spec_l3Ints_es N))) N spec_l3Ints_an spec_l3Ints_sg Try.f138 (Try.f138.body.getD .skip) [.val ty2 a, .val ty2 b] (un1 i64) = spec_l3Ints_b N (spec_l3Ints_l0_E N N) a b := by kernel_rfl
noncomputable def spec_l3Ints_e (N : Nat) : Entry Try.prog := ⟨138, spec_l3Ints_sg, [.v ty2, .v ty2], Int, spec_l3Ints N, pk1 i64, rfl, entry_en Try.func138 (code := Try.f138.body.getD .skip) (by kernel_rfl) (by kernel_rfl),
  fun a b => entry_ok tab_ok (es := spec_l3Ints_es N) (by kernel_rfl) mixed Try.func138 (by kernel_rfl) (un1_pk i64) (by rw [spec_l3Ints_v, spec_l3Ints_l0_q]; rfl)⟩
noncomputable def spec_CompareFacts_es (N : Nat) : List (Entry Try.prog) := [spec_l3Ints_e N]
def spec_CompareFacts_sg : Sig := ⟨[.val ty3, .val ty3], [(i64, true)], false⟩
def spec_CompareFacts_an : Nat → Option (List Nat) := fun _ => none
theorem spec_CompareFacts_v (N : Nat) (a : Int × List Int) (b : Int × List Int) :
    evFn Tb (sigL (spec_CompareFacts_es N)) cps (orcL (spec_CompareFacts_es N)) (drawReg Tb (sigL (spec_CompareFacts_es N)) cps (orcL (spec_CompareFacts_es N))) N spec_CompareFacts_an spec_CompareFacts_sg Try.f111 (Try.f111.body.getD .skip) [.val ty3 a, .val ty3 b] (un1 i64) = spec_CompareFacts N a b := by kernel_rfl
noncomputable def spec_CompareFacts_e (N : Nat) : Entry Try.prog := ⟨111, spec_CompareFacts_sg, [.v ty3, .v ty3], Int, spec_CompareFacts N, pk1 i64, rfl, entry_en Try.func111 (code := Try.f111.body.getD .skip) (by kernel_rfl) (by kernel_rfl),
  fun a b => entry_ok tab_ok (es := spec_CompareFacts_es N) (by kernel_rfl) mixed Try.func111 (by kernel_rfl) (un1_pk i64) (spec_CompareFacts_v N a b)⟩
noncomputable def spec_IsValidDatabase_es (N : Nat) : List (Entry Try.prog) := [spec_IsValidFact_e N, spec_CompareFacts_e N, spec_AreValidRelations_e N]
def spec_IsValidDatabase_sg : Sig := ⟨[.val ty8], [(.bool, true)], false⟩
def spec_IsValidDatabase_an : Nat → Option (List Nat)
  | 0 => some [1, 3]
  | _ => none
noncomputable def spec_IsValidDatabase_lp (N : Nat) (p : List Dir) (rs : List (Env → Option (Bool))) (k : Nat) (env : Env) : Option (Bool) :=
  loopAt Tb (sigL (spec_IsValidDatabase_es N)) cps (orcL (spec_IsValidDatabase_es N)) N spec_IsValidDatabase_an p (Try.f66.body.getD .skip) (endK Tb spec_IsValidDatabase_sg Try.f66 (un1 .bool)) rs k env
noncomputable def spec_IsValidDatabase_l0_E (N : Nat) (k_ : Nat) (d2 : List (ByteArray × Int × Int)) (d3 : List (Int × List Int)) (i : Int) : Option (Bool) :=
  spec_IsValidDatabase_lp N [.r, .l, .r, .b] [] k_ (un 1 (.con (.box 48) [lf ty6 d2 .ro, lf ty7 d3 .ro] :: (un 1 (.con .val [lf i64 i .ro] :: (un 44 [])))))
theorem spec_IsValidDatabase_l0_z (N : Nat) (d2 : List (ByteArray × Int × Int)) (d3 : List (Int × List Int)) (i : Int) : spec_IsValidDatabase_l0_E N 0 d2 d3 i = none := by kernel_rfl
theorem spec_IsValidDatabase_l0_s (N : Nat) (k_ : Nat) (d2 : List (ByteArray × Int × Int)) (d3 : List (Int × List Int)) (i : Int) : spec_IsValidDatabase_l0_E N (k_ + 1) d2 d3 i = spec_IsValidDatabase_l0_b N (spec_IsValidDatabase_l0_E N k_) d2 d3 i := by kernel_rfl
theorem spec_IsValidDatabase_l0_q (N : Nat) : ∀ k_, spec_IsValidDatabase_l0_E N k_ = spec_IsValidDatabase_l0 N k_
  | 0 => by funext d2 d3 i; exact spec_IsValidDatabase_l0_z N d2 d3 i
  | k_ + 1 => by funext d2 d3 i; rw [spec_IsValidDatabase_l0_s]; simp only [spec_IsValidDatabase_l0_q N k_]; rfl
theorem spec_IsValidDatabase_v (N : Nat) (d : List (ByteArray × Int × Int) × List (Int × List Int)) :
    evFn Tb (sigL (spec_IsValidDatabase_es N)) cps (orcL (spec_IsValidDatabase_es N)) (drawReg Tb (sigL (spec_IsValidDatabase_es N)) cps (orcL (spec_IsValidDatabase_es N))) N spec_IsValidDatabase_an spec_IsValidDatabase_sg Try.f66 (Try.f66.body.getD .skip) [.val ty8 d] (un1 .bool) = spec_IsValidDatabase_b N (spec_IsValidDatabase_l0_E N N) d := by kernel_rfl
noncomputable def spec_IsValidDatabase_e (N : Nat) : Entry Try.prog := ⟨66, spec_IsValidDatabase_sg, [.v ty8], Bool, spec_IsValidDatabase N, pk1 .bool, rfl, entry_en Try.func66 (code := Try.f66.body.getD .skip) (by kernel_rfl) (by kernel_rfl),
  fun d => entry_ok tab_ok (es := spec_IsValidDatabase_es N) (by kernel_rfl) mixed Try.func66 (by kernel_rfl) (un1_pk .bool) (by rw [spec_IsValidDatabase_v, spec_IsValidDatabase_l0_q]; rfl)⟩
noncomputable def spec_l27Ok_es (N : Nat) : List (Entry Try.prog) := [spec_IsValidDatabase_e N, spec_l1In_e N]
def spec_l27Ok_sg : Sig := ⟨[.val ty8, .val i64, .val i64], [(.bool, true)], false⟩
def spec_l27Ok_an : Nat → Option (List Nat) := fun _ => none
theorem spec_l27Ok_v (N : Nat) (d : List (ByteArray × Int × Int) × List (Int × List Int)) (r : Int) (col : Int) :
    evFn Tb (sigL (spec_l27Ok_es N)) cps (orcL (spec_l27Ok_es N)) (drawReg Tb (sigL (spec_l27Ok_es N)) cps (orcL (spec_l27Ok_es N))) N spec_l27Ok_an spec_l27Ok_sg Try.f101 (Try.f101.body.getD .skip) [.val ty8 d, .val i64 r, .val i64 col] (un1 .bool) = spec_l27Ok N d r col := by kernel_rfl
noncomputable def spec_l27Ok_e (N : Nat) : Entry Try.prog := ⟨101, spec_l27Ok_sg, [.v ty8, .v i64, .v i64], Bool, spec_l27Ok N, pk1 .bool, rfl, entry_en Try.func101 (code := Try.f101.body.getD .skip) (by kernel_rfl) (by kernel_rfl),
  fun d r col => entry_ok tab_ok (es := spec_l27Ok_es N) (by kernel_rfl) mixed Try.func101 (by kernel_rfl) (un1_pk .bool) (spec_l27Ok_v N d r col)⟩
noncomputable def spec_KeyOf_es (N : Nat) : List (Entry Try.prog) := [spec_IsValidFact_e N]
def spec_KeyOf_sg : Sig := ⟨[.val ty6, .val ty3], [(ty2, true)], false⟩
def spec_KeyOf_an : Nat → Option (List Nat) := fun _ => none
theorem spec_KeyOf_v (N : Nat) (l : List (ByteArray × Int × Int)) (f : Int × List Int) :
    evFn Tb (sigL (spec_KeyOf_es N)) cps (orcL (spec_KeyOf_es N)) (drawReg Tb (sigL (spec_KeyOf_es N)) cps (orcL (spec_KeyOf_es N))) N spec_KeyOf_an spec_KeyOf_sg Try.f170 (Try.f170.body.getD .skip) [.val ty6 l, .val ty3 f] (un1 ty2) = spec_KeyOf N l f := by kernel_rfl
noncomputable def spec_KeyOf_e (N : Nat) : Entry Try.prog := ⟨170, spec_KeyOf_sg, [.v ty6, .v ty3], List Int, spec_KeyOf N, pk1 ty2, rfl, entry_en Try.func170 (code := Try.f170.body.getD .skip) (by kernel_rfl) (by kernel_rfl),
  fun l f => entry_ok tab_ok (es := spec_KeyOf_es N) (by kernel_rfl) mixed Try.func170 (by kernel_rfl) (un1_pk ty2) (spec_KeyOf_v N l f)⟩
noncomputable def spec_HaveSameKey_es (N : Nat) : List (Entry Try.prog) := [spec_IsValidFact_e N, spec_KeyOf_e N, spec_l3Ints_e N]
def spec_HaveSameKey_sg : Sig := ⟨[.val ty6, .val ty3, .val ty3], [(.bool, true)], false⟩
def spec_HaveSameKey_an : Nat → Option (List Nat) := fun _ => none
theorem spec_HaveSameKey_v (N : Nat) (l : List (ByteArray × Int × Int)) (a : Int × List Int) (b : Int × List Int) :
    evFn Tb (sigL (spec_HaveSameKey_es N)) cps (orcL (spec_HaveSameKey_es N)) (drawReg Tb (sigL (spec_HaveSameKey_es N)) cps (orcL (spec_HaveSameKey_es N))) N spec_HaveSameKey_an spec_HaveSameKey_sg Try.f157 (Try.f157.body.getD .skip) [.val ty6 l, .val ty3 a, .val ty3 b] (un1 .bool) = spec_HaveSameKey N l a b := by kernel_rfl
noncomputable def spec_HaveSameKey_e (N : Nat) : Entry Try.prog := ⟨157, spec_HaveSameKey_sg, [.v ty6, .v ty3, .v ty3], Bool, spec_HaveSameKey N, pk1 .bool, rfl, entry_en Try.func157 (code := Try.f157.body.getD .skip) (by kernel_rfl) (by kernel_rfl),
  fun l a b => entry_ok tab_ok (es := spec_HaveSameKey_es N) (by kernel_rfl) mixed Try.func157 (by kernel_rfl) (un1_pk .bool) (spec_HaveSameKey_v N l a b)⟩
noncomputable def spec_BlockOf_es (N : Nat) : List (Entry Try.prog) := [spec_IsValidDatabase_e N, spec_l1In_e N, spec_HaveSameKey_e N]
def spec_BlockOf_sg : Sig := ⟨[.val ty8, .val i64], [(ty2, true)], false⟩
def spec_BlockOf_an : Nat → Option (List Nat)
  | 0 => some [1, 2, 5, 6]
  | _ => none
noncomputable def spec_BlockOf_lp (N : Nat) (p : List Dir) (rs : List (Env → Option (List Int))) (k : Nat) (env : Env) : Option (List Int) :=
  loopAt Tb (sigL (spec_BlockOf_es N)) cps (orcL (spec_BlockOf_es N)) N spec_BlockOf_an p (Try.f133.body.getD .skip) (endK Tb spec_BlockOf_sg Try.f133 (un1 ty2)) rs k env
noncomputable def spec_BlockOf_l0_E (N : Nat) (k_ : Nat) (i2 : Int) (d2 : List (ByteArray × Int × Int)) (d3 : List (Int × List Int)) (out : List Int) (k : Int) : Option (List Int) :=
  spec_BlockOf_lp N [.r, .r, .l, .r, .b] [] k_ (un 1 (.con .val [lf i64 i2 .ro] :: (.con (.box 48) [lf ty6 d2 .ro, lf ty7 d3 .ro] :: (un 2 (.con .val [lf ty2 out .dp] :: (.con .val [lf i64 k .ro] :: (un 38 [])))))))
theorem spec_BlockOf_l0_z (N : Nat) (i2 : Int) (d2 : List (ByteArray × Int × Int)) (d3 : List (Int × List Int)) (out : List Int) (k : Int) : spec_BlockOf_l0_E N 0 i2 d2 d3 out k = none := by kernel_rfl
theorem spec_BlockOf_l0_s (N : Nat) (k_ : Nat) (i2 : Int) (d2 : List (ByteArray × Int × Int)) (d3 : List (Int × List Int)) (out : List Int) (k : Int) : spec_BlockOf_l0_E N (k_ + 1) i2 d2 d3 out k = spec_BlockOf_l0_b N (spec_BlockOf_l0_E N k_) i2 d2 d3 out k := by kernel_rfl
theorem spec_BlockOf_l0_q (N : Nat) : ∀ k_, spec_BlockOf_l0_E N k_ = spec_BlockOf_l0 N k_
  | 0 => by funext i2 d2 d3 out k; exact spec_BlockOf_l0_z N i2 d2 d3 out k
  | k_ + 1 => by funext i2 d2 d3 out k; rw [spec_BlockOf_l0_s]; simp only [spec_BlockOf_l0_q N k_]; rfl
theorem spec_BlockOf_v (N : Nat) (d : List (ByteArray × Int × Int) × List (Int × List Int)) (i : Int) :
    evFn Tb (sigL (spec_BlockOf_es N)) cps (orcL (spec_BlockOf_es N)) (drawReg Tb (sigL (spec_BlockOf_es N)) cps (orcL (spec_BlockOf_es N))) N spec_BlockOf_an spec_BlockOf_sg Try.f133 (Try.f133.body.getD .skip) [.val ty8 d, .val i64 i] (un1 ty2) = spec_BlockOf_b N (spec_BlockOf_l0_E N N) d i := by kernel_rfl
noncomputable def spec_BlockOf_e (N : Nat) : Entry Try.prog := ⟨133, spec_BlockOf_sg, [.v ty8, .v i64], List Int, spec_BlockOf N, pk1 ty2, rfl, entry_en Try.func133 (code := Try.f133.body.getD .skip) (by kernel_rfl) (by kernel_rfl),
  fun d i => entry_ok tab_ok (es := spec_BlockOf_es N) (by kernel_rfl) mixed Try.func133 (by kernel_rfl) (un1_pk ty2) (by rw [spec_BlockOf_v, spec_BlockOf_l0_q]; rfl)⟩
noncomputable def spec_Blocks_es (N : Nat) : List (Entry Try.prog) := [spec_IsValidDatabase_e N, spec_BlockOf_e N]
def spec_Blocks_sg : Sig := ⟨[.val ty8], [(ty9, true)], false⟩
def spec_Blocks_an : Nat → Option (List Nat)
  | 0 => some [1, 3, 4]
  | _ => none
noncomputable def spec_Blocks_lp (N : Nat) (p : List Dir) (rs : List (Env → Option (List (List Int)))) (k : Nat) (env : Env) : Option (List (List Int)) :=
  loopAt Tb (sigL (spec_Blocks_es N)) cps (orcL (spec_Blocks_es N)) N spec_Blocks_an p (Try.f94.body.getD .skip) (endK Tb spec_Blocks_sg Try.f94 (un1 ty9)) rs k env
noncomputable def spec_Blocks_l0_E (N : Nat) (k_ : Nat) (d2 : List (ByteArray × Int × Int)) (d3 : List (Int × List Int)) (out : List (List Int)) (i : Int) : Option (List (List Int)) :=
  spec_Blocks_lp N [.r, .r, .l, .r, .b] [] k_ (un 1 (.con (.box 48) [lf ty6 d2 .ro, lf ty7 d3 .ro] :: (un 1 (.con .val [lf ty9 out .dp] :: (.con .val [lf i64 i .ro] :: (un 26 []))))))
theorem spec_Blocks_l0_z (N : Nat) (d2 : List (ByteArray × Int × Int)) (d3 : List (Int × List Int)) (out : List (List Int)) (i : Int) : spec_Blocks_l0_E N 0 d2 d3 out i = none := by kernel_rfl
theorem spec_Blocks_l0_s (N : Nat) (k_ : Nat) (d2 : List (ByteArray × Int × Int)) (d3 : List (Int × List Int)) (out : List (List Int)) (i : Int) : spec_Blocks_l0_E N (k_ + 1) d2 d3 out i = spec_Blocks_l0_b N (spec_Blocks_l0_E N k_) d2 d3 out i := by kernel_rfl
theorem spec_Blocks_l0_q (N : Nat) : ∀ k_, spec_Blocks_l0_E N k_ = spec_Blocks_l0 N k_
  | 0 => by funext d2 d3 out i; exact spec_Blocks_l0_z N d2 d3 out i
  | k_ + 1 => by funext d2 d3 out i; rw [spec_Blocks_l0_s]; simp only [spec_Blocks_l0_q N k_]; rfl
theorem spec_Blocks_v (N : Nat) (d : List (ByteArray × Int × Int) × List (Int × List Int)) :
    evFn Tb (sigL (spec_Blocks_es N)) cps (orcL (spec_Blocks_es N)) (drawReg Tb (sigL (spec_Blocks_es N)) cps (orcL (spec_Blocks_es N))) N spec_Blocks_an spec_Blocks_sg Try.f94 (Try.f94.body.getD .skip) [.val ty8 d] (un1 ty9) = spec_Blocks_b N (spec_Blocks_l0_E N N) d := by kernel_rfl
noncomputable def spec_Blocks_e (N : Nat) : Entry Try.prog := ⟨94, spec_Blocks_sg, [.v ty8], List (List Int), spec_Blocks N, pk1 ty9, rfl, entry_en Try.func94 (code := Try.f94.body.getD .skip) (by kernel_rfl) (by kernel_rfl),
  fun d => entry_ok tab_ok (es := spec_Blocks_es N) (by kernel_rfl) mixed Try.func94 (by kernel_rfl) (un1_pk ty9) (by rw [spec_Blocks_v, spec_Blocks_l0_q]; rfl)⟩
noncomputable def spec_l27Least_es (N : Nat) : List (Entry Try.prog) := []
def spec_l27Least_sg : Sig := ⟨[.val ty2], [(i64, true)], false⟩
def spec_l27Least_an : Nat → Option (List Nat)
  | 0 => some [0, 3, 4]
  | _ => none
noncomputable def spec_l27Least_lp (N : Nat) (p : List Dir) (rs : List (Env → Option (Int))) (k : Nat) (env : Env) : Option (Int) :=
  loopAt Tb (sigL (spec_l27Least_es N)) cps (orcL (spec_l27Least_es N)) N spec_l27Least_an p (Try.f102.body.getD .skip) (endK Tb spec_l27Least_sg Try.f102 (un1 i64)) rs k env
noncomputable def spec_l27Least_l0_E (N : Nat) (k_ : Nat) (l2 : List Int) (n : Int) (i : Int) : Option (Int) :=
  spec_l27Least_lp N [.r, .r, .l, .r, .b] [] k_ (.con .val [lf ty2 l2 .ro] :: (un 2 (.con .val [lf i64 n .ro] :: (.con .val [lf i64 i .ro] :: (un 16 [])))))
theorem spec_l27Least_l0_z (N : Nat) (l2 : List Int) (n : Int) (i : Int) : spec_l27Least_l0_E N 0 l2 n i = none := by kernel_rfl
theorem spec_l27Least_l0_s (N : Nat) (k_ : Nat) (l2 : List Int) (n : Int) (i : Int) : spec_l27Least_l0_E N (k_ + 1) l2 n i = spec_l27Least_l0_b N (spec_l27Least_l0_E N k_) l2 n i := by kernel_rfl
theorem spec_l27Least_l0_q (N : Nat) : ∀ k_, spec_l27Least_l0_E N k_ = spec_l27Least_l0 N k_
  | 0 => by funext l2 n i; exact spec_l27Least_l0_z N l2 n i
  | k_ + 1 => by funext l2 n i; rw [spec_l27Least_l0_s]; simp only [spec_l27Least_l0_q N k_]; rfl
theorem spec_l27Least_v (N : Nat) (l : List Int) :
    evFn Tb (sigL (spec_l27Least_es N)) cps (orcL (spec_l27Least_es N)) (drawReg Tb (sigL (spec_l27Least_es N)) cps (orcL (spec_l27Least_es N))) N spec_l27Least_an spec_l27Least_sg Try.f102 (Try.f102.body.getD .skip) [.val ty2 l] (un1 i64) = spec_l27Least_b N (spec_l27Least_l0_E N N) l := by kernel_rfl
noncomputable def spec_l27Least_e (N : Nat) : Entry Try.prog := ⟨102, spec_l27Least_sg, [.v ty2], Int, spec_l27Least N, pk1 i64, rfl, entry_en Try.func102 (code := Try.f102.body.getD .skip) (by kernel_rfl) (by kernel_rfl),
  fun l => entry_ok tab_ok (es := spec_l27Least_es N) (by kernel_rfl) mixed Try.func102 (by kernel_rfl) (un1_pk i64) (by rw [spec_l27Least_v, spec_l27Least_l0_q]; rfl)⟩
noncomputable def spec_l27Most_es (N : Nat) : List (Entry Try.prog) := []
def spec_l27Most_sg : Sig := ⟨[.val ty2], [(i64, true)], false⟩
def spec_l27Most_an : Nat → Option (List Nat)
  | 0 => some [0, 3, 4]
  | _ => none
noncomputable def spec_l27Most_lp (N : Nat) (p : List Dir) (rs : List (Env → Option (Int))) (k : Nat) (env : Env) : Option (Int) :=
  loopAt Tb (sigL (spec_l27Most_es N)) cps (orcL (spec_l27Most_es N)) N spec_l27Most_an p (Try.f103.body.getD .skip) (endK Tb spec_l27Most_sg Try.f103 (un1 i64)) rs k env
noncomputable def spec_l27Most_l0_E (N : Nat) (k_ : Nat) (l2 : List Int) (n : Int) (i : Int) : Option (Int) :=
  spec_l27Most_lp N [.r, .r, .l, .r, .b] [] k_ (.con .val [lf ty2 l2 .ro] :: (un 2 (.con .val [lf i64 n .ro] :: (.con .val [lf i64 i .ro] :: (un 16 [])))))
theorem spec_l27Most_l0_z (N : Nat) (l2 : List Int) (n : Int) (i : Int) : spec_l27Most_l0_E N 0 l2 n i = none := by kernel_rfl
theorem spec_l27Most_l0_s (N : Nat) (k_ : Nat) (l2 : List Int) (n : Int) (i : Int) : spec_l27Most_l0_E N (k_ + 1) l2 n i = spec_l27Most_l0_b N (spec_l27Most_l0_E N k_) l2 n i := by kernel_rfl
theorem spec_l27Most_l0_q (N : Nat) : ∀ k_, spec_l27Most_l0_E N k_ = spec_l27Most_l0 N k_
  | 0 => by funext l2 n i; exact spec_l27Most_l0_z N l2 n i
  | k_ + 1 => by funext l2 n i; rw [spec_l27Most_l0_s]; simp only [spec_l27Most_l0_q N k_]; rfl
theorem spec_l27Most_v (N : Nat) (l : List Int) :
    evFn Tb (sigL (spec_l27Most_es N)) cps (orcL (spec_l27Most_es N)) (drawReg Tb (sigL (spec_l27Most_es N)) cps (orcL (spec_l27Most_es N))) N spec_l27Most_an spec_l27Most_sg Try.f103 (Try.f103.body.getD .skip) [.val ty2 l] (un1 i64) = spec_l27Most_b N (spec_l27Most_l0_E N N) l := by kernel_rfl
noncomputable def spec_l27Most_e (N : Nat) : Entry Try.prog := ⟨103, spec_l27Most_sg, [.v ty2], Int, spec_l27Most N, pk1 i64, rfl, entry_en Try.func103 (code := Try.f103.body.getD .skip) (by kernel_rfl) (by kernel_rfl),
  fun l => entry_ok tab_ok (es := spec_l27Most_es N) (by kernel_rfl) mixed Try.func103 (by kernel_rfl) (un1_pk i64) (by rw [spec_l27Most_v, spec_l27Most_l0_q]; rfl)⟩
noncomputable def spec_GroupSumRange_es (N : Nat) : List (Entry Try.prog) := [spec_l27Least_e N, spec_l27Most_e N, spec_l27Ok_e N, spec_Blocks_e N]
def spec_GroupSumRange_sg : Sig := ⟨[.val ty8, .val i64, .val i64, .val i64, .val i64], [(i64, true), (i64, true), (.bool, true)], false⟩
def spec_GroupSumRange_an : Nat → Option (List Nat)
  | 0 => some [1, 2, 3, 4, 5, 13, 14, 15, 16]
  | 2 => some [1, 2, 3, 4, 5, 13, 14, 15, 16, 17, 18]
  | _ => none
noncomputable def spec_GroupSumRange_lp (N : Nat) (p : List Dir) (rs : List (Env → Option (Int × Int × Bool))) (k : Nat) (env : Env) : Option (Int × Int × Bool) :=
  loopAt Tb (sigL (spec_GroupSumRange_es N)) cps (orcL (spec_GroupSumRange_es N)) N spec_GroupSumRange_an p (Try.f56.body.getD .skip) (endK Tb spec_GroupSumRange_sg Try.f56 (un3 i64 i64 .bool)) rs k env
noncomputable def spec_GroupSumRange_l1_E (N : Nat) (k0_ : Nat) (k_ : Nat) (r6 : Int) (by_3 : Int) (col3 : Int) (v3 : Int) (d4 : List (ByteArray × Int × Int)) (d5 : List (Int × List Int)) (lo2 : Int) (hi2 : Int) (b2 : List (List Int)) (i2 : Int) (l : List Int) (k : Int) : Option (Int × Int × Bool) :=
  spec_GroupSumRange_lp N [.r, .r, .r, .r, .r, .l, .r, .b, .b, .r, .l, .b, .r, .r, .l, .r, .b] [spec_GroupSumRange_lp N [.r, .r, .r, .r, .r, .l, .r, .b] [] k0_] k_ (un 1 (.con .val [lf i64 r6 .ro] :: (.con .val [lf i64 by_3 .ro] :: (.con .val [lf i64 col3 .ro] :: (.con .val [lf i64 v3 .ro] :: (.con (.box 48) [lf ty6 d4 .ro, lf ty7 d5 .ro] :: (un 7 (.con .val [lf i64 lo2 .ro] :: (.con .val [lf i64 hi2 .ro] :: (.con .val [lf ty9 b2 .dp] :: (.con .val [lf i64 i2 .ro] :: (.con .val [lf ty2 l .dp] :: (.con .val [lf i64 k .ro] :: (un 90 []))))))))))))))
noncomputable def spec_GroupSumRange_l0_E (N : Nat) (k_ : Nat) (r5 : Int) (by_2 : Int) (col2 : Int) (v2 : Int) (d2 : List (ByteArray × Int × Int)) (d3 : List (Int × List Int)) (lo : Int) (hi : Int) (b : List (List Int)) (i : Int) : Option (Int × Int × Bool) :=
  spec_GroupSumRange_lp N [.r, .r, .r, .r, .r, .l, .r, .b] [] k_ (un 1 (.con .val [lf i64 r5 .ro] :: (.con .val [lf i64 by_2 .ro] :: (.con .val [lf i64 col2 .ro] :: (.con .val [lf i64 v2 .ro] :: (.con (.box 48) [lf ty6 d2 .ro, lf ty7 d3 .ro] :: (un 7 (.con .val [lf i64 lo .ro] :: (.con .val [lf i64 hi .ro] :: (.con .val [lf ty9 b .dp] :: (.con .val [lf i64 i .ro] :: (un 92 []))))))))))))
theorem spec_GroupSumRange_l1_z (N : Nat) (k0_ : Nat) (r6 : Int) (by_3 : Int) (col3 : Int) (v3 : Int) (d4 : List (ByteArray × Int × Int)) (d5 : List (Int × List Int)) (lo2 : Int) (hi2 : Int) (b2 : List (List Int)) (i2 : Int) (l : List Int) (k : Int) : spec_GroupSumRange_l1_E N k0_ 0 r6 by_3 col3 v3 d4 d5 lo2 hi2 b2 i2 l k = none := by kernel_rfl
theorem spec_GroupSumRange_l1_s (N : Nat) (k0_ : Nat) (k_ : Nat) (r6 : Int) (by_3 : Int) (col3 : Int) (v3 : Int) (d4 : List (ByteArray × Int × Int)) (d5 : List (Int × List Int)) (lo2 : Int) (hi2 : Int) (b2 : List (List Int)) (i2 : Int) (l : List Int) (k : Int) : spec_GroupSumRange_l1_E N k0_ (k_ + 1) r6 by_3 col3 v3 d4 d5 lo2 hi2 b2 i2 l k = spec_GroupSumRange_l1_b N (spec_GroupSumRange_l0_E N k0_) (spec_GroupSumRange_l1_E N k0_ k_) r6 by_3 col3 v3 d4 d5 lo2 hi2 b2 i2 l k := by kernel_rfl
theorem spec_GroupSumRange_l0_z (N : Nat) (r5 : Int) (by_2 : Int) (col2 : Int) (v2 : Int) (d2 : List (ByteArray × Int × Int)) (d3 : List (Int × List Int)) (lo : Int) (hi : Int) (b : List (List Int)) (i : Int) : spec_GroupSumRange_l0_E N 0 r5 by_2 col2 v2 d2 d3 lo hi b i = none := by kernel_rfl
theorem spec_GroupSumRange_l0_s (N : Nat) (k_ : Nat) (r5 : Int) (by_2 : Int) (col2 : Int) (v2 : Int) (d2 : List (ByteArray × Int × Int)) (d3 : List (Int × List Int)) (lo : Int) (hi : Int) (b : List (List Int)) (i : Int) : spec_GroupSumRange_l0_E N (k_ + 1) r5 by_2 col2 v2 d2 d3 lo hi b i = spec_GroupSumRange_l0_b N (spec_GroupSumRange_l1_E N k_ N) (spec_GroupSumRange_l0_E N k_) r5 by_2 col2 v2 d2 d3 lo hi b i := by kernel_rfl
theorem spec_GroupSumRange_l1_q (N : Nat) (k0_ : Nat) : ∀ k_, spec_GroupSumRange_l1_E N k0_ k_ = spec_GroupSumRange_l1 (spec_GroupSumRange_l0_E N k0_) N k_
  | 0 => by funext r6 by_3 col3 v3 d4 d5 lo2 hi2 b2 i2 l k; exact spec_GroupSumRange_l1_z N k0_ r6 by_3 col3 v3 d4 d5 lo2 hi2 b2 i2 l k
  | k_ + 1 => by funext r6 by_3 col3 v3 d4 d5 lo2 hi2 b2 i2 l k; rw [spec_GroupSumRange_l1_s]; simp only [spec_GroupSumRange_l1_q N k0_ k_]; rfl
theorem spec_GroupSumRange_l0_q (N : Nat) : ∀ k_, spec_GroupSumRange_l0_E N k_ = spec_GroupSumRange_l0 N k_
  | 0 => by funext r5 by_2 col2 v2 d2 d3 lo hi b i; exact spec_GroupSumRange_l0_z N r5 by_2 col2 v2 d2 d3 lo hi b i
  | k_ + 1 => by funext r5 by_2 col2 v2 d2 d3 lo hi b i; rw [spec_GroupSumRange_l0_s]; simp only [spec_GroupSumRange_l1_q, spec_GroupSumRange_l0_q N k_]; rfl
theorem spec_GroupSumRange_v (N : Nat) (d : List (ByteArray × Int × Int) × List (Int × List Int)) (r : Int) (by_ : Int) (col : Int) (v : Int) :
    evFn Tb (sigL (spec_GroupSumRange_es N)) cps (orcL (spec_GroupSumRange_es N)) (drawReg Tb (sigL (spec_GroupSumRange_es N)) cps (orcL (spec_GroupSumRange_es N))) N spec_GroupSumRange_an spec_GroupSumRange_sg Try.f56 (Try.f56.body.getD .skip) [.val ty8 d, .val i64 r, .val i64 by_, .val i64 col, .val i64 v] (un3 i64 i64 .bool) = spec_GroupSumRange_b N (spec_GroupSumRange_l0_E N N) d r by_ col v := by kernel_rfl
noncomputable def spec_GroupSumRange_e (N : Nat) : Entry Try.prog := ⟨56, spec_GroupSumRange_sg, [.v ty8, .v i64, .v i64, .v i64, .v i64], Int × Int × Bool, spec_GroupSumRange N, pk3 i64 i64 .bool, rfl, entry_en Try.func56 (code := Try.f56.body.getD .skip) (by kernel_rfl) (by kernel_rfl),
  fun d r by_ col v => entry_ok tab_ok (es := spec_GroupSumRange_es N) (by kernel_rfl) mixed Try.func56 (by kernel_rfl) (un3_pk i64 i64 .bool) (by rw [spec_GroupSumRange_v, spec_GroupSumRange_l0_q]; rfl)⟩
noncomputable def impl_within_es (N : Nat) : List (Entry Try.prog) := []
def impl_within_sg : Sig := ⟨[.val i64, .val i64, .val i64], [(.bool, true)], false⟩
def impl_within_an : Nat → Option (List Nat) := fun _ => none
theorem impl_within_v (N : Nat) (n : Int) (low : Int) (high : Int) :
    evFn Tb (sigL (impl_within_es N)) cps (orcL (impl_within_es N)) (drawReg Tb (sigL (impl_within_es N)) cps (orcL (impl_within_es N))) N impl_within_an impl_within_sg Try.f63 (Try.f63.body.getD .skip) [.val i64 n, .val i64 low, .val i64 high] (un1 .bool) = impl_within N n low high := by kernel_rfl
noncomputable def impl_within_e (N : Nat) : Entry Try.prog := ⟨63, impl_within_sg, [.v i64, .v i64, .v i64], Bool, impl_within N, pk1 .bool, rfl, entry_en Try.func63 (code := Try.f63.body.getD .skip) (by kernel_rfl) (by kernel_rfl),
  fun n low high => entry_ok tab_ok (es := impl_within_es N) (by kernel_rfl) mixed Try.func63 (by kernel_rfl) (un1_pk .bool) (impl_within_v N n low high)⟩
noncomputable def impl_IsValidRelation_es (N : Nat) : List (Entry Try.prog) := [impl_within_e N]
def impl_IsValidRelation_sg : Sig := ⟨[.val ty0], [(.bool, true)], false⟩
def impl_IsValidRelation_an : Nat → Option (List Nat) := fun _ => none
theorem impl_IsValidRelation_v (N : Nat) (relation : ByteArray × Int × Int) :
    evFn Tb (sigL (impl_IsValidRelation_es N)) cps (orcL (impl_IsValidRelation_es N)) (drawReg Tb (sigL (impl_IsValidRelation_es N)) cps (orcL (impl_IsValidRelation_es N))) N impl_IsValidRelation_an impl_IsValidRelation_sg Try.f140 (Try.f140.body.getD .skip) [.val ty0 relation] (un1 .bool) = impl_IsValidRelation N relation := by kernel_rfl
noncomputable def impl_IsValidRelation_e (N : Nat) : Entry Try.prog := ⟨140, impl_IsValidRelation_sg, [.v ty0], Bool, impl_IsValidRelation N, pk1 .bool, rfl, entry_en Try.func140 (code := Try.f140.body.getD .skip) (by kernel_rfl) (by kernel_rfl),
  fun relation => entry_ok tab_ok (es := impl_IsValidRelation_es N) (by kernel_rfl) mixed Try.func140 (by kernel_rfl) (un1_pk .bool) (impl_IsValidRelation_v N relation)⟩
noncomputable def impl_AreValidRelations_es (N : Nat) : List (Entry Try.prog) := [impl_IsValidRelation_e N]
def impl_AreValidRelations_sg : Sig := ⟨[.val ty6], [(.bool, true)], false⟩
def impl_AreValidRelations_an : Nat → Option (List Nat)
  | 0 => some [0, 5, 6, 7]
  | _ => none
noncomputable def impl_AreValidRelations_lp (N : Nat) (p : List Dir) (rs : List (Env → Option (Bool))) (k : Nat) (env : Env) : Option (Bool) :=
  loopAt Tb (sigL (impl_AreValidRelations_es N)) cps (orcL (impl_AreValidRelations_es N)) N impl_AreValidRelations_an p (Try.f115.body.getD .skip) (endK Tb impl_AreValidRelations_sg Try.f115 (un1 .bool)) rs k env
noncomputable def impl_AreValidRelations_l0_E (N : Nat) (k_ : Nat) (relations2 : List (ByteArray × Int × Int)) (t5 : List (ByteArray × Int × Int)) (t6 : Int) (t7 : Int) : Option (Bool) :=
  impl_AreValidRelations_lp N [.r, .l, .r, .b] [] k_ (.con .val [lf ty6 relations2 .ro] :: (un 4 (.con .val [lf ty6 t5 .ro] :: (.con .val [lf i64 t6 .ro] :: (.con .val [lf i64 t7 .ro] :: (un 26 []))))))
theorem impl_AreValidRelations_l0_z (N : Nat) (relations2 : List (ByteArray × Int × Int)) (t5 : List (ByteArray × Int × Int)) (t6 : Int) (t7 : Int) : impl_AreValidRelations_l0_E N 0 relations2 t5 t6 t7 = none := by kernel_rfl
theorem impl_AreValidRelations_l0_s (N : Nat) (k_ : Nat) (relations2 : List (ByteArray × Int × Int)) (t5 : List (ByteArray × Int × Int)) (t6 : Int) (t7 : Int) : impl_AreValidRelations_l0_E N (k_ + 1) relations2 t5 t6 t7 = impl_AreValidRelations_l0_b N (impl_AreValidRelations_l0_E N k_) relations2 t5 t6 t7 := by kernel_rfl
theorem impl_AreValidRelations_l0_q (N : Nat) : ∀ k_, impl_AreValidRelations_l0_E N k_ = impl_AreValidRelations_l0 N k_
  | 0 => by funext relations2 t5 t6 t7; exact impl_AreValidRelations_l0_z N relations2 t5 t6 t7
  | k_ + 1 => by funext relations2 t5 t6 t7; rw [impl_AreValidRelations_l0_s]; simp only [impl_AreValidRelations_l0_q N k_]; rfl
theorem impl_AreValidRelations_v (N : Nat) (relations : List (ByteArray × Int × Int)) :
    evFn Tb (sigL (impl_AreValidRelations_es N)) cps (orcL (impl_AreValidRelations_es N)) (drawReg Tb (sigL (impl_AreValidRelations_es N)) cps (orcL (impl_AreValidRelations_es N))) N impl_AreValidRelations_an impl_AreValidRelations_sg Try.f115 (Try.f115.body.getD .skip) [.val ty6 relations] (un1 .bool) = impl_AreValidRelations_b N (impl_AreValidRelations_l0_E N N) relations := by kernel_rfl
noncomputable def impl_AreValidRelations_e (N : Nat) : Entry Try.prog := ⟨115, impl_AreValidRelations_sg, [.v ty6], Bool, impl_AreValidRelations N, pk1 .bool, rfl, entry_en Try.func115 (code := Try.f115.body.getD .skip) (by kernel_rfl) (by kernel_rfl),
  fun relations => entry_ok tab_ok (es := impl_AreValidRelations_es N) (by kernel_rfl) mixed Try.func115 (by kernel_rfl) (un1_pk .bool) (by rw [impl_AreValidRelations_v, impl_AreValidRelations_l0_q]; rfl)⟩
noncomputable def impl_areValues_c1_es (N : Nat) : List (Entry Try.prog) := [impl_within_e N]
def impl_areValues_c1_sg : Sig := ⟨[.val i64], [(.bool, true)], false⟩
def impl_areValues_c1_an : Nat → Option (List Nat) := fun _ => none
theorem impl_areValues_c1_v (N : Nat) (v : Int) :
    evFn Tb (sigL (impl_areValues_c1_es N)) cps (orcL (impl_areValues_c1_es N)) (drawReg Tb (sigL (impl_areValues_c1_es N)) cps (orcL (impl_areValues_c1_es N))) N impl_areValues_c1_an impl_areValues_c1_sg Try.f159 (Try.f159.body.getD .skip) [.val i64 v] (un1 .bool) = impl_areValues_c1 N v := by kernel_rfl
noncomputable def impl_areValues_c1_e (N : Nat) : Entry Try.prog := ⟨159, impl_areValues_c1_sg, [.v i64], Bool, impl_areValues_c1 N, pk1 .bool, rfl, entry_en Try.func159 (code := Try.f159.body.getD .skip) (by kernel_rfl) (by kernel_rfl),
  fun v => entry_ok tab_ok (es := impl_areValues_c1_es N) (by kernel_rfl) mixed Try.func159 (by kernel_rfl) (un1_pk .bool) (impl_areValues_c1_v N v)⟩
noncomputable def slices_IndexFunc_Lint_int_areValues_c1_es (N : Nat) : List (Entry Try.prog) := [impl_areValues_c1_e N]
def slices_IndexFunc_Lint_int_areValues_c1_sg : Sig := ⟨[.val ty2, .clo], [(i64, true)], false⟩
def slices_IndexFunc_Lint_int_areValues_c1_an : Nat → Option (List Nat)
  | 0 => some [0, 1, 7, 8]
  | _ => none
noncomputable def slices_IndexFunc_Lint_int_areValues_c1_lp (N : Nat) (p : List Dir) (rs : List (Env → Option (Int))) (k : Nat) (env : Env) : Option (Int) :=
  loopAt Tb (sigL (slices_IndexFunc_Lint_int_areValues_c1_es N)) cps (orcL (slices_IndexFunc_Lint_int_areValues_c1_es N)) N slices_IndexFunc_Lint_int_areValues_c1_an p (Try.f118.body.getD .skip) (endK Tb slices_IndexFunc_Lint_int_areValues_c1_sg Try.f118 (un1 i64)) rs k env
noncomputable def slices_IndexFunc_Lint_int_areValues_c1_l0_E (N : Nat) (k_ : Nat) (s2 : List Int) (t7 : Int) (t8 : Int) : Option (Int) :=
  slices_IndexFunc_Lint_int_areValues_c1_lp N [.r, .l, .r, .b] [] k_ (.con .val [lf ty2 s2 .ro] :: (.cloR 159 [] :: (un 5 (.con .val [lf i64 t7 .ro] :: (.con .val [lf i64 t8 .ro] :: (un 10 []))))))
theorem slices_IndexFunc_Lint_int_areValues_c1_l0_z (N : Nat) (s2 : List Int) (t7 : Int) (t8 : Int) : slices_IndexFunc_Lint_int_areValues_c1_l0_E N 0 s2 t7 t8 = none := by kernel_rfl
theorem slices_IndexFunc_Lint_int_areValues_c1_l0_s (N : Nat) (k_ : Nat) (s2 : List Int) (t7 : Int) (t8 : Int) : slices_IndexFunc_Lint_int_areValues_c1_l0_E N (k_ + 1) s2 t7 t8 = slices_IndexFunc_Lint_int_areValues_c1_l0_b N (slices_IndexFunc_Lint_int_areValues_c1_l0_E N k_) s2 t7 t8 := by kernel_rfl
theorem slices_IndexFunc_Lint_int_areValues_c1_l0_q (N : Nat) : ∀ k_, slices_IndexFunc_Lint_int_areValues_c1_l0_E N k_ = slices_IndexFunc_Lint_int_areValues_c1_l0 N k_
  | 0 => by funext s2 t7 t8; exact slices_IndexFunc_Lint_int_areValues_c1_l0_z N s2 t7 t8
  | k_ + 1 => by funext s2 t7 t8; rw [slices_IndexFunc_Lint_int_areValues_c1_l0_s]; simp only [slices_IndexFunc_Lint_int_areValues_c1_l0_q N k_]; rfl
theorem slices_IndexFunc_Lint_int_areValues_c1_v (N : Nat) (s : List Int) :
    evFn Tb (sigL (slices_IndexFunc_Lint_int_areValues_c1_es N)) cps (orcL (slices_IndexFunc_Lint_int_areValues_c1_es N)) (drawReg Tb (sigL (slices_IndexFunc_Lint_int_areValues_c1_es N)) cps (orcL (slices_IndexFunc_Lint_int_areValues_c1_es N))) N slices_IndexFunc_Lint_int_areValues_c1_an slices_IndexFunc_Lint_int_areValues_c1_sg Try.f118 (Try.f118.body.getD .skip) [.val ty2 s, .clo 159 []] (un1 i64) = slices_IndexFunc_Lint_int_areValues_c1_b N (slices_IndexFunc_Lint_int_areValues_c1_l0_E N N) s := by kernel_rfl
noncomputable def slices_IndexFunc_Lint_int_areValues_c1_e (N : Nat) : Entry Try.prog := ⟨118, slices_IndexFunc_Lint_int_areValues_c1_sg, [.v ty2, .c 159 []], Int, slices_IndexFunc_Lint_int_areValues_c1 N, pk1 i64, rfl, entry_en Try.func118 (code := Try.f118.body.getD .skip) (by kernel_rfl) (by kernel_rfl),
  fun s => entry_ok tab_ok (es := slices_IndexFunc_Lint_int_areValues_c1_es N) (by kernel_rfl) mixed Try.func118 (by kernel_rfl) (un1_pk i64) (by rw [slices_IndexFunc_Lint_int_areValues_c1_v, slices_IndexFunc_Lint_int_areValues_c1_l0_q]; rfl)⟩
noncomputable def slices_ContainsFunc_Lint_int_areValues_c1_es (N : Nat) : List (Entry Try.prog) := [slices_IndexFunc_Lint_int_areValues_c1_e N]
def slices_ContainsFunc_Lint_int_areValues_c1_sg : Sig := ⟨[.val ty2, .clo], [(.bool, true)], false⟩
def slices_ContainsFunc_Lint_int_areValues_c1_an : Nat → Option (List Nat) := fun _ => none
theorem slices_ContainsFunc_Lint_int_areValues_c1_v (N : Nat) (s : List Int) :
    evFn Tb (sigL (slices_ContainsFunc_Lint_int_areValues_c1_es N)) cps (orcL (slices_ContainsFunc_Lint_int_areValues_c1_es N)) (drawReg Tb (sigL (slices_ContainsFunc_Lint_int_areValues_c1_es N)) cps (orcL (slices_ContainsFunc_Lint_int_areValues_c1_es N))) N slices_ContainsFunc_Lint_int_areValues_c1_an slices_ContainsFunc_Lint_int_areValues_c1_sg Try.f70 (Try.f70.body.getD .skip) [.val ty2 s, .clo 159 []] (un1 .bool) = slices_ContainsFunc_Lint_int_areValues_c1 N s := by kernel_rfl
noncomputable def slices_ContainsFunc_Lint_int_areValues_c1_e (N : Nat) : Entry Try.prog := ⟨70, slices_ContainsFunc_Lint_int_areValues_c1_sg, [.v ty2, .c 159 []], Bool, slices_ContainsFunc_Lint_int_areValues_c1 N, pk1 .bool, rfl, entry_en Try.func70 (code := Try.f70.body.getD .skip) (by kernel_rfl) (by kernel_rfl),
  fun s => entry_ok tab_ok (es := slices_ContainsFunc_Lint_int_areValues_c1_es N) (by kernel_rfl) mixed Try.func70 (by kernel_rfl) (un1_pk .bool) (slices_ContainsFunc_Lint_int_areValues_c1_v N s)⟩
noncomputable def impl_areValues_es (N : Nat) : List (Entry Try.prog) := [slices_ContainsFunc_Lint_int_areValues_c1_e N]
def impl_areValues_sg : Sig := ⟨[.val ty2], [(.bool, true)], false⟩
def impl_areValues_an : Nat → Option (List Nat) := fun _ => none
theorem impl_areValues_v (N : Nat) (list : List Int) :
    evFn Tb (sigL (impl_areValues_es N)) cps (orcL (impl_areValues_es N)) (drawReg Tb (sigL (impl_areValues_es N)) cps (orcL (impl_areValues_es N))) N impl_areValues_an impl_areValues_sg Try.f141 (Try.f141.body.getD .skip) [.val ty2 list] (un1 .bool) = impl_areValues N list := by kernel_rfl
noncomputable def impl_areValues_e (N : Nat) : Entry Try.prog := ⟨141, impl_areValues_sg, [.v ty2], Bool, impl_areValues N, pk1 .bool, rfl, entry_en Try.func141 (code := Try.f141.body.getD .skip) (by kernel_rfl) (by kernel_rfl),
  fun list => entry_ok tab_ok (es := impl_areValues_es N) (by kernel_rfl) mixed Try.func141 (by kernel_rfl) (un1_pk .bool) (impl_areValues_v N list)⟩
noncomputable def impl_isFact_es (N : Nat) : List (Entry Try.prog) := [impl_within_e N, impl_areValues_e N]
def impl_isFact_sg : Sig := ⟨[.val ty6, .val ty3], [(.bool, true)], false⟩
def impl_isFact_an : Nat → Option (List Nat) := fun _ => none
theorem impl_isFact_v (N : Nat) (relations : List (ByteArray × Int × Int)) (fact : Int × List Int) :
    evFn Tb (sigL (impl_isFact_es N)) cps (orcL (impl_isFact_es N)) (drawReg Tb (sigL (impl_isFact_es N)) cps (orcL (impl_isFact_es N))) N impl_isFact_an impl_isFact_sg Try.f116 (Try.f116.body.getD .skip) [.val ty6 relations, .val ty3 fact] (un1 .bool) = impl_isFact N relations fact := by kernel_rfl
noncomputable def impl_isFact_e (N : Nat) : Entry Try.prog := ⟨116, impl_isFact_sg, [.v ty6, .v ty3], Bool, impl_isFact N, pk1 .bool, rfl, entry_en Try.func116 (code := Try.f116.body.getD .skip) (by kernel_rfl) (by kernel_rfl),
  fun relations fact => entry_ok tab_ok (es := impl_isFact_es N) (by kernel_rfl) mixed Try.func116 (by kernel_rfl) (un1_pk .bool) (impl_isFact_v N relations fact)⟩
noncomputable def impl_compare_es (N : Nat) : List (Entry Try.prog) := []
def impl_compare_sg : Sig := ⟨[.val i64, .val i64], [(i64, true)], false⟩
def impl_compare_an : Nat → Option (List Nat) := fun _ => none
theorem impl_compare_v (N : Nat) (a : Int) (b : Int) :
    evFn Tb (sigL (impl_compare_es N)) cps (orcL (impl_compare_es N)) (drawReg Tb (sigL (impl_compare_es N)) cps (orcL (impl_compare_es N))) N impl_compare_an impl_compare_sg Try.f142 (Try.f142.body.getD .skip) [.val i64 a, .val i64 b] (un1 i64) = impl_compare N a b := by kernel_rfl
noncomputable def impl_compare_e (N : Nat) : Entry Try.prog := ⟨142, impl_compare_sg, [.v i64, .v i64], Int, impl_compare N, pk1 i64, rfl, entry_en Try.func142 (code := Try.f142.body.getD .skip) (by kernel_rfl) (by kernel_rfl),
  fun a b => entry_ok tab_ok (es := impl_compare_es N) (by kernel_rfl) mixed Try.func142 (by kernel_rfl) (un1_pk i64) (impl_compare_v N a b)⟩
noncomputable def cmp_isNaN_int_es (N : Nat) : List (Entry Try.prog) := []
def cmp_isNaN_int_sg : Sig := ⟨[.val i64], [(.bool, true)], false⟩
def cmp_isNaN_int_an : Nat → Option (List Nat) := fun _ => none
theorem cmp_isNaN_int_v (N : Nat) (x : Int) :
    evFn Tb (sigL (cmp_isNaN_int_es N)) cps (orcL (cmp_isNaN_int_es N)) (drawReg Tb (sigL (cmp_isNaN_int_es N)) cps (orcL (cmp_isNaN_int_es N))) N cmp_isNaN_int_an cmp_isNaN_int_sg Try.f171 (Try.f171.body.getD .skip) [.val i64 x] (un1 .bool) = cmp_isNaN_int N x := by kernel_rfl
noncomputable def cmp_isNaN_int_e (N : Nat) : Entry Try.prog := ⟨171, cmp_isNaN_int_sg, [.v i64], Bool, cmp_isNaN_int N, pk1 .bool, rfl, entry_en Try.func171 (code := Try.f171.body.getD .skip) (by kernel_rfl) (by kernel_rfl),
  fun x => entry_ok tab_ok (es := cmp_isNaN_int_es N) (by kernel_rfl) mixed Try.func171 (by kernel_rfl) (un1_pk .bool) (cmp_isNaN_int_v N x)⟩
noncomputable def cmp_Compare_int_es (N : Nat) : List (Entry Try.prog) := [cmp_isNaN_int_e N]
def cmp_Compare_int_sg : Sig := ⟨[.val i64, .val i64], [(i64, true)], false⟩
def cmp_Compare_int_an : Nat → Option (List Nat) := fun _ => none
theorem cmp_Compare_int_v (N : Nat) (x : Int) (y : Int) :
    evFn Tb (sigL (cmp_Compare_int_es N)) cps (orcL (cmp_Compare_int_es N)) (drawReg Tb (sigL (cmp_Compare_int_es N)) cps (orcL (cmp_Compare_int_es N))) N cmp_Compare_int_an cmp_Compare_int_sg Try.f160 (Try.f160.body.getD .skip) [.val i64 x, .val i64 y] (un1 i64) = cmp_Compare_int N x y := by kernel_rfl
noncomputable def cmp_Compare_int_e (N : Nat) : Entry Try.prog := ⟨160, cmp_Compare_int_sg, [.v i64, .v i64], Int, cmp_Compare_int N, pk1 i64, rfl, entry_en Try.func160 (code := Try.f160.body.getD .skip) (by kernel_rfl) (by kernel_rfl),
  fun x y => entry_ok tab_ok (es := cmp_Compare_int_es N) (by kernel_rfl) mixed Try.func160 (by kernel_rfl) (un1_pk i64) (cmp_Compare_int_v N x y)⟩
noncomputable def slices_Compare_Lint_int_es (N : Nat) : List (Entry Try.prog) := [cmp_Compare_int_e N]
def slices_Compare_Lint_int_sg : Sig := ⟨[.val ty2, .val ty2], [(i64, true)], false⟩
def slices_Compare_Lint_int_an : Nat → Option (List Nat)
  | 0 => some [0, 1, 9, 10, 11]
  | _ => none
noncomputable def slices_Compare_Lint_int_lp (N : Nat) (p : List Dir) (rs : List (Env → Option (Int))) (k : Nat) (env : Env) : Option (Int) :=
  loopAt Tb (sigL (slices_Compare_Lint_int_es N)) cps (orcL (slices_Compare_Lint_int_es N)) N slices_Compare_Lint_int_an p (Try.f143.body.getD .skip) (endK Tb slices_Compare_Lint_int_sg Try.f143 (un1 i64)) rs k env
noncomputable def slices_Compare_Lint_int_l0_E (N : Nat) (k_ : Nat) (s12 : List Int) (s22 : List Int) (t9 : List Int) (t10 : Int) (t11 : Int) : Option (Int) :=
  slices_Compare_Lint_int_lp N [.r, .l, .r, .b] [] k_ (.con .val [lf ty2 s12 .ro] :: (.con .val [lf ty2 s22 .ro] :: (un 7 (.con .val [lf ty2 t9 .ro] :: (.con .val [lf i64 t10 .ro] :: (.con .val [lf i64 t11 .ro] :: (un 24 [])))))))
theorem slices_Compare_Lint_int_l0_z (N : Nat) (s12 : List Int) (s22 : List Int) (t9 : List Int) (t10 : Int) (t11 : Int) : slices_Compare_Lint_int_l0_E N 0 s12 s22 t9 t10 t11 = none := by kernel_rfl
theorem slices_Compare_Lint_int_l0_s (N : Nat) (k_ : Nat) (s12 : List Int) (s22 : List Int) (t9 : List Int) (t10 : Int) (t11 : Int) : slices_Compare_Lint_int_l0_E N (k_ + 1) s12 s22 t9 t10 t11 = slices_Compare_Lint_int_l0_b N (slices_Compare_Lint_int_l0_E N k_) s12 s22 t9 t10 t11 := by kernel_rfl
theorem slices_Compare_Lint_int_l0_q (N : Nat) : ∀ k_, slices_Compare_Lint_int_l0_E N k_ = slices_Compare_Lint_int_l0 N k_
  | 0 => by funext s12 s22 t9 t10 t11; exact slices_Compare_Lint_int_l0_z N s12 s22 t9 t10 t11
  | k_ + 1 => by funext s12 s22 t9 t10 t11; rw [slices_Compare_Lint_int_l0_s]; simp only [slices_Compare_Lint_int_l0_q N k_]; rfl
theorem slices_Compare_Lint_int_v (N : Nat) (s1 : List Int) (s2 : List Int) :
    evFn Tb (sigL (slices_Compare_Lint_int_es N)) cps (orcL (slices_Compare_Lint_int_es N)) (drawReg Tb (sigL (slices_Compare_Lint_int_es N)) cps (orcL (slices_Compare_Lint_int_es N))) N slices_Compare_Lint_int_an slices_Compare_Lint_int_sg Try.f143 (Try.f143.body.getD .skip) [.val ty2 s1, .val ty2 s2] (un1 i64) = slices_Compare_Lint_int_b N (slices_Compare_Lint_int_l0_E N N) s1 s2 := by kernel_rfl
noncomputable def slices_Compare_Lint_int_e (N : Nat) : Entry Try.prog := ⟨143, slices_Compare_Lint_int_sg, [.v ty2, .v ty2], Int, slices_Compare_Lint_int N, pk1 i64, rfl, entry_en Try.func143 (code := Try.f143.body.getD .skip) (by kernel_rfl) (by kernel_rfl),
  fun s1 s2 => entry_ok tab_ok (es := slices_Compare_Lint_int_es N) (by kernel_rfl) mixed Try.func143 (by kernel_rfl) (un1_pk i64) (by rw [slices_Compare_Lint_int_v, slices_Compare_Lint_int_l0_q]; rfl)⟩
noncomputable def impl_CompareFacts_es (N : Nat) : List (Entry Try.prog) := [impl_compare_e N, slices_Compare_Lint_int_e N]
def impl_CompareFacts_sg : Sig := ⟨[.val ty3, .val ty3], [(i64, true)], false⟩
def impl_CompareFacts_an : Nat → Option (List Nat) := fun _ => none
theorem impl_CompareFacts_v (N : Nat) (a : Int × List Int) (b : Int × List Int) :
    evFn Tb (sigL (impl_CompareFacts_es N)) cps (orcL (impl_CompareFacts_es N)) (drawReg Tb (sigL (impl_CompareFacts_es N)) cps (orcL (impl_CompareFacts_es N))) N impl_CompareFacts_an impl_CompareFacts_sg Try.f117 (Try.f117.body.getD .skip) [.val ty3 a, .val ty3 b] (un1 i64) = impl_CompareFacts N a b := by kernel_rfl
noncomputable def impl_CompareFacts_e (N : Nat) : Entry Try.prog := ⟨117, impl_CompareFacts_sg, [.v ty3, .v ty3], Int, impl_CompareFacts N, pk1 i64, rfl, entry_en Try.func117 (code := Try.f117.body.getD .skip) (by kernel_rfl) (by kernel_rfl),
  fun a b => entry_ok tab_ok (es := impl_CompareFacts_es N) (by kernel_rfl) mixed Try.func117 (by kernel_rfl) (un1_pk i64) (impl_CompareFacts_v N a b)⟩
noncomputable def impl_IsValidDatabase_es (N : Nat) : List (Entry Try.prog) := [impl_isFact_e N, impl_CompareFacts_e N, impl_AreValidRelations_e N]
def impl_IsValidDatabase_sg : Sig := ⟨[.val ty8], [(.bool, true)], false⟩
def impl_IsValidDatabase_an : Nat → Option (List Nat)
  | 0 => some [1, 16, 17, 18]
  | _ => none
noncomputable def impl_IsValidDatabase_lp (N : Nat) (p : List Dir) (rs : List (Env → Option (Bool))) (k : Nat) (env : Env) : Option (Bool) :=
  loopAt Tb (sigL (impl_IsValidDatabase_es N)) cps (orcL (impl_IsValidDatabase_es N)) N impl_IsValidDatabase_an p (Try.f69.body.getD .skip) (endK Tb impl_IsValidDatabase_sg Try.f69 (un1 .bool)) rs k env
noncomputable def impl_IsValidDatabase_l0_E (N : Nat) (k_ : Nat) (db2 : List (ByteArray × Int × Int)) (db3 : List (Int × List Int)) (t16 : List (Int × List Int)) (t17 : Int) (t18 : Int) : Option (Bool) :=
  impl_IsValidDatabase_lp N [.r, .r, .l, .r, .b] [] k_ (un 1 (.con (.box 48) [lf ty6 db2 .ro, lf ty7 db3 .ro] :: (un 14 (.con .val [lf ty7 t16 .ro] :: (.con .val [lf i64 t17 .ro] :: (.con .val [lf i64 t18 .ro] :: (un 25 [])))))))
theorem impl_IsValidDatabase_l0_z (N : Nat) (db2 : List (ByteArray × Int × Int)) (db3 : List (Int × List Int)) (t16 : List (Int × List Int)) (t17 : Int) (t18 : Int) : impl_IsValidDatabase_l0_E N 0 db2 db3 t16 t17 t18 = none := by kernel_rfl
theorem impl_IsValidDatabase_l0_s (N : Nat) (k_ : Nat) (db2 : List (ByteArray × Int × Int)) (db3 : List (Int × List Int)) (t16 : List (Int × List Int)) (t17 : Int) (t18 : Int) : impl_IsValidDatabase_l0_E N (k_ + 1) db2 db3 t16 t17 t18 = impl_IsValidDatabase_l0_b N (impl_IsValidDatabase_l0_E N k_) db2 db3 t16 t17 t18 := by kernel_rfl
theorem impl_IsValidDatabase_l0_q (N : Nat) : ∀ k_, impl_IsValidDatabase_l0_E N k_ = impl_IsValidDatabase_l0 N k_
  | 0 => by funext db2 db3 t16 t17 t18; exact impl_IsValidDatabase_l0_z N db2 db3 t16 t17 t18
  | k_ + 1 => by funext db2 db3 t16 t17 t18; rw [impl_IsValidDatabase_l0_s]; simp only [impl_IsValidDatabase_l0_q N k_]; rfl
theorem impl_IsValidDatabase_v (N : Nat) (db : List (ByteArray × Int × Int) × List (Int × List Int)) :
    evFn Tb (sigL (impl_IsValidDatabase_es N)) cps (orcL (impl_IsValidDatabase_es N)) (drawReg Tb (sigL (impl_IsValidDatabase_es N)) cps (orcL (impl_IsValidDatabase_es N))) N impl_IsValidDatabase_an impl_IsValidDatabase_sg Try.f69 (Try.f69.body.getD .skip) [.val ty8 db] (un1 .bool) = impl_IsValidDatabase_b N (impl_IsValidDatabase_l0_E N N) db := by kernel_rfl
noncomputable def impl_IsValidDatabase_e (N : Nat) : Entry Try.prog := ⟨69, impl_IsValidDatabase_sg, [.v ty8], Bool, impl_IsValidDatabase N, pk1 .bool, rfl, entry_en Try.func69 (code := Try.f69.body.getD .skip) (by kernel_rfl) (by kernel_rfl),
  fun db => entry_ok tab_ok (es := impl_IsValidDatabase_es N) (by kernel_rfl) mixed Try.func69 (by kernel_rfl) (un1_pk .bool) (by rw [impl_IsValidDatabase_v, impl_IsValidDatabase_l0_q]; rfl)⟩
noncomputable def impl_isColumn_es (N : Nat) : List (Entry Try.prog) := [impl_IsValidDatabase_e N, impl_within_e N]
def impl_isColumn_sg : Sig := ⟨[.val ty8, .val i64, .val i64], [(.bool, true)], false⟩
def impl_isColumn_an : Nat → Option (List Nat) := fun _ => none
theorem impl_isColumn_v (N : Nat) (db : List (ByteArray × Int × Int) × List (Int × List Int)) (relation : Int) (column : Int) :
    evFn Tb (sigL (impl_isColumn_es N)) cps (orcL (impl_isColumn_es N)) (drawReg Tb (sigL (impl_isColumn_es N)) cps (orcL (impl_isColumn_es N))) N impl_isColumn_an impl_isColumn_sg Try.f97 (Try.f97.body.getD .skip) [.val ty8 db, .val i64 relation, .val i64 column] (un1 .bool) = impl_isColumn N db relation column := by kernel_rfl
noncomputable def impl_isColumn_e (N : Nat) : Entry Try.prog := ⟨97, impl_isColumn_sg, [.v ty8, .v i64, .v i64], Bool, impl_isColumn N, pk1 .bool, rfl, entry_en Try.func97 (code := Try.f97.body.getD .skip) (by kernel_rfl) (by kernel_rfl),
  fun db relation column => entry_ok tab_ok (es := impl_isColumn_es N) (by kernel_rfl) mixed Try.func97 (by kernel_rfl) (un1_pk .bool) (impl_isColumn_v N db relation column)⟩
noncomputable def slices_Equal_Lint_int_es (N : Nat) : List (Entry Try.prog) := []
def slices_Equal_Lint_int_sg : Sig := ⟨[.val ty2, .val ty2], [(.bool, true)], false⟩
def slices_Equal_Lint_int_an : Nat → Option (List Nat)
  | 0 => some [0, 1, 12, 13]
  | _ => none
noncomputable def slices_Equal_Lint_int_lp (N : Nat) (p : List Dir) (rs : List (Env → Option (Bool))) (k : Nat) (env : Env) : Option (Bool) :=
  loopAt Tb (sigL (slices_Equal_Lint_int_es N)) cps (orcL (slices_Equal_Lint_int_es N)) N slices_Equal_Lint_int_an p (Try.f158.body.getD .skip) (endK Tb slices_Equal_Lint_int_sg Try.f158 (un1 .bool)) rs k env
noncomputable def slices_Equal_Lint_int_l0_E (N : Nat) (k_ : Nat) (s12 : List Int) (s22 : List Int) (t12 : Int) (t13 : Int) : Option (Bool) :=
  slices_Equal_Lint_int_lp N [.r, .r, .l, .r, .b] [] k_ (.con .val [lf ty2 s12 .ro] :: (.con .val [lf ty2 s22 .ro] :: (un 10 (.con .val [lf i64 t12 .ro] :: (.con .val [lf i64 t13 .ro] :: (un 12 []))))))
theorem slices_Equal_Lint_int_l0_z (N : Nat) (s12 : List Int) (s22 : List Int) (t12 : Int) (t13 : Int) : slices_Equal_Lint_int_l0_E N 0 s12 s22 t12 t13 = none := by kernel_rfl
theorem slices_Equal_Lint_int_l0_s (N : Nat) (k_ : Nat) (s12 : List Int) (s22 : List Int) (t12 : Int) (t13 : Int) : slices_Equal_Lint_int_l0_E N (k_ + 1) s12 s22 t12 t13 = slices_Equal_Lint_int_l0_b N (slices_Equal_Lint_int_l0_E N k_) s12 s22 t12 t13 := by kernel_rfl
theorem slices_Equal_Lint_int_l0_q (N : Nat) : ∀ k_, slices_Equal_Lint_int_l0_E N k_ = slices_Equal_Lint_int_l0 N k_
  | 0 => by funext s12 s22 t12 t13; exact slices_Equal_Lint_int_l0_z N s12 s22 t12 t13
  | k_ + 1 => by funext s12 s22 t12 t13; rw [slices_Equal_Lint_int_l0_s]; simp only [slices_Equal_Lint_int_l0_q N k_]; rfl
theorem slices_Equal_Lint_int_v (N : Nat) (s1 : List Int) (s2 : List Int) :
    evFn Tb (sigL (slices_Equal_Lint_int_es N)) cps (orcL (slices_Equal_Lint_int_es N)) (drawReg Tb (sigL (slices_Equal_Lint_int_es N)) cps (orcL (slices_Equal_Lint_int_es N))) N slices_Equal_Lint_int_an slices_Equal_Lint_int_sg Try.f158 (Try.f158.body.getD .skip) [.val ty2 s1, .val ty2 s2] (un1 .bool) = slices_Equal_Lint_int_b N (slices_Equal_Lint_int_l0_E N N) s1 s2 := by kernel_rfl
noncomputable def slices_Equal_Lint_int_e (N : Nat) : Entry Try.prog := ⟨158, slices_Equal_Lint_int_sg, [.v ty2, .v ty2], Bool, slices_Equal_Lint_int N, pk1 .bool, rfl, entry_en Try.func158 (code := Try.f158.body.getD .skip) (by kernel_rfl) (by kernel_rfl),
  fun s1 s2 => entry_ok tab_ok (es := slices_Equal_Lint_int_es N) (by kernel_rfl) mixed Try.func158 (by kernel_rfl) (un1_pk .bool) (by rw [slices_Equal_Lint_int_v, slices_Equal_Lint_int_l0_q]; rfl)⟩
noncomputable def impl_sameKey_es (N : Nat) : List (Entry Try.prog) := [slices_Equal_Lint_int_e N]
def impl_sameKey_sg : Sig := ⟨[.val ty6, .val ty3, .val ty3], [(.bool, true)], false⟩
def impl_sameKey_an : Nat → Option (List Nat) := fun _ => none
theorem impl_sameKey_v (N : Nat) (relations : List (ByteArray × Int × Int)) (a : Int × List Int) (b : Int × List Int) :
    evFn Tb (sigL (impl_sameKey_es N)) cps (orcL (impl_sameKey_es N)) (drawReg Tb (sigL (impl_sameKey_es N)) cps (orcL (impl_sameKey_es N))) N impl_sameKey_an impl_sameKey_sg Try.f134 (Try.f134.body.getD .skip) [.val ty6 relations, .val ty3 a, .val ty3 b] (un1 .bool) = impl_sameKey N relations a b := by kernel_rfl
noncomputable def impl_sameKey_e (N : Nat) : Entry Try.prog := ⟨134, impl_sameKey_sg, [.v ty6, .v ty3, .v ty3], Bool, impl_sameKey N, pk1 .bool, rfl, entry_en Try.func134 (code := Try.f134.body.getD .skip) (by kernel_rfl) (by kernel_rfl),
  fun relations a b => entry_ok tab_ok (es := impl_sameKey_es N) (by kernel_rfl) mixed Try.func134 (by kernel_rfl) (un1_pk .bool) (impl_sameKey_v N relations a b)⟩
noncomputable def impl_blocks_es (N : Nat) : List (Entry Try.prog) := [impl_sameKey_e N]
def impl_blocks_sg : Sig := ⟨[.val ty8], [(ty9, true)], false⟩
def impl_blocks_an : Nat → Option (List Nat)
  | 0 => some [1, 3, 9, 10, 11]
  | _ => none
noncomputable def impl_blocks_lp (N : Nat) (p : List Dir) (rs : List (Env → Option (List (List Int)))) (k : Nat) (env : Env) : Option (List (List Int)) :=
  loopAt Tb (sigL (impl_blocks_es N)) cps (orcL (impl_blocks_es N)) N impl_blocks_an p (Try.f95.body.getD .skip) (endK Tb impl_blocks_sg Try.f95 (un1 ty9)) rs k env
noncomputable def impl_blocks_l0_E (N : Nat) (k_ : Nat) (db2 : List (ByteArray × Int × Int)) (db3 : List (Int × List Int)) (out : List (List Int)) (t9 : List (Int × List Int)) (t10 : Int) (t11 : Int) : Option (List (List Int)) :=
  impl_blocks_lp N [.r, .r, .l, .r, .b] [] k_ (un 1 (.con (.box 48) [lf ty6 db2 .ro, lf ty7 db3 .ro] :: (un 1 (.con .val [lf ty9 out .dp] :: (un 5 (.con .val [lf ty7 t9 .ro] :: (.con .val [lf i64 t10 .ro] :: (.con .val [lf i64 t11 .ro] :: (un 42 [])))))))))
theorem impl_blocks_l0_z (N : Nat) (db2 : List (ByteArray × Int × Int)) (db3 : List (Int × List Int)) (out : List (List Int)) (t9 : List (Int × List Int)) (t10 : Int) (t11 : Int) : impl_blocks_l0_E N 0 db2 db3 out t9 t10 t11 = none := by kernel_rfl
theorem impl_blocks_l0_s (N : Nat) (k_ : Nat) (db2 : List (ByteArray × Int × Int)) (db3 : List (Int × List Int)) (out : List (List Int)) (t9 : List (Int × List Int)) (t10 : Int) (t11 : Int) : impl_blocks_l0_E N (k_ + 1) db2 db3 out t9 t10 t11 = impl_blocks_l0_b N (impl_blocks_l0_E N k_) db2 db3 out t9 t10 t11 := by kernel_rfl
theorem impl_blocks_l0_q (N : Nat) : ∀ k_, impl_blocks_l0_E N k_ = impl_blocks_l0 N k_
  | 0 => by funext db2 db3 out t9 t10 t11; exact impl_blocks_l0_z N db2 db3 out t9 t10 t11
  | k_ + 1 => by funext db2 db3 out t9 t10 t11; rw [impl_blocks_l0_s]; simp only [impl_blocks_l0_q N k_]; rfl
theorem impl_blocks_v (N : Nat) (db : List (ByteArray × Int × Int) × List (Int × List Int)) :
    evFn Tb (sigL (impl_blocks_es N)) cps (orcL (impl_blocks_es N)) (drawReg Tb (sigL (impl_blocks_es N)) cps (orcL (impl_blocks_es N))) N impl_blocks_an impl_blocks_sg Try.f95 (Try.f95.body.getD .skip) [.val ty8 db] (un1 ty9) = impl_blocks_b N (impl_blocks_l0_E N N) db := by kernel_rfl
noncomputable def impl_blocks_e (N : Nat) : Entry Try.prog := ⟨95, impl_blocks_sg, [.v ty8], List (List Int), impl_blocks N, pk1 ty9, rfl, entry_en Try.func95 (code := Try.f95.body.getD .skip) (by kernel_rfl) (by kernel_rfl),
  fun db => entry_ok tab_ok (es := impl_blocks_es N) (by kernel_rfl) mixed Try.func95 (by kernel_rfl) (un1_pk ty9) (by rw [impl_blocks_v, impl_blocks_l0_q]; rfl)⟩
noncomputable def impl_nthRepair_es (N : Nat) : List (Entry Try.prog) := []
def impl_nthRepair_sg : Sig := ⟨[.val ty9, .val i64], [(ty2, true)], false⟩
def impl_nthRepair_an : Nat → Option (List Nat)
  | 0 => some [0, 1, 5, 6]
  | _ => none
noncomputable def impl_nthRepair_lp (N : Nat) (p : List Dir) (rs : List (Env → Option (List Int))) (k : Nat) (env : Env) : Option (List Int) :=
  loopAt Tb (sigL (impl_nthRepair_es N)) cps (orcL (impl_nthRepair_es N)) N impl_nthRepair_an p (Try.f136.body.getD .skip) (endK Tb impl_nthRepair_sg Try.f136 (un1 ty2)) rs k env
noncomputable def impl_nthRepair_l0_E (N : Nat) (k_ : Nat) (list2 : List (List Int)) (rank2 : Int) (out : List Int) (i : Int) : Option (List Int) :=
  impl_nthRepair_lp N [.r, .r, .l, .r, .b] [] k_ (.con .val [lf ty9 list2 .ro] :: (.con .val [lf i64 rank2 .ro] :: (un 3 (.con .val [lf ty2 out .dp] :: (.con .val [lf i64 i .ro] :: (un 34 []))))))
theorem impl_nthRepair_l0_z (N : Nat) (list2 : List (List Int)) (rank2 : Int) (out : List Int) (i : Int) : impl_nthRepair_l0_E N 0 list2 rank2 out i = none := by kernel_rfl
theorem impl_nthRepair_l0_s (N : Nat) (k_ : Nat) (list2 : List (List Int)) (rank2 : Int) (out : List Int) (i : Int) : impl_nthRepair_l0_E N (k_ + 1) list2 rank2 out i = impl_nthRepair_l0_b N (impl_nthRepair_l0_E N k_) list2 rank2 out i := by kernel_rfl
theorem impl_nthRepair_l0_q (N : Nat) : ∀ k_, impl_nthRepair_l0_E N k_ = impl_nthRepair_l0 N k_
  | 0 => by funext list2 rank2 out i; exact impl_nthRepair_l0_z N list2 rank2 out i
  | k_ + 1 => by funext list2 rank2 out i; rw [impl_nthRepair_l0_s]; simp only [impl_nthRepair_l0_q N k_]; rfl
theorem impl_nthRepair_v (N : Nat) (list : List (List Int)) (rank : Int) :
    evFn Tb (sigL (impl_nthRepair_es N)) cps (orcL (impl_nthRepair_es N)) (drawReg Tb (sigL (impl_nthRepair_es N)) cps (orcL (impl_nthRepair_es N))) N impl_nthRepair_an impl_nthRepair_sg Try.f136 (Try.f136.body.getD .skip) [.val ty9 list, .val i64 rank] (un1 ty2) = impl_nthRepair_b N (impl_nthRepair_l0_E N N) list rank := by kernel_rfl
noncomputable def impl_nthRepair_e (N : Nat) : Entry Try.prog := ⟨136, impl_nthRepair_sg, [.v ty9, .v i64], List Int, impl_nthRepair N, pk1 ty2, rfl, entry_en Try.func136 (code := Try.f136.body.getD .skip) (by kernel_rfl) (by kernel_rfl),
  fun list rank => entry_ok tab_ok (es := impl_nthRepair_es N) (by kernel_rfl) mixed Try.func136 (by kernel_rfl) (un1_pk ty2) (by rw [impl_nthRepair_v, impl_nthRepair_l0_q]; rfl)⟩
noncomputable def impl_groupOf_es (N : Nat) : List (Entry Try.prog) := []
def impl_groupOf_sg : Sig := ⟨[.val ty8, .val ty2, .val i64, .val i64, .val i64], [(ty2, true)], false⟩
def impl_groupOf_an : Nat → Option (List Nat)
  | 0 => some [2, 3, 4, 5, 11, 15, 16, 17]
  | _ => none
noncomputable def impl_groupOf_lp (N : Nat) (p : List Dir) (rs : List (Env → Option (List Int))) (k : Nat) (env : Env) : Option (List Int) :=
  loopAt Tb (sigL (impl_groupOf_es N)) cps (orcL (impl_groupOf_es N)) N impl_groupOf_an p (Try.f100.body.getD .skip) (endK Tb impl_groupOf_sg Try.f100 (un1 ty2)) rs k env
noncomputable def impl_groupOf_l0_E (N : Nat) (k_ : Nat) (relation2 : Int) (groupColumn2 : Int) (value2 : Int) (db2 : List (ByteArray × Int × Int)) (db3 : List (Int × List Int)) (out : List Int) (t15 : List Int) (t16 : Int) (t17 : Int) : Option (List Int) :=
  impl_groupOf_lp N [.r, .r, .l, .r, .b] [] k_ (un 2 (.con .val [lf i64 relation2 .ro] :: (.con .val [lf i64 groupColumn2 .ro] :: (.con .val [lf i64 value2 .ro] :: (.con (.box 48) [lf ty6 db2 .ro, lf ty7 db3 .ro] :: (un 5 (.con .val [lf ty2 out .dp] :: (un 3 (.con .val [lf ty2 t15 .ro] :: (.con .val [lf i64 t16 .ro] :: (.con .val [lf i64 t17 .ro] :: (un 30 []))))))))))))
theorem impl_groupOf_l0_z (N : Nat) (relation2 : Int) (groupColumn2 : Int) (value2 : Int) (db2 : List (ByteArray × Int × Int)) (db3 : List (Int × List Int)) (out : List Int) (t15 : List Int) (t16 : Int) (t17 : Int) : impl_groupOf_l0_E N 0 relation2 groupColumn2 value2 db2 db3 out t15 t16 t17 = none := by kernel_rfl
theorem impl_groupOf_l0_s (N : Nat) (k_ : Nat) (relation2 : Int) (groupColumn2 : Int) (value2 : Int) (db2 : List (ByteArray × Int × Int)) (db3 : List (Int × List Int)) (out : List Int) (t15 : List Int) (t16 : Int) (t17 : Int) : impl_groupOf_l0_E N (k_ + 1) relation2 groupColumn2 value2 db2 db3 out t15 t16 t17 = impl_groupOf_l0_b N (impl_groupOf_l0_E N k_) relation2 groupColumn2 value2 db2 db3 out t15 t16 t17 := by kernel_rfl
theorem impl_groupOf_l0_q (N : Nat) : ∀ k_, impl_groupOf_l0_E N k_ = impl_groupOf_l0 N k_
  | 0 => by funext relation2 groupColumn2 value2 db2 db3 out t15 t16 t17; exact impl_groupOf_l0_z N relation2 groupColumn2 value2 db2 db3 out t15 t16 t17
  | k_ + 1 => by funext relation2 groupColumn2 value2 db2 db3 out t15 t16 t17; rw [impl_groupOf_l0_s]; simp only [impl_groupOf_l0_q N k_]; rfl
theorem impl_groupOf_v (N : Nat) (db : List (ByteArray × Int × Int) × List (Int × List Int)) (indices : List Int) (relation : Int) (groupColumn : Int) (value : Int) :
    evFn Tb (sigL (impl_groupOf_es N)) cps (orcL (impl_groupOf_es N)) (drawReg Tb (sigL (impl_groupOf_es N)) cps (orcL (impl_groupOf_es N))) N impl_groupOf_an impl_groupOf_sg Try.f100 (Try.f100.body.getD .skip) [.val ty8 db, .val ty2 indices, .val i64 relation, .val i64 groupColumn, .val i64 value] (un1 ty2) = impl_groupOf_b N (impl_groupOf_l0_E N N) db indices relation groupColumn value := by kernel_rfl
noncomputable def impl_groupOf_e (N : Nat) : Entry Try.prog := ⟨100, impl_groupOf_sg, [.v ty8, .v ty2, .v i64, .v i64, .v i64], List Int, impl_groupOf N, pk1 ty2, rfl, entry_en Try.func100 (code := Try.f100.body.getD .skip) (by kernel_rfl) (by kernel_rfl),
  fun db indices relation groupColumn value => entry_ok tab_ok (es := impl_groupOf_es N) (by kernel_rfl) mixed Try.func100 (by kernel_rfl) (un1_pk ty2) (by rw [impl_groupOf_v, impl_groupOf_l0_q]; rfl)⟩
noncomputable def impl_columnOf_es (N : Nat) : List (Entry Try.prog) := []
def impl_columnOf_sg : Sig := ⟨[.val ty8, .val ty2, .val i64, .val i64], [(ty2, true)], false⟩
def impl_columnOf_an : Nat → Option (List Nat)
  | 0 => some [2, 3, 4, 9, 13, 14, 15]
  | _ => none
noncomputable def impl_columnOf_lp (N : Nat) (p : List Dir) (rs : List (Env → Option (List Int))) (k : Nat) (env : Env) : Option (List Int) :=
  loopAt Tb (sigL (impl_columnOf_es N)) cps (orcL (impl_columnOf_es N)) N impl_columnOf_an p (Try.f106.body.getD .skip) (endK Tb impl_columnOf_sg Try.f106 (un1 ty2)) rs k env
noncomputable def impl_columnOf_l0_E (N : Nat) (k_ : Nat) (relation2 : Int) (column2 : Int) (db2 : List (ByteArray × Int × Int)) (db3 : List (Int × List Int)) (out : List Int) (t13 : List Int) (t14 : Int) (t15 : Int) : Option (List Int) :=
  impl_columnOf_lp N [.r, .r, .l, .r, .b] [] k_ (un 2 (.con .val [lf i64 relation2 .ro] :: (.con .val [lf i64 column2 .ro] :: (.con (.box 48) [lf ty6 db2 .ro, lf ty7 db3 .ro] :: (un 4 (.con .val [lf ty2 out .dp] :: (un 3 (.con .val [lf ty2 t13 .ro] :: (.con .val [lf i64 t14 .ro] :: (.con .val [lf i64 t15 .ro] :: (un 25 [])))))))))))
theorem impl_columnOf_l0_z (N : Nat) (relation2 : Int) (column2 : Int) (db2 : List (ByteArray × Int × Int)) (db3 : List (Int × List Int)) (out : List Int) (t13 : List Int) (t14 : Int) (t15 : Int) : impl_columnOf_l0_E N 0 relation2 column2 db2 db3 out t13 t14 t15 = none := by kernel_rfl
theorem impl_columnOf_l0_s (N : Nat) (k_ : Nat) (relation2 : Int) (column2 : Int) (db2 : List (ByteArray × Int × Int)) (db3 : List (Int × List Int)) (out : List Int) (t13 : List Int) (t14 : Int) (t15 : Int) : impl_columnOf_l0_E N (k_ + 1) relation2 column2 db2 db3 out t13 t14 t15 = impl_columnOf_l0_b N (impl_columnOf_l0_E N k_) relation2 column2 db2 db3 out t13 t14 t15 := by kernel_rfl
theorem impl_columnOf_l0_q (N : Nat) : ∀ k_, impl_columnOf_l0_E N k_ = impl_columnOf_l0 N k_
  | 0 => by funext relation2 column2 db2 db3 out t13 t14 t15; exact impl_columnOf_l0_z N relation2 column2 db2 db3 out t13 t14 t15
  | k_ + 1 => by funext relation2 column2 db2 db3 out t13 t14 t15; rw [impl_columnOf_l0_s]; simp only [impl_columnOf_l0_q N k_]; rfl
theorem impl_columnOf_v (N : Nat) (db : List (ByteArray × Int × Int) × List (Int × List Int)) (indices : List Int) (relation : Int) (column : Int) :
    evFn Tb (sigL (impl_columnOf_es N)) cps (orcL (impl_columnOf_es N)) (drawReg Tb (sigL (impl_columnOf_es N)) cps (orcL (impl_columnOf_es N))) N impl_columnOf_an impl_columnOf_sg Try.f106 (Try.f106.body.getD .skip) [.val ty8 db, .val ty2 indices, .val i64 relation, .val i64 column] (un1 ty2) = impl_columnOf_b N (impl_columnOf_l0_E N N) db indices relation column := by kernel_rfl
noncomputable def impl_columnOf_e (N : Nat) : Entry Try.prog := ⟨106, impl_columnOf_sg, [.v ty8, .v ty2, .v i64, .v i64], List Int, impl_columnOf N, pk1 ty2, rfl, entry_en Try.func106 (code := Try.f106.body.getD .skip) (by kernel_rfl) (by kernel_rfl),
  fun db indices relation column => entry_ok tab_ok (es := impl_columnOf_es N) (by kernel_rfl) mixed Try.func106 (by kernel_rfl) (un1_pk ty2) (by rw [impl_columnOf_v, impl_columnOf_l0_q]; rfl)⟩
noncomputable def impl_sumOf_es (N : Nat) : List (Entry Try.prog) := []
def impl_sumOf_sg : Sig := ⟨[.val ty2], [(i64, true)], false⟩
def impl_sumOf_an : Nat → Option (List Nat)
  | 0 => some [3, 6, 7, 8]
  | _ => none
noncomputable def impl_sumOf_lp (N : Nat) (p : List Dir) (rs : List (Env → Option (Int))) (k : Nat) (env : Env) : Option (Int) :=
  loopAt Tb (sigL (impl_sumOf_es N)) cps (orcL (impl_sumOf_es N)) N impl_sumOf_an p (Try.f105.body.getD .skip) (endK Tb impl_sumOf_sg Try.f105 (un1 i64)) rs k env
noncomputable def impl_sumOf_l0_E (N : Nat) (k_ : Nat) (sum : Int) (t6 : List Int) (t7 : Int) (t8 : Int) : Option (Int) :=
  impl_sumOf_lp N [.r, .r, .l, .r, .b] [] k_ (un 3 (.con .val [lf i64 sum .ro] :: (un 2 (.con .val [lf ty2 t6 .ro] :: (.con .val [lf i64 t7 .ro] :: (.con .val [lf i64 t8 .ro] :: (un 8 [])))))))
theorem impl_sumOf_l0_z (N : Nat) (sum : Int) (t6 : List Int) (t7 : Int) (t8 : Int) : impl_sumOf_l0_E N 0 sum t6 t7 t8 = none := by kernel_rfl
theorem impl_sumOf_l0_s (N : Nat) (k_ : Nat) (sum : Int) (t6 : List Int) (t7 : Int) (t8 : Int) : impl_sumOf_l0_E N (k_ + 1) sum t6 t7 t8 = impl_sumOf_l0_b N (impl_sumOf_l0_E N k_) sum t6 t7 t8 := by kernel_rfl
theorem impl_sumOf_l0_q (N : Nat) : ∀ k_, impl_sumOf_l0_E N k_ = impl_sumOf_l0 N k_
  | 0 => by funext sum t6 t7 t8; exact impl_sumOf_l0_z N sum t6 t7 t8
  | k_ + 1 => by funext sum t6 t7 t8; rw [impl_sumOf_l0_s]; simp only [impl_sumOf_l0_q N k_]; rfl
theorem impl_sumOf_v (N : Nat) (values : List Int) :
    evFn Tb (sigL (impl_sumOf_es N)) cps (orcL (impl_sumOf_es N)) (drawReg Tb (sigL (impl_sumOf_es N)) cps (orcL (impl_sumOf_es N))) N impl_sumOf_an impl_sumOf_sg Try.f105 (Try.f105.body.getD .skip) [.val ty2 values] (un1 i64) = impl_sumOf_b N (impl_sumOf_l0_E N N) values := by kernel_rfl
noncomputable def impl_sumOf_e (N : Nat) : Entry Try.prog := ⟨105, impl_sumOf_sg, [.v ty2], Int, impl_sumOf N, pk1 i64, rfl, entry_en Try.func105 (code := Try.f105.body.getD .skip) (by kernel_rfl) (by kernel_rfl),
  fun values => entry_ok tab_ok (es := impl_sumOf_es N) (by kernel_rfl) mixed Try.func105 (by kernel_rfl) (un1_pk i64) (by rw [impl_sumOf_v, impl_sumOf_l0_q]; rfl)⟩
noncomputable def impl_GroupSumRange_c1_es (N : Nat) : List (Entry Try.prog) := [impl_groupOf_e N, impl_columnOf_e N, impl_sumOf_e N]
def impl_GroupSumRange_c1_sg : Sig := ⟨[.val ty2, .ptr ty8, .ptr i64, .ptr i64, .ptr i64, .ptr i64], [(i64, true)], false⟩
def impl_GroupSumRange_c1_an : Nat → Option (List Nat) := fun _ => none
theorem impl_GroupSumRange_c1_v (N : Nat) (repair : List Int) (c1 : List (ByteArray × Int × Int) × List (Int × List Int)) (c2 : Int) (c3 : Int) (c4 : Int) (c5 : Int) :
    evFn Tb (sigL (impl_GroupSumRange_c1_es N)) cps (orcL (impl_GroupSumRange_c1_es N)) (drawReg Tb (sigL (impl_GroupSumRange_c1_es N)) cps (orcL (impl_GroupSumRange_c1_es N))) N impl_GroupSumRange_c1_an impl_GroupSumRange_c1_sg Try.f104 (Try.f104.body.getD .skip) [.val ty2 repair, .ptr ty8 c1, .ptr i64 c2, .ptr i64 c3, .ptr i64 c4, .ptr i64 c5] (un1 i64) = impl_GroupSumRange_c1 N repair c1 c2 c3 c4 c5 := by kernel_rfl
noncomputable def impl_GroupSumRange_c1_e (N : Nat) : Entry Try.prog := ⟨104, impl_GroupSumRange_c1_sg, [.v ty2, .p ty8, .p i64, .p i64, .p i64, .p i64], Int, impl_GroupSumRange_c1 N, pk1 i64, rfl, entry_en Try.func104 (code := Try.f104.body.getD .skip) (by kernel_rfl) (by kernel_rfl),
  fun repair c1 c2 c3 c4 c5 => entry_ok tab_ok (es := impl_GroupSumRange_c1_es N) (by kernel_rfl) mixed Try.func104 (by kernel_rfl) (un1_pk i64) (impl_GroupSumRange_c1_v N repair c1 c2 c3 c4 c5)⟩
noncomputable def impl_countRepairs_es (N : Nat) : List (Entry Try.prog) := []
def impl_countRepairs_sg : Sig := ⟨[.val ty9], [(i64, true)], false⟩
def impl_countRepairs_an : Nat → Option (List Nat)
  | 0 => some [3, 6, 7, 8]
  | _ => none
noncomputable def impl_countRepairs_lp (N : Nat) (p : List Dir) (rs : List (Env → Option (Int))) (k : Nat) (env : Env) : Option (Int) :=
  loopAt Tb (sigL (impl_countRepairs_es N)) cps (orcL (impl_countRepairs_es N)) N impl_countRepairs_an p (Try.f137.body.getD .skip) (endK Tb impl_countRepairs_sg Try.f137 (un1 i64)) rs k env
noncomputable def impl_countRepairs_l0_E (N : Nat) (k_ : Nat) (out : Int) (t6 : List (List Int)) (t7 : Int) (t8 : Int) : Option (Int) :=
  impl_countRepairs_lp N [.r, .r, .l, .r, .b] [] k_ (un 3 (.con .val [lf i64 out .ro] :: (un 2 (.con .val [lf ty9 t6 .ro] :: (.con .val [lf i64 t7 .ro] :: (.con .val [lf i64 t8 .ro] :: (un 9 [])))))))
theorem impl_countRepairs_l0_z (N : Nat) (out : Int) (t6 : List (List Int)) (t7 : Int) (t8 : Int) : impl_countRepairs_l0_E N 0 out t6 t7 t8 = none := by kernel_rfl
theorem impl_countRepairs_l0_s (N : Nat) (k_ : Nat) (out : Int) (t6 : List (List Int)) (t7 : Int) (t8 : Int) : impl_countRepairs_l0_E N (k_ + 1) out t6 t7 t8 = impl_countRepairs_l0_b N (impl_countRepairs_l0_E N k_) out t6 t7 t8 := by kernel_rfl
theorem impl_countRepairs_l0_q (N : Nat) : ∀ k_, impl_countRepairs_l0_E N k_ = impl_countRepairs_l0 N k_
  | 0 => by funext out t6 t7 t8; exact impl_countRepairs_l0_z N out t6 t7 t8
  | k_ + 1 => by funext out t6 t7 t8; rw [impl_countRepairs_l0_s]; simp only [impl_countRepairs_l0_q N k_]; rfl
theorem impl_countRepairs_v (N : Nat) (list : List (List Int)) :
    evFn Tb (sigL (impl_countRepairs_es N)) cps (orcL (impl_countRepairs_es N)) (drawReg Tb (sigL (impl_countRepairs_es N)) cps (orcL (impl_countRepairs_es N))) N impl_countRepairs_an impl_countRepairs_sg Try.f137 (Try.f137.body.getD .skip) [.val ty9 list] (un1 i64) = impl_countRepairs_b N (impl_countRepairs_l0_E N N) list := by kernel_rfl
noncomputable def impl_countRepairs_e (N : Nat) : Entry Try.prog := ⟨137, impl_countRepairs_sg, [.v ty9], Int, impl_countRepairs N, pk1 i64, rfl, entry_en Try.func137 (code := Try.f137.body.getD .skip) (by kernel_rfl) (by kernel_rfl),
  fun list => entry_ok tab_ok (es := impl_countRepairs_es N) (by kernel_rfl) mixed Try.func137 (by kernel_rfl) (un1_pk i64) (by rw [impl_countRepairs_v, impl_countRepairs_l0_q]; rfl)⟩
noncomputable def impl_rangeOf_GroupSumRange_c1_es (N : Nat) : List (Entry Try.prog) := [impl_nthRepair_e N, impl_GroupSumRange_c1_e N, impl_blocks_e N, impl_countRepairs_e N]
def impl_rangeOf_GroupSumRange_c1_sg : Sig := ⟨[.val ty8, .clo], [(i64, true), (i64, true)], false⟩
def impl_rangeOf_GroupSumRange_c1_an : Nat → Option (List Nat)
  | 0 => some [1, 6, 7, 8, 19, 20]
  | _ => none
noncomputable def impl_rangeOf_GroupSumRange_c1_lp (N : Nat) (p : List Dir) (rs : List (Env → Option (Int × Int))) (k : Nat) (env : Env) : Option (Int × Int) :=
  loopAt Tb (sigL (impl_rangeOf_GroupSumRange_c1_es N)) cps (orcL (impl_rangeOf_GroupSumRange_c1_es N)) N impl_rangeOf_GroupSumRange_c1_an p (Try.f98.body.getD .skip) (endK Tb impl_rangeOf_GroupSumRange_c1_sg Try.f98 (un2 i64 i64)) rs k env
noncomputable def impl_rangeOf_GroupSumRange_c1_l0_E (N : Nat) (k_ : Nat) (aggregate : List (ByteArray × Int × Int) × List (Int × List Int)) (aggregate2 : Int) (aggregate3 : Int) (aggregate4 : Int) (aggregate5 : Int) (list : List (List Int)) (least : Int) (most : Int) (t19 : Int) (t20 : Int) : Option (Int × Int) :=
  impl_rangeOf_GroupSumRange_c1_lp N [.r, .r, .r, .r, .l, .r, .b] [] k_ (un 1 (.cloR 104 [⟨ty8, aggregate⟩, ⟨i64, aggregate2⟩, ⟨i64, aggregate3⟩, ⟨i64, aggregate4⟩, ⟨i64, aggregate5⟩] :: (un 4 (.con .val [lf ty9 list .dp] :: (.con .val [lf i64 least .ro] :: (.con .val [lf i64 most .ro] :: (un 10 (.con .val [lf i64 t19 .ro] :: (.con .val [lf i64 t20 .ro] :: (un 16 []))))))))))
theorem impl_rangeOf_GroupSumRange_c1_l0_z (N : Nat) (aggregate : List (ByteArray × Int × Int) × List (Int × List Int)) (aggregate2 : Int) (aggregate3 : Int) (aggregate4 : Int) (aggregate5 : Int) (list : List (List Int)) (least : Int) (most : Int) (t19 : Int) (t20 : Int) : impl_rangeOf_GroupSumRange_c1_l0_E N 0 aggregate aggregate2 aggregate3 aggregate4 aggregate5 list least most t19 t20 = none := by kernel_rfl
theorem impl_rangeOf_GroupSumRange_c1_l0_s (N : Nat) (k_ : Nat) (aggregate : List (ByteArray × Int × Int) × List (Int × List Int)) (aggregate2 : Int) (aggregate3 : Int) (aggregate4 : Int) (aggregate5 : Int) (list : List (List Int)) (least : Int) (most : Int) (t19 : Int) (t20 : Int) : impl_rangeOf_GroupSumRange_c1_l0_E N (k_ + 1) aggregate aggregate2 aggregate3 aggregate4 aggregate5 list least most t19 t20 = impl_rangeOf_GroupSumRange_c1_l0_b N (impl_rangeOf_GroupSumRange_c1_l0_E N k_) aggregate aggregate2 aggregate3 aggregate4 aggregate5 list least most t19 t20 := by kernel_rfl
theorem impl_rangeOf_GroupSumRange_c1_l0_q (N : Nat) : ∀ k_, impl_rangeOf_GroupSumRange_c1_l0_E N k_ = impl_rangeOf_GroupSumRange_c1_l0 N k_
  | 0 => by funext aggregate aggregate2 aggregate3 aggregate4 aggregate5 list least most t19 t20; exact impl_rangeOf_GroupSumRange_c1_l0_z N aggregate aggregate2 aggregate3 aggregate4 aggregate5 list least most t19 t20
  | k_ + 1 => by funext aggregate aggregate2 aggregate3 aggregate4 aggregate5 list least most t19 t20; rw [impl_rangeOf_GroupSumRange_c1_l0_s]; simp only [impl_rangeOf_GroupSumRange_c1_l0_q N k_]; rfl
theorem impl_rangeOf_GroupSumRange_c1_v (N : Nat) (db : List (ByteArray × Int × Int) × List (Int × List Int)) (c : List (ByteArray × Int × Int) × List (Int × List Int)) (c2 : Int) (c3 : Int) (c4 : Int) (c5 : Int) :
    evFn Tb (sigL (impl_rangeOf_GroupSumRange_c1_es N)) cps (orcL (impl_rangeOf_GroupSumRange_c1_es N)) (drawReg Tb (sigL (impl_rangeOf_GroupSumRange_c1_es N)) cps (orcL (impl_rangeOf_GroupSumRange_c1_es N))) N impl_rangeOf_GroupSumRange_c1_an impl_rangeOf_GroupSumRange_c1_sg Try.f98 (Try.f98.body.getD .skip) [.val ty8 db, .clo 104 [⟨ty8, c⟩, ⟨i64, c2⟩, ⟨i64, c3⟩, ⟨i64, c4⟩, ⟨i64, c5⟩]] (un2 i64 i64) = impl_rangeOf_GroupSumRange_c1_b N (impl_rangeOf_GroupSumRange_c1_l0_E N N) db c c2 c3 c4 c5 := by kernel_rfl
noncomputable def impl_rangeOf_GroupSumRange_c1_e (N : Nat) : Entry Try.prog := ⟨98, impl_rangeOf_GroupSumRange_c1_sg, [.v ty8, .c 104 [ty8, i64, i64, i64, i64]], Int × Int, impl_rangeOf_GroupSumRange_c1 N, pk2 i64 i64, rfl, entry_en Try.func98 (code := Try.f98.body.getD .skip) (by kernel_rfl) (by kernel_rfl),
  fun db c c2 c3 c4 c5 => entry_ok tab_ok (es := impl_rangeOf_GroupSumRange_c1_es N) (by kernel_rfl) mixed Try.func98 (by kernel_rfl) (un2_pk i64 i64) (by rw [impl_rangeOf_GroupSumRange_c1_v, impl_rangeOf_GroupSumRange_c1_l0_q]; rfl)⟩
noncomputable def impl_GroupSumRange_es (N : Nat) : List (Entry Try.prog) := [impl_isColumn_e N, impl_rangeOf_GroupSumRange_c1_e N]
def impl_GroupSumRange_sg : Sig := ⟨[.val ty8, .val i64, .val i64, .val i64, .val i64], [(i64, true), (i64, true), (.bool, true)], false⟩
def impl_GroupSumRange_an : Nat → Option (List Nat) := fun _ => none
theorem impl_GroupSumRange_v (N : Nat) (db : List (ByteArray × Int × Int) × List (Int × List Int)) (relation : Int) (groupColumn : Int) (column : Int) (value : Int) :
    evFn Tb (sigL (impl_GroupSumRange_es N)) cps (orcL (impl_GroupSumRange_es N)) (drawReg Tb (sigL (impl_GroupSumRange_es N)) cps (orcL (impl_GroupSumRange_es N))) N impl_GroupSumRange_an impl_GroupSumRange_sg Try.f57 (Try.f57.body.getD .skip) [.val ty8 db, .val i64 relation, .val i64 groupColumn, .val i64 column, .val i64 value] (un3 i64 i64 .bool) = impl_GroupSumRange N db relation groupColumn column value := by kernel_rfl
noncomputable def impl_GroupSumRange_e (N : Nat) : Entry Try.prog := ⟨57, impl_GroupSumRange_sg, [.v ty8, .v i64, .v i64, .v i64, .v i64], Int × Int × Bool, impl_GroupSumRange N, pk3 i64 i64 .bool, rfl, entry_en Try.func57 (code := Try.f57.body.getD .skip) (by kernel_rfl) (by kernel_rfl),
  fun db relation groupColumn column value => entry_ok tab_ok (es := impl_GroupSumRange_es N) (by kernel_rfl) mixed Try.func57 (by kernel_rfl) (un3_pk i64 i64 .bool) (impl_GroupSumRange_v N db relation groupColumn column value)⟩
noncomputable def laws_eqRelation_es (N : Nat) : List (Entry Try.prog) := []
def laws_eqRelation_sg : Sig := ⟨[.val ty0, .val ty0], [(.bool, true)], false⟩
def laws_eqRelation_an : Nat → Option (List Nat) := fun _ => none
theorem laws_eqRelation_v (N : Nat) (a : ByteArray × Int × Int) (b : ByteArray × Int × Int) :
    evFn Tb (sigL (laws_eqRelation_es N)) cps (orcL (laws_eqRelation_es N)) (drawReg Tb (sigL (laws_eqRelation_es N)) cps (orcL (laws_eqRelation_es N))) N laws_eqRelation_an laws_eqRelation_sg Try.f119 (Try.f119.body.getD .skip) [.val ty0 a, .val ty0 b] (un1 .bool) = laws_eqRelation N a b := by kernel_rfl
noncomputable def laws_eqRelation_e (N : Nat) : Entry Try.prog := ⟨119, laws_eqRelation_sg, [.v ty0, .v ty0], Bool, laws_eqRelation N, pk1 .bool, rfl, entry_en Try.func119 (code := Try.f119.body.getD .skip) (by kernel_rfl) (by kernel_rfl),
  fun a b => entry_ok tab_ok (es := laws_eqRelation_es N) (by kernel_rfl) mixed Try.func119 (by kernel_rfl) (un1_pk .bool) (laws_eqRelation_v N a b)⟩
noncomputable def laws_eqRelationS_es (N : Nat) : List (Entry Try.prog) := [laws_eqRelation_e N]
def laws_eqRelationS_sg : Sig := ⟨[.val ty6, .val ty6], [(.bool, true)], false⟩
def laws_eqRelationS_an : Nat → Option (List Nat)
  | 0 => some [0, 1, 5]
  | _ => none
noncomputable def laws_eqRelationS_lp (N : Nat) (p : List Dir) (rs : List (Env → Option (Bool))) (k : Nat) (env : Env) : Option (Bool) :=
  loopAt Tb (sigL (laws_eqRelationS_es N)) cps (orcL (laws_eqRelationS_es N)) N laws_eqRelationS_an p (Try.f72.body.getD .skip) (endK Tb laws_eqRelationS_sg Try.f72 (un1 .bool)) rs k env
noncomputable def laws_eqRelationS_l0_E (N : Nat) (k_ : Nat) (a2 : List (ByteArray × Int × Int)) (b2 : List (ByteArray × Int × Int)) (i : Int) : Option (Bool) :=
  laws_eqRelationS_lp N [.r, .r, .l, .r, .b] [] k_ (.con .val [lf ty6 a2 .ro] :: (.con .val [lf ty6 b2 .ro] :: (un 3 (.con .val [lf i64 i .ro] :: (un 21 [])))))
theorem laws_eqRelationS_l0_z (N : Nat) (a2 : List (ByteArray × Int × Int)) (b2 : List (ByteArray × Int × Int)) (i : Int) : laws_eqRelationS_l0_E N 0 a2 b2 i = none := by kernel_rfl
theorem laws_eqRelationS_l0_s (N : Nat) (k_ : Nat) (a2 : List (ByteArray × Int × Int)) (b2 : List (ByteArray × Int × Int)) (i : Int) : laws_eqRelationS_l0_E N (k_ + 1) a2 b2 i = laws_eqRelationS_l0_b N (laws_eqRelationS_l0_E N k_) a2 b2 i := by kernel_rfl
theorem laws_eqRelationS_l0_q (N : Nat) : ∀ k_, laws_eqRelationS_l0_E N k_ = laws_eqRelationS_l0 N k_
  | 0 => by funext a2 b2 i; exact laws_eqRelationS_l0_z N a2 b2 i
  | k_ + 1 => by funext a2 b2 i; rw [laws_eqRelationS_l0_s]; simp only [laws_eqRelationS_l0_q N k_]; rfl
theorem laws_eqRelationS_v (N : Nat) (a : List (ByteArray × Int × Int)) (b : List (ByteArray × Int × Int)) :
    evFn Tb (sigL (laws_eqRelationS_es N)) cps (orcL (laws_eqRelationS_es N)) (drawReg Tb (sigL (laws_eqRelationS_es N)) cps (orcL (laws_eqRelationS_es N))) N laws_eqRelationS_an laws_eqRelationS_sg Try.f72 (Try.f72.body.getD .skip) [.val ty6 a, .val ty6 b] (un1 .bool) = laws_eqRelationS_b N (laws_eqRelationS_l0_E N N) a b := by kernel_rfl
noncomputable def laws_eqRelationS_e (N : Nat) : Entry Try.prog := ⟨72, laws_eqRelationS_sg, [.v ty6, .v ty6], Bool, laws_eqRelationS N, pk1 .bool, rfl, entry_en Try.func72 (code := Try.f72.body.getD .skip) (by kernel_rfl) (by kernel_rfl),
  fun a b => entry_ok tab_ok (es := laws_eqRelationS_es N) (by kernel_rfl) mixed Try.func72 (by kernel_rfl) (un1_pk .bool) (by rw [laws_eqRelationS_v, laws_eqRelationS_l0_q]; rfl)⟩
noncomputable def laws_eqIntS_es (N : Nat) : List (Entry Try.prog) := []
def laws_eqIntS_sg : Sig := ⟨[.val ty2, .val ty2], [(.bool, true)], false⟩
def laws_eqIntS_an : Nat → Option (List Nat)
  | 0 => some [0, 1, 5]
  | _ => none
noncomputable def laws_eqIntS_lp (N : Nat) (p : List Dir) (rs : List (Env → Option (Bool))) (k : Nat) (env : Env) : Option (Bool) :=
  loopAt Tb (sigL (laws_eqIntS_es N)) cps (orcL (laws_eqIntS_es N)) N laws_eqIntS_an p (Try.f26.body.getD .skip) (endK Tb laws_eqIntS_sg Try.f26 (un1 .bool)) rs k env
noncomputable def laws_eqIntS_l0_E (N : Nat) (k_ : Nat) (a2 : List Int) (b2 : List Int) (i : Int) : Option (Bool) :=
  laws_eqIntS_lp N [.r, .r, .l, .r, .b] [] k_ (.con .val [lf ty2 a2 .ro] :: (.con .val [lf ty2 b2 .ro] :: (un 3 (.con .val [lf i64 i .ro] :: (un 20 [])))))
theorem laws_eqIntS_l0_z (N : Nat) (a2 : List Int) (b2 : List Int) (i : Int) : laws_eqIntS_l0_E N 0 a2 b2 i = none := by kernel_rfl
theorem laws_eqIntS_l0_s (N : Nat) (k_ : Nat) (a2 : List Int) (b2 : List Int) (i : Int) : laws_eqIntS_l0_E N (k_ + 1) a2 b2 i = laws_eqIntS_l0_b N (laws_eqIntS_l0_E N k_) a2 b2 i := by kernel_rfl
theorem laws_eqIntS_l0_q (N : Nat) : ∀ k_, laws_eqIntS_l0_E N k_ = laws_eqIntS_l0 N k_
  | 0 => by funext a2 b2 i; exact laws_eqIntS_l0_z N a2 b2 i
  | k_ + 1 => by funext a2 b2 i; rw [laws_eqIntS_l0_s]; simp only [laws_eqIntS_l0_q N k_]; rfl
theorem laws_eqIntS_v (N : Nat) (a : List Int) (b : List Int) :
    evFn Tb (sigL (laws_eqIntS_es N)) cps (orcL (laws_eqIntS_es N)) (drawReg Tb (sigL (laws_eqIntS_es N)) cps (orcL (laws_eqIntS_es N))) N laws_eqIntS_an laws_eqIntS_sg Try.f26 (Try.f26.body.getD .skip) [.val ty2 a, .val ty2 b] (un1 .bool) = laws_eqIntS_b N (laws_eqIntS_l0_E N N) a b := by kernel_rfl
noncomputable def laws_eqIntS_e (N : Nat) : Entry Try.prog := ⟨26, laws_eqIntS_sg, [.v ty2, .v ty2], Bool, laws_eqIntS N, pk1 .bool, rfl, entry_en Try.func26 (code := Try.f26.body.getD .skip) (by kernel_rfl) (by kernel_rfl),
  fun a b => entry_ok tab_ok (es := laws_eqIntS_es N) (by kernel_rfl) mixed Try.func26 (by kernel_rfl) (un1_pk .bool) (by rw [laws_eqIntS_v, laws_eqIntS_l0_q]; rfl)⟩
noncomputable def laws_eqFact_es (N : Nat) : List (Entry Try.prog) := [laws_eqIntS_e N]
def laws_eqFact_sg : Sig := ⟨[.val ty3, .val ty3], [(.bool, true)], false⟩
def laws_eqFact_an : Nat → Option (List Nat) := fun _ => none
theorem laws_eqFact_v (N : Nat) (a : Int × List Int) (b : Int × List Int) :
    evFn Tb (sigL (laws_eqFact_es N)) cps (orcL (laws_eqFact_es N)) (drawReg Tb (sigL (laws_eqFact_es N)) cps (orcL (laws_eqFact_es N))) N laws_eqFact_an laws_eqFact_sg Try.f120 (Try.f120.body.getD .skip) [.val ty3 a, .val ty3 b] (un1 .bool) = laws_eqFact N a b := by kernel_rfl
noncomputable def laws_eqFact_e (N : Nat) : Entry Try.prog := ⟨120, laws_eqFact_sg, [.v ty3, .v ty3], Bool, laws_eqFact N, pk1 .bool, rfl, entry_en Try.func120 (code := Try.f120.body.getD .skip) (by kernel_rfl) (by kernel_rfl),
  fun a b => entry_ok tab_ok (es := laws_eqFact_es N) (by kernel_rfl) mixed Try.func120 (by kernel_rfl) (un1_pk .bool) (laws_eqFact_v N a b)⟩
noncomputable def laws_eqFactS_es (N : Nat) : List (Entry Try.prog) := [laws_eqFact_e N]
def laws_eqFactS_sg : Sig := ⟨[.val ty7, .val ty7], [(.bool, true)], false⟩
def laws_eqFactS_an : Nat → Option (List Nat)
  | 0 => some [0, 1, 5]
  | _ => none
noncomputable def laws_eqFactS_lp (N : Nat) (p : List Dir) (rs : List (Env → Option (Bool))) (k : Nat) (env : Env) : Option (Bool) :=
  loopAt Tb (sigL (laws_eqFactS_es N)) cps (orcL (laws_eqFactS_es N)) N laws_eqFactS_an p (Try.f73.body.getD .skip) (endK Tb laws_eqFactS_sg Try.f73 (un1 .bool)) rs k env
noncomputable def laws_eqFactS_l0_E (N : Nat) (k_ : Nat) (a2 : List (Int × List Int)) (b2 : List (Int × List Int)) (i : Int) : Option (Bool) :=
  laws_eqFactS_lp N [.r, .r, .l, .r, .b] [] k_ (.con .val [lf ty7 a2 .ro] :: (.con .val [lf ty7 b2 .ro] :: (un 3 (.con .val [lf i64 i .ro] :: (un 21 [])))))
theorem laws_eqFactS_l0_z (N : Nat) (a2 : List (Int × List Int)) (b2 : List (Int × List Int)) (i : Int) : laws_eqFactS_l0_E N 0 a2 b2 i = none := by kernel_rfl
theorem laws_eqFactS_l0_s (N : Nat) (k_ : Nat) (a2 : List (Int × List Int)) (b2 : List (Int × List Int)) (i : Int) : laws_eqFactS_l0_E N (k_ + 1) a2 b2 i = laws_eqFactS_l0_b N (laws_eqFactS_l0_E N k_) a2 b2 i := by kernel_rfl
theorem laws_eqFactS_l0_q (N : Nat) : ∀ k_, laws_eqFactS_l0_E N k_ = laws_eqFactS_l0 N k_
  | 0 => by funext a2 b2 i; exact laws_eqFactS_l0_z N a2 b2 i
  | k_ + 1 => by funext a2 b2 i; rw [laws_eqFactS_l0_s]; simp only [laws_eqFactS_l0_q N k_]; rfl
theorem laws_eqFactS_v (N : Nat) (a : List (Int × List Int)) (b : List (Int × List Int)) :
    evFn Tb (sigL (laws_eqFactS_es N)) cps (orcL (laws_eqFactS_es N)) (drawReg Tb (sigL (laws_eqFactS_es N)) cps (orcL (laws_eqFactS_es N))) N laws_eqFactS_an laws_eqFactS_sg Try.f73 (Try.f73.body.getD .skip) [.val ty7 a, .val ty7 b] (un1 .bool) = laws_eqFactS_b N (laws_eqFactS_l0_E N N) a b := by kernel_rfl
noncomputable def laws_eqFactS_e (N : Nat) : Entry Try.prog := ⟨73, laws_eqFactS_sg, [.v ty7, .v ty7], Bool, laws_eqFactS N, pk1 .bool, rfl, entry_en Try.func73 (code := Try.f73.body.getD .skip) (by kernel_rfl) (by kernel_rfl),
  fun a b => entry_ok tab_ok (es := laws_eqFactS_es N) (by kernel_rfl) mixed Try.func73 (by kernel_rfl) (un1_pk .bool) (by rw [laws_eqFactS_v, laws_eqFactS_l0_q]; rfl)⟩
noncomputable def laws_eqDatabase_es (N : Nat) : List (Entry Try.prog) := [laws_eqRelationS_e N, laws_eqFactS_e N]
def laws_eqDatabase_sg : Sig := ⟨[.val ty8, .val ty8], [(.bool, true)], false⟩
def laws_eqDatabase_an : Nat → Option (List Nat) := fun _ => none
theorem laws_eqDatabase_v (N : Nat) (a : List (ByteArray × Int × Int) × List (Int × List Int)) (b : List (ByteArray × Int × Int) × List (Int × List Int)) :
    evFn Tb (sigL (laws_eqDatabase_es N)) cps (orcL (laws_eqDatabase_es N)) (drawReg Tb (sigL (laws_eqDatabase_es N)) cps (orcL (laws_eqDatabase_es N))) N laws_eqDatabase_an laws_eqDatabase_sg Try.f34 (Try.f34.body.getD .skip) [.val ty8 a, .val ty8 b] (un1 .bool) = laws_eqDatabase N a b := by kernel_rfl
noncomputable def laws_eqDatabase_e (N : Nat) : Entry Try.prog := ⟨34, laws_eqDatabase_sg, [.v ty8, .v ty8], Bool, laws_eqDatabase N, pk1 .bool, rfl, entry_en Try.func34 (code := Try.f34.body.getD .skip) (by kernel_rfl) (by kernel_rfl),
  fun a b => entry_ok tab_ok (es := laws_eqDatabase_es N) (by kernel_rfl) mixed Try.func34 (by kernel_rfl) (un1_pk .bool) (laws_eqDatabase_v N a b)⟩
noncomputable def laws_FnExactGroupSumRange_es (N : Nat) : List (Entry Try.prog) := [laws_szDatabase_e N, laws_toDatabase_e N, spec_GroupSumRange_e N, impl_GroupSumRange_e N, laws_eqDatabase_e N]
def laws_FnExactGroupSumRange_sg : Sig := ⟨[.val ty5, .val i64, .val i64, .val i64, .val i64], [(.bool, true)], false⟩
def laws_FnExactGroupSumRange_an : Nat → Option (List Nat) := fun _ => none
theorem laws_FnExactGroupSumRange_v (N : Nat) (aDb : List (ByteArray × Int × Int) × List (Int × List Int)) (aRelation : Int) (aGroupColumn : Int) (aColumn : Int) (aValue : Int) :
    evFn Tb (sigL (laws_FnExactGroupSumRange_es N)) cps (orcL (laws_FnExactGroupSumRange_es N)) (drawReg Tb (sigL (laws_FnExactGroupSumRange_es N)) cps (orcL (laws_FnExactGroupSumRange_es N))) N laws_FnExactGroupSumRange_an laws_FnExactGroupSumRange_sg Try.f14 (Try.f14.body.getD .skip) [.val ty5 aDb, .val i64 aRelation, .val i64 aGroupColumn, .val i64 aColumn, .val i64 aValue] (un1 .bool) = laws_FnExactGroupSumRange N aDb aRelation aGroupColumn aColumn aValue := by kernel_rfl
noncomputable def laws_FnExactGroupSumRange_e (N : Nat) : Entry Try.prog := ⟨14, laws_FnExactGroupSumRange_sg, [.v ty5, .v i64, .v i64, .v i64, .v i64], Bool, laws_FnExactGroupSumRange N, pk1 .bool, rfl, entry_en Try.func14 (code := Try.f14.body.getD .skip) (by kernel_rfl) (by kernel_rfl),
  fun aDb aRelation aGroupColumn aColumn aValue => entry_ok tab_ok (es := laws_FnExactGroupSumRange_es N) (by kernel_rfl) mixed Try.func14 (by kernel_rfl) (un1_pk .bool) (laws_FnExactGroupSumRange_v N aDb aRelation aGroupColumn aColumn aValue)⟩
end Go.PL
