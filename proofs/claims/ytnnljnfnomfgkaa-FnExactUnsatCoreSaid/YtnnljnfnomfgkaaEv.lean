/- What the machine does at each function is what the plain reading says. Conditions: none. -/
import Derived.Test.YtnnljnfnomfgkaaFpE
import Derived.Test.YtnnljnfnomfgkaaPlain
import Derived.Test.YtnnljnfnomfgkaaProg

/- What the machine does is what the plain reading says. Conditions: none. -/
namespace Go.PL
open Go.FP Go.Proofs Go.Shelf
set_option linter.unusedVariables false
set_option maxRecDepth 10000

abbrev i64 : Ty := .int .i64
abbrev ty0 : Ty := (.slice 23 (.slice 3 i64))
abbrev ty1 : Ty := (.slice 3 i64)
def Tb : Tab := [⟨3, i64, 8, []⟩,
  ⟨4, .bool, 1, []⟩,
  ⟨23, ty1, 24, []⟩,
  ⟨30, ty0, 24, []⟩]
theorem tab_ok : TabOk Try.prog Tb :=
  (tab_cons (TEOk.plain (i := Try.t3) (by kernel_rfl) rfl rfl (by kernel_rfl) rfl Try.underlying3)
  (tab_cons (TEOk.plain (i := Try.t4) (by kernel_rfl) rfl rfl (by kernel_rfl) rfl Try.underlying4)
  (tab_cons (TEOk.plain (i := Try.t23) (by kernel_rfl) rfl rfl (by kernel_rfl) rfl Try.underlying23)
  (tab_cons (TEOk.plain (i := Try.t30) (by kernel_rfl) rfl rfl (by kernel_rfl) rfl Try.underlying30)
  tab_nil))))
theorem mixed : Try.prog.follows .mixedOrders = true := by decide
def cps : FuncId → List Ty := capsL [(146, [i64]), (148, [ty1])]

theorem slices_Clone_LLint_Lint_b : Bears Try.prog 81 (SlBodyN.n41 (renL 81 0 3 4 30 23)) := ⟨"slices.Clone[[][]int,[]int]", by kernel_rfl, Try.func81.trans (congrArg some (by kernel_rfl))⟩
noncomputable def slices_Clone_LLint_Lint_e (N : Nat) : Entry Try.prog := ⟨81, ⟨[.val ty0], [(ty0, .sh)], false, true⟩, [.v ty0], List (List Int), slices_Clone_LLint_Lint N, pk1 ty0, entry_en Try.func81 (code := Try.f81.body.getD .skip) (by kernel_rfl) (by kernel_rfl),
  fun s q h => clone_ent_sh tab_ok mixed slices_Clone_LLint_Lint_b (by kernel_rfl) Try.underlying4 (te := ⟨23, ty1, 24, []⟩) (by kernel_rfl) rfl h⟩
theorem slices_Clone_Lint_int_b : Bears Try.prog 77 (SlBodyN.n41 (renL 77 0 3 4 23 3)) := ⟨"slices.Clone[[]int,int]", by kernel_rfl, Try.func77.trans (congrArg some (by kernel_rfl))⟩
noncomputable def slices_Clone_Lint_int_e (N : Nat) : Entry Try.prog := ⟨77, ⟨[.val ty1], [(ty1, .dp)], false, false⟩, [.v ty1], List Int, slices_Clone_Lint_int N, pk1 ty1, entry_en Try.func77 (code := Try.f77.body.getD .skip) (by kernel_rfl) (by kernel_rfl),
  fun s q h => clone_ent tab_ok mixed slices_Clone_Lint_int_b (by kernel_rfl) Try.underlying4 (te := ⟨3, i64, 8, []⟩) (by kernel_rfl) rfl rfl h⟩
theorem slices_Delete_Lint_int_b : Bears Try.prog 76 (SlBodyN.n45 (renL 76 0 3 4 23 3)) := ⟨"slices.Delete[[]int,int]", by kernel_rfl, Try.func76.trans (congrArg some (by kernel_rfl))⟩
theorem slices_Delete_Lint_int_t : Try.prog.underlying 0 = some (.tuple #[]) ∧ (∀ w, (isAgg 0).run Try.prog w = .ok false w) ∧ (∀ w, (Go.sizeOf 0).run Try.prog w = .ok 1 w) ∧ ∀ w, (zeroValue 0).run Try.prog w = .ok (.tuple #[]) w := ⟨by kernel_rfl, fun w => Try.isAgg0 w, fun w => Try.sizeOf0 w, fun w => Try.zeroValue0 w⟩
noncomputable def slices_Delete_Lint_int_e (N : Nat) : Entry Try.prog := ⟨76, ⟨[.val ty1, .val i64, .val i64], [(ty1, .dp)], true, true⟩, [.v ty1, .v i64, .v i64], List Int, slices_Delete_Lint_int N, pk1 ty1, entry_en Try.func76 (code := Try.f76.body.getD .skip) (by kernel_rfl) (by kernel_rfl),
  fun s i j q h => delete_ent tab_ok mixed slices_Delete_Lint_int_b slices_Delete_Lint_int_t (by kernel_rfl) (by kernel_rfl) Try.underlying4 (te := ⟨3, i64, 8, []⟩) (by kernel_rfl) rfl rfl rfl h⟩
noncomputable def laws_szIntS_es (N : Nat) : List (Entry Try.prog) := []
def laws_szIntS_sg : Sig := ⟨[.val ty1, .val i64], [(i64, .dp)], false, false⟩
def laws_szIntS_an : Nat → Option (List Nat) := fun _ => none
theorem laws_szIntS_v (N : Nat) (a : List Int) (left_ : Int) :
    evFn Tb (sigL (laws_szIntS_es N)) cps (orcL (laws_szIntS_es N)) (drawReg Tb (sigL (laws_szIntS_es N)) cps (orcL (laws_szIntS_es N))) N laws_szIntS_an laws_szIntS_sg Try.f61 (Try.f61.body.getD .skip) [.val ty1 a, .val i64 left_] (un1 i64) = laws_szIntS N a left_ := by kernel_rfl
noncomputable def laws_szIntS_e (N : Nat) : Entry Try.prog := ⟨61, laws_szIntS_sg, [.v ty1, .v i64], Int, laws_szIntS N, pk1 i64, entry_en Try.func61 (code := Try.f61.body.getD .skip) (by kernel_rfl) (by kernel_rfl),
  fun a left_ => entry_ok tab_ok (es := laws_szIntS_es N) (by kernel_rfl) mixed Try.func61 (by kernel_rfl) ⟨rfl, rfl⟩ (un1_pk i64) (laws_szIntS_v N a left_)⟩
noncomputable def laws_szIntSS_es (N : Nat) : List (Entry Try.prog) := [laws_szIntS_e N]
def laws_szIntSS_sg : Sig := ⟨[.val ty0, .val i64], [(i64, .dp)], false, false⟩
def laws_szIntSS_an : Nat → Option (List Nat)
  | 0 => some [0, 1, 5]
  | _ => none
noncomputable def laws_szIntSS_lp (N : Nat) (p : List Dir) (rs : List (Env → Option (Int))) (k : Nat) (env : Env) : Option (Int) :=
  loopAt Tb (sigL (laws_szIntSS_es N)) cps (orcL (laws_szIntSS_es N)) N laws_szIntSS_an p (Try.f20.body.getD .skip) (endK Tb laws_szIntSS_sg Try.f20 [] (un1 i64)) rs k env
noncomputable def laws_szIntSS_l0_E (N : Nat) (k_ : Nat) (a2 : List (List Int)) (left_2 : Int) (i : Int) : Option (Int) :=
  laws_szIntSS_lp N [.r, .r, .r, .l, .r, .b] [] k_ (.con .val [lf ty0 a2 .ro] :: (.con .val [lf i64 left_2 .ro] :: (un 3 (.con .val [lf i64 i .ro] :: (un 21 [])))))
theorem laws_szIntSS_l0_z (N : Nat) (a2 : List (List Int)) (left_2 : Int) (i : Int) : laws_szIntSS_l0_E N 0 a2 left_2 i = none := by kernel_rfl
theorem laws_szIntSS_l0_s (N : Nat) (k_ : Nat) (a2 : List (List Int)) (left_2 : Int) (i : Int) : laws_szIntSS_l0_E N (k_ + 1) a2 left_2 i = laws_szIntSS_l0_b N (laws_szIntSS_l0_E N k_) a2 left_2 i := by kernel_rfl
theorem laws_szIntSS_l0_q (N : Nat) : ∀ k_, laws_szIntSS_l0_E N k_ = laws_szIntSS_l0 N k_
  | 0 => by funext a2 left_2 i; exact laws_szIntSS_l0_z N a2 left_2 i
  | k_ + 1 => by funext a2 left_2 i; rw [laws_szIntSS_l0_s]; simp only [laws_szIntSS_l0_q N k_]; rfl
theorem laws_szIntSS_v (N : Nat) (a : List (List Int)) (left_ : Int) :
    evFn Tb (sigL (laws_szIntSS_es N)) cps (orcL (laws_szIntSS_es N)) (drawReg Tb (sigL (laws_szIntSS_es N)) cps (orcL (laws_szIntSS_es N))) N laws_szIntSS_an laws_szIntSS_sg Try.f20 (Try.f20.body.getD .skip) [.val ty0 a, .val i64 left_] (un1 i64) = laws_szIntSS_b N (laws_szIntSS_l0_E N N) a left_ := by kernel_rfl
noncomputable def laws_szIntSS_e (N : Nat) : Entry Try.prog := ⟨20, laws_szIntSS_sg, [.v ty0, .v i64], Int, laws_szIntSS N, pk1 i64, entry_en Try.func20 (code := Try.f20.body.getD .skip) (by kernel_rfl) (by kernel_rfl),
  fun a left_ => entry_ok tab_ok (es := laws_szIntSS_es N) (by kernel_rfl) mixed Try.func20 (by kernel_rfl) ⟨rfl, rfl⟩ (un1_pk i64) (by rw [laws_szIntSS_v, laws_szIntSS_l0_q]; rfl)⟩
noncomputable def laws_toIntS_es (N : Nat) : List (Entry Try.prog) := []
def laws_toIntS_sg : Sig := ⟨[.val ty1], [(ty1, .dp)], false, false⟩
def laws_toIntS_an : Nat → Option (List Nat)
  | 0 => some [0, 3, 4]
  | _ => none
noncomputable def laws_toIntS_lp (N : Nat) (p : List Dir) (rs : List (Env → Option (List Int))) (k : Nat) (env : Env) : Option (List Int) :=
  loopAt Tb (sigL (laws_toIntS_es N)) cps (orcL (laws_toIntS_es N)) N laws_toIntS_an p (Try.f23.body.getD .skip) (endK Tb laws_toIntS_sg Try.f23 [] (un1 ty1)) rs k env
noncomputable def laws_toIntS_l0_E (N : Nat) (k_ : Nat) (a2 : List Int) (out : List Int) (i : Int) : Option (List Int) :=
  laws_toIntS_lp N [.r, .r, .l, .r, .b] [] k_ (.con .val [lf ty1 a2 .ro] :: (un 2 (.con .val [lf ty1 out .dp] :: (.con .val [lf i64 i .ro] :: (un 17 [])))))
theorem laws_toIntS_l0_z (N : Nat) (a2 : List Int) (out : List Int) (i : Int) : laws_toIntS_l0_E N 0 a2 out i = none := by kernel_rfl
theorem laws_toIntS_l0_s (N : Nat) (k_ : Nat) (a2 : List Int) (out : List Int) (i : Int) : laws_toIntS_l0_E N (k_ + 1) a2 out i = laws_toIntS_l0_b N (laws_toIntS_l0_E N k_) a2 out i := by kernel_rfl
theorem laws_toIntS_l0_q (N : Nat) : ∀ k_, laws_toIntS_l0_E N k_ = laws_toIntS_l0 N k_
  | 0 => by funext a2 out i; exact laws_toIntS_l0_z N a2 out i
  | k_ + 1 => by funext a2 out i; rw [laws_toIntS_l0_s]; simp only [laws_toIntS_l0_q N k_]; rfl
theorem laws_toIntS_v (N : Nat) (a : List Int) :
    evFn Tb (sigL (laws_toIntS_es N)) cps (orcL (laws_toIntS_es N)) (drawReg Tb (sigL (laws_toIntS_es N)) cps (orcL (laws_toIntS_es N))) N laws_toIntS_an laws_toIntS_sg Try.f23 (Try.f23.body.getD .skip) [.val ty1 a] (un1 ty1) = laws_toIntS_b N (laws_toIntS_l0_E N N) a := by kernel_rfl
noncomputable def laws_toIntS_e (N : Nat) : Entry Try.prog := ⟨23, laws_toIntS_sg, [.v ty1], List Int, laws_toIntS N, pk1 ty1, entry_en Try.func23 (code := Try.f23.body.getD .skip) (by kernel_rfl) (by kernel_rfl),
  fun a => entry_ok tab_ok (es := laws_toIntS_es N) (by kernel_rfl) mixed Try.func23 (by kernel_rfl) ⟨rfl, rfl⟩ (un1_pk ty1) (by rw [laws_toIntS_v, laws_toIntS_l0_q]; rfl)⟩
noncomputable def laws_toIntSS_es (N : Nat) : List (Entry Try.prog) := [laws_toIntS_e N]
def laws_toIntSS_sg : Sig := ⟨[.val ty0], [(ty0, .dp)], false, false⟩
def laws_toIntSS_an : Nat → Option (List Nat)
  | 0 => some [0, 3, 4]
  | _ => none
noncomputable def laws_toIntSS_lp (N : Nat) (p : List Dir) (rs : List (Env → Option (List (List Int)))) (k : Nat) (env : Env) : Option (List (List Int)) :=
  loopAt Tb (sigL (laws_toIntSS_es N)) cps (orcL (laws_toIntSS_es N)) N laws_toIntSS_an p (Try.f22.body.getD .skip) (endK Tb laws_toIntSS_sg Try.f22 [] (un1 ty0)) rs k env
noncomputable def laws_toIntSS_l0_E (N : Nat) (k_ : Nat) (a2 : List (List Int)) (out : List (List Int)) (i : Int) : Option (List (List Int)) :=
  laws_toIntSS_lp N [.r, .r, .l, .r, .b] [] k_ (.con .val [lf ty0 a2 .ro] :: (un 2 (.con .val [lf ty0 out .dp] :: (.con .val [lf i64 i .ro] :: (un 18 [])))))
theorem laws_toIntSS_l0_z (N : Nat) (a2 : List (List Int)) (out : List (List Int)) (i : Int) : laws_toIntSS_l0_E N 0 a2 out i = none := by kernel_rfl
theorem laws_toIntSS_l0_s (N : Nat) (k_ : Nat) (a2 : List (List Int)) (out : List (List Int)) (i : Int) : laws_toIntSS_l0_E N (k_ + 1) a2 out i = laws_toIntSS_l0_b N (laws_toIntSS_l0_E N k_) a2 out i := by kernel_rfl
theorem laws_toIntSS_l0_q (N : Nat) : ∀ k_, laws_toIntSS_l0_E N k_ = laws_toIntSS_l0 N k_
  | 0 => by funext a2 out i; exact laws_toIntSS_l0_z N a2 out i
  | k_ + 1 => by funext a2 out i; rw [laws_toIntSS_l0_s]; simp only [laws_toIntSS_l0_q N k_]; rfl
theorem laws_toIntSS_v (N : Nat) (a : List (List Int)) :
    evFn Tb (sigL (laws_toIntSS_es N)) cps (orcL (laws_toIntSS_es N)) (drawReg Tb (sigL (laws_toIntSS_es N)) cps (orcL (laws_toIntSS_es N))) N laws_toIntSS_an laws_toIntSS_sg Try.f22 (Try.f22.body.getD .skip) [.val ty0 a] (un1 ty0) = laws_toIntSS_b N (laws_toIntSS_l0_E N N) a := by kernel_rfl
noncomputable def laws_toIntSS_e (N : Nat) : Entry Try.prog := ⟨22, laws_toIntSS_sg, [.v ty0], List (List Int), laws_toIntSS N, pk1 ty0, entry_en Try.func22 (code := Try.f22.body.getD .skip) (by kernel_rfl) (by kernel_rfl),
  fun a => entry_ok tab_ok (es := laws_toIntSS_es N) (by kernel_rfl) mixed Try.func22 (by kernel_rfl) ⟨rfl, rfl⟩ (un1_pk ty0) (by rw [laws_toIntSS_v, laws_toIntSS_l0_q]; rfl)⟩
noncomputable def spec_l1In_es (N : Nat) : List (Entry Try.prog) := []
def spec_l1In_sg : Sig := ⟨[.val i64, .val i64, .val i64], [(.bool, .dp)], false, false⟩
def spec_l1In_an : Nat → Option (List Nat) := fun _ => none
theorem spec_l1In_v (N : Nat) (x : Int) (low : Int) (high : Int) :
    evFn Tb (sigL (spec_l1In_es N)) cps (orcL (spec_l1In_es N)) (drawReg Tb (sigL (spec_l1In_es N)) cps (orcL (spec_l1In_es N))) N spec_l1In_an spec_l1In_sg Try.f62 (Try.f62.body.getD .skip) [.val i64 x, .val i64 low, .val i64 high] (un1 .bool) = spec_l1In N x low high := by kernel_rfl
noncomputable def spec_l1In_e (N : Nat) : Entry Try.prog := ⟨62, spec_l1In_sg, [.v i64, .v i64, .v i64], Bool, spec_l1In N, pk1 .bool, entry_en Try.func62 (code := Try.f62.body.getD .skip) (by kernel_rfl) (by kernel_rfl),
  fun x low high => entry_ok tab_ok (es := spec_l1In_es N) (by kernel_rfl) mixed Try.func62 (by kernel_rfl) ⟨rfl, rfl⟩ (un1_pk .bool) (spec_l1In_v N x low high)⟩
noncomputable def spec_l20Clause_es (N : Nat) : List (Entry Try.prog) := [spec_l1In_e N]
def spec_l20Clause_sg : Sig := ⟨[.val i64, .val ty1], [(.bool, .dp)], false, false⟩
def spec_l20Clause_an : Nat → Option (List Nat)
  | 0 => some [0, 1, 5]
  | 2 => some [0, 1, 5, 7]
  | _ => none
noncomputable def spec_l20Clause_lp (N : Nat) (p : List Dir) (rs : List (Env → Option (Bool))) (k : Nat) (env : Env) : Option (Bool) :=
  loopAt Tb (sigL (spec_l20Clause_es N)) cps (orcL (spec_l20Clause_es N)) N spec_l20Clause_an p (Try.f122.body.getD .skip) (endK Tb spec_l20Clause_sg Try.f122 [] (un1 .bool)) rs k env
noncomputable def spec_l20Clause_l1_E (N : Nat) (k0_ : Nat) (k_ : Nat) (n3 : Int) (c3 : List Int) (i2 : Int) (k : Int) : Option (Bool) :=
  spec_l20Clause_lp N [.r, .l, .r, .b, .b, .r, .l, .b, .r, .r, .r, .r, .b] [spec_l20Clause_lp N [.r, .l, .r, .b] [] k0_] k_ (.con .val [lf i64 n3 .ro] :: (.con .val [lf ty1 c3 .ro] :: (un 3 (.con .val [lf i64 i2 .ro] :: (un 1 (.con .val [lf i64 k .ro] :: (un 60 [])))))))
noncomputable def spec_l20Clause_l0_E (N : Nat) (k_ : Nat) (n2 : Int) (c2 : List Int) (i : Int) : Option (Bool) :=
  spec_l20Clause_lp N [.r, .l, .r, .b] [] k_ (.con .val [lf i64 n2 .ro] :: (.con .val [lf ty1 c2 .ro] :: (un 3 (.con .val [lf i64 i .ro] :: (un 62 [])))))
theorem spec_l20Clause_l1_z (N : Nat) (k0_ : Nat) (n3 : Int) (c3 : List Int) (i2 : Int) (k : Int) : spec_l20Clause_l1_E N k0_ 0 n3 c3 i2 k = none := by kernel_rfl
theorem spec_l20Clause_l1_s (N : Nat) (k0_ : Nat) (k_ : Nat) (n3 : Int) (c3 : List Int) (i2 : Int) (k : Int) : spec_l20Clause_l1_E N k0_ (k_ + 1) n3 c3 i2 k = spec_l20Clause_l1_b N (spec_l20Clause_l0_E N k0_) (spec_l20Clause_l1_E N k0_ k_) n3 c3 i2 k := by kernel_rfl
theorem spec_l20Clause_l0_z (N : Nat) (n2 : Int) (c2 : List Int) (i : Int) : spec_l20Clause_l0_E N 0 n2 c2 i = none := by kernel_rfl
theorem spec_l20Clause_l0_s (N : Nat) (k_ : Nat) (n2 : Int) (c2 : List Int) (i : Int) : spec_l20Clause_l0_E N (k_ + 1) n2 c2 i = spec_l20Clause_l0_b N (spec_l20Clause_l1_E N k_ N) (spec_l20Clause_l0_E N k_) n2 c2 i := by kernel_rfl
theorem spec_l20Clause_l1_q (N : Nat) (k0_ : Nat) : ∀ k_, spec_l20Clause_l1_E N k0_ k_ = spec_l20Clause_l1 (spec_l20Clause_l0_E N k0_) N k_
  | 0 => by funext n3 c3 i2 k; exact spec_l20Clause_l1_z N k0_ n3 c3 i2 k
  | k_ + 1 => by funext n3 c3 i2 k; rw [spec_l20Clause_l1_s]; simp only [spec_l20Clause_l1_q N k0_ k_]; rfl
theorem spec_l20Clause_l0_q (N : Nat) : ∀ k_, spec_l20Clause_l0_E N k_ = spec_l20Clause_l0 N k_
  | 0 => by funext n2 c2 i; exact spec_l20Clause_l0_z N n2 c2 i
  | k_ + 1 => by funext n2 c2 i; rw [spec_l20Clause_l0_s]; simp only [spec_l20Clause_l1_q, spec_l20Clause_l0_q N k_]; rfl
theorem spec_l20Clause_v (N : Nat) (n : Int) (c : List Int) :
    evFn Tb (sigL (spec_l20Clause_es N)) cps (orcL (spec_l20Clause_es N)) (drawReg Tb (sigL (spec_l20Clause_es N)) cps (orcL (spec_l20Clause_es N))) N spec_l20Clause_an spec_l20Clause_sg Try.f122 (Try.f122.body.getD .skip) [.val i64 n, .val ty1 c] (un1 .bool) = spec_l20Clause_b N (spec_l20Clause_l0_E N N) n c := by kernel_rfl
noncomputable def spec_l20Clause_e (N : Nat) : Entry Try.prog := ⟨122, spec_l20Clause_sg, [.v i64, .v ty1], Bool, spec_l20Clause N, pk1 .bool, entry_en Try.func122 (code := Try.f122.body.getD .skip) (by kernel_rfl) (by kernel_rfl),
  fun n c => entry_ok tab_ok (es := spec_l20Clause_es N) (by kernel_rfl) mixed Try.func122 (by kernel_rfl) ⟨rfl, rfl⟩ (un1_pk .bool) (by rw [spec_l20Clause_v, spec_l20Clause_l0_q]; rfl)⟩
noncomputable def spec_AreValidClauses_es (N : Nat) : List (Entry Try.prog) := [spec_l20Clause_e N, spec_l1In_e N]
def spec_AreValidClauses_sg : Sig := ⟨[.val i64, .val ty0], [(.bool, .dp)], false, false⟩
def spec_AreValidClauses_an : Nat → Option (List Nat)
  | 0 => some [0, 1, 5]
  | _ => none
noncomputable def spec_AreValidClauses_lp (N : Nat) (p : List Dir) (rs : List (Env → Option (Bool))) (k : Nat) (env : Env) : Option (Bool) :=
  loopAt Tb (sigL (spec_AreValidClauses_es N)) cps (orcL (spec_AreValidClauses_es N)) N spec_AreValidClauses_an p (Try.f121.body.getD .skip) (endK Tb spec_AreValidClauses_sg Try.f121 [] (un1 .bool)) rs k env
noncomputable def spec_AreValidClauses_l0_E (N : Nat) (k_ : Nat) (n2 : Int) (l2 : List (List Int)) (i : Int) : Option (Bool) :=
  spec_AreValidClauses_lp N [.r, .l, .r, .b] [] k_ (.con .val [lf i64 n2 .ro] :: (.con .val [lf ty0 l2 .ro] :: (un 3 (.con .val [lf i64 i .ro] :: (un 20 [])))))
theorem spec_AreValidClauses_l0_z (N : Nat) (n2 : Int) (l2 : List (List Int)) (i : Int) : spec_AreValidClauses_l0_E N 0 n2 l2 i = none := by kernel_rfl
theorem spec_AreValidClauses_l0_s (N : Nat) (k_ : Nat) (n2 : Int) (l2 : List (List Int)) (i : Int) : spec_AreValidClauses_l0_E N (k_ + 1) n2 l2 i = spec_AreValidClauses_l0_b N (spec_AreValidClauses_l0_E N k_) n2 l2 i := by kernel_rfl
theorem spec_AreValidClauses_l0_q (N : Nat) : ∀ k_, spec_AreValidClauses_l0_E N k_ = spec_AreValidClauses_l0 N k_
  | 0 => by funext n2 l2 i; exact spec_AreValidClauses_l0_z N n2 l2 i
  | k_ + 1 => by funext n2 l2 i; rw [spec_AreValidClauses_l0_s]; simp only [spec_AreValidClauses_l0_q N k_]; rfl
theorem spec_AreValidClauses_v (N : Nat) (n : Int) (l : List (List Int)) :
    evFn Tb (sigL (spec_AreValidClauses_es N)) cps (orcL (spec_AreValidClauses_es N)) (drawReg Tb (sigL (spec_AreValidClauses_es N)) cps (orcL (spec_AreValidClauses_es N))) N spec_AreValidClauses_an spec_AreValidClauses_sg Try.f121 (Try.f121.body.getD .skip) [.val i64 n, .val ty0 l] (un1 .bool) = spec_AreValidClauses_b N (spec_AreValidClauses_l0_E N N) n l := by kernel_rfl
noncomputable def spec_AreValidClauses_e (N : Nat) : Entry Try.prog := ⟨121, spec_AreValidClauses_sg, [.v i64, .v ty0], Bool, spec_AreValidClauses N, pk1 .bool, entry_en Try.func121 (code := Try.f121.body.getD .skip) (by kernel_rfl) (by kernel_rfl),
  fun n l => entry_ok tab_ok (es := spec_AreValidClauses_es N) (by kernel_rfl) mixed Try.func121 (by kernel_rfl) ⟨rfl, rfl⟩ (un1_pk .bool) (by rw [spec_AreValidClauses_v, spec_AreValidClauses_l0_q]; rfl)⟩
noncomputable def spec_NegateLiterals_es (N : Nat) : List (Entry Try.prog) := []
def spec_NegateLiterals_sg : Sig := ⟨[.val ty1], [(ty1, .dp)], false, false⟩
def spec_NegateLiterals_an : Nat → Option (List Nat)
  | 0 => some [0, 3, 4]
  | _ => none
noncomputable def spec_NegateLiterals_lp (N : Nat) (p : List Dir) (rs : List (Env → Option (List Int))) (k : Nat) (env : Env) : Option (List Int) :=
  loopAt Tb (sigL (spec_NegateLiterals_es N)) cps (orcL (spec_NegateLiterals_es N)) N spec_NegateLiterals_an p (Try.f124.body.getD .skip) (endK Tb spec_NegateLiterals_sg Try.f124 [] (un1 ty1)) rs k env
noncomputable def spec_NegateLiterals_l0_E (N : Nat) (k_ : Nat) (l2 : List Int) (out : List Int) (i : Int) : Option (List Int) :=
  spec_NegateLiterals_lp N [.r, .r, .l, .r, .b] [] k_ (.con .val [lf ty1 l2 .ro] :: (un 2 (.con .val [lf ty1 out .dp] :: (.con .val [lf i64 i .ro] :: (un 16 [])))))
theorem spec_NegateLiterals_l0_z (N : Nat) (l2 : List Int) (out : List Int) (i : Int) : spec_NegateLiterals_l0_E N 0 l2 out i = none := by kernel_rfl
theorem spec_NegateLiterals_l0_s (N : Nat) (k_ : Nat) (l2 : List Int) (out : List Int) (i : Int) : spec_NegateLiterals_l0_E N (k_ + 1) l2 out i = spec_NegateLiterals_l0_b N (spec_NegateLiterals_l0_E N k_) l2 out i := by kernel_rfl
theorem spec_NegateLiterals_l0_q (N : Nat) : ∀ k_, spec_NegateLiterals_l0_E N k_ = spec_NegateLiterals_l0 N k_
  | 0 => by funext l2 out i; exact spec_NegateLiterals_l0_z N l2 out i
  | k_ + 1 => by funext l2 out i; rw [spec_NegateLiterals_l0_s]; simp only [spec_NegateLiterals_l0_q N k_]; rfl
theorem spec_NegateLiterals_v (N : Nat) (l : List Int) :
    evFn Tb (sigL (spec_NegateLiterals_es N)) cps (orcL (spec_NegateLiterals_es N)) (drawReg Tb (sigL (spec_NegateLiterals_es N)) cps (orcL (spec_NegateLiterals_es N))) N spec_NegateLiterals_an spec_NegateLiterals_sg Try.f124 (Try.f124.body.getD .skip) [.val ty1 l] (un1 ty1) = spec_NegateLiterals_b N (spec_NegateLiterals_l0_E N N) l := by kernel_rfl
noncomputable def spec_NegateLiterals_e (N : Nat) : Entry Try.prog := ⟨124, spec_NegateLiterals_sg, [.v ty1], List Int, spec_NegateLiterals N, pk1 ty1, entry_en Try.func124 (code := Try.f124.body.getD .skip) (by kernel_rfl) (by kernel_rfl),
  fun l => entry_ok tab_ok (es := spec_NegateLiterals_es N) (by kernel_rfl) mixed Try.func124 (by kernel_rfl) ⟨rfl, rfl⟩ (un1_pk ty1) (by rw [spec_NegateLiterals_v, spec_NegateLiterals_l0_q]; rfl)⟩
noncomputable def spec_l7Has_es (N : Nat) : List (Entry Try.prog) := []
def spec_l7Has_sg : Sig := ⟨[.val ty1, .val i64], [(.bool, .dp)], false, false⟩
def spec_l7Has_an : Nat → Option (List Nat)
  | 0 => some [0, 1, 5]
  | _ => none
noncomputable def spec_l7Has_lp (N : Nat) (p : List Dir) (rs : List (Env → Option (Bool))) (k : Nat) (env : Env) : Option (Bool) :=
  loopAt Tb (sigL (spec_l7Has_es N)) cps (orcL (spec_l7Has_es N)) N spec_l7Has_an p (Try.f161.body.getD .skip) (endK Tb spec_l7Has_sg Try.f161 [] (un1 .bool)) rs k env
noncomputable def spec_l7Has_l0_E (N : Nat) (k_ : Nat) (l2 : List Int) (x2 : Int) (i : Int) : Option (Bool) :=
  spec_l7Has_lp N [.r, .l, .r, .b] [] k_ (.con .val [lf ty1 l2 .ro] :: (.con .val [lf i64 x2 .ro] :: (un 3 (.con .val [lf i64 i .ro] :: (un 12 [])))))
theorem spec_l7Has_l0_z (N : Nat) (l2 : List Int) (x2 : Int) (i : Int) : spec_l7Has_l0_E N 0 l2 x2 i = none := by kernel_rfl
theorem spec_l7Has_l0_s (N : Nat) (k_ : Nat) (l2 : List Int) (x2 : Int) (i : Int) : spec_l7Has_l0_E N (k_ + 1) l2 x2 i = spec_l7Has_l0_b N (spec_l7Has_l0_E N k_) l2 x2 i := by kernel_rfl
theorem spec_l7Has_l0_q (N : Nat) : ∀ k_, spec_l7Has_l0_E N k_ = spec_l7Has_l0 N k_
  | 0 => by funext l2 x2 i; exact spec_l7Has_l0_z N l2 x2 i
  | k_ + 1 => by funext l2 x2 i; rw [spec_l7Has_l0_s]; simp only [spec_l7Has_l0_q N k_]; rfl
theorem spec_l7Has_v (N : Nat) (l : List Int) (x : Int) :
    evFn Tb (sigL (spec_l7Has_es N)) cps (orcL (spec_l7Has_es N)) (drawReg Tb (sigL (spec_l7Has_es N)) cps (orcL (spec_l7Has_es N))) N spec_l7Has_an spec_l7Has_sg Try.f161 (Try.f161.body.getD .skip) [.val ty1 l, .val i64 x] (un1 .bool) = spec_l7Has_b N (spec_l7Has_l0_E N N) l x := by kernel_rfl
noncomputable def spec_l7Has_e (N : Nat) : Entry Try.prog := ⟨161, spec_l7Has_sg, [.v ty1, .v i64], Bool, spec_l7Has N, pk1 .bool, entry_en Try.func161 (code := Try.f161.body.getD .skip) (by kernel_rfl) (by kernel_rfl),
  fun l x => entry_ok tab_ok (es := spec_l7Has_es N) (by kernel_rfl) mixed Try.func161 (by kernel_rfl) ⟨rfl, rfl⟩ (un1_pk .bool) (by rw [spec_l7Has_v, spec_l7Has_l0_q]; rfl)⟩
noncomputable def spec_l21Left_es (N : Nat) : List (Entry Try.prog) := [spec_l7Has_e N]
def spec_l21Left_sg : Sig := ⟨[.val ty1, .val ty1], [(ty1, .dp), (.bool, .dp)], false, false⟩
def spec_l21Left_an : Nat → Option (List Nat)
  | 0 => some [0, 1, 6, 7]
  | _ => none
noncomputable def spec_l21Left_lp (N : Nat) (p : List Dir) (rs : List (Env → Option (List Int × Bool))) (k : Nat) (env : Env) : Option (List Int × Bool) :=
  loopAt Tb (sigL (spec_l21Left_es N)) cps (orcL (spec_l21Left_es N)) N spec_l21Left_an p (Try.f144.body.getD .skip) (endK Tb spec_l21Left_sg Try.f144 [] (un2 ty1 .bool)) rs k env
noncomputable def spec_l21Left_l0_E (N : Nat) (k_ : Nat) (c2 : List Int) (set2 : List Int) (out : List Int) (i : Int) : Option (List Int × Bool) :=
  spec_l21Left_lp N [.r, .r, .l, .r, .b] [] k_ (.con .val [lf ty1 c2 .ro] :: (.con .val [lf ty1 set2 .ro] :: (un 4 (.con .val [lf ty1 out .dp] :: (.con .val [lf i64 i .ro] :: (un 30 []))))))
theorem spec_l21Left_l0_z (N : Nat) (c2 : List Int) (set2 : List Int) (out : List Int) (i : Int) : spec_l21Left_l0_E N 0 c2 set2 out i = none := by kernel_rfl
theorem spec_l21Left_l0_s (N : Nat) (k_ : Nat) (c2 : List Int) (set2 : List Int) (out : List Int) (i : Int) : spec_l21Left_l0_E N (k_ + 1) c2 set2 out i = spec_l21Left_l0_b N (spec_l21Left_l0_E N k_) c2 set2 out i := by kernel_rfl
theorem spec_l21Left_l0_q (N : Nat) : ∀ k_, spec_l21Left_l0_E N k_ = spec_l21Left_l0 N k_
  | 0 => by funext c2 set2 out i; exact spec_l21Left_l0_z N c2 set2 out i
  | k_ + 1 => by funext c2 set2 out i; rw [spec_l21Left_l0_s]; simp only [spec_l21Left_l0_q N k_]; rfl
theorem spec_l21Left_v (N : Nat) (c : List Int) (set : List Int) :
    evFn Tb (sigL (spec_l21Left_es N)) cps (orcL (spec_l21Left_es N)) (drawReg Tb (sigL (spec_l21Left_es N)) cps (orcL (spec_l21Left_es N))) N spec_l21Left_an spec_l21Left_sg Try.f144 (Try.f144.body.getD .skip) [.val ty1 c, .val ty1 set] (un2 ty1 .bool) = spec_l21Left_b N (spec_l21Left_l0_E N N) c set := by kernel_rfl
noncomputable def spec_l21Left_e (N : Nat) : Entry Try.prog := ⟨144, spec_l21Left_sg, [.v ty1, .v ty1], List Int × Bool, spec_l21Left N, pk2 ty1 .bool, entry_en Try.func144 (code := Try.f144.body.getD .skip) (by kernel_rfl) (by kernel_rfl),
  fun c set => entry_ok tab_ok (es := spec_l21Left_es N) (by kernel_rfl) mixed Try.func144 (by kernel_rfl) ⟨rfl, rfl⟩ (un2_pk ty1 .bool) (by rw [spec_l21Left_v, spec_l21Left_l0_q]; rfl)⟩
noncomputable def spec_l21Units_es (N : Nat) : List (Entry Try.prog) := [spec_l21Left_e N]
def spec_l21Units_sg : Sig := ⟨[.val ty0, .val ty1], [(ty1, .dp), (.bool, .dp)], false, false⟩
def spec_l21Units_an : Nat → Option (List Nat)
  | 0 => some [0, 6, 7]
  | 2 => some [0, 6, 7, 8]
  | _ => none
noncomputable def spec_l21Units_lp (N : Nat) (p : List Dir) (rs : List (Env → Option (List Int × Bool))) (k : Nat) (env : Env) : Option (List Int × Bool) :=
  loopAt Tb (sigL (spec_l21Units_es N)) cps (orcL (spec_l21Units_es N)) N spec_l21Units_an p (Try.f123.body.getD .skip) (endK Tb spec_l21Units_sg Try.f123 [] (un2 ty1 .bool)) rs k env
noncomputable def spec_l21Units_l1_E (N : Nat) (k0_ : Nat) (k_ : Nat) (l3 : List (List Int)) (out2 : List Int) (more2 : Bool) (i : Int) : Option (List Int × Bool) :=
  spec_l21Units_lp N [.r, .r, .l, .r, .b, .b, .r, .b, .r, .r, .b] [spec_l21Units_lp N [.r, .r, .l, .r, .b] [] k0_] k_ (.con .val [lf ty0 l3 .ro] :: (un 5 (.con .val [lf ty1 out2 .dp] :: (.con .val [lf .bool more2 .ro] :: (.con .val [lf i64 i .ro] :: (un 40 []))))))
noncomputable def spec_l21Units_l0_E (N : Nat) (k_ : Nat) (l2 : List (List Int)) (out : List Int) (more : Bool) : Option (List Int × Bool) :=
  spec_l21Units_lp N [.r, .r, .l, .r, .b] [] k_ (.con .val [lf ty0 l2 .ro] :: (un 5 (.con .val [lf ty1 out .dp] :: (.con .val [lf .bool more .ro] :: (un 41 [])))))
theorem spec_l21Units_l1_z (N : Nat) (k0_ : Nat) (l3 : List (List Int)) (out2 : List Int) (more2 : Bool) (i : Int) : spec_l21Units_l1_E N k0_ 0 l3 out2 more2 i = none := by kernel_rfl
theorem spec_l21Units_l1_s (N : Nat) (k0_ : Nat) (k_ : Nat) (l3 : List (List Int)) (out2 : List Int) (more2 : Bool) (i : Int) : spec_l21Units_l1_E N k0_ (k_ + 1) l3 out2 more2 i = spec_l21Units_l1_b N (spec_l21Units_l0_E N k0_) (spec_l21Units_l1_E N k0_ k_) l3 out2 more2 i := by kernel_rfl
theorem spec_l21Units_l0_z (N : Nat) (l2 : List (List Int)) (out : List Int) (more : Bool) : spec_l21Units_l0_E N 0 l2 out more = none := by kernel_rfl
theorem spec_l21Units_l0_s (N : Nat) (k_ : Nat) (l2 : List (List Int)) (out : List Int) (more : Bool) : spec_l21Units_l0_E N (k_ + 1) l2 out more = spec_l21Units_l0_b N (spec_l21Units_l1_E N k_ N) (spec_l21Units_l0_E N k_) l2 out more := by kernel_rfl
theorem spec_l21Units_l1_q (N : Nat) (k0_ : Nat) : ∀ k_, spec_l21Units_l1_E N k0_ k_ = spec_l21Units_l1 (spec_l21Units_l0_E N k0_) N k_
  | 0 => by funext l3 out2 more2 i; exact spec_l21Units_l1_z N k0_ l3 out2 more2 i
  | k_ + 1 => by funext l3 out2 more2 i; rw [spec_l21Units_l1_s]; simp only [spec_l21Units_l1_q N k0_ k_]; rfl
theorem spec_l21Units_l0_q (N : Nat) : ∀ k_, spec_l21Units_l0_E N k_ = spec_l21Units_l0 N k_
  | 0 => by funext l2 out more; exact spec_l21Units_l0_z N l2 out more
  | k_ + 1 => by funext l2 out more; rw [spec_l21Units_l0_s]; simp only [spec_l21Units_l1_q, spec_l21Units_l0_q N k_]; rfl
theorem spec_l21Units_v (N : Nat) (l : List (List Int)) (set : List Int) :
    evFn Tb (sigL (spec_l21Units_es N)) cps (orcL (spec_l21Units_es N)) (drawReg Tb (sigL (spec_l21Units_es N)) cps (orcL (spec_l21Units_es N))) N spec_l21Units_an spec_l21Units_sg Try.f123 (Try.f123.body.getD .skip) [.val ty0 l, .val ty1 set] (un2 ty1 .bool) = spec_l21Units_b N (spec_l21Units_l0_E N N) l set := by kernel_rfl
noncomputable def spec_l21Units_e (N : Nat) : Entry Try.prog := ⟨123, spec_l21Units_sg, [.v ty0, .v ty1], List Int × Bool, spec_l21Units N, pk2 ty1 .bool, entry_en Try.func123 (code := Try.f123.body.getD .skip) (by kernel_rfl) (by kernel_rfl),
  fun l set => entry_ok tab_ok (es := spec_l21Units_es N) (by kernel_rfl) mixed Try.func123 (by kernel_rfl) ⟨rfl, rfl⟩ (un2_pk ty1 .bool) (by rw [spec_l21Units_v, spec_l21Units_l0_q]; rfl)⟩
noncomputable def spec_IsValidProof_es (N : Nat) : List (Entry Try.prog) := [spec_l20Clause_e N, spec_NegateLiterals_e N, spec_l21Units_e N, spec_AreValidClauses_e N]
def spec_IsValidProof_sg : Sig := ⟨[.val i64, .val ty0, .val ty0], [(.bool, .dp)], false, false⟩
def spec_IsValidProof_an : Nat → Option (List Nat)
  | 0 => some [0, 2, 7, 8]
  | _ => none
noncomputable def spec_IsValidProof_lp (N : Nat) (p : List Dir) (rs : List (Env → Option (Bool))) (k : Nat) (env : Env) : Option (Bool) :=
  loopAt Tb (sigL (spec_IsValidProof_es N)) cps (orcL (spec_IsValidProof_es N)) N spec_IsValidProof_an p (Try.f74.body.getD .skip) (endK Tb spec_IsValidProof_sg Try.f74 [] (un1 .bool)) rs k env
noncomputable def spec_IsValidProof_l0_E (N : Nat) (k_ : Nat) (n2 : Int) (proof2 : List (List Int)) (x : List (List Int)) (i : Int) : Option (Bool) :=
  spec_IsValidProof_lp N [.r, .r, .r, .l, .r, .b] [] k_ (.con .val [lf i64 n2 .ro] :: (un 1 (.con .val [lf ty0 proof2 .ro] :: (un 4 (.con .val [lf ty0 x .sh] :: (.con .val [lf i64 i .ro] :: (un 56 [])))))))
theorem spec_IsValidProof_l0_z (N : Nat) (n2 : Int) (proof2 : List (List Int)) (x : List (List Int)) (i : Int) : spec_IsValidProof_l0_E N 0 n2 proof2 x i = none := by kernel_rfl
theorem spec_IsValidProof_l0_s (N : Nat) (k_ : Nat) (n2 : Int) (proof2 : List (List Int)) (x : List (List Int)) (i : Int) : spec_IsValidProof_l0_E N (k_ + 1) n2 proof2 x i = spec_IsValidProof_l0_b N (spec_IsValidProof_l0_E N k_) n2 proof2 x i := by kernel_rfl
theorem spec_IsValidProof_l0_q (N : Nat) : ∀ k_, spec_IsValidProof_l0_E N k_ = spec_IsValidProof_l0 N k_
  | 0 => by funext n2 proof2 x i; exact spec_IsValidProof_l0_z N n2 proof2 x i
  | k_ + 1 => by funext n2 proof2 x i; rw [spec_IsValidProof_l0_s]; simp only [spec_IsValidProof_l0_q N k_]; rfl
theorem spec_IsValidProof_v (N : Nat) (n : Int) (l : List (List Int)) (proof : List (List Int)) :
    evFn Tb (sigL (spec_IsValidProof_es N)) cps (orcL (spec_IsValidProof_es N)) (drawReg Tb (sigL (spec_IsValidProof_es N)) cps (orcL (spec_IsValidProof_es N))) N spec_IsValidProof_an spec_IsValidProof_sg Try.f74 (Try.f74.body.getD .skip) [.val i64 n, .val ty0 l, .val ty0 proof] (un1 .bool) = spec_IsValidProof_b N (spec_IsValidProof_l0_E N N) n l proof := by kernel_rfl
noncomputable def spec_IsValidProof_e (N : Nat) : Entry Try.prog := ⟨74, spec_IsValidProof_sg, [.v i64, .v ty0, .v ty0], Bool, spec_IsValidProof N, pk1 .bool, entry_en Try.func74 (code := Try.f74.body.getD .skip) (by kernel_rfl) (by kernel_rfl),
  fun n l proof => entry_ok tab_ok (es := spec_IsValidProof_es N) (by kernel_rfl) mixed Try.func74 (by kernel_rfl) ⟨rfl, rfl⟩ (un1_pk .bool) (by rw [spec_IsValidProof_v, spec_IsValidProof_l0_q]; rfl)⟩
noncomputable def spec_SelectClauses_es (N : Nat) : List (Entry Try.prog) := [spec_l1In_e N]
def spec_SelectClauses_sg : Sig := ⟨[.val ty0, .val ty1], [(ty0, .dp)], false, false⟩
def spec_SelectClauses_an : Nat → Option (List Nat)
  | 0 => some [0, 1, 5, 6]
  | _ => none
noncomputable def spec_SelectClauses_lp (N : Nat) (p : List Dir) (rs : List (Env → Option (List (List Int)))) (k : Nat) (env : Env) : Option (List (List Int)) :=
  loopAt Tb (sigL (spec_SelectClauses_es N)) cps (orcL (spec_SelectClauses_es N)) N spec_SelectClauses_an p (Try.f21.body.getD .skip) (endK Tb spec_SelectClauses_sg Try.f21 [] (un1 ty0)) rs k env
noncomputable def spec_SelectClauses_l0_E (N : Nat) (k_ : Nat) (l2 : List (List Int)) (at_2 : List Int) (out : List (List Int)) (i : Int) : Option (List (List Int)) :=
  spec_SelectClauses_lp N [.r, .r, .l, .r, .b] [] k_ (.con .val [lf ty0 l2 .ro] :: (.con .val [lf ty1 at_2 .ro] :: (un 3 (.con .val [lf ty0 out .dp] :: (.con .val [lf i64 i .ro] :: (un 28 []))))))
theorem spec_SelectClauses_l0_z (N : Nat) (l2 : List (List Int)) (at_2 : List Int) (out : List (List Int)) (i : Int) : spec_SelectClauses_l0_E N 0 l2 at_2 out i = none := by kernel_rfl
theorem spec_SelectClauses_l0_s (N : Nat) (k_ : Nat) (l2 : List (List Int)) (at_2 : List Int) (out : List (List Int)) (i : Int) : spec_SelectClauses_l0_E N (k_ + 1) l2 at_2 out i = spec_SelectClauses_l0_b N (spec_SelectClauses_l0_E N k_) l2 at_2 out i := by kernel_rfl
theorem spec_SelectClauses_l0_q (N : Nat) : ∀ k_, spec_SelectClauses_l0_E N k_ = spec_SelectClauses_l0 N k_
  | 0 => by funext l2 at_2 out i; exact spec_SelectClauses_l0_z N l2 at_2 out i
  | k_ + 1 => by funext l2 at_2 out i; rw [spec_SelectClauses_l0_s]; simp only [spec_SelectClauses_l0_q N k_]; rfl
theorem spec_SelectClauses_v (N : Nat) (l : List (List Int)) (at_ : List Int) :
    evFn Tb (sigL (spec_SelectClauses_es N)) cps (orcL (spec_SelectClauses_es N)) (drawReg Tb (sigL (spec_SelectClauses_es N)) cps (orcL (spec_SelectClauses_es N))) N spec_SelectClauses_an spec_SelectClauses_sg Try.f21 (Try.f21.body.getD .skip) [.val ty0 l, .val ty1 at_] (un1 ty0) = spec_SelectClauses_b N (spec_SelectClauses_l0_E N N) l at_ := by kernel_rfl
noncomputable def spec_SelectClauses_e (N : Nat) : Entry Try.prog := ⟨21, spec_SelectClauses_sg, [.v ty0, .v ty1], List (List Int), spec_SelectClauses N, pk1 ty0, entry_en Try.func21 (code := Try.f21.body.getD .skip) (by kernel_rfl) (by kernel_rfl),
  fun l at_ => entry_ok tab_ok (es := spec_SelectClauses_es N) (by kernel_rfl) mixed Try.func21 (by kernel_rfl) ⟨rfl, rfl⟩ (un1_pk ty0) (by rw [spec_SelectClauses_v, spec_SelectClauses_l0_q]; rfl)⟩
noncomputable def spec_UnsatCore_es (N : Nat) : List (Entry Try.prog) := [spec_SelectClauses_e N, spec_IsValidProof_e N]
def spec_UnsatCore_sg : Sig := ⟨[.val i64, .val ty0, .val ty0], [(ty1, .dp)], false, false⟩
def spec_UnsatCore_an : Nat → Option (List Nat)
  | 0 => some [0, 1, 2, 7]
  | 2 => some [0, 1, 2, 7, 8]
  | 4 => some [0, 1, 2, 7, 8, 9, 10]
  | _ => none
noncomputable def spec_UnsatCore_lp (N : Nat) (p : List Dir) (rs : List (Env → Option (List Int))) (k : Nat) (env : Env) : Option (List Int) :=
  loopAt Tb (sigL (spec_UnsatCore_es N)) cps (orcL (spec_UnsatCore_es N)) N spec_UnsatCore_an p (Try.f35.body.getD .skip) (endK Tb spec_UnsatCore_sg Try.f35 [] (un1 ty1)) rs k env
noncomputable def spec_UnsatCore_l2_E (N : Nat) (k0_ : Nat) (k_ : Nat) (n4 : Int) (l4 : List (List Int)) (proof4 : List (List Int)) (out3 : List Int) (i2 : Int) (x : List Int) (k : Int) : Option (List Int) :=
  spec_UnsatCore_lp N [.r, .r, .r, .r, .l, .r, .b, .b, .r, .l, .b, .r, .l, .r, .b] [spec_UnsatCore_lp N [.r, .r, .r, .r, .l, .r, .b] [] k0_] k_ (.con .val [lf i64 n4 .ro] :: (.con .val [lf ty0 l4 .ro] :: (.con .val [lf ty0 proof4 .ro] :: (un 4 (.con .val [lf ty1 out3 .dp] :: (.con .val [lf i64 i2 .ro] :: (.con .val [lf ty1 x .dp] :: (.con .val [lf i64 k .ro] :: (un 52 [])))))))))
noncomputable def spec_UnsatCore_l1_E (N : Nat) (k_ : Nat) (n3 : Int) (l3 : List (List Int)) (proof3 : List (List Int)) (out2 : List Int) (i : Int) : Option (List Int) :=
  spec_UnsatCore_lp N [.r, .r, .r, .r, .l, .r, .b] [] k_ (.con .val [lf i64 n3 .ro] :: (.con .val [lf ty0 l3 .ro] :: (.con .val [lf ty0 proof3 .ro] :: (un 4 (.con .val [lf ty1 out2 .dp] :: (.con .val [lf i64 i .ro] :: (un 54 [])))))))
noncomputable def spec_UnsatCore_l0_E (N : Nat) (k_ : Nat) (n2 : Int) (l2 : List (List Int)) (proof2 : List (List Int)) (out : List Int) : Option (List Int) :=
  spec_UnsatCore_lp N [.r, .r, .r, .l, .b] [] k_ (.con .val [lf i64 n2 .ro] :: (.con .val [lf ty0 l2 .ro] :: (.con .val [lf ty0 proof2 .ro] :: (un 4 (.con .val [lf ty1 out .dp] :: (un 55 []))))))
theorem spec_UnsatCore_l2_z (N : Nat) (k0_ : Nat) (n4 : Int) (l4 : List (List Int)) (proof4 : List (List Int)) (out3 : List Int) (i2 : Int) (x : List Int) (k : Int) : spec_UnsatCore_l2_E N k0_ 0 n4 l4 proof4 out3 i2 x k = none := by kernel_rfl
theorem spec_UnsatCore_l2_s (N : Nat) (k0_ : Nat) (k_ : Nat) (n4 : Int) (l4 : List (List Int)) (proof4 : List (List Int)) (out3 : List Int) (i2 : Int) (x : List Int) (k : Int) : spec_UnsatCore_l2_E N k0_ (k_ + 1) n4 l4 proof4 out3 i2 x k = spec_UnsatCore_l2_b N (spec_UnsatCore_l1_E N k0_) (spec_UnsatCore_l2_E N k0_ k_) n4 l4 proof4 out3 i2 x k := by kernel_rfl
theorem spec_UnsatCore_l1_z (N : Nat) (n3 : Int) (l3 : List (List Int)) (proof3 : List (List Int)) (out2 : List Int) (i : Int) : spec_UnsatCore_l1_E N 0 n3 l3 proof3 out2 i = none := by kernel_rfl
theorem spec_UnsatCore_l1_s (N : Nat) (k_ : Nat) (n3 : Int) (l3 : List (List Int)) (proof3 : List (List Int)) (out2 : List Int) (i : Int) : spec_UnsatCore_l1_E N (k_ + 1) n3 l3 proof3 out2 i = spec_UnsatCore_l1_b N (spec_UnsatCore_l2_E N k_ N) (spec_UnsatCore_l1_E N k_) n3 l3 proof3 out2 i := by kernel_rfl
theorem spec_UnsatCore_l0_z (N : Nat) (n2 : Int) (l2 : List (List Int)) (proof2 : List (List Int)) (out : List Int) : spec_UnsatCore_l0_E N 0 n2 l2 proof2 out = none := by kernel_rfl
theorem spec_UnsatCore_l0_s (N : Nat) (k_ : Nat) (n2 : Int) (l2 : List (List Int)) (proof2 : List (List Int)) (out : List Int) : spec_UnsatCore_l0_E N (k_ + 1) n2 l2 proof2 out = spec_UnsatCore_l0_b N (spec_UnsatCore_l1_E N N) (spec_UnsatCore_l0_E N k_) n2 l2 proof2 out := by kernel_rfl
theorem spec_UnsatCore_l2_q (N : Nat) (k0_ : Nat) : ∀ k_, spec_UnsatCore_l2_E N k0_ k_ = spec_UnsatCore_l2 (spec_UnsatCore_l1_E N k0_) N k_
  | 0 => by funext n4 l4 proof4 out3 i2 x k; exact spec_UnsatCore_l2_z N k0_ n4 l4 proof4 out3 i2 x k
  | k_ + 1 => by funext n4 l4 proof4 out3 i2 x k; rw [spec_UnsatCore_l2_s]; simp only [spec_UnsatCore_l2_q N k0_ k_]; rfl
theorem spec_UnsatCore_l1_q (N : Nat) : ∀ k_, spec_UnsatCore_l1_E N k_ = spec_UnsatCore_l1 N k_
  | 0 => by funext n3 l3 proof3 out2 i; exact spec_UnsatCore_l1_z N n3 l3 proof3 out2 i
  | k_ + 1 => by funext n3 l3 proof3 out2 i; rw [spec_UnsatCore_l1_s]; simp only [spec_UnsatCore_l2_q, spec_UnsatCore_l1_q N k_]; rfl
theorem spec_UnsatCore_l0_q (N : Nat) : ∀ k_, spec_UnsatCore_l0_E N k_ = spec_UnsatCore_l0 N k_
  | 0 => by funext n2 l2 proof2 out; exact spec_UnsatCore_l0_z N n2 l2 proof2 out
  | k_ + 1 => by funext n2 l2 proof2 out; rw [spec_UnsatCore_l0_s]; simp only [spec_UnsatCore_l1_q, spec_UnsatCore_l0_q N k_]; rfl
theorem spec_UnsatCore_v (N : Nat) (n : Int) (l : List (List Int)) (proof : List (List Int)) :
    evFn Tb (sigL (spec_UnsatCore_es N)) cps (orcL (spec_UnsatCore_es N)) (drawReg Tb (sigL (spec_UnsatCore_es N)) cps (orcL (spec_UnsatCore_es N))) N spec_UnsatCore_an spec_UnsatCore_sg Try.f35 (Try.f35.body.getD .skip) [.val i64 n, .val ty0 l, .val ty0 proof] (un1 ty1) = spec_UnsatCore_b N (spec_UnsatCore_l0_E N N) n l proof := by kernel_rfl
noncomputable def spec_UnsatCore_e (N : Nat) : Entry Try.prog := ⟨35, spec_UnsatCore_sg, [.v i64, .v ty0, .v ty0], List Int, spec_UnsatCore N, pk1 ty1, entry_en Try.func35 (code := Try.f35.body.getD .skip) (by kernel_rfl) (by kernel_rfl),
  fun n l proof => entry_ok tab_ok (es := spec_UnsatCore_es N) (by kernel_rfl) mixed Try.func35 (by kernel_rfl) ⟨rfl, rfl⟩ (un1_pk ty1) (by rw [spec_UnsatCore_v, spec_UnsatCore_l0_q]; rfl)⟩
noncomputable def impl_within_es (N : Nat) : List (Entry Try.prog) := []
def impl_within_sg : Sig := ⟨[.val i64, .val i64, .val i64], [(.bool, .dp)], false, false⟩
def impl_within_an : Nat → Option (List Nat) := fun _ => none
theorem impl_within_v (N : Nat) (n : Int) (low : Int) (high : Int) :
    evFn Tb (sigL (impl_within_es N)) cps (orcL (impl_within_es N)) (drawReg Tb (sigL (impl_within_es N)) cps (orcL (impl_within_es N))) N impl_within_an impl_within_sg Try.f63 (Try.f63.body.getD .skip) [.val i64 n, .val i64 low, .val i64 high] (un1 .bool) = impl_within N n low high := by kernel_rfl
noncomputable def impl_within_e (N : Nat) : Entry Try.prog := ⟨63, impl_within_sg, [.v i64, .v i64, .v i64], Bool, impl_within N, pk1 .bool, entry_en Try.func63 (code := Try.f63.body.getD .skip) (by kernel_rfl) (by kernel_rfl),
  fun n low high => entry_ok tab_ok (es := impl_within_es N) (by kernel_rfl) mixed Try.func63 (by kernel_rfl) ⟨rfl, rfl⟩ (un1_pk .bool) (impl_within_v N n low high)⟩
noncomputable def slices_Index_Lint_int_es (N : Nat) : List (Entry Try.prog) := []
def slices_Index_Lint_int_sg : Sig := ⟨[.val ty1, .val i64], [(i64, .dp)], false, false⟩
def slices_Index_Lint_int_an : Nat → Option (List Nat)
  | 0 => some [0, 1, 7, 8]
  | _ => none
noncomputable def slices_Index_Lint_int_lp (N : Nat) (p : List Dir) (rs : List (Env → Option (Int))) (k : Nat) (env : Env) : Option (Int) :=
  loopAt Tb (sigL (slices_Index_Lint_int_es N)) cps (orcL (slices_Index_Lint_int_es N)) N slices_Index_Lint_int_an p (Try.f163.body.getD .skip) (endK Tb slices_Index_Lint_int_sg Try.f163 [] (un1 i64)) rs k env
noncomputable def slices_Index_Lint_int_l0_E (N : Nat) (k_ : Nat) (s2 : List Int) (v2 : Int) (t7 : Int) (t8 : Int) : Option (Int) :=
  slices_Index_Lint_int_lp N [.r, .l, .r, .b] [] k_ (.con .val [lf ty1 s2 .ro] :: (.con .val [lf i64 v2 .ro] :: (un 5 (.con .val [lf i64 t7 .ro] :: (.con .val [lf i64 t8 .ro] :: (un 10 []))))))
theorem slices_Index_Lint_int_l0_z (N : Nat) (s2 : List Int) (v2 : Int) (t7 : Int) (t8 : Int) : slices_Index_Lint_int_l0_E N 0 s2 v2 t7 t8 = none := by kernel_rfl
theorem slices_Index_Lint_int_l0_s (N : Nat) (k_ : Nat) (s2 : List Int) (v2 : Int) (t7 : Int) (t8 : Int) : slices_Index_Lint_int_l0_E N (k_ + 1) s2 v2 t7 t8 = slices_Index_Lint_int_l0_b N (slices_Index_Lint_int_l0_E N k_) s2 v2 t7 t8 := by kernel_rfl
theorem slices_Index_Lint_int_l0_q (N : Nat) : ∀ k_, slices_Index_Lint_int_l0_E N k_ = slices_Index_Lint_int_l0 N k_
  | 0 => by funext s2 v2 t7 t8; exact slices_Index_Lint_int_l0_z N s2 v2 t7 t8
  | k_ + 1 => by funext s2 v2 t7 t8; rw [slices_Index_Lint_int_l0_s]; simp only [slices_Index_Lint_int_l0_q N k_]; rfl
theorem slices_Index_Lint_int_v (N : Nat) (s : List Int) (v : Int) :
    evFn Tb (sigL (slices_Index_Lint_int_es N)) cps (orcL (slices_Index_Lint_int_es N)) (drawReg Tb (sigL (slices_Index_Lint_int_es N)) cps (orcL (slices_Index_Lint_int_es N))) N slices_Index_Lint_int_an slices_Index_Lint_int_sg Try.f163 (Try.f163.body.getD .skip) [.val ty1 s, .val i64 v] (un1 i64) = slices_Index_Lint_int_b N (slices_Index_Lint_int_l0_E N N) s v := by kernel_rfl
noncomputable def slices_Index_Lint_int_e (N : Nat) : Entry Try.prog := ⟨163, slices_Index_Lint_int_sg, [.v ty1, .v i64], Int, slices_Index_Lint_int N, pk1 i64, entry_en Try.func163 (code := Try.f163.body.getD .skip) (by kernel_rfl) (by kernel_rfl),
  fun s v => entry_ok tab_ok (es := slices_Index_Lint_int_es N) (by kernel_rfl) mixed Try.func163 (by kernel_rfl) ⟨rfl, rfl⟩ (un1_pk i64) (by rw [slices_Index_Lint_int_v, slices_Index_Lint_int_l0_q]; rfl)⟩
noncomputable def slices_Contains_Lint_int_es (N : Nat) : List (Entry Try.prog) := [slices_Index_Lint_int_e N]
def slices_Contains_Lint_int_sg : Sig := ⟨[.val ty1, .val i64], [(.bool, .dp)], false, false⟩
def slices_Contains_Lint_int_an : Nat → Option (List Nat) := fun _ => none
theorem slices_Contains_Lint_int_v (N : Nat) (s : List Int) (v : Int) :
    evFn Tb (sigL (slices_Contains_Lint_int_es N)) cps (orcL (slices_Contains_Lint_int_es N)) (drawReg Tb (sigL (slices_Contains_Lint_int_es N)) cps (orcL (slices_Contains_Lint_int_es N))) N slices_Contains_Lint_int_an slices_Contains_Lint_int_sg Try.f149 (Try.f149.body.getD .skip) [.val ty1 s, .val i64 v] (un1 .bool) = slices_Contains_Lint_int N s v := by kernel_rfl
noncomputable def slices_Contains_Lint_int_e (N : Nat) : Entry Try.prog := ⟨149, slices_Contains_Lint_int_sg, [.v ty1, .v i64], Bool, slices_Contains_Lint_int N, pk1 .bool, entry_en Try.func149 (code := Try.f149.body.getD .skip) (by kernel_rfl) (by kernel_rfl),
  fun s v => entry_ok tab_ok (es := slices_Contains_Lint_int_es N) (by kernel_rfl) mixed Try.func149 (by kernel_rfl) ⟨rfl, rfl⟩ (un1_pk .bool) (slices_Contains_Lint_int_v N s v)⟩
noncomputable def impl_isClause_es (N : Nat) : List (Entry Try.prog) := [impl_within_e N, slices_Contains_Lint_int_e N]
def impl_isClause_sg : Sig := ⟨[.val i64, .val ty1], [(.bool, .dp)], false, false⟩
def impl_isClause_an : Nat → Option (List Nat)
  | 0 => some [0, 1, 7, 8, 9]
  | _ => none
noncomputable def impl_isClause_lp (N : Nat) (p : List Dir) (rs : List (Env → Option (Bool))) (k : Nat) (env : Env) : Option (Bool) :=
  loopAt Tb (sigL (impl_isClause_es N)) cps (orcL (impl_isClause_es N)) N impl_isClause_an p (Try.f147.body.getD .skip) (endK Tb impl_isClause_sg Try.f147 [] (un1 .bool)) rs k env
noncomputable def impl_isClause_l0_E (N : Nat) (k_ : Nat) (n2 : Int) (clause2 : List Int) (t7 : List Int) (t8 : Int) (t9 : Int) : Option (Bool) :=
  impl_isClause_lp N [.r, .l, .r, .b] [] k_ (.con .val [lf i64 n2 .ro] :: (.con .val [lf ty1 clause2 .ro] :: (un 5 (.con .val [lf ty1 t7 .ro] :: (.con .val [lf i64 t8 .ro] :: (.con .val [lf i64 t9 .ro] :: (un 30 [])))))))
theorem impl_isClause_l0_z (N : Nat) (n2 : Int) (clause2 : List Int) (t7 : List Int) (t8 : Int) (t9 : Int) : impl_isClause_l0_E N 0 n2 clause2 t7 t8 t9 = none := by kernel_rfl
theorem impl_isClause_l0_s (N : Nat) (k_ : Nat) (n2 : Int) (clause2 : List Int) (t7 : List Int) (t8 : Int) (t9 : Int) : impl_isClause_l0_E N (k_ + 1) n2 clause2 t7 t8 t9 = impl_isClause_l0_b N (impl_isClause_l0_E N k_) n2 clause2 t7 t8 t9 := by kernel_rfl
theorem impl_isClause_l0_q (N : Nat) : ∀ k_, impl_isClause_l0_E N k_ = impl_isClause_l0 N k_
  | 0 => by funext n2 clause2 t7 t8 t9; exact impl_isClause_l0_z N n2 clause2 t7 t8 t9
  | k_ + 1 => by funext n2 clause2 t7 t8 t9; rw [impl_isClause_l0_s]; simp only [impl_isClause_l0_q N k_]; rfl
theorem impl_isClause_v (N : Nat) (n : Int) (clause : List Int) :
    evFn Tb (sigL (impl_isClause_es N)) cps (orcL (impl_isClause_es N)) (drawReg Tb (sigL (impl_isClause_es N)) cps (orcL (impl_isClause_es N))) N impl_isClause_an impl_isClause_sg Try.f147 (Try.f147.body.getD .skip) [.val i64 n, .val ty1 clause] (un1 .bool) = impl_isClause_b N (impl_isClause_l0_E N N) n clause := by kernel_rfl
noncomputable def impl_isClause_e (N : Nat) : Entry Try.prog := ⟨147, impl_isClause_sg, [.v i64, .v ty1], Bool, impl_isClause N, pk1 .bool, entry_en Try.func147 (code := Try.f147.body.getD .skip) (by kernel_rfl) (by kernel_rfl),
  fun n clause => entry_ok tab_ok (es := impl_isClause_es N) (by kernel_rfl) mixed Try.func147 (by kernel_rfl) ⟨rfl, rfl⟩ (un1_pk .bool) (by rw [impl_isClause_v, impl_isClause_l0_q]; rfl)⟩
noncomputable def impl_areClauses_c1_es (N : Nat) : List (Entry Try.prog) := [impl_isClause_e N]
def impl_areClauses_c1_sg : Sig := ⟨[.val ty1, .ptr i64], [(.bool, .dp)], false, false⟩
def impl_areClauses_c1_an : Nat → Option (List Nat) := fun _ => none
theorem impl_areClauses_c1_v (N : Nat) (clause : List Int) (c1 : Int) :
    evFn Tb (sigL (impl_areClauses_c1_es N)) cps (orcL (impl_areClauses_c1_es N)) (drawReg Tb (sigL (impl_areClauses_c1_es N)) cps (orcL (impl_areClauses_c1_es N))) N impl_areClauses_c1_an impl_areClauses_c1_sg Try.f146 (Try.f146.body.getD .skip) [.val ty1 clause, .ptr i64 c1] (un1 .bool) = impl_areClauses_c1 N clause c1 := by kernel_rfl
noncomputable def impl_areClauses_c1_e (N : Nat) : Entry Try.prog := ⟨146, impl_areClauses_c1_sg, [.v ty1, .p i64], Bool, impl_areClauses_c1 N, pk1 .bool, entry_en Try.func146 (code := Try.f146.body.getD .skip) (by kernel_rfl) (by kernel_rfl),
  fun clause c1 => entry_ok tab_ok (es := impl_areClauses_c1_es N) (by kernel_rfl) mixed Try.func146 (by kernel_rfl) ⟨rfl, rfl⟩ (un1_pk .bool) (impl_areClauses_c1_v N clause c1)⟩
noncomputable def slices_IndexFunc_LLint_Lint_areClauses_c1_es (N : Nat) : List (Entry Try.prog) := [impl_areClauses_c1_e N]
def slices_IndexFunc_LLint_Lint_areClauses_c1_sg : Sig := ⟨[.val ty0, .clo], [(i64, .dp)], false, false⟩
def slices_IndexFunc_LLint_Lint_areClauses_c1_an : Nat → Option (List Nat)
  | 0 => some [0, 1, 7, 8]
  | _ => none
noncomputable def slices_IndexFunc_LLint_Lint_areClauses_c1_lp (N : Nat) (p : List Dir) (rs : List (Env → Option (Int))) (k : Nat) (env : Env) : Option (Int) :=
  loopAt Tb (sigL (slices_IndexFunc_LLint_Lint_areClauses_c1_es N)) cps (orcL (slices_IndexFunc_LLint_Lint_areClauses_c1_es N)) N slices_IndexFunc_LLint_Lint_areClauses_c1_an p (Try.f162.body.getD .skip) (endK Tb slices_IndexFunc_LLint_Lint_areClauses_c1_sg Try.f162 [] (un1 i64)) rs k env
noncomputable def slices_IndexFunc_LLint_Lint_areClauses_c1_l0_E (N : Nat) (k_ : Nat) (s2 : List (List Int)) (f : Int) (t7 : Int) (t8 : Int) : Option (Int) :=
  slices_IndexFunc_LLint_Lint_areClauses_c1_lp N [.r, .l, .r, .b] [] k_ (.con .val [lf ty0 s2 .ro] :: (.cloR 146 [⟨i64, f⟩] :: (un 5 (.con .val [lf i64 t7 .ro] :: (.con .val [lf i64 t8 .ro] :: (un 10 []))))))
theorem slices_IndexFunc_LLint_Lint_areClauses_c1_l0_z (N : Nat) (s2 : List (List Int)) (f : Int) (t7 : Int) (t8 : Int) : slices_IndexFunc_LLint_Lint_areClauses_c1_l0_E N 0 s2 f t7 t8 = none := by kernel_rfl
theorem slices_IndexFunc_LLint_Lint_areClauses_c1_l0_s (N : Nat) (k_ : Nat) (s2 : List (List Int)) (f : Int) (t7 : Int) (t8 : Int) : slices_IndexFunc_LLint_Lint_areClauses_c1_l0_E N (k_ + 1) s2 f t7 t8 = slices_IndexFunc_LLint_Lint_areClauses_c1_l0_b N (slices_IndexFunc_LLint_Lint_areClauses_c1_l0_E N k_) s2 f t7 t8 := by kernel_rfl
theorem slices_IndexFunc_LLint_Lint_areClauses_c1_l0_q (N : Nat) : ∀ k_, slices_IndexFunc_LLint_Lint_areClauses_c1_l0_E N k_ = slices_IndexFunc_LLint_Lint_areClauses_c1_l0 N k_
  | 0 => by funext s2 f t7 t8; exact slices_IndexFunc_LLint_Lint_areClauses_c1_l0_z N s2 f t7 t8
  | k_ + 1 => by funext s2 f t7 t8; rw [slices_IndexFunc_LLint_Lint_areClauses_c1_l0_s]; simp only [slices_IndexFunc_LLint_Lint_areClauses_c1_l0_q N k_]; rfl
theorem slices_IndexFunc_LLint_Lint_areClauses_c1_v (N : Nat) (s : List (List Int)) (c : Int) :
    evFn Tb (sigL (slices_IndexFunc_LLint_Lint_areClauses_c1_es N)) cps (orcL (slices_IndexFunc_LLint_Lint_areClauses_c1_es N)) (drawReg Tb (sigL (slices_IndexFunc_LLint_Lint_areClauses_c1_es N)) cps (orcL (slices_IndexFunc_LLint_Lint_areClauses_c1_es N))) N slices_IndexFunc_LLint_Lint_areClauses_c1_an slices_IndexFunc_LLint_Lint_areClauses_c1_sg Try.f162 (Try.f162.body.getD .skip) [.val ty0 s, .clo 146 [⟨i64, c⟩]] (un1 i64) = slices_IndexFunc_LLint_Lint_areClauses_c1_b N (slices_IndexFunc_LLint_Lint_areClauses_c1_l0_E N N) s c := by kernel_rfl
noncomputable def slices_IndexFunc_LLint_Lint_areClauses_c1_e (N : Nat) : Entry Try.prog := ⟨162, slices_IndexFunc_LLint_Lint_areClauses_c1_sg, [.v ty0, .c 146 [i64]], Int, slices_IndexFunc_LLint_Lint_areClauses_c1 N, pk1 i64, entry_en Try.func162 (code := Try.f162.body.getD .skip) (by kernel_rfl) (by kernel_rfl),
  fun s c => entry_ok tab_ok (es := slices_IndexFunc_LLint_Lint_areClauses_c1_es N) (by kernel_rfl) mixed Try.func162 (by kernel_rfl) ⟨rfl, rfl⟩ (un1_pk i64) (by rw [slices_IndexFunc_LLint_Lint_areClauses_c1_v, slices_IndexFunc_LLint_Lint_areClauses_c1_l0_q]; rfl)⟩
noncomputable def slices_ContainsFunc_LLint_Lint_areClauses_c1_es (N : Nat) : List (Entry Try.prog) := [slices_IndexFunc_LLint_Lint_areClauses_c1_e N]
def slices_ContainsFunc_LLint_Lint_areClauses_c1_sg : Sig := ⟨[.val ty0, .clo], [(.bool, .dp)], false, false⟩
def slices_ContainsFunc_LLint_Lint_areClauses_c1_an : Nat → Option (List Nat) := fun _ => none
theorem slices_ContainsFunc_LLint_Lint_areClauses_c1_v (N : Nat) (s : List (List Int)) (c : Int) :
    evFn Tb (sigL (slices_ContainsFunc_LLint_Lint_areClauses_c1_es N)) cps (orcL (slices_ContainsFunc_LLint_Lint_areClauses_c1_es N)) (drawReg Tb (sigL (slices_ContainsFunc_LLint_Lint_areClauses_c1_es N)) cps (orcL (slices_ContainsFunc_LLint_Lint_areClauses_c1_es N))) N slices_ContainsFunc_LLint_Lint_areClauses_c1_an slices_ContainsFunc_LLint_Lint_areClauses_c1_sg Try.f145 (Try.f145.body.getD .skip) [.val ty0 s, .clo 146 [⟨i64, c⟩]] (un1 .bool) = slices_ContainsFunc_LLint_Lint_areClauses_c1 N s c := by kernel_rfl
noncomputable def slices_ContainsFunc_LLint_Lint_areClauses_c1_e (N : Nat) : Entry Try.prog := ⟨145, slices_ContainsFunc_LLint_Lint_areClauses_c1_sg, [.v ty0, .c 146 [i64]], Bool, slices_ContainsFunc_LLint_Lint_areClauses_c1 N, pk1 .bool, entry_en Try.func145 (code := Try.f145.body.getD .skip) (by kernel_rfl) (by kernel_rfl),
  fun s c => entry_ok tab_ok (es := slices_ContainsFunc_LLint_Lint_areClauses_c1_es N) (by kernel_rfl) mixed Try.func145 (by kernel_rfl) ⟨rfl, rfl⟩ (un1_pk .bool) (slices_ContainsFunc_LLint_Lint_areClauses_c1_v N s c)⟩
noncomputable def impl_areClauses_es (N : Nat) : List (Entry Try.prog) := [impl_within_e N, slices_ContainsFunc_LLint_Lint_areClauses_c1_e N]
def impl_areClauses_sg : Sig := ⟨[.val i64, .val ty0], [(.bool, .dp)], false, false⟩
def impl_areClauses_an : Nat → Option (List Nat) := fun _ => none
theorem impl_areClauses_v (N : Nat) (n : Int) (clauses : List (List Int)) :
    evFn Tb (sigL (impl_areClauses_es N)) cps (orcL (impl_areClauses_es N)) (drawReg Tb (sigL (impl_areClauses_es N)) cps (orcL (impl_areClauses_es N))) N impl_areClauses_an impl_areClauses_sg Try.f126 (Try.f126.body.getD .skip) [.val i64 n, .val ty0 clauses] (un1 .bool) = impl_areClauses N n clauses := by kernel_rfl
noncomputable def impl_areClauses_e (N : Nat) : Entry Try.prog := ⟨126, impl_areClauses_sg, [.v i64, .v ty0], Bool, impl_areClauses N, pk1 .bool, entry_en Try.func126 (code := Try.f126.body.getD .skip) (by kernel_rfl) (by kernel_rfl),
  fun n clauses => entry_ok tab_ok (es := impl_areClauses_es N) (by kernel_rfl) mixed Try.func126 (by kernel_rfl) ⟨rfl, rfl⟩ (un1_pk .bool) (impl_areClauses_v N n clauses)⟩
noncomputable def impl_AreValidClauses_es (N : Nat) : List (Entry Try.prog) := [impl_areClauses_e N]
def impl_AreValidClauses_sg : Sig := ⟨[.val i64, .val ty0], [(.bool, .dp)], false, false⟩
def impl_AreValidClauses_an : Nat → Option (List Nat) := fun _ => none
theorem impl_AreValidClauses_v (N : Nat) (n : Int) (clauses : List (List Int)) :
    evFn Tb (sigL (impl_AreValidClauses_es N)) cps (orcL (impl_AreValidClauses_es N)) (drawReg Tb (sigL (impl_AreValidClauses_es N)) cps (orcL (impl_AreValidClauses_es N))) N impl_AreValidClauses_an impl_AreValidClauses_sg Try.f125 (Try.f125.body.getD .skip) [.val i64 n, .val ty0 clauses] (un1 .bool) = impl_AreValidClauses N n clauses := by kernel_rfl
noncomputable def impl_AreValidClauses_e (N : Nat) : Entry Try.prog := ⟨125, impl_AreValidClauses_sg, [.v i64, .v ty0], Bool, impl_AreValidClauses N, pk1 .bool, entry_en Try.func125 (code := Try.f125.body.getD .skip) (by kernel_rfl) (by kernel_rfl),
  fun n clauses => entry_ok tab_ok (es := impl_AreValidClauses_es N) (by kernel_rfl) mixed Try.func125 (by kernel_rfl) ⟨rfl, rfl⟩ (un1_pk .bool) (impl_AreValidClauses_v N n clauses)⟩
noncomputable def impl_NegateLiterals_es (N : Nat) : List (Entry Try.prog) := []
def impl_NegateLiterals_sg : Sig := ⟨[.val ty1], [(ty1, .dp)], false, false⟩
def impl_NegateLiterals_an : Nat → Option (List Nat)
  | 0 => some [3, 7, 8, 9]
  | _ => none
noncomputable def impl_NegateLiterals_lp (N : Nat) (p : List Dir) (rs : List (Env → Option (List Int))) (k : Nat) (env : Env) : Option (List Int) :=
  loopAt Tb (sigL (impl_NegateLiterals_es N)) cps (orcL (impl_NegateLiterals_es N)) N impl_NegateLiterals_an p (Try.f128.body.getD .skip) (endK Tb impl_NegateLiterals_sg Try.f128 [] (un1 ty1)) rs k env
noncomputable def impl_NegateLiterals_l0_E (N : Nat) (k_ : Nat) (out : List Int) (t7 : List Int) (t8 : Int) (t9 : Int) : Option (List Int) :=
  impl_NegateLiterals_lp N [.r, .r, .l, .r, .b] [] k_ (un 3 (.con .val [lf ty1 out .dp] :: (un 3 (.con .val [lf ty1 t7 .ro] :: (.con .val [lf i64 t8 .ro] :: (.con .val [lf i64 t9 .ro] :: (un 10 [])))))))
theorem impl_NegateLiterals_l0_z (N : Nat) (out : List Int) (t7 : List Int) (t8 : Int) (t9 : Int) : impl_NegateLiterals_l0_E N 0 out t7 t8 t9 = none := by kernel_rfl
theorem impl_NegateLiterals_l0_s (N : Nat) (k_ : Nat) (out : List Int) (t7 : List Int) (t8 : Int) (t9 : Int) : impl_NegateLiterals_l0_E N (k_ + 1) out t7 t8 t9 = impl_NegateLiterals_l0_b N (impl_NegateLiterals_l0_E N k_) out t7 t8 t9 := by kernel_rfl
theorem impl_NegateLiterals_l0_q (N : Nat) : ∀ k_, impl_NegateLiterals_l0_E N k_ = impl_NegateLiterals_l0 N k_
  | 0 => by funext out t7 t8 t9; exact impl_NegateLiterals_l0_z N out t7 t8 t9
  | k_ + 1 => by funext out t7 t8 t9; rw [impl_NegateLiterals_l0_s]; simp only [impl_NegateLiterals_l0_q N k_]; rfl
theorem impl_NegateLiterals_v (N : Nat) (literals : List Int) :
    evFn Tb (sigL (impl_NegateLiterals_es N)) cps (orcL (impl_NegateLiterals_es N)) (drawReg Tb (sigL (impl_NegateLiterals_es N)) cps (orcL (impl_NegateLiterals_es N))) N impl_NegateLiterals_an impl_NegateLiterals_sg Try.f128 (Try.f128.body.getD .skip) [.val ty1 literals] (un1 ty1) = impl_NegateLiterals_b N (impl_NegateLiterals_l0_E N N) literals := by kernel_rfl
noncomputable def impl_NegateLiterals_e (N : Nat) : Entry Try.prog := ⟨128, impl_NegateLiterals_sg, [.v ty1], List Int, impl_NegateLiterals N, pk1 ty1, entry_en Try.func128 (code := Try.f128.body.getD .skip) (by kernel_rfl) (by kernel_rfl),
  fun literals => entry_ok tab_ok (es := impl_NegateLiterals_es N) (by kernel_rfl) mixed Try.func128 (by kernel_rfl) ⟨rfl, rfl⟩ (un1_pk ty1) (by rw [impl_NegateLiterals_v, impl_NegateLiterals_l0_q]; rfl)⟩
noncomputable def impl_propagate_c1_es (N : Nat) : List (Entry Try.prog) := [slices_Contains_Lint_int_e N]
def impl_propagate_c1_sg : Sig := ⟨[.val i64, .ptr ty1], [(.bool, .dp)], false, false⟩
def impl_propagate_c1_an : Nat → Option (List Nat) := fun _ => none
theorem impl_propagate_c1_v (N : Nat) (x : Int) (c1 : List Int) :
    evFn Tb (sigL (impl_propagate_c1_es N)) cps (orcL (impl_propagate_c1_es N)) (drawReg Tb (sigL (impl_propagate_c1_es N)) cps (orcL (impl_propagate_c1_es N))) N impl_propagate_c1_an impl_propagate_c1_sg Try.f148 (Try.f148.body.getD .skip) [.val i64 x, .ptr ty1 c1] (un1 .bool) = impl_propagate_c1 N x c1 := by kernel_rfl
noncomputable def impl_propagate_c1_e (N : Nat) : Entry Try.prog := ⟨148, impl_propagate_c1_sg, [.v i64, .p ty1], Bool, impl_propagate_c1 N, pk1 .bool, entry_en Try.func148 (code := Try.f148.body.getD .skip) (by kernel_rfl) (by kernel_rfl),
  fun x c1 => entry_ok tab_ok (es := impl_propagate_c1_es N) (by kernel_rfl) mixed Try.func148 (by kernel_rfl) ⟨rfl, rfl⟩ (un1_pk .bool) (impl_propagate_c1_v N x c1)⟩
noncomputable def slices_IndexFunc_Lint_int_propagate_c1_es (N : Nat) : List (Entry Try.prog) := [impl_propagate_c1_e N]
def slices_IndexFunc_Lint_int_propagate_c1_sg : Sig := ⟨[.val ty1, .clo], [(i64, .dp)], false, false⟩
def slices_IndexFunc_Lint_int_propagate_c1_an : Nat → Option (List Nat)
  | 0 => some [0, 1, 7, 8]
  | _ => none
noncomputable def slices_IndexFunc_Lint_int_propagate_c1_lp (N : Nat) (p : List Dir) (rs : List (Env → Option (Int))) (k : Nat) (env : Env) : Option (Int) :=
  loopAt Tb (sigL (slices_IndexFunc_Lint_int_propagate_c1_es N)) cps (orcL (slices_IndexFunc_Lint_int_propagate_c1_es N)) N slices_IndexFunc_Lint_int_propagate_c1_an p (Try.f118.body.getD .skip) (endK Tb slices_IndexFunc_Lint_int_propagate_c1_sg Try.f118 [] (un1 i64)) rs k env
noncomputable def slices_IndexFunc_Lint_int_propagate_c1_l0_E (N : Nat) (k_ : Nat) (s2 : List Int) (f : List Int) (t7 : Int) (t8 : Int) : Option (Int) :=
  slices_IndexFunc_Lint_int_propagate_c1_lp N [.r, .l, .r, .b] [] k_ (.con .val [lf ty1 s2 .ro] :: (.cloR 148 [⟨ty1, f⟩] :: (un 5 (.con .val [lf i64 t7 .ro] :: (.con .val [lf i64 t8 .ro] :: (un 10 []))))))
theorem slices_IndexFunc_Lint_int_propagate_c1_l0_z (N : Nat) (s2 : List Int) (f : List Int) (t7 : Int) (t8 : Int) : slices_IndexFunc_Lint_int_propagate_c1_l0_E N 0 s2 f t7 t8 = none := by kernel_rfl
theorem slices_IndexFunc_Lint_int_propagate_c1_l0_s (N : Nat) (k_ : Nat) (s2 : List Int) (f : List Int) (t7 : Int) (t8 : Int) : slices_IndexFunc_Lint_int_propagate_c1_l0_E N (k_ + 1) s2 f t7 t8 = slices_IndexFunc_Lint_int_propagate_c1_l0_b N (slices_IndexFunc_Lint_int_propagate_c1_l0_E N k_) s2 f t7 t8 := by kernel_rfl
theorem slices_IndexFunc_Lint_int_propagate_c1_l0_q (N : Nat) : ∀ k_, slices_IndexFunc_Lint_int_propagate_c1_l0_E N k_ = slices_IndexFunc_Lint_int_propagate_c1_l0 N k_
  | 0 => by funext s2 f t7 t8; exact slices_IndexFunc_Lint_int_propagate_c1_l0_z N s2 f t7 t8
  | k_ + 1 => by funext s2 f t7 t8; rw [slices_IndexFunc_Lint_int_propagate_c1_l0_s]; simp only [slices_IndexFunc_Lint_int_propagate_c1_l0_q N k_]; rfl
theorem slices_IndexFunc_Lint_int_propagate_c1_v (N : Nat) (s : List Int) (c : List Int) :
    evFn Tb (sigL (slices_IndexFunc_Lint_int_propagate_c1_es N)) cps (orcL (slices_IndexFunc_Lint_int_propagate_c1_es N)) (drawReg Tb (sigL (slices_IndexFunc_Lint_int_propagate_c1_es N)) cps (orcL (slices_IndexFunc_Lint_int_propagate_c1_es N))) N slices_IndexFunc_Lint_int_propagate_c1_an slices_IndexFunc_Lint_int_propagate_c1_sg Try.f118 (Try.f118.body.getD .skip) [.val ty1 s, .clo 148 [⟨ty1, c⟩]] (un1 i64) = slices_IndexFunc_Lint_int_propagate_c1_b N (slices_IndexFunc_Lint_int_propagate_c1_l0_E N N) s c := by kernel_rfl
noncomputable def slices_IndexFunc_Lint_int_propagate_c1_e (N : Nat) : Entry Try.prog := ⟨118, slices_IndexFunc_Lint_int_propagate_c1_sg, [.v ty1, .c 148 [ty1]], Int, slices_IndexFunc_Lint_int_propagate_c1 N, pk1 i64, entry_en Try.func118 (code := Try.f118.body.getD .skip) (by kernel_rfl) (by kernel_rfl),
  fun s c => entry_ok tab_ok (es := slices_IndexFunc_Lint_int_propagate_c1_es N) (by kernel_rfl) mixed Try.func118 (by kernel_rfl) ⟨rfl, rfl⟩ (un1_pk i64) (by rw [slices_IndexFunc_Lint_int_propagate_c1_v, slices_IndexFunc_Lint_int_propagate_c1_l0_q]; rfl)⟩
noncomputable def slices_ContainsFunc_Lint_int_propagate_c1_es (N : Nat) : List (Entry Try.prog) := [slices_IndexFunc_Lint_int_propagate_c1_e N]
def slices_ContainsFunc_Lint_int_propagate_c1_sg : Sig := ⟨[.val ty1, .clo], [(.bool, .dp)], false, false⟩
def slices_ContainsFunc_Lint_int_propagate_c1_an : Nat → Option (List Nat) := fun _ => none
theorem slices_ContainsFunc_Lint_int_propagate_c1_v (N : Nat) (s : List Int) (c : List Int) :
    evFn Tb (sigL (slices_ContainsFunc_Lint_int_propagate_c1_es N)) cps (orcL (slices_ContainsFunc_Lint_int_propagate_c1_es N)) (drawReg Tb (sigL (slices_ContainsFunc_Lint_int_propagate_c1_es N)) cps (orcL (slices_ContainsFunc_Lint_int_propagate_c1_es N))) N slices_ContainsFunc_Lint_int_propagate_c1_an slices_ContainsFunc_Lint_int_propagate_c1_sg Try.f70 (Try.f70.body.getD .skip) [.val ty1 s, .clo 148 [⟨ty1, c⟩]] (un1 .bool) = slices_ContainsFunc_Lint_int_propagate_c1 N s c := by kernel_rfl
noncomputable def slices_ContainsFunc_Lint_int_propagate_c1_e (N : Nat) : Entry Try.prog := ⟨70, slices_ContainsFunc_Lint_int_propagate_c1_sg, [.v ty1, .c 148 [ty1]], Bool, slices_ContainsFunc_Lint_int_propagate_c1 N, pk1 .bool, entry_en Try.func70 (code := Try.f70.body.getD .skip) (by kernel_rfl) (by kernel_rfl),
  fun s c => entry_ok tab_ok (es := slices_ContainsFunc_Lint_int_propagate_c1_es N) (by kernel_rfl) mixed Try.func70 (by kernel_rfl) ⟨rfl, rfl⟩ (un1_pk .bool) (slices_ContainsFunc_Lint_int_propagate_c1_v N s c)⟩
noncomputable def impl_without_es (N : Nat) : List (Entry Try.prog) := [slices_Contains_Lint_int_e N]
def impl_without_sg : Sig := ⟨[.val ty1, .val ty1], [(ty1, .dp)], false, false⟩
def impl_without_an : Nat → Option (List Nat)
  | 0 => some [1, 5, 9, 10, 11]
  | _ => none
noncomputable def impl_without_lp (N : Nat) (p : List Dir) (rs : List (Env → Option (List Int))) (k : Nat) (env : Env) : Option (List Int) :=
  loopAt Tb (sigL (impl_without_es N)) cps (orcL (impl_without_es N)) N impl_without_an p (Try.f150.body.getD .skip) (endK Tb impl_without_sg Try.f150 [] (un1 ty1)) rs k env
noncomputable def impl_without_l0_E (N : Nat) (k_ : Nat) (b2 : List Int) (out : List Int) (t9 : List Int) (t10 : Int) (t11 : Int) : Option (List Int) :=
  impl_without_lp N [.r, .r, .l, .r, .b] [] k_ (un 1 (.con .val [lf ty1 b2 .ro] :: (un 3 (.con .val [lf ty1 out .dp] :: (un 3 (.con .val [lf ty1 t9 .ro] :: (.con .val [lf i64 t10 .ro] :: (.con .val [lf i64 t11 .ro] :: (un 13 [])))))))))
theorem impl_without_l0_z (N : Nat) (b2 : List Int) (out : List Int) (t9 : List Int) (t10 : Int) (t11 : Int) : impl_without_l0_E N 0 b2 out t9 t10 t11 = none := by kernel_rfl
theorem impl_without_l0_s (N : Nat) (k_ : Nat) (b2 : List Int) (out : List Int) (t9 : List Int) (t10 : Int) (t11 : Int) : impl_without_l0_E N (k_ + 1) b2 out t9 t10 t11 = impl_without_l0_b N (impl_without_l0_E N k_) b2 out t9 t10 t11 := by kernel_rfl
theorem impl_without_l0_q (N : Nat) : ∀ k_, impl_without_l0_E N k_ = impl_without_l0 N k_
  | 0 => by funext b2 out t9 t10 t11; exact impl_without_l0_z N b2 out t9 t10 t11
  | k_ + 1 => by funext b2 out t9 t10 t11; rw [impl_without_l0_s]; simp only [impl_without_l0_q N k_]; rfl
theorem impl_without_v (N : Nat) (a : List Int) (b : List Int) :
    evFn Tb (sigL (impl_without_es N)) cps (orcL (impl_without_es N)) (drawReg Tb (sigL (impl_without_es N)) cps (orcL (impl_without_es N))) N impl_without_an impl_without_sg Try.f150 (Try.f150.body.getD .skip) [.val ty1 a, .val ty1 b] (un1 ty1) = impl_without_b N (impl_without_l0_E N N) a b := by kernel_rfl
noncomputable def impl_without_e (N : Nat) : Entry Try.prog := ⟨150, impl_without_sg, [.v ty1, .v ty1], List Int, impl_without N, pk1 ty1, entry_en Try.func150 (code := Try.f150.body.getD .skip) (by kernel_rfl) (by kernel_rfl),
  fun a b => entry_ok tab_ok (es := impl_without_es N) (by kernel_rfl) mixed Try.func150 (by kernel_rfl) ⟨rfl, rfl⟩ (un1_pk ty1) (by rw [impl_without_v, impl_without_l0_q]; rfl)⟩
noncomputable def impl_propagate_es (N : Nat) : List (Entry Try.prog) := [slices_ContainsFunc_Lint_int_propagate_c1_e N, impl_NegateLiterals_e N, impl_without_e N]
def impl_propagate_sg : Sig := ⟨[.val ty0, .val ty1], [(ty1, .dp), (.bool, .dp)], false, false⟩
def impl_propagate_an : Nat → Option (List Nat)
  | 0 => some [0, 6]
  | 2 => some [0, 6, 7, 14, 15, 16]
  | _ => none
noncomputable def impl_propagate_lp (N : Nat) (p : List Dir) (rs : List (Env → Option (List Int × Bool))) (k : Nat) (env : Env) : Option (List Int × Bool) :=
  loopAt Tb (sigL (impl_propagate_es N)) cps (orcL (impl_propagate_es N)) N impl_propagate_an p (Try.f127.body.getD .skip) (endK Tb impl_propagate_sg Try.f127 [] (un2 ty1 .bool)) rs k env
noncomputable def impl_propagate_l1_E (N : Nat) (k0_ : Nat) (k_ : Nat) (clauses3 : List (List Int)) (out2 : List Int) (found : Bool) (t14 : List (List Int)) (t15 : Int) (t16 : Int) : Option (List Int × Bool) :=
  impl_propagate_lp N [.r, .r, .b, .b, .b, .r, .l, .r, .b] [impl_propagate_lp N [.r, .r, .b] [] k0_] k_ (.con .val [lf ty0 clauses3 .ro] :: (un 5 (.con (.box 23) [lf ty1 out2 .dp] :: (.con .val [lf .bool found .ro] :: (un 6 (.con .val [lf ty0 t14 .ro] :: (.con .val [lf i64 t15 .ro] :: (.con .val [lf i64 t16 .ro] :: (un 27 [])))))))))
noncomputable def impl_propagate_l0_E (N : Nat) (k_ : Nat) (clauses2 : List (List Int)) (out : List Int) : Option (List Int × Bool) :=
  impl_propagate_lp N [.r, .r, .b] [] k_ (.con .val [lf ty0 clauses2 .ro] :: (un 5 (.con (.box 23) [lf ty1 out .dp] :: (un 37 []))))
theorem impl_propagate_l1_z (N : Nat) (k0_ : Nat) (clauses3 : List (List Int)) (out2 : List Int) (found : Bool) (t14 : List (List Int)) (t15 : Int) (t16 : Int) : impl_propagate_l1_E N k0_ 0 clauses3 out2 found t14 t15 t16 = none := by kernel_rfl
theorem impl_propagate_l1_s (N : Nat) (k0_ : Nat) (k_ : Nat) (clauses3 : List (List Int)) (out2 : List Int) (found : Bool) (t14 : List (List Int)) (t15 : Int) (t16 : Int) : impl_propagate_l1_E N k0_ (k_ + 1) clauses3 out2 found t14 t15 t16 = impl_propagate_l1_b N (impl_propagate_l0_E N k0_) (impl_propagate_l1_E N k0_ k_) clauses3 out2 found t14 t15 t16 := by kernel_rfl
theorem impl_propagate_l0_z (N : Nat) (clauses2 : List (List Int)) (out : List Int) : impl_propagate_l0_E N 0 clauses2 out = none := by kernel_rfl
theorem impl_propagate_l0_s (N : Nat) (k_ : Nat) (clauses2 : List (List Int)) (out : List Int) : impl_propagate_l0_E N (k_ + 1) clauses2 out = impl_propagate_l0_b N (impl_propagate_l1_E N k_ N) (impl_propagate_l0_E N k_) clauses2 out := by kernel_rfl
theorem impl_propagate_l1_q (N : Nat) (k0_ : Nat) : ∀ k_, impl_propagate_l1_E N k0_ k_ = impl_propagate_l1 (impl_propagate_l0_E N k0_) N k_
  | 0 => by funext clauses3 out2 found t14 t15 t16; exact impl_propagate_l1_z N k0_ clauses3 out2 found t14 t15 t16
  | k_ + 1 => by funext clauses3 out2 found t14 t15 t16; rw [impl_propagate_l1_s]; simp only [impl_propagate_l1_q N k0_ k_]; rfl
theorem impl_propagate_l0_q (N : Nat) : ∀ k_, impl_propagate_l0_E N k_ = impl_propagate_l0 N k_
  | 0 => by funext clauses2 out; exact impl_propagate_l0_z N clauses2 out
  | k_ + 1 => by funext clauses2 out; rw [impl_propagate_l0_s]; simp only [impl_propagate_l1_q, impl_propagate_l0_q N k_]; rfl
theorem impl_propagate_v (N : Nat) (clauses : List (List Int)) (start : List Int) :
    evFn Tb (sigL (impl_propagate_es N)) cps (orcL (impl_propagate_es N)) (drawReg Tb (sigL (impl_propagate_es N)) cps (orcL (impl_propagate_es N))) N impl_propagate_an impl_propagate_sg Try.f127 (Try.f127.body.getD .skip) [.val ty0 clauses, .val ty1 start] (un2 ty1 .bool) = impl_propagate_b N (impl_propagate_l0_E N N) clauses start := by kernel_rfl
noncomputable def impl_propagate_e (N : Nat) : Entry Try.prog := ⟨127, impl_propagate_sg, [.v ty0, .v ty1], List Int × Bool, impl_propagate N, pk2 ty1 .bool, entry_en Try.func127 (code := Try.f127.body.getD .skip) (by kernel_rfl) (by kernel_rfl),
  fun clauses start => entry_ok tab_ok (es := impl_propagate_es N) (by kernel_rfl) mixed Try.func127 (by kernel_rfl) ⟨rfl, rfl⟩ (un2_pk ty1 .bool) (by rw [impl_propagate_v, impl_propagate_l0_q]; rfl)⟩
noncomputable def impl_IsValidProof_es (N : Nat) : List (Entry Try.prog) := [impl_NegateLiterals_e N, impl_propagate_e N, impl_AreValidClauses_e N, impl_areClauses_e N, slices_Clone_LLint_Lint_e N]
def impl_IsValidProof_sg : Sig := ⟨[.val i64, .val ty0, .val ty0], [(.bool, .dp)], false, false⟩
def impl_IsValidProof_an : Nat → Option (List Nat)
  | 0 => some [2, 7, 29, 30, 31]
  | _ => none
noncomputable def impl_IsValidProof_lp (N : Nat) (p : List Dir) (rs : List (Env → Option (Bool))) (k : Nat) (env : Env) : Option (Bool) :=
  loopAt Tb (sigL (impl_IsValidProof_es N)) cps (orcL (impl_IsValidProof_es N)) N impl_IsValidProof_an p (Try.f75.body.getD .skip) (endK Tb impl_IsValidProof_sg Try.f75 [] (un1 .bool)) rs k env
noncomputable def impl_IsValidProof_l0_E (N : Nat) (k_ : Nat) (proof2 : List (List Int)) (known : List (List Int)) (t29 : List (List Int)) (t30 : Int) (t31 : Int) : Option (Bool) :=
  impl_IsValidProof_lp N [.r, .r, .r, .l, .r, .b] [] k_ (un 2 (.con .val [lf ty0 proof2 .ro] :: (un 4 (.con .val [lf ty0 known .sh] :: (un 21 (.con .val [lf ty0 t29 .ro] :: (.con .val [lf i64 t30 .ro] :: (.con .val [lf i64 t31 .ro] :: (un 25 [])))))))))
theorem impl_IsValidProof_l0_z (N : Nat) (proof2 : List (List Int)) (known : List (List Int)) (t29 : List (List Int)) (t30 : Int) (t31 : Int) : impl_IsValidProof_l0_E N 0 proof2 known t29 t30 t31 = none := by kernel_rfl
theorem impl_IsValidProof_l0_s (N : Nat) (k_ : Nat) (proof2 : List (List Int)) (known : List (List Int)) (t29 : List (List Int)) (t30 : Int) (t31 : Int) : impl_IsValidProof_l0_E N (k_ + 1) proof2 known t29 t30 t31 = impl_IsValidProof_l0_b N (impl_IsValidProof_l0_E N k_) proof2 known t29 t30 t31 := by kernel_rfl
theorem impl_IsValidProof_l0_q (N : Nat) : ∀ k_, impl_IsValidProof_l0_E N k_ = impl_IsValidProof_l0 N k_
  | 0 => by funext proof2 known t29 t30 t31; exact impl_IsValidProof_l0_z N proof2 known t29 t30 t31
  | k_ + 1 => by funext proof2 known t29 t30 t31; rw [impl_IsValidProof_l0_s]; simp only [impl_IsValidProof_l0_q N k_]; rfl
theorem impl_IsValidProof_v (N : Nat) (n : Int) (clauses : List (List Int)) (proof : List (List Int)) :
    evFn Tb (sigL (impl_IsValidProof_es N)) cps (orcL (impl_IsValidProof_es N)) (drawReg Tb (sigL (impl_IsValidProof_es N)) cps (orcL (impl_IsValidProof_es N))) N impl_IsValidProof_an impl_IsValidProof_sg Try.f75 (Try.f75.body.getD .skip) [.val i64 n, .val ty0 clauses, .val ty0 proof] (un1 .bool) = impl_IsValidProof_b N (impl_IsValidProof_l0_E N N) n clauses proof := by kernel_rfl
noncomputable def impl_IsValidProof_e (N : Nat) : Entry Try.prog := ⟨75, impl_IsValidProof_sg, [.v i64, .v ty0, .v ty0], Bool, impl_IsValidProof N, pk1 .bool, entry_en Try.func75 (code := Try.f75.body.getD .skip) (by kernel_rfl) (by kernel_rfl),
  fun n clauses proof => entry_ok tab_ok (es := impl_IsValidProof_es N) (by kernel_rfl) mixed Try.func75 (by kernel_rfl) ⟨rfl, rfl⟩ (un1_pk .bool) (by rw [impl_IsValidProof_v, impl_IsValidProof_l0_q]; rfl)⟩
noncomputable def impl_SelectClauses_es (N : Nat) : List (Entry Try.prog) := [impl_within_e N]
def impl_SelectClauses_sg : Sig := ⟨[.val ty0, .val ty1], [(ty0, .dp)], false, false⟩
def impl_SelectClauses_an : Nat → Option (List Nat)
  | 0 => some [0, 5, 9, 10, 11]
  | _ => none
noncomputable def impl_SelectClauses_lp (N : Nat) (p : List Dir) (rs : List (Env → Option (List (List Int)))) (k : Nat) (env : Env) : Option (List (List Int)) :=
  loopAt Tb (sigL (impl_SelectClauses_es N)) cps (orcL (impl_SelectClauses_es N)) N impl_SelectClauses_an p (Try.f24.body.getD .skip) (endK Tb impl_SelectClauses_sg Try.f24 [] (un1 ty0)) rs k env
noncomputable def impl_SelectClauses_l0_E (N : Nat) (k_ : Nat) (clauses2 : List (List Int)) (out : List (List Int)) (t9 : List Int) (t10 : Int) (t11 : Int) : Option (List (List Int)) :=
  impl_SelectClauses_lp N [.r, .r, .l, .r, .b] [] k_ (.con .val [lf ty0 clauses2 .ro] :: (un 4 (.con .val [lf ty0 out .dp] :: (un 3 (.con .val [lf ty1 t9 .ro] :: (.con .val [lf i64 t10 .ro] :: (.con .val [lf i64 t11 .ro] :: (un 19 []))))))))
theorem impl_SelectClauses_l0_z (N : Nat) (clauses2 : List (List Int)) (out : List (List Int)) (t9 : List Int) (t10 : Int) (t11 : Int) : impl_SelectClauses_l0_E N 0 clauses2 out t9 t10 t11 = none := by kernel_rfl
theorem impl_SelectClauses_l0_s (N : Nat) (k_ : Nat) (clauses2 : List (List Int)) (out : List (List Int)) (t9 : List Int) (t10 : Int) (t11 : Int) : impl_SelectClauses_l0_E N (k_ + 1) clauses2 out t9 t10 t11 = impl_SelectClauses_l0_b N (impl_SelectClauses_l0_E N k_) clauses2 out t9 t10 t11 := by kernel_rfl
theorem impl_SelectClauses_l0_q (N : Nat) : ∀ k_, impl_SelectClauses_l0_E N k_ = impl_SelectClauses_l0 N k_
  | 0 => by funext clauses2 out t9 t10 t11; exact impl_SelectClauses_l0_z N clauses2 out t9 t10 t11
  | k_ + 1 => by funext clauses2 out t9 t10 t11; rw [impl_SelectClauses_l0_s]; simp only [impl_SelectClauses_l0_q N k_]; rfl
theorem impl_SelectClauses_v (N : Nat) (clauses : List (List Int)) (indices : List Int) :
    evFn Tb (sigL (impl_SelectClauses_es N)) cps (orcL (impl_SelectClauses_es N)) (drawReg Tb (sigL (impl_SelectClauses_es N)) cps (orcL (impl_SelectClauses_es N))) N impl_SelectClauses_an impl_SelectClauses_sg Try.f24 (Try.f24.body.getD .skip) [.val ty0 clauses, .val ty1 indices] (un1 ty0) = impl_SelectClauses_b N (impl_SelectClauses_l0_E N N) clauses indices := by kernel_rfl
noncomputable def impl_SelectClauses_e (N : Nat) : Entry Try.prog := ⟨24, impl_SelectClauses_sg, [.v ty0, .v ty1], List (List Int), impl_SelectClauses N, pk1 ty0, entry_en Try.func24 (code := Try.f24.body.getD .skip) (by kernel_rfl) (by kernel_rfl),
  fun clauses indices => entry_ok tab_ok (es := impl_SelectClauses_es N) (by kernel_rfl) mixed Try.func24 (by kernel_rfl) ⟨rfl, rfl⟩ (un1_pk ty0) (by rw [impl_SelectClauses_v, impl_SelectClauses_l0_q]; rfl)⟩
noncomputable def impl_UnsatCore_es (N : Nat) : List (Entry Try.prog) := [slices_Clone_Lint_int_e N, slices_Delete_Lint_int_e N, impl_SelectClauses_e N, impl_IsValidProof_e N]
def impl_UnsatCore_sg : Sig := ⟨[.val i64, .val ty0, .val ty0], [(ty1, .dp)], false, false⟩
def impl_UnsatCore_an : Nat → Option (List Nat)
  | 0 => some [0, 1, 2, 7, 18, 19]
  | 2 => some [0, 1, 2, 7, 9]
  | _ => none
noncomputable def impl_UnsatCore_lp (N : Nat) (p : List Dir) (rs : List (Env → Option (List Int))) (k : Nat) (env : Env) : Option (List Int) :=
  loopAt Tb (sigL (impl_UnsatCore_es N)) cps (orcL (impl_UnsatCore_es N)) N impl_UnsatCore_an p (Try.f36.body.getD .skip) (endK Tb impl_UnsatCore_sg Try.f36 [] (un1 ty1)) rs k env
noncomputable def impl_UnsatCore_l1_E (N : Nat) (k_ : Nat) (n3 : Int) (clauses3 : List (List Int)) (proof3 : List (List Int)) (out2 : List Int) (i : Int) : Option (List Int) :=
  impl_UnsatCore_lp N [.r, .r, .r, .r, .l, .r, .b] [] k_ (.con .val [lf i64 n3 .ro] :: (.con .val [lf ty0 clauses3 .ro] :: (.con .val [lf ty0 proof3 .ro] :: (un 4 (.con .val [lf ty1 out2 .dp] :: (un 1 (.con .val [lf i64 i .ro] :: (un 38 []))))))))
noncomputable def impl_UnsatCore_l0_E (N : Nat) (k_ : Nat) (n2 : Int) (clauses2 : List (List Int)) (proof2 : List (List Int)) (out : List Int) (t18 : Int) (t19 : Int) : Option (List Int) :=
  impl_UnsatCore_lp N [.r, .r, .r, .l, .r, .b] [] k_ (.con .val [lf i64 n2 .ro] :: (.con .val [lf ty0 clauses2 .ro] :: (.con .val [lf ty0 proof2 .ro] :: (un 4 (.con .val [lf ty1 out .dp] :: (un 10 (.con .val [lf i64 t18 .ro] :: (.con .val [lf i64 t19 .ro] :: (un 28 [])))))))))
theorem impl_UnsatCore_l1_z (N : Nat) (n3 : Int) (clauses3 : List (List Int)) (proof3 : List (List Int)) (out2 : List Int) (i : Int) : impl_UnsatCore_l1_E N 0 n3 clauses3 proof3 out2 i = none := by kernel_rfl
theorem impl_UnsatCore_l1_s (N : Nat) (k_ : Nat) (n3 : Int) (clauses3 : List (List Int)) (proof3 : List (List Int)) (out2 : List Int) (i : Int) : impl_UnsatCore_l1_E N (k_ + 1) n3 clauses3 proof3 out2 i = impl_UnsatCore_l1_b N (impl_UnsatCore_l1_E N k_) n3 clauses3 proof3 out2 i := by kernel_rfl
theorem impl_UnsatCore_l0_z (N : Nat) (n2 : Int) (clauses2 : List (List Int)) (proof2 : List (List Int)) (out : List Int) (t18 : Int) (t19 : Int) : impl_UnsatCore_l0_E N 0 n2 clauses2 proof2 out t18 t19 = none := by kernel_rfl
theorem impl_UnsatCore_l0_s (N : Nat) (k_ : Nat) (n2 : Int) (clauses2 : List (List Int)) (proof2 : List (List Int)) (out : List Int) (t18 : Int) (t19 : Int) : impl_UnsatCore_l0_E N (k_ + 1) n2 clauses2 proof2 out t18 t19 = impl_UnsatCore_l0_b N (impl_UnsatCore_l1_E N N) (impl_UnsatCore_l0_E N k_) n2 clauses2 proof2 out t18 t19 := by kernel_rfl
theorem impl_UnsatCore_l1_q (N : Nat) : ∀ k_, impl_UnsatCore_l1_E N k_ = impl_UnsatCore_l1 N k_
  | 0 => by funext n3 clauses3 proof3 out2 i; exact impl_UnsatCore_l1_z N n3 clauses3 proof3 out2 i
  | k_ + 1 => by funext n3 clauses3 proof3 out2 i; rw [impl_UnsatCore_l1_s]; simp only [impl_UnsatCore_l1_q N k_]; rfl
theorem impl_UnsatCore_l0_q (N : Nat) : ∀ k_, impl_UnsatCore_l0_E N k_ = impl_UnsatCore_l0 N k_
  | 0 => by funext n2 clauses2 proof2 out t18 t19; exact impl_UnsatCore_l0_z N n2 clauses2 proof2 out t18 t19
  | k_ + 1 => by funext n2 clauses2 proof2 out t18 t19; rw [impl_UnsatCore_l0_s]; simp only [impl_UnsatCore_l1_q, impl_UnsatCore_l0_q N k_]; rfl
theorem impl_UnsatCore_v (N : Nat) (n : Int) (clauses : List (List Int)) (proof : List (List Int)) :
    evFn Tb (sigL (impl_UnsatCore_es N)) cps (orcL (impl_UnsatCore_es N)) (drawReg Tb (sigL (impl_UnsatCore_es N)) cps (orcL (impl_UnsatCore_es N))) N impl_UnsatCore_an impl_UnsatCore_sg Try.f36 (Try.f36.body.getD .skip) [.val i64 n, .val ty0 clauses, .val ty0 proof] (un1 ty1) = impl_UnsatCore_b N (impl_UnsatCore_l0_E N N) n clauses proof := by kernel_rfl
noncomputable def impl_UnsatCore_e (N : Nat) : Entry Try.prog := ⟨36, impl_UnsatCore_sg, [.v i64, .v ty0, .v ty0], List Int, impl_UnsatCore N, pk1 ty1, entry_en Try.func36 (code := Try.f36.body.getD .skip) (by kernel_rfl) (by kernel_rfl),
  fun n clauses proof => entry_ok tab_ok (es := impl_UnsatCore_es N) (by kernel_rfl) mixed Try.func36 (by kernel_rfl) ⟨rfl, rfl⟩ (un1_pk ty1) (by rw [impl_UnsatCore_v, impl_UnsatCore_l0_q]; rfl)⟩
noncomputable def laws_eqIntS_es (N : Nat) : List (Entry Try.prog) := []
def laws_eqIntS_sg : Sig := ⟨[.val ty1, .val ty1], [(.bool, .dp)], false, false⟩
def laws_eqIntS_an : Nat → Option (List Nat)
  | 0 => some [0, 1, 5]
  | _ => none
noncomputable def laws_eqIntS_lp (N : Nat) (p : List Dir) (rs : List (Env → Option (Bool))) (k : Nat) (env : Env) : Option (Bool) :=
  loopAt Tb (sigL (laws_eqIntS_es N)) cps (orcL (laws_eqIntS_es N)) N laws_eqIntS_an p (Try.f26.body.getD .skip) (endK Tb laws_eqIntS_sg Try.f26 [] (un1 .bool)) rs k env
noncomputable def laws_eqIntS_l0_E (N : Nat) (k_ : Nat) (a2 : List Int) (b2 : List Int) (i : Int) : Option (Bool) :=
  laws_eqIntS_lp N [.r, .r, .l, .r, .b] [] k_ (.con .val [lf ty1 a2 .ro] :: (.con .val [lf ty1 b2 .ro] :: (un 3 (.con .val [lf i64 i .ro] :: (un 20 [])))))
theorem laws_eqIntS_l0_z (N : Nat) (a2 : List Int) (b2 : List Int) (i : Int) : laws_eqIntS_l0_E N 0 a2 b2 i = none := by kernel_rfl
theorem laws_eqIntS_l0_s (N : Nat) (k_ : Nat) (a2 : List Int) (b2 : List Int) (i : Int) : laws_eqIntS_l0_E N (k_ + 1) a2 b2 i = laws_eqIntS_l0_b N (laws_eqIntS_l0_E N k_) a2 b2 i := by kernel_rfl
theorem laws_eqIntS_l0_q (N : Nat) : ∀ k_, laws_eqIntS_l0_E N k_ = laws_eqIntS_l0 N k_
  | 0 => by funext a2 b2 i; exact laws_eqIntS_l0_z N a2 b2 i
  | k_ + 1 => by funext a2 b2 i; rw [laws_eqIntS_l0_s]; simp only [laws_eqIntS_l0_q N k_]; rfl
theorem laws_eqIntS_v (N : Nat) (a : List Int) (b : List Int) :
    evFn Tb (sigL (laws_eqIntS_es N)) cps (orcL (laws_eqIntS_es N)) (drawReg Tb (sigL (laws_eqIntS_es N)) cps (orcL (laws_eqIntS_es N))) N laws_eqIntS_an laws_eqIntS_sg Try.f26 (Try.f26.body.getD .skip) [.val ty1 a, .val ty1 b] (un1 .bool) = laws_eqIntS_b N (laws_eqIntS_l0_E N N) a b := by kernel_rfl
noncomputable def laws_eqIntS_e (N : Nat) : Entry Try.prog := ⟨26, laws_eqIntS_sg, [.v ty1, .v ty1], Bool, laws_eqIntS N, pk1 .bool, entry_en Try.func26 (code := Try.f26.body.getD .skip) (by kernel_rfl) (by kernel_rfl),
  fun a b => entry_ok tab_ok (es := laws_eqIntS_es N) (by kernel_rfl) mixed Try.func26 (by kernel_rfl) ⟨rfl, rfl⟩ (un1_pk .bool) (by rw [laws_eqIntS_v, laws_eqIntS_l0_q]; rfl)⟩
noncomputable def laws_eqIntSS_es (N : Nat) : List (Entry Try.prog) := [laws_eqIntS_e N]
def laws_eqIntSS_sg : Sig := ⟨[.val ty0, .val ty0], [(.bool, .dp)], false, false⟩
def laws_eqIntSS_an : Nat → Option (List Nat)
  | 0 => some [0, 1, 5]
  | _ => none
noncomputable def laws_eqIntSS_lp (N : Nat) (p : List Dir) (rs : List (Env → Option (Bool))) (k : Nat) (env : Env) : Option (Bool) :=
  loopAt Tb (sigL (laws_eqIntSS_es N)) cps (orcL (laws_eqIntSS_es N)) N laws_eqIntSS_an p (Try.f25.body.getD .skip) (endK Tb laws_eqIntSS_sg Try.f25 [] (un1 .bool)) rs k env
noncomputable def laws_eqIntSS_l0_E (N : Nat) (k_ : Nat) (a2 : List (List Int)) (b2 : List (List Int)) (i : Int) : Option (Bool) :=
  laws_eqIntSS_lp N [.r, .r, .l, .r, .b] [] k_ (.con .val [lf ty0 a2 .ro] :: (.con .val [lf ty0 b2 .ro] :: (un 3 (.con .val [lf i64 i .ro] :: (un 21 [])))))
theorem laws_eqIntSS_l0_z (N : Nat) (a2 : List (List Int)) (b2 : List (List Int)) (i : Int) : laws_eqIntSS_l0_E N 0 a2 b2 i = none := by kernel_rfl
theorem laws_eqIntSS_l0_s (N : Nat) (k_ : Nat) (a2 : List (List Int)) (b2 : List (List Int)) (i : Int) : laws_eqIntSS_l0_E N (k_ + 1) a2 b2 i = laws_eqIntSS_l0_b N (laws_eqIntSS_l0_E N k_) a2 b2 i := by kernel_rfl
theorem laws_eqIntSS_l0_q (N : Nat) : ∀ k_, laws_eqIntSS_l0_E N k_ = laws_eqIntSS_l0 N k_
  | 0 => by funext a2 b2 i; exact laws_eqIntSS_l0_z N a2 b2 i
  | k_ + 1 => by funext a2 b2 i; rw [laws_eqIntSS_l0_s]; simp only [laws_eqIntSS_l0_q N k_]; rfl
theorem laws_eqIntSS_v (N : Nat) (a : List (List Int)) (b : List (List Int)) :
    evFn Tb (sigL (laws_eqIntSS_es N)) cps (orcL (laws_eqIntSS_es N)) (drawReg Tb (sigL (laws_eqIntSS_es N)) cps (orcL (laws_eqIntSS_es N))) N laws_eqIntSS_an laws_eqIntSS_sg Try.f25 (Try.f25.body.getD .skip) [.val ty0 a, .val ty0 b] (un1 .bool) = laws_eqIntSS_b N (laws_eqIntSS_l0_E N N) a b := by kernel_rfl
noncomputable def laws_eqIntSS_e (N : Nat) : Entry Try.prog := ⟨25, laws_eqIntSS_sg, [.v ty0, .v ty0], Bool, laws_eqIntSS N, pk1 .bool, entry_en Try.func25 (code := Try.f25.body.getD .skip) (by kernel_rfl) (by kernel_rfl),
  fun a b => entry_ok tab_ok (es := laws_eqIntSS_es N) (by kernel_rfl) mixed Try.func25 (by kernel_rfl) ⟨rfl, rfl⟩ (un1_pk .bool) (by rw [laws_eqIntSS_v, laws_eqIntSS_l0_q]; rfl)⟩
noncomputable def laws_markIntS_es (N : Nat) : List (Entry Try.prog) := []
def laws_markIntS_sg : Sig := ⟨[.val ty1, .val i64], [(i64, .dp)], true, false⟩
def laws_markIntS_an : Nat → Option (List Nat)
  | 0 => some [0, 1, 5]
  | _ => none
noncomputable def laws_markIntS_lp (N : Nat) (p : List Dir) (rs : List (Env → Option (List Int × Int))) (k : Nat) (env : Env) : Option (List Int × Int) :=
  loopAt Tb (sigL (laws_markIntS_es N)) cps (orcL (laws_markIntS_es N)) N laws_markIntS_an p (Try.f28.body.getD .skip) (endK Tb laws_markIntS_sg Try.f28 [.val ty1 []] (un2 ty1 i64)) rs k env
noncomputable def laws_markIntS_l0_E (N : Nat) (k_ : Nat) (a2 : List Int) (k2 : Int) (i : Int) : Option (List Int × Int) :=
  laws_markIntS_lp N [.r, .l, .r, .b] [] k_ (.con .val [⟨ty1, a2, (.at_ (.pn 0))⟩] :: (.con .val [lf i64 k2 .ro] :: (un 3 (.con .val [lf i64 i .ro] :: (un 13 [])))))
theorem laws_markIntS_l0_z (N : Nat) (a2 : List Int) (k2 : Int) (i : Int) : laws_markIntS_l0_E N 0 a2 k2 i = none := by kernel_rfl
theorem laws_markIntS_l0_s (N : Nat) (k_ : Nat) (a2 : List Int) (k2 : Int) (i : Int) : laws_markIntS_l0_E N (k_ + 1) a2 k2 i = laws_markIntS_l0_b N (laws_markIntS_l0_E N k_) a2 k2 i := by kernel_rfl
theorem laws_markIntS_l0_q (N : Nat) : ∀ k_, laws_markIntS_l0_E N k_ = laws_markIntS_l0 N k_
  | 0 => by funext a2 k2 i; exact laws_markIntS_l0_z N a2 k2 i
  | k_ + 1 => by funext a2 k2 i; rw [laws_markIntS_l0_s]; simp only [laws_markIntS_l0_q N k_]; rfl
theorem laws_markIntS_v (N : Nat) (a : List Int) (k : Int) :
    evFn Tb (sigL (laws_markIntS_es N)) cps (orcL (laws_markIntS_es N)) (drawReg Tb (sigL (laws_markIntS_es N)) cps (orcL (laws_markIntS_es N))) N laws_markIntS_an laws_markIntS_sg Try.f28 (Try.f28.body.getD .skip) [.val ty1 a, .val i64 k] (un2 ty1 i64) = laws_markIntS_b N (laws_markIntS_l0_E N N) a k := by kernel_rfl
noncomputable def laws_markIntS_e (N : Nat) : Entry Try.prog := ⟨28, laws_markIntS_sg, [.v ty1, .v i64], List Int × Int, laws_markIntS N, pk2 ty1 i64, entry_en Try.func28 (code := Try.f28.body.getD .skip) (by kernel_rfl) (by kernel_rfl),
  fun a k => entry_okM tab_ok (es := laws_markIntS_es N) (by kernel_rfl) mixed Try.func28 (by kernel_rfl) ⟨rfl, rfl⟩ (fun _ => ⟨_, _, rfl⟩) (un2_pk ty1 i64) (by rw [laws_markIntS_v, laws_markIntS_l0_q]; rfl)⟩
noncomputable def laws_markIntSS_es (N : Nat) : List (Entry Try.prog) := [laws_markIntS_e N]
def laws_markIntSS_sg : Sig := ⟨[.val ty0, .val i64], [(i64, .dp)], true, false⟩
def laws_markIntSS_an : Nat → Option (List Nat)
  | 0 => some [0, 1, 5]
  | _ => none
noncomputable def laws_markIntSS_lp (N : Nat) (p : List Dir) (rs : List (Env → Option (List (List Int) × Int))) (k : Nat) (env : Env) : Option (List (List Int) × Int) :=
  loopAt Tb (sigL (laws_markIntSS_es N)) cps (orcL (laws_markIntSS_es N)) N laws_markIntSS_an p (Try.f27.body.getD .skip) (endK Tb laws_markIntSS_sg Try.f27 [.val ty0 []] (un2 ty0 i64)) rs k env
noncomputable def laws_markIntSS_l0_E (N : Nat) (k_ : Nat) (a2 : List (List Int)) (k2 : Int) (i : Int) : Option (List (List Int) × Int) :=
  laws_markIntSS_lp N [.r, .l, .r, .b] [] k_ (.con .val [⟨ty0, a2, (.at_ (.pn 0))⟩] :: (.con .val [lf i64 k2 .ro] :: (un 3 (.con .val [lf i64 i .ro] :: (un 13 [])))))
theorem laws_markIntSS_l0_z (N : Nat) (a2 : List (List Int)) (k2 : Int) (i : Int) : laws_markIntSS_l0_E N 0 a2 k2 i = none := by kernel_rfl
theorem laws_markIntSS_l0_s (N : Nat) (k_ : Nat) (a2 : List (List Int)) (k2 : Int) (i : Int) : laws_markIntSS_l0_E N (k_ + 1) a2 k2 i = laws_markIntSS_l0_b N (laws_markIntSS_l0_E N k_) a2 k2 i := by kernel_rfl
theorem laws_markIntSS_l0_q (N : Nat) : ∀ k_, laws_markIntSS_l0_E N k_ = laws_markIntSS_l0 N k_
  | 0 => by funext a2 k2 i; exact laws_markIntSS_l0_z N a2 k2 i
  | k_ + 1 => by funext a2 k2 i; rw [laws_markIntSS_l0_s]; simp only [laws_markIntSS_l0_q N k_]; rfl
theorem laws_markIntSS_v (N : Nat) (a : List (List Int)) (k : Int) :
    evFn Tb (sigL (laws_markIntSS_es N)) cps (orcL (laws_markIntSS_es N)) (drawReg Tb (sigL (laws_markIntSS_es N)) cps (orcL (laws_markIntSS_es N))) N laws_markIntSS_an laws_markIntSS_sg Try.f27 (Try.f27.body.getD .skip) [.val ty0 a, .val i64 k] (un2 ty0 i64) = laws_markIntSS_b N (laws_markIntSS_l0_E N N) a k := by kernel_rfl
noncomputable def laws_markIntSS_e (N : Nat) : Entry Try.prog := ⟨27, laws_markIntSS_sg, [.v ty0, .v i64], List (List Int) × Int, laws_markIntSS N, pk2 ty0 i64, entry_en Try.func27 (code := Try.f27.body.getD .skip) (by kernel_rfl) (by kernel_rfl),
  fun a k => entry_okM tab_ok (es := laws_markIntSS_es N) (by kernel_rfl) mixed Try.func27 (by kernel_rfl) ⟨rfl, rfl⟩ (fun _ => ⟨_, _, rfl⟩) (un2_pk ty0 i64) (by rw [laws_markIntSS_v, laws_markIntSS_l0_q]; rfl)⟩
noncomputable def laws_heldIntS_es (N : Nat) : List (Entry Try.prog) := []
def laws_heldIntS_sg : Sig := ⟨[.val ty1, .val i64], [(i64, .dp)], false, false⟩
def laws_heldIntS_an : Nat → Option (List Nat)
  | 0 => some [0, 1, 5]
  | _ => none
noncomputable def laws_heldIntS_lp (N : Nat) (p : List Dir) (rs : List (Env → Option (Int))) (k : Nat) (env : Env) : Option (Int) :=
  loopAt Tb (sigL (laws_heldIntS_es N)) cps (orcL (laws_heldIntS_es N)) N laws_heldIntS_an p (Try.f37.body.getD .skip) (endK Tb laws_heldIntS_sg Try.f37 [] (un1 i64)) rs k env
noncomputable def laws_heldIntS_l0_E (N : Nat) (k_ : Nat) (a2 : List Int) (k2 : Int) (i : Int) : Option (Int) :=
  laws_heldIntS_lp N [.r, .l, .r, .b] [] k_ (.con .val [lf ty1 a2 .ro] :: (.con .val [lf i64 k2 .ro] :: (un 3 (.con .val [lf i64 i .ro] :: (un 15 [])))))
theorem laws_heldIntS_l0_z (N : Nat) (a2 : List Int) (k2 : Int) (i : Int) : laws_heldIntS_l0_E N 0 a2 k2 i = none := by kernel_rfl
theorem laws_heldIntS_l0_s (N : Nat) (k_ : Nat) (a2 : List Int) (k2 : Int) (i : Int) : laws_heldIntS_l0_E N (k_ + 1) a2 k2 i = laws_heldIntS_l0_b N (laws_heldIntS_l0_E N k_) a2 k2 i := by kernel_rfl
theorem laws_heldIntS_l0_q (N : Nat) : ∀ k_, laws_heldIntS_l0_E N k_ = laws_heldIntS_l0 N k_
  | 0 => by funext a2 k2 i; exact laws_heldIntS_l0_z N a2 k2 i
  | k_ + 1 => by funext a2 k2 i; rw [laws_heldIntS_l0_s]; simp only [laws_heldIntS_l0_q N k_]; rfl
theorem laws_heldIntS_v (N : Nat) (a : List Int) (k : Int) :
    evFn Tb (sigL (laws_heldIntS_es N)) cps (orcL (laws_heldIntS_es N)) (drawReg Tb (sigL (laws_heldIntS_es N)) cps (orcL (laws_heldIntS_es N))) N laws_heldIntS_an laws_heldIntS_sg Try.f37 (Try.f37.body.getD .skip) [.val ty1 a, .val i64 k] (un1 i64) = laws_heldIntS_b N (laws_heldIntS_l0_E N N) a k := by kernel_rfl
noncomputable def laws_heldIntS_e (N : Nat) : Entry Try.prog := ⟨37, laws_heldIntS_sg, [.v ty1, .v i64], Int, laws_heldIntS N, pk1 i64, entry_en Try.func37 (code := Try.f37.body.getD .skip) (by kernel_rfl) (by kernel_rfl),
  fun a k => entry_ok tab_ok (es := laws_heldIntS_es N) (by kernel_rfl) mixed Try.func37 (by kernel_rfl) ⟨rfl, rfl⟩ (un1_pk i64) (by rw [laws_heldIntS_v, laws_heldIntS_l0_q]; rfl)⟩
noncomputable def laws_FnExactUnsatCore_es (N : Nat) : List (Entry Try.prog) := [laws_szIntSS_e N, laws_toIntSS_e N, spec_UnsatCore_e N, impl_UnsatCore_e N, laws_eqIntS_e N, laws_eqIntSS_e N, laws_markIntSS_e N, laws_markIntS_e N, laws_heldIntS_e N]
def laws_FnExactUnsatCore_sg : Sig := ⟨[.val i64, .val ty0, .val ty0], [(.bool, .dp)], false, false⟩
def laws_FnExactUnsatCore_an : Nat → Option (List Nat) := fun _ => none
theorem laws_FnExactUnsatCore_v (N : Nat) (aN : Int) (aClauses : List (List Int)) (aProof : List (List Int)) :
    evFn Tb (sigL (laws_FnExactUnsatCore_es N)) cps (orcL (laws_FnExactUnsatCore_es N)) (drawReg Tb (sigL (laws_FnExactUnsatCore_es N)) cps (orcL (laws_FnExactUnsatCore_es N))) N laws_FnExactUnsatCore_an laws_FnExactUnsatCore_sg Try.f6 (Try.f6.body.getD .skip) [.val i64 aN, .val ty0 aClauses, .val ty0 aProof] (un1 .bool) = laws_FnExactUnsatCore N aN aClauses aProof := by kernel_rfl
noncomputable def laws_FnExactUnsatCore_e (N : Nat) : Entry Try.prog := ⟨6, laws_FnExactUnsatCore_sg, [.v i64, .v ty0, .v ty0], Bool, laws_FnExactUnsatCore N, pk1 .bool, entry_en Try.func6 (code := Try.f6.body.getD .skip) (by kernel_rfl) (by kernel_rfl),
  fun aN aClauses aProof => entry_ok tab_ok (es := laws_FnExactUnsatCore_es N) (by kernel_rfl) mixed Try.func6 (by kernel_rfl) ⟨rfl, rfl⟩ (un1_pk .bool) (laws_FnExactUnsatCore_v N aN aClauses aProof)⟩
end Go.PL
