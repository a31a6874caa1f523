/- What the machine does at each function is what the plain reading says. Conditions: none. -/
import Derived.Test.YtnnljnfnomfgkaaFpD
import Derived.Test.YtnnljnfnomfgkaaPlain
import Derived.Test.YtnnljnfnomfgkaaProg

/- What the machine does is what the plain reading says. Conditions: none. -/
namespace Go.PL
open Go.FP Go.Proofs
set_option linter.unusedVariables false
set_option maxRecDepth 10000

abbrev i64 : Ty := .int .i64
abbrev ty0 : Ty := (.slice 3 i64)
abbrev ty1 : Ty := (.slice 23 (.slice 3 i64))
def Tb : Tab := [⟨3, i64, 8, []⟩,
  ⟨4, .bool, 1, []⟩,
  ⟨23, ty0, 24, []⟩,
  ⟨30, ty1, 24, []⟩]
theorem tab_ok : TabOk Try.prog Tb :=
  (tab_cons (TEOk.plain (i := Try.t3) (by kernel_rfl) rfl rfl (by kernel_rfl) rfl Try.underlying3)
  (tab_cons (TEOk.plain (i := Try.t4) (by kernel_rfl) rfl rfl (by kernel_rfl) rfl Try.underlying4)
  (tab_cons (TEOk.plain (i := Try.t23) (by kernel_rfl) rfl rfl (by kernel_rfl) rfl Try.underlying23)
  (tab_cons (TEOk.plain (i := Try.t30) (by kernel_rfl) rfl rfl (by kernel_rfl) rfl Try.underlying30)
  tab_nil))))
theorem mixed : Try.prog.follows .mixedOrders = true := by decide
def cps : FuncId → List Ty := capsL []

noncomputable def laws_szIntS_es (N : Nat) : List (Entry Try.prog) := []
def laws_szIntS_sg : Sig := ⟨[.val ty0, .val i64], [(i64, true)], false⟩
def laws_szIntS_an : Nat → Option (List Nat) := fun _ => none
theorem laws_szIntS_v (N : Nat) (a : List Int) (left_ : Int) :
    evFn Tb (sigL (laws_szIntS_es N)) cps (orcL (laws_szIntS_es N)) (drawReg Tb (sigL (laws_szIntS_es N)) cps (orcL (laws_szIntS_es N))) N laws_szIntS_an laws_szIntS_sg Try.f61 (Try.f61.body.getD .skip) [.val ty0 a, .val i64 left_] (un1 i64) = laws_szIntS N a left_ := by kernel_rfl
noncomputable def laws_szIntS_e (N : Nat) : Entry Try.prog := ⟨61, laws_szIntS_sg, [.v ty0, .v i64], Int, laws_szIntS N, pk1 i64, entry_en Try.func61 (code := Try.f61.body.getD .skip) (by kernel_rfl) (by kernel_rfl),
  fun a left_ => entry_ok tab_ok (es := laws_szIntS_es N) (by kernel_rfl) mixed Try.func61 (by kernel_rfl) rfl (un1_pk i64) (laws_szIntS_v N a left_)⟩
noncomputable def laws_szIntSS_es (N : Nat) : List (Entry Try.prog) := [laws_szIntS_e N]
def laws_szIntSS_sg : Sig := ⟨[.val ty1, .val i64], [(i64, true)], false⟩
def laws_szIntSS_an : Nat → Option (List Nat)
  | 0 => some [0, 1, 5]
  | _ => none
noncomputable def laws_szIntSS_lp (N : Nat) (p : List Dir) (rs : List (Env → Option (Int))) (k : Nat) (env : Env) : Option (Int) :=
  loopAt Tb (sigL (laws_szIntSS_es N)) cps (orcL (laws_szIntSS_es N)) N laws_szIntSS_an p (Try.f20.body.getD .skip) (endK Tb laws_szIntSS_sg Try.f20 [] (un1 i64)) rs k env
noncomputable def laws_szIntSS_l0_E (N : Nat) (k_ : Nat) (a2 : List (List Int)) (left_2 : Int) (i : Int) : Option (Int) :=
  laws_szIntSS_lp N [.r, .r, .r, .l, .r, .b] [] k_ (.con .val [lf ty1 a2 .ro] :: (.con .val [lf i64 left_2 .ro] :: (un 3 (.con .val [lf i64 i .ro] :: (un 21 [])))))
theorem laws_szIntSS_l0_z (N : Nat) (a2 : List (List Int)) (left_2 : Int) (i : Int) : laws_szIntSS_l0_E N 0 a2 left_2 i = none := by kernel_rfl
theorem laws_szIntSS_l0_s (N : Nat) (k_ : Nat) (a2 : List (List Int)) (left_2 : Int) (i : Int) : laws_szIntSS_l0_E N (k_ + 1) a2 left_2 i = laws_szIntSS_l0_b N (laws_szIntSS_l0_E N k_) a2 left_2 i := by kernel_rfl
theorem laws_szIntSS_l0_q (N : Nat) : ∀ k_, laws_szIntSS_l0_E N k_ = laws_szIntSS_l0 N k_
  | 0 => by funext a2 left_2 i; exact laws_szIntSS_l0_z N a2 left_2 i
  | k_ + 1 => by funext a2 left_2 i; rw [laws_szIntSS_l0_s]; simp only [laws_szIntSS_l0_q N k_]; rfl
theorem laws_szIntSS_v (N : Nat) (a : List (List Int)) (left_ : Int) :
    evFn Tb (sigL (laws_szIntSS_es N)) cps (orcL (laws_szIntSS_es N)) (drawReg Tb (sigL (laws_szIntSS_es N)) cps (orcL (laws_szIntSS_es N))) N laws_szIntSS_an laws_szIntSS_sg Try.f20 (Try.f20.body.getD .skip) [.val ty1 a, .val i64 left_] (un1 i64) = laws_szIntSS_b N (laws_szIntSS_l0_E N N) a left_ := by kernel_rfl
noncomputable def laws_szIntSS_e (N : Nat) : Entry Try.prog := ⟨20, laws_szIntSS_sg, [.v ty1, .v i64], Int, laws_szIntSS N, pk1 i64, entry_en Try.func20 (code := Try.f20.body.getD .skip) (by kernel_rfl) (by kernel_rfl),
  fun a left_ => entry_ok tab_ok (es := laws_szIntSS_es N) (by kernel_rfl) mixed Try.func20 (by kernel_rfl) rfl (un1_pk i64) (by rw [laws_szIntSS_v, laws_szIntSS_l0_q]; rfl)⟩
noncomputable def laws_toIntS_es (N : Nat) : List (Entry Try.prog) := []
def laws_toIntS_sg : Sig := ⟨[.val ty0], [(ty0, true)], false⟩
def laws_toIntS_an : Nat → Option (List Nat)
  | 0 => some [0, 3, 4]
  | _ => none
noncomputable def laws_toIntS_lp (N : Nat) (p : List Dir) (rs : List (Env → Option (List Int))) (k : Nat) (env : Env) : Option (List Int) :=
  loopAt Tb (sigL (laws_toIntS_es N)) cps (orcL (laws_toIntS_es N)) N laws_toIntS_an p (Try.f23.body.getD .skip) (endK Tb laws_toIntS_sg Try.f23 [] (un1 ty0)) rs k env
noncomputable def laws_toIntS_l0_E (N : Nat) (k_ : Nat) (a2 : List Int) (out : List Int) (i : Int) : Option (List Int) :=
  laws_toIntS_lp N [.r, .r, .l, .r, .b] [] k_ (.con .val [lf ty0 a2 .ro] :: (un 2 (.con .val [lf ty0 out .dp] :: (.con .val [lf i64 i .ro] :: (un 17 [])))))
theorem laws_toIntS_l0_z (N : Nat) (a2 : List Int) (out : List Int) (i : Int) : laws_toIntS_l0_E N 0 a2 out i = none := by kernel_rfl
theorem laws_toIntS_l0_s (N : Nat) (k_ : Nat) (a2 : List Int) (out : List Int) (i : Int) : laws_toIntS_l0_E N (k_ + 1) a2 out i = laws_toIntS_l0_b N (laws_toIntS_l0_E N k_) a2 out i := by kernel_rfl
theorem laws_toIntS_l0_q (N : Nat) : ∀ k_, laws_toIntS_l0_E N k_ = laws_toIntS_l0 N k_
  | 0 => by funext a2 out i; exact laws_toIntS_l0_z N a2 out i
  | k_ + 1 => by funext a2 out i; rw [laws_toIntS_l0_s]; simp only [laws_toIntS_l0_q N k_]; rfl
theorem laws_toIntS_v (N : Nat) (a : List Int) :
    evFn Tb (sigL (laws_toIntS_es N)) cps (orcL (laws_toIntS_es N)) (drawReg Tb (sigL (laws_toIntS_es N)) cps (orcL (laws_toIntS_es N))) N laws_toIntS_an laws_toIntS_sg Try.f23 (Try.f23.body.getD .skip) [.val ty0 a] (un1 ty0) = laws_toIntS_b N (laws_toIntS_l0_E N N) a := by kernel_rfl
noncomputable def laws_toIntS_e (N : Nat) : Entry Try.prog := ⟨23, laws_toIntS_sg, [.v ty0], List Int, laws_toIntS N, pk1 ty0, entry_en Try.func23 (code := Try.f23.body.getD .skip) (by kernel_rfl) (by kernel_rfl),
  fun a => entry_ok tab_ok (es := laws_toIntS_es N) (by kernel_rfl) mixed Try.func23 (by kernel_rfl) rfl (un1_pk ty0) (by rw [laws_toIntS_v, laws_toIntS_l0_q]; rfl)⟩
noncomputable def laws_toIntSS_es (N : Nat) : List (Entry Try.prog) := [laws_toIntS_e N]
def laws_toIntSS_sg : Sig := ⟨[.val ty1], [(ty1, true)], false⟩
def laws_toIntSS_an : Nat → Option (List Nat)
  | 0 => some [0, 3, 4]
  | _ => none
noncomputable def laws_toIntSS_lp (N : Nat) (p : List Dir) (rs : List (Env → Option (List (List Int)))) (k : Nat) (env : Env) : Option (List (List Int)) :=
  loopAt Tb (sigL (laws_toIntSS_es N)) cps (orcL (laws_toIntSS_es N)) N laws_toIntSS_an p (Try.f22.body.getD .skip) (endK Tb laws_toIntSS_sg Try.f22 [] (un1 ty1)) rs k env
noncomputable def laws_toIntSS_l0_E (N : Nat) (k_ : Nat) (a2 : List (List Int)) (out : List (List Int)) (i : Int) : Option (List (List Int)) :=
  laws_toIntSS_lp N [.r, .r, .l, .r, .b] [] k_ (.con .val [lf ty1 a2 .ro] :: (un 2 (.con .val [lf ty1 out .dp] :: (.con .val [lf i64 i .ro] :: (un 18 [])))))
theorem laws_toIntSS_l0_z (N : Nat) (a2 : List (List Int)) (out : List (List Int)) (i : Int) : laws_toIntSS_l0_E N 0 a2 out i = none := by kernel_rfl
theorem laws_toIntSS_l0_s (N : Nat) (k_ : Nat) (a2 : List (List Int)) (out : List (List Int)) (i : Int) : laws_toIntSS_l0_E N (k_ + 1) a2 out i = laws_toIntSS_l0_b N (laws_toIntSS_l0_E N k_) a2 out i := by kernel_rfl
theorem laws_toIntSS_l0_q (N : Nat) : ∀ k_, laws_toIntSS_l0_E N k_ = laws_toIntSS_l0 N k_
  | 0 => by funext a2 out i; exact laws_toIntSS_l0_z N a2 out i
  | k_ + 1 => by funext a2 out i; rw [laws_toIntSS_l0_s]; simp only [laws_toIntSS_l0_q N k_]; rfl
theorem laws_toIntSS_v (N : Nat) (a : List (List Int)) :
    evFn Tb (sigL (laws_toIntSS_es N)) cps (orcL (laws_toIntSS_es N)) (drawReg Tb (sigL (laws_toIntSS_es N)) cps (orcL (laws_toIntSS_es N))) N laws_toIntSS_an laws_toIntSS_sg Try.f22 (Try.f22.body.getD .skip) [.val ty1 a] (un1 ty1) = laws_toIntSS_b N (laws_toIntSS_l0_E N N) a := by kernel_rfl
noncomputable def laws_toIntSS_e (N : Nat) : Entry Try.prog := ⟨22, laws_toIntSS_sg, [.v ty1], List (List Int), laws_toIntSS N, pk1 ty1, entry_en Try.func22 (code := Try.f22.body.getD .skip) (by kernel_rfl) (by kernel_rfl),
  fun a => entry_ok tab_ok (es := laws_toIntSS_es N) (by kernel_rfl) mixed Try.func22 (by kernel_rfl) rfl (un1_pk ty1) (by rw [laws_toIntSS_v, laws_toIntSS_l0_q]; rfl)⟩
noncomputable def spec_l1In_es (N : Nat) : List (Entry Try.prog) := []
def spec_l1In_sg : Sig := ⟨[.val i64, .val i64, .val i64], [(.bool, true)], false⟩
def spec_l1In_an : Nat → Option (List Nat) := fun _ => none
theorem spec_l1In_v (N : Nat) (x : Int) (low : Int) (high : Int) :
    evFn Tb (sigL (spec_l1In_es N)) cps (orcL (spec_l1In_es N)) (drawReg Tb (sigL (spec_l1In_es N)) cps (orcL (spec_l1In_es N))) N spec_l1In_an spec_l1In_sg Try.f62 (Try.f62.body.getD .skip) [.val i64 x, .val i64 low, .val i64 high] (un1 .bool) = spec_l1In N x low high := by kernel_rfl
noncomputable def spec_l1In_e (N : Nat) : Entry Try.prog := ⟨62, spec_l1In_sg, [.v i64, .v i64, .v i64], Bool, spec_l1In N, pk1 .bool, entry_en Try.func62 (code := Try.f62.body.getD .skip) (by kernel_rfl) (by kernel_rfl),
  fun x low high => entry_ok tab_ok (es := spec_l1In_es N) (by kernel_rfl) mixed Try.func62 (by kernel_rfl) rfl (un1_pk .bool) (spec_l1In_v N x low high)⟩
noncomputable def spec_SelectClauses_es (N : Nat) : List (Entry Try.prog) := [spec_l1In_e N]
def spec_SelectClauses_sg : Sig := ⟨[.val ty1, .val ty0], [(ty1, true)], false⟩
def spec_SelectClauses_an : Nat → Option (List Nat)
  | 0 => some [0, 1, 5, 6]
  | _ => none
noncomputable def spec_SelectClauses_lp (N : Nat) (p : List Dir) (rs : List (Env → Option (List (List Int)))) (k : Nat) (env : Env) : Option (List (List Int)) :=
  loopAt Tb (sigL (spec_SelectClauses_es N)) cps (orcL (spec_SelectClauses_es N)) N spec_SelectClauses_an p (Try.f21.body.getD .skip) (endK Tb spec_SelectClauses_sg Try.f21 [] (un1 ty1)) rs k env
noncomputable def spec_SelectClauses_l0_E (N : Nat) (k_ : Nat) (l2 : List (List Int)) (at_2 : List Int) (out : List (List Int)) (i : Int) : Option (List (List Int)) :=
  spec_SelectClauses_lp N [.r, .r, .l, .r, .b] [] k_ (.con .val [lf ty1 l2 .ro] :: (.con .val [lf ty0 at_2 .ro] :: (un 3 (.con .val [lf ty1 out .dp] :: (.con .val [lf i64 i .ro] :: (un 28 []))))))
theorem spec_SelectClauses_l0_z (N : Nat) (l2 : List (List Int)) (at_2 : List Int) (out : List (List Int)) (i : Int) : spec_SelectClauses_l0_E N 0 l2 at_2 out i = none := by kernel_rfl
theorem spec_SelectClauses_l0_s (N : Nat) (k_ : Nat) (l2 : List (List Int)) (at_2 : List Int) (out : List (List Int)) (i : Int) : spec_SelectClauses_l0_E N (k_ + 1) l2 at_2 out i = spec_SelectClauses_l0_b N (spec_SelectClauses_l0_E N k_) l2 at_2 out i := by kernel_rfl
theorem spec_SelectClauses_l0_q (N : Nat) : ∀ k_, spec_SelectClauses_l0_E N k_ = spec_SelectClauses_l0 N k_
  | 0 => by funext l2 at_2 out i; exact spec_SelectClauses_l0_z N l2 at_2 out i
  | k_ + 1 => by funext l2 at_2 out i; rw [spec_SelectClauses_l0_s]; simp only [spec_SelectClauses_l0_q N k_]; rfl
theorem spec_SelectClauses_v (N : Nat) (l : List (List Int)) (at_ : List Int) :
    evFn Tb (sigL (spec_SelectClauses_es N)) cps (orcL (spec_SelectClauses_es N)) (drawReg Tb (sigL (spec_SelectClauses_es N)) cps (orcL (spec_SelectClauses_es N))) N spec_SelectClauses_an spec_SelectClauses_sg Try.f21 (Try.f21.body.getD .skip) [.val ty1 l, .val ty0 at_] (un1 ty1) = spec_SelectClauses_b N (spec_SelectClauses_l0_E N N) l at_ := by kernel_rfl
noncomputable def spec_SelectClauses_e (N : Nat) : Entry Try.prog := ⟨21, spec_SelectClauses_sg, [.v ty1, .v ty0], List (List Int), spec_SelectClauses N, pk1 ty1, entry_en Try.func21 (code := Try.f21.body.getD .skip) (by kernel_rfl) (by kernel_rfl),
  fun l at_ => entry_ok tab_ok (es := spec_SelectClauses_es N) (by kernel_rfl) mixed Try.func21 (by kernel_rfl) rfl (un1_pk ty1) (by rw [spec_SelectClauses_v, spec_SelectClauses_l0_q]; rfl)⟩
noncomputable def impl_within_es (N : Nat) : List (Entry Try.prog) := []
def impl_within_sg : Sig := ⟨[.val i64, .val i64, .val i64], [(.bool, true)], false⟩
def impl_within_an : Nat → Option (List Nat) := fun _ => none
theorem impl_within_v (N : Nat) (n : Int) (low : Int) (high : Int) :
    evFn Tb (sigL (impl_within_es N)) cps (orcL (impl_within_es N)) (drawReg Tb (sigL (impl_within_es N)) cps (orcL (impl_within_es N))) N impl_within_an impl_within_sg Try.f63 (Try.f63.body.getD .skip) [.val i64 n, .val i64 low, .val i64 high] (un1 .bool) = impl_within N n low high := by kernel_rfl
noncomputable def impl_within_e (N : Nat) : Entry Try.prog := ⟨63, impl_within_sg, [.v i64, .v i64, .v i64], Bool, impl_within N, pk1 .bool, entry_en Try.func63 (code := Try.f63.body.getD .skip) (by kernel_rfl) (by kernel_rfl),
  fun n low high => entry_ok tab_ok (es := impl_within_es N) (by kernel_rfl) mixed Try.func63 (by kernel_rfl) rfl (un1_pk .bool) (impl_within_v N n low high)⟩
noncomputable def impl_SelectClauses_es (N : Nat) : List (Entry Try.prog) := [impl_within_e N]
def impl_SelectClauses_sg : Sig := ⟨[.val ty1, .val ty0], [(ty1, true)], false⟩
def impl_SelectClauses_an : Nat → Option (List Nat)
  | 0 => some [0, 5, 9, 10, 11]
  | _ => none
noncomputable def impl_SelectClauses_lp (N : Nat) (p : List Dir) (rs : List (Env → Option (List (List Int)))) (k : Nat) (env : Env) : Option (List (List Int)) :=
  loopAt Tb (sigL (impl_SelectClauses_es N)) cps (orcL (impl_SelectClauses_es N)) N impl_SelectClauses_an p (Try.f24.body.getD .skip) (endK Tb impl_SelectClauses_sg Try.f24 [] (un1 ty1)) rs k env
noncomputable def impl_SelectClauses_l0_E (N : Nat) (k_ : Nat) (clauses2 : List (List Int)) (out : List (List Int)) (t9 : List Int) (t10 : Int) (t11 : Int) : Option (List (List Int)) :=
  impl_SelectClauses_lp N [.r, .r, .l, .r, .b] [] k_ (.con .val [lf ty1 clauses2 .ro] :: (un 4 (.con .val [lf ty1 out .dp] :: (un 3 (.con .val [lf ty0 t9 .ro] :: (.con .val [lf i64 t10 .ro] :: (.con .val [lf i64 t11 .ro] :: (un 19 []))))))))
theorem impl_SelectClauses_l0_z (N : Nat) (clauses2 : List (List Int)) (out : List (List Int)) (t9 : List Int) (t10 : Int) (t11 : Int) : impl_SelectClauses_l0_E N 0 clauses2 out t9 t10 t11 = none := by kernel_rfl
theorem impl_SelectClauses_l0_s (N : Nat) (k_ : Nat) (clauses2 : List (List Int)) (out : List (List Int)) (t9 : List Int) (t10 : Int) (t11 : Int) : impl_SelectClauses_l0_E N (k_ + 1) clauses2 out t9 t10 t11 = impl_SelectClauses_l0_b N (impl_SelectClauses_l0_E N k_) clauses2 out t9 t10 t11 := by kernel_rfl
theorem impl_SelectClauses_l0_q (N : Nat) : ∀ k_, impl_SelectClauses_l0_E N k_ = impl_SelectClauses_l0 N k_
  | 0 => by funext clauses2 out t9 t10 t11; exact impl_SelectClauses_l0_z N clauses2 out t9 t10 t11
  | k_ + 1 => by funext clauses2 out t9 t10 t11; rw [impl_SelectClauses_l0_s]; simp only [impl_SelectClauses_l0_q N k_]; rfl
theorem impl_SelectClauses_v (N : Nat) (clauses : List (List Int)) (indices : List Int) :
    evFn Tb (sigL (impl_SelectClauses_es N)) cps (orcL (impl_SelectClauses_es N)) (drawReg Tb (sigL (impl_SelectClauses_es N)) cps (orcL (impl_SelectClauses_es N))) N impl_SelectClauses_an impl_SelectClauses_sg Try.f24 (Try.f24.body.getD .skip) [.val ty1 clauses, .val ty0 indices] (un1 ty1) = impl_SelectClauses_b N (impl_SelectClauses_l0_E N N) clauses indices := by kernel_rfl
noncomputable def impl_SelectClauses_e (N : Nat) : Entry Try.prog := ⟨24, impl_SelectClauses_sg, [.v ty1, .v ty0], List (List Int), impl_SelectClauses N, pk1 ty1, entry_en Try.func24 (code := Try.f24.body.getD .skip) (by kernel_rfl) (by kernel_rfl),
  fun clauses indices => entry_ok tab_ok (es := impl_SelectClauses_es N) (by kernel_rfl) mixed Try.func24 (by kernel_rfl) rfl (un1_pk ty1) (by rw [impl_SelectClauses_v, impl_SelectClauses_l0_q]; rfl)⟩
noncomputable def laws_eqIntS_es (N : Nat) : List (Entry Try.prog) := []
def laws_eqIntS_sg : Sig := ⟨[.val ty0, .val ty0], [(.bool, true)], false⟩
def laws_eqIntS_an : Nat → Option (List Nat)
  | 0 => some [0, 1, 5]
  | _ => none
noncomputable def laws_eqIntS_lp (N : Nat) (p : List Dir) (rs : List (Env → Option (Bool))) (k : Nat) (env : Env) : Option (Bool) :=
  loopAt Tb (sigL (laws_eqIntS_es N)) cps (orcL (laws_eqIntS_es N)) N laws_eqIntS_an p (Try.f26.body.getD .skip) (endK Tb laws_eqIntS_sg Try.f26 [] (un1 .bool)) rs k env
noncomputable def laws_eqIntS_l0_E (N : Nat) (k_ : Nat) (a2 : List Int) (b2 : List Int) (i : Int) : Option (Bool) :=
  laws_eqIntS_lp N [.r, .r, .l, .r, .b] [] k_ (.con .val [lf ty0 a2 .ro] :: (.con .val [lf ty0 b2 .ro] :: (un 3 (.con .val [lf i64 i .ro] :: (un 20 [])))))
theorem laws_eqIntS_l0_z (N : Nat) (a2 : List Int) (b2 : List Int) (i : Int) : laws_eqIntS_l0_E N 0 a2 b2 i = none := by kernel_rfl
theorem laws_eqIntS_l0_s (N : Nat) (k_ : Nat) (a2 : List Int) (b2 : List Int) (i : Int) : laws_eqIntS_l0_E N (k_ + 1) a2 b2 i = laws_eqIntS_l0_b N (laws_eqIntS_l0_E N k_) a2 b2 i := by kernel_rfl
theorem laws_eqIntS_l0_q (N : Nat) : ∀ k_, laws_eqIntS_l0_E N k_ = laws_eqIntS_l0 N k_
  | 0 => by funext a2 b2 i; exact laws_eqIntS_l0_z N a2 b2 i
  | k_ + 1 => by funext a2 b2 i; rw [laws_eqIntS_l0_s]; simp only [laws_eqIntS_l0_q N k_]; rfl
theorem laws_eqIntS_v (N : Nat) (a : List Int) (b : List Int) :
    evFn Tb (sigL (laws_eqIntS_es N)) cps (orcL (laws_eqIntS_es N)) (drawReg Tb (sigL (laws_eqIntS_es N)) cps (orcL (laws_eqIntS_es N))) N laws_eqIntS_an laws_eqIntS_sg Try.f26 (Try.f26.body.getD .skip) [.val ty0 a, .val ty0 b] (un1 .bool) = laws_eqIntS_b N (laws_eqIntS_l0_E N N) a b := by kernel_rfl
noncomputable def laws_eqIntS_e (N : Nat) : Entry Try.prog := ⟨26, laws_eqIntS_sg, [.v ty0, .v ty0], Bool, laws_eqIntS N, pk1 .bool, entry_en Try.func26 (code := Try.f26.body.getD .skip) (by kernel_rfl) (by kernel_rfl),
  fun a b => entry_ok tab_ok (es := laws_eqIntS_es N) (by kernel_rfl) mixed Try.func26 (by kernel_rfl) rfl (un1_pk .bool) (by rw [laws_eqIntS_v, laws_eqIntS_l0_q]; rfl)⟩
noncomputable def laws_eqIntSS_es (N : Nat) : List (Entry Try.prog) := [laws_eqIntS_e N]
def laws_eqIntSS_sg : Sig := ⟨[.val ty1, .val ty1], [(.bool, true)], false⟩
def laws_eqIntSS_an : Nat → Option (List Nat)
  | 0 => some [0, 1, 5]
  | _ => none
noncomputable def laws_eqIntSS_lp (N : Nat) (p : List Dir) (rs : List (Env → Option (Bool))) (k : Nat) (env : Env) : Option (Bool) :=
  loopAt Tb (sigL (laws_eqIntSS_es N)) cps (orcL (laws_eqIntSS_es N)) N laws_eqIntSS_an p (Try.f25.body.getD .skip) (endK Tb laws_eqIntSS_sg Try.f25 [] (un1 .bool)) rs k env
noncomputable def laws_eqIntSS_l0_E (N : Nat) (k_ : Nat) (a2 : List (List Int)) (b2 : List (List Int)) (i : Int) : Option (Bool) :=
  laws_eqIntSS_lp N [.r, .r, .l, .r, .b] [] k_ (.con .val [lf ty1 a2 .ro] :: (.con .val [lf ty1 b2 .ro] :: (un 3 (.con .val [lf i64 i .ro] :: (un 21 [])))))
theorem laws_eqIntSS_l0_z (N : Nat) (a2 : List (List Int)) (b2 : List (List Int)) (i : Int) : laws_eqIntSS_l0_E N 0 a2 b2 i = none := by kernel_rfl
theorem laws_eqIntSS_l0_s (N : Nat) (k_ : Nat) (a2 : List (List Int)) (b2 : List (List Int)) (i : Int) : laws_eqIntSS_l0_E N (k_ + 1) a2 b2 i = laws_eqIntSS_l0_b N (laws_eqIntSS_l0_E N k_) a2 b2 i := by kernel_rfl
theorem laws_eqIntSS_l0_q (N : Nat) : ∀ k_, laws_eqIntSS_l0_E N k_ = laws_eqIntSS_l0 N k_
  | 0 => by funext a2 b2 i; exact laws_eqIntSS_l0_z N a2 b2 i
  | k_ + 1 => by funext a2 b2 i; rw [laws_eqIntSS_l0_s]; simp only [laws_eqIntSS_l0_q N k_]; rfl
theorem laws_eqIntSS_v (N : Nat) (a : List (List Int)) (b : List (List Int)) :
    evFn Tb (sigL (laws_eqIntSS_es N)) cps (orcL (laws_eqIntSS_es N)) (drawReg Tb (sigL (laws_eqIntSS_es N)) cps (orcL (laws_eqIntSS_es N))) N laws_eqIntSS_an laws_eqIntSS_sg Try.f25 (Try.f25.body.getD .skip) [.val ty1 a, .val ty1 b] (un1 .bool) = laws_eqIntSS_b N (laws_eqIntSS_l0_E N N) a b := by kernel_rfl
noncomputable def laws_eqIntSS_e (N : Nat) : Entry Try.prog := ⟨25, laws_eqIntSS_sg, [.v ty1, .v ty1], Bool, laws_eqIntSS N, pk1 .bool, entry_en Try.func25 (code := Try.f25.body.getD .skip) (by kernel_rfl) (by kernel_rfl),
  fun a b => entry_ok tab_ok (es := laws_eqIntSS_es N) (by kernel_rfl) mixed Try.func25 (by kernel_rfl) rfl (un1_pk .bool) (by rw [laws_eqIntSS_v, laws_eqIntSS_l0_q]; rfl)⟩
noncomputable def laws_markIntS_es (N : Nat) : List (Entry Try.prog) := []
def laws_markIntS_sg : Sig := ⟨[.val ty0, .val i64], [(i64, true)], true⟩
def laws_markIntS_an : Nat → Option (List Nat)
  | 0 => some [0, 1, 5]
  | _ => none
noncomputable def laws_markIntS_lp (N : Nat) (p : List Dir) (rs : List (Env → Option (List Int × Int))) (k : Nat) (env : Env) : Option (List Int × Int) :=
  loopAt Tb (sigL (laws_markIntS_es N)) cps (orcL (laws_markIntS_es N)) N laws_markIntS_an p (Try.f28.body.getD .skip) (endK Tb laws_markIntS_sg Try.f28 [.val ty0 []] (un2 ty0 i64)) rs k env
noncomputable def laws_markIntS_l0_E (N : Nat) (k_ : Nat) (a2 : List Int) (k2 : Int) (i : Int) : Option (List Int × Int) :=
  laws_markIntS_lp N [.r, .l, .r, .b] [] k_ (.con .val [⟨ty0, a2, (.at_ (.pn 0))⟩] :: (.con .val [lf i64 k2 .ro] :: (un 3 (.con .val [lf i64 i .ro] :: (un 13 [])))))
theorem laws_markIntS_l0_z (N : Nat) (a2 : List Int) (k2 : Int) (i : Int) : laws_markIntS_l0_E N 0 a2 k2 i = none := by kernel_rfl
theorem laws_markIntS_l0_s (N : Nat) (k_ : Nat) (a2 : List Int) (k2 : Int) (i : Int) : laws_markIntS_l0_E N (k_ + 1) a2 k2 i = laws_markIntS_l0_b N (laws_markIntS_l0_E N k_) a2 k2 i := by kernel_rfl
theorem laws_markIntS_l0_q (N : Nat) : ∀ k_, laws_markIntS_l0_E N k_ = laws_markIntS_l0 N k_
  | 0 => by funext a2 k2 i; exact laws_markIntS_l0_z N a2 k2 i
  | k_ + 1 => by funext a2 k2 i; rw [laws_markIntS_l0_s]; simp only [laws_markIntS_l0_q N k_]; rfl
theorem laws_markIntS_v (N : Nat) (a : List Int) (k : Int) :
    evFn Tb (sigL (laws_markIntS_es N)) cps (orcL (laws_markIntS_es N)) (drawReg Tb (sigL (laws_markIntS_es N)) cps (orcL (laws_markIntS_es N))) N laws_markIntS_an laws_markIntS_sg Try.f28 (Try.f28.body.getD .skip) [.val ty0 a, .val i64 k] (un2 ty0 i64) = laws_markIntS_b N (laws_markIntS_l0_E N N) a k := by kernel_rfl
noncomputable def laws_markIntS_e (N : Nat) : Entry Try.prog := ⟨28, laws_markIntS_sg, [.v ty0, .v i64], List Int × Int, laws_markIntS N, pk2 ty0 i64, entry_en Try.func28 (code := Try.f28.body.getD .skip) (by kernel_rfl) (by kernel_rfl),
  fun a k => entry_okM tab_ok (es := laws_markIntS_es N) (by kernel_rfl) mixed Try.func28 (by kernel_rfl) rfl (fun _ => ⟨_, _, rfl⟩) (un2_pk ty0 i64) (by rw [laws_markIntS_v, laws_markIntS_l0_q]; rfl)⟩
noncomputable def laws_markIntSS_es (N : Nat) : List (Entry Try.prog) := [laws_markIntS_e N]
def laws_markIntSS_sg : Sig := ⟨[.val ty1, .val i64], [(i64, true)], true⟩
def laws_markIntSS_an : Nat → Option (List Nat)
  | 0 => some [0, 1, 5]
  | _ => none
noncomputable def laws_markIntSS_lp (N : Nat) (p : List Dir) (rs : List (Env → Option (List (List Int) × Int))) (k : Nat) (env : Env) : Option (List (List Int) × Int) :=
  loopAt Tb (sigL (laws_markIntSS_es N)) cps (orcL (laws_markIntSS_es N)) N laws_markIntSS_an p (Try.f27.body.getD .skip) (endK Tb laws_markIntSS_sg Try.f27 [.val ty1 []] (un2 ty1 i64)) rs k env
noncomputable def laws_markIntSS_l0_E (N : Nat) (k_ : Nat) (a2 : List (List Int)) (k2 : Int) (i : Int) : Option (List (List Int) × Int) :=
  laws_markIntSS_lp N [.r, .l, .r, .b] [] k_ (.con .val [⟨ty1, a2, (.at_ (.pn 0))⟩] :: (.con .val [lf i64 k2 .ro] :: (un 3 (.con .val [lf i64 i .ro] :: (un 13 [])))))
theorem laws_markIntSS_l0_z (N : Nat) (a2 : List (List Int)) (k2 : Int) (i : Int) : laws_markIntSS_l0_E N 0 a2 k2 i = none := by kernel_rfl
theorem laws_markIntSS_l0_s (N : Nat) (k_ : Nat) (a2 : List (List Int)) (k2 : Int) (i : Int) : laws_markIntSS_l0_E N (k_ + 1) a2 k2 i = laws_markIntSS_l0_b N (laws_markIntSS_l0_E N k_) a2 k2 i := by kernel_rfl
theorem laws_markIntSS_l0_q (N : Nat) : ∀ k_, laws_markIntSS_l0_E N k_ = laws_markIntSS_l0 N k_
  | 0 => by funext a2 k2 i; exact laws_markIntSS_l0_z N a2 k2 i
  | k_ + 1 => by funext a2 k2 i; rw [laws_markIntSS_l0_s]; simp only [laws_markIntSS_l0_q N k_]; rfl
theorem laws_markIntSS_v (N : Nat) (a : List (List Int)) (k : Int) :
    evFn Tb (sigL (laws_markIntSS_es N)) cps (orcL (laws_markIntSS_es N)) (drawReg Tb (sigL (laws_markIntSS_es N)) cps (orcL (laws_markIntSS_es N))) N laws_markIntSS_an laws_markIntSS_sg Try.f27 (Try.f27.body.getD .skip) [.val ty1 a, .val i64 k] (un2 ty1 i64) = laws_markIntSS_b N (laws_markIntSS_l0_E N N) a k := by kernel_rfl
noncomputable def laws_markIntSS_e (N : Nat) : Entry Try.prog := ⟨27, laws_markIntSS_sg, [.v ty1, .v i64], List (List Int) × Int, laws_markIntSS N, pk2 ty1 i64, entry_en Try.func27 (code := Try.f27.body.getD .skip) (by kernel_rfl) (by kernel_rfl),
  fun a k => entry_okM tab_ok (es := laws_markIntSS_es N) (by kernel_rfl) mixed Try.func27 (by kernel_rfl) rfl (fun _ => ⟨_, _, rfl⟩) (un2_pk ty1 i64) (by rw [laws_markIntSS_v, laws_markIntSS_l0_q]; rfl)⟩
noncomputable def laws_heldIntS_es (N : Nat) : List (Entry Try.prog) := []
def laws_heldIntS_sg : Sig := ⟨[.val ty0, .val i64], [(i64, true)], false⟩
def laws_heldIntS_an : Nat → Option (List Nat)
  | 0 => some [0, 1, 5]
  | _ => none
noncomputable def laws_heldIntS_lp (N : Nat) (p : List Dir) (rs : List (Env → Option (Int))) (k : Nat) (env : Env) : Option (Int) :=
  loopAt Tb (sigL (laws_heldIntS_es N)) cps (orcL (laws_heldIntS_es N)) N laws_heldIntS_an p (Try.f37.body.getD .skip) (endK Tb laws_heldIntS_sg Try.f37 [] (un1 i64)) rs k env
noncomputable def laws_heldIntS_l0_E (N : Nat) (k_ : Nat) (a2 : List Int) (k2 : Int) (i : Int) : Option (Int) :=
  laws_heldIntS_lp N [.r, .l, .r, .b] [] k_ (.con .val [lf ty0 a2 .ro] :: (.con .val [lf i64 k2 .ro] :: (un 3 (.con .val [lf i64 i .ro] :: (un 15 [])))))
theorem laws_heldIntS_l0_z (N : Nat) (a2 : List Int) (k2 : Int) (i : Int) : laws_heldIntS_l0_E N 0 a2 k2 i = none := by kernel_rfl
theorem laws_heldIntS_l0_s (N : Nat) (k_ : Nat) (a2 : List Int) (k2 : Int) (i : Int) : laws_heldIntS_l0_E N (k_ + 1) a2 k2 i = laws_heldIntS_l0_b N (laws_heldIntS_l0_E N k_) a2 k2 i := by kernel_rfl
theorem laws_heldIntS_l0_q (N : Nat) : ∀ k_, laws_heldIntS_l0_E N k_ = laws_heldIntS_l0 N k_
  | 0 => by funext a2 k2 i; exact laws_heldIntS_l0_z N a2 k2 i
  | k_ + 1 => by funext a2 k2 i; rw [laws_heldIntS_l0_s]; simp only [laws_heldIntS_l0_q N k_]; rfl
theorem laws_heldIntS_v (N : Nat) (a : List Int) (k : Int) :
    evFn Tb (sigL (laws_heldIntS_es N)) cps (orcL (laws_heldIntS_es N)) (drawReg Tb (sigL (laws_heldIntS_es N)) cps (orcL (laws_heldIntS_es N))) N laws_heldIntS_an laws_heldIntS_sg Try.f37 (Try.f37.body.getD .skip) [.val ty0 a, .val i64 k] (un1 i64) = laws_heldIntS_b N (laws_heldIntS_l0_E N N) a k := by kernel_rfl
noncomputable def laws_heldIntS_e (N : Nat) : Entry Try.prog := ⟨37, laws_heldIntS_sg, [.v ty0, .v i64], Int, laws_heldIntS N, pk1 i64, entry_en Try.func37 (code := Try.f37.body.getD .skip) (by kernel_rfl) (by kernel_rfl),
  fun a k => entry_ok tab_ok (es := laws_heldIntS_es N) (by kernel_rfl) mixed Try.func37 (by kernel_rfl) rfl (un1_pk i64) (by rw [laws_heldIntS_v, laws_heldIntS_l0_q]; rfl)⟩
noncomputable def laws_heldIntSS_es (N : Nat) : List (Entry Try.prog) := [laws_heldIntS_e N]
def laws_heldIntSS_sg : Sig := ⟨[.val ty1, .val i64], [(i64, true)], false⟩
def laws_heldIntSS_an : Nat → Option (List Nat)
  | 0 => some [0, 1, 5]
  | _ => none
noncomputable def laws_heldIntSS_lp (N : Nat) (p : List Dir) (rs : List (Env → Option (Int))) (k : Nat) (env : Env) : Option (Int) :=
  loopAt Tb (sigL (laws_heldIntSS_es N)) cps (orcL (laws_heldIntSS_es N)) N laws_heldIntSS_an p (Try.f29.body.getD .skip) (endK Tb laws_heldIntSS_sg Try.f29 [] (un1 i64)) rs k env
noncomputable def laws_heldIntSS_l0_E (N : Nat) (k_ : Nat) (a2 : List (List Int)) (k2 : Int) (i : Int) : Option (Int) :=
  laws_heldIntSS_lp N [.r, .l, .r, .b] [] k_ (.con .val [lf ty1 a2 .ro] :: (.con .val [lf i64 k2 .ro] :: (un 3 (.con .val [lf i64 i .ro] :: (un 15 [])))))
theorem laws_heldIntSS_l0_z (N : Nat) (a2 : List (List Int)) (k2 : Int) (i : Int) : laws_heldIntSS_l0_E N 0 a2 k2 i = none := by kernel_rfl
theorem laws_heldIntSS_l0_s (N : Nat) (k_ : Nat) (a2 : List (List Int)) (k2 : Int) (i : Int) : laws_heldIntSS_l0_E N (k_ + 1) a2 k2 i = laws_heldIntSS_l0_b N (laws_heldIntSS_l0_E N k_) a2 k2 i := by kernel_rfl
theorem laws_heldIntSS_l0_q (N : Nat) : ∀ k_, laws_heldIntSS_l0_E N k_ = laws_heldIntSS_l0 N k_
  | 0 => by funext a2 k2 i; exact laws_heldIntSS_l0_z N a2 k2 i
  | k_ + 1 => by funext a2 k2 i; rw [laws_heldIntSS_l0_s]; simp only [laws_heldIntSS_l0_q N k_]; rfl
theorem laws_heldIntSS_v (N : Nat) (a : List (List Int)) (k : Int) :
    evFn Tb (sigL (laws_heldIntSS_es N)) cps (orcL (laws_heldIntSS_es N)) (drawReg Tb (sigL (laws_heldIntSS_es N)) cps (orcL (laws_heldIntSS_es N))) N laws_heldIntSS_an laws_heldIntSS_sg Try.f29 (Try.f29.body.getD .skip) [.val ty1 a, .val i64 k] (un1 i64) = laws_heldIntSS_b N (laws_heldIntSS_l0_E N N) a k := by kernel_rfl
noncomputable def laws_heldIntSS_e (N : Nat) : Entry Try.prog := ⟨29, laws_heldIntSS_sg, [.v ty1, .v i64], Int, laws_heldIntSS N, pk1 i64, entry_en Try.func29 (code := Try.f29.body.getD .skip) (by kernel_rfl) (by kernel_rfl),
  fun a k => entry_ok tab_ok (es := laws_heldIntSS_es N) (by kernel_rfl) mixed Try.func29 (by kernel_rfl) rfl (un1_pk i64) (by rw [laws_heldIntSS_v, laws_heldIntSS_l0_q]; rfl)⟩
noncomputable def laws_FnExactSelectClauses_es (N : Nat) : List (Entry Try.prog) := [laws_szIntSS_e N, laws_toIntSS_e N, laws_toIntS_e N, spec_SelectClauses_e N, impl_SelectClauses_e N, laws_eqIntSS_e N, laws_eqIntS_e N, laws_markIntSS_e N, laws_markIntS_e N, laws_heldIntSS_e N]
def laws_FnExactSelectClauses_sg : Sig := ⟨[.val ty1, .val ty0], [(.bool, true)], false⟩
def laws_FnExactSelectClauses_an : Nat → Option (List Nat) := fun _ => none
theorem laws_FnExactSelectClauses_v (N : Nat) (aClauses : List (List Int)) (aIndices : List Int) :
    evFn Tb (sigL (laws_FnExactSelectClauses_es N)) cps (orcL (laws_FnExactSelectClauses_es N)) (drawReg Tb (sigL (laws_FnExactSelectClauses_es N)) cps (orcL (laws_FnExactSelectClauses_es N))) N laws_FnExactSelectClauses_an laws_FnExactSelectClauses_sg Try.f4 (Try.f4.body.getD .skip) [.val ty1 aClauses, .val ty0 aIndices] (un1 .bool) = laws_FnExactSelectClauses N aClauses aIndices := by kernel_rfl
noncomputable def laws_FnExactSelectClauses_e (N : Nat) : Entry Try.prog := ⟨4, laws_FnExactSelectClauses_sg, [.v ty1, .v ty0], Bool, laws_FnExactSelectClauses N, pk1 .bool, entry_en Try.func4 (code := Try.f4.body.getD .skip) (by kernel_rfl) (by kernel_rfl),
  fun aClauses aIndices => entry_ok tab_ok (es := laws_FnExactSelectClauses_es N) (by kernel_rfl) mixed Try.func4 (by kernel_rfl) rfl (un1_pk .bool) (laws_FnExactSelectClauses_v N aClauses aIndices)⟩
end Go.PL
