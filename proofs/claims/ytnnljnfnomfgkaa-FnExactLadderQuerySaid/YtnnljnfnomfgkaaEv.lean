/- What the machine does at each function is what the plain reading says. Conditions: none. -/
import Derived.Test.YtnnljnfnomfgkaaFpD
import Derived.Test.YtnnljnfnomfgkaaPlain
import Derived.Test.YtnnljnfnomfgkaaProg

/- What the machine does is what the plain reading says. Conditions: none. -/
namespace Go.PL
open Go.FP Go.Proofs
set_option linter.unusedVariables false
set_option maxRecDepth 10000

abbrev i64 : Ty := .int .i64
abbrev ty0 : Ty := (.pair i64 (.pair (.slice 76 (.pair i64 (.slice 3 i64))) (.slice 3 i64)))
abbrev ty1 : Ty := (.slice 3 i64)
abbrev ty2 : Ty := (.pair i64 (.slice 3 i64))
abbrev ty3 : Ty := (.slice 76 (.pair i64 (.slice 3 i64)))
def Tb : Tab := [⟨3, i64, 8, []⟩,
  ⟨4, .bool, 1, []⟩,
  ⟨22, ty3, 24, []⟩,
  ⟨23, ty1, 24, []⟩,
  ⟨25, ty0, 56, [(0, 3), (1, 22), (2, 23)]⟩,
  ⟨76, ty2, 32, [(0, 3), (1, 23)]⟩]
theorem tab_ok : TabOk Try.prog Tb :=
  (tab_cons (TEOk.plain (i := Try.t3) (by kernel_rfl) rfl rfl (by kernel_rfl) rfl Try.underlying3)
  (tab_cons (TEOk.plain (i := Try.t4) (by kernel_rfl) rfl rfl (by kernel_rfl) rfl Try.underlying4)
  (tab_cons (TEOk.plain (i := Try.t22) (by kernel_rfl) rfl rfl (by kernel_rfl) rfl Try.underlying22)
  (tab_cons (TEOk.plain (i := Try.t23) (by kernel_rfl) rfl rfl (by kernel_rfl) rfl Try.underlying23)
  (tab_cons (TEOk.struct (i := Try.t25) (pl := [(0, 1), (1, 1), (2, 1)]) (by kernel_rfl) rfl rfl (by kernel_rfl) Try.underlying25 (by kernel_rfl) (by kernel_rfl) rfl)
  (tab_cons (TEOk.struct (i := Try.t76) (pl := [(0, 1), (1, 1)]) (by kernel_rfl) rfl rfl (by kernel_rfl) Try.underlying76 (by kernel_rfl) (by kernel_rfl) rfl)
  tab_nil))))))
theorem mixed : Try.prog.follows .mixedOrders = true := by decide
def cps : FuncId → List Ty := capsL []

noncomputable def spec_LadderQuery_es (N : Nat) : List (Entry Try.prog) := []
def spec_LadderQuery_sg : Sig := ⟨[], [(ty0, true)], false⟩
def spec_LadderQuery_an : Nat → Option (List Nat) := fun _ => none
theorem spec_LadderQuery_v (N : Nat) :
    evFn Tb (sigL (spec_LadderQuery_es N)) cps (orcL (spec_LadderQuery_es N)) (drawReg Tb (sigL (spec_LadderQuery_es N)) cps (orcL (spec_LadderQuery_es N))) N spec_LadderQuery_an spec_LadderQuery_sg Try.f15 (Try.f15.body.getD .skip) [] (un1 ty0) = spec_LadderQuery N := by kernel_rfl
noncomputable def spec_LadderQuery_e (N : Nat) : Entry Try.prog := ⟨15, spec_LadderQuery_sg, [], Int × List (Int × List Int) × List Int, spec_LadderQuery N, pk1 ty0, entry_en Try.func15 (code := Try.f15.body.getD .skip) (by kernel_rfl) (by kernel_rfl),
  entry_ok tab_ok (es := spec_LadderQuery_es N) (by kernel_rfl) mixed Try.func15 (by kernel_rfl) rfl (un1_pk ty0) (spec_LadderQuery_v N)⟩
noncomputable def impl_LadderQuery_es (N : Nat) : List (Entry Try.prog) := []
def impl_LadderQuery_sg : Sig := ⟨[], [(ty0, true)], false⟩
def impl_LadderQuery_an : Nat → Option (List Nat) := fun _ => none
theorem impl_LadderQuery_v (N : Nat) :
    evFn Tb (sigL (impl_LadderQuery_es N)) cps (orcL (impl_LadderQuery_es N)) (drawReg Tb (sigL (impl_LadderQuery_es N)) cps (orcL (impl_LadderQuery_es N))) N impl_LadderQuery_an impl_LadderQuery_sg Try.f16 (Try.f16.body.getD .skip) [] (un1 ty0) = impl_LadderQuery N := by kernel_rfl
noncomputable def impl_LadderQuery_e (N : Nat) : Entry Try.prog := ⟨16, impl_LadderQuery_sg, [], Int × List (Int × List Int) × List Int, impl_LadderQuery N, pk1 ty0, entry_en Try.func16 (code := Try.f16.body.getD .skip) (by kernel_rfl) (by kernel_rfl),
  entry_ok tab_ok (es := impl_LadderQuery_es N) (by kernel_rfl) mixed Try.func16 (by kernel_rfl) rfl (un1_pk ty0) (impl_LadderQuery_v N)⟩
noncomputable def laws_eqIntS_es (N : Nat) : List (Entry Try.prog) := []
def laws_eqIntS_sg : Sig := ⟨[.val ty1, .val ty1], [(.bool, true)], false⟩
def laws_eqIntS_an : Nat → Option (List Nat)
  | 0 => some [0, 1, 5]
  | _ => none
noncomputable def laws_eqIntS_lp (N : Nat) (p : List Dir) (rs : List (Env → Option (Bool))) (k : Nat) (env : Env) : Option (Bool) :=
  loopAt Tb (sigL (laws_eqIntS_es N)) cps (orcL (laws_eqIntS_es N)) N laws_eqIntS_an p (Try.f26.body.getD .skip) (endK Tb laws_eqIntS_sg Try.f26 [] (un1 .bool)) rs k env
noncomputable def laws_eqIntS_l0_E (N : Nat) (k_ : Nat) (a2 : List Int) (b2 : List Int) (i : Int) : Option (Bool) :=
  laws_eqIntS_lp N [.r, .r, .l, .r, .b] [] k_ (.con .val [lf ty1 a2 .ro] :: (.con .val [lf ty1 b2 .ro] :: (un 3 (.con .val [lf i64 i .ro] :: (un 20 [])))))
theorem laws_eqIntS_l0_z (N : Nat) (a2 : List Int) (b2 : List Int) (i : Int) : laws_eqIntS_l0_E N 0 a2 b2 i = none := by kernel_rfl
theorem laws_eqIntS_l0_s (N : Nat) (k_ : Nat) (a2 : List Int) (b2 : List Int) (i : Int) : laws_eqIntS_l0_E N (k_ + 1) a2 b2 i = laws_eqIntS_l0_b N (laws_eqIntS_l0_E N k_) a2 b2 i := by kernel_rfl
theorem laws_eqIntS_l0_q (N : Nat) : ∀ k_, laws_eqIntS_l0_E N k_ = laws_eqIntS_l0 N k_
  | 0 => by funext a2 b2 i; exact laws_eqIntS_l0_z N a2 b2 i
  | k_ + 1 => by funext a2 b2 i; rw [laws_eqIntS_l0_s]; simp only [laws_eqIntS_l0_q N k_]; rfl
theorem laws_eqIntS_v (N : Nat) (a : List Int) (b : List Int) :
    evFn Tb (sigL (laws_eqIntS_es N)) cps (orcL (laws_eqIntS_es N)) (drawReg Tb (sigL (laws_eqIntS_es N)) cps (orcL (laws_eqIntS_es N))) N laws_eqIntS_an laws_eqIntS_sg Try.f26 (Try.f26.body.getD .skip) [.val ty1 a, .val ty1 b] (un1 .bool) = laws_eqIntS_b N (laws_eqIntS_l0_E N N) a b := by kernel_rfl
noncomputable def laws_eqIntS_e (N : Nat) : Entry Try.prog := ⟨26, laws_eqIntS_sg, [.v ty1, .v ty1], Bool, laws_eqIntS N, pk1 .bool, entry_en Try.func26 (code := Try.f26.body.getD .skip) (by kernel_rfl) (by kernel_rfl),
  fun a b => entry_ok tab_ok (es := laws_eqIntS_es N) (by kernel_rfl) mixed Try.func26 (by kernel_rfl) rfl (un1_pk .bool) (by rw [laws_eqIntS_v, laws_eqIntS_l0_q]; rfl)⟩
noncomputable def laws_eqAtom_es (N : Nat) : List (Entry Try.prog) := [laws_eqIntS_e N]
def laws_eqAtom_sg : Sig := ⟨[.val ty2, .val ty2], [(.bool, true)], false⟩
def laws_eqAtom_an : Nat → Option (List Nat) := fun _ => none
theorem laws_eqAtom_v (N : Nat) (a : Int × List Int) (b : Int × List Int) :
    evFn Tb (sigL (laws_eqAtom_es N)) cps (orcL (laws_eqAtom_es N)) (drawReg Tb (sigL (laws_eqAtom_es N)) cps (orcL (laws_eqAtom_es N))) N laws_eqAtom_an laws_eqAtom_sg Try.f107 (Try.f107.body.getD .skip) [.val ty2 a, .val ty2 b] (un1 .bool) = laws_eqAtom N a b := by kernel_rfl
noncomputable def laws_eqAtom_e (N : Nat) : Entry Try.prog := ⟨107, laws_eqAtom_sg, [.v ty2, .v ty2], Bool, laws_eqAtom N, pk1 .bool, entry_en Try.func107 (code := Try.f107.body.getD .skip) (by kernel_rfl) (by kernel_rfl),
  fun a b => entry_ok tab_ok (es := laws_eqAtom_es N) (by kernel_rfl) mixed Try.func107 (by kernel_rfl) rfl (un1_pk .bool) (laws_eqAtom_v N a b)⟩
noncomputable def laws_eqAtomS_es (N : Nat) : List (Entry Try.prog) := [laws_eqAtom_e N]
def laws_eqAtomS_sg : Sig := ⟨[.val ty3, .val ty3], [(.bool, true)], false⟩
def laws_eqAtomS_an : Nat → Option (List Nat)
  | 0 => some [0, 1, 5]
  | _ => none
noncomputable def laws_eqAtomS_lp (N : Nat) (p : List Dir) (rs : List (Env → Option (Bool))) (k : Nat) (env : Env) : Option (Bool) :=
  loopAt Tb (sigL (laws_eqAtomS_es N)) cps (orcL (laws_eqAtomS_es N)) N laws_eqAtomS_an p (Try.f58.body.getD .skip) (endK Tb laws_eqAtomS_sg Try.f58 [] (un1 .bool)) rs k env
noncomputable def laws_eqAtomS_l0_E (N : Nat) (k_ : Nat) (a2 : List (Int × List Int)) (b2 : List (Int × List Int)) (i : Int) : Option (Bool) :=
  laws_eqAtomS_lp N [.r, .r, .l, .r, .b] [] k_ (.con .val [lf ty3 a2 .ro] :: (.con .val [lf ty3 b2 .ro] :: (un 3 (.con .val [lf i64 i .ro] :: (un 21 [])))))
theorem laws_eqAtomS_l0_z (N : Nat) (a2 : List (Int × List Int)) (b2 : List (Int × List Int)) (i : Int) : laws_eqAtomS_l0_E N 0 a2 b2 i = none := by kernel_rfl
theorem laws_eqAtomS_l0_s (N : Nat) (k_ : Nat) (a2 : List (Int × List Int)) (b2 : List (Int × List Int)) (i : Int) : laws_eqAtomS_l0_E N (k_ + 1) a2 b2 i = laws_eqAtomS_l0_b N (laws_eqAtomS_l0_E N k_) a2 b2 i := by kernel_rfl
theorem laws_eqAtomS_l0_q (N : Nat) : ∀ k_, laws_eqAtomS_l0_E N k_ = laws_eqAtomS_l0 N k_
  | 0 => by funext a2 b2 i; exact laws_eqAtomS_l0_z N a2 b2 i
  | k_ + 1 => by funext a2 b2 i; rw [laws_eqAtomS_l0_s]; simp only [laws_eqAtomS_l0_q N k_]; rfl
theorem laws_eqAtomS_v (N : Nat) (a : List (Int × List Int)) (b : List (Int × List Int)) :
    evFn Tb (sigL (laws_eqAtomS_es N)) cps (orcL (laws_eqAtomS_es N)) (drawReg Tb (sigL (laws_eqAtomS_es N)) cps (orcL (laws_eqAtomS_es N))) N laws_eqAtomS_an laws_eqAtomS_sg Try.f58 (Try.f58.body.getD .skip) [.val ty3 a, .val ty3 b] (un1 .bool) = laws_eqAtomS_b N (laws_eqAtomS_l0_E N N) a b := by kernel_rfl
noncomputable def laws_eqAtomS_e (N : Nat) : Entry Try.prog := ⟨58, laws_eqAtomS_sg, [.v ty3, .v ty3], Bool, laws_eqAtomS N, pk1 .bool, entry_en Try.func58 (code := Try.f58.body.getD .skip) (by kernel_rfl) (by kernel_rfl),
  fun a b => entry_ok tab_ok (es := laws_eqAtomS_es N) (by kernel_rfl) mixed Try.func58 (by kernel_rfl) rfl (un1_pk .bool) (by rw [laws_eqAtomS_v, laws_eqAtomS_l0_q]; rfl)⟩
noncomputable def laws_eqQuery_es (N : Nat) : List (Entry Try.prog) := [laws_eqAtomS_e N, laws_eqIntS_e N]
def laws_eqQuery_sg : Sig := ⟨[.val ty0, .val ty0], [(.bool, true)], false⟩
def laws_eqQuery_an : Nat → Option (List Nat) := fun _ => none
theorem laws_eqQuery_v (N : Nat) (a : Int × List (Int × List Int) × List Int) (b : Int × List (Int × List Int) × List Int) :
    evFn Tb (sigL (laws_eqQuery_es N)) cps (orcL (laws_eqQuery_es N)) (drawReg Tb (sigL (laws_eqQuery_es N)) cps (orcL (laws_eqQuery_es N))) N laws_eqQuery_an laws_eqQuery_sg Try.f17 (Try.f17.body.getD .skip) [.val ty0 a, .val ty0 b] (un1 .bool) = laws_eqQuery N a b := by kernel_rfl
noncomputable def laws_eqQuery_e (N : Nat) : Entry Try.prog := ⟨17, laws_eqQuery_sg, [.v ty0, .v ty0], Bool, laws_eqQuery N, pk1 .bool, entry_en Try.func17 (code := Try.f17.body.getD .skip) (by kernel_rfl) (by kernel_rfl),
  fun a b => entry_ok tab_ok (es := laws_eqQuery_es N) (by kernel_rfl) mixed Try.func17 (by kernel_rfl) rfl (un1_pk .bool) (laws_eqQuery_v N a b)⟩
noncomputable def laws_markIntS_es (N : Nat) : List (Entry Try.prog) := []
def laws_markIntS_sg : Sig := ⟨[.val ty1, .val i64], [(i64, true)], true⟩
def laws_markIntS_an : Nat → Option (List Nat)
  | 0 => some [0, 1, 5]
  | _ => none
noncomputable def laws_markIntS_lp (N : Nat) (p : List Dir) (rs : List (Env → Option (List Int × Int))) (k : Nat) (env : Env) : Option (List Int × Int) :=
  loopAt Tb (sigL (laws_markIntS_es N)) cps (orcL (laws_markIntS_es N)) N laws_markIntS_an p (Try.f28.body.getD .skip) (endK Tb laws_markIntS_sg Try.f28 [.val ty1 []] (un2 ty1 i64)) rs k env
noncomputable def laws_markIntS_l0_E (N : Nat) (k_ : Nat) (a2 : List Int) (k2 : Int) (i : Int) : Option (List Int × Int) :=
  laws_markIntS_lp N [.r, .l, .r, .b] [] k_ (.con .val [⟨ty1, a2, (.at_ (.pn 0))⟩] :: (.con .val [lf i64 k2 .ro] :: (un 3 (.con .val [lf i64 i .ro] :: (un 13 [])))))
theorem laws_markIntS_l0_z (N : Nat) (a2 : List Int) (k2 : Int) (i : Int) : laws_markIntS_l0_E N 0 a2 k2 i = none := by kernel_rfl
theorem laws_markIntS_l0_s (N : Nat) (k_ : Nat) (a2 : List Int) (k2 : Int) (i : Int) : laws_markIntS_l0_E N (k_ + 1) a2 k2 i = laws_markIntS_l0_b N (laws_markIntS_l0_E N k_) a2 k2 i := by kernel_rfl
theorem laws_markIntS_l0_q (N : Nat) : ∀ k_, laws_markIntS_l0_E N k_ = laws_markIntS_l0 N k_
  | 0 => by funext a2 k2 i; exact laws_markIntS_l0_z N a2 k2 i
  | k_ + 1 => by funext a2 k2 i; rw [laws_markIntS_l0_s]; simp only [laws_markIntS_l0_q N k_]; rfl
theorem laws_markIntS_v (N : Nat) (a : List Int) (k : Int) :
    evFn Tb (sigL (laws_markIntS_es N)) cps (orcL (laws_markIntS_es N)) (drawReg Tb (sigL (laws_markIntS_es N)) cps (orcL (laws_markIntS_es N))) N laws_markIntS_an laws_markIntS_sg Try.f28 (Try.f28.body.getD .skip) [.val ty1 a, .val i64 k] (un2 ty1 i64) = laws_markIntS_b N (laws_markIntS_l0_E N N) a k := by kernel_rfl
noncomputable def laws_markIntS_e (N : Nat) : Entry Try.prog := ⟨28, laws_markIntS_sg, [.v ty1, .v i64], List Int × Int, laws_markIntS N, pk2 ty1 i64, entry_en Try.func28 (code := Try.f28.body.getD .skip) (by kernel_rfl) (by kernel_rfl),
  fun a k => entry_okM tab_ok (es := laws_markIntS_es N) (by kernel_rfl) mixed Try.func28 (by kernel_rfl) rfl (fun _ => ⟨_, _, rfl⟩) (un2_pk ty1 i64) (by rw [laws_markIntS_v, laws_markIntS_l0_q]; rfl)⟩
noncomputable def laws_markAtomS_es (N : Nat) : List (Entry Try.prog) := [laws_markIntS_e N]
def laws_markAtomS_sg : Sig := ⟨[.val ty3, .val i64], [(i64, true)], true⟩
def laws_markAtomS_an : Nat → Option (List Nat)
  | 0 => some [0, 1, 5]
  | _ => none
noncomputable def laws_markAtomS_lp (N : Nat) (p : List Dir) (rs : List (Env → Option ((List (Int × List Int)) × Int))) (k : Nat) (env : Env) : Option ((List (Int × List Int)) × Int) :=
  loopAt Tb (sigL (laws_markAtomS_es N)) cps (orcL (laws_markAtomS_es N)) N laws_markAtomS_an p (Try.f59.body.getD .skip) (endK Tb laws_markAtomS_sg Try.f59 [.val ty3 []] (un2 ty3 i64)) rs k env
noncomputable def laws_markAtomS_l0_E (N : Nat) (k_ : Nat) (a2 : List (Int × List Int)) (k2 : Int) (i : Int) : Option ((List (Int × List Int)) × Int) :=
  laws_markAtomS_lp N [.r, .l, .r, .b] [] k_ (.con .val [⟨ty3, a2, (.at_ (.pn 0))⟩] :: (.con .val [lf i64 k2 .ro] :: (un 3 (.con .val [lf i64 i .ro] :: (un 21 [])))))
theorem laws_markAtomS_l0_z (N : Nat) (a2 : List (Int × List Int)) (k2 : Int) (i : Int) : laws_markAtomS_l0_E N 0 a2 k2 i = none := by kernel_rfl
theorem laws_markAtomS_l0_s (N : Nat) (k_ : Nat) (a2 : List (Int × List Int)) (k2 : Int) (i : Int) : laws_markAtomS_l0_E N (k_ + 1) a2 k2 i = laws_markAtomS_l0_b N (laws_markAtomS_l0_E N k_) a2 k2 i := by kernel_rfl
theorem laws_markAtomS_l0_q (N : Nat) : ∀ k_, laws_markAtomS_l0_E N k_ = laws_markAtomS_l0 N k_
  | 0 => by funext a2 k2 i; exact laws_markAtomS_l0_z N a2 k2 i
  | k_ + 1 => by funext a2 k2 i; rw [laws_markAtomS_l0_s]; simp only [laws_markAtomS_l0_q N k_]; rfl
theorem laws_markAtomS_v (N : Nat) (a : List (Int × List Int)) (k : Int) :
    evFn Tb (sigL (laws_markAtomS_es N)) cps (orcL (laws_markAtomS_es N)) (drawReg Tb (sigL (laws_markAtomS_es N)) cps (orcL (laws_markAtomS_es N))) N laws_markAtomS_an laws_markAtomS_sg Try.f59 (Try.f59.body.getD .skip) [.val ty3 a, .val i64 k] (un2 ty3 i64) = laws_markAtomS_b N (laws_markAtomS_l0_E N N) a k := by kernel_rfl
noncomputable def laws_markAtomS_e (N : Nat) : Entry Try.prog := ⟨59, laws_markAtomS_sg, [.v ty3, .v i64], (List (Int × List Int)) × Int, laws_markAtomS N, pk2 ty3 i64, entry_en Try.func59 (code := Try.f59.body.getD .skip) (by kernel_rfl) (by kernel_rfl),
  fun a k => entry_okM tab_ok (es := laws_markAtomS_es N) (by kernel_rfl) mixed Try.func59 (by kernel_rfl) rfl (fun _ => ⟨_, _, rfl⟩) (un2_pk ty3 i64) (by rw [laws_markAtomS_v, laws_markAtomS_l0_q]; rfl)⟩
noncomputable def laws_markQuery_es (N : Nat) : List (Entry Try.prog) := [laws_markAtomS_e N, laws_markIntS_e N]
def laws_markQuery_sg : Sig := ⟨[.val ty0, .val i64], [(i64, true)], true⟩
def laws_markQuery_an : Nat → Option (List Nat) := fun _ => none
theorem laws_markQuery_v (N : Nat) (a : Int × List (Int × List Int) × List Int) (k : Int) :
    evFn Tb (sigL (laws_markQuery_es N)) cps (orcL (laws_markQuery_es N)) (drawReg Tb (sigL (laws_markQuery_es N)) cps (orcL (laws_markQuery_es N))) N laws_markQuery_an laws_markQuery_sg Try.f18 (Try.f18.body.getD .skip) [.val ty0 a, .val i64 k] (un2 ty0 i64) = laws_markQuery N a k := by kernel_rfl
noncomputable def laws_markQuery_e (N : Nat) : Entry Try.prog := ⟨18, laws_markQuery_sg, [.v ty0, .v i64], (Int × List (Int × List Int) × List Int) × Int, laws_markQuery N, pk2 ty0 i64, entry_en Try.func18 (code := Try.f18.body.getD .skip) (by kernel_rfl) (by kernel_rfl),
  fun a k => entry_okM tab_ok (es := laws_markQuery_es N) (by kernel_rfl) mixed Try.func18 (by kernel_rfl) rfl (fun _ => ⟨_, _, rfl⟩) (un2_pk ty0 i64) (laws_markQuery_v N a k)⟩
noncomputable def laws_heldIntS_es (N : Nat) : List (Entry Try.prog) := []
def laws_heldIntS_sg : Sig := ⟨[.val ty1, .val i64], [(i64, true)], false⟩
def laws_heldIntS_an : Nat → Option (List Nat)
  | 0 => some [0, 1, 5]
  | _ => none
noncomputable def laws_heldIntS_lp (N : Nat) (p : List Dir) (rs : List (Env → Option (Int))) (k : Nat) (env : Env) : Option (Int) :=
  loopAt Tb (sigL (laws_heldIntS_es N)) cps (orcL (laws_heldIntS_es N)) N laws_heldIntS_an p (Try.f37.body.getD .skip) (endK Tb laws_heldIntS_sg Try.f37 [] (un1 i64)) rs k env
noncomputable def laws_heldIntS_l0_E (N : Nat) (k_ : Nat) (a2 : List Int) (k2 : Int) (i : Int) : Option (Int) :=
  laws_heldIntS_lp N [.r, .l, .r, .b] [] k_ (.con .val [lf ty1 a2 .ro] :: (.con .val [lf i64 k2 .ro] :: (un 3 (.con .val [lf i64 i .ro] :: (un 15 [])))))
theorem laws_heldIntS_l0_z (N : Nat) (a2 : List Int) (k2 : Int) (i : Int) : laws_heldIntS_l0_E N 0 a2 k2 i = none := by kernel_rfl
theorem laws_heldIntS_l0_s (N : Nat) (k_ : Nat) (a2 : List Int) (k2 : Int) (i : Int) : laws_heldIntS_l0_E N (k_ + 1) a2 k2 i = laws_heldIntS_l0_b N (laws_heldIntS_l0_E N k_) a2 k2 i := by kernel_rfl
theorem laws_heldIntS_l0_q (N : Nat) : ∀ k_, laws_heldIntS_l0_E N k_ = laws_heldIntS_l0 N k_
  | 0 => by funext a2 k2 i; exact laws_heldIntS_l0_z N a2 k2 i
  | k_ + 1 => by funext a2 k2 i; rw [laws_heldIntS_l0_s]; simp only [laws_heldIntS_l0_q N k_]; rfl
theorem laws_heldIntS_v (N : Nat) (a : List Int) (k : Int) :
    evFn Tb (sigL (laws_heldIntS_es N)) cps (orcL (laws_heldIntS_es N)) (drawReg Tb (sigL (laws_heldIntS_es N)) cps (orcL (laws_heldIntS_es N))) N laws_heldIntS_an laws_heldIntS_sg Try.f37 (Try.f37.body.getD .skip) [.val ty1 a, .val i64 k] (un1 i64) = laws_heldIntS_b N (laws_heldIntS_l0_E N N) a k := by kernel_rfl
noncomputable def laws_heldIntS_e (N : Nat) : Entry Try.prog := ⟨37, laws_heldIntS_sg, [.v ty1, .v i64], Int, laws_heldIntS N, pk1 i64, entry_en Try.func37 (code := Try.f37.body.getD .skip) (by kernel_rfl) (by kernel_rfl),
  fun a k => entry_ok tab_ok (es := laws_heldIntS_es N) (by kernel_rfl) mixed Try.func37 (by kernel_rfl) rfl (un1_pk i64) (by rw [laws_heldIntS_v, laws_heldIntS_l0_q]; rfl)⟩
noncomputable def laws_heldAtomS_es (N : Nat) : List (Entry Try.prog) := [laws_heldIntS_e N]
def laws_heldAtomS_sg : Sig := ⟨[.val ty3, .val i64], [(i64, true)], false⟩
def laws_heldAtomS_an : Nat → Option (List Nat)
  | 0 => some [0, 1, 5]
  | _ => none
noncomputable def laws_heldAtomS_lp (N : Nat) (p : List Dir) (rs : List (Env → Option (Int))) (k : Nat) (env : Env) : Option (Int) :=
  loopAt Tb (sigL (laws_heldAtomS_es N)) cps (orcL (laws_heldAtomS_es N)) N laws_heldAtomS_an p (Try.f60.body.getD .skip) (endK Tb laws_heldAtomS_sg Try.f60 [] (un1 i64)) rs k env
noncomputable def laws_heldAtomS_l0_E (N : Nat) (k_ : Nat) (a2 : List (Int × List Int)) (k2 : Int) (i : Int) : Option (Int) :=
  laws_heldAtomS_lp N [.r, .l, .r, .b] [] k_ (.con .val [lf ty3 a2 .ro] :: (.con .val [lf i64 k2 .ro] :: (un 3 (.con .val [lf i64 i .ro] :: (un 25 [])))))
theorem laws_heldAtomS_l0_z (N : Nat) (a2 : List (Int × List Int)) (k2 : Int) (i : Int) : laws_heldAtomS_l0_E N 0 a2 k2 i = none := by kernel_rfl
theorem laws_heldAtomS_l0_s (N : Nat) (k_ : Nat) (a2 : List (Int × List Int)) (k2 : Int) (i : Int) : laws_heldAtomS_l0_E N (k_ + 1) a2 k2 i = laws_heldAtomS_l0_b N (laws_heldAtomS_l0_E N k_) a2 k2 i := by kernel_rfl
theorem laws_heldAtomS_l0_q (N : Nat) : ∀ k_, laws_heldAtomS_l0_E N k_ = laws_heldAtomS_l0 N k_
  | 0 => by funext a2 k2 i; exact laws_heldAtomS_l0_z N a2 k2 i
  | k_ + 1 => by funext a2 k2 i; rw [laws_heldAtomS_l0_s]; simp only [laws_heldAtomS_l0_q N k_]; rfl
theorem laws_heldAtomS_v (N : Nat) (a : List (Int × List Int)) (k : Int) :
    evFn Tb (sigL (laws_heldAtomS_es N)) cps (orcL (laws_heldAtomS_es N)) (drawReg Tb (sigL (laws_heldAtomS_es N)) cps (orcL (laws_heldAtomS_es N))) N laws_heldAtomS_an laws_heldAtomS_sg Try.f60 (Try.f60.body.getD .skip) [.val ty3 a, .val i64 k] (un1 i64) = laws_heldAtomS_b N (laws_heldAtomS_l0_E N N) a k := by kernel_rfl
noncomputable def laws_heldAtomS_e (N : Nat) : Entry Try.prog := ⟨60, laws_heldAtomS_sg, [.v ty3, .v i64], Int, laws_heldAtomS N, pk1 i64, entry_en Try.func60 (code := Try.f60.body.getD .skip) (by kernel_rfl) (by kernel_rfl),
  fun a k => entry_ok tab_ok (es := laws_heldAtomS_es N) (by kernel_rfl) mixed Try.func60 (by kernel_rfl) rfl (un1_pk i64) (by rw [laws_heldAtomS_v, laws_heldAtomS_l0_q]; rfl)⟩
noncomputable def laws_heldQuery_es (N : Nat) : List (Entry Try.prog) := [laws_heldAtomS_e N, laws_heldIntS_e N]
def laws_heldQuery_sg : Sig := ⟨[.val ty0, .val i64], [(i64, true)], false⟩
def laws_heldQuery_an : Nat → Option (List Nat) := fun _ => none
theorem laws_heldQuery_v (N : Nat) (a : Int × List (Int × List Int) × List Int) (k : Int) :
    evFn Tb (sigL (laws_heldQuery_es N)) cps (orcL (laws_heldQuery_es N)) (drawReg Tb (sigL (laws_heldQuery_es N)) cps (orcL (laws_heldQuery_es N))) N laws_heldQuery_an laws_heldQuery_sg Try.f19 (Try.f19.body.getD .skip) [.val ty0 a, .val i64 k] (un1 i64) = laws_heldQuery N a k := by kernel_rfl
noncomputable def laws_heldQuery_e (N : Nat) : Entry Try.prog := ⟨19, laws_heldQuery_sg, [.v ty0, .v i64], Int, laws_heldQuery N, pk1 i64, entry_en Try.func19 (code := Try.f19.body.getD .skip) (by kernel_rfl) (by kernel_rfl),
  fun a k => entry_ok tab_ok (es := laws_heldQuery_es N) (by kernel_rfl) mixed Try.func19 (by kernel_rfl) rfl (un1_pk i64) (laws_heldQuery_v N a k)⟩
noncomputable def laws_FnExactLadderQuery_es (N : Nat) : List (Entry Try.prog) := [spec_LadderQuery_e N, impl_LadderQuery_e N, laws_eqQuery_e N, laws_markQuery_e N, laws_heldQuery_e N]
def laws_FnExactLadderQuery_sg : Sig := ⟨[], [(.bool, true)], false⟩
def laws_FnExactLadderQuery_an : Nat → Option (List Nat) := fun _ => none
theorem laws_FnExactLadderQuery_v (N : Nat) :
    evFn Tb (sigL (laws_FnExactLadderQuery_es N)) cps (orcL (laws_FnExactLadderQuery_es N)) (drawReg Tb (sigL (laws_FnExactLadderQuery_es N)) cps (orcL (laws_FnExactLadderQuery_es N))) N laws_FnExactLadderQuery_an laws_FnExactLadderQuery_sg Try.f3 (Try.f3.body.getD .skip) [] (un1 .bool) = laws_FnExactLadderQuery N := by kernel_rfl
noncomputable def laws_FnExactLadderQuery_e (N : Nat) : Entry Try.prog := ⟨3, laws_FnExactLadderQuery_sg, [], Bool, laws_FnExactLadderQuery N, pk1 .bool, entry_en Try.func3 (code := Try.f3.body.getD .skip) (by kernel_rfl) (by kernel_rfl),
  entry_ok tab_ok (es := laws_FnExactLadderQuery_es N) (by kernel_rfl) mixed Try.func3 (by kernel_rfl) rfl (un1_pk .bool) (laws_FnExactLadderQuery_v N)⟩
end Go.PL
