/- What the machine does at each function is what the plain reading says. Conditions: none. -/
import Derived.Test.YtnnljnfnomfgkaaFpD
import Derived.Test.YtnnljnfnomfgkaaPlain
import Derived.Test.YtnnljnfnomfgkaaProg

/- What the machine does is what the plain reading says. Conditions: none. -/
namespace Go.PL
open Go.FP Go.Proofs
set_option linter.unusedVariables false
set_option maxRecDepth 10000

abbrev i64 : Ty := .int .i64
abbrev ty0 : Ty := (.slice 3 i64)
abbrev ty1 : Ty := (.pair i64 (.slice 3 i64))
abbrev ty2 : Ty := (.pair (.pair i64 (.slice 3 i64)) (.pair (.slice 3 i64) (.slice 3 i64)))
abbrev ty3 : Ty := (.slice 168 (.pair (.pair i64 (.slice 3 i64)) (.pair (.slice 3 i64) (.slice 3 i64))))
abbrev ty4 : Ty := (.pair (.slice 3 i64) i64)
abbrev ty5 : Ty := (.slice 170 (.pair (.slice 3 i64) i64))
abbrev ty6 : Ty := (.slice 23 (.slice 3 i64))
abbrev ty7 : Ty := (.pair i64 (.pair .bool (.pair (.slice 3 i64) (.pair (.slice 168 (.pair (.pair i64 (.slice 3 i64)) (.pair (.slice 3 i64) (.slice 3 i64)))) (.pair (.slice 170 (.pair (.slice 3 i64) i64)) (.slice 23 (.slice 3 i64)))))))
abbrev ty8 : Ty := (.pair (.slice 3 i64) (.pair i64 (.pair .bool (.pair (.slice 3 i64) (.pair (.slice 168 (.pair (.pair i64 (.slice 3 i64)) (.pair (.slice 3 i64) (.slice 3 i64)))) (.pair (.slice 170 (.pair (.slice 3 i64) i64)) (.slice 23 (.slice 3 i64))))))))
abbrev ty9 : Ty := (.slice 99 (.pair (.slice 3 i64) (.pair i64 (.pair .bool (.pair (.slice 3 i64) (.pair (.slice 168 (.pair (.pair i64 (.slice 3 i64)) (.pair (.slice 3 i64) (.slice 3 i64)))) (.pair (.slice 170 (.pair (.slice 3 i64) i64)) (.slice 23 (.slice 3 i64)))))))))
abbrev ty10 : Ty := (.slice 144 (.pair (.pair i64 (.slice 3 i64)) (.pair (.slice 3 i64) (.slice 3 i64))))
abbrev ty11 : Ty := (.slice 146 (.pair (.slice 3 i64) i64))
abbrev ty12 : Ty := (.pair i64 (.pair .bool (.pair (.slice 3 i64) (.pair (.slice 144 (.pair (.pair i64 (.slice 3 i64)) (.pair (.slice 3 i64) (.slice 3 i64)))) (.pair (.slice 146 (.pair (.slice 3 i64) i64)) (.slice 23 (.slice 3 i64)))))))
abbrev ty13 : Ty := (.pair (.slice 3 i64) (.pair i64 (.pair .bool (.pair (.slice 3 i64) (.pair (.slice 144 (.pair (.pair i64 (.slice 3 i64)) (.pair (.slice 3 i64) (.slice 3 i64)))) (.pair (.slice 146 (.pair (.slice 3 i64) i64)) (.slice 23 (.slice 3 i64))))))))
abbrev ty14 : Ty := (.slice 105 (.pair (.slice 3 i64) (.pair i64 (.pair .bool (.pair (.slice 3 i64) (.pair (.slice 144 (.pair (.pair i64 (.slice 3 i64)) (.pair (.slice 3 i64) (.slice 3 i64)))) (.pair (.slice 146 (.pair (.slice 3 i64) i64)) (.slice 23 (.slice 3 i64)))))))))
def Tb : Tab := [⟨3, i64, 8, []⟩,
  ⟨4, .bool, 1, []⟩,
  ⟨23, ty0, 24, []⟩,
  ⟨30, ty6, 24, []⟩,
  ⟨57, ty9, 24, []⟩,
  ⟨60, ty14, 24, []⟩,
  ⟨76, ty1, 32, [(0, 3), (1, 23)]⟩,
  ⟨94, ty3, 24, []⟩,
  ⟨95, ty5, 24, []⟩,
  ⟨97, ty7, 112, [(0, 3), (1, 4), (2, 23), (3, 94), (4, 95), (5, 30)]⟩,
  ⟨99, ty8, 136, [(0, 23), (1, 97)]⟩,
  ⟨100, ty10, 24, []⟩,
  ⟨101, ty11, 24, []⟩,
  ⟨103, ty12, 112, [(0, 3), (1, 4), (2, 23), (3, 100), (4, 101), (5, 30)]⟩,
  ⟨105, ty13, 136, [(0, 23), (1, 103)]⟩,
  ⟨144, ty2, 80, [(0, 76), (2, 23), (3, 23)]⟩,
  ⟨146, ty4, 32, [(0, 23), (1, 3)]⟩,
  ⟨166, ty1, 32, [(0, 3), (1, 23)]⟩,
  ⟨168, ty2, 80, [(0, 166), (2, 23), (3, 23)]⟩,
  ⟨170, ty4, 32, [(0, 23), (1, 3)]⟩]
theorem tab_ok : TabOk Try.prog Tb :=
  (tab_cons (TEOk.plain (i := Try.t3) (by kernel_rfl) rfl rfl (by kernel_rfl) rfl Try.underlying3)
  (tab_cons (TEOk.plain (i := Try.t4) (by kernel_rfl) rfl rfl (by kernel_rfl) rfl Try.underlying4)
  (tab_cons (TEOk.plain (i := Try.t23) (by kernel_rfl) rfl rfl (by kernel_rfl) rfl Try.underlying23)
  (tab_cons (TEOk.plain (i := Try.t30) (by kernel_rfl) rfl rfl (by kernel_rfl) rfl Try.underlying30)
  (tab_cons (TEOk.plain (i := Try.t57) (by kernel_rfl) rfl rfl (by kernel_rfl) rfl Try.underlying57)
  (tab_cons (TEOk.plain (i := Try.t60) (by kernel_rfl) rfl rfl (by kernel_rfl) rfl Try.underlying60)
  (tab_cons (TEOk.struct (i := Try.t76) (pl := [(0, 1), (1, 1)]) (by kernel_rfl) rfl rfl (by kernel_rfl) Try.underlying76 (by kernel_rfl) (by kernel_rfl) rfl)
  (tab_cons (TEOk.plain (i := Try.t94) (by kernel_rfl) rfl rfl (by kernel_rfl) rfl Try.underlying94)
  (tab_cons (TEOk.plain (i := Try.t95) (by kernel_rfl) rfl rfl (by kernel_rfl) rfl Try.underlying95)
  (tab_cons (TEOk.struct (i := Try.t97) (pl := [(0, 1), (1, 1), (2, 1), (3, 1), (4, 1), (5, 1)]) (by kernel_rfl) rfl rfl (by kernel_rfl) Try.underlying97 (by kernel_rfl) (by kernel_rfl) rfl)
  (tab_cons (TEOk.struct (i := Try.t99) (pl := [(0, 1), (1, 6)]) (by kernel_rfl) rfl rfl (by kernel_rfl) Try.underlying99 (by kernel_rfl) (by kernel_rfl) rfl)
  (tab_cons (TEOk.plain (i := Try.t100) (by kernel_rfl) rfl rfl (by kernel_rfl) rfl Try.underlying100)
  (tab_cons (TEOk.plain (i := Try.t101) (by kernel_rfl) rfl rfl (by kernel_rfl) rfl Try.underlying101)
  (tab_cons (TEOk.struct (i := Try.t103) (pl := [(0, 1), (1, 1), (2, 1), (3, 1), (4, 1), (5, 1)]) (by kernel_rfl) rfl rfl (by kernel_rfl) Try.underlying103 (by kernel_rfl) (by kernel_rfl) rfl)
  (tab_cons (TEOk.struct (i := Try.t105) (pl := [(0, 1), (1, 6)]) (by kernel_rfl) rfl rfl (by kernel_rfl) Try.underlying105 (by kernel_rfl) (by kernel_rfl) rfl)
  (tab_cons (TEOk.struct (i := Try.t144) (pl := [(0, 2), (2, 1), (3, 1)]) (by kernel_rfl) rfl rfl (by kernel_rfl) Try.underlying144 (by kernel_rfl) (by kernel_rfl) rfl)
  (tab_cons (TEOk.struct (i := Try.t146) (pl := [(0, 1), (1, 1)]) (by kernel_rfl) rfl rfl (by kernel_rfl) Try.underlying146 (by kernel_rfl) (by kernel_rfl) rfl)
  (tab_cons (TEOk.struct (i := Try.t166) (pl := [(0, 1), (1, 1)]) (by kernel_rfl) rfl rfl (by kernel_rfl) Try.underlying166 (by kernel_rfl) (by kernel_rfl) rfl)
  (tab_cons (TEOk.struct (i := Try.t168) (pl := [(0, 2), (2, 1), (3, 1)]) (by kernel_rfl) rfl rfl (by kernel_rfl) Try.underlying168 (by kernel_rfl) (by kernel_rfl) rfl)
  (tab_cons (TEOk.struct (i := Try.t170) (pl := [(0, 1), (1, 1)]) (by kernel_rfl) rfl rfl (by kernel_rfl) Try.underlying170 (by kernel_rfl) (by kernel_rfl) rfl)
  tab_nil))))))))))))))))))))
theorem mixed : Try.prog.follows .mixedOrders = true := by decide
def cps : FuncId → List Ty := capsL []

noncomputable def laws_szIntS_es (N : Nat) : List (Entry Try.prog) := []
def laws_szIntS_sg : Sig := ⟨[.val ty0, .val i64], [(i64, true)], false⟩
def laws_szIntS_an : Nat → Option (List Nat) := fun _ => none
theorem laws_szIntS_v (N : Nat) (a : List Int) (left_ : Int) :
    evFn Tb (sigL (laws_szIntS_es N)) cps (orcL (laws_szIntS_es N)) (drawReg Tb (sigL (laws_szIntS_es N)) cps (orcL (laws_szIntS_es N))) N laws_szIntS_an laws_szIntS_sg Try.f61 (Try.f61.body.getD .skip) [.val ty0 a, .val i64 left_] (un1 i64) = laws_szIntS N a left_ := by kernel_rfl
noncomputable def laws_szIntS_e (N : Nat) : Entry Try.prog := ⟨61, laws_szIntS_sg, [.v ty0, .v i64], Int, laws_szIntS N, pk1 i64, entry_en Try.func61 (code := Try.f61.body.getD .skip) (by kernel_rfl) (by kernel_rfl),
  fun a left_ => entry_ok tab_ok (es := laws_szIntS_es N) (by kernel_rfl) mixed Try.func61 (by kernel_rfl) rfl (un1_pk i64) (laws_szIntS_v N a left_)⟩
noncomputable def laws_szAtom_es (N : Nat) : List (Entry Try.prog) := [laws_szIntS_e N]
def laws_szAtom_sg : Sig := ⟨[.val ty1, .val i64], [(i64, true)], false⟩
def laws_szAtom_an : Nat → Option (List Nat) := fun _ => none
theorem laws_szAtom_v (N : Nat) (a : Int × List Int) (left_ : Int) :
    evFn Tb (sigL (laws_szAtom_es N)) cps (orcL (laws_szAtom_es N)) (drawReg Tb (sigL (laws_szAtom_es N)) cps (orcL (laws_szAtom_es N))) N laws_szAtom_an laws_szAtom_sg Try.f172 (Try.f172.body.getD .skip) [.val ty1 a, .val i64 left_] (un1 i64) = laws_szAtom N a left_ := by kernel_rfl
noncomputable def laws_szAtom_e (N : Nat) : Entry Try.prog := ⟨172, laws_szAtom_sg, [.v ty1, .v i64], Int, laws_szAtom N, pk1 i64, entry_en Try.func172 (code := Try.f172.body.getD .skip) (by kernel_rfl) (by kernel_rfl),
  fun a left_ => entry_ok tab_ok (es := laws_szAtom_es N) (by kernel_rfl) mixed Try.func172 (by kernel_rfl) rfl (un1_pk i64) (laws_szAtom_v N a left_)⟩
noncomputable def laws_szRewritingStep_es (N : Nat) : List (Entry Try.prog) := [laws_szAtom_e N, laws_szIntS_e N]
def laws_szRewritingStep_sg : Sig := ⟨[.val ty2, .val i64], [(i64, true)], false⟩
def laws_szRewritingStep_an : Nat → Option (List Nat) := fun _ => none
theorem laws_szRewritingStep_v (N : Nat) (a : (Int × List Int) × List Int × List Int) (left_ : Int) :
    evFn Tb (sigL (laws_szRewritingStep_es N)) cps (orcL (laws_szRewritingStep_es N)) (drawReg Tb (sigL (laws_szRewritingStep_es N)) cps (orcL (laws_szRewritingStep_es N))) N laws_szRewritingStep_an laws_szRewritingStep_sg Try.f164 (Try.f164.body.getD .skip) [.val ty2 a, .val i64 left_] (un1 i64) = laws_szRewritingStep N a left_ := by kernel_rfl
noncomputable def laws_szRewritingStep_e (N : Nat) : Entry Try.prog := ⟨164, laws_szRewritingStep_sg, [.v ty2, .v i64], Int, laws_szRewritingStep N, pk1 i64, entry_en Try.func164 (code := Try.f164.body.getD .skip) (by kernel_rfl) (by kernel_rfl),
  fun a left_ => entry_ok tab_ok (es := laws_szRewritingStep_es N) (by kernel_rfl) mixed Try.func164 (by kernel_rfl) rfl (un1_pk i64) (laws_szRewritingStep_v N a left_)⟩
noncomputable def laws_szRewritingStepS_es (N : Nat) : List (Entry Try.prog) := [laws_szRewritingStep_e N]
def laws_szRewritingStepS_sg : Sig := ⟨[.val ty3, .val i64], [(i64, true)], false⟩
def laws_szRewritingStepS_an : Nat → Option (List Nat)
  | 0 => some [0, 1, 5]
  | _ => none
noncomputable def laws_szRewritingStepS_lp (N : Nat) (p : List Dir) (rs : List (Env → Option (Int))) (k : Nat) (env : Env) : Option (Int) :=
  loopAt Tb (sigL (laws_szRewritingStepS_es N)) cps (orcL (laws_szRewritingStepS_es N)) N laws_szRewritingStepS_an p (Try.f151.body.getD .skip) (endK Tb laws_szRewritingStepS_sg Try.f151 [] (un1 i64)) rs k env
noncomputable def laws_szRewritingStepS_l0_E (N : Nat) (k_ : Nat) (a2 : List ((Int × List Int) × List Int × List Int)) (left_2 : Int) (i : Int) : Option (Int) :=
  laws_szRewritingStepS_lp N [.r, .r, .r, .l, .r, .b] [] k_ (.con .val [lf ty3 a2 .ro] :: (.con .val [lf i64 left_2 .ro] :: (un 3 (.con .val [lf i64 i .ro] :: (un 21 [])))))
theorem laws_szRewritingStepS_l0_z (N : Nat) (a2 : List ((Int × List Int) × List Int × List Int)) (left_2 : Int) (i : Int) : laws_szRewritingStepS_l0_E N 0 a2 left_2 i = none := by kernel_rfl
theorem laws_szRewritingStepS_l0_s (N : Nat) (k_ : Nat) (a2 : List ((Int × List Int) × List Int × List Int)) (left_2 : Int) (i : Int) : laws_szRewritingStepS_l0_E N (k_ + 1) a2 left_2 i = laws_szRewritingStepS_l0_b N (laws_szRewritingStepS_l0_E N k_) a2 left_2 i := by kernel_rfl
theorem laws_szRewritingStepS_l0_q (N : Nat) : ∀ k_, laws_szRewritingStepS_l0_E N k_ = laws_szRewritingStepS_l0 N k_
  | 0 => by funext a2 left_2 i; exact laws_szRewritingStepS_l0_z N a2 left_2 i
  | k_ + 1 => by funext a2 left_2 i; rw [laws_szRewritingStepS_l0_s]; simp only [laws_szRewritingStepS_l0_q N k_]; rfl
theorem laws_szRewritingStepS_v (N : Nat) (a : List ((Int × List Int) × List Int × List Int)) (left_ : Int) :
    evFn Tb (sigL (laws_szRewritingStepS_es N)) cps (orcL (laws_szRewritingStepS_es N)) (drawReg Tb (sigL (laws_szRewritingStepS_es N)) cps (orcL (laws_szRewritingStepS_es N))) N laws_szRewritingStepS_an laws_szRewritingStepS_sg Try.f151 (Try.f151.body.getD .skip) [.val ty3 a, .val i64 left_] (un1 i64) = laws_szRewritingStepS_b N (laws_szRewritingStepS_l0_E N N) a left_ := by kernel_rfl
noncomputable def laws_szRewritingStepS_e (N : Nat) : Entry Try.prog := ⟨151, laws_szRewritingStepS_sg, [.v ty3, .v i64], Int, laws_szRewritingStepS N, pk1 i64, entry_en Try.func151 (code := Try.f151.body.getD .skip) (by kernel_rfl) (by kernel_rfl),
  fun a left_ => entry_ok tab_ok (es := laws_szRewritingStepS_es N) (by kernel_rfl) mixed Try.func151 (by kernel_rfl) rfl (un1_pk i64) (by rw [laws_szRewritingStepS_v, laws_szRewritingStepS_l0_q]; rfl)⟩
noncomputable def laws_szDerivationStep_es (N : Nat) : List (Entry Try.prog) := [laws_szIntS_e N]
def laws_szDerivationStep_sg : Sig := ⟨[.val ty4, .val i64], [(i64, true)], false⟩
def laws_szDerivationStep_an : Nat → Option (List Nat) := fun _ => none
theorem laws_szDerivationStep_v (N : Nat) (a : List Int × Int) (left_ : Int) :
    evFn Tb (sigL (laws_szDerivationStep_es N)) cps (orcL (laws_szDerivationStep_es N)) (drawReg Tb (sigL (laws_szDerivationStep_es N)) cps (orcL (laws_szDerivationStep_es N))) N laws_szDerivationStep_an laws_szDerivationStep_sg Try.f165 (Try.f165.body.getD .skip) [.val ty4 a, .val i64 left_] (un1 i64) = laws_szDerivationStep N a left_ := by kernel_rfl
noncomputable def laws_szDerivationStep_e (N : Nat) : Entry Try.prog := ⟨165, laws_szDerivationStep_sg, [.v ty4, .v i64], Int, laws_szDerivationStep N, pk1 i64, entry_en Try.func165 (code := Try.f165.body.getD .skip) (by kernel_rfl) (by kernel_rfl),
  fun a left_ => entry_ok tab_ok (es := laws_szDerivationStep_es N) (by kernel_rfl) mixed Try.func165 (by kernel_rfl) rfl (un1_pk i64) (laws_szDerivationStep_v N a left_)⟩
noncomputable def laws_szDerivationStepS_es (N : Nat) : List (Entry Try.prog) := [laws_szDerivationStep_e N]
def laws_szDerivationStepS_sg : Sig := ⟨[.val ty5, .val i64], [(i64, true)], false⟩
def laws_szDerivationStepS_an : Nat → Option (List Nat)
  | 0 => some [0, 1, 5]
  | _ => none
noncomputable def laws_szDerivationStepS_lp (N : Nat) (p : List Dir) (rs : List (Env → Option (Int))) (k : Nat) (env : Env) : Option (Int) :=
  loopAt Tb (sigL (laws_szDerivationStepS_es N)) cps (orcL (laws_szDerivationStepS_es N)) N laws_szDerivationStepS_an p (Try.f152.body.getD .skip) (endK Tb laws_szDerivationStepS_sg Try.f152 [] (un1 i64)) rs k env
noncomputable def laws_szDerivationStepS_l0_E (N : Nat) (k_ : Nat) (a2 : List (List Int × Int)) (left_2 : Int) (i : Int) : Option (Int) :=
  laws_szDerivationStepS_lp N [.r, .r, .r, .l, .r, .b] [] k_ (.con .val [lf ty5 a2 .ro] :: (.con .val [lf i64 left_2 .ro] :: (un 3 (.con .val [lf i64 i .ro] :: (un 21 [])))))
theorem laws_szDerivationStepS_l0_z (N : Nat) (a2 : List (List Int × Int)) (left_2 : Int) (i : Int) : laws_szDerivationStepS_l0_E N 0 a2 left_2 i = none := by kernel_rfl
theorem laws_szDerivationStepS_l0_s (N : Nat) (k_ : Nat) (a2 : List (List Int × Int)) (left_2 : Int) (i : Int) : laws_szDerivationStepS_l0_E N (k_ + 1) a2 left_2 i = laws_szDerivationStepS_l0_b N (laws_szDerivationStepS_l0_E N k_) a2 left_2 i := by kernel_rfl
theorem laws_szDerivationStepS_l0_q (N : Nat) : ∀ k_, laws_szDerivationStepS_l0_E N k_ = laws_szDerivationStepS_l0 N k_
  | 0 => by funext a2 left_2 i; exact laws_szDerivationStepS_l0_z N a2 left_2 i
  | k_ + 1 => by funext a2 left_2 i; rw [laws_szDerivationStepS_l0_s]; simp only [laws_szDerivationStepS_l0_q N k_]; rfl
theorem laws_szDerivationStepS_v (N : Nat) (a : List (List Int × Int)) (left_ : Int) :
    evFn Tb (sigL (laws_szDerivationStepS_es N)) cps (orcL (laws_szDerivationStepS_es N)) (drawReg Tb (sigL (laws_szDerivationStepS_es N)) cps (orcL (laws_szDerivationStepS_es N))) N laws_szDerivationStepS_an laws_szDerivationStepS_sg Try.f152 (Try.f152.body.getD .skip) [.val ty5 a, .val i64 left_] (un1 i64) = laws_szDerivationStepS_b N (laws_szDerivationStepS_l0_E N N) a left_ := by kernel_rfl
noncomputable def laws_szDerivationStepS_e (N : Nat) : Entry Try.prog := ⟨152, laws_szDerivationStepS_sg, [.v ty5, .v i64], Int, laws_szDerivationStepS N, pk1 i64, entry_en Try.func152 (code := Try.f152.body.getD .skip) (by kernel_rfl) (by kernel_rfl),
  fun a left_ => entry_ok tab_ok (es := laws_szDerivationStepS_es N) (by kernel_rfl) mixed Try.func152 (by kernel_rfl) rfl (un1_pk i64) (by rw [laws_szDerivationStepS_v, laws_szDerivationStepS_l0_q]; rfl)⟩
noncomputable def laws_szIntSS_es (N : Nat) : List (Entry Try.prog) := [laws_szIntS_e N]
def laws_szIntSS_sg : Sig := ⟨[.val ty6, .val i64], [(i64, true)], false⟩
def laws_szIntSS_an : Nat → Option (List Nat)
  | 0 => some [0, 1, 5]
  | _ => none
noncomputable def laws_szIntSS_lp (N : Nat) (p : List Dir) (rs : List (Env → Option (Int))) (k : Nat) (env : Env) : Option (Int) :=
  loopAt Tb (sigL (laws_szIntSS_es N)) cps (orcL (laws_szIntSS_es N)) N laws_szIntSS_an p (Try.f20.body.getD .skip) (endK Tb laws_szIntSS_sg Try.f20 [] (un1 i64)) rs k env
noncomputable def laws_szIntSS_l0_E (N : Nat) (k_ : Nat) (a2 : List (List Int)) (left_2 : Int) (i : Int) : Option (Int) :=
  laws_szIntSS_lp N [.r, .r, .r, .l, .r, .b] [] k_ (.con .val [lf ty6 a2 .ro] :: (.con .val [lf i64 left_2 .ro] :: (un 3 (.con .val [lf i64 i .ro] :: (un 21 [])))))
theorem laws_szIntSS_l0_z (N : Nat) (a2 : List (List Int)) (left_2 : Int) (i : Int) : laws_szIntSS_l0_E N 0 a2 left_2 i = none := by kernel_rfl
theorem laws_szIntSS_l0_s (N : Nat) (k_ : Nat) (a2 : List (List Int)) (left_2 : Int) (i : Int) : laws_szIntSS_l0_E N (k_ + 1) a2 left_2 i = laws_szIntSS_l0_b N (laws_szIntSS_l0_E N k_) a2 left_2 i := by kernel_rfl
theorem laws_szIntSS_l0_q (N : Nat) : ∀ k_, laws_szIntSS_l0_E N k_ = laws_szIntSS_l0 N k_
  | 0 => by funext a2 left_2 i; exact laws_szIntSS_l0_z N a2 left_2 i
  | k_ + 1 => by funext a2 left_2 i; rw [laws_szIntSS_l0_s]; simp only [laws_szIntSS_l0_q N k_]; rfl
theorem laws_szIntSS_v (N : Nat) (a : List (List Int)) (left_ : Int) :
    evFn Tb (sigL (laws_szIntSS_es N)) cps (orcL (laws_szIntSS_es N)) (drawReg Tb (sigL (laws_szIntSS_es N)) cps (orcL (laws_szIntSS_es N))) N laws_szIntSS_an laws_szIntSS_sg Try.f20 (Try.f20.body.getD .skip) [.val ty6 a, .val i64 left_] (un1 i64) = laws_szIntSS_b N (laws_szIntSS_l0_E N N) a left_ := by kernel_rfl
noncomputable def laws_szIntSS_e (N : Nat) : Entry Try.prog := ⟨20, laws_szIntSS_sg, [.v ty6, .v i64], Int, laws_szIntSS N, pk1 i64, entry_en Try.func20 (code := Try.f20.body.getD .skip) (by kernel_rfl) (by kernel_rfl),
  fun a left_ => entry_ok tab_ok (es := laws_szIntSS_es N) (by kernel_rfl) mixed Try.func20 (by kernel_rfl) rfl (un1_pk i64) (by rw [laws_szIntSS_v, laws_szIntSS_l0_q]; rfl)⟩
noncomputable def laws_szJustification_es (N : Nat) : List (Entry Try.prog) := [laws_szIntS_e N, laws_szRewritingStepS_e N, laws_szDerivationStepS_e N, laws_szIntSS_e N]
def laws_szJustification_sg : Sig := ⟨[.val ty7, .val i64], [(i64, true)], false⟩
def laws_szJustification_an : Nat → Option (List Nat) := fun _ => none
theorem laws_szJustification_v (N : Nat) (a : Int × Bool × List Int × List ((Int × List Int) × List Int × List Int) × List (List Int × Int) × List (List Int)) (left_ : Int) :
    evFn Tb (sigL (laws_szJustification_es N)) cps (orcL (laws_szJustification_es N)) (drawReg Tb (sigL (laws_szJustification_es N)) cps (orcL (laws_szJustification_es N))) N laws_szJustification_an laws_szJustification_sg Try.f130 (Try.f130.body.getD .skip) [.val ty7 a, .val i64 left_] (un1 i64) = laws_szJustification N a left_ := by kernel_rfl
noncomputable def laws_szJustification_e (N : Nat) : Entry Try.prog := ⟨130, laws_szJustification_sg, [.v ty7, .v i64], Int, laws_szJustification N, pk1 i64, entry_en Try.func130 (code := Try.f130.body.getD .skip) (by kernel_rfl) (by kernel_rfl),
  fun a left_ => entry_ok tab_ok (es := laws_szJustification_es N) (by kernel_rfl) mixed Try.func130 (by kernel_rfl) rfl (un1_pk i64) (laws_szJustification_v N a left_)⟩
noncomputable def laws_szExplanation_es (N : Nat) : List (Entry Try.prog) := [laws_szIntS_e N, laws_szJustification_e N]
def laws_szExplanation_sg : Sig := ⟨[.val ty8, .val i64], [(i64, true)], false⟩
def laws_szExplanation_an : Nat → Option (List Nat) := fun _ => none
theorem laws_szExplanation_v (N : Nat) (a : List Int × Int × Bool × List Int × List ((Int × List Int) × List Int × List Int) × List (List Int × Int) × List (List Int)) (left_ : Int) :
    evFn Tb (sigL (laws_szExplanation_es N)) cps (orcL (laws_szExplanation_es N)) (drawReg Tb (sigL (laws_szExplanation_es N)) cps (orcL (laws_szExplanation_es N))) N laws_szExplanation_an laws_szExplanation_sg Try.f85 (Try.f85.body.getD .skip) [.val ty8 a, .val i64 left_] (un1 i64) = laws_szExplanation N a left_ := by kernel_rfl
noncomputable def laws_szExplanation_e (N : Nat) : Entry Try.prog := ⟨85, laws_szExplanation_sg, [.v ty8, .v i64], Int, laws_szExplanation N, pk1 i64, entry_en Try.func85 (code := Try.f85.body.getD .skip) (by kernel_rfl) (by kernel_rfl),
  fun a left_ => entry_ok tab_ok (es := laws_szExplanation_es N) (by kernel_rfl) mixed Try.func85 (by kernel_rfl) rfl (un1_pk i64) (laws_szExplanation_v N a left_)⟩
noncomputable def laws_szExplanationS_es (N : Nat) : List (Entry Try.prog) := [laws_szExplanation_e N]
def laws_szExplanationS_sg : Sig := ⟨[.val ty9, .val i64], [(i64, true)], false⟩
def laws_szExplanationS_an : Nat → Option (List Nat)
  | 0 => some [0, 1, 5]
  | _ => none
noncomputable def laws_szExplanationS_lp (N : Nat) (p : List Dir) (rs : List (Env → Option (Int))) (k : Nat) (env : Env) : Option (Int) :=
  loopAt Tb (sigL (laws_szExplanationS_es N)) cps (orcL (laws_szExplanationS_es N)) N laws_szExplanationS_an p (Try.f42.body.getD .skip) (endK Tb laws_szExplanationS_sg Try.f42 [] (un1 i64)) rs k env
noncomputable def laws_szExplanationS_l0_E (N : Nat) (k_ : Nat) (a2 : List (List Int × Int × Bool × List Int × List ((Int × List Int) × List Int × List Int) × List (List Int × Int) × List (List Int))) (left_2 : Int) (i : Int) : Option (Int) :=
  laws_szExplanationS_lp N [.r, .r, .r, .l, .r, .b] [] k_ (.con .val [lf ty9 a2 .ro] :: (.con .val [lf i64 left_2 .ro] :: (un 3 (.con .val [lf i64 i .ro] :: (un 21 [])))))
theorem laws_szExplanationS_l0_z (N : Nat) (a2 : List (List Int × Int × Bool × List Int × List ((Int × List Int) × List Int × List Int) × List (List Int × Int) × List (List Int))) (left_2 : Int) (i : Int) : laws_szExplanationS_l0_E N 0 a2 left_2 i = none := by kernel_rfl
theorem laws_szExplanationS_l0_s (N : Nat) (k_ : Nat) (a2 : List (List Int × Int × Bool × List Int × List ((Int × List Int) × List Int × List Int) × List (List Int × Int) × List (List Int))) (left_2 : Int) (i : Int) : laws_szExplanationS_l0_E N (k_ + 1) a2 left_2 i = laws_szExplanationS_l0_b N (laws_szExplanationS_l0_E N k_) a2 left_2 i := by kernel_rfl
theorem laws_szExplanationS_l0_q (N : Nat) : ∀ k_, laws_szExplanationS_l0_E N k_ = laws_szExplanationS_l0 N k_
  | 0 => by funext a2 left_2 i; exact laws_szExplanationS_l0_z N a2 left_2 i
  | k_ + 1 => by funext a2 left_2 i; rw [laws_szExplanationS_l0_s]; simp only [laws_szExplanationS_l0_q N k_]; rfl
theorem laws_szExplanationS_v (N : Nat) (a : List (List Int × Int × Bool × List Int × List ((Int × List Int) × List Int × List Int) × List (List Int × Int) × List (List Int))) (left_ : Int) :
    evFn Tb (sigL (laws_szExplanationS_es N)) cps (orcL (laws_szExplanationS_es N)) (drawReg Tb (sigL (laws_szExplanationS_es N)) cps (orcL (laws_szExplanationS_es N))) N laws_szExplanationS_an laws_szExplanationS_sg Try.f42 (Try.f42.body.getD .skip) [.val ty9 a, .val i64 left_] (un1 i64) = laws_szExplanationS_b N (laws_szExplanationS_l0_E N N) a left_ := by kernel_rfl
noncomputable def laws_szExplanationS_e (N : Nat) : Entry Try.prog := ⟨42, laws_szExplanationS_sg, [.v ty9, .v i64], Int, laws_szExplanationS N, pk1 i64, entry_en Try.func42 (code := Try.f42.body.getD .skip) (by kernel_rfl) (by kernel_rfl),
  fun a left_ => entry_ok tab_ok (es := laws_szExplanationS_es N) (by kernel_rfl) mixed Try.func42 (by kernel_rfl) rfl (un1_pk i64) (by rw [laws_szExplanationS_v, laws_szExplanationS_l0_q]; rfl)⟩
noncomputable def laws_toIntS_es (N : Nat) : List (Entry Try.prog) := []
def laws_toIntS_sg : Sig := ⟨[.val ty0], [(ty0, true)], false⟩
def laws_toIntS_an : Nat → Option (List Nat)
  | 0 => some [0, 3, 4]
  | _ => none
noncomputable def laws_toIntS_lp (N : Nat) (p : List Dir) (rs : List (Env → Option (List Int))) (k : Nat) (env : Env) : Option (List Int) :=
  loopAt Tb (sigL (laws_toIntS_es N)) cps (orcL (laws_toIntS_es N)) N laws_toIntS_an p (Try.f23.body.getD .skip) (endK Tb laws_toIntS_sg Try.f23 [] (un1 ty0)) rs k env
noncomputable def laws_toIntS_l0_E (N : Nat) (k_ : Nat) (a2 : List Int) (out : List Int) (i : Int) : Option (List Int) :=
  laws_toIntS_lp N [.r, .r, .l, .r, .b] [] k_ (.con .val [lf ty0 a2 .ro] :: (un 2 (.con .val [lf ty0 out .dp] :: (.con .val [lf i64 i .ro] :: (un 17 [])))))
theorem laws_toIntS_l0_z (N : Nat) (a2 : List Int) (out : List Int) (i : Int) : laws_toIntS_l0_E N 0 a2 out i = none := by kernel_rfl
theorem laws_toIntS_l0_s (N : Nat) (k_ : Nat) (a2 : List Int) (out : List Int) (i : Int) : laws_toIntS_l0_E N (k_ + 1) a2 out i = laws_toIntS_l0_b N (laws_toIntS_l0_E N k_) a2 out i := by kernel_rfl
theorem laws_toIntS_l0_q (N : Nat) : ∀ k_, laws_toIntS_l0_E N k_ = laws_toIntS_l0 N k_
  | 0 => by funext a2 out i; exact laws_toIntS_l0_z N a2 out i
  | k_ + 1 => by funext a2 out i; rw [laws_toIntS_l0_s]; simp only [laws_toIntS_l0_q N k_]; rfl
theorem laws_toIntS_v (N : Nat) (a : List Int) :
    evFn Tb (sigL (laws_toIntS_es N)) cps (orcL (laws_toIntS_es N)) (drawReg Tb (sigL (laws_toIntS_es N)) cps (orcL (laws_toIntS_es N))) N laws_toIntS_an laws_toIntS_sg Try.f23 (Try.f23.body.getD .skip) [.val ty0 a] (un1 ty0) = laws_toIntS_b N (laws_toIntS_l0_E N N) a := by kernel_rfl
noncomputable def laws_toIntS_e (N : Nat) : Entry Try.prog := ⟨23, laws_toIntS_sg, [.v ty0], List Int, laws_toIntS N, pk1 ty0, entry_en Try.func23 (code := Try.f23.body.getD .skip) (by kernel_rfl) (by kernel_rfl),
  fun a => entry_ok tab_ok (es := laws_toIntS_es N) (by kernel_rfl) mixed Try.func23 (by kernel_rfl) rfl (un1_pk ty0) (by rw [laws_toIntS_v, laws_toIntS_l0_q]; rfl)⟩
noncomputable def laws_toAtom_es (N : Nat) : List (Entry Try.prog) := [laws_toIntS_e N]
def laws_toAtom_sg : Sig := ⟨[.val ty1], [(ty1, true)], false⟩
def laws_toAtom_an : Nat → Option (List Nat) := fun _ => none
theorem laws_toAtom_v (N : Nat) (a : Int × List Int) :
    evFn Tb (sigL (laws_toAtom_es N)) cps (orcL (laws_toAtom_es N)) (drawReg Tb (sigL (laws_toAtom_es N)) cps (orcL (laws_toAtom_es N))) N laws_toAtom_an laws_toAtom_sg Try.f173 (Try.f173.body.getD .skip) [.val ty1 a] (un1 ty1) = laws_toAtom N a := by kernel_rfl
noncomputable def laws_toAtom_e (N : Nat) : Entry Try.prog := ⟨173, laws_toAtom_sg, [.v ty1], Int × List Int, laws_toAtom N, pk1 ty1, entry_en Try.func173 (code := Try.f173.body.getD .skip) (by kernel_rfl) (by kernel_rfl),
  fun a => entry_ok tab_ok (es := laws_toAtom_es N) (by kernel_rfl) mixed Try.func173 (by kernel_rfl) rfl (un1_pk ty1) (laws_toAtom_v N a)⟩
noncomputable def laws_toRewritingStep_es (N : Nat) : List (Entry Try.prog) := [laws_toAtom_e N, laws_toIntS_e N]
def laws_toRewritingStep_sg : Sig := ⟨[.val ty2], [(ty2, true)], false⟩
def laws_toRewritingStep_an : Nat → Option (List Nat) := fun _ => none
theorem laws_toRewritingStep_v (N : Nat) (a : (Int × List Int) × List Int × List Int) :
    evFn Tb (sigL (laws_toRewritingStep_es N)) cps (orcL (laws_toRewritingStep_es N)) (drawReg Tb (sigL (laws_toRewritingStep_es N)) cps (orcL (laws_toRewritingStep_es N))) N laws_toRewritingStep_an laws_toRewritingStep_sg Try.f166 (Try.f166.body.getD .skip) [.val ty2 a] (un1 ty2) = laws_toRewritingStep N a := by kernel_rfl
noncomputable def laws_toRewritingStep_e (N : Nat) : Entry Try.prog := ⟨166, laws_toRewritingStep_sg, [.v ty2], (Int × List Int) × List Int × List Int, laws_toRewritingStep N, pk1 ty2, entry_en Try.func166 (code := Try.f166.body.getD .skip) (by kernel_rfl) (by kernel_rfl),
  fun a => entry_ok tab_ok (es := laws_toRewritingStep_es N) (by kernel_rfl) mixed Try.func166 (by kernel_rfl) rfl (un1_pk ty2) (laws_toRewritingStep_v N a)⟩
noncomputable def laws_toRewritingStepS_es (N : Nat) : List (Entry Try.prog) := [laws_toRewritingStep_e N]
def laws_toRewritingStepS_sg : Sig := ⟨[.val ty3], [(ty10, true)], false⟩
def laws_toRewritingStepS_an : Nat → Option (List Nat)
  | 0 => some [0, 3, 4]
  | _ => none
noncomputable def laws_toRewritingStepS_lp (N : Nat) (p : List Dir) (rs : List (Env → Option (List ((Int × List Int) × List Int × List Int)))) (k : Nat) (env : Env) : Option (List ((Int × List Int) × List Int × List Int)) :=
  loopAt Tb (sigL (laws_toRewritingStepS_es N)) cps (orcL (laws_toRewritingStepS_es N)) N laws_toRewritingStepS_an p (Try.f153.body.getD .skip) (endK Tb laws_toRewritingStepS_sg Try.f153 [] (un1 ty10)) rs k env
noncomputable def laws_toRewritingStepS_l0_E (N : Nat) (k_ : Nat) (a2 : List ((Int × List Int) × List Int × List Int)) (out : List ((Int × List Int) × List Int × List Int)) (i : Int) : Option (List ((Int × List Int) × List Int × List Int)) :=
  laws_toRewritingStepS_lp N [.r, .r, .l, .r, .b] [] k_ (.con .val [lf ty3 a2 .ro] :: (un 2 (.con .val [lf ty10 out .dp] :: (.con .val [lf i64 i .ro] :: (un 18 [])))))
theorem laws_toRewritingStepS_l0_z (N : Nat) (a2 : List ((Int × List Int) × List Int × List Int)) (out : List ((Int × List Int) × List Int × List Int)) (i : Int) : laws_toRewritingStepS_l0_E N 0 a2 out i = none := by kernel_rfl
theorem laws_toRewritingStepS_l0_s (N : Nat) (k_ : Nat) (a2 : List ((Int × List Int) × List Int × List Int)) (out : List ((Int × List Int) × List Int × List Int)) (i : Int) : laws_toRewritingStepS_l0_E N (k_ + 1) a2 out i = laws_toRewritingStepS_l0_b N (laws_toRewritingStepS_l0_E N k_) a2 out i := by kernel_rfl
theorem laws_toRewritingStepS_l0_q (N : Nat) : ∀ k_, laws_toRewritingStepS_l0_E N k_ = laws_toRewritingStepS_l0 N k_
  | 0 => by funext a2 out i; exact laws_toRewritingStepS_l0_z N a2 out i
  | k_ + 1 => by funext a2 out i; rw [laws_toRewritingStepS_l0_s]; simp only [laws_toRewritingStepS_l0_q N k_]; rfl
theorem laws_toRewritingStepS_v (N : Nat) (a : List ((Int × List Int) × List Int × List Int)) :
    evFn Tb (sigL (laws_toRewritingStepS_es N)) cps (orcL (laws_toRewritingStepS_es N)) (drawReg Tb (sigL (laws_toRewritingStepS_es N)) cps (orcL (laws_toRewritingStepS_es N))) N laws_toRewritingStepS_an laws_toRewritingStepS_sg Try.f153 (Try.f153.body.getD .skip) [.val ty3 a] (un1 ty10) = laws_toRewritingStepS_b N (laws_toRewritingStepS_l0_E N N) a := by kernel_rfl
noncomputable def laws_toRewritingStepS_e (N : Nat) : Entry Try.prog := ⟨153, laws_toRewritingStepS_sg, [.v ty3], List ((Int × List Int) × List Int × List Int), laws_toRewritingStepS N, pk1 ty10, entry_en Try.func153 (code := Try.f153.body.getD .skip) (by kernel_rfl) (by kernel_rfl),
  fun a => entry_ok tab_ok (es := laws_toRewritingStepS_es N) (by kernel_rfl) mixed Try.func153 (by kernel_rfl) rfl (un1_pk ty10) (by rw [laws_toRewritingStepS_v, laws_toRewritingStepS_l0_q]; rfl)⟩
noncomputable def laws_toDerivationStep_es (N : Nat) : List (Entry Try.prog) := [laws_toIntS_e N]
def laws_toDerivationStep_sg : Sig := ⟨[.val ty4], [(ty4, true)], false⟩
def laws_toDerivationStep_an : Nat → Option (List Nat) := fun _ => none
theorem laws_toDerivationStep_v (N : Nat) (a : List Int × Int) :
    evFn Tb (sigL (laws_toDerivationStep_es N)) cps (orcL (laws_toDerivationStep_es N)) (drawReg Tb (sigL (laws_toDerivationStep_es N)) cps (orcL (laws_toDerivationStep_es N))) N laws_toDerivationStep_an laws_toDerivationStep_sg Try.f167 (Try.f167.body.getD .skip) [.val ty4 a] (un1 ty4) = laws_toDerivationStep N a := by kernel_rfl
noncomputable def laws_toDerivationStep_e (N : Nat) : Entry Try.prog := ⟨167, laws_toDerivationStep_sg, [.v ty4], List Int × Int, laws_toDerivationStep N, pk1 ty4, entry_en Try.func167 (code := Try.f167.body.getD .skip) (by kernel_rfl) (by kernel_rfl),
  fun a => entry_ok tab_ok (es := laws_toDerivationStep_es N) (by kernel_rfl) mixed Try.func167 (by kernel_rfl) rfl (un1_pk ty4) (laws_toDerivationStep_v N a)⟩
noncomputable def laws_toDerivationStepS_es (N : Nat) : List (Entry Try.prog) := [laws_toDerivationStep_e N]
def laws_toDerivationStepS_sg : Sig := ⟨[.val ty5], [(ty11, true)], false⟩
def laws_toDerivationStepS_an : Nat → Option (List Nat)
  | 0 => some [0, 3, 4]
  | _ => none
noncomputable def laws_toDerivationStepS_lp (N : Nat) (p : List Dir) (rs : List (Env → Option (List (List Int × Int)))) (k : Nat) (env : Env) : Option (List (List Int × Int)) :=
  loopAt Tb (sigL (laws_toDerivationStepS_es N)) cps (orcL (laws_toDerivationStepS_es N)) N laws_toDerivationStepS_an p (Try.f154.body.getD .skip) (endK Tb laws_toDerivationStepS_sg Try.f154 [] (un1 ty11)) rs k env
noncomputable def laws_toDerivationStepS_l0_E (N : Nat) (k_ : Nat) (a2 : List (List Int × Int)) (out : List (List Int × Int)) (i : Int) : Option (List (List Int × Int)) :=
  laws_toDerivationStepS_lp N [.r, .r, .l, .r, .b] [] k_ (.con .val [lf ty5 a2 .ro] :: (un 2 (.con .val [lf ty11 out .dp] :: (.con .val [lf i64 i .ro] :: (un 18 [])))))
theorem laws_toDerivationStepS_l0_z (N : Nat) (a2 : List (List Int × Int)) (out : List (List Int × Int)) (i : Int) : laws_toDerivationStepS_l0_E N 0 a2 out i = none := by kernel_rfl
theorem laws_toDerivationStepS_l0_s (N : Nat) (k_ : Nat) (a2 : List (List Int × Int)) (out : List (List Int × Int)) (i : Int) : laws_toDerivationStepS_l0_E N (k_ + 1) a2 out i = laws_toDerivationStepS_l0_b N (laws_toDerivationStepS_l0_E N k_) a2 out i := by kernel_rfl
theorem laws_toDerivationStepS_l0_q (N : Nat) : ∀ k_, laws_toDerivationStepS_l0_E N k_ = laws_toDerivationStepS_l0 N k_
  | 0 => by funext a2 out i; exact laws_toDerivationStepS_l0_z N a2 out i
  | k_ + 1 => by funext a2 out i; rw [laws_toDerivationStepS_l0_s]; simp only [laws_toDerivationStepS_l0_q N k_]; rfl
theorem laws_toDerivationStepS_v (N : Nat) (a : List (List Int × Int)) :
    evFn Tb (sigL (laws_toDerivationStepS_es N)) cps (orcL (laws_toDerivationStepS_es N)) (drawReg Tb (sigL (laws_toDerivationStepS_es N)) cps (orcL (laws_toDerivationStepS_es N))) N laws_toDerivationStepS_an laws_toDerivationStepS_sg Try.f154 (Try.f154.body.getD .skip) [.val ty5 a] (un1 ty11) = laws_toDerivationStepS_b N (laws_toDerivationStepS_l0_E N N) a := by kernel_rfl
noncomputable def laws_toDerivationStepS_e (N : Nat) : Entry Try.prog := ⟨154, laws_toDerivationStepS_sg, [.v ty5], List (List Int × Int), laws_toDerivationStepS N, pk1 ty11, entry_en Try.func154 (code := Try.f154.body.getD .skip) (by kernel_rfl) (by kernel_rfl),
  fun a => entry_ok tab_ok (es := laws_toDerivationStepS_es N) (by kernel_rfl) mixed Try.func154 (by kernel_rfl) rfl (un1_pk ty11) (by rw [laws_toDerivationStepS_v, laws_toDerivationStepS_l0_q]; rfl)⟩
noncomputable def laws_toIntSS_es (N : Nat) : List (Entry Try.prog) := [laws_toIntS_e N]
def laws_toIntSS_sg : Sig := ⟨[.val ty6], [(ty6, true)], false⟩
def laws_toIntSS_an : Nat → Option (List Nat)
  | 0 => some [0, 3, 4]
  | _ => none
noncomputable def laws_toIntSS_lp (N : Nat) (p : List Dir) (rs : List (Env → Option (List (List Int)))) (k : Nat) (env : Env) : Option (List (List Int)) :=
  loopAt Tb (sigL (laws_toIntSS_es N)) cps (orcL (laws_toIntSS_es N)) N laws_toIntSS_an p (Try.f22.body.getD .skip) (endK Tb laws_toIntSS_sg Try.f22 [] (un1 ty6)) rs k env
noncomputable def laws_toIntSS_l0_E (N : Nat) (k_ : Nat) (a2 : List (List Int)) (out : List (List Int)) (i : Int) : Option (List (List Int)) :=
  laws_toIntSS_lp N [.r, .r, .l, .r, .b] [] k_ (.con .val [lf ty6 a2 .ro] :: (un 2 (.con .val [lf ty6 out .dp] :: (.con .val [lf i64 i .ro] :: (un 18 [])))))
theorem laws_toIntSS_l0_z (N : Nat) (a2 : List (List Int)) (out : List (List Int)) (i : Int) : laws_toIntSS_l0_E N 0 a2 out i = none := by kernel_rfl
theorem laws_toIntSS_l0_s (N : Nat) (k_ : Nat) (a2 : List (List Int)) (out : List (List Int)) (i : Int) : laws_toIntSS_l0_E N (k_ + 1) a2 out i = laws_toIntSS_l0_b N (laws_toIntSS_l0_E N k_) a2 out i := by kernel_rfl
theorem laws_toIntSS_l0_q (N : Nat) : ∀ k_, laws_toIntSS_l0_E N k_ = laws_toIntSS_l0 N k_
  | 0 => by funext a2 out i; exact laws_toIntSS_l0_z N a2 out i
  | k_ + 1 => by funext a2 out i; rw [laws_toIntSS_l0_s]; simp only [laws_toIntSS_l0_q N k_]; rfl
theorem laws_toIntSS_v (N : Nat) (a : List (List Int)) :
    evFn Tb (sigL (laws_toIntSS_es N)) cps (orcL (laws_toIntSS_es N)) (drawReg Tb (sigL (laws_toIntSS_es N)) cps (orcL (laws_toIntSS_es N))) N laws_toIntSS_an laws_toIntSS_sg Try.f22 (Try.f22.body.getD .skip) [.val ty6 a] (un1 ty6) = laws_toIntSS_b N (laws_toIntSS_l0_E N N) a := by kernel_rfl
noncomputable def laws_toIntSS_e (N : Nat) : Entry Try.prog := ⟨22, laws_toIntSS_sg, [.v ty6], List (List Int), laws_toIntSS N, pk1 ty6, entry_en Try.func22 (code := Try.f22.body.getD .skip) (by kernel_rfl) (by kernel_rfl),
  fun a => entry_ok tab_ok (es := laws_toIntSS_es N) (by kernel_rfl) mixed Try.func22 (by kernel_rfl) rfl (un1_pk ty6) (by rw [laws_toIntSS_v, laws_toIntSS_l0_q]; rfl)⟩
noncomputable def laws_toJustification_es (N : Nat) : List (Entry Try.prog) := [laws_toIntS_e N, laws_toRewritingStepS_e N, laws_toDerivationStepS_e N, laws_toIntSS_e N]
def laws_toJustification_sg : Sig := ⟨[.val ty7], [(ty12, true)], false⟩
def laws_toJustification_an : Nat → Option (List Nat) := fun _ => none
theorem laws_toJustification_v (N : Nat) (a : Int × Bool × List Int × List ((Int × List Int) × List Int × List Int) × List (List Int × Int) × List (List Int)) :
    evFn Tb (sigL (laws_toJustification_es N)) cps (orcL (laws_toJustification_es N)) (drawReg Tb (sigL (laws_toJustification_es N)) cps (orcL (laws_toJustification_es N))) N laws_toJustification_an laws_toJustification_sg Try.f131 (Try.f131.body.getD .skip) [.val ty7 a] (un1 ty12) = laws_toJustification N a := by kernel_rfl
noncomputable def laws_toJustification_e (N : Nat) : Entry Try.prog := ⟨131, laws_toJustification_sg, [.v ty7], Int × Bool × List Int × List ((Int × List Int) × List Int × List Int) × List (List Int × Int) × List (List Int), laws_toJustification N, pk1 ty12, entry_en Try.func131 (code := Try.f131.body.getD .skip) (by kernel_rfl) (by kernel_rfl),
  fun a => entry_ok tab_ok (es := laws_toJustification_es N) (by kernel_rfl) mixed Try.func131 (by kernel_rfl) rfl (un1_pk ty12) (laws_toJustification_v N a)⟩
noncomputable def laws_toExplanation_es (N : Nat) : List (Entry Try.prog) := [laws_toIntS_e N, laws_toJustification_e N]
def laws_toExplanation_sg : Sig := ⟨[.val ty8], [(ty13, true)], false⟩
def laws_toExplanation_an : Nat → Option (List Nat) := fun _ => none
theorem laws_toExplanation_v (N : Nat) (a : List Int × Int × Bool × List Int × List ((Int × List Int) × List Int × List Int) × List (List Int × Int) × List (List Int)) :
    evFn Tb (sigL (laws_toExplanation_es N)) cps (orcL (laws_toExplanation_es N)) (drawReg Tb (sigL (laws_toExplanation_es N)) cps (orcL (laws_toExplanation_es N))) N laws_toExplanation_an laws_toExplanation_sg Try.f86 (Try.f86.body.getD .skip) [.val ty8 a] (un1 ty13) = laws_toExplanation N a := by kernel_rfl
noncomputable def laws_toExplanation_e (N : Nat) : Entry Try.prog := ⟨86, laws_toExplanation_sg, [.v ty8], List Int × Int × Bool × List Int × List ((Int × List Int) × List Int × List Int) × List (List Int × Int) × List (List Int), laws_toExplanation N, pk1 ty13, entry_en Try.func86 (code := Try.f86.body.getD .skip) (by kernel_rfl) (by kernel_rfl),
  fun a => entry_ok tab_ok (es := laws_toExplanation_es N) (by kernel_rfl) mixed Try.func86 (by kernel_rfl) rfl (un1_pk ty13) (laws_toExplanation_v N a)⟩
noncomputable def laws_toExplanationS_es (N : Nat) : List (Entry Try.prog) := [laws_toExplanation_e N]
def laws_toExplanationS_sg : Sig := ⟨[.val ty9], [(ty14, true)], false⟩
def laws_toExplanationS_an : Nat → Option (List Nat)
  | 0 => some [0, 3, 4]
  | _ => none
noncomputable def laws_toExplanationS_lp (N : Nat) (p : List Dir) (rs : List (Env → Option (List (List Int × Int × Bool × List Int × List ((Int × List Int) × List Int × List Int) × List (List Int × Int) × List (List Int))))) (k : Nat) (env : Env) : Option (List (List Int × Int × Bool × List Int × List ((Int × List Int) × List Int × List Int) × List (List Int × Int) × List (List Int))) :=
  loopAt Tb (sigL (laws_toExplanationS_es N)) cps (orcL (laws_toExplanationS_es N)) N laws_toExplanationS_an p (Try.f44.body.getD .skip) (endK Tb laws_toExplanationS_sg Try.f44 [] (un1 ty14)) rs k env
noncomputable def laws_toExplanationS_l0_E (N : Nat) (k_ : Nat) (a2 : List (List Int × Int × Bool × List Int × List ((Int × List Int) × List Int × List Int) × List (List Int × Int) × List (List Int))) (out : List (List Int × Int × Bool × List Int × List ((Int × List Int) × List Int × List Int) × List (List Int × Int) × List (List Int))) (i : Int) : Option (List (List Int × Int × Bool × List Int × List ((Int × List Int) × List Int × List Int) × List (List Int × Int) × List (List Int))) :=
  laws_toExplanationS_lp N [.r, .r, .l, .r, .b] [] k_ (.con .val [lf ty9 a2 .ro] :: (un 2 (.con .val [lf ty14 out .dp] :: (.con .val [lf i64 i .ro] :: (un 18 [])))))
theorem laws_toExplanationS_l0_z (N : Nat) (a2 : List (List Int × Int × Bool × List Int × List ((Int × List Int) × List Int × List Int) × List (List Int × Int) × List (List Int))) (out : List (List Int × Int × Bool × List Int × List ((Int × List Int) × List Int × List Int) × List (List Int × Int) × List (List Int))) (i : Int) : laws_toExplanationS_l0_E N 0 a2 out i = none := by kernel_rfl
theorem laws_toExplanationS_l0_s (N : Nat) (k_ : Nat) (a2 : List (List Int × Int × Bool × List Int × List ((Int × List Int) × List Int × List Int) × List (List Int × Int) × List (List Int))) (out : List (List Int × Int × Bool × List Int × List ((Int × List Int) × List Int × List Int) × List (List Int × Int) × List (List Int))) (i : Int) : laws_toExplanationS_l0_E N (k_ + 1) a2 out i = laws_toExplanationS_l0_b N (laws_toExplanationS_l0_E N k_) a2 out i := by kernel_rfl
theorem laws_toExplanationS_l0_q (N : Nat) : ∀ k_, laws_toExplanationS_l0_E N k_ = laws_toExplanationS_l0 N k_
  | 0 => by funext a2 out i; exact laws_toExplanationS_l0_z N a2 out i
  | k_ + 1 => by funext a2 out i; rw [laws_toExplanationS_l0_s]; simp only [laws_toExplanationS_l0_q N k_]; rfl
theorem laws_toExplanationS_v (N : Nat) (a : List (List Int × Int × Bool × List Int × List ((Int × List Int) × List Int × List Int) × List (List Int × Int) × List (List Int))) :
    evFn Tb (sigL (laws_toExplanationS_es N)) cps (orcL (laws_toExplanationS_es N)) (drawReg Tb (sigL (laws_toExplanationS_es N)) cps (orcL (laws_toExplanationS_es N))) N laws_toExplanationS_an laws_toExplanationS_sg Try.f44 (Try.f44.body.getD .skip) [.val ty9 a] (un1 ty14) = laws_toExplanationS_b N (laws_toExplanationS_l0_E N N) a := by kernel_rfl
noncomputable def laws_toExplanationS_e (N : Nat) : Entry Try.prog := ⟨44, laws_toExplanationS_sg, [.v ty9], List (List Int × Int × Bool × List Int × List ((Int × List Int) × List Int × List Int) × List (List Int × Int) × List (List Int)), laws_toExplanationS N, pk1 ty14, entry_en Try.func44 (code := Try.f44.body.getD .skip) (by kernel_rfl) (by kernel_rfl),
  fun a => entry_ok tab_ok (es := laws_toExplanationS_es N) (by kernel_rfl) mixed Try.func44 (by kernel_rfl) rfl (un1_pk ty14) (by rw [laws_toExplanationS_v, laws_toExplanationS_l0_q]; rfl)⟩
noncomputable def spec_CertainRowsOf_es (N : Nat) : List (Entry Try.prog) := []
def spec_CertainRowsOf_sg : Sig := ⟨[.val ty14], [(ty6, true)], false⟩
def spec_CertainRowsOf_an : Nat → Option (List Nat)
  | 0 => some [0, 3, 4]
  | _ => none
noncomputable def spec_CertainRowsOf_lp (N : Nat) (p : List Dir) (rs : List (Env → Option (List (List Int)))) (k : Nat) (env : Env) : Option (List (List Int)) :=
  loopAt Tb (sigL (spec_CertainRowsOf_es N)) cps (orcL (spec_CertainRowsOf_es N)) N spec_CertainRowsOf_an p (Try.f43.body.getD .skip) (endK Tb spec_CertainRowsOf_sg Try.f43 [] (un1 ty6)) rs k env
noncomputable def spec_CertainRowsOf_l0_E (N : Nat) (k_ : Nat) (l2 : List (List Int × Int × Bool × List Int × List ((Int × List Int) × List Int × List Int) × List (List Int × Int) × List (List Int))) (out : List (List Int)) (i : Int) : Option (List (List Int)) :=
  spec_CertainRowsOf_lp N [.r, .r, .l, .r, .b] [] k_ (.con .val [lf ty14 l2 .ro] :: (un 2 (.con .val [lf ty6 out .dp] :: (.con .val [lf i64 i .ro] :: (un 24 [])))))
theorem spec_CertainRowsOf_l0_z (N : Nat) (l2 : List (List Int × Int × Bool × List Int × List ((Int × List Int) × List Int × List Int) × List (List Int × Int) × List (List Int))) (out : List (List Int)) (i : Int) : spec_CertainRowsOf_l0_E N 0 l2 out i = none := by kernel_rfl
theorem spec_CertainRowsOf_l0_s (N : Nat) (k_ : Nat) (l2 : List (List Int × Int × Bool × List Int × List ((Int × List Int) × List Int × List Int) × List (List Int × Int) × List (List Int))) (out : List (List Int)) (i : Int) : spec_CertainRowsOf_l0_E N (k_ + 1) l2 out i = spec_CertainRowsOf_l0_b N (spec_CertainRowsOf_l0_E N k_) l2 out i := by kernel_rfl
theorem spec_CertainRowsOf_l0_q (N : Nat) : ∀ k_, spec_CertainRowsOf_l0_E N k_ = spec_CertainRowsOf_l0 N k_
  | 0 => by funext l2 out i; exact spec_CertainRowsOf_l0_z N l2 out i
  | k_ + 1 => by funext l2 out i; rw [spec_CertainRowsOf_l0_s]; simp only [spec_CertainRowsOf_l0_q N k_]; rfl
theorem spec_CertainRowsOf_v (N : Nat) (l : List (List Int × Int × Bool × List Int × List ((Int × List Int) × List Int × List Int) × List (List Int × Int) × List (List Int))) :
    evFn Tb (sigL (spec_CertainRowsOf_es N)) cps (orcL (spec_CertainRowsOf_es N)) (drawReg Tb (sigL (spec_CertainRowsOf_es N)) cps (orcL (spec_CertainRowsOf_es N))) N spec_CertainRowsOf_an spec_CertainRowsOf_sg Try.f43 (Try.f43.body.getD .skip) [.val ty14 l] (un1 ty6) = spec_CertainRowsOf_b N (spec_CertainRowsOf_l0_E N N) l := by kernel_rfl
noncomputable def spec_CertainRowsOf_e (N : Nat) : Entry Try.prog := ⟨43, spec_CertainRowsOf_sg, [.v ty14], List (List Int), spec_CertainRowsOf N, pk1 ty6, entry_en Try.func43 (code := Try.f43.body.getD .skip) (by kernel_rfl) (by kernel_rfl),
  fun l => entry_ok tab_ok (es := spec_CertainRowsOf_es N) (by kernel_rfl) mixed Try.func43 (by kernel_rfl) rfl (un1_pk ty6) (by rw [spec_CertainRowsOf_v, spec_CertainRowsOf_l0_q]; rfl)⟩
noncomputable def impl_CertainRowsOf_es (N : Nat) : List (Entry Try.prog) := []
def impl_CertainRowsOf_sg : Sig := ⟨[.val ty14], [(ty6, true)], false⟩
def impl_CertainRowsOf_an : Nat → Option (List Nat)
  | 0 => some [3, 7, 8, 9]
  | _ => none
noncomputable def impl_CertainRowsOf_lp (N : Nat) (p : List Dir) (rs : List (Env → Option (List (List Int)))) (k : Nat) (env : Env) : Option (List (List Int)) :=
  loopAt Tb (sigL (impl_CertainRowsOf_es N)) cps (orcL (impl_CertainRowsOf_es N)) N impl_CertainRowsOf_an p (Try.f45.body.getD .skip) (endK Tb impl_CertainRowsOf_sg Try.f45 [] (un1 ty6)) rs k env
noncomputable def impl_CertainRowsOf_l0_E (N : Nat) (k_ : Nat) (out : List (List Int)) (t7 : List (List Int × Int × Bool × List Int × List ((Int × List Int) × List Int × List Int) × List (List Int × Int) × List (List Int))) (t8 : Int) (t9 : Int) : Option (List (List Int)) :=
  impl_CertainRowsOf_lp N [.r, .r, .l, .r, .b] [] k_ (un 3 (.con .val [lf ty6 out .dp] :: (un 3 (.con .val [lf ty14 t7 .ro] :: (.con .val [lf i64 t8 .ro] :: (.con .val [lf i64 t9 .ro] :: (un 15 [])))))))
theorem impl_CertainRowsOf_l0_z (N : Nat) (out : List (List Int)) (t7 : List (List Int × Int × Bool × List Int × List ((Int × List Int) × List Int × List Int) × List (List Int × Int) × List (List Int))) (t8 : Int) (t9 : Int) : impl_CertainRowsOf_l0_E N 0 out t7 t8 t9 = none := by kernel_rfl
theorem impl_CertainRowsOf_l0_s (N : Nat) (k_ : Nat) (out : List (List Int)) (t7 : List (List Int × Int × Bool × List Int × List ((Int × List Int) × List Int × List Int) × List (List Int × Int) × List (List Int))) (t8 : Int) (t9 : Int) : impl_CertainRowsOf_l0_E N (k_ + 1) out t7 t8 t9 = impl_CertainRowsOf_l0_b N (impl_CertainRowsOf_l0_E N k_) out t7 t8 t9 := by kernel_rfl
theorem impl_CertainRowsOf_l0_q (N : Nat) : ∀ k_, impl_CertainRowsOf_l0_E N k_ = impl_CertainRowsOf_l0 N k_
  | 0 => by funext out t7 t8 t9; exact impl_CertainRowsOf_l0_z N out t7 t8 t9
  | k_ + 1 => by funext out t7 t8 t9; rw [impl_CertainRowsOf_l0_s]; simp only [impl_CertainRowsOf_l0_q N k_]; rfl
theorem impl_CertainRowsOf_v (N : Nat) (explanations : List (List Int × Int × Bool × List Int × List ((Int × List Int) × List Int × List Int) × List (List Int × Int) × List (List Int))) :
    evFn Tb (sigL (impl_CertainRowsOf_es N)) cps (orcL (impl_CertainRowsOf_es N)) (drawReg Tb (sigL (impl_CertainRowsOf_es N)) cps (orcL (impl_CertainRowsOf_es N))) N impl_CertainRowsOf_an impl_CertainRowsOf_sg Try.f45 (Try.f45.body.getD .skip) [.val ty14 explanations] (un1 ty6) = impl_CertainRowsOf_b N (impl_CertainRowsOf_l0_E N N) explanations := by kernel_rfl
noncomputable def impl_CertainRowsOf_e (N : Nat) : Entry Try.prog := ⟨45, impl_CertainRowsOf_sg, [.v ty14], List (List Int), impl_CertainRowsOf N, pk1 ty6, entry_en Try.func45 (code := Try.f45.body.getD .skip) (by kernel_rfl) (by kernel_rfl),
  fun explanations => entry_ok tab_ok (es := impl_CertainRowsOf_es N) (by kernel_rfl) mixed Try.func45 (by kernel_rfl) rfl (un1_pk ty6) (by rw [impl_CertainRowsOf_v, impl_CertainRowsOf_l0_q]; rfl)⟩
noncomputable def laws_eqIntS_es (N : Nat) : List (Entry Try.prog) := []
def laws_eqIntS_sg : Sig := ⟨[.val ty0, .val ty0], [(.bool, true)], false⟩
def laws_eqIntS_an : Nat → Option (List Nat)
  | 0 => some [0, 1, 5]
  | _ => none
noncomputable def laws_eqIntS_lp (N : Nat) (p : List Dir) (rs : List (Env → Option (Bool))) (k : Nat) (env : Env) : Option (Bool) :=
  loopAt Tb (sigL (laws_eqIntS_es N)) cps (orcL (laws_eqIntS_es N)) N laws_eqIntS_an p (Try.f26.body.getD .skip) (endK Tb laws_eqIntS_sg Try.f26 [] (un1 .bool)) rs k env
noncomputable def laws_eqIntS_l0_E (N : Nat) (k_ : Nat) (a2 : List Int) (b2 : List Int) (i : Int) : Option (Bool) :=
  laws_eqIntS_lp N [.r, .r, .l, .r, .b] [] k_ (.con .val [lf ty0 a2 .ro] :: (.con .val [lf ty0 b2 .ro] :: (un 3 (.con .val [lf i64 i .ro] :: (un 20 [])))))
theorem laws_eqIntS_l0_z (N : Nat) (a2 : List Int) (b2 : List Int) (i : Int) : laws_eqIntS_l0_E N 0 a2 b2 i = none := by kernel_rfl
theorem laws_eqIntS_l0_s (N : Nat) (k_ : Nat) (a2 : List Int) (b2 : List Int) (i : Int) : laws_eqIntS_l0_E N (k_ + 1) a2 b2 i = laws_eqIntS_l0_b N (laws_eqIntS_l0_E N k_) a2 b2 i := by kernel_rfl
theorem laws_eqIntS_l0_q (N : Nat) : ∀ k_, laws_eqIntS_l0_E N k_ = laws_eqIntS_l0 N k_
  | 0 => by funext a2 b2 i; exact laws_eqIntS_l0_z N a2 b2 i
  | k_ + 1 => by funext a2 b2 i; rw [laws_eqIntS_l0_s]; simp only [laws_eqIntS_l0_q N k_]; rfl
theorem laws_eqIntS_v (N : Nat) (a : List Int) (b : List Int) :
    evFn Tb (sigL (laws_eqIntS_es N)) cps (orcL (laws_eqIntS_es N)) (drawReg Tb (sigL (laws_eqIntS_es N)) cps (orcL (laws_eqIntS_es N))) N laws_eqIntS_an laws_eqIntS_sg Try.f26 (Try.f26.body.getD .skip) [.val ty0 a, .val ty0 b] (un1 .bool) = laws_eqIntS_b N (laws_eqIntS_l0_E N N) a b := by kernel_rfl
noncomputable def laws_eqIntS_e (N : Nat) : Entry Try.prog := ⟨26, laws_eqIntS_sg, [.v ty0, .v ty0], Bool, laws_eqIntS N, pk1 .bool, entry_en Try.func26 (code := Try.f26.body.getD .skip) (by kernel_rfl) (by kernel_rfl),
  fun a b => entry_ok tab_ok (es := laws_eqIntS_es N) (by kernel_rfl) mixed Try.func26 (by kernel_rfl) rfl (un1_pk .bool) (by rw [laws_eqIntS_v, laws_eqIntS_l0_q]; rfl)⟩
noncomputable def laws_eqIntSS_es (N : Nat) : List (Entry Try.prog) := [laws_eqIntS_e N]
def laws_eqIntSS_sg : Sig := ⟨[.val ty6, .val ty6], [(.bool, true)], false⟩
def laws_eqIntSS_an : Nat → Option (List Nat)
  | 0 => some [0, 1, 5]
  | _ => none
noncomputable def laws_eqIntSS_lp (N : Nat) (p : List Dir) (rs : List (Env → Option (Bool))) (k : Nat) (env : Env) : Option (Bool) :=
  loopAt Tb (sigL (laws_eqIntSS_es N)) cps (orcL (laws_eqIntSS_es N)) N laws_eqIntSS_an p (Try.f25.body.getD .skip) (endK Tb laws_eqIntSS_sg Try.f25 [] (un1 .bool)) rs k env
noncomputable def laws_eqIntSS_l0_E (N : Nat) (k_ : Nat) (a2 : List (List Int)) (b2 : List (List Int)) (i : Int) : Option (Bool) :=
  laws_eqIntSS_lp N [.r, .r, .l, .r, .b] [] k_ (.con .val [lf ty6 a2 .ro] :: (.con .val [lf ty6 b2 .ro] :: (un 3 (.con .val [lf i64 i .ro] :: (un 21 [])))))
theorem laws_eqIntSS_l0_z (N : Nat) (a2 : List (List Int)) (b2 : List (List Int)) (i : Int) : laws_eqIntSS_l0_E N 0 a2 b2 i = none := by kernel_rfl
theorem laws_eqIntSS_l0_s (N : Nat) (k_ : Nat) (a2 : List (List Int)) (b2 : List (List Int)) (i : Int) : laws_eqIntSS_l0_E N (k_ + 1) a2 b2 i = laws_eqIntSS_l0_b N (laws_eqIntSS_l0_E N k_) a2 b2 i := by kernel_rfl
theorem laws_eqIntSS_l0_q (N : Nat) : ∀ k_, laws_eqIntSS_l0_E N k_ = laws_eqIntSS_l0 N k_
  | 0 => by funext a2 b2 i; exact laws_eqIntSS_l0_z N a2 b2 i
  | k_ + 1 => by funext a2 b2 i; rw [laws_eqIntSS_l0_s]; simp only [laws_eqIntSS_l0_q N k_]; rfl
theorem laws_eqIntSS_v (N : Nat) (a : List (List Int)) (b : List (List Int)) :
    evFn Tb (sigL (laws_eqIntSS_es N)) cps (orcL (laws_eqIntSS_es N)) (drawReg Tb (sigL (laws_eqIntSS_es N)) cps (orcL (laws_eqIntSS_es N))) N laws_eqIntSS_an laws_eqIntSS_sg Try.f25 (Try.f25.body.getD .skip) [.val ty6 a, .val ty6 b] (un1 .bool) = laws_eqIntSS_b N (laws_eqIntSS_l0_E N N) a b := by kernel_rfl
noncomputable def laws_eqIntSS_e (N : Nat) : Entry Try.prog := ⟨25, laws_eqIntSS_sg, [.v ty6, .v ty6], Bool, laws_eqIntSS N, pk1 .bool, entry_en Try.func25 (code := Try.f25.body.getD .skip) (by kernel_rfl) (by kernel_rfl),
  fun a b => entry_ok tab_ok (es := laws_eqIntSS_es N) (by kernel_rfl) mixed Try.func25 (by kernel_rfl) rfl (un1_pk .bool) (by rw [laws_eqIntSS_v, laws_eqIntSS_l0_q]; rfl)⟩
noncomputable def laws_eqAtom_es (N : Nat) : List (Entry Try.prog) := [laws_eqIntS_e N]
def laws_eqAtom_sg : Sig := ⟨[.val ty1, .val ty1], [(.bool, true)], false⟩
def laws_eqAtom_an : Nat → Option (List Nat) := fun _ => none
theorem laws_eqAtom_v (N : Nat) (a : Int × List Int) (b : Int × List Int) :
    evFn Tb (sigL (laws_eqAtom_es N)) cps (orcL (laws_eqAtom_es N)) (drawReg Tb (sigL (laws_eqAtom_es N)) cps (orcL (laws_eqAtom_es N))) N laws_eqAtom_an laws_eqAtom_sg Try.f107 (Try.f107.body.getD .skip) [.val ty1 a, .val ty1 b] (un1 .bool) = laws_eqAtom N a b := by kernel_rfl
noncomputable def laws_eqAtom_e (N : Nat) : Entry Try.prog := ⟨107, laws_eqAtom_sg, [.v ty1, .v ty1], Bool, laws_eqAtom N, pk1 .bool, entry_en Try.func107 (code := Try.f107.body.getD .skip) (by kernel_rfl) (by kernel_rfl),
  fun a b => entry_ok tab_ok (es := laws_eqAtom_es N) (by kernel_rfl) mixed Try.func107 (by kernel_rfl) rfl (un1_pk .bool) (laws_eqAtom_v N a b)⟩
noncomputable def laws_eqRewritingStep_es (N : Nat) : List (Entry Try.prog) := [laws_eqAtom_e N, laws_eqIntS_e N]
def laws_eqRewritingStep_sg : Sig := ⟨[.val ty2, .val ty2], [(.bool, true)], false⟩
def laws_eqRewritingStep_an : Nat → Option (List Nat) := fun _ => none
theorem laws_eqRewritingStep_v (N : Nat) (a : (Int × List Int) × List Int × List Int) (b : (Int × List Int) × List Int × List Int) :
    evFn Tb (sigL (laws_eqRewritingStep_es N)) cps (orcL (laws_eqRewritingStep_es N)) (drawReg Tb (sigL (laws_eqRewritingStep_es N)) cps (orcL (laws_eqRewritingStep_es N))) N laws_eqRewritingStep_an laws_eqRewritingStep_sg Try.f168 (Try.f168.body.getD .skip) [.val ty2 a, .val ty2 b] (un1 .bool) = laws_eqRewritingStep N a b := by kernel_rfl
noncomputable def laws_eqRewritingStep_e (N : Nat) : Entry Try.prog := ⟨168, laws_eqRewritingStep_sg, [.v ty2, .v ty2], Bool, laws_eqRewritingStep N, pk1 .bool, entry_en Try.func168 (code := Try.f168.body.getD .skip) (by kernel_rfl) (by kernel_rfl),
  fun a b => entry_ok tab_ok (es := laws_eqRewritingStep_es N) (by kernel_rfl) mixed Try.func168 (by kernel_rfl) rfl (un1_pk .bool) (laws_eqRewritingStep_v N a b)⟩
noncomputable def laws_eqRewritingStepS_es (N : Nat) : List (Entry Try.prog) := [laws_eqRewritingStep_e N]
def laws_eqRewritingStepS_sg : Sig := ⟨[.val ty10, .val ty10], [(.bool, true)], false⟩
def laws_eqRewritingStepS_an : Nat → Option (List Nat)
  | 0 => some [0, 1, 5]
  | _ => none
noncomputable def laws_eqRewritingStepS_lp (N : Nat) (p : List Dir) (rs : List (Env → Option (Bool))) (k : Nat) (env : Env) : Option (Bool) :=
  loopAt Tb (sigL (laws_eqRewritingStepS_es N)) cps (orcL (laws_eqRewritingStepS_es N)) N laws_eqRewritingStepS_an p (Try.f155.body.getD .skip) (endK Tb laws_eqRewritingStepS_sg Try.f155 [] (un1 .bool)) rs k env
noncomputable def laws_eqRewritingStepS_l0_E (N : Nat) (k_ : Nat) (a2 : List ((Int × List Int) × List Int × List Int)) (b2 : List ((Int × List Int) × List Int × List Int)) (i : Int) : Option (Bool) :=
  laws_eqRewritingStepS_lp N [.r, .r, .l, .r, .b] [] k_ (.con .val [lf ty10 a2 .ro] :: (.con .val [lf ty10 b2 .ro] :: (un 3 (.con .val [lf i64 i .ro] :: (un 21 [])))))
theorem laws_eqRewritingStepS_l0_z (N : Nat) (a2 : List ((Int × List Int) × List Int × List Int)) (b2 : List ((Int × List Int) × List Int × List Int)) (i : Int) : laws_eqRewritingStepS_l0_E N 0 a2 b2 i = none := by kernel_rfl
theorem laws_eqRewritingStepS_l0_s (N : Nat) (k_ : Nat) (a2 : List ((Int × List Int) × List Int × List Int)) (b2 : List ((Int × List Int) × List Int × List Int)) (i : Int) : laws_eqRewritingStepS_l0_E N (k_ + 1) a2 b2 i = laws_eqRewritingStepS_l0_b N (laws_eqRewritingStepS_l0_E N k_) a2 b2 i := by kernel_rfl
theorem laws_eqRewritingStepS_l0_q (N : Nat) : ∀ k_, laws_eqRewritingStepS_l0_E N k_ = laws_eqRewritingStepS_l0 N k_
  | 0 => by funext a2 b2 i; exact laws_eqRewritingStepS_l0_z N a2 b2 i
  | k_ + 1 => by funext a2 b2 i; rw [laws_eqRewritingStepS_l0_s]; simp only [laws_eqRewritingStepS_l0_q N k_]; rfl
theorem laws_eqRewritingStepS_v (N : Nat) (a : List ((Int × List Int) × List Int × List Int)) (b : List ((Int × List Int) × List Int × List Int)) :
    evFn Tb (sigL (laws_eqRewritingStepS_es N)) cps (orcL (laws_eqRewritingStepS_es N)) (drawReg Tb (sigL (laws_eqRewritingStepS_es N)) cps (orcL (laws_eqRewritingStepS_es N))) N laws_eqRewritingStepS_an laws_eqRewritingStepS_sg Try.f155 (Try.f155.body.getD .skip) [.val ty10 a, .val ty10 b] (un1 .bool) = laws_eqRewritingStepS_b N (laws_eqRewritingStepS_l0_E N N) a b := by kernel_rfl
noncomputable def laws_eqRewritingStepS_e (N : Nat) : Entry Try.prog := ⟨155, laws_eqRewritingStepS_sg, [.v ty10, .v ty10], Bool, laws_eqRewritingStepS N, pk1 .bool, entry_en Try.func155 (code := Try.f155.body.getD .skip) (by kernel_rfl) (by kernel_rfl),
  fun a b => entry_ok tab_ok (es := laws_eqRewritingStepS_es N) (by kernel_rfl) mixed Try.func155 (by kernel_rfl) rfl (un1_pk .bool) (by rw [laws_eqRewritingStepS_v, laws_eqRewritingStepS_l0_q]; rfl)⟩
noncomputable def laws_eqDerivationStep_es (N : Nat) : List (Entry Try.prog) := [laws_eqIntS_e N]
def laws_eqDerivationStep_sg : Sig := ⟨[.val ty4, .val ty4], [(.bool, true)], false⟩
def laws_eqDerivationStep_an : Nat → Option (List Nat) := fun _ => none
theorem laws_eqDerivationStep_v (N : Nat) (a : List Int × Int) (b : List Int × Int) :
    evFn Tb (sigL (laws_eqDerivationStep_es N)) cps (orcL (laws_eqDerivationStep_es N)) (drawReg Tb (sigL (laws_eqDerivationStep_es N)) cps (orcL (laws_eqDerivationStep_es N))) N laws_eqDerivationStep_an laws_eqDerivationStep_sg Try.f169 (Try.f169.body.getD .skip) [.val ty4 a, .val ty4 b] (un1 .bool) = laws_eqDerivationStep N a b := by kernel_rfl
noncomputable def laws_eqDerivationStep_e (N : Nat) : Entry Try.prog := ⟨169, laws_eqDerivationStep_sg, [.v ty4, .v ty4], Bool, laws_eqDerivationStep N, pk1 .bool, entry_en Try.func169 (code := Try.f169.body.getD .skip) (by kernel_rfl) (by kernel_rfl),
  fun a b => entry_ok tab_ok (es := laws_eqDerivationStep_es N) (by kernel_rfl) mixed Try.func169 (by kernel_rfl) rfl (un1_pk .bool) (laws_eqDerivationStep_v N a b)⟩
noncomputable def laws_eqDerivationStepS_es (N : Nat) : List (Entry Try.prog) := [laws_eqDerivationStep_e N]
def laws_eqDerivationStepS_sg : Sig := ⟨[.val ty11, .val ty11], [(.bool, true)], false⟩
def laws_eqDerivationStepS_an : Nat → Option (List Nat)
  | 0 => some [0, 1, 5]
  | _ => none
noncomputable def laws_eqDerivationStepS_lp (N : Nat) (p : List Dir) (rs : List (Env → Option (Bool))) (k : Nat) (env : Env) : Option (Bool) :=
  loopAt Tb (sigL (laws_eqDerivationStepS_es N)) cps (orcL (laws_eqDerivationStepS_es N)) N laws_eqDerivationStepS_an p (Try.f156.body.getD .skip) (endK Tb laws_eqDerivationStepS_sg Try.f156 [] (un1 .bool)) rs k env
noncomputable def laws_eqDerivationStepS_l0_E (N : Nat) (k_ : Nat) (a2 : List (List Int × Int)) (b2 : List (List Int × Int)) (i : Int) : Option (Bool) :=
  laws_eqDerivationStepS_lp N [.r, .r, .l, .r, .b] [] k_ (.con .val [lf ty11 a2 .ro] :: (.con .val [lf ty11 b2 .ro] :: (un 3 (.con .val [lf i64 i .ro] :: (un 21 [])))))
theorem laws_eqDerivationStepS_l0_z (N : Nat) (a2 : List (List Int × Int)) (b2 : List (List Int × Int)) (i : Int) : laws_eqDerivationStepS_l0_E N 0 a2 b2 i = none := by kernel_rfl
theorem laws_eqDerivationStepS_l0_s (N : Nat) (k_ : Nat) (a2 : List (List Int × Int)) (b2 : List (List Int × Int)) (i : Int) : laws_eqDerivationStepS_l0_E N (k_ + 1) a2 b2 i = laws_eqDerivationStepS_l0_b N (laws_eqDerivationStepS_l0_E N k_) a2 b2 i := by kernel_rfl
theorem laws_eqDerivationStepS_l0_q (N : Nat) : ∀ k_, laws_eqDerivationStepS_l0_E N k_ = laws_eqDerivationStepS_l0 N k_
  | 0 => by funext a2 b2 i; exact laws_eqDerivationStepS_l0_z N a2 b2 i
  | k_ + 1 => by funext a2 b2 i; rw [laws_eqDerivationStepS_l0_s]; simp only [laws_eqDerivationStepS_l0_q N k_]; rfl
theorem laws_eqDerivationStepS_v (N : Nat) (a : List (List Int × Int)) (b : List (List Int × Int)) :
    evFn Tb (sigL (laws_eqDerivationStepS_es N)) cps (orcL (laws_eqDerivationStepS_es N)) (drawReg Tb (sigL (laws_eqDerivationStepS_es N)) cps (orcL (laws_eqDerivationStepS_es N))) N laws_eqDerivationStepS_an laws_eqDerivationStepS_sg Try.f156 (Try.f156.body.getD .skip) [.val ty11 a, .val ty11 b] (un1 .bool) = laws_eqDerivationStepS_b N (laws_eqDerivationStepS_l0_E N N) a b := by kernel_rfl
noncomputable def laws_eqDerivationStepS_e (N : Nat) : Entry Try.prog := ⟨156, laws_eqDerivationStepS_sg, [.v ty11, .v ty11], Bool, laws_eqDerivationStepS N, pk1 .bool, entry_en Try.func156 (code := Try.f156.body.getD .skip) (by kernel_rfl) (by kernel_rfl),
  fun a b => entry_ok tab_ok (es := laws_eqDerivationStepS_es N) (by kernel_rfl) mixed Try.func156 (by kernel_rfl) rfl (un1_pk .bool) (by rw [laws_eqDerivationStepS_v, laws_eqDerivationStepS_l0_q]; rfl)⟩
noncomputable def laws_eqJustification_es (N : Nat) : List (Entry Try.prog) := [laws_eqIntS_e N, laws_eqRewritingStepS_e N, laws_eqDerivationStepS_e N, laws_eqIntSS_e N]
def laws_eqJustification_sg : Sig := ⟨[.val ty12, .val ty12], [(.bool, true)], false⟩
def laws_eqJustification_an : Nat → Option (List Nat) := fun _ => none
theorem laws_eqJustification_v (N : Nat) (a : Int × Bool × List Int × List ((Int × List Int) × List Int × List Int) × List (List Int × Int) × List (List Int)) (b : Int × Bool × List Int × List ((Int × List Int) × List Int × List Int) × List (List Int × Int) × List (List Int)) :
    evFn Tb (sigL (laws_eqJustification_es N)) cps (orcL (laws_eqJustification_es N)) (drawReg Tb (sigL (laws_eqJustification_es N)) cps (orcL (laws_eqJustification_es N))) N laws_eqJustification_an laws_eqJustification_sg Try.f132 (Try.f132.body.getD .skip) [.val ty12 a, .val ty12 b] (un1 .bool) = laws_eqJustification N a b := by kernel_rfl
noncomputable def laws_eqJustification_e (N : Nat) : Entry Try.prog := ⟨132, laws_eqJustification_sg, [.v ty12, .v ty12], Bool, laws_eqJustification N, pk1 .bool, entry_en Try.func132 (code := Try.f132.body.getD .skip) (by kernel_rfl) (by kernel_rfl),
  fun a b => entry_ok tab_ok (es := laws_eqJustification_es N) (by kernel_rfl) mixed Try.func132 (by kernel_rfl) rfl (un1_pk .bool) (laws_eqJustification_v N a b)⟩
noncomputable def laws_eqExplanation_es (N : Nat) : List (Entry Try.prog) := [laws_eqIntS_e N, laws_eqJustification_e N]
def laws_eqExplanation_sg : Sig := ⟨[.val ty13, .val ty13], [(.bool, true)], false⟩
def laws_eqExplanation_an : Nat → Option (List Nat) := fun _ => none
theorem laws_eqExplanation_v (N : Nat) (a : List Int × Int × Bool × List Int × List ((Int × List Int) × List Int × List Int) × List (List Int × Int) × List (List Int)) (b : List Int × Int × Bool × List Int × List ((Int × List Int) × List Int × List Int) × List (List Int × Int) × List (List Int)) :
    evFn Tb (sigL (laws_eqExplanation_es N)) cps (orcL (laws_eqExplanation_es N)) (drawReg Tb (sigL (laws_eqExplanation_es N)) cps (orcL (laws_eqExplanation_es N))) N laws_eqExplanation_an laws_eqExplanation_sg Try.f87 (Try.f87.body.getD .skip) [.val ty13 a, .val ty13 b] (un1 .bool) = laws_eqExplanation N a b := by kernel_rfl
noncomputable def laws_eqExplanation_e (N : Nat) : Entry Try.prog := ⟨87, laws_eqExplanation_sg, [.v ty13, .v ty13], Bool, laws_eqExplanation N, pk1 .bool, entry_en Try.func87 (code := Try.f87.body.getD .skip) (by kernel_rfl) (by kernel_rfl),
  fun a b => entry_ok tab_ok (es := laws_eqExplanation_es N) (by kernel_rfl) mixed Try.func87 (by kernel_rfl) rfl (un1_pk .bool) (laws_eqExplanation_v N a b)⟩
noncomputable def laws_eqExplanationS_es (N : Nat) : List (Entry Try.prog) := [laws_eqExplanation_e N]
def laws_eqExplanationS_sg : Sig := ⟨[.val ty14, .val ty14], [(.bool, true)], false⟩
def laws_eqExplanationS_an : Nat → Option (List Nat)
  | 0 => some [0, 1, 5]
  | _ => none
noncomputable def laws_eqExplanationS_lp (N : Nat) (p : List Dir) (rs : List (Env → Option (Bool))) (k : Nat) (env : Env) : Option (Bool) :=
  loopAt Tb (sigL (laws_eqExplanationS_es N)) cps (orcL (laws_eqExplanationS_es N)) N laws_eqExplanationS_an p (Try.f46.body.getD .skip) (endK Tb laws_eqExplanationS_sg Try.f46 [] (un1 .bool)) rs k env
noncomputable def laws_eqExplanationS_l0_E (N : Nat) (k_ : Nat) (a2 : List (List Int × Int × Bool × List Int × List ((Int × List Int) × List Int × List Int) × List (List Int × Int) × List (List Int))) (b2 : List (List Int × Int × Bool × List Int × List ((Int × List Int) × List Int × List Int) × List (List Int × Int) × List (List Int))) (i : Int) : Option (Bool) :=
  laws_eqExplanationS_lp N [.r, .r, .l, .r, .b] [] k_ (.con .val [lf ty14 a2 .ro] :: (.con .val [lf ty14 b2 .ro] :: (un 3 (.con .val [lf i64 i .ro] :: (un 21 [])))))
theorem laws_eqExplanationS_l0_z (N : Nat) (a2 : List (List Int × Int × Bool × List Int × List ((Int × List Int) × List Int × List Int) × List (List Int × Int) × List (List Int))) (b2 : List (List Int × Int × Bool × List Int × List ((Int × List Int) × List Int × List Int) × List (List Int × Int) × List (List Int))) (i : Int) : laws_eqExplanationS_l0_E N 0 a2 b2 i = none := by kernel_rfl
theorem laws_eqExplanationS_l0_s (N : Nat) (k_ : Nat) (a2 : List (List Int × Int × Bool × List Int × List ((Int × List Int) × List Int × List Int) × List (List Int × Int) × List (List Int))) (b2 : List (List Int × Int × Bool × List Int × List ((Int × List Int) × List Int × List Int) × List (List Int × Int) × List (List Int))) (i : Int) : laws_eqExplanationS_l0_E N (k_ + 1) a2 b2 i = laws_eqExplanationS_l0_b N (laws_eqExplanationS_l0_E N k_) a2 b2 i := by kernel_rfl
theorem laws_eqExplanationS_l0_q (N : Nat) : ∀ k_, laws_eqExplanationS_l0_E N k_ = laws_eqExplanationS_l0 N k_
  | 0 => by funext a2 b2 i; exact laws_eqExplanationS_l0_z N a2 b2 i
  | k_ + 1 => by funext a2 b2 i; rw [laws_eqExplanationS_l0_s]; simp only [laws_eqExplanationS_l0_q N k_]; rfl
theorem laws_eqExplanationS_v (N : Nat) (a : List (List Int × Int × Bool × List Int × List ((Int × List Int) × List Int × List Int) × List (List Int × Int) × List (List Int))) (b : List (List Int × Int × Bool × List Int × List ((Int × List Int) × List Int × List Int) × List (List Int × Int) × List (List Int))) :
    evFn Tb (sigL (laws_eqExplanationS_es N)) cps (orcL (laws_eqExplanationS_es N)) (drawReg Tb (sigL (laws_eqExplanationS_es N)) cps (orcL (laws_eqExplanationS_es N))) N laws_eqExplanationS_an laws_eqExplanationS_sg Try.f46 (Try.f46.body.getD .skip) [.val ty14 a, .val ty14 b] (un1 .bool) = laws_eqExplanationS_b N (laws_eqExplanationS_l0_E N N) a b := by kernel_rfl
noncomputable def laws_eqExplanationS_e (N : Nat) : Entry Try.prog := ⟨46, laws_eqExplanationS_sg, [.v ty14, .v ty14], Bool, laws_eqExplanationS N, pk1 .bool, entry_en Try.func46 (code := Try.f46.body.getD .skip) (by kernel_rfl) (by kernel_rfl),
  fun a b => entry_ok tab_ok (es := laws_eqExplanationS_es N) (by kernel_rfl) mixed Try.func46 (by kernel_rfl) rfl (un1_pk .bool) (by rw [laws_eqExplanationS_v, laws_eqExplanationS_l0_q]; rfl)⟩
noncomputable def laws_markIntS_es (N : Nat) : List (Entry Try.prog) := []
def laws_markIntS_sg : Sig := ⟨[.val ty0, .val i64], [(i64, true)], true⟩
def laws_markIntS_an : Nat → Option (List Nat)
  | 0 => some [0, 1, 5]
  | _ => none
noncomputable def laws_markIntS_lp (N : Nat) (p : List Dir) (rs : List (Env → Option (List Int × Int))) (k : Nat) (env : Env) : Option (List Int × Int) :=
  loopAt Tb (sigL (laws_markIntS_es N)) cps (orcL (laws_markIntS_es N)) N laws_markIntS_an p (Try.f28.body.getD .skip) (endK Tb laws_markIntS_sg Try.f28 [.val ty0 []] (un2 ty0 i64)) rs k env
noncomputable def laws_markIntS_l0_E (N : Nat) (k_ : Nat) (a2 : List Int) (k2 : Int) (i : Int) : Option (List Int × Int) :=
  laws_markIntS_lp N [.r, .l, .r, .b] [] k_ (.con .val [⟨ty0, a2, (.at_ (.pn 0))⟩] :: (.con .val [lf i64 k2 .ro] :: (un 3 (.con .val [lf i64 i .ro] :: (un 13 [])))))
theorem laws_markIntS_l0_z (N : Nat) (a2 : List Int) (k2 : Int) (i : Int) : laws_markIntS_l0_E N 0 a2 k2 i = none := by kernel_rfl
theorem laws_markIntS_l0_s (N : Nat) (k_ : Nat) (a2 : List Int) (k2 : Int) (i : Int) : laws_markIntS_l0_E N (k_ + 1) a2 k2 i = laws_markIntS_l0_b N (laws_markIntS_l0_E N k_) a2 k2 i := by kernel_rfl
theorem laws_markIntS_l0_q (N : Nat) : ∀ k_, laws_markIntS_l0_E N k_ = laws_markIntS_l0 N k_
  | 0 => by funext a2 k2 i; exact laws_markIntS_l0_z N a2 k2 i
  | k_ + 1 => by funext a2 k2 i; rw [laws_markIntS_l0_s]; simp only [laws_markIntS_l0_q N k_]; rfl
theorem laws_markIntS_v (N : Nat) (a : List Int) (k : Int) :
    evFn Tb (sigL (laws_markIntS_es N)) cps (orcL (laws_markIntS_es N)) (drawReg Tb (sigL (laws_markIntS_es N)) cps (orcL (laws_markIntS_es N))) N laws_markIntS_an laws_markIntS_sg Try.f28 (Try.f28.body.getD .skip) [.val ty0 a, .val i64 k] (un2 ty0 i64) = laws_markIntS_b N (laws_markIntS_l0_E N N) a k := by kernel_rfl
noncomputable def laws_markIntS_e (N : Nat) : Entry Try.prog := ⟨28, laws_markIntS_sg, [.v ty0, .v i64], List Int × Int, laws_markIntS N, pk2 ty0 i64, entry_en Try.func28 (code := Try.f28.body.getD .skip) (by kernel_rfl) (by kernel_rfl),
  fun a k => entry_okM tab_ok (es := laws_markIntS_es N) (by kernel_rfl) mixed Try.func28 (by kernel_rfl) rfl (fun _ => ⟨_, _, rfl⟩) (un2_pk ty0 i64) (by rw [laws_markIntS_v, laws_markIntS_l0_q]; rfl)⟩
noncomputable def laws_markRewritingStepS_es (N : Nat) : List (Entry Try.prog) := [laws_markIntS_e N]
def laws_markRewritingStepS_sg : Sig := ⟨[.val ty10, .val i64], [(i64, true)], true⟩
def laws_markRewritingStepS_an : Nat → Option (List Nat)
  | 0 => some [0, 1, 5]
  | _ => none
noncomputable def laws_markRewritingStepS_lp (N : Nat) (p : List Dir) (rs : List (Env → Option ((List ((Int × List Int) × List Int × List Int)) × Int))) (k : Nat) (env : Env) : Option ((List ((Int × List Int) × List Int × List Int)) × Int) :=
  loopAt Tb (sigL (laws_markRewritingStepS_es N)) cps (orcL (laws_markRewritingStepS_es N)) N laws_markRewritingStepS_an p (Try.f88.body.getD .skip) (endK Tb laws_markRewritingStepS_sg Try.f88 [.val ty10 []] (un2 ty10 i64)) rs k env
noncomputable def laws_markRewritingStepS_l0_E (N : Nat) (k_ : Nat) (a2 : List ((Int × List Int) × List Int × List Int)) (k2 : Int) (i : Int) : Option ((List ((Int × List Int) × List Int × List Int)) × Int) :=
  laws_markRewritingStepS_lp N [.r, .l, .r, .b] [] k_ (.con .val [⟨ty10, a2, (.at_ (.pn 0))⟩] :: (.con .val [lf i64 k2 .ro] :: (un 3 (.con .val [lf i64 i .ro] :: (un 37 [])))))
theorem laws_markRewritingStepS_l0_z (N : Nat) (a2 : List ((Int × List Int) × List Int × List Int)) (k2 : Int) (i : Int) : laws_markRewritingStepS_l0_E N 0 a2 k2 i = none := by kernel_rfl
theorem laws_markRewritingStepS_l0_s (N : Nat) (k_ : Nat) (a2 : List ((Int × List Int) × List Int × List Int)) (k2 : Int) (i : Int) : laws_markRewritingStepS_l0_E N (k_ + 1) a2 k2 i = laws_markRewritingStepS_l0_b N (laws_markRewritingStepS_l0_E N k_) a2 k2 i := by kernel_rfl
theorem laws_markRewritingStepS_l0_q (N : Nat) : ∀ k_, laws_markRewritingStepS_l0_E N k_ = laws_markRewritingStepS_l0 N k_
  | 0 => by funext a2 k2 i; exact laws_markRewritingStepS_l0_z N a2 k2 i
  | k_ + 1 => by funext a2 k2 i; rw [laws_markRewritingStepS_l0_s]; simp only [laws_markRewritingStepS_l0_q N k_]; rfl
theorem laws_markRewritingStepS_v (N : Nat) (a : List ((Int × List Int) × List Int × List Int)) (k : Int) :
    evFn Tb (sigL (laws_markRewritingStepS_es N)) cps (orcL (laws_markRewritingStepS_es N)) (drawReg Tb (sigL (laws_markRewritingStepS_es N)) cps (orcL (laws_markRewritingStepS_es N))) N laws_markRewritingStepS_an laws_markRewritingStepS_sg Try.f88 (Try.f88.body.getD .skip) [.val ty10 a, .val i64 k] (un2 ty10 i64) = laws_markRewritingStepS_b N (laws_markRewritingStepS_l0_E N N) a k := by kernel_rfl
noncomputable def laws_markRewritingStepS_e (N : Nat) : Entry Try.prog := ⟨88, laws_markRewritingStepS_sg, [.v ty10, .v i64], (List ((Int × List Int) × List Int × List Int)) × Int, laws_markRewritingStepS N, pk2 ty10 i64, entry_en Try.func88 (code := Try.f88.body.getD .skip) (by kernel_rfl) (by kernel_rfl),
  fun a k => entry_okM tab_ok (es := laws_markRewritingStepS_es N) (by kernel_rfl) mixed Try.func88 (by kernel_rfl) rfl (fun _ => ⟨_, _, rfl⟩) (un2_pk ty10 i64) (by rw [laws_markRewritingStepS_v, laws_markRewritingStepS_l0_q]; rfl)⟩
noncomputable def laws_markDerivationStepS_es (N : Nat) : List (Entry Try.prog) := [laws_markIntS_e N]
def laws_markDerivationStepS_sg : Sig := ⟨[.val ty11, .val i64], [(i64, true)], true⟩
def laws_markDerivationStepS_an : Nat → Option (List Nat)
  | 0 => some [0, 1, 5]
  | _ => none
noncomputable def laws_markDerivationStepS_lp (N : Nat) (p : List Dir) (rs : List (Env → Option ((List (List Int × Int)) × Int))) (k : Nat) (env : Env) : Option ((List (List Int × Int)) × Int) :=
  loopAt Tb (sigL (laws_markDerivationStepS_es N)) cps (orcL (laws_markDerivationStepS_es N)) N laws_markDerivationStepS_an p (Try.f89.body.getD .skip) (endK Tb laws_markDerivationStepS_sg Try.f89 [.val ty11 []] (un2 ty11 i64)) rs k env
noncomputable def laws_markDerivationStepS_l0_E (N : Nat) (k_ : Nat) (a2 : List (List Int × Int)) (k2 : Int) (i : Int) : Option ((List (List Int × Int)) × Int) :=
  laws_markDerivationStepS_lp N [.r, .l, .r, .b] [] k_ (.con .val [⟨ty11, a2, (.at_ (.pn 0))⟩] :: (.con .val [lf i64 k2 .ro] :: (un 3 (.con .val [lf i64 i .ro] :: (un 21 [])))))
theorem laws_markDerivationStepS_l0_z (N : Nat) (a2 : List (List Int × Int)) (k2 : Int) (i : Int) : laws_markDerivationStepS_l0_E N 0 a2 k2 i = none := by kernel_rfl
theorem laws_markDerivationStepS_l0_s (N : Nat) (k_ : Nat) (a2 : List (List Int × Int)) (k2 : Int) (i : Int) : laws_markDerivationStepS_l0_E N (k_ + 1) a2 k2 i = laws_markDerivationStepS_l0_b N (laws_markDerivationStepS_l0_E N k_) a2 k2 i := by kernel_rfl
theorem laws_markDerivationStepS_l0_q (N : Nat) : ∀ k_, laws_markDerivationStepS_l0_E N k_ = laws_markDerivationStepS_l0 N k_
  | 0 => by funext a2 k2 i; exact laws_markDerivationStepS_l0_z N a2 k2 i
  | k_ + 1 => by funext a2 k2 i; rw [laws_markDerivationStepS_l0_s]; simp only [laws_markDerivationStepS_l0_q N k_]; rfl
theorem laws_markDerivationStepS_v (N : Nat) (a : List (List Int × Int)) (k : Int) :
    evFn Tb (sigL (laws_markDerivationStepS_es N)) cps (orcL (laws_markDerivationStepS_es N)) (drawReg Tb (sigL (laws_markDerivationStepS_es N)) cps (orcL (laws_markDerivationStepS_es N))) N laws_markDerivationStepS_an laws_markDerivationStepS_sg Try.f89 (Try.f89.body.getD .skip) [.val ty11 a, .val i64 k] (un2 ty11 i64) = laws_markDerivationStepS_b N (laws_markDerivationStepS_l0_E N N) a k := by kernel_rfl
noncomputable def laws_markDerivationStepS_e (N : Nat) : Entry Try.prog := ⟨89, laws_markDerivationStepS_sg, [.v ty11, .v i64], (List (List Int × Int)) × Int, laws_markDerivationStepS N, pk2 ty11 i64, entry_en Try.func89 (code := Try.f89.body.getD .skip) (by kernel_rfl) (by kernel_rfl),
  fun a k => entry_okM tab_ok (es := laws_markDerivationStepS_es N) (by kernel_rfl) mixed Try.func89 (by kernel_rfl) rfl (fun _ => ⟨_, _, rfl⟩) (un2_pk ty11 i64) (by rw [laws_markDerivationStepS_v, laws_markDerivationStepS_l0_q]; rfl)⟩
noncomputable def laws_markIntSS_es (N : Nat) : List (Entry Try.prog) := [laws_markIntS_e N]
def laws_markIntSS_sg : Sig := ⟨[.val ty6, .val i64], [(i64, true)], true⟩
def laws_markIntSS_an : Nat → Option (List Nat)
  | 0 => some [0, 1, 5]
  | _ => none
noncomputable def laws_markIntSS_lp (N : Nat) (p : List Dir) (rs : List (Env → Option (List (List Int) × Int))) (k : Nat) (env : Env) : Option (List (List Int) × Int) :=
  loopAt Tb (sigL (laws_markIntSS_es N)) cps (orcL (laws_markIntSS_es N)) N laws_markIntSS_an p (Try.f27.body.getD .skip) (endK Tb laws_markIntSS_sg Try.f27 [.val ty6 []] (un2 ty6 i64)) rs k env
noncomputable def laws_markIntSS_l0_E (N : Nat) (k_ : Nat) (a2 : List (List Int)) (k2 : Int) (i : Int) : Option (List (List Int) × Int) :=
  laws_markIntSS_lp N [.r, .l, .r, .b] [] k_ (.con .val [⟨ty6, a2, (.at_ (.pn 0))⟩] :: (.con .val [lf i64 k2 .ro] :: (un 3 (.con .val [lf i64 i .ro] :: (un 13 [])))))
theorem laws_markIntSS_l0_z (N : Nat) (a2 : List (List Int)) (k2 : Int) (i : Int) : laws_markIntSS_l0_E N 0 a2 k2 i = none := by kernel_rfl
theorem laws_markIntSS_l0_s (N : Nat) (k_ : Nat) (a2 : List (List Int)) (k2 : Int) (i : Int) : laws_markIntSS_l0_E N (k_ + 1) a2 k2 i = laws_markIntSS_l0_b N (laws_markIntSS_l0_E N k_) a2 k2 i := by kernel_rfl
theorem laws_markIntSS_l0_q (N : Nat) : ∀ k_, laws_markIntSS_l0_E N k_ = laws_markIntSS_l0 N k_
  | 0 => by funext a2 k2 i; exact laws_markIntSS_l0_z N a2 k2 i
  | k_ + 1 => by funext a2 k2 i; rw [laws_markIntSS_l0_s]; simp only [laws_markIntSS_l0_q N k_]; rfl
theorem laws_markIntSS_v (N : Nat) (a : List (List Int)) (k : Int) :
    evFn Tb (sigL (laws_markIntSS_es N)) cps (orcL (laws_markIntSS_es N)) (drawReg Tb (sigL (laws_markIntSS_es N)) cps (orcL (laws_markIntSS_es N))) N laws_markIntSS_an laws_markIntSS_sg Try.f27 (Try.f27.body.getD .skip) [.val ty6 a, .val i64 k] (un2 ty6 i64) = laws_markIntSS_b N (laws_markIntSS_l0_E N N) a k := by kernel_rfl
noncomputable def laws_markIntSS_e (N : Nat) : Entry Try.prog := ⟨27, laws_markIntSS_sg, [.v ty6, .v i64], List (List Int) × Int, laws_markIntSS N, pk2 ty6 i64, entry_en Try.func27 (code := Try.f27.body.getD .skip) (by kernel_rfl) (by kernel_rfl),
  fun a k => entry_okM tab_ok (es := laws_markIntSS_es N) (by kernel_rfl) mixed Try.func27 (by kernel_rfl) rfl (fun _ => ⟨_, _, rfl⟩) (un2_pk ty6 i64) (by rw [laws_markIntSS_v, laws_markIntSS_l0_q]; rfl)⟩
noncomputable def laws_markExplanationS_es (N : Nat) : List (Entry Try.prog) := [laws_markIntS_e N, laws_markRewritingStepS_e N, laws_markDerivationStepS_e N, laws_markIntSS_e N]
def laws_markExplanationS_sg : Sig := ⟨[.val ty14, .val i64], [(i64, true)], true⟩
def laws_markExplanationS_an : Nat → Option (List Nat)
  | 0 => some [0, 1, 5]
  | _ => none
noncomputable def laws_markExplanationS_lp (N : Nat) (p : List Dir) (rs : List (Env → Option ((List (List Int × Int × Bool × List Int × List ((Int × List Int) × List Int × List Int) × List (List Int × Int) × List (List Int))) × Int))) (k : Nat) (env : Env) : Option ((List (List Int × Int × Bool × List Int × List ((Int × List Int) × List Int × List Int) × List (List Int × Int) × List (List Int))) × Int) :=
  loopAt Tb (sigL (laws_markExplanationS_es N)) cps (orcL (laws_markExplanationS_es N)) N laws_markExplanationS_an p (Try.f47.body.getD .skip) (endK Tb laws_markExplanationS_sg Try.f47 [.val ty14 []] (un2 ty14 i64)) rs k env
noncomputable def laws_markExplanationS_l0_E (N : Nat) (k_ : Nat) (a2 : List (List Int × Int × Bool × List Int × List ((Int × List Int) × List Int × List Int) × List (List Int × Int) × List (List Int))) (k2 : Int) (i : Int) : Option ((List (List Int × Int × Bool × List Int × List ((Int × List Int) × List Int × List Int) × List (List Int × Int) × List (List Int))) × Int) :=
  laws_markExplanationS_lp N [.r, .l, .r, .b] [] k_ (.con .val [⟨ty14, a2, (.at_ (.pn 0))⟩] :: (.con .val [lf i64 k2 .ro] :: (un 3 (.con .val [lf i64 i .ro] :: (un 64 [])))))
theorem laws_markExplanationS_l0_z (N : Nat) (a2 : List (List Int × Int × Bool × List Int × List ((Int × List Int) × List Int × List Int) × List (List Int × Int) × List (List Int))) (k2 : Int) (i : Int) : laws_markExplanationS_l0_E N 0 a2 k2 i = none := by kernel_rfl
theorem laws_markExplanationS_l0_s (N : Nat) (k_ : Nat) (a2 : List (List Int × Int × Bool × List Int × List ((Int × List Int) × List Int × List Int) × List (List Int × Int) × List (List Int))) (k2 : Int) (i : Int) : laws_markExplanationS_l0_E N (k_ + 1) a2 k2 i = laws_markExplanationS_l0_b N (laws_markExplanationS_l0_E N k_) a2 k2 i := by kernel_rfl
theorem laws_markExplanationS_l0_q (N : Nat) : ∀ k_, laws_markExplanationS_l0_E N k_ = laws_markExplanationS_l0 N k_
  | 0 => by funext a2 k2 i; exact laws_markExplanationS_l0_z N a2 k2 i
  | k_ + 1 => by funext a2 k2 i; rw [laws_markExplanationS_l0_s]; simp only [laws_markExplanationS_l0_q N k_]; rfl
theorem laws_markExplanationS_v (N : Nat) (a : List (List Int × Int × Bool × List Int × List ((Int × List Int) × List Int × List Int) × List (List Int × Int) × List (List Int))) (k : Int) :
    evFn Tb (sigL (laws_markExplanationS_es N)) cps (orcL (laws_markExplanationS_es N)) (drawReg Tb (sigL (laws_markExplanationS_es N)) cps (orcL (laws_markExplanationS_es N))) N laws_markExplanationS_an laws_markExplanationS_sg Try.f47 (Try.f47.body.getD .skip) [.val ty14 a, .val i64 k] (un2 ty14 i64) = laws_markExplanationS_b N (laws_markExplanationS_l0_E N N) a k := by kernel_rfl
noncomputable def laws_markExplanationS_e (N : Nat) : Entry Try.prog := ⟨47, laws_markExplanationS_sg, [.v ty14, .v i64], (List (List Int × Int × Bool × List Int × List ((Int × List Int) × List Int × List Int) × List (List Int × Int) × List (List Int))) × Int, laws_markExplanationS N, pk2 ty14 i64, entry_en Try.func47 (code := Try.f47.body.getD .skip) (by kernel_rfl) (by kernel_rfl),
  fun a k => entry_okM tab_ok (es := laws_markExplanationS_es N) (by kernel_rfl) mixed Try.func47 (by kernel_rfl) rfl (fun _ => ⟨_, _, rfl⟩) (un2_pk ty14 i64) (by rw [laws_markExplanationS_v, laws_markExplanationS_l0_q]; rfl)⟩
noncomputable def laws_heldIntS_es (N : Nat) : List (Entry Try.prog) := []
def laws_heldIntS_sg : Sig := ⟨[.val ty0, .val i64], [(i64, true)], false⟩
def laws_heldIntS_an : Nat → Option (List Nat)
  | 0 => some [0, 1, 5]
  | _ => none
noncomputable def laws_heldIntS_lp (N : Nat) (p : List Dir) (rs : List (Env → Option (Int))) (k : Nat) (env : Env) : Option (Int) :=
  loopAt Tb (sigL (laws_heldIntS_es N)) cps (orcL (laws_heldIntS_es N)) N laws_heldIntS_an p (Try.f37.body.getD .skip) (endK Tb laws_heldIntS_sg Try.f37 [] (un1 i64)) rs k env
noncomputable def laws_heldIntS_l0_E (N : Nat) (k_ : Nat) (a2 : List Int) (k2 : Int) (i : Int) : Option (Int) :=
  laws_heldIntS_lp N [.r, .l, .r, .b] [] k_ (.con .val [lf ty0 a2 .ro] :: (.con .val [lf i64 k2 .ro] :: (un 3 (.con .val [lf i64 i .ro] :: (un 15 [])))))
theorem laws_heldIntS_l0_z (N : Nat) (a2 : List Int) (k2 : Int) (i : Int) : laws_heldIntS_l0_E N 0 a2 k2 i = none := by kernel_rfl
theorem laws_heldIntS_l0_s (N : Nat) (k_ : Nat) (a2 : List Int) (k2 : Int) (i : Int) : laws_heldIntS_l0_E N (k_ + 1) a2 k2 i = laws_heldIntS_l0_b N (laws_heldIntS_l0_E N k_) a2 k2 i := by kernel_rfl
theorem laws_heldIntS_l0_q (N : Nat) : ∀ k_, laws_heldIntS_l0_E N k_ = laws_heldIntS_l0 N k_
  | 0 => by funext a2 k2 i; exact laws_heldIntS_l0_z N a2 k2 i
  | k_ + 1 => by funext a2 k2 i; rw [laws_heldIntS_l0_s]; simp only [laws_heldIntS_l0_q N k_]; rfl
theorem laws_heldIntS_v (N : Nat) (a : List Int) (k : Int) :
    evFn Tb (sigL (laws_heldIntS_es N)) cps (orcL (laws_heldIntS_es N)) (drawReg Tb (sigL (laws_heldIntS_es N)) cps (orcL (laws_heldIntS_es N))) N laws_heldIntS_an laws_heldIntS_sg Try.f37 (Try.f37.body.getD .skip) [.val ty0 a, .val i64 k] (un1 i64) = laws_heldIntS_b N (laws_heldIntS_l0_E N N) a k := by kernel_rfl
noncomputable def laws_heldIntS_e (N : Nat) : Entry Try.prog := ⟨37, laws_heldIntS_sg, [.v ty0, .v i64], Int, laws_heldIntS N, pk1 i64, entry_en Try.func37 (code := Try.f37.body.getD .skip) (by kernel_rfl) (by kernel_rfl),
  fun a k => entry_ok tab_ok (es := laws_heldIntS_es N) (by kernel_rfl) mixed Try.func37 (by kernel_rfl) rfl (un1_pk i64) (by rw [laws_heldIntS_v, laws_heldIntS_l0_q]; rfl)⟩
noncomputable def laws_heldIntSS_es (N : Nat) : List (Entry Try.prog) := [laws_heldIntS_e N]
def laws_heldIntSS_sg : Sig := ⟨[.val ty6, .val i64], [(i64, true)], false⟩
def laws_heldIntSS_an : Nat → Option (List Nat)
  | 0 => some [0, 1, 5]
  | _ => none
noncomputable def laws_heldIntSS_lp (N : Nat) (p : List Dir) (rs : List (Env → Option (Int))) (k : Nat) (env : Env) : Option (Int) :=
  loopAt Tb (sigL (laws_heldIntSS_es N)) cps (orcL (laws_heldIntSS_es N)) N laws_heldIntSS_an p (Try.f29.body.getD .skip) (endK Tb laws_heldIntSS_sg Try.f29 [] (un1 i64)) rs k env
noncomputable def laws_heldIntSS_l0_E (N : Nat) (k_ : Nat) (a2 : List (List Int)) (k2 : Int) (i : Int) : Option (Int) :=
  laws_heldIntSS_lp N [.r, .l, .r, .b] [] k_ (.con .val [lf ty6 a2 .ro] :: (.con .val [lf i64 k2 .ro] :: (un 3 (.con .val [lf i64 i .ro] :: (un 15 [])))))
theorem laws_heldIntSS_l0_z (N : Nat) (a2 : List (List Int)) (k2 : Int) (i : Int) : laws_heldIntSS_l0_E N 0 a2 k2 i = none := by kernel_rfl
theorem laws_heldIntSS_l0_s (N : Nat) (k_ : Nat) (a2 : List (List Int)) (k2 : Int) (i : Int) : laws_heldIntSS_l0_E N (k_ + 1) a2 k2 i = laws_heldIntSS_l0_b N (laws_heldIntSS_l0_E N k_) a2 k2 i := by kernel_rfl
theorem laws_heldIntSS_l0_q (N : Nat) : ∀ k_, laws_heldIntSS_l0_E N k_ = laws_heldIntSS_l0 N k_
  | 0 => by funext a2 k2 i; exact laws_heldIntSS_l0_z N a2 k2 i
  | k_ + 1 => by funext a2 k2 i; rw [laws_heldIntSS_l0_s]; simp only [laws_heldIntSS_l0_q N k_]; rfl
theorem laws_heldIntSS_v (N : Nat) (a : List (List Int)) (k : Int) :
    evFn Tb (sigL (laws_heldIntSS_es N)) cps (orcL (laws_heldIntSS_es N)) (drawReg Tb (sigL (laws_heldIntSS_es N)) cps (orcL (laws_heldIntSS_es N))) N laws_heldIntSS_an laws_heldIntSS_sg Try.f29 (Try.f29.body.getD .skip) [.val ty6 a, .val i64 k] (un1 i64) = laws_heldIntSS_b N (laws_heldIntSS_l0_E N N) a k := by kernel_rfl
noncomputable def laws_heldIntSS_e (N : Nat) : Entry Try.prog := ⟨29, laws_heldIntSS_sg, [.v ty6, .v i64], Int, laws_heldIntSS N, pk1 i64, entry_en Try.func29 (code := Try.f29.body.getD .skip) (by kernel_rfl) (by kernel_rfl),
  fun a k => entry_ok tab_ok (es := laws_heldIntSS_es N) (by kernel_rfl) mixed Try.func29 (by kernel_rfl) rfl (un1_pk i64) (by rw [laws_heldIntSS_v, laws_heldIntSS_l0_q]; rfl)⟩
noncomputable def laws_FnExactCertainRowsOf_es (N : Nat) : List (Entry Try.prog) := [laws_szExplanationS_e N, laws_toExplanationS_e N, spec_CertainRowsOf_e N, impl_CertainRowsOf_e N, laws_eqIntSS_e N, laws_eqExplanationS_e N, laws_markExplanationS_e N, laws_markIntSS_e N, laws_heldIntSS_e N]
def laws_FnExactCertainRowsOf_sg : Sig := ⟨[.val ty9], [(.bool, true)], false⟩
def laws_FnExactCertainRowsOf_an : Nat → Option (List Nat) := fun _ => none
theorem laws_FnExactCertainRowsOf_v (N : Nat) (aExplanations : List (List Int × Int × Bool × List Int × List ((Int × List Int) × List Int × List Int) × List (List Int × Int) × List (List Int))) :
    evFn Tb (sigL (laws_FnExactCertainRowsOf_es N)) cps (orcL (laws_FnExactCertainRowsOf_es N)) (drawReg Tb (sigL (laws_FnExactCertainRowsOf_es N)) cps (orcL (laws_FnExactCertainRowsOf_es N))) N laws_FnExactCertainRowsOf_an laws_FnExactCertainRowsOf_sg Try.f9 (Try.f9.body.getD .skip) [.val ty9 aExplanations] (un1 .bool) = laws_FnExactCertainRowsOf N aExplanations := by kernel_rfl
noncomputable def laws_FnExactCertainRowsOf_e (N : Nat) : Entry Try.prog := ⟨9, laws_FnExactCertainRowsOf_sg, [.v ty9], Bool, laws_FnExactCertainRowsOf N, pk1 .bool, entry_en Try.func9 (code := Try.f9.body.getD .skip) (by kernel_rfl) (by kernel_rfl),
  fun aExplanations => entry_ok tab_ok (es := laws_FnExactCertainRowsOf_es N) (by kernel_rfl) mixed Try.func9 (by kernel_rfl) rfl (un1_pk .bool) (laws_FnExactCertainRowsOf_v N aExplanations)⟩
end Go.PL
