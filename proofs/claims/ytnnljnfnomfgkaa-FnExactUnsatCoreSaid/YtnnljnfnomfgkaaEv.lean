/- What the machine does at each function is what the plain reading says. Conditions: none. -/
import Derived.Test.YtnnljnfnomfgkaaFpF
import Derived.Test.YtnnljnfnomfgkaaPlain
import Derived.Test.YtnnljnfnomfgkaaProg

/- What the machine does is what the plain reading says. Conditions: none. -/
namespace Go.PL
open Go.FP Go.Proofs Go.Shelf
set_option linter.unusedVariables false
set_option maxRecDepth 10000

abbrev i64 : Ty := .int .i64
abbrev ty0 : Ty := (.slice 23 (.slice 3 i64))
abbrev ty1 : Ty := (.slice 3 i64)
def Tb : Tab := [⟨3, i64, 8, [], false⟩,
 ⟨4, .bool, 1, [], false⟩,
 ⟨23, ty1, 24, [], false⟩,
 ⟨30, ty0, 24, [], false⟩]
theorem tab_ok : TabOk Try.prog Tb :=
 (tab_cons (TEOk.plain (i := Try.t3) (by kernel_rfl) rfl rfl (by kernel_rfl) rfl rfl Try.underlying3)
 (tab_cons (TEOk.plain (i := Try.t4) (by kernel_rfl) rfl rfl (by kernel_rfl) rfl rfl Try.underlying4)
 (tab_cons (TEOk.plain (i := Try.t23) (by kernel_rfl) rfl rfl (by kernel_rfl) rfl rfl Try.underlying23)
 (tab_cons (TEOk.plain (i := Try.t30) (by kernel_rfl) rfl rfl (by kernel_rfl) rfl rfl Try.underlying30)
 tab_nil))))
theorem mixed : Try.prog.follows .mixedOrders = true := by decide
def cps : FuncId → List Ty := capsL [(146, [i64]), (148, [ty1])]
section
variable {R : Type} (es : List (Entry Try.prog)) (N : Nat) (an : Nat → Option (List Nat))
noncomputable abbrev evE (sg : Sig) (fn : Func) (args : List RV) (K : List (Σ t : Ty, t.D) → Option R) : Option R :=
 evFn Tb (sigL es) cps (orcL es) (drawReg Tb (sigL es) cps (orcL es)) N an sg fn (fn.body.getD .skip) args K
noncomputable abbrev evB (sg : Sig) (b : BoxSig) (fn : Func) (args : List RV) (K : List (Σ t : Ty, t.D) → Option R) : Option R :=
 evFnB Tb (sigL es) cps (orcL es) (drawReg Tb (sigL es) cps (orcL es)) N an sg b fn (fn.body.getD .skip) args K
noncomputable abbrev evN (id : TypeId) (t : Ty) (fn : Func) (args : List RV) (K : List (Σ t : Ty, t.D) → Option R) : Option R :=
 evFnN Tb (sigL es) cps (orcL es) (drawReg Tb (sigL es) cps (orcL es)) N an id t fn (fn.body.getD .skip) args K
noncomputable abbrev lpE (p : List Dir) (fn : Func) (K : Exit → Env → Option R) (rs : List (Env → Option R)) (k : Nat) (env : Env) : Option R :=
 loopAt Tb (sigL es) cps (orcL es) N an p (fn.body.getD .skip) K rs k env
end

theorem slices_Clone_LLint_Lint_b : Bears Try.prog 81 (SlBodyN.n41 (renL 81 0 3 4 30 23)) := ⟨Try.f81.name, by kernel_rfl, Try.func81.trans (congrArg some (by kernel_rfl))⟩
noncomputable def slices_Clone_LLint_Lint_e (N : Nat) : Entry Try.prog := ⟨81, ⟨[.val ty0], [(ty0, .sh)], false, true, none, none⟩, [.v ty0], List (List Int), slices_Clone_LLint_Lint N, pk1 ty0, entry_en Try.func81 (code := Try.f81.body.getD .skip) (by kernel_rfl) (by kernel_rfl),
 fun s q h => clone_ent_sh tab_ok mixed slices_Clone_LLint_Lint_b (by kernel_rfl) Try.underlying4 (te := ⟨23, ty1, 24, [], false⟩) (by kernel_rfl) rfl h⟩
theorem slices_Clone_Lint_int_b : Bears Try.prog 77 (SlBodyN.n41 (renL 77 0 3 4 23 3)) := ⟨Try.f77.name, by kernel_rfl, Try.func77.trans (congrArg some (by kernel_rfl))⟩
noncomputable def slices_Clone_Lint_int_e (N : Nat) : Entry Try.prog := ⟨77, ⟨[.val ty1], [(ty1, .dp)], false, false, none, none⟩, [.v ty1], List Int, slices_Clone_Lint_int N, pk1 ty1, entry_en Try.func77 (code := Try.f77.body.getD .skip) (by kernel_rfl) (by kernel_rfl),
 fun s q h => clone_ent tab_ok mixed slices_Clone_Lint_int_b (by kernel_rfl) Try.underlying4 (te := ⟨3, i64, 8, [], false⟩) (by kernel_rfl) rfl rfl h⟩
theorem slices_Delete_Lint_int_b : Bears Try.prog 76 (SlBodyN.n45 (renL 76 0 3 4 23 3)) := ⟨Try.f76.name, by kernel_rfl, Try.func76.trans (congrArg some (by kernel_rfl))⟩
theorem slices_Delete_Lint_int_t : Try.prog.underlying 0 = some (.tuple #[]) ∧ (∀ w, (isAgg 0).run Try.prog w = .ok false w) ∧ (∀ w, (Go.sizeOf 0).run Try.prog w = .ok 1 w) ∧ ∀ w, (zeroValue 0).run Try.prog w = .ok (.tuple #[]) w := ⟨by kernel_rfl, fun w => Try.isAgg0 w, fun w => Try.sizeOf0 w, fun w => Try.zeroValue0 w⟩
noncomputable def slices_Delete_Lint_int_e (N : Nat) : Entry Try.prog := ⟨76, ⟨[.val ty1, .val i64, .val i64], [(ty1, .dp)], true, true, none, none⟩, [.v ty1, .v i64, .v i64], List Int, slices_Delete_Lint_int N, pk1 ty1, entry_en Try.func76 (code := Try.f76.body.getD .skip) (by kernel_rfl) (by kernel_rfl),
 fun s i j q h => delete_ent tab_ok mixed slices_Delete_Lint_int_b slices_Delete_Lint_int_t (by kernel_rfl) (by kernel_rfl) Try.underlying4 (te := ⟨3, i64, 8, [], false⟩) (by kernel_rfl) rfl rfl rfl h⟩
namespace laws_szIntS
def sG : Sig := ⟨[.val ty1, .val i64], [(i64, .dp)], false, false, none, none⟩
noncomputable def eS (N : Nat) : List (Entry Try.prog) := []
def an_ : Nat → Option (List Nat) := fun _ => none
theorem vV (N : Nat) (a : List Int) (left_ : Int) :
  evE (eS N) N an_ sG Try.f61 [.val ty1 a, .val i64 left_] (un1 i64) = laws_szIntS N a left_ := by kernel_rfl
noncomputable def eE (N : Nat) : Entry Try.prog := ⟨61, sG, [.v ty1, .v i64], Int, laws_szIntS N, pk1 i64, entry_en Try.func61 (code := Try.f61.body.getD .skip) (by kernel_rfl) (by kernel_rfl),
 fun a left_ => entry_ok tab_ok (es := eS N) (by kernel_rfl) mixed Try.func61 (by kernel_rfl) ⟨⟨rfl, rfl⟩, rfl, rfl⟩ (un1_pk i64) (vV N a left_)⟩
end laws_szIntS
namespace laws_szIntSS
def sG : Sig := ⟨[.val ty0, .val i64], [(i64, .dp)], false, false, none, none⟩
noncomputable def eS (N : Nat) : List (Entry Try.prog) := [laws_szIntS.eE N]
def an_ : Nat → Option (List Nat)
 | 0 => some [0, 1, 5]
 | _ => none
noncomputable def lP (N : Nat) (p : List Dir) (rs : List (Env → Option (Int))) (k : Nat) (env : Env) : Option (Int) :=
 lpE (eS N) N an_ p Try.f20 (endK Tb sG Try.f20 [] (un1 i64)) rs k env
noncomputable def El0 (N : Nat) (k_ : Nat) (a2 : List (List Int)) (left_2 : Int) (i : Int) : Option (Int) :=
 lP N [.r, .r, .r, .l, .r, .b] [] k_ (.con .val [lf ty0 a2 .ro] :: (.con .val [lf i64 left_2 .ro] :: (un 3 (.con .val [lf i64 i .ro] :: (un 21 [])))))
theorem ql0 (N : Nat) : ∀ k_, El0 N k_ = laws_szIntSS_l0 N k_
 | 0 => by funext a2 left_2 i; kernel_rfl
 | k_ + 1 => by funext a2 left_2 i; rw [show El0 N (k_ + 1) a2 left_2 i = laws_szIntSS_l0_b N (El0 N k_) a2 left_2 i from by kernel_rfl]; simp only [ql0 N k_]; rfl
theorem vV (N : Nat) (a : List (List Int)) (left_ : Int) :
  evE (eS N) N an_ sG Try.f20 [.val ty0 a, .val i64 left_] (un1 i64) = laws_szIntSS_b N (El0 N N) a left_ := by kernel_rfl
noncomputable def eE (N : Nat) : Entry Try.prog := ⟨20, sG, [.v ty0, .v i64], Int, laws_szIntSS N, pk1 i64, entry_en Try.func20 (code := Try.f20.body.getD .skip) (by kernel_rfl) (by kernel_rfl),
 fun a left_ => entry_ok tab_ok (es := eS N) (by kernel_rfl) mixed Try.func20 (by kernel_rfl) ⟨⟨rfl, rfl⟩, rfl, rfl⟩ (un1_pk i64) ((vV N a left_).trans (by rw [ql0]; rfl))⟩
end laws_szIntSS
namespace laws_toIntS
def sG : Sig := ⟨[.val ty1], [(ty1, .dp)], false, false, none, none⟩
noncomputable def eS (N : Nat) : List (Entry Try.prog) := []
def an_ : Nat → Option (List Nat)
 | 0 => some [0, 3, 4]
 | _ => none
noncomputable def lP (N : Nat) (p : List Dir) (rs : List (Env → Option (List Int))) (k : Nat) (env : Env) : Option (List Int) :=
 lpE (eS N) N an_ p Try.f23 (endK Tb sG Try.f23 [] (un1 ty1)) rs k env
noncomputable def El0 (N : Nat) (k_ : Nat) (a2 : List Int) (out : List Int) (i : Int) : Option (List Int) :=
 lP N [.r, .r, .l, .r, .b] [] k_ (.con .val [lf ty1 a2 .ro] :: (un 2 (.con .val [lf ty1 out .dp] :: (.con .val [lf i64 i .ro] :: (un 17 [])))))
theorem ql0 (N : Nat) : ∀ k_, El0 N k_ = laws_toIntS_l0 N k_
 | 0 => by funext a2 out i; kernel_rfl
 | k_ + 1 => by funext a2 out i; rw [show El0 N (k_ + 1) a2 out i = laws_toIntS_l0_b N (El0 N k_) a2 out i from by kernel_rfl]; simp only [ql0 N k_]; rfl
theorem vV (N : Nat) (a : List Int) :
  evE (eS N) N an_ sG Try.f23 [.val ty1 a] (un1 ty1) = laws_toIntS_b N (El0 N N) a := by kernel_rfl
noncomputable def eE (N : Nat) : Entry Try.prog := ⟨23, sG, [.v ty1], List Int, laws_toIntS N, pk1 ty1, entry_en Try.func23 (code := Try.f23.body.getD .skip) (by kernel_rfl) (by kernel_rfl),
 fun a => entry_ok tab_ok (es := eS N) (by kernel_rfl) mixed Try.func23 (by kernel_rfl) ⟨⟨rfl, rfl⟩, rfl, rfl⟩ (un1_pk ty1) ((vV N a).trans (by rw [ql0]; rfl))⟩
end laws_toIntS
namespace laws_toIntSS
def sG : Sig := ⟨[.val ty0], [(ty0, .dp)], false, false, none, none⟩
noncomputable def eS (N : Nat) : List (Entry Try.prog) := [laws_toIntS.eE N]
def an_ : Nat → Option (List Nat)
 | 0 => some [0, 3, 4]
 | _ => none
noncomputable def lP (N : Nat) (p : List Dir) (rs : List (Env → Option (List (List Int)))) (k : Nat) (env : Env) : Option (List (List Int)) :=
 lpE (eS N) N an_ p Try.f22 (endK Tb sG Try.f22 [] (un1 ty0)) rs k env
noncomputable def El0 (N : Nat) (k_ : Nat) (a2 : List (List Int)) (out : List (List Int)) (i : Int) : Option (List (List Int)) :=
 lP N [.r, .r, .l, .r, .b] [] k_ (.con .val [lf ty0 a2 .ro] :: (un 2 (.con .val [lf ty0 out .dp] :: (.con .val [lf i64 i .ro] :: (un 18 [])))))
theorem ql0 (N : Nat) : ∀ k_, El0 N k_ = laws_toIntSS_l0 N k_
 | 0 => by funext a2 out i; kernel_rfl
 | k_ + 1 => by funext a2 out i; rw [show El0 N (k_ + 1) a2 out i = laws_toIntSS_l0_b N (El0 N k_) a2 out i from by kernel_rfl]; simp only [ql0 N k_]; rfl
theorem vV (N : Nat) (a : List (List Int)) :
  evE (eS N) N an_ sG Try.f22 [.val ty0 a] (un1 ty0) = laws_toIntSS_b N (El0 N N) a := by kernel_rfl
noncomputable def eE (N : Nat) : Entry Try.prog := ⟨22, sG, [.v ty0], List (List Int), laws_toIntSS N, pk1 ty0, entry_en Try.func22 (code := Try.f22.body.getD .skip) (by kernel_rfl) (by kernel_rfl),
 fun a => entry_ok tab_ok (es := eS N) (by kernel_rfl) mixed Try.func22 (by kernel_rfl) ⟨⟨rfl, rfl⟩, rfl, rfl⟩ (un1_pk ty0) ((vV N a).trans (by rw [ql0]; rfl))⟩
end laws_toIntSS
namespace spec_l1In
def sG : Sig := ⟨[.val i64, .val i64, .val i64], [(.bool, .dp)], false, false, none, none⟩
noncomputable def eS (N : Nat) : List (Entry Try.prog) := []
def an_ : Nat → Option (List Nat) := fun _ => none
theorem vV (N : Nat) (x : Int) (low : Int) (high : Int) :
  evE (eS N) N an_ sG Try.f62 [.val i64 x, .val i64 low, .val i64 high] (un1 .bool) = spec_l1In N x low high := by kernel_rfl
noncomputable def eE (N : Nat) : Entry Try.prog := ⟨62, sG, [.v i64, .v i64, .v i64], Bool, spec_l1In N, pk1 .bool, entry_en Try.func62 (code := Try.f62.body.getD .skip) (by kernel_rfl) (by kernel_rfl),
 fun x low high => entry_ok tab_ok (es := eS N) (by kernel_rfl) mixed Try.func62 (by kernel_rfl) ⟨⟨rfl, rfl⟩, rfl, rfl⟩ (un1_pk .bool) (vV N x low high)⟩
end spec_l1In
namespace spec_l20Clause
def sG : Sig := ⟨[.val i64, .val ty1], [(.bool, .dp)], false, false, none, none⟩
noncomputable def eS (N : Nat) : List (Entry Try.prog) := [spec_l1In.eE N]
def an_ : Nat → Option (List Nat)
 | 0 => some [0, 1, 5]
 | 2 => some [0, 1, 5, 7]
 | _ => none
noncomputable def lP (N : Nat) (p : List Dir) (rs : List (Env → Option (Bool))) (k : Nat) (env : Env) : Option (Bool) :=
 lpE (eS N) N an_ p Try.f122 (endK Tb sG Try.f122 [] (un1 .bool)) rs k env
noncomputable def El1 (N : Nat) (k0_ : Nat) (k_ : Nat) (n3 : Int) (c3 : List Int) (i2 : Int) (k : Int) : Option (Bool) :=
 lP N [.r, .l, .r, .b, .b, .r, .l, .b, .r, .r, .r, .r, .b] [lP N [.r, .l, .r, .b] [] k0_] k_ (.con .val [lf i64 n3 .ro] :: (.con .val [lf ty1 c3 .ro] :: (un 3 (.con .val [lf i64 i2 .ro] :: (un 1 (.con .val [lf i64 k .ro] :: (un 60 [])))))))
noncomputable def El0 (N : Nat) (k_ : Nat) (n2 : Int) (c2 : List Int) (i : Int) : Option (Bool) :=
 lP N [.r, .l, .r, .b] [] k_ (.con .val [lf i64 n2 .ro] :: (.con .val [lf ty1 c2 .ro] :: (un 3 (.con .val [lf i64 i .ro] :: (un 62 [])))))
theorem ql1 (N : Nat) (k0_ : Nat) : ∀ k_, El1 N k0_ k_ = spec_l20Clause_l1 (El0 N k0_) N k_
 | 0 => by funext n3 c3 i2 k; kernel_rfl
 | k_ + 1 => by funext n3 c3 i2 k; rw [show El1 N k0_ (k_ + 1) n3 c3 i2 k = spec_l20Clause_l1_b N (El0 N k0_) (El1 N k0_ k_) n3 c3 i2 k from by kernel_rfl]; simp only [ql1 N k0_ k_]; rfl
theorem ql0 (N : Nat) : ∀ k_, El0 N k_ = spec_l20Clause_l0 N k_
 | 0 => by funext n2 c2 i; kernel_rfl
 | k_ + 1 => by funext n2 c2 i; rw [show El0 N (k_ + 1) n2 c2 i = spec_l20Clause_l0_b N (El1 N k_ N) (El0 N k_) n2 c2 i from by kernel_rfl]; simp only [ql1, ql0 N k_]; rfl
theorem vV (N : Nat) (n : Int) (c : List Int) :
  evE (eS N) N an_ sG Try.f122 [.val i64 n, .val ty1 c] (un1 .bool) = spec_l20Clause_b N (El0 N N) n c := by kernel_rfl
noncomputable def eE (N : Nat) : Entry Try.prog := ⟨122, sG, [.v i64, .v ty1], Bool, spec_l20Clause N, pk1 .bool, entry_en Try.func122 (code := Try.f122.body.getD .skip) (by kernel_rfl) (by kernel_rfl),
 fun n c => entry_ok tab_ok (es := eS N) (by kernel_rfl) mixed Try.func122 (by kernel_rfl) ⟨⟨rfl, rfl⟩, rfl, rfl⟩ (un1_pk .bool) ((vV N n c).trans (by rw [ql0]; rfl))⟩
end spec_l20Clause
namespace spec_AreValidClauses
def sG : Sig := ⟨[.val i64, .val ty0], [(.bool, .dp)], false, false, none, none⟩
noncomputable def eS (N : Nat) : List (Entry Try.prog) := [spec_l20Clause.eE N, spec_l1In.eE N]
def an_ : Nat → Option (List Nat)
 | 0 => some [0, 1, 5]
 | _ => none
noncomputable def lP (N : Nat) (p : List Dir) (rs : List (Env → Option (Bool))) (k : Nat) (env : Env) : Option (Bool) :=
 lpE (eS N) N an_ p Try.f121 (endK Tb sG Try.f121 [] (un1 .bool)) rs k env
noncomputable def El0 (N : Nat) (k_ : Nat) (n2 : Int) (l2 : List (List Int)) (i : Int) : Option (Bool) :=
 lP N [.r, .l, .r, .b] [] k_ (.con .val [lf i64 n2 .ro] :: (.con .val [lf ty0 l2 .ro] :: (un 3 (.con .val [lf i64 i .ro] :: (un 20 [])))))
theorem ql0 (N : Nat) : ∀ k_, El0 N k_ = spec_AreValidClauses_l0 N k_
 | 0 => by funext n2 l2 i; kernel_rfl
 | k_ + 1 => by funext n2 l2 i; rw [show El0 N (k_ + 1) n2 l2 i = spec_AreValidClauses_l0_b N (El0 N k_) n2 l2 i from by kernel_rfl]; simp only [ql0 N k_]; rfl
theorem vV (N : Nat) (n : Int) (l : List (List Int)) :
  evE (eS N) N an_ sG Try.f121 [.val i64 n, .val ty0 l] (un1 .bool) = spec_AreValidClauses_b N (El0 N N) n l := by kernel_rfl
noncomputable def eE (N : Nat) : Entry Try.prog := ⟨121, sG, [.v i64, .v ty0], Bool, spec_AreValidClauses N, pk1 .bool, entry_en Try.func121 (code := Try.f121.body.getD .skip) (by kernel_rfl) (by kernel_rfl),
 fun n l => entry_ok tab_ok (es := eS N) (by kernel_rfl) mixed Try.func121 (by kernel_rfl) ⟨⟨rfl, rfl⟩, rfl, rfl⟩ (un1_pk .bool) ((vV N n l).trans (by rw [ql0]; rfl))⟩
end spec_AreValidClauses
namespace spec_NegateLiterals
def sG : Sig := ⟨[.val ty1], [(ty1, .dp)], false, false, none, none⟩
noncomputable def eS (N : Nat) : List (Entry Try.prog) := []
def an_ : Nat → Option (List Nat)
 | 0 => some [0, 3, 4]
 | _ => none
noncomputable def lP (N : Nat) (p : List Dir) (rs : List (Env → Option (List Int))) (k : Nat) (env : Env) : Option (List Int) :=
 lpE (eS N) N an_ p Try.f124 (endK Tb sG Try.f124 [] (un1 ty1)) rs k env
noncomputable def El0 (N : Nat) (k_ : Nat) (l2 : List Int) (out : List Int) (i : Int) : Option (List Int) :=
 lP N [.r, .r, .l, .r, .b] [] k_ (.con .val [lf ty1 l2 .ro] :: (un 2 (.con .val [lf ty1 out .dp] :: (.con .val [lf i64 i .ro] :: (un 16 [])))))
theorem ql0 (N : Nat) : ∀ k_, El0 N k_ = spec_NegateLiterals_l0 N k_
 | 0 => by funext l2 out i; kernel_rfl
 | k_ + 1 => by funext l2 out i; rw [show El0 N (k_ + 1) l2 out i = spec_NegateLiterals_l0_b N (El0 N k_) l2 out i from by kernel_rfl]; simp only [ql0 N k_]; rfl
theorem vV (N : Nat) (l : List Int) :
  evE (eS N) N an_ sG Try.f124 [.val ty1 l] (un1 ty1) = spec_NegateLiterals_b N (El0 N N) l := by kernel_rfl
noncomputable def eE (N : Nat) : Entry Try.prog := ⟨124, sG, [.v ty1], List Int, spec_NegateLiterals N, pk1 ty1, entry_en Try.func124 (code := Try.f124.body.getD .skip) (by kernel_rfl) (by kernel_rfl),
 fun l => entry_ok tab_ok (es := eS N) (by kernel_rfl) mixed Try.func124 (by kernel_rfl) ⟨⟨rfl, rfl⟩, rfl, rfl⟩ (un1_pk ty1) ((vV N l).trans (by rw [ql0]; rfl))⟩
end spec_NegateLiterals
namespace spec_l7Has
def sG : Sig := ⟨[.val ty1, .val i64], [(.bool, .dp)], false, false, none, none⟩
noncomputable def eS (N : Nat) : List (Entry Try.prog) := []
def an_ : Nat → Option (List Nat)
 | 0 => some [0, 1, 5]
 | _ => none
noncomputable def lP (N : Nat) (p : List Dir) (rs : List (Env → Option (Bool))) (k : Nat) (env : Env) : Option (Bool) :=
 lpE (eS N) N an_ p Try.f161 (endK Tb sG Try.f161 [] (un1 .bool)) rs k env
noncomputable def El0 (N : Nat) (k_ : Nat) (l2 : List Int) (x2 : Int) (i : Int) : Option (Bool) :=
 lP N [.r, .l, .r, .b] [] k_ (.con .val [lf ty1 l2 .ro] :: (.con .val [lf i64 x2 .ro] :: (un 3 (.con .val [lf i64 i .ro] :: (un 12 [])))))
theorem ql0 (N : Nat) : ∀ k_, El0 N k_ = spec_l7Has_l0 N k_
 | 0 => by funext l2 x2 i; kernel_rfl
 | k_ + 1 => by funext l2 x2 i; rw [show El0 N (k_ + 1) l2 x2 i = spec_l7Has_l0_b N (El0 N k_) l2 x2 i from by kernel_rfl]; simp only [ql0 N k_]; rfl
theorem vV (N : Nat) (l : List Int) (x : Int) :
  evE (eS N) N an_ sG Try.f161 [.val ty1 l, .val i64 x] (un1 .bool) = spec_l7Has_b N (El0 N N) l x := by kernel_rfl
noncomputable def eE (N : Nat) : Entry Try.prog := ⟨161, sG, [.v ty1, .v i64], Bool, spec_l7Has N, pk1 .bool, entry_en Try.func161 (code := Try.f161.body.getD .skip) (by kernel_rfl) (by kernel_rfl),
 fun l x => entry_ok tab_ok (es := eS N) (by kernel_rfl) mixed Try.func161 (by kernel_rfl) ⟨⟨rfl, rfl⟩, rfl, rfl⟩ (un1_pk .bool) ((vV N l x).trans (by rw [ql0]; rfl))⟩
end spec_l7Has
namespace spec_l21Left
def sG : Sig := ⟨[.val ty1, .val ty1], [(ty1, .dp), (.bool, .dp)], false, false, none, none⟩
noncomputable def eS (N : Nat) : List (Entry Try.prog) := [spec_l7Has.eE N]
def an_ : Nat → Option (List Nat)
 | 0 => some [0, 1, 6, 7]
 | _ => none
noncomputable def lP (N : Nat) (p : List Dir) (rs : List (Env → Option (List Int × Bool))) (k : Nat) (env : Env) : Option (List Int × Bool) :=
 lpE (eS N) N an_ p Try.f144 (endK Tb sG Try.f144 [] (un2 ty1 .bool)) rs k env
noncomputable def El0 (N : Nat) (k_ : Nat) (c2 : List Int) (set2 : List Int) (out : List Int) (i : Int) : Option (List Int × Bool) :=
 lP N [.r, .r, .l, .r, .b] [] k_ (.con .val [lf ty1 c2 .ro] :: (.con .val [lf ty1 set2 .ro] :: (un 4 (.con .val [lf ty1 out .dp] :: (.con .val [lf i64 i .ro] :: (un 30 []))))))
theorem ql0 (N : Nat) : ∀ k_, El0 N k_ = spec_l21Left_l0 N k_
 | 0 => by funext c2 set2 out i; kernel_rfl
 | k_ + 1 => by funext c2 set2 out i; rw [show El0 N (k_ + 1) c2 set2 out i = spec_l21Left_l0_b N (El0 N k_) c2 set2 out i from by kernel_rfl]; simp only [ql0 N k_]; rfl
theorem vV (N : Nat) (c : List Int) (set : List Int) :
  evE (eS N) N an_ sG Try.f144 [.val ty1 c, .val ty1 set] (un2 ty1 .bool) = spec_l21Left_b N (El0 N N) c set := by kernel_rfl
noncomputable def eE (N : Nat) : Entry Try.prog := ⟨144, sG, [.v ty1, .v ty1], List Int × Bool, spec_l21Left N, pk2 ty1 .bool, entry_en Try.func144 (code := Try.f144.body.getD .skip) (by kernel_rfl) (by kernel_rfl),
 fun c set => entry_ok tab_ok (es := eS N) (by kernel_rfl) mixed Try.func144 (by kernel_rfl) ⟨⟨rfl, rfl⟩, rfl, rfl⟩ (un2_pk ty1 .bool) ((vV N c set).trans (by rw [ql0]; rfl))⟩
end spec_l21Left
namespace spec_l21Units
def sG : Sig := ⟨[.val ty0, .val ty1], [(ty1, .dp), (.bool, .dp)], false, false, none, none⟩
noncomputable def eS (N : Nat) : List (Entry Try.prog) := [spec_l21Left.eE N]
def an_ : Nat → Option (List Nat)
 | 0 => some [0, 6, 7]
 | 2 => some [0, 6, 7, 8]
 | _ => none
noncomputable def lP (N : Nat) (p : List Dir) (rs : List (Env → Option (List Int × Bool))) (k : Nat) (env : Env) : Option (List Int × Bool) :=
 lpE (eS N) N an_ p Try.f123 (endK Tb sG Try.f123 [] (un2 ty1 .bool)) rs k env
noncomputable def El1 (N : Nat) (k0_ : Nat) (k_ : Nat) (l3 : List (List Int)) (out2 : List Int) (more2 : Bool) (i : Int) : Option (List Int × Bool) :=
 lP N [.r, .r, .l, .r, .b, .b, .r, .b, .r, .r, .b] [lP N [.r, .r, .l, .r, .b] [] k0_] k_ (.con .val [lf ty0 l3 .ro] :: (un 5 (.con .val [lf ty1 out2 .dp] :: (.con .val [lf .bool more2 .ro] :: (.con .val [lf i64 i .ro] :: (un 40 []))))))
noncomputable def El0 (N : Nat) (k_ : Nat) (l2 : List (List Int)) (out : List Int) (more : Bool) : Option (List Int × Bool) :=
 lP N [.r, .r, .l, .r, .b] [] k_ (.con .val [lf ty0 l2 .ro] :: (un 5 (.con .val [lf ty1 out .dp] :: (.con .val [lf .bool more .ro] :: (un 41 [])))))
theorem ql1 (N : Nat) (k0_ : Nat) : ∀ k_, El1 N k0_ k_ = spec_l21Units_l1 (El0 N k0_) N k_
 | 0 => by funext l3 out2 more2 i; kernel_rfl
 | k_ + 1 => by funext l3 out2 more2 i; rw [show El1 N k0_ (k_ + 1) l3 out2 more2 i = spec_l21Units_l1_b N (El0 N k0_) (El1 N k0_ k_) l3 out2 more2 i from by kernel_rfl]; simp only [ql1 N k0_ k_]; rfl
theorem ql0 (N : Nat) : ∀ k_, El0 N k_ = spec_l21Units_l0 N k_
 | 0 => by funext l2 out more; kernel_rfl
 | k_ + 1 => by funext l2 out more; rw [show El0 N (k_ + 1) l2 out more = spec_l21Units_l0_b N (El1 N k_ N) (El0 N k_) l2 out more from by kernel_rfl]; simp only [ql1, ql0 N k_]; rfl
theorem vV (N : Nat) (l : List (List Int)) (set : List Int) :
  evE (eS N) N an_ sG Try.f123 [.val ty0 l, .val ty1 set] (un2 ty1 .bool) = spec_l21Units_b N (El0 N N) l set := by kernel_rfl
noncomputable def eE (N : Nat) : Entry Try.prog := ⟨123, sG, [.v ty0, .v ty1], List Int × Bool, spec_l21Units N, pk2 ty1 .bool, entry_en Try.func123 (code := Try.f123.body.getD .skip) (by kernel_rfl) (by kernel_rfl),
 fun l set => entry_ok tab_ok (es := eS N) (by kernel_rfl) mixed Try.func123 (by kernel_rfl) ⟨⟨rfl, rfl⟩, rfl, rfl⟩ (un2_pk ty1 .bool) ((vV N l set).trans (by rw [ql0]; rfl))⟩
end spec_l21Units
namespace spec_IsValidProof
def sG : Sig := ⟨[.val i64, .val ty0, .val ty0], [(.bool, .dp)], false, false, none, none⟩
noncomputable def eS (N : Nat) : List (Entry Try.prog) := [spec_l20Clause.eE N, spec_NegateLiterals.eE N, spec_l21Units.eE N, spec_AreValidClauses.eE N]
def an_ : Nat → Option (List Nat)
 | 0 => some [0, 2, 7, 8]
 | _ => none
noncomputable def lP (N : Nat) (p : List Dir) (rs : List (Env → Option (Bool))) (k : Nat) (env : Env) : Option (Bool) :=
 lpE (eS N) N an_ p Try.f74 (endK Tb sG Try.f74 [] (un1 .bool)) rs k env
noncomputable def El0 (N : Nat) (k_ : Nat) (n2 : Int) (proof2 : List (List Int)) (x : List (List Int)) (i : Int) : Option (Bool) :=
 lP N [.r, .r, .r, .l, .r, .b] [] k_ (.con .val [lf i64 n2 .ro] :: (un 1 (.con .val [lf ty0 proof2 .ro] :: (un 4 (.con .val [lf ty0 x .sh] :: (.con .val [lf i64 i .ro] :: (un 56 [])))))))
theorem ql0 (N : Nat) : ∀ k_, El0 N k_ = spec_IsValidProof_l0 N k_
 | 0 => by funext n2 proof2 x i; kernel_rfl
 | k_ + 1 => by funext n2 proof2 x i; rw [show El0 N (k_ + 1) n2 proof2 x i = spec_IsValidProof_l0_b N (El0 N k_) n2 proof2 x i from by kernel_rfl]; simp only [ql0 N k_]; rfl
theorem vV (N : Nat) (n : Int) (l : List (List Int)) (proof : List (List Int)) :
  evE (eS N) N an_ sG Try.f74 [.val i64 n, .val ty0 l, .val ty0 proof] (un1 .bool) = spec_IsValidProof_b N (El0 N N) n l proof := by kernel_rfl
noncomputable def eE (N : Nat) : Entry Try.prog := ⟨74, sG, [.v i64, .v ty0, .v ty0], Bool, spec_IsValidProof N, pk1 .bool, entry_en Try.func74 (code := Try.f74.body.getD .skip) (by kernel_rfl) (by kernel_rfl),
 fun n l proof => entry_ok tab_ok (es := eS N) (by kernel_rfl) mixed Try.func74 (by kernel_rfl) ⟨⟨rfl, rfl⟩, rfl, rfl⟩ (un1_pk .bool) ((vV N n l proof).trans (by rw [ql0]; rfl))⟩
end spec_IsValidProof
namespace spec_SelectClauses
def sG : Sig := ⟨[.val ty0, .val ty1], [(ty0, .dp)], false, false, none, none⟩
noncomputable def eS (N : Nat) : List (Entry Try.prog) := [spec_l1In.eE N]
def an_ : Nat → Option (List Nat)
 | 0 => some [0, 1, 5, 6]
 | _ => none
noncomputable def lP (N : Nat) (p : List Dir) (rs : List (Env → Option (List (List Int)))) (k : Nat) (env : Env) : Option (List (List Int)) :=
 lpE (eS N) N an_ p Try.f21 (endK Tb sG Try.f21 [] (un1 ty0)) rs k env
noncomputable def El0 (N : Nat) (k_ : Nat) (l2 : List (List Int)) (at_2 : List Int) (out : List (List Int)) (i : Int) : Option (List (List Int)) :=
 lP N [.r, .r, .l, .r, .b] [] k_ (.con .val [lf ty0 l2 .ro] :: (.con .val [lf ty1 at_2 .ro] :: (un 3 (.con .val [lf ty0 out .dp] :: (.con .val [lf i64 i .ro] :: (un 28 []))))))
theorem ql0 (N : Nat) : ∀ k_, El0 N k_ = spec_SelectClauses_l0 N k_
 | 0 => by funext l2 at_2 out i; kernel_rfl
 | k_ + 1 => by funext l2 at_2 out i; rw [show El0 N (k_ + 1) l2 at_2 out i = spec_SelectClauses_l0_b N (El0 N k_) l2 at_2 out i from by kernel_rfl]; simp only [ql0 N k_]; rfl
theorem vV (N : Nat) (l : List (List Int)) (at_ : List Int) :
  evE (eS N) N an_ sG Try.f21 [.val ty0 l, .val ty1 at_] (un1 ty0) = spec_SelectClauses_b N (El0 N N) l at_ := by kernel_rfl
noncomputable def eE (N : Nat) : Entry Try.prog := ⟨21, sG, [.v ty0, .v ty1], List (List Int), spec_SelectClauses N, pk1 ty0, entry_en Try.func21 (code := Try.f21.body.getD .skip) (by kernel_rfl) (by kernel_rfl),
 fun l at_ => entry_ok tab_ok (es := eS N) (by kernel_rfl) mixed Try.func21 (by kernel_rfl) ⟨⟨rfl, rfl⟩, rfl, rfl⟩ (un1_pk ty0) ((vV N l at_).trans (by rw [ql0]; rfl))⟩
end spec_SelectClauses
namespace spec_UnsatCore
def sG : Sig := ⟨[.val i64, .val ty0, .val ty0], [(ty1, .dp)], false, false, none, none⟩
noncomputable def eS (N : Nat) : List (Entry Try.prog) := [spec_SelectClauses.eE N, spec_IsValidProof.eE N]
def an_ : Nat → Option (List Nat)
 | 0 => some [0, 1, 2, 7]
 | 2 => some [0, 1, 2, 7, 8]
 | 4 => some [0, 1, 2, 7, 8, 9, 10]
 | _ => none
noncomputable def lP (N : Nat) (p : List Dir) (rs : List (Env → Option (List Int))) (k : Nat) (env : Env) : Option (List Int) :=
 lpE (eS N) N an_ p Try.f35 (endK Tb sG Try.f35 [] (un1 ty1)) rs k env
noncomputable def El2 (N : Nat) (k0_ : Nat) (k_ : Nat) (n4 : Int) (l4 : List (List Int)) (proof4 : List (List Int)) (out3 : List Int) (i2 : Int) (x : List Int) (k : Int) : Option (List Int) :=
 lP N [.r, .r, .r, .r, .l, .r, .b, .b, .r, .l, .b, .r, .l, .r, .b] [lP N [.r, .r, .r, .r, .l, .r, .b] [] k0_] k_ (.con .val [lf i64 n4 .ro] :: (.con .val [lf ty0 l4 .ro] :: (.con .val [lf ty0 proof4 .ro] :: (un 4 (.con .val [lf ty1 out3 .dp] :: (.con .val [lf i64 i2 .ro] :: (.con .val [lf ty1 x .dp] :: (.con .val [lf i64 k .ro] :: (un 52 [])))))))))
noncomputable def El1 (N : Nat) (k_ : Nat) (n3 : Int) (l3 : List (List Int)) (proof3 : List (List Int)) (out2 : List Int) (i : Int) : Option (List Int) :=
 lP N [.r, .r, .r, .r, .l, .r, .b] [] k_ (.con .val [lf i64 n3 .ro] :: (.con .val [lf ty0 l3 .ro] :: (.con .val [lf ty0 proof3 .ro] :: (un 4 (.con .val [lf ty1 out2 .dp] :: (.con .val [lf i64 i .ro] :: (un 54 [])))))))
noncomputable def El0 (N : Nat) (k_ : Nat) (n2 : Int) (l2 : List (List Int)) (proof2 : List (List Int)) (out : List Int) : Option (List Int) :=
 lP N [.r, .r, .r, .l, .b] [] k_ (.con .val [lf i64 n2 .ro] :: (.con .val [lf ty0 l2 .ro] :: (.con .val [lf ty0 proof2 .ro] :: (un 4 (.con .val [lf ty1 out .dp] :: (un 55 []))))))
theorem ql2 (N : Nat) (k0_ : Nat) : ∀ k_, El2 N k0_ k_ = spec_UnsatCore_l2 (El1 N k0_) N k_
 | 0 => by funext n4 l4 proof4 out3 i2 x k; kernel_rfl
 | k_ + 1 => by funext n4 l4 proof4 out3 i2 x k; rw [show El2 N k0_ (k_ + 1) n4 l4 proof4 out3 i2 x k = spec_UnsatCore_l2_b N (El1 N k0_) (El2 N k0_ k_) n4 l4 proof4 out3 i2 x k from by kernel_rfl]; simp only [ql2 N k0_ k_]; rfl
theorem ql1 (N : Nat) : ∀ k_, El1 N k_ = spec_UnsatCore_l1 N k_
 | 0 => by funext n3 l3 proof3 out2 i; kernel_rfl
 | k_ + 1 => by funext n3 l3 proof3 out2 i; rw [show El1 N (k_ + 1) n3 l3 proof3 out2 i = spec_UnsatCore_l1_b N (El2 N k_ N) (El1 N k_) n3 l3 proof3 out2 i from by kernel_rfl]; simp only [ql2, ql1 N k_]; rfl
theorem ql0 (N : Nat) : ∀ k_, El0 N k_ = spec_UnsatCore_l0 N k_
 | 0 => by funext n2 l2 proof2 out; kernel_rfl
 | k_ + 1 => by funext n2 l2 proof2 out; rw [show El0 N (k_ + 1) n2 l2 proof2 out = spec_UnsatCore_l0_b N (El1 N N) (El0 N k_) n2 l2 proof2 out from by kernel_rfl]; simp only [ql1, ql0 N k_]; rfl
theorem vV (N : Nat) (n : Int) (l : List (List Int)) (proof : List (List Int)) :
  evE (eS N) N an_ sG Try.f35 [.val i64 n, .val ty0 l, .val ty0 proof] (un1 ty1) = spec_UnsatCore_b N (El0 N N) n l proof := by kernel_rfl
noncomputable def eE (N : Nat) : Entry Try.prog := ⟨35, sG, [.v i64, .v ty0, .v ty0], List Int, spec_UnsatCore N, pk1 ty1, entry_en Try.func35 (code := Try.f35.body.getD .skip) (by kernel_rfl) (by kernel_rfl),
 fun n l proof => entry_ok tab_ok (es := eS N) (by kernel_rfl) mixed Try.func35 (by kernel_rfl) ⟨⟨rfl, rfl⟩, rfl, rfl⟩ (un1_pk ty1) ((vV N n l proof).trans (by rw [ql0]; rfl))⟩
end spec_UnsatCore
namespace impl_within
def sG : Sig := ⟨[.val i64, .val i64, .val i64], [(.bool, .dp)], false, false, none, none⟩
noncomputable def eS (N : Nat) : List (Entry Try.prog) := []
def an_ : Nat → Option (List Nat) := fun _ => none
theorem vV (N : Nat) (n : Int) (low : Int) (high : Int) :
  evE (eS N) N an_ sG Try.f63 [.val i64 n, .val i64 low, .val i64 high] (un1 .bool) = impl_within N n low high := by kernel_rfl
noncomputable def eE (N : Nat) : Entry Try.prog := ⟨63, sG, [.v i64, .v i64, .v i64], Bool, impl_within N, pk1 .bool, entry_en Try.func63 (code := Try.f63.body.getD .skip) (by kernel_rfl) (by kernel_rfl),
 fun n low high => entry_ok tab_ok (es := eS N) (by kernel_rfl) mixed Try.func63 (by kernel_rfl) ⟨⟨rfl, rfl⟩, rfl, rfl⟩ (un1_pk .bool) (vV N n low high)⟩
end impl_within
namespace slices_Index_Lint_int
def sG : Sig := ⟨[.val ty1, .val i64], [(i64, .dp)], false, false, none, none⟩
noncomputable def eS (N : Nat) : List (Entry Try.prog) := []
def an_ : Nat → Option (List Nat)
 | 0 => some [0, 1, 7, 8]
 | _ => none
noncomputable def lP (N : Nat) (p : List Dir) (rs : List (Env → Option (Int))) (k : Nat) (env : Env) : Option (Int) :=
 lpE (eS N) N an_ p Try.f163 (endK Tb sG Try.f163 [] (un1 i64)) rs k env
noncomputable def El0 (N : Nat) (k_ : Nat) (s2 : List Int) (v2 : Int) (t7 : Int) (t8 : Int) : Option (Int) :=
 lP N [.r, .l, .r, .b] [] k_ (.con .val [lf ty1 s2 .ro] :: (.con .val [lf i64 v2 .ro] :: (un 5 (.con .val [lf i64 t7 .ro] :: (.con .val [lf i64 t8 .ro] :: (un 10 []))))))
theorem ql0 (N : Nat) : ∀ k_, El0 N k_ = slices_Index_Lint_int_l0 N k_
 | 0 => by funext s2 v2 t7 t8; kernel_rfl
 | k_ + 1 => by funext s2 v2 t7 t8; rw [show El0 N (k_ + 1) s2 v2 t7 t8 = slices_Index_Lint_int_l0_b N (El0 N k_) s2 v2 t7 t8 from by kernel_rfl]; simp only [ql0 N k_]; rfl
theorem vV (N : Nat) (s : List Int) (v : Int) :
  evE (eS N) N an_ sG Try.f163 [.val ty1 s, .val i64 v] (un1 i64) = slices_Index_Lint_int_b N (El0 N N) s v := by kernel_rfl
noncomputable def eE (N : Nat) : Entry Try.prog := ⟨163, sG, [.v ty1, .v i64], Int, slices_Index_Lint_int N, pk1 i64, entry_en Try.func163 (code := Try.f163.body.getD .skip) (by kernel_rfl) (by kernel_rfl),
 fun s v => entry_ok tab_ok (es := eS N) (by kernel_rfl) mixed Try.func163 (by kernel_rfl) ⟨⟨rfl, rfl⟩, rfl, rfl⟩ (un1_pk i64) ((vV N s v).trans (by rw [ql0]; rfl))⟩
end slices_Index_Lint_int
namespace slices_Contains_Lint_int
def sG : Sig := ⟨[.val ty1, .val i64], [(.bool, .dp)], false, false, none, none⟩
noncomputable def eS (N : Nat) : List (Entry Try.prog) := [slices_Index_Lint_int.eE N]
def an_ : Nat → Option (List Nat) := fun _ => none
theorem vV (N : Nat) (s : List Int) (v : Int) :
  evE (eS N) N an_ sG Try.f149 [.val ty1 s, .val i64 v] (un1 .bool) = slices_Contains_Lint_int N s v := by kernel_rfl
noncomputable def eE (N : Nat) : Entry Try.prog := ⟨149, sG, [.v ty1, .v i64], Bool, slices_Contains_Lint_int N, pk1 .bool, entry_en Try.func149 (code := Try.f149.body.getD .skip) (by kernel_rfl) (by kernel_rfl),
 fun s v => entry_ok tab_ok (es := eS N) (by kernel_rfl) mixed Try.func149 (by kernel_rfl) ⟨⟨rfl, rfl⟩, rfl, rfl⟩ (un1_pk .bool) (vV N s v)⟩
end slices_Contains_Lint_int
namespace impl_isClause
def sG : Sig := ⟨[.val i64, .val ty1], [(.bool, .dp)], false, false, none, none⟩
noncomputable def eS (N : Nat) : List (Entry Try.prog) := [impl_within.eE N, slices_Contains_Lint_int.eE N]
def an_ : Nat → Option (List Nat)
 | 0 => some [0, 1, 7, 8, 9]
 | _ => none
noncomputable def lP (N : Nat) (p : List Dir) (rs : List (Env → Option (Bool))) (k : Nat) (env : Env) : Option (Bool) :=
 lpE (eS N) N an_ p Try.f147 (endK Tb sG Try.f147 [] (un1 .bool)) rs k env
noncomputable def El0 (N : Nat) (k_ : Nat) (n2 : Int) (clause2 : List Int) (t7 : List Int) (t8 : Int) (t9 : Int) : Option (Bool) :=
 lP N [.r, .l, .r, .b] [] k_ (.con .val [lf i64 n2 .ro] :: (.con .val [lf ty1 clause2 .ro] :: (un 5 (.con .val [lf ty1 t7 .ro] :: (.con .val [lf i64 t8 .ro] :: (.con .val [lf i64 t9 .ro] :: (un 30 [])))))))
theorem ql0 (N : Nat) : ∀ k_, El0 N k_ = impl_isClause_l0 N k_
 | 0 => by funext n2 clause2 t7 t8 t9; kernel_rfl
 | k_ + 1 => by funext n2 clause2 t7 t8 t9; rw [show El0 N (k_ + 1) n2 clause2 t7 t8 t9 = impl_isClause_l0_b N (El0 N k_) n2 clause2 t7 t8 t9 from by kernel_rfl]; simp only [ql0 N k_]; rfl
theorem vV (N : Nat) (n : Int) (clause : List Int) :
  evE (eS N) N an_ sG Try.f147 [.val i64 n, .val ty1 clause] (un1 .bool) = impl_isClause_b N (El0 N N) n clause := by kernel_rfl
noncomputable def eE (N : Nat) : Entry Try.prog := ⟨147, sG, [.v i64, .v ty1], Bool, impl_isClause N, pk1 .bool, entry_en Try.func147 (code := Try.f147.body.getD .skip) (by kernel_rfl) (by kernel_rfl),
 fun n clause => entry_ok tab_ok (es := eS N) (by kernel_rfl) mixed Try.func147 (by kernel_rfl) ⟨⟨rfl, rfl⟩, rfl, rfl⟩ (un1_pk .bool) ((vV N n clause).trans (by rw [ql0]; rfl))⟩
end impl_isClause
namespace impl_areClauses_c1
def sG : Sig := ⟨[.val ty1, .ptr i64], [(.bool, .dp)], false, false, none, none⟩
noncomputable def eS (N : Nat) : List (Entry Try.prog) := [impl_isClause.eE N]
def an_ : Nat → Option (List Nat) := fun _ => none
theorem vV (N : Nat) (clause : List Int) (c1 : Int) :
  evE (eS N) N an_ sG Try.f146 [.val ty1 clause, .ptr i64 c1] (un1 .bool) = impl_areClauses_c1 N clause c1 := by kernel_rfl
noncomputable def eE (N : Nat) : Entry Try.prog := ⟨146, sG, [.v ty1, .p i64], Bool, impl_areClauses_c1 N, pk1 .bool, entry_en Try.func146 (code := Try.f146.body.getD .skip) (by kernel_rfl) (by kernel_rfl),
 fun clause c1 => entry_ok tab_ok (es := eS N) (by kernel_rfl) mixed Try.func146 (by kernel_rfl) ⟨⟨rfl, rfl⟩, rfl, rfl⟩ (un1_pk .bool) (vV N clause c1)⟩
end impl_areClauses_c1
namespace slices_IndexFunc_LLint_Lint_areClauses_c1
def sG : Sig := ⟨[.val ty0, .clo], [(i64, .dp)], false, false, none, none⟩
noncomputable def eS (N : Nat) : List (Entry Try.prog) := [impl_areClauses_c1.eE N]
def an_ : Nat → Option (List Nat)
 | 0 => some [0, 1, 7, 8]
 | _ => none
noncomputable def lP (N : Nat) (p : List Dir) (rs : List (Env → Option (Int))) (k : Nat) (env : Env) : Option (Int) :=
 lpE (eS N) N an_ p Try.f162 (endK Tb sG Try.f162 [] (un1 i64)) rs k env
noncomputable def El0 (N : Nat) (k_ : Nat) (s2 : List (List Int)) (f : Int) (t7 : Int) (t8 : Int) : Option (Int) :=
 lP N [.r, .l, .r, .b] [] k_ (.con .val [lf ty0 s2 .ro] :: (.cloR 146 [⟨i64, f⟩] :: (un 5 (.con .val [lf i64 t7 .ro] :: (.con .val [lf i64 t8 .ro] :: (un 10 []))))))
theorem ql0 (N : Nat) : ∀ k_, El0 N k_ = slices_IndexFunc_LLint_Lint_areClauses_c1_l0 N k_
 | 0 => by funext s2 f t7 t8; kernel_rfl
 | k_ + 1 => by funext s2 f t7 t8; rw [show El0 N (k_ + 1) s2 f t7 t8 = slices_IndexFunc_LLint_Lint_areClauses_c1_l0_b N (El0 N k_) s2 f t7 t8 from by kernel_rfl]; simp only [ql0 N k_]; rfl
theorem vV (N : Nat) (s : List (List Int)) (c : Int) :
  evE (eS N) N an_ sG Try.f162 [.val ty0 s, .clo 146 [⟨i64, c⟩]] (un1 i64) = slices_IndexFunc_LLint_Lint_areClauses_c1_b N (El0 N N) s c := by kernel_rfl
noncomputable def eE (N : Nat) : Entry Try.prog := ⟨162, sG, [.v ty0, .c 146 [i64]], Int, slices_IndexFunc_LLint_Lint_areClauses_c1 N, pk1 i64, entry_en Try.func162 (code := Try.f162.body.getD .skip) (by kernel_rfl) (by kernel_rfl),
 fun s c => entry_ok tab_ok (es := eS N) (by kernel_rfl) mixed Try.func162 (by kernel_rfl) ⟨⟨rfl, rfl⟩, rfl, rfl⟩ (un1_pk i64) ((vV N s c).trans (by rw [ql0]; rfl))⟩
end slices_IndexFunc_LLint_Lint_areClauses_c1
namespace slices_ContainsFunc_LLint_Lint_areClauses_c1
def sG : Sig := ⟨[.val ty0, .clo], [(.bool, .dp)], false, false, none, none⟩
noncomputable def eS (N : Nat) : List (Entry Try.prog) := [slices_IndexFunc_LLint_Lint_areClauses_c1.eE N]
def an_ : Nat → Option (List Nat) := fun _ => none
theorem vV (N : Nat) (s : List (List Int)) (c : Int) :
  evE (eS N) N an_ sG Try.f145 [.val ty0 s, .clo 146 [⟨i64, c⟩]] (un1 .bool) = slices_ContainsFunc_LLint_Lint_areClauses_c1 N s c := by kernel_rfl
noncomputable def eE (N : Nat) : Entry Try.prog := ⟨145, sG, [.v ty0, .c 146 [i64]], Bool, slices_ContainsFunc_LLint_Lint_areClauses_c1 N, pk1 .bool, entry_en Try.func145 (code := Try.f145.body.getD .skip) (by kernel_rfl) (by kernel_rfl),
 fun s c => entry_ok tab_ok (es := eS N) (by kernel_rfl) mixed Try.func145 (by kernel_rfl) ⟨⟨rfl, rfl⟩, rfl, rfl⟩ (un1_pk .bool) (vV N s c)⟩
end slices_ContainsFunc_LLint_Lint_areClauses_c1
namespace impl_areClauses
def sG : Sig := ⟨[.val i64, .val ty0], [(.bool, .dp)], false, false, none, none⟩
noncomputable def eS (N : Nat) : List (Entry Try.prog) := [impl_within.eE N, slices_ContainsFunc_LLint_Lint_areClauses_c1.eE N]
def an_ : Nat → Option (List Nat) := fun _ => none
theorem vV (N : Nat) (n : Int) (clauses : List (List Int)) :
  evE (eS N) N an_ sG Try.f126 [.val i64 n, .val ty0 clauses] (un1 .bool) = impl_areClauses N n clauses := by kernel_rfl
noncomputable def eE (N : Nat) : Entry Try.prog := ⟨126, sG, [.v i64, .v ty0], Bool, impl_areClauses N, pk1 .bool, entry_en Try.func126 (code := Try.f126.body.getD .skip) (by kernel_rfl) (by kernel_rfl),
 fun n clauses => entry_ok tab_ok (es := eS N) (by kernel_rfl) mixed Try.func126 (by kernel_rfl) ⟨⟨rfl, rfl⟩, rfl, rfl⟩ (un1_pk .bool) (vV N n clauses)⟩
end impl_areClauses
namespace impl_AreValidClauses
def sG : Sig := ⟨[.val i64, .val ty0], [(.bool, .dp)], false, false, none, none⟩
noncomputable def eS (N : Nat) : List (Entry Try.prog) := [impl_areClauses.eE N]
def an_ : Nat → Option (List Nat) := fun _ => none
theorem vV (N : Nat) (n : Int) (clauses : List (List Int)) :
  evE (eS N) N an_ sG Try.f125 [.val i64 n, .val ty0 clauses] (un1 .bool) = impl_AreValidClauses N n clauses := by kernel_rfl
noncomputable def eE (N : Nat) : Entry Try.prog := ⟨125, sG, [.v i64, .v ty0], Bool, impl_AreValidClauses N, pk1 .bool, entry_en Try.func125 (code := Try.f125.body.getD .skip) (by kernel_rfl) (by kernel_rfl),
 fun n clauses => entry_ok tab_ok (es := eS N) (by kernel_rfl) mixed Try.func125 (by kernel_rfl) ⟨⟨rfl, rfl⟩, rfl, rfl⟩ (un1_pk .bool) (vV N n clauses)⟩
end impl_AreValidClauses
namespace impl_NegateLiterals
def sG : Sig := ⟨[.val ty1], [(ty1, .dp)], false, false, none, none⟩
noncomputable def eS (N : Nat) : List (Entry Try.prog) := []
def an_ : Nat → Option (List Nat)
 | 0 => some [3, 7, 8, 9]
 | _ => none
noncomputable def lP (N : Nat) (p : List Dir) (rs : List (Env → Option (List Int))) (k : Nat) (env : Env) : Option (List Int) :=
 lpE (eS N) N an_ p Try.f128 (endK Tb sG Try.f128 [] (un1 ty1)) rs k env
noncomputable def El0 (N : Nat) (k_ : Nat) (out : List Int) (t7 : List Int) (t8 : Int) (t9 : Int) : Option (List Int) :=
 lP N [.r, .r, .l, .r, .b] [] k_ (un 3 (.con .val [lf ty1 out .dp] :: (un 3 (.con .val [lf ty1 t7 .ro] :: (.con .val [lf i64 t8 .ro] :: (.con .val [lf i64 t9 .ro] :: (un 10 [])))))))
theorem ql0 (N : Nat) : ∀ k_, El0 N k_ = impl_NegateLiterals_l0 N k_
 | 0 => by funext out t7 t8 t9; kernel_rfl
 | k_ + 1 => by funext out t7 t8 t9; rw [show El0 N (k_ + 1) out t7 t8 t9 = impl_NegateLiterals_l0_b N (El0 N k_) out t7 t8 t9 from by kernel_rfl]; simp only [ql0 N k_]; rfl
theorem vV (N : Nat) (literals : List Int) :
  evE (eS N) N an_ sG Try.f128 [.val ty1 literals] (un1 ty1) = impl_NegateLiterals_b N (El0 N N) literals := by kernel_rfl
noncomputable def eE (N : Nat) : Entry Try.prog := ⟨128, sG, [.v ty1], List Int, impl_NegateLiterals N, pk1 ty1, entry_en Try.func128 (code := Try.f128.body.getD .skip) (by kernel_rfl) (by kernel_rfl),
 fun literals => entry_ok tab_ok (es := eS N) (by kernel_rfl) mixed Try.func128 (by kernel_rfl) ⟨⟨rfl, rfl⟩, rfl, rfl⟩ (un1_pk ty1) ((vV N literals).trans (by rw [ql0]; rfl))⟩
end impl_NegateLiterals
namespace impl_propagate_c1
def sG : Sig := ⟨[.val i64, .ptr ty1], [(.bool, .dp)], false, false, none, none⟩
noncomputable def eS (N : Nat) : List (Entry Try.prog) := [slices_Contains_Lint_int.eE N]
def an_ : Nat → Option (List Nat) := fun _ => none
theorem vV (N : Nat) (x : Int) (c1 : List Int) :
  evE (eS N) N an_ sG Try.f148 [.val i64 x, .ptr ty1 c1] (un1 .bool) = impl_propagate_c1 N x c1 := by kernel_rfl
noncomputable def eE (N : Nat) : Entry Try.prog := ⟨148, sG, [.v i64, .p ty1], Bool, impl_propagate_c1 N, pk1 .bool, entry_en Try.func148 (code := Try.f148.body.getD .skip) (by kernel_rfl) (by kernel_rfl),
 fun x c1 => entry_ok tab_ok (es := eS N) (by kernel_rfl) mixed Try.func148 (by kernel_rfl) ⟨⟨rfl, rfl⟩, rfl, rfl⟩ (un1_pk .bool) (vV N x c1)⟩
end impl_propagate_c1
namespace slices_IndexFunc_Lint_int_propagate_c1
def sG : Sig := ⟨[.val ty1, .clo], [(i64, .dp)], false, false, none, none⟩
noncomputable def eS (N : Nat) : List (Entry Try.prog) := [impl_propagate_c1.eE N]
def an_ : Nat → Option (List Nat)
 | 0 => some [0, 1, 7, 8]
 | _ => none
noncomputable def lP (N : Nat) (p : List Dir) (rs : List (Env → Option (Int))) (k : Nat) (env : Env) : Option (Int) :=
 lpE (eS N) N an_ p Try.f118 (endK Tb sG Try.f118 [] (un1 i64)) rs k env
noncomputable def El0 (N : Nat) (k_ : Nat) (s2 : List Int) (f : List Int) (t7 : Int) (t8 : Int) : Option (Int) :=
 lP N [.r, .l, .r, .b] [] k_ (.con .val [lf ty1 s2 .ro] :: (.cloR 148 [⟨ty1, f⟩] :: (un 5 (.con .val [lf i64 t7 .ro] :: (.con .val [lf i64 t8 .ro] :: (un 10 []))))))
theorem ql0 (N : Nat) : ∀ k_, El0 N k_ = slices_IndexFunc_Lint_int_propagate_c1_l0 N k_
 | 0 => by funext s2 f t7 t8; kernel_rfl
 | k_ + 1 => by funext s2 f t7 t8; rw [show El0 N (k_ + 1) s2 f t7 t8 = slices_IndexFunc_Lint_int_propagate_c1_l0_b N (El0 N k_) s2 f t7 t8 from by kernel_rfl]; simp only [ql0 N k_]; rfl
theorem vV (N : Nat) (s : List Int) (c : List Int) :
  evE (eS N) N an_ sG Try.f118 [.val ty1 s, .clo 148 [⟨ty1, c⟩]] (un1 i64) = slices_IndexFunc_Lint_int_propagate_c1_b N (El0 N N) s c := by kernel_rfl
noncomputable def eE (N : Nat) : Entry Try.prog := ⟨118, sG, [.v ty1, .c 148 [ty1]], Int, slices_IndexFunc_Lint_int_propagate_c1 N, pk1 i64, entry_en Try.func118 (code := Try.f118.body.getD .skip) (by kernel_rfl) (by kernel_rfl),
 fun s c => entry_ok tab_ok (es := eS N) (by kernel_rfl) mixed Try.func118 (by kernel_rfl) ⟨⟨rfl, rfl⟩, rfl, rfl⟩ (un1_pk i64) ((vV N s c).trans (by rw [ql0]; rfl))⟩
end slices_IndexFunc_Lint_int_propagate_c1
namespace slices_ContainsFunc_Lint_int_propagate_c1
def sG : Sig := ⟨[.val ty1, .clo], [(.bool, .dp)], false, false, none, none⟩
noncomputable def eS (N : Nat) : List (Entry Try.prog) := [slices_IndexFunc_Lint_int_propagate_c1.eE N]
def an_ : Nat → Option (List Nat) := fun _ => none
theorem vV (N : Nat) (s : List Int) (c : List Int) :
  evE (eS N) N an_ sG Try.f70 [.val ty1 s, .clo 148 [⟨ty1, c⟩]] (un1 .bool) = slices_ContainsFunc_Lint_int_propagate_c1 N s c := by kernel_rfl
noncomputable def eE (N : Nat) : Entry Try.prog := ⟨70, sG, [.v ty1, .c 148 [ty1]], Bool, slices_ContainsFunc_Lint_int_propagate_c1 N, pk1 .bool, entry_en Try.func70 (code := Try.f70.body.getD .skip) (by kernel_rfl) (by kernel_rfl),
 fun s c => entry_ok tab_ok (es := eS N) (by kernel_rfl) mixed Try.func70 (by kernel_rfl) ⟨⟨rfl, rfl⟩, rfl, rfl⟩ (un1_pk .bool) (vV N s c)⟩
end slices_ContainsFunc_Lint_int_propagate_c1
namespace impl_without
def sG : Sig := ⟨[.val ty1, .val ty1], [(ty1, .dp)], false, false, none, none⟩
noncomputable def eS (N : Nat) : List (Entry Try.prog) := [slices_Contains_Lint_int.eE N]
def an_ : Nat → Option (List Nat)
 | 0 => some [1, 5, 9, 10, 11]
 | _ => none
noncomputable def lP (N : Nat) (p : List Dir) (rs : List (Env → Option (List Int))) (k : Nat) (env : Env) : Option (List Int) :=
 lpE (eS N) N an_ p Try.f150 (endK Tb sG Try.f150 [] (un1 ty1)) rs k env
noncomputable def El0 (N : Nat) (k_ : Nat) (b2 : List Int) (out : List Int) (t9 : List Int) (t10 : Int) (t11 : Int) : Option (List Int) :=
 lP N [.r, .r, .l, .r, .b] [] k_ (un 1 (.con .val [lf ty1 b2 .ro] :: (un 3 (.con .val [lf ty1 out .dp] :: (un 3 (.con .val [lf ty1 t9 .ro] :: (.con .val [lf i64 t10 .ro] :: (.con .val [lf i64 t11 .ro] :: (un 13 [])))))))))
theorem ql0 (N : Nat) : ∀ k_, El0 N k_ = impl_without_l0 N k_
 | 0 => by funext b2 out t9 t10 t11; kernel_rfl
 | k_ + 1 => by funext b2 out t9 t10 t11; rw [show El0 N (k_ + 1) b2 out t9 t10 t11 = impl_without_l0_b N (El0 N k_) b2 out t9 t10 t11 from by kernel_rfl]; simp only [ql0 N k_]; rfl
theorem vV (N : Nat) (a : List Int) (b : List Int) :
  evE (eS N) N an_ sG Try.f150 [.val ty1 a, .val ty1 b] (un1 ty1) = impl_without_b N (El0 N N) a b := by kernel_rfl
noncomputable def eE (N : Nat) : Entry Try.prog := ⟨150, sG, [.v ty1, .v ty1], List Int, impl_without N, pk1 ty1, entry_en Try.func150 (code := Try.f150.body.getD .skip) (by kernel_rfl) (by kernel_rfl),
 fun a b => entry_ok tab_ok (es := eS N) (by kernel_rfl) mixed Try.func150 (by kernel_rfl) ⟨⟨rfl, rfl⟩, rfl, rfl⟩ (un1_pk ty1) ((vV N a b).trans (by rw [ql0]; rfl))⟩
end impl_without
namespace impl_propagate
def sG : Sig := ⟨[.val ty0, .val ty1], [(ty1, .dp), (.bool, .dp)], false, false, none, none⟩
noncomputable def eS (N : Nat) : List (Entry Try.prog) := [slices_ContainsFunc_Lint_int_propagate_c1.eE N, impl_NegateLiterals.eE N, impl_without.eE N]
def an_ : Nat → Option (List Nat)
 | 0 => some [0, 6]
 | 2 => some [0, 6, 7, 14, 15, 16]
 | _ => none
noncomputable def lP (N : Nat) (p : List Dir) (rs : List (Env → Option (List Int × Bool))) (k : Nat) (env : Env) : Option (List Int × Bool) :=
 lpE (eS N) N an_ p Try.f127 (endK Tb sG Try.f127 [] (un2 ty1 .bool)) rs k env
noncomputable def El1 (N : Nat) (k0_ : Nat) (k_ : Nat) (clauses3 : List (List Int)) (out2 : List Int) (found : Bool) (t14 : List (List Int)) (t15 : Int) (t16 : Int) : Option (List Int × Bool) :=
 lP N [.r, .r, .b, .b, .b, .r, .l, .r, .b] [lP N [.r, .r, .b] [] k0_] k_ (.con .val [lf ty0 clauses3 .ro] :: (un 5 (.con (.box ⟨23, false, []⟩) [lf ty1 out2 .dp] :: (.con .val [lf .bool found .ro] :: (un 6 (.con .val [lf ty0 t14 .ro] :: (.con .val [lf i64 t15 .ro] :: (.con .val [lf i64 t16 .ro] :: (un 27 [])))))))))
noncomputable def El0 (N : Nat) (k_ : Nat) (clauses2 : List (List Int)) (out : List Int) : Option (List Int × Bool) :=
 lP N [.r, .r, .b] [] k_ (.con .val [lf ty0 clauses2 .ro] :: (un 5 (.con (.box ⟨23, false, []⟩) [lf ty1 out .dp] :: (un 37 []))))
theorem ql1 (N : Nat) (k0_ : Nat) : ∀ k_, El1 N k0_ k_ = impl_propagate_l1 (El0 N k0_) N k_
 | 0 => by funext clauses3 out2 found t14 t15 t16; kernel_rfl
 | k_ + 1 => by funext clauses3 out2 found t14 t15 t16; rw [show El1 N k0_ (k_ + 1) clauses3 out2 found t14 t15 t16 = impl_propagate_l1_b N (El0 N k0_) (El1 N k0_ k_) clauses3 out2 found t14 t15 t16 from by kernel_rfl]; simp only [ql1 N k0_ k_]; rfl
theorem ql0 (N : Nat) : ∀ k_, El0 N k_ = impl_propagate_l0 N k_
 | 0 => by funext clauses2 out; kernel_rfl
 | k_ + 1 => by funext clauses2 out; rw [show El0 N (k_ + 1) clauses2 out = impl_propagate_l0_b N (El1 N k_ N) (El0 N k_) clauses2 out from by kernel_rfl]; simp only [ql1, ql0 N k_]; rfl
theorem vV (N : Nat) (clauses : List (List Int)) (start : List Int) :
  evE (eS N) N an_ sG Try.f127 [.val ty0 clauses, .val ty1 start] (un2 ty1 .bool) = impl_propagate_b N (El0 N N) clauses start := by kernel_rfl
noncomputable def eE (N : Nat) : Entry Try.prog := ⟨127, sG, [.v ty0, .v ty1], List Int × Bool, impl_propagate N, pk2 ty1 .bool, entry_en Try.func127 (code := Try.f127.body.getD .skip) (by kernel_rfl) (by kernel_rfl),
 fun clauses start => entry_ok tab_ok (es := eS N) (by kernel_rfl) mixed Try.func127 (by kernel_rfl) ⟨⟨rfl, rfl⟩, rfl, rfl⟩ (un2_pk ty1 .bool) ((vV N clauses start).trans (by rw [ql0]; rfl))⟩
end impl_propagate
namespace impl_IsValidProof
def sG : Sig := ⟨[.val i64, .val ty0, .val ty0], [(.bool, .dp)], false, false, none, none⟩
noncomputable def eS (N : Nat) : List (Entry Try.prog) := [impl_NegateLiterals.eE N, impl_propagate.eE N, impl_AreValidClauses.eE N, impl_areClauses.eE N, slices_Clone_LLint_Lint_e N]
def an_ : Nat → Option (List Nat)
 | 0 => some [2, 7, 29, 30, 31]
 | _ => none
noncomputable def lP (N : Nat) (p : List Dir) (rs : List (Env → Option (Bool))) (k : Nat) (env : Env) : Option (Bool) :=
 lpE (eS N) N an_ p Try.f75 (endK Tb sG Try.f75 [] (un1 .bool)) rs k env
noncomputable def El0 (N : Nat) (k_ : Nat) (proof2 : List (List Int)) (known : List (List Int)) (t29 : List (List Int)) (t30 : Int) (t31 : Int) : Option (Bool) :=
 lP N [.r, .r, .r, .l, .r, .b] [] k_ (un 2 (.con .val [lf ty0 proof2 .ro] :: (un 4 (.con .val [lf ty0 known .sh] :: (un 21 (.con .val [lf ty0 t29 .ro] :: (.con .val [lf i64 t30 .ro] :: (.con .val [lf i64 t31 .ro] :: (un 25 [])))))))))
theorem ql0 (N : Nat) : ∀ k_, El0 N k_ = impl_IsValidProof_l0 N k_
 | 0 => by funext proof2 known t29 t30 t31; kernel_rfl
 | k_ + 1 => by funext proof2 known t29 t30 t31; rw [show El0 N (k_ + 1) proof2 known t29 t30 t31 = impl_IsValidProof_l0_b N (El0 N k_) proof2 known t29 t30 t31 from by kernel_rfl]; simp only [ql0 N k_]; rfl
theorem vV (N : Nat) (n : Int) (clauses : List (List Int)) (proof : List (List Int)) :
  evE (eS N) N an_ sG Try.f75 [.val i64 n, .val ty0 clauses, .val ty0 proof] (un1 .bool) = impl_IsValidProof_b N (El0 N N) n clauses proof := by kernel_rfl
noncomputable def eE (N : Nat) : Entry Try.prog := ⟨75, sG, [.v i64, .v ty0, .v ty0], Bool, impl_IsValidProof N, pk1 .bool, entry_en Try.func75 (code := Try.f75.body.getD .skip) (by kernel_rfl) (by kernel_rfl),
 fun n clauses proof => entry_ok tab_ok (es := eS N) (by kernel_rfl) mixed Try.func75 (by kernel_rfl) ⟨⟨rfl, rfl⟩, rfl, rfl⟩ (un1_pk .bool) ((vV N n clauses proof).trans (by rw [ql0]; rfl))⟩
end impl_IsValidProof
namespace impl_SelectClauses
def sG : Sig := ⟨[.val ty0, .val ty1], [(ty0, .dp)], false, false, none, none⟩
noncomputable def eS (N : Nat) : List (Entry Try.prog) := [impl_within.eE N]
def an_ : Nat → Option (List Nat)
 | 0 => some [0, 5, 9, 10, 11]
 | _ => none
noncomputable def lP (N : Nat) (p : List Dir) (rs : List (Env → Option (List (List Int)))) (k : Nat) (env : Env) : Option (List (List Int)) :=
 lpE (eS N) N an_ p Try.f24 (endK Tb sG Try.f24 [] (un1 ty0)) rs k env
noncomputable def El0 (N : Nat) (k_ : Nat) (clauses2 : List (List Int)) (out : List (List Int)) (t9 : List Int) (t10 : Int) (t11 : Int) : Option (List (List Int)) :=
 lP N [.r, .r, .l, .r, .b] [] k_ (.con .val [lf ty0 clauses2 .ro] :: (un 4 (.con .val [lf ty0 out .dp] :: (un 3 (.con .val [lf ty1 t9 .ro] :: (.con .val [lf i64 t10 .ro] :: (.con .val [lf i64 t11 .ro] :: (un 19 []))))))))
theorem ql0 (N : Nat) : ∀ k_, El0 N k_ = impl_SelectClauses_l0 N k_
 | 0 => by funext clauses2 out t9 t10 t11; kernel_rfl
 | k_ + 1 => by funext clauses2 out t9 t10 t11; rw [show El0 N (k_ + 1) clauses2 out t9 t10 t11 = impl_SelectClauses_l0_b N (El0 N k_) clauses2 out t9 t10 t11 from by kernel_rfl]; simp only [ql0 N k_]; rfl
theorem vV (N : Nat) (clauses : List (List Int)) (indices : List Int) :
  evE (eS N) N an_ sG Try.f24 [.val ty0 clauses, .val ty1 indices] (un1 ty0) = impl_SelectClauses_b N (El0 N N) clauses indices := by kernel_rfl
noncomputable def eE (N : Nat) : Entry Try.prog := ⟨24, sG, [.v ty0, .v ty1], List (List Int), impl_SelectClauses N, pk1 ty0, entry_en Try.func24 (code := Try.f24.body.getD .skip) (by kernel_rfl) (by kernel_rfl),
 fun clauses indices => entry_ok tab_ok (es := eS N) (by kernel_rfl) mixed Try.func24 (by kernel_rfl) ⟨⟨rfl, rfl⟩, rfl, rfl⟩ (un1_pk ty0) ((vV N clauses indices).trans (by rw [ql0]; rfl))⟩
end impl_SelectClauses
namespace impl_UnsatCore
def sG : Sig := ⟨[.val i64, .val ty0, .val ty0], [(ty1, .dp)], false, false, none, none⟩
noncomputable def eS (N : Nat) : List (Entry Try.prog) := [slices_Clone_Lint_int_e N, slices_Delete_Lint_int_e N, impl_SelectClauses.eE N, impl_IsValidProof.eE N]
def an_ : Nat → Option (List Nat)
 | 0 => some [0, 1, 2, 7, 18, 19]
 | 2 => some [0, 1, 2, 7, 9]
 | _ => none
noncomputable def lP (N : Nat) (p : List Dir) (rs : List (Env → Option (List Int))) (k : Nat) (env : Env) : Option (List Int) :=
 lpE (eS N) N an_ p Try.f36 (endK Tb sG Try.f36 [] (un1 ty1)) rs k env
noncomputable def El1 (N : Nat) (k_ : Nat) (n3 : Int) (clauses3 : List (List Int)) (proof3 : List (List Int)) (out2 : List Int) (i : Int) : Option (List Int) :=
 lP N [.r, .r, .r, .r, .l, .r, .b] [] k_ (.con .val [lf i64 n3 .ro] :: (.con .val [lf ty0 clauses3 .ro] :: (.con .val [lf ty0 proof3 .ro] :: (un 4 (.con .val [lf ty1 out2 .dp] :: (un 1 (.con .val [lf i64 i .ro] :: (un 38 []))))))))
noncomputable def El0 (N : Nat) (k_ : Nat) (n2 : Int) (clauses2 : List (List Int)) (proof2 : List (List Int)) (out : List Int) (t18 : Int) (t19 : Int) : Option (List Int) :=
 lP N [.r, .r, .r, .l, .r, .b] [] k_ (.con .val [lf i64 n2 .ro] :: (.con .val [lf ty0 clauses2 .ro] :: (.con .val [lf ty0 proof2 .ro] :: (un 4 (.con .val [lf ty1 out .dp] :: (un 10 (.con .val [lf i64 t18 .ro] :: (.con .val [lf i64 t19 .ro] :: (un 28 [])))))))))
theorem ql1 (N : Nat) : ∀ k_, El1 N k_ = impl_UnsatCore_l1 N k_
 | 0 => by funext n3 clauses3 proof3 out2 i; kernel_rfl
 | k_ + 1 => by funext n3 clauses3 proof3 out2 i; rw [show El1 N (k_ + 1) n3 clauses3 proof3 out2 i = impl_UnsatCore_l1_b N (El1 N k_) n3 clauses3 proof3 out2 i from by kernel_rfl]; simp only [ql1 N k_]; rfl
theorem ql0 (N : Nat) : ∀ k_, El0 N k_ = impl_UnsatCore_l0 N k_
 | 0 => by funext n2 clauses2 proof2 out t18 t19; kernel_rfl
 | k_ + 1 => by funext n2 clauses2 proof2 out t18 t19; rw [show El0 N (k_ + 1) n2 clauses2 proof2 out t18 t19 = impl_UnsatCore_l0_b N (El1 N N) (El0 N k_) n2 clauses2 proof2 out t18 t19 from by kernel_rfl]; simp only [ql1, ql0 N k_]; rfl
theorem vV (N : Nat) (n : Int) (clauses : List (List Int)) (proof : List (List Int)) :
  evE (eS N) N an_ sG Try.f36 [.val i64 n, .val ty0 clauses, .val ty0 proof] (un1 ty1) = impl_UnsatCore_b N (El0 N N) n clauses proof := by kernel_rfl
noncomputable def eE (N : Nat) : Entry Try.prog := ⟨36, sG, [.v i64, .v ty0, .v ty0], List Int, impl_UnsatCore N, pk1 ty1, entry_en Try.func36 (code := Try.f36.body.getD .skip) (by kernel_rfl) (by kernel_rfl),
 fun n clauses proof => entry_ok tab_ok (es := eS N) (by kernel_rfl) mixed Try.func36 (by kernel_rfl) ⟨⟨rfl, rfl⟩, rfl, rfl⟩ (un1_pk ty1) ((vV N n clauses proof).trans (by rw [ql0]; rfl))⟩
end impl_UnsatCore
namespace laws_eqIntS
def sG : Sig := ⟨[.val ty1, .val ty1], [(.bool, .dp)], false, false, none, none⟩
noncomputable def eS (N : Nat) : List (Entry Try.prog) := []
def an_ : Nat → Option (List Nat)
 | 0 => some [0, 1, 5]
 | _ => none
noncomputable def lP (N : Nat) (p : List Dir) (rs : List (Env → Option (Bool))) (k : Nat) (env : Env) : Option (Bool) :=
 lpE (eS N) N an_ p Try.f26 (endK Tb sG Try.f26 [] (un1 .bool)) rs k env
noncomputable def El0 (N : Nat) (k_ : Nat) (a2 : List Int) (b2 : List Int) (i : Int) : Option (Bool) :=
 lP N [.r, .r, .l, .r, .b] [] k_ (.con .val [lf ty1 a2 .ro] :: (.con .val [lf ty1 b2 .ro] :: (un 3 (.con .val [lf i64 i .ro] :: (un 20 [])))))
theorem ql0 (N : Nat) : ∀ k_, El0 N k_ = laws_eqIntS_l0 N k_
 | 0 => by funext a2 b2 i; kernel_rfl
 | k_ + 1 => by funext a2 b2 i; rw [show El0 N (k_ + 1) a2 b2 i = laws_eqIntS_l0_b N (El0 N k_) a2 b2 i from by kernel_rfl]; simp only [ql0 N k_]; rfl
theorem vV (N : Nat) (a : List Int) (b : List Int) :
  evE (eS N) N an_ sG Try.f26 [.val ty1 a, .val ty1 b] (un1 .bool) = laws_eqIntS_b N (El0 N N) a b := by kernel_rfl
noncomputable def eE (N : Nat) : Entry Try.prog := ⟨26, sG, [.v ty1, .v ty1], Bool, laws_eqIntS N, pk1 .bool, entry_en Try.func26 (code := Try.f26.body.getD .skip) (by kernel_rfl) (by kernel_rfl),
 fun a b => entry_ok tab_ok (es := eS N) (by kernel_rfl) mixed Try.func26 (by kernel_rfl) ⟨⟨rfl, rfl⟩, rfl, rfl⟩ (un1_pk .bool) ((vV N a b).trans (by rw [ql0]; rfl))⟩
end laws_eqIntS
namespace laws_eqIntSS
def sG : Sig := ⟨[.val ty0, .val ty0], [(.bool, .dp)], false, false, none, none⟩
noncomputable def eS (N : Nat) : List (Entry Try.prog) := [laws_eqIntS.eE N]
def an_ : Nat → Option (List Nat)
 | 0 => some [0, 1, 5]
 | _ => none
noncomputable def lP (N : Nat) (p : List Dir) (rs : List (Env → Option (Bool))) (k : Nat) (env : Env) : Option (Bool) :=
 lpE (eS N) N an_ p Try.f25 (endK Tb sG Try.f25 [] (un1 .bool)) rs k env
noncomputable def El0 (N : Nat) (k_ : Nat) (a2 : List (List Int)) (b2 : List (List Int)) (i : Int) : Option (Bool) :=
 lP N [.r, .r, .l, .r, .b] [] k_ (.con .val [lf ty0 a2 .ro] :: (.con .val [lf ty0 b2 .ro] :: (un 3 (.con .val [lf i64 i .ro] :: (un 21 [])))))
theorem ql0 (N : Nat) : ∀ k_, El0 N k_ = laws_eqIntSS_l0 N k_
 | 0 => by funext a2 b2 i; kernel_rfl
 | k_ + 1 => by funext a2 b2 i; rw [show El0 N (k_ + 1) a2 b2 i = laws_eqIntSS_l0_b N (El0 N k_) a2 b2 i from by kernel_rfl]; simp only [ql0 N k_]; rfl
theorem vV (N : Nat) (a : List (List Int)) (b : List (List Int)) :
  evE (eS N) N an_ sG Try.f25 [.val ty0 a, .val ty0 b] (un1 .bool) = laws_eqIntSS_b N (El0 N N) a b := by kernel_rfl
noncomputable def eE (N : Nat) : Entry Try.prog := ⟨25, sG, [.v ty0, .v ty0], Bool, laws_eqIntSS N, pk1 .bool, entry_en Try.func25 (code := Try.f25.body.getD .skip) (by kernel_rfl) (by kernel_rfl),
 fun a b => entry_ok tab_ok (es := eS N) (by kernel_rfl) mixed Try.func25 (by kernel_rfl) ⟨⟨rfl, rfl⟩, rfl, rfl⟩ (un1_pk .bool) ((vV N a b).trans (by rw [ql0]; rfl))⟩
end laws_eqIntSS
namespace laws_markIntS
def sG : Sig := ⟨[.val ty1, .val i64], [(i64, .dp)], true, false, none, none⟩
noncomputable def eS (N : Nat) : List (Entry Try.prog) := []
def an_ : Nat → Option (List Nat)
 | 0 => some [0, 1, 5]
 | _ => none
noncomputable def lP (N : Nat) (p : List Dir) (rs : List (Env → Option (List Int × Int))) (k : Nat) (env : Env) : Option (List Int × Int) :=
 lpE (eS N) N an_ p Try.f28 (endK Tb sG Try.f28 [.val ty1 []] (un2 ty1 i64)) rs k env
noncomputable def El0 (N : Nat) (k_ : Nat) (a2 : List Int) (k2 : Int) (i : Int) : Option (List Int × Int) :=
 lP N [.r, .l, .r, .b] [] k_ (.con .val [⟨ty1, a2, (.at_ (.pn 0))⟩] :: (.con .val [lf i64 k2 .ro] :: (un 3 (.con .val [lf i64 i .ro] :: (un 13 [])))))
theorem ql0 (N : Nat) : ∀ k_, El0 N k_ = laws_markIntS_l0 N k_
 | 0 => by funext a2 k2 i; kernel_rfl
 | k_ + 1 => by funext a2 k2 i; rw [show El0 N (k_ + 1) a2 k2 i = laws_markIntS_l0_b N (El0 N k_) a2 k2 i from by kernel_rfl]; simp only [ql0 N k_]; rfl
theorem vV (N : Nat) (a : List Int) (k : Int) :
  evE (eS N) N an_ sG Try.f28 [.val ty1 a, .val i64 k] (un2 ty1 i64) = laws_markIntS_b N (El0 N N) a k := by kernel_rfl
noncomputable def eE (N : Nat) : Entry Try.prog := ⟨28, sG, [.v ty1, .v i64], List Int × Int, laws_markIntS N, pk2 ty1 i64, entry_en Try.func28 (code := Try.f28.body.getD .skip) (by kernel_rfl) (by kernel_rfl),
 fun a k => entry_okM tab_ok (es := eS N) (by kernel_rfl) mixed Try.func28 (by kernel_rfl) ⟨⟨rfl, rfl⟩, rfl, rfl⟩ (fun _ => ⟨_, _, rfl⟩) (un2_pk ty1 i64) ((vV N a k).trans (by rw [ql0]; rfl))⟩
end laws_markIntS
namespace laws_markIntSS
def sG : Sig := ⟨[.val ty0, .val i64], [(i64, .dp)], true, false, none, none⟩
noncomputable def eS (N : Nat) : List (Entry Try.prog) := [laws_markIntS.eE N]
def an_ : Nat → Option (List Nat)
 | 0 => some [0, 1, 5]
 | _ => none
noncomputable def lP (N : Nat) (p : List Dir) (rs : List (Env → Option (List (List Int) × Int))) (k : Nat) (env : Env) : Option (List (List Int) × Int) :=
 lpE (eS N) N an_ p Try.f27 (endK Tb sG Try.f27 [.val ty0 []] (un2 ty0 i64)) rs k env
noncomputable def El0 (N : Nat) (k_ : Nat) (a2 : List (List Int)) (k2 : Int) (i : Int) : Option (List (List Int) × Int) :=
 lP N [.r, .l, .r, .b] [] k_ (.con .val [⟨ty0, a2, (.at_ (.pn 0))⟩] :: (.con .val [lf i64 k2 .ro] :: (un 3 (.con .val [lf i64 i .ro] :: (un 13 [])))))
theorem ql0 (N : Nat) : ∀ k_, El0 N k_ = laws_markIntSS_l0 N k_
 | 0 => by funext a2 k2 i; kernel_rfl
 | k_ + 1 => by funext a2 k2 i; rw [show El0 N (k_ + 1) a2 k2 i = laws_markIntSS_l0_b N (El0 N k_) a2 k2 i from by kernel_rfl]; simp only [ql0 N k_]; rfl
theorem vV (N : Nat) (a : List (List Int)) (k : Int) :
  evE (eS N) N an_ sG Try.f27 [.val ty0 a, .val i64 k] (un2 ty0 i64) = laws_markIntSS_b N (El0 N N) a k := by kernel_rfl
noncomputable def eE (N : Nat) : Entry Try.prog := ⟨27, sG, [.v ty0, .v i64], List (List Int) × Int, laws_markIntSS N, pk2 ty0 i64, entry_en Try.func27 (code := Try.f27.body.getD .skip) (by kernel_rfl) (by kernel_rfl),
 fun a k => entry_okM tab_ok (es := eS N) (by kernel_rfl) mixed Try.func27 (by kernel_rfl) ⟨⟨rfl, rfl⟩, rfl, rfl⟩ (fun _ => ⟨_, _, rfl⟩) (un2_pk ty0 i64) ((vV N a k).trans (by rw [ql0]; rfl))⟩
end laws_markIntSS
namespace laws_heldIntS
def sG : Sig := ⟨[.val ty1, .val i64], [(i64, .dp)], false, false, none, none⟩
noncomputable def eS (N : Nat) : List (Entry Try.prog) := []
def an_ : Nat → Option (List Nat)
 | 0 => some [0, 1, 5]
 | _ => none
noncomputable def lP (N : Nat) (p : List Dir) (rs : List (Env → Option (Int))) (k : Nat) (env : Env) : Option (Int) :=
 lpE (eS N) N an_ p Try.f37 (endK Tb sG Try.f37 [] (un1 i64)) rs k env
noncomputable def El0 (N : Nat) (k_ : Nat) (a2 : List Int) (k2 : Int) (i : Int) : Option (Int) :=
 lP N [.r, .l, .r, .b] [] k_ (.con .val [lf ty1 a2 .ro] :: (.con .val [lf i64 k2 .ro] :: (un 3 (.con .val [lf i64 i .ro] :: (un 15 [])))))
theorem ql0 (N : Nat) : ∀ k_, El0 N k_ = laws_heldIntS_l0 N k_
 | 0 => by funext a2 k2 i; kernel_rfl
 | k_ + 1 => by funext a2 k2 i; rw [show El0 N (k_ + 1) a2 k2 i = laws_heldIntS_l0_b N (El0 N k_) a2 k2 i from by kernel_rfl]; simp only [ql0 N k_]; rfl
theorem vV (N : Nat) (a : List Int) (k : Int) :
  evE (eS N) N an_ sG Try.f37 [.val ty1 a, .val i64 k] (un1 i64) = laws_heldIntS_b N (El0 N N) a k := by kernel_rfl
noncomputable def eE (N : Nat) : Entry Try.prog := ⟨37, sG, [.v ty1, .v i64], Int, laws_heldIntS N, pk1 i64, entry_en Try.func37 (code := Try.f37.body.getD .skip) (by kernel_rfl) (by kernel_rfl),
 fun a k => entry_ok tab_ok (es := eS N) (by kernel_rfl) mixed Try.func37 (by kernel_rfl) ⟨⟨rfl, rfl⟩, rfl, rfl⟩ (un1_pk i64) ((vV N a k).trans (by rw [ql0]; rfl))⟩
end laws_heldIntS
namespace laws_FnExactUnsatCore
def sG : Sig := ⟨[.val i64, .val ty0, .val ty0], [(.bool, .dp)], false, false, none, none⟩
noncomputable def eS (N : Nat) : List (Entry Try.prog) := [laws_szIntSS.eE N, laws_toIntSS.eE N, spec_UnsatCore.eE N, impl_UnsatCore.eE N, laws_eqIntS.eE N, laws_eqIntSS.eE N, laws_markIntSS.eE N, laws_markIntS.eE N, laws_heldIntS.eE N]
def an_ : Nat → Option (List Nat) := fun _ => none
theorem vV (N : Nat) (aN : Int) (aClauses : List (List Int)) (aProof : List (List Int)) :
  evE (eS N) N an_ sG Try.f6 [.val i64 aN, .val ty0 aClauses, .val ty0 aProof] (un1 .bool) = laws_FnExactUnsatCore N aN aClauses aProof := by kernel_rfl
noncomputable def eE (N : Nat) : Entry Try.prog := ⟨6, sG, [.v i64, .v ty0, .v ty0], Bool, laws_FnExactUnsatCore N, pk1 .bool, entry_en Try.func6 (code := Try.f6.body.getD .skip) (by kernel_rfl) (by kernel_rfl),
 fun aN aClauses aProof => entry_ok tab_ok (es := eS N) (by kernel_rfl) mixed Try.func6 (by kernel_rfl) ⟨⟨rfl, rfl⟩, rfl, rfl⟩ (un1_pk .bool) (vV N aN aClauses aProof)⟩
end laws_FnExactUnsatCore
end Go.PL
