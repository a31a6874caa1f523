/- What the machine does at each function is what the plain reading says. Conditions: none. -/
import Derived.Test.YtonpdomdcgfpfaaFpF
import Derived.Test.YtonpdomdcgfpfaaPlain
import Derived.Test.YtonpdomdcgfpfaaProg

/- What the machine does is what the plain reading says. Conditions: none. -/
namespace Go.PL
open Go.FP Go.Proofs Go.Shelf
set_option linter.unusedVariables false
set_option maxRecDepth 10000

abbrev i64 : Ty := .int .i64
abbrev ty0 : Ty := (.slice 3 i64)
abbrev ty1 : Ty := (.pair .str (.pair i64 i64))
abbrev ty2 : Ty := (.slice 147 (.pair .str (.pair i64 i64)))
abbrev ty3 : Ty := (.pair i64 (.slice 3 i64))
abbrev ty4 : Ty := (.slice 149 (.pair i64 (.slice 3 i64)))
abbrev ty5 : Ty := (.pair (.slice 147 (.pair .str (.pair i64 i64))) (.slice 149 (.pair i64 (.slice 3 i64))))
abbrev ty6 : Ty := (.slice 120 (.pair i64 (.pair i64 (.pair i64 (.pair i64 (.pair i64 (.pair i64 i64)))))))
abbrev ty7 : Ty := (.slice 124 (.pair .str (.pair i64 i64)))
abbrev ty8 : Ty := (.slice 90 (.pair i64 (.slice 3 i64)))
abbrev ty9 : Ty := (.pair (.slice 124 (.pair .str (.pair i64 i64))) (.slice 90 (.pair i64 (.slice 3 i64))))
abbrev ty10 : Ty := (.pair i64 (.pair i64 (.pair i64 (.pair i64 (.pair i64 (.pair i64 i64))))))
abbrev ty11 : Ty := (.slice 118 (.pair i64 (.pair i64 (.pair i64 (.pair i64 (.pair i64 (.pair i64 i64)))))))
abbrev ty12 : Ty := (.slice 116 (.pair i64 i64))
abbrev ty13 : Ty := (.slice 38 (.slice 3 i64))
abbrev ty14 : Ty := (.pair i64 i64)
abbrev ty15 : Ty := (.slice 5 (.int .u8))
def Tb : Tab := [⟨3, i64, 8, [], false⟩,
 ⟨4, .bool, 1, [], false⟩,
 ⟨5, (.int .u8), 1, [], false⟩,
 ⟨9, .str, 16, [], false⟩,
 ⟨22, ty15, 24, [], false⟩,
 ⟨24, ty7, 24, [], false⟩,
 ⟨25, ty8, 24, [], false⟩,
 ⟨27, ty9, 48, [(0, 24), (1, 25)], false⟩,
 ⟨33, ty13, 24, [], false⟩,
 ⟨38, ty0, 24, [], false⟩,
 ⟨44, ty2, 24, [], false⟩,
 ⟨45, ty4, 24, [], false⟩,
 ⟨47, ty5, 48, [(0, 44), (1, 45)], false⟩,
 ⟨65, ty6, 24, [], false⟩,
 ⟨67, ty12, 24, [], false⟩,
 ⟨69, ty11, 24, [], false⟩,
 ⟨90, ty3, 32, [(0, 3), (1, 38)], false⟩,
 ⟨116, ty14, 16, [(0, 3), (1, 3)], false⟩,
 ⟨118, ty10, 56, [(0, 3), (1, 3), (2, 3), (3, 3), (4, 3), (5, 3), (6, 3)], false⟩,
 ⟨120, ty10, 56, [(0, 3), (1, 3), (2, 3), (3, 3), (4, 3), (5, 3), (6, 3)], false⟩,
 ⟨124, ty1, 32, [(0, 9), (1, 3), (2, 3)], false⟩,
 ⟨147, ty1, 32, [(0, 9), (1, 3), (2, 3)], false⟩,
 ⟨149, ty3, 32, [(0, 3), (1, 38)], false⟩,
 ⟨168, .bool, 8, [], true⟩]
theorem tab_ok : TabOk Try.prog Tb :=
 (tab_cons (TEOk.plain (i := Try.t3) (by kernel_rfl) rfl rfl (by kernel_rfl) rfl rfl Try.underlying3)
 (tab_cons (TEOk.plain (i := Try.t4) (by kernel_rfl) rfl rfl (by kernel_rfl) rfl rfl Try.underlying4)
 (tab_cons (TEOk.plain (i := Try.t5) (by kernel_rfl) rfl rfl (by kernel_rfl) rfl rfl Try.underlying5)
 (tab_cons (TEOk.plain (i := Try.t9) (by kernel_rfl) rfl rfl (by kernel_rfl) rfl rfl Try.underlying9)
 (tab_cons (TEOk.plain (i := Try.t22) (by kernel_rfl) rfl rfl (by kernel_rfl) rfl rfl Try.underlying22)
 (tab_cons (TEOk.plain (i := Try.t24) (by kernel_rfl) rfl rfl (by kernel_rfl) rfl rfl Try.underlying24)
 (tab_cons (TEOk.plain (i := Try.t25) (by kernel_rfl) rfl rfl (by kernel_rfl) rfl rfl Try.underlying25)
 (tab_cons (TEOk.struct (i := Try.t27) (pl := [(0, 1), (1, 1)]) (by kernel_rfl) rfl rfl (by kernel_rfl) Try.underlying27 (by kernel_rfl) (by kernel_rfl) rfl rfl)
 (tab_cons (TEOk.plain (i := Try.t33) (by kernel_rfl) rfl rfl (by kernel_rfl) rfl rfl Try.underlying33)
 (tab_cons (TEOk.plain (i := Try.t38) (by kernel_rfl) rfl rfl (by kernel_rfl) rfl rfl Try.underlying38)
 (tab_cons (TEOk.plain (i := Try.t44) (by kernel_rfl) rfl rfl (by kernel_rfl) rfl rfl Try.underlying44)
 (tab_cons (TEOk.plain (i := Try.t45) (by kernel_rfl) rfl rfl (by kernel_rfl) rfl rfl Try.underlying45)
 (tab_cons (TEOk.struct (i := Try.t47) (pl := [(0, 1), (1, 1)]) (by kernel_rfl) rfl rfl (by kernel_rfl) Try.underlying47 (by kernel_rfl) (by kernel_rfl) rfl rfl)
 (tab_cons (TEOk.plain (i := Try.t65) (by kernel_rfl) rfl rfl (by kernel_rfl) rfl rfl Try.underlying65)
 (tab_cons (TEOk.plain (i := Try.t67) (by kernel_rfl) rfl rfl (by kernel_rfl) rfl rfl Try.underlying67)
 (tab_cons (TEOk.plain (i := Try.t69) (by kernel_rfl) rfl rfl (by kernel_rfl) rfl rfl Try.underlying69)
 (tab_cons (TEOk.struct (i := Try.t90) (pl := [(0, 1), (1, 1)]) (by kernel_rfl) rfl rfl (by kernel_rfl) Try.underlying90 (by kernel_rfl) (by kernel_rfl) rfl rfl)
 (tab_cons (TEOk.struct (i := Try.t116) (pl := [(0, 1), (1, 1)]) (by kernel_rfl) rfl rfl (by kernel_rfl) Try.underlying116 (by kernel_rfl) (by kernel_rfl) rfl rfl)
 (tab_cons (TEOk.struct (i := Try.t118) (pl := [(0, 1), (1, 1), (2, 1), (3, 1), (4, 1), (5, 1), (6, 1)]) (by kernel_rfl) rfl rfl (by kernel_rfl) Try.underlying118 (by kernel_rfl) (by kernel_rfl) rfl rfl)
 (tab_cons (TEOk.struct (i := Try.t120) (pl := [(0, 1), (1, 1), (2, 1), (3, 1), (4, 1), (5, 1), (6, 1)]) (by kernel_rfl) rfl rfl (by kernel_rfl) Try.underlying120 (by kernel_rfl) (by kernel_rfl) rfl rfl)
 (tab_cons (TEOk.struct (i := Try.t124) (pl := [(0, 1), (1, 1), (2, 1)]) (by kernel_rfl) rfl rfl (by kernel_rfl) Try.underlying124 (by kernel_rfl) (by kernel_rfl) rfl rfl)
 (tab_cons (TEOk.struct (i := Try.t147) (pl := [(0, 1), (1, 1), (2, 1)]) (by kernel_rfl) rfl rfl (by kernel_rfl) Try.underlying147 (by kernel_rfl) (by kernel_rfl) rfl rfl)
 (tab_cons (TEOk.struct (i := Try.t149) (pl := [(0, 1), (1, 1)]) (by kernel_rfl) rfl rfl (by kernel_rfl) Try.underlying149 (by kernel_rfl) (by kernel_rfl) rfl rfl)
 (tab_cons (TEOk.ofFn (i := Try.t168) (z := (Try.t168.zero).getD default) (by kernel_rfl) rfl (by kernel_rfl) (by kernel_rfl) Try.underlying168 rfl)
 tab_nil))))))))))))))))))))))))
theorem mixed : Try.prog.follows .mixedOrders = true := by decide
def cps : FuncId → List Ty := capsL [(171, [ty11, ty9]), (182, [i64, ty12, .bool, .bool]), (216, [ty0]), (217, [])]
section
variable {R : Type} (es : List (Entry Try.prog)) (N : Nat) (an : Nat → Option (List Nat))
noncomputable abbrev evE (sg : Sig) (fn : Func) (args : List RV) (K : List (Σ t : Ty, t.D) → Option R) : Option R :=
 evFn Tb (sigL es) cps (orcL es) (drawReg Tb (sigL es) cps (orcL es)) N an sg fn (fn.body.getD .skip) args K
noncomputable abbrev evB (sg : Sig) (b : BoxSig) (fn : Func) (args : List RV) (K : List (Σ t : Ty, t.D) → Option R) : Option R :=
 evFnB Tb (sigL es) cps (orcL es) (drawReg Tb (sigL es) cps (orcL es)) N an sg b fn (fn.body.getD .skip) args K
noncomputable abbrev evN (id : TypeId) (t : Ty) (fn : Func) (args : List RV) (K : List (Σ t : Ty, t.D) → Option R) : Option R :=
 evFnN Tb (sigL es) cps (orcL es) (drawReg Tb (sigL es) cps (orcL es)) N an id t fn (fn.body.getD .skip) args K
noncomputable abbrev lpE (p : List Dir) (fn : Func) (K : Exit → Env → Option R) (rs : List (Env → Option R)) (k : Nat) (env : Env) : Option R :=
 loopAt Tb (sigL es) cps (orcL es) N an p (fn.body.getD .skip) K rs k env
end

theorem slices_Clone_Lint_int_b : Bears Try.prog 92 (SlBodyN.n41 (renL 92 0 3 4 38 3)) := ⟨Try.f92.name, by kernel_rfl, Try.func92.trans (congrArg some (by kernel_rfl))⟩
noncomputable def slices_Clone_Lint_int_e (N : Nat) : Entry Try.prog := ⟨92, ⟨[.val ty0], [(ty0, .dp)], false, false, none, none⟩, [.v ty0], List Int, slices_Clone_Lint_int N, pk1 ty0, entry_en Try.func92 (code := Try.f92.body.getD .skip) (by kernel_rfl) (by kernel_rfl),
 fun s q h => clone_ent tab_ok mixed slices_Clone_Lint_int_b (by kernel_rfl) Try.underlying4 (te := ⟨3, i64, 8, [], false⟩) (by kernel_rfl) rfl rfl h⟩
namespace laws_szRelation
def sG : Sig := ⟨[.val ty1, .val i64], [(i64, .dp)], false, false, none, none⟩
noncomputable def eS (N : Nat) : List (Entry Try.prog) := []
def aN : Nat → Option (List Nat) := fun _ => none
theorem vV (N : Nat) (a : ByteArray × Int × Int) (left_ : Int) :
  evE (eS N) N aN sG Try.f158 [.val ty1 a, .val i64 left_] (un1 i64) = laws_szRelation N a left_ := by kernel_rfl
noncomputable def eE (N : Nat) : Entry Try.prog := ⟨158, sG, [.v ty1, .v i64], Int, laws_szRelation N, pk1 i64, entry_en Try.func158 (code := Try.f158.body.getD .skip) (by kernel_rfl) (by kernel_rfl),
 fun a left_ => entry_ok tab_ok (es := eS N) (by kernel_rfl) mixed Try.func158 (by kernel_rfl) ⟨⟨rfl, rfl⟩, rfl, rfl⟩ (un1_pk i64) (vV N a left_)⟩
end laws_szRelation
namespace laws_szRelationS
def sG : Sig := ⟨[.val ty2, .val i64], [(i64, .dp)], false, false, none, none⟩
noncomputable def eS (N : Nat) : List (Entry Try.prog) := [laws_szRelation.eE N]
def aN : Nat → Option (List Nat)
 | 0 => some [0, 1, 5]
 | _ => none
noncomputable def lP (N : Nat) (p : List Dir) (rs : List (Env → Option (Int))) (k : Nat) (env : Env) : Option (Int) :=
 lpE (eS N) N aN p Try.f104 (endK Tb sG Try.f104 [] (un1 i64)) rs k env
noncomputable def El0 (N : Nat) (k_ : Nat) (a2 : List (ByteArray × Int × Int)) (left_2 : Int) (i : Int) : Option (Int) :=
 lP N [.r, .r, .r, .l, .r, .b] [] k_ (.con .val [lf ty2 a2 .ro] :: (.con .val [lf i64 left_2 .ro] :: (un 3 (.con .val [lf i64 i .ro] :: (un 21 [])))))
theorem ql0 (N : Nat) : ∀ k_, El0 N k_ = laws_szRelationS_l0 N k_
 | 0 => by funext a2 left_2 i; kernel_rfl
 | k_ + 1 => by funext a2 left_2 i; rw [show El0 N (k_ + 1) a2 left_2 i = laws_szRelationS_l0_b N (El0 N k_) a2 left_2 i from by kernel_rfl]; simp only [ql0 N k_]; rfl
theorem vV (N : Nat) (a : List (ByteArray × Int × Int)) (left_ : Int) :
  evE (eS N) N aN sG Try.f104 [.val ty2 a, .val i64 left_] (un1 i64) = laws_szRelationS_b N (El0 N N) a left_ := by kernel_rfl
noncomputable def eE (N : Nat) : Entry Try.prog := ⟨104, sG, [.v ty2, .v i64], Int, laws_szRelationS N, pk1 i64, entry_en Try.func104 (code := Try.f104.body.getD .skip) (by kernel_rfl) (by kernel_rfl),
 fun a left_ => entry_ok tab_ok (es := eS N) (by kernel_rfl) mixed Try.func104 (by kernel_rfl) ⟨⟨rfl, rfl⟩, rfl, rfl⟩ (un1_pk i64) ((vV N a left_).trans (by rw [ql0]; rfl))⟩
end laws_szRelationS
namespace laws_szIntS
def sG : Sig := ⟨[.val ty0, .val i64], [(i64, .dp)], false, false, none, none⟩
noncomputable def eS (N : Nat) : List (Entry Try.prog) := []
def aN : Nat → Option (List Nat) := fun _ => none
theorem vV (N : Nat) (a : List Int) (left_ : Int) :
  evE (eS N) N aN sG Try.f195 [.val ty0 a, .val i64 left_] (un1 i64) = laws_szIntS N a left_ := by kernel_rfl
noncomputable def eE (N : Nat) : Entry Try.prog := ⟨195, sG, [.v ty0, .v i64], Int, laws_szIntS N, pk1 i64, entry_en Try.func195 (code := Try.f195.body.getD .skip) (by kernel_rfl) (by kernel_rfl),
 fun a left_ => entry_ok tab_ok (es := eS N) (by kernel_rfl) mixed Try.func195 (by kernel_rfl) ⟨⟨rfl, rfl⟩, rfl, rfl⟩ (un1_pk i64) (vV N a left_)⟩
end laws_szIntS
namespace laws_szFact
def sG : Sig := ⟨[.val ty3, .val i64], [(i64, .dp)], false, false, none, none⟩
noncomputable def eS (N : Nat) : List (Entry Try.prog) := [laws_szIntS.eE N]
def aN : Nat → Option (List Nat) := fun _ => none
theorem vV (N : Nat) (a : Int × List Int) (left_ : Int) :
  evE (eS N) N aN sG Try.f159 [.val ty3 a, .val i64 left_] (un1 i64) = laws_szFact N a left_ := by kernel_rfl
noncomputable def eE (N : Nat) : Entry Try.prog := ⟨159, sG, [.v ty3, .v i64], Int, laws_szFact N, pk1 i64, entry_en Try.func159 (code := Try.f159.body.getD .skip) (by kernel_rfl) (by kernel_rfl),
 fun a left_ => entry_ok tab_ok (es := eS N) (by kernel_rfl) mixed Try.func159 (by kernel_rfl) ⟨⟨rfl, rfl⟩, rfl, rfl⟩ (un1_pk i64) (vV N a left_)⟩
end laws_szFact
namespace laws_szFactS
def sG : Sig := ⟨[.val ty4, .val i64], [(i64, .dp)], false, false, none, none⟩
noncomputable def eS (N : Nat) : List (Entry Try.prog) := [laws_szFact.eE N]
def aN : Nat → Option (List Nat)
 | 0 => some [0, 1, 5]
 | _ => none
noncomputable def lP (N : Nat) (p : List Dir) (rs : List (Env → Option (Int))) (k : Nat) (env : Env) : Option (Int) :=
 lpE (eS N) N aN p Try.f105 (endK Tb sG Try.f105 [] (un1 i64)) rs k env
noncomputable def El0 (N : Nat) (k_ : Nat) (a2 : List (Int × List Int)) (left_2 : Int) (i : Int) : Option (Int) :=
 lP N [.r, .r, .r, .l, .r, .b] [] k_ (.con .val [lf ty4 a2 .ro] :: (.con .val [lf i64 left_2 .ro] :: (un 3 (.con .val [lf i64 i .ro] :: (un 21 [])))))
theorem ql0 (N : Nat) : ∀ k_, El0 N k_ = laws_szFactS_l0 N k_
 | 0 => by funext a2 left_2 i; kernel_rfl
 | k_ + 1 => by funext a2 left_2 i; rw [show El0 N (k_ + 1) a2 left_2 i = laws_szFactS_l0_b N (El0 N k_) a2 left_2 i from by kernel_rfl]; simp only [ql0 N k_]; rfl
theorem vV (N : Nat) (a : List (Int × List Int)) (left_ : Int) :
  evE (eS N) N aN sG Try.f105 [.val ty4 a, .val i64 left_] (un1 i64) = laws_szFactS_b N (El0 N N) a left_ := by kernel_rfl
noncomputable def eE (N : Nat) : Entry Try.prog := ⟨105, sG, [.v ty4, .v i64], Int, laws_szFactS N, pk1 i64, entry_en Try.func105 (code := Try.f105.body.getD .skip) (by kernel_rfl) (by kernel_rfl),
 fun a left_ => entry_ok tab_ok (es := eS N) (by kernel_rfl) mixed Try.func105 (by kernel_rfl) ⟨⟨rfl, rfl⟩, rfl, rfl⟩ (un1_pk i64) ((vV N a left_).trans (by rw [ql0]; rfl))⟩
end laws_szFactS
namespace laws_szDatabase
def sG : Sig := ⟨[.val ty5, .val i64], [(i64, .dp)], false, false, none, none⟩
noncomputable def eS (N : Nat) : List (Entry Try.prog) := [laws_szRelationS.eE N, laws_szFactS.eE N]
def aN : Nat → Option (List Nat) := fun _ => none
theorem vV (N : Nat) (a : List (ByteArray × Int × Int) × List (Int × List Int)) (left_ : Int) :
  evE (eS N) N aN sG Try.f33 [.val ty5 a, .val i64 left_] (un1 i64) = laws_szDatabase N a left_ := by kernel_rfl
noncomputable def eE (N : Nat) : Entry Try.prog := ⟨33, sG, [.v ty5, .v i64], Int, laws_szDatabase N, pk1 i64, entry_en Try.func33 (code := Try.f33.body.getD .skip) (by kernel_rfl) (by kernel_rfl),
 fun a left_ => entry_ok tab_ok (es := eS N) (by kernel_rfl) mixed Try.func33 (by kernel_rfl) ⟨⟨rfl, rfl⟩, rfl, rfl⟩ (un1_pk i64) (vV N a left_)⟩
end laws_szDatabase
namespace laws_szDenialConstraintS
def sG : Sig := ⟨[.val ty6, .val i64], [(i64, .dp)], false, false, none, none⟩
noncomputable def eS (N : Nat) : List (Entry Try.prog) := []
def aN : Nat → Option (List Nat) := fun _ => none
theorem vV (N : Nat) (a : List (Int × Int × Int × Int × Int × Int × Int)) (left_ : Int) :
  evE (eS N) N aN sG Try.f53 [.val ty6 a, .val i64 left_] (un1 i64) = laws_szDenialConstraintS N a left_ := by kernel_rfl
noncomputable def eE (N : Nat) : Entry Try.prog := ⟨53, sG, [.v ty6, .v i64], Int, laws_szDenialConstraintS N, pk1 i64, entry_en Try.func53 (code := Try.f53.body.getD .skip) (by kernel_rfl) (by kernel_rfl),
 fun a left_ => entry_ok tab_ok (es := eS N) (by kernel_rfl) mixed Try.func53 (by kernel_rfl) ⟨⟨rfl, rfl⟩, rfl, rfl⟩ (un1_pk i64) (vV N a left_)⟩
end laws_szDenialConstraintS
namespace laws_toRelation
def sG : Sig := ⟨[.val ty1], [(ty1, .dp)], false, false, none, none⟩
noncomputable def eS (N : Nat) : List (Entry Try.prog) := []
def aN : Nat → Option (List Nat) := fun _ => none
theorem vV (N : Nat) (a : ByteArray × Int × Int) :
  evE (eS N) N aN sG Try.f160 [.val ty1 a] (un1 ty1) = laws_toRelation N a := by kernel_rfl
noncomputable def eE (N : Nat) : Entry Try.prog := ⟨160, sG, [.v ty1], ByteArray × Int × Int, laws_toRelation N, pk1 ty1, entry_en Try.func160 (code := Try.f160.body.getD .skip) (by kernel_rfl) (by kernel_rfl),
 fun a => entry_ok tab_ok (es := eS N) (by kernel_rfl) mixed Try.func160 (by kernel_rfl) ⟨⟨rfl, rfl⟩, rfl, rfl⟩ (un1_pk ty1) (vV N a)⟩
end laws_toRelation
namespace laws_toRelationS
def sG : Sig := ⟨[.val ty2], [(ty7, .dp)], false, false, none, none⟩
noncomputable def eS (N : Nat) : List (Entry Try.prog) := [laws_toRelation.eE N]
def aN : Nat → Option (List Nat)
 | 0 => some [0, 3, 4]
 | _ => none
noncomputable def lP (N : Nat) (p : List Dir) (rs : List (Env → Option (List (ByteArray × Int × Int)))) (k : Nat) (env : Env) : Option (List (ByteArray × Int × Int)) :=
 lpE (eS N) N aN p Try.f107 (endK Tb sG Try.f107 [] (un1 ty7)) rs k env
noncomputable def El0 (N : Nat) (k_ : Nat) (a2 : List (ByteArray × Int × Int)) (out : List (ByteArray × Int × Int)) (i : Int) : Option (List (ByteArray × Int × Int)) :=
 lP N [.r, .r, .l, .r, .b] [] k_ (.con .val [lf ty2 a2 .ro] :: (un 2 (.con .val [lf ty7 out .dp] :: (.con .val [lf i64 i .ro] :: (un 18 [])))))
theorem ql0 (N : Nat) : ∀ k_, El0 N k_ = laws_toRelationS_l0 N k_
 | 0 => by funext a2 out i; kernel_rfl
 | k_ + 1 => by funext a2 out i; rw [show El0 N (k_ + 1) a2 out i = laws_toRelationS_l0_b N (El0 N k_) a2 out i from by kernel_rfl]; simp only [ql0 N k_]; rfl
theorem vV (N : Nat) (a : List (ByteArray × Int × Int)) :
  evE (eS N) N aN sG Try.f107 [.val ty2 a] (un1 ty7) = laws_toRelationS_b N (El0 N N) a := by kernel_rfl
noncomputable def eE (N : Nat) : Entry Try.prog := ⟨107, sG, [.v ty2], List (ByteArray × Int × Int), laws_toRelationS N, pk1 ty7, entry_en Try.func107 (code := Try.f107.body.getD .skip) (by kernel_rfl) (by kernel_rfl),
 fun a => entry_ok tab_ok (es := eS N) (by kernel_rfl) mixed Try.func107 (by kernel_rfl) ⟨⟨rfl, rfl⟩, rfl, rfl⟩ (un1_pk ty7) ((vV N a).trans (by rw [ql0]; rfl))⟩
end laws_toRelationS
namespace laws_toIntS
def sG : Sig := ⟨[.val ty0], [(ty0, .dp)], false, false, none, none⟩
noncomputable def eS (N : Nat) : List (Entry Try.prog) := []
def aN : Nat → Option (List Nat)
 | 0 => some [0, 3, 4]
 | _ => none
noncomputable def lP (N : Nat) (p : List Dir) (rs : List (Env → Option (List Int))) (k : Nat) (env : Env) : Option (List Int) :=
 lpE (eS N) N aN p Try.f36 (endK Tb sG Try.f36 [] (un1 ty0)) rs k env
noncomputable def El0 (N : Nat) (k_ : Nat) (a2 : List Int) (out : List Int) (i : Int) : Option (List Int) :=
 lP N [.r, .r, .l, .r, .b] [] k_ (.con .val [lf ty0 a2 .ro] :: (un 2 (.con .val [lf ty0 out .dp] :: (.con .val [lf i64 i .ro] :: (un 17 [])))))
theorem ql0 (N : Nat) : ∀ k_, El0 N k_ = laws_toIntS_l0 N k_
 | 0 => by funext a2 out i; kernel_rfl
 | k_ + 1 => by funext a2 out i; rw [show El0 N (k_ + 1) a2 out i = laws_toIntS_l0_b N (El0 N k_) a2 out i from by kernel_rfl]; simp only [ql0 N k_]; rfl
theorem vV (N : Nat) (a : List Int) :
  evE (eS N) N aN sG Try.f36 [.val ty0 a] (un1 ty0) = laws_toIntS_b N (El0 N N) a := by kernel_rfl
noncomputable def eE (N : Nat) : Entry Try.prog := ⟨36, sG, [.v ty0], List Int, laws_toIntS N, pk1 ty0, entry_en Try.func36 (code := Try.f36.body.getD .skip) (by kernel_rfl) (by kernel_rfl),
 fun a => entry_ok tab_ok (es := eS N) (by kernel_rfl) mixed Try.func36 (by kernel_rfl) ⟨⟨rfl, rfl⟩, rfl, rfl⟩ (un1_pk ty0) ((vV N a).trans (by rw [ql0]; rfl))⟩
end laws_toIntS
namespace laws_toFact
def sG : Sig := ⟨[.val ty3], [(ty3, .dp)], false, false, none, none⟩
noncomputable def eS (N : Nat) : List (Entry Try.prog) := [laws_toIntS.eE N]
def aN : Nat → Option (List Nat) := fun _ => none
theorem vV (N : Nat) (a : Int × List Int) :
  evE (eS N) N aN sG Try.f161 [.val ty3 a] (un1 ty3) = laws_toFact N a := by kernel_rfl
noncomputable def eE (N : Nat) : Entry Try.prog := ⟨161, sG, [.v ty3], Int × List Int, laws_toFact N, pk1 ty3, entry_en Try.func161 (code := Try.f161.body.getD .skip) (by kernel_rfl) (by kernel_rfl),
 fun a => entry_ok tab_ok (es := eS N) (by kernel_rfl) mixed Try.func161 (by kernel_rfl) ⟨⟨rfl, rfl⟩, rfl, rfl⟩ (un1_pk ty3) (vV N a)⟩
end laws_toFact
namespace laws_toFactS
def sG : Sig := ⟨[.val ty4], [(ty8, .dp)], false, false, none, none⟩
noncomputable def eS (N : Nat) : List (Entry Try.prog) := [laws_toFact.eE N]
def aN : Nat → Option (List Nat)
 | 0 => some [0, 3, 4]
 | _ => none
noncomputable def lP (N : Nat) (p : List Dir) (rs : List (Env → Option (List (Int × List Int)))) (k : Nat) (env : Env) : Option (List (Int × List Int)) :=
 lpE (eS N) N aN p Try.f108 (endK Tb sG Try.f108 [] (un1 ty8)) rs k env
noncomputable def El0 (N : Nat) (k_ : Nat) (a2 : List (Int × List Int)) (out : List (Int × List Int)) (i : Int) : Option (List (Int × List Int)) :=
 lP N [.r, .r, .l, .r, .b] [] k_ (.con .val [lf ty4 a2 .ro] :: (un 2 (.con .val [lf ty8 out .dp] :: (.con .val [lf i64 i .ro] :: (un 18 [])))))
theorem ql0 (N : Nat) : ∀ k_, El0 N k_ = laws_toFactS_l0 N k_
 | 0 => by funext a2 out i; kernel_rfl
 | k_ + 1 => by funext a2 out i; rw [show El0 N (k_ + 1) a2 out i = laws_toFactS_l0_b N (El0 N k_) a2 out i from by kernel_rfl]; simp only [ql0 N k_]; rfl
theorem vV (N : Nat) (a : List (Int × List Int)) :
  evE (eS N) N aN sG Try.f108 [.val ty4 a] (un1 ty8) = laws_toFactS_b N (El0 N N) a := by kernel_rfl
noncomputable def eE (N : Nat) : Entry Try.prog := ⟨108, sG, [.v ty4], List (Int × List Int), laws_toFactS N, pk1 ty8, entry_en Try.func108 (code := Try.f108.body.getD .skip) (by kernel_rfl) (by kernel_rfl),
 fun a => entry_ok tab_ok (es := eS N) (by kernel_rfl) mixed Try.func108 (by kernel_rfl) ⟨⟨rfl, rfl⟩, rfl, rfl⟩ (un1_pk ty8) ((vV N a).trans (by rw [ql0]; rfl))⟩
end laws_toFactS
namespace laws_toDatabase
def sG : Sig := ⟨[.val ty5], [(ty9, .dp)], false, false, none, none⟩
noncomputable def eS (N : Nat) : List (Entry Try.prog) := [laws_toRelationS.eE N, laws_toFactS.eE N]
def aN : Nat → Option (List Nat) := fun _ => none
theorem vV (N : Nat) (a : List (ByteArray × Int × Int) × List (Int × List Int)) :
  evE (eS N) N aN sG Try.f35 [.val ty5 a] (un1 ty9) = laws_toDatabase N a := by kernel_rfl
noncomputable def eE (N : Nat) : Entry Try.prog := ⟨35, sG, [.v ty5], List (ByteArray × Int × Int) × List (Int × List Int), laws_toDatabase N, pk1 ty9, entry_en Try.func35 (code := Try.f35.body.getD .skip) (by kernel_rfl) (by kernel_rfl),
 fun a => entry_ok tab_ok (es := eS N) (by kernel_rfl) mixed Try.func35 (by kernel_rfl) ⟨⟨rfl, rfl⟩, rfl, rfl⟩ (un1_pk ty9) (vV N a)⟩
end laws_toDatabase
namespace laws_toDenialConstraint
def sG : Sig := ⟨[.val ty10], [(ty10, .dp)], false, false, none, none⟩
noncomputable def eS (N : Nat) : List (Entry Try.prog) := []
def aN : Nat → Option (List Nat) := fun _ => none
theorem vV (N : Nat) (a : Int × Int × Int × Int × Int × Int × Int) :
  evE (eS N) N aN sG Try.f126 [.val ty10 a] (un1 ty10) = laws_toDenialConstraint N a := by kernel_rfl
noncomputable def eE (N : Nat) : Entry Try.prog := ⟨126, sG, [.v ty10], Int × Int × Int × Int × Int × Int × Int, laws_toDenialConstraint N, pk1 ty10, entry_en Try.func126 (code := Try.f126.body.getD .skip) (by kernel_rfl) (by kernel_rfl),
 fun a => entry_ok tab_ok (es := eS N) (by kernel_rfl) mixed Try.func126 (by kernel_rfl) ⟨⟨rfl, rfl⟩, rfl, rfl⟩ (un1_pk ty10) (vV N a)⟩
end laws_toDenialConstraint
namespace laws_toDenialConstraintS
def sG : Sig := ⟨[.val ty6], [(ty11, .dp)], false, false, none, none⟩
noncomputable def eS (N : Nat) : List (Entry Try.prog) := [laws_toDenialConstraint.eE N]
def aN : Nat → Option (List Nat)
 | 0 => some [0, 3, 4]
 | _ => none
noncomputable def lP (N : Nat) (p : List Dir) (rs : List (Env → Option (List (Int × Int × Int × Int × Int × Int × Int)))) (k : Nat) (env : Env) : Option (List (Int × Int × Int × Int × Int × Int × Int)) :=
 lpE (eS N) N aN p Try.f55 (endK Tb sG Try.f55 [] (un1 ty11)) rs k env
noncomputable def El0 (N : Nat) (k_ : Nat) (a2 : List (Int × Int × Int × Int × Int × Int × Int)) (out : List (Int × Int × Int × Int × Int × Int × Int)) (i : Int) : Option (List (Int × Int × Int × Int × Int × Int × Int)) :=
 lP N [.r, .r, .l, .r, .b] [] k_ (.con .val [lf ty6 a2 .ro] :: (un 2 (.con .val [lf ty11 out .dp] :: (.con .val [lf i64 i .ro] :: (un 18 [])))))
theorem ql0 (N : Nat) : ∀ k_, El0 N k_ = laws_toDenialConstraintS_l0 N k_
 | 0 => by funext a2 out i; kernel_rfl
 | k_ + 1 => by funext a2 out i; rw [show El0 N (k_ + 1) a2 out i = laws_toDenialConstraintS_l0_b N (El0 N k_) a2 out i from by kernel_rfl]; simp only [ql0 N k_]; rfl
theorem vV (N : Nat) (a : List (Int × Int × Int × Int × Int × Int × Int)) :
  evE (eS N) N aN sG Try.f55 [.val ty6 a] (un1 ty11) = laws_toDenialConstraintS_b N (El0 N N) a := by kernel_rfl
noncomputable def eE (N : Nat) : Entry Try.prog := ⟨55, sG, [.v ty6], List (Int × Int × Int × Int × Int × Int × Int), laws_toDenialConstraintS N, pk1 ty11, entry_en Try.func55 (code := Try.f55.body.getD .skip) (by kernel_rfl) (by kernel_rfl),
 fun a => entry_ok tab_ok (es := eS N) (by kernel_rfl) mixed Try.func55 (by kernel_rfl) ⟨⟨rfl, rfl⟩, rfl, rfl⟩ (un1_pk ty11) ((vV N a).trans (by rw [ql0]; rfl))⟩
end laws_toDenialConstraintS
namespace spec_l1In
def sG : Sig := ⟨[.val i64, .val i64, .val i64], [(.bool, .dp)], false, false, none, none⟩
noncomputable def eS (N : Nat) : List (Entry Try.prog) := []
def aN : Nat → Option (List Nat) := fun _ => none
theorem vV (N : Nat) (x : Int) (low : Int) (high : Int) :
  evE (eS N) N aN sG Try.f98 [.val i64 x, .val i64 low, .val i64 high] (un1 .bool) = spec_l1In N x low high := by kernel_rfl
noncomputable def eE (N : Nat) : Entry Try.prog := ⟨98, sG, [.v i64, .v i64, .v i64], Bool, spec_l1In N, pk1 .bool, entry_en Try.func98 (code := Try.f98.body.getD .skip) (by kernel_rfl) (by kernel_rfl),
 fun x low high => entry_ok tab_ok (es := eS N) (by kernel_rfl) mixed Try.func98 (by kernel_rfl) ⟨⟨rfl, rfl⟩, rfl, rfl⟩ (un1_pk .bool) (vV N x low high)⟩
end spec_l1In
namespace spec_IsValidRelation
def sG : Sig := ⟨[.val ty1], [(.bool, .dp)], false, false, none, none⟩
noncomputable def eS (N : Nat) : List (Entry Try.prog) := [spec_l1In.eE N]
def aN : Nat → Option (List Nat) := fun _ => none
theorem vV (N : Nat) (s : ByteArray × Int × Int) :
  evE (eS N) N aN sG Try.f146 [.val ty1 s] (un1 .bool) = spec_IsValidRelation N s := by kernel_rfl
noncomputable def eE (N : Nat) : Entry Try.prog := ⟨146, sG, [.v ty1], Bool, spec_IsValidRelation N, pk1 .bool, entry_en Try.func146 (code := Try.f146.body.getD .skip) (by kernel_rfl) (by kernel_rfl),
 fun s => entry_ok tab_ok (es := eS N) (by kernel_rfl) mixed Try.func146 (by kernel_rfl) ⟨⟨rfl, rfl⟩, rfl, rfl⟩ (un1_pk .bool) (vV N s)⟩
end spec_IsValidRelation
namespace spec_AreValidRelations
def sG : Sig := ⟨[.val ty7], [(.bool, .dp)], false, false, none, none⟩
noncomputable def eS (N : Nat) : List (Entry Try.prog) := [spec_IsValidRelation.eE N]
def aN : Nat → Option (List Nat)
 | 0 => some [0, 3]
 | _ => none
noncomputable def lP (N : Nat) (p : List Dir) (rs : List (Env → Option (Bool))) (k : Nat) (env : Env) : Option (Bool) :=
 lpE (eS N) N aN p Try.f85 (endK Tb sG Try.f85 [] (un1 .bool)) rs k env
noncomputable def El0 (N : Nat) (k_ : Nat) (l2 : List (ByteArray × Int × Int)) (i : Int) : Option (Bool) :=
 lP N [.r, .l, .r, .b] [] k_ (.con .val [lf ty7 l2 .ro] :: (un 2 (.con .val [lf i64 i .ro] :: (un 33 []))))
theorem ql0 (N : Nat) : ∀ k_, El0 N k_ = spec_AreValidRelations_l0 N k_
 | 0 => by funext l2 i; kernel_rfl
 | k_ + 1 => by funext l2 i; rw [show El0 N (k_ + 1) l2 i = spec_AreValidRelations_l0_b N (El0 N k_) l2 i from by kernel_rfl]; simp only [ql0 N k_]; rfl
theorem vV (N : Nat) (l : List (ByteArray × Int × Int)) :
  evE (eS N) N aN sG Try.f85 [.val ty7 l] (un1 .bool) = spec_AreValidRelations_b N (El0 N N) l := by kernel_rfl
noncomputable def eE (N : Nat) : Entry Try.prog := ⟨85, sG, [.v ty7], Bool, spec_AreValidRelations N, pk1 .bool, entry_en Try.func85 (code := Try.f85.body.getD .skip) (by kernel_rfl) (by kernel_rfl),
 fun l => entry_ok tab_ok (es := eS N) (by kernel_rfl) mixed Try.func85 (by kernel_rfl) ⟨⟨rfl, rfl⟩, rfl, rfl⟩ (un1_pk .bool) ((vV N l).trans (by rw [ql0]; rfl))⟩
end spec_AreValidRelations
namespace spec_IsValidFact
def sG : Sig := ⟨[.val ty7, .val ty3], [(.bool, .dp)], false, false, none, none⟩
noncomputable def eS (N : Nat) : List (Entry Try.prog) := [spec_l1In.eE N, spec_AreValidRelations.eE N]
def aN : Nat → Option (List Nat)
 | 0 => some [3, 5]
 | _ => none
noncomputable def lP (N : Nat) (p : List Dir) (rs : List (Env → Option (Bool))) (k : Nat) (env : Env) : Option (Bool) :=
 lpE (eS N) N aN p Try.f83 (endK Tb sG Try.f83 [] (un1 .bool)) rs k env
noncomputable def El0 (N : Nat) (k_ : Nat) (f2 : Int) (f3 : List Int) (i : Int) : Option (Bool) :=
 lP N [.r, .r, .l, .r, .b] [] k_ (un 3 (.con (.box ⟨90, false, []⟩) [lf i64 f2 .ro, lf ty0 f3 .ro] :: (un 1 (.con .val [lf i64 i .ro] :: (un 38 [])))))
theorem ql0 (N : Nat) : ∀ k_, El0 N k_ = spec_IsValidFact_l0 N k_
 | 0 => by funext f2 f3 i; kernel_rfl
 | k_ + 1 => by funext f2 f3 i; rw [show El0 N (k_ + 1) f2 f3 i = spec_IsValidFact_l0_b N (El0 N k_) f2 f3 i from by kernel_rfl]; simp only [ql0 N k_]; rfl
theorem vV (N : Nat) (l : List (ByteArray × Int × Int)) (f : Int × List Int) :
  evE (eS N) N aN sG Try.f83 [.val ty7 l, .val ty3 f] (un1 .bool) = spec_IsValidFact_b N (El0 N N) l f := by kernel_rfl
noncomputable def eE (N : Nat) : Entry Try.prog := ⟨83, sG, [.v ty7, .v ty3], Bool, spec_IsValidFact N, pk1 .bool, entry_en Try.func83 (code := Try.f83.body.getD .skip) (by kernel_rfl) (by kernel_rfl),
 fun l f => entry_ok tab_ok (es := eS N) (by kernel_rfl) mixed Try.func83 (by kernel_rfl) ⟨⟨rfl, rfl⟩, rfl, rfl⟩ (un1_pk .bool) ((vV N l f).trans (by rw [ql0]; rfl))⟩
end spec_IsValidFact
namespace spec_l3Ints
def sG : Sig := ⟨[.val ty0, .val ty0], [(i64, .dp)], false, false, none, none⟩
noncomputable def eS (N : Nat) : List (Entry Try.prog) := []
def aN : Nat → Option (List Nat)
 | 0 => some [0, 1, 5]
 | _ => none
noncomputable def lP (N : Nat) (p : List Dir) (rs : List (Env → Option (Int))) (k : Nat) (env : Env) : Option (Int) :=
 lpE (eS N) N aN p Try.f145 (endK Tb sG Try.f145 [] (un1 i64)) rs k env
noncomputable def El0 (N : Nat) (k_ : Nat) (a2 : List Int) (b2 : List Int) (i : Int) : Option (Int) :=
 lP N [.r, .l, .r, .b] [] k_ (.con .val [lf ty0 a2 .ro] :: (.con .val [lf ty0 b2 .ro] :: (un 3 (.con .val [lf i64 i .ro] :: (un 40 [])))))
theorem ql0 (N : Nat) : ∀ k_, El0 N k_ = spec_l3Ints_l0 N k_
 | 0 => by funext a2 b2 i; kernel_rfl
 | k_ + 1 => by funext a2 b2 i; rw [show El0 N (k_ + 1) a2 b2 i = spec_l3Ints_l0_b N (El0 N k_) a2 b2 i from by kernel_rfl]; simp only [ql0 N k_]; rfl
theorem vV (N : Nat) (a : List Int) (b : List Int) :
  evE (eS N) N aN sG Try.f145 [.val ty0 a, .val ty0 b] (un1 i64) = spec_l3Ints_b N (El0 N N) a b := by kernel_rfl
noncomputable def eE (N : Nat) : Entry Try.prog := ⟨145, sG, [.v ty0, .v ty0], Int, spec_l3Ints N, pk1 i64, entry_en Try.func145 (code := Try.f145.body.getD .skip) (by kernel_rfl) (by kernel_rfl),
 fun a b => entry_ok tab_ok (es := eS N) (by kernel_rfl) mixed Try.func145 (by kernel_rfl) ⟨⟨rfl, rfl⟩, rfl, rfl⟩ (un1_pk i64) ((vV N a b).trans (by rw [ql0]; rfl))⟩
end spec_l3Ints
namespace spec_CompareFacts
def sG : Sig := ⟨[.val ty3, .val ty3], [(i64, .dp)], false, false, none, none⟩
noncomputable def eS (N : Nat) : List (Entry Try.prog) := [spec_l3Ints.eE N]
def aN : Nat → Option (List Nat) := fun _ => none
theorem vV (N : Nat) (a : Int × List Int) (b : Int × List Int) :
  evE (eS N) N aN sG Try.f84 [.val ty3 a, .val ty3 b] (un1 i64) = spec_CompareFacts N a b := by kernel_rfl
noncomputable def eE (N : Nat) : Entry Try.prog := ⟨84, sG, [.v ty3, .v ty3], Int, spec_CompareFacts N, pk1 i64, entry_en Try.func84 (code := Try.f84.body.getD .skip) (by kernel_rfl) (by kernel_rfl),
 fun a b => entry_ok tab_ok (es := eS N) (by kernel_rfl) mixed Try.func84 (by kernel_rfl) ⟨⟨rfl, rfl⟩, rfl, rfl⟩ (un1_pk i64) (vV N a b)⟩
end spec_CompareFacts
namespace spec_IsValidDatabase
def sG : Sig := ⟨[.val ty9], [(.bool, .dp)], false, false, none, none⟩
noncomputable def eS (N : Nat) : List (Entry Try.prog) := [spec_IsValidFact.eE N, spec_CompareFacts.eE N, spec_AreValidRelations.eE N]
def aN : Nat → Option (List Nat)
 | 0 => some [1, 3]
 | _ => none
noncomputable def lP (N : Nat) (p : List Dir) (rs : List (Env → Option (Bool))) (k : Nat) (env : Env) : Option (Bool) :=
 lpE (eS N) N aN p Try.f19 (endK Tb sG Try.f19 [] (un1 .bool)) rs k env
noncomputable def El0 (N : Nat) (k_ : Nat) (d2 : List (ByteArray × Int × Int)) (d3 : List (Int × List Int)) (i : Int) : Option (Bool) :=
 lP N [.r, .l, .r, .b] [] k_ (un 1 (.con (.box ⟨27, false, []⟩) [lf ty7 d2 .ro, lf ty8 d3 .ro] :: (un 1 (.con .val [lf i64 i .ro] :: (un 44 [])))))
theorem ql0 (N : Nat) : ∀ k_, El0 N k_ = spec_IsValidDatabase_l0 N k_
 | 0 => by funext d2 d3 i; kernel_rfl
 | k_ + 1 => by funext d2 d3 i; rw [show El0 N (k_ + 1) d2 d3 i = spec_IsValidDatabase_l0_b N (El0 N k_) d2 d3 i from by kernel_rfl]; simp only [ql0 N k_]; rfl
theorem vV (N : Nat) (d : List (ByteArray × Int × Int) × List (Int × List Int)) :
  evE (eS N) N aN sG Try.f19 [.val ty9 d] (un1 .bool) = spec_IsValidDatabase_b N (El0 N N) d := by kernel_rfl
noncomputable def eE (N : Nat) : Entry Try.prog := ⟨19, sG, [.v ty9], Bool, spec_IsValidDatabase N, pk1 .bool, entry_en Try.func19 (code := Try.f19.body.getD .skip) (by kernel_rfl) (by kernel_rfl),
 fun d => entry_ok tab_ok (es := eS N) (by kernel_rfl) mixed Try.func19 (by kernel_rfl) ⟨⟨rfl, rfl⟩, rfl, rfl⟩ (un1_pk .bool) ((vV N d).trans (by rw [ql0]; rfl))⟩
end spec_IsValidDatabase
namespace spec_KeyOf
def sG : Sig := ⟨[.val ty7, .val ty3], [(ty0, .dp)], false, false, none, none⟩
noncomputable def eS (N : Nat) : List (Entry Try.prog) := [spec_IsValidFact.eE N]
def aN : Nat → Option (List Nat) := fun _ => none
theorem vV (N : Nat) (l : List (ByteArray × Int × Int)) (f : Int × List Int) :
  evE (eS N) N aN sG Try.f191 [.val ty7 l, .val ty3 f] (un1 ty0) = spec_KeyOf N l f := by kernel_rfl
noncomputable def eE (N : Nat) : Entry Try.prog := ⟨191, sG, [.v ty7, .v ty3], List Int, spec_KeyOf N, pk1 ty0, entry_en Try.func191 (code := Try.f191.body.getD .skip) (by kernel_rfl) (by kernel_rfl),
 fun l f => entry_ok tab_ok (es := eS N) (by kernel_rfl) mixed Try.func191 (by kernel_rfl) ⟨⟨rfl, rfl⟩, rfl, rfl⟩ (un1_pk ty0) (vV N l f)⟩
end spec_KeyOf
namespace spec_HaveSameKey
def sG : Sig := ⟨[.val ty7, .val ty3, .val ty3], [(.bool, .dp)], false, false, none, none⟩
noncomputable def eS (N : Nat) : List (Entry Try.prog) := [spec_IsValidFact.eE N, spec_KeyOf.eE N, spec_l3Ints.eE N]
def aN : Nat → Option (List Nat) := fun _ => none
theorem vV (N : Nat) (l : List (ByteArray × Int × Int)) (a : Int × List Int) (b : Int × List Int) :
  evE (eS N) N aN sG Try.f147 [.val ty7 l, .val ty3 a, .val ty3 b] (un1 .bool) = spec_HaveSameKey N l a b := by kernel_rfl
noncomputable def eE (N : Nat) : Entry Try.prog := ⟨147, sG, [.v ty7, .v ty3, .v ty3], Bool, spec_HaveSameKey N, pk1 .bool, entry_en Try.func147 (code := Try.f147.body.getD .skip) (by kernel_rfl) (by kernel_rfl),
 fun l a b => entry_ok tab_ok (es := eS N) (by kernel_rfl) mixed Try.func147 (by kernel_rfl) ⟨⟨rfl, rfl⟩, rfl, rfl⟩ (un1_pk .bool) (vV N l a b)⟩
end spec_HaveSameKey
namespace spec_IsValidConstraint
def sG : Sig := ⟨[.val ty9, .val ty10], [(.bool, .dp)], false, false, none, none⟩
noncomputable def eS (N : Nat) : List (Entry Try.prog) := [spec_IsValidDatabase.eE N, spec_l1In.eE N]
def aN : Nat → Option (List Nat) := fun _ => none
theorem vV (N : Nat) (d : List (ByteArray × Int × Int) × List (Int × List Int)) (x : Int × Int × Int × Int × Int × Int × Int) :
  evE (eS N) N aN sG Try.f197 [.val ty9 d, .val ty10 x] (un1 .bool) = spec_IsValidConstraint N d x := by kernel_rfl
noncomputable def eE (N : Nat) : Entry Try.prog := ⟨197, sG, [.v ty9, .v ty10], Bool, spec_IsValidConstraint N, pk1 .bool, entry_en Try.func197 (code := Try.f197.body.getD .skip) (by kernel_rfl) (by kernel_rfl),
 fun d x => entry_ok tab_ok (es := eS N) (by kernel_rfl) mixed Try.func197 (by kernel_rfl) ⟨⟨rfl, rfl⟩, rfl, rfl⟩ (un1_pk .bool) (vV N d x)⟩
end spec_IsValidConstraint
namespace spec_ViolatesConstraint
def sG : Sig := ⟨[.val ty9, .val ty10, .val i64, .val i64], [(.bool, .dp)], false, false, none, none⟩
noncomputable def eS (N : Nat) : List (Entry Try.prog) := [spec_IsValidConstraint.eE N, spec_l1In.eE N]
def aN : Nat → Option (List Nat) := fun _ => none
theorem vV (N : Nat) (d : List (ByteArray × Int × Int) × List (Int × List Int)) (x : Int × Int × Int × Int × Int × Int × Int) (i : Int) (k : Int) :
  evE (eS N) N aN sG Try.f169 [.val ty9 d, .val ty10 x, .val i64 i, .val i64 k] (un1 .bool) = spec_ViolatesConstraint N d x i k := by kernel_rfl
noncomputable def eE (N : Nat) : Entry Try.prog := ⟨169, sG, [.v ty9, .v ty10, .v i64, .v i64], Bool, spec_ViolatesConstraint N, pk1 .bool, entry_en Try.func169 (code := Try.f169.body.getD .skip) (by kernel_rfl) (by kernel_rfl),
 fun d x i k => entry_ok tab_ok (es := eS N) (by kernel_rfl) mixed Try.func169 (by kernel_rfl) ⟨⟨rfl, rfl⟩, rfl, rfl⟩ (un1_pk .bool) (vV N d x i k)⟩
end spec_ViolatesConstraint
namespace spec_ConflictEdges
def sG : Sig := ⟨[.val ty9, .val ty11], [(ty12, .dp)], false, false, none, none⟩
noncomputable def eS (N : Nat) : List (Entry Try.prog) := [spec_ViolatesConstraint.eE N, spec_HaveSameKey.eE N, spec_IsValidDatabase.eE N]
def aN : Nat → Option (List Nat)
 | 0 => some [1, 2, 5, 6]
 | 2 => some [1, 2, 5, 6, 7]
 | 4 => some [1, 2, 5, 6, 7, 8, 9]
 | _ => none
noncomputable def lP (N : Nat) (p : List Dir) (rs : List (Env → Option (List (Int × Int)))) (k : Nat) (env : Env) : Option (List (Int × Int)) :=
 lpE (eS N) N aN p Try.f125 (endK Tb sG Try.f125 [] (un1 ty12)) rs k env
noncomputable def El2 (N : Nat) (k0_ : Nat) (k1_ : Nat) (k_ : Nat) (l4 : List (Int × Int × Int × Int × Int × Int × Int)) (d6 : List (ByteArray × Int × Int)) (d7 : List (Int × List Int)) (out3 : List (Int × Int)) (i3 : Int) (k2 : Int) (is_ : Bool) (n : Int) : Option (List (Int × Int)) :=
 lP N [.r, .r, .l, .r, .b, .b, .r, .l, .b, .r, .b, .b, .r, .l, .b, .r, .l, .r, .b] [lP N [.r, .r, .l, .r, .b] [] k0_, lP N [.r, .r, .l, .r, .b, .b, .r, .l, .b, .r, .b] [lP N [.r, .r, .l, .r, .b] [] k0_] k1_] k_ (un 1 (.con .val [lf ty11 l4 .ro] :: (.con (.box ⟨27, false, []⟩) [lf ty7 d6 .ro, lf ty8 d7 .ro] :: (un 2 (.con .val [lf ty12 out3 .dp] :: (.con .val [lf i64 i3 .ro] :: (.con .val [lf i64 k2 .ro] :: (.con .val [lf .bool is_ .ro] :: (.con .val [lf i64 n .ro] :: (un 69 []))))))))))
noncomputable def El1 (N : Nat) (k0_ : Nat) (k_ : Nat) (l3 : List (Int × Int × Int × Int × Int × Int × Int)) (d4 : List (ByteArray × Int × Int)) (d5 : List (Int × List Int)) (out2 : List (Int × Int)) (i2 : Int) (k : Int) : Option (List (Int × Int)) :=
 lP N [.r, .r, .l, .r, .b, .b, .r, .l, .b, .r, .b] [lP N [.r, .r, .l, .r, .b] [] k0_] k_ (un 1 (.con .val [lf ty11 l3 .ro] :: (.con (.box ⟨27, false, []⟩) [lf ty7 d4 .ro, lf ty8 d5 .ro] :: (un 2 (.con .val [lf ty12 out2 .dp] :: (.con .val [lf i64 i2 .ro] :: (.con .val [lf i64 k .ro] :: (un 71 []))))))))
noncomputable def El0 (N : Nat) (k_ : Nat) (l2 : List (Int × Int × Int × Int × Int × Int × Int)) (d2 : List (ByteArray × Int × Int)) (d3 : List (Int × List Int)) (out : List (Int × Int)) (i : Int) : Option (List (Int × Int)) :=
 lP N [.r, .r, .l, .r, .b] [] k_ (un 1 (.con .val [lf ty11 l2 .ro] :: (.con (.box ⟨27, false, []⟩) [lf ty7 d2 .ro, lf ty8 d3 .ro] :: (un 2 (.con .val [lf ty12 out .dp] :: (.con .val [lf i64 i .ro] :: (un 72 [])))))))
theorem ql2 (N : Nat) (k0_ : Nat) (k1_ : Nat) : ∀ k_, El2 N k0_ k1_ k_ = spec_ConflictEdges_l2 (El1 N k0_ k1_) N k_
 | 0 => by funext l4 d6 d7 out3 i3 k2 is_ n; kernel_rfl
 | k_ + 1 => by funext l4 d6 d7 out3 i3 k2 is_ n; rw [show El2 N k0_ k1_ (k_ + 1) l4 d6 d7 out3 i3 k2 is_ n = spec_ConflictEdges_l2_b N (El1 N k0_ k1_) (El2 N k0_ k1_ k_) l4 d6 d7 out3 i3 k2 is_ n from by kernel_rfl]; simp only [ql2 N k0_ k1_ k_]; rfl
theorem ql1 (N : Nat) (k0_ : Nat) : ∀ k_, El1 N k0_ k_ = spec_ConflictEdges_l1 (El0 N k0_) N k_
 | 0 => by funext l3 d4 d5 out2 i2 k; kernel_rfl
 | k_ + 1 => by funext l3 d4 d5 out2 i2 k; rw [show El1 N k0_ (k_ + 1) l3 d4 d5 out2 i2 k = spec_ConflictEdges_l1_b N (El0 N k0_) (El2 N k0_ k_ N) (El1 N k0_ k_) l3 d4 d5 out2 i2 k from by kernel_rfl]; simp only [ql2, ql1 N k0_ k_]; rfl
theorem ql0 (N : Nat) : ∀ k_, El0 N k_ = spec_ConflictEdges_l0 N k_
 | 0 => by funext l2 d2 d3 out i; kernel_rfl
 | k_ + 1 => by funext l2 d2 d3 out i; rw [show El0 N (k_ + 1) l2 d2 d3 out i = spec_ConflictEdges_l0_b N (El1 N k_ N) (El0 N k_) l2 d2 d3 out i from by kernel_rfl]; simp only [ql1, ql0 N k_]; rfl
theorem vV (N : Nat) (d : List (ByteArray × Int × Int) × List (Int × List Int)) (l : List (Int × Int × Int × Int × Int × Int × Int)) :
  evE (eS N) N aN sG Try.f125 [.val ty9 d, .val ty11 l] (un1 ty12) = spec_ConflictEdges_b N (El0 N N) d l := by kernel_rfl
noncomputable def eE (N : Nat) : Entry Try.prog := ⟨125, sG, [.v ty9, .v ty11], List (Int × Int), spec_ConflictEdges N, pk1 ty12, entry_en Try.func125 (code := Try.f125.body.getD .skip) (by kernel_rfl) (by kernel_rfl),
 fun d l => entry_ok tab_ok (es := eS N) (by kernel_rfl) mixed Try.func125 (by kernel_rfl) ⟨⟨rfl, rfl⟩, rfl, rfl⟩ (un1_pk ty12) ((vV N d l).trans (by rw [ql0]; rfl))⟩
end spec_ConflictEdges
namespace spec_AreValidEdges
def sG : Sig := ⟨[.val i64, .val ty12], [(.bool, .dp)], false, false, none, none⟩
noncomputable def eS (N : Nat) : List (Entry Try.prog) := [spec_l1In.eE N]
def aN : Nat → Option (List Nat)
 | 0 => some [0, 1, 5]
 | _ => none
noncomputable def lP (N : Nat) (p : List Dir) (rs : List (Env → Option (Bool))) (k : Nat) (env : Env) : Option (Bool) :=
 lpE (eS N) N aN p Try.f179 (endK Tb sG Try.f179 [] (un1 .bool)) rs k env
noncomputable def El0 (N : Nat) (k_ : Nat) (n2 : Int) (l2 : List (Int × Int)) (i : Int) : Option (Bool) :=
 lP N [.r, .l, .r, .b] [] k_ (.con .val [lf i64 n2 .ro] :: (.con .val [lf ty12 l2 .ro] :: (un 3 (.con .val [lf i64 i .ro] :: (un 78 [])))))
theorem ql0 (N : Nat) : ∀ k_, El0 N k_ = spec_AreValidEdges_l0 N k_
 | 0 => by funext n2 l2 i; kernel_rfl
 | k_ + 1 => by funext n2 l2 i; rw [show El0 N (k_ + 1) n2 l2 i = spec_AreValidEdges_l0_b N (El0 N k_) n2 l2 i from by kernel_rfl]; simp only [ql0 N k_]; rfl
theorem vV (N : Nat) (n : Int) (l : List (Int × Int)) :
  evE (eS N) N aN sG Try.f179 [.val i64 n, .val ty12 l] (un1 .bool) = spec_AreValidEdges_b N (El0 N N) n l := by kernel_rfl
noncomputable def eE (N : Nat) : Entry Try.prog := ⟨179, sG, [.v i64, .v ty12], Bool, spec_AreValidEdges N, pk1 .bool, entry_en Try.func179 (code := Try.f179.body.getD .skip) (by kernel_rfl) (by kernel_rfl),
 fun n l => entry_ok tab_ok (es := eS N) (by kernel_rfl) mixed Try.func179 (by kernel_rfl) ⟨⟨rfl, rfl⟩, rfl, rfl⟩ (un1_pk .bool) ((vV N n l).trans (by rw [ql0]; rfl))⟩
end spec_AreValidEdges
namespace spec_l8Set
def sG : Sig := ⟨[.val i64, .val ty0], [(.bool, .dp)], false, false, none, none⟩
noncomputable def eS (N : Nat) : List (Entry Try.prog) := [spec_l1In.eE N]
def aN : Nat → Option (List Nat)
 | 0 => some [0, 1, 5]
 | _ => none
noncomputable def lP (N : Nat) (p : List Dir) (rs : List (Env → Option (Bool))) (k : Nat) (env : Env) : Option (Bool) :=
 lpE (eS N) N aN p Try.f225 (endK Tb sG Try.f225 [] (un1 .bool)) rs k env
noncomputable def El0 (N : Nat) (k_ : Nat) (n2 : Int) (s2 : List Int) (i : Int) : Option (Bool) :=
 lP N [.r, .l, .r, .b] [] k_ (.con .val [lf i64 n2 .ro] :: (.con .val [lf ty0 s2 .ro] :: (un 3 (.con .val [lf i64 i .ro] :: (un 30 [])))))
theorem ql0 (N : Nat) : ∀ k_, El0 N k_ = spec_l8Set_l0 N k_
 | 0 => by funext n2 s2 i; kernel_rfl
 | k_ + 1 => by funext n2 s2 i; rw [show El0 N (k_ + 1) n2 s2 i = spec_l8Set_l0_b N (El0 N k_) n2 s2 i from by kernel_rfl]; simp only [ql0 N k_]; rfl
theorem vV (N : Nat) (n : Int) (s : List Int) :
  evE (eS N) N aN sG Try.f225 [.val i64 n, .val ty0 s] (un1 .bool) = spec_l8Set_b N (El0 N N) n s := by kernel_rfl
noncomputable def eE (N : Nat) : Entry Try.prog := ⟨225, sG, [.v i64, .v ty0], Bool, spec_l8Set N, pk1 .bool, entry_en Try.func225 (code := Try.f225.body.getD .skip) (by kernel_rfl) (by kernel_rfl),
 fun n s => entry_ok tab_ok (es := eS N) (by kernel_rfl) mixed Try.func225 (by kernel_rfl) ⟨⟨rfl, rfl⟩, rfl, rfl⟩ (un1_pk .bool) ((vV N n s).trans (by rw [ql0]; rfl))⟩
end spec_l8Set
namespace spec_l7Has
def sG : Sig := ⟨[.val ty0, .val i64], [(.bool, .dp)], false, false, none, none⟩
noncomputable def eS (N : Nat) : List (Entry Try.prog) := []
def aN : Nat → Option (List Nat)
 | 0 => some [0, 1, 5]
 | _ => none
noncomputable def lP (N : Nat) (p : List Dir) (rs : List (Env → Option (Bool))) (k : Nat) (env : Env) : Option (Bool) :=
 lpE (eS N) N aN p Try.f137 (endK Tb sG Try.f137 [] (un1 .bool)) rs k env
noncomputable def El0 (N : Nat) (k_ : Nat) (l2 : List Int) (x2 : Int) (i : Int) : Option (Bool) :=
 lP N [.r, .l, .r, .b] [] k_ (.con .val [lf ty0 l2 .ro] :: (.con .val [lf i64 x2 .ro] :: (un 3 (.con .val [lf i64 i .ro] :: (un 12 [])))))
theorem ql0 (N : Nat) : ∀ k_, El0 N k_ = spec_l7Has_l0 N k_
 | 0 => by funext l2 x2 i; kernel_rfl
 | k_ + 1 => by funext l2 x2 i; rw [show El0 N (k_ + 1) l2 x2 i = spec_l7Has_l0_b N (El0 N k_) l2 x2 i from by kernel_rfl]; simp only [ql0 N k_]; rfl
theorem vV (N : Nat) (l : List Int) (x : Int) :
  evE (eS N) N aN sG Try.f137 [.val ty0 l, .val i64 x] (un1 .bool) = spec_l7Has_b N (El0 N N) l x := by kernel_rfl
noncomputable def eE (N : Nat) : Entry Try.prog := ⟨137, sG, [.v ty0, .v i64], Bool, spec_l7Has N, pk1 .bool, entry_en Try.func137 (code := Try.f137.body.getD .skip) (by kernel_rfl) (by kernel_rfl),
 fun l x => entry_ok tab_ok (es := eS N) (by kernel_rfl) mixed Try.func137 (by kernel_rfl) ⟨⟨rfl, rfl⟩, rfl, rfl⟩ (un1_pk .bool) ((vV N l x).trans (by rw [ql0]; rfl))⟩
end spec_l7Has
namespace spec_IsIndependent
def sG : Sig := ⟨[.val ty12, .val ty0], [(.bool, .dp)], false, false, none, none⟩
noncomputable def eS (N : Nat) : List (Entry Try.prog) := [spec_l7Has.eE N]
def aN : Nat → Option (List Nat)
 | 0 => some [0, 1, 5]
 | _ => none
noncomputable def lP (N : Nat) (p : List Dir) (rs : List (Env → Option (Bool))) (k : Nat) (env : Env) : Option (Bool) :=
 lpE (eS N) N aN p Try.f226 (endK Tb sG Try.f226 [] (un1 .bool)) rs k env
noncomputable def El0 (N : Nat) (k_ : Nat) (l2 : List (Int × Int)) (s2 : List Int) (i : Int) : Option (Bool) :=
 lP N [.r, .l, .r, .b] [] k_ (.con .val [lf ty12 l2 .ro] :: (.con .val [lf ty0 s2 .ro] :: (un 3 (.con .val [lf i64 i .ro] :: (un 22 [])))))
theorem ql0 (N : Nat) : ∀ k_, El0 N k_ = spec_IsIndependent_l0 N k_
 | 0 => by funext l2 s2 i; kernel_rfl
 | k_ + 1 => by funext l2 s2 i; rw [show El0 N (k_ + 1) l2 s2 i = spec_IsIndependent_l0_b N (El0 N k_) l2 s2 i from by kernel_rfl]; simp only [ql0 N k_]; rfl
theorem vV (N : Nat) (l : List (Int × Int)) (s : List Int) :
  evE (eS N) N aN sG Try.f226 [.val ty12 l, .val ty0 s] (un1 .bool) = spec_IsIndependent_b N (El0 N N) l s := by kernel_rfl
noncomputable def eE (N : Nat) : Entry Try.prog := ⟨226, sG, [.v ty12, .v ty0], Bool, spec_IsIndependent N, pk1 .bool, entry_en Try.func226 (code := Try.f226.body.getD .skip) (by kernel_rfl) (by kernel_rfl),
 fun l s => entry_ok tab_ok (es := eS N) (by kernel_rfl) mixed Try.func226 (by kernel_rfl) ⟨⟨rfl, rfl⟩, rfl, rfl⟩ (un1_pk .bool) ((vV N l s).trans (by rw [ql0]; rfl))⟩
end spec_IsIndependent
namespace spec_l8Fits
def sG : Sig := ⟨[.val ty12, .val ty0, .val i64], [(.bool, .dp)], false, false, none, none⟩
noncomputable def eS (N : Nat) : List (Entry Try.prog) := [spec_l7Has.eE N, spec_IsIndependent.eE N]
def aN : Nat → Option (List Nat) := fun _ => none
theorem vV (N : Nat) (l : List (Int × Int)) (s : List Int) (x : Int) :
  evE (eS N) N aN sG Try.f213 [.val ty12 l, .val ty0 s, .val i64 x] (un1 .bool) = spec_l8Fits N l s x := by kernel_rfl
noncomputable def eE (N : Nat) : Entry Try.prog := ⟨213, sG, [.v ty12, .v ty0, .v i64], Bool, spec_l8Fits N, pk1 .bool, entry_en Try.func213 (code := Try.f213.body.getD .skip) (by kernel_rfl) (by kernel_rfl),
 fun l s x => entry_ok tab_ok (es := eS N) (by kernel_rfl) mixed Try.func213 (by kernel_rfl) ⟨⟨rfl, rfl⟩, rfl, rfl⟩ (un1_pk .bool) (vV N l s x)⟩
end spec_l8Fits
namespace spec_IsMaximalIndependent
def sG : Sig := ⟨[.val i64, .val ty12, .val ty0], [(.bool, .dp)], false, false, none, none⟩
noncomputable def eS (N : Nat) : List (Entry Try.prog) := [spec_l8Fits.eE N, spec_AreValidEdges.eE N, spec_l8Set.eE N, spec_IsIndependent.eE N]
def aN : Nat → Option (List Nat)
 | 0 => some [0, 1, 2, 7]
 | _ => none
noncomputable def lP (N : Nat) (p : List Dir) (rs : List (Env → Option (Bool))) (k : Nat) (env : Env) : Option (Bool) :=
 lpE (eS N) N aN p Try.f212 (endK Tb sG Try.f212 [] (un1 .bool)) rs k env
noncomputable def El0 (N : Nat) (k_ : Nat) (n2 : Int) (l2 : List (Int × Int)) (s2 : List Int) (x : Int) : Option (Bool) :=
 lP N [.r, .r, .l, .r, .b] [] k_ (.con .val [lf i64 n2 .ro] :: (.con .val [lf ty12 l2 .ro] :: (.con .val [lf ty0 s2 .ro] :: (un 4 (.con .val [lf i64 x .ro] :: (un 25 []))))))
theorem ql0 (N : Nat) : ∀ k_, El0 N k_ = spec_IsMaximalIndependent_l0 N k_
 | 0 => by funext n2 l2 s2 x; kernel_rfl
 | k_ + 1 => by funext n2 l2 s2 x; rw [show El0 N (k_ + 1) n2 l2 s2 x = spec_IsMaximalIndependent_l0_b N (El0 N k_) n2 l2 s2 x from by kernel_rfl]; simp only [ql0 N k_]; rfl
theorem vV (N : Nat) (n : Int) (l : List (Int × Int)) (s : List Int) :
  evE (eS N) N aN sG Try.f212 [.val i64 n, .val ty12 l, .val ty0 s] (un1 .bool) = spec_IsMaximalIndependent_b N (El0 N N) n l s := by kernel_rfl
noncomputable def eE (N : Nat) : Entry Try.prog := ⟨212, sG, [.v i64, .v ty12, .v ty0], Bool, spec_IsMaximalIndependent N, pk1 .bool, entry_en Try.func212 (code := Try.f212.body.getD .skip) (by kernel_rfl) (by kernel_rfl),
 fun n l s => entry_ok tab_ok (es := eS N) (by kernel_rfl) mixed Try.func212 (by kernel_rfl) ⟨⟨rfl, rfl⟩, rfl, rfl⟩ (un1_pk .bool) ((vV N n l s).trans (by rw [ql0]; rfl))⟩
end spec_IsMaximalIndependent
namespace spec_l8Walk
def sG : Sig := ⟨[.val i64, .val ty12, .val ty0, .val i64], [(ty13, .dp)], false, false, none, none⟩
theorem eN : Enterable Try.prog 180 := entry_en Try.func180 (code := Try.f180.body.getD .skip) (by kernel_rfl) (by kernel_rfl)
noncomputable def eS (N : Nat) (Rf : Int → (List (Int × Int)) → (List Int) → Int → Option (List (List Int))) (hR : OkP (Option (List (List Int))) [.v i64, .v ty12, .v ty0, .v i64] Rf (fun xs_ q => ∀ x, q = some x → FnOk Try.prog 180 sG xs_ (pk1 ty13 x))) : List (Entry Try.prog) := [spec_IsMaximalIndependent.eE N, spec_l8Fits.eE N, ⟨180, sG, [.v i64, .v ty12, .v ty0, .v i64], List (List Int), Rf, pk1 ty13, eN, hR⟩]
def aN : Nat → Option (List Nat)
 | 0 => some [0, 1, 2, 3, 9, 10, 11]
 | _ => none
noncomputable def lP (N : Nat) (Rf : Int → (List (Int × Int)) → (List Int) → Int → Option (List (List Int))) (hR : OkP (Option (List (List Int))) [.v i64, .v ty12, .v ty0, .v i64] Rf (fun xs_ q => ∀ x, q = some x → FnOk Try.prog 180 sG xs_ (pk1 ty13 x))) (p : List Dir) (rs : List (Env → Option (List (List Int)))) (k : Nat) (env : Env) : Option (List (List Int)) :=
 lpE (eS N Rf hR) N aN p Try.f180 (endK Tb sG Try.f180 [] (un1 ty13)) rs k env
noncomputable def El0 (N : Nat) (Rf : Int → (List (Int × Int)) → (List Int) → Int → Option (List (List Int))) (hR : OkP (Option (List (List Int))) [.v i64, .v ty12, .v ty0, .v i64] Rf (fun xs_ q => ∀ x, q = some x → FnOk Try.prog 180 sG xs_ (pk1 ty13 x))) (k_ : Nat) (n2 : Int) (l2 : List (Int × Int)) (s2 : List Int) (x2 : Int) (out : List (List Int)) (met : Bool) (i : Int) : Option (List (List Int)) :=
 lP N Rf hR [.r, .r, .r, .r, .r, .l, .r, .b] [] k_ (.con .val [lf i64 n2 .ro] :: (.con .val [lf ty12 l2 .ro] :: (.con .val [lf ty0 s2 .ro] :: (.con .val [lf i64 x2 .ro] :: (un 5 (.con .val [lf ty13 out .dp] :: (.con .val [lf .bool met .ro] :: (.con .val [lf i64 i .ro] :: (un 63 [])))))))))
theorem ql0 (N : Nat) (Rf : Int → (List (Int × Int)) → (List Int) → Int → Option (List (List Int))) (hR : OkP (Option (List (List Int))) [.v i64, .v ty12, .v ty0, .v i64] Rf (fun xs_ q => ∀ x, q = some x → FnOk Try.prog 180 sG xs_ (pk1 ty13 x))) : ∀ k_, El0 N Rf hR k_ = spec_l8Walk_l0 N Rf k_
 | 0 => by funext n2 l2 s2 x2 out met i; kernel_rfl
 | k_ + 1 => by funext n2 l2 s2 x2 out met i; rw [show El0 N Rf hR (k_ + 1) n2 l2 s2 x2 out met i = spec_l8Walk_l0_b N Rf (El0 N Rf hR k_) n2 l2 s2 x2 out met i from by kernel_rfl]; simp only [ql0 N Rf hR k_]; rfl
theorem vV (N : Nat) (Rf : Int → (List (Int × Int)) → (List Int) → Int → Option (List (List Int))) (hR : OkP (Option (List (List Int))) [.v i64, .v ty12, .v ty0, .v i64] Rf (fun xs_ q => ∀ x, q = some x → FnOk Try.prog 180 sG xs_ (pk1 ty13 x))) (n : Int) (l : List (Int × Int)) (s : List Int) (x : Int) :
  evE (eS N Rf hR) N aN sG Try.f180 [.val i64 n, .val ty12 l, .val ty0 s, .val i64 x] (un1 ty13) = spec_l8Walk_b N Rf (El0 N Rf hR N) n l s x := by kernel_rfl
theorem oK (N : Nat) : ∀ k_, OkP (Option (List (List Int))) [.v i64, .v ty12, .v ty0, .v i64] (spec_l8Walk_r N k_) (fun xs_ q => ∀ x, q = some x → FnOk Try.prog 180 sG xs_ (pk1 ty13 x))
 | 0 => fun n l s x =>  fun x h => absurd (show (none : Option (List (List Int))) = some x from h) (by simp)
 | k_ + 1 => fun n l s x => entry_ok tab_ok (es := eS N (spec_l8Walk_r N k_) (oK N k_)) (by kernel_rfl) mixed Try.func180 (by kernel_rfl) ⟨⟨rfl, rfl⟩, rfl, rfl⟩ (un1_pk ty13) ((vV N _ _ n l s x).trans (by rw [ql0]; rfl))
noncomputable def eE (N : Nat) : Entry Try.prog := ⟨180, sG, [.v i64, .v ty12, .v ty0, .v i64], List (List Int), spec_l8Walk N, pk1 ty13, eN, oK N N⟩
end spec_l8Walk
namespace spec_MaximalIndependentSets
def sG : Sig := ⟨[.val i64, .val ty12], [(ty13, .dp)], false, false, none, none⟩
noncomputable def eS (N : Nat) : List (Entry Try.prog) := [spec_AreValidEdges.eE N, spec_l8Walk.eE N]
def aN : Nat → Option (List Nat) := fun _ => none
theorem vV (N : Nat) (n : Int) (l : List (Int × Int)) :
  evE (eS N) N aN sG Try.f135 [.val i64 n, .val ty12 l] (un1 ty13) = spec_MaximalIndependentSets N n l := by kernel_rfl
noncomputable def eE (N : Nat) : Entry Try.prog := ⟨135, sG, [.v i64, .v ty12], List (List Int), spec_MaximalIndependentSets N, pk1 ty13, entry_en Try.func135 (code := Try.f135.body.getD .skip) (by kernel_rfl) (by kernel_rfl),
 fun n l => entry_ok tab_ok (es := eS N) (by kernel_rfl) mixed Try.func135 (by kernel_rfl) ⟨⟨rfl, rfl⟩, rfl, rfl⟩ (un1_pk ty13) (vV N n l)⟩
end spec_MaximalIndependentSets
namespace spec_SubsetRepairs
def sG : Sig := ⟨[.val ty9, .val ty11], [(ty13, .dp)], false, false, none, none⟩
noncomputable def eS (N : Nat) : List (Entry Try.prog) := [spec_IsValidDatabase.eE N, spec_ConflictEdges.eE N, spec_MaximalIndependentSets.eE N]
def aN : Nat → Option (List Nat) := fun _ => none
theorem vV (N : Nat) (d : List (ByteArray × Int × Int) × List (Int × List Int)) (l : List (Int × Int × Int × Int × Int × Int × Int)) :
  evE (eS N) N aN sG Try.f67 [.val ty9 d, .val ty11 l] (un1 ty13) = spec_SubsetRepairs N d l := by kernel_rfl
noncomputable def eE (N : Nat) : Entry Try.prog := ⟨67, sG, [.v ty9, .v ty11], List (List Int), spec_SubsetRepairs N, pk1 ty13, entry_en Try.func67 (code := Try.f67.body.getD .skip) (by kernel_rfl) (by kernel_rfl),
 fun d l => entry_ok tab_ok (es := eS N) (by kernel_rfl) mixed Try.func67 (by kernel_rfl) ⟨⟨rfl, rfl⟩, rfl, rfl⟩ (un1_pk ty13) (vV N d l)⟩
end spec_SubsetRepairs
namespace spec_l4Set
def sG : Sig := ⟨[.val ty9, .val ty0], [(.bool, .dp)], false, false, none, none⟩
noncomputable def eS (N : Nat) : List (Entry Try.prog) := [spec_l1In.eE N]
def aN : Nat → Option (List Nat)
 | 0 => some [1, 2, 5]
 | _ => none
noncomputable def lP (N : Nat) (p : List Dir) (rs : List (Env → Option (Bool))) (k : Nat) (env : Env) : Option (Bool) :=
 lpE (eS N) N aN p Try.f123 (endK Tb sG Try.f123 [] (un1 .bool)) rs k env
noncomputable def El0 (N : Nat) (k_ : Nat) (l2 : List Int) (d2 : List (ByteArray × Int × Int)) (d3 : List (Int × List Int)) (i : Int) : Option (Bool) :=
 lP N [.r, .l, .r, .b] [] k_ (un 1 (.con .val [lf ty0 l2 .ro] :: (.con (.box ⟨27, false, []⟩) [lf ty7 d2 .ro, lf ty8 d3 .ro] :: (un 2 (.con .val [lf i64 i .ro] :: (un 32 []))))))
theorem ql0 (N : Nat) : ∀ k_, El0 N k_ = spec_l4Set_l0 N k_
 | 0 => by funext l2 d2 d3 i; kernel_rfl
 | k_ + 1 => by funext l2 d2 d3 i; rw [show El0 N (k_ + 1) l2 d2 d3 i = spec_l4Set_l0_b N (El0 N k_) l2 d2 d3 i from by kernel_rfl]; simp only [ql0 N k_]; rfl
theorem vV (N : Nat) (d : List (ByteArray × Int × Int) × List (Int × List Int)) (l : List Int) :
  evE (eS N) N aN sG Try.f123 [.val ty9 d, .val ty0 l] (un1 .bool) = spec_l4Set_b N (El0 N N) d l := by kernel_rfl
noncomputable def eE (N : Nat) : Entry Try.prog := ⟨123, sG, [.v ty9, .v ty0], Bool, spec_l4Set N, pk1 .bool, entry_en Try.func123 (code := Try.f123.body.getD .skip) (by kernel_rfl) (by kernel_rfl),
 fun d l => entry_ok tab_ok (es := eS N) (by kernel_rfl) mixed Try.func123 (by kernel_rfl) ⟨⟨rfl, rfl⟩, rfl, rfl⟩ (un1_pk .bool) ((vV N d l).trans (by rw [ql0]; rfl))⟩
end spec_l4Set
namespace spec_ClosestRepair
def sG : Sig := ⟨[.val ty9, .val ty11, .val ty0], [(ty0, .dp), (.bool, .dp)], false, false, none, none⟩
noncomputable def eS (N : Nat) : List (Entry Try.prog) := [spec_l7Has.eE N, spec_l4Set.eE N, spec_SubsetRepairs.eE N]
def aN : Nat → Option (List Nat)
 | 0 => some [2, 3, 8, 9, 10, 11]
 | 2 => some [2, 3, 8, 9, 10, 11, 12, 13]
 | _ => none
noncomputable def lP (N : Nat) (p : List Dir) (rs : List (Env → Option (List Int × Bool))) (k : Nat) (env : Env) : Option (List Int × Bool) :=
 lpE (eS N) N aN p Try.f72 (endK Tb sG Try.f72 [] (un2 ty0 .bool)) rs k env
noncomputable def El1 (N : Nat) (k0_ : Nat) (k_ : Nat) (s3 : List Int) (d4 : List (ByteArray × Int × Int)) (d5 : List (Int × List Int)) (best2 : Int) (out2 : List Int) (all2 : List (List Int)) (i2 : Int) (n : Int) (k : Int) : Option (List Int × Bool) :=
 lP N [.r, .r, .r, .r, .l, .r, .b, .b, .r, .l, .b, .r, .l, .r, .b] [lP N [.r, .r, .r, .r, .l, .r, .b] [] k0_] k_ (un 2 (.con .val [lf ty0 s3 .ro] :: (.con (.box ⟨27, false, []⟩) [lf ty7 d4 .ro, lf ty8 d5 .ro] :: (un 4 (.con .val [lf i64 best2 .ro] :: (.con .val [lf ty0 out2 .dp] :: (.con .val [lf ty13 all2 .dp] :: (.con .val [lf i64 i2 .ro] :: (.con .val [lf i64 n .ro] :: (.con .val [lf i64 k .ro] :: (un 45 [])))))))))))
noncomputable def El0 (N : Nat) (k_ : Nat) (s2 : List Int) (d2 : List (ByteArray × Int × Int)) (d3 : List (Int × List Int)) (best : Int) (out : List Int) (all : List (List Int)) (i : Int) : Option (List Int × Bool) :=
 lP N [.r, .r, .r, .r, .l, .r, .b] [] k_ (un 2 (.con .val [lf ty0 s2 .ro] :: (.con (.box ⟨27, false, []⟩) [lf ty7 d2 .ro, lf ty8 d3 .ro] :: (un 4 (.con .val [lf i64 best .ro] :: (.con .val [lf ty0 out .dp] :: (.con .val [lf ty13 all .dp] :: (.con .val [lf i64 i .ro] :: (un 47 [])))))))))
theorem ql1 (N : Nat) (k0_ : Nat) : ∀ k_, El1 N k0_ k_ = spec_ClosestRepair_l1 (El0 N k0_) N k_
 | 0 => by funext s3 d4 d5 best2 out2 all2 i2 n k; kernel_rfl
 | k_ + 1 => by funext s3 d4 d5 best2 out2 all2 i2 n k; rw [show El1 N k0_ (k_ + 1) s3 d4 d5 best2 out2 all2 i2 n k = spec_ClosestRepair_l1_b N (El0 N k0_) (El1 N k0_ k_) s3 d4 d5 best2 out2 all2 i2 n k from by kernel_rfl]; simp only [ql1 N k0_ k_]; rfl
theorem ql0 (N : Nat) : ∀ k_, El0 N k_ = spec_ClosestRepair_l0 N k_
 | 0 => by funext s2 d2 d3 best out all i; kernel_rfl
 | k_ + 1 => by funext s2 d2 d3 best out all i; rw [show El0 N (k_ + 1) s2 d2 d3 best out all i = spec_ClosestRepair_l0_b N (El1 N k_ N) (El0 N k_) s2 d2 d3 best out all i from by kernel_rfl]; simp only [ql1, ql0 N k_]; rfl
theorem vV (N : Nat) (d : List (ByteArray × Int × Int) × List (Int × List Int)) (l : List (Int × Int × Int × Int × Int × Int × Int)) (s : List Int) :
  evE (eS N) N aN sG Try.f72 [.val ty9 d, .val ty11 l, .val ty0 s] (un2 ty0 .bool) = spec_ClosestRepair_b N (El0 N N) d l s := by kernel_rfl
noncomputable def eE (N : Nat) : Entry Try.prog := ⟨72, sG, [.v ty9, .v ty11, .v ty0], List Int × Bool, spec_ClosestRepair N, pk2 ty0 .bool, entry_en Try.func72 (code := Try.f72.body.getD .skip) (by kernel_rfl) (by kernel_rfl),
 fun d l s => entry_ok tab_ok (es := eS N) (by kernel_rfl) mixed Try.func72 (by kernel_rfl) ⟨⟨rfl, rfl⟩, rfl, rfl⟩ (un2_pk ty0 .bool) ((vV N d l s).trans (by rw [ql0]; rfl))⟩
end spec_ClosestRepair
namespace impl_within
def sG : Sig := ⟨[.val i64, .val i64, .val i64], [(.bool, .dp)], false, false, none, none⟩
noncomputable def eS (N : Nat) : List (Entry Try.prog) := []
def aN : Nat → Option (List Nat) := fun _ => none
theorem vV (N : Nat) (n : Int) (low : Int) (high : Int) :
  evE (eS N) N aN sG Try.f103 [.val i64 n, .val i64 low, .val i64 high] (un1 .bool) = impl_within N n low high := by kernel_rfl
noncomputable def eE (N : Nat) : Entry Try.prog := ⟨103, sG, [.v i64, .v i64, .v i64], Bool, impl_within N, pk1 .bool, entry_en Try.func103 (code := Try.f103.body.getD .skip) (by kernel_rfl) (by kernel_rfl),
 fun n low high => entry_ok tab_ok (es := eS N) (by kernel_rfl) mixed Try.func103 (by kernel_rfl) ⟨⟨rfl, rfl⟩, rfl, rfl⟩ (un1_pk .bool) (vV N n low high)⟩
end impl_within
namespace impl_IsValidRelation
def sG : Sig := ⟨[.val ty1], [(.bool, .dp)], false, false, none, none⟩
noncomputable def eS (N : Nat) : List (Entry Try.prog) := [impl_within.eE N]
def aN : Nat → Option (List Nat) := fun _ => none
theorem vV (N : Nat) (relation : ByteArray × Int × Int) :
  evE (eS N) N aN sG Try.f189 [.val ty1 relation] (un1 .bool) = impl_IsValidRelation N relation := by kernel_rfl
noncomputable def eE (N : Nat) : Entry Try.prog := ⟨189, sG, [.v ty1], Bool, impl_IsValidRelation N, pk1 .bool, entry_en Try.func189 (code := Try.f189.body.getD .skip) (by kernel_rfl) (by kernel_rfl),
 fun relation => entry_ok tab_ok (es := eS N) (by kernel_rfl) mixed Try.func189 (by kernel_rfl) ⟨⟨rfl, rfl⟩, rfl, rfl⟩ (un1_pk .bool) (vV N relation)⟩
end impl_IsValidRelation
namespace impl_AreValidRelations
def sG : Sig := ⟨[.val ty7], [(.bool, .dp)], false, false, none, none⟩
noncomputable def eS (N : Nat) : List (Entry Try.prog) := [impl_IsValidRelation.eE N]
def aN : Nat → Option (List Nat)
 | 0 => some [0, 5, 6, 7]
 | _ => none
noncomputable def lP (N : Nat) (p : List Dir) (rs : List (Env → Option (Bool))) (k : Nat) (env : Env) : Option (Bool) :=
 lpE (eS N) N aN p Try.f143 (endK Tb sG Try.f143 [] (un1 .bool)) rs k env
noncomputable def El0 (N : Nat) (k_ : Nat) (relations2 : List (ByteArray × Int × Int)) (t5 : List (ByteArray × Int × Int)) (t6 : Int) (t7 : Int) : Option (Bool) :=
 lP N [.r, .l, .r, .b] [] k_ (.con .val [lf ty7 relations2 .ro] :: (un 4 (.con .val [lf ty7 t5 .ro] :: (.con .val [lf i64 t6 .ro] :: (.con .val [lf i64 t7 .ro] :: (un 26 []))))))
theorem ql0 (N : Nat) : ∀ k_, El0 N k_ = impl_AreValidRelations_l0 N k_
 | 0 => by funext relations2 t5 t6 t7; kernel_rfl
 | k_ + 1 => by funext relations2 t5 t6 t7; rw [show El0 N (k_ + 1) relations2 t5 t6 t7 = impl_AreValidRelations_l0_b N (El0 N k_) relations2 t5 t6 t7 from by kernel_rfl]; simp only [ql0 N k_]; rfl
theorem vV (N : Nat) (relations : List (ByteArray × Int × Int)) :
  evE (eS N) N aN sG Try.f143 [.val ty7 relations] (un1 .bool) = impl_AreValidRelations_b N (El0 N N) relations := by kernel_rfl
noncomputable def eE (N : Nat) : Entry Try.prog := ⟨143, sG, [.v ty7], Bool, impl_AreValidRelations N, pk1 .bool, entry_en Try.func143 (code := Try.f143.body.getD .skip) (by kernel_rfl) (by kernel_rfl),
 fun relations => entry_ok tab_ok (es := eS N) (by kernel_rfl) mixed Try.func143 (by kernel_rfl) ⟨⟨rfl, rfl⟩, rfl, rfl⟩ (un1_pk .bool) ((vV N relations).trans (by rw [ql0]; rfl))⟩
end impl_AreValidRelations
namespace impl_areValues_c1
def sG : Sig := ⟨[.val i64], [(.bool, .dp)], false, false, none, none⟩
noncomputable def eS (N : Nat) : List (Entry Try.prog) := [impl_within.eE N]
def aN : Nat → Option (List Nat) := fun _ => none
theorem vV (N : Nat) (v : Int) :
  evE (eS N) N aN sG Try.f217 [.val i64 v] (un1 .bool) = impl_areValues_c1 N v := by kernel_rfl
noncomputable def eE (N : Nat) : Entry Try.prog := ⟨217, sG, [.v i64], Bool, impl_areValues_c1 N, pk1 .bool, entry_en Try.func217 (code := Try.f217.body.getD .skip) (by kernel_rfl) (by kernel_rfl),
 fun v => entry_ok tab_ok (es := eS N) (by kernel_rfl) mixed Try.func217 (by kernel_rfl) ⟨⟨rfl, rfl⟩, rfl, rfl⟩ (un1_pk .bool) (vV N v)⟩
end impl_areValues_c1
namespace slices_IndexFunc_Lint_int_areValues_c1
def sG : Sig := ⟨[.val ty0, .clo], [(i64, .dp)], false, false, none, none⟩
noncomputable def eS (N : Nat) : List (Entry Try.prog) := [impl_areValues_c1.eE N]
def aN : Nat → Option (List Nat)
 | 0 => some [0, 1, 7, 8]
 | _ => none
noncomputable def lP (N : Nat) (p : List Dir) (rs : List (Env → Option (Int))) (k : Nat) (env : Env) : Option (Int) :=
 lpE (eS N) N aN p Try.f167 (endK Tb sG Try.f167 [] (un1 i64)) rs k env
noncomputable def El0 (N : Nat) (k_ : Nat) (s2 : List Int) (t7 : Int) (t8 : Int) : Option (Int) :=
 lP N [.r, .l, .r, .b] [] k_ (.con .val [lf ty0 s2 .ro] :: (.cloR 217 [] :: (un 5 (.con .val [lf i64 t7 .ro] :: (.con .val [lf i64 t8 .ro] :: (un 10 []))))))
theorem ql0 (N : Nat) : ∀ k_, El0 N k_ = slices_IndexFunc_Lint_int_areValues_c1_l0 N k_
 | 0 => by funext s2 t7 t8; kernel_rfl
 | k_ + 1 => by funext s2 t7 t8; rw [show El0 N (k_ + 1) s2 t7 t8 = slices_IndexFunc_Lint_int_areValues_c1_l0_b N (El0 N k_) s2 t7 t8 from by kernel_rfl]; simp only [ql0 N k_]; rfl
theorem vV (N : Nat) (s : List Int) :
  evE (eS N) N aN sG Try.f167 [.val ty0 s, .clo 217 []] (un1 i64) = slices_IndexFunc_Lint_int_areValues_c1_b N (El0 N N) s := by kernel_rfl
noncomputable def eE (N : Nat) : Entry Try.prog := ⟨167, sG, [.v ty0, .c 217 []], Int, slices_IndexFunc_Lint_int_areValues_c1 N, pk1 i64, entry_en Try.func167 (code := Try.f167.body.getD .skip) (by kernel_rfl) (by kernel_rfl),
 fun s => entry_ok tab_ok (es := eS N) (by kernel_rfl) mixed Try.func167 (by kernel_rfl) ⟨⟨rfl, rfl⟩, rfl, rfl⟩ (un1_pk i64) ((vV N s).trans (by rw [ql0]; rfl))⟩
end slices_IndexFunc_Lint_int_areValues_c1
namespace slices_ContainsFunc_Lint_int_areValues_c1
def sG : Sig := ⟨[.val ty0, .clo], [(.bool, .dp)], false, false, none, none⟩
noncomputable def eS (N : Nat) : List (Entry Try.prog) := [slices_IndexFunc_Lint_int_areValues_c1.eE N]
def aN : Nat → Option (List Nat) := fun _ => none
theorem vV (N : Nat) (s : List Int) :
  evE (eS N) N aN sG Try.f119 [.val ty0 s, .clo 217 []] (un1 .bool) = slices_ContainsFunc_Lint_int_areValues_c1 N s := by kernel_rfl
noncomputable def eE (N : Nat) : Entry Try.prog := ⟨119, sG, [.v ty0, .c 217 []], Bool, slices_ContainsFunc_Lint_int_areValues_c1 N, pk1 .bool, entry_en Try.func119 (code := Try.f119.body.getD .skip) (by kernel_rfl) (by kernel_rfl),
 fun s => entry_ok tab_ok (es := eS N) (by kernel_rfl) mixed Try.func119 (by kernel_rfl) ⟨⟨rfl, rfl⟩, rfl, rfl⟩ (un1_pk .bool) (vV N s)⟩
end slices_ContainsFunc_Lint_int_areValues_c1
namespace impl_areValues
def sG : Sig := ⟨[.val ty0], [(.bool, .dp)], false, false, none, none⟩
noncomputable def eS (N : Nat) : List (Entry Try.prog) := [slices_ContainsFunc_Lint_int_areValues_c1.eE N]
def aN : Nat → Option (List Nat) := fun _ => none
theorem vV (N : Nat) (list : List Int) :
  evE (eS N) N aN sG Try.f190 [.val ty0 list] (un1 .bool) = impl_areValues N list := by kernel_rfl
noncomputable def eE (N : Nat) : Entry Try.prog := ⟨190, sG, [.v ty0], Bool, impl_areValues N, pk1 .bool, entry_en Try.func190 (code := Try.f190.body.getD .skip) (by kernel_rfl) (by kernel_rfl),
 fun list => entry_ok tab_ok (es := eS N) (by kernel_rfl) mixed Try.func190 (by kernel_rfl) ⟨⟨rfl, rfl⟩, rfl, rfl⟩ (un1_pk .bool) (vV N list)⟩
end impl_areValues
namespace impl_isFact
def sG : Sig := ⟨[.val ty7, .val ty3], [(.bool, .dp)], false, false, none, none⟩
noncomputable def eS (N : Nat) : List (Entry Try.prog) := [impl_within.eE N, impl_areValues.eE N]
def aN : Nat → Option (List Nat) := fun _ => none
theorem vV (N : Nat) (relations : List (ByteArray × Int × Int)) (fact : Int × List Int) :
  evE (eS N) N aN sG Try.f144 [.val ty7 relations, .val ty3 fact] (un1 .bool) = impl_isFact N relations fact := by kernel_rfl
noncomputable def eE (N : Nat) : Entry Try.prog := ⟨144, sG, [.v ty7, .v ty3], Bool, impl_isFact N, pk1 .bool, entry_en Try.func144 (code := Try.f144.body.getD .skip) (by kernel_rfl) (by kernel_rfl),
 fun relations fact => entry_ok tab_ok (es := eS N) (by kernel_rfl) mixed Try.func144 (by kernel_rfl) ⟨⟨rfl, rfl⟩, rfl, rfl⟩ (un1_pk .bool) (vV N relations fact)⟩
end impl_isFact
namespace impl_compare
def sG : Sig := ⟨[.val i64, .val i64], [(i64, .dp)], false, false, none, none⟩
noncomputable def eS (N : Nat) : List (Entry Try.prog) := []
def aN : Nat → Option (List Nat) := fun _ => none
theorem vV (N : Nat) (a : Int) (b : Int) :
  evE (eS N) N aN sG Try.f177 [.val i64 a, .val i64 b] (un1 i64) = impl_compare N a b := by kernel_rfl
noncomputable def eE (N : Nat) : Entry Try.prog := ⟨177, sG, [.v i64, .v i64], Int, impl_compare N, pk1 i64, entry_en Try.func177 (code := Try.f177.body.getD .skip) (by kernel_rfl) (by kernel_rfl),
 fun a b => entry_ok tab_ok (es := eS N) (by kernel_rfl) mixed Try.func177 (by kernel_rfl) ⟨⟨rfl, rfl⟩, rfl, rfl⟩ (un1_pk i64) (vV N a b)⟩
end impl_compare
namespace cmp_isNaN_int
def sG : Sig := ⟨[.val i64], [(.bool, .dp)], false, false, none, none⟩
noncomputable def eS (N : Nat) : List (Entry Try.prog) := []
def aN : Nat → Option (List Nat) := fun _ => none
theorem vV (N : Nat) (x : Int) :
  evE (eS N) N aN sG Try.f224 [.val i64 x] (un1 .bool) = cmp_isNaN_int N x := by kernel_rfl
noncomputable def eE (N : Nat) : Entry Try.prog := ⟨224, sG, [.v i64], Bool, cmp_isNaN_int N, pk1 .bool, entry_en Try.func224 (code := Try.f224.body.getD .skip) (by kernel_rfl) (by kernel_rfl),
 fun x => entry_ok tab_ok (es := eS N) (by kernel_rfl) mixed Try.func224 (by kernel_rfl) ⟨⟨rfl, rfl⟩, rfl, rfl⟩ (un1_pk .bool) (vV N x)⟩
end cmp_isNaN_int
namespace cmp_Compare_int
def sG : Sig := ⟨[.val i64, .val i64], [(i64, .dp)], false, false, none, none⟩
noncomputable def eS (N : Nat) : List (Entry Try.prog) := [cmp_isNaN_int.eE N]
def aN : Nat → Option (List Nat) := fun _ => none
theorem vV (N : Nat) (x : Int) (y : Int) :
  evE (eS N) N aN sG Try.f211 [.val i64 x, .val i64 y] (un1 i64) = cmp_Compare_int N x y := by kernel_rfl
noncomputable def eE (N : Nat) : Entry Try.prog := ⟨211, sG, [.v i64, .v i64], Int, cmp_Compare_int N, pk1 i64, entry_en Try.func211 (code := Try.f211.body.getD .skip) (by kernel_rfl) (by kernel_rfl),
 fun x y => entry_ok tab_ok (es := eS N) (by kernel_rfl) mixed Try.func211 (by kernel_rfl) ⟨⟨rfl, rfl⟩, rfl, rfl⟩ (un1_pk i64) (vV N x y)⟩
end cmp_Compare_int
namespace slices_Compare_Lint_int
def sG : Sig := ⟨[.val ty0, .val ty0], [(i64, .dp)], false, false, none, none⟩
noncomputable def eS (N : Nat) : List (Entry Try.prog) := [cmp_Compare_int.eE N]
def aN : Nat → Option (List Nat)
 | 0 => some [0, 1, 9, 10, 11]
 | _ => none
noncomputable def lP (N : Nat) (p : List Dir) (rs : List (Env → Option (Int))) (k : Nat) (env : Env) : Option (Int) :=
 lpE (eS N) N aN p Try.f178 (endK Tb sG Try.f178 [] (un1 i64)) rs k env
noncomputable def El0 (N : Nat) (k_ : Nat) (s12 : List Int) (s22 : List Int) (t9 : List Int) (t10 : Int) (t11 : Int) : Option (Int) :=
 lP N [.r, .l, .r, .b] [] k_ (.con .val [lf ty0 s12 .ro] :: (.con .val [lf ty0 s22 .ro] :: (un 7 (.con .val [lf ty0 t9 .ro] :: (.con .val [lf i64 t10 .ro] :: (.con .val [lf i64 t11 .ro] :: (un 24 [])))))))
theorem ql0 (N : Nat) : ∀ k_, El0 N k_ = slices_Compare_Lint_int_l0 N k_
 | 0 => by funext s12 s22 t9 t10 t11; kernel_rfl
 | k_ + 1 => by funext s12 s22 t9 t10 t11; rw [show El0 N (k_ + 1) s12 s22 t9 t10 t11 = slices_Compare_Lint_int_l0_b N (El0 N k_) s12 s22 t9 t10 t11 from by kernel_rfl]; simp only [ql0 N k_]; rfl
theorem vV (N : Nat) (s1 : List Int) (s2 : List Int) :
  evE (eS N) N aN sG Try.f178 [.val ty0 s1, .val ty0 s2] (un1 i64) = slices_Compare_Lint_int_b N (El0 N N) s1 s2 := by kernel_rfl
noncomputable def eE (N : Nat) : Entry Try.prog := ⟨178, sG, [.v ty0, .v ty0], Int, slices_Compare_Lint_int N, pk1 i64, entry_en Try.func178 (code := Try.f178.body.getD .skip) (by kernel_rfl) (by kernel_rfl),
 fun s1 s2 => entry_ok tab_ok (es := eS N) (by kernel_rfl) mixed Try.func178 (by kernel_rfl) ⟨⟨rfl, rfl⟩, rfl, rfl⟩ (un1_pk i64) ((vV N s1 s2).trans (by rw [ql0]; rfl))⟩
end slices_Compare_Lint_int
namespace impl_CompareFacts
def sG : Sig := ⟨[.val ty3, .val ty3], [(i64, .dp)], false, false, none, none⟩
noncomputable def eS (N : Nat) : List (Entry Try.prog) := [impl_compare.eE N, slices_Compare_Lint_int.eE N]
def aN : Nat → Option (List Nat) := fun _ => none
theorem vV (N : Nat) (a : Int × List Int) (b : Int × List Int) :
  evE (eS N) N aN sG Try.f132 [.val ty3 a, .val ty3 b] (un1 i64) = impl_CompareFacts N a b := by kernel_rfl
noncomputable def eE (N : Nat) : Entry Try.prog := ⟨132, sG, [.v ty3, .v ty3], Int, impl_CompareFacts N, pk1 i64, entry_en Try.func132 (code := Try.f132.body.getD .skip) (by kernel_rfl) (by kernel_rfl),
 fun a b => entry_ok tab_ok (es := eS N) (by kernel_rfl) mixed Try.func132 (by kernel_rfl) ⟨⟨rfl, rfl⟩, rfl, rfl⟩ (un1_pk i64) (vV N a b)⟩
end impl_CompareFacts
namespace impl_IsValidDatabase
def sG : Sig := ⟨[.val ty9], [(.bool, .dp)], false, false, none, none⟩
noncomputable def eS (N : Nat) : List (Entry Try.prog) := [impl_isFact.eE N, impl_CompareFacts.eE N, impl_AreValidRelations.eE N]
def aN : Nat → Option (List Nat)
 | 0 => some [1, 16, 17, 18]
 | _ => none
noncomputable def lP (N : Nat) (p : List Dir) (rs : List (Env → Option (Bool))) (k : Nat) (env : Env) : Option (Bool) :=
 lpE (eS N) N aN p Try.f79 (endK Tb sG Try.f79 [] (un1 .bool)) rs k env
noncomputable def El0 (N : Nat) (k_ : Nat) (db2 : List (ByteArray × Int × Int)) (db3 : List (Int × List Int)) (t16 : List (Int × List Int)) (t17 : Int) (t18 : Int) : Option (Bool) :=
 lP N [.r, .r, .l, .r, .b] [] k_ (un 1 (.con (.box ⟨27, false, []⟩) [lf ty7 db2 .ro, lf ty8 db3 .ro] :: (un 14 (.con .val [lf ty8 t16 .ro] :: (.con .val [lf i64 t17 .ro] :: (.con .val [lf i64 t18 .ro] :: (un 25 [])))))))
theorem ql0 (N : Nat) : ∀ k_, El0 N k_ = impl_IsValidDatabase_l0 N k_
 | 0 => by funext db2 db3 t16 t17 t18; kernel_rfl
 | k_ + 1 => by funext db2 db3 t16 t17 t18; rw [show El0 N (k_ + 1) db2 db3 t16 t17 t18 = impl_IsValidDatabase_l0_b N (El0 N k_) db2 db3 t16 t17 t18 from by kernel_rfl]; simp only [ql0 N k_]; rfl
theorem vV (N : Nat) (db : List (ByteArray × Int × Int) × List (Int × List Int)) :
  evE (eS N) N aN sG Try.f79 [.val ty9 db] (un1 .bool) = impl_IsValidDatabase_b N (El0 N N) db := by kernel_rfl
noncomputable def eE (N : Nat) : Entry Try.prog := ⟨79, sG, [.v ty9], Bool, impl_IsValidDatabase N, pk1 .bool, entry_en Try.func79 (code := Try.f79.body.getD .skip) (by kernel_rfl) (by kernel_rfl),
 fun db => entry_ok tab_ok (es := eS N) (by kernel_rfl) mixed Try.func79 (by kernel_rfl) ⟨⟨rfl, rfl⟩, rfl, rfl⟩ (un1_pk .bool) ((vV N db).trans (by rw [ql0]; rfl))⟩
end impl_IsValidDatabase
namespace impl_areIndices
def sG : Sig := ⟨[.val ty0, .val i64], [(.bool, .dp)], false, false, none, none⟩
noncomputable def eS (N : Nat) : List (Entry Try.prog) := [impl_within.eE N]
def aN : Nat → Option (List Nat)
 | 0 => some [0, 1, 7, 8, 9]
 | _ => none
noncomputable def lP (N : Nat) (p : List Dir) (rs : List (Env → Option (Bool))) (k : Nat) (env : Env) : Option (Bool) :=
 lpE (eS N) N aN p Try.f121 (endK Tb sG Try.f121 [] (un1 .bool)) rs k env
noncomputable def El0 (N : Nat) (k_ : Nat) (indices2 : List Int) (n2 : Int) (t7 : List Int) (t8 : Int) (t9 : Int) : Option (Bool) :=
 lP N [.r, .l, .r, .b] [] k_ (.con .val [lf ty0 indices2 .ro] :: (.con .val [lf i64 n2 .ro] :: (un 5 (.con .val [lf ty0 t7 .ro] :: (.con .val [lf i64 t8 .ro] :: (.con .val [lf i64 t9 .ro] :: (un 23 [])))))))
theorem ql0 (N : Nat) : ∀ k_, El0 N k_ = impl_areIndices_l0 N k_
 | 0 => by funext indices2 n2 t7 t8 t9; kernel_rfl
 | k_ + 1 => by funext indices2 n2 t7 t8 t9; rw [show El0 N (k_ + 1) indices2 n2 t7 t8 t9 = impl_areIndices_l0_b N (El0 N k_) indices2 n2 t7 t8 t9 from by kernel_rfl]; simp only [ql0 N k_]; rfl
theorem vV (N : Nat) (indices : List Int) (n : Int) :
  evE (eS N) N aN sG Try.f121 [.val ty0 indices, .val i64 n] (un1 .bool) = impl_areIndices_b N (El0 N N) indices n := by kernel_rfl
noncomputable def eE (N : Nat) : Entry Try.prog := ⟨121, sG, [.v ty0, .v i64], Bool, impl_areIndices N, pk1 .bool, entry_en Try.func121 (code := Try.f121.body.getD .skip) (by kernel_rfl) (by kernel_rfl),
 fun indices n => entry_ok tab_ok (es := eS N) (by kernel_rfl) mixed Try.func121 (by kernel_rfl) ⟨⟨rfl, rfl⟩, rfl, rfl⟩ (un1_pk .bool) ((vV N indices n).trans (by rw [ql0]; rfl))⟩
end impl_areIndices
namespace impl_IsValidConstraint
def sG : Sig := ⟨[.val ty9, .val ty10], [(.bool, .dp)], false, false, none, none⟩
noncomputable def eS (N : Nat) : List (Entry Try.prog) := [impl_IsValidDatabase.eE N, impl_within.eE N]
def aN : Nat → Option (List Nat) := fun _ => none
theorem vV (N : Nat) (db : List (ByteArray × Int × Int) × List (Int × List Int)) (constraint : Int × Int × Int × Int × Int × Int × Int) :
  evE (eS N) N aN sG Try.f198 [.val ty9 db, .val ty10 constraint] (un1 .bool) = impl_IsValidConstraint N db constraint := by kernel_rfl
noncomputable def eE (N : Nat) : Entry Try.prog := ⟨198, sG, [.v ty9, .v ty10], Bool, impl_IsValidConstraint N, pk1 .bool, entry_en Try.func198 (code := Try.f198.body.getD .skip) (by kernel_rfl) (by kernel_rfl),
 fun db constraint => entry_ok tab_ok (es := eS N) (by kernel_rfl) mixed Try.func198 (by kernel_rfl) ⟨⟨rfl, rfl⟩, rfl, rfl⟩ (un1_pk .bool) (vV N db constraint)⟩
end impl_IsValidConstraint
namespace impl_violates
def sG : Sig := ⟨[.val ty10, .val ty3, .val ty3], [(.bool, .dp)], false, false, none, none⟩
noncomputable def eS (N : Nat) : List (Entry Try.prog) := []
def aN : Nat → Option (List Nat) := fun _ => none
theorem vV (N : Nat) (c : Int × Int × Int × Int × Int × Int × Int) (a : Int × List Int) (b : Int × List Int) :
  evE (eS N) N aN sG Try.f199 [.val ty10 c, .val ty3 a, .val ty3 b] (un1 .bool) = impl_violates N c a b := by kernel_rfl
noncomputable def eE (N : Nat) : Entry Try.prog := ⟨199, sG, [.v ty10, .v ty3, .v ty3], Bool, impl_violates N, pk1 .bool, entry_en Try.func199 (code := Try.f199.body.getD .skip) (by kernel_rfl) (by kernel_rfl),
 fun c a b => entry_ok tab_ok (es := eS N) (by kernel_rfl) mixed Try.func199 (by kernel_rfl) ⟨⟨rfl, rfl⟩, rfl, rfl⟩ (un1_pk .bool) (vV N c a b)⟩
end impl_violates
namespace impl_ViolatesConstraint
def sG : Sig := ⟨[.val ty9, .val ty10, .val i64, .val i64], [(.bool, .dp)], false, false, none, none⟩
noncomputable def eS (N : Nat) : List (Entry Try.prog) := [impl_IsValidConstraint.eE N, impl_within.eE N, impl_violates.eE N]
def aN : Nat → Option (List Nat) := fun _ => none
theorem vV (N : Nat) (db : List (ByteArray × Int × Int) × List (Int × List Int)) (constraint : Int × Int × Int × Int × Int × Int × Int) (first : Int) (second : Int) :
  evE (eS N) N aN sG Try.f172 [.val ty9 db, .val ty10 constraint, .val i64 first, .val i64 second] (un1 .bool) = impl_ViolatesConstraint N db constraint first second := by kernel_rfl
noncomputable def eE (N : Nat) : Entry Try.prog := ⟨172, sG, [.v ty9, .v ty10, .v i64, .v i64], Bool, impl_ViolatesConstraint N, pk1 .bool, entry_en Try.func172 (code := Try.f172.body.getD .skip) (by kernel_rfl) (by kernel_rfl),
 fun db constraint first second => entry_ok tab_ok (es := eS N) (by kernel_rfl) mixed Try.func172 (by kernel_rfl) ⟨⟨rfl, rfl⟩, rfl, rfl⟩ (un1_pk .bool) (vV N db constraint first second)⟩
end impl_ViolatesConstraint
namespace slices_Equal_Lint_int
def sG : Sig := ⟨[.val ty0, .val ty0], [(.bool, .dp)], false, false, none, none⟩
noncomputable def eS (N : Nat) : List (Entry Try.prog) := []
def aN : Nat → Option (List Nat)
 | 0 => some [0, 1, 12, 13]
 | _ => none
noncomputable def lP (N : Nat) (p : List Dir) (rs : List (Env → Option (Bool))) (k : Nat) (env : Env) : Option (Bool) :=
 lpE (eS N) N aN p Try.f196 (endK Tb sG Try.f196 [] (un1 .bool)) rs k env
noncomputable def El0 (N : Nat) (k_ : Nat) (s12 : List Int) (s22 : List Int) (t12 : Int) (t13 : Int) : Option (Bool) :=
 lP N [.r, .r, .l, .r, .b] [] k_ (.con .val [lf ty0 s12 .ro] :: (.con .val [lf ty0 s22 .ro] :: (un 10 (.con .val [lf i64 t12 .ro] :: (.con .val [lf i64 t13 .ro] :: (un 12 []))))))
theorem ql0 (N : Nat) : ∀ k_, El0 N k_ = slices_Equal_Lint_int_l0 N k_
 | 0 => by funext s12 s22 t12 t13; kernel_rfl
 | k_ + 1 => by funext s12 s22 t12 t13; rw [show El0 N (k_ + 1) s12 s22 t12 t13 = slices_Equal_Lint_int_l0_b N (El0 N k_) s12 s22 t12 t13 from by kernel_rfl]; simp only [ql0 N k_]; rfl
theorem vV (N : Nat) (s1 : List Int) (s2 : List Int) :
  evE (eS N) N aN sG Try.f196 [.val ty0 s1, .val ty0 s2] (un1 .bool) = slices_Equal_Lint_int_b N (El0 N N) s1 s2 := by kernel_rfl
noncomputable def eE (N : Nat) : Entry Try.prog := ⟨196, sG, [.v ty0, .v ty0], Bool, slices_Equal_Lint_int N, pk1 .bool, entry_en Try.func196 (code := Try.f196.body.getD .skip) (by kernel_rfl) (by kernel_rfl),
 fun s1 s2 => entry_ok tab_ok (es := eS N) (by kernel_rfl) mixed Try.func196 (by kernel_rfl) ⟨⟨rfl, rfl⟩, rfl, rfl⟩ (un1_pk .bool) ((vV N s1 s2).trans (by rw [ql0]; rfl))⟩
end slices_Equal_Lint_int
namespace impl_sameKey
def sG : Sig := ⟨[.val ty7, .val ty3, .val ty3], [(.bool, .dp)], false, false, none, none⟩
noncomputable def eS (N : Nat) : List (Entry Try.prog) := [slices_Equal_Lint_int.eE N]
def aN : Nat → Option (List Nat) := fun _ => none
theorem vV (N : Nat) (relations : List (ByteArray × Int × Int)) (a : Int × List Int) (b : Int × List Int) :
  evE (eS N) N aN sG Try.f162 [.val ty7 relations, .val ty3 a, .val ty3 b] (un1 .bool) = impl_sameKey N relations a b := by kernel_rfl
noncomputable def eE (N : Nat) : Entry Try.prog := ⟨162, sG, [.v ty7, .v ty3, .v ty3], Bool, impl_sameKey N, pk1 .bool, entry_en Try.func162 (code := Try.f162.body.getD .skip) (by kernel_rfl) (by kernel_rfl),
 fun relations a b => entry_ok tab_ok (es := eS N) (by kernel_rfl) mixed Try.func162 (by kernel_rfl) ⟨⟨rfl, rfl⟩, rfl, rfl⟩ (un1_pk .bool) (vV N relations a b)⟩
end impl_sameKey
namespace impl_ConflictEdges_c1
def sG : Sig := ⟨[.val i64, .val i64, .ptr ty11, .ptr ty9], [(.bool, .dp)], false, false, none, none⟩
noncomputable def eS (N : Nat) : List (Entry Try.prog) := [impl_ViolatesConstraint.eE N, impl_sameKey.eE N]
def aN : Nat → Option (List Nat)
 | 0 => some [0, 1, 3, 9, 10, 11]
 | _ => none
noncomputable def lP (N : Nat) (p : List Dir) (rs : List (Env → Option (Bool))) (k : Nat) (env : Env) : Option (Bool) :=
 lpE (eS N) N aN p Try.f171 (endK Tb sG Try.f171 [] (un1 .bool)) rs k env
noncomputable def El0 (N : Nat) (k_ : Nat) (a2 : Int) (b2 : Int) (t3 : List (ByteArray × Int × Int)) (t32 : List (Int × List Int)) (t9 : List (Int × Int × Int × Int × Int × Int × Int)) (t10 : Int) (t11 : Int) : Option (Bool) :=
 lP N [.r, .l, .r, .b] [] k_ (.con .val [lf i64 a2 .ro] :: (.con .val [lf i64 b2 .ro] :: (un 1 (.eptr [lf ty7 t3 .ro, lf ty8 t32 .ro] none :: (un 5 (.con .val [lf ty11 t9 .ro] :: (.con .val [lf i64 t10 .ro] :: (.con .val [lf i64 t11 .ro] :: (un 29 [])))))))))
theorem ql0 (N : Nat) : ∀ k_, El0 N k_ = impl_ConflictEdges_c1_l0 N k_
 | 0 => by funext a2 b2 t3 t32 t9 t10 t11; kernel_rfl
 | k_ + 1 => by funext a2 b2 t3 t32 t9 t10 t11; rw [show El0 N (k_ + 1) a2 b2 t3 t32 t9 t10 t11 = impl_ConflictEdges_c1_l0_b N (El0 N k_) a2 b2 t3 t32 t9 t10 t11 from by kernel_rfl]; simp only [ql0 N k_]; rfl
theorem vV (N : Nat) (a : Int) (b : Int) (c2 : List (Int × Int × Int × Int × Int × Int × Int)) (c3 : List (ByteArray × Int × Int) × List (Int × List Int)) :
  evE (eS N) N aN sG Try.f171 [.val i64 a, .val i64 b, .ptr ty11 c2, .ptr ty9 c3] (un1 .bool) = impl_ConflictEdges_c1_b N (El0 N N) a b c2 c3 := by kernel_rfl
noncomputable def eE (N : Nat) : Entry Try.prog := ⟨171, sG, [.v i64, .v i64, .p ty11, .p ty9], Bool, impl_ConflictEdges_c1 N, pk1 .bool, entry_en Try.func171 (code := Try.f171.body.getD .skip) (by kernel_rfl) (by kernel_rfl),
 fun a b c2 c3 => entry_ok tab_ok (es := eS N) (by kernel_rfl) mixed Try.func171 (by kernel_rfl) ⟨⟨rfl, rfl⟩, rfl, rfl⟩ (un1_pk .bool) ((vV N a b c2 c3).trans (by rw [ql0]; rfl))⟩
end impl_ConflictEdges_c1
namespace impl_pairs_ConflictEdges_c1
def sG : Sig := ⟨[.val i64, .clo], [(ty12, .dp)], false, false, none, none⟩
noncomputable def eS (N : Nat) : List (Entry Try.prog) := [impl_ConflictEdges_c1.eE N]
def aN : Nat → Option (List Nat)
 | 0 => some [0, 1, 5, 9, 10]
 | 2 => some [0, 1, 5, 6, 7, 9, 10]
 | _ => none
noncomputable def lP (N : Nat) (p : List Dir) (rs : List (Env → Option (List (Int × Int)))) (k : Nat) (env : Env) : Option (List (Int × Int)) :=
 lpE (eS N) N aN p Try.f170 (endK Tb sG Try.f170 [] (un1 ty12)) rs k env
noncomputable def El1 (N : Nat) (k0_ : Nat) (k_ : Nat) (n3 : Int) (holds3 : List (Int × Int × Int × Int × Int × Int × Int)) (holds4 : List (ByteArray × Int × Int) × List (Int × List Int)) (out2 : List (Int × Int)) (a : Int) (b : Int) (t92 : Int) (t102 : Int) : Option (List (Int × Int)) :=
 lP N [.r, .r, .l, .r, .b, .b, .r, .r, .l, .b, .r, .r, .b] [lP N [.r, .r, .l, .r, .b] [] k0_] k_ (.con .val [lf i64 n3 .ro] :: (.cloR 171 [⟨ty11, holds3⟩, ⟨ty9, holds4⟩] :: (un 3 (.con .val [lf ty12 out2 .dp] :: (.con .val [lf i64 a .ro] :: (.con .val [lf i64 b .ro] :: (un 1 (.con .val [lf i64 t92 .ro] :: (.con .val [lf i64 t102 .ro] :: (un 21 []))))))))))
noncomputable def El0 (N : Nat) (k_ : Nat) (n2 : Int) (holds : List (Int × Int × Int × Int × Int × Int × Int)) (holds2 : List (ByteArray × Int × Int) × List (Int × List Int)) (out : List (Int × Int)) (t9 : Int) (t10 : Int) : Option (List (Int × Int)) :=
 lP N [.r, .r, .l, .r, .b] [] k_ (.con .val [lf i64 n2 .ro] :: (.cloR 171 [⟨ty11, holds⟩, ⟨ty9, holds2⟩] :: (un 3 (.con .val [lf ty12 out .dp] :: (un 3 (.con .val [lf i64 t9 .ro] :: (.con .val [lf i64 t10 .ro] :: (un 21 []))))))))
theorem ql1 (N : Nat) (k0_ : Nat) : ∀ k_, El1 N k0_ k_ = impl_pairs_ConflictEdges_c1_l1 (El0 N k0_) N k_
 | 0 => by funext n3 holds3 holds4 out2 a b t92 t102; kernel_rfl
 | k_ + 1 => by funext n3 holds3 holds4 out2 a b t92 t102; rw [show El1 N k0_ (k_ + 1) n3 holds3 holds4 out2 a b t92 t102 = impl_pairs_ConflictEdges_c1_l1_b N (El0 N k0_) (El1 N k0_ k_) n3 holds3 holds4 out2 a b t92 t102 from by kernel_rfl]; simp only [ql1 N k0_ k_]; rfl
theorem ql0 (N : Nat) : ∀ k_, El0 N k_ = impl_pairs_ConflictEdges_c1_l0 N k_
 | 0 => by funext n2 holds holds2 out t9 t10; kernel_rfl
 | k_ + 1 => by funext n2 holds holds2 out t9 t10; rw [show El0 N (k_ + 1) n2 holds holds2 out t9 t10 = impl_pairs_ConflictEdges_c1_l0_b N (El1 N k_ N) (El0 N k_) n2 holds holds2 out t9 t10 from by kernel_rfl]; simp only [ql1, ql0 N k_]; rfl
theorem vV (N : Nat) (n : Int) (c : List (Int × Int × Int × Int × Int × Int × Int)) (c2 : List (ByteArray × Int × Int) × List (Int × List Int)) :
  evE (eS N) N aN sG Try.f170 [.val i64 n, .clo 171 [⟨ty11, c⟩, ⟨ty9, c2⟩]] (un1 ty12) = impl_pairs_ConflictEdges_c1_b N (El0 N N) n c c2 := by kernel_rfl
noncomputable def eE (N : Nat) : Entry Try.prog := ⟨170, sG, [.v i64, .c 171 [ty11, ty9]], List (Int × Int), impl_pairs_ConflictEdges_c1 N, pk1 ty12, entry_en Try.func170 (code := Try.f170.body.getD .skip) (by kernel_rfl) (by kernel_rfl),
 fun n c c2 => entry_ok tab_ok (es := eS N) (by kernel_rfl) mixed Try.func170 (by kernel_rfl) ⟨⟨rfl, rfl⟩, rfl, rfl⟩ (un1_pk ty12) ((vV N n c c2).trans (by rw [ql0]; rfl))⟩
end impl_pairs_ConflictEdges_c1
namespace impl_ConflictEdges
def sG : Sig := ⟨[.val ty9, .val ty11], [(ty12, .dp)], false, false, none, none⟩
noncomputable def eS (N : Nat) : List (Entry Try.prog) := [impl_IsValidDatabase.eE N, impl_pairs_ConflictEdges_c1.eE N]
def aN : Nat → Option (List Nat) := fun _ => none
theorem vV (N : Nat) (db : List (ByteArray × Int × Int) × List (Int × List Int)) (constraints : List (Int × Int × Int × Int × Int × Int × Int)) :
  evE (eS N) N aN sG Try.f127 [.val ty9 db, .val ty11 constraints] (un1 ty12) = impl_ConflictEdges N db constraints := by kernel_rfl
noncomputable def eE (N : Nat) : Entry Try.prog := ⟨127, sG, [.v ty9, .v ty11], List (Int × Int), impl_ConflictEdges N, pk1 ty12, entry_en Try.func127 (code := Try.f127.body.getD .skip) (by kernel_rfl) (by kernel_rfl),
 fun db constraints => entry_ok tab_ok (es := eS N) (by kernel_rfl) mixed Try.func127 (by kernel_rfl) ⟨⟨rfl, rfl⟩, rfl, rfl⟩ (un1_pk ty12) (vV N db constraints)⟩
end impl_ConflictEdges
namespace impl_AreValidEdges
def sG : Sig := ⟨[.val i64, .val ty12], [(.bool, .dp)], false, false, none, none⟩
noncomputable def eS (N : Nat) : List (Entry Try.prog) := [impl_within.eE N]
def aN : Nat → Option (List Nat)
 | 0 => some [0, 1, 10, 11, 12]
 | _ => none
noncomputable def lP (N : Nat) (p : List Dir) (rs : List (Env → Option (Bool))) (k : Nat) (env : Env) : Option (Bool) :=
 lpE (eS N) N aN p Try.f181 (endK Tb sG Try.f181 [] (un1 .bool)) rs k env
noncomputable def El0 (N : Nat) (k_ : Nat) (n2 : Int) (edges2 : List (Int × Int)) (t10 : List (Int × Int)) (t11 : Int) (t12 : Int) : Option (Bool) :=
 lP N [.r, .r, .l, .r, .b] [] k_ (.con .val [lf i64 n2 .ro] :: (.con .val [lf ty12 edges2 .ro] :: (un 8 (.con .val [lf ty12 t10 .ro] :: (.con .val [lf i64 t11 .ro] :: (.con .val [lf i64 t12 .ro] :: (un 58 [])))))))
theorem ql0 (N : Nat) : ∀ k_, El0 N k_ = impl_AreValidEdges_l0 N k_
 | 0 => by funext n2 edges2 t10 t11 t12; kernel_rfl
 | k_ + 1 => by funext n2 edges2 t10 t11 t12; rw [show El0 N (k_ + 1) n2 edges2 t10 t11 t12 = impl_AreValidEdges_l0_b N (El0 N k_) n2 edges2 t10 t11 t12 from by kernel_rfl]; simp only [ql0 N k_]; rfl
theorem vV (N : Nat) (n : Int) (edges : List (Int × Int)) :
  evE (eS N) N aN sG Try.f181 [.val i64 n, .val ty12 edges] (un1 .bool) = impl_AreValidEdges_b N (El0 N N) n edges := by kernel_rfl
noncomputable def eE (N : Nat) : Entry Try.prog := ⟨181, sG, [.v i64, .v ty12], Bool, impl_AreValidEdges N, pk1 .bool, entry_en Try.func181 (code := Try.f181.body.getD .skip) (by kernel_rfl) (by kernel_rfl),
 fun n edges => entry_ok tab_ok (es := eS N) (by kernel_rfl) mixed Try.func181 (by kernel_rfl) ⟨⟨rfl, rfl⟩, rfl, rfl⟩ (un1_pk .bool) ((vV N n edges).trans (by rw [ql0]; rfl))⟩
end impl_AreValidEdges
namespace slices_Index_Lint_int
def sG : Sig := ⟨[.val ty0, .val i64], [(i64, .dp)], false, false, none, none⟩
noncomputable def eS (N : Nat) : List (Entry Try.prog) := []
def aN : Nat → Option (List Nat)
 | 0 => some [0, 1, 7, 8]
 | _ => none
noncomputable def lP (N : Nat) (p : List Dir) (rs : List (Env → Option (Int))) (k : Nat) (env : Env) : Option (Int) :=
 lpE (eS N) N aN p Try.f194 (endK Tb sG Try.f194 [] (un1 i64)) rs k env
noncomputable def El0 (N : Nat) (k_ : Nat) (s2 : List Int) (v2 : Int) (t7 : Int) (t8 : Int) : Option (Int) :=
 lP N [.r, .l, .r, .b] [] k_ (.con .val [lf ty0 s2 .ro] :: (.con .val [lf i64 v2 .ro] :: (un 5 (.con .val [lf i64 t7 .ro] :: (.con .val [lf i64 t8 .ro] :: (un 10 []))))))
theorem ql0 (N : Nat) : ∀ k_, El0 N k_ = slices_Index_Lint_int_l0 N k_
 | 0 => by funext s2 v2 t7 t8; kernel_rfl
 | k_ + 1 => by funext s2 v2 t7 t8; rw [show El0 N (k_ + 1) s2 v2 t7 t8 = slices_Index_Lint_int_l0_b N (El0 N k_) s2 v2 t7 t8 from by kernel_rfl]; simp only [ql0 N k_]; rfl
theorem vV (N : Nat) (s : List Int) (v : Int) :
  evE (eS N) N aN sG Try.f194 [.val ty0 s, .val i64 v] (un1 i64) = slices_Index_Lint_int_b N (El0 N N) s v := by kernel_rfl
noncomputable def eE (N : Nat) : Entry Try.prog := ⟨194, sG, [.v ty0, .v i64], Int, slices_Index_Lint_int N, pk1 i64, entry_en Try.func194 (code := Try.f194.body.getD .skip) (by kernel_rfl) (by kernel_rfl),
 fun s v => entry_ok tab_ok (es := eS N) (by kernel_rfl) mixed Try.func194 (by kernel_rfl) ⟨⟨rfl, rfl⟩, rfl, rfl⟩ (un1_pk i64) ((vV N s v).trans (by rw [ql0]; rfl))⟩
end slices_Index_Lint_int
namespace slices_Contains_Lint_int
def sG : Sig := ⟨[.val ty0, .val i64], [(.bool, .dp)], false, false, none, none⟩
noncomputable def eS (N : Nat) : List (Entry Try.prog) := [slices_Index_Lint_int.eE N]
def aN : Nat → Option (List Nat) := fun _ => none
theorem vV (N : Nat) (s : List Int) (v : Int) :
  evE (eS N) N aN sG Try.f157 [.val ty0 s, .val i64 v] (un1 .bool) = slices_Contains_Lint_int N s v := by kernel_rfl
noncomputable def eE (N : Nat) : Entry Try.prog := ⟨157, sG, [.v ty0, .v i64], Bool, slices_Contains_Lint_int N, pk1 .bool, entry_en Try.func157 (code := Try.f157.body.getD .skip) (by kernel_rfl) (by kernel_rfl),
 fun s v => entry_ok tab_ok (es := eS N) (by kernel_rfl) mixed Try.func157 (by kernel_rfl) ⟨⟨rfl, rfl⟩, rfl, rfl⟩ (un1_pk .bool) (vV N s v)⟩
end slices_Contains_Lint_int
namespace impl_IsIndependent_c1
def sG : Sig := ⟨[.val ty14, .ptr ty0], [(.bool, .dp)], false, false, none, none⟩
noncomputable def eS (N : Nat) : List (Entry Try.prog) := [slices_Contains_Lint_int.eE N]
def aN : Nat → Option (List Nat) := fun _ => none
theorem vV (N : Nat) (e : Int × Int) (c1 : List Int) :
  evE (eS N) N aN sG Try.f216 [.val ty14 e, .ptr ty0 c1] (un1 .bool) = impl_IsIndependent_c1 N e c1 := by kernel_rfl
noncomputable def eE (N : Nat) : Entry Try.prog := ⟨216, sG, [.v ty14, .p ty0], Bool, impl_IsIndependent_c1 N, pk1 .bool, entry_en Try.func216 (code := Try.f216.body.getD .skip) (by kernel_rfl) (by kernel_rfl),
 fun e c1 => entry_ok tab_ok (es := eS N) (by kernel_rfl) mixed Try.func216 (by kernel_rfl) ⟨⟨rfl, rfl⟩, rfl, rfl⟩ (un1_pk .bool) (vV N e c1)⟩
end impl_IsIndependent_c1
namespace slices_IndexFunc_LConflictEdge_ConflictEdge_IsIndependent_c1
def sG : Sig := ⟨[.val ty12, .clo], [(i64, .dp)], false, false, none, none⟩
noncomputable def eS (N : Nat) : List (Entry Try.prog) := [impl_IsIndependent_c1.eE N]
def aN : Nat → Option (List Nat)
 | 0 => some [0, 1, 7, 8]
 | _ => none
noncomputable def lP (N : Nat) (p : List Dir) (rs : List (Env → Option (Int))) (k : Nat) (env : Env) : Option (Int) :=
 lpE (eS N) N aN p Try.f227 (endK Tb sG Try.f227 [] (un1 i64)) rs k env
noncomputable def El0 (N : Nat) (k_ : Nat) (s2 : List (Int × Int)) (f : List Int) (t7 : Int) (t8 : Int) : Option (Int) :=
 lP N [.r, .l, .r, .b] [] k_ (.con .val [lf ty12 s2 .ro] :: (.cloR 216 [⟨ty0, f⟩] :: (un 5 (.con .val [lf i64 t7 .ro] :: (.con .val [lf i64 t8 .ro] :: (un 10 []))))))
theorem ql0 (N : Nat) : ∀ k_, El0 N k_ = slices_IndexFunc_LConflictEdge_ConflictEdge_IsIndependent_c1_l0 N k_
 | 0 => by funext s2 f t7 t8; kernel_rfl
 | k_ + 1 => by funext s2 f t7 t8; rw [show El0 N (k_ + 1) s2 f t7 t8 = slices_IndexFunc_LConflictEdge_ConflictEdge_IsIndependent_c1_l0_b N (El0 N k_) s2 f t7 t8 from by kernel_rfl]; simp only [ql0 N k_]; rfl
theorem vV (N : Nat) (s : List (Int × Int)) (c : List Int) :
  evE (eS N) N aN sG Try.f227 [.val ty12 s, .clo 216 [⟨ty0, c⟩]] (un1 i64) = slices_IndexFunc_LConflictEdge_ConflictEdge_IsIndependent_c1_b N (El0 N N) s c := by kernel_rfl
noncomputable def eE (N : Nat) : Entry Try.prog := ⟨227, sG, [.v ty12, .c 216 [ty0]], Int, slices_IndexFunc_LConflictEdge_ConflictEdge_IsIndependent_c1 N, pk1 i64, entry_en Try.func227 (code := Try.f227.body.getD .skip) (by kernel_rfl) (by kernel_rfl),
 fun s c => entry_ok tab_ok (es := eS N) (by kernel_rfl) mixed Try.func227 (by kernel_rfl) ⟨⟨rfl, rfl⟩, rfl, rfl⟩ (un1_pk i64) ((vV N s c).trans (by rw [ql0]; rfl))⟩
end slices_IndexFunc_LConflictEdge_ConflictEdge_IsIndependent_c1
namespace slices_ContainsFunc_LConflictEdge_ConflictEdge_IsIndependent_c1
def sG : Sig := ⟨[.val ty12, .clo], [(.bool, .dp)], false, false, none, none⟩
noncomputable def eS (N : Nat) : List (Entry Try.prog) := [slices_IndexFunc_LConflictEdge_ConflictEdge_IsIndependent_c1.eE N]
def aN : Nat → Option (List Nat) := fun _ => none
theorem vV (N : Nat) (s : List (Int × Int)) (c : List Int) :
  evE (eS N) N aN sG Try.f215 [.val ty12 s, .clo 216 [⟨ty0, c⟩]] (un1 .bool) = slices_ContainsFunc_LConflictEdge_ConflictEdge_IsIndependent_c1 N s c := by kernel_rfl
noncomputable def eE (N : Nat) : Entry Try.prog := ⟨215, sG, [.v ty12, .c 216 [ty0]], Bool, slices_ContainsFunc_LConflictEdge_ConflictEdge_IsIndependent_c1 N, pk1 .bool, entry_en Try.func215 (code := Try.f215.body.getD .skip) (by kernel_rfl) (by kernel_rfl),
 fun s c => entry_ok tab_ok (es := eS N) (by kernel_rfl) mixed Try.func215 (by kernel_rfl) ⟨⟨rfl, rfl⟩, rfl, rfl⟩ (un1_pk .bool) (vV N s c)⟩
end slices_ContainsFunc_LConflictEdge_ConflictEdge_IsIndependent_c1
namespace impl_IsIndependent
def sG : Sig := ⟨[.val ty12, .val ty0], [(.bool, .dp)], false, false, none, none⟩
noncomputable def eS (N : Nat) : List (Entry Try.prog) := [slices_ContainsFunc_LConflictEdge_ConflictEdge_IsIndependent_c1.eE N]
def aN : Nat → Option (List Nat) := fun _ => none
theorem vV (N : Nat) (edges : List (Int × Int)) (set : List Int) :
  evE (eS N) N aN sG Try.f184 [.val ty12 edges, .val ty0 set] (un1 .bool) = impl_IsIndependent N edges set := by kernel_rfl
noncomputable def eE (N : Nat) : Entry Try.prog := ⟨184, sG, [.v ty12, .v ty0], Bool, impl_IsIndependent N, pk1 .bool, entry_en Try.func184 (code := Try.f184.body.getD .skip) (by kernel_rfl) (by kernel_rfl),
 fun edges set => entry_ok tab_ok (es := eS N) (by kernel_rfl) mixed Try.func184 (by kernel_rfl) ⟨⟨rfl, rfl⟩, rfl, rfl⟩ (un1_pk .bool) (vV N edges set)⟩
end impl_IsIndependent
namespace impl_isIndependentSet
def sG : Sig := ⟨[.val i64, .val ty12, .val ty0], [(.bool, .dp)], false, false, none, none⟩
noncomputable def eS (N : Nat) : List (Entry Try.prog) := [impl_AreValidEdges.eE N, impl_areIndices.eE N, impl_IsIndependent.eE N]
def aN : Nat → Option (List Nat) := fun _ => none
theorem vV (N : Nat) (n : Int) (edges : List (Int × Int)) (set : List Int) :
  evE (eS N) N aN sG Try.f214 [.val i64 n, .val ty12 edges, .val ty0 set] (un1 .bool) = impl_isIndependentSet N n edges set := by kernel_rfl
noncomputable def eE (N : Nat) : Entry Try.prog := ⟨214, sG, [.v i64, .v ty12, .v ty0], Bool, impl_isIndependentSet N, pk1 .bool, entry_en Try.func214 (code := Try.f214.body.getD .skip) (by kernel_rfl) (by kernel_rfl),
 fun n edges set => entry_ok tab_ok (es := eS N) (by kernel_rfl) mixed Try.func214 (by kernel_rfl) ⟨⟨rfl, rfl⟩, rfl, rfl⟩ (un1_pk .bool) (vV N n edges set)⟩
end impl_isIndependentSet
namespace impl_IsMaximalIndependent
def sG : Sig := ⟨[.val i64, .val ty12, .val ty0], [(.bool, .dp)], false, false, none, none⟩
noncomputable def eS (N : Nat) : List (Entry Try.prog) := [slices_Contains_Lint_int.eE N, slices_Clone_Lint_int_e N, impl_IsIndependent.eE N, impl_isIndependentSet.eE N]
def aN : Nat → Option (List Nat)
 | 0 => some [1, 2, 13, 14]
 | _ => none
noncomputable def lP (N : Nat) (p : List Dir) (rs : List (Env → Option (Bool))) (k : Nat) (env : Env) : Option (Bool) :=
 lpE (eS N) N aN p Try.f183 (endK Tb sG Try.f183 [] (un1 .bool)) rs k env
noncomputable def El0 (N : Nat) (k_ : Nat) (edges2 : List (Int × Int)) (set2 : List Int) (t13 : Int) (t14 : Int) : Option (Bool) :=
 lP N [.r, .r, .l, .r, .b] [] k_ (un 1 (.con .val [lf ty12 edges2 .ro] :: (.con .val [lf ty0 set2 .ro] :: (un 10 (.con .val [lf i64 t13 .ro] :: (.con .val [lf i64 t14 .ro] :: (un 16 [])))))))
theorem ql0 (N : Nat) : ∀ k_, El0 N k_ = impl_IsMaximalIndependent_l0 N k_
 | 0 => by funext edges2 set2 t13 t14; kernel_rfl
 | k_ + 1 => by funext edges2 set2 t13 t14; rw [show El0 N (k_ + 1) edges2 set2 t13 t14 = impl_IsMaximalIndependent_l0_b N (El0 N k_) edges2 set2 t13 t14 from by kernel_rfl]; simp only [ql0 N k_]; rfl
theorem vV (N : Nat) (n : Int) (edges : List (Int × Int)) (set : List Int) :
  evE (eS N) N aN sG Try.f183 [.val i64 n, .val ty12 edges, .val ty0 set] (un1 .bool) = impl_IsMaximalIndependent_b N (El0 N N) n edges set := by kernel_rfl
noncomputable def eE (N : Nat) : Entry Try.prog := ⟨183, sG, [.v i64, .v ty12, .v ty0], Bool, impl_IsMaximalIndependent N, pk1 .bool, entry_en Try.func183 (code := Try.f183.body.getD .skip) (by kernel_rfl) (by kernel_rfl),
 fun n edges set => entry_ok tab_ok (es := eS N) (by kernel_rfl) mixed Try.func183 (by kernel_rfl) ⟨⟨rfl, rfl⟩, rfl, rfl⟩ (un1_pk .bool) ((vV N n edges set).trans (by rw [ql0]; rfl))⟩
end impl_IsMaximalIndependent
namespace impl_MaximalIndependentSets_c1
def bX : BoxSig := ⟨4, 33, [.dp]⟩
def sG : Sig := ⟨[.val i64, .val ty0, .ptr i64, .ptr ty12, .ptr ty13, .self], [], false, false, some bX, none⟩
theorem eN : Enterable Try.prog 182 := entry_en Try.func182 (code := Try.f182.body.getD .skip) (by kernel_rfl) (by kernel_rfl)
noncomputable def eS (N : Nat) (Rf : Int → (List Int) → Int → (List (Int × Int)) → (List (List Int)) → Int → (List (Int × Int)) → Option (List (List Int))) (hR : OkP (Option (List (List Int))) [.v i64, .v ty0, .p i64, .p ty12, .p ty13, .s 182 [.ro i64, .ro ty12, .pin, .self]] Rf (fun xs_ q => ∀ x, q = some x → FnOk Try.prog 182 sG xs_ (pk1 ty13 x))) : List (Entry Try.prog) := [impl_IsMaximalIndependent.eE N, slices_Clone_Lint_int_e N, impl_IsIndependent.eE N, ⟨182, sG, [.v i64, .v ty0, .p i64, .p ty12, .p ty13, .s 182 [.ro i64, .ro ty12, .pin, .self]], List (List Int), Rf, pk1 ty13, eN, hR⟩]
def aN : Nat → Option (List Nat) := fun _ => none
theorem vV (N : Nat) (Rf : Int → (List Int) → Int → (List (Int × Int)) → (List (List Int)) → Int → (List (Int × Int)) → Option (List (List Int))) (hR : OkP (Option (List (List Int))) [.v i64, .v ty0, .p i64, .p ty12, .p ty13, .s 182 [.ro i64, .ro ty12, .pin, .self]] Rf (fun xs_ q => ∀ x, q = some x → FnOk Try.prog 182 sG xs_ (pk1 ty13 x))) (v : Int) (set : List Int) (c2 : Int) (c3 : List (Int × Int)) (c4 : List (List Int)) (sc2 : Int) (sc3 : List (Int × Int)) :
  evB (eS N Rf hR) N aN sG bX Try.f182 [.val i64 v, .val ty0 set, .ptr i64 c2, .ptr ty12 c3, .ptr ty13 c4, .fptr 182 [.ro ⟨i64, sc2⟩, .ro ⟨ty12, sc3⟩, .pin, .self]] (un1 ty13) = impl_MaximalIndependentSets_c1_b N Rf v set c2 c3 c4 sc2 sc3 := by kernel_rfl
theorem oK (N : Nat) : ∀ k_, OkP (Option (List (List Int))) [.v i64, .v ty0, .p i64, .p ty12, .p ty13, .s 182 [.ro i64, .ro ty12, .pin, .self]] (impl_MaximalIndependentSets_c1_r N k_) (fun xs_ q => ∀ x, q = some x → FnOk Try.prog 182 sG xs_ (pk1 ty13 x))
 | 0 => fun v set c2 c3 c4 sc2 sc3 =>  fun x h => absurd (show (none : Option (List (List Int))) = some x from h) (by simp)
 | k_ + 1 => fun v set c2 c3 c4 sc2 sc3 => entry_okB tab_ok (es := eS N (impl_MaximalIndependentSets_c1_r N k_) (oK N k_)) (by kernel_rfl) mixed Try.func182 (by kernel_rfl) rfl rfl (fun _ => ⟨_, _, rfl⟩) (un1_pk ty13) (vV N _ _ v set c2 c3 c4 sc2 sc3)
noncomputable def eE (N : Nat) : Entry Try.prog := ⟨182, sG, [.v i64, .v ty0, .p i64, .p ty12, .p ty13, .s 182 [.ro i64, .ro ty12, .pin, .self]], List (List Int), impl_MaximalIndependentSets_c1 N, pk1 ty13, eN, oK N N⟩
end impl_MaximalIndependentSets_c1
namespace impl_MaximalIndependentSets
def sG : Sig := ⟨[.val i64, .val ty12], [(ty13, .dp)], false, false, none, none⟩
noncomputable def eS (N : Nat) : List (Entry Try.prog) := [impl_AreValidEdges.eE N, impl_MaximalIndependentSets_c1.eE N]
def aN : Nat → Option (List Nat) := fun _ => none
theorem vV (N : Nat) (n : Int) (edges : List (Int × Int)) :
  evE (eS N) N aN sG Try.f136 [.val i64 n, .val ty12 edges] (un1 ty13) = impl_MaximalIndependentSets N n edges := by kernel_rfl
noncomputable def eE (N : Nat) : Entry Try.prog := ⟨136, sG, [.v i64, .v ty12], List (List Int), impl_MaximalIndependentSets N, pk1 ty13, entry_en Try.func136 (code := Try.f136.body.getD .skip) (by kernel_rfl) (by kernel_rfl),
 fun n edges => entry_ok tab_ok (es := eS N) (by kernel_rfl) mixed Try.func136 (by kernel_rfl) ⟨⟨rfl, rfl⟩, rfl, rfl⟩ (un1_pk ty13) (vV N n edges)⟩
end impl_MaximalIndependentSets
namespace impl_SubsetRepairs
def sG : Sig := ⟨[.val ty9, .val ty11], [(ty13, .dp)], false, false, none, none⟩
noncomputable def eS (N : Nat) : List (Entry Try.prog) := [impl_IsValidDatabase.eE N, impl_ConflictEdges.eE N, impl_MaximalIndependentSets.eE N]
def aN : Nat → Option (List Nat) := fun _ => none
theorem vV (N : Nat) (db : List (ByteArray × Int × Int) × List (Int × List Int)) (constraints : List (Int × Int × Int × Int × Int × Int × Int)) :
  evE (eS N) N aN sG Try.f68 [.val ty9 db, .val ty11 constraints] (un1 ty13) = impl_SubsetRepairs N db constraints := by kernel_rfl
noncomputable def eE (N : Nat) : Entry Try.prog := ⟨68, sG, [.v ty9, .v ty11], List (List Int), impl_SubsetRepairs N, pk1 ty13, entry_en Try.func68 (code := Try.f68.body.getD .skip) (by kernel_rfl) (by kernel_rfl),
 fun db constraints => entry_ok tab_ok (es := eS N) (by kernel_rfl) mixed Try.func68 (by kernel_rfl) ⟨⟨rfl, rfl⟩, rfl, rfl⟩ (un1_pk ty13) (vV N db constraints)⟩
end impl_SubsetRepairs
namespace impl_without
def sG : Sig := ⟨[.val ty0, .val ty0], [(ty0, .dp)], false, false, none, none⟩
noncomputable def eS (N : Nat) : List (Entry Try.prog) := [slices_Contains_Lint_int.eE N]
def aN : Nat → Option (List Nat)
 | 0 => some [1, 5, 9, 10, 11]
 | _ => none
noncomputable def lP (N : Nat) (p : List Dir) (rs : List (Env → Option (List Int))) (k : Nat) (env : Env) : Option (List Int) :=
 lpE (eS N) N aN p Try.f138 (endK Tb sG Try.f138 [] (un1 ty0)) rs k env
noncomputable def El0 (N : Nat) (k_ : Nat) (b2 : List Int) (out : List Int) (t9 : List Int) (t10 : Int) (t11 : Int) : Option (List Int) :=
 lP N [.r, .r, .l, .r, .b] [] k_ (un 1 (.con .val [lf ty0 b2 .ro] :: (un 3 (.con .val [lf ty0 out .dp] :: (un 3 (.con .val [lf ty0 t9 .ro] :: (.con .val [lf i64 t10 .ro] :: (.con .val [lf i64 t11 .ro] :: (un 13 [])))))))))
theorem ql0 (N : Nat) : ∀ k_, El0 N k_ = impl_without_l0 N k_
 | 0 => by funext b2 out t9 t10 t11; kernel_rfl
 | k_ + 1 => by funext b2 out t9 t10 t11; rw [show El0 N (k_ + 1) b2 out t9 t10 t11 = impl_without_l0_b N (El0 N k_) b2 out t9 t10 t11 from by kernel_rfl]; simp only [ql0 N k_]; rfl
theorem vV (N : Nat) (a : List Int) (b : List Int) :
  evE (eS N) N aN sG Try.f138 [.val ty0 a, .val ty0 b] (un1 ty0) = impl_without_b N (El0 N N) a b := by kernel_rfl
noncomputable def eE (N : Nat) : Entry Try.prog := ⟨138, sG, [.v ty0, .v ty0], List Int, impl_without N, pk1 ty0, entry_en Try.func138 (code := Try.f138.body.getD .skip) (by kernel_rfl) (by kernel_rfl),
 fun a b => entry_ok tab_ok (es := eS N) (by kernel_rfl) mixed Try.func138 (by kernel_rfl) ⟨⟨rfl, rfl⟩, rfl, rfl⟩ (un1_pk ty0) ((vV N a b).trans (by rw [ql0]; rfl))⟩
end impl_without
namespace impl_ClosestRepair
def sG : Sig := ⟨[.val ty9, .val ty11, .val ty0], [(ty0, .dp), (.bool, .dp)], false, false, none, none⟩
noncomputable def eS (N : Nat) : List (Entry Try.prog) := [impl_without.eE N, impl_IsValidDatabase.eE N, impl_areIndices.eE N, impl_SubsetRepairs.eE N]
def aN : Nat → Option (List Nat)
 | 0 => some [2, 8, 9, 26, 27, 28]
 | _ => none
noncomputable def lP (N : Nat) (p : List Dir) (rs : List (Env → Option (List Int × Bool))) (k : Nat) (env : Env) : Option (List Int × Bool) :=
 lpE (eS N) N aN p Try.f73 (endK Tb sG Try.f73 [] (un2 ty0 .bool)) rs k env
noncomputable def El1 (N : Nat) (k_ : Nat) (indices3 : List Int) (outi : Int) (out2 : List Int) (most2 : Int) (t262 : List (List Int)) (t272 : Int) (t282 : Int) : Option (List Int × Bool) :=
 lP N [.r, .r, .r, .r, .l, .r, .b] [] k_ (un 2 (.con .val [lf ty0 indices3 .ro] :: (un 5 (.con .val [⟨ty0, out2, (.bor 26 0 [(outi, 0)])⟩] :: (.con .val [lf i64 most2 .ro] :: (un 16 (.con .val [lf ty13 t262 .dp] :: (.con .val [lf i64 t272 .ro] :: (.con .val [lf i64 t282 .ro] :: (un 19 []))))))))))
noncomputable def El0 (N : Nat) (k_ : Nat) (indices2 : List Int) (out : List Int) (most : Int) (t26 : List (List Int)) (t27 : Int) (t28 : Int) : Option (List Int × Bool) :=
 lP N [.r, .r, .r, .r, .l, .r, .b] [] k_ (un 2 (.con .val [lf ty0 indices2 .ro] :: (un 5 (.con .val [lf ty0 out .dp] :: (.con .val [lf i64 most .ro] :: (un 16 (.con .val [lf ty13 t26 .dp] :: (.con .val [lf i64 t27 .ro] :: (.con .val [lf i64 t28 .ro] :: (un 19 []))))))))))
theorem ql1 (N : Nat) : ∀ k_, El1 N k_ = impl_ClosestRepair_l1 N k_
 | 0 => by funext indices3 outi out2 most2 t262 t272 t282; kernel_rfl
 | k_ + 1 => by funext indices3 outi out2 most2 t262 t272 t282; rw [show El1 N (k_ + 1) indices3 outi out2 most2 t262 t272 t282 = impl_ClosestRepair_l1_b N (El1 N k_) indices3 outi out2 most2 t262 t272 t282 from by kernel_rfl]; simp only [ql1 N k_]; rfl
theorem ql0 (N : Nat) : ∀ k_, El0 N k_ = impl_ClosestRepair_l0 N k_
 | 0 => by funext indices2 out most t26 t27 t28; kernel_rfl
 | k_ + 1 => by funext indices2 out most t26 t27 t28; rw [show El0 N (k_ + 1) indices2 out most t26 t27 t28 = impl_ClosestRepair_l0_b N (El1 N k_) (El0 N k_) indices2 out most t26 t27 t28 from by kernel_rfl]; simp only [ql1, ql0 N k_]; rfl
theorem vV (N : Nat) (db : List (ByteArray × Int × Int) × List (Int × List Int)) (constraints : List (Int × Int × Int × Int × Int × Int × Int)) (indices : List Int) :
  evE (eS N) N aN sG Try.f73 [.val ty9 db, .val ty11 constraints, .val ty0 indices] (un2 ty0 .bool) = impl_ClosestRepair_b N (El0 N N) db constraints indices := by kernel_rfl
noncomputable def eE (N : Nat) : Entry Try.prog := ⟨73, sG, [.v ty9, .v ty11, .v ty0], List Int × Bool, impl_ClosestRepair N, pk2 ty0 .bool, entry_en Try.func73 (code := Try.f73.body.getD .skip) (by kernel_rfl) (by kernel_rfl),
 fun db constraints indices => entry_ok tab_ok (es := eS N) (by kernel_rfl) mixed Try.func73 (by kernel_rfl) ⟨⟨rfl, rfl⟩, rfl, rfl⟩ (un2_pk ty0 .bool) ((vV N db constraints indices).trans (by rw [ql0]; rfl))⟩
end impl_ClosestRepair
namespace laws_eqIntS
def sG : Sig := ⟨[.val ty0, .val ty0], [(.bool, .dp)], false, false, none, none⟩
noncomputable def eS (N : Nat) : List (Entry Try.prog) := []
def aN : Nat → Option (List Nat)
 | 0 => some [0, 1, 5]
 | _ => none
noncomputable def lP (N : Nat) (p : List Dir) (rs : List (Env → Option (Bool))) (k : Nat) (env : Env) : Option (Bool) :=
 lpE (eS N) N aN p Try.f38 (endK Tb sG Try.f38 [] (un1 .bool)) rs k env
noncomputable def El0 (N : Nat) (k_ : Nat) (a2 : List Int) (b2 : List Int) (i : Int) : Option (Bool) :=
 lP N [.r, .r, .l, .r, .b] [] k_ (.con .val [lf ty0 a2 .ro] :: (.con .val [lf ty0 b2 .ro] :: (un 3 (.con .val [lf i64 i .ro] :: (un 20 [])))))
theorem ql0 (N : Nat) : ∀ k_, El0 N k_ = laws_eqIntS_l0 N k_
 | 0 => by funext a2 b2 i; kernel_rfl
 | k_ + 1 => by funext a2 b2 i; rw [show El0 N (k_ + 1) a2 b2 i = laws_eqIntS_l0_b N (El0 N k_) a2 b2 i from by kernel_rfl]; simp only [ql0 N k_]; rfl
theorem vV (N : Nat) (a : List Int) (b : List Int) :
  evE (eS N) N aN sG Try.f38 [.val ty0 a, .val ty0 b] (un1 .bool) = laws_eqIntS_b N (El0 N N) a b := by kernel_rfl
noncomputable def eE (N : Nat) : Entry Try.prog := ⟨38, sG, [.v ty0, .v ty0], Bool, laws_eqIntS N, pk1 .bool, entry_en Try.func38 (code := Try.f38.body.getD .skip) (by kernel_rfl) (by kernel_rfl),
 fun a b => entry_ok tab_ok (es := eS N) (by kernel_rfl) mixed Try.func38 (by kernel_rfl) ⟨⟨rfl, rfl⟩, rfl, rfl⟩ (un1_pk .bool) ((vV N a b).trans (by rw [ql0]; rfl))⟩
end laws_eqIntS
namespace laws_eqRelation
def sG : Sig := ⟨[.val ty1, .val ty1], [(.bool, .dp)], false, false, none, none⟩
noncomputable def eS (N : Nat) : List (Entry Try.prog) := []
def aN : Nat → Option (List Nat) := fun _ => none
theorem vV (N : Nat) (a : ByteArray × Int × Int) (b : ByteArray × Int × Int) :
  evE (eS N) N aN sG Try.f163 [.val ty1 a, .val ty1 b] (un1 .bool) = laws_eqRelation N a b := by kernel_rfl
noncomputable def eE (N : Nat) : Entry Try.prog := ⟨163, sG, [.v ty1, .v ty1], Bool, laws_eqRelation N, pk1 .bool, entry_en Try.func163 (code := Try.f163.body.getD .skip) (by kernel_rfl) (by kernel_rfl),
 fun a b => entry_ok tab_ok (es := eS N) (by kernel_rfl) mixed Try.func163 (by kernel_rfl) ⟨⟨rfl, rfl⟩, rfl, rfl⟩ (un1_pk .bool) (vV N a b)⟩
end laws_eqRelation
namespace laws_eqRelationS
def sG : Sig := ⟨[.val ty7, .val ty7], [(.bool, .dp)], false, false, none, none⟩
noncomputable def eS (N : Nat) : List (Entry Try.prog) := [laws_eqRelation.eE N]
def aN : Nat → Option (List Nat)
 | 0 => some [0, 1, 5]
 | _ => none
noncomputable def lP (N : Nat) (p : List Dir) (rs : List (Env → Option (Bool))) (k : Nat) (env : Env) : Option (Bool) :=
 lpE (eS N) N aN p Try.f110 (endK Tb sG Try.f110 [] (un1 .bool)) rs k env
noncomputable def El0 (N : Nat) (k_ : Nat) (a2 : List (ByteArray × Int × Int)) (b2 : List (ByteArray × Int × Int)) (i : Int) : Option (Bool) :=
 lP N [.r, .r, .l, .r, .b] [] k_ (.con .val [lf ty7 a2 .ro] :: (.con .val [lf ty7 b2 .ro] :: (un 3 (.con .val [lf i64 i .ro] :: (un 21 [])))))
theorem ql0 (N : Nat) : ∀ k_, El0 N k_ = laws_eqRelationS_l0 N k_
 | 0 => by funext a2 b2 i; kernel_rfl
 | k_ + 1 => by funext a2 b2 i; rw [show El0 N (k_ + 1) a2 b2 i = laws_eqRelationS_l0_b N (El0 N k_) a2 b2 i from by kernel_rfl]; simp only [ql0 N k_]; rfl
theorem vV (N : Nat) (a : List (ByteArray × Int × Int)) (b : List (ByteArray × Int × Int)) :
  evE (eS N) N aN sG Try.f110 [.val ty7 a, .val ty7 b] (un1 .bool) = laws_eqRelationS_b N (El0 N N) a b := by kernel_rfl
noncomputable def eE (N : Nat) : Entry Try.prog := ⟨110, sG, [.v ty7, .v ty7], Bool, laws_eqRelationS N, pk1 .bool, entry_en Try.func110 (code := Try.f110.body.getD .skip) (by kernel_rfl) (by kernel_rfl),
 fun a b => entry_ok tab_ok (es := eS N) (by kernel_rfl) mixed Try.func110 (by kernel_rfl) ⟨⟨rfl, rfl⟩, rfl, rfl⟩ (un1_pk .bool) ((vV N a b).trans (by rw [ql0]; rfl))⟩
end laws_eqRelationS
namespace laws_eqFact
def sG : Sig := ⟨[.val ty3, .val ty3], [(.bool, .dp)], false, false, none, none⟩
noncomputable def eS (N : Nat) : List (Entry Try.prog) := [laws_eqIntS.eE N]
def aN : Nat → Option (List Nat) := fun _ => none
theorem vV (N : Nat) (a : Int × List Int) (b : Int × List Int) :
  evE (eS N) N aN sG Try.f164 [.val ty3 a, .val ty3 b] (un1 .bool) = laws_eqFact N a b := by kernel_rfl
noncomputable def eE (N : Nat) : Entry Try.prog := ⟨164, sG, [.v ty3, .v ty3], Bool, laws_eqFact N, pk1 .bool, entry_en Try.func164 (code := Try.f164.body.getD .skip) (by kernel_rfl) (by kernel_rfl),
 fun a b => entry_ok tab_ok (es := eS N) (by kernel_rfl) mixed Try.func164 (by kernel_rfl) ⟨⟨rfl, rfl⟩, rfl, rfl⟩ (un1_pk .bool) (vV N a b)⟩
end laws_eqFact
namespace laws_eqFactS
def sG : Sig := ⟨[.val ty8, .val ty8], [(.bool, .dp)], false, false, none, none⟩
noncomputable def eS (N : Nat) : List (Entry Try.prog) := [laws_eqFact.eE N]
def aN : Nat → Option (List Nat)
 | 0 => some [0, 1, 5]
 | _ => none
noncomputable def lP (N : Nat) (p : List Dir) (rs : List (Env → Option (Bool))) (k : Nat) (env : Env) : Option (Bool) :=
 lpE (eS N) N aN p Try.f111 (endK Tb sG Try.f111 [] (un1 .bool)) rs k env
noncomputable def El0 (N : Nat) (k_ : Nat) (a2 : List (Int × List Int)) (b2 : List (Int × List Int)) (i : Int) : Option (Bool) :=
 lP N [.r, .r, .l, .r, .b] [] k_ (.con .val [lf ty8 a2 .ro] :: (.con .val [lf ty8 b2 .ro] :: (un 3 (.con .val [lf i64 i .ro] :: (un 21 [])))))
theorem ql0 (N : Nat) : ∀ k_, El0 N k_ = laws_eqFactS_l0 N k_
 | 0 => by funext a2 b2 i; kernel_rfl
 | k_ + 1 => by funext a2 b2 i; rw [show El0 N (k_ + 1) a2 b2 i = laws_eqFactS_l0_b N (El0 N k_) a2 b2 i from by kernel_rfl]; simp only [ql0 N k_]; rfl
theorem vV (N : Nat) (a : List (Int × List Int)) (b : List (Int × List Int)) :
  evE (eS N) N aN sG Try.f111 [.val ty8 a, .val ty8 b] (un1 .bool) = laws_eqFactS_b N (El0 N N) a b := by kernel_rfl
noncomputable def eE (N : Nat) : Entry Try.prog := ⟨111, sG, [.v ty8, .v ty8], Bool, laws_eqFactS N, pk1 .bool, entry_en Try.func111 (code := Try.f111.body.getD .skip) (by kernel_rfl) (by kernel_rfl),
 fun a b => entry_ok tab_ok (es := eS N) (by kernel_rfl) mixed Try.func111 (by kernel_rfl) ⟨⟨rfl, rfl⟩, rfl, rfl⟩ (un1_pk .bool) ((vV N a b).trans (by rw [ql0]; rfl))⟩
end laws_eqFactS
namespace laws_eqDatabase
def sG : Sig := ⟨[.val ty9, .val ty9], [(.bool, .dp)], false, false, none, none⟩
noncomputable def eS (N : Nat) : List (Entry Try.prog) := [laws_eqRelationS.eE N, laws_eqFactS.eE N]
def aN : Nat → Option (List Nat) := fun _ => none
theorem vV (N : Nat) (a : List (ByteArray × Int × Int) × List (Int × List Int)) (b : List (ByteArray × Int × Int) × List (Int × List Int)) :
  evE (eS N) N aN sG Try.f39 [.val ty9 a, .val ty9 b] (un1 .bool) = laws_eqDatabase N a b := by kernel_rfl
noncomputable def eE (N : Nat) : Entry Try.prog := ⟨39, sG, [.v ty9, .v ty9], Bool, laws_eqDatabase N, pk1 .bool, entry_en Try.func39 (code := Try.f39.body.getD .skip) (by kernel_rfl) (by kernel_rfl),
 fun a b => entry_ok tab_ok (es := eS N) (by kernel_rfl) mixed Try.func39 (by kernel_rfl) ⟨⟨rfl, rfl⟩, rfl, rfl⟩ (un1_pk .bool) (vV N a b)⟩
end laws_eqDatabase
namespace laws_eqDenialConstraint
def sG : Sig := ⟨[.val ty10, .val ty10], [(.bool, .dp)], false, false, none, none⟩
noncomputable def eS (N : Nat) : List (Entry Try.prog) := []
def aN : Nat → Option (List Nat) := fun _ => none
theorem vV (N : Nat) (a : Int × Int × Int × Int × Int × Int × Int) (b : Int × Int × Int × Int × Int × Int × Int) :
  evE (eS N) N aN sG Try.f129 [.val ty10 a, .val ty10 b] (un1 .bool) = laws_eqDenialConstraint N a b := by kernel_rfl
noncomputable def eE (N : Nat) : Entry Try.prog := ⟨129, sG, [.v ty10, .v ty10], Bool, laws_eqDenialConstraint N, pk1 .bool, entry_en Try.func129 (code := Try.f129.body.getD .skip) (by kernel_rfl) (by kernel_rfl),
 fun a b => entry_ok tab_ok (es := eS N) (by kernel_rfl) mixed Try.func129 (by kernel_rfl) ⟨⟨rfl, rfl⟩, rfl, rfl⟩ (un1_pk .bool) (vV N a b)⟩
end laws_eqDenialConstraint
namespace laws_eqDenialConstraintS
def sG : Sig := ⟨[.val ty11, .val ty11], [(.bool, .dp)], false, false, none, none⟩
noncomputable def eS (N : Nat) : List (Entry Try.prog) := [laws_eqDenialConstraint.eE N]
def aN : Nat → Option (List Nat)
 | 0 => some [0, 1, 5]
 | _ => none
noncomputable def lP (N : Nat) (p : List Dir) (rs : List (Env → Option (Bool))) (k : Nat) (env : Env) : Option (Bool) :=
 lpE (eS N) N aN p Try.f58 (endK Tb sG Try.f58 [] (un1 .bool)) rs k env
noncomputable def El0 (N : Nat) (k_ : Nat) (a2 : List (Int × Int × Int × Int × Int × Int × Int)) (b2 : List (Int × Int × Int × Int × Int × Int × Int)) (i : Int) : Option (Bool) :=
 lP N [.r, .r, .l, .r, .b] [] k_ (.con .val [lf ty11 a2 .ro] :: (.con .val [lf ty11 b2 .ro] :: (un 3 (.con .val [lf i64 i .ro] :: (un 21 [])))))
theorem ql0 (N : Nat) : ∀ k_, El0 N k_ = laws_eqDenialConstraintS_l0 N k_
 | 0 => by funext a2 b2 i; kernel_rfl
 | k_ + 1 => by funext a2 b2 i; rw [show El0 N (k_ + 1) a2 b2 i = laws_eqDenialConstraintS_l0_b N (El0 N k_) a2 b2 i from by kernel_rfl]; simp only [ql0 N k_]; rfl
theorem vV (N : Nat) (a : List (Int × Int × Int × Int × Int × Int × Int)) (b : List (Int × Int × Int × Int × Int × Int × Int)) :
  evE (eS N) N aN sG Try.f58 [.val ty11 a, .val ty11 b] (un1 .bool) = laws_eqDenialConstraintS_b N (El0 N N) a b := by kernel_rfl
noncomputable def eE (N : Nat) : Entry Try.prog := ⟨58, sG, [.v ty11, .v ty11], Bool, laws_eqDenialConstraintS N, pk1 .bool, entry_en Try.func58 (code := Try.f58.body.getD .skip) (by kernel_rfl) (by kernel_rfl),
 fun a b => entry_ok tab_ok (es := eS N) (by kernel_rfl) mixed Try.func58 (by kernel_rfl) ⟨⟨rfl, rfl⟩, rfl, rfl⟩ (un1_pk .bool) ((vV N a b).trans (by rw [ql0]; rfl))⟩
end laws_eqDenialConstraintS
namespace laws_markText
def sG : Sig := ⟨[.val i64], [(.str, .dp)], false, false, none, none⟩
noncomputable def eS (N : Nat) : List (Entry Try.prog) := []
def aN : Nat → Option (List Nat)
 | 0 => some [0, 3]
 | _ => none
noncomputable def lP (N : Nat) (p : List Dir) (rs : List (Env → Option (ByteArray))) (k : Nat) (env : Env) : Option (ByteArray) :=
 lpE (eS N) N aN p Try.f165 (endK Tb sG Try.f165 [] (un1 .str)) rs k env
noncomputable def El0 (N : Nat) (k_ : Nat) (k2 : Int) (out : ByteArray) : Option (ByteArray) :=
 lP N [.r, .r, .r, .l, .b] [] k_ (.con .val [lf i64 k2 .ro] :: (un 2 (.con .val [lf .str out .ro] :: (un 16 []))))
theorem ql0 (N : Nat) : ∀ k_, El0 N k_ = laws_markText_l0 N k_
 | 0 => by funext k2 out; kernel_rfl
 | k_ + 1 => by funext k2 out; rw [show El0 N (k_ + 1) k2 out = laws_markText_l0_b N (El0 N k_) k2 out from by kernel_rfl]; simp only [ql0 N k_]; rfl
theorem vV (N : Nat) (k : Int) :
  evE (eS N) N aN sG Try.f165 [.val i64 k] (un1 .str) = laws_markText_b N (El0 N N) k := by kernel_rfl
noncomputable def eE (N : Nat) : Entry Try.prog := ⟨165, sG, [.v i64], ByteArray, laws_markText N, pk1 .str, entry_en Try.func165 (code := Try.f165.body.getD .skip) (by kernel_rfl) (by kernel_rfl),
 fun k => entry_ok tab_ok (es := eS N) (by kernel_rfl) mixed Try.func165 (by kernel_rfl) ⟨⟨rfl, rfl⟩, rfl, rfl⟩ (un1_pk .str) ((vV N k).trans (by rw [ql0]; rfl))⟩
end laws_markText
namespace laws_markRelationS
def sG : Sig := ⟨[.val ty7, .val i64], [(i64, .dp)], true, false, none, none⟩
noncomputable def eS (N : Nat) : List (Entry Try.prog) := [laws_markText.eE N]
def aN : Nat → Option (List Nat)
 | 0 => some [0, 1, 5]
 | _ => none
noncomputable def lP (N : Nat) (p : List Dir) (rs : List (Env → Option ((List (ByteArray × Int × Int)) × Int))) (k : Nat) (env : Env) : Option ((List (ByteArray × Int × Int)) × Int) :=
 lpE (eS N) N aN p Try.f112 (endK Tb sG Try.f112 [.val ty7 []] (un2 ty7 i64)) rs k env
noncomputable def El0 (N : Nat) (k_ : Nat) (a2 : List (ByteArray × Int × Int)) (k2 : Int) (i : Int) : Option ((List (ByteArray × Int × Int)) × Int) :=
 lP N [.r, .l, .r, .b] [] k_ (.con .val [⟨ty7, a2, (.at_ (.pn 0))⟩] :: (.con .val [lf i64 k2 .ro] :: (un 3 (.con .val [lf i64 i .ro] :: (un 29 [])))))
theorem ql0 (N : Nat) : ∀ k_, El0 N k_ = laws_markRelationS_l0 N k_
 | 0 => by funext a2 k2 i; kernel_rfl
 | k_ + 1 => by funext a2 k2 i; rw [show El0 N (k_ + 1) a2 k2 i = laws_markRelationS_l0_b N (El0 N k_) a2 k2 i from by kernel_rfl]; simp only [ql0 N k_]; rfl
theorem vV (N : Nat) (a : List (ByteArray × Int × Int)) (k : Int) :
  evE (eS N) N aN sG Try.f112 [.val ty7 a, .val i64 k] (un2 ty7 i64) = laws_markRelationS_b N (El0 N N) a k := by kernel_rfl
noncomputable def eE (N : Nat) : Entry Try.prog := ⟨112, sG, [.v ty7, .v i64], (List (ByteArray × Int × Int)) × Int, laws_markRelationS N, pk2 ty7 i64, entry_en Try.func112 (code := Try.f112.body.getD .skip) (by kernel_rfl) (by kernel_rfl),
 fun a k => entry_okM tab_ok (es := eS N) (by kernel_rfl) mixed Try.func112 (by kernel_rfl) ⟨⟨rfl, rfl⟩, rfl, rfl⟩ (fun _ => ⟨_, _, rfl⟩) (un2_pk ty7 i64) ((vV N a k).trans (by rw [ql0]; rfl))⟩
end laws_markRelationS
namespace laws_markIntS
def sG : Sig := ⟨[.val ty0, .val i64], [(i64, .dp)], true, false, none, none⟩
noncomputable def eS (N : Nat) : List (Entry Try.prog) := []
def aN : Nat → Option (List Nat)
 | 0 => some [0, 1, 5]
 | _ => none
noncomputable def lP (N : Nat) (p : List Dir) (rs : List (Env → Option (List Int × Int))) (k : Nat) (env : Env) : Option (List Int × Int) :=
 lpE (eS N) N aN p Try.f41 (endK Tb sG Try.f41 [.val ty0 []] (un2 ty0 i64)) rs k env
noncomputable def El0 (N : Nat) (k_ : Nat) (a2 : List Int) (k2 : Int) (i : Int) : Option (List Int × Int) :=
 lP N [.r, .l, .r, .b] [] k_ (.con .val [⟨ty0, a2, (.at_ (.pn 0))⟩] :: (.con .val [lf i64 k2 .ro] :: (un 3 (.con .val [lf i64 i .ro] :: (un 13 [])))))
theorem ql0 (N : Nat) : ∀ k_, El0 N k_ = laws_markIntS_l0 N k_
 | 0 => by funext a2 k2 i; kernel_rfl
 | k_ + 1 => by funext a2 k2 i; rw [show El0 N (k_ + 1) a2 k2 i = laws_markIntS_l0_b N (El0 N k_) a2 k2 i from by kernel_rfl]; simp only [ql0 N k_]; rfl
theorem vV (N : Nat) (a : List Int) (k : Int) :
  evE (eS N) N aN sG Try.f41 [.val ty0 a, .val i64 k] (un2 ty0 i64) = laws_markIntS_b N (El0 N N) a k := by kernel_rfl
noncomputable def eE (N : Nat) : Entry Try.prog := ⟨41, sG, [.v ty0, .v i64], List Int × Int, laws_markIntS N, pk2 ty0 i64, entry_en Try.func41 (code := Try.f41.body.getD .skip) (by kernel_rfl) (by kernel_rfl),
 fun a k => entry_okM tab_ok (es := eS N) (by kernel_rfl) mixed Try.func41 (by kernel_rfl) ⟨⟨rfl, rfl⟩, rfl, rfl⟩ (fun _ => ⟨_, _, rfl⟩) (un2_pk ty0 i64) ((vV N a k).trans (by rw [ql0]; rfl))⟩
end laws_markIntS
namespace laws_markFactS
def sG : Sig := ⟨[.val ty8, .val i64], [(i64, .dp)], true, false, none, none⟩
noncomputable def eS (N : Nat) : List (Entry Try.prog) := [laws_markIntS.eE N]
def aN : Nat → Option (List Nat)
 | 0 => some [0, 1, 5]
 | _ => none
noncomputable def lP (N : Nat) (p : List Dir) (rs : List (Env → Option ((List (Int × List Int)) × Int))) (k : Nat) (env : Env) : Option ((List (Int × List Int)) × Int) :=
 lpE (eS N) N aN p Try.f113 (endK Tb sG Try.f113 [.val ty8 []] (un2 ty8 i64)) rs k env
noncomputable def El0 (N : Nat) (k_ : Nat) (a2 : List (Int × List Int)) (k2 : Int) (i : Int) : Option ((List (Int × List Int)) × Int) :=
 lP N [.r, .l, .r, .b] [] k_ (.con .val [⟨ty8, a2, (.at_ (.pn 0))⟩] :: (.con .val [lf i64 k2 .ro] :: (un 3 (.con .val [lf i64 i .ro] :: (un 21 [])))))
theorem ql0 (N : Nat) : ∀ k_, El0 N k_ = laws_markFactS_l0 N k_
 | 0 => by funext a2 k2 i; kernel_rfl
 | k_ + 1 => by funext a2 k2 i; rw [show El0 N (k_ + 1) a2 k2 i = laws_markFactS_l0_b N (El0 N k_) a2 k2 i from by kernel_rfl]; simp only [ql0 N k_]; rfl
theorem vV (N : Nat) (a : List (Int × List Int)) (k : Int) :
  evE (eS N) N aN sG Try.f113 [.val ty8 a, .val i64 k] (un2 ty8 i64) = laws_markFactS_b N (El0 N N) a k := by kernel_rfl
noncomputable def eE (N : Nat) : Entry Try.prog := ⟨113, sG, [.v ty8, .v i64], (List (Int × List Int)) × Int, laws_markFactS N, pk2 ty8 i64, entry_en Try.func113 (code := Try.f113.body.getD .skip) (by kernel_rfl) (by kernel_rfl),
 fun a k => entry_okM tab_ok (es := eS N) (by kernel_rfl) mixed Try.func113 (by kernel_rfl) ⟨⟨rfl, rfl⟩, rfl, rfl⟩ (fun _ => ⟨_, _, rfl⟩) (un2_pk ty8 i64) ((vV N a k).trans (by rw [ql0]; rfl))⟩
end laws_markFactS
namespace laws_markDatabase
def sG : Sig := ⟨[.val ty9, .val i64], [(i64, .dp)], true, false, none, none⟩
noncomputable def eS (N : Nat) : List (Entry Try.prog) := [laws_markRelationS.eE N, laws_markFactS.eE N]
def aN : Nat → Option (List Nat) := fun _ => none
theorem vV (N : Nat) (a : List (ByteArray × Int × Int) × List (Int × List Int)) (k : Int) :
  evE (eS N) N aN sG Try.f40 [.val ty9 a, .val i64 k] (un2 ty9 i64) = laws_markDatabase N a k := by kernel_rfl
noncomputable def eE (N : Nat) : Entry Try.prog := ⟨40, sG, [.v ty9, .v i64], (List (ByteArray × Int × Int) × List (Int × List Int)) × Int, laws_markDatabase N, pk2 ty9 i64, entry_en Try.func40 (code := Try.f40.body.getD .skip) (by kernel_rfl) (by kernel_rfl),
 fun a k => entry_okM tab_ok (es := eS N) (by kernel_rfl) mixed Try.func40 (by kernel_rfl) ⟨⟨rfl, rfl⟩, rfl, rfl⟩ (fun _ => ⟨_, _, rfl⟩) (un2_pk ty9 i64) (vV N a k)⟩
end laws_markDatabase
namespace laws_markDenialConstraintS
def sG : Sig := ⟨[.val ty11, .val i64], [(i64, .dp)], true, false, none, none⟩
noncomputable def eS (N : Nat) : List (Entry Try.prog) := []
def aN : Nat → Option (List Nat)
 | 0 => some [0, 1, 5]
 | _ => none
noncomputable def lP (N : Nat) (p : List Dir) (rs : List (Env → Option ((List (Int × Int × Int × Int × Int × Int × Int)) × Int))) (k : Nat) (env : Env) : Option ((List (Int × Int × Int × Int × Int × Int × Int)) × Int) :=
 lpE (eS N) N aN p Try.f59 (endK Tb sG Try.f59 [.val ty11 []] (un2 ty11 i64)) rs k env
noncomputable def El0 (N : Nat) (k_ : Nat) (a2 : List (Int × Int × Int × Int × Int × Int × Int)) (k2 : Int) (i : Int) : Option ((List (Int × Int × Int × Int × Int × Int × Int)) × Int) :=
 lP N [.r, .l, .r, .b] [] k_ (.con .val [⟨ty11, a2, (.at_ (.pn 0))⟩] :: (.con .val [lf i64 k2 .ro] :: (un 3 (.con .val [lf i64 i .ro] :: (un 56 [])))))
theorem ql0 (N : Nat) : ∀ k_, El0 N k_ = laws_markDenialConstraintS_l0 N k_
 | 0 => by funext a2 k2 i; kernel_rfl
 | k_ + 1 => by funext a2 k2 i; rw [show El0 N (k_ + 1) a2 k2 i = laws_markDenialConstraintS_l0_b N (El0 N k_) a2 k2 i from by kernel_rfl]; simp only [ql0 N k_]; rfl
theorem vV (N : Nat) (a : List (Int × Int × Int × Int × Int × Int × Int)) (k : Int) :
  evE (eS N) N aN sG Try.f59 [.val ty11 a, .val i64 k] (un2 ty11 i64) = laws_markDenialConstraintS_b N (El0 N N) a k := by kernel_rfl
noncomputable def eE (N : Nat) : Entry Try.prog := ⟨59, sG, [.v ty11, .v i64], (List (Int × Int × Int × Int × Int × Int × Int)) × Int, laws_markDenialConstraintS N, pk2 ty11 i64, entry_en Try.func59 (code := Try.f59.body.getD .skip) (by kernel_rfl) (by kernel_rfl),
 fun a k => entry_okM tab_ok (es := eS N) (by kernel_rfl) mixed Try.func59 (by kernel_rfl) ⟨⟨rfl, rfl⟩, rfl, rfl⟩ (fun _ => ⟨_, _, rfl⟩) (un2_pk ty11 i64) ((vV N a k).trans (by rw [ql0]; rfl))⟩
end laws_markDenialConstraintS
namespace laws_heldIntS
def sG : Sig := ⟨[.val ty0, .val i64], [(i64, .dp)], false, false, none, none⟩
noncomputable def eS (N : Nat) : List (Entry Try.prog) := []
def aN : Nat → Option (List Nat)
 | 0 => some [0, 1, 5]
 | _ => none
noncomputable def lP (N : Nat) (p : List Dir) (rs : List (Env → Option (Int))) (k : Nat) (env : Env) : Option (Int) :=
 lpE (eS N) N aN p Try.f42 (endK Tb sG Try.f42 [] (un1 i64)) rs k env
noncomputable def El0 (N : Nat) (k_ : Nat) (a2 : List Int) (k2 : Int) (i : Int) : Option (Int) :=
 lP N [.r, .l, .r, .b] [] k_ (.con .val [lf ty0 a2 .ro] :: (.con .val [lf i64 k2 .ro] :: (un 3 (.con .val [lf i64 i .ro] :: (un 15 [])))))
theorem ql0 (N : Nat) : ∀ k_, El0 N k_ = laws_heldIntS_l0 N k_
 | 0 => by funext a2 k2 i; kernel_rfl
 | k_ + 1 => by funext a2 k2 i; rw [show El0 N (k_ + 1) a2 k2 i = laws_heldIntS_l0_b N (El0 N k_) a2 k2 i from by kernel_rfl]; simp only [ql0 N k_]; rfl
theorem vV (N : Nat) (a : List Int) (k : Int) :
  evE (eS N) N aN sG Try.f42 [.val ty0 a, .val i64 k] (un1 i64) = laws_heldIntS_b N (El0 N N) a k := by kernel_rfl
noncomputable def eE (N : Nat) : Entry Try.prog := ⟨42, sG, [.v ty0, .v i64], Int, laws_heldIntS N, pk1 i64, entry_en Try.func42 (code := Try.f42.body.getD .skip) (by kernel_rfl) (by kernel_rfl),
 fun a k => entry_ok tab_ok (es := eS N) (by kernel_rfl) mixed Try.func42 (by kernel_rfl) ⟨⟨rfl, rfl⟩, rfl, rfl⟩ (un1_pk i64) ((vV N a k).trans (by rw [ql0]; rfl))⟩
end laws_heldIntS
namespace laws_FnExactClosestRepair
def sG : Sig := ⟨[.val ty5, .val ty6, .val ty0], [(.bool, .dp)], false, false, none, none⟩
noncomputable def eS (N : Nat) : List (Entry Try.prog) := [laws_szDatabase.eE N, laws_szDenialConstraintS.eE N, laws_toDatabase.eE N, laws_toDenialConstraintS.eE N, laws_toIntS.eE N, spec_ClosestRepair.eE N, impl_ClosestRepair.eE N, laws_eqIntS.eE N, laws_eqDatabase.eE N, laws_eqDenialConstraintS.eE N, laws_markDatabase.eE N, laws_markDenialConstraintS.eE N, laws_markIntS.eE N, laws_heldIntS.eE N]
def aN : Nat → Option (List Nat) := fun _ => none
theorem vV (N : Nat) (aDb : List (ByteArray × Int × Int) × List (Int × List Int)) (aConstraints : List (Int × Int × Int × Int × Int × Int × Int)) (aIndices : List Int) :
  evE (eS N) N aN sG Try.f11 [.val ty5 aDb, .val ty6 aConstraints, .val ty0 aIndices] (un1 .bool) = laws_FnExactClosestRepair N aDb aConstraints aIndices := by kernel_rfl
noncomputable def eE (N : Nat) : Entry Try.prog := ⟨11, sG, [.v ty5, .v ty6, .v ty0], Bool, laws_FnExactClosestRepair N, pk1 .bool, entry_en Try.func11 (code := Try.f11.body.getD .skip) (by kernel_rfl) (by kernel_rfl),
 fun aDb aConstraints aIndices => entry_ok tab_ok (es := eS N) (by kernel_rfl) mixed Try.func11 (by kernel_rfl) ⟨⟨rfl, rfl⟩, rfl, rfl⟩ (un1_pk .bool) (vV N aDb aConstraints aIndices)⟩
end laws_FnExactClosestRepair
end Go.PL
