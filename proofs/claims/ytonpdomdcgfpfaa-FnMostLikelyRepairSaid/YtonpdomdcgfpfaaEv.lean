/- What the machine does at each function is what the plain reading says. Conditions: none. -/
import Derived.Test.YtonpdomdcgfpfaaFpE
import Derived.Test.YtonpdomdcgfpfaaPlain
import Derived.Test.YtonpdomdcgfpfaaProg

/- What the machine does is what the plain reading says. Conditions: none. -/
namespace Go.PL
open Go.FP Go.Proofs
set_option linter.unusedVariables false
set_option maxRecDepth 10000

abbrev i64 : Ty := .int .i64
abbrev ty0 : Ty := (.slice 5 (.int .u8))
abbrev ty1 : Ty := (.pair (.slice 5 (.int .u8)) (.pair i64 i64))
abbrev ty2 : Ty := (.slice 3 i64)
abbrev ty3 : Ty := (.slice 124 (.pair .str (.pair i64 i64)))
abbrev ty4 : Ty := (.pair i64 (.slice 3 i64))
abbrev ty5 : Ty := (.pair (.slice 124 (.pair .str (.pair i64 i64))) (.slice 90 (.pair i64 (.slice 3 i64))))
abbrev ty6 : Ty := (.slice 90 (.pair i64 (.slice 3 i64)))
abbrev ty7 : Ty := (.pair .str (.pair i64 i64))
abbrev ty8 : Ty := (.slice 9 .str)
abbrev ty9 : Ty := (.slice 38 (.slice 3 i64))
abbrev ty10 : Ty := (.slice 4 .bool)
def Tb : Tab := [⟨3, i64, 8, [], false⟩,
 ⟨4, .bool, 1, [], false⟩,
 ⟨5, (.int .u8), 1, [], false⟩,
 ⟨9, .str, 16, [], false⟩,
 ⟨22, ty0, 24, [], false⟩,
 ⟨24, ty3, 24, [], false⟩,
 ⟨25, ty6, 24, [], false⟩,
 ⟨27, ty5, 48, [(0, 24), (1, 25)], false⟩,
 ⟨33, ty9, 24, [], false⟩,
 ⟨38, ty2, 24, [], false⟩,
 ⟨90, ty4, 32, [(0, 3), (1, 38)], false⟩,
 ⟨124, ty7, 32, [(0, 9), (1, 3), (2, 3)], false⟩,
 ⟨133, ty1, 40, [(0, 22), (1, 3), (2, 3)], false⟩,
 ⟨138, ty10, 24, [], false⟩,
 ⟨175, ty8, 24, [], false⟩]
theorem tab_ok : TabOk Try.prog Tb :=
 (tab_cons (TEOk.plain (i := Try.t3) (by kernel_rfl) rfl rfl (by kernel_rfl) rfl rfl Try.underlying3)
 (tab_cons (TEOk.plain (i := Try.t4) (by kernel_rfl) rfl rfl (by kernel_rfl) rfl rfl Try.underlying4)
 (tab_cons (TEOk.plain (i := Try.t5) (by kernel_rfl) rfl rfl (by kernel_rfl) rfl rfl Try.underlying5)
 (tab_cons (TEOk.plain (i := Try.t9) (by kernel_rfl) rfl rfl (by kernel_rfl) rfl rfl Try.underlying9)
 (tab_cons (TEOk.plain (i := Try.t22) (by kernel_rfl) rfl rfl (by kernel_rfl) rfl rfl Try.underlying22)
 (tab_cons (TEOk.plain (i := Try.t24) (by kernel_rfl) rfl rfl (by kernel_rfl) rfl rfl Try.underlying24)
 (tab_cons (TEOk.plain (i := Try.t25) (by kernel_rfl) rfl rfl (by kernel_rfl) rfl rfl Try.underlying25)
 (tab_cons (TEOk.struct (i := Try.t27) (pl := [(0, 1), (1, 1)]) (by kernel_rfl) rfl rfl (by kernel_rfl) Try.underlying27 (by kernel_rfl) (by kernel_rfl) rfl rfl)
 (tab_cons (TEOk.plain (i := Try.t33) (by kernel_rfl) rfl rfl (by kernel_rfl) rfl rfl Try.underlying33)
 (tab_cons (TEOk.plain (i := Try.t38) (by kernel_rfl) rfl rfl (by kernel_rfl) rfl rfl Try.underlying38)
 (tab_cons (TEOk.struct (i := Try.t90) (pl := [(0, 1), (1, 1)]) (by kernel_rfl) rfl rfl (by kernel_rfl) Try.underlying90 (by kernel_rfl) (by kernel_rfl) rfl rfl)
 (tab_cons (TEOk.struct (i := Try.t124) (pl := [(0, 1), (1, 1), (2, 1)]) (by kernel_rfl) rfl rfl (by kernel_rfl) Try.underlying124 (by kernel_rfl) (by kernel_rfl) rfl rfl)
 (tab_cons (TEOk.struct (i := Try.t133) (pl := [(0, 1), (1, 1), (2, 1)]) (by kernel_rfl) rfl rfl (by kernel_rfl) Try.underlying133 (by kernel_rfl) (by kernel_rfl) rfl rfl)
 (tab_cons (TEOk.plain (i := Try.t138) (by kernel_rfl) rfl rfl (by kernel_rfl) rfl rfl Try.underlying138)
 (tab_cons (TEOk.plain (i := Try.t175) (by kernel_rfl) rfl rfl (by kernel_rfl) rfl rfl Try.underlying175)
 tab_nil)))))))))))))))
theorem mixed : Try.prog.follows .mixedOrders = true := by decide
def cps : FuncId → List Ty := capsL [(120, []), (217, [])]

def laws_big_sg : Sig := ⟨[.val ty0], [(.bool, .dp)], false, false, none, none⟩
noncomputable def laws_big_es (N : Nat) : List (Entry Try.prog) := []
def laws_big_an : Nat → Option (List Nat) := fun _ => none
theorem laws_big_v (N : Nat) (code : List Int) :
  evFn Tb (sigL (laws_big_es N)) cps (orcL (laws_big_es N)) (drawReg Tb (sigL (laws_big_es N)) cps (orcL (laws_big_es N))) N laws_big_an laws_big_sg Try.f13 (Try.f13.body.getD .skip) [.val ty0 code] (un1 .bool) = laws_big N code := by kernel_rfl
noncomputable def laws_big_e (N : Nat) : Entry Try.prog := ⟨13, laws_big_sg, [.v ty0], Bool, laws_big N, pk1 .bool, entry_en Try.func13 (code := Try.f13.body.getD .skip) (by kernel_rfl) (by kernel_rfl),
 fun code => entry_ok tab_ok (es := laws_big_es N) (by kernel_rfl) mixed Try.func13 (by kernel_rfl) ⟨⟨rfl, rfl⟩, rfl, rfl⟩ (un1_pk .bool) (laws_big_v N code)⟩
def spec_l1New_sg : Sig := ⟨[.val ty0], [(ty1, .ro)], false, false, none, some 133⟩
noncomputable def spec_l1New_es (N : Nat) : List (Entry Try.prog) := []
def spec_l1New_an : Nat → Option (List Nat)
 | 0 => some [0, 3, 4]
 | _ => none
noncomputable def spec_l1New_lp (N : Nat) (p : List Dir) (rs : List (Env → Option (List Int × Int × Int))) (k : Nat) (env : Env) : Option (List Int × Int × Int) :=
 loopAt Tb (sigL (spec_l1New_es N)) cps (orcL (spec_l1New_es N)) N spec_l1New_an p (Try.f77.body.getD .skip) (endN 133 ty1 Try.f77 (un1 ty1)) rs k env
noncomputable def spec_l1New_l0_E (N : Nat) (k_ : Nat) (code2 : List Int) (h : Int) (i : Int) : Option (List Int × Int × Int) :=
 spec_l1New_lp N [.r, .r, .l, .r, .b] [] k_ (.con .val [lf ty0 code2 .ro] :: (un 2 (.con .val [lf i64 h .ro] :: (.con .val [lf i64 i .ro] :: (un 27 [])))))
theorem spec_l1New_l0_z (N : Nat) (code2 : List Int) (h : Int) (i : Int) : spec_l1New_l0_E N 0 code2 h i = none := by kernel_rfl
theorem spec_l1New_l0_s (N : Nat) (k_ : Nat) (code2 : List Int) (h : Int) (i : Int) : spec_l1New_l0_E N (k_ + 1) code2 h i = spec_l1New_l0_b N (spec_l1New_l0_E N k_) code2 h i := by kernel_rfl
theorem spec_l1New_l0_q (N : Nat) : ∀ k_, spec_l1New_l0_E N k_ = spec_l1New_l0 N k_
 | 0 => by funext code2 h i; exact spec_l1New_l0_z N code2 h i
 | k_ + 1 => by funext code2 h i; rw [spec_l1New_l0_s]; simp only [spec_l1New_l0_q N k_]; rfl
theorem spec_l1New_v (N : Nat) (code : List Int) :
  evFnN Tb (sigL (spec_l1New_es N)) cps (orcL (spec_l1New_es N)) (drawReg Tb (sigL (spec_l1New_es N)) cps (orcL (spec_l1New_es N))) N spec_l1New_an 133 ty1 Try.f77 (Try.f77.body.getD .skip) [.val ty0 code] (un1 ty1) = spec_l1New_b N (spec_l1New_l0_E N N) code := by kernel_rfl
noncomputable def spec_l1New_e (N : Nat) : Entry Try.prog := ⟨77, spec_l1New_sg, [.v ty0], List Int × Int × Int, spec_l1New N, pk1 ty1, entry_en Try.func77 (code := Try.f77.body.getD .skip) (by kernel_rfl) (by kernel_rfl),
 fun code => entry_okN tab_ok (es := spec_l1New_es N) (by kernel_rfl) mixed Try.func77 (by kernel_rfl) rfl rfl ((spec_l1New_v N code).trans (by rw [spec_l1New_l0_q]; rfl))⟩
def spec_l1Byte_bx : BoxSig := ⟨0, 133, [.fx, .ro, .ro]⟩
def spec_l1Byte_sg : Sig := ⟨[.ptr ty1], [(i64, .dp)], false, false, some spec_l1Byte_bx, none⟩
noncomputable def spec_l1Byte_es (N : Nat) : List (Entry Try.prog) := []
def spec_l1Byte_an : Nat → Option (List Nat) := fun _ => none
theorem spec_l1Byte_v (N : Nat) (c : List Int × Int × Int) :
  evFnB Tb (sigL (spec_l1Byte_es N)) cps (orcL (spec_l1Byte_es N)) (drawReg Tb (sigL (spec_l1Byte_es N)) cps (orcL (spec_l1Byte_es N))) N spec_l1Byte_an spec_l1Byte_sg spec_l1Byte_bx Try.f187 (Try.f187.body.getD .skip) [.ptr ty1 c] (un2 ty1 i64) = spec_l1Byte N c := by kernel_rfl
noncomputable def spec_l1Byte_e (N : Nat) : Entry Try.prog := ⟨187, spec_l1Byte_sg, [.p ty1], (List Int × Int × Int) × Int, spec_l1Byte N, pk2 ty1 i64, entry_en Try.func187 (code := Try.f187.body.getD .skip) (by kernel_rfl) (by kernel_rfl),
 fun c => entry_okB tab_ok (es := spec_l1Byte_es N) (by kernel_rfl) mixed Try.func187 (by kernel_rfl) rfl rfl (fun _ => ⟨_, _, rfl⟩) (un2_pk ty1 i64) (spec_l1Byte_v N c)⟩
def spec_l1Below_bx : BoxSig := ⟨0, 133, [.fx, .ro, .ro]⟩
def spec_l1Below_sg : Sig := ⟨[.ptr ty1, .val i64], [(i64, .dp)], false, false, some spec_l1Below_bx, none⟩
noncomputable def spec_l1Below_es (N : Nat) : List (Entry Try.prog) := [spec_l1Byte_e N]
def spec_l1Below_an : Nat → Option (List Nat) := fun _ => none
theorem spec_l1Below_v (N : Nat) (c : List Int × Int × Int) (n : Int) :
  evFnB Tb (sigL (spec_l1Below_es N)) cps (orcL (spec_l1Below_es N)) (drawReg Tb (sigL (spec_l1Below_es N)) cps (orcL (spec_l1Below_es N))) N spec_l1Below_an spec_l1Below_sg spec_l1Below_bx Try.f140 (Try.f140.body.getD .skip) [.ptr ty1 c, .val i64 n] (un2 ty1 i64) = spec_l1Below N c n := by kernel_rfl
noncomputable def spec_l1Below_e (N : Nat) : Entry Try.prog := ⟨140, spec_l1Below_sg, [.p ty1, .v i64], (List Int × Int × Int) × Int, spec_l1Below N, pk2 ty1 i64, entry_en Try.func140 (code := Try.f140.body.getD .skip) (by kernel_rfl) (by kernel_rfl),
 fun c n => entry_okB tab_ok (es := spec_l1Below_es N) (by kernel_rfl) mixed Try.func140 (by kernel_rfl) rfl rfl (fun _ => ⟨_, _, rfl⟩) (un2_pk ty1 i64) (spec_l1Below_v N c n)⟩
def spec_l1PickInt_bx : BoxSig := ⟨0, 133, [.fx, .ro, .ro]⟩
def spec_l1PickInt_sg : Sig := ⟨[.ptr ty1, .val ty2], [(i64, .dp)], false, false, some spec_l1PickInt_bx, none⟩
noncomputable def spec_l1PickInt_es (N : Nat) : List (Entry Try.prog) := [spec_l1Below_e N]
def spec_l1PickInt_an : Nat → Option (List Nat) := fun _ => none
theorem spec_l1PickInt_v (N : Nat) (c : List Int × Int × Int) (list : List Int) :
  evFnB Tb (sigL (spec_l1PickInt_es N)) cps (orcL (spec_l1PickInt_es N)) (drawReg Tb (sigL (spec_l1PickInt_es N)) cps (orcL (spec_l1PickInt_es N))) N spec_l1PickInt_an spec_l1PickInt_sg spec_l1PickInt_bx Try.f166 (Try.f166.body.getD .skip) [.ptr ty1 c, .val ty2 list] (un2 ty1 i64) = spec_l1PickInt N c list := by kernel_rfl
noncomputable def spec_l1PickInt_e (N : Nat) : Entry Try.prog := ⟨166, spec_l1PickInt_sg, [.p ty1, .v ty2], (List Int × Int × Int) × Int, spec_l1PickInt N, pk2 ty1 i64, entry_en Try.func166 (code := Try.f166.body.getD .skip) (by kernel_rfl) (by kernel_rfl),
 fun c list => entry_okB tab_ok (es := spec_l1PickInt_es N) (by kernel_rfl) mixed Try.func166 (by kernel_rfl) rfl rfl (fun _ => ⟨_, _, rfl⟩) (un2_pk ty1 i64) (spec_l1PickInt_v N c list)⟩
def spec_l2Sigs_bx : BoxSig := ⟨0, 133, [.fx, .ro, .ro]⟩
def spec_l2Sigs_sg : Sig := ⟨[.ptr ty1], [(ty3, .dp)], false, false, some spec_l2Sigs_bx, none⟩
noncomputable def spec_l2Sigs_es (N : Nat) : List (Entry Try.prog) := [spec_l1PickInt_e N, spec_l1Below_e N]
def spec_l2Sigs_an : Nat → Option (List Nat) := fun _ => none
theorem spec_l2Sigs_v (N : Nat) (c : List Int × Int × Int) :
  evFnB Tb (sigL (spec_l2Sigs_es N)) cps (orcL (spec_l2Sigs_es N)) (drawReg Tb (sigL (spec_l2Sigs_es N)) cps (orcL (spec_l2Sigs_es N))) N spec_l2Sigs_an spec_l2Sigs_sg spec_l2Sigs_bx Try.f185 (Try.f185.body.getD .skip) [.ptr ty1 c] (un2 ty1 ty3) = spec_l2Sigs N c := by kernel_rfl
noncomputable def spec_l2Sigs_e (N : Nat) : Entry Try.prog := ⟨185, spec_l2Sigs_sg, [.p ty1], (List Int × Int × Int) × List (ByteArray × Int × Int), spec_l2Sigs N, pk2 ty1 ty3, entry_en Try.func185 (code := Try.f185.body.getD .skip) (by kernel_rfl) (by kernel_rfl),
 fun c => entry_okB tab_ok (es := spec_l2Sigs_es N) (by kernel_rfl) mixed Try.func185 (by kernel_rfl) rfl rfl (fun _ => ⟨_, _, rfl⟩) (un2_pk ty1 ty3) (spec_l2Sigs_v N c)⟩
def spec_l3Fact_bx : BoxSig := ⟨0, 133, [.fx, .ro, .ro]⟩
def spec_l3Fact_sg : Sig := ⟨[.ptr ty1, .val ty3, .val i64], [(ty4, .dp)], false, false, some spec_l3Fact_bx, none⟩
noncomputable def spec_l3Fact_es (N : Nat) : List (Entry Try.prog) := [spec_l1Below_e N]
def spec_l3Fact_an : Nat → Option (List Nat)
 | 0 => some [0, 1, 2, 6, 7]
 | _ => none
noncomputable def spec_l3Fact_lp (N : Nat) (p : List Dir) (rs : List (Env → Option ((List Int × Int × Int) × Int × List Int))) (k : Nat) (env : Env) : Option ((List Int × Int × Int) × Int × List Int) :=
 loopAt Tb (sigL (spec_l3Fact_es N)) cps (orcL (spec_l3Fact_es N)) N spec_l3Fact_an p (Try.f186.body.getD .skip) (endB Tb spec_l3Fact_sg spec_l3Fact_bx Try.f186 ty1 (un2 ty1 ty4)) rs k env
noncomputable def spec_l3Fact_l0_E (N : Nat) (k_ : Nat) (c2 : List Int) (c3 : Int) (c4 : Int) (l2 : List (ByteArray × Int × Int)) (val2 : Int) (t6 : Int) (t62 : List Int) (f : Int) (f2 : List Int) : Option ((List Int × Int × Int) × Int × List Int) :=
 spec_l3Fact_lp N [.r, .r, .l, .b] [] k_ (.con (.box ⟨133, true, [true, false, false]⟩) [lf ty0 c2 .ro, lf i64 c3 .ro, lf i64 c4 .ro] :: (.con .val [lf ty3 l2 .ro] :: (.con .val [lf i64 val2 .ro] :: (un 3 (.con (.box ⟨90, false, []⟩) [lf i64 t6 .ro, lf ty2 t62 .dp] :: (.con (.box ⟨90, false, []⟩) [lf i64 f .ro, lf ty2 f2 .dp] :: (un 24 [])))))))
theorem spec_l3Fact_l0_z (N : Nat) (c2 : List Int) (c3 : Int) (c4 : Int) (l2 : List (ByteArray × Int × Int)) (val2 : Int) (t6 : Int) (t62 : List Int) (f : Int) (f2 : List Int) : spec_l3Fact_l0_E N 0 c2 c3 c4 l2 val2 t6 t62 f f2 = none := by kernel_rfl
theorem spec_l3Fact_l0_s (N : Nat) (k_ : Nat) (c2 : List Int) (c3 : Int) (c4 : Int) (l2 : List (ByteArray × Int × Int)) (val2 : Int) (t6 : Int) (t62 : List Int) (f : Int) (f2 : List Int) : spec_l3Fact_l0_E N (k_ + 1) c2 c3 c4 l2 val2 t6 t62 f f2 = spec_l3Fact_l0_b N (spec_l3Fact_l0_E N k_) c2 c3 c4 l2 val2 t6 t62 f f2 := by kernel_rfl
theorem spec_l3Fact_l0_q (N : Nat) : ∀ k_, spec_l3Fact_l0_E N k_ = spec_l3Fact_l0 N k_
 | 0 => by funext c2 c3 c4 l2 val2 t6 t62 f f2; exact spec_l3Fact_l0_z N c2 c3 c4 l2 val2 t6 t62 f f2
 | k_ + 1 => by funext c2 c3 c4 l2 val2 t6 t62 f f2; rw [spec_l3Fact_l0_s]; simp only [spec_l3Fact_l0_q N k_]; rfl
theorem spec_l3Fact_v (N : Nat) (c : List Int × Int × Int) (l : List (ByteArray × Int × Int)) (val : Int) :
  evFnB Tb (sigL (spec_l3Fact_es N)) cps (orcL (spec_l3Fact_es N)) (drawReg Tb (sigL (spec_l3Fact_es N)) cps (orcL (spec_l3Fact_es N))) N spec_l3Fact_an spec_l3Fact_sg spec_l3Fact_bx Try.f186 (Try.f186.body.getD .skip) [.ptr ty1 c, .val ty3 l, .val i64 val] (un2 ty1 ty4) = spec_l3Fact_b N (spec_l3Fact_l0_E N N) c l val := by kernel_rfl
noncomputable def spec_l3Fact_e (N : Nat) : Entry Try.prog := ⟨186, spec_l3Fact_sg, [.p ty1, .v ty3, .v i64], (List Int × Int × Int) × Int × List Int, spec_l3Fact N, pk2 ty1 ty4, entry_en Try.func186 (code := Try.f186.body.getD .skip) (by kernel_rfl) (by kernel_rfl),
 fun c l val => entry_okB tab_ok (es := spec_l3Fact_es N) (by kernel_rfl) mixed Try.func186 (by kernel_rfl) rfl rfl (fun _ => ⟨_, _, rfl⟩) (un2_pk ty1 ty4) ((spec_l3Fact_v N c l val).trans (by rw [spec_l3Fact_l0_q]; rfl))⟩
def spec_l4Copy_sg : Sig := ⟨[.val ty5], [(ty5, .dp)], false, false, none, none⟩
noncomputable def spec_l4Copy_es (N : Nat) : List (Entry Try.prog) := []
def spec_l4Copy_an : Nat → Option (List Nat)
 | 0 => some [1, 2, 3, 4]
 | _ => none
noncomputable def spec_l4Copy_lp (N : Nat) (p : List Dir) (rs : List (Env → Option (List (ByteArray × Int × Int) × List (Int × List Int)))) (k : Nat) (env : Env) : Option (List (ByteArray × Int × Int) × List (Int × List Int)) :=
 loopAt Tb (sigL (spec_l4Copy_es N)) cps (orcL (spec_l4Copy_es N)) N spec_l4Copy_an p (Try.f173.body.getD .skip) (endK Tb spec_l4Copy_sg Try.f173 [] (un1 ty5)) rs k env
noncomputable def spec_l4Copy_l0_E (N : Nat) (k_ : Nat) (d2 : List (ByteArray × Int × Int)) (d3 : List (Int × List Int)) (t2 : List (ByteArray × Int × Int)) (t22 : List (Int × List Int)) (x : List (ByteArray × Int × Int)) (x2 : List (Int × List Int)) (i : Int) : Option (List (ByteArray × Int × Int) × List (Int × List Int)) :=
 spec_l4Copy_lp N [.r, .r, .l, .r, .b] [] k_ (un 1 (.con (.box ⟨27, false, []⟩) [lf ty3 d2 .ro, lf ty6 d3 .ro] :: (.con (.box ⟨27, false, []⟩) [lf ty3 t2 .dp, lf ty6 t22 .dp] :: (.con (.box ⟨27, false, []⟩) [lf ty3 x .dp, lf ty6 x2 .dp] :: (.con .val [lf i64 i .ro] :: (un 33 []))))))
theorem spec_l4Copy_l0_z (N : Nat) (d2 : List (ByteArray × Int × Int)) (d3 : List (Int × List Int)) (t2 : List (ByteArray × Int × Int)) (t22 : List (Int × List Int)) (x : List (ByteArray × Int × Int)) (x2 : List (Int × List Int)) (i : Int) : spec_l4Copy_l0_E N 0 d2 d3 t2 t22 x x2 i = none := by kernel_rfl
theorem spec_l4Copy_l0_s (N : Nat) (k_ : Nat) (d2 : List (ByteArray × Int × Int)) (d3 : List (Int × List Int)) (t2 : List (ByteArray × Int × Int)) (t22 : List (Int × List Int)) (x : List (ByteArray × Int × Int)) (x2 : List (Int × List Int)) (i : Int) : spec_l4Copy_l0_E N (k_ + 1) d2 d3 t2 t22 x x2 i = spec_l4Copy_l0_b N (spec_l4Copy_l0_E N k_) d2 d3 t2 t22 x x2 i := by kernel_rfl
theorem spec_l4Copy_l0_q (N : Nat) : ∀ k_, spec_l4Copy_l0_E N k_ = spec_l4Copy_l0 N k_
 | 0 => by funext d2 d3 t2 t22 x x2 i; exact spec_l4Copy_l0_z N d2 d3 t2 t22 x x2 i
 | k_ + 1 => by funext d2 d3 t2 t22 x x2 i; rw [spec_l4Copy_l0_s]; simp only [spec_l4Copy_l0_q N k_]; rfl
theorem spec_l4Copy_v (N : Nat) (d : List (ByteArray × Int × Int) × List (Int × List Int)) :
  evFn Tb (sigL (spec_l4Copy_es N)) cps (orcL (spec_l4Copy_es N)) (drawReg Tb (sigL (spec_l4Copy_es N)) cps (orcL (spec_l4Copy_es N))) N spec_l4Copy_an spec_l4Copy_sg Try.f173 (Try.f173.body.getD .skip) [.val ty5 d] (un1 ty5) = spec_l4Copy_b N (spec_l4Copy_l0_E N N) d := by kernel_rfl
noncomputable def spec_l4Copy_e (N : Nat) : Entry Try.prog := ⟨173, spec_l4Copy_sg, [.v ty5], List (ByteArray × Int × Int) × List (Int × List Int), spec_l4Copy N, pk1 ty5, entry_en Try.func173 (code := Try.f173.body.getD .skip) (by kernel_rfl) (by kernel_rfl),
 fun d => entry_ok tab_ok (es := spec_l4Copy_es N) (by kernel_rfl) mixed Try.func173 (by kernel_rfl) ⟨⟨rfl, rfl⟩, rfl, rfl⟩ (un1_pk ty5) ((spec_l4Copy_v N d).trans (by rw [spec_l4Copy_l0_q]; rfl))⟩
def spec_l1In_sg : Sig := ⟨[.val i64, .val i64, .val i64], [(.bool, .dp)], false, false, none, none⟩
noncomputable def spec_l1In_es (N : Nat) : List (Entry Try.prog) := []
def spec_l1In_an : Nat → Option (List Nat) := fun _ => none
theorem spec_l1In_v (N : Nat) (x : Int) (low : Int) (high : Int) :
  evFn Tb (sigL (spec_l1In_es N)) cps (orcL (spec_l1In_es N)) (drawReg Tb (sigL (spec_l1In_es N)) cps (orcL (spec_l1In_es N))) N spec_l1In_an spec_l1In_sg Try.f98 (Try.f98.body.getD .skip) [.val i64 x, .val i64 low, .val i64 high] (un1 .bool) = spec_l1In N x low high := by kernel_rfl
noncomputable def spec_l1In_e (N : Nat) : Entry Try.prog := ⟨98, spec_l1In_sg, [.v i64, .v i64, .v i64], Bool, spec_l1In N, pk1 .bool, entry_en Try.func98 (code := Try.f98.body.getD .skip) (by kernel_rfl) (by kernel_rfl),
 fun x low high => entry_ok tab_ok (es := spec_l1In_es N) (by kernel_rfl) mixed Try.func98 (by kernel_rfl) ⟨⟨rfl, rfl⟩, rfl, rfl⟩ (un1_pk .bool) (spec_l1In_v N x low high)⟩
def spec_IsValidRelation_sg : Sig := ⟨[.val ty7], [(.bool, .dp)], false, false, none, none⟩
noncomputable def spec_IsValidRelation_es (N : Nat) : List (Entry Try.prog) := [spec_l1In_e N]
def spec_IsValidRelation_an : Nat → Option (List Nat) := fun _ => none
theorem spec_IsValidRelation_v (N : Nat) (s : ByteArray × Int × Int) :
  evFn Tb (sigL (spec_IsValidRelation_es N)) cps (orcL (spec_IsValidRelation_es N)) (drawReg Tb (sigL (spec_IsValidRelation_es N)) cps (orcL (spec_IsValidRelation_es N))) N spec_IsValidRelation_an spec_IsValidRelation_sg Try.f146 (Try.f146.body.getD .skip) [.val ty7 s] (un1 .bool) = spec_IsValidRelation N s := by kernel_rfl
noncomputable def spec_IsValidRelation_e (N : Nat) : Entry Try.prog := ⟨146, spec_IsValidRelation_sg, [.v ty7], Bool, spec_IsValidRelation N, pk1 .bool, entry_en Try.func146 (code := Try.f146.body.getD .skip) (by kernel_rfl) (by kernel_rfl),
 fun s => entry_ok tab_ok (es := spec_IsValidRelation_es N) (by kernel_rfl) mixed Try.func146 (by kernel_rfl) ⟨⟨rfl, rfl⟩, rfl, rfl⟩ (un1_pk .bool) (spec_IsValidRelation_v N s)⟩
def spec_AreValidRelations_sg : Sig := ⟨[.val ty3], [(.bool, .dp)], false, false, none, none⟩
noncomputable def spec_AreValidRelations_es (N : Nat) : List (Entry Try.prog) := [spec_IsValidRelation_e N]
def spec_AreValidRelations_an : Nat → Option (List Nat)
 | 0 => some [0, 3]
 | _ => none
noncomputable def spec_AreValidRelations_lp (N : Nat) (p : List Dir) (rs : List (Env → Option (Bool))) (k : Nat) (env : Env) : Option (Bool) :=
 loopAt Tb (sigL (spec_AreValidRelations_es N)) cps (orcL (spec_AreValidRelations_es N)) N spec_AreValidRelations_an p (Try.f85.body.getD .skip) (endK Tb spec_AreValidRelations_sg Try.f85 [] (un1 .bool)) rs k env
noncomputable def spec_AreValidRelations_l0_E (N : Nat) (k_ : Nat) (l2 : List (ByteArray × Int × Int)) (i : Int) : Option (Bool) :=
 spec_AreValidRelations_lp N [.r, .l, .r, .b] [] k_ (.con .val [lf ty3 l2 .ro] :: (un 2 (.con .val [lf i64 i .ro] :: (un 33 []))))
theorem spec_AreValidRelations_l0_z (N : Nat) (l2 : List (ByteArray × Int × Int)) (i : Int) : spec_AreValidRelations_l0_E N 0 l2 i = none := by kernel_rfl
theorem spec_AreValidRelations_l0_s (N : Nat) (k_ : Nat) (l2 : List (ByteArray × Int × Int)) (i : Int) : spec_AreValidRelations_l0_E N (k_ + 1) l2 i = spec_AreValidRelations_l0_b N (spec_AreValidRelations_l0_E N k_) l2 i := by kernel_rfl
theorem spec_AreValidRelations_l0_q (N : Nat) : ∀ k_, spec_AreValidRelations_l0_E N k_ = spec_AreValidRelations_l0 N k_
 | 0 => by funext l2 i; exact spec_AreValidRelations_l0_z N l2 i
 | k_ + 1 => by funext l2 i; rw [spec_AreValidRelations_l0_s]; simp only [spec_AreValidRelations_l0_q N k_]; rfl
theorem spec_AreValidRelations_v (N : Nat) (l : List (ByteArray × Int × Int)) :
  evFn Tb (sigL (spec_AreValidRelations_es N)) cps (orcL (spec_AreValidRelations_es N)) (drawReg Tb (sigL (spec_AreValidRelations_es N)) cps (orcL (spec_AreValidRelations_es N))) N spec_AreValidRelations_an spec_AreValidRelations_sg Try.f85 (Try.f85.body.getD .skip) [.val ty3 l] (un1 .bool) = spec_AreValidRelations_b N (spec_AreValidRelations_l0_E N N) l := by kernel_rfl
noncomputable def spec_AreValidRelations_e (N : Nat) : Entry Try.prog := ⟨85, spec_AreValidRelations_sg, [.v ty3], Bool, spec_AreValidRelations N, pk1 .bool, entry_en Try.func85 (code := Try.f85.body.getD .skip) (by kernel_rfl) (by kernel_rfl),
 fun l => entry_ok tab_ok (es := spec_AreValidRelations_es N) (by kernel_rfl) mixed Try.func85 (by kernel_rfl) ⟨⟨rfl, rfl⟩, rfl, rfl⟩ (un1_pk .bool) ((spec_AreValidRelations_v N l).trans (by rw [spec_AreValidRelations_l0_q]; rfl))⟩
def spec_IsValidFact_sg : Sig := ⟨[.val ty3, .val ty4], [(.bool, .dp)], false, false, none, none⟩
noncomputable def spec_IsValidFact_es (N : Nat) : List (Entry Try.prog) := [spec_l1In_e N, spec_AreValidRelations_e N]
def spec_IsValidFact_an : Nat → Option (List Nat)
 | 0 => some [3, 5]
 | _ => none
noncomputable def spec_IsValidFact_lp (N : Nat) (p : List Dir) (rs : List (Env → Option (Bool))) (k : Nat) (env : Env) : Option (Bool) :=
 loopAt Tb (sigL (spec_IsValidFact_es N)) cps (orcL (spec_IsValidFact_es N)) N spec_IsValidFact_an p (Try.f83.body.getD .skip) (endK Tb spec_IsValidFact_sg Try.f83 [] (un1 .bool)) rs k env
noncomputable def spec_IsValidFact_l0_E (N : Nat) (k_ : Nat) (f2 : Int) (f3 : List Int) (i : Int) : Option (Bool) :=
 spec_IsValidFact_lp N [.r, .r, .l, .r, .b] [] k_ (un 3 (.con (.box ⟨90, false, []⟩) [lf i64 f2 .ro, lf ty2 f3 .ro] :: (un 1 (.con .val [lf i64 i .ro] :: (un 38 [])))))
theorem spec_IsValidFact_l0_z (N : Nat) (f2 : Int) (f3 : List Int) (i : Int) : spec_IsValidFact_l0_E N 0 f2 f3 i = none := by kernel_rfl
theorem spec_IsValidFact_l0_s (N : Nat) (k_ : Nat) (f2 : Int) (f3 : List Int) (i : Int) : spec_IsValidFact_l0_E N (k_ + 1) f2 f3 i = spec_IsValidFact_l0_b N (spec_IsValidFact_l0_E N k_) f2 f3 i := by kernel_rfl
theorem spec_IsValidFact_l0_q (N : Nat) : ∀ k_, spec_IsValidFact_l0_E N k_ = spec_IsValidFact_l0 N k_
 | 0 => by funext f2 f3 i; exact spec_IsValidFact_l0_z N f2 f3 i
 | k_ + 1 => by funext f2 f3 i; rw [spec_IsValidFact_l0_s]; simp only [spec_IsValidFact_l0_q N k_]; rfl
theorem spec_IsValidFact_v (N : Nat) (l : List (ByteArray × Int × Int)) (f : Int × List Int) :
  evFn Tb (sigL (spec_IsValidFact_es N)) cps (orcL (spec_IsValidFact_es N)) (drawReg Tb (sigL (spec_IsValidFact_es N)) cps (orcL (spec_IsValidFact_es N))) N spec_IsValidFact_an spec_IsValidFact_sg Try.f83 (Try.f83.body.getD .skip) [.val ty3 l, .val ty4 f] (un1 .bool) = spec_IsValidFact_b N (spec_IsValidFact_l0_E N N) l f := by kernel_rfl
noncomputable def spec_IsValidFact_e (N : Nat) : Entry Try.prog := ⟨83, spec_IsValidFact_sg, [.v ty3, .v ty4], Bool, spec_IsValidFact N, pk1 .bool, entry_en Try.func83 (code := Try.f83.body.getD .skip) (by kernel_rfl) (by kernel_rfl),
 fun l f => entry_ok tab_ok (es := spec_IsValidFact_es N) (by kernel_rfl) mixed Try.func83 (by kernel_rfl) ⟨⟨rfl, rfl⟩, rfl, rfl⟩ (un1_pk .bool) ((spec_IsValidFact_v N l f).trans (by rw [spec_IsValidFact_l0_q]; rfl))⟩
def spec_l3Ints_sg : Sig := ⟨[.val ty2, .val ty2], [(i64, .dp)], false, false, none, none⟩
noncomputable def spec_l3Ints_es (N : Nat) : List (Entry Try.prog) := []
def spec_l3Ints_an : Nat → Option (List Nat)
 | 0 => some [0, 1, 5]
 | _ => none
noncomputable def spec_l3Ints_lp (N : Nat) (p : List Dir) (rs : List (Env → Option (Int))) (k : Nat) (env : Env) : Option (Int) :=
 loopAt Tb (sigL (spec_l3Ints_es N)) cps (orcL (spec_l3Ints_es N)) N spec_l3Ints_an p (Try.f145.body.getD .skip) (endK Tb spec_l3Ints_sg Try.f145 [] (un1 i64)) rs k env
noncomputable def spec_l3Ints_l0_E (N : Nat) (k_ : Nat) (a2 : List Int) (b2 : List Int) (i : Int) : Option (Int) :=
 spec_l3Ints_lp N [.r, .l, .r, .b] [] k_ (.con .val [lf ty2 a2 .ro] :: (.con .val [lf ty2 b2 .ro] :: (un 3 (.con .val [lf i64 i .ro] :: (un 40 [])))))
theorem spec_l3Ints_l0_z (N : Nat) (a2 : List Int) (b2 : List Int) (i : Int) : spec_l3Ints_l0_E N 0 a2 b2 i = none := by kernel_rfl
theorem spec_l3Ints_l0_s (N : Nat) (k_ : Nat) (a2 : List Int) (b2 : List Int) (i : Int) : spec_l3Ints_l0_E N (k_ + 1) a2 b2 i = spec_l3Ints_l0_b N (spec_l3Ints_l0_E N k_) a2 b2 i := by kernel_rfl
theorem spec_l3Ints_l0_q (N : Nat) : ∀ k_, spec_l3Ints_l0_E N k_ = spec_l3Ints_l0 N k_
 | 0 => by funext a2 b2 i; exact spec_l3Ints_l0_z N a2 b2 i
 | k_ + 1 => by funext a2 b2 i; rw [spec_l3Ints_l0_s]; simp only [spec_l3Ints_l0_q N k_]; rfl
theorem spec_l3Ints_v (N : Nat) (a : List Int) (b : List Int) :
  evFn Tb (sigL (spec_l3Ints_es N)) cps (orcL (spec_l3Ints_es N)) (drawReg Tb (sigL (spec_l3Ints_es N)) cps (orcL (spec_l3Ints_es N))) N spec_l3Ints_an spec_l3Ints_sg Try.f145 (Try.f145.body.getD .skip) [.val ty2 a, .val ty2 b] (un1 i64) = spec_l3Ints_b N (spec_l3Ints_l0_E N N) a b := by kernel_rfl
noncomputable def spec_l3Ints_e (N : Nat) : Entry Try.prog := ⟨145, spec_l3Ints_sg, [.v ty2, .v ty2], Int, spec_l3Ints N, pk1 i64, entry_en Try.func145 (code := Try.f145.body.getD .skip) (by kernel_rfl) (by kernel_rfl),
 fun a b => entry_ok tab_ok (es := spec_l3Ints_es N) (by kernel_rfl) mixed Try.func145 (by kernel_rfl) ⟨⟨rfl, rfl⟩, rfl, rfl⟩ (un1_pk i64) ((spec_l3Ints_v N a b).trans (by rw [spec_l3Ints_l0_q]; rfl))⟩
def spec_CompareFacts_sg : Sig := ⟨[.val ty4, .val ty4], [(i64, .dp)], false, false, none, none⟩
noncomputable def spec_CompareFacts_es (N : Nat) : List (Entry Try.prog) := [spec_l3Ints_e N]
def spec_CompareFacts_an : Nat → Option (List Nat) := fun _ => none
theorem spec_CompareFacts_v (N : Nat) (a : Int × List Int) (b : Int × List Int) :
  evFn Tb (sigL (spec_CompareFacts_es N)) cps (orcL (spec_CompareFacts_es N)) (drawReg Tb (sigL (spec_CompareFacts_es N)) cps (orcL (spec_CompareFacts_es N))) N spec_CompareFacts_an spec_CompareFacts_sg Try.f84 (Try.f84.body.getD .skip) [.val ty4 a, .val ty4 b] (un1 i64) = spec_CompareFacts N a b := by kernel_rfl
noncomputable def spec_CompareFacts_e (N : Nat) : Entry Try.prog := ⟨84, spec_CompareFacts_sg, [.v ty4, .v ty4], Int, spec_CompareFacts N, pk1 i64, entry_en Try.func84 (code := Try.f84.body.getD .skip) (by kernel_rfl) (by kernel_rfl),
 fun a b => entry_ok tab_ok (es := spec_CompareFacts_es N) (by kernel_rfl) mixed Try.func84 (by kernel_rfl) ⟨⟨rfl, rfl⟩, rfl, rfl⟩ (un1_pk i64) (spec_CompareFacts_v N a b)⟩
def spec_IsValidDatabase_sg : Sig := ⟨[.val ty5], [(.bool, .dp)], false, false, none, none⟩
noncomputable def spec_IsValidDatabase_es (N : Nat) : List (Entry Try.prog) := [spec_IsValidFact_e N, spec_CompareFacts_e N, spec_AreValidRelations_e N]
def spec_IsValidDatabase_an : Nat → Option (List Nat)
 | 0 => some [1, 3]
 | _ => none
noncomputable def spec_IsValidDatabase_lp (N : Nat) (p : List Dir) (rs : List (Env → Option (Bool))) (k : Nat) (env : Env) : Option (Bool) :=
 loopAt Tb (sigL (spec_IsValidDatabase_es N)) cps (orcL (spec_IsValidDatabase_es N)) N spec_IsValidDatabase_an p (Try.f19.body.getD .skip) (endK Tb spec_IsValidDatabase_sg Try.f19 [] (un1 .bool)) rs k env
noncomputable def spec_IsValidDatabase_l0_E (N : Nat) (k_ : Nat) (d2 : List (ByteArray × Int × Int)) (d3 : List (Int × List Int)) (i : Int) : Option (Bool) :=
 spec_IsValidDatabase_lp N [.r, .l, .r, .b] [] k_ (un 1 (.con (.box ⟨27, false, []⟩) [lf ty3 d2 .ro, lf ty6 d3 .ro] :: (un 1 (.con .val [lf i64 i .ro] :: (un 44 [])))))
theorem spec_IsValidDatabase_l0_z (N : Nat) (d2 : List (ByteArray × Int × Int)) (d3 : List (Int × List Int)) (i : Int) : spec_IsValidDatabase_l0_E N 0 d2 d3 i = none := by kernel_rfl
theorem spec_IsValidDatabase_l0_s (N : Nat) (k_ : Nat) (d2 : List (ByteArray × Int × Int)) (d3 : List (Int × List Int)) (i : Int) : spec_IsValidDatabase_l0_E N (k_ + 1) d2 d3 i = spec_IsValidDatabase_l0_b N (spec_IsValidDatabase_l0_E N k_) d2 d3 i := by kernel_rfl
theorem spec_IsValidDatabase_l0_q (N : Nat) : ∀ k_, spec_IsValidDatabase_l0_E N k_ = spec_IsValidDatabase_l0 N k_
 | 0 => by funext d2 d3 i; exact spec_IsValidDatabase_l0_z N d2 d3 i
 | k_ + 1 => by funext d2 d3 i; rw [spec_IsValidDatabase_l0_s]; simp only [spec_IsValidDatabase_l0_q N k_]; rfl
theorem spec_IsValidDatabase_v (N : Nat) (d : List (ByteArray × Int × Int) × List (Int × List Int)) :
  evFn Tb (sigL (spec_IsValidDatabase_es N)) cps (orcL (spec_IsValidDatabase_es N)) (drawReg Tb (sigL (spec_IsValidDatabase_es N)) cps (orcL (spec_IsValidDatabase_es N))) N spec_IsValidDatabase_an spec_IsValidDatabase_sg Try.f19 (Try.f19.body.getD .skip) [.val ty5 d] (un1 .bool) = spec_IsValidDatabase_b N (spec_IsValidDatabase_l0_E N N) d := by kernel_rfl
noncomputable def spec_IsValidDatabase_e (N : Nat) : Entry Try.prog := ⟨19, spec_IsValidDatabase_sg, [.v ty5], Bool, spec_IsValidDatabase N, pk1 .bool, entry_en Try.func19 (code := Try.f19.body.getD .skip) (by kernel_rfl) (by kernel_rfl),
 fun d => entry_ok tab_ok (es := spec_IsValidDatabase_es N) (by kernel_rfl) mixed Try.func19 (by kernel_rfl) ⟨⟨rfl, rfl⟩, rfl, rfl⟩ (un1_pk .bool) ((spec_IsValidDatabase_v N d).trans (by rw [spec_IsValidDatabase_l0_q]; rfl))⟩
def spec_FactIndex_sg : Sig := ⟨[.val ty5, .val ty4], [(i64, .dp)], false, false, none, none⟩
noncomputable def spec_FactIndex_es (N : Nat) : List (Entry Try.prog) := [spec_CompareFacts_e N]
def spec_FactIndex_an : Nat → Option (List Nat)
 | 0 => some [2, 3, 5]
 | _ => none
noncomputable def spec_FactIndex_lp (N : Nat) (p : List Dir) (rs : List (Env → Option (Int))) (k : Nat) (env : Env) : Option (Int) :=
 loopAt Tb (sigL (spec_FactIndex_es N)) cps (orcL (spec_FactIndex_es N)) N spec_FactIndex_an p (Try.f200.body.getD .skip) (endK Tb spec_FactIndex_sg Try.f200 [] (un1 i64)) rs k env
noncomputable def spec_FactIndex_l0_E (N : Nat) (k_ : Nat) (d2 : List (ByteArray × Int × Int)) (d3 : List (Int × List Int)) (f2 : Int) (f3 : List Int) (i : Int) : Option (Int) :=
 spec_FactIndex_lp N [.r, .l, .r, .b] [] k_ (un 2 (.con (.box ⟨27, false, []⟩) [lf ty3 d2 .ro, lf ty6 d3 .ro] :: (.con (.box ⟨90, false, []⟩) [lf i64 f2 .ro, lf ty2 f3 .ro] :: (un 1 (.con .val [lf i64 i .ro] :: (un 16 []))))))
theorem spec_FactIndex_l0_z (N : Nat) (d2 : List (ByteArray × Int × Int)) (d3 : List (Int × List Int)) (f2 : Int) (f3 : List Int) (i : Int) : spec_FactIndex_l0_E N 0 d2 d3 f2 f3 i = none := by kernel_rfl
theorem spec_FactIndex_l0_s (N : Nat) (k_ : Nat) (d2 : List (ByteArray × Int × Int)) (d3 : List (Int × List Int)) (f2 : Int) (f3 : List Int) (i : Int) : spec_FactIndex_l0_E N (k_ + 1) d2 d3 f2 f3 i = spec_FactIndex_l0_b N (spec_FactIndex_l0_E N k_) d2 d3 f2 f3 i := by kernel_rfl
theorem spec_FactIndex_l0_q (N : Nat) : ∀ k_, spec_FactIndex_l0_E N k_ = spec_FactIndex_l0 N k_
 | 0 => by funext d2 d3 f2 f3 i; exact spec_FactIndex_l0_z N d2 d3 f2 f3 i
 | k_ + 1 => by funext d2 d3 f2 f3 i; rw [spec_FactIndex_l0_s]; simp only [spec_FactIndex_l0_q N k_]; rfl
theorem spec_FactIndex_v (N : Nat) (d : List (ByteArray × Int × Int) × List (Int × List Int)) (f : Int × List Int) :
  evFn Tb (sigL (spec_FactIndex_es N)) cps (orcL (spec_FactIndex_es N)) (drawReg Tb (sigL (spec_FactIndex_es N)) cps (orcL (spec_FactIndex_es N))) N spec_FactIndex_an spec_FactIndex_sg Try.f200 (Try.f200.body.getD .skip) [.val ty5 d, .val ty4 f] (un1 i64) = spec_FactIndex_b N (spec_FactIndex_l0_E N N) d f := by kernel_rfl
noncomputable def spec_FactIndex_e (N : Nat) : Entry Try.prog := ⟨200, spec_FactIndex_sg, [.v ty5, .v ty4], Int, spec_FactIndex N, pk1 i64, entry_en Try.func200 (code := Try.f200.body.getD .skip) (by kernel_rfl) (by kernel_rfl),
 fun d f => entry_ok tab_ok (es := spec_FactIndex_es N) (by kernel_rfl) mixed Try.func200 (by kernel_rfl) ⟨⟨rfl, rfl⟩, rfl, rfl⟩ (un1_pk i64) ((spec_FactIndex_v N d f).trans (by rw [spec_FactIndex_l0_q]; rfl))⟩
def spec_ContainsFact_sg : Sig := ⟨[.val ty5, .val ty4], [(.bool, .dp)], false, false, none, none⟩
noncomputable def spec_ContainsFact_es (N : Nat) : List (Entry Try.prog) := [spec_IsValidDatabase_e N, spec_FactIndex_e N]
def spec_ContainsFact_an : Nat → Option (List Nat) := fun _ => none
theorem spec_ContainsFact_v (N : Nat) (d : List (ByteArray × Int × Int) × List (Int × List Int)) (f : Int × List Int) :
  evFn Tb (sigL (spec_ContainsFact_es N)) cps (orcL (spec_ContainsFact_es N)) (drawReg Tb (sigL (spec_ContainsFact_es N)) cps (orcL (spec_ContainsFact_es N))) N spec_ContainsFact_an spec_ContainsFact_sg Try.f174 (Try.f174.body.getD .skip) [.val ty5 d, .val ty4 f] (un1 .bool) = spec_ContainsFact N d f := by kernel_rfl
noncomputable def spec_ContainsFact_e (N : Nat) : Entry Try.prog := ⟨174, spec_ContainsFact_sg, [.v ty5, .v ty4], Bool, spec_ContainsFact N, pk1 .bool, entry_en Try.func174 (code := Try.f174.body.getD .skip) (by kernel_rfl) (by kernel_rfl),
 fun d f => entry_ok tab_ok (es := spec_ContainsFact_es N) (by kernel_rfl) mixed Try.func174 (by kernel_rfl) ⟨⟨rfl, rfl⟩, rfl, rfl⟩ (un1_pk .bool) (spec_ContainsFact_v N d f)⟩
def spec_InsertFact_sg : Sig := ⟨[.val ty5, .val ty4], [(ty5, .sh), (.bool, .dp)], false, false, none, none⟩
noncomputable def spec_InsertFact_es (N : Nat) : List (Entry Try.prog) := [spec_CompareFacts_e N, spec_l4Copy_e N, spec_IsValidDatabase_e N, spec_IsValidFact_e N, spec_ContainsFact_e N]
def spec_InsertFact_an : Nat → Option (List Nat)
 | 0 => some [3, 4, 6, 7]
 | _ => none
noncomputable def spec_InsertFact_lp (N : Nat) (p : List Dir) (rs : List (Env → Option ((List (ByteArray × Int × Int) × List (Int × List Int)) × Bool))) (k : Nat) (env : Env) : Option ((List (ByteArray × Int × Int) × List (Int × List Int)) × Bool) :=
 loopAt Tb (sigL (spec_InsertFact_es N)) cps (orcL (spec_InsertFact_es N)) N spec_InsertFact_an p (Try.f130.body.getD .skip) (endK Tb spec_InsertFact_sg Try.f130 [] (un2 ty5 .bool)) rs k env
noncomputable def spec_InsertFact_l0_E (N : Nat) (k_ : Nat) (f2 : Int) (f3 : List Int) (t4 : List (ByteArray × Int × Int)) (t42 : List (Int × List Int)) (x : List (ByteArray × Int × Int)) (x2 : List (Int × List Int)) (k : Int) : Option ((List (ByteArray × Int × Int) × List (Int × List Int)) × Bool) :=
 spec_InsertFact_lp N [.r, .r, .r, .r, .l, .b] [] k_ (un 3 (.con (.box ⟨90, false, []⟩) [lf i64 f2 .ro, lf ty2 f3 .ro] :: (.con (.box ⟨27, false, []⟩) [lf ty3 t4 .dp, lf ty6 t42 .dp] :: (un 1 (.con (.box ⟨27, false, []⟩) [lf ty3 x .dp, lf ty6 x2 .dp] :: (.con .val [lf i64 k .ro] :: (un 65 [])))))))
theorem spec_InsertFact_l0_z (N : Nat) (f2 : Int) (f3 : List Int) (t4 : List (ByteArray × Int × Int)) (t42 : List (Int × List Int)) (x : List (ByteArray × Int × Int)) (x2 : List (Int × List Int)) (k : Int) : spec_InsertFact_l0_E N 0 f2 f3 t4 t42 x x2 k = none := by kernel_rfl
theorem spec_InsertFact_l0_s (N : Nat) (k_ : Nat) (f2 : Int) (f3 : List Int) (t4 : List (ByteArray × Int × Int)) (t42 : List (Int × List Int)) (x : List (ByteArray × Int × Int)) (x2 : List (Int × List Int)) (k : Int) : spec_InsertFact_l0_E N (k_ + 1) f2 f3 t4 t42 x x2 k = spec_InsertFact_l0_b N (spec_InsertFact_l0_E N k_) f2 f3 t4 t42 x x2 k := by kernel_rfl
theorem spec_InsertFact_l0_q (N : Nat) : ∀ k_, spec_InsertFact_l0_E N k_ = spec_InsertFact_l0 N k_
 | 0 => by funext f2 f3 t4 t42 x x2 k; exact spec_InsertFact_l0_z N f2 f3 t4 t42 x x2 k
 | k_ + 1 => by funext f2 f3 t4 t42 x x2 k; rw [spec_InsertFact_l0_s]; simp only [spec_InsertFact_l0_q N k_]; rfl
theorem spec_InsertFact_v (N : Nat) (d : List (ByteArray × Int × Int) × List (Int × List Int)) (f : Int × List Int) :
  evFn Tb (sigL (spec_InsertFact_es N)) cps (orcL (spec_InsertFact_es N)) (drawReg Tb (sigL (spec_InsertFact_es N)) cps (orcL (spec_InsertFact_es N))) N spec_InsertFact_an spec_InsertFact_sg Try.f130 (Try.f130.body.getD .skip) [.val ty5 d, .val ty4 f] (un2 ty5 .bool) = spec_InsertFact_b N (spec_InsertFact_l0_E N N) d f := by kernel_rfl
noncomputable def spec_InsertFact_e (N : Nat) : Entry Try.prog := ⟨130, spec_InsertFact_sg, [.v ty5, .v ty4], (List (ByteArray × Int × Int) × List (Int × List Int)) × Bool, spec_InsertFact N, pk2 ty5 .bool, entry_en Try.func130 (code := Try.f130.body.getD .skip) (by kernel_rfl) (by kernel_rfl),
 fun d f => entry_ok tab_ok (es := spec_InsertFact_es N) (by kernel_rfl) mixed Try.func130 (by kernel_rfl) ⟨⟨rfl, rfl⟩, rfl, rfl⟩ (un2_pk ty5 .bool) ((spec_InsertFact_v N d f).trans (by rw [spec_InsertFact_l0_q]; rfl))⟩
def spec_l4Db_bx : BoxSig := ⟨0, 133, [.fx, .ro, .ro]⟩
def spec_l4Db_sg : Sig := ⟨[.ptr ty1], [(ty5, .sh)], false, false, some spec_l4Db_bx, none⟩
noncomputable def spec_l4Db_es (N : Nat) : List (Entry Try.prog) := [spec_l3Fact_e N, spec_InsertFact_e N, spec_l2Sigs_e N, spec_l1PickInt_e N, spec_l1Below_e N]
def spec_l4Db_an : Nat → Option (List Nat)
 | 0 => some [0, 2, 3, 4, 5]
 | _ => none
noncomputable def spec_l4Db_lp (N : Nat) (p : List Dir) (rs : List (Env → Option ((List Int × Int × Int) × List (ByteArray × Int × Int) × List (Int × List Int)))) (k : Nat) (env : Env) : Option ((List Int × Int × Int) × List (ByteArray × Int × Int) × List (Int × List Int)) :=
 loopAt Tb (sigL (spec_l4Db_es N)) cps (orcL (spec_l4Db_es N)) N spec_l4Db_an p (Try.f139.body.getD .skip) (endB Tb spec_l4Db_sg spec_l4Db_bx Try.f139 ty1 (un2 ty1 ty5)) rs k env
noncomputable def spec_l4Db_l1_E (N : Nat) (k_ : Nat) (c5 : List Int) (c6 : Int) (c7 : Int) (t23 : List (ByteArray × Int × Int)) (t24 : List (Int × List Int)) (d3 : List (ByteArray × Int × Int)) (d4 : List (Int × List Int)) (val2 : Int) (n2 : Int) : Option ((List Int × Int × Int) × List (ByteArray × Int × Int) × List (Int × List Int)) :=
 spec_l4Db_lp N [.r, .r, .r, .l, .r, .b] [] k_ (.con (.box ⟨133, true, [true, false, false]⟩) [lf ty0 c5 .ro, lf i64 c6 .ro, lf i64 c7 .ro] :: (un 1 (.con (.box ⟨27, false, []⟩) [lf ty3 t23 .dp, lf ty6 t24 .dp] :: (.con (.box ⟨27, false, []⟩) [lf ty3 d3 .dp, lf ty6 d4 .sh] :: (.con .val [lf i64 val2 .ro] :: (.con .val [lf i64 n2 .ro] :: (un 24 [])))))))
noncomputable def spec_l4Db_l0_E (N : Nat) (k_ : Nat) (c2 : List Int) (c3 : Int) (c4 : Int) (t2 : List (ByteArray × Int × Int)) (t22 : List (Int × List Int)) (d : List (ByteArray × Int × Int)) (d2 : List (Int × List Int)) (val : Int) (n : Int) : Option ((List Int × Int × Int) × List (ByteArray × Int × Int) × List (Int × List Int)) :=
 spec_l4Db_lp N [.r, .r, .r, .l, .r, .b] [] k_ (.con (.box ⟨133, true, [true, false, false]⟩) [lf ty0 c2 .ro, lf i64 c3 .ro, lf i64 c4 .ro] :: (un 1 (.con (.box ⟨27, false, []⟩) [lf ty3 t2 .dp, lf ty6 t22 .dp] :: (.con (.box ⟨27, false, []⟩) [lf ty3 d .dp, lf ty6 d2 .dp] :: (.con .val [lf i64 val .ro] :: (.con .val [lf i64 n .ro] :: (un 24 [])))))))
theorem spec_l4Db_l1_z (N : Nat) (c5 : List Int) (c6 : Int) (c7 : Int) (t23 : List (ByteArray × Int × Int)) (t24 : List (Int × List Int)) (d3 : List (ByteArray × Int × Int)) (d4 : List (Int × List Int)) (val2 : Int) (n2 : Int) : spec_l4Db_l1_E N 0 c5 c6 c7 t23 t24 d3 d4 val2 n2 = none := by kernel_rfl
theorem spec_l4Db_l1_s (N : Nat) (k_ : Nat) (c5 : List Int) (c6 : Int) (c7 : Int) (t23 : List (ByteArray × Int × Int)) (t24 : List (Int × List Int)) (d3 : List (ByteArray × Int × Int)) (d4 : List (Int × List Int)) (val2 : Int) (n2 : Int) : spec_l4Db_l1_E N (k_ + 1) c5 c6 c7 t23 t24 d3 d4 val2 n2 = spec_l4Db_l1_b N (spec_l4Db_l1_E N k_) c5 c6 c7 t23 t24 d3 d4 val2 n2 := by kernel_rfl
theorem spec_l4Db_l0_z (N : Nat) (c2 : List Int) (c3 : Int) (c4 : Int) (t2 : List (ByteArray × Int × Int)) (t22 : List (Int × List Int)) (d : List (ByteArray × Int × Int)) (d2 : List (Int × List Int)) (val : Int) (n : Int) : spec_l4Db_l0_E N 0 c2 c3 c4 t2 t22 d d2 val n = none := by kernel_rfl
theorem spec_l4Db_l0_s (N : Nat) (k_ : Nat) (c2 : List Int) (c3 : Int) (c4 : Int) (t2 : List (ByteArray × Int × Int)) (t22 : List (Int × List Int)) (d : List (ByteArray × Int × Int)) (d2 : List (Int × List Int)) (val : Int) (n : Int) : spec_l4Db_l0_E N (k_ + 1) c2 c3 c4 t2 t22 d d2 val n = spec_l4Db_l0_b N (spec_l4Db_l1_E N k_) (spec_l4Db_l0_E N k_) c2 c3 c4 t2 t22 d d2 val n := by kernel_rfl
theorem spec_l4Db_l1_q (N : Nat) : ∀ k_, spec_l4Db_l1_E N k_ = spec_l4Db_l1 N k_
 | 0 => by funext c5 c6 c7 t23 t24 d3 d4 val2 n2; exact spec_l4Db_l1_z N c5 c6 c7 t23 t24 d3 d4 val2 n2
 | k_ + 1 => by funext c5 c6 c7 t23 t24 d3 d4 val2 n2; rw [spec_l4Db_l1_s]; simp only [spec_l4Db_l1_q N k_]; rfl
theorem spec_l4Db_l0_q (N : Nat) : ∀ k_, spec_l4Db_l0_E N k_ = spec_l4Db_l0 N k_
 | 0 => by funext c2 c3 c4 t2 t22 d d2 val n; exact spec_l4Db_l0_z N c2 c3 c4 t2 t22 d d2 val n
 | k_ + 1 => by funext c2 c3 c4 t2 t22 d d2 val n; rw [spec_l4Db_l0_s]; simp only [spec_l4Db_l1_q, spec_l4Db_l0_q N k_]; rfl
theorem spec_l4Db_v (N : Nat) (c : List Int × Int × Int) :
  evFnB Tb (sigL (spec_l4Db_es N)) cps (orcL (spec_l4Db_es N)) (drawReg Tb (sigL (spec_l4Db_es N)) cps (orcL (spec_l4Db_es N))) N spec_l4Db_an spec_l4Db_sg spec_l4Db_bx Try.f139 (Try.f139.body.getD .skip) [.ptr ty1 c] (un2 ty1 ty5) = spec_l4Db_b N (spec_l4Db_l0_E N N) c := by kernel_rfl
noncomputable def spec_l4Db_e (N : Nat) : Entry Try.prog := ⟨139, spec_l4Db_sg, [.p ty1], (List Int × Int × Int) × List (ByteArray × Int × Int) × List (Int × List Int), spec_l4Db N, pk2 ty1 ty5, entry_en Try.func139 (code := Try.f139.body.getD .skip) (by kernel_rfl) (by kernel_rfl),
 fun c => entry_okB tab_ok (es := spec_l4Db_es N) (by kernel_rfl) mixed Try.func139 (by kernel_rfl) rfl rfl (fun _ => ⟨_, _, rfl⟩) (un2_pk ty1 ty5) ((spec_l4Db_v N c).trans (by rw [spec_l4Db_l0_q]; rfl))⟩
def spec_l3Any_bx : BoxSig := ⟨0, 133, [.fx, .ro, .ro]⟩
def spec_l3Any_sg : Sig := ⟨[.ptr ty1, .val ty3], [(ty4, .dp)], false, false, some spec_l3Any_bx, none⟩
noncomputable def spec_l3Any_es (N : Nat) : List (Entry Try.prog) := [spec_l3Fact_e N, spec_l1Below_e N, spec_l1PickInt_e N]
def spec_l3Any_an : Nat → Option (List Nat) := fun _ => none
theorem spec_l3Any_v (N : Nat) (c : List Int × Int × Int) (l : List (ByteArray × Int × Int)) :
  evFnB Tb (sigL (spec_l3Any_es N)) cps (orcL (spec_l3Any_es N)) (drawReg Tb (sigL (spec_l3Any_es N)) cps (orcL (spec_l3Any_es N))) N spec_l3Any_an spec_l3Any_sg spec_l3Any_bx Try.f141 (Try.f141.body.getD .skip) [.ptr ty1 c, .val ty3 l] (un2 ty1 ty4) = spec_l3Any N c l := by kernel_rfl
noncomputable def spec_l3Any_e (N : Nat) : Entry Try.prog := ⟨141, spec_l3Any_sg, [.p ty1, .v ty3], (List Int × Int × Int) × Int × List Int, spec_l3Any N, pk2 ty1 ty4, entry_en Try.func141 (code := Try.f141.body.getD .skip) (by kernel_rfl) (by kernel_rfl),
 fun c l => entry_okB tab_ok (es := spec_l3Any_es N) (by kernel_rfl) mixed Try.func141 (by kernel_rfl) rfl rfl (fun _ => ⟨_, _, rfl⟩) (un2_pk ty1 ty4) (spec_l3Any_v N c l)⟩
def spec_l1Pick_bx : BoxSig := ⟨0, 133, [.fx, .ro, .ro]⟩
def spec_l1Pick_sg : Sig := ⟨[.ptr ty1, .val ty8], [(.str, .dp)], false, false, some spec_l1Pick_bx, none⟩
noncomputable def spec_l1Pick_es (N : Nat) : List (Entry Try.prog) := [spec_l1Below_e N]
def spec_l1Pick_an : Nat → Option (List Nat) := fun _ => none
theorem spec_l1Pick_v (N : Nat) (c : List Int × Int × Int) (list : List ByteArray) :
  evFnB Tb (sigL (spec_l1Pick_es N)) cps (orcL (spec_l1Pick_es N)) (drawReg Tb (sigL (spec_l1Pick_es N)) cps (orcL (spec_l1Pick_es N))) N spec_l1Pick_an spec_l1Pick_sg spec_l1Pick_bx Try.f188 (Try.f188.body.getD .skip) [.ptr ty1 c, .val ty8 list] (un2 ty1 .str) = spec_l1Pick N c list := by kernel_rfl
noncomputable def spec_l1Pick_e (N : Nat) : Entry Try.prog := ⟨188, spec_l1Pick_sg, [.p ty1, .v ty8], (List Int × Int × Int) × ByteArray, spec_l1Pick N, pk2 ty1 .str, entry_en Try.func188 (code := Try.f188.body.getD .skip) (by kernel_rfl) (by kernel_rfl),
 fun c list => entry_okB tab_ok (es := spec_l1Pick_es N) (by kernel_rfl) mixed Try.func188 (by kernel_rfl) rfl rfl (fun _ => ⟨_, _, rfl⟩) (un2_pk ty1 .str) (spec_l1Pick_v N c list)⟩
def spec_l2Any_bx : BoxSig := ⟨0, 133, [.fx, .ro, .ro]⟩
def spec_l2Any_sg : Sig := ⟨[.ptr ty1], [(ty7, .dp)], false, false, some spec_l2Any_bx, none⟩
noncomputable def spec_l2Any_es (N : Nat) : List (Entry Try.prog) := [spec_l1Pick_e N, spec_l1Below_e N]
def spec_l2Any_an : Nat → Option (List Nat) := fun _ => none
theorem spec_l2Any_v (N : Nat) (c : List Int × Int × Int) :
  evFnB Tb (sigL (spec_l2Any_es N)) cps (orcL (spec_l2Any_es N)) (drawReg Tb (sigL (spec_l2Any_es N)) cps (orcL (spec_l2Any_es N))) N spec_l2Any_an spec_l2Any_sg spec_l2Any_bx Try.f142 (Try.f142.body.getD .skip) [.ptr ty1 c] (un2 ty1 ty7) = spec_l2Any N c := by kernel_rfl
noncomputable def spec_l2Any_e (N : Nat) : Entry Try.prog := ⟨142, spec_l2Any_sg, [.p ty1], (List Int × Int × Int) × ByteArray × Int × Int, spec_l2Any N, pk2 ty1 ty7, entry_en Try.func142 (code := Try.f142.body.getD .skip) (by kernel_rfl) (by kernel_rfl),
 fun c => entry_okB tab_ok (es := spec_l2Any_es N) (by kernel_rfl) mixed Try.func142 (by kernel_rfl) rfl rfl (fun _ => ⟨_, _, rfl⟩) (un2_pk ty1 ty7) (spec_l2Any_v N c)⟩
def spec_l4Any_bx : BoxSig := ⟨0, 133, [.fx, .ro, .ro]⟩
def spec_l4Any_sg : Sig := ⟨[.ptr ty1], [(ty5, .ro)], false, false, some spec_l4Any_bx, none⟩
noncomputable def spec_l4Any_es (N : Nat) : List (Entry Try.prog) := [spec_l4Db_e N, spec_l1Below_e N, spec_l3Any_e N, spec_l2Any_e N]
def spec_l4Any_an : Nat → Option (List Nat) := fun _ => none
theorem spec_l4Any_v (N : Nat) (c : List Int × Int × Int) :
  evFnB Tb (sigL (spec_l4Any_es N)) cps (orcL (spec_l4Any_es N)) (drawReg Tb (sigL (spec_l4Any_es N)) cps (orcL (spec_l4Any_es N))) N spec_l4Any_an spec_l4Any_sg spec_l4Any_bx Try.f76 (Try.f76.body.getD .skip) [.ptr ty1 c] (un2 ty1 ty5) = spec_l4Any N c := by kernel_rfl
noncomputable def spec_l4Any_e (N : Nat) : Entry Try.prog := ⟨76, spec_l4Any_sg, [.p ty1], (List Int × Int × Int) × List (ByteArray × Int × Int) × List (Int × List Int), spec_l4Any N, pk2 ty1 ty5, entry_en Try.func76 (code := Try.f76.body.getD .skip) (by kernel_rfl) (by kernel_rfl),
 fun c => entry_okB tab_ok (es := spec_l4Any_es N) (by kernel_rfl) mixed Try.func76 (by kernel_rfl) rfl rfl (fun _ => ⟨_, _, rfl⟩) (un2_pk ty1 ty5) (spec_l4Any_v N c)⟩
def spec_l1Once_bx : BoxSig := ⟨0, 133, [.fx, .ro, .ro]⟩
def spec_l1Once_sg : Sig := ⟨[.ptr ty1, .val i64], [(.bool, .dp)], false, false, some spec_l1Once_bx, none⟩
noncomputable def spec_l1Once_es (N : Nat) : List (Entry Try.prog) := [spec_l1Below_e N]
def spec_l1Once_an : Nat → Option (List Nat) := fun _ => none
theorem spec_l1Once_v (N : Nat) (c : List Int × Int × Int) (n : Int) :
  evFnB Tb (sigL (spec_l1Once_es N)) cps (orcL (spec_l1Once_es N)) (drawReg Tb (sigL (spec_l1Once_es N)) cps (orcL (spec_l1Once_es N))) N spec_l1Once_an spec_l1Once_sg spec_l1Once_bx Try.f116 (Try.f116.body.getD .skip) [.ptr ty1 c, .val i64 n] (un2 ty1 .bool) = spec_l1Once N c n := by kernel_rfl
noncomputable def spec_l1Once_e (N : Nat) : Entry Try.prog := ⟨116, spec_l1Once_sg, [.p ty1, .v i64], (List Int × Int × Int) × Bool, spec_l1Once N, pk2 ty1 .bool, entry_en Try.func116 (code := Try.f116.body.getD .skip) (by kernel_rfl) (by kernel_rfl),
 fun c n => entry_okB tab_ok (es := spec_l1Once_es N) (by kernel_rfl) mixed Try.func116 (by kernel_rfl) rfl rfl (fun _ => ⟨_, _, rfl⟩) (un2_pk ty1 .bool) (spec_l1Once_v N c n)⟩
def spec_l37Weights_bx : BoxSig := ⟨0, 133, [.fx, .ro, .ro]⟩
def spec_l37Weights_sg : Sig := ⟨[.ptr ty1, .val ty5], [(ty2, .dp)], false, false, some spec_l37Weights_bx, none⟩
noncomputable def spec_l37Weights_es (N : Nat) : List (Entry Try.prog) := [spec_l1Below_e N, spec_l1Once_e N, spec_l1PickInt_e N]
def spec_l37Weights_an : Nat → Option (List Nat)
 | 0 => some [0, 3, 5, 6]
 | _ => none
noncomputable def spec_l37Weights_lp (N : Nat) (p : List Dir) (rs : List (Env → Option ((List Int × Int × Int) × List Int))) (k : Nat) (env : Env) : Option ((List Int × Int × Int) × List Int) :=
 loopAt Tb (sigL (spec_l37Weights_es N)) cps (orcL (spec_l37Weights_es N)) N spec_l37Weights_an p (Try.f115.body.getD .skip) (endB Tb spec_l37Weights_sg spec_l37Weights_bx Try.f115 ty1 (un2 ty1 ty2)) rs k env
noncomputable def spec_l37Weights_l0_E (N : Nat) (k_ : Nat) (c2 : List Int) (c3 : Int) (c4 : Int) (d2 : List (ByteArray × Int × Int)) (d3 : List (Int × List Int)) (w : List Int) (most : Int) : Option ((List Int × Int × Int) × List Int) :=
 spec_l37Weights_lp N [.r, .r, .r, .l, .b] [] k_ (.con (.box ⟨133, true, [true, false, false]⟩) [lf ty0 c2 .ro, lf i64 c3 .ro, lf i64 c4 .ro] :: (un 2 (.con (.box ⟨27, false, []⟩) [lf ty3 d2 .ro, lf ty6 d3 .ro] :: (un 1 (.con .val [lf ty2 w .dp] :: (.con .val [lf i64 most .ro] :: (un 30 [])))))))
theorem spec_l37Weights_l0_z (N : Nat) (c2 : List Int) (c3 : Int) (c4 : Int) (d2 : List (ByteArray × Int × Int)) (d3 : List (Int × List Int)) (w : List Int) (most : Int) : spec_l37Weights_l0_E N 0 c2 c3 c4 d2 d3 w most = none := by kernel_rfl
theorem spec_l37Weights_l0_s (N : Nat) (k_ : Nat) (c2 : List Int) (c3 : Int) (c4 : Int) (d2 : List (ByteArray × Int × Int)) (d3 : List (Int × List Int)) (w : List Int) (most : Int) : spec_l37Weights_l0_E N (k_ + 1) c2 c3 c4 d2 d3 w most = spec_l37Weights_l0_b N (spec_l37Weights_l0_E N k_) c2 c3 c4 d2 d3 w most := by kernel_rfl
theorem spec_l37Weights_l0_q (N : Nat) : ∀ k_, spec_l37Weights_l0_E N k_ = spec_l37Weights_l0 N k_
 | 0 => by funext c2 c3 c4 d2 d3 w most; exact spec_l37Weights_l0_z N c2 c3 c4 d2 d3 w most
 | k_ + 1 => by funext c2 c3 c4 d2 d3 w most; rw [spec_l37Weights_l0_s]; simp only [spec_l37Weights_l0_q N k_]; rfl
theorem spec_l37Weights_v (N : Nat) (c : List Int × Int × Int) (d : List (ByteArray × Int × Int) × List (Int × List Int)) :
  evFnB Tb (sigL (spec_l37Weights_es N)) cps (orcL (spec_l37Weights_es N)) (drawReg Tb (sigL (spec_l37Weights_es N)) cps (orcL (spec_l37Weights_es N))) N spec_l37Weights_an spec_l37Weights_sg spec_l37Weights_bx Try.f115 (Try.f115.body.getD .skip) [.ptr ty1 c, .val ty5 d] (un2 ty1 ty2) = spec_l37Weights_b N (spec_l37Weights_l0_E N N) c d := by kernel_rfl
noncomputable def spec_l37Weights_e (N : Nat) : Entry Try.prog := ⟨115, spec_l37Weights_sg, [.p ty1, .v ty5], (List Int × Int × Int) × List Int, spec_l37Weights N, pk2 ty1 ty2, entry_en Try.func115 (code := Try.f115.body.getD .skip) (by kernel_rfl) (by kernel_rfl),
 fun c d => entry_okB tab_ok (es := spec_l37Weights_es N) (by kernel_rfl) mixed Try.func115 (by kernel_rfl) rfl rfl (fun _ => ⟨_, _, rfl⟩) (un2_pk ty1 ty2) ((spec_l37Weights_v N c d).trans (by rw [spec_l37Weights_l0_q]; rfl))⟩
def spec_DrawAreValidWeights_sg : Sig := ⟨[.val ty0], [(ty5, .ro), (ty2, .dp)], false, false, none, none⟩
noncomputable def spec_DrawAreValidWeights_es (N : Nat) : List (Entry Try.prog) := [spec_l1New_e N, spec_l4Any_e N, spec_l37Weights_e N, spec_l1Once_e N]
def spec_DrawAreValidWeights_an : Nat → Option (List Nat) := fun _ => none
theorem spec_DrawAreValidWeights_v (N : Nat) (code : List Int) :
  evFn Tb (sigL (spec_DrawAreValidWeights_es N)) cps (orcL (spec_DrawAreValidWeights_es N)) (drawReg Tb (sigL (spec_DrawAreValidWeights_es N)) cps (orcL (spec_DrawAreValidWeights_es N))) N spec_DrawAreValidWeights_an spec_DrawAreValidWeights_sg Try.f114 (Try.f114.body.getD .skip) [.val ty0 code] (un2 ty5 ty2) = spec_DrawAreValidWeights N code := by kernel_rfl
noncomputable def spec_DrawAreValidWeights_e (N : Nat) : Entry Try.prog := ⟨114, spec_DrawAreValidWeights_sg, [.v ty0], (List (ByteArray × Int × Int) × List (Int × List Int)) × List Int, spec_DrawAreValidWeights N, pk2 ty5 ty2, entry_en Try.func114 (code := Try.f114.body.getD .skip) (by kernel_rfl) (by kernel_rfl),
 fun code => entry_ok tab_ok (es := spec_DrawAreValidWeights_es N) (by kernel_rfl) mixed Try.func114 (by kernel_rfl) ⟨⟨rfl, rfl⟩, rfl, rfl⟩ (un2_pk ty5 ty2) (spec_DrawAreValidWeights_v N code)⟩
def spec_DrawMostLikelyRepair_sg : Sig := ⟨[.val ty0], [(ty5, .ro), (ty2, .dp)], false, false, none, none⟩
noncomputable def spec_DrawMostLikelyRepair_es (N : Nat) : List (Entry Try.prog) := [spec_DrawAreValidWeights_e N]
def spec_DrawMostLikelyRepair_an : Nat → Option (List Nat) := fun _ => none
theorem spec_DrawMostLikelyRepair_v (N : Nat) (code : List Int) :
  evFn Tb (sigL (spec_DrawMostLikelyRepair_es N)) cps (orcL (spec_DrawMostLikelyRepair_es N)) (drawReg Tb (sigL (spec_DrawMostLikelyRepair_es N)) cps (orcL (spec_DrawMostLikelyRepair_es N))) N spec_DrawMostLikelyRepair_an spec_DrawMostLikelyRepair_sg Try.f43 (Try.f43.body.getD .skip) [.val ty0 code] (un2 ty5 ty2) = spec_DrawMostLikelyRepair N code := by kernel_rfl
noncomputable def spec_DrawMostLikelyRepair_e (N : Nat) : Entry Try.prog := ⟨43, spec_DrawMostLikelyRepair_sg, [.v ty0], (List (ByteArray × Int × Int) × List (Int × List Int)) × List Int, spec_DrawMostLikelyRepair N, pk2 ty5 ty2, entry_en Try.func43 (code := Try.f43.body.getD .skip) (by kernel_rfl) (by kernel_rfl),
 fun code => entry_ok tab_ok (es := spec_DrawMostLikelyRepair_es N) (by kernel_rfl) mixed Try.func43 (by kernel_rfl) ⟨⟨rfl, rfl⟩, rfl, rfl⟩ (un2_pk ty5 ty2) (spec_DrawMostLikelyRepair_v N code)⟩
def impl_within_sg : Sig := ⟨[.val i64, .val i64, .val i64], [(.bool, .dp)], false, false, none, none⟩
noncomputable def impl_within_es (N : Nat) : List (Entry Try.prog) := []
def impl_within_an : Nat → Option (List Nat) := fun _ => none
theorem impl_within_v (N : Nat) (n : Int) (low : Int) (high : Int) :
  evFn Tb (sigL (impl_within_es N)) cps (orcL (impl_within_es N)) (drawReg Tb (sigL (impl_within_es N)) cps (orcL (impl_within_es N))) N impl_within_an impl_within_sg Try.f103 (Try.f103.body.getD .skip) [.val i64 n, .val i64 low, .val i64 high] (un1 .bool) = impl_within N n low high := by kernel_rfl
noncomputable def impl_within_e (N : Nat) : Entry Try.prog := ⟨103, impl_within_sg, [.v i64, .v i64, .v i64], Bool, impl_within N, pk1 .bool, entry_en Try.func103 (code := Try.f103.body.getD .skip) (by kernel_rfl) (by kernel_rfl),
 fun n low high => entry_ok tab_ok (es := impl_within_es N) (by kernel_rfl) mixed Try.func103 (by kernel_rfl) ⟨⟨rfl, rfl⟩, rfl, rfl⟩ (un1_pk .bool) (impl_within_v N n low high)⟩
def impl_IsValidRelation_sg : Sig := ⟨[.val ty7], [(.bool, .dp)], false, false, none, none⟩
noncomputable def impl_IsValidRelation_es (N : Nat) : List (Entry Try.prog) := [impl_within_e N]
def impl_IsValidRelation_an : Nat → Option (List Nat) := fun _ => none
theorem impl_IsValidRelation_v (N : Nat) (relation : ByteArray × Int × Int) :
  evFn Tb (sigL (impl_IsValidRelation_es N)) cps (orcL (impl_IsValidRelation_es N)) (drawReg Tb (sigL (impl_IsValidRelation_es N)) cps (orcL (impl_IsValidRelation_es N))) N impl_IsValidRelation_an impl_IsValidRelation_sg Try.f189 (Try.f189.body.getD .skip) [.val ty7 relation] (un1 .bool) = impl_IsValidRelation N relation := by kernel_rfl
noncomputable def impl_IsValidRelation_e (N : Nat) : Entry Try.prog := ⟨189, impl_IsValidRelation_sg, [.v ty7], Bool, impl_IsValidRelation N, pk1 .bool, entry_en Try.func189 (code := Try.f189.body.getD .skip) (by kernel_rfl) (by kernel_rfl),
 fun relation => entry_ok tab_ok (es := impl_IsValidRelation_es N) (by kernel_rfl) mixed Try.func189 (by kernel_rfl) ⟨⟨rfl, rfl⟩, rfl, rfl⟩ (un1_pk .bool) (impl_IsValidRelation_v N relation)⟩
def impl_AreValidRelations_sg : Sig := ⟨[.val ty3], [(.bool, .dp)], false, false, none, none⟩
noncomputable def impl_AreValidRelations_es (N : Nat) : List (Entry Try.prog) := [impl_IsValidRelation_e N]
def impl_AreValidRelations_an : Nat → Option (List Nat)
 | 0 => some [0, 5, 6, 7]
 | _ => none
noncomputable def impl_AreValidRelations_lp (N : Nat) (p : List Dir) (rs : List (Env → Option (Bool))) (k : Nat) (env : Env) : Option (Bool) :=
 loopAt Tb (sigL (impl_AreValidRelations_es N)) cps (orcL (impl_AreValidRelations_es N)) N impl_AreValidRelations_an p (Try.f143.body.getD .skip) (endK Tb impl_AreValidRelations_sg Try.f143 [] (un1 .bool)) rs k env
noncomputable def impl_AreValidRelations_l0_E (N : Nat) (k_ : Nat) (relations2 : List (ByteArray × Int × Int)) (t5 : List (ByteArray × Int × Int)) (t6 : Int) (t7 : Int) : Option (Bool) :=
 impl_AreValidRelations_lp N [.r, .l, .r, .b] [] k_ (.con .val [lf ty3 relations2 .ro] :: (un 4 (.con .val [lf ty3 t5 .ro] :: (.con .val [lf i64 t6 .ro] :: (.con .val [lf i64 t7 .ro] :: (un 26 []))))))
theorem impl_AreValidRelations_l0_z (N : Nat) (relations2 : List (ByteArray × Int × Int)) (t5 : List (ByteArray × Int × Int)) (t6 : Int) (t7 : Int) : impl_AreValidRelations_l0_E N 0 relations2 t5 t6 t7 = none := by kernel_rfl
theorem impl_AreValidRelations_l0_s (N : Nat) (k_ : Nat) (relations2 : List (ByteArray × Int × Int)) (t5 : List (ByteArray × Int × Int)) (t6 : Int) (t7 : Int) : impl_AreValidRelations_l0_E N (k_ + 1) relations2 t5 t6 t7 = impl_AreValidRelations_l0_b N (impl_AreValidRelations_l0_E N k_) relations2 t5 t6 t7 := by kernel_rfl
theorem impl_AreValidRelations_l0_q (N : Nat) : ∀ k_, impl_AreValidRelations_l0_E N k_ = impl_AreValidRelations_l0 N k_
 | 0 => by funext relations2 t5 t6 t7; exact impl_AreValidRelations_l0_z N relations2 t5 t6 t7
 | k_ + 1 => by funext relations2 t5 t6 t7; rw [impl_AreValidRelations_l0_s]; simp only [impl_AreValidRelations_l0_q N k_]; rfl
theorem impl_AreValidRelations_v (N : Nat) (relations : List (ByteArray × Int × Int)) :
  evFn Tb (sigL (impl_AreValidRelations_es N)) cps (orcL (impl_AreValidRelations_es N)) (drawReg Tb (sigL (impl_AreValidRelations_es N)) cps (orcL (impl_AreValidRelations_es N))) N impl_AreValidRelations_an impl_AreValidRelations_sg Try.f143 (Try.f143.body.getD .skip) [.val ty3 relations] (un1 .bool) = impl_AreValidRelations_b N (impl_AreValidRelations_l0_E N N) relations := by kernel_rfl
noncomputable def impl_AreValidRelations_e (N : Nat) : Entry Try.prog := ⟨143, impl_AreValidRelations_sg, [.v ty3], Bool, impl_AreValidRelations N, pk1 .bool, entry_en Try.func143 (code := Try.f143.body.getD .skip) (by kernel_rfl) (by kernel_rfl),
 fun relations => entry_ok tab_ok (es := impl_AreValidRelations_es N) (by kernel_rfl) mixed Try.func143 (by kernel_rfl) ⟨⟨rfl, rfl⟩, rfl, rfl⟩ (un1_pk .bool) ((impl_AreValidRelations_v N relations).trans (by rw [impl_AreValidRelations_l0_q]; rfl))⟩
def impl_areValues_c1_sg : Sig := ⟨[.val i64], [(.bool, .dp)], false, false, none, none⟩
noncomputable def impl_areValues_c1_es (N : Nat) : List (Entry Try.prog) := [impl_within_e N]
def impl_areValues_c1_an : Nat → Option (List Nat) := fun _ => none
theorem impl_areValues_c1_v (N : Nat) (v : Int) :
  evFn Tb (sigL (impl_areValues_c1_es N)) cps (orcL (impl_areValues_c1_es N)) (drawReg Tb (sigL (impl_areValues_c1_es N)) cps (orcL (impl_areValues_c1_es N))) N impl_areValues_c1_an impl_areValues_c1_sg Try.f217 (Try.f217.body.getD .skip) [.val i64 v] (un1 .bool) = impl_areValues_c1 N v := by kernel_rfl
noncomputable def impl_areValues_c1_e (N : Nat) : Entry Try.prog := ⟨217, impl_areValues_c1_sg, [.v i64], Bool, impl_areValues_c1 N, pk1 .bool, entry_en Try.func217 (code := Try.f217.body.getD .skip) (by kernel_rfl) (by kernel_rfl),
 fun v => entry_ok tab_ok (es := impl_areValues_c1_es N) (by kernel_rfl) mixed Try.func217 (by kernel_rfl) ⟨⟨rfl, rfl⟩, rfl, rfl⟩ (un1_pk .bool) (impl_areValues_c1_v N v)⟩
def slices_IndexFunc_Lint_int_areValues_c1_sg : Sig := ⟨[.val ty2, .clo], [(i64, .dp)], false, false, none, none⟩
noncomputable def slices_IndexFunc_Lint_int_areValues_c1_es (N : Nat) : List (Entry Try.prog) := [impl_areValues_c1_e N]
def slices_IndexFunc_Lint_int_areValues_c1_an : Nat → Option (List Nat)
 | 0 => some [0, 1, 7, 8]
 | _ => none
noncomputable def slices_IndexFunc_Lint_int_areValues_c1_lp (N : Nat) (p : List Dir) (rs : List (Env → Option (Int))) (k : Nat) (env : Env) : Option (Int) :=
 loopAt Tb (sigL (slices_IndexFunc_Lint_int_areValues_c1_es N)) cps (orcL (slices_IndexFunc_Lint_int_areValues_c1_es N)) N slices_IndexFunc_Lint_int_areValues_c1_an p (Try.f167.body.getD .skip) (endK Tb slices_IndexFunc_Lint_int_areValues_c1_sg Try.f167 [] (un1 i64)) rs k env
noncomputable def slices_IndexFunc_Lint_int_areValues_c1_l0_E (N : Nat) (k_ : Nat) (s2 : List Int) (t7 : Int) (t8 : Int) : Option (Int) :=
 slices_IndexFunc_Lint_int_areValues_c1_lp N [.r, .l, .r, .b] [] k_ (.con .val [lf ty2 s2 .ro] :: (.cloR 217 [] :: (un 5 (.con .val [lf i64 t7 .ro] :: (.con .val [lf i64 t8 .ro] :: (un 10 []))))))
theorem slices_IndexFunc_Lint_int_areValues_c1_l0_z (N : Nat) (s2 : List Int) (t7 : Int) (t8 : Int) : slices_IndexFunc_Lint_int_areValues_c1_l0_E N 0 s2 t7 t8 = none := by kernel_rfl
theorem slices_IndexFunc_Lint_int_areValues_c1_l0_s (N : Nat) (k_ : Nat) (s2 : List Int) (t7 : Int) (t8 : Int) : slices_IndexFunc_Lint_int_areValues_c1_l0_E N (k_ + 1) s2 t7 t8 = slices_IndexFunc_Lint_int_areValues_c1_l0_b N (slices_IndexFunc_Lint_int_areValues_c1_l0_E N k_) s2 t7 t8 := by kernel_rfl
theorem slices_IndexFunc_Lint_int_areValues_c1_l0_q (N : Nat) : ∀ k_, slices_IndexFunc_Lint_int_areValues_c1_l0_E N k_ = slices_IndexFunc_Lint_int_areValues_c1_l0 N k_
 | 0 => by funext s2 t7 t8; exact slices_IndexFunc_Lint_int_areValues_c1_l0_z N s2 t7 t8
 | k_ + 1 => by funext s2 t7 t8; rw [slices_IndexFunc_Lint_int_areValues_c1_l0_s]; simp only [slices_IndexFunc_Lint_int_areValues_c1_l0_q N k_]; rfl
theorem slices_IndexFunc_Lint_int_areValues_c1_v (N : Nat) (s : List Int) :
  evFn Tb (sigL (slices_IndexFunc_Lint_int_areValues_c1_es N)) cps (orcL (slices_IndexFunc_Lint_int_areValues_c1_es N)) (drawReg Tb (sigL (slices_IndexFunc_Lint_int_areValues_c1_es N)) cps (orcL (slices_IndexFunc_Lint_int_areValues_c1_es N))) N slices_IndexFunc_Lint_int_areValues_c1_an slices_IndexFunc_Lint_int_areValues_c1_sg Try.f167 (Try.f167.body.getD .skip) [.val ty2 s, .clo 217 []] (un1 i64) = slices_IndexFunc_Lint_int_areValues_c1_b N (slices_IndexFunc_Lint_int_areValues_c1_l0_E N N) s := by kernel_rfl
noncomputable def slices_IndexFunc_Lint_int_areValues_c1_e (N : Nat) : Entry Try.prog := ⟨167, slices_IndexFunc_Lint_int_areValues_c1_sg, [.v ty2, .c 217 []], Int, slices_IndexFunc_Lint_int_areValues_c1 N, pk1 i64, entry_en Try.func167 (code := Try.f167.body.getD .skip) (by kernel_rfl) (by kernel_rfl),
 fun s => entry_ok tab_ok (es := slices_IndexFunc_Lint_int_areValues_c1_es N) (by kernel_rfl) mixed Try.func167 (by kernel_rfl) ⟨⟨rfl, rfl⟩, rfl, rfl⟩ (un1_pk i64) ((slices_IndexFunc_Lint_int_areValues_c1_v N s).trans (by rw [slices_IndexFunc_Lint_int_areValues_c1_l0_q]; rfl))⟩
def slices_ContainsFunc_Lint_int_areValues_c1_sg : Sig := ⟨[.val ty2, .clo], [(.bool, .dp)], false, false, none, none⟩
noncomputable def slices_ContainsFunc_Lint_int_areValues_c1_es (N : Nat) : List (Entry Try.prog) := [slices_IndexFunc_Lint_int_areValues_c1_e N]
def slices_ContainsFunc_Lint_int_areValues_c1_an : Nat → Option (List Nat) := fun _ => none
theorem slices_ContainsFunc_Lint_int_areValues_c1_v (N : Nat) (s : List Int) :
  evFn Tb (sigL (slices_ContainsFunc_Lint_int_areValues_c1_es N)) cps (orcL (slices_ContainsFunc_Lint_int_areValues_c1_es N)) (drawReg Tb (sigL (slices_ContainsFunc_Lint_int_areValues_c1_es N)) cps (orcL (slices_ContainsFunc_Lint_int_areValues_c1_es N))) N slices_ContainsFunc_Lint_int_areValues_c1_an slices_ContainsFunc_Lint_int_areValues_c1_sg Try.f119 (Try.f119.body.getD .skip) [.val ty2 s, .clo 217 []] (un1 .bool) = slices_ContainsFunc_Lint_int_areValues_c1 N s := by kernel_rfl
noncomputable def slices_ContainsFunc_Lint_int_areValues_c1_e (N : Nat) : Entry Try.prog := ⟨119, slices_ContainsFunc_Lint_int_areValues_c1_sg, [.v ty2, .c 217 []], Bool, slices_ContainsFunc_Lint_int_areValues_c1 N, pk1 .bool, entry_en Try.func119 (code := Try.f119.body.getD .skip) (by kernel_rfl) (by kernel_rfl),
 fun s => entry_ok tab_ok (es := slices_ContainsFunc_Lint_int_areValues_c1_es N) (by kernel_rfl) mixed Try.func119 (by kernel_rfl) ⟨⟨rfl, rfl⟩, rfl, rfl⟩ (un1_pk .bool) (slices_ContainsFunc_Lint_int_areValues_c1_v N s)⟩
def impl_areValues_sg : Sig := ⟨[.val ty2], [(.bool, .dp)], false, false, none, none⟩
noncomputable def impl_areValues_es (N : Nat) : List (Entry Try.prog) := [slices_ContainsFunc_Lint_int_areValues_c1_e N]
def impl_areValues_an : Nat → Option (List Nat) := fun _ => none
theorem impl_areValues_v (N : Nat) (list : List Int) :
  evFn Tb (sigL (impl_areValues_es N)) cps (orcL (impl_areValues_es N)) (drawReg Tb (sigL (impl_areValues_es N)) cps (orcL (impl_areValues_es N))) N impl_areValues_an impl_areValues_sg Try.f190 (Try.f190.body.getD .skip) [.val ty2 list] (un1 .bool) = impl_areValues N list := by kernel_rfl
noncomputable def impl_areValues_e (N : Nat) : Entry Try.prog := ⟨190, impl_areValues_sg, [.v ty2], Bool, impl_areValues N, pk1 .bool, entry_en Try.func190 (code := Try.f190.body.getD .skip) (by kernel_rfl) (by kernel_rfl),
 fun list => entry_ok tab_ok (es := impl_areValues_es N) (by kernel_rfl) mixed Try.func190 (by kernel_rfl) ⟨⟨rfl, rfl⟩, rfl, rfl⟩ (un1_pk .bool) (impl_areValues_v N list)⟩
def impl_isFact_sg : Sig := ⟨[.val ty3, .val ty4], [(.bool, .dp)], false, false, none, none⟩
noncomputable def impl_isFact_es (N : Nat) : List (Entry Try.prog) := [impl_within_e N, impl_areValues_e N]
def impl_isFact_an : Nat → Option (List Nat) := fun _ => none
theorem impl_isFact_v (N : Nat) (relations : List (ByteArray × Int × Int)) (fact : Int × List Int) :
  evFn Tb (sigL (impl_isFact_es N)) cps (orcL (impl_isFact_es N)) (drawReg Tb (sigL (impl_isFact_es N)) cps (orcL (impl_isFact_es N))) N impl_isFact_an impl_isFact_sg Try.f144 (Try.f144.body.getD .skip) [.val ty3 relations, .val ty4 fact] (un1 .bool) = impl_isFact N relations fact := by kernel_rfl
noncomputable def impl_isFact_e (N : Nat) : Entry Try.prog := ⟨144, impl_isFact_sg, [.v ty3, .v ty4], Bool, impl_isFact N, pk1 .bool, entry_en Try.func144 (code := Try.f144.body.getD .skip) (by kernel_rfl) (by kernel_rfl),
 fun relations fact => entry_ok tab_ok (es := impl_isFact_es N) (by kernel_rfl) mixed Try.func144 (by kernel_rfl) ⟨⟨rfl, rfl⟩, rfl, rfl⟩ (un1_pk .bool) (impl_isFact_v N relations fact)⟩
def impl_compare_sg : Sig := ⟨[.val i64, .val i64], [(i64, .dp)], false, false, none, none⟩
noncomputable def impl_compare_es (N : Nat) : List (Entry Try.prog) := []
def impl_compare_an : Nat → Option (List Nat) := fun _ => none
theorem impl_compare_v (N : Nat) (a : Int) (b : Int) :
  evFn Tb (sigL (impl_compare_es N)) cps (orcL (impl_compare_es N)) (drawReg Tb (sigL (impl_compare_es N)) cps (orcL (impl_compare_es N))) N impl_compare_an impl_compare_sg Try.f177 (Try.f177.body.getD .skip) [.val i64 a, .val i64 b] (un1 i64) = impl_compare N a b := by kernel_rfl
noncomputable def impl_compare_e (N : Nat) : Entry Try.prog := ⟨177, impl_compare_sg, [.v i64, .v i64], Int, impl_compare N, pk1 i64, entry_en Try.func177 (code := Try.f177.body.getD .skip) (by kernel_rfl) (by kernel_rfl),
 fun a b => entry_ok tab_ok (es := impl_compare_es N) (by kernel_rfl) mixed Try.func177 (by kernel_rfl) ⟨⟨rfl, rfl⟩, rfl, rfl⟩ (un1_pk i64) (impl_compare_v N a b)⟩
def cmp_isNaN_int_sg : Sig := ⟨[.val i64], [(.bool, .dp)], false, false, none, none⟩
noncomputable def cmp_isNaN_int_es (N : Nat) : List (Entry Try.prog) := []
def cmp_isNaN_int_an : Nat → Option (List Nat) := fun _ => none
theorem cmp_isNaN_int_v (N : Nat) (x : Int) :
  evFn Tb (sigL (cmp_isNaN_int_es N)) cps (orcL (cmp_isNaN_int_es N)) (drawReg Tb (sigL (cmp_isNaN_int_es N)) cps (orcL (cmp_isNaN_int_es N))) N cmp_isNaN_int_an cmp_isNaN_int_sg Try.f224 (Try.f224.body.getD .skip) [.val i64 x] (un1 .bool) = cmp_isNaN_int N x := by kernel_rfl
noncomputable def cmp_isNaN_int_e (N : Nat) : Entry Try.prog := ⟨224, cmp_isNaN_int_sg, [.v i64], Bool, cmp_isNaN_int N, pk1 .bool, entry_en Try.func224 (code := Try.f224.body.getD .skip) (by kernel_rfl) (by kernel_rfl),
 fun x => entry_ok tab_ok (es := cmp_isNaN_int_es N) (by kernel_rfl) mixed Try.func224 (by kernel_rfl) ⟨⟨rfl, rfl⟩, rfl, rfl⟩ (un1_pk .bool) (cmp_isNaN_int_v N x)⟩
def cmp_Compare_int_sg : Sig := ⟨[.val i64, .val i64], [(i64, .dp)], false, false, none, none⟩
noncomputable def cmp_Compare_int_es (N : Nat) : List (Entry Try.prog) := [cmp_isNaN_int_e N]
def cmp_Compare_int_an : Nat → Option (List Nat) := fun _ => none
theorem cmp_Compare_int_v (N : Nat) (x : Int) (y : Int) :
  evFn Tb (sigL (cmp_Compare_int_es N)) cps (orcL (cmp_Compare_int_es N)) (drawReg Tb (sigL (cmp_Compare_int_es N)) cps (orcL (cmp_Compare_int_es N))) N cmp_Compare_int_an cmp_Compare_int_sg Try.f211 (Try.f211.body.getD .skip) [.val i64 x, .val i64 y] (un1 i64) = cmp_Compare_int N x y := by kernel_rfl
noncomputable def cmp_Compare_int_e (N : Nat) : Entry Try.prog := ⟨211, cmp_Compare_int_sg, [.v i64, .v i64], Int, cmp_Compare_int N, pk1 i64, entry_en Try.func211 (code := Try.f211.body.getD .skip) (by kernel_rfl) (by kernel_rfl),
 fun x y => entry_ok tab_ok (es := cmp_Compare_int_es N) (by kernel_rfl) mixed Try.func211 (by kernel_rfl) ⟨⟨rfl, rfl⟩, rfl, rfl⟩ (un1_pk i64) (cmp_Compare_int_v N x y)⟩
def slices_Compare_Lint_int_sg : Sig := ⟨[.val ty2, .val ty2], [(i64, .dp)], false, false, none, none⟩
noncomputable def slices_Compare_Lint_int_es (N : Nat) : List (Entry Try.prog) := [cmp_Compare_int_e N]
def slices_Compare_Lint_int_an : Nat → Option (List Nat)
 | 0 => some [0, 1, 9, 10, 11]
 | _ => none
noncomputable def slices_Compare_Lint_int_lp (N : Nat) (p : List Dir) (rs : List (Env → Option (Int))) (k : Nat) (env : Env) : Option (Int) :=
 loopAt Tb (sigL (slices_Compare_Lint_int_es N)) cps (orcL (slices_Compare_Lint_int_es N)) N slices_Compare_Lint_int_an p (Try.f178.body.getD .skip) (endK Tb slices_Compare_Lint_int_sg Try.f178 [] (un1 i64)) rs k env
noncomputable def slices_Compare_Lint_int_l0_E (N : Nat) (k_ : Nat) (s12 : List Int) (s22 : List Int) (t9 : List Int) (t10 : Int) (t11 : Int) : Option (Int) :=
 slices_Compare_Lint_int_lp N [.r, .l, .r, .b] [] k_ (.con .val [lf ty2 s12 .ro] :: (.con .val [lf ty2 s22 .ro] :: (un 7 (.con .val [lf ty2 t9 .ro] :: (.con .val [lf i64 t10 .ro] :: (.con .val [lf i64 t11 .ro] :: (un 24 [])))))))
theorem slices_Compare_Lint_int_l0_z (N : Nat) (s12 : List Int) (s22 : List Int) (t9 : List Int) (t10 : Int) (t11 : Int) : slices_Compare_Lint_int_l0_E N 0 s12 s22 t9 t10 t11 = none := by kernel_rfl
theorem slices_Compare_Lint_int_l0_s (N : Nat) (k_ : Nat) (s12 : List Int) (s22 : List Int) (t9 : List Int) (t10 : Int) (t11 : Int) : slices_Compare_Lint_int_l0_E N (k_ + 1) s12 s22 t9 t10 t11 = slices_Compare_Lint_int_l0_b N (slices_Compare_Lint_int_l0_E N k_) s12 s22 t9 t10 t11 := by kernel_rfl
theorem slices_Compare_Lint_int_l0_q (N : Nat) : ∀ k_, slices_Compare_Lint_int_l0_E N k_ = slices_Compare_Lint_int_l0 N k_
 | 0 => by funext s12 s22 t9 t10 t11; exact slices_Compare_Lint_int_l0_z N s12 s22 t9 t10 t11
 | k_ + 1 => by funext s12 s22 t9 t10 t11; rw [slices_Compare_Lint_int_l0_s]; simp only [slices_Compare_Lint_int_l0_q N k_]; rfl
theorem slices_Compare_Lint_int_v (N : Nat) (s1 : List Int) (s2 : List Int) :
  evFn Tb (sigL (slices_Compare_Lint_int_es N)) cps (orcL (slices_Compare_Lint_int_es N)) (drawReg Tb (sigL (slices_Compare_Lint_int_es N)) cps (orcL (slices_Compare_Lint_int_es N))) N slices_Compare_Lint_int_an slices_Compare_Lint_int_sg Try.f178 (Try.f178.body.getD .skip) [.val ty2 s1, .val ty2 s2] (un1 i64) = slices_Compare_Lint_int_b N (slices_Compare_Lint_int_l0_E N N) s1 s2 := by kernel_rfl
noncomputable def slices_Compare_Lint_int_e (N : Nat) : Entry Try.prog := ⟨178, slices_Compare_Lint_int_sg, [.v ty2, .v ty2], Int, slices_Compare_Lint_int N, pk1 i64, entry_en Try.func178 (code := Try.f178.body.getD .skip) (by kernel_rfl) (by kernel_rfl),
 fun s1 s2 => entry_ok tab_ok (es := slices_Compare_Lint_int_es N) (by kernel_rfl) mixed Try.func178 (by kernel_rfl) ⟨⟨rfl, rfl⟩, rfl, rfl⟩ (un1_pk i64) ((slices_Compare_Lint_int_v N s1 s2).trans (by rw [slices_Compare_Lint_int_l0_q]; rfl))⟩
def impl_CompareFacts_sg : Sig := ⟨[.val ty4, .val ty4], [(i64, .dp)], false, false, none, none⟩
noncomputable def impl_CompareFacts_es (N : Nat) : List (Entry Try.prog) := [impl_compare_e N, slices_Compare_Lint_int_e N]
def impl_CompareFacts_an : Nat → Option (List Nat) := fun _ => none
theorem impl_CompareFacts_v (N : Nat) (a : Int × List Int) (b : Int × List Int) :
  evFn Tb (sigL (impl_CompareFacts_es N)) cps (orcL (impl_CompareFacts_es N)) (drawReg Tb (sigL (impl_CompareFacts_es N)) cps (orcL (impl_CompareFacts_es N))) N impl_CompareFacts_an impl_CompareFacts_sg Try.f132 (Try.f132.body.getD .skip) [.val ty4 a, .val ty4 b] (un1 i64) = impl_CompareFacts N a b := by kernel_rfl
noncomputable def impl_CompareFacts_e (N : Nat) : Entry Try.prog := ⟨132, impl_CompareFacts_sg, [.v ty4, .v ty4], Int, impl_CompareFacts N, pk1 i64, entry_en Try.func132 (code := Try.f132.body.getD .skip) (by kernel_rfl) (by kernel_rfl),
 fun a b => entry_ok tab_ok (es := impl_CompareFacts_es N) (by kernel_rfl) mixed Try.func132 (by kernel_rfl) ⟨⟨rfl, rfl⟩, rfl, rfl⟩ (un1_pk i64) (impl_CompareFacts_v N a b)⟩
def impl_IsValidDatabase_sg : Sig := ⟨[.val ty5], [(.bool, .dp)], false, false, none, none⟩
noncomputable def impl_IsValidDatabase_es (N : Nat) : List (Entry Try.prog) := [impl_isFact_e N, impl_CompareFacts_e N, impl_AreValidRelations_e N]
def impl_IsValidDatabase_an : Nat → Option (List Nat)
 | 0 => some [1, 16, 17, 18]
 | _ => none
noncomputable def impl_IsValidDatabase_lp (N : Nat) (p : List Dir) (rs : List (Env → Option (Bool))) (k : Nat) (env : Env) : Option (Bool) :=
 loopAt Tb (sigL (impl_IsValidDatabase_es N)) cps (orcL (impl_IsValidDatabase_es N)) N impl_IsValidDatabase_an p (Try.f79.body.getD .skip) (endK Tb impl_IsValidDatabase_sg Try.f79 [] (un1 .bool)) rs k env
noncomputable def impl_IsValidDatabase_l0_E (N : Nat) (k_ : Nat) (db2 : List (ByteArray × Int × Int)) (db3 : List (Int × List Int)) (t16 : List (Int × List Int)) (t17 : Int) (t18 : Int) : Option (Bool) :=
 impl_IsValidDatabase_lp N [.r, .r, .l, .r, .b] [] k_ (un 1 (.con (.box ⟨27, false, []⟩) [lf ty3 db2 .ro, lf ty6 db3 .ro] :: (un 14 (.con .val [lf ty6 t16 .ro] :: (.con .val [lf i64 t17 .ro] :: (.con .val [lf i64 t18 .ro] :: (un 25 [])))))))
theorem impl_IsValidDatabase_l0_z (N : Nat) (db2 : List (ByteArray × Int × Int)) (db3 : List (Int × List Int)) (t16 : List (Int × List Int)) (t17 : Int) (t18 : Int) : impl_IsValidDatabase_l0_E N 0 db2 db3 t16 t17 t18 = none := by kernel_rfl
theorem impl_IsValidDatabase_l0_s (N : Nat) (k_ : Nat) (db2 : List (ByteArray × Int × Int)) (db3 : List (Int × List Int)) (t16 : List (Int × List Int)) (t17 : Int) (t18 : Int) : impl_IsValidDatabase_l0_E N (k_ + 1) db2 db3 t16 t17 t18 = impl_IsValidDatabase_l0_b N (impl_IsValidDatabase_l0_E N k_) db2 db3 t16 t17 t18 := by kernel_rfl
theorem impl_IsValidDatabase_l0_q (N : Nat) : ∀ k_, impl_IsValidDatabase_l0_E N k_ = impl_IsValidDatabase_l0 N k_
 | 0 => by funext db2 db3 t16 t17 t18; exact impl_IsValidDatabase_l0_z N db2 db3 t16 t17 t18
 | k_ + 1 => by funext db2 db3 t16 t17 t18; rw [impl_IsValidDatabase_l0_s]; simp only [impl_IsValidDatabase_l0_q N k_]; rfl
theorem impl_IsValidDatabase_v (N : Nat) (db : List (ByteArray × Int × Int) × List (Int × List Int)) :
  evFn Tb (sigL (impl_IsValidDatabase_es N)) cps (orcL (impl_IsValidDatabase_es N)) (drawReg Tb (sigL (impl_IsValidDatabase_es N)) cps (orcL (impl_IsValidDatabase_es N))) N impl_IsValidDatabase_an impl_IsValidDatabase_sg Try.f79 (Try.f79.body.getD .skip) [.val ty5 db] (un1 .bool) = impl_IsValidDatabase_b N (impl_IsValidDatabase_l0_E N N) db := by kernel_rfl
noncomputable def impl_IsValidDatabase_e (N : Nat) : Entry Try.prog := ⟨79, impl_IsValidDatabase_sg, [.v ty5], Bool, impl_IsValidDatabase N, pk1 .bool, entry_en Try.func79 (code := Try.f79.body.getD .skip) (by kernel_rfl) (by kernel_rfl),
 fun db => entry_ok tab_ok (es := impl_IsValidDatabase_es N) (by kernel_rfl) mixed Try.func79 (by kernel_rfl) ⟨⟨rfl, rfl⟩, rfl, rfl⟩ (un1_pk .bool) ((impl_IsValidDatabase_v N db).trans (by rw [impl_IsValidDatabase_l0_q]; rfl))⟩
def impl_AreValidWeights_c1_sg : Sig := ⟨[.val i64], [(.bool, .dp)], false, false, none, none⟩
noncomputable def impl_AreValidWeights_c1_es (N : Nat) : List (Entry Try.prog) := [impl_within_e N]
def impl_AreValidWeights_c1_an : Nat → Option (List Nat) := fun _ => none
theorem impl_AreValidWeights_c1_v (N : Nat) (w : Int) :
  evFn Tb (sigL (impl_AreValidWeights_c1_es N)) cps (orcL (impl_AreValidWeights_c1_es N)) (drawReg Tb (sigL (impl_AreValidWeights_c1_es N)) cps (orcL (impl_AreValidWeights_c1_es N))) N impl_AreValidWeights_c1_an impl_AreValidWeights_c1_sg Try.f120 (Try.f120.body.getD .skip) [.val i64 w] (un1 .bool) = impl_AreValidWeights_c1 N w := by kernel_rfl
noncomputable def impl_AreValidWeights_c1_e (N : Nat) : Entry Try.prog := ⟨120, impl_AreValidWeights_c1_sg, [.v i64], Bool, impl_AreValidWeights_c1 N, pk1 .bool, entry_en Try.func120 (code := Try.f120.body.getD .skip) (by kernel_rfl) (by kernel_rfl),
 fun w => entry_ok tab_ok (es := impl_AreValidWeights_c1_es N) (by kernel_rfl) mixed Try.func120 (by kernel_rfl) ⟨⟨rfl, rfl⟩, rfl, rfl⟩ (un1_pk .bool) (impl_AreValidWeights_c1_v N w)⟩
def slices_IndexFunc_Lint_int_AreValidWeights_c1_sg : Sig := ⟨[.val ty2, .clo], [(i64, .dp)], false, false, none, none⟩
noncomputable def slices_IndexFunc_Lint_int_AreValidWeights_c1_es (N : Nat) : List (Entry Try.prog) := [impl_AreValidWeights_c1_e N]
def slices_IndexFunc_Lint_int_AreValidWeights_c1_an : Nat → Option (List Nat)
 | 0 => some [0, 1, 7, 8]
 | _ => none
noncomputable def slices_IndexFunc_Lint_int_AreValidWeights_c1_lp (N : Nat) (p : List Dir) (rs : List (Env → Option (Int))) (k : Nat) (env : Env) : Option (Int) :=
 loopAt Tb (sigL (slices_IndexFunc_Lint_int_AreValidWeights_c1_es N)) cps (orcL (slices_IndexFunc_Lint_int_AreValidWeights_c1_es N)) N slices_IndexFunc_Lint_int_AreValidWeights_c1_an p (Try.f167.body.getD .skip) (endK Tb slices_IndexFunc_Lint_int_AreValidWeights_c1_sg Try.f167 [] (un1 i64)) rs k env
noncomputable def slices_IndexFunc_Lint_int_AreValidWeights_c1_l0_E (N : Nat) (k_ : Nat) (s2 : List Int) (t7 : Int) (t8 : Int) : Option (Int) :=
 slices_IndexFunc_Lint_int_AreValidWeights_c1_lp N [.r, .l, .r, .b] [] k_ (.con .val [lf ty2 s2 .ro] :: (.cloR 120 [] :: (un 5 (.con .val [lf i64 t7 .ro] :: (.con .val [lf i64 t8 .ro] :: (un 10 []))))))
theorem slices_IndexFunc_Lint_int_AreValidWeights_c1_l0_z (N : Nat) (s2 : List Int) (t7 : Int) (t8 : Int) : slices_IndexFunc_Lint_int_AreValidWeights_c1_l0_E N 0 s2 t7 t8 = none := by kernel_rfl
theorem slices_IndexFunc_Lint_int_AreValidWeights_c1_l0_s (N : Nat) (k_ : Nat) (s2 : List Int) (t7 : Int) (t8 : Int) : slices_IndexFunc_Lint_int_AreValidWeights_c1_l0_E N (k_ + 1) s2 t7 t8 = slices_IndexFunc_Lint_int_AreValidWeights_c1_l0_b N (slices_IndexFunc_Lint_int_AreValidWeights_c1_l0_E N k_) s2 t7 t8 := by kernel_rfl
theorem slices_IndexFunc_Lint_int_AreValidWeights_c1_l0_q (N : Nat) : ∀ k_, slices_IndexFunc_Lint_int_AreValidWeights_c1_l0_E N k_ = slices_IndexFunc_Lint_int_AreValidWeights_c1_l0 N k_
 | 0 => by funext s2 t7 t8; exact slices_IndexFunc_Lint_int_AreValidWeights_c1_l0_z N s2 t7 t8
 | k_ + 1 => by funext s2 t7 t8; rw [slices_IndexFunc_Lint_int_AreValidWeights_c1_l0_s]; simp only [slices_IndexFunc_Lint_int_AreValidWeights_c1_l0_q N k_]; rfl
theorem slices_IndexFunc_Lint_int_AreValidWeights_c1_v (N : Nat) (s : List Int) :
  evFn Tb (sigL (slices_IndexFunc_Lint_int_AreValidWeights_c1_es N)) cps (orcL (slices_IndexFunc_Lint_int_AreValidWeights_c1_es N)) (drawReg Tb (sigL (slices_IndexFunc_Lint_int_AreValidWeights_c1_es N)) cps (orcL (slices_IndexFunc_Lint_int_AreValidWeights_c1_es N))) N slices_IndexFunc_Lint_int_AreValidWeights_c1_an slices_IndexFunc_Lint_int_AreValidWeights_c1_sg Try.f167 (Try.f167.body.getD .skip) [.val ty2 s, .clo 120 []] (un1 i64) = slices_IndexFunc_Lint_int_AreValidWeights_c1_b N (slices_IndexFunc_Lint_int_AreValidWeights_c1_l0_E N N) s := by kernel_rfl
noncomputable def slices_IndexFunc_Lint_int_AreValidWeights_c1_e (N : Nat) : Entry Try.prog := ⟨167, slices_IndexFunc_Lint_int_AreValidWeights_c1_sg, [.v ty2, .c 120 []], Int, slices_IndexFunc_Lint_int_AreValidWeights_c1 N, pk1 i64, entry_en Try.func167 (code := Try.f167.body.getD .skip) (by kernel_rfl) (by kernel_rfl),
 fun s => entry_ok tab_ok (es := slices_IndexFunc_Lint_int_AreValidWeights_c1_es N) (by kernel_rfl) mixed Try.func167 (by kernel_rfl) ⟨⟨rfl, rfl⟩, rfl, rfl⟩ (un1_pk i64) ((slices_IndexFunc_Lint_int_AreValidWeights_c1_v N s).trans (by rw [slices_IndexFunc_Lint_int_AreValidWeights_c1_l0_q]; rfl))⟩
def slices_ContainsFunc_Lint_int_AreValidWeights_c1_sg : Sig := ⟨[.val ty2, .clo], [(.bool, .dp)], false, false, none, none⟩
noncomputable def slices_ContainsFunc_Lint_int_AreValidWeights_c1_es (N : Nat) : List (Entry Try.prog) := [slices_IndexFunc_Lint_int_AreValidWeights_c1_e N]
def slices_ContainsFunc_Lint_int_AreValidWeights_c1_an : Nat → Option (List Nat) := fun _ => none
theorem slices_ContainsFunc_Lint_int_AreValidWeights_c1_v (N : Nat) (s : List Int) :
  evFn Tb (sigL (slices_ContainsFunc_Lint_int_AreValidWeights_c1_es N)) cps (orcL (slices_ContainsFunc_Lint_int_AreValidWeights_c1_es N)) (drawReg Tb (sigL (slices_ContainsFunc_Lint_int_AreValidWeights_c1_es N)) cps (orcL (slices_ContainsFunc_Lint_int_AreValidWeights_c1_es N))) N slices_ContainsFunc_Lint_int_AreValidWeights_c1_an slices_ContainsFunc_Lint_int_AreValidWeights_c1_sg Try.f119 (Try.f119.body.getD .skip) [.val ty2 s, .clo 120 []] (un1 .bool) = slices_ContainsFunc_Lint_int_AreValidWeights_c1 N s := by kernel_rfl
noncomputable def slices_ContainsFunc_Lint_int_AreValidWeights_c1_e (N : Nat) : Entry Try.prog := ⟨119, slices_ContainsFunc_Lint_int_AreValidWeights_c1_sg, [.v ty2, .c 120 []], Bool, slices_ContainsFunc_Lint_int_AreValidWeights_c1 N, pk1 .bool, entry_en Try.func119 (code := Try.f119.body.getD .skip) (by kernel_rfl) (by kernel_rfl),
 fun s => entry_ok tab_ok (es := slices_ContainsFunc_Lint_int_AreValidWeights_c1_es N) (by kernel_rfl) mixed Try.func119 (by kernel_rfl) ⟨⟨rfl, rfl⟩, rfl, rfl⟩ (un1_pk .bool) (slices_ContainsFunc_Lint_int_AreValidWeights_c1_v N s)⟩
def impl_AreValidWeights_sg : Sig := ⟨[.val ty5, .val ty2], [(.bool, .dp)], false, false, none, none⟩
noncomputable def impl_AreValidWeights_es (N : Nat) : List (Entry Try.prog) := [impl_IsValidDatabase_e N, slices_ContainsFunc_Lint_int_AreValidWeights_c1_e N]
def impl_AreValidWeights_an : Nat → Option (List Nat) := fun _ => none
theorem impl_AreValidWeights_v (N : Nat) (db : List (ByteArray × Int × Int) × List (Int × List Int)) (weights : List Int) :
  evFn Tb (sigL (impl_AreValidWeights_es N)) cps (orcL (impl_AreValidWeights_es N)) (drawReg Tb (sigL (impl_AreValidWeights_es N)) cps (orcL (impl_AreValidWeights_es N))) N impl_AreValidWeights_an impl_AreValidWeights_sg Try.f45 (Try.f45.body.getD .skip) [.val ty5 db, .val ty2 weights] (un1 .bool) = impl_AreValidWeights N db weights := by kernel_rfl
noncomputable def impl_AreValidWeights_e (N : Nat) : Entry Try.prog := ⟨45, impl_AreValidWeights_sg, [.v ty5, .v ty2], Bool, impl_AreValidWeights N, pk1 .bool, entry_en Try.func45 (code := Try.f45.body.getD .skip) (by kernel_rfl) (by kernel_rfl),
 fun db weights => entry_ok tab_ok (es := impl_AreValidWeights_es N) (by kernel_rfl) mixed Try.func45 (by kernel_rfl) ⟨⟨rfl, rfl⟩, rfl, rfl⟩ (un1_pk .bool) (impl_AreValidWeights_v N db weights)⟩
def slices_Equal_Lint_int_sg : Sig := ⟨[.val ty2, .val ty2], [(.bool, .dp)], false, false, none, none⟩
noncomputable def slices_Equal_Lint_int_es (N : Nat) : List (Entry Try.prog) := []
def slices_Equal_Lint_int_an : Nat → Option (List Nat)
 | 0 => some [0, 1, 12, 13]
 | _ => none
noncomputable def slices_Equal_Lint_int_lp (N : Nat) (p : List Dir) (rs : List (Env → Option (Bool))) (k : Nat) (env : Env) : Option (Bool) :=
 loopAt Tb (sigL (slices_Equal_Lint_int_es N)) cps (orcL (slices_Equal_Lint_int_es N)) N slices_Equal_Lint_int_an p (Try.f196.body.getD .skip) (endK Tb slices_Equal_Lint_int_sg Try.f196 [] (un1 .bool)) rs k env
noncomputable def slices_Equal_Lint_int_l0_E (N : Nat) (k_ : Nat) (s12 : List Int) (s22 : List Int) (t12 : Int) (t13 : Int) : Option (Bool) :=
 slices_Equal_Lint_int_lp N [.r, .r, .l, .r, .b] [] k_ (.con .val [lf ty2 s12 .ro] :: (.con .val [lf ty2 s22 .ro] :: (un 10 (.con .val [lf i64 t12 .ro] :: (.con .val [lf i64 t13 .ro] :: (un 12 []))))))
theorem slices_Equal_Lint_int_l0_z (N : Nat) (s12 : List Int) (s22 : List Int) (t12 : Int) (t13 : Int) : slices_Equal_Lint_int_l0_E N 0 s12 s22 t12 t13 = none := by kernel_rfl
theorem slices_Equal_Lint_int_l0_s (N : Nat) (k_ : Nat) (s12 : List Int) (s22 : List Int) (t12 : Int) (t13 : Int) : slices_Equal_Lint_int_l0_E N (k_ + 1) s12 s22 t12 t13 = slices_Equal_Lint_int_l0_b N (slices_Equal_Lint_int_l0_E N k_) s12 s22 t12 t13 := by kernel_rfl
theorem slices_Equal_Lint_int_l0_q (N : Nat) : ∀ k_, slices_Equal_Lint_int_l0_E N k_ = slices_Equal_Lint_int_l0 N k_
 | 0 => by funext s12 s22 t12 t13; exact slices_Equal_Lint_int_l0_z N s12 s22 t12 t13
 | k_ + 1 => by funext s12 s22 t12 t13; rw [slices_Equal_Lint_int_l0_s]; simp only [slices_Equal_Lint_int_l0_q N k_]; rfl
theorem slices_Equal_Lint_int_v (N : Nat) (s1 : List Int) (s2 : List Int) :
  evFn Tb (sigL (slices_Equal_Lint_int_es N)) cps (orcL (slices_Equal_Lint_int_es N)) (drawReg Tb (sigL (slices_Equal_Lint_int_es N)) cps (orcL (slices_Equal_Lint_int_es N))) N slices_Equal_Lint_int_an slices_Equal_Lint_int_sg Try.f196 (Try.f196.body.getD .skip) [.val ty2 s1, .val ty2 s2] (un1 .bool) = slices_Equal_Lint_int_b N (slices_Equal_Lint_int_l0_E N N) s1 s2 := by kernel_rfl
noncomputable def slices_Equal_Lint_int_e (N : Nat) : Entry Try.prog := ⟨196, slices_Equal_Lint_int_sg, [.v ty2, .v ty2], Bool, slices_Equal_Lint_int N, pk1 .bool, entry_en Try.func196 (code := Try.f196.body.getD .skip) (by kernel_rfl) (by kernel_rfl),
 fun s1 s2 => entry_ok tab_ok (es := slices_Equal_Lint_int_es N) (by kernel_rfl) mixed Try.func196 (by kernel_rfl) ⟨⟨rfl, rfl⟩, rfl, rfl⟩ (un1_pk .bool) ((slices_Equal_Lint_int_v N s1 s2).trans (by rw [slices_Equal_Lint_int_l0_q]; rfl))⟩
def impl_sameKey_sg : Sig := ⟨[.val ty3, .val ty4, .val ty4], [(.bool, .dp)], false, false, none, none⟩
noncomputable def impl_sameKey_es (N : Nat) : List (Entry Try.prog) := [slices_Equal_Lint_int_e N]
def impl_sameKey_an : Nat → Option (List Nat) := fun _ => none
theorem impl_sameKey_v (N : Nat) (relations : List (ByteArray × Int × Int)) (a : Int × List Int) (b : Int × List Int) :
  evFn Tb (sigL (impl_sameKey_es N)) cps (orcL (impl_sameKey_es N)) (drawReg Tb (sigL (impl_sameKey_es N)) cps (orcL (impl_sameKey_es N))) N impl_sameKey_an impl_sameKey_sg Try.f162 (Try.f162.body.getD .skip) [.val ty3 relations, .val ty4 a, .val ty4 b] (un1 .bool) = impl_sameKey N relations a b := by kernel_rfl
noncomputable def impl_sameKey_e (N : Nat) : Entry Try.prog := ⟨162, impl_sameKey_sg, [.v ty3, .v ty4, .v ty4], Bool, impl_sameKey N, pk1 .bool, entry_en Try.func162 (code := Try.f162.body.getD .skip) (by kernel_rfl) (by kernel_rfl),
 fun relations a b => entry_ok tab_ok (es := impl_sameKey_es N) (by kernel_rfl) mixed Try.func162 (by kernel_rfl) ⟨⟨rfl, rfl⟩, rfl, rfl⟩ (un1_pk .bool) (impl_sameKey_v N relations a b)⟩
def impl_blocks_sg : Sig := ⟨[.val ty5], [(ty9, .dp)], false, false, none, none⟩
noncomputable def impl_blocks_es (N : Nat) : List (Entry Try.prog) := [impl_sameKey_e N]
def impl_blocks_an : Nat → Option (List Nat)
 | 0 => some [1, 3, 9, 10, 11]
 | _ => none
noncomputable def impl_blocks_lp (N : Nat) (p : List Dir) (rs : List (Env → Option (List (List Int)))) (k : Nat) (env : Env) : Option (List (List Int)) :=
 loopAt Tb (sigL (impl_blocks_es N)) cps (orcL (impl_blocks_es N)) N impl_blocks_an p (Try.f109.body.getD .skip) (endK Tb impl_blocks_sg Try.f109 [] (un1 ty9)) rs k env
noncomputable def impl_blocks_l0_E (N : Nat) (k_ : Nat) (db2 : List (ByteArray × Int × Int)) (db3 : List (Int × List Int)) (out : List (List Int)) (t9 : List (Int × List Int)) (t10 : Int) (t11 : Int) : Option (List (List Int)) :=
 impl_blocks_lp N [.r, .r, .l, .r, .b] [] k_ (un 1 (.con (.box ⟨27, false, []⟩) [lf ty3 db2 .ro, lf ty6 db3 .ro] :: (un 1 (.con .val [lf ty9 out .dp] :: (un 5 (.con .val [lf ty6 t9 .ro] :: (.con .val [lf i64 t10 .ro] :: (.con .val [lf i64 t11 .ro] :: (un 42 [])))))))))
theorem impl_blocks_l0_z (N : Nat) (db2 : List (ByteArray × Int × Int)) (db3 : List (Int × List Int)) (out : List (List Int)) (t9 : List (Int × List Int)) (t10 : Int) (t11 : Int) : impl_blocks_l0_E N 0 db2 db3 out t9 t10 t11 = none := by kernel_rfl
theorem impl_blocks_l0_s (N : Nat) (k_ : Nat) (db2 : List (ByteArray × Int × Int)) (db3 : List (Int × List Int)) (out : List (List Int)) (t9 : List (Int × List Int)) (t10 : Int) (t11 : Int) : impl_blocks_l0_E N (k_ + 1) db2 db3 out t9 t10 t11 = impl_blocks_l0_b N (impl_blocks_l0_E N k_) db2 db3 out t9 t10 t11 := by kernel_rfl
theorem impl_blocks_l0_q (N : Nat) : ∀ k_, impl_blocks_l0_E N k_ = impl_blocks_l0 N k_
 | 0 => by funext db2 db3 out t9 t10 t11; exact impl_blocks_l0_z N db2 db3 out t9 t10 t11
 | k_ + 1 => by funext db2 db3 out t9 t10 t11; rw [impl_blocks_l0_s]; simp only [impl_blocks_l0_q N k_]; rfl
theorem impl_blocks_v (N : Nat) (db : List (ByteArray × Int × Int) × List (Int × List Int)) :
  evFn Tb (sigL (impl_blocks_es N)) cps (orcL (impl_blocks_es N)) (drawReg Tb (sigL (impl_blocks_es N)) cps (orcL (impl_blocks_es N))) N impl_blocks_an impl_blocks_sg Try.f109 (Try.f109.body.getD .skip) [.val ty5 db] (un1 ty9) = impl_blocks_b N (impl_blocks_l0_E N N) db := by kernel_rfl
noncomputable def impl_blocks_e (N : Nat) : Entry Try.prog := ⟨109, impl_blocks_sg, [.v ty5], List (List Int), impl_blocks N, pk1 ty9, entry_en Try.func109 (code := Try.f109.body.getD .skip) (by kernel_rfl) (by kernel_rfl),
 fun db => entry_ok tab_ok (es := impl_blocks_es N) (by kernel_rfl) mixed Try.func109 (by kernel_rfl) ⟨⟨rfl, rfl⟩, rfl, rfl⟩ (un1_pk ty9) ((impl_blocks_v N db).trans (by rw [impl_blocks_l0_q]; rfl))⟩
def impl_MostLikelyRepair_sg : Sig := ⟨[.val ty5, .val ty2], [(ty2, .dp), (.bool, .dp)], false, false, none, none⟩
noncomputable def impl_MostLikelyRepair_es (N : Nat) : List (Entry Try.prog) := [impl_AreValidWeights_e N, impl_blocks_e N]
def impl_MostLikelyRepair_an : Nat → Option (List Nat)
 | 0 => some [1, 6, 18, 19, 20]
 | 2 => some [1, 6, 9, 18, 19, 20, 27, 28, 29]
 | _ => none
noncomputable def impl_MostLikelyRepair_lp (N : Nat) (p : List Dir) (rs : List (Env → Option (List Int × Bool))) (k : Nat) (env : Env) : Option (List Int × Bool) :=
 loopAt Tb (sigL (impl_MostLikelyRepair_es N)) cps (orcL (impl_MostLikelyRepair_es N)) N impl_MostLikelyRepair_an p (Try.f37.body.getD .skip) (endK Tb impl_MostLikelyRepair_sg Try.f37 [] (un2 ty2 .bool)) rs k env
noncomputable def impl_MostLikelyRepair_l1_E (N : Nat) (k0_ : Nat) (k_ : Nat) (weights3 : List Int) (out2 : List Int) (best : Int) (t182 : List (List Int)) (t192 : Int) (t202 : Int) (t27i : Int) (t27 : List Int) (t28 : Int) (t29 : Int) : Option (List Int × Bool) :=
 impl_MostLikelyRepair_lp N [.r, .r, .r, .l, .r, .b, .b, .r, .r, .l, .b, .r, .r, .l, .r, .b] [impl_MostLikelyRepair_lp N [.r, .r, .r, .l, .r, .b] [] k0_] k_ (un 1 (.con .val [lf ty2 weights3 .ro] :: (un 4 (.con .val [lf ty2 out2 .dp] :: (un 2 (.con .val [lf i64 best .ro] :: (un 8 (.con .val [lf ty9 t182 .dp] :: (.con .val [lf i64 t192 .ro] :: (.con .val [lf i64 t202 .ro] :: (un 6 (.con .val [⟨ty2, t27, (.bor 18 0 [(t27i, 0)])⟩] :: (.con .val [lf i64 t28 .ro] :: (.con .val [lf i64 t29 .ro] :: (un 20 [])))))))))))))))
noncomputable def impl_MostLikelyRepair_l0_E (N : Nat) (k_ : Nat) (weights2 : List Int) (out : List Int) (t18 : List (List Int)) (t19 : Int) (t20 : Int) : Option (List Int × Bool) :=
 impl_MostLikelyRepair_lp N [.r, .r, .r, .l, .r, .b] [] k_ (un 1 (.con .val [lf ty2 weights2 .ro] :: (un 4 (.con .val [lf ty2 out .dp] :: (un 11 (.con .val [lf ty9 t18 .dp] :: (.con .val [lf i64 t19 .ro] :: (.con .val [lf i64 t20 .ro] :: (un 29 [])))))))))
theorem impl_MostLikelyRepair_l1_z (N : Nat) (k0_ : Nat) (weights3 : List Int) (out2 : List Int) (best : Int) (t182 : List (List Int)) (t192 : Int) (t202 : Int) (t27i : Int) (t27 : List Int) (t28 : Int) (t29 : Int) : impl_MostLikelyRepair_l1_E N k0_ 0 weights3 out2 best t182 t192 t202 t27i t27 t28 t29 = none := by kernel_rfl
theorem impl_MostLikelyRepair_l1_s (N : Nat) (k0_ : Nat) (k_ : Nat) (weights3 : List Int) (out2 : List Int) (best : Int) (t182 : List (List Int)) (t192 : Int) (t202 : Int) (t27i : Int) (t27 : List Int) (t28 : Int) (t29 : Int) : impl_MostLikelyRepair_l1_E N k0_ (k_ + 1) weights3 out2 best t182 t192 t202 t27i t27 t28 t29 = impl_MostLikelyRepair_l1_b N (impl_MostLikelyRepair_l0_E N k0_) (impl_MostLikelyRepair_l1_E N k0_ k_) weights3 out2 best t182 t192 t202 t27i t27 t28 t29 := by kernel_rfl
theorem impl_MostLikelyRepair_l0_z (N : Nat) (weights2 : List Int) (out : List Int) (t18 : List (List Int)) (t19 : Int) (t20 : Int) : impl_MostLikelyRepair_l0_E N 0 weights2 out t18 t19 t20 = none := by kernel_rfl
theorem impl_MostLikelyRepair_l0_s (N : Nat) (k_ : Nat) (weights2 : List Int) (out : List Int) (t18 : List (List Int)) (t19 : Int) (t20 : Int) : impl_MostLikelyRepair_l0_E N (k_ + 1) weights2 out t18 t19 t20 = impl_MostLikelyRepair_l0_b N (impl_MostLikelyRepair_l1_E N k_ N) (impl_MostLikelyRepair_l0_E N k_) weights2 out t18 t19 t20 := by kernel_rfl
theorem impl_MostLikelyRepair_l1_q (N : Nat) (k0_ : Nat) : ∀ k_, impl_MostLikelyRepair_l1_E N k0_ k_ = impl_MostLikelyRepair_l1 (impl_MostLikelyRepair_l0_E N k0_) N k_
 | 0 => by funext weights3 out2 best t182 t192 t202 t27i t27 t28 t29; exact impl_MostLikelyRepair_l1_z N k0_ weights3 out2 best t182 t192 t202 t27i t27 t28 t29
 | k_ + 1 => by funext weights3 out2 best t182 t192 t202 t27i t27 t28 t29; rw [impl_MostLikelyRepair_l1_s]; simp only [impl_MostLikelyRepair_l1_q N k0_ k_]; rfl
theorem impl_MostLikelyRepair_l0_q (N : Nat) : ∀ k_, impl_MostLikelyRepair_l0_E N k_ = impl_MostLikelyRepair_l0 N k_
 | 0 => by funext weights2 out t18 t19 t20; exact impl_MostLikelyRepair_l0_z N weights2 out t18 t19 t20
 | k_ + 1 => by funext weights2 out t18 t19 t20; rw [impl_MostLikelyRepair_l0_s]; simp only [impl_MostLikelyRepair_l1_q, impl_MostLikelyRepair_l0_q N k_]; rfl
theorem impl_MostLikelyRepair_v (N : Nat) (db : List (ByteArray × Int × Int) × List (Int × List Int)) (weights : List Int) :
  evFn Tb (sigL (impl_MostLikelyRepair_es N)) cps (orcL (impl_MostLikelyRepair_es N)) (drawReg Tb (sigL (impl_MostLikelyRepair_es N)) cps (orcL (impl_MostLikelyRepair_es N))) N impl_MostLikelyRepair_an impl_MostLikelyRepair_sg Try.f37 (Try.f37.body.getD .skip) [.val ty5 db, .val ty2 weights] (un2 ty2 .bool) = impl_MostLikelyRepair_b N (impl_MostLikelyRepair_l0_E N N) db weights := by kernel_rfl
noncomputable def impl_MostLikelyRepair_e (N : Nat) : Entry Try.prog := ⟨37, impl_MostLikelyRepair_sg, [.v ty5, .v ty2], List Int × Bool, impl_MostLikelyRepair N, pk2 ty2 .bool, entry_en Try.func37 (code := Try.f37.body.getD .skip) (by kernel_rfl) (by kernel_rfl),
 fun db weights => entry_ok tab_ok (es := impl_MostLikelyRepair_es N) (by kernel_rfl) mixed Try.func37 (by kernel_rfl) ⟨⟨rfl, rfl⟩, rfl, rfl⟩ (un2_pk ty2 .bool) ((impl_MostLikelyRepair_v N db weights).trans (by rw [impl_MostLikelyRepair_l0_q]; rfl))⟩
def spec_AreValidWeights_sg : Sig := ⟨[.val ty5, .val ty2], [(.bool, .dp)], false, false, none, none⟩
noncomputable def spec_AreValidWeights_es (N : Nat) : List (Entry Try.prog) := [spec_l1In_e N, spec_IsValidDatabase_e N]
def spec_AreValidWeights_an : Nat → Option (List Nat)
 | 0 => some [1, 2, 5]
 | _ => none
noncomputable def spec_AreValidWeights_lp (N : Nat) (p : List Dir) (rs : List (Env → Option (Bool))) (k : Nat) (env : Env) : Option (Bool) :=
 loopAt Tb (sigL (spec_AreValidWeights_es N)) cps (orcL (spec_AreValidWeights_es N)) N spec_AreValidWeights_an p (Try.f46.body.getD .skip) (endK Tb spec_AreValidWeights_sg Try.f46 [] (un1 .bool)) rs k env
noncomputable def spec_AreValidWeights_l0_E (N : Nat) (k_ : Nat) (w2 : List Int) (d2 : List (ByteArray × Int × Int)) (d3 : List (Int × List Int)) (i : Int) : Option (Bool) :=
 spec_AreValidWeights_lp N [.r, .l, .r, .b] [] k_ (un 1 (.con .val [lf ty2 w2 .ro] :: (.con (.box ⟨27, false, []⟩) [lf ty3 d2 .ro, lf ty6 d3 .ro] :: (un 2 (.con .val [lf i64 i .ro] :: (un 22 []))))))
theorem spec_AreValidWeights_l0_z (N : Nat) (w2 : List Int) (d2 : List (ByteArray × Int × Int)) (d3 : List (Int × List Int)) (i : Int) : spec_AreValidWeights_l0_E N 0 w2 d2 d3 i = none := by kernel_rfl
theorem spec_AreValidWeights_l0_s (N : Nat) (k_ : Nat) (w2 : List Int) (d2 : List (ByteArray × Int × Int)) (d3 : List (Int × List Int)) (i : Int) : spec_AreValidWeights_l0_E N (k_ + 1) w2 d2 d3 i = spec_AreValidWeights_l0_b N (spec_AreValidWeights_l0_E N k_) w2 d2 d3 i := by kernel_rfl
theorem spec_AreValidWeights_l0_q (N : Nat) : ∀ k_, spec_AreValidWeights_l0_E N k_ = spec_AreValidWeights_l0 N k_
 | 0 => by funext w2 d2 d3 i; exact spec_AreValidWeights_l0_z N w2 d2 d3 i
 | k_ + 1 => by funext w2 d2 d3 i; rw [spec_AreValidWeights_l0_s]; simp only [spec_AreValidWeights_l0_q N k_]; rfl
theorem spec_AreValidWeights_v (N : Nat) (d : List (ByteArray × Int × Int) × List (Int × List Int)) (w : List Int) :
  evFn Tb (sigL (spec_AreValidWeights_es N)) cps (orcL (spec_AreValidWeights_es N)) (drawReg Tb (sigL (spec_AreValidWeights_es N)) cps (orcL (spec_AreValidWeights_es N))) N spec_AreValidWeights_an spec_AreValidWeights_sg Try.f46 (Try.f46.body.getD .skip) [.val ty5 d, .val ty2 w] (un1 .bool) = spec_AreValidWeights_b N (spec_AreValidWeights_l0_E N N) d w := by kernel_rfl
noncomputable def spec_AreValidWeights_e (N : Nat) : Entry Try.prog := ⟨46, spec_AreValidWeights_sg, [.v ty5, .v ty2], Bool, spec_AreValidWeights N, pk1 .bool, entry_en Try.func46 (code := Try.f46.body.getD .skip) (by kernel_rfl) (by kernel_rfl),
 fun d w => entry_ok tab_ok (es := spec_AreValidWeights_es N) (by kernel_rfl) mixed Try.func46 (by kernel_rfl) ⟨⟨rfl, rfl⟩, rfl, rfl⟩ (un1_pk .bool) ((spec_AreValidWeights_v N d w).trans (by rw [spec_AreValidWeights_l0_q]; rfl))⟩
def spec_KeyOf_sg : Sig := ⟨[.val ty3, .val ty4], [(ty2, .dp)], false, false, none, none⟩
noncomputable def spec_KeyOf_es (N : Nat) : List (Entry Try.prog) := [spec_IsValidFact_e N]
def spec_KeyOf_an : Nat → Option (List Nat) := fun _ => none
theorem spec_KeyOf_v (N : Nat) (l : List (ByteArray × Int × Int)) (f : Int × List Int) :
  evFn Tb (sigL (spec_KeyOf_es N)) cps (orcL (spec_KeyOf_es N)) (drawReg Tb (sigL (spec_KeyOf_es N)) cps (orcL (spec_KeyOf_es N))) N spec_KeyOf_an spec_KeyOf_sg Try.f191 (Try.f191.body.getD .skip) [.val ty3 l, .val ty4 f] (un1 ty2) = spec_KeyOf N l f := by kernel_rfl
noncomputable def spec_KeyOf_e (N : Nat) : Entry Try.prog := ⟨191, spec_KeyOf_sg, [.v ty3, .v ty4], List Int, spec_KeyOf N, pk1 ty2, entry_en Try.func191 (code := Try.f191.body.getD .skip) (by kernel_rfl) (by kernel_rfl),
 fun l f => entry_ok tab_ok (es := spec_KeyOf_es N) (by kernel_rfl) mixed Try.func191 (by kernel_rfl) ⟨⟨rfl, rfl⟩, rfl, rfl⟩ (un1_pk ty2) (spec_KeyOf_v N l f)⟩
def spec_HaveSameKey_sg : Sig := ⟨[.val ty3, .val ty4, .val ty4], [(.bool, .dp)], false, false, none, none⟩
noncomputable def spec_HaveSameKey_es (N : Nat) : List (Entry Try.prog) := [spec_IsValidFact_e N, spec_KeyOf_e N, spec_l3Ints_e N]
def spec_HaveSameKey_an : Nat → Option (List Nat) := fun _ => none
theorem spec_HaveSameKey_v (N : Nat) (l : List (ByteArray × Int × Int)) (a : Int × List Int) (b : Int × List Int) :
  evFn Tb (sigL (spec_HaveSameKey_es N)) cps (orcL (spec_HaveSameKey_es N)) (drawReg Tb (sigL (spec_HaveSameKey_es N)) cps (orcL (spec_HaveSameKey_es N))) N spec_HaveSameKey_an spec_HaveSameKey_sg Try.f147 (Try.f147.body.getD .skip) [.val ty3 l, .val ty4 a, .val ty4 b] (un1 .bool) = spec_HaveSameKey N l a b := by kernel_rfl
noncomputable def spec_HaveSameKey_e (N : Nat) : Entry Try.prog := ⟨147, spec_HaveSameKey_sg, [.v ty3, .v ty4, .v ty4], Bool, spec_HaveSameKey N, pk1 .bool, entry_en Try.func147 (code := Try.f147.body.getD .skip) (by kernel_rfl) (by kernel_rfl),
 fun l a b => entry_ok tab_ok (es := spec_HaveSameKey_es N) (by kernel_rfl) mixed Try.func147 (by kernel_rfl) ⟨⟨rfl, rfl⟩, rfl, rfl⟩ (un1_pk .bool) (spec_HaveSameKey_v N l a b)⟩
def spec_BlockOf_sg : Sig := ⟨[.val ty5, .val i64], [(ty2, .dp)], false, false, none, none⟩
noncomputable def spec_BlockOf_es (N : Nat) : List (Entry Try.prog) := [spec_IsValidDatabase_e N, spec_l1In_e N, spec_HaveSameKey_e N]
def spec_BlockOf_an : Nat → Option (List Nat)
 | 0 => some [1, 2, 5, 6]
 | _ => none
noncomputable def spec_BlockOf_lp (N : Nat) (p : List Dir) (rs : List (Env → Option (List Int))) (k : Nat) (env : Env) : Option (List Int) :=
 loopAt Tb (sigL (spec_BlockOf_es N)) cps (orcL (spec_BlockOf_es N)) N spec_BlockOf_an p (Try.f86.body.getD .skip) (endK Tb spec_BlockOf_sg Try.f86 [] (un1 ty2)) rs k env
noncomputable def spec_BlockOf_l0_E (N : Nat) (k_ : Nat) (i2 : Int) (d2 : List (ByteArray × Int × Int)) (d3 : List (Int × List Int)) (out : List Int) (k : Int) : Option (List Int) :=
 spec_BlockOf_lp N [.r, .r, .l, .r, .b] [] k_ (un 1 (.con .val [lf i64 i2 .ro] :: (.con (.box ⟨27, false, []⟩) [lf ty3 d2 .ro, lf ty6 d3 .ro] :: (un 2 (.con .val [lf ty2 out .dp] :: (.con .val [lf i64 k .ro] :: (un 38 [])))))))
theorem spec_BlockOf_l0_z (N : Nat) (i2 : Int) (d2 : List (ByteArray × Int × Int)) (d3 : List (Int × List Int)) (out : List Int) (k : Int) : spec_BlockOf_l0_E N 0 i2 d2 d3 out k = none := by kernel_rfl
theorem spec_BlockOf_l0_s (N : Nat) (k_ : Nat) (i2 : Int) (d2 : List (ByteArray × Int × Int)) (d3 : List (Int × List Int)) (out : List Int) (k : Int) : spec_BlockOf_l0_E N (k_ + 1) i2 d2 d3 out k = spec_BlockOf_l0_b N (spec_BlockOf_l0_E N k_) i2 d2 d3 out k := by kernel_rfl
theorem spec_BlockOf_l0_q (N : Nat) : ∀ k_, spec_BlockOf_l0_E N k_ = spec_BlockOf_l0 N k_
 | 0 => by funext i2 d2 d3 out k; exact spec_BlockOf_l0_z N i2 d2 d3 out k
 | k_ + 1 => by funext i2 d2 d3 out k; rw [spec_BlockOf_l0_s]; simp only [spec_BlockOf_l0_q N k_]; rfl
theorem spec_BlockOf_v (N : Nat) (d : List (ByteArray × Int × Int) × List (Int × List Int)) (i : Int) :
  evFn Tb (sigL (spec_BlockOf_es N)) cps (orcL (spec_BlockOf_es N)) (drawReg Tb (sigL (spec_BlockOf_es N)) cps (orcL (spec_BlockOf_es N))) N spec_BlockOf_an spec_BlockOf_sg Try.f86 (Try.f86.body.getD .skip) [.val ty5 d, .val i64 i] (un1 ty2) = spec_BlockOf_b N (spec_BlockOf_l0_E N N) d i := by kernel_rfl
noncomputable def spec_BlockOf_e (N : Nat) : Entry Try.prog := ⟨86, spec_BlockOf_sg, [.v ty5, .v i64], List Int, spec_BlockOf N, pk1 ty2, entry_en Try.func86 (code := Try.f86.body.getD .skip) (by kernel_rfl) (by kernel_rfl),
 fun d i => entry_ok tab_ok (es := spec_BlockOf_es N) (by kernel_rfl) mixed Try.func86 (by kernel_rfl) ⟨⟨rfl, rfl⟩, rfl, rfl⟩ (un1_pk ty2) ((spec_BlockOf_v N d i).trans (by rw [spec_BlockOf_l0_q]; rfl))⟩
def spec_Blocks_sg : Sig := ⟨[.val ty5], [(ty9, .dp)], false, false, none, none⟩
noncomputable def spec_Blocks_es (N : Nat) : List (Entry Try.prog) := [spec_IsValidDatabase_e N, spec_BlockOf_e N]
def spec_Blocks_an : Nat → Option (List Nat)
 | 0 => some [1, 3, 4]
 | _ => none
noncomputable def spec_Blocks_lp (N : Nat) (p : List Dir) (rs : List (Env → Option (List (List Int)))) (k : Nat) (env : Env) : Option (List (List Int)) :=
 loopAt Tb (sigL (spec_Blocks_es N)) cps (orcL (spec_Blocks_es N)) N spec_Blocks_an p (Try.f20.body.getD .skip) (endK Tb spec_Blocks_sg Try.f20 [] (un1 ty9)) rs k env
noncomputable def spec_Blocks_l0_E (N : Nat) (k_ : Nat) (d2 : List (ByteArray × Int × Int)) (d3 : List (Int × List Int)) (out : List (List Int)) (i : Int) : Option (List (List Int)) :=
 spec_Blocks_lp N [.r, .r, .l, .r, .b] [] k_ (un 1 (.con (.box ⟨27, false, []⟩) [lf ty3 d2 .ro, lf ty6 d3 .ro] :: (un 1 (.con .val [lf ty9 out .dp] :: (.con .val [lf i64 i .ro] :: (un 26 []))))))
theorem spec_Blocks_l0_z (N : Nat) (d2 : List (ByteArray × Int × Int)) (d3 : List (Int × List Int)) (out : List (List Int)) (i : Int) : spec_Blocks_l0_E N 0 d2 d3 out i = none := by kernel_rfl
theorem spec_Blocks_l0_s (N : Nat) (k_ : Nat) (d2 : List (ByteArray × Int × Int)) (d3 : List (Int × List Int)) (out : List (List Int)) (i : Int) : spec_Blocks_l0_E N (k_ + 1) d2 d3 out i = spec_Blocks_l0_b N (spec_Blocks_l0_E N k_) d2 d3 out i := by kernel_rfl
theorem spec_Blocks_l0_q (N : Nat) : ∀ k_, spec_Blocks_l0_E N k_ = spec_Blocks_l0 N k_
 | 0 => by funext d2 d3 out i; exact spec_Blocks_l0_z N d2 d3 out i
 | k_ + 1 => by funext d2 d3 out i; rw [spec_Blocks_l0_s]; simp only [spec_Blocks_l0_q N k_]; rfl
theorem spec_Blocks_v (N : Nat) (d : List (ByteArray × Int × Int) × List (Int × List Int)) :
  evFn Tb (sigL (spec_Blocks_es N)) cps (orcL (spec_Blocks_es N)) (drawReg Tb (sigL (spec_Blocks_es N)) cps (orcL (spec_Blocks_es N))) N spec_Blocks_an spec_Blocks_sg Try.f20 (Try.f20.body.getD .skip) [.val ty5 d] (un1 ty9) = spec_Blocks_b N (spec_Blocks_l0_E N N) d := by kernel_rfl
noncomputable def spec_Blocks_e (N : Nat) : Entry Try.prog := ⟨20, spec_Blocks_sg, [.v ty5], List (List Int), spec_Blocks N, pk1 ty9, entry_en Try.func20 (code := Try.f20.body.getD .skip) (by kernel_rfl) (by kernel_rfl),
 fun d => entry_ok tab_ok (es := spec_Blocks_es N) (by kernel_rfl) mixed Try.func20 (by kernel_rfl) ⟨⟨rfl, rfl⟩, rfl, rfl⟩ (un1_pk ty9) ((spec_Blocks_v N d).trans (by rw [spec_Blocks_l0_q]; rfl))⟩
def spec_l7Sorted_sg : Sig := ⟨[.val ty2], [(ty2, .dp)], false, false, none, none⟩
noncomputable def spec_l7Sorted_es (N : Nat) : List (Entry Try.prog) := []
def spec_l7Sorted_an : Nat → Option (List Nat)
 | 0 => some [0, 3, 4]
 | 2 => some [0, 3, 4, 5]
 | _ => none
noncomputable def spec_l7Sorted_lp (N : Nat) (p : List Dir) (rs : List (Env → Option (List Int))) (k : Nat) (env : Env) : Option (List Int) :=
 loopAt Tb (sigL (spec_l7Sorted_es N)) cps (orcL (spec_l7Sorted_es N)) N spec_l7Sorted_an p (Try.f106.body.getD .skip) (endK Tb spec_l7Sorted_sg Try.f106 [] (un1 ty2)) rs k env
noncomputable def spec_l7Sorted_l1_E (N : Nat) (k0_ : Nat) (k_ : Nat) (l3 : List Int) (out2 : List Int) (i2 : Int) (k : Int) : Option (List Int) :=
 spec_l7Sorted_lp N [.r, .r, .l, .r, .b, .b, .r, .l, .b, .r, .l, .b] [spec_l7Sorted_lp N [.r, .r, .l, .r, .b] [] k0_] k_ (.con .val [lf ty2 l3 .ro] :: (un 2 (.con .val [lf ty2 out2 .dp] :: (.con .val [lf i64 i2 .ro] :: (.con .val [lf i64 k .ro] :: (un 41 []))))))
noncomputable def spec_l7Sorted_l0_E (N : Nat) (k_ : Nat) (l2 : List Int) (out : List Int) (i : Int) : Option (List Int) :=
 spec_l7Sorted_lp N [.r, .r, .l, .r, .b] [] k_ (.con .val [lf ty2 l2 .ro] :: (un 2 (.con .val [lf ty2 out .dp] :: (.con .val [lf i64 i .ro] :: (un 42 [])))))
theorem spec_l7Sorted_l1_z (N : Nat) (k0_ : Nat) (l3 : List Int) (out2 : List Int) (i2 : Int) (k : Int) : spec_l7Sorted_l1_E N k0_ 0 l3 out2 i2 k = none := by kernel_rfl
theorem spec_l7Sorted_l1_s (N : Nat) (k0_ : Nat) (k_ : Nat) (l3 : List Int) (out2 : List Int) (i2 : Int) (k : Int) : spec_l7Sorted_l1_E N k0_ (k_ + 1) l3 out2 i2 k = spec_l7Sorted_l1_b N (spec_l7Sorted_l0_E N k0_) (spec_l7Sorted_l1_E N k0_ k_) l3 out2 i2 k := by kernel_rfl
theorem spec_l7Sorted_l0_z (N : Nat) (l2 : List Int) (out : List Int) (i : Int) : spec_l7Sorted_l0_E N 0 l2 out i = none := by kernel_rfl
theorem spec_l7Sorted_l0_s (N : Nat) (k_ : Nat) (l2 : List Int) (out : List Int) (i : Int) : spec_l7Sorted_l0_E N (k_ + 1) l2 out i = spec_l7Sorted_l0_b N (spec_l7Sorted_l1_E N k_ N) (spec_l7Sorted_l0_E N k_) l2 out i := by kernel_rfl
theorem spec_l7Sorted_l1_q (N : Nat) (k0_ : Nat) : ∀ k_, spec_l7Sorted_l1_E N k0_ k_ = spec_l7Sorted_l1 (spec_l7Sorted_l0_E N k0_) N k_
 | 0 => by funext l3 out2 i2 k; exact spec_l7Sorted_l1_z N k0_ l3 out2 i2 k
 | k_ + 1 => by funext l3 out2 i2 k; rw [spec_l7Sorted_l1_s]; simp only [spec_l7Sorted_l1_q N k0_ k_]; rfl
theorem spec_l7Sorted_l0_q (N : Nat) : ∀ k_, spec_l7Sorted_l0_E N k_ = spec_l7Sorted_l0 N k_
 | 0 => by funext l2 out i; exact spec_l7Sorted_l0_z N l2 out i
 | k_ + 1 => by funext l2 out i; rw [spec_l7Sorted_l0_s]; simp only [spec_l7Sorted_l1_q, spec_l7Sorted_l0_q N k_]; rfl
theorem spec_l7Sorted_v (N : Nat) (l : List Int) :
  evFn Tb (sigL (spec_l7Sorted_es N)) cps (orcL (spec_l7Sorted_es N)) (drawReg Tb (sigL (spec_l7Sorted_es N)) cps (orcL (spec_l7Sorted_es N))) N spec_l7Sorted_an spec_l7Sorted_sg Try.f106 (Try.f106.body.getD .skip) [.val ty2 l] (un1 ty2) = spec_l7Sorted_b N (spec_l7Sorted_l0_E N N) l := by kernel_rfl
noncomputable def spec_l7Sorted_e (N : Nat) : Entry Try.prog := ⟨106, spec_l7Sorted_sg, [.v ty2], List Int, spec_l7Sorted N, pk1 ty2, entry_en Try.func106 (code := Try.f106.body.getD .skip) (by kernel_rfl) (by kernel_rfl),
 fun l => entry_ok tab_ok (es := spec_l7Sorted_es N) (by kernel_rfl) mixed Try.func106 (by kernel_rfl) ⟨⟨rfl, rfl⟩, rfl, rfl⟩ (un1_pk ty2) ((spec_l7Sorted_v N l).trans (by rw [spec_l7Sorted_l0_q]; rfl))⟩
def spec_MostLikelyRepair_sg : Sig := ⟨[.val ty5, .val ty2], [(ty2, .dp), (.bool, .dp)], false, false, none, none⟩
noncomputable def spec_MostLikelyRepair_es (N : Nat) : List (Entry Try.prog) := [spec_l7Sorted_e N, spec_AreValidWeights_e N, spec_Blocks_e N]
def spec_MostLikelyRepair_an : Nat → Option (List Nat)
 | 0 => some [1, 6, 7, 8]
 | 2 => some [1, 6, 7, 8, 9, 10]
 | _ => none
noncomputable def spec_MostLikelyRepair_lp (N : Nat) (p : List Dir) (rs : List (Env → Option (List Int × Bool))) (k : Nat) (env : Env) : Option (List Int × Bool) :=
 loopAt Tb (sigL (spec_MostLikelyRepair_es N)) cps (orcL (spec_MostLikelyRepair_es N)) N spec_MostLikelyRepair_an p (Try.f34.body.getD .skip) (endK Tb spec_MostLikelyRepair_sg Try.f34 [] (un2 ty2 .bool)) rs k env
noncomputable def spec_MostLikelyRepair_l1_E (N : Nat) (k0_ : Nat) (k_ : Nat) (w3 : List Int) (out2 : List Int) (b2 : List (List Int)) (i2 : Int) (best : Int) (k : Int) : Option (List Int × Bool) :=
 spec_MostLikelyRepair_lp N [.r, .r, .r, .r, .l, .r, .b, .b, .r, .l, .b, .r, .l, .r, .b] [spec_MostLikelyRepair_lp N [.r, .r, .r, .r, .l, .r, .b] [] k0_] k_ (un 1 (.con .val [lf ty2 w3 .ro] :: (un 4 (.con .val [lf ty2 out2 .dp] :: (.con .val [lf ty9 b2 .dp] :: (.con .val [lf i64 i2 .ro] :: (.con .val [lf i64 best .ro] :: (.con .val [lf i64 k .ro] :: (un 57 [])))))))))
noncomputable def spec_MostLikelyRepair_l0_E (N : Nat) (k_ : Nat) (w2 : List Int) (out : List Int) (b : List (List Int)) (i : Int) : Option (List Int × Bool) :=
 spec_MostLikelyRepair_lp N [.r, .r, .r, .r, .l, .r, .b] [] k_ (un 1 (.con .val [lf ty2 w2 .ro] :: (un 4 (.con .val [lf ty2 out .dp] :: (.con .val [lf ty9 b .dp] :: (.con .val [lf i64 i .ro] :: (un 59 [])))))))
theorem spec_MostLikelyRepair_l1_z (N : Nat) (k0_ : Nat) (w3 : List Int) (out2 : List Int) (b2 : List (List Int)) (i2 : Int) (best : Int) (k : Int) : spec_MostLikelyRepair_l1_E N k0_ 0 w3 out2 b2 i2 best k = none := by kernel_rfl
theorem spec_MostLikelyRepair_l1_s (N : Nat) (k0_ : Nat) (k_ : Nat) (w3 : List Int) (out2 : List Int) (b2 : List (List Int)) (i2 : Int) (best : Int) (k : Int) : spec_MostLikelyRepair_l1_E N k0_ (k_ + 1) w3 out2 b2 i2 best k = spec_MostLikelyRepair_l1_b N (spec_MostLikelyRepair_l0_E N k0_) (spec_MostLikelyRepair_l1_E N k0_ k_) w3 out2 b2 i2 best k := by kernel_rfl
theorem spec_MostLikelyRepair_l0_z (N : Nat) (w2 : List Int) (out : List Int) (b : List (List Int)) (i : Int) : spec_MostLikelyRepair_l0_E N 0 w2 out b i = none := by kernel_rfl
theorem spec_MostLikelyRepair_l0_s (N : Nat) (k_ : Nat) (w2 : List Int) (out : List Int) (b : List (List Int)) (i : Int) : spec_MostLikelyRepair_l0_E N (k_ + 1) w2 out b i = spec_MostLikelyRepair_l0_b N (spec_MostLikelyRepair_l1_E N k_ N) (spec_MostLikelyRepair_l0_E N k_) w2 out b i := by kernel_rfl
theorem spec_MostLikelyRepair_l1_q (N : Nat) (k0_ : Nat) : ∀ k_, spec_MostLikelyRepair_l1_E N k0_ k_ = spec_MostLikelyRepair_l1 (spec_MostLikelyRepair_l0_E N k0_) N k_
 | 0 => by funext w3 out2 b2 i2 best k; exact spec_MostLikelyRepair_l1_z N k0_ w3 out2 b2 i2 best k
 | k_ + 1 => by funext w3 out2 b2 i2 best k; rw [spec_MostLikelyRepair_l1_s]; simp only [spec_MostLikelyRepair_l1_q N k0_ k_]; rfl
theorem spec_MostLikelyRepair_l0_q (N : Nat) : ∀ k_, spec_MostLikelyRepair_l0_E N k_ = spec_MostLikelyRepair_l0 N k_
 | 0 => by funext w2 out b i; exact spec_MostLikelyRepair_l0_z N w2 out b i
 | k_ + 1 => by funext w2 out b i; rw [spec_MostLikelyRepair_l0_s]; simp only [spec_MostLikelyRepair_l1_q, spec_MostLikelyRepair_l0_q N k_]; rfl
theorem spec_MostLikelyRepair_v (N : Nat) (d : List (ByteArray × Int × Int) × List (Int × List Int)) (w : List Int) :
  evFn Tb (sigL (spec_MostLikelyRepair_es N)) cps (orcL (spec_MostLikelyRepair_es N)) (drawReg Tb (sigL (spec_MostLikelyRepair_es N)) cps (orcL (spec_MostLikelyRepair_es N))) N spec_MostLikelyRepair_an spec_MostLikelyRepair_sg Try.f34 (Try.f34.body.getD .skip) [.val ty5 d, .val ty2 w] (un2 ty2 .bool) = spec_MostLikelyRepair_b N (spec_MostLikelyRepair_l0_E N N) d w := by kernel_rfl
noncomputable def spec_MostLikelyRepair_e (N : Nat) : Entry Try.prog := ⟨34, spec_MostLikelyRepair_sg, [.v ty5, .v ty2], List Int × Bool, spec_MostLikelyRepair N, pk2 ty2 .bool, entry_en Try.func34 (code := Try.f34.body.getD .skip) (by kernel_rfl) (by kernel_rfl),
 fun d w => entry_ok tab_ok (es := spec_MostLikelyRepair_es N) (by kernel_rfl) mixed Try.func34 (by kernel_rfl) ⟨⟨rfl, rfl⟩, rfl, rfl⟩ (un2_pk ty2 .bool) ((spec_MostLikelyRepair_v N d w).trans (by rw [spec_MostLikelyRepair_l0_q]; rfl))⟩
def spec_l5Repair_bx : BoxSig := ⟨0, 133, [.fx, .ro, .ro]⟩
def spec_l5Repair_sg : Sig := ⟨[.ptr ty1, .val ty5], [(ty2, .dp)], false, false, some spec_l5Repair_bx, none⟩
noncomputable def spec_l5Repair_es (N : Nat) : List (Entry Try.prog) := [spec_l1Below_e N, spec_Blocks_e N]
def spec_l5Repair_an : Nat → Option (List Nat)
 | 0 => some [0, 5, 6, 7]
 | 2 => some [0, 6, 8, 9]
 | _ => none
noncomputable def spec_l5Repair_lp (N : Nat) (p : List Dir) (rs : List (Env → Option ((List Int × Int × Int) × List Int))) (k : Nat) (env : Env) : Option ((List Int × Int × Int) × List Int) :=
 loopAt Tb (sigL (spec_l5Repair_es N)) cps (orcL (spec_l5Repair_es N)) N spec_l5Repair_an p (Try.f117.body.getD .skip) (endB Tb spec_l5Repair_sg spec_l5Repair_bx Try.f117 ty1 (un2 ty1 ty2)) rs k env
noncomputable def spec_l5Repair_l1_E (N : Nat) (k_ : Nat) (c5 : List Int) (c6 : Int) (c7 : Int) (keep2 : List Bool) (out : List Int) (i2 : Int) : Option ((List Int × Int × Int) × List Int) :=
 spec_l5Repair_lp N [.r, .r, .r, .r, .r, .l, .r, .b] [] k_ (.con (.box ⟨133, true, [true, false, false]⟩) [lf ty0 c5 .ro, lf i64 c6 .ro, lf i64 c7 .ro] :: (un 5 (.con .val [lf ty10 keep2 .dp] :: (un 1 (.con .val [lf ty2 out .dp] :: (.con .val [lf i64 i2 .ro] :: (un 43 [])))))))
noncomputable def spec_l5Repair_l0_E (N : Nat) (k_ : Nat) (c2 : List Int) (c3 : Int) (c4 : Int) (l : List (List Int)) (keep : List Bool) (i : Int) : Option ((List Int × Int × Int) × List Int) :=
 spec_l5Repair_lp N [.r, .r, .r, .l, .r, .b] [] k_ (.con (.box ⟨133, true, [true, false, false]⟩) [lf ty0 c2 .ro, lf i64 c3 .ro, lf i64 c4 .ro] :: (un 4 (.con .val [lf ty9 l .dp] :: (.con .val [lf ty10 keep .dp] :: (.con .val [lf i64 i .ro] :: (un 45 []))))))
theorem spec_l5Repair_l1_z (N : Nat) (c5 : List Int) (c6 : Int) (c7 : Int) (keep2 : List Bool) (out : List Int) (i2 : Int) : spec_l5Repair_l1_E N 0 c5 c6 c7 keep2 out i2 = none := by kernel_rfl
theorem spec_l5Repair_l1_s (N : Nat) (k_ : Nat) (c5 : List Int) (c6 : Int) (c7 : Int) (keep2 : List Bool) (out : List Int) (i2 : Int) : spec_l5Repair_l1_E N (k_ + 1) c5 c6 c7 keep2 out i2 = spec_l5Repair_l1_b N (spec_l5Repair_l1_E N k_) c5 c6 c7 keep2 out i2 := by kernel_rfl
theorem spec_l5Repair_l0_z (N : Nat) (c2 : List Int) (c3 : Int) (c4 : Int) (l : List (List Int)) (keep : List Bool) (i : Int) : spec_l5Repair_l0_E N 0 c2 c3 c4 l keep i = none := by kernel_rfl
theorem spec_l5Repair_l0_s (N : Nat) (k_ : Nat) (c2 : List Int) (c3 : Int) (c4 : Int) (l : List (List Int)) (keep : List Bool) (i : Int) : spec_l5Repair_l0_E N (k_ + 1) c2 c3 c4 l keep i = spec_l5Repair_l0_b N (spec_l5Repair_l1_E N N) (spec_l5Repair_l0_E N k_) c2 c3 c4 l keep i := by kernel_rfl
theorem spec_l5Repair_l1_q (N : Nat) : ∀ k_, spec_l5Repair_l1_E N k_ = spec_l5Repair_l1 N k_
 | 0 => by funext c5 c6 c7 keep2 out i2; exact spec_l5Repair_l1_z N c5 c6 c7 keep2 out i2
 | k_ + 1 => by funext c5 c6 c7 keep2 out i2; rw [spec_l5Repair_l1_s]; simp only [spec_l5Repair_l1_q N k_]; rfl
theorem spec_l5Repair_l0_q (N : Nat) : ∀ k_, spec_l5Repair_l0_E N k_ = spec_l5Repair_l0 N k_
 | 0 => by funext c2 c3 c4 l keep i; exact spec_l5Repair_l0_z N c2 c3 c4 l keep i
 | k_ + 1 => by funext c2 c3 c4 l keep i; rw [spec_l5Repair_l0_s]; simp only [spec_l5Repair_l1_q, spec_l5Repair_l0_q N k_]; rfl
theorem spec_l5Repair_v (N : Nat) (c : List Int × Int × Int) (d : List (ByteArray × Int × Int) × List (Int × List Int)) :
  evFnB Tb (sigL (spec_l5Repair_es N)) cps (orcL (spec_l5Repair_es N)) (drawReg Tb (sigL (spec_l5Repair_es N)) cps (orcL (spec_l5Repair_es N))) N spec_l5Repair_an spec_l5Repair_sg spec_l5Repair_bx Try.f117 (Try.f117.body.getD .skip) [.ptr ty1 c, .val ty5 d] (un2 ty1 ty2) = spec_l5Repair_b N (spec_l5Repair_l0_E N N) c d := by kernel_rfl
noncomputable def spec_l5Repair_e (N : Nat) : Entry Try.prog := ⟨117, spec_l5Repair_sg, [.p ty1, .v ty5], (List Int × Int × Int) × List Int, spec_l5Repair N, pk2 ty1 ty2, entry_en Try.func117 (code := Try.f117.body.getD .skip) (by kernel_rfl) (by kernel_rfl),
 fun c d => entry_okB tab_ok (es := spec_l5Repair_es N) (by kernel_rfl) mixed Try.func117 (by kernel_rfl) rfl rfl (fun _ => ⟨_, _, rfl⟩) (un2_pk ty1 ty2) ((spec_l5Repair_v N c d).trans (by rw [spec_l5Repair_l0_q]; rfl))⟩
def spec_l4Places_bx : BoxSig := ⟨0, 133, [.fx, .ro, .ro]⟩
def spec_l4Places_sg : Sig := ⟨[.ptr ty1, .val ty5], [(ty2, .dp)], false, false, some spec_l4Places_bx, none⟩
noncomputable def spec_l4Places_es (N : Nat) : List (Entry Try.prog) := [spec_l1Once_e N, spec_l1PickInt_e N]
def spec_l4Places_an : Nat → Option (List Nat)
 | 0 => some [0, 3, 5, 6]
 | _ => none
noncomputable def spec_l4Places_lp (N : Nat) (p : List Dir) (rs : List (Env → Option ((List Int × Int × Int) × List Int))) (k : Nat) (env : Env) : Option ((List Int × Int × Int) × List Int) :=
 loopAt Tb (sigL (spec_l4Places_es N)) cps (orcL (spec_l4Places_es N)) N spec_l4Places_an p (Try.f118.body.getD .skip) (endB Tb spec_l4Places_sg spec_l4Places_bx Try.f118 ty1 (un2 ty1 ty2)) rs k env
noncomputable def spec_l4Places_l0_E (N : Nat) (k_ : Nat) (c2 : List Int) (c3 : Int) (c4 : Int) (d2 : List (ByteArray × Int × Int)) (d3 : List (Int × List Int)) (l : List Int) (i : Int) : Option ((List Int × Int × Int) × List Int) :=
 spec_l4Places_lp N [.r, .r, .l, .r, .b] [] k_ (.con (.box ⟨133, true, [true, false, false]⟩) [lf ty0 c2 .ro, lf i64 c3 .ro, lf i64 c4 .ro] :: (un 2 (.con (.box ⟨27, false, []⟩) [lf ty3 d2 .ro, lf ty6 d3 .ro] :: (un 1 (.con .val [lf ty2 l .dp] :: (.con .val [lf i64 i .ro] :: (un 30 [])))))))
theorem spec_l4Places_l0_z (N : Nat) (c2 : List Int) (c3 : Int) (c4 : Int) (d2 : List (ByteArray × Int × Int)) (d3 : List (Int × List Int)) (l : List Int) (i : Int) : spec_l4Places_l0_E N 0 c2 c3 c4 d2 d3 l i = none := by kernel_rfl
theorem spec_l4Places_l0_s (N : Nat) (k_ : Nat) (c2 : List Int) (c3 : Int) (c4 : Int) (d2 : List (ByteArray × Int × Int)) (d3 : List (Int × List Int)) (l : List Int) (i : Int) : spec_l4Places_l0_E N (k_ + 1) c2 c3 c4 d2 d3 l i = spec_l4Places_l0_b N (spec_l4Places_l0_E N k_) c2 c3 c4 d2 d3 l i := by kernel_rfl
theorem spec_l4Places_l0_q (N : Nat) : ∀ k_, spec_l4Places_l0_E N k_ = spec_l4Places_l0 N k_
 | 0 => by funext c2 c3 c4 d2 d3 l i; exact spec_l4Places_l0_z N c2 c3 c4 d2 d3 l i
 | k_ + 1 => by funext c2 c3 c4 d2 d3 l i; rw [spec_l4Places_l0_s]; simp only [spec_l4Places_l0_q N k_]; rfl
theorem spec_l4Places_v (N : Nat) (c : List Int × Int × Int) (d : List (ByteArray × Int × Int) × List (Int × List Int)) :
  evFnB Tb (sigL (spec_l4Places_es N)) cps (orcL (spec_l4Places_es N)) (drawReg Tb (sigL (spec_l4Places_es N)) cps (orcL (spec_l4Places_es N))) N spec_l4Places_an spec_l4Places_sg spec_l4Places_bx Try.f118 (Try.f118.body.getD .skip) [.ptr ty1 c, .val ty5 d] (un2 ty1 ty2) = spec_l4Places_b N (spec_l4Places_l0_E N N) c d := by kernel_rfl
noncomputable def spec_l4Places_e (N : Nat) : Entry Try.prog := ⟨118, spec_l4Places_sg, [.p ty1, .v ty5], (List Int × Int × Int) × List Int, spec_l4Places N, pk2 ty1 ty2, entry_en Try.func118 (code := Try.f118.body.getD .skip) (by kernel_rfl) (by kernel_rfl),
 fun c d => entry_okB tab_ok (es := spec_l4Places_es N) (by kernel_rfl) mixed Try.func118 (by kernel_rfl) rfl rfl (fun _ => ⟨_, _, rfl⟩) (un2_pk ty1 ty2) ((spec_l4Places_v N c d).trans (by rw [spec_l4Places_l0_q]; rfl))⟩
def spec_DrawRepairWeight_sg : Sig := ⟨[.val ty0], [(ty5, .ro), (ty2, .dp), (ty2, .dp)], false, false, none, none⟩
noncomputable def spec_DrawRepairWeight_es (N : Nat) : List (Entry Try.prog) := [spec_l1New_e N, spec_l4Any_e N, spec_l37Weights_e N, spec_l1Once_e N, spec_l5Repair_e N, spec_l4Places_e N]
def spec_DrawRepairWeight_an : Nat → Option (List Nat) := fun _ => none
theorem spec_DrawRepairWeight_v (N : Nat) (code : List Int) :
  evFn Tb (sigL (spec_DrawRepairWeight_es N)) cps (orcL (spec_DrawRepairWeight_es N)) (drawReg Tb (sigL (spec_DrawRepairWeight_es N)) cps (orcL (spec_DrawRepairWeight_es N))) N spec_DrawRepairWeight_an spec_DrawRepairWeight_sg Try.f44 (Try.f44.body.getD .skip) [.val ty0 code] (un3 ty5 ty2 ty2) = spec_DrawRepairWeight N code := by kernel_rfl
noncomputable def spec_DrawRepairWeight_e (N : Nat) : Entry Try.prog := ⟨44, spec_DrawRepairWeight_sg, [.v ty0], (List (ByteArray × Int × Int) × List (Int × List Int)) × List Int × List Int, spec_DrawRepairWeight N, pk3 ty5 ty2 ty2, entry_en Try.func44 (code := Try.f44.body.getD .skip) (by kernel_rfl) (by kernel_rfl),
 fun code => entry_ok tab_ok (es := spec_DrawRepairWeight_es N) (by kernel_rfl) mixed Try.func44 (by kernel_rfl) ⟨⟨rfl, rfl⟩, rfl, rfl⟩ (un3_pk ty5 ty2 ty2) (spec_DrawRepairWeight_v N code)⟩
def laws_sameInts_sg : Sig := ⟨[.val ty2, .val ty2], [(.bool, .dp)], false, false, none, none⟩
noncomputable def laws_sameInts_es (N : Nat) : List (Entry Try.prog) := []
def laws_sameInts_an : Nat → Option (List Nat)
 | 0 => some [0, 1, 5]
 | _ => none
noncomputable def laws_sameInts_lp (N : Nat) (p : List Dir) (rs : List (Env → Option (Bool))) (k : Nat) (env : Env) : Option (Bool) :=
 loopAt Tb (sigL (laws_sameInts_es N)) cps (orcL (laws_sameInts_es N)) N laws_sameInts_an p (Try.f27.body.getD .skip) (endK Tb laws_sameInts_sg Try.f27 [] (un1 .bool)) rs k env
noncomputable def laws_sameInts_l0_E (N : Nat) (k_ : Nat) (a2 : List Int) (b2 : List Int) (i : Int) : Option (Bool) :=
 laws_sameInts_lp N [.r, .r, .l, .r, .b] [] k_ (.con .val [lf ty2 a2 .ro] :: (.con .val [lf ty2 b2 .ro] :: (un 3 (.con .val [lf i64 i .ro] :: (un 20 [])))))
theorem laws_sameInts_l0_z (N : Nat) (a2 : List Int) (b2 : List Int) (i : Int) : laws_sameInts_l0_E N 0 a2 b2 i = none := by kernel_rfl
theorem laws_sameInts_l0_s (N : Nat) (k_ : Nat) (a2 : List Int) (b2 : List Int) (i : Int) : laws_sameInts_l0_E N (k_ + 1) a2 b2 i = laws_sameInts_l0_b N (laws_sameInts_l0_E N k_) a2 b2 i := by kernel_rfl
theorem laws_sameInts_l0_q (N : Nat) : ∀ k_, laws_sameInts_l0_E N k_ = laws_sameInts_l0 N k_
 | 0 => by funext a2 b2 i; exact laws_sameInts_l0_z N a2 b2 i
 | k_ + 1 => by funext a2 b2 i; rw [laws_sameInts_l0_s]; simp only [laws_sameInts_l0_q N k_]; rfl
theorem laws_sameInts_v (N : Nat) (a : List Int) (b : List Int) :
  evFn Tb (sigL (laws_sameInts_es N)) cps (orcL (laws_sameInts_es N)) (drawReg Tb (sigL (laws_sameInts_es N)) cps (orcL (laws_sameInts_es N))) N laws_sameInts_an laws_sameInts_sg Try.f27 (Try.f27.body.getD .skip) [.val ty2 a, .val ty2 b] (un1 .bool) = laws_sameInts_b N (laws_sameInts_l0_E N N) a b := by kernel_rfl
noncomputable def laws_sameInts_e (N : Nat) : Entry Try.prog := ⟨27, laws_sameInts_sg, [.v ty2, .v ty2], Bool, laws_sameInts N, pk1 .bool, entry_en Try.func27 (code := Try.f27.body.getD .skip) (by kernel_rfl) (by kernel_rfl),
 fun a b => entry_ok tab_ok (es := laws_sameInts_es N) (by kernel_rfl) mixed Try.func27 (by kernel_rfl) ⟨⟨rfl, rfl⟩, rfl, rfl⟩ (un1_pk .bool) ((laws_sameInts_v N a b).trans (by rw [laws_sameInts_l0_q]; rfl))⟩
def impl_areIndices_sg : Sig := ⟨[.val ty2, .val i64], [(.bool, .dp)], false, false, none, none⟩
noncomputable def impl_areIndices_es (N : Nat) : List (Entry Try.prog) := [impl_within_e N]
def impl_areIndices_an : Nat → Option (List Nat)
 | 0 => some [0, 1, 7, 8, 9]
 | _ => none
noncomputable def impl_areIndices_lp (N : Nat) (p : List Dir) (rs : List (Env → Option (Bool))) (k : Nat) (env : Env) : Option (Bool) :=
 loopAt Tb (sigL (impl_areIndices_es N)) cps (orcL (impl_areIndices_es N)) N impl_areIndices_an p (Try.f121.body.getD .skip) (endK Tb impl_areIndices_sg Try.f121 [] (un1 .bool)) rs k env
noncomputable def impl_areIndices_l0_E (N : Nat) (k_ : Nat) (indices2 : List Int) (n2 : Int) (t7 : List Int) (t8 : Int) (t9 : Int) : Option (Bool) :=
 impl_areIndices_lp N [.r, .l, .r, .b] [] k_ (.con .val [lf ty2 indices2 .ro] :: (.con .val [lf i64 n2 .ro] :: (un 5 (.con .val [lf ty2 t7 .ro] :: (.con .val [lf i64 t8 .ro] :: (.con .val [lf i64 t9 .ro] :: (un 23 [])))))))
theorem impl_areIndices_l0_z (N : Nat) (indices2 : List Int) (n2 : Int) (t7 : List Int) (t8 : Int) (t9 : Int) : impl_areIndices_l0_E N 0 indices2 n2 t7 t8 t9 = none := by kernel_rfl
theorem impl_areIndices_l0_s (N : Nat) (k_ : Nat) (indices2 : List Int) (n2 : Int) (t7 : List Int) (t8 : Int) (t9 : Int) : impl_areIndices_l0_E N (k_ + 1) indices2 n2 t7 t8 t9 = impl_areIndices_l0_b N (impl_areIndices_l0_E N k_) indices2 n2 t7 t8 t9 := by kernel_rfl
theorem impl_areIndices_l0_q (N : Nat) : ∀ k_, impl_areIndices_l0_E N k_ = impl_areIndices_l0 N k_
 | 0 => by funext indices2 n2 t7 t8 t9; exact impl_areIndices_l0_z N indices2 n2 t7 t8 t9
 | k_ + 1 => by funext indices2 n2 t7 t8 t9; rw [impl_areIndices_l0_s]; simp only [impl_areIndices_l0_q N k_]; rfl
theorem impl_areIndices_v (N : Nat) (indices : List Int) (n : Int) :
  evFn Tb (sigL (impl_areIndices_es N)) cps (orcL (impl_areIndices_es N)) (drawReg Tb (sigL (impl_areIndices_es N)) cps (orcL (impl_areIndices_es N))) N impl_areIndices_an impl_areIndices_sg Try.f121 (Try.f121.body.getD .skip) [.val ty2 indices, .val i64 n] (un1 .bool) = impl_areIndices_b N (impl_areIndices_l0_E N N) indices n := by kernel_rfl
noncomputable def impl_areIndices_e (N : Nat) : Entry Try.prog := ⟨121, impl_areIndices_sg, [.v ty2, .v i64], Bool, impl_areIndices N, pk1 .bool, entry_en Try.func121 (code := Try.f121.body.getD .skip) (by kernel_rfl) (by kernel_rfl),
 fun indices n => entry_ok tab_ok (es := impl_areIndices_es N) (by kernel_rfl) mixed Try.func121 (by kernel_rfl) ⟨⟨rfl, rfl⟩, rfl, rfl⟩ (un1_pk .bool) ((impl_areIndices_v N indices n).trans (by rw [impl_areIndices_l0_q]; rfl))⟩
def impl_weightOf_sg : Sig := ⟨[.val ty2, .val ty2], [(i64, .dp)], false, false, none, none⟩
noncomputable def impl_weightOf_es (N : Nat) : List (Entry Try.prog) := []
def impl_weightOf_an : Nat → Option (List Nat)
 | 0 => some [0, 5, 8, 9, 10]
 | _ => none
noncomputable def impl_weightOf_lp (N : Nat) (p : List Dir) (rs : List (Env → Option (Int))) (k : Nat) (env : Env) : Option (Int) :=
 loopAt Tb (sigL (impl_weightOf_es N)) cps (orcL (impl_weightOf_es N)) N impl_weightOf_an p (Try.f122.body.getD .skip) (endK Tb impl_weightOf_sg Try.f122 [] (un1 i64)) rs k env
noncomputable def impl_weightOf_l0_E (N : Nat) (k_ : Nat) (weights2 : List Int) (out : Int) (t8 : List Int) (t9 : Int) (t10 : Int) : Option (Int) :=
 impl_weightOf_lp N [.r, .r, .l, .r, .b] [] k_ (.con .val [lf ty2 weights2 .ro] :: (un 4 (.con .val [lf i64 out .ro] :: (un 2 (.con .val [lf ty2 t8 .ro] :: (.con .val [lf i64 t9 .ro] :: (.con .val [lf i64 t10 .ro] :: (un 11 []))))))))
theorem impl_weightOf_l0_z (N : Nat) (weights2 : List Int) (out : Int) (t8 : List Int) (t9 : Int) (t10 : Int) : impl_weightOf_l0_E N 0 weights2 out t8 t9 t10 = none := by kernel_rfl
theorem impl_weightOf_l0_s (N : Nat) (k_ : Nat) (weights2 : List Int) (out : Int) (t8 : List Int) (t9 : Int) (t10 : Int) : impl_weightOf_l0_E N (k_ + 1) weights2 out t8 t9 t10 = impl_weightOf_l0_b N (impl_weightOf_l0_E N k_) weights2 out t8 t9 t10 := by kernel_rfl
theorem impl_weightOf_l0_q (N : Nat) : ∀ k_, impl_weightOf_l0_E N k_ = impl_weightOf_l0 N k_
 | 0 => by funext weights2 out t8 t9 t10; exact impl_weightOf_l0_z N weights2 out t8 t9 t10
 | k_ + 1 => by funext weights2 out t8 t9 t10; rw [impl_weightOf_l0_s]; simp only [impl_weightOf_l0_q N k_]; rfl
theorem impl_weightOf_v (N : Nat) (weights : List Int) (indices : List Int) :
  evFn Tb (sigL (impl_weightOf_es N)) cps (orcL (impl_weightOf_es N)) (drawReg Tb (sigL (impl_weightOf_es N)) cps (orcL (impl_weightOf_es N))) N impl_weightOf_an impl_weightOf_sg Try.f122 (Try.f122.body.getD .skip) [.val ty2 weights, .val ty2 indices] (un1 i64) = impl_weightOf_b N (impl_weightOf_l0_E N N) weights indices := by kernel_rfl
noncomputable def impl_weightOf_e (N : Nat) : Entry Try.prog := ⟨122, impl_weightOf_sg, [.v ty2, .v ty2], Int, impl_weightOf N, pk1 i64, entry_en Try.func122 (code := Try.f122.body.getD .skip) (by kernel_rfl) (by kernel_rfl),
 fun weights indices => entry_ok tab_ok (es := impl_weightOf_es N) (by kernel_rfl) mixed Try.func122 (by kernel_rfl) ⟨⟨rfl, rfl⟩, rfl, rfl⟩ (un1_pk i64) ((impl_weightOf_v N weights indices).trans (by rw [impl_weightOf_l0_q]; rfl))⟩
def impl_RepairWeight_sg : Sig := ⟨[.val ty5, .val ty2, .val ty2], [(i64, .dp)], false, false, none, none⟩
noncomputable def impl_RepairWeight_es (N : Nat) : List (Entry Try.prog) := [impl_AreValidWeights_e N, impl_areIndices_e N, impl_weightOf_e N]
def impl_RepairWeight_an : Nat → Option (List Nat) := fun _ => none
theorem impl_RepairWeight_v (N : Nat) (db : List (ByteArray × Int × Int) × List (Int × List Int)) (weights : List Int) (indices : List Int) :
  evFn Tb (sigL (impl_RepairWeight_es N)) cps (orcL (impl_RepairWeight_es N)) (drawReg Tb (sigL (impl_RepairWeight_es N)) cps (orcL (impl_RepairWeight_es N))) N impl_RepairWeight_an impl_RepairWeight_sg Try.f47 (Try.f47.body.getD .skip) [.val ty5 db, .val ty2 weights, .val ty2 indices] (un1 i64) = impl_RepairWeight N db weights indices := by kernel_rfl
noncomputable def impl_RepairWeight_e (N : Nat) : Entry Try.prog := ⟨47, impl_RepairWeight_sg, [.v ty5, .v ty2, .v ty2], Int, impl_RepairWeight N, pk1 i64, entry_en Try.func47 (code := Try.f47.body.getD .skip) (by kernel_rfl) (by kernel_rfl),
 fun db weights indices => entry_ok tab_ok (es := impl_RepairWeight_es N) (by kernel_rfl) mixed Try.func47 (by kernel_rfl) ⟨⟨rfl, rfl⟩, rfl, rfl⟩ (un1_pk i64) (impl_RepairWeight_v N db weights indices)⟩
def spec_l4Set_sg : Sig := ⟨[.val ty5, .val ty2], [(.bool, .dp)], false, false, none, none⟩
noncomputable def spec_l4Set_es (N : Nat) : List (Entry Try.prog) := [spec_l1In_e N]
def spec_l4Set_an : Nat → Option (List Nat)
 | 0 => some [1, 2, 5]
 | _ => none
noncomputable def spec_l4Set_lp (N : Nat) (p : List Dir) (rs : List (Env → Option (Bool))) (k : Nat) (env : Env) : Option (Bool) :=
 loopAt Tb (sigL (spec_l4Set_es N)) cps (orcL (spec_l4Set_es N)) N spec_l4Set_an p (Try.f123.body.getD .skip) (endK Tb spec_l4Set_sg Try.f123 [] (un1 .bool)) rs k env
noncomputable def spec_l4Set_l0_E (N : Nat) (k_ : Nat) (l2 : List Int) (d2 : List (ByteArray × Int × Int)) (d3 : List (Int × List Int)) (i : Int) : Option (Bool) :=
 spec_l4Set_lp N [.r, .l, .r, .b] [] k_ (un 1 (.con .val [lf ty2 l2 .ro] :: (.con (.box ⟨27, false, []⟩) [lf ty3 d2 .ro, lf ty6 d3 .ro] :: (un 2 (.con .val [lf i64 i .ro] :: (un 32 []))))))
theorem spec_l4Set_l0_z (N : Nat) (l2 : List Int) (d2 : List (ByteArray × Int × Int)) (d3 : List (Int × List Int)) (i : Int) : spec_l4Set_l0_E N 0 l2 d2 d3 i = none := by kernel_rfl
theorem spec_l4Set_l0_s (N : Nat) (k_ : Nat) (l2 : List Int) (d2 : List (ByteArray × Int × Int)) (d3 : List (Int × List Int)) (i : Int) : spec_l4Set_l0_E N (k_ + 1) l2 d2 d3 i = spec_l4Set_l0_b N (spec_l4Set_l0_E N k_) l2 d2 d3 i := by kernel_rfl
theorem spec_l4Set_l0_q (N : Nat) : ∀ k_, spec_l4Set_l0_E N k_ = spec_l4Set_l0 N k_
 | 0 => by funext l2 d2 d3 i; exact spec_l4Set_l0_z N l2 d2 d3 i
 | k_ + 1 => by funext l2 d2 d3 i; rw [spec_l4Set_l0_s]; simp only [spec_l4Set_l0_q N k_]; rfl
theorem spec_l4Set_v (N : Nat) (d : List (ByteArray × Int × Int) × List (Int × List Int)) (l : List Int) :
  evFn Tb (sigL (spec_l4Set_es N)) cps (orcL (spec_l4Set_es N)) (drawReg Tb (sigL (spec_l4Set_es N)) cps (orcL (spec_l4Set_es N))) N spec_l4Set_an spec_l4Set_sg Try.f123 (Try.f123.body.getD .skip) [.val ty5 d, .val ty2 l] (un1 .bool) = spec_l4Set_b N (spec_l4Set_l0_E N N) d l := by kernel_rfl
noncomputable def spec_l4Set_e (N : Nat) : Entry Try.prog := ⟨123, spec_l4Set_sg, [.v ty5, .v ty2], Bool, spec_l4Set N, pk1 .bool, entry_en Try.func123 (code := Try.f123.body.getD .skip) (by kernel_rfl) (by kernel_rfl),
 fun d l => entry_ok tab_ok (es := spec_l4Set_es N) (by kernel_rfl) mixed Try.func123 (by kernel_rfl) ⟨⟨rfl, rfl⟩, rfl, rfl⟩ (un1_pk .bool) ((spec_l4Set_v N d l).trans (by rw [spec_l4Set_l0_q]; rfl))⟩
def spec_RepairWeight_sg : Sig := ⟨[.val ty5, .val ty2, .val ty2], [(i64, .dp)], false, false, none, none⟩
noncomputable def spec_RepairWeight_es (N : Nat) : List (Entry Try.prog) := [spec_AreValidWeights_e N, spec_l4Set_e N]
def spec_RepairWeight_an : Nat → Option (List Nat)
 | 0 => some [1, 2, 7, 8]
 | _ => none
noncomputable def spec_RepairWeight_lp (N : Nat) (p : List Dir) (rs : List (Env → Option (Int))) (k : Nat) (env : Env) : Option (Int) :=
 loopAt Tb (sigL (spec_RepairWeight_es N)) cps (orcL (spec_RepairWeight_es N)) N spec_RepairWeight_an p (Try.f48.body.getD .skip) (endK Tb spec_RepairWeight_sg Try.f48 [] (un1 i64)) rs k env
noncomputable def spec_RepairWeight_l0_E (N : Nat) (k_ : Nat) (w2 : List Int) (l2 : List Int) (n : Int) (i : Int) : Option (Int) :=
 spec_RepairWeight_lp N [.r, .r, .r, .l, .r, .b] [] k_ (un 1 (.con .val [lf ty2 w2 .ro] :: (.con .val [lf ty2 l2 .ro] :: (un 4 (.con .val [lf i64 n .ro] :: (.con .val [lf i64 i .ro] :: (un 26 [])))))))
theorem spec_RepairWeight_l0_z (N : Nat) (w2 : List Int) (l2 : List Int) (n : Int) (i : Int) : spec_RepairWeight_l0_E N 0 w2 l2 n i = none := by kernel_rfl
theorem spec_RepairWeight_l0_s (N : Nat) (k_ : Nat) (w2 : List Int) (l2 : List Int) (n : Int) (i : Int) : spec_RepairWeight_l0_E N (k_ + 1) w2 l2 n i = spec_RepairWeight_l0_b N (spec_RepairWeight_l0_E N k_) w2 l2 n i := by kernel_rfl
theorem spec_RepairWeight_l0_q (N : Nat) : ∀ k_, spec_RepairWeight_l0_E N k_ = spec_RepairWeight_l0 N k_
 | 0 => by funext w2 l2 n i; exact spec_RepairWeight_l0_z N w2 l2 n i
 | k_ + 1 => by funext w2 l2 n i; rw [spec_RepairWeight_l0_s]; simp only [spec_RepairWeight_l0_q N k_]; rfl
theorem spec_RepairWeight_v (N : Nat) (d : List (ByteArray × Int × Int) × List (Int × List Int)) (w : List Int) (l : List Int) :
  evFn Tb (sigL (spec_RepairWeight_es N)) cps (orcL (spec_RepairWeight_es N)) (drawReg Tb (sigL (spec_RepairWeight_es N)) cps (orcL (spec_RepairWeight_es N))) N spec_RepairWeight_an spec_RepairWeight_sg Try.f48 (Try.f48.body.getD .skip) [.val ty5 d, .val ty2 w, .val ty2 l] (un1 i64) = spec_RepairWeight_b N (spec_RepairWeight_l0_E N N) d w l := by kernel_rfl
noncomputable def spec_RepairWeight_e (N : Nat) : Entry Try.prog := ⟨48, spec_RepairWeight_sg, [.v ty5, .v ty2, .v ty2], Int, spec_RepairWeight N, pk1 i64, entry_en Try.func48 (code := Try.f48.body.getD .skip) (by kernel_rfl) (by kernel_rfl),
 fun d w l => entry_ok tab_ok (es := spec_RepairWeight_es N) (by kernel_rfl) mixed Try.func48 (by kernel_rfl) ⟨⟨rfl, rfl⟩, rfl, rfl⟩ (un1_pk i64) ((spec_RepairWeight_v N d w l).trans (by rw [spec_RepairWeight_l0_q]; rfl))⟩
def impl_TotalWeight_sg : Sig := ⟨[.val ty5, .val ty2], [(i64, .dp)], false, false, none, none⟩
noncomputable def impl_TotalWeight_es (N : Nat) : List (Entry Try.prog) := [impl_AreValidWeights_e N, impl_blocks_e N]
def impl_TotalWeight_an : Nat → Option (List Nat)
 | 0 => some [1, 5, 16, 17, 18]
 | 2 => some [1, 5, 8, 16, 17, 18, 22, 23, 24]
 | _ => none
noncomputable def impl_TotalWeight_lp (N : Nat) (p : List Dir) (rs : List (Env → Option (Int))) (k : Nat) (env : Env) : Option (Int) :=
 loopAt Tb (sigL (impl_TotalWeight_es N)) cps (orcL (impl_TotalWeight_es N)) N impl_TotalWeight_an p (Try.f49.body.getD .skip) (endK Tb impl_TotalWeight_sg Try.f49 [] (un1 i64)) rs k env
noncomputable def impl_TotalWeight_l1_E (N : Nat) (k0_ : Nat) (k_ : Nat) (weights3 : List Int) (out2 : Int) (sum : Int) (t162 : List (List Int)) (t172 : Int) (t182 : Int) (t22i : Int) (t22 : List Int) (t23 : Int) (t24 : Int) : Option (Int) :=
 impl_TotalWeight_lp N [.r, .r, .r, .l, .r, .b, .b, .r, .r, .l, .b, .r, .r, .l, .r, .b] [impl_TotalWeight_lp N [.r, .r, .r, .l, .r, .b] [] k0_] k_ (un 1 (.con .val [lf ty2 weights3 .ro] :: (un 3 (.con .val [lf i64 out2 .ro] :: (un 2 (.con .val [lf i64 sum .ro] :: (un 7 (.con .val [lf ty9 t162 .dp] :: (.con .val [lf i64 t172 .ro] :: (.con .val [lf i64 t182 .ro] :: (un 3 (.con .val [⟨ty2, t22, (.bor 16 0 [(t22i, 0)])⟩] :: (.con .val [lf i64 t23 .ro] :: (.con .val [lf i64 t24 .ro] :: (un 15 [])))))))))))))))
noncomputable def impl_TotalWeight_l0_E (N : Nat) (k_ : Nat) (weights2 : List Int) (out : Int) (t16 : List (List Int)) (t17 : Int) (t18 : Int) : Option (Int) :=
 impl_TotalWeight_lp N [.r, .r, .r, .l, .r, .b] [] k_ (un 1 (.con .val [lf ty2 weights2 .ro] :: (un 3 (.con .val [lf i64 out .ro] :: (un 10 (.con .val [lf ty9 t16 .dp] :: (.con .val [lf i64 t17 .ro] :: (.con .val [lf i64 t18 .ro] :: (un 21 [])))))))))
theorem impl_TotalWeight_l1_z (N : Nat) (k0_ : Nat) (weights3 : List Int) (out2 : Int) (sum : Int) (t162 : List (List Int)) (t172 : Int) (t182 : Int) (t22i : Int) (t22 : List Int) (t23 : Int) (t24 : Int) : impl_TotalWeight_l1_E N k0_ 0 weights3 out2 sum t162 t172 t182 t22i t22 t23 t24 = none := by kernel_rfl
theorem impl_TotalWeight_l1_s (N : Nat) (k0_ : Nat) (k_ : Nat) (weights3 : List Int) (out2 : Int) (sum : Int) (t162 : List (List Int)) (t172 : Int) (t182 : Int) (t22i : Int) (t22 : List Int) (t23 : Int) (t24 : Int) : impl_TotalWeight_l1_E N k0_ (k_ + 1) weights3 out2 sum t162 t172 t182 t22i t22 t23 t24 = impl_TotalWeight_l1_b N (impl_TotalWeight_l0_E N k0_) (impl_TotalWeight_l1_E N k0_ k_) weights3 out2 sum t162 t172 t182 t22i t22 t23 t24 := by kernel_rfl
theorem impl_TotalWeight_l0_z (N : Nat) (weights2 : List Int) (out : Int) (t16 : List (List Int)) (t17 : Int) (t18 : Int) : impl_TotalWeight_l0_E N 0 weights2 out t16 t17 t18 = none := by kernel_rfl
theorem impl_TotalWeight_l0_s (N : Nat) (k_ : Nat) (weights2 : List Int) (out : Int) (t16 : List (List Int)) (t17 : Int) (t18 : Int) : impl_TotalWeight_l0_E N (k_ + 1) weights2 out t16 t17 t18 = impl_TotalWeight_l0_b N (impl_TotalWeight_l1_E N k_ N) (impl_TotalWeight_l0_E N k_) weights2 out t16 t17 t18 := by kernel_rfl
theorem impl_TotalWeight_l1_q (N : Nat) (k0_ : Nat) : ∀ k_, impl_TotalWeight_l1_E N k0_ k_ = impl_TotalWeight_l1 (impl_TotalWeight_l0_E N k0_) N k_
 | 0 => by funext weights3 out2 sum t162 t172 t182 t22i t22 t23 t24; exact impl_TotalWeight_l1_z N k0_ weights3 out2 sum t162 t172 t182 t22i t22 t23 t24
 | k_ + 1 => by funext weights3 out2 sum t162 t172 t182 t22i t22 t23 t24; rw [impl_TotalWeight_l1_s]; simp only [impl_TotalWeight_l1_q N k0_ k_]; rfl
theorem impl_TotalWeight_l0_q (N : Nat) : ∀ k_, impl_TotalWeight_l0_E N k_ = impl_TotalWeight_l0 N k_
 | 0 => by funext weights2 out t16 t17 t18; exact impl_TotalWeight_l0_z N weights2 out t16 t17 t18
 | k_ + 1 => by funext weights2 out t16 t17 t18; rw [impl_TotalWeight_l0_s]; simp only [impl_TotalWeight_l1_q, impl_TotalWeight_l0_q N k_]; rfl
theorem impl_TotalWeight_v (N : Nat) (db : List (ByteArray × Int × Int) × List (Int × List Int)) (weights : List Int) :
  evFn Tb (sigL (impl_TotalWeight_es N)) cps (orcL (impl_TotalWeight_es N)) (drawReg Tb (sigL (impl_TotalWeight_es N)) cps (orcL (impl_TotalWeight_es N))) N impl_TotalWeight_an impl_TotalWeight_sg Try.f49 (Try.f49.body.getD .skip) [.val ty5 db, .val ty2 weights] (un1 i64) = impl_TotalWeight_b N (impl_TotalWeight_l0_E N N) db weights := by kernel_rfl
noncomputable def impl_TotalWeight_e (N : Nat) : Entry Try.prog := ⟨49, impl_TotalWeight_sg, [.v ty5, .v ty2], Int, impl_TotalWeight N, pk1 i64, entry_en Try.func49 (code := Try.f49.body.getD .skip) (by kernel_rfl) (by kernel_rfl),
 fun db weights => entry_ok tab_ok (es := impl_TotalWeight_es N) (by kernel_rfl) mixed Try.func49 (by kernel_rfl) ⟨⟨rfl, rfl⟩, rfl, rfl⟩ (un1_pk i64) ((impl_TotalWeight_v N db weights).trans (by rw [impl_TotalWeight_l0_q]; rfl))⟩
def spec_BlockSizes_sg : Sig := ⟨[.val ty5], [(ty2, .dp)], false, false, none, none⟩
noncomputable def spec_BlockSizes_es (N : Nat) : List (Entry Try.prog) := [spec_Blocks_e N]
def spec_BlockSizes_an : Nat → Option (List Nat)
 | 0 => some [3, 4, 5]
 | _ => none
noncomputable def spec_BlockSizes_lp (N : Nat) (p : List Dir) (rs : List (Env → Option (List Int))) (k : Nat) (env : Env) : Option (List Int) :=
 loopAt Tb (sigL (spec_BlockSizes_es N)) cps (orcL (spec_BlockSizes_es N)) N spec_BlockSizes_an p (Try.f80.body.getD .skip) (endK Tb spec_BlockSizes_sg Try.f80 [] (un1 ty2)) rs k env
noncomputable def spec_BlockSizes_l0_E (N : Nat) (k_ : Nat) (out : List Int) (l : List (List Int)) (i : Int) : Option (List Int) :=
 spec_BlockSizes_lp N [.r, .r, .r, .l, .r, .b] [] k_ (un 3 (.con .val [lf ty2 out .dp] :: (.con .val [lf ty9 l .dp] :: (.con .val [lf i64 i .ro] :: (un 18 [])))))
theorem spec_BlockSizes_l0_z (N : Nat) (out : List Int) (l : List (List Int)) (i : Int) : spec_BlockSizes_l0_E N 0 out l i = none := by kernel_rfl
theorem spec_BlockSizes_l0_s (N : Nat) (k_ : Nat) (out : List Int) (l : List (List Int)) (i : Int) : spec_BlockSizes_l0_E N (k_ + 1) out l i = spec_BlockSizes_l0_b N (spec_BlockSizes_l0_E N k_) out l i := by kernel_rfl
theorem spec_BlockSizes_l0_q (N : Nat) : ∀ k_, spec_BlockSizes_l0_E N k_ = spec_BlockSizes_l0 N k_
 | 0 => by funext out l i; exact spec_BlockSizes_l0_z N out l i
 | k_ + 1 => by funext out l i; rw [spec_BlockSizes_l0_s]; simp only [spec_BlockSizes_l0_q N k_]; rfl
theorem spec_BlockSizes_v (N : Nat) (d : List (ByteArray × Int × Int) × List (Int × List Int)) :
  evFn Tb (sigL (spec_BlockSizes_es N)) cps (orcL (spec_BlockSizes_es N)) (drawReg Tb (sigL (spec_BlockSizes_es N)) cps (orcL (spec_BlockSizes_es N))) N spec_BlockSizes_an spec_BlockSizes_sg Try.f80 (Try.f80.body.getD .skip) [.val ty5 d] (un1 ty2) = spec_BlockSizes_b N (spec_BlockSizes_l0_E N N) d := by kernel_rfl
noncomputable def spec_BlockSizes_e (N : Nat) : Entry Try.prog := ⟨80, spec_BlockSizes_sg, [.v ty5], List Int, spec_BlockSizes N, pk1 ty2, entry_en Try.func80 (code := Try.f80.body.getD .skip) (by kernel_rfl) (by kernel_rfl),
 fun d => entry_ok tab_ok (es := spec_BlockSizes_es N) (by kernel_rfl) mixed Try.func80 (by kernel_rfl) ⟨⟨rfl, rfl⟩, rfl, rfl⟩ (un1_pk ty2) ((spec_BlockSizes_v N d).trans (by rw [spec_BlockSizes_l0_q]; rfl))⟩
def spec_CountRepairs_sg : Sig := ⟨[.val ty5], [(i64, .dp)], false, false, none, none⟩
noncomputable def spec_CountRepairs_es (N : Nat) : List (Entry Try.prog) := [spec_IsValidDatabase_e N, spec_BlockSizes_e N]
def spec_CountRepairs_an : Nat → Option (List Nat)
 | 0 => some [3, 4, 5]
 | _ => none
noncomputable def spec_CountRepairs_lp (N : Nat) (p : List Dir) (rs : List (Env → Option (Int))) (k : Nat) (env : Env) : Option (Int) :=
 loopAt Tb (sigL (spec_CountRepairs_es N)) cps (orcL (spec_CountRepairs_es N)) N spec_CountRepairs_an p (Try.f50.body.getD .skip) (endK Tb spec_CountRepairs_sg Try.f50 [] (un1 i64)) rs k env
noncomputable def spec_CountRepairs_l0_E (N : Nat) (k_ : Nat) (n : Int) (l : List Int) (i : Int) : Option (Int) :=
 spec_CountRepairs_lp N [.r, .r, .r, .r, .l, .r, .b] [] k_ (un 3 (.con .val [lf i64 n .ro] :: (.con .val [lf ty2 l .dp] :: (.con .val [lf i64 i .ro] :: (un 18 [])))))
theorem spec_CountRepairs_l0_z (N : Nat) (n : Int) (l : List Int) (i : Int) : spec_CountRepairs_l0_E N 0 n l i = none := by kernel_rfl
theorem spec_CountRepairs_l0_s (N : Nat) (k_ : Nat) (n : Int) (l : List Int) (i : Int) : spec_CountRepairs_l0_E N (k_ + 1) n l i = spec_CountRepairs_l0_b N (spec_CountRepairs_l0_E N k_) n l i := by kernel_rfl
theorem spec_CountRepairs_l0_q (N : Nat) : ∀ k_, spec_CountRepairs_l0_E N k_ = spec_CountRepairs_l0 N k_
 | 0 => by funext n l i; exact spec_CountRepairs_l0_z N n l i
 | k_ + 1 => by funext n l i; rw [spec_CountRepairs_l0_s]; simp only [spec_CountRepairs_l0_q N k_]; rfl
theorem spec_CountRepairs_v (N : Nat) (d : List (ByteArray × Int × Int) × List (Int × List Int)) :
  evFn Tb (sigL (spec_CountRepairs_es N)) cps (orcL (spec_CountRepairs_es N)) (drawReg Tb (sigL (spec_CountRepairs_es N)) cps (orcL (spec_CountRepairs_es N))) N spec_CountRepairs_an spec_CountRepairs_sg Try.f50 (Try.f50.body.getD .skip) [.val ty5 d] (un1 i64) = spec_CountRepairs_b N (spec_CountRepairs_l0_E N N) d := by kernel_rfl
noncomputable def spec_CountRepairs_e (N : Nat) : Entry Try.prog := ⟨50, spec_CountRepairs_sg, [.v ty5], Int, spec_CountRepairs N, pk1 i64, entry_en Try.func50 (code := Try.f50.body.getD .skip) (by kernel_rfl) (by kernel_rfl),
 fun d => entry_ok tab_ok (es := spec_CountRepairs_es N) (by kernel_rfl) mixed Try.func50 (by kernel_rfl) ⟨⟨rfl, rfl⟩, rfl, rfl⟩ (un1_pk i64) ((spec_CountRepairs_v N d).trans (by rw [spec_CountRepairs_l0_q]; rfl))⟩
def spec_NthRepair_sg : Sig := ⟨[.val ty5, .val i64], [(ty2, .dp), (.bool, .dp)], false, false, none, none⟩
noncomputable def spec_NthRepair_es (N : Nat) : List (Entry Try.prog) := [spec_l7Sorted_e N, spec_CountRepairs_e N, spec_l1In_e N, spec_Blocks_e N]
def spec_NthRepair_an : Nat → Option (List Nat)
 | 0 => some [1, 6, 7, 8]
 | _ => none
noncomputable def spec_NthRepair_lp (N : Nat) (p : List Dir) (rs : List (Env → Option (List Int × Bool))) (k : Nat) (env : Env) : Option (List Int × Bool) :=
 loopAt Tb (sigL (spec_NthRepair_es N)) cps (orcL (spec_NthRepair_es N)) N spec_NthRepair_an p (Try.f51.body.getD .skip) (endK Tb spec_NthRepair_sg Try.f51 [] (un2 ty2 .bool)) rs k env
noncomputable def spec_NthRepair_l0_E (N : Nat) (k_ : Nat) (k2 : Int) (b : List (List Int)) (out : List Int) (i : Int) : Option (List Int × Bool) :=
 spec_NthRepair_lp N [.r, .r, .r, .r, .l, .r, .b] [] k_ (un 1 (.con .val [lf i64 k2 .ro] :: (un 4 (.con .val [lf ty9 b .dp] :: (.con .val [lf ty2 out .dp] :: (.con .val [lf i64 i .ro] :: (un 42 [])))))))
theorem spec_NthRepair_l0_z (N : Nat) (k2 : Int) (b : List (List Int)) (out : List Int) (i : Int) : spec_NthRepair_l0_E N 0 k2 b out i = none := by kernel_rfl
theorem spec_NthRepair_l0_s (N : Nat) (k_ : Nat) (k2 : Int) (b : List (List Int)) (out : List Int) (i : Int) : spec_NthRepair_l0_E N (k_ + 1) k2 b out i = spec_NthRepair_l0_b N (spec_NthRepair_l0_E N k_) k2 b out i := by kernel_rfl
theorem spec_NthRepair_l0_q (N : Nat) : ∀ k_, spec_NthRepair_l0_E N k_ = spec_NthRepair_l0 N k_
 | 0 => by funext k2 b out i; exact spec_NthRepair_l0_z N k2 b out i
 | k_ + 1 => by funext k2 b out i; rw [spec_NthRepair_l0_s]; simp only [spec_NthRepair_l0_q N k_]; rfl
theorem spec_NthRepair_v (N : Nat) (d : List (ByteArray × Int × Int) × List (Int × List Int)) (k : Int) :
  evFn Tb (sigL (spec_NthRepair_es N)) cps (orcL (spec_NthRepair_es N)) (drawReg Tb (sigL (spec_NthRepair_es N)) cps (orcL (spec_NthRepair_es N))) N spec_NthRepair_an spec_NthRepair_sg Try.f51 (Try.f51.body.getD .skip) [.val ty5 d, .val i64 k] (un2 ty2 .bool) = spec_NthRepair_b N (spec_NthRepair_l0_E N N) d k := by kernel_rfl
noncomputable def spec_NthRepair_e (N : Nat) : Entry Try.prog := ⟨51, spec_NthRepair_sg, [.v ty5, .v i64], List Int × Bool, spec_NthRepair N, pk2 ty2 .bool, entry_en Try.func51 (code := Try.f51.body.getD .skip) (by kernel_rfl) (by kernel_rfl),
 fun d k => entry_ok tab_ok (es := spec_NthRepair_es N) (by kernel_rfl) mixed Try.func51 (by kernel_rfl) ⟨⟨rfl, rfl⟩, rfl, rfl⟩ (un2_pk ty2 .bool) ((spec_NthRepair_v N d k).trans (by rw [spec_NthRepair_l0_q]; rfl))⟩
def spec_SelectFacts_sg : Sig := ⟨[.val ty5, .val ty2], [(ty5, .dp), (.bool, .dp)], false, false, none, none⟩
noncomputable def spec_SelectFacts_es (N : Nat) : List (Entry Try.prog) := [spec_IsValidDatabase_e N, spec_l4Set_e N]
def spec_SelectFacts_an : Nat → Option (List Nat)
 | 0 => some [1, 2, 4, 6, 7]
 | _ => none
noncomputable def spec_SelectFacts_lp (N : Nat) (p : List Dir) (rs : List (Env → Option ((List (ByteArray × Int × Int) × List (Int × List Int)) × Bool))) (k : Nat) (env : Env) : Option ((List (ByteArray × Int × Int) × List (Int × List Int)) × Bool) :=
 loopAt Tb (sigL (spec_SelectFacts_es N)) cps (orcL (spec_SelectFacts_es N)) N spec_SelectFacts_an p (Try.f168.body.getD .skip) (endK Tb spec_SelectFacts_sg Try.f168 [] (un2 ty5 .bool)) rs k env
noncomputable def spec_SelectFacts_l0_E (N : Nat) (k_ : Nat) (l2 : List Int) (d2 : List (ByteArray × Int × Int)) (d3 : List (Int × List Int)) (t4 : List (ByteArray × Int × Int)) (t42 : List (Int × List Int)) (x : List (ByteArray × Int × Int)) (x2 : List (Int × List Int)) (i : Int) : Option ((List (ByteArray × Int × Int) × List (Int × List Int)) × Bool) :=
 spec_SelectFacts_lp N [.r, .r, .r, .l, .r, .b] [] k_ (un 1 (.con .val [lf ty2 l2 .ro] :: (.con (.box ⟨27, false, []⟩) [lf ty3 d2 .ro, lf ty6 d3 .ro] :: (un 1 (.con (.box ⟨27, false, []⟩) [lf ty3 t4 .dp, lf ty6 t42 .dp] :: (un 1 (.con (.box ⟨27, false, []⟩) [lf ty3 x .dp, lf ty6 x2 .dp] :: (.con .val [lf i64 i .ro] :: (un 43 [])))))))))
theorem spec_SelectFacts_l0_z (N : Nat) (l2 : List Int) (d2 : List (ByteArray × Int × Int)) (d3 : List (Int × List Int)) (t4 : List (ByteArray × Int × Int)) (t42 : List (Int × List Int)) (x : List (ByteArray × Int × Int)) (x2 : List (Int × List Int)) (i : Int) : spec_SelectFacts_l0_E N 0 l2 d2 d3 t4 t42 x x2 i = none := by kernel_rfl
theorem spec_SelectFacts_l0_s (N : Nat) (k_ : Nat) (l2 : List Int) (d2 : List (ByteArray × Int × Int)) (d3 : List (Int × List Int)) (t4 : List (ByteArray × Int × Int)) (t42 : List (Int × List Int)) (x : List (ByteArray × Int × Int)) (x2 : List (Int × List Int)) (i : Int) : spec_SelectFacts_l0_E N (k_ + 1) l2 d2 d3 t4 t42 x x2 i = spec_SelectFacts_l0_b N (spec_SelectFacts_l0_E N k_) l2 d2 d3 t4 t42 x x2 i := by kernel_rfl
theorem spec_SelectFacts_l0_q (N : Nat) : ∀ k_, spec_SelectFacts_l0_E N k_ = spec_SelectFacts_l0 N k_
 | 0 => by funext l2 d2 d3 t4 t42 x x2 i; exact spec_SelectFacts_l0_z N l2 d2 d3 t4 t42 x x2 i
 | k_ + 1 => by funext l2 d2 d3 t4 t42 x x2 i; rw [spec_SelectFacts_l0_s]; simp only [spec_SelectFacts_l0_q N k_]; rfl
theorem spec_SelectFacts_v (N : Nat) (d : List (ByteArray × Int × Int) × List (Int × List Int)) (l : List Int) :
  evFn Tb (sigL (spec_SelectFacts_es N)) cps (orcL (spec_SelectFacts_es N)) (drawReg Tb (sigL (spec_SelectFacts_es N)) cps (orcL (spec_SelectFacts_es N))) N spec_SelectFacts_an spec_SelectFacts_sg Try.f168 (Try.f168.body.getD .skip) [.val ty5 d, .val ty2 l] (un2 ty5 .bool) = spec_SelectFacts_b N (spec_SelectFacts_l0_E N N) d l := by kernel_rfl
noncomputable def spec_SelectFacts_e (N : Nat) : Entry Try.prog := ⟨168, spec_SelectFacts_sg, [.v ty5, .v ty2], (List (ByteArray × Int × Int) × List (Int × List Int)) × Bool, spec_SelectFacts N, pk2 ty5 .bool, entry_en Try.func168 (code := Try.f168.body.getD .skip) (by kernel_rfl) (by kernel_rfl),
 fun d l => entry_ok tab_ok (es := spec_SelectFacts_es N) (by kernel_rfl) mixed Try.func168 (by kernel_rfl) ⟨⟨rfl, rfl⟩, rfl, rfl⟩ (un2_pk ty5 .bool) ((spec_SelectFacts_v N d l).trans (by rw [spec_SelectFacts_l0_q]; rfl))⟩
def spec_IsConsistent_sg : Sig := ⟨[.val ty5], [(.bool, .dp)], false, false, none, none⟩
noncomputable def spec_IsConsistent_es (N : Nat) : List (Entry Try.prog) := [spec_IsValidDatabase_e N, spec_Blocks_e N]
def spec_IsConsistent_an : Nat → Option (List Nat) := fun _ => none
theorem spec_IsConsistent_v (N : Nat) (d : List (ByteArray × Int × Int) × List (Int × List Int)) :
  evFn Tb (sigL (spec_IsConsistent_es N)) cps (orcL (spec_IsConsistent_es N)) (drawReg Tb (sigL (spec_IsConsistent_es N)) cps (orcL (spec_IsConsistent_es N))) N spec_IsConsistent_an spec_IsConsistent_sg Try.f21 (Try.f21.body.getD .skip) [.val ty5 d] (un1 .bool) = spec_IsConsistent N d := by kernel_rfl
noncomputable def spec_IsConsistent_e (N : Nat) : Entry Try.prog := ⟨21, spec_IsConsistent_sg, [.v ty5], Bool, spec_IsConsistent N, pk1 .bool, entry_en Try.func21 (code := Try.f21.body.getD .skip) (by kernel_rfl) (by kernel_rfl),
 fun d => entry_ok tab_ok (es := spec_IsConsistent_es N) (by kernel_rfl) mixed Try.func21 (by kernel_rfl) ⟨⟨rfl, rfl⟩, rfl, rfl⟩ (un1_pk .bool) (spec_IsConsistent_v N d)⟩
def spec_IsPartialRepair_sg : Sig := ⟨[.val ty5, .val ty2], [(.bool, .dp)], false, false, none, none⟩
noncomputable def spec_IsPartialRepair_es (N : Nat) : List (Entry Try.prog) := [spec_SelectFacts_e N, spec_IsConsistent_e N]
def spec_IsPartialRepair_an : Nat → Option (List Nat) := fun _ => none
theorem spec_IsPartialRepair_v (N : Nat) (d : List (ByteArray × Int × Int) × List (Int × List Int)) (l : List Int) :
  evFn Tb (sigL (spec_IsPartialRepair_es N)) cps (orcL (spec_IsPartialRepair_es N)) (drawReg Tb (sigL (spec_IsPartialRepair_es N)) cps (orcL (spec_IsPartialRepair_es N))) N spec_IsPartialRepair_an spec_IsPartialRepair_sg Try.f124 (Try.f124.body.getD .skip) [.val ty5 d, .val ty2 l] (un1 .bool) = spec_IsPartialRepair N d l := by kernel_rfl
noncomputable def spec_IsPartialRepair_e (N : Nat) : Entry Try.prog := ⟨124, spec_IsPartialRepair_sg, [.v ty5, .v ty2], Bool, spec_IsPartialRepair N, pk1 .bool, entry_en Try.func124 (code := Try.f124.body.getD .skip) (by kernel_rfl) (by kernel_rfl),
 fun d l => entry_ok tab_ok (es := spec_IsPartialRepair_es N) (by kernel_rfl) mixed Try.func124 (by kernel_rfl) ⟨⟨rfl, rfl⟩, rfl, rfl⟩ (un1_pk .bool) (spec_IsPartialRepair_v N d l)⟩
def spec_IsRepair_sg : Sig := ⟨[.val ty5, .val ty2], [(.bool, .dp)], false, false, none, none⟩
noncomputable def spec_IsRepair_es (N : Nat) : List (Entry Try.prog) := [spec_IsPartialRepair_e N, spec_Blocks_e N]
def spec_IsRepair_an : Nat → Option (List Nat) := fun _ => none
theorem spec_IsRepair_v (N : Nat) (d : List (ByteArray × Int × Int) × List (Int × List Int)) (l : List Int) :
  evFn Tb (sigL (spec_IsRepair_es N)) cps (orcL (spec_IsRepair_es N)) (drawReg Tb (sigL (spec_IsRepair_es N)) cps (orcL (spec_IsRepair_es N))) N spec_IsRepair_an spec_IsRepair_sg Try.f52 (Try.f52.body.getD .skip) [.val ty5 d, .val ty2 l] (un1 .bool) = spec_IsRepair N d l := by kernel_rfl
noncomputable def spec_IsRepair_e (N : Nat) : Entry Try.prog := ⟨52, spec_IsRepair_sg, [.v ty5, .v ty2], Bool, spec_IsRepair N, pk1 .bool, entry_en Try.func52 (code := Try.f52.body.getD .skip) (by kernel_rfl) (by kernel_rfl),
 fun d l => entry_ok tab_ok (es := spec_IsRepair_es N) (by kernel_rfl) mixed Try.func52 (by kernel_rfl) ⟨⟨rfl, rfl⟩, rfl, rfl⟩ (un1_pk .bool) (spec_IsRepair_v N d l)⟩
def laws_FnMostLikelyRepair_sg : Sig := ⟨[.val ty0], [(.bool, .dp)], false, false, none, none⟩
noncomputable def laws_FnMostLikelyRepair_es (N : Nat) : List (Entry Try.prog) := [spec_CountRepairs_e N, spec_NthRepair_e N, impl_RepairWeight_e N, impl_TotalWeight_e N, spec_IsRepair_e N, laws_big_e N, spec_DrawMostLikelyRepair_e N, impl_MostLikelyRepair_e N, spec_MostLikelyRepair_e N, spec_DrawRepairWeight_e N, laws_sameInts_e N, impl_AreValidWeights_e N, spec_AreValidWeights_e N, spec_RepairWeight_e N]
def laws_FnMostLikelyRepair_an : Nat → Option (List Nat)
 | 0 => some [3, 4, 5, 12, 13]
 | _ => none
noncomputable def laws_FnMostLikelyRepair_lp (N : Nat) (p : List Dir) (rs : List (Env → Option (Bool))) (k : Nat) (env : Env) : Option (Bool) :=
 loopAt Tb (sigL (laws_FnMostLikelyRepair_es N)) cps (orcL (laws_FnMostLikelyRepair_es N)) N laws_FnMostLikelyRepair_an p (Try.f6.body.getD .skip) (endK Tb laws_FnMostLikelyRepair_sg Try.f6 [] (un1 .bool)) rs k env
noncomputable def laws_FnMostLikelyRepair_l0_E (N : Nat) (k_ : Nat) (d : List (ByteArray × Int × Int)) (d2 : List (Int × List Int)) (w : List Int) (r17 : List Int) (n : Int) (k : Int) : Option (Bool) :=
 laws_FnMostLikelyRepair_lp N [.r, .r, .r, .r, .r, .r, .r, .r, .r, .l, .r, .b] [] k_ (un 3 (.con (.box ⟨27, false, []⟩) [lf ty3 d .ro, lf ty6 d2 .ro] :: (.con .val [lf ty2 w .dp] :: (.con .val [lf ty2 r17 .dp] :: (un 6 (.con .val [lf i64 n .ro] :: (.con .val [lf i64 k .ro] :: (un 98 []))))))))
theorem laws_FnMostLikelyRepair_l0_z (N : Nat) (d : List (ByteArray × Int × Int)) (d2 : List (Int × List Int)) (w : List Int) (r17 : List Int) (n : Int) (k : Int) : laws_FnMostLikelyRepair_l0_E N 0 d d2 w r17 n k = none := by kernel_rfl
theorem laws_FnMostLikelyRepair_l0_s (N : Nat) (k_ : Nat) (d : List (ByteArray × Int × Int)) (d2 : List (Int × List Int)) (w : List Int) (r17 : List Int) (n : Int) (k : Int) : laws_FnMostLikelyRepair_l0_E N (k_ + 1) d d2 w r17 n k = laws_FnMostLikelyRepair_l0_b N (laws_FnMostLikelyRepair_l0_E N k_) d d2 w r17 n k := by kernel_rfl
theorem laws_FnMostLikelyRepair_l0_q (N : Nat) : ∀ k_, laws_FnMostLikelyRepair_l0_E N k_ = laws_FnMostLikelyRepair_l0 N k_
 | 0 => by funext d d2 w r17 n k; exact laws_FnMostLikelyRepair_l0_z N d d2 w r17 n k
 | k_ + 1 => by funext d d2 w r17 n k; rw [laws_FnMostLikelyRepair_l0_s]; simp only [laws_FnMostLikelyRepair_l0_q N k_]; rfl
theorem laws_FnMostLikelyRepair_v (N : Nat) (code : List Int) :
  evFn Tb (sigL (laws_FnMostLikelyRepair_es N)) cps (orcL (laws_FnMostLikelyRepair_es N)) (drawReg Tb (sigL (laws_FnMostLikelyRepair_es N)) cps (orcL (laws_FnMostLikelyRepair_es N))) N laws_FnMostLikelyRepair_an laws_FnMostLikelyRepair_sg Try.f6 (Try.f6.body.getD .skip) [.val ty0 code] (un1 .bool) = laws_FnMostLikelyRepair_b N (laws_FnMostLikelyRepair_l0_E N N) code := by kernel_rfl
noncomputable def laws_FnMostLikelyRepair_e (N : Nat) : Entry Try.prog := ⟨6, laws_FnMostLikelyRepair_sg, [.v ty0], Bool, laws_FnMostLikelyRepair N, pk1 .bool, entry_en Try.func6 (code := Try.f6.body.getD .skip) (by kernel_rfl) (by kernel_rfl),
 fun code => entry_ok tab_ok (es := laws_FnMostLikelyRepair_es N) (by kernel_rfl) mixed Try.func6 (by kernel_rfl) ⟨⟨rfl, rfl⟩, rfl, rfl⟩ (un1_pk .bool) ((laws_FnMostLikelyRepair_v N code).trans (by rw [laws_FnMostLikelyRepair_l0_q]; rfl))⟩
end Go.PL
