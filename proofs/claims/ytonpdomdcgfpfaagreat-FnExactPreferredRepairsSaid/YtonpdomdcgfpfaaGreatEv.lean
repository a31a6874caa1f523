/- What the machine does at each function is what the plain reading says. Conditions: none. -/
import Derived.Test.YtonpdomdcgfpfaaGreatFpG
import Derived.Test.YtonpdomdcgfpfaaGreatPlA
import Derived.Test.YtonpdomdcgfpfaaGreatProg

set_option linter.unusedVariables false
set_option linter.unusedSimpArgs false
set_option linter.unnecessarySimpa false

namespace Go.PL
open Go.FP Go.Proofs Go.Shelf
set_option maxRecDepth 10000
variable (N : Nat)
abbrev i64 : Ty := .int .i64
abbrev ty0 : Ty := (.slice 3 i64)
abbrev ty1 : Ty := (.pair .str (.pair i64 i64))
abbrev ty2 : Ty := (.slice 77 (.pair .str (.pair i64 i64)))
abbrev ty3 : Ty := (.pair i64 (.slice 3 i64))
abbrev ty4 : Ty := (.slice 80 (.pair i64 (.slice 3 i64)))
abbrev ty5 : Ty := (.pair (.slice 77 (.pair .str (.pair i64 i64))) (.slice 80 (.pair i64 (.slice 3 i64))))
abbrev ty6 : Ty := (.slice 61 (.pair i64 (.pair i64 (.pair i64 (.pair i64 (.pair i64 (.pair i64 i64)))))))
abbrev ty7 : Ty := (.slice 65 (.pair i64 i64))
abbrev ty8 : Ty := (.slice 89 (.pair .str (.pair i64 i64)))
abbrev ty9 : Ty := (.slice 82 (.pair i64 (.slice 3 i64)))
abbrev ty10 : Ty := (.pair (.slice 89 (.pair .str (.pair i64 i64))) (.slice 82 (.pair i64 (.slice 3 i64))))
abbrev ty11 : Ty := (.pair i64 (.pair i64 (.pair i64 (.pair i64 (.pair i64 (.pair i64 i64))))))
abbrev ty12 : Ty := (.slice 59 (.pair i64 (.pair i64 (.pair i64 (.pair i64 (.pair i64 (.pair i64 i64)))))))
abbrev ty13 : Ty := (.pair i64 i64)
abbrev ty14 : Ty := (.slice 63 (.pair i64 i64))
abbrev ty15 : Ty := (.slice 67 (.slice 3 i64))
abbrev ty16 : Ty := (.slice 4 .bool)
abbrev ty17 : Ty := (.slice 5 (.int .u8))
def Tb : Tab := [⟨3, i64, 8, [], false, false⟩,
 ⟨4, .bool, 1, [], false, false⟩,
 ⟨5, (.int .u8), 1, [], false, false⟩,
 ⟨9, .str, 16, [], false, false⟩,
 ⟨22, ty2, 24, [], false, false⟩,
 ⟨23, ty4, 24, [], false, false⟩,
 ⟨25, ty5, 48, [(0, 22), (1, 23)], false, false⟩,
 ⟨26, ty6, 24, [], false, false⟩,
 ⟨27, ty7, 24, [], false, false⟩,
 ⟨31, ty15, 24, [], false, false⟩,
 ⟨33, ty8, 24, [], false, false⟩,
 ⟨34, ty9, 24, [], false, false⟩,
 ⟨36, ty10, 48, [(0, 33), (1, 34)], false, false⟩,
 ⟨38, ty12, 24, [], false, false⟩,
 ⟨40, ty14, 24, [], false, false⟩,
 ⟨59, ty11, 56, [(0, 3), (1, 3), (2, 3), (3, 3), (4, 3), (5, 3), (6, 3)], false, false⟩,
 ⟨61, ty11, 56, [(0, 3), (1, 3), (2, 3), (3, 3), (4, 3), (5, 3), (6, 3)], false, false⟩,
 ⟨63, ty13, 16, [(0, 3), (1, 3)], false, true⟩,
 ⟨65, ty13, 16, [(0, 3), (1, 3)], false, false⟩,
 ⟨67, ty0, 24, [], false, false⟩,
 ⟨77, ty1, 32, [(0, 9), (1, 3), (2, 3)], false, false⟩,
 ⟨80, ty3, 32, [(0, 3), (1, 67)], false, false⟩,
 ⟨82, ty3, 32, [(0, 3), (1, 67)], false, false⟩,
 ⟨89, ty1, 32, [(0, 9), (1, 3), (2, 3)], false, false⟩,
 ⟨116, ty17, 24, [], false, false⟩,
 ⟨118, ty16, 24, [], false, false⟩,
 ⟨111, .bool, 8, [], true, false⟩]
theorem tab_ok : TabOk Tryz.prog Tb :=
 (Yb (TEOk.plain (i := Tryz.t3) (by kernel_rfl) rfl rfl (by kernel_rfl) rfl rfl rfl Tryz.underlying3)
 (Yb (TEOk.plain (i := Tryz.t4) (by kernel_rfl) rfl rfl (by kernel_rfl) rfl rfl rfl Tryz.underlying4)
 (Yb (TEOk.plain (i := Tryz.t5) (by kernel_rfl) rfl rfl (by kernel_rfl) rfl rfl rfl Tryz.underlying5)
 (Yb (TEOk.plain (i := Tryz.t9) (by kernel_rfl) rfl rfl (by kernel_rfl) rfl rfl rfl Tryz.underlying9)
 (Yb (TEOk.plain (i := Tryz.t22) (by kernel_rfl) rfl rfl (by kernel_rfl) rfl rfl rfl Tryz.underlying22)
 (Yb (TEOk.plain (i := Tryz.t23) (by kernel_rfl) rfl rfl (by kernel_rfl) rfl rfl rfl Tryz.underlying23)
 (Yb (TEOk.struct (i := Tryz.t25) (pl := [(0, 1), (1, 1)]) (by kernel_rfl) rfl rfl (by kernel_rfl) Tryz.underlying25 (by kernel_rfl) (by kernel_rfl) rfl rfl (fun h => by cases h))
 (Yb (TEOk.plain (i := Tryz.t26) (by kernel_rfl) rfl rfl (by kernel_rfl) rfl rfl rfl Tryz.underlying26)
 (Yb (TEOk.plain (i := Tryz.t27) (by kernel_rfl) rfl rfl (by kernel_rfl) rfl rfl rfl Tryz.underlying27)
 (Yb (TEOk.plain (i := Tryz.t31) (by kernel_rfl) rfl rfl (by kernel_rfl) rfl rfl rfl Tryz.underlying31)
 (Yb (TEOk.plain (i := Tryz.t33) (by kernel_rfl) rfl rfl (by kernel_rfl) rfl rfl rfl Tryz.underlying33)
 (Yb (TEOk.plain (i := Tryz.t34) (by kernel_rfl) rfl rfl (by kernel_rfl) rfl rfl rfl Tryz.underlying34)
 (Yb (TEOk.struct (i := Tryz.t36) (pl := [(0, 1), (1, 1)]) (by kernel_rfl) rfl rfl (by kernel_rfl) Tryz.underlying36 (by kernel_rfl) (by kernel_rfl) rfl rfl (fun h => by cases h))
 (Yb (TEOk.plain (i := Tryz.t38) (by kernel_rfl) rfl rfl (by kernel_rfl) rfl rfl rfl Tryz.underlying38)
 (Yb (TEOk.plain (i := Tryz.t40) (by kernel_rfl) rfl rfl (by kernel_rfl) rfl rfl rfl Tryz.underlying40)
 (Yb (TEOk.struct (i := Tryz.t59) (pl := [(0, 1), (1, 1), (2, 1), (3, 1), (4, 1), (5, 1), (6, 1)]) (by kernel_rfl) rfl rfl (by kernel_rfl) Tryz.underlying59 (by kernel_rfl) (by kernel_rfl) rfl rfl (fun h => by cases h))
 (Yb (TEOk.struct (i := Tryz.t61) (pl := [(0, 1), (1, 1), (2, 1), (3, 1), (4, 1), (5, 1), (6, 1)]) (by kernel_rfl) rfl rfl (by kernel_rfl) Tryz.underlying61 (by kernel_rfl) (by kernel_rfl) rfl rfl (fun h => by cases h))
 (Yb (TEOk.struct (i := Tryz.t63) (pl := [(0, 1), (1, 1)]) (by kernel_rfl) rfl rfl (by kernel_rfl) Tryz.underlying63 (by kernel_rfl) (by kernel_rfl) rfl rfl (fun _ => ⟨⟨by kernel_rfl, by kernel_rfl⟩, ⟨⟨by decide, rfl, fun w => Tryz.isAgg3 w, Tryz.underlying3⟩, ⟨⟨by decide, rfl, fun w => Tryz.isAgg3 w, Tryz.underlying3⟩, trivial⟩⟩⟩))
 (Yb (TEOk.struct (i := Tryz.t65) (pl := [(0, 1), (1, 1)]) (by kernel_rfl) rfl rfl (by kernel_rfl) Tryz.underlying65 (by kernel_rfl) (by kernel_rfl) rfl rfl (fun h => by cases h))
 (Yb (TEOk.plain (i := Tryz.t67) (by kernel_rfl) rfl rfl (by kernel_rfl) rfl rfl rfl Tryz.underlying67)
 (Yb (TEOk.struct (i := Tryz.t77) (pl := [(0, 1), (1, 1), (2, 1)]) (by kernel_rfl) rfl rfl (by kernel_rfl) Tryz.underlying77 (by kernel_rfl) (by kernel_rfl) rfl rfl (fun h => by cases h))
 (Yb (TEOk.struct (i := Tryz.t80) (pl := [(0, 1), (1, 1)]) (by kernel_rfl) rfl rfl (by kernel_rfl) Tryz.underlying80 (by kernel_rfl) (by kernel_rfl) rfl rfl (fun h => by cases h))
 (Yb (TEOk.struct (i := Tryz.t82) (pl := [(0, 1), (1, 1)]) (by kernel_rfl) rfl rfl (by kernel_rfl) Tryz.underlying82 (by kernel_rfl) (by kernel_rfl) rfl rfl (fun h => by cases h))
 (Yb (TEOk.struct (i := Tryz.t89) (pl := [(0, 1), (1, 1), (2, 1)]) (by kernel_rfl) rfl rfl (by kernel_rfl) Tryz.underlying89 (by kernel_rfl) (by kernel_rfl) rfl rfl (fun h => by cases h))
 (Yb (TEOk.plain (i := Tryz.t116) (by kernel_rfl) rfl rfl (by kernel_rfl) rfl rfl rfl Tryz.underlying116)
 (Yb (TEOk.plain (i := Tryz.t118) (by kernel_rfl) rfl rfl (by kernel_rfl) rfl rfl rfl Tryz.underlying118)
 (Yb (TEOk.ofFn (i := Tryz.t111) (z := (Tryz.t111.zero).getD default) (by kernel_rfl) rfl (by kernel_rfl) (by kernel_rfl) Tryz.underlying111 rfl rfl)
 Ydg)))))))))))))))))))))))))))
theorem mixed : Tryz.prog.follows .mixedOrders = true := by decide
def cps : FuncId -> List Ty := capsL [(59, [ty12, ty10]), (85, [i64, ty14, .bool, .bool]), (92, [ty14, i64, ty14]), (101, []), (105, [ty0]), (116, [ty14, i64])]
def cpsS : FuncId -> List Ty := fun f => if f = 1000000007 then [.unit] else cps f
section
variable {R : Type} (es : List (Entry Tryz.prog)) (N : Nat) (an : Nat -> Option (List Nat))
noncomputable abbrev evE (sg : Sig) (fn : Func) (args : List RV) (K : List (Σ t : Ty, t.D) -> Option R) : Option R :=
 evFn Tb (sigL es) cps (orcL es) (drawReg Tb (sigL es) cps (orcL es)) N an sg fn (fn.body.getD .skip) args K
noncomputable abbrev evES (sg : Sig) (fn : Func) (args : List RV) (K : List (Σ t : Ty, t.D) -> Option R) : Option R :=
 evFn Tb (sigL es) cpsS (orcL es) (drawReg Tb (sigL es) cpsS (orcL es)) N an sg fn (fn.body.getD .skip) args K
noncomputable abbrev lpES (p : List Dir) (fn : Func) (K : Exit -> Env -> Option R) (rs : List (Env -> Option R)) (k : Nat) (env : Env) : Option R :=
 loopAt Tb (sigL es) cpsS (orcL es) N an p (fn.body.getD .skip) K rs k env
noncomputable abbrev evB (sg : Sig) (b : BoxSig) (fn : Func) (args : List RV) (K : List (Σ t : Ty, t.D) -> Option R) : Option R :=
 evFnB Tb (sigL es) cps (orcL es) (drawReg Tb (sigL es) cps (orcL es)) N an sg b fn (fn.body.getD .skip) args K
noncomputable abbrev evN (id : TypeId) (t : Ty) (fn : Func) (args : List RV) (K : List (Σ t : Ty, t.D) -> Option R) : Option R :=
 evFnN Tb (sigL es) cps (orcL es) (drawReg Tb (sigL es) cps (orcL es)) N an id t fn (fn.body.getD .skip) args K
noncomputable abbrev lpE (p : List Dir) (fn : Func) (K : Exit -> Env -> Option R) (rs : List (Env -> Option R)) (k : Nat) (env : Env) : Option R :=
 loopAt Tb (sigL es) cps (orcL es) N an p (fn.body.getD .skip) K rs k env
end
abbrev EnTryz := Entry Tryz.prog
def an0 : Nat -> Option (List Nat) := fun _ => none
def sgV (ps : List PTy) (rs : List (Ty × Lvl)) : Sig := ⟨ps, rs, false, false, none, none⟩
theorem enK {f : FuncId} {fn : Func} (hf : Tryz.prog.funcs[f]? = some fn) (h : (fn.body.isNone || fn.name == "runtime.NumGoroutine") = false) : Enterable Tryz.prog f := ⟨fn, hf, (Bool.or_eq_false_iff.1 h).1, (Bool.or_eq_false_iff.1 h).2⟩
def plG (sg : Sig) : Bool := sg.box.isNone && (sg.newb.isNone && (!sg.muts && !sg.own))
theorem eok (es : List (Entry Tryz.prog)) (ha : agreeL es = true) {f : FuncId} {fn : Func} (hf : Tryz.prog.funcs[f]? = some fn) (hb : fn.body.isSome = true) (N : Nat) (an : Nat -> Option (List Nat)) {sg : Sig} (hs : plG sg = true) {args : List RV} {α : Type} {un : List (Σ t : Ty, t.D) -> Option α} {pk : α -> List (Σ t : Ty, t.D)} (hu : ∀ r xs, un xs = some r -> xs = pk r) {q : Option α} (h : evE es N an sg fn args un = q) :
  ∀ x, q = some x -> FnOk Tryz.prog f sg args (pk x) := by
 obtain ⟨ps, rs, m, o, b, n⟩ := sg
 simp only [plG, Bool.and_eq_true, Bool.not_eq_true', Option.isNone_iff_eq_none] at hs
 obtain ⟨rfl, rfl, rfl, rfl⟩ := hs
 exact Y6h tab_ok ha mixed hf (by cases h : fn.body with | none => rw [h] at hb; cases hb | some c => rfl) ⟨⟨rfl, rfl⟩, rfl, rfl⟩ hu h
theorem eokS (es : List (Entry Tryz.prog)) (ha : agreeL es = true) {f : FuncId} {fn : Func} (hf : Tryz.prog.funcs[f]? = some fn) (hb : fn.body.isSome = true) (N : Nat) (an : Nat -> Option (List Nat)) {sg : Sig} (hs : plG sg = true) {args : List RV} {α : Type} {un : List (Σ t : Ty, t.D) -> Option α} {pk : α -> List (Σ t : Ty, t.D)} (hu : ∀ r xs, un xs = some r -> xs = pk r) {q : Option α} (h : evES es N an sg fn args un = q) :
  ∀ x, q = some x -> FnOk Tryz.prog f sg args (pk x) := by
 obtain ⟨ps, rs, m, o, b, n⟩ := sg
 simp only [plG, Bool.and_eq_true, Bool.not_eq_true', Option.isNone_iff_eq_none] at hs
 obtain ⟨rfl, rfl, rfl, rfl⟩ := hs
 exact Y6h tab_ok ha mixed hf (by cases h : fn.body with | none => rw [h] at hb; cases hb | some c => rfl) ⟨⟨rfl, rfl⟩, rfl, rfl⟩ hu h
theorem Z0a2 : Bears Tryz.prog 87 (SlBodyN.n41 (renL 87 0 3 4 67 3)) := ⟨Tryz.f87.name, by kernel_rfl, Tryz.func87.trans (congrArg some (by kernel_rfl))⟩
noncomputable def Z8m : Entry Tryz.prog := ⟨87, ⟨[.val ty0], [(ty0, .dp)], false, false, none, none⟩, [.v ty0], I0, Z4r N, pk1 ty0, Y6i Tryz.func87 (code := Tryz.f87.body.getD .skip) (by kernel_rfl) (by kernel_rfl),
 fun s q h => Yc9 tab_ok mixed Z0a2 (by kernel_rfl) Tryz.underlying4 (te := ⟨3, i64, 8, [], false, false⟩) (by kernel_rfl) rfl rfl h⟩
namespace Z3v
def sG := sgV [.val ty1, .val i64] [(i64, .dp)]
noncomputable def eS (N : Nat) : List EnTryz := []
noncomputable def eE : EnTryz := ⟨42, sG, [.v ty1, .v i64], _, Z3v N, pk1 i64, enK Tryz.func42 (by kernel_rfl),
 fun a left_ => eok (eS N) (by kernel_rfl) Tryz.func42 rfl N an0 rfl (Y4 i64) (by kernel_rfl)⟩
end Z3v
namespace Z4j
def sG := sgV [.val ty2, .val i64] [(i64, .dp)]
noncomputable def eS : List EnTryz := [Z3v.eE N]
def an_ : Nat -> Option (List Nat)
 | 0 => some [0, 1, 5]
 | _ => none
noncomputable def lP (p : List Dir) (rs : List (Env -> Option (Int))) (k : Nat) (env : Env) : Option (Int) :=
 lpE (eS N) N an_ p Tryz.f21 (endK Tb sG Tryz.f21 [] (un1 i64)) rs k env
noncomputable def El0 (k_ : Nat) (a2 : R0) (left_2 : Int) (i : Int) : Option (Int) :=
 lP N [.r, .r, .r, .l, .r, .b] [] k_ (.con .val [lf ty2 a2 .ro] :: (.con .val [lf i64 left_2 .ro] :: (un 3 (.con .val [lf i64 i .ro] :: (un 21 [])))))
theorem ql0 (N : Nat) : ∀ k_, El0 N k_ = Z43 N k_
 | 0 => by kernel_rfl
 | k_ + 1 => (show El0 N (k_ + 1) = Z68 N (El0 N k_) from by kernel_rfl).trans (by simp only [ql0 N k_]; rfl)
noncomputable def eE : EnTryz := ⟨21, sG, [.v ty2, .v i64], _, Z4j N, pk1 i64, enK Tryz.func21 (by kernel_rfl),
 fun a left_ => eok (eS N) (by kernel_rfl) Tryz.func21 rfl N an_ rfl (Y4 i64) (.trans (b := Z8g N (El0 N N) a left_) (by kernel_rfl) (by rw [ql0]; rfl))⟩
end Z4j
namespace Z7i
def sG := sgV [.val ty0, .val i64] [(i64, .dp)]
noncomputable def eS (N : Nat) : List EnTryz := []
noncomputable def eE : EnTryz := ⟨65, sG, [.v ty0, .v i64], _, Z7i N, pk1 i64, enK Tryz.func65 (by kernel_rfl),
 fun a left_ => eok (eS N) (by kernel_rfl) Tryz.func65 rfl N an0 rfl (Y4 i64) (by kernel_rfl)⟩
end Z7i
namespace Z6s
def sG := sgV [.val ty3, .val i64] [(i64, .dp)]
noncomputable def eS : List EnTryz := [Z7i.eE N]
noncomputable def eE : EnTryz := ⟨43, sG, [.v ty3, .v i64], _, Z6s N, pk1 i64, enK Tryz.func43 (by kernel_rfl),
 fun a left_ => eok (eS N) (by kernel_rfl) Tryz.func43 rfl N an0 rfl (Y4 i64) (by kernel_rfl)⟩
end Z6s
namespace Z6v
def sG := sgV [.val ty4, .val i64] [(i64, .dp)]
noncomputable def eS : List EnTryz := [Z6s.eE N]
def an_ : Nat -> Option (List Nat)
 | 0 => some [0, 1, 5]
 | _ => none
noncomputable def lP (p : List Dir) (rs : List (Env -> Option (Int))) (k : Nat) (env : Env) : Option (Int) :=
 lpE (eS N) N an_ p Tryz.f22 (endK Tb sG Tryz.f22 [] (un1 i64)) rs k env
noncomputable def El0 (k_ : Nat) (a2 : A0) (left_2 : Int) (i : Int) : Option (Int) :=
 lP N [.r, .r, .r, .l, .r, .b] [] k_ (.con .val [lf ty4 a2 .ro] :: (.con .val [lf i64 left_2 .ro] :: (un 3 (.con .val [lf i64 i .ro] :: (un 21 [])))))
theorem ql0 (N : Nat) : ∀ k_, El0 N k_ = Z69 N k_
 | 0 => by kernel_rfl
 | k_ + 1 => (show El0 N (k_ + 1) = Z7v N (El0 N k_) from by kernel_rfl).trans (by simp only [ql0 N k_]; rfl)
noncomputable def eE : EnTryz := ⟨22, sG, [.v ty4, .v i64], _, Z6v N, pk1 i64, enK Tryz.func22 (by kernel_rfl),
 fun a left_ => eok (eS N) (by kernel_rfl) Tryz.func22 rfl N an_ rfl (Y4 i64) (.trans (b := Z95 N (El0 N N) a left_) (by kernel_rfl) (by rw [ql0]; rfl))⟩
end Z6v
namespace Z50
def sG := sgV [.val ty5, .val i64] [(i64, .dp)]
noncomputable def eS : List EnTryz := [Z4j.eE N, Z6v.eE N]
noncomputable def eE : EnTryz := ⟨4, sG, [.v ty5, .v i64], _, Z50 N, pk1 i64, enK Tryz.func4 (by kernel_rfl),
 fun a left_ => eok (eS N) (by kernel_rfl) Tryz.func4 rfl N an0 rfl (Y4 i64) (by kernel_rfl)⟩
end Z50
namespace Z1i
def sG := sgV [.val ty6, .val i64] [(i64, .dp)]
noncomputable def eS (N : Nat) : List EnTryz := []
noncomputable def eE : EnTryz := ⟨5, sG, [.v ty6, .v i64], _, Z1i N, pk1 i64, enK Tryz.func5 (by kernel_rfl),
 fun a left_ => eok (eS N) (by kernel_rfl) Tryz.func5 rfl N an0 rfl (Y4 i64) (by kernel_rfl)⟩
end Z1i
namespace Z2x
def sG := sgV [.val ty7, .val i64] [(i64, .dp)]
noncomputable def eS (N : Nat) : List EnTryz := []
noncomputable def eE : EnTryz := ⟨6, sG, [.v ty7, .v i64], _, Z2x N, pk1 i64, enK Tryz.func6 (by kernel_rfl),
 fun a left_ => eok (eS N) (by kernel_rfl) Tryz.func6 rfl N an0 rfl (Y4 i64) (by kernel_rfl)⟩
end Z2x
namespace Z51
def sG := sgV [.val ty1] [(ty1, .dp)]
noncomputable def eS (N : Nat) : List EnTryz := []
noncomputable def eE : EnTryz := ⟨51, sG, [.v ty1], _, Z51 N, pk1 ty1, enK Tryz.func51 (by kernel_rfl),
 fun a => eok (eS N) (by kernel_rfl) Tryz.func51 rfl N an0 rfl (Y4 ty1) (by kernel_rfl)⟩
end Z51
namespace Z4k
def sG := sgV [.val ty2] [(ty8, .dp)]
noncomputable def eS : List EnTryz := [Z51.eE N]
def an_ : Nat -> Option (List Nat)
 | 0 => some [0, 3, 4]
 | _ => none
noncomputable def lP (p : List Dir) (rs : List (Env -> Option R0)) (k : Nat) (env : Env) : Option R0 :=
 lpE (eS N) N an_ p Tryz.f26 (endK Tb sG Tryz.f26 [] (un1 ty8)) rs k env
noncomputable def El0 (k_ : Nat) (a2 : R0) (out : R0) (i : Int) : Option R0 :=
 lP N [.r, .r, .l, .r, .b] [] k_ (.con .val [lf ty2 a2 .ro] :: (un 2 (.con .val [lf ty8 out .dp] :: (.con .val [lf i64 i .ro] :: (un 18 [])))))
theorem ql0 (N : Nat) : ∀ k_, El0 N k_ = Z44 N k_
 | 0 => by kernel_rfl
 | k_ + 1 => (show El0 N (k_ + 1) = Z6a N (El0 N k_) from by kernel_rfl).trans (by simp only [ql0 N k_]; rfl)
noncomputable def eE : EnTryz := ⟨26, sG, [.v ty2], _, Z4k N, pk1 ty8, enK Tryz.func26 (by kernel_rfl),
 fun a => eok (eS N) (by kernel_rfl) Tryz.func26 rfl N an_ rfl (Y4 ty8) (.trans (b := Z8h N (El0 N N) a) (by kernel_rfl) (by rw [ql0]; rfl))⟩
end Z4k
namespace Z7j
def sG := sgV [.val ty0] [(ty0, .dp)]
noncomputable def eS (N : Nat) : List EnTryz := []
def an_ : Nat -> Option (List Nat)
 | 0 => some [0, 3, 4]
 | _ => none
noncomputable def lP (p : List Dir) (rs : List (Env -> Option I0)) (k : Nat) (env : Env) : Option I0 :=
 lpE (eS N) N an_ p Tryz.f78 (endK Tb sG Tryz.f78 [] (un1 ty0)) rs k env
noncomputable def El0 (k_ : Nat) (a2 : I0) (out : I0) (i : Int) : Option I0 :=
 lP N [.r, .r, .l, .r, .b] [] k_ (.con .val [lf ty0 a2 .ro] :: (un 2 (.con .val [lf ty0 out .dp] :: (.con .val [lf i64 i .ro] :: (un 17 [])))))
theorem ql0 (N : Nat) : ∀ k_, El0 N k_ = Z6t N k_
 | 0 => by kernel_rfl
 | k_ + 1 => (show El0 N (k_ + 1) = Z83 N (El0 N k_) from by kernel_rfl).trans (by simp only [ql0 N k_]; rfl)
noncomputable def eE : EnTryz := ⟨78, sG, [.v ty0], _, Z7j N, pk1 ty0, enK Tryz.func78 (by kernel_rfl),
 fun a => eok (eS N) (by kernel_rfl) Tryz.func78 rfl N an_ rfl (Y4 ty0) (.trans (b := Z9e N (El0 N N) a) (by kernel_rfl) (by rw [ql0]; rfl))⟩
end Z7j
namespace Z7k
def sG := sgV [.val ty3] [(ty3, .dp)]
noncomputable def eS : List EnTryz := [Z7j.eE N]
noncomputable def eE : EnTryz := ⟨52, sG, [.v ty3], _, Z7k N, pk1 ty3, enK Tryz.func52 (by kernel_rfl),
 fun a => eok (eS N) (by kernel_rfl) Tryz.func52 rfl N an0 rfl (Y4 ty3) (by kernel_rfl)⟩
end Z7k
namespace Z6w
def sG := sgV [.val ty4] [(ty9, .dp)]
noncomputable def eS : List EnTryz := [Z7k.eE N]
def an_ : Nat -> Option (List Nat)
 | 0 => some [0, 3, 4]
 | _ => none
noncomputable def lP (p : List Dir) (rs : List (Env -> Option A0)) (k : Nat) (env : Env) : Option A0 :=
 lpE (eS N) N an_ p Tryz.f27 (endK Tb sG Tryz.f27 [] (un1 ty9)) rs k env
noncomputable def El0 (k_ : Nat) (a2 : A0) (out : A0) (i : Int) : Option A0 :=
 lP N [.r, .r, .l, .r, .b] [] k_ (.con .val [lf ty4 a2 .ro] :: (un 2 (.con .val [lf ty9 out .dp] :: (.con .val [lf i64 i .ro] :: (un 18 [])))))
theorem ql0 (N : Nat) : ∀ k_, El0 N k_ = Z6b N k_
 | 0 => by kernel_rfl
 | k_ + 1 => (show El0 N (k_ + 1) = Z7w N (El0 N k_) from by kernel_rfl).trans (by simp only [ql0 N k_]; rfl)
noncomputable def eE : EnTryz := ⟨27, sG, [.v ty4], _, Z6w N, pk1 ty9, enK Tryz.func27 (by kernel_rfl),
 fun a => eok (eS N) (by kernel_rfl) Tryz.func27 rfl N an_ rfl (Y4 ty9) (.trans (b := Z96 N (El0 N N) a) (by kernel_rfl) (by rw [ql0]; rfl))⟩
end Z6w
namespace Z2m
def sG := sgV [.val ty5] [(ty10, .dp)]
noncomputable def eS : List EnTryz := [Z4k.eE N, Z6w.eE N]
noncomputable def eE : EnTryz := ⟨8, sG, [.v ty5], _, Z2m N, pk1 ty10, enK Tryz.func8 (by kernel_rfl),
 fun a => eok (eS N) (by kernel_rfl) Tryz.func8 rfl N an0 rfl (Y4 ty10) (by kernel_rfl)⟩
end Z2m
namespace Z2p
def sG := sgV [.val ty11] [(ty11, .dp)]
noncomputable def eS (N : Nat) : List EnTryz := []
noncomputable def eE : EnTryz := ⟨28, sG, [.v ty11], _, Z2p N, pk1 ty11, enK Tryz.func28 (by kernel_rfl),
 fun a => eok (eS N) (by kernel_rfl) Tryz.func28 rfl N an0 rfl (Y4 ty11) (by kernel_rfl)⟩
end Z2p
namespace Z0k
def sG := sgV [.val ty6] [(ty12, .dp)]
noncomputable def eS : List EnTryz := [Z2p.eE N]
def an_ : Nat -> Option (List Nat)
 | 0 => some [0, 3, 4]
 | _ => none
noncomputable def lP (p : List Dir) (rs : List (Env -> Option (List C0))) (k : Nat) (env : Env) : Option (List C0) :=
 lpE (eS N) N an_ p Tryz.f9 (endK Tb sG Tryz.f9 [] (un1 ty12)) rs k env
noncomputable def El0 (k_ : Nat) (a2 : List C0) (out : List C0) (i : Int) : Option (List C0) :=
 lP N [.r, .r, .l, .r, .b] [] k_ (.con .val [lf ty6 a2 .ro] :: (un 2 (.con .val [lf ty12 out .dp] :: (.con .val [lf i64 i .ro] :: (un 18 [])))))
theorem ql0 (N : Nat) : ∀ k_, El0 N k_ = Z1k N k_
 | 0 => by kernel_rfl
 | k_ + 1 => (show El0 N (k_ + 1) = Z3l N (El0 N k_) from by kernel_rfl).trans (by simp only [ql0 N k_]; rfl)
noncomputable def eE : EnTryz := ⟨9, sG, [.v ty6], _, Z0k N, pk1 ty12, enK Tryz.func9 (by kernel_rfl),
 fun a => eok (eS N) (by kernel_rfl) Tryz.func9 rfl N an_ rfl (Y4 ty12) (.trans (b := Z6k N (El0 N N) a) (by kernel_rfl) (by rw [ql0]; rfl))⟩
end Z0k
namespace Z45
def sG := sgV [.val ty13] [(ty13, .dp)]
noncomputable def eS (N : Nat) : List EnTryz := []
noncomputable def eE : EnTryz := ⟨29, sG, [.v ty13], _, Z45 N, pk1 ty13, enK Tryz.func29 (by kernel_rfl),
 fun a => eok (eS N) (by kernel_rfl) Tryz.func29 rfl N an0 rfl (Y4 ty13) (by kernel_rfl)⟩
end Z45
namespace Z0y
def sG := sgV [.val ty7] [(ty14, .dp)]
noncomputable def eS : List EnTryz := [Z45.eE N]
def an_ : Nat -> Option (List Nat)
 | 0 => some [0, 3, 4]
 | _ => none
noncomputable def lP (p : List Dir) (rs : List (Env -> Option E0)) (k : Nat) (env : Env) : Option E0 :=
 lpE (eS N) N an_ p Tryz.f10 (endK Tb sG Tryz.f10 [] (un1 ty14)) rs k env
noncomputable def El0 (k_ : Nat) (a2 : E0) (out : E0) (i : Int) : Option E0 :=
 lP N [.r, .r, .l, .r, .b] [] k_ (.con .val [lf ty7 a2 .ro] :: (un 2 (.con .val [lf ty14 out .dp] :: (.con .val [lf i64 i .ro] :: (un 18 [])))))
theorem ql0 (N : Nat) : ∀ k_, El0 N k_ = Z2q N k_
 | 0 => by kernel_rfl
 | k_ + 1 => (show El0 N (k_ + 1) = Z4u N (El0 N k_) from by kernel_rfl).trans (by simp only [ql0 N k_]; rfl)
noncomputable def eE : EnTryz := ⟨10, sG, [.v ty7], _, Z0y N, pk1 ty14, enK Tryz.func10 (by kernel_rfl),
 fun a => eok (eS N) (by kernel_rfl) Tryz.func10 rfl N an_ rfl (Y4 ty14) (.trans (b := Z7l N (El0 N N) a) (by kernel_rfl) (by rw [ql0]; rfl))⟩
end Z0y
namespace Z0l
def sG := sgV [.val i64, .val i64, .val i64] [(.bool, .dp)]
noncomputable def eS (N : Nat) : List EnTryz := []
noncomputable def eE : EnTryz := ⟨66, sG, [.v i64, .v i64, .v i64], _, Z0l N, pk1 .bool, enK Tryz.func66 (by kernel_rfl),
 fun x low high => eok (eS N) (by kernel_rfl) Tryz.func66 rfl N an0 rfl (Y4 .bool) (by kernel_rfl)⟩
end Z0l
namespace Z9
def sG := sgV [.val ty1] [(.bool, .dp)]
noncomputable def eS : List EnTryz := [Z0l.eE N]
noncomputable def eE : EnTryz := ⟨68, sG, [.v ty1], _, Z9 N, pk1 .bool, enK Tryz.func68 (by kernel_rfl),
 fun s => eok (eS N) (by kernel_rfl) Tryz.func68 rfl N an0 rfl (Y4 .bool) (by kernel_rfl)⟩
end Z9
namespace Z0t
def sG := sgV [.val ty8] [(.bool, .dp)]
noncomputable def eS : List EnTryz := [Z9.eE N]
def an_ : Nat -> Option (List Nat)
 | 0 => some [0, 3]
 | _ => none
noncomputable def lP (p : List Dir) (rs : List (Env -> Option (Bool))) (k : Nat) (env : Env) : Option (Bool) :=
 lpE (eS N) N an_ p Tryz.f46 (endK Tb sG Tryz.f46 [] (un1 .bool)) rs k env
noncomputable def El0 (k_ : Nat) (l2 : R0) (i : Int) : Option (Bool) :=
 lP N [.r, .l, .r, .b] [] k_ (.con .val [lf ty8 l2 .ro] :: (un 2 (.con .val [lf i64 i .ro] :: (un 33 []))))
theorem ql0 (N : Nat) : ∀ k_, El0 N k_ = Z0n N k_
 | 0 => by kernel_rfl
 | k_ + 1 => (show El0 N (k_ + 1) = Z1l N (El0 N k_) from by kernel_rfl).trans (by simp only [ql0 N k_]; rfl)
noncomputable def eE : EnTryz := ⟨46, sG, [.v ty8], _, Z0t N, pk1 .bool, enK Tryz.func46 (by kernel_rfl),
 fun l => eok (eS N) (by kernel_rfl) Tryz.func46 rfl N an_ rfl (Y4 .bool) (.trans (b := Z52 N (El0 N N) l) (by kernel_rfl) (by rw [ql0]; rfl))⟩
end Z0t
namespace Z18
def sG := sgV [.val ty8, .val ty3] [(.bool, .dp)]
noncomputable def eS : List EnTryz := [Z0l.eE N, Z0t.eE N]
def an_ : Nat -> Option (List Nat)
 | 0 => some [3, 5]
 | _ => none
noncomputable def lP (p : List Dir) (rs : List (Env -> Option (Bool))) (k : Nat) (env : Env) : Option (Bool) :=
 lpE (eS N) N an_ p Tryz.f44 (endK Tb sG Tryz.f44 [] (un1 .bool)) rs k env
noncomputable def El0 (k_ : Nat) (f2 : Int) (f3 : I0) (i : Int) : Option (Bool) :=
 lP N [.r, .r, .l, .r, .b] [] k_ (un 3 (.con (.box ⟨82, false, []⟩) [lf i64 f2 .ro, lf ty0 f3 .ro] :: (un 1 (.con .val [lf i64 i .ro] :: (un 38 [])))))
theorem ql0 (N : Nat) : ∀ k_, El0 N k_ = Z46 N k_
 | 0 => by kernel_rfl
 | k_ + 1 => (show El0 N (k_ + 1) = Z6c N (El0 N k_) from by kernel_rfl).trans (by simp only [ql0 N k_]; rfl)
noncomputable def eE : EnTryz := ⟨44, sG, [.v ty8, .v ty3], _, Z18 N, pk1 .bool, enK Tryz.func44 (by kernel_rfl),
 fun l f => eok (eS N) (by kernel_rfl) Tryz.func44 rfl N an_ rfl (Y4 .bool) (.trans (b := Z8i N (El0 N N) l f) (by kernel_rfl) (by rw [ql0]; rfl))⟩
end Z18
namespace Z5y
def sG := sgV [.val ty0, .val ty0] [(i64, .dp)]
noncomputable def eS (N : Nat) : List EnTryz := []
def an_ : Nat -> Option (List Nat)
 | 0 => some [0, 1, 5]
 | _ => none
noncomputable def lP (p : List Dir) (rs : List (Env -> Option (Int))) (k : Nat) (env : Env) : Option (Int) :=
 lpE (eS N) N an_ p Tryz.f67 (endK Tb sG Tryz.f67 [] (un1 i64)) rs k env
noncomputable def El0 (k_ : Nat) (a2 : I0) (b2 : I0) (i : Int) : Option (Int) :=
 lP N [.r, .l, .r, .b] [] k_ (.con .val [lf ty0 a2 .ro] :: (.con .val [lf ty0 b2 .ro] :: (un 3 (.con .val [lf i64 i .ro] :: (un 40 [])))))
theorem ql0 (N : Nat) : ∀ k_, El0 N k_ = Z5q N k_
 | 0 => by kernel_rfl
 | k_ + 1 => (show El0 N (k_ + 1) = Z6x N (El0 N k_) from by kernel_rfl).trans (by simp only [ql0 N k_]; rfl)
noncomputable def eE : EnTryz := ⟨67, sG, [.v ty0, .v ty0], _, Z5y N, pk1 i64, enK Tryz.func67 (by kernel_rfl),
 fun a b => eok (eS N) (by kernel_rfl) Tryz.func67 rfl N an_ rfl (Y4 i64) (.trans (b := Z9g N (El0 N N) a b) (by kernel_rfl) (by rw [ql0]; rfl))⟩
end Z5y
namespace Z3t
def sG := sgV [.val ty3, .val ty3] [(i64, .dp)]
noncomputable def eS : List EnTryz := [Z5y.eE N]
noncomputable def eE : EnTryz := ⟨45, sG, [.v ty3, .v ty3], _, Z3t N, pk1 i64, enK Tryz.func45 (by kernel_rfl),
 fun a b => eok (eS N) (by kernel_rfl) Tryz.func45 rfl N an0 rfl (Y4 i64) (by kernel_rfl)⟩
end Z3t
namespace Z0g
def sG := sgV [.val ty10] [(.bool, .dp)]
noncomputable def eS : List EnTryz := [Z18.eE N, Z3t.eE N, Z0t.eE N]
def an_ : Nat -> Option (List Nat)
 | 0 => some [1, 3]
 | _ => none
noncomputable def lP (p : List Dir) (rs : List (Env -> Option (Bool))) (k : Nat) (env : Env) : Option (Bool) :=
 lpE (eS N) N an_ p Tryz.f23 (endK Tb sG Tryz.f23 [] (un1 .bool)) rs k env
noncomputable def El0 (k_ : Nat) (d2 : R0) (d3 : A0) (i : Int) : Option (Bool) :=
 lP N [.r, .l, .r, .b] [] k_ (un 1 (.con (.box ⟨36, false, []⟩) [lf ty8 d2 .ro, lf ty9 d3 .ro] :: (un 1 (.con .val [lf i64 i .ro] :: (un 44 [])))))
theorem ql0 (N : Nat) : ∀ k_, El0 N k_ = Z2r N k_
 | 0 => by kernel_rfl
 | k_ + 1 => (show El0 N (k_ + 1) = Z4v N (El0 N k_) from by kernel_rfl).trans (by simp only [ql0 N k_]; rfl)
noncomputable def eE : EnTryz := ⟨23, sG, [.v ty10], _, Z0g N, pk1 .bool, enK Tryz.func23 (by kernel_rfl),
 fun d => eok (eS N) (by kernel_rfl) Tryz.func23 rfl N an_ rfl (Y4 .bool) (.trans (b := Z7m N (El0 N N) d) (by kernel_rfl) (by rw [ql0]; rfl))⟩
end Z0g
namespace Z7f
def sG := sgV [.val ty8, .val ty3] [(ty0, .dp)]
noncomputable def eS : List EnTryz := [Z18.eE N]
noncomputable def eE : EnTryz := ⟨76, sG, [.v ty8, .v ty3], _, Z7f N, pk1 ty0, enK Tryz.func76 (by kernel_rfl),
 fun l f => eok (eS N) (by kernel_rfl) Tryz.func76 rfl N an0 rfl (Y4 ty0) (by kernel_rfl)⟩
end Z7f
namespace Z4l
def sG := sgV [.val ty8, .val ty3, .val ty3] [(.bool, .dp)]
noncomputable def eS : List EnTryz := [Z18.eE N, Z7f.eE N, Z5y.eE N]
noncomputable def eE : EnTryz := ⟨49, sG, [.v ty8, .v ty3, .v ty3], _, Z4l N, pk1 .bool, enK Tryz.func49 (by kernel_rfl),
 fun l a b => eok (eS N) (by kernel_rfl) Tryz.func49 rfl N an0 rfl (Y4 .bool) (by kernel_rfl)⟩
end Z4l
namespace Z1f
def sG := sgV [.val ty10, .val ty11] [(.bool, .dp)]
noncomputable def eS : List EnTryz := [Z0g.eE N, Z0l.eE N]
noncomputable def eE : EnTryz := ⟨77, sG, [.v ty10, .v ty11], _, Z1f N, pk1 .bool, enK Tryz.func77 (by kernel_rfl),
 fun d x => eok (eS N) (by kernel_rfl) Tryz.func77 rfl N an0 rfl (Y4 .bool) (by kernel_rfl)⟩
end Z1f
namespace Z1b
def sG := sgV [.val ty10, .val ty11, .val i64, .val i64] [(.bool, .dp)]
noncomputable def eS : List EnTryz := [Z1f.eE N, Z0l.eE N]
noncomputable def eE : EnTryz := ⟨50, sG, [.v ty10, .v ty11, .v i64, .v i64], _, Z1b N, pk1 .bool, enK Tryz.func50 (by kernel_rfl),
 fun d x i k => eok (eS N) (by kernel_rfl) Tryz.func50 rfl N an0 rfl (Y4 .bool) (by kernel_rfl)⟩
end Z1b
namespace Z3n
def sG := sgV [.val ty10, .val ty12] [(ty14, .dp)]
noncomputable def eS : List EnTryz := [Z1b.eE N, Z4l.eE N, Z0g.eE N]
def an_ : Nat -> Option (List Nat)
 | 0 => some [1, 2, 5, 6]
 | 2 => some [1, 2, 5, 6, 7]
 | 4 => some [1, 2, 5, 6, 7, 8, 9]
 | _ => none
noncomputable def lP (p : List Dir) (rs : List (Env -> Option E0)) (k : Nat) (env : Env) : Option E0 :=
 lpE (eS N) N an_ p Tryz.f25 (endK Tb sG Tryz.f25 [] (un1 ty14)) rs k env
noncomputable def El2 (k0_ : Nat) (k1_ : Nat) (k_ : Nat) (l4 : List C0) (d6 : R0) (d7 : A0) (out3 : E0) (i3 : Int) (k2 : Int) (is_ : Bool) (n : Int) : Option E0 :=
 lP N [.r, .r, .l, .r, .b, .b, .r, .l, .b, .r, .b, .b, .r, .l, .b, .r, .l, .r, .b] [lP N [.r, .r, .l, .r, .b] [] k0_, lP N [.r, .r, .l, .r, .b, .b, .r, .l, .b, .r, .b] [lP N [.r, .r, .l, .r, .b] [] k0_] k1_] k_ (un 1 (.con .val [lf ty12 l4 .ro] :: (.con (.box ⟨36, false, []⟩) [lf ty8 d6 .ro, lf ty9 d7 .ro] :: (un 2 (.con .val [lf ty14 out3 .dp] :: (.con .val [lf i64 i3 .ro] :: (.con .val [lf i64 k2 .ro] :: (.con .val [lf .bool is_ .ro] :: (.con .val [lf i64 n .ro] :: (un 69 []))))))))))
noncomputable def El1 (k0_ : Nat) (k_ : Nat) (l3 : List C0) (d4 : R0) (d5 : A0) (out2 : E0) (i2 : Int) (k : Int) : Option E0 :=
 lP N [.r, .r, .l, .r, .b, .b, .r, .l, .b, .r, .b] [lP N [.r, .r, .l, .r, .b] [] k0_] k_ (un 1 (.con .val [lf ty12 l3 .ro] :: (.con (.box ⟨36, false, []⟩) [lf ty8 d4 .ro, lf ty9 d5 .ro] :: (un 2 (.con .val [lf ty14 out2 .dp] :: (.con .val [lf i64 i2 .ro] :: (.con .val [lf i64 k .ro] :: (un 71 []))))))))
noncomputable def El0 (k_ : Nat) (l2 : List C0) (d2 : R0) (d3 : A0) (out : E0) (i : Int) : Option E0 :=
 lP N [.r, .r, .l, .r, .b] [] k_ (un 1 (.con .val [lf ty12 l2 .ro] :: (.con (.box ⟨36, false, []⟩) [lf ty8 d2 .ro, lf ty9 d3 .ro] :: (un 2 (.con .val [lf ty14 out .dp] :: (.con .val [lf i64 i .ro] :: (un 72 [])))))))
theorem ql2 (N : Nat) (k0_ : Nat) (k1_ : Nat) : ∀ k_, El2 N k0_ k1_ k_ = Z3d (El1 N k0_ k1_) N k_
 | 0 => by kernel_rfl
 | k_ + 1 => (show El2 N k0_ k1_ (k_ + 1) = Z5k N (El1 N k0_ k1_) (El2 N k0_ k1_ k_) from by kernel_rfl).trans (by simp only [ql2 N k0_ k1_ k_]; rfl)
theorem ql1 (N : Nat) (k0_ : Nat) : ∀ k_, El1 N k0_ k_ = Z16 (El0 N k0_) N k_
 | 0 => by kernel_rfl
 | k_ + 1 => (show El1 N k0_ (k_ + 1) = Z5l N (El0 N k0_) (El2 N k0_ k_ N) (El1 N k0_ k_) from by kernel_rfl).trans (by simp only [ql2, ql1 N k0_ k_]; rfl)
theorem ql0 (N : Nat) : ∀ k_, El0 N k_ = Z1m N k_
 | 0 => by kernel_rfl
 | k_ + 1 => (show El0 N (k_ + 1) = Z3s N (El1 N k_ N) (El0 N k_) from by kernel_rfl).trans (by simp only [ql1, ql0 N k_]; rfl)
noncomputable def eE : EnTryz := ⟨25, sG, [.v ty10, .v ty12], _, Z3n N, pk1 ty14, enK Tryz.func25 (by kernel_rfl),
 fun d l => eok (eS N) (by kernel_rfl) Tryz.func25 rfl N an_ rfl (Y4 ty14) (.trans (b := Z84 N (El0 N N) d l) (by kernel_rfl) (by rw [ql0]; rfl))⟩
end Z3n
namespace Z10
def sG := sgV [.val i64, .val ty14] [(.bool, .dp)]
noncomputable def eS : List EnTryz := [Z0l.eE N]
def an_ : Nat -> Option (List Nat)
 | 0 => some [0, 1, 5]
 | _ => none
noncomputable def lP (p : List Dir) (rs : List (Env -> Option (Bool))) (k : Nat) (env : Env) : Option (Bool) :=
 lpE (eS N) N an_ p Tryz.f69 (endK Tb sG Tryz.f69 [] (un1 .bool)) rs k env
noncomputable def El0 (k_ : Nat) (n2 : Int) (l2 : E0) (i : Int) : Option (Bool) :=
 lP N [.r, .l, .r, .b] [] k_ (.con .val [lf i64 n2 .ro] :: (.con .val [lf ty14 l2 .ro] :: (un 3 (.con .val [lf i64 i .ro] :: (un 78 [])))))
theorem ql0 (N : Nat) : ∀ k_, El0 N k_ = Z3e N k_
 | 0 => by kernel_rfl
 | k_ + 1 => (show El0 N (k_ + 1) = Z5m N (El0 N k_) from by kernel_rfl).trans (by simp only [ql0 N k_]; rfl)
noncomputable def eE : EnTryz := ⟨69, sG, [.v i64, .v ty14], _, Z10 N, pk1 .bool, enK Tryz.func69 (by kernel_rfl),
 fun n l => eok (eS N) (by kernel_rfl) Tryz.func69 rfl N an_ rfl (Y4 .bool) (.trans (b := Z85 N (El0 N N) n l) (by kernel_rfl) (by rw [ql0]; rfl))⟩
end Z10
namespace Z86
def sG := sgV [.val i64, .val ty0] [(.bool, .dp)]
noncomputable def eS : List EnTryz := [Z0l.eE N]
def an_ : Nat -> Option (List Nat)
 | 0 => some [0, 1, 5]
 | _ => none
noncomputable def lP (p : List Dir) (rs : List (Env -> Option (Bool))) (k : Nat) (env : Env) : Option (Bool) :=
 lpE (eS N) N an_ p Tryz.f99 (endK Tb sG Tryz.f99 [] (un1 .bool)) rs k env
noncomputable def El0 (k_ : Nat) (n2 : Int) (s2 : I0) (i : Int) : Option (Bool) :=
 lP N [.r, .l, .r, .b] [] k_ (.con .val [lf i64 n2 .ro] :: (.con .val [lf ty0 s2 .ro] :: (un 3 (.con .val [lf i64 i .ro] :: (un 30 [])))))
theorem ql0 (N : Nat) : ∀ k_, El0 N k_ = Z7c N k_
 | 0 => by kernel_rfl
 | k_ + 1 => (show El0 N (k_ + 1) = Z8e N (El0 N k_) from by kernel_rfl).trans (by simp only [ql0 N k_]; rfl)
noncomputable def eE : EnTryz := ⟨99, sG, [.v i64, .v ty0], _, Z86 N, pk1 .bool, enK Tryz.func99 (by kernel_rfl),
 fun n s => eok (eS N) (by kernel_rfl) Tryz.func99 rfl N an_ rfl (Y4 .bool) (.trans (b := Z9v N (El0 N N) n s) (by kernel_rfl) (by rw [ql0]; rfl))⟩
end Z86
namespace Z4e
def sG := sgV [.val ty0, .val i64] [(.bool, .dp)]
noncomputable def eS (N : Nat) : List EnTryz := []
def an_ : Nat -> Option (List Nat)
 | 0 => some [0, 1, 5]
 | _ => none
noncomputable def lP (p : List Dir) (rs : List (Env -> Option (Bool))) (k : Nat) (env : Env) : Option (Bool) :=
 lpE (eS N) N an_ p Tryz.f73 (endK Tb sG Tryz.f73 [] (un1 .bool)) rs k env
noncomputable def El0 (k_ : Nat) (l2 : I0) (x2 : Int) (i : Int) : Option (Bool) :=
 lP N [.r, .l, .r, .b] [] k_ (.con .val [lf ty0 l2 .ro] :: (.con .val [lf i64 x2 .ro] :: (un 3 (.con .val [lf i64 i .ro] :: (un 12 [])))))
theorem ql0 (N : Nat) : ∀ k_, El0 N k_ = Z7d N k_
 | 0 => by kernel_rfl
 | k_ + 1 => (show El0 N (k_ + 1) = Z8f N (El0 N k_) from by kernel_rfl).trans (by simp only [ql0 N k_]; rfl)
noncomputable def eE : EnTryz := ⟨73, sG, [.v ty0, .v i64], _, Z4e N, pk1 .bool, enK Tryz.func73 (by kernel_rfl),
 fun l x => eok (eS N) (by kernel_rfl) Tryz.func73 rfl N an_ rfl (Y4 .bool) (.trans (b := Z9w N (El0 N N) l x) (by kernel_rfl) (by rw [ql0]; rfl))⟩
end Z4e
namespace Z1u
def sG := sgV [.val ty14, .val ty0] [(.bool, .dp)]
noncomputable def eS : List EnTryz := [Z4e.eE N]
def an_ : Nat -> Option (List Nat)
 | 0 => some [0, 1, 5]
 | _ => none
noncomputable def lP (p : List Dir) (rs : List (Env -> Option (Bool))) (k : Nat) (env : Env) : Option (Bool) :=
 lpE (eS N) N an_ p Tryz.f100 (endK Tb sG Tryz.f100 [] (un1 .bool)) rs k env
noncomputable def El0 (k_ : Nat) (l2 : E0) (s2 : I0) (i : Int) : Option (Bool) :=
 lP N [.r, .l, .r, .b] [] k_ (.con .val [lf ty14 l2 .ro] :: (.con .val [lf ty0 s2 .ro] :: (un 3 (.con .val [lf i64 i .ro] :: (un 22 [])))))
theorem ql0 (N : Nat) : ∀ k_, El0 N k_ = Z3f N k_
 | 0 => by kernel_rfl
 | k_ + 1 => (show El0 N (k_ + 1) = Z5n N (El0 N k_) from by kernel_rfl).trans (by simp only [ql0 N k_]; rfl)
noncomputable def eE : EnTryz := ⟨100, sG, [.v ty14, .v ty0], _, Z1u N, pk1 .bool, enK Tryz.func100 (by kernel_rfl),
 fun l s => eok (eS N) (by kernel_rfl) Tryz.func100 rfl N an_ rfl (Y4 .bool) (.trans (b := Z87 N (El0 N N) l s) (by kernel_rfl) (by rw [ql0]; rfl))⟩
end Z1u
namespace Z5z
def sG := sgV [.val ty14, .val ty0, .val i64] [(.bool, .dp)]
noncomputable def eS : List EnTryz := [Z4e.eE N, Z1u.eE N]
noncomputable def eE : EnTryz := ⟨98, sG, [.v ty14, .v ty0, .v i64], _, Z5z N, pk1 .bool, enK Tryz.func98 (by kernel_rfl),
 fun l s x => eok (eS N) (by kernel_rfl) Tryz.func98 rfl N an0 rfl (Y4 .bool) (by kernel_rfl)⟩
end Z5z
namespace Z0o
def sG := sgV [.val i64, .val ty14, .val ty0] [(.bool, .dp)]
noncomputable def eS : List EnTryz := [Z5z.eE N, Z10.eE N, Z86.eE N, Z1u.eE N]
def an_ : Nat -> Option (List Nat)
 | 0 => some [0, 1, 2, 7]
 | _ => none
noncomputable def lP (p : List Dir) (rs : List (Env -> Option (Bool))) (k : Nat) (env : Env) : Option (Bool) :=
 lpE (eS N) N an_ p Tryz.f72 (endK Tb sG Tryz.f72 [] (un1 .bool)) rs k env
noncomputable def El0 (k_ : Nat) (n2 : Int) (l2 : E0) (s2 : I0) (x : Int) : Option (Bool) :=
 lP N [.r, .r, .l, .r, .b] [] k_ (.con .val [lf i64 n2 .ro] :: (.con .val [lf ty14 l2 .ro] :: (.con .val [lf ty0 s2 .ro] :: (un 4 (.con .val [lf i64 x .ro] :: (un 25 []))))))
theorem ql0 (N : Nat) : ∀ k_, El0 N k_ = Z1g N k_
 | 0 => by kernel_rfl
 | k_ + 1 => (show El0 N (k_ + 1) = Z3b N (El0 N k_) from by kernel_rfl).trans (by simp only [ql0 N k_]; rfl)
noncomputable def eE : EnTryz := ⟨72, sG, [.v i64, .v ty14, .v ty0], _, Z0o N, pk1 .bool, enK Tryz.func72 (by kernel_rfl),
 fun n l s => eok (eS N) (by kernel_rfl) Tryz.func72 rfl N an_ rfl (Y4 .bool) (.trans (b := Z61 N (El0 N N) n l s) (by kernel_rfl) (by rw [ql0]; rfl))⟩
end Z0o
namespace Z8d
def sG := sgV [.val i64, .val ty14, .val ty0, .val i64] [(ty15, .dp)]
theorem eN : Enterable Tryz.prog 70 := Y6i Tryz.func70 (code := Tryz.f70.body.getD .skip) (by kernel_rfl) (by kernel_rfl)
noncomputable def eS (Rf : Int -> E0 -> I0 -> Int -> Option L0) (hR : OkP (Option L0) [.v i64, .v ty14, .v ty0, .v i64] Rf (fun xs_ q => ∀ x, q = some x -> FnOk Tryz.prog 70 sG xs_ (pk1 ty15 x))) : List EnTryz := [Z0o.eE N, Z5z.eE N, ⟨70, sG, [.v i64, .v ty14, .v ty0, .v i64], L0, Rf, pk1 ty15, eN, hR⟩]
def an_ : Nat -> Option (List Nat)
 | 0 => some [0, 1, 2, 3, 9, 10, 11]
 | _ => none
noncomputable def lP (Rf : Int -> E0 -> I0 -> Int -> Option L0) (hR : OkP (Option L0) [.v i64, .v ty14, .v ty0, .v i64] Rf (fun xs_ q => ∀ x, q = some x -> FnOk Tryz.prog 70 sG xs_ (pk1 ty15 x))) (p : List Dir) (rs : List (Env -> Option L0)) (k : Nat) (env : Env) : Option L0 :=
 lpE (eS N Rf hR) N an_ p Tryz.f70 (endK Tb sG Tryz.f70 [] (un1 ty15)) rs k env
noncomputable def El0 (Rf : Int -> E0 -> I0 -> Int -> Option L0) (hR : OkP (Option L0) [.v i64, .v ty14, .v ty0, .v i64] Rf (fun xs_ q => ∀ x, q = some x -> FnOk Tryz.prog 70 sG xs_ (pk1 ty15 x))) (k_ : Nat) (n2 : Int) (l2 : E0) (s2 : I0) (x2 : Int) (out : L0) (met : Bool) (i : Int) : Option L0 :=
 lP N Rf hR [.r, .r, .r, .r, .r, .l, .r, .b] [] k_ (.con .val [lf i64 n2 .ro] :: (.con .val [lf ty14 l2 .ro] :: (.con .val [lf ty0 s2 .ro] :: (.con .val [lf i64 x2 .ro] :: (un 5 (.con .val [lf ty15 out .dp] :: (.con .val [lf .bool met .ro] :: (.con .val [lf i64 i .ro] :: (un 63 [])))))))))
theorem ql0 (N : Nat) (Rf : Int -> E0 -> I0 -> Int -> Option L0) (hR : OkP (Option L0) [.v i64, .v ty14, .v ty0, .v i64] Rf (fun xs_ q => ∀ x, q = some x -> FnOk Tryz.prog 70 sG xs_ (pk1 ty15 x))) : ∀ k_, El0 N Rf hR k_ = Z5r N Rf k_
 | 0 => by kernel_rfl
 | k_ + 1 => (show El0 N Rf hR (k_ + 1) = Z88 N Rf (El0 N Rf hR k_) from by kernel_rfl).trans (by simp only [ql0 N Rf hR k_]; rfl)
theorem vV (Rf : Int -> E0 -> I0 -> Int -> Option L0) (hR : OkP (Option L0) [.v i64, .v ty14, .v ty0, .v i64] Rf (fun xs_ q => ∀ x, q = some x -> FnOk Tryz.prog 70 sG xs_ (pk1 ty15 x))) (n : Int) (l : E0) (s : I0) (x : Int) :
  evE (eS N Rf hR) N an_ sG Tryz.f70 [.val i64 n, .val ty14 l, .val ty0 s, .val i64 x] (un1 ty15) = Z8p N Rf (El0 N Rf hR N) n l s x := by kernel_rfl
theorem oK (N : Nat) : ∀ k_, OkP (Option L0) [.v i64, .v ty14, .v ty0, .v i64] (Z3q N k_) (fun xs_ q => ∀ x, q = some x -> FnOk Tryz.prog 70 sG xs_ (pk1 ty15 x))
 | 0 => fun n l s x =>  fun x h => absurd (show (none : Option L0) = some x from h) (by simp)
 | k_ + 1 => fun n l s x => Y6h tab_ok (es := eS N (Z3q N k_) (oK N k_)) (by kernel_rfl) mixed Tryz.func70 (by kernel_rfl) ⟨⟨rfl, rfl⟩, rfl, rfl⟩ (Y4 ty15) ((vV N _ _ n l s x).trans (by rw [ql0]; rfl))
noncomputable def eE : EnTryz := ⟨70, sG, [.v i64, .v ty14, .v ty0, .v i64], L0, Z8d N, pk1 ty15, eN, oK N N⟩
end Z8d
namespace Z11
def sG := sgV [.val i64, .val ty14] [(ty15, .dp)]
noncomputable def eS : List EnTryz := [Z10.eE N, Z8d.eE N]
noncomputable def eE : EnTryz := ⟨47, sG, [.v i64, .v ty14], _, Z11 N, pk1 ty15, enK Tryz.func47 (by kernel_rfl),
 fun n l => eok (eS N) (by kernel_rfl) Tryz.func47 rfl N an0 rfl (Y4 ty15) (by kernel_rfl)⟩
end Z11
namespace Z4d
def sG := sgV [.val ty14, .val i64, .val i64] [(.bool, .dp)]
noncomputable def eS (N : Nat) : List EnTryz := []
def an_ : Nat -> Option (List Nat)
 | 0 => some [0, 1, 2, 7]
 | _ => none
noncomputable def lP (p : List Dir) (rs : List (Env -> Option (Bool))) (k : Nat) (env : Env) : Option (Bool) :=
 lpE (eS N) N an_ p Tryz.f74 (endK Tb sG Tryz.f74 [] (un1 .bool)) rs k env
noncomputable def El0 (k_ : Nat) (l2 : E0) (a2 : Int) (b2 : Int) (i : Int) : Option (Bool) :=
 lP N [.r, .l, .r, .b] [] k_ (.con .val [lf ty14 l2 .ro] :: (.con .val [lf i64 a2 .ro] :: (.con .val [lf i64 b2 .ro] :: (un 4 (.con .val [lf i64 i .ro] :: (un 26 []))))))
theorem ql0 (N : Nat) : ∀ k_, El0 N k_ = Z6d N k_
 | 0 => by kernel_rfl
 | k_ + 1 => (show El0 N (k_ + 1) = Z7x N (El0 N k_) from by kernel_rfl).trans (by simp only [ql0 N k_]; rfl)
noncomputable def eE : EnTryz := ⟨74, sG, [.v ty14, .v i64, .v i64], _, Z4d N, pk1 .bool, enK Tryz.func74 (by kernel_rfl),
 fun l a b => eok (eS N) (by kernel_rfl) Tryz.func74 rfl N an_ rfl (Y4 .bool) (.trans (b := Z98 N (El0 N N) l a b) (by kernel_rfl) (by rw [ql0]; rfl))⟩
end Z4d
namespace Z1x
def sG := sgV [.val i64, .val ty14, .val ty14] [(.bool, .dp)]
noncomputable def eS : List EnTryz := [Z4d.eE N, Z10.eE N]
def an_ : Nat -> Option (List Nat)
 | 0 => some [0, 1, 2, 7]
 | 2 => some [0, 2, 8, 9]
 | 4 => some [0, 2, 8, 9, 10]
 | 6 => some [0, 2, 8, 9, 10, 11, 12]
 | 8 => some [0, 8, 13]
 | _ => none
noncomputable def lP (p : List Dir) (rs : List (Env -> Option (Bool))) (k : Nat) (env : Env) : Option (Bool) :=
 lpE (eS N) N an_ p Tryz.f71 (endK Tb sG Tryz.f71 [] (un1 .bool)) rs k env
noncomputable def El3 (k0_ : Nat) (k1_ : Nat) (k_ : Nat) (n5 : Int) (p5 : E0) (gone3 : List Bool) (k3 : Int) (x2 : Int) (free : Bool) (i2 : Int) : Option (Bool) :=
 lP N [.r, .r, .r, .r, .l, .r, .b, .b, .r, .l, .b, .r, .b, .b, .r, .l, .b, .r, .l, .r, .b] [lP N [.r, .r, .r, .r, .l, .r, .b] [] k0_, lP N [.r, .r, .r, .r, .l, .r, .b, .b, .r, .l, .b, .r, .b] [lP N [.r, .r, .r, .r, .l, .r, .b] [] k0_] k1_] k_ (.con .val [lf i64 n5 .ro] :: (un 1 (.con .val [lf ty14 p5 .ro] :: (un 5 (.con .val [lf ty16 gone3 .dp] :: (.con .val [lf i64 k3 .ro] :: (.con .val [lf i64 x2 .ro] :: (.con .val [lf .bool free .ro] :: (.con .val [lf i64 i2 .ro] :: (un 89 []))))))))))
noncomputable def El2 (k0_ : Nat) (k_ : Nat) (n4 : Int) (p4 : E0) (gone2 : List Bool) (k2 : Int) (x : Int) : Option (Bool) :=
 lP N [.r, .r, .r, .r, .l, .r, .b, .b, .r, .l, .b, .r, .b] [lP N [.r, .r, .r, .r, .l, .r, .b] [] k0_] k_ (.con .val [lf i64 n4 .ro] :: (un 1 (.con .val [lf ty14 p4 .ro] :: (un 5 (.con .val [lf ty16 gone2 .dp] :: (.con .val [lf i64 k2 .ro] :: (.con .val [lf i64 x .ro] :: (un 91 []))))))))
noncomputable def El4 (k_ : Nat) (n6 : Int) (gone4 : List Bool) (x3 : Int) : Option (Bool) :=
 lP N [.r, .r, .r, .r, .r, .l, .r, .b] [] k_ (.con .val [lf i64 n6 .ro] :: (un 7 (.con .val [lf ty16 gone4 .dp] :: (un 4 (.con .val [lf i64 x3 .ro] :: (un 88 []))))))
noncomputable def El1 (k_ : Nat) (n3 : Int) (p3 : E0) (gone : List Bool) (k : Int) : Option (Bool) :=
 lP N [.r, .r, .r, .r, .l, .r, .b] [] k_ (.con .val [lf i64 n3 .ro] :: (un 1 (.con .val [lf ty14 p3 .ro] :: (un 5 (.con .val [lf ty16 gone .dp] :: (.con .val [lf i64 k .ro] :: (un 92 [])))))))
noncomputable def El0 (k_ : Nat) (n2 : Int) (l2 : E0) (p2 : E0) (i : Int) : Option (Bool) :=
 lP N [.r, .r, .l, .r, .b] [] k_ (.con .val [lf i64 n2 .ro] :: (.con .val [lf ty14 l2 .ro] :: (.con .val [lf ty14 p2 .ro] :: (un 4 (.con .val [lf i64 i .ro] :: (un 94 []))))))
theorem ql3 (N : Nat) (k0_ : Nat) (k1_ : Nat) : ∀ k_, El3 N k0_ k1_ k_ = Z22 (El2 N k0_ k1_) N k_
 | 0 => by kernel_rfl
 | k_ + 1 => (show El3 N k0_ k1_ (k_ + 1) = Z62 N (El2 N k0_ k1_) (El3 N k0_ k1_ k_) from by kernel_rfl).trans (by simp only [ql3 N k0_ k1_ k_]; rfl)
theorem ql2 (N : Nat) (k0_ : Nat) : ∀ k_, El2 N k0_ k_ = Z1e (El1 N k0_) N k_
 | 0 => by kernel_rfl
 | k_ + 1 => (show El2 N k0_ (k_ + 1) = Z3w N (El1 N k0_) (El3 N k0_ k_ N) (El2 N k0_ k_) from by kernel_rfl).trans (by simp only [ql3, ql2 N k0_ k_]; rfl)
theorem ql4 (N : Nat) : ∀ k_, El4 N k_ = Z23 N k_
 | 0 => by kernel_rfl
 | k_ + 1 => (show El4 N (k_ + 1) = Z3x N (El4 N k_) from by kernel_rfl).trans (by simp only [ql4 N k_]; rfl)
theorem ql1 (N : Nat) : ∀ k_, El1 N k_ = Z0p N k_
 | 0 => by kernel_rfl
 | k_ + 1 => (show El1 N (k_ + 1) = Z3y N (El2 N k_ N) (El4 N N) (El1 N k_) from by kernel_rfl).trans (by simp only [ql2, ql4, ql1 N k_]; rfl)
theorem ql0 (N : Nat) : ∀ k_, El0 N k_ = Z24 N k_
 | 0 => by kernel_rfl
 | k_ + 1 => (show El0 N (k_ + 1) = Z3z N (El1 N N) (El0 N k_) from by kernel_rfl).trans (by simp only [ql1, ql0 N k_]; rfl)
noncomputable def eE : EnTryz := ⟨71, sG, [.v i64, .v ty14, .v ty14], _, Z1x N, pk1 .bool, enK Tryz.func71 (by kernel_rfl),
 fun n l p => eok (eS N) (by kernel_rfl) Tryz.func71 rfl N an_ rfl (Y4 .bool) (.trans (b := Z6y N (El0 N N) n l p) (by kernel_rfl) (by rw [ql0]; rfl))⟩
end Z1x
namespace Z4m
def sG := sgV [.val ty14, .val i64, .val i64] [(.bool, .dp)]
noncomputable def eS (N : Nat) : List EnTryz := []
def an_ : Nat -> Option (List Nat)
 | 0 => some [0, 1, 2, 7]
 | _ => none
noncomputable def lP (p : List Dir) (rs : List (Env -> Option (Bool))) (k : Nat) (env : Env) : Option (Bool) :=
 lpE (eS N) N an_ p Tryz.f75 (endK Tb sG Tryz.f75 [] (un1 .bool)) rs k env
noncomputable def El0 (k_ : Nat) (p2 : E0) (a2 : Int) (b2 : Int) (i : Int) : Option (Bool) :=
 lP N [.r, .l, .r, .b] [] k_ (.con .val [lf ty14 p2 .ro] :: (.con .val [lf i64 a2 .ro] :: (.con .val [lf i64 b2 .ro] :: (un 4 (.con .val [lf i64 i .ro] :: (un 22 []))))))
theorem ql0 (N : Nat) : ∀ k_, El0 N k_ = Z47 N k_
 | 0 => by kernel_rfl
 | k_ + 1 => (show El0 N (k_ + 1) = Z6e N (El0 N k_) from by kernel_rfl).trans (by simp only [ql0 N k_]; rfl)
noncomputable def eE : EnTryz := ⟨75, sG, [.v ty14, .v i64, .v i64], _, Z4m N, pk1 .bool, enK Tryz.func75 (by kernel_rfl),
 fun p a b => eok (eS N) (by kernel_rfl) Tryz.func75 rfl N an_ rfl (Y4 .bool) (.trans (b := Z8j N (El0 N N) p a b) (by kernel_rfl) (by rw [ql0]; rfl))⟩
end Z4m
namespace Z1v
def sG := sgV [.val i64, .val ty14, .val ty14, .val ty0] [(.bool, .dp)]
noncomputable def eS : List EnTryz := [Z4d.eE N, Z4m.eE N, Z4e.eE N, Z1x.eE N, Z0o.eE N]
def an_ : Nat -> Option (List Nat)
 | 0 => some [0, 1, 2, 3, 9]
 | 2 => some [0, 1, 2, 3, 9, 10, 11]
 | _ => none
noncomputable def lP (p : List Dir) (rs : List (Env -> Option (Bool))) (k : Nat) (env : Env) : Option (Bool) :=
 lpE (eS N) N an_ p Tryz.f48 (endK Tb sG Tryz.f48 [] (un1 .bool)) rs k env
noncomputable def El1 (k0_ : Nat) (k_ : Nat) (n3 : Int) (l3 : E0) (p3 : E0) (s3 : I0) (x2 : Int) (all : Bool) (i : Int) : Option (Bool) :=
 lP N [.r, .r, .l, .r, .b, .b, .r, .l, .b, .r, .r, .l, .r, .b] [lP N [.r, .r, .l, .r, .b] [] k0_] k_ (.con .val [lf i64 n3 .ro] :: (.con .val [lf ty14 l3 .ro] :: (.con .val [lf ty14 p3 .ro] :: (.con .val [lf ty0 s3 .ro] :: (un 5 (.con .val [lf i64 x2 .ro] :: (.con .val [lf .bool all .ro] :: (.con .val [lf i64 i .ro] :: (un 47 [])))))))))
noncomputable def El0 (k_ : Nat) (n2 : Int) (l2 : E0) (p2 : E0) (s2 : I0) (x : Int) : Option (Bool) :=
 lP N [.r, .r, .l, .r, .b] [] k_ (.con .val [lf i64 n2 .ro] :: (.con .val [lf ty14 l2 .ro] :: (.con .val [lf ty14 p2 .ro] :: (.con .val [lf ty0 s2 .ro] :: (un 5 (.con .val [lf i64 x .ro] :: (un 49 [])))))))
theorem ql1 (N : Nat) (k0_ : Nat) : ∀ k_, El1 N k0_ k_ = Z2s (El0 N k0_) N k_
 | 0 => by kernel_rfl
 | k_ + 1 => (show El1 N k0_ (k_ + 1) = Z6o N (El0 N k0_) (El1 N k0_ k_) from by kernel_rfl).trans (by simp only [ql1 N k0_ k_]; rfl)
theorem ql0 (N : Nat) : ∀ k_, El0 N k_ = Z1q N k_
 | 0 => by kernel_rfl
 | k_ + 1 => (show El0 N (k_ + 1) = Z4w N (El1 N k_ N) (El0 N k_) from by kernel_rfl).trans (by simp only [ql1, ql0 N k_]; rfl)
noncomputable def eE : EnTryz := ⟨48, sG, [.v i64, .v ty14, .v ty14, .v ty0], _, Z1v N, pk1 .bool, enK Tryz.func48 (by kernel_rfl),
 fun n l p s => eok (eS N) (by kernel_rfl) Tryz.func48 rfl N an_ rfl (Y4 .bool) (.trans (b := Z7n N (El0 N N) n l p s) (by kernel_rfl) (by rw [ql0]; rfl))⟩
end Z1v
namespace Z25
def sG := sgV [.val i64, .val ty14, .val ty14] [(ty15, .dp)]
noncomputable def eS : List EnTryz := [Z1v.eE N, Z11.eE N]
def an_ : Nat -> Option (List Nat)
 | 0 => some [0, 1, 2, 7, 8, 9]
 | _ => none
noncomputable def lP (p : List Dir) (rs : List (Env -> Option L0)) (k : Nat) (env : Env) : Option L0 :=
 lpES (eS N) N an_ p Tryz.f24 (endK Tb sG Tryz.f24 [] (un1 ty15)) rs k env
noncomputable def El1 (k_ : Nat) (n3 : Int) (l3 : E0) (p3 : E0) (outx : I0) (out2 : L0) (all2 : L0) (i2 : Int) : Option L0 :=
 lP N [.r, .r, .r, .l, .r, .b] [] k_ (.con .val [lf i64 n3 .ro] :: (.con .val [lf ty14 l3 .ro] :: (.con .val [lf ty14 p3 .ro] :: (un 4 (.sel 8 0 67 3 i64 outx out2 :: (.con .val [lf ty15 all2 .dp] :: (.con .val [lf i64 i2 .ro] :: (un 26 []))))))))
noncomputable def El0 (k_ : Nat) (n2 : Int) (l2 : E0) (p2 : E0) (out : L0) (all : L0) (i : Int) : Option L0 :=
 lP N [.r, .r, .r, .l, .r, .b] [] k_ (.con .val [lf i64 n2 .ro] :: (.con .val [lf ty14 l2 .ro] :: (.con .val [lf ty14 p2 .ro] :: (un 4 (.con .val [lf ty15 out .dp] :: (.con .val [lf ty15 all .dp] :: (.con .val [lf i64 i .ro] :: (un 26 []))))))))
theorem ql1 (N : Nat) : ∀ k_, El1 N k_ = Z2a N k_
 | 0 => by kernel_rfl
 | k_ + 1 => (show El1 N (k_ + 1) = Z54 N (El1 N k_) from by kernel_rfl).trans (by simp only [ql1 N k_]; rfl)
theorem ql0 (N : Nat) : ∀ k_, El0 N k_ = Z2b N k_
 | 0 => by kernel_rfl
 | k_ + 1 => (show El0 N (k_ + 1) = Z55 N (El1 N k_) (El0 N k_) from by kernel_rfl).trans (by simp only [ql1, ql0 N k_]; rfl)
noncomputable def eE : EnTryz := ⟨24, sG, [.v i64, .v ty14, .v ty14], _, Z25 N, pk1 ty15, enK Tryz.func24 (by kernel_rfl),
 fun n l p => eokS (eS N) (by kernel_rfl) Tryz.func24 rfl N an_ rfl (Y4 ty15) (.trans (b := Z63 N (El0 N N) n l p) (by kernel_rfl) (by rw [ql0]; rfl))⟩
end Z25
namespace Z2c
def sG := sgV [.val ty10, .val ty12, .val ty14] [(ty15, .dp)]
noncomputable def eS : List EnTryz := [Z0g.eE N, Z3n.eE N, Z25.eE N]
noncomputable def eE : EnTryz := ⟨7, sG, [.v ty10, .v ty12, .v ty14], _, Z2c N, pk1 ty15, enK Tryz.func7 (by kernel_rfl),
 fun d l p => eok (eS N) (by kernel_rfl) Tryz.func7 rfl N an0 rfl (Y4 ty15) (by kernel_rfl)⟩
end Z2c
namespace Z0a
def sG := sgV [.val i64, .val i64, .val i64] [(.bool, .dp)]
noncomputable def eS (N : Nat) : List EnTryz := []
noncomputable def eE : EnTryz := ⟨80, sG, [.v i64, .v i64, .v i64], _, Z0a N, pk1 .bool, enK Tryz.func80 (by kernel_rfl),
 fun n low high => eok (eS N) (by kernel_rfl) Tryz.func80 rfl N an0 rfl (Y4 .bool) (by kernel_rfl)⟩
end Z0a
namespace Z2y
def sG := sgV [.val ty1] [(.bool, .dp)]
noncomputable def eS : List EnTryz := [Z0a.eE N]
noncomputable def eE : EnTryz := ⟨79, sG, [.v ty1], _, Z2y N, pk1 .bool, enK Tryz.func79 (by kernel_rfl),
 fun relation => eok (eS N) (by kernel_rfl) Tryz.func79 rfl N an0 rfl (Y4 .bool) (by kernel_rfl)⟩
end Z2y
namespace Z1y
def sG := sgV [.val ty8] [(.bool, .dp)]
noncomputable def eS : List EnTryz := [Z2y.eE N]
def an_ : Nat -> Option (List Nat)
 | 0 => some [0, 5, 6, 7]
 | _ => none
noncomputable def lP (p : List Dir) (rs : List (Env -> Option (Bool))) (k : Nat) (env : Env) : Option (Bool) :=
 lpE (eS N) N an_ p Tryz.f53 (endK Tb sG Tryz.f53 [] (un1 .bool)) rs k env
noncomputable def El0 (k_ : Nat) (relations2 : R0) (t5 : R0) (t6 : Int) (t7 : Int) : Option (Bool) :=
 lP N [.r, .l, .r, .b] [] k_ (.con .val [lf ty8 relations2 .ro] :: (un 4 (.con .val [lf ty8 t5 .ro] :: (.con .val [lf i64 t6 .ro] :: (.con .val [lf i64 t7 .ro] :: (un 26 []))))))
theorem ql0 (N : Nat) : ∀ k_, El0 N k_ = Z26 N k_
 | 0 => by kernel_rfl
 | k_ + 1 => (show El0 N (k_ + 1) = Z40 N (El0 N k_) from by kernel_rfl).trans (by simp only [ql0 N k_]; rfl)
noncomputable def eE : EnTryz := ⟨53, sG, [.v ty8], _, Z1y N, pk1 .bool, enK Tryz.func53 (by kernel_rfl),
 fun relations => eok (eS N) (by kernel_rfl) Tryz.func53 rfl N an_ rfl (Y4 .bool) (.trans (b := Z6z N (El0 N N) relations) (by kernel_rfl) (by rw [ql0]; rfl))⟩
end Z1y
namespace Z5f
def sG := sgV [.val i64] [(.bool, .dp)]
noncomputable def eS : List EnTryz := [Z0a.eE N]
noncomputable def eE : EnTryz := ⟨101, sG, [.v i64], _, Z5f N, pk1 .bool, enK Tryz.func101 (by kernel_rfl),
 fun v => eok (eS N) (by kernel_rfl) Tryz.func101 rfl N an0 rfl (Y4 .bool) (by kernel_rfl)⟩
end Z5f
namespace Z0j
def sG := sgV [.val ty0, .clo] [(i64, .dp)]
noncomputable def eS : List EnTryz := [Z5f.eE N]
def an_ : Nat -> Option (List Nat)
 | 0 => some [0, 1, 7, 8]
 | _ => none
noncomputable def lP (p : List Dir) (rs : List (Env -> Option (Int))) (k : Nat) (env : Env) : Option (Int) :=
 lpE (eS N) N an_ p Tryz.f109 (endK Tb sG Tryz.f109 [] (un1 i64)) rs k env
noncomputable def El0 (k_ : Nat) (s2 : I0) (t7 : Int) (t8 : Int) : Option (Int) :=
 lP N [.r, .l, .r, .b] [] k_ (.con .val [lf ty0 s2 .ro] :: (.cloR 101 [] :: (un 5 (.con .val [lf i64 t7 .ro] :: (.con .val [lf i64 t8 .ro] :: (un 10 []))))))
theorem ql0 (N : Nat) : ∀ k_, El0 N k_ = Z0e N k_
 | 0 => by kernel_rfl
 | k_ + 1 => (show El0 N (k_ + 1) = Z15 N (El0 N k_) from by kernel_rfl).trans (by simp only [ql0 N k_]; rfl)
noncomputable def eE : EnTryz := ⟨109, sG, [.v ty0, .c 101 []], _, Z0j N, pk1 i64, enK Tryz.func109 (by kernel_rfl),
 fun s => eok (eS N) (by kernel_rfl) Tryz.func109 rfl N an_ rfl (Y4 i64) (.trans (b := Z2z N (El0 N N) s) (by kernel_rfl) (by rw [ql0]; rfl))⟩
end Z0j
namespace Z0f
def sG := sgV [.val ty0, .clo] [(.bool, .dp)]
noncomputable def eS : List EnTryz := [Z0j.eE N]
noncomputable def eE : EnTryz := ⟨91, sG, [.v ty0, .c 101 []], _, Z0f N, pk1 .bool, enK Tryz.func91 (by kernel_rfl),
 fun s => eok (eS N) (by kernel_rfl) Tryz.func91 rfl N an0 rfl (Y4 .bool) (by kernel_rfl)⟩
end Z0f
namespace Z5s
def sG := sgV [.val ty0] [(.bool, .dp)]
noncomputable def eS : List EnTryz := [Z0f.eE N]
noncomputable def eE : EnTryz := ⟨81, sG, [.v ty0], _, Z5s N, pk1 .bool, enK Tryz.func81 (by kernel_rfl),
 fun list => eok (eS N) (by kernel_rfl) Tryz.func81 rfl N an0 rfl (Y4 .bool) (by kernel_rfl)⟩
end Z5s
namespace Z7o
def sG := sgV [.val ty8, .val ty3] [(.bool, .dp)]
noncomputable def eS : List EnTryz := [Z0a.eE N, Z5s.eE N]
noncomputable def eE : EnTryz := ⟨54, sG, [.v ty8, .v ty3], _, Z7o N, pk1 .bool, enK Tryz.func54 (by kernel_rfl),
 fun relations fact => eok (eS N) (by kernel_rfl) Tryz.func54 rfl N an0 rfl (Y4 .bool) (by kernel_rfl)⟩
end Z7o
namespace Z82
def sG := sgV [.val i64, .val i64] [(i64, .dp)]
noncomputable def eS (N : Nat) : List EnTryz := []
noncomputable def eE : EnTryz := ⟨82, sG, [.v i64, .v i64], _, Z82 N, pk1 i64, enK Tryz.func82 (by kernel_rfl),
 fun a b => eok (eS N) (by kernel_rfl) Tryz.func82 rfl N an0 rfl (Y4 i64) (by kernel_rfl)⟩
end Z82
namespace Z6l
def sG := sgV [.val i64] [(.bool, .dp)]
noncomputable def eS (N : Nat) : List EnTryz := []
noncomputable def eE : EnTryz := ⟨110, sG, [.v i64], _, Z6l N, pk1 .bool, enK Tryz.func110 (by kernel_rfl),
 fun x => eok (eS N) (by kernel_rfl) Tryz.func110 rfl N an0 rfl (Y4 .bool) (by kernel_rfl)⟩
end Z6l
namespace Z56
def sG := sgV [.val i64, .val i64] [(i64, .dp)]
noncomputable def eS : List EnTryz := [Z6l.eE N]
noncomputable def eE : EnTryz := ⟨102, sG, [.v i64, .v i64], _, Z56 N, pk1 i64, enK Tryz.func102 (by kernel_rfl),
 fun x y => eok (eS N) (by kernel_rfl) Tryz.func102 rfl N an0 rfl (Y4 i64) (by kernel_rfl)⟩
end Z56
namespace Z1r
def sG := sgV [.val ty0, .val ty0] [(i64, .dp)]
noncomputable def eS : List EnTryz := [Z56.eE N]
def an_ : Nat -> Option (List Nat)
 | 0 => some [0, 1, 9, 10, 11]
 | _ => none
noncomputable def lP (p : List Dir) (rs : List (Env -> Option (Int))) (k : Nat) (env : Env) : Option (Int) :=
 lpE (eS N) N an_ p Tryz.f83 (endK Tb sG Tryz.f83 [] (un1 i64)) rs k env
noncomputable def El0 (k_ : Nat) (s12 : I0) (s22 : I0) (t9 : I0) (t10 : Int) (t11 : Int) : Option (Int) :=
 lP N [.r, .l, .r, .b] [] k_ (.con .val [lf ty0 s12 .ro] :: (.con .val [lf ty0 s22 .ro] :: (un 7 (.con .val [lf ty0 t9 .ro] :: (.con .val [lf i64 t10 .ro] :: (.con .val [lf i64 t11 .ro] :: (un 24 [])))))))
theorem ql0 (N : Nat) : ∀ k_, El0 N k_ = Z19 N k_
 | 0 => by kernel_rfl
 | k_ + 1 => (show El0 N (k_ + 1) = Z2d N (El0 N k_) from by kernel_rfl).trans (by simp only [ql0 N k_]; rfl)
noncomputable def eE : EnTryz := ⟨83, sG, [.v ty0, .v ty0], _, Z1r N, pk1 i64, enK Tryz.func83 (by kernel_rfl),
 fun s1 s2 => eok (eS N) (by kernel_rfl) Tryz.func83 rfl N an_ rfl (Y4 i64) (.trans (b := Z6p N (El0 N N) s1 s2) (by kernel_rfl) (by rw [ql0]; rfl))⟩
end Z1r
namespace Z3u
def sG := sgV [.val ty3, .val ty3] [(i64, .dp)]
noncomputable def eS : List EnTryz := [Z82.eE N, Z1r.eE N]
noncomputable def eE : EnTryz := ⟨55, sG, [.v ty3, .v ty3], _, Z3u N, pk1 i64, enK Tryz.func55 (by kernel_rfl),
 fun a b => eok (eS N) (by kernel_rfl) Tryz.func55 rfl N an0 rfl (Y4 i64) (by kernel_rfl)⟩
end Z3u
namespace Z0u
def sG := sgV [.val ty10] [(.bool, .dp)]
noncomputable def eS : List EnTryz := [Z7o.eE N, Z3u.eE N, Z1y.eE N]
def an_ : Nat -> Option (List Nat)
 | 0 => some [1, 16, 17, 18]
 | _ => none
noncomputable def lP (p : List Dir) (rs : List (Env -> Option (Bool))) (k : Nat) (env : Env) : Option (Bool) :=
 lpE (eS N) N an_ p Tryz.f30 (endK Tb sG Tryz.f30 [] (un1 .bool)) rs k env
noncomputable def El0 (k_ : Nat) (db2 : R0) (db3 : A0) (t16 : A0) (t17 : Int) (t18 : Int) : Option (Bool) :=
 lP N [.r, .r, .l, .r, .b] [] k_ (un 1 (.con (.box ⟨36, false, []⟩) [lf ty8 db2 .ro, lf ty9 db3 .ro] :: (un 14 (.con .val [lf ty9 t16 .ro] :: (.con .val [lf i64 t17 .ro] :: (.con .val [lf i64 t18 .ro] :: (un 25 [])))))))
theorem ql0 (N : Nat) : ∀ k_, El0 N k_ = Z2t N k_
 | 0 => by kernel_rfl
 | k_ + 1 => (show El0 N (k_ + 1) = Z4x N (El0 N k_) from by kernel_rfl).trans (by simp only [ql0 N k_]; rfl)
noncomputable def eE : EnTryz := ⟨30, sG, [.v ty10], _, Z0u N, pk1 .bool, enK Tryz.func30 (by kernel_rfl),
 fun db => eok (eS N) (by kernel_rfl) Tryz.func30 rfl N an_ rfl (Y4 .bool) (.trans (b := Z7p N (El0 N N) db) (by kernel_rfl) (by rw [ql0]; rfl))⟩
end Z0u
namespace Z1z
def sG := sgV [.val ty10, .val ty11] [(.bool, .dp)]
noncomputable def eS : List EnTryz := [Z0u.eE N, Z0a.eE N]
noncomputable def eE : EnTryz := ⟨95, sG, [.v ty10, .v ty11], _, Z1z N, pk1 .bool, enK Tryz.func95 (by kernel_rfl),
 fun db constraint => eok (eS N) (by kernel_rfl) Tryz.func95 rfl N an0 rfl (Y4 .bool) (by kernel_rfl)⟩
end Z1z
namespace Z7e
def sG := sgV [.val ty11, .val ty3, .val ty3] [(.bool, .dp)]
noncomputable def eS (N : Nat) : List EnTryz := []
noncomputable def eE : EnTryz := ⟨96, sG, [.v ty11, .v ty3, .v ty3], _, Z7e N, pk1 .bool, enK Tryz.func96 (by kernel_rfl),
 fun c a b => eok (eS N) (by kernel_rfl) Tryz.func96 rfl N an0 rfl (Y4 .bool) (by kernel_rfl)⟩
end Z7e
namespace Z1c
def sG := sgV [.val ty10, .val ty11, .val i64, .val i64] [(.bool, .dp)]
noncomputable def eS : List EnTryz := [Z1z.eE N, Z0a.eE N, Z7e.eE N]
noncomputable def eE : EnTryz := ⟨60, sG, [.v ty10, .v ty11, .v i64, .v i64], _, Z1c N, pk1 .bool, enK Tryz.func60 (by kernel_rfl),
 fun db constraint first second => eok (eS N) (by kernel_rfl) Tryz.func60 rfl N an0 rfl (Y4 .bool) (by kernel_rfl)⟩
end Z1c
namespace Z2f
def sG := sgV [.val ty0, .val ty0] [(.bool, .dp)]
noncomputable def eS (N : Nat) : List EnTryz := []
def an_ : Nat -> Option (List Nat)
 | 0 => some [0, 1, 12, 13]
 | _ => none
noncomputable def lP (p : List Dir) (rs : List (Env -> Option (Bool))) (k : Nat) (env : Env) : Option (Bool) :=
 lpE (eS N) N an_ p Tryz.f97 (endK Tb sG Tryz.f97 [] (un1 .bool)) rs k env
noncomputable def El0 (k_ : Nat) (s12 : I0) (s22 : I0) (t12 : Int) (t13 : Int) : Option (Bool) :=
 lP N [.r, .r, .l, .r, .b] [] k_ (.con .val [lf ty0 s12 .ro] :: (.con .val [lf ty0 s22 .ro] :: (un 10 (.con .val [lf i64 t12 .ro] :: (.con .val [lf i64 t13 .ro] :: (un 12 []))))))
theorem ql0 (N : Nat) : ∀ k_, El0 N k_ = Z2e N k_
 | 0 => by kernel_rfl
 | k_ + 1 => (show El0 N (k_ + 1) = Z4f N (El0 N k_) from by kernel_rfl).trans (by simp only [ql0 N k_]; rfl)
noncomputable def eE : EnTryz := ⟨97, sG, [.v ty0, .v ty0], _, Z2f N, pk1 .bool, enK Tryz.func97 (by kernel_rfl),
 fun s1 s2 => eok (eS N) (by kernel_rfl) Tryz.func97 rfl N an_ rfl (Y4 .bool) (.trans (b := Z79 N (El0 N N) s1 s2) (by kernel_rfl) (by rw [ql0]; rfl))⟩
end Z2f
namespace Z70
def sG := sgV [.val ty8, .val ty3, .val ty3] [(.bool, .dp)]
noncomputable def eS : List EnTryz := [Z2f.eE N]
noncomputable def eE : EnTryz := ⟨61, sG, [.v ty8, .v ty3, .v ty3], _, Z70 N, pk1 .bool, enK Tryz.func61 (by kernel_rfl),
 fun relations a b => eok (eS N) (by kernel_rfl) Tryz.func61 rfl N an0 rfl (Y4 .bool) (by kernel_rfl)⟩
end Z70
namespace Z2h
def sG := sgV [.val i64, .val i64, .ptr ty12, .ptr ty10] [(.bool, .dp)]
noncomputable def eS : List EnTryz := [Z1c.eE N, Z70.eE N]
def an_ : Nat -> Option (List Nat)
 | 0 => some [0, 1, 3, 9, 10, 11]
 | _ => none
noncomputable def lP (p : List Dir) (rs : List (Env -> Option (Bool))) (k : Nat) (env : Env) : Option (Bool) :=
 lpE (eS N) N an_ p Tryz.f59 (endK Tb sG Tryz.f59 [] (un1 .bool)) rs k env
noncomputable def El0 (k_ : Nat) (a2 : Int) (b2 : Int) (t3 : R0) (t32 : A0) (t9 : List C0) (t10 : Int) (t11 : Int) : Option (Bool) :=
 lP N [.r, .l, .r, .b] [] k_ (.con .val [lf i64 a2 .ro] :: (.con .val [lf i64 b2 .ro] :: (un 1 (.eptr [lf ty8 t3 .ro, lf ty9 t32 .ro] none :: (un 5 (.con .val [lf ty12 t9 .ro] :: (.con .val [lf i64 t10 .ro] :: (.con .val [lf i64 t11 .ro] :: (un 29 [])))))))))
theorem ql0 (N : Nat) : ∀ k_, El0 N k_ = Z2g N k_
 | 0 => by kernel_rfl
 | k_ + 1 => (show El0 N (k_ + 1) = Z4g N (El0 N k_) from by kernel_rfl).trans (by simp only [ql0 N k_]; rfl)
noncomputable def eE : EnTryz := ⟨59, sG, [.v i64, .v i64, .p ty12, .p ty10], _, Z2h N, pk1 .bool, enK Tryz.func59 (by kernel_rfl),
 fun a b c2 c3 => eok (eS N) (by kernel_rfl) Tryz.func59 rfl N an_ rfl (Y4 .bool) (.trans (b := Z7a N (El0 N N) a b c2 c3) (by kernel_rfl) (by rw [ql0]; rfl))⟩
end Z2h
namespace Z1n
def sG := sgV [.val i64, .clo] [(ty14, .dp)]
noncomputable def eS : List EnTryz := [Z2h.eE N]
def an_ : Nat -> Option (List Nat)
 | 0 => some [0, 1, 5, 9, 10]
 | 2 => some [0, 1, 5, 6, 7, 9, 10]
 | _ => none
noncomputable def lP (p : List Dir) (rs : List (Env -> Option E0)) (k : Nat) (env : Env) : Option E0 :=
 lpE (eS N) N an_ p Tryz.f58 (endK Tb sG Tryz.f58 [] (un1 ty14)) rs k env
noncomputable def El1 (k0_ : Nat) (k_ : Nat) (n3 : Int) (holds3 : List C0) (holds4 : D0) (out2 : E0) (a : Int) (b : Int) (t92 : Int) (t102 : Int) : Option E0 :=
 lP N [.r, .r, .l, .r, .b, .b, .r, .r, .l, .b, .r, .r, .b] [lP N [.r, .r, .l, .r, .b] [] k0_] k_ (.con .val [lf i64 n3 .ro] :: (.cloR 59 [⟨ty12, holds3⟩, ⟨ty10, holds4⟩] :: (un 3 (.con .val [lf ty14 out2 .dp] :: (.con .val [lf i64 a .ro] :: (.con .val [lf i64 b .ro] :: (un 1 (.con .val [lf i64 t92 .ro] :: (.con .val [lf i64 t102 .ro] :: (un 21 []))))))))))
noncomputable def El0 (k_ : Nat) (n2 : Int) (holds : List C0) (holds2 : D0) (out : E0) (t9 : Int) (t10 : Int) : Option E0 :=
 lP N [.r, .r, .l, .r, .b] [] k_ (.con .val [lf i64 n2 .ro] :: (.cloR 59 [⟨ty12, holds⟩, ⟨ty10, holds2⟩] :: (un 3 (.con .val [lf ty14 out .dp] :: (un 3 (.con .val [lf i64 t9 .ro] :: (.con .val [lf i64 t10 .ro] :: (un 21 []))))))))
theorem ql1 (N : Nat) (k0_ : Nat) : ∀ k_, El1 N k0_ k_ = Z0v (El0 N k0_) N k_
 | 0 => by kernel_rfl
 | k_ + 1 => (show El1 N k0_ (k_ + 1) = Z30 N (El0 N k0_) (El1 N k0_ k_) from by kernel_rfl).trans (by simp only [ql1 N k0_ k_]; rfl)
theorem ql0 (N : Nat) : ∀ k_, El0 N k_ = Z0w N k_
 | 0 => by kernel_rfl
 | k_ + 1 => (show El0 N (k_ + 1) = Z31 N (El1 N k_ N) (El0 N k_) from by kernel_rfl).trans (by simp only [ql1, ql0 N k_]; rfl)
noncomputable def eE : EnTryz := ⟨58, sG, [.v i64, .c 59 [ty12, ty10]], _, Z1n N, pk1 ty14, enK Tryz.func58 (by kernel_rfl),
 fun n c c2 => eok (eS N) (by kernel_rfl) Tryz.func58 rfl N an_ rfl (Y4 ty14) (.trans (b := Z5j N (El0 N N) n c c2) (by kernel_rfl) (by rw [ql0]; rfl))⟩
end Z1n
namespace Z3o
def sG := sgV [.val ty10, .val ty12] [(ty14, .dp)]
noncomputable def eS : List EnTryz := [Z0u.eE N, Z1n.eE N]
noncomputable def eE : EnTryz := ⟨32, sG, [.v ty10, .v ty12], _, Z3o N, pk1 ty14, enK Tryz.func32 (by kernel_rfl),
 fun db constraints => eok (eS N) (by kernel_rfl) Tryz.func32 rfl N an0 rfl (Y4 ty14) (by kernel_rfl)⟩
end Z3o
namespace Z12
def sG := sgV [.val i64, .val ty14] [(.bool, .dp)]
noncomputable def eS : List EnTryz := [Z0a.eE N]
def an_ : Nat -> Option (List Nat)
 | 0 => some [0, 1, 10, 11, 12]
 | _ => none
noncomputable def lP (p : List Dir) (rs : List (Env -> Option (Bool))) (k : Nat) (env : Env) : Option (Bool) :=
 lpE (eS N) N an_ p Tryz.f84 (endK Tb sG Tryz.f84 [] (un1 .bool)) rs k env
noncomputable def El0 (k_ : Nat) (n2 : Int) (edges2 : E0) (t10 : E0) (t11 : Int) (t12 : Int) : Option (Bool) :=
 lP N [.r, .r, .l, .r, .b] [] k_ (.con .val [lf i64 n2 .ro] :: (.con .val [lf ty14 edges2 .ro] :: (un 8 (.con .val [lf ty14 t10 .ro] :: (.con .val [lf i64 t11 .ro] :: (.con .val [lf i64 t12 .ro] :: (un 58 [])))))))
theorem ql0 (N : Nat) : ∀ k_, El0 N k_ = Z3g N k_
 | 0 => by kernel_rfl
 | k_ + 1 => (show El0 N (k_ + 1) = Z5o N (El0 N k_) from by kernel_rfl).trans (by simp only [ql0 N k_]; rfl)
noncomputable def eE : EnTryz := ⟨84, sG, [.v i64, .v ty14], _, Z12 N, pk1 .bool, enK Tryz.func84 (by kernel_rfl),
 fun n edges => eok (eS N) (by kernel_rfl) Tryz.func84 rfl N an_ rfl (Y4 .bool) (.trans (b := Z89 N (El0 N N) n edges) (by kernel_rfl) (by rw [ql0]; rfl))⟩
end Z12
namespace Z57
def sG := sgV [.val ty0, .val i64] [(.bool, .dp)]
noncomputable def eS : List EnTryz := [Z0a.eE N]
def an_ : Nat -> Option (List Nat)
 | 0 => some [0, 1, 7, 8, 9]
 | _ => none
noncomputable def lP (p : List Dir) (rs : List (Env -> Option (Bool))) (k : Nat) (env : Env) : Option (Bool) :=
 lpE (eS N) N an_ p Tryz.f111 (endK Tb sG Tryz.f111 [] (un1 .bool)) rs k env
noncomputable def El0 (k_ : Nat) (indices2 : I0) (n2 : Int) (t7 : I0) (t8 : Int) (t9 : Int) : Option (Bool) :=
 lP N [.r, .l, .r, .b] [] k_ (.con .val [lf ty0 indices2 .ro] :: (.con .val [lf i64 n2 .ro] :: (un 5 (.con .val [lf ty0 t7 .ro] :: (.con .val [lf i64 t8 .ro] :: (.con .val [lf i64 t9 .ro] :: (un 23 [])))))))
theorem ql0 (N : Nat) : ∀ k_, El0 N k_ = Z4s N k_
 | 0 => by kernel_rfl
 | k_ + 1 => (show El0 N (k_ + 1) = Z6q N (El0 N k_) from by kernel_rfl).trans (by simp only [ql0 N k_]; rfl)
noncomputable def eE : EnTryz := ⟨111, sG, [.v ty0, .v i64], _, Z57 N, pk1 .bool, enK Tryz.func111 (by kernel_rfl),
 fun indices n => eok (eS N) (by kernel_rfl) Tryz.func111 rfl N an_ rfl (Y4 .bool) (.trans (b := Z8n N (El0 N N) indices n) (by kernel_rfl) (by rw [ql0]; rfl))⟩
end Z57
namespace Z3h
def sG := sgV [.val ty0, .val i64] [(i64, .dp)]
noncomputable def eS (N : Nat) : List EnTryz := []
def an_ : Nat -> Option (List Nat)
 | 0 => some [0, 1, 7, 8]
 | _ => none
noncomputable def lP (p : List Dir) (rs : List (Env -> Option (Int))) (k : Nat) (env : Env) : Option (Int) :=
 lpE (eS N) N an_ p Tryz.f108 (endK Tb sG Tryz.f108 [] (un1 i64)) rs k env
noncomputable def El0 (k_ : Nat) (s2 : I0) (v2 : Int) (t7 : Int) (t8 : Int) : Option (Int) :=
 lP N [.r, .l, .r, .b] [] k_ (.con .val [lf ty0 s2 .ro] :: (.con .val [lf i64 v2 .ro] :: (un 5 (.con .val [lf i64 t7 .ro] :: (.con .val [lf i64 t8 .ro] :: (un 10 []))))))
theorem ql0 (N : Nat) : ∀ k_, El0 N k_ = Z2i N k_
 | 0 => by kernel_rfl
 | k_ + 1 => (show El0 N (k_ + 1) = Z4h N (El0 N k_) from by kernel_rfl).trans (by simp only [ql0 N k_]; rfl)
noncomputable def eE : EnTryz := ⟨108, sG, [.v ty0, .v i64], _, Z3h N, pk1 i64, enK Tryz.func108 (by kernel_rfl),
 fun s v => eok (eS N) (by kernel_rfl) Tryz.func108 rfl N an_ rfl (Y4 i64) (.trans (b := Z7b N (El0 N N) s v) (by kernel_rfl) (by rw [ql0]; rfl))⟩
end Z3h
namespace Z5
def sG := sgV [.val ty0, .val i64] [(.bool, .dp)]
noncomputable def eS : List EnTryz := [Z3h.eE N]
noncomputable def eE : EnTryz := ⟨90, sG, [.v ty0, .v i64], _, Z5 N, pk1 .bool, enK Tryz.func90 (by kernel_rfl),
 fun s v => eok (eS N) (by kernel_rfl) Tryz.func90 rfl N an0 rfl (Y4 .bool) (by kernel_rfl)⟩
end Z5
namespace Z3i
def sG := sgV [.val ty13, .ptr ty0] [(.bool, .dp)]
noncomputable def eS : List EnTryz := [Z5.eE N]
noncomputable def eE : EnTryz := ⟨105, sG, [.v ty13, .p ty0], _, Z3i N, pk1 .bool, enK Tryz.func105 (by kernel_rfl),
 fun e c1 => eok (eS N) (by kernel_rfl) Tryz.func105 rfl N an0 rfl (Y4 .bool) (by kernel_rfl)⟩
end Z3i
namespace Z3
def sG := sgV [.val ty14, .clo] [(i64, .dp)]
noncomputable def eS : List EnTryz := [Z3i.eE N]
def an_ : Nat -> Option (List Nat)
 | 0 => some [0, 1, 7, 8]
 | _ => none
noncomputable def lP (p : List Dir) (rs : List (Env -> Option (Int))) (k : Nat) (env : Env) : Option (Int) :=
 lpE (eS N) N an_ p Tryz.f112 (endK Tb sG Tryz.f112 [] (un1 i64)) rs k env
noncomputable def El0 (k_ : Nat) (s2 : E0) (f : I0) (t7 : Int) (t8 : Int) : Option (Int) :=
 lP N [.r, .l, .r, .b] [] k_ (.con .val [lf ty14 s2 .ro] :: (.cloR 105 [⟨ty0, f⟩] :: (un 5 (.con .val [lf i64 t7 .ro] :: (.con .val [lf i64 t8 .ro] :: (un 10 []))))))
theorem ql0 (N : Nat) : ∀ k_, El0 N k_ = Z1 N k_
 | 0 => by kernel_rfl
 | k_ + 1 => (show El0 N (k_ + 1) = Z8 N (El0 N k_) from by kernel_rfl).trans (by simp only [ql0 N k_]; rfl)
noncomputable def eE : EnTryz := ⟨112, sG, [.v ty14, .c 105 [ty0]], _, Z3 N, pk1 i64, enK Tryz.func112 (by kernel_rfl),
 fun s c => eok (eS N) (by kernel_rfl) Tryz.func112 rfl N an_ rfl (Y4 i64) (.trans (b := Z0r N (El0 N N) s c) (by kernel_rfl) (by rw [ql0]; rfl))⟩
end Z3
namespace Z2
def sG := sgV [.val ty14, .clo] [(.bool, .dp)]
noncomputable def eS : List EnTryz := [Z3.eE N]
noncomputable def eE : EnTryz := ⟨104, sG, [.v ty14, .c 105 [ty0]], _, Z2 N, pk1 .bool, enK Tryz.func104 (by kernel_rfl),
 fun s c => eok (eS N) (by kernel_rfl) Tryz.func104 rfl N an0 rfl (Y4 .bool) (by kernel_rfl)⟩
end Z2
namespace Z13
def sG := sgV [.val ty14, .val ty0] [(.bool, .dp)]
noncomputable def eS : List EnTryz := [Z2.eE N]
noncomputable def eE : EnTryz := ⟨88, sG, [.v ty14, .v ty0], _, Z13 N, pk1 .bool, enK Tryz.func88 (by kernel_rfl),
 fun edges set => eok (eS N) (by kernel_rfl) Tryz.func88 rfl N an0 rfl (Y4 .bool) (by kernel_rfl)⟩
end Z13
namespace Z3j
def sG := sgV [.val i64, .val ty14, .val ty0] [(.bool, .dp)]
noncomputable def eS : List EnTryz := [Z12.eE N, Z57.eE N, Z13.eE N]
noncomputable def eE : EnTryz := ⟨103, sG, [.v i64, .v ty14, .v ty0], _, Z3j N, pk1 .bool, enK Tryz.func103 (by kernel_rfl),
 fun n edges set => eok (eS N) (by kernel_rfl) Tryz.func103 rfl N an0 rfl (Y4 .bool) (by kernel_rfl)⟩
end Z3j
namespace Z0q
def sG := sgV [.val i64, .val ty14, .val ty0] [(.bool, .dp)]
noncomputable def eS : List EnTryz := [Z5.eE N, Z8m N, Z13.eE N, Z3j.eE N]
def an_ : Nat -> Option (List Nat)
 | 0 => some [1, 2, 13, 14]
 | _ => none
noncomputable def lP (p : List Dir) (rs : List (Env -> Option (Bool))) (k : Nat) (env : Env) : Option (Bool) :=
 lpE (eS N) N an_ p Tryz.f86 (endK Tb sG Tryz.f86 [] (un1 .bool)) rs k env
noncomputable def El0 (k_ : Nat) (edges2 : E0) (set2 : I0) (t13 : Int) (t14 : Int) : Option (Bool) :=
 lP N [.r, .r, .l, .r, .b] [] k_ (un 1 (.con .val [lf ty14 edges2 .ro] :: (.con .val [lf ty0 set2 .ro] :: (un 10 (.con .val [lf i64 t13 .ro] :: (.con .val [lf i64 t14 .ro] :: (un 16 [])))))))
theorem ql0 (N : Nat) : ∀ k_, El0 N k_ = Z1h N k_
 | 0 => by kernel_rfl
 | k_ + 1 => (show El0 N (k_ + 1) = Z3c N (El0 N k_) from by kernel_rfl).trans (by simp only [ql0 N k_]; rfl)
noncomputable def eE : EnTryz := ⟨86, sG, [.v i64, .v ty14, .v ty0], _, Z0q N, pk1 .bool, enK Tryz.func86 (by kernel_rfl),
 fun n edges set => eok (eS N) (by kernel_rfl) Tryz.func86 rfl N an_ rfl (Y4 .bool) (.trans (b := Z64 N (El0 N N) n edges set) (by kernel_rfl) (by rw [ql0]; rfl))⟩
end Z0q
namespace Z17
def bX : BoxSig := ⟨4, 31, [.dp]⟩
def sG : Sig := ⟨[.val i64, .val ty0, .ptr i64, .ptr ty14, .ptr ty15, .self], [], false, false, some bX, none⟩
theorem eN : Enterable Tryz.prog 85 := Y6i Tryz.func85 (code := Tryz.f85.body.getD .skip) (by kernel_rfl) (by kernel_rfl)
noncomputable def eS (Rf : Int -> I0 -> Int -> E0 -> L0 -> Int -> E0 -> Option L0) (hR : OkP (Option L0) [.v i64, .v ty0, .p i64, .p ty14, .p ty15, .s 85 [.ro i64, .ro ty14, .pin, .self]] Rf (fun xs_ q => ∀ x, q = some x -> FnOk Tryz.prog 85 sG xs_ (pk1 ty15 x))) : List EnTryz := [Z0q.eE N, Z8m N, Z13.eE N, ⟨85, sG, [.v i64, .v ty0, .p i64, .p ty14, .p ty15, .s 85 [.ro i64, .ro ty14, .pin, .self]], L0, Rf, pk1 ty15, eN, hR⟩]
theorem vV (Rf : Int -> I0 -> Int -> E0 -> L0 -> Int -> E0 -> Option L0) (hR : OkP (Option L0) [.v i64, .v ty0, .p i64, .p ty14, .p ty15, .s 85 [.ro i64, .ro ty14, .pin, .self]] Rf (fun xs_ q => ∀ x, q = some x -> FnOk Tryz.prog 85 sG xs_ (pk1 ty15 x))) (v : Int) (set : I0) (c2 : Int) (c3 : E0) (c4 : L0) (sc2 : Int) (sc3 : E0) :
  evB (eS N Rf hR) N an0 sG bX Tryz.f85 [.val i64 v, .val ty0 set, .ptr i64 c2, .ptr ty14 c3, .ptr ty15 c4, .fptr 85 [.ro ⟨i64, sc2⟩, .ro ⟨ty14, sc3⟩, .pin, .self]] (un1 ty15) = Z32 N Rf v set c2 c3 c4 sc2 sc3 := by kernel_rfl
theorem oK (N : Nat) : ∀ k_, OkP (Option L0) [.v i64, .v ty0, .p i64, .p ty14, .p ty15, .s 85 [.ro i64, .ro ty14, .pin, .self]] (Z0m N k_) (fun xs_ q => ∀ x, q = some x -> FnOk Tryz.prog 85 sG xs_ (pk1 ty15 x))
 | 0 => fun v set c2 c3 c4 sc2 sc3 =>  fun x h => absurd (show (none : Option L0) = some x from h) (by simp)
 | k_ + 1 => fun v set c2 c3 c4 sc2 sc3 => Yc7 tab_ok (es := eS N (Z0m N k_) (oK N k_)) (by kernel_rfl) mixed Tryz.func85 (by kernel_rfl) rfl rfl (fun _ => ⟨_, _, rfl⟩) (Y4 ty15) (vV N _ _ v set c2 c3 c4 sc2 sc3)
noncomputable def eE : EnTryz := ⟨85, sG, [.v i64, .v ty0, .p i64, .p ty14, .p ty15, .s 85 [.ro i64, .ro ty14, .pin, .self]], L0, Z17 N, pk1 ty15, eN, oK N N⟩
end Z17
namespace Z14
def sG := sgV [.val i64, .val ty14] [(ty15, .dp)]
noncomputable def eS : List EnTryz := [Z12.eE N, Z17.eE N]
noncomputable def eE : EnTryz := ⟨56, sG, [.v i64, .v ty14], _, Z14 N, pk1 ty15, enK Tryz.func56 (by kernel_rfl),
 fun n edges => eok (eS N) (by kernel_rfl) Tryz.func56 rfl N an0 rfl (Y4 ty15) (by kernel_rfl)⟩
end Z14
namespace Z0i
def sG := sgV [.val ty14, .val ty13] [(i64, .dp)]
noncomputable def eS (N : Nat) : List EnTryz := []
def an_ : Nat -> Option (List Nat)
 | 0 => some [0, 3, 7, 8]
 | _ => none
noncomputable def lP (p : List Dir) (rs : List (Env -> Option (Int))) (k : Nat) (env : Env) : Option (Int) :=
 lpE (eS N) N an_ p Tryz.f113 (endK Tb sG Tryz.f113 [] (un1 i64)) rs k env
noncomputable def El0 (k_ : Nat) (s2 : E0) (v2 : Int) (v3 : Int) (t7 : Int) (t8 : Int) : Option (Int) :=
 lP N [.r, .l, .r, .b] [] k_ (.con .val [lf ty14 s2 .ro] :: (un 2 (.con (.box ⟨63, false, []⟩) [lf i64 v2 .ro, lf i64 v3 .ro] :: (un 3 (.con .val [lf i64 t7 .ro] :: (.con .val [lf i64 t8 .ro] :: (un 10 [])))))))
theorem ql0 (N : Nat) : ∀ k_, El0 N k_ = Z0d N k_
 | 0 => by kernel_rfl
 | k_ + 1 => (show El0 N (k_ + 1) = Z0z N (El0 N k_) from by kernel_rfl).trans (by simp only [ql0 N k_]; rfl)
noncomputable def eE : EnTryz := ⟨113, sG, [.v ty14, .v ty13], _, Z0i N, pk1 i64, enK Tryz.func113 (by kernel_rfl),
 fun s v => eok (eS N) (by kernel_rfl) Tryz.func113 rfl N an_ rfl (Y4 i64) (.trans (b := Z2n N (El0 N N) s v) (by kernel_rfl) (by rw [ql0]; rfl))⟩
end Z0i
namespace Z0
def sG := sgV [.val ty14, .val ty13] [(.bool, .dp)]
noncomputable def eS : List EnTryz := [Z0i.eE N]
noncomputable def eE : EnTryz := ⟨106, sG, [.v ty14, .v ty13], _, Z0 N, pk1 .bool, enK Tryz.func106 (by kernel_rfl),
 fun s v => eok (eS N) (by kernel_rfl) Tryz.func106 rfl N an0 rfl (Y4 .bool) (by kernel_rfl)⟩
end Z0
namespace Z33
def sG := sgV [.val ty14, .val i64, .val i64] [(.bool, .dp)]
noncomputable def eS : List EnTryz := [Z0.eE N]
noncomputable def eE : EnTryz := ⟨94, sG, [.v ty14, .v i64, .v i64], _, Z33 N, pk1 .bool, enK Tryz.func94 (by kernel_rfl),
 fun preferences a b => eok (eS N) (by kernel_rfl) Tryz.func94 rfl N an0 rfl (Y4 .bool) (by kernel_rfl)⟩
end Z33
namespace Z48
def sG := sgV [.val i64, .ptr ty14, .ptr i64] [(.bool, .dp)]
noncomputable def eS : List EnTryz := [Z33.eE N]
noncomputable def eE : EnTryz := ⟨116, sG, [.v i64, .p ty14, .p i64], _, Z48 N, pk1 .bool, enK Tryz.func116 (by kernel_rfl),
 fun a c1 c2 => eok (eS N) (by kernel_rfl) Tryz.func116 rfl N an0 rfl (Y4 .bool) (by kernel_rfl)⟩
end Z48
namespace Z0h
def sG := sgV [.val ty0, .clo] [(i64, .dp)]
noncomputable def eS : List EnTryz := [Z48.eE N]
def an_ : Nat -> Option (List Nat)
 | 0 => some [0, 1, 7, 8]
 | _ => none
noncomputable def lP (p : List Dir) (rs : List (Env -> Option (Int))) (k : Nat) (env : Env) : Option (Int) :=
 lpE (eS N) N an_ p Tryz.f109 (endK Tb sG Tryz.f109 [] (un1 i64)) rs k env
noncomputable def El0 (k_ : Nat) (s2 : I0) (f : E0) (f2 : Int) (t7 : Int) (t8 : Int) : Option (Int) :=
 lP N [.r, .l, .r, .b] [] k_ (.con .val [lf ty0 s2 .ro] :: (.cloR 116 [⟨ty14, f⟩, ⟨i64, f2⟩] :: (un 5 (.con .val [lf i64 t7 .ro] :: (.con .val [lf i64 t8 .ro] :: (un 10 []))))))
theorem ql0 (N : Nat) : ∀ k_, El0 N k_ = Z0c N k_
 | 0 => by kernel_rfl
 | k_ + 1 => (show El0 N (k_ + 1) = Z0x N (El0 N k_) from by kernel_rfl).trans (by simp only [ql0 N k_]; rfl)
noncomputable def eE : EnTryz := ⟨109, sG, [.v ty0, .c 116 [ty14, i64]], _, Z0h N, pk1 i64, enK Tryz.func109 (by kernel_rfl),
 fun s c c2 => eok (eS N) (by kernel_rfl) Tryz.func109 rfl N an_ rfl (Y4 i64) (.trans (b := Z2j N (El0 N N) s c c2) (by kernel_rfl) (by rw [ql0]; rfl))⟩
end Z0h
namespace Z6
def sG := sgV [.val ty0, .clo] [(.bool, .dp)]
noncomputable def eS : List EnTryz := [Z0h.eE N]
noncomputable def eE : EnTryz := ⟨91, sG, [.v ty0, .c 116 [ty14, i64]], _, Z6 N, pk1 .bool, enK Tryz.func91 (by kernel_rfl),
 fun s c c2 => eok (eS N) (by kernel_rfl) Tryz.func91 rfl N an0 rfl (Y4 .bool) (by kernel_rfl)⟩
end Z6
namespace Z4o
def sG := sgV [.val ty14, .val ty0] [(ty0, .dp)]
noncomputable def eS : List EnTryz := [Z6.eE N]
def an_ : Nat -> Option (List Nat)
 | 0 => some [1, 2, 5, 9, 10, 11]
 | _ => none
noncomputable def lP (p : List Dir) (rs : List (Env -> Option I0)) (k : Nat) (env : Env) : Option I0 :=
 lpE (eS N) N an_ p Tryz.f115 (endK Tb sG Tryz.f115 [] (un1 ty0)) rs k env
noncomputable def El0 (k_ : Nat) (left_2 : I0) (preferences2 : E0) (out : I0) (t9 : I0) (t10 : Int) (t11 : Int) : Option I0 :=
 lP N [.r, .r, .l, .r, .b] [] k_ (un 1 (.con .val [lf ty0 left_2 .ro] :: (.con (.box ⟨40, false, []⟩) [lf ty14 preferences2 .ro] :: (un 2 (.con .val [lf ty0 out .dp] :: (un 3 (.con .val [lf ty0 t9 .ro] :: (.con .val [lf i64 t10 .ro] :: (.con .val [lf i64 t11 .ro] :: (un 13 []))))))))))
theorem ql0 (N : Nat) : ∀ k_, El0 N k_ = Z49 N k_
 | 0 => by kernel_rfl
 | k_ + 1 => (show El0 N (k_ + 1) = Z6f N (El0 N k_) from by kernel_rfl).trans (by simp only [ql0 N k_]; rfl)
noncomputable def eE : EnTryz := ⟨115, sG, [.v ty14, .v ty0], _, Z4o N, pk1 ty0, enK Tryz.func115 (by kernel_rfl),
 fun preferences left_ => eok (eS N) (by kernel_rfl) Tryz.func115 rfl N an_ rfl (Y4 ty0) (.trans (b := Z8k N (El0 N N) preferences left_) (by kernel_rfl) (by rw [ql0]; rfl))⟩
end Z4o
namespace Z71
def sG := sgV [.val ty0, .val ty0] [(ty0, .dp)]
noncomputable def eS : List EnTryz := [Z5.eE N]
def an_ : Nat -> Option (List Nat)
 | 0 => some [1, 5, 9, 10, 11]
 | _ => none
noncomputable def lP (p : List Dir) (rs : List (Env -> Option I0)) (k : Nat) (env : Env) : Option I0 :=
 lpE (eS N) N an_ p Tryz.f114 (endK Tb sG Tryz.f114 [] (un1 ty0)) rs k env
noncomputable def El0 (k_ : Nat) (b2 : I0) (out : I0) (t9 : I0) (t10 : Int) (t11 : Int) : Option I0 :=
 lP N [.r, .r, .l, .r, .b] [] k_ (un 1 (.con .val [lf ty0 b2 .ro] :: (un 3 (.con .val [lf ty0 out .dp] :: (un 3 (.con .val [lf ty0 t9 .ro] :: (.con .val [lf i64 t10 .ro] :: (.con .val [lf i64 t11 .ro] :: (un 13 [])))))))))
theorem ql0 (N : Nat) : ∀ k_, El0 N k_ = Z6g N k_
 | 0 => by kernel_rfl
 | k_ + 1 => (show El0 N (k_ + 1) = Z7y N (El0 N k_) from by kernel_rfl).trans (by simp only [ql0 N k_]; rfl)
noncomputable def eE : EnTryz := ⟨114, sG, [.v ty0, .v ty0], _, Z71 N, pk1 ty0, enK Tryz.func114 (by kernel_rfl),
 fun a b => eok (eS N) (by kernel_rfl) Tryz.func114 rfl N an_ rfl (Y4 ty0) (.trans (b := Z99 N (El0 N N) a b) (by kernel_rfl) (by rw [ql0]; rfl))⟩
end Z71
namespace Z58
def sG := sgV [.val i64, .val ty14] [(.bool, .dp)]
noncomputable def eS : List EnTryz := [Z4o.eE N, Z71.eE N]
def an_ : Nat -> Option (List Nat)
 | 0 => some [1, 5, 9, 10]
 | 2 => some [1, 5]
 | _ => none
noncomputable def lP (p : List Dir) (rs : List (Env -> Option (Bool))) (k : Nat) (env : Env) : Option (Bool) :=
 lpE (eS N) N an_ p Tryz.f107 (endK Tb sG Tryz.f107 [] (un1 .bool)) rs k env
noncomputable def El1 (k_ : Nat) (preferences3 : E0) (left_2 : I0) : Option (Bool) :=
 lP N [.r, .r, .r, .l, .b] [] k_ (un 1 (.con .val [lf ty14 preferences3 .ro] :: (un 3 (.con .val [lf ty0 left_2 .dp] :: (un 26 [])))))
noncomputable def El0 (k_ : Nat) (preferences2 : E0) (left_ : I0) (t9 : Int) (t10 : Int) : Option (Bool) :=
 lP N [.r, .r, .l, .r, .b] [] k_ (un 1 (.con .val [lf ty14 preferences2 .ro] :: (un 3 (.con .val [lf ty0 left_ .dp] :: (un 3 (.con .val [lf i64 t9 .ro] :: (.con .val [lf i64 t10 .ro] :: (un 21 []))))))))
theorem ql1 (N : Nat) : ∀ k_, El1 N k_ = Z2o N k_
 | 0 => by kernel_rfl
 | k_ + 1 => (show El1 N (k_ + 1) = Z6r N (El1 N k_) from by kernel_rfl).trans (by simp only [ql1 N k_]; rfl)
theorem ql0 (N : Nat) : ∀ k_, El0 N k_ = Z65 N k_
 | 0 => by kernel_rfl
 | k_ + 1 => (show El0 N (k_ + 1) = Z8a N (El1 N N) (El0 N k_) from by kernel_rfl).trans (by simp only [ql1, ql0 N k_]; rfl)
noncomputable def eE : EnTryz := ⟨107, sG, [.v i64, .v ty14], _, Z58 N, pk1 .bool, enK Tryz.func107 (by kernel_rfl),
 fun n preferences => eok (eS N) (by kernel_rfl) Tryz.func107 rfl N an_ rfl (Y4 .bool) (.trans (b := Z8o N (El0 N N) n preferences) (by kernel_rfl) (by rw [ql0]; rfl))⟩
end Z58
namespace Z20
def sG := sgV [.val i64, .val ty14, .val ty14] [(.bool, .dp)]
noncomputable def eS : List EnTryz := [Z0.eE N, Z58.eE N, Z12.eE N]
def an_ : Nat -> Option (List Nat)
 | 0 => some [0, 1, 2, 13, 14, 15]
 | _ => none
noncomputable def lP (p : List Dir) (rs : List (Env -> Option (Bool))) (k : Nat) (env : Env) : Option (Bool) :=
 lpE (eS N) N an_ p Tryz.f89 (endK Tb sG Tryz.f89 [] (un1 .bool)) rs k env
noncomputable def El0 (k_ : Nat) (n2 : Int) (edges2 : E0) (preferences2 : E0) (t13 : E0) (t14 : Int) (t15 : Int) : Option (Bool) :=
 lP N [.r, .r, .l, .r, .b] [] k_ (.con .val [lf i64 n2 .ro] :: (.con .val [lf ty14 edges2 .ro] :: (.con .val [lf ty14 preferences2 .ro] :: (un 10 (.con .val [lf ty14 t13 .ro] :: (.con .val [lf i64 t14 .ro] :: (.con .val [lf i64 t15 .ro] :: (un 21 []))))))))
theorem ql0 (N : Nat) : ∀ k_, El0 N k_ = Z27 N k_
 | 0 => by kernel_rfl
 | k_ + 1 => (show El0 N (k_ + 1) = Z41 N (El0 N k_) from by kernel_rfl).trans (by simp only [ql0 N k_]; rfl)
noncomputable def eE : EnTryz := ⟨89, sG, [.v i64, .v ty14, .v ty14], _, Z20 N, pk1 .bool, enK Tryz.func89 (by kernel_rfl),
 fun n edges preferences => eok (eS N) (by kernel_rfl) Tryz.func89 rfl N an_ rfl (Y4 .bool) (.trans (b := Z72 N (El0 N N) n edges preferences) (by kernel_rfl) (by rw [ql0]; rfl))⟩
end Z20
namespace Z59
def sG := sgV [.val ty14, .val i64, .val i64] [(.bool, .dp)]
noncomputable def eS : List EnTryz := [Z0.eE N]
noncomputable def eE : EnTryz := ⟨93, sG, [.v ty14, .v i64, .v i64], _, Z59 N, pk1 .bool, enK Tryz.func93 (by kernel_rfl),
 fun edges a b => eok (eS N) (by kernel_rfl) Tryz.func93 rfl N an0 rfl (Y4 .bool) (by kernel_rfl)⟩
end Z59
namespace Z2u
def sG := sgV [.val i64, .ptr ty14, .ptr i64, .ptr ty14] [(.bool, .dp)]
noncomputable def eS : List EnTryz := [Z59.eE N, Z33.eE N]
noncomputable def eE : EnTryz := ⟨92, sG, [.v i64, .p ty14, .p i64, .p ty14], _, Z2u N, pk1 .bool, enK Tryz.func92 (by kernel_rfl),
 fun own c1 c2 c3 => eok (eS N) (by kernel_rfl) Tryz.func92 rfl N an0 rfl (Y4 .bool) (by kernel_rfl)⟩
end Z2u
namespace Z0b
def sG := sgV [.val ty0, .clo] [(i64, .dp)]
noncomputable def eS : List EnTryz := [Z2u.eE N]
def an_ : Nat -> Option (List Nat)
 | 0 => some [0, 1, 7, 8]
 | _ => none
noncomputable def lP (p : List Dir) (rs : List (Env -> Option (Int))) (k : Nat) (env : Env) : Option (Int) :=
 lpE (eS N) N an_ p Tryz.f109 (endK Tb sG Tryz.f109 [] (un1 i64)) rs k env
noncomputable def El0 (k_ : Nat) (s2 : I0) (f : E0) (f2 : Int) (f3 : E0) (t7 : Int) (t8 : Int) : Option (Int) :=
 lP N [.r, .l, .r, .b] [] k_ (.con .val [lf ty0 s2 .ro] :: (.cloR 92 [⟨ty14, f⟩, ⟨i64, f2⟩, ⟨ty14, f3⟩] :: (un 5 (.con .val [lf i64 t7 .ro] :: (.con .val [lf i64 t8 .ro] :: (un 10 []))))))
theorem ql0 (N : Nat) : ∀ k_, El0 N k_ = Z7 N k_
 | 0 => by kernel_rfl
 | k_ + 1 => (show El0 N (k_ + 1) = Z0s N (El0 N k_) from by kernel_rfl).trans (by simp only [ql0 N k_]; rfl)
noncomputable def eE : EnTryz := ⟨109, sG, [.v ty0, .c 92 [ty14, i64, ty14]], _, Z0b N, pk1 i64, enK Tryz.func109 (by kernel_rfl),
 fun s c c2 c3 => eok (eS N) (by kernel_rfl) Tryz.func109 rfl N an_ rfl (Y4 i64) (.trans (b := Z1s N (El0 N N) s c c2 c3) (by kernel_rfl) (by rw [ql0]; rfl))⟩
end Z0b
namespace Z4
def sG := sgV [.val ty0, .clo] [(.bool, .dp)]
noncomputable def eS : List EnTryz := [Z0b.eE N]
noncomputable def eE : EnTryz := ⟨91, sG, [.v ty0, .c 92 [ty14, i64, ty14]], _, Z4 N, pk1 .bool, enK Tryz.func91 (by kernel_rfl),
 fun s c c2 c3 => eok (eS N) (by kernel_rfl) Tryz.func91 rfl N an0 rfl (Y4 .bool) (by kernel_rfl)⟩
end Z4
namespace Z1w
def sG := sgV [.val i64, .val ty14, .val ty14, .val ty0] [(.bool, .dp)]
noncomputable def eS : List EnTryz := [Z5.eE N, Z4.eE N, Z20.eE N, Z0q.eE N]
def an_ : Nat -> Option (List Nat)
 | 0 => some [3, 5, 6, 22, 23]
 | _ => none
noncomputable def lP (p : List Dir) (rs : List (Env -> Option (Bool))) (k : Nat) (env : Env) : Option (Bool) :=
 lpE (eS N) N an_ p Tryz.f57 (endK Tb sG Tryz.f57 [] (un1 .bool)) rs k env
noncomputable def El0 (k_ : Nat) (set2 : I0) (edges2 : E0) (preferences2 : E0) (t22 : Int) (t23 : Int) : Option (Bool) :=
 lP N [.r, .r, .l, .r, .b] [] k_ (un 3 (.con .val [lf ty0 set2 .ro] :: (un 1 (.con (.box ⟨40, false, []⟩) [lf ty14 edges2 .ro] :: (.con (.box ⟨40, false, []⟩) [lf ty14 preferences2 .ro] :: (un 15 (.con .val [lf i64 t22 .ro] :: (.con .val [lf i64 t23 .ro] :: (un 13 [])))))))))
theorem ql0 (N : Nat) : ∀ k_, El0 N k_ = Z2v N k_
 | 0 => by kernel_rfl
 | k_ + 1 => (show El0 N (k_ + 1) = Z4y N (El0 N k_) from by kernel_rfl).trans (by simp only [ql0 N k_]; rfl)
noncomputable def eE : EnTryz := ⟨57, sG, [.v i64, .v ty14, .v ty14, .v ty0], _, Z1w N, pk1 .bool, enK Tryz.func57 (by kernel_rfl),
 fun n edges preferences set => eok (eS N) (by kernel_rfl) Tryz.func57 rfl N an_ rfl (Y4 .bool) (.trans (b := Z7r N (El0 N N) n edges preferences set) (by kernel_rfl) (by rw [ql0]; rfl))⟩
end Z1w
namespace Z28
def sG := sgV [.val i64, .val ty14, .val ty14] [(ty15, .dp)]
noncomputable def eS : List EnTryz := [Z1w.eE N, Z14.eE N]
def an_ : Nat -> Option (List Nat)
 | 0 => some [0, 1, 2, 7, 13, 14, 15]
 | _ => none
noncomputable def lP (p : List Dir) (rs : List (Env -> Option L0)) (k : Nat) (env : Env) : Option L0 :=
 lpES (eS N) N an_ p Tryz.f31 (endK Tb sG Tryz.f31 [] (un1 ty15)) rs k env
noncomputable def El1 (k_ : Nat) (n3 : Int) (edges3 : E0) (preferences3 : E0) (outx : I0) (out2 : L0) (t132 : L0) (t142 : Int) (t152 : Int) : Option L0 :=
 lP N [.r, .r, .l, .r, .b] [] k_ (.con .val [lf i64 n3 .ro] :: (.con .val [lf ty14 edges3 .ro] :: (.con .val [lf ty14 preferences3 .ro] :: (un 4 (.sel 13 0 67 3 i64 outx out2 :: (un 5 (.con .val [lf ty15 t132 .dp] :: (.con .val [lf i64 t142 .ro] :: (.con .val [lf i64 t152 .ro] :: (un 14 []))))))))))
noncomputable def El0 (k_ : Nat) (n2 : Int) (edges2 : E0) (preferences2 : E0) (out : L0) (t13 : L0) (t14 : Int) (t15 : Int) : Option L0 :=
 lP N [.r, .r, .l, .r, .b] [] k_ (.con .val [lf i64 n2 .ro] :: (.con .val [lf ty14 edges2 .ro] :: (.con .val [lf ty14 preferences2 .ro] :: (un 4 (.con .val [lf ty15 out .dp] :: (un 5 (.con .val [lf ty15 t13 .dp] :: (.con .val [lf i64 t14 .ro] :: (.con .val [lf i64 t15 .ro] :: (un 14 []))))))))))
theorem ql1 (N : Nat) : ∀ k_, El1 N k_ = Z2k N k_
 | 0 => by kernel_rfl
 | k_ + 1 => (show El1 N (k_ + 1) = Z5a N (El1 N k_) from by kernel_rfl).trans (by simp only [ql1 N k_]; rfl)
theorem ql0 (N : Nat) : ∀ k_, El0 N k_ = Z2l N k_
 | 0 => by kernel_rfl
 | k_ + 1 => (show El0 N (k_ + 1) = Z5b N (El1 N k_) (El0 N k_) from by kernel_rfl).trans (by simp only [ql1, ql0 N k_]; rfl)
noncomputable def eE : EnTryz := ⟨31, sG, [.v i64, .v ty14, .v ty14], _, Z28 N, pk1 ty15, enK Tryz.func31 (by kernel_rfl),
 fun n edges preferences => eokS (eS N) (by kernel_rfl) Tryz.func31 rfl N an_ rfl (Y4 ty15) (.trans (b := Z66 N (El0 N N) n edges preferences) (by kernel_rfl) (by rw [ql0]; rfl))⟩
end Z28
namespace Z1o
def sG := sgV [.val ty10, .val ty12, .val ty14] [(ty15, .dp)]
noncomputable def eS : List EnTryz := [Z0u.eE N, Z3o.eE N, Z28.eE N]
noncomputable def eE : EnTryz := ⟨11, sG, [.v ty10, .v ty12, .v ty14], _, Z1o N, pk1 ty15, enK Tryz.func11 (by kernel_rfl),
 fun db constraints preferences => eok (eS N) (by kernel_rfl) Tryz.func11 rfl N an0 rfl (Y4 ty15) (by kernel_rfl)⟩
end Z1o
namespace Z60
def sG := sgV [.val ty0, .val ty0] [(.bool, .dp)]
noncomputable def eS (N : Nat) : List EnTryz := []
def an_ : Nat -> Option (List Nat)
 | 0 => some [0, 1, 5]
 | _ => none
noncomputable def lP (p : List Dir) (rs : List (Env -> Option (Bool))) (k : Nat) (env : Env) : Option (Bool) :=
 lpE (eS N) N an_ p Tryz.f33 (endK Tb sG Tryz.f33 [] (un1 .bool)) rs k env
noncomputable def El0 (k_ : Nat) (a2 : I0) (b2 : I0) (i : Int) : Option (Bool) :=
 lP N [.r, .r, .l, .r, .b] [] k_ (.con .val [lf ty0 a2 .ro] :: (.con .val [lf ty0 b2 .ro] :: (un 3 (.con .val [lf i64 i .ro] :: (un 20 [])))))
theorem ql0 (N : Nat) : ∀ k_, El0 N k_ = Z6u N k_
 | 0 => by kernel_rfl
 | k_ + 1 => (show El0 N (k_ + 1) = Z8b N (El0 N k_) from by kernel_rfl).trans (by simp only [ql0 N k_]; rfl)
noncomputable def eE : EnTryz := ⟨33, sG, [.v ty0, .v ty0], _, Z60 N, pk1 .bool, enK Tryz.func33 (by kernel_rfl),
 fun a b => eok (eS N) (by kernel_rfl) Tryz.func33 rfl N an_ rfl (Y4 .bool) (.trans (b := Z9o N (El0 N N) a b) (by kernel_rfl) (by rw [ql0]; rfl))⟩
end Z60
namespace Z5c
def sG := sgV [.val ty15, .val ty15] [(.bool, .dp)]
noncomputable def eS : List EnTryz := [Z60.eE N]
def an_ : Nat -> Option (List Nat)
 | 0 => some [0, 1, 5]
 | _ => none
noncomputable def lP (p : List Dir) (rs : List (Env -> Option (Bool))) (k : Nat) (env : Env) : Option (Bool) :=
 lpE (eS N) N an_ p Tryz.f12 (endK Tb sG Tryz.f12 [] (un1 .bool)) rs k env
noncomputable def El0 (k_ : Nat) (a2 : L0) (b2 : L0) (i : Int) : Option (Bool) :=
 lP N [.r, .r, .l, .r, .b] [] k_ (.con .val [lf ty15 a2 .ro] :: (.con .val [lf ty15 b2 .ro] :: (un 3 (.con .val [lf i64 i .ro] :: (un 21 [])))))
theorem ql0 (N : Nat) : ∀ k_, El0 N k_ = Z6h N k_
 | 0 => by kernel_rfl
 | k_ + 1 => (show El0 N (k_ + 1) = Z7z N (El0 N k_) from by kernel_rfl).trans (by simp only [ql0 N k_]; rfl)
noncomputable def eE : EnTryz := ⟨12, sG, [.v ty15, .v ty15], _, Z5c N, pk1 .bool, enK Tryz.func12 (by kernel_rfl),
 fun a b => eok (eS N) (by kernel_rfl) Tryz.func12 rfl N an_ rfl (Y4 .bool) (.trans (b := Z9a N (El0 N N) a b) (by kernel_rfl) (by rw [ql0]; rfl))⟩
end Z5c
namespace Z5d
def sG := sgV [.val ty1, .val ty1] [(.bool, .dp)]
noncomputable def eS (N : Nat) : List EnTryz := []
noncomputable def eE : EnTryz := ⟨62, sG, [.v ty1, .v ty1], _, Z5d N, pk1 .bool, enK Tryz.func62 (by kernel_rfl),
 fun a b => eok (eS N) (by kernel_rfl) Tryz.func62 rfl N an0 rfl (Y4 .bool) (by kernel_rfl)⟩
end Z5d
namespace Z4p
def sG := sgV [.val ty8, .val ty8] [(.bool, .dp)]
noncomputable def eS : List EnTryz := [Z5d.eE N]
def an_ : Nat -> Option (List Nat)
 | 0 => some [0, 1, 5]
 | _ => none
noncomputable def lP (p : List Dir) (rs : List (Env -> Option (Bool))) (k : Nat) (env : Env) : Option (Bool) :=
 lpE (eS N) N an_ p Tryz.f34 (endK Tb sG Tryz.f34 [] (un1 .bool)) rs k env
noncomputable def El0 (k_ : Nat) (a2 : R0) (b2 : R0) (i : Int) : Option (Bool) :=
 lP N [.r, .r, .l, .r, .b] [] k_ (.con .val [lf ty8 a2 .ro] :: (.con .val [lf ty8 b2 .ro] :: (un 3 (.con .val [lf i64 i .ro] :: (un 21 [])))))
theorem ql0 (N : Nat) : ∀ k_, El0 N k_ = Z4a N k_
 | 0 => by kernel_rfl
 | k_ + 1 => (show El0 N (k_ + 1) = Z6i N (El0 N k_) from by kernel_rfl).trans (by simp only [ql0 N k_]; rfl)
noncomputable def eE : EnTryz := ⟨34, sG, [.v ty8, .v ty8], _, Z4p N, pk1 .bool, enK Tryz.func34 (by kernel_rfl),
 fun a b => eok (eS N) (by kernel_rfl) Tryz.func34 rfl N an_ rfl (Y4 .bool) (.trans (b := Z8l N (El0 N N) a b) (by kernel_rfl) (by rw [ql0]; rfl))⟩
end Z4p
namespace Z7s
def sG := sgV [.val ty3, .val ty3] [(.bool, .dp)]
noncomputable def eS : List EnTryz := [Z60.eE N]
noncomputable def eE : EnTryz := ⟨63, sG, [.v ty3, .v ty3], _, Z7s N, pk1 .bool, enK Tryz.func63 (by kernel_rfl),
 fun a b => eok (eS N) (by kernel_rfl) Tryz.func63 rfl N an0 rfl (Y4 .bool) (by kernel_rfl)⟩
end Z7s
namespace Z74
def sG := sgV [.val ty9, .val ty9] [(.bool, .dp)]
noncomputable def eS : List EnTryz := [Z7s.eE N]
def an_ : Nat -> Option (List Nat)
 | 0 => some [0, 1, 5]
 | _ => none
noncomputable def lP (p : List Dir) (rs : List (Env -> Option (Bool))) (k : Nat) (env : Env) : Option (Bool) :=
 lpE (eS N) N an_ p Tryz.f35 (endK Tb sG Tryz.f35 [] (un1 .bool)) rs k env
noncomputable def El0 (k_ : Nat) (a2 : A0) (b2 : A0) (i : Int) : Option (Bool) :=
 lP N [.r, .r, .l, .r, .b] [] k_ (.con .val [lf ty9 a2 .ro] :: (.con .val [lf ty9 b2 .ro] :: (un 3 (.con .val [lf i64 i .ro] :: (un 21 [])))))
theorem ql0 (N : Nat) : ∀ k_, El0 N k_ = Z6j N k_
 | 0 => by kernel_rfl
 | k_ + 1 => (show El0 N (k_ + 1) = Z80 N (El0 N k_) from by kernel_rfl).trans (by simp only [ql0 N k_]; rfl)
noncomputable def eE : EnTryz := ⟨35, sG, [.v ty9, .v ty9], _, Z74 N, pk1 .bool, enK Tryz.func35 (by kernel_rfl),
 fun a b => eok (eS N) (by kernel_rfl) Tryz.func35 rfl N an_ rfl (Y4 .bool) (.trans (b := Z9b N (El0 N N) a b) (by kernel_rfl) (by rw [ql0]; rfl))⟩
end Z74
namespace Z5e
def sG := sgV [.val ty10, .val ty10] [(.bool, .dp)]
noncomputable def eS : List EnTryz := [Z4p.eE N, Z74.eE N]
noncomputable def eE : EnTryz := ⟨13, sG, [.v ty10, .v ty10], _, Z5e N, pk1 .bool, enK Tryz.func13 (by kernel_rfl),
 fun a b => eok (eS N) (by kernel_rfl) Tryz.func13 rfl N an0 rfl (Y4 .bool) (by kernel_rfl)⟩
end Z5e
namespace Z1t
def sG := sgV [.val ty11, .val ty11] [(.bool, .dp)]
noncomputable def eS (N : Nat) : List EnTryz := []
noncomputable def eE : EnTryz := ⟨36, sG, [.v ty11, .v ty11], _, Z1t N, pk1 .bool, enK Tryz.func36 (by kernel_rfl),
 fun a b => eok (eS N) (by kernel_rfl) Tryz.func36 rfl N an0 rfl (Y4 .bool) (by kernel_rfl)⟩
end Z1t
namespace Z1j
def sG := sgV [.val ty12, .val ty12] [(.bool, .dp)]
noncomputable def eS : List EnTryz := [Z1t.eE N]
def an_ : Nat -> Option (List Nat)
 | 0 => some [0, 1, 5]
 | _ => none
noncomputable def lP (p : List Dir) (rs : List (Env -> Option (Bool))) (k : Nat) (env : Env) : Option (Bool) :=
 lpE (eS N) N an_ p Tryz.f14 (endK Tb sG Tryz.f14 [] (un1 .bool)) rs k env
noncomputable def El0 (k_ : Nat) (a2 : List C0) (b2 : List C0) (i : Int) : Option (Bool) :=
 lP N [.r, .r, .l, .r, .b] [] k_ (.con .val [lf ty12 a2 .ro] :: (.con .val [lf ty12 b2 .ro] :: (un 3 (.con .val [lf i64 i .ro] :: (un 21 [])))))
theorem ql0 (N : Nat) : ∀ k_, El0 N k_ = Z1p N k_
 | 0 => by kernel_rfl
 | k_ + 1 => (show El0 N (k_ + 1) = Z3m N (El0 N k_) from by kernel_rfl).trans (by simp only [ql0 N k_]; rfl)
noncomputable def eE : EnTryz := ⟨14, sG, [.v ty12, .v ty12], _, Z1j N, pk1 .bool, enK Tryz.func14 (by kernel_rfl),
 fun a b => eok (eS N) (by kernel_rfl) Tryz.func14 rfl N an_ rfl (Y4 .bool) (.trans (b := Z6m N (El0 N N) a b) (by kernel_rfl) (by rw [ql0]; rfl))⟩
end Z1j
namespace Z3a
def sG := sgV [.val ty13, .val ty13] [(.bool, .dp)]
noncomputable def eS (N : Nat) : List EnTryz := []
noncomputable def eE : EnTryz := ⟨37, sG, [.v ty13, .v ty13], _, Z3a N, pk1 .bool, enK Tryz.func37 (by kernel_rfl),
 fun a b => eok (eS N) (by kernel_rfl) Tryz.func37 rfl N an0 rfl (Y4 .bool) (by kernel_rfl)⟩
end Z3a
namespace Z34
def sG := sgV [.val ty14, .val ty14] [(.bool, .dp)]
noncomputable def eS : List EnTryz := [Z3a.eE N]
def an_ : Nat -> Option (List Nat)
 | 0 => some [0, 1, 5]
 | _ => none
noncomputable def lP (p : List Dir) (rs : List (Env -> Option (Bool))) (k : Nat) (env : Env) : Option (Bool) :=
 lpE (eS N) N an_ p Tryz.f15 (endK Tb sG Tryz.f15 [] (un1 .bool)) rs k env
noncomputable def El0 (k_ : Nat) (a2 : E0) (b2 : E0) (i : Int) : Option (Bool) :=
 lP N [.r, .r, .l, .r, .b] [] k_ (.con .val [lf ty14 a2 .ro] :: (.con .val [lf ty14 b2 .ro] :: (un 3 (.con .val [lf i64 i .ro] :: (un 21 [])))))
theorem ql0 (N : Nat) : ∀ k_, El0 N k_ = Z2w N k_
 | 0 => by kernel_rfl
 | k_ + 1 => (show El0 N (k_ + 1) = Z4z N (El0 N k_) from by kernel_rfl).trans (by simp only [ql0 N k_]; rfl)
noncomputable def eE : EnTryz := ⟨15, sG, [.v ty14, .v ty14], _, Z34 N, pk1 .bool, enK Tryz.func15 (by kernel_rfl),
 fun a b => eok (eS N) (by kernel_rfl) Tryz.func15 rfl N an_ rfl (Y4 .bool) (.trans (b := Z7t N (El0 N N) a b) (by kernel_rfl) (by rw [ql0]; rfl))⟩
end Z34
namespace Z3r
def sG := sgV [.val i64] [(.str, .dp)]
noncomputable def eS (N : Nat) : List EnTryz := []
def an_ : Nat -> Option (List Nat)
 | 0 => some [0, 3]
 | _ => none
noncomputable def lP (p : List Dir) (rs : List (Env -> Option (ByteArray))) (k : Nat) (env : Env) : Option (ByteArray) :=
 lpE (eS N) N an_ p Tryz.f64 (endK Tb sG Tryz.f64 [] (un1 .str)) rs k env
noncomputable def El0 (k_ : Nat) (k2 : Int) (out : ByteArray) : Option (ByteArray) :=
 lP N [.r, .r, .r, .l, .b] [] k_ (.con .val [lf i64 k2 .ro] :: (un 2 (.con .val [lf .str out .ro] :: (un 16 []))))
theorem ql0 (N : Nat) : ∀ k_, El0 N k_ = Z4q N k_
 | 0 => by kernel_rfl
 | k_ + 1 => (show El0 N (k_ + 1) = Z67 N (El0 N k_) from by kernel_rfl).trans (by simp only [ql0 N k_]; rfl)
noncomputable def eE : EnTryz := ⟨64, sG, [.v i64], _, Z3r N, pk1 .str, enK Tryz.func64 (by kernel_rfl),
 fun k => eok (eS N) (by kernel_rfl) Tryz.func64 rfl N an_ rfl (Y4 .str) (.trans (b := Z8v N (El0 N N) k) (by kernel_rfl) (by rw [ql0]; rfl))⟩
end Z3r
namespace Z3p
def sG : Sig := ⟨[.val ty8, .val i64], [(i64, .dp)], true, false, none, none⟩
noncomputable def eS : List EnTryz := [Z3r.eE N]
def an_ : Nat -> Option (List Nat)
 | 0 => some [0, 1, 5]
 | _ => none
noncomputable def lP (p : List Dir) (rs : List (Env -> Option (R0 × Int))) (k : Nat) (env : Env) : Option (R0 × Int) :=
 lpE (eS N) N an_ p Tryz.f38 (endK Tb sG Tryz.f38 [.val ty8 []] (un2 ty8 i64)) rs k env
noncomputable def El0 (k_ : Nat) (a2 : R0) (k2 : Int) (i : Int) : Option (R0 × Int) :=
 lP N [.r, .l, .r, .b] [] k_ (.con .val [⟨ty8, a2, (.at_ (.pn 0))⟩] :: (.con .val [lf i64 k2 .ro] :: (un 3 (.con .val [lf i64 i .ro] :: (un 29 [])))))
theorem ql0 (N : Nat) : ∀ k_, El0 N k_ = Z3k N k_
 | 0 => by kernel_rfl
 | k_ + 1 => (show El0 N (k_ + 1) = Z5p N (El0 N k_) from by kernel_rfl).trans (by simp only [ql0 N k_]; rfl)
theorem vV (a : R0) (k : Int) :
  evE (eS N) N an_ sG Tryz.f38 [.val ty8 a, .val i64 k] (un2 ty8 i64) = Z8c N (El0 N N) a k := by kernel_rfl
noncomputable def eE : EnTryz := ⟨38, sG, [.v ty8, .v i64], _, Z3p N, pk2 ty8 i64, enK Tryz.func38 (by kernel_rfl),
 fun a k => Y21 tab_ok (es := eS N) (by kernel_rfl) mixed Tryz.func38 (by kernel_rfl) ⟨⟨rfl, rfl⟩, rfl, rfl⟩ (fun _ => ⟨_, _, rfl⟩) (Y3v ty8 i64) ((vV N a k).trans (by rw [ql0]; rfl))⟩
end Z3p
namespace Z4i
def sG : Sig := ⟨[.val ty0, .val i64], [(i64, .dp)], true, false, none, none⟩
noncomputable def eS (N : Nat) : List EnTryz := []
def an_ : Nat -> Option (List Nat)
 | 0 => some [0, 1, 5]
 | _ => none
noncomputable def lP (p : List Dir) (rs : List (Env -> Option (List Int × Int))) (k : Nat) (env : Env) : Option (List Int × Int) :=
 lpE (eS N) N an_ p Tryz.f40 (endK Tb sG Tryz.f40 [.val ty0 []] (un2 ty0 i64)) rs k env
noncomputable def El0 (k_ : Nat) (a2 : I0) (k2 : Int) (i : Int) : Option (List Int × Int) :=
 lP N [.r, .l, .r, .b] [] k_ (.con .val [⟨ty0, a2, (.at_ (.pn 0))⟩] :: (.con .val [lf i64 k2 .ro] :: (un 3 (.con .val [lf i64 i .ro] :: (un 13 [])))))
theorem ql0 (N : Nat) : ∀ k_, El0 N k_ = Z5t N k_
 | 0 => by kernel_rfl
 | k_ + 1 => (show El0 N (k_ + 1) = Z7g N (El0 N k_) from by kernel_rfl).trans (by simp only [ql0 N k_]; rfl)
theorem vV (a : I0) (k : Int) :
  evE (eS N) N an_ sG Tryz.f40 [.val ty0 a, .val i64 k] (un2 ty0 i64) = Z8w N (El0 N N) a k := by kernel_rfl
noncomputable def eE : EnTryz := ⟨40, sG, [.v ty0, .v i64], _, Z4i N, pk2 ty0 i64, enK Tryz.func40 (by kernel_rfl),
 fun a k => Y21 tab_ok (es := eS N) (by kernel_rfl) mixed Tryz.func40 (by kernel_rfl) ⟨⟨rfl, rfl⟩, rfl, rfl⟩ (fun _ => ⟨_, _, rfl⟩) (Y3v ty0 i64) ((vV N a k).trans (by rw [ql0]; rfl))⟩
end Z4i
namespace Z5u
def sG : Sig := ⟨[.val ty9, .val i64], [(i64, .dp)], true, false, none, none⟩
noncomputable def eS : List EnTryz := [Z4i.eE N]
def an_ : Nat -> Option (List Nat)
 | 0 => some [0, 1, 5]
 | _ => none
noncomputable def lP (p : List Dir) (rs : List (Env -> Option (A0 × Int))) (k : Nat) (env : Env) : Option (A0 × Int) :=
 lpE (eS N) N an_ p Tryz.f39 (endK Tb sG Tryz.f39 [.val ty9 []] (un2 ty9 i64)) rs k env
noncomputable def El0 (k_ : Nat) (a2 : A0) (k2 : Int) (i : Int) : Option (A0 × Int) :=
 lP N [.r, .l, .r, .b] [] k_ (.con .val [⟨ty9, a2, (.at_ (.pn 0))⟩] :: (.con .val [lf i64 k2 .ro] :: (un 3 (.con .val [lf i64 i .ro] :: (un 21 [])))))
theorem ql0 (N : Nat) : ∀ k_, El0 N k_ = Z5g N k_
 | 0 => by kernel_rfl
 | k_ + 1 => (show El0 N (k_ + 1) = Z76 N (El0 N k_) from by kernel_rfl).trans (by simp only [ql0 N k_]; rfl)
theorem vV (a : A0) (k : Int) :
  evE (eS N) N an_ sG Tryz.f39 [.val ty9 a, .val i64 k] (un2 ty9 i64) = Z8q N (El0 N N) a k := by kernel_rfl
noncomputable def eE : EnTryz := ⟨39, sG, [.v ty9, .v i64], _, Z5u N, pk2 ty9 i64, enK Tryz.func39 (by kernel_rfl),
 fun a k => Y21 tab_ok (es := eS N) (by kernel_rfl) mixed Tryz.func39 (by kernel_rfl) ⟨⟨rfl, rfl⟩, rfl, rfl⟩ (fun _ => ⟨_, _, rfl⟩) (Y3v ty9 i64) ((vV N a k).trans (by rw [ql0]; rfl))⟩
end Z5u
namespace Z39
def sG : Sig := ⟨[.val ty10, .val i64], [(i64, .dp)], true, false, none, none⟩
noncomputable def eS : List EnTryz := [Z3p.eE N, Z5u.eE N]
theorem vV (a : D0) (k : Int) :
  evE (eS N) N an0 sG Tryz.f16 [.val ty10 a, .val i64 k] (un2 ty10 i64) = Z39 N a k := by kernel_rfl
noncomputable def eE : EnTryz := ⟨16, sG, [.v ty10, .v i64], _, Z39 N, pk2 ty10 i64, enK Tryz.func16 (by kernel_rfl),
 fun a k => Y21 tab_ok (es := eS N) (by kernel_rfl) mixed Tryz.func16 (by kernel_rfl) ⟨⟨rfl, rfl⟩, rfl, rfl⟩ (fun _ => ⟨_, _, rfl⟩) (Y3v ty10 i64) (vV N a k)⟩
end Z39
namespace Z1a
def sG : Sig := ⟨[.val ty12, .val i64], [(i64, .dp)], true, false, none, none⟩
noncomputable def eS (N : Nat) : List EnTryz := []
def an_ : Nat -> Option (List Nat)
 | 0 => some [0, 1, 5]
 | _ => none
noncomputable def lP (p : List Dir) (rs : List (Env -> Option ((List C0) × Int))) (k : Nat) (env : Env) : Option ((List C0) × Int) :=
 lpE (eS N) N an_ p Tryz.f17 (endK Tb sG Tryz.f17 [.val ty12 []] (un2 ty12 i64)) rs k env
noncomputable def El0 (k_ : Nat) (a2 : List C0) (k2 : Int) (i : Int) : Option ((List C0) × Int) :=
 lP N [.r, .l, .r, .b] [] k_ (.con .val [⟨ty12, a2, (.at_ (.pn 0))⟩] :: (.con .val [lf i64 k2 .ro] :: (un 3 (.con .val [lf i64 i .ro] :: (un 56 [])))))
theorem ql0 (N : Nat) : ∀ k_, El0 N k_ = Z1d N k_
 | 0 => by kernel_rfl
 | k_ + 1 => (show El0 N (k_ + 1) = Z38 N (El0 N k_) from by kernel_rfl).trans (by simp only [ql0 N k_]; rfl)
theorem vV (a : List C0) (k : Int) :
  evE (eS N) N an_ sG Tryz.f17 [.val ty12 a, .val i64 k] (un2 ty12 i64) = Z5v N (El0 N N) a k := by kernel_rfl
noncomputable def eE : EnTryz := ⟨17, sG, [.v ty12, .v i64], _, Z1a N, pk2 ty12 i64, enK Tryz.func17 (by kernel_rfl),
 fun a k => Y21 tab_ok (es := eS N) (by kernel_rfl) mixed Tryz.func17 (by kernel_rfl) ⟨⟨rfl, rfl⟩, rfl, rfl⟩ (fun _ => ⟨_, _, rfl⟩) (Y3v ty12 i64) ((vV N a k).trans (by rw [ql0]; rfl))⟩
end Z1a
namespace Z21
def sG : Sig := ⟨[.val ty14, .val i64], [(i64, .dp)], true, false, none, none⟩
noncomputable def eS (N : Nat) : List EnTryz := []
def an_ : Nat -> Option (List Nat)
 | 0 => some [0, 1, 5]
 | _ => none
noncomputable def lP (p : List Dir) (rs : List (Env -> Option (E0 × Int))) (k : Nat) (env : Env) : Option (E0 × Int) :=
 lpE (eS N) N an_ p Tryz.f18 (endK Tb sG Tryz.f18 [.val ty14 []] (un2 ty14 i64)) rs k env
noncomputable def El0 (k_ : Nat) (a2 : E0) (k2 : Int) (i : Int) : Option (E0 × Int) :=
 lP N [.r, .l, .r, .b] [] k_ (.con .val [⟨ty14, a2, (.at_ (.pn 0))⟩] :: (.con .val [lf i64 k2 .ro] :: (un 3 (.con .val [lf i64 i .ro] :: (un 21 [])))))
theorem ql0 (N : Nat) : ∀ k_, El0 N k_ = Z29 N k_
 | 0 => by kernel_rfl
 | k_ + 1 => (show El0 N (k_ + 1) = Z42 N (El0 N k_) from by kernel_rfl).trans (by simp only [ql0 N k_]; rfl)
theorem vV (a : E0) (k : Int) :
  evE (eS N) N an_ sG Tryz.f18 [.val ty14 a, .val i64 k] (un2 ty14 i64) = Z75 N (El0 N N) a k := by kernel_rfl
noncomputable def eE : EnTryz := ⟨18, sG, [.v ty14, .v i64], _, Z21 N, pk2 ty14 i64, enK Tryz.func18 (by kernel_rfl),
 fun a k => Y21 tab_ok (es := eS N) (by kernel_rfl) mixed Tryz.func18 (by kernel_rfl) ⟨⟨rfl, rfl⟩, rfl, rfl⟩ (fun _ => ⟨_, _, rfl⟩) (Y3v ty14 i64) ((vV N a k).trans (by rw [ql0]; rfl))⟩
end Z21
namespace Z5w
def sG : Sig := ⟨[.val ty15, .val i64], [(i64, .dp)], true, false, none, none⟩
noncomputable def eS : List EnTryz := [Z4i.eE N]
def an_ : Nat -> Option (List Nat)
 | 0 => some [0, 1, 5]
 | _ => none
noncomputable def lP (p : List Dir) (rs : List (Env -> Option (List I0 × Int))) (k : Nat) (env : Env) : Option (List I0 × Int) :=
 lpE (eS N) N an_ p Tryz.f19 (endK Tb sG Tryz.f19 [.val ty15 []] (un2 ty15 i64)) rs k env
noncomputable def El0 (k_ : Nat) (a2 : L0) (k2 : Int) (i : Int) : Option (List I0 × Int) :=
 lP N [.r, .l, .r, .b] [] k_ (.con .val [⟨ty15, a2, (.at_ (.pn 0))⟩] :: (.con .val [lf i64 k2 .ro] :: (un 3 (.con .val [lf i64 i .ro] :: (un 13 [])))))
theorem ql0 (N : Nat) : ∀ k_, El0 N k_ = Z5h N k_
 | 0 => by kernel_rfl
 | k_ + 1 => (show El0 N (k_ + 1) = Z77 N (El0 N k_) from by kernel_rfl).trans (by simp only [ql0 N k_]; rfl)
theorem vV (a : L0) (k : Int) :
  evE (eS N) N an_ sG Tryz.f19 [.val ty15 a, .val i64 k] (un2 ty15 i64) = Z8r N (El0 N N) a k := by kernel_rfl
noncomputable def eE : EnTryz := ⟨19, sG, [.v ty15, .v i64], _, Z5w N, pk2 ty15 i64, enK Tryz.func19 (by kernel_rfl),
 fun a k => Y21 tab_ok (es := eS N) (by kernel_rfl) mixed Tryz.func19 (by kernel_rfl) ⟨⟨rfl, rfl⟩, rfl, rfl⟩ (fun _ => ⟨_, _, rfl⟩) (Y3v ty15 i64) ((vV N a k).trans (by rw [ql0]; rfl))⟩
end Z5w
namespace Z6n
def sG := sgV [.val ty0, .val i64] [(i64, .dp)]
noncomputable def eS (N : Nat) : List EnTryz := []
def an_ : Nat -> Option (List Nat)
 | 0 => some [0, 1, 5]
 | _ => none
noncomputable def lP (p : List Dir) (rs : List (Env -> Option (Int))) (k : Nat) (env : Env) : Option (Int) :=
 lpE (eS N) N an_ p Tryz.f41 (endK Tb sG Tryz.f41 [] (un1 i64)) rs k env
noncomputable def El0 (k_ : Nat) (a2 : I0) (k2 : Int) (i : Int) : Option (Int) :=
 lP N [.r, .l, .r, .b] [] k_ (.con .val [lf ty0 a2 .ro] :: (.con .val [lf i64 k2 .ro] :: (un 3 (.con .val [lf i64 i .ro] :: (un 15 [])))))
theorem ql0 (N : Nat) : ∀ k_, El0 N k_ = Z5x N k_
 | 0 => by kernel_rfl
 | k_ + 1 => (show El0 N (k_ + 1) = Z7h N (El0 N k_) from by kernel_rfl).trans (by simp only [ql0 N k_]; rfl)
noncomputable def eE : EnTryz := ⟨41, sG, [.v ty0, .v i64], _, Z6n N, pk1 i64, enK Tryz.func41 (by kernel_rfl),
 fun a k => eok (eS N) (by kernel_rfl) Tryz.func41 rfl N an_ rfl (Y4 i64) (.trans (b := Z8y N (El0 N N) a k) (by kernel_rfl) (by rw [ql0]; rfl))⟩
end Z6n
namespace Z4t
def sG := sgV [.val ty15, .val i64] [(i64, .dp)]
noncomputable def eS : List EnTryz := [Z6n.eE N]
def an_ : Nat -> Option (List Nat)
 | 0 => some [0, 1, 5]
 | _ => none
noncomputable def lP (p : List Dir) (rs : List (Env -> Option (Int))) (k : Nat) (env : Env) : Option (Int) :=
 lpE (eS N) N an_ p Tryz.f20 (endK Tb sG Tryz.f20 [] (un1 i64)) rs k env
noncomputable def El0 (k_ : Nat) (a2 : L0) (k2 : Int) (i : Int) : Option (Int) :=
 lP N [.r, .l, .r, .b] [] k_ (.con .val [lf ty15 a2 .ro] :: (.con .val [lf i64 k2 .ro] :: (un 3 (.con .val [lf i64 i .ro] :: (un 15 [])))))
theorem ql0 (N : Nat) : ∀ k_, El0 N k_ = Z5i N k_
 | 0 => by kernel_rfl
 | k_ + 1 => (show El0 N (k_ + 1) = Z78 N (El0 N k_) from by kernel_rfl).trans (by simp only [ql0 N k_]; rfl)
noncomputable def eE : EnTryz := ⟨20, sG, [.v ty15, .v i64], _, Z4t N, pk1 i64, enK Tryz.func20 (by kernel_rfl),
 fun a k => eok (eS N) (by kernel_rfl) Tryz.func20 rfl N an_ rfl (Y4 i64) (.trans (b := Z8s N (El0 N N) a k) (by kernel_rfl) (by rw [ql0]; rfl))⟩
end Z4t
namespace laws_FnExactPreferredRepairs
def sG := sgV [.val ty5, .val ty6, .val ty7] [(.bool, .dp)]
noncomputable def eS : List EnTryz := [Z50.eE N, Z1i.eE N, Z2x.eE N, Z2m.eE N, Z0k.eE N, Z0y.eE N, Z2c.eE N, Z1o.eE N, Z5c.eE N, Z5e.eE N, Z1j.eE N, Z34.eE N, Z39.eE N, Z1a.eE N, Z21.eE N, Z5w.eE N, Z4t.eE N]
noncomputable def eE : EnTryz := ⟨3, sG, [.v ty5, .v ty6, .v ty7], _, laws_FnExactPreferredRepairs N, pk1 .bool, enK Tryz.func3 (by kernel_rfl),
 fun aDb aConstraints aPreferences => eok (eS N) (by kernel_rfl) Tryz.func3 rfl N an0 rfl (Y4 .bool) (by kernel_rfl)⟩
end laws_FnExactPreferredRepairs
end Go.PL
