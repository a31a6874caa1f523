/- What the machine does at each function is what the plain reading says. Conditions: none. -/
import Derived.Test.YtonpdomdcgfpfaaFpG
import Derived.Test.YtonpdomdcgfpfaaPlA
import Derived.Test.YtonpdomdcgfpfaaProg

set_option linter.unusedVariables false
set_option linter.unusedSimpArgs false
set_option linter.unnecessarySimpa false

namespace Go.PL
open Go.FP Go.Proofs Go.Shelf
set_option maxRecDepth 10000
variable (N : Nat)
abbrev i64 : Ty := .int .i64
abbrev ty0 : Ty := (.slice 3 i64)
abbrev ty1 : Ty := (.pair .str (.pair i64 i64))
abbrev ty2 : Ty := (.slice 147 (.pair .str (.pair i64 i64)))
abbrev ty3 : Ty := (.pair i64 (.slice 3 i64))
abbrev ty4 : Ty := (.slice 149 (.pair i64 (.slice 3 i64)))
abbrev ty5 : Ty := (.pair (.slice 147 (.pair .str (.pair i64 i64))) (.slice 149 (.pair i64 (.slice 3 i64))))
abbrev ty6 : Ty := (.slice 120 (.pair i64 (.pair i64 (.pair i64 (.pair i64 (.pair i64 (.pair i64 i64)))))))
abbrev ty7 : Ty := (.slice 124 (.pair .str (.pair i64 i64)))
abbrev ty8 : Ty := (.slice 90 (.pair i64 (.slice 3 i64)))
abbrev ty9 : Ty := (.pair (.slice 124 (.pair .str (.pair i64 i64))) (.slice 90 (.pair i64 (.slice 3 i64))))
abbrev ty10 : Ty := (.pair i64 (.pair i64 (.pair i64 (.pair i64 (.pair i64 (.pair i64 i64))))))
abbrev ty11 : Ty := (.slice 118 (.pair i64 (.pair i64 (.pair i64 (.pair i64 (.pair i64 (.pair i64 i64)))))))
abbrev ty12 : Ty := (.slice 116 (.pair i64 i64))
abbrev ty13 : Ty := (.slice 38 (.slice 3 i64))
abbrev ty14 : Ty := (.pair i64 i64)
abbrev ty15 : Ty := (.slice 5 (.int .u8))
def Tb : Tab := [⟨3, i64, 8, [], false, false⟩,
 ⟨4, .bool, 1, [], false, false⟩,
 ⟨5, (.int .u8), 1, [], false, false⟩,
 ⟨9, .str, 16, [], false, false⟩,
 ⟨22, ty15, 24, [], false, false⟩,
 ⟨24, ty7, 24, [], false, false⟩,
 ⟨25, ty8, 24, [], false, false⟩,
 ⟨27, ty9, 48, [(0, 24), (1, 25)], false, false⟩,
 ⟨33, ty13, 24, [], false, false⟩,
 ⟨38, ty0, 24, [], false, false⟩,
 ⟨44, ty2, 24, [], false, false⟩,
 ⟨45, ty4, 24, [], false, false⟩,
 ⟨47, ty5, 48, [(0, 44), (1, 45)], false, false⟩,
 ⟨65, ty6, 24, [], false, false⟩,
 ⟨67, ty12, 24, [], false, false⟩,
 ⟨69, ty11, 24, [], false, false⟩,
 ⟨90, ty3, 32, [(0, 3), (1, 38)], false, false⟩,
 ⟨116, ty14, 16, [(0, 3), (1, 3)], false, false⟩,
 ⟨118, ty10, 56, [(0, 3), (1, 3), (2, 3), (3, 3), (4, 3), (5, 3), (6, 3)], false, false⟩,
 ⟨120, ty10, 56, [(0, 3), (1, 3), (2, 3), (3, 3), (4, 3), (5, 3), (6, 3)], false, false⟩,
 ⟨124, ty1, 32, [(0, 9), (1, 3), (2, 3)], false, false⟩,
 ⟨147, ty1, 32, [(0, 9), (1, 3), (2, 3)], false, false⟩,
 ⟨149, ty3, 32, [(0, 3), (1, 38)], false, false⟩,
 ⟨168, .bool, 8, [], true, false⟩]
theorem tab_ok : TabOk Try.prog Tb :=
 (Ye (TEOk.plain (i := Try.t3) (by kernel_rfl) rfl rfl (by kernel_rfl) rfl rfl rfl Try.underlying3)
 (Ye (TEOk.plain (i := Try.t4) (by kernel_rfl) rfl rfl (by kernel_rfl) rfl rfl rfl Try.underlying4)
 (Ye (TEOk.plain (i := Try.t5) (by kernel_rfl) rfl rfl (by kernel_rfl) rfl rfl rfl Try.underlying5)
 (Ye (TEOk.plain (i := Try.t9) (by kernel_rfl) rfl rfl (by kernel_rfl) rfl rfl rfl Try.underlying9)
 (Ye (TEOk.plain (i := Try.t22) (by kernel_rfl) rfl rfl (by kernel_rfl) rfl rfl rfl Try.underlying22)
 (Ye (TEOk.plain (i := Try.t24) (by kernel_rfl) rfl rfl (by kernel_rfl) rfl rfl rfl Try.underlying24)
 (Ye (TEOk.plain (i := Try.t25) (by kernel_rfl) rfl rfl (by kernel_rfl) rfl rfl rfl Try.underlying25)
 (Ye (TEOk.struct (i := Try.t27) (pl := [(0, 1), (1, 1)]) (by kernel_rfl) rfl rfl (by kernel_rfl) Try.underlying27 (by kernel_rfl) (by kernel_rfl) rfl rfl (fun h => by cases h))
 (Ye (TEOk.plain (i := Try.t33) (by kernel_rfl) rfl rfl (by kernel_rfl) rfl rfl rfl Try.underlying33)
 (Ye (TEOk.plain (i := Try.t38) (by kernel_rfl) rfl rfl (by kernel_rfl) rfl rfl rfl Try.underlying38)
 (Ye (TEOk.plain (i := Try.t44) (by kernel_rfl) rfl rfl (by kernel_rfl) rfl rfl rfl Try.underlying44)
 (Ye (TEOk.plain (i := Try.t45) (by kernel_rfl) rfl rfl (by kernel_rfl) rfl rfl rfl Try.underlying45)
 (Ye (TEOk.struct (i := Try.t47) (pl := [(0, 1), (1, 1)]) (by kernel_rfl) rfl rfl (by kernel_rfl) Try.underlying47 (by kernel_rfl) (by kernel_rfl) rfl rfl (fun h => by cases h))
 (Ye (TEOk.plain (i := Try.t65) (by kernel_rfl) rfl rfl (by kernel_rfl) rfl rfl rfl Try.underlying65)
 (Ye (TEOk.plain (i := Try.t67) (by kernel_rfl) rfl rfl (by kernel_rfl) rfl rfl rfl Try.underlying67)
 (Ye (TEOk.plain (i := Try.t69) (by kernel_rfl) rfl rfl (by kernel_rfl) rfl rfl rfl Try.underlying69)
 (Ye (TEOk.struct (i := Try.t90) (pl := [(0, 1), (1, 1)]) (by kernel_rfl) rfl rfl (by kernel_rfl) Try.underlying90 (by kernel_rfl) (by kernel_rfl) rfl rfl (fun h => by cases h))
 (Ye (TEOk.struct (i := Try.t116) (pl := [(0, 1), (1, 1)]) (by kernel_rfl) rfl rfl (by kernel_rfl) Try.underlying116 (by kernel_rfl) (by kernel_rfl) rfl rfl (fun h => by cases h))
 (Ye (TEOk.struct (i := Try.t118) (pl := [(0, 1), (1, 1), (2, 1), (3, 1), (4, 1), (5, 1), (6, 1)]) (by kernel_rfl) rfl rfl (by kernel_rfl) Try.underlying118 (by kernel_rfl) (by kernel_rfl) rfl rfl (fun h => by cases h))
 (Ye (TEOk.struct (i := Try.t120) (pl := [(0, 1), (1, 1), (2, 1), (3, 1), (4, 1), (5, 1), (6, 1)]) (by kernel_rfl) rfl rfl (by kernel_rfl) Try.underlying120 (by kernel_rfl) (by kernel_rfl) rfl rfl (fun h => by cases h))
 (Ye (TEOk.struct (i := Try.t124) (pl := [(0, 1), (1, 1), (2, 1)]) (by kernel_rfl) rfl rfl (by kernel_rfl) Try.underlying124 (by kernel_rfl) (by kernel_rfl) rfl rfl (fun h => by cases h))
 (Ye (TEOk.struct (i := Try.t147) (pl := [(0, 1), (1, 1), (2, 1)]) (by kernel_rfl) rfl rfl (by kernel_rfl) Try.underlying147 (by kernel_rfl) (by kernel_rfl) rfl rfl (fun h => by cases h))
 (Ye (TEOk.struct (i := Try.t149) (pl := [(0, 1), (1, 1)]) (by kernel_rfl) rfl rfl (by kernel_rfl) Try.underlying149 (by kernel_rfl) (by kernel_rfl) rfl rfl (fun h => by cases h))
 (Ye (TEOk.ofFn (i := Try.t168) (z := (Try.t168.zero).getD default) (by kernel_rfl) rfl (by kernel_rfl) (by kernel_rfl) Try.underlying168 rfl rfl)
 Yd9))))))))))))))))))))))))
theorem mixed : Try.prog.follows .mixedOrders = true := by decide
def cps : FuncId -> List Ty := capsL [(171, [ty11, ty9]), (182, [i64, ty12, .bool, .bool]), (216, [ty0]), (217, [])]
def cpsS : FuncId -> List Ty := fun f => if f = 1000000007 then [.unit] else cps f
section
variable {R : Type} (es : List (Entry Try.prog)) (N : Nat) (an : Nat -> Option (List Nat))
noncomputable abbrev evE (sg : Sig) (fn : Func) (args : List RV) (K : List (Σ t : Ty, t.D) -> Option R) : Option R :=
 evFn Tb (sigL es) cps (orcL es) (drawReg Tb (sigL es) cps (orcL es)) N an sg fn (fn.body.getD .skip) args K
noncomputable abbrev evES (sg : Sig) (fn : Func) (args : List RV) (K : List (Σ t : Ty, t.D) -> Option R) : Option R :=
 evFn Tb (sigL es) cpsS (orcL es) (drawReg Tb (sigL es) cpsS (orcL es)) N an sg fn (fn.body.getD .skip) args K
noncomputable abbrev lpES (p : List Dir) (fn : Func) (K : Exit -> Env -> Option R) (rs : List (Env -> Option R)) (k : Nat) (env : Env) : Option R :=
 loopAt Tb (sigL es) cpsS (orcL es) N an p (fn.body.getD .skip) K rs k env
noncomputable abbrev evB (sg : Sig) (b : BoxSig) (fn : Func) (args : List RV) (K : List (Σ t : Ty, t.D) -> Option R) : Option R :=
 evFnB Tb (sigL es) cps (orcL es) (drawReg Tb (sigL es) cps (orcL es)) N an sg b fn (fn.body.getD .skip) args K
noncomputable abbrev evN (id : TypeId) (t : Ty) (fn : Func) (args : List RV) (K : List (Σ t : Ty, t.D) -> Option R) : Option R :=
 evFnN Tb (sigL es) cps (orcL es) (drawReg Tb (sigL es) cps (orcL es)) N an id t fn (fn.body.getD .skip) args K
noncomputable abbrev lpE (p : List Dir) (fn : Func) (K : Exit -> Env -> Option R) (rs : List (Env -> Option R)) (k : Nat) (env : Env) : Option R :=
 loopAt Tb (sigL es) cps (orcL es) N an p (fn.body.getD .skip) K rs k env
end
abbrev EnTry := Entry Try.prog
def an0 : Nat -> Option (List Nat) := fun _ => none
def sgV (ps : List PTy) (rs : List (Ty × Lvl)) : Sig := ⟨ps, rs, false, false, none, none⟩
theorem enK {f : FuncId} {fn : Func} (hf : Try.prog.funcs[f]? = some fn) (h : (fn.body.isNone || fn.name == "runtime.NumGoroutine") = false) : Enterable Try.prog f := ⟨fn, hf, (Bool.or_eq_false_iff.1 h).1, (Bool.or_eq_false_iff.1 h).2⟩
def plG (sg : Sig) : Bool := sg.box.isNone && (sg.newb.isNone && (!sg.muts && !sg.own))
theorem eok (es : List (Entry Try.prog)) (ha : agreeL es = true) {f : FuncId} {fn : Func} (hf : Try.prog.funcs[f]? = some fn) (hb : fn.body.isSome = true) (N : Nat) (an : Nat -> Option (List Nat)) {sg : Sig} (hs : plG sg = true) {args : List RV} {α : Type} {un : List (Σ t : Ty, t.D) -> Option α} {pk : α -> List (Σ t : Ty, t.D)} (hu : ∀ r xs, un xs = some r -> xs = pk r) {q : Option α} (h : evE es N an sg fn args un = q) :
  ∀ x, q = some x -> FnOk Try.prog f sg args (pk x) := by
 obtain ⟨ps, rs, m, o, b, n⟩ := sg
 simp only [plG, Bool.and_eq_true, Bool.not_eq_true', Option.isNone_iff_eq_none] at hs
 obtain ⟨rfl, rfl, rfl, rfl⟩ := hs
 exact Y6g tab_ok ha mixed hf (by cases h : fn.body with | none => rw [h] at hb; cases hb | some c => rfl) ⟨⟨rfl, rfl⟩, rfl, rfl⟩ hu h
theorem eokS (es : List (Entry Try.prog)) (ha : agreeL es = true) {f : FuncId} {fn : Func} (hf : Try.prog.funcs[f]? = some fn) (hb : fn.body.isSome = true) (N : Nat) (an : Nat -> Option (List Nat)) {sg : Sig} (hs : plG sg = true) {args : List RV} {α : Type} {un : List (Σ t : Ty, t.D) -> Option α} {pk : α -> List (Σ t : Ty, t.D)} (hu : ∀ r xs, un xs = some r -> xs = pk r) {q : Option α} (h : evES es N an sg fn args un = q) :
  ∀ x, q = some x -> FnOk Try.prog f sg args (pk x) := by
 obtain ⟨ps, rs, m, o, b, n⟩ := sg
 simp only [plG, Bool.and_eq_true, Bool.not_eq_true', Option.isNone_iff_eq_none] at hs
 obtain ⟨rfl, rfl, rfl, rfl⟩ := hs
 exact Y6g tab_ok ha mixed hf (by cases h : fn.body with | none => rw [h] at hb; cases hb | some c => rfl) ⟨⟨rfl, rfl⟩, rfl, rfl⟩ hu h
theorem Z7g : Bears Try.prog 92 (SlBodyN.n41 (renL 92 0 3 4 38 3)) := ⟨Try.f92.name, by kernel_rfl, Try.func92.trans (congrArg some (by kernel_rfl))⟩
noncomputable def Z6d : Entry Try.prog := ⟨92, ⟨[.val ty0], [(ty0, .dp)], false, false, none, none⟩, [.v ty0], I0, Z3g N, pk1 ty0, Y6h Try.func92 (code := Try.f92.body.getD .skip) (by kernel_rfl) (by kernel_rfl),
 fun s q h => Yc2 tab_ok mixed Z7g (by kernel_rfl) Try.underlying4 (te := ⟨3, i64, 8, [], false, false⟩) (by kernel_rfl) rfl rfl h⟩
namespace Z2y
def sG := sgV [.val ty1, .val i64] [(i64, .dp)]
noncomputable def eS (N : Nat) : List EnTry := []
noncomputable def eE : EnTry := ⟨158, sG, [.v ty1, .v i64], _, Z2y N, pk1 i64, enK Try.func158 (by kernel_rfl),
 fun a left_ => eok (eS N) (by kernel_rfl) Try.func158 rfl N an0 rfl (Y5 i64) (by kernel_rfl)⟩
end Z2y
namespace Z3a
def sG := sgV [.val ty2, .val i64] [(i64, .dp)]
noncomputable def eS : List EnTry := [Z2y.eE N]
def an_ : Nat -> Option (List Nat)
 | 0 => some [0, 1, 5]
 | _ => none
noncomputable def lP (p : List Dir) (rs : List (Env -> Option (Int))) (k : Nat) (env : Env) : Option (Int) :=
 lpE (eS N) N an_ p Try.f104 (endK Tb sG Try.f104 [] (un1 i64)) rs k env
noncomputable def El0 (k_ : Nat) (a2 : R0) (left_2 : Int) (i : Int) : Option (Int) :=
 lP N [.r, .r, .r, .l, .r, .b] [] k_ (.con .val [lf ty2 a2 .ro] :: (.con .val [lf i64 left_2 .ro] :: (un 3 (.con .val [lf i64 i .ro] :: (un 21 [])))))
theorem ql0 (N : Nat) : ∀ k_, El0 N k_ = Z30 N k_
 | 0 => by kernel_rfl
 | k_ + 1 => (show El0 N (k_ + 1) = Z4j N (El0 N k_) from by kernel_rfl).trans (by simp only [ql0 N k_]; rfl)
noncomputable def eE : EnTry := ⟨104, sG, [.v ty2, .v i64], _, Z3a N, pk1 i64, enK Try.func104 (by kernel_rfl),
 fun a left_ => eok (eS N) (by kernel_rfl) Try.func104 rfl N an_ rfl (Y5 i64) (.trans (b := Z69 N (El0 N N) a left_) (by kernel_rfl) (by rw [ql0]; rfl))⟩
end Z3a
namespace Z5k
def sG := sgV [.val ty0, .val i64] [(i64, .dp)]
noncomputable def eS (N : Nat) : List EnTry := []
noncomputable def eE : EnTry := ⟨195, sG, [.v ty0, .v i64], _, Z5k N, pk1 i64, enK Try.func195 (by kernel_rfl),
 fun a left_ => eok (eS N) (by kernel_rfl) Try.func195 rfl N an0 rfl (Y5 i64) (by kernel_rfl)⟩
end Z5k
namespace Z4z
def sG := sgV [.val ty3, .val i64] [(i64, .dp)]
noncomputable def eS : List EnTry := [Z5k.eE N]
noncomputable def eE : EnTry := ⟨159, sG, [.v ty3, .v i64], _, Z4z N, pk1 i64, enK Try.func159 (by kernel_rfl),
 fun a left_ => eok (eS N) (by kernel_rfl) Try.func159 rfl N an0 rfl (Y5 i64) (by kernel_rfl)⟩
end Z4z
namespace Z52
def sG := sgV [.val ty4, .val i64] [(i64, .dp)]
noncomputable def eS : List EnTry := [Z4z.eE N]
def an_ : Nat -> Option (List Nat)
 | 0 => some [0, 1, 5]
 | _ => none
noncomputable def lP (p : List Dir) (rs : List (Env -> Option (Int))) (k : Nat) (env : Env) : Option (Int) :=
 lpE (eS N) N an_ p Try.f105 (endK Tb sG Try.f105 [] (un1 i64)) rs k env
noncomputable def El0 (k_ : Nat) (a2 : A0) (left_2 : Int) (i : Int) : Option (Int) :=
 lP N [.r, .r, .r, .l, .r, .b] [] k_ (.con .val [lf ty4 a2 .ro] :: (.con .val [lf i64 left_2 .ro] :: (un 3 (.con .val [lf i64 i .ro] :: (un 21 [])))))
theorem ql0 (N : Nat) : ∀ k_, El0 N k_ = Z4k N k_
 | 0 => by kernel_rfl
 | k_ + 1 => (show El0 N (k_ + 1) = Z5r N (El0 N k_) from by kernel_rfl).trans (by simp only [ql0 N k_]; rfl)
noncomputable def eE : EnTry := ⟨105, sG, [.v ty4, .v i64], _, Z52 N, pk1 i64, enK Try.func105 (by kernel_rfl),
 fun a left_ => eok (eS N) (by kernel_rfl) Try.func105 rfl N an_ rfl (Y5 i64) (.trans (b := Z6r N (El0 N N) a left_) (by kernel_rfl) (by rw [ql0]; rfl))⟩
end Z52
namespace Z3l
def sG := sgV [.val ty5, .val i64] [(i64, .dp)]
noncomputable def eS : List EnTry := [Z3a.eE N, Z52.eE N]
noncomputable def eE : EnTry := ⟨33, sG, [.v ty5, .v i64], _, Z3l N, pk1 i64, enK Try.func33 (by kernel_rfl),
 fun a left_ => eok (eS N) (by kernel_rfl) Try.func33 rfl N an0 rfl (Y5 i64) (by kernel_rfl)⟩
end Z3l
namespace Z12
def sG := sgV [.val ty6, .val i64] [(i64, .dp)]
noncomputable def eS (N : Nat) : List EnTry := []
noncomputable def eE : EnTry := ⟨53, sG, [.v ty6, .v i64], _, Z12 N, pk1 i64, enK Try.func53 (by kernel_rfl),
 fun a left_ => eok (eS N) (by kernel_rfl) Try.func53 rfl N an0 rfl (Y5 i64) (by kernel_rfl)⟩
end Z12
namespace Z3m
def sG := sgV [.val ty1] [(ty1, .dp)]
noncomputable def eS (N : Nat) : List EnTry := []
noncomputable def eE : EnTry := ⟨160, sG, [.v ty1], _, Z3m N, pk1 ty1, enK Try.func160 (by kernel_rfl),
 fun a => eok (eS N) (by kernel_rfl) Try.func160 rfl N an0 rfl (Y5 ty1) (by kernel_rfl)⟩
end Z3m
namespace Z3b
def sG := sgV [.val ty2] [(ty7, .dp)]
noncomputable def eS : List EnTry := [Z3m.eE N]
def an_ : Nat -> Option (List Nat)
 | 0 => some [0, 3, 4]
 | _ => none
noncomputable def lP (p : List Dir) (rs : List (Env -> Option R0)) (k : Nat) (env : Env) : Option R0 :=
 lpE (eS N) N an_ p Try.f107 (endK Tb sG Try.f107 [] (un1 ty7)) rs k env
noncomputable def El0 (k_ : Nat) (a2 : R0) (out : R0) (i : Int) : Option R0 :=
 lP N [.r, .r, .l, .r, .b] [] k_ (.con .val [lf ty2 a2 .ro] :: (un 2 (.con .val [lf ty7 out .dp] :: (.con .val [lf i64 i .ro] :: (un 18 [])))))
theorem ql0 (N : Nat) : ∀ k_, El0 N k_ = Z31 N k_
 | 0 => by kernel_rfl
 | k_ + 1 => (show El0 N (k_ + 1) = Z4l N (El0 N k_) from by kernel_rfl).trans (by simp only [ql0 N k_]; rfl)
noncomputable def eE : EnTry := ⟨107, sG, [.v ty2], _, Z3b N, pk1 ty7, enK Try.func107 (by kernel_rfl),
 fun a => eok (eS N) (by kernel_rfl) Try.func107 rfl N an_ rfl (Y5 ty7) (.trans (b := Z6a N (El0 N N) a) (by kernel_rfl) (by rw [ql0]; rfl))⟩
end Z3b
namespace Z5l
def sG := sgV [.val ty0] [(ty0, .dp)]
noncomputable def eS (N : Nat) : List EnTry := []
def an_ : Nat -> Option (List Nat)
 | 0 => some [0, 3, 4]
 | _ => none
noncomputable def lP (p : List Dir) (rs : List (Env -> Option I0)) (k : Nat) (env : Env) : Option I0 :=
 lpE (eS N) N an_ p Try.f36 (endK Tb sG Try.f36 [] (un1 ty0)) rs k env
noncomputable def El0 (k_ : Nat) (a2 : I0) (out : I0) (i : Int) : Option I0 :=
 lP N [.r, .r, .l, .r, .b] [] k_ (.con .val [lf ty0 a2 .ro] :: (un 2 (.con .val [lf ty0 out .dp] :: (.con .val [lf i64 i .ro] :: (un 17 [])))))
theorem ql0 (N : Nat) : ∀ k_, El0 N k_ = Z50 N k_
 | 0 => by kernel_rfl
 | k_ + 1 => (show El0 N (k_ + 1) = Z5x N (El0 N k_) from by kernel_rfl).trans (by simp only [ql0 N k_]; rfl)
noncomputable def eE : EnTry := ⟨36, sG, [.v ty0], _, Z5l N, pk1 ty0, enK Try.func36 (by kernel_rfl),
 fun a => eok (eS N) (by kernel_rfl) Try.func36 rfl N an_ rfl (Y5 ty0) (.trans (b := Z74 N (El0 N N) a) (by kernel_rfl) (by rw [ql0]; rfl))⟩
end Z5l
namespace Z5m
def sG := sgV [.val ty3] [(ty3, .dp)]
noncomputable def eS : List EnTry := [Z5l.eE N]
noncomputable def eE : EnTry := ⟨161, sG, [.v ty3], _, Z5m N, pk1 ty3, enK Try.func161 (by kernel_rfl),
 fun a => eok (eS N) (by kernel_rfl) Try.func161 rfl N an0 rfl (Y5 ty3) (by kernel_rfl)⟩
end Z5m
namespace Z53
def sG := sgV [.val ty4] [(ty8, .dp)]
noncomputable def eS : List EnTry := [Z5m.eE N]
def an_ : Nat -> Option (List Nat)
 | 0 => some [0, 3, 4]
 | _ => none
noncomputable def lP (p : List Dir) (rs : List (Env -> Option A0)) (k : Nat) (env : Env) : Option A0 :=
 lpE (eS N) N an_ p Try.f108 (endK Tb sG Try.f108 [] (un1 ty8)) rs k env
noncomputable def El0 (k_ : Nat) (a2 : A0) (out : A0) (i : Int) : Option A0 :=
 lP N [.r, .r, .l, .r, .b] [] k_ (.con .val [lf ty4 a2 .ro] :: (un 2 (.con .val [lf ty8 out .dp] :: (.con .val [lf i64 i .ro] :: (un 18 [])))))
theorem ql0 (N : Nat) : ∀ k_, El0 N k_ = Z4m N k_
 | 0 => by kernel_rfl
 | k_ + 1 => (show El0 N (k_ + 1) = Z5s N (El0 N k_) from by kernel_rfl).trans (by simp only [ql0 N k_]; rfl)
noncomputable def eE : EnTry := ⟨108, sG, [.v ty4], _, Z53 N, pk1 ty8, enK Try.func108 (by kernel_rfl),
 fun a => eok (eS N) (by kernel_rfl) Try.func108 rfl N an_ rfl (Y5 ty8) (.trans (b := Z6s N (El0 N N) a) (by kernel_rfl) (by rw [ql0]; rfl))⟩
end Z53
namespace Z1u
def sG := sgV [.val ty5] [(ty9, .dp)]
noncomputable def eS : List EnTry := [Z3b.eE N, Z53.eE N]
noncomputable def eE : EnTry := ⟨35, sG, [.v ty5], _, Z1u N, pk1 ty9, enK Try.func35 (by kernel_rfl),
 fun a => eok (eS N) (by kernel_rfl) Try.func35 rfl N an0 rfl (Y5 ty9) (by kernel_rfl)⟩
end Z1u
namespace Z1v
def sG := sgV [.val ty10] [(ty10, .dp)]
noncomputable def eS (N : Nat) : List EnTry := []
noncomputable def eE : EnTry := ⟨126, sG, [.v ty10], _, Z1v N, pk1 ty10, enK Try.func126 (by kernel_rfl),
 fun a => eok (eS N) (by kernel_rfl) Try.func126 rfl N an0 rfl (Y5 ty10) (by kernel_rfl)⟩
end Z1v
namespace Z0a
def sG := sgV [.val ty6] [(ty11, .dp)]
noncomputable def eS : List EnTry := [Z1v.eE N]
def an_ : Nat -> Option (List Nat)
 | 0 => some [0, 3, 4]
 | _ => none
noncomputable def lP (p : List Dir) (rs : List (Env -> Option (List C0))) (k : Nat) (env : Env) : Option (List C0) :=
 lpE (eS N) N an_ p Try.f55 (endK Tb sG Try.f55 [] (un1 ty11)) rs k env
noncomputable def El0 (k_ : Nat) (a2 : List C0) (out : List C0) (i : Int) : Option (List C0) :=
 lP N [.r, .r, .l, .r, .b] [] k_ (.con .val [lf ty6 a2 .ro] :: (un 2 (.con .val [lf ty11 out .dp] :: (.con .val [lf i64 i .ro] :: (un 18 [])))))
theorem ql0 (N : Nat) : ∀ k_, El0 N k_ = Z14 N k_
 | 0 => by kernel_rfl
 | k_ + 1 => (show El0 N (k_ + 1) = Z2g N (El0 N k_) from by kernel_rfl).trans (by simp only [ql0 N k_]; rfl)
noncomputable def eE : EnTry := ⟨55, sG, [.v ty6], _, Z0a N, pk1 ty11, enK Try.func55 (by kernel_rfl),
 fun a => eok (eS N) (by kernel_rfl) Try.func55 rfl N an_ rfl (Y5 ty11) (.trans (b := Z4r N (El0 N N) a) (by kernel_rfl) (by rw [ql0]; rfl))⟩
end Z0a
namespace Z0c
def sG := sgV [.val i64, .val i64, .val i64] [(.bool, .dp)]
noncomputable def eS (N : Nat) : List EnTry := []
noncomputable def eE : EnTry := ⟨98, sG, [.v i64, .v i64, .v i64], _, Z0c N, pk1 .bool, enK Try.func98 (by kernel_rfl),
 fun x low high => eok (eS N) (by kernel_rfl) Try.func98 rfl N an0 rfl (Y5 .bool) (by kernel_rfl)⟩
end Z0c
namespace Z4
def sG := sgV [.val ty1] [(.bool, .dp)]
noncomputable def eS : List EnTry := [Z0c.eE N]
noncomputable def eE : EnTry := ⟨146, sG, [.v ty1], _, Z4 N, pk1 .bool, enK Try.func146 (by kernel_rfl),
 fun s => eok (eS N) (by kernel_rfl) Try.func146 rfl N an0 rfl (Y5 .bool) (by kernel_rfl)⟩
end Z4
namespace Z0g
def sG := sgV [.val ty7] [(.bool, .dp)]
noncomputable def eS : List EnTry := [Z4.eE N]
def an_ : Nat -> Option (List Nat)
 | 0 => some [0, 3]
 | _ => none
noncomputable def lP (p : List Dir) (rs : List (Env -> Option (Bool))) (k : Nat) (env : Env) : Option (Bool) :=
 lpE (eS N) N an_ p Try.f85 (endK Tb sG Try.f85 [] (un1 .bool)) rs k env
noncomputable def El0 (k_ : Nat) (l2 : R0) (i : Int) : Option (Bool) :=
 lP N [.r, .l, .r, .b] [] k_ (.con .val [lf ty7 l2 .ro] :: (un 2 (.con .val [lf i64 i .ro] :: (un 33 []))))
theorem ql0 (N : Nat) : ∀ k_, El0 N k_ = Z0e N k_
 | 0 => by kernel_rfl
 | k_ + 1 => (show El0 N (k_ + 1) = Z15 N (El0 N k_) from by kernel_rfl).trans (by simp only [ql0 N k_]; rfl)
noncomputable def eE : EnTry := ⟨85, sG, [.v ty7], _, Z0g N, pk1 .bool, enK Try.func85 (by kernel_rfl),
 fun l => eok (eS N) (by kernel_rfl) Try.func85 rfl N an_ rfl (Y5 .bool) (.trans (b := Z3n N (El0 N N) l) (by kernel_rfl) (by rw [ql0]; rfl))⟩
end Z0g
namespace Z0q
def sG := sgV [.val ty7, .val ty3] [(.bool, .dp)]
noncomputable def eS : List EnTry := [Z0c.eE N, Z0g.eE N]
def an_ : Nat -> Option (List Nat)
 | 0 => some [3, 5]
 | _ => none
noncomputable def lP (p : List Dir) (rs : List (Env -> Option (Bool))) (k : Nat) (env : Env) : Option (Bool) :=
 lpE (eS N) N an_ p Try.f83 (endK Tb sG Try.f83 [] (un1 .bool)) rs k env
noncomputable def El0 (k_ : Nat) (f2 : Int) (f3 : I0) (i : Int) : Option (Bool) :=
 lP N [.r, .r, .l, .r, .b] [] k_ (un 3 (.con (.box ⟨90, false, []⟩) [lf i64 f2 .ro, lf ty0 f3 .ro] :: (un 1 (.con .val [lf i64 i .ro] :: (un 38 [])))))
theorem ql0 (N : Nat) : ∀ k_, El0 N k_ = Z32 N k_
 | 0 => by kernel_rfl
 | k_ + 1 => (show El0 N (k_ + 1) = Z4n N (El0 N k_) from by kernel_rfl).trans (by simp only [ql0 N k_]; rfl)
noncomputable def eE : EnTry := ⟨83, sG, [.v ty7, .v ty3], _, Z0q N, pk1 .bool, enK Try.func83 (by kernel_rfl),
 fun l f => eok (eS N) (by kernel_rfl) Try.func83 rfl N an_ rfl (Y5 .bool) (.trans (b := Z6b N (El0 N N) l f) (by kernel_rfl) (by rw [ql0]; rfl))⟩
end Z0q
namespace Z4c
def sG := sgV [.val ty0, .val ty0] [(i64, .dp)]
noncomputable def eS (N : Nat) : List EnTry := []
def an_ : Nat -> Option (List Nat)
 | 0 => some [0, 1, 5]
 | _ => none
noncomputable def lP (p : List Dir) (rs : List (Env -> Option (Int))) (k : Nat) (env : Env) : Option (Int) :=
 lpE (eS N) N an_ p Try.f145 (endK Tb sG Try.f145 [] (un1 i64)) rs k env
noncomputable def El0 (k_ : Nat) (a2 : I0) (b2 : I0) (i : Int) : Option (Int) :=
 lP N [.r, .l, .r, .b] [] k_ (.con .val [lf ty0 a2 .ro] :: (.con .val [lf ty0 b2 .ro] :: (un 3 (.con .val [lf i64 i .ro] :: (un 40 [])))))
theorem ql0 (N : Nat) : ∀ k_, El0 N k_ = Z44 N k_
 | 0 => by kernel_rfl
 | k_ + 1 => (show El0 N (k_ + 1) = Z54 N (El0 N k_) from by kernel_rfl).trans (by simp only [ql0 N k_]; rfl)
noncomputable def eE : EnTry := ⟨145, sG, [.v ty0, .v ty0], _, Z4c N, pk1 i64, enK Try.func145 (by kernel_rfl),
 fun a b => eok (eS N) (by kernel_rfl) Try.func145 rfl N an_ rfl (Y5 i64) (.trans (b := Z76 N (El0 N N) a b) (by kernel_rfl) (by rw [ql0]; rfl))⟩
end Z4c
namespace Z2w
def sG := sgV [.val ty3, .val ty3] [(i64, .dp)]
noncomputable def eS : List EnTry := [Z4c.eE N]
noncomputable def eE : EnTry := ⟨84, sG, [.v ty3, .v ty3], _, Z2w N, pk1 i64, enK Try.func84 (by kernel_rfl),
 fun a b => eok (eS N) (by kernel_rfl) Try.func84 rfl N an0 rfl (Y5 i64) (by kernel_rfl)⟩
end Z2w
namespace Z8
def sG := sgV [.val ty9] [(.bool, .dp)]
noncomputable def eS : List EnTry := [Z0q.eE N, Z2w.eE N, Z0g.eE N]
def an_ : Nat -> Option (List Nat)
 | 0 => some [1, 3]
 | _ => none
noncomputable def lP (p : List Dir) (rs : List (Env -> Option (Bool))) (k : Nat) (env : Env) : Option (Bool) :=
 lpE (eS N) N an_ p Try.f19 (endK Tb sG Try.f19 [] (un1 .bool)) rs k env
noncomputable def El0 (k_ : Nat) (d2 : R0) (d3 : A0) (i : Int) : Option (Bool) :=
 lP N [.r, .l, .r, .b] [] k_ (un 1 (.con (.box ⟨27, false, []⟩) [lf ty7 d2 .ro, lf ty8 d3 .ro] :: (un 1 (.con .val [lf i64 i .ro] :: (un 44 [])))))
theorem ql0 (N : Nat) : ∀ k_, El0 N k_ = Z1w N k_
 | 0 => by kernel_rfl
 | k_ + 1 => (show El0 N (k_ + 1) = Z3j N (El0 N k_) from by kernel_rfl).trans (by simp only [ql0 N k_]; rfl)
noncomputable def eE : EnTry := ⟨19, sG, [.v ty9], _, Z8 N, pk1 .bool, enK Try.func19 (by kernel_rfl),
 fun d => eok (eS N) (by kernel_rfl) Try.func19 rfl N an_ rfl (Y5 .bool) (.trans (b := Z5n N (El0 N N) d) (by kernel_rfl) (by rw [ql0]; rfl))⟩
end Z8
namespace Z5h
def sG := sgV [.val ty7, .val ty3] [(ty0, .dp)]
noncomputable def eS : List EnTry := [Z0q.eE N]
noncomputable def eE : EnTry := ⟨191, sG, [.v ty7, .v ty3], _, Z5h N, pk1 ty0, enK Try.func191 (by kernel_rfl),
 fun l f => eok (eS N) (by kernel_rfl) Try.func191 rfl N an0 rfl (Y5 ty0) (by kernel_rfl)⟩
end Z5h
namespace Z3c
def sG := sgV [.val ty7, .val ty3, .val ty3] [(.bool, .dp)]
noncomputable def eS : List EnTry := [Z0q.eE N, Z5h.eE N, Z4c.eE N]
noncomputable def eE : EnTry := ⟨147, sG, [.v ty7, .v ty3, .v ty3], _, Z3c N, pk1 .bool, enK Try.func147 (by kernel_rfl),
 fun l a b => eok (eS N) (by kernel_rfl) Try.func147 rfl N an0 rfl (Y5 .bool) (by kernel_rfl)⟩
end Z3c
namespace Z0z
def sG := sgV [.val ty9, .val ty10] [(.bool, .dp)]
noncomputable def eS : List EnTry := [Z8.eE N, Z0c.eE N]
noncomputable def eE : EnTry := ⟨197, sG, [.v ty9, .v ty10], _, Z0z N, pk1 .bool, enK Try.func197 (by kernel_rfl),
 fun d x => eok (eS N) (by kernel_rfl) Try.func197 rfl N an0 rfl (Y5 .bool) (by kernel_rfl)⟩
end Z0z
namespace Z0t
def sG := sgV [.val ty9, .val ty10, .val i64, .val i64] [(.bool, .dp)]
noncomputable def eS : List EnTry := [Z0z.eE N, Z0c.eE N]
noncomputable def eE : EnTry := ⟨169, sG, [.v ty9, .v ty10, .v i64, .v i64], _, Z0t N, pk1 .bool, enK Try.func169 (by kernel_rfl),
 fun d x i k => eok (eS N) (by kernel_rfl) Try.func169 rfl N an0 rfl (Y5 .bool) (by kernel_rfl)⟩
end Z0t
namespace Z2i
def sG := sgV [.val ty9, .val ty11] [(ty12, .dp)]
noncomputable def eS : List EnTry := [Z0t.eE N, Z3c.eE N, Z8.eE N]
def an_ : Nat -> Option (List Nat)
 | 0 => some [1, 2, 5, 6]
 | 2 => some [1, 2, 5, 6, 7]
 | 4 => some [1, 2, 5, 6, 7, 8, 9]
 | _ => none
noncomputable def lP (p : List Dir) (rs : List (Env -> Option E0)) (k : Nat) (env : Env) : Option E0 :=
 lpE (eS N) N an_ p Try.f125 (endK Tb sG Try.f125 [] (un1 ty12)) rs k env
noncomputable def El2 (k0_ : Nat) (k1_ : Nat) (k_ : Nat) (l4 : List C0) (d6 : R0) (d7 : A0) (out3 : E0) (i3 : Int) (k2 : Int) (is_ : Bool) (n : Int) : Option E0 :=
 lP N [.r, .r, .l, .r, .b, .b, .r, .l, .b, .r, .b, .b, .r, .l, .b, .r, .l, .r, .b] [lP N [.r, .r, .l, .r, .b] [] k0_, lP N [.r, .r, .l, .r, .b, .b, .r, .l, .b, .r, .b] [lP N [.r, .r, .l, .r, .b] [] k0_] k1_] k_ (un 1 (.con .val [lf ty11 l4 .ro] :: (.con (.box ⟨27, false, []⟩) [lf ty7 d6 .ro, lf ty8 d7 .ro] :: (un 2 (.con .val [lf ty12 out3 .dp] :: (.con .val [lf i64 i3 .ro] :: (.con .val [lf i64 k2 .ro] :: (.con .val [lf .bool is_ .ro] :: (.con .val [lf i64 n .ro] :: (un 69 []))))))))))
noncomputable def El1 (k0_ : Nat) (k_ : Nat) (l3 : List C0) (d4 : R0) (d5 : A0) (out2 : E0) (i2 : Int) (k : Int) : Option E0 :=
 lP N [.r, .r, .l, .r, .b, .b, .r, .l, .b, .r, .b] [lP N [.r, .r, .l, .r, .b] [] k0_] k_ (un 1 (.con .val [lf ty11 l3 .ro] :: (.con (.box ⟨27, false, []⟩) [lf ty7 d4 .ro, lf ty8 d5 .ro] :: (un 2 (.con .val [lf ty12 out2 .dp] :: (.con .val [lf i64 i2 .ro] :: (.con .val [lf i64 k .ro] :: (un 71 []))))))))
noncomputable def El0 (k_ : Nat) (l2 : List C0) (d2 : R0) (d3 : A0) (out : E0) (i : Int) : Option E0 :=
 lP N [.r, .r, .l, .r, .b] [] k_ (un 1 (.con .val [lf ty11 l2 .ro] :: (.con (.box ⟨27, false, []⟩) [lf ty7 d2 .ro, lf ty8 d3 .ro] :: (un 2 (.con .val [lf ty12 out .dp] :: (.con .val [lf i64 i .ro] :: (un 72 [])))))))
theorem ql2 (N : Nat) (k0_ : Nat) (k1_ : Nat) : ∀ k_, El2 N k0_ k1_ k_ = Z28 (El1 N k0_ k1_) N k_
 | 0 => by kernel_rfl
 | k_ + 1 => (show El2 N k0_ k1_ (k_ + 1) = Z3y N (El1 N k0_ k1_) (El2 N k0_ k1_ k_) from by kernel_rfl).trans (by simp only [ql2 N k0_ k1_ k_]; rfl)
theorem ql1 (N : Nat) (k0_ : Nat) : ∀ k_, El1 N k0_ k_ = Z0o (El0 N k0_) N k_
 | 0 => by kernel_rfl
 | k_ + 1 => (show El1 N k0_ (k_ + 1) = Z3z N (El0 N k0_) (El2 N k0_ k_ N) (El1 N k0_ k_) from by kernel_rfl).trans (by simp only [ql2, ql1 N k0_ k_]; rfl)
theorem ql0 (N : Nat) : ∀ k_, El0 N k_ = Z16 N k_
 | 0 => by kernel_rfl
 | k_ + 1 => (show El0 N (k_ + 1) = Z2v N (El1 N k_ N) (El0 N k_) from by kernel_rfl).trans (by simp only [ql1, ql0 N k_]; rfl)
noncomputable def eE : EnTry := ⟨125, sG, [.v ty9, .v ty11], _, Z2i N, pk1 ty12, enK Try.func125 (by kernel_rfl),
 fun d l => eok (eS N) (by kernel_rfl) Try.func125 rfl N an_ rfl (Y5 ty12) (.trans (b := Z5y N (El0 N N) d l) (by kernel_rfl) (by rw [ql0]; rfl))⟩
end Z2i
namespace Z1i
def sG := sgV [.val i64, .val ty12] [(.bool, .dp)]
noncomputable def eS : List EnTry := [Z0c.eE N]
def an_ : Nat -> Option (List Nat)
 | 0 => some [0, 1, 5]
 | _ => none
noncomputable def lP (p : List Dir) (rs : List (Env -> Option (Bool))) (k : Nat) (env : Env) : Option (Bool) :=
 lpE (eS N) N an_ p Try.f179 (endK Tb sG Try.f179 [] (un1 .bool)) rs k env
noncomputable def El0 (k_ : Nat) (n2 : Int) (l2 : E0) (i : Int) : Option (Bool) :=
 lP N [.r, .l, .r, .b] [] k_ (.con .val [lf i64 n2 .ro] :: (.con .val [lf ty12 l2 .ro] :: (un 3 (.con .val [lf i64 i .ro] :: (un 78 [])))))
theorem ql0 (N : Nat) : ∀ k_, El0 N k_ = Z29 N k_
 | 0 => by kernel_rfl
 | k_ + 1 => (show El0 N (k_ + 1) = Z40 N (El0 N k_) from by kernel_rfl).trans (by simp only [ql0 N k_]; rfl)
noncomputable def eE : EnTry := ⟨179, sG, [.v i64, .v ty12], _, Z1i N, pk1 .bool, enK Try.func179 (by kernel_rfl),
 fun n l => eok (eS N) (by kernel_rfl) Try.func179 rfl N an_ rfl (Y5 .bool) (.trans (b := Z5z N (El0 N N) n l) (by kernel_rfl) (by rw [ql0]; rfl))⟩
end Z1i
namespace Z60
def sG := sgV [.val i64, .val ty0] [(.bool, .dp)]
noncomputable def eS : List EnTry := [Z0c.eE N]
def an_ : Nat -> Option (List Nat)
 | 0 => some [0, 1, 5]
 | _ => none
noncomputable def lP (p : List Dir) (rs : List (Env -> Option (Bool))) (k : Nat) (env : Env) : Option (Bool) :=
 lpE (eS N) N an_ p Try.f225 (endK Tb sG Try.f225 [] (un1 .bool)) rs k env
noncomputable def El0 (k_ : Nat) (n2 : Int) (s2 : I0) (i : Int) : Option (Bool) :=
 lP N [.r, .l, .r, .b] [] k_ (.con .val [lf i64 n2 .ro] :: (.con .val [lf ty0 s2 .ro] :: (un 3 (.con .val [lf i64 i .ro] :: (un 30 [])))))
theorem ql0 (N : Nat) : ∀ k_, El0 N k_ = Z5e N k_
 | 0 => by kernel_rfl
 | k_ + 1 => (show El0 N (k_ + 1) = Z67 N (El0 N k_) from by kernel_rfl).trans (by simp only [ql0 N k_]; rfl)
noncomputable def eE : EnTry := ⟨225, sG, [.v i64, .v ty0], _, Z60 N, pk1 .bool, enK Try.func225 (by kernel_rfl),
 fun n s => eok (eS N) (by kernel_rfl) Try.func225 rfl N an_ rfl (Y5 .bool) (.trans (b := Z7d N (El0 N N) n s) (by kernel_rfl) (by rw [ql0]; rfl))⟩
end Z60
namespace Z4d
def sG := sgV [.val ty0, .val i64] [(.bool, .dp)]
noncomputable def eS (N : Nat) : List EnTry := []
def an_ : Nat -> Option (List Nat)
 | 0 => some [0, 1, 5]
 | _ => none
noncomputable def lP (p : List Dir) (rs : List (Env -> Option (Bool))) (k : Nat) (env : Env) : Option (Bool) :=
 lpE (eS N) N an_ p Try.f137 (endK Tb sG Try.f137 [] (un1 .bool)) rs k env
noncomputable def El0 (k_ : Nat) (l2 : I0) (x2 : Int) (i : Int) : Option (Bool) :=
 lP N [.r, .l, .r, .b] [] k_ (.con .val [lf ty0 l2 .ro] :: (.con .val [lf i64 x2 .ro] :: (un 3 (.con .val [lf i64 i .ro] :: (un 12 [])))))
theorem ql0 (N : Nat) : ∀ k_, El0 N k_ = Z5f N k_
 | 0 => by kernel_rfl
 | k_ + 1 => (show El0 N (k_ + 1) = Z68 N (El0 N k_) from by kernel_rfl).trans (by simp only [ql0 N k_]; rfl)
noncomputable def eE : EnTry := ⟨137, sG, [.v ty0, .v i64], _, Z4d N, pk1 .bool, enK Try.func137 (by kernel_rfl),
 fun l x => eok (eS N) (by kernel_rfl) Try.func137 rfl N an_ rfl (Y5 .bool) (.trans (b := Z7e N (El0 N N) l x) (by kernel_rfl) (by rw [ql0]; rfl))⟩
end Z4d
namespace Z1j
def sG := sgV [.val ty12, .val ty0] [(.bool, .dp)]
noncomputable def eS : List EnTry := [Z4d.eE N]
def an_ : Nat -> Option (List Nat)
 | 0 => some [0, 1, 5]
 | _ => none
noncomputable def lP (p : List Dir) (rs : List (Env -> Option (Bool))) (k : Nat) (env : Env) : Option (Bool) :=
 lpE (eS N) N an_ p Try.f226 (endK Tb sG Try.f226 [] (un1 .bool)) rs k env
noncomputable def El0 (k_ : Nat) (l2 : E0) (s2 : I0) (i : Int) : Option (Bool) :=
 lP N [.r, .l, .r, .b] [] k_ (.con .val [lf ty12 l2 .ro] :: (.con .val [lf ty0 s2 .ro] :: (un 3 (.con .val [lf i64 i .ro] :: (un 22 [])))))
theorem ql0 (N : Nat) : ∀ k_, El0 N k_ = Z2a N k_
 | 0 => by kernel_rfl
 | k_ + 1 => (show El0 N (k_ + 1) = Z41 N (El0 N k_) from by kernel_rfl).trans (by simp only [ql0 N k_]; rfl)
noncomputable def eE : EnTry := ⟨226, sG, [.v ty12, .v ty0], _, Z1j N, pk1 .bool, enK Try.func226 (by kernel_rfl),
 fun l s => eok (eS N) (by kernel_rfl) Try.func226 rfl N an_ rfl (Y5 .bool) (.trans (b := Z61 N (El0 N N) l s) (by kernel_rfl) (by rw [ql0]; rfl))⟩
end Z1j
namespace Z4e
def sG := sgV [.val ty12, .val ty0, .val i64] [(.bool, .dp)]
noncomputable def eS : List EnTry := [Z4d.eE N, Z1j.eE N]
noncomputable def eE : EnTry := ⟨213, sG, [.v ty12, .v ty0, .v i64], _, Z4e N, pk1 .bool, enK Try.func213 (by kernel_rfl),
 fun l s x => eok (eS N) (by kernel_rfl) Try.func213 rfl N an0 rfl (Y5 .bool) (by kernel_rfl)⟩
end Z4e
namespace Z0x
def sG := sgV [.val i64, .val ty12, .val ty0] [(.bool, .dp)]
noncomputable def eS : List EnTry := [Z4e.eE N, Z1i.eE N, Z60.eE N, Z1j.eE N]
def an_ : Nat -> Option (List Nat)
 | 0 => some [0, 1, 2, 7]
 | _ => none
noncomputable def lP (p : List Dir) (rs : List (Env -> Option (Bool))) (k : Nat) (env : Env) : Option (Bool) :=
 lpE (eS N) N an_ p Try.f212 (endK Tb sG Try.f212 [] (un1 .bool)) rs k env
noncomputable def El0 (k_ : Nat) (n2 : Int) (l2 : E0) (s2 : I0) (x : Int) : Option (Bool) :=
 lP N [.r, .r, .l, .r, .b] [] k_ (.con .val [lf i64 n2 .ro] :: (.con .val [lf ty12 l2 .ro] :: (.con .val [lf ty0 s2 .ro] :: (un 4 (.con .val [lf i64 x .ro] :: (un 25 []))))))
theorem ql0 (N : Nat) : ∀ k_, El0 N k_ = Z10 N k_
 | 0 => by kernel_rfl
 | k_ + 1 => (show El0 N (k_ + 1) = Z26 N (El0 N k_) from by kernel_rfl).trans (by simp only [ql0 N k_]; rfl)
noncomputable def eE : EnTry := ⟨212, sG, [.v i64, .v ty12, .v ty0], _, Z0x N, pk1 .bool, enK Try.func212 (by kernel_rfl),
 fun n l s => eok (eS N) (by kernel_rfl) Try.func212 rfl N an_ rfl (Y5 .bool) (.trans (b := Z4g N (El0 N N) n l s) (by kernel_rfl) (by rw [ql0]; rfl))⟩
end Z0x
namespace Z66
def sG := sgV [.val i64, .val ty12, .val ty0, .val i64] [(ty13, .dp)]
theorem eN : Enterable Try.prog 180 := Y6h Try.func180 (code := Try.f180.body.getD .skip) (by kernel_rfl) (by kernel_rfl)
noncomputable def eS (Rf : Int -> E0 -> I0 -> Int -> Option L0) (hR : OkP (Option L0) [.v i64, .v ty12, .v ty0, .v i64] Rf (fun xs_ q => ∀ x, q = some x -> FnOk Try.prog 180 sG xs_ (pk1 ty13 x))) : List EnTry := [Z0x.eE N, Z4e.eE N, ⟨180, sG, [.v i64, .v ty12, .v ty0, .v i64], L0, Rf, pk1 ty13, eN, hR⟩]
def an_ : Nat -> Option (List Nat)
 | 0 => some [0, 1, 2, 3, 9, 10, 11]
 | _ => none
noncomputable def lP (Rf : Int -> E0 -> I0 -> Int -> Option L0) (hR : OkP (Option L0) [.v i64, .v ty12, .v ty0, .v i64] Rf (fun xs_ q => ∀ x, q = some x -> FnOk Try.prog 180 sG xs_ (pk1 ty13 x))) (p : List Dir) (rs : List (Env -> Option L0)) (k : Nat) (env : Env) : Option L0 :=
 lpE (eS N Rf hR) N an_ p Try.f180 (endK Tb sG Try.f180 [] (un1 ty13)) rs k env
noncomputable def El0 (Rf : Int -> E0 -> I0 -> Int -> Option L0) (hR : OkP (Option L0) [.v i64, .v ty12, .v ty0, .v i64] Rf (fun xs_ q => ∀ x, q = some x -> FnOk Try.prog 180 sG xs_ (pk1 ty13 x))) (k_ : Nat) (n2 : Int) (l2 : E0) (s2 : I0) (x2 : Int) (out : L0) (met : Bool) (i : Int) : Option L0 :=
 lP N Rf hR [.r, .r, .r, .r, .r, .l, .r, .b] [] k_ (.con .val [lf i64 n2 .ro] :: (.con .val [lf ty12 l2 .ro] :: (.con .val [lf ty0 s2 .ro] :: (.con .val [lf i64 x2 .ro] :: (un 5 (.con .val [lf ty13 out .dp] :: (.con .val [lf .bool met .ro] :: (.con .val [lf i64 i .ro] :: (un 63 [])))))))))
theorem ql0 (N : Nat) (Rf : Int -> E0 -> I0 -> Int -> Option L0) (hR : OkP (Option L0) [.v i64, .v ty12, .v ty0, .v i64] Rf (fun xs_ q => ∀ x, q = some x -> FnOk Try.prog 180 sG xs_ (pk1 ty13 x))) : ∀ k_, El0 N Rf hR k_ = Z45 N Rf k_
 | 0 => by kernel_rfl
 | k_ + 1 => (show El0 N Rf hR (k_ + 1) = Z62 N Rf (El0 N Rf hR k_) from by kernel_rfl).trans (by simp only [ql0 N Rf hR k_]; rfl)
theorem vV (Rf : Int -> E0 -> I0 -> Int -> Option L0) (hR : OkP (Option L0) [.v i64, .v ty12, .v ty0, .v i64] Rf (fun xs_ q => ∀ x, q = some x -> FnOk Try.prog 180 sG xs_ (pk1 ty13 x))) (n : Int) (l : E0) (s : I0) (x : Int) :
  evE (eS N Rf hR) N an_ sG Try.f180 [.val i64 n, .val ty12 l, .val ty0 s, .val i64 x] (un1 ty13) = Z6f N Rf (El0 N Rf hR N) n l s x := by kernel_rfl
theorem oK (N : Nat) : ∀ k_, OkP (Option L0) [.v i64, .v ty12, .v ty0, .v i64] (Z2n N k_) (fun xs_ q => ∀ x, q = some x -> FnOk Try.prog 180 sG xs_ (pk1 ty13 x))
 | 0 => fun n l s x =>  fun x h => absurd (show (none : Option L0) = some x from h) (by simp)
 | k_ + 1 => fun n l s x => Y6g tab_ok (es := eS N (Z2n N k_) (oK N k_)) (by kernel_rfl) mixed Try.func180 (by kernel_rfl) ⟨⟨rfl, rfl⟩, rfl, rfl⟩ (Y5 ty13) ((vV N _ _ n l s x).trans (by rw [ql0]; rfl))
noncomputable def eE : EnTry := ⟨180, sG, [.v i64, .v ty12, .v ty0, .v i64], L0, Z66 N, pk1 ty13, eN, oK N N⟩
end Z66
namespace Z0k
def sG := sgV [.val i64, .val ty12] [(ty13, .dp)]
noncomputable def eS : List EnTry := [Z1i.eE N, Z66.eE N]
noncomputable def eE : EnTry := ⟨135, sG, [.v i64, .v ty12], _, Z0k N, pk1 ty13, enK Try.func135 (by kernel_rfl),
 fun n l => eok (eS N) (by kernel_rfl) Try.func135 rfl N an0 rfl (Y5 ty13) (by kernel_rfl)⟩
end Z0k
namespace Z2j
def sG := sgV [.val ty9, .val ty11] [(ty13, .dp)]
noncomputable def eS : List EnTry := [Z8.eE N, Z2i.eE N, Z0k.eE N]
noncomputable def eE : EnTry := ⟨67, sG, [.v ty9, .v ty11], _, Z2j N, pk1 ty13, enK Try.func67 (by kernel_rfl),
 fun d l => eok (eS N) (by kernel_rfl) Try.func67 rfl N an0 rfl (Y5 ty13) (by kernel_rfl)⟩
end Z2j
namespace Z19
def sG := sgV [.val ty9, .val ty11] [(ty13, .dp)]
noncomputable def eS : List EnTry := [Z2j.eE N]
def an_ : Nat -> Option (List Nat)
 | 0 => some [5, 6, 7, 8]
 | 2 => some [5, 6, 7, 9]
 | _ => none
noncomputable def lP (p : List Dir) (rs : List (Env -> Option L0)) (k : Nat) (env : Env) : Option L0 :=
 lpES (eS N) N an_ p Try.f74 (endK Tb sG Try.f74 [] (un1 ty13)) rs k env
noncomputable def El2 (k_ : Nat) (outx : I0) (out3 : L0) (all3 : L0) (n3 : Int) (i3 : Int) : Option L0 :=
 lP N [.r, .r, .r, .r, .r, .l, .r, .b] [] k_ (un 5 (.sel 6 0 38 3 i64 outx out3 :: (.con .val [lf ty13 all3 .dp] :: (.con .val [lf i64 n3 .ro] :: (un 1 (.con .val [lf i64 i3 .ro] :: (un 38 [])))))))
noncomputable def El1 (k_ : Nat) (out2 : L0) (all2 : L0) (n2 : Int) (i2 : Int) : Option L0 :=
 lP N [.r, .r, .r, .r, .r, .l, .r, .b] [] k_ (un 5 (.con .val [lf ty13 out2 .dp] :: (.con .val [lf ty13 all2 .dp] :: (.con .val [lf i64 n2 .ro] :: (un 1 (.con .val [lf i64 i2 .ro] :: (un 38 [])))))))
noncomputable def El0 (k_ : Nat) (out : L0) (all : L0) (n : Int) (i : Int) : Option L0 :=
 lP N [.r, .r, .r, .r, .l, .r, .b] [] k_ (un 5 (.con .val [lf ty13 out .dp] :: (.con .val [lf ty13 all .dp] :: (.con .val [lf i64 n .ro] :: (.con .val [lf i64 i .ro] :: (un 39 []))))))
theorem ql2 (N : Nat) : ∀ k_, El2 N k_ = Z1c N k_
 | 0 => by kernel_rfl
 | k_ + 1 => (show El2 N (k_ + 1) = Z2p N (El2 N k_) from by kernel_rfl).trans (by simp only [ql2 N k_]; rfl)
theorem ql1 (N : Nat) : ∀ k_, El1 N k_ = Z1d N k_
 | 0 => by kernel_rfl
 | k_ + 1 => (show El1 N (k_ + 1) = Z2q N (El2 N k_) (El1 N k_) from by kernel_rfl).trans (by simp only [ql2, ql1 N k_]; rfl)
theorem ql0 (N : Nat) : ∀ k_, El0 N k_ = Z1e N k_
 | 0 => by kernel_rfl
 | k_ + 1 => (show El0 N (k_ + 1) = Z2r N (El1 N N) (El0 N k_) from by kernel_rfl).trans (by simp only [ql1, ql0 N k_]; rfl)
noncomputable def eE : EnTry := ⟨74, sG, [.v ty9, .v ty11], _, Z19 N, pk1 ty13, enK Try.func74 (by kernel_rfl),
 fun d l => eokS (eS N) (by kernel_rfl) Try.func74 rfl N an_ rfl (Y5 ty13) (.trans (b := Z4v N (El0 N N) d l) (by kernel_rfl) (by rw [ql0]; rfl))⟩
end Z19
namespace Z5
def sG := sgV [.val i64, .val i64, .val i64] [(.bool, .dp)]
noncomputable def eS (N : Nat) : List EnTry := []
noncomputable def eE : EnTry := ⟨103, sG, [.v i64, .v i64, .v i64], _, Z5 N, pk1 .bool, enK Try.func103 (by kernel_rfl),
 fun n low high => eok (eS N) (by kernel_rfl) Try.func103 rfl N an0 rfl (Y5 .bool) (by kernel_rfl)⟩
end Z5
namespace Z1y
def sG := sgV [.val ty1] [(.bool, .dp)]
noncomputable def eS : List EnTry := [Z5.eE N]
noncomputable def eE : EnTry := ⟨189, sG, [.v ty1], _, Z1y N, pk1 .bool, enK Try.func189 (by kernel_rfl),
 fun relation => eok (eS N) (by kernel_rfl) Try.func189 rfl N an0 rfl (Y5 .bool) (by kernel_rfl)⟩
end Z1y
namespace Z1l
def sG := sgV [.val ty7] [(.bool, .dp)]
noncomputable def eS : List EnTry := [Z1y.eE N]
def an_ : Nat -> Option (List Nat)
 | 0 => some [0, 5, 6, 7]
 | _ => none
noncomputable def lP (p : List Dir) (rs : List (Env -> Option (Bool))) (k : Nat) (env : Env) : Option (Bool) :=
 lpE (eS N) N an_ p Try.f143 (endK Tb sG Try.f143 [] (un1 .bool)) rs k env
noncomputable def El0 (k_ : Nat) (relations2 : R0) (t5 : R0) (t6 : Int) (t7 : Int) : Option (Bool) :=
 lP N [.r, .l, .r, .b] [] k_ (.con .val [lf ty7 relations2 .ro] :: (un 4 (.con .val [lf ty7 t5 .ro] :: (.con .val [lf i64 t6 .ro] :: (.con .val [lf i64 t7 .ro] :: (un 26 []))))))
theorem ql0 (N : Nat) : ∀ k_, El0 N k_ = Z1n N k_
 | 0 => by kernel_rfl
 | k_ + 1 => (show El0 N (k_ + 1) = Z2z N (El0 N k_) from by kernel_rfl).trans (by simp only [ql0 N k_]; rfl)
noncomputable def eE : EnTry := ⟨143, sG, [.v ty7], _, Z1l N, pk1 .bool, enK Try.func143 (by kernel_rfl),
 fun relations => eok (eS N) (by kernel_rfl) Try.func143 rfl N an_ rfl (Y5 .bool) (.trans (b := Z55 N (El0 N N) relations) (by kernel_rfl) (by rw [ql0]; rfl))⟩
end Z1l
namespace Z3t
def sG := sgV [.val i64] [(.bool, .dp)]
noncomputable def eS : List EnTry := [Z5.eE N]
noncomputable def eE : EnTry := ⟨217, sG, [.v i64], _, Z3t N, pk1 .bool, enK Try.func217 (by kernel_rfl),
 fun v => eok (eS N) (by kernel_rfl) Try.func217 rfl N an0 rfl (Y5 .bool) (by kernel_rfl)⟩
end Z3t
namespace Z9
def sG := sgV [.val ty0, .clo] [(i64, .dp)]
noncomputable def eS : List EnTry := [Z3t.eE N]
def an_ : Nat -> Option (List Nat)
 | 0 => some [0, 1, 7, 8]
 | _ => none
noncomputable def lP (p : List Dir) (rs : List (Env -> Option (Int))) (k : Nat) (env : Env) : Option (Int) :=
 lpE (eS N) N an_ p Try.f167 (endK Tb sG Try.f167 [] (un1 i64)) rs k env
noncomputable def El0 (k_ : Nat) (s2 : I0) (t7 : Int) (t8 : Int) : Option (Int) :=
 lP N [.r, .l, .r, .b] [] k_ (.con .val [lf ty0 s2 .ro] :: (.cloR 217 [] :: (un 5 (.con .val [lf i64 t7 .ro] :: (.con .val [lf i64 t8 .ro] :: (un 10 []))))))
theorem ql0 (N : Nat) : ∀ k_, El0 N k_ = Z6 N k_
 | 0 => by kernel_rfl
 | k_ + 1 => (show El0 N (k_ + 1) = Z0n N (El0 N k_) from by kernel_rfl).trans (by simp only [ql0 N k_]; rfl)
noncomputable def eE : EnTry := ⟨167, sG, [.v ty0, .c 217 []], _, Z9 N, pk1 i64, enK Try.func167 (by kernel_rfl),
 fun s => eok (eS N) (by kernel_rfl) Try.func167 rfl N an_ rfl (Y5 i64) (.trans (b := Z1z N (El0 N N) s) (by kernel_rfl) (by rw [ql0]; rfl))⟩
end Z9
namespace Z7
def sG := sgV [.val ty0, .clo] [(.bool, .dp)]
noncomputable def eS : List EnTry := [Z9.eE N]
noncomputable def eE : EnTry := ⟨119, sG, [.v ty0, .c 217 []], _, Z7 N, pk1 .bool, enK Try.func119 (by kernel_rfl),
 fun s => eok (eS N) (by kernel_rfl) Try.func119 rfl N an0 rfl (Y5 .bool) (by kernel_rfl)⟩
end Z7
namespace Z46
def sG := sgV [.val ty0] [(.bool, .dp)]
noncomputable def eS : List EnTry := [Z7.eE N]
noncomputable def eE : EnTry := ⟨190, sG, [.v ty0], _, Z46 N, pk1 .bool, enK Try.func190 (by kernel_rfl),
 fun list => eok (eS N) (by kernel_rfl) Try.func190 rfl N an0 rfl (Y5 .bool) (by kernel_rfl)⟩
end Z46
namespace Z5o
def sG := sgV [.val ty7, .val ty3] [(.bool, .dp)]
noncomputable def eS : List EnTry := [Z5.eE N, Z46.eE N]
noncomputable def eE : EnTry := ⟨144, sG, [.v ty7, .v ty3], _, Z5o N, pk1 .bool, enK Try.func144 (by kernel_rfl),
 fun relations fact => eok (eS N) (by kernel_rfl) Try.func144 rfl N an0 rfl (Y5 .bool) (by kernel_rfl)⟩
end Z5o
namespace Z5w
def sG := sgV [.val i64, .val i64] [(i64, .dp)]
noncomputable def eS (N : Nat) : List EnTry := []
noncomputable def eE : EnTry := ⟨177, sG, [.v i64, .v i64], _, Z5w N, pk1 i64, enK Try.func177 (by kernel_rfl),
 fun a b => eok (eS N) (by kernel_rfl) Try.func177 rfl N an0 rfl (Y5 i64) (by kernel_rfl)⟩
end Z5w
namespace Z4s
def sG := sgV [.val i64] [(.bool, .dp)]
noncomputable def eS (N : Nat) : List EnTry := []
noncomputable def eE : EnTry := ⟨224, sG, [.v i64], _, Z4s N, pk1 .bool, enK Try.func224 (by kernel_rfl),
 fun x => eok (eS N) (by kernel_rfl) Try.func224 rfl N an0 rfl (Y5 .bool) (by kernel_rfl)⟩
end Z4s
namespace Z3o
def sG := sgV [.val i64, .val i64] [(i64, .dp)]
noncomputable def eS : List EnTry := [Z4s.eE N]
noncomputable def eE : EnTry := ⟨211, sG, [.v i64, .v i64], _, Z3o N, pk1 i64, enK Try.func211 (by kernel_rfl),
 fun x y => eok (eS N) (by kernel_rfl) Try.func211 rfl N an0 rfl (Y5 i64) (by kernel_rfl)⟩
end Z3o
namespace Z1a
def sG := sgV [.val ty0, .val ty0] [(i64, .dp)]
noncomputable def eS : List EnTry := [Z3o.eE N]
def an_ : Nat -> Option (List Nat)
 | 0 => some [0, 1, 9, 10, 11]
 | _ => none
noncomputable def lP (p : List Dir) (rs : List (Env -> Option (Int))) (k : Nat) (env : Env) : Option (Int) :=
 lpE (eS N) N an_ p Try.f178 (endK Tb sG Try.f178 [] (un1 i64)) rs k env
noncomputable def El0 (k_ : Nat) (s12 : I0) (s22 : I0) (t9 : I0) (t10 : Int) (t11 : Int) : Option (Int) :=
 lP N [.r, .l, .r, .b] [] k_ (.con .val [lf ty0 s12 .ro] :: (.con .val [lf ty0 s22 .ro] :: (un 7 (.con .val [lf ty0 t9 .ro] :: (.con .val [lf i64 t10 .ro] :: (.con .val [lf i64 t11 .ro] :: (un 24 [])))))))
theorem ql0 (N : Nat) : ∀ k_, El0 N k_ = Z0r N k_
 | 0 => by kernel_rfl
 | k_ + 1 => (show El0 N (k_ + 1) = Z1o N (El0 N k_) from by kernel_rfl).trans (by simp only [ql0 N k_]; rfl)
noncomputable def eE : EnTry := ⟨178, sG, [.v ty0, .v ty0], _, Z1a N, pk1 i64, enK Try.func178 (by kernel_rfl),
 fun s1 s2 => eok (eS N) (by kernel_rfl) Try.func178 rfl N an_ rfl (Y5 i64) (.trans (b := Z4w N (El0 N N) s1 s2) (by kernel_rfl) (by rw [ql0]; rfl))⟩
end Z1a
namespace Z2x
def sG := sgV [.val ty3, .val ty3] [(i64, .dp)]
noncomputable def eS : List EnTry := [Z5w.eE N, Z1a.eE N]
noncomputable def eE : EnTry := ⟨132, sG, [.v ty3, .v ty3], _, Z2x N, pk1 i64, enK Try.func132 (by kernel_rfl),
 fun a b => eok (eS N) (by kernel_rfl) Try.func132 rfl N an0 rfl (Y5 i64) (by kernel_rfl)⟩
end Z2x
namespace Z0h
def sG := sgV [.val ty9] [(.bool, .dp)]
noncomputable def eS : List EnTry := [Z5o.eE N, Z2x.eE N, Z1l.eE N]
def an_ : Nat -> Option (List Nat)
 | 0 => some [1, 16, 17, 18]
 | _ => none
noncomputable def lP (p : List Dir) (rs : List (Env -> Option (Bool))) (k : Nat) (env : Env) : Option (Bool) :=
 lpE (eS N) N an_ p Try.f79 (endK Tb sG Try.f79 [] (un1 .bool)) rs k env
noncomputable def El0 (k_ : Nat) (db2 : R0) (db3 : A0) (t16 : A0) (t17 : Int) (t18 : Int) : Option (Bool) :=
 lP N [.r, .r, .l, .r, .b] [] k_ (un 1 (.con (.box ⟨27, false, []⟩) [lf ty7 db2 .ro, lf ty8 db3 .ro] :: (un 14 (.con .val [lf ty8 t16 .ro] :: (.con .val [lf i64 t17 .ro] :: (.con .val [lf i64 t18 .ro] :: (un 25 [])))))))
theorem ql0 (N : Nat) : ∀ k_, El0 N k_ = Z1x N k_
 | 0 => by kernel_rfl
 | k_ + 1 => (show El0 N (k_ + 1) = Z3k N (El0 N k_) from by kernel_rfl).trans (by simp only [ql0 N k_]; rfl)
noncomputable def eE : EnTry := ⟨79, sG, [.v ty9], _, Z0h N, pk1 .bool, enK Try.func79 (by kernel_rfl),
 fun db => eok (eS N) (by kernel_rfl) Try.func79 rfl N an_ rfl (Y5 .bool) (.trans (b := Z5p N (El0 N N) db) (by kernel_rfl) (by rw [ql0]; rfl))⟩
end Z0h
namespace Z1m
def sG := sgV [.val ty9, .val ty10] [(.bool, .dp)]
noncomputable def eS : List EnTry := [Z0h.eE N, Z5.eE N]
noncomputable def eE : EnTry := ⟨198, sG, [.v ty9, .v ty10], _, Z1m N, pk1 .bool, enK Try.func198 (by kernel_rfl),
 fun db constraint => eok (eS N) (by kernel_rfl) Try.func198 rfl N an0 rfl (Y5 .bool) (by kernel_rfl)⟩
end Z1m
namespace Z5g
def sG := sgV [.val ty10, .val ty3, .val ty3] [(.bool, .dp)]
noncomputable def eS (N : Nat) : List EnTry := []
noncomputable def eE : EnTry := ⟨199, sG, [.v ty10, .v ty3, .v ty3], _, Z5g N, pk1 .bool, enK Try.func199 (by kernel_rfl),
 fun c a b => eok (eS N) (by kernel_rfl) Try.func199 rfl N an0 rfl (Y5 .bool) (by kernel_rfl)⟩
end Z5g
namespace Z0u
def sG := sgV [.val ty9, .val ty10, .val i64, .val i64] [(.bool, .dp)]
noncomputable def eS : List EnTry := [Z1m.eE N, Z5.eE N, Z5g.eE N]
noncomputable def eE : EnTry := ⟨172, sG, [.v ty9, .v ty10, .v i64, .v i64], _, Z0u N, pk1 .bool, enK Try.func172 (by kernel_rfl),
 fun db constraint first second => eok (eS N) (by kernel_rfl) Try.func172 rfl N an0 rfl (Y5 .bool) (by kernel_rfl)⟩
end Z0u
namespace Z1q
def sG := sgV [.val ty0, .val ty0] [(.bool, .dp)]
noncomputable def eS (N : Nat) : List EnTry := []
def an_ : Nat -> Option (List Nat)
 | 0 => some [0, 1, 12, 13]
 | _ => none
noncomputable def lP (p : List Dir) (rs : List (Env -> Option (Bool))) (k : Nat) (env : Env) : Option (Bool) :=
 lpE (eS N) N an_ p Try.f196 (endK Tb sG Try.f196 [] (un1 .bool)) rs k env
noncomputable def El0 (k_ : Nat) (s12 : I0) (s22 : I0) (t12 : Int) (t13 : Int) : Option (Bool) :=
 lP N [.r, .r, .l, .r, .b] [] k_ (.con .val [lf ty0 s12 .ro] :: (.con .val [lf ty0 s22 .ro] :: (un 10 (.con .val [lf i64 t12 .ro] :: (.con .val [lf i64 t13 .ro] :: (un 12 []))))))
theorem ql0 (N : Nat) : ∀ k_, El0 N k_ = Z1p N k_
 | 0 => by kernel_rfl
 | k_ + 1 => (show El0 N (k_ + 1) = Z36 N (El0 N k_) from by kernel_rfl).trans (by simp only [ql0 N k_]; rfl)
noncomputable def eE : EnTry := ⟨196, sG, [.v ty0, .v ty0], _, Z1q N, pk1 .bool, enK Try.func196 (by kernel_rfl),
 fun s1 s2 => eok (eS N) (by kernel_rfl) Try.func196 rfl N an_ rfl (Y5 .bool) (.trans (b := Z5b N (El0 N N) s1 s2) (by kernel_rfl) (by rw [ql0]; rfl))⟩
end Z1q
namespace Z56
def sG := sgV [.val ty7, .val ty3, .val ty3] [(.bool, .dp)]
noncomputable def eS : List EnTry := [Z1q.eE N]
noncomputable def eE : EnTry := ⟨162, sG, [.v ty7, .v ty3, .v ty3], _, Z56 N, pk1 .bool, enK Try.func162 (by kernel_rfl),
 fun relations a b => eok (eS N) (by kernel_rfl) Try.func162 rfl N an0 rfl (Y5 .bool) (by kernel_rfl)⟩
end Z56
namespace Z1s
def sG := sgV [.val i64, .val i64, .ptr ty11, .ptr ty9] [(.bool, .dp)]
noncomputable def eS : List EnTry := [Z0u.eE N, Z56.eE N]
def an_ : Nat -> Option (List Nat)
 | 0 => some [0, 1, 3, 9, 10, 11]
 | _ => none
noncomputable def lP (p : List Dir) (rs : List (Env -> Option (Bool))) (k : Nat) (env : Env) : Option (Bool) :=
 lpE (eS N) N an_ p Try.f171 (endK Tb sG Try.f171 [] (un1 .bool)) rs k env
noncomputable def El0 (k_ : Nat) (a2 : Int) (b2 : Int) (t3 : R0) (t32 : A0) (t9 : List C0) (t10 : Int) (t11 : Int) : Option (Bool) :=
 lP N [.r, .l, .r, .b] [] k_ (.con .val [lf i64 a2 .ro] :: (.con .val [lf i64 b2 .ro] :: (un 1 (.eptr [lf ty7 t3 .ro, lf ty8 t32 .ro] none :: (un 5 (.con .val [lf ty11 t9 .ro] :: (.con .val [lf i64 t10 .ro] :: (.con .val [lf i64 t11 .ro] :: (un 29 [])))))))))
theorem ql0 (N : Nat) : ∀ k_, El0 N k_ = Z1r N k_
 | 0 => by kernel_rfl
 | k_ + 1 => (show El0 N (k_ + 1) = Z37 N (El0 N k_) from by kernel_rfl).trans (by simp only [ql0 N k_]; rfl)
noncomputable def eE : EnTry := ⟨171, sG, [.v i64, .v i64, .p ty11, .p ty9], _, Z1s N, pk1 .bool, enK Try.func171 (by kernel_rfl),
 fun a b c2 c3 => eok (eS N) (by kernel_rfl) Try.func171 rfl N an_ rfl (Y5 .bool) (.trans (b := Z5c N (El0 N N) a b c2 c3) (by kernel_rfl) (by rw [ql0]; rfl))⟩
end Z1s
namespace Z17
def sG := sgV [.val i64, .clo] [(ty12, .dp)]
noncomputable def eS : List EnTry := [Z1s.eE N]
def an_ : Nat -> Option (List Nat)
 | 0 => some [0, 1, 5, 9, 10]
 | 2 => some [0, 1, 5, 6, 7, 9, 10]
 | _ => none
noncomputable def lP (p : List Dir) (rs : List (Env -> Option E0)) (k : Nat) (env : Env) : Option E0 :=
 lpE (eS N) N an_ p Try.f170 (endK Tb sG Try.f170 [] (un1 ty12)) rs k env
noncomputable def El1 (k0_ : Nat) (k_ : Nat) (n3 : Int) (holds3 : List C0) (holds4 : D0) (out2 : E0) (a : Int) (b : Int) (t92 : Int) (t102 : Int) : Option E0 :=
 lP N [.r, .r, .l, .r, .b, .b, .r, .r, .l, .b, .r, .r, .b] [lP N [.r, .r, .l, .r, .b] [] k0_] k_ (.con .val [lf i64 n3 .ro] :: (.cloR 171 [⟨ty11, holds3⟩, ⟨ty9, holds4⟩] :: (un 3 (.con .val [lf ty12 out2 .dp] :: (.con .val [lf i64 a .ro] :: (.con .val [lf i64 b .ro] :: (un 1 (.con .val [lf i64 t92 .ro] :: (.con .val [lf i64 t102 .ro] :: (un 21 []))))))))))
noncomputable def El0 (k_ : Nat) (n2 : Int) (holds : List C0) (holds2 : D0) (out : E0) (t9 : Int) (t10 : Int) : Option E0 :=
 lP N [.r, .r, .l, .r, .b] [] k_ (.con .val [lf i64 n2 .ro] :: (.cloR 171 [⟨ty11, holds⟩, ⟨ty9, holds2⟩] :: (un 3 (.con .val [lf ty12 out .dp] :: (un 3 (.con .val [lf i64 t9 .ro] :: (.con .val [lf i64 t10 .ro] :: (un 21 []))))))))
theorem ql1 (N : Nat) (k0_ : Nat) : ∀ k_, El1 N k0_ k_ = Z0i (El0 N k0_) N k_
 | 0 => by kernel_rfl
 | k_ + 1 => (show El1 N k0_ (k_ + 1) = Z20 N (El0 N k0_) (El1 N k0_ k_) from by kernel_rfl).trans (by simp only [ql1 N k0_ k_]; rfl)
theorem ql0 (N : Nat) : ∀ k_, El0 N k_ = Z0j N k_
 | 0 => by kernel_rfl
 | k_ + 1 => (show El0 N (k_ + 1) = Z21 N (El1 N k_ N) (El0 N k_) from by kernel_rfl).trans (by simp only [ql1, ql0 N k_]; rfl)
noncomputable def eE : EnTry := ⟨170, sG, [.v i64, .c 171 [ty11, ty9]], _, Z17 N, pk1 ty12, enK Try.func170 (by kernel_rfl),
 fun n c c2 => eok (eS N) (by kernel_rfl) Try.func170 rfl N an_ rfl (Y5 ty12) (.trans (b := Z3x N (El0 N N) n c c2) (by kernel_rfl) (by rw [ql0]; rfl))⟩
end Z17
namespace Z2k
def sG := sgV [.val ty9, .val ty11] [(ty12, .dp)]
noncomputable def eS : List EnTry := [Z0h.eE N, Z17.eE N]
noncomputable def eE : EnTry := ⟨127, sG, [.v ty9, .v ty11], _, Z2k N, pk1 ty12, enK Try.func127 (by kernel_rfl),
 fun db constraints => eok (eS N) (by kernel_rfl) Try.func127 rfl N an0 rfl (Y5 ty12) (by kernel_rfl)⟩
end Z2k
namespace Z1k
def sG := sgV [.val i64, .val ty12] [(.bool, .dp)]
noncomputable def eS : List EnTry := [Z5.eE N]
def an_ : Nat -> Option (List Nat)
 | 0 => some [0, 1, 10, 11, 12]
 | _ => none
noncomputable def lP (p : List Dir) (rs : List (Env -> Option (Bool))) (k : Nat) (env : Env) : Option (Bool) :=
 lpE (eS N) N an_ p Try.f181 (endK Tb sG Try.f181 [] (un1 .bool)) rs k env
noncomputable def El0 (k_ : Nat) (n2 : Int) (edges2 : E0) (t10 : E0) (t11 : Int) (t12 : Int) : Option (Bool) :=
 lP N [.r, .r, .l, .r, .b] [] k_ (.con .val [lf i64 n2 .ro] :: (.con .val [lf ty12 edges2 .ro] :: (un 8 (.con .val [lf ty12 t10 .ro] :: (.con .val [lf i64 t11 .ro] :: (.con .val [lf i64 t12 .ro] :: (un 58 [])))))))
theorem ql0 (N : Nat) : ∀ k_, El0 N k_ = Z2b N k_
 | 0 => by kernel_rfl
 | k_ + 1 => (show El0 N (k_ + 1) = Z42 N (El0 N k_) from by kernel_rfl).trans (by simp only [ql0 N k_]; rfl)
noncomputable def eE : EnTry := ⟨181, sG, [.v i64, .v ty12], _, Z1k N, pk1 .bool, enK Try.func181 (by kernel_rfl),
 fun n edges => eok (eS N) (by kernel_rfl) Try.func181 rfl N an_ rfl (Y5 .bool) (.trans (b := Z63 N (El0 N N) n edges) (by kernel_rfl) (by rw [ql0]; rfl))⟩
end Z1k
namespace Z3p
def sG := sgV [.val ty0, .val i64] [(.bool, .dp)]
noncomputable def eS : List EnTry := [Z5.eE N]
def an_ : Nat -> Option (List Nat)
 | 0 => some [0, 1, 7, 8, 9]
 | _ => none
noncomputable def lP (p : List Dir) (rs : List (Env -> Option (Bool))) (k : Nat) (env : Env) : Option (Bool) :=
 lpE (eS N) N an_ p Try.f121 (endK Tb sG Try.f121 [] (un1 .bool)) rs k env
noncomputable def El0 (k_ : Nat) (indices2 : I0) (n2 : Int) (t7 : I0) (t8 : Int) (t9 : Int) : Option (Bool) :=
 lP N [.r, .l, .r, .b] [] k_ (.con .val [lf ty0 indices2 .ro] :: (.con .val [lf i64 n2 .ro] :: (un 5 (.con .val [lf ty0 t7 .ro] :: (.con .val [lf i64 t8 .ro] :: (.con .val [lf i64 t9 .ro] :: (un 23 [])))))))
theorem ql0 (N : Nat) : ∀ k_, El0 N k_ = Z3h N k_
 | 0 => by kernel_rfl
 | k_ + 1 => (show El0 N (k_ + 1) = Z4x N (El0 N k_) from by kernel_rfl).trans (by simp only [ql0 N k_]; rfl)
noncomputable def eE : EnTry := ⟨121, sG, [.v ty0, .v i64], _, Z3p N, pk1 .bool, enK Try.func121 (by kernel_rfl),
 fun indices n => eok (eS N) (by kernel_rfl) Try.func121 rfl N an_ rfl (Y5 .bool) (.trans (b := Z6e N (El0 N N) indices n) (by kernel_rfl) (by rw [ql0]; rfl))⟩
end Z3p
namespace Z2c
def sG := sgV [.val ty0, .val i64] [(i64, .dp)]
noncomputable def eS (N : Nat) : List EnTry := []
def an_ : Nat -> Option (List Nat)
 | 0 => some [0, 1, 7, 8]
 | _ => none
noncomputable def lP (p : List Dir) (rs : List (Env -> Option (Int))) (k : Nat) (env : Env) : Option (Int) :=
 lpE (eS N) N an_ p Try.f194 (endK Tb sG Try.f194 [] (un1 i64)) rs k env
noncomputable def El0 (k_ : Nat) (s2 : I0) (v2 : Int) (t7 : Int) (t8 : Int) : Option (Int) :=
 lP N [.r, .l, .r, .b] [] k_ (.con .val [lf ty0 s2 .ro] :: (.con .val [lf i64 v2 .ro] :: (un 5 (.con .val [lf i64 t7 .ro] :: (.con .val [lf i64 t8 .ro] :: (un 10 []))))))
theorem ql0 (N : Nat) : ∀ k_, El0 N k_ = Z1t N k_
 | 0 => by kernel_rfl
 | k_ + 1 => (show El0 N (k_ + 1) = Z38 N (El0 N k_) from by kernel_rfl).trans (by simp only [ql0 N k_]; rfl)
noncomputable def eE : EnTry := ⟨194, sG, [.v ty0, .v i64], _, Z2c N, pk1 i64, enK Try.func194 (by kernel_rfl),
 fun s v => eok (eS N) (by kernel_rfl) Try.func194 rfl N an_ rfl (Y5 i64) (.trans (b := Z5d N (El0 N N) s v) (by kernel_rfl) (by rw [ql0]; rfl))⟩
end Z2c
namespace Z0b
def sG := sgV [.val ty0, .val i64] [(.bool, .dp)]
noncomputable def eS : List EnTry := [Z2c.eE N]
noncomputable def eE : EnTry := ⟨157, sG, [.v ty0, .v i64], _, Z0b N, pk1 .bool, enK Try.func157 (by kernel_rfl),
 fun s v => eok (eS N) (by kernel_rfl) Try.func157 rfl N an0 rfl (Y5 .bool) (by kernel_rfl)⟩
end Z0b
namespace Z2d
def sG := sgV [.val ty14, .ptr ty0] [(.bool, .dp)]
noncomputable def eS : List EnTry := [Z0b.eE N]
noncomputable def eE : EnTry := ⟨216, sG, [.v ty14, .p ty0], _, Z2d N, pk1 .bool, enK Try.func216 (by kernel_rfl),
 fun e c1 => eok (eS N) (by kernel_rfl) Try.func216 rfl N an0 rfl (Y5 .bool) (by kernel_rfl)⟩
end Z2d
namespace Z2
def sG := sgV [.val ty12, .clo] [(i64, .dp)]
noncomputable def eS : List EnTry := [Z2d.eE N]
def an_ : Nat -> Option (List Nat)
 | 0 => some [0, 1, 7, 8]
 | _ => none
noncomputable def lP (p : List Dir) (rs : List (Env -> Option (Int))) (k : Nat) (env : Env) : Option (Int) :=
 lpE (eS N) N an_ p Try.f227 (endK Tb sG Try.f227 [] (un1 i64)) rs k env
noncomputable def El0 (k_ : Nat) (s2 : E0) (f : I0) (t7 : Int) (t8 : Int) : Option (Int) :=
 lP N [.r, .l, .r, .b] [] k_ (.con .val [lf ty12 s2 .ro] :: (.cloR 216 [⟨ty0, f⟩] :: (un 5 (.con .val [lf i64 t7 .ro] :: (.con .val [lf i64 t8 .ro] :: (un 10 []))))))
theorem ql0 (N : Nat) : ∀ k_, El0 N k_ = Z0 N k_
 | 0 => by kernel_rfl
 | k_ + 1 => (show El0 N (k_ + 1) = Z3 N (El0 N k_) from by kernel_rfl).trans (by simp only [ql0 N k_]; rfl)
noncomputable def eE : EnTry := ⟨227, sG, [.v ty12, .c 216 [ty0]], _, Z2 N, pk1 i64, enK Try.func227 (by kernel_rfl),
 fun s c => eok (eS N) (by kernel_rfl) Try.func227 rfl N an_ rfl (Y5 i64) (.trans (b := Z0f N (El0 N N) s c) (by kernel_rfl) (by rw [ql0]; rfl))⟩
end Z2
namespace Z1
def sG := sgV [.val ty12, .clo] [(.bool, .dp)]
noncomputable def eS : List EnTry := [Z2.eE N]
noncomputable def eE : EnTry := ⟨215, sG, [.v ty12, .c 216 [ty0]], _, Z1 N, pk1 .bool, enK Try.func215 (by kernel_rfl),
 fun s c => eok (eS N) (by kernel_rfl) Try.func215 rfl N an0 rfl (Y5 .bool) (by kernel_rfl)⟩
end Z1
namespace Z0l
def sG := sgV [.val ty12, .val ty0] [(.bool, .dp)]
noncomputable def eS : List EnTry := [Z1.eE N]
noncomputable def eE : EnTry := ⟨184, sG, [.v ty12, .v ty0], _, Z0l N, pk1 .bool, enK Try.func184 (by kernel_rfl),
 fun edges set => eok (eS N) (by kernel_rfl) Try.func184 rfl N an0 rfl (Y5 .bool) (by kernel_rfl)⟩
end Z0l
namespace Z2e
def sG := sgV [.val i64, .val ty12, .val ty0] [(.bool, .dp)]
noncomputable def eS : List EnTry := [Z1k.eE N, Z3p.eE N, Z0l.eE N]
noncomputable def eE : EnTry := ⟨214, sG, [.v i64, .v ty12, .v ty0], _, Z2e N, pk1 .bool, enK Try.func214 (by kernel_rfl),
 fun n edges set => eok (eS N) (by kernel_rfl) Try.func214 rfl N an0 rfl (Y5 .bool) (by kernel_rfl)⟩
end Z2e
namespace Z0y
def sG := sgV [.val i64, .val ty12, .val ty0] [(.bool, .dp)]
noncomputable def eS : List EnTry := [Z0b.eE N, Z6d N, Z0l.eE N, Z2e.eE N]
def an_ : Nat -> Option (List Nat)
 | 0 => some [1, 2, 13, 14]
 | _ => none
noncomputable def lP (p : List Dir) (rs : List (Env -> Option (Bool))) (k : Nat) (env : Env) : Option (Bool) :=
 lpE (eS N) N an_ p Try.f183 (endK Tb sG Try.f183 [] (un1 .bool)) rs k env
noncomputable def El0 (k_ : Nat) (edges2 : E0) (set2 : I0) (t13 : Int) (t14 : Int) : Option (Bool) :=
 lP N [.r, .r, .l, .r, .b] [] k_ (un 1 (.con .val [lf ty12 edges2 .ro] :: (.con .val [lf ty0 set2 .ro] :: (un 10 (.con .val [lf i64 t13 .ro] :: (.con .val [lf i64 t14 .ro] :: (un 16 [])))))))
theorem ql0 (N : Nat) : ∀ k_, El0 N k_ = Z11 N k_
 | 0 => by kernel_rfl
 | k_ + 1 => (show El0 N (k_ + 1) = Z27 N (El0 N k_) from by kernel_rfl).trans (by simp only [ql0 N k_]; rfl)
noncomputable def eE : EnTry := ⟨183, sG, [.v i64, .v ty12, .v ty0], _, Z0y N, pk1 .bool, enK Try.func183 (by kernel_rfl),
 fun n edges set => eok (eS N) (by kernel_rfl) Try.func183 rfl N an_ rfl (Y5 .bool) (.trans (b := Z4h N (El0 N N) n edges set) (by kernel_rfl) (by rw [ql0]; rfl))⟩
end Z0y
namespace Z0p
def bX : BoxSig := ⟨4, 33, [.dp]⟩
def sG : Sig := ⟨[.val i64, .val ty0, .ptr i64, .ptr ty12, .ptr ty13, .self], [], false, false, some bX, none⟩
theorem eN : Enterable Try.prog 182 := Y6h Try.func182 (code := Try.f182.body.getD .skip) (by kernel_rfl) (by kernel_rfl)
noncomputable def eS (Rf : Int -> I0 -> Int -> E0 -> L0 -> Int -> E0 -> Option L0) (hR : OkP (Option L0) [.v i64, .v ty0, .p i64, .p ty12, .p ty13, .s 182 [.ro i64, .ro ty12, .pin, .self]] Rf (fun xs_ q => ∀ x, q = some x -> FnOk Try.prog 182 sG xs_ (pk1 ty13 x))) : List EnTry := [Z0y.eE N, Z6d N, Z0l.eE N, ⟨182, sG, [.v i64, .v ty0, .p i64, .p ty12, .p ty13, .s 182 [.ro i64, .ro ty12, .pin, .self]], L0, Rf, pk1 ty13, eN, hR⟩]
theorem vV (Rf : Int -> I0 -> Int -> E0 -> L0 -> Int -> E0 -> Option L0) (hR : OkP (Option L0) [.v i64, .v ty0, .p i64, .p ty12, .p ty13, .s 182 [.ro i64, .ro ty12, .pin, .self]] Rf (fun xs_ q => ∀ x, q = some x -> FnOk Try.prog 182 sG xs_ (pk1 ty13 x))) (v : Int) (set : I0) (c2 : Int) (c3 : E0) (c4 : L0) (sc2 : Int) (sc3 : E0) :
  evB (eS N Rf hR) N an0 sG bX Try.f182 [.val i64 v, .val ty0 set, .ptr i64 c2, .ptr ty12 c3, .ptr ty13 c4, .fptr 182 [.ro ⟨i64, sc2⟩, .ro ⟨ty12, sc3⟩, .pin, .self]] (un1 ty13) = Z22 N Rf v set c2 c3 c4 sc2 sc3 := by kernel_rfl
theorem oK (N : Nat) : ∀ k_, OkP (Option L0) [.v i64, .v ty0, .p i64, .p ty12, .p ty13, .s 182 [.ro i64, .ro ty12, .pin, .self]] (Z0d N k_) (fun xs_ q => ∀ x, q = some x -> FnOk Try.prog 182 sG xs_ (pk1 ty13 x))
 | 0 => fun v set c2 c3 c4 sc2 sc3 =>  fun x h => absurd (show (none : Option L0) = some x from h) (by simp)
 | k_ + 1 => fun v set c2 c3 c4 sc2 sc3 => Yc0 tab_ok (es := eS N (Z0d N k_) (oK N k_)) (by kernel_rfl) mixed Try.func182 (by kernel_rfl) rfl rfl (fun _ => ⟨_, _, rfl⟩) (Y5 ty13) (vV N _ _ v set c2 c3 c4 sc2 sc3)
noncomputable def eE : EnTry := ⟨182, sG, [.v i64, .v ty0, .p i64, .p ty12, .p ty13, .s 182 [.ro i64, .ro ty12, .pin, .self]], L0, Z0p N, pk1 ty13, eN, oK N N⟩
end Z0p
namespace Z0m
def sG := sgV [.val i64, .val ty12] [(ty13, .dp)]
noncomputable def eS : List EnTry := [Z1k.eE N, Z0p.eE N]
noncomputable def eE : EnTry := ⟨136, sG, [.v i64, .v ty12], _, Z0m N, pk1 ty13, enK Try.func136 (by kernel_rfl),
 fun n edges => eok (eS N) (by kernel_rfl) Try.func136 rfl N an0 rfl (Y5 ty13) (by kernel_rfl)⟩
end Z0m
namespace Z2l
def sG := sgV [.val ty9, .val ty11] [(ty13, .dp)]
noncomputable def eS : List EnTry := [Z0h.eE N, Z2k.eE N, Z0m.eE N]
noncomputable def eE : EnTry := ⟨68, sG, [.v ty9, .v ty11], _, Z2l N, pk1 ty13, enK Try.func68 (by kernel_rfl),
 fun db constraints => eok (eS N) (by kernel_rfl) Try.func68 rfl N an0 rfl (Y5 ty13) (by kernel_rfl)⟩
end Z2l
namespace Z0v
def sG := sgV [.val ty9, .val ty11] [(ty13, .dp)]
noncomputable def eS : List EnTry := [Z2l.eE N]
def an_ : Nat -> Option (List Nat)
 | 0 => some [5, 6, 7, 16, 17, 18]
 | 2 => some [5, 6, 7, 27, 28, 29]
 | _ => none
noncomputable def lP (p : List Dir) (rs : List (Env -> Option L0)) (k : Nat) (env : Env) : Option L0 :=
 lpES (eS N) N an_ p Try.f75 (endK Tb sG Try.f75 [] (un1 ty13)) rs k env
noncomputable def El2 (k_ : Nat) (most3 : Int) (sets3 : L0) (outx : I0) (out3 : L0) (t272 : L0) (t282 : Int) (t292 : Int) : Option L0 :=
 lP N [.r, .r, .r, .l, .r, .b] [] k_ (un 5 (.con .val [lf i64 most3 .ro] :: (.con .val [lf ty13 sets3 .dp] :: (.sel 6 0 38 3 i64 outx out3 :: (un 19 (.con .val [lb ty13 t272 6 0] :: (.con .val [lf i64 t282 .ro] :: (.con .val [lf i64 t292 .ro] :: (un 13 [])))))))))
noncomputable def El1 (k_ : Nat) (most2 : Int) (sets2 : L0) (out2 : L0) (t27 : L0) (t28 : Int) (t29 : Int) : Option L0 :=
 lP N [.r, .r, .r, .l, .r, .b] [] k_ (un 5 (.con .val [lf i64 most2 .ro] :: (.con .val [lf ty13 sets2 .dp] :: (.con .val [lf ty13 out2 .dp] :: (un 19 (.con .val [lb ty13 t27 6 0] :: (.con .val [lf i64 t28 .ro] :: (.con .val [lf i64 t29 .ro] :: (un 13 [])))))))))
noncomputable def El0 (k_ : Nat) (most : Int) (sets : L0) (out : L0) (t16 : L0) (t17 : Int) (t18 : Int) : Option L0 :=
 lP N [.r, .r, .l, .r, .b] [] k_ (un 5 (.con .val [lf i64 most .ro] :: (.con .val [lf ty13 sets .dp] :: (.con .val [lf ty13 out .dp] :: (un 8 (.con .val [lb ty13 t16 6 0] :: (.con .val [lf i64 t17 .ro] :: (.con .val [lf i64 t18 .ro] :: (un 24 [])))))))))
theorem ql2 (N : Nat) : ∀ k_, El2 N k_ = Z1f N k_
 | 0 => by kernel_rfl
 | k_ + 1 => (show El2 N (k_ + 1) = Z2s N (El2 N k_) from by kernel_rfl).trans (by simp only [ql2 N k_]; rfl)
theorem ql1 (N : Nat) : ∀ k_, El1 N k_ = Z1g N k_
 | 0 => by kernel_rfl
 | k_ + 1 => (show El1 N (k_ + 1) = Z2t N (El2 N k_) (El1 N k_) from by kernel_rfl).trans (by simp only [ql2, ql1 N k_]; rfl)
theorem ql0 (N : Nat) : ∀ k_, El0 N k_ = Z1h N k_
 | 0 => by kernel_rfl
 | k_ + 1 => (show El0 N (k_ + 1) = Z2u N (El1 N N) (El0 N k_) from by kernel_rfl).trans (by simp only [ql1, ql0 N k_]; rfl)
noncomputable def eE : EnTry := ⟨75, sG, [.v ty9, .v ty11], _, Z0v N, pk1 ty13, enK Try.func75 (by kernel_rfl),
 fun db constraints => eokS (eS N) (by kernel_rfl) Try.func75 rfl N an_ rfl (Y5 ty13) (.trans (b := Z4y N (El0 N N) db constraints) (by kernel_rfl) (by rw [ql0]; rfl))⟩
end Z0v
namespace Z4f
def sG := sgV [.val ty0, .val ty0] [(.bool, .dp)]
noncomputable def eS (N : Nat) : List EnTry := []
def an_ : Nat -> Option (List Nat)
 | 0 => some [0, 1, 5]
 | _ => none
noncomputable def lP (p : List Dir) (rs : List (Env -> Option (Bool))) (k : Nat) (env : Env) : Option (Bool) :=
 lpE (eS N) N an_ p Try.f38 (endK Tb sG Try.f38 [] (un1 .bool)) rs k env
noncomputable def El0 (k_ : Nat) (a2 : I0) (b2 : I0) (i : Int) : Option (Bool) :=
 lP N [.r, .r, .l, .r, .b] [] k_ (.con .val [lf ty0 a2 .ro] :: (.con .val [lf ty0 b2 .ro] :: (un 3 (.con .val [lf i64 i .ro] :: (un 20 [])))))
theorem ql0 (N : Nat) : ∀ k_, El0 N k_ = Z51 N k_
 | 0 => by kernel_rfl
 | k_ + 1 => (show El0 N (k_ + 1) = Z64 N (El0 N k_) from by kernel_rfl).trans (by simp only [ql0 N k_]; rfl)
noncomputable def eE : EnTry := ⟨38, sG, [.v ty0, .v ty0], _, Z4f N, pk1 .bool, enK Try.func38 (by kernel_rfl),
 fun a b => eok (eS N) (by kernel_rfl) Try.func38 rfl N an_ rfl (Y5 .bool) (.trans (b := Z78 N (El0 N N) a b) (by kernel_rfl) (by rw [ql0]; rfl))⟩
end Z4f
namespace Z3q
def sG := sgV [.val ty13, .val ty13] [(.bool, .dp)]
noncomputable def eS : List EnTry := [Z4f.eE N]
def an_ : Nat -> Option (List Nat)
 | 0 => some [0, 1, 5]
 | _ => none
noncomputable def lP (p : List Dir) (rs : List (Env -> Option (Bool))) (k : Nat) (env : Env) : Option (Bool) :=
 lpE (eS N) N an_ p Try.f69 (endK Tb sG Try.f69 [] (un1 .bool)) rs k env
noncomputable def El0 (k_ : Nat) (a2 : L0) (b2 : L0) (i : Int) : Option (Bool) :=
 lP N [.r, .r, .l, .r, .b] [] k_ (.con .val [lf ty13 a2 .ro] :: (.con .val [lf ty13 b2 .ro] :: (un 3 (.con .val [lf i64 i .ro] :: (un 21 [])))))
theorem ql0 (N : Nat) : ∀ k_, El0 N k_ = Z4o N k_
 | 0 => by kernel_rfl
 | k_ + 1 => (show El0 N (k_ + 1) = Z5t N (El0 N k_) from by kernel_rfl).trans (by simp only [ql0 N k_]; rfl)
noncomputable def eE : EnTry := ⟨69, sG, [.v ty13, .v ty13], _, Z3q N, pk1 .bool, enK Try.func69 (by kernel_rfl),
 fun a b => eok (eS N) (by kernel_rfl) Try.func69 rfl N an_ rfl (Y5 .bool) (.trans (b := Z6u N (El0 N N) a b) (by kernel_rfl) (by rw [ql0]; rfl))⟩
end Z3q
namespace Z3r
def sG := sgV [.val ty1, .val ty1] [(.bool, .dp)]
noncomputable def eS (N : Nat) : List EnTry := []
noncomputable def eE : EnTry := ⟨163, sG, [.v ty1, .v ty1], _, Z3r N, pk1 .bool, enK Try.func163 (by kernel_rfl),
 fun a b => eok (eS N) (by kernel_rfl) Try.func163 rfl N an0 rfl (Y5 .bool) (by kernel_rfl)⟩
end Z3r
namespace Z3e
def sG := sgV [.val ty7, .val ty7] [(.bool, .dp)]
noncomputable def eS : List EnTry := [Z3r.eE N]
def an_ : Nat -> Option (List Nat)
 | 0 => some [0, 1, 5]
 | _ => none
noncomputable def lP (p : List Dir) (rs : List (Env -> Option (Bool))) (k : Nat) (env : Env) : Option (Bool) :=
 lpE (eS N) N an_ p Try.f110 (endK Tb sG Try.f110 [] (un1 .bool)) rs k env
noncomputable def El0 (k_ : Nat) (a2 : R0) (b2 : R0) (i : Int) : Option (Bool) :=
 lP N [.r, .r, .l, .r, .b] [] k_ (.con .val [lf ty7 a2 .ro] :: (.con .val [lf ty7 b2 .ro] :: (un 3 (.con .val [lf i64 i .ro] :: (un 21 [])))))
theorem ql0 (N : Nat) : ∀ k_, El0 N k_ = Z33 N k_
 | 0 => by kernel_rfl
 | k_ + 1 => (show El0 N (k_ + 1) = Z4p N (El0 N k_) from by kernel_rfl).trans (by simp only [ql0 N k_]; rfl)
noncomputable def eE : EnTry := ⟨110, sG, [.v ty7, .v ty7], _, Z3e N, pk1 .bool, enK Try.func110 (by kernel_rfl),
 fun a b => eok (eS N) (by kernel_rfl) Try.func110 rfl N an_ rfl (Y5 .bool) (.trans (b := Z6c N (El0 N N) a b) (by kernel_rfl) (by rw [ql0]; rfl))⟩
end Z3e
namespace Z5q
def sG := sgV [.val ty3, .val ty3] [(.bool, .dp)]
noncomputable def eS : List EnTry := [Z4f.eE N]
noncomputable def eE : EnTry := ⟨164, sG, [.v ty3, .v ty3], _, Z5q N, pk1 .bool, enK Try.func164 (by kernel_rfl),
 fun a b => eok (eS N) (by kernel_rfl) Try.func164 rfl N an0 rfl (Y5 .bool) (by kernel_rfl)⟩
end Z5q
namespace Z57
def sG := sgV [.val ty8, .val ty8] [(.bool, .dp)]
noncomputable def eS : List EnTry := [Z5q.eE N]
def an_ : Nat -> Option (List Nat)
 | 0 => some [0, 1, 5]
 | _ => none
noncomputable def lP (p : List Dir) (rs : List (Env -> Option (Bool))) (k : Nat) (env : Env) : Option (Bool) :=
 lpE (eS N) N an_ p Try.f111 (endK Tb sG Try.f111 [] (un1 .bool)) rs k env
noncomputable def El0 (k_ : Nat) (a2 : A0) (b2 : A0) (i : Int) : Option (Bool) :=
 lP N [.r, .r, .l, .r, .b] [] k_ (.con .val [lf ty8 a2 .ro] :: (.con .val [lf ty8 b2 .ro] :: (un 3 (.con .val [lf i64 i .ro] :: (un 21 [])))))
theorem ql0 (N : Nat) : ∀ k_, El0 N k_ = Z4q N k_
 | 0 => by kernel_rfl
 | k_ + 1 => (show El0 N (k_ + 1) = Z5u N (El0 N k_) from by kernel_rfl).trans (by simp only [ql0 N k_]; rfl)
noncomputable def eE : EnTry := ⟨111, sG, [.v ty8, .v ty8], _, Z57 N, pk1 .bool, enK Try.func111 (by kernel_rfl),
 fun a b => eok (eS N) (by kernel_rfl) Try.func111 rfl N an_ rfl (Y5 .bool) (.trans (b := Z6v N (El0 N N) a b) (by kernel_rfl) (by rw [ql0]; rfl))⟩
end Z57
namespace Z3s
def sG := sgV [.val ty9, .val ty9] [(.bool, .dp)]
noncomputable def eS : List EnTry := [Z3e.eE N, Z57.eE N]
noncomputable def eE : EnTry := ⟨39, sG, [.v ty9, .v ty9], _, Z3s N, pk1 .bool, enK Try.func39 (by kernel_rfl),
 fun a b => eok (eS N) (by kernel_rfl) Try.func39 rfl N an0 rfl (Y5 .bool) (by kernel_rfl)⟩
end Z3s
namespace Z1b
def sG := sgV [.val ty10, .val ty10] [(.bool, .dp)]
noncomputable def eS (N : Nat) : List EnTry := []
noncomputable def eE : EnTry := ⟨129, sG, [.v ty10, .v ty10], _, Z1b N, pk1 .bool, enK Try.func129 (by kernel_rfl),
 fun a b => eok (eS N) (by kernel_rfl) Try.func129 rfl N an0 rfl (Y5 .bool) (by kernel_rfl)⟩
end Z1b
namespace Z13
def sG := sgV [.val ty11, .val ty11] [(.bool, .dp)]
noncomputable def eS : List EnTry := [Z1b.eE N]
def an_ : Nat -> Option (List Nat)
 | 0 => some [0, 1, 5]
 | _ => none
noncomputable def lP (p : List Dir) (rs : List (Env -> Option (Bool))) (k : Nat) (env : Env) : Option (Bool) :=
 lpE (eS N) N an_ p Try.f58 (endK Tb sG Try.f58 [] (un1 .bool)) rs k env
noncomputable def El0 (k_ : Nat) (a2 : List C0) (b2 : List C0) (i : Int) : Option (Bool) :=
 lP N [.r, .r, .l, .r, .b] [] k_ (.con .val [lf ty11 a2 .ro] :: (.con .val [lf ty11 b2 .ro] :: (un 3 (.con .val [lf i64 i .ro] :: (un 21 [])))))
theorem ql0 (N : Nat) : ∀ k_, El0 N k_ = Z18 N k_
 | 0 => by kernel_rfl
 | k_ + 1 => (show El0 N (k_ + 1) = Z2h N (El0 N k_) from by kernel_rfl).trans (by simp only [ql0 N k_]; rfl)
noncomputable def eE : EnTry := ⟨58, sG, [.v ty11, .v ty11], _, Z13 N, pk1 .bool, enK Try.func58 (by kernel_rfl),
 fun a b => eok (eS N) (by kernel_rfl) Try.func58 rfl N an_ rfl (Y5 .bool) (.trans (b := Z4t N (El0 N N) a b) (by kernel_rfl) (by rw [ql0]; rfl))⟩
end Z13
namespace Z2o
def sG := sgV [.val i64] [(.str, .dp)]
noncomputable def eS (N : Nat) : List EnTry := []
def an_ : Nat -> Option (List Nat)
 | 0 => some [0, 3]
 | _ => none
noncomputable def lP (p : List Dir) (rs : List (Env -> Option (ByteArray))) (k : Nat) (env : Env) : Option (ByteArray) :=
 lpE (eS N) N an_ p Try.f165 (endK Tb sG Try.f165 [] (un1 .str)) rs k env
noncomputable def El0 (k_ : Nat) (k2 : Int) (out : ByteArray) : Option (ByteArray) :=
 lP N [.r, .r, .r, .l, .b] [] k_ (.con .val [lf i64 k2 .ro] :: (un 2 (.con .val [lf .str out .ro] :: (un 16 []))))
theorem ql0 (N : Nat) : ∀ k_, El0 N k_ = Z3f N k_
 | 0 => by kernel_rfl
 | k_ + 1 => (show El0 N (k_ + 1) = Z4i N (El0 N k_) from by kernel_rfl).trans (by simp only [ql0 N k_]; rfl)
noncomputable def eE : EnTry := ⟨165, sG, [.v i64], _, Z2o N, pk1 .str, enK Try.func165 (by kernel_rfl),
 fun k => eok (eS N) (by kernel_rfl) Try.func165 rfl N an_ rfl (Y5 .str) (.trans (b := Z6l N (El0 N N) k) (by kernel_rfl) (by rw [ql0]; rfl))⟩
end Z2o
namespace Z2m
def sG : Sig := ⟨[.val ty7, .val i64], [(i64, .dp)], true, false, none, none⟩
noncomputable def eS : List EnTry := [Z2o.eE N]
def an_ : Nat -> Option (List Nat)
 | 0 => some [0, 1, 5]
 | _ => none
noncomputable def lP (p : List Dir) (rs : List (Env -> Option (R0 × Int))) (k : Nat) (env : Env) : Option (R0 × Int) :=
 lpE (eS N) N an_ p Try.f112 (endK Tb sG Try.f112 [.val ty7 []] (un2 ty7 i64)) rs k env
noncomputable def El0 (k_ : Nat) (a2 : R0) (k2 : Int) (i : Int) : Option (R0 × Int) :=
 lP N [.r, .l, .r, .b] [] k_ (.con .val [⟨ty7, a2, (.at_ (.pn 0))⟩] :: (.con .val [lf i64 k2 .ro] :: (un 3 (.con .val [lf i64 i .ro] :: (un 29 [])))))
theorem ql0 (N : Nat) : ∀ k_, El0 N k_ = Z2f N k_
 | 0 => by kernel_rfl
 | k_ + 1 => (show El0 N (k_ + 1) = Z43 N (El0 N k_) from by kernel_rfl).trans (by simp only [ql0 N k_]; rfl)
theorem vV (a : R0) (k : Int) :
  evE (eS N) N an_ sG Try.f112 [.val ty7 a, .val i64 k] (un2 ty7 i64) = Z65 N (El0 N N) a k := by kernel_rfl
noncomputable def eE : EnTry := ⟨112, sG, [.v ty7, .v i64], _, Z2m N, pk2 ty7 i64, enK Try.func112 (by kernel_rfl),
 fun a k => Y2f tab_ok (es := eS N) (by kernel_rfl) mixed Try.func112 (by kernel_rfl) ⟨⟨rfl, rfl⟩, rfl, rfl⟩ (fun _ => ⟨_, _, rfl⟩) (Y4g ty7 i64) ((vV N a k).trans (by rw [ql0]; rfl))⟩
end Z2m
namespace Z39
def sG : Sig := ⟨[.val ty0, .val i64], [(i64, .dp)], true, false, none, none⟩
noncomputable def eS (N : Nat) : List EnTry := []
def an_ : Nat -> Option (List Nat)
 | 0 => some [0, 1, 5]
 | _ => none
noncomputable def lP (p : List Dir) (rs : List (Env -> Option (List Int × Int))) (k : Nat) (env : Env) : Option (List Int × Int) :=
 lpE (eS N) N an_ p Try.f41 (endK Tb sG Try.f41 [.val ty0 []] (un2 ty0 i64)) rs k env
noncomputable def El0 (k_ : Nat) (a2 : I0) (k2 : Int) (i : Int) : Option (List Int × Int) :=
 lP N [.r, .l, .r, .b] [] k_ (.con .val [⟨ty0, a2, (.at_ (.pn 0))⟩] :: (.con .val [lf i64 k2 .ro] :: (un 3 (.con .val [lf i64 i .ro] :: (un 13 [])))))
theorem ql0 (N : Nat) : ∀ k_, El0 N k_ = Z47 N k_
 | 0 => by kernel_rfl
 | k_ + 1 => (show El0 N (k_ + 1) = Z5i N (El0 N k_) from by kernel_rfl).trans (by simp only [ql0 N k_]; rfl)
theorem vV (a : I0) (k : Int) :
  evE (eS N) N an_ sG Try.f41 [.val ty0 a, .val i64 k] (un2 ty0 i64) = Z6m N (El0 N N) a k := by kernel_rfl
noncomputable def eE : EnTry := ⟨41, sG, [.v ty0, .v i64], _, Z39 N, pk2 ty0 i64, enK Try.func41 (by kernel_rfl),
 fun a k => Y2f tab_ok (es := eS N) (by kernel_rfl) mixed Try.func41 (by kernel_rfl) ⟨⟨rfl, rfl⟩, rfl, rfl⟩ (fun _ => ⟨_, _, rfl⟩) (Y4g ty0 i64) ((vV N a k).trans (by rw [ql0]; rfl))⟩
end Z39
namespace Z48
def sG : Sig := ⟨[.val ty8, .val i64], [(i64, .dp)], true, false, none, none⟩
noncomputable def eS : List EnTry := [Z39.eE N]
def an_ : Nat -> Option (List Nat)
 | 0 => some [0, 1, 5]
 | _ => none
noncomputable def lP (p : List Dir) (rs : List (Env -> Option (A0 × Int))) (k : Nat) (env : Env) : Option (A0 × Int) :=
 lpE (eS N) N an_ p Try.f113 (endK Tb sG Try.f113 [.val ty8 []] (un2 ty8 i64)) rs k env
noncomputable def El0 (k_ : Nat) (a2 : A0) (k2 : Int) (i : Int) : Option (A0 × Int) :=
 lP N [.r, .l, .r, .b] [] k_ (.con .val [⟨ty8, a2, (.at_ (.pn 0))⟩] :: (.con .val [lf i64 k2 .ro] :: (un 3 (.con .val [lf i64 i .ro] :: (un 21 [])))))
theorem ql0 (N : Nat) : ∀ k_, El0 N k_ = Z3u N k_
 | 0 => by kernel_rfl
 | k_ + 1 => (show El0 N (k_ + 1) = Z58 N (El0 N k_) from by kernel_rfl).trans (by simp only [ql0 N k_]; rfl)
theorem vV (a : A0) (k : Int) :
  evE (eS N) N an_ sG Try.f113 [.val ty8 a, .val i64 k] (un2 ty8 i64) = Z6g N (El0 N N) a k := by kernel_rfl
noncomputable def eE : EnTry := ⟨113, sG, [.v ty8, .v i64], _, Z48 N, pk2 ty8 i64, enK Try.func113 (by kernel_rfl),
 fun a k => Y2f tab_ok (es := eS N) (by kernel_rfl) mixed Try.func113 (by kernel_rfl) ⟨⟨rfl, rfl⟩, rfl, rfl⟩ (fun _ => ⟨_, _, rfl⟩) (Y4g ty8 i64) ((vV N a k).trans (by rw [ql0]; rfl))⟩
end Z48
namespace Z25
def sG : Sig := ⟨[.val ty9, .val i64], [(i64, .dp)], true, false, none, none⟩
noncomputable def eS : List EnTry := [Z2m.eE N, Z48.eE N]
theorem vV (a : D0) (k : Int) :
  evE (eS N) N an0 sG Try.f40 [.val ty9 a, .val i64 k] (un2 ty9 i64) = Z25 N a k := by kernel_rfl
noncomputable def eE : EnTry := ⟨40, sG, [.v ty9, .v i64], _, Z25 N, pk2 ty9 i64, enK Try.func40 (by kernel_rfl),
 fun a k => Y2f tab_ok (es := eS N) (by kernel_rfl) mixed Try.func40 (by kernel_rfl) ⟨⟨rfl, rfl⟩, rfl, rfl⟩ (fun _ => ⟨_, _, rfl⟩) (Y4g ty9 i64) (vV N a k)⟩
end Z25
namespace Z0s
def sG : Sig := ⟨[.val ty11, .val i64], [(i64, .dp)], true, false, none, none⟩
noncomputable def eS (N : Nat) : List EnTry := []
def an_ : Nat -> Option (List Nat)
 | 0 => some [0, 1, 5]
 | _ => none
noncomputable def lP (p : List Dir) (rs : List (Env -> Option ((List C0) × Int))) (k : Nat) (env : Env) : Option ((List C0) × Int) :=
 lpE (eS N) N an_ p Try.f59 (endK Tb sG Try.f59 [.val ty11 []] (un2 ty11 i64)) rs k env
noncomputable def El0 (k_ : Nat) (a2 : List C0) (k2 : Int) (i : Int) : Option ((List C0) × Int) :=
 lP N [.r, .l, .r, .b] [] k_ (.con .val [⟨ty11, a2, (.at_ (.pn 0))⟩] :: (.con .val [lf i64 k2 .ro] :: (un 3 (.con .val [lf i64 i .ro] :: (un 56 [])))))
theorem ql0 (N : Nat) : ∀ k_, El0 N k_ = Z0w N k_
 | 0 => by kernel_rfl
 | k_ + 1 => (show El0 N (k_ + 1) = Z24 N (El0 N k_) from by kernel_rfl).trans (by simp only [ql0 N k_]; rfl)
theorem vV (a : List C0) (k : Int) :
  evE (eS N) N an_ sG Try.f59 [.val ty11 a, .val i64 k] (un2 ty11 i64) = Z49 N (El0 N N) a k := by kernel_rfl
noncomputable def eE : EnTry := ⟨59, sG, [.v ty11, .v i64], _, Z0s N, pk2 ty11 i64, enK Try.func59 (by kernel_rfl),
 fun a k => Y2f tab_ok (es := eS N) (by kernel_rfl) mixed Try.func59 (by kernel_rfl) ⟨⟨rfl, rfl⟩, rfl, rfl⟩ (fun _ => ⟨_, _, rfl⟩) (Y4g ty11 i64) ((vV N a k).trans (by rw [ql0]; rfl))⟩
end Z0s
namespace Z4a
def sG : Sig := ⟨[.val ty13, .val i64], [(i64, .dp)], true, false, none, none⟩
noncomputable def eS : List EnTry := [Z39.eE N]
def an_ : Nat -> Option (List Nat)
 | 0 => some [0, 1, 5]
 | _ => none
noncomputable def lP (p : List Dir) (rs : List (Env -> Option (List I0 × Int))) (k : Nat) (env : Env) : Option (List I0 × Int) :=
 lpE (eS N) N an_ p Try.f70 (endK Tb sG Try.f70 [.val ty13 []] (un2 ty13 i64)) rs k env
noncomputable def El0 (k_ : Nat) (a2 : L0) (k2 : Int) (i : Int) : Option (List I0 × Int) :=
 lP N [.r, .l, .r, .b] [] k_ (.con .val [⟨ty13, a2, (.at_ (.pn 0))⟩] :: (.con .val [lf i64 k2 .ro] :: (un 3 (.con .val [lf i64 i .ro] :: (un 13 [])))))
theorem ql0 (N : Nat) : ∀ k_, El0 N k_ = Z3v N k_
 | 0 => by kernel_rfl
 | k_ + 1 => (show El0 N (k_ + 1) = Z59 N (El0 N k_) from by kernel_rfl).trans (by simp only [ql0 N k_]; rfl)
theorem vV (a : L0) (k : Int) :
  evE (eS N) N an_ sG Try.f70 [.val ty13 a, .val i64 k] (un2 ty13 i64) = Z6h N (El0 N N) a k := by kernel_rfl
noncomputable def eE : EnTry := ⟨70, sG, [.v ty13, .v i64], _, Z4a N, pk2 ty13 i64, enK Try.func70 (by kernel_rfl),
 fun a k => Y2f tab_ok (es := eS N) (by kernel_rfl) mixed Try.func70 (by kernel_rfl) ⟨⟨rfl, rfl⟩, rfl, rfl⟩ (fun _ => ⟨_, _, rfl⟩) (Y4g ty13 i64) ((vV N a k).trans (by rw [ql0]; rfl))⟩
end Z4a
namespace Z4u
def sG := sgV [.val ty0, .val i64] [(i64, .dp)]
noncomputable def eS (N : Nat) : List EnTry := []
def an_ : Nat -> Option (List Nat)
 | 0 => some [0, 1, 5]
 | _ => none
noncomputable def lP (p : List Dir) (rs : List (Env -> Option (Int))) (k : Nat) (env : Env) : Option (Int) :=
 lpE (eS N) N an_ p Try.f42 (endK Tb sG Try.f42 [] (un1 i64)) rs k env
noncomputable def El0 (k_ : Nat) (a2 : I0) (k2 : Int) (i : Int) : Option (Int) :=
 lP N [.r, .l, .r, .b] [] k_ (.con .val [lf ty0 a2 .ro] :: (.con .val [lf i64 k2 .ro] :: (un 3 (.con .val [lf i64 i .ro] :: (un 15 [])))))
theorem ql0 (N : Nat) : ∀ k_, El0 N k_ = Z4b N k_
 | 0 => by kernel_rfl
 | k_ + 1 => (show El0 N (k_ + 1) = Z5j N (El0 N k_) from by kernel_rfl).trans (by simp only [ql0 N k_]; rfl)
noncomputable def eE : EnTry := ⟨42, sG, [.v ty0, .v i64], _, Z4u N, pk1 i64, enK Try.func42 (by kernel_rfl),
 fun a k => eok (eS N) (by kernel_rfl) Try.func42 rfl N an_ rfl (Y5 i64) (.trans (b := Z6o N (El0 N N) a k) (by kernel_rfl) (by rw [ql0]; rfl))⟩
end Z4u
namespace Z3i
def sG := sgV [.val ty13, .val i64] [(i64, .dp)]
noncomputable def eS : List EnTry := [Z4u.eE N]
def an_ : Nat -> Option (List Nat)
 | 0 => some [0, 1, 5]
 | _ => none
noncomputable def lP (p : List Dir) (rs : List (Env -> Option (Int))) (k : Nat) (env : Env) : Option (Int) :=
 lpE (eS N) N an_ p Try.f71 (endK Tb sG Try.f71 [] (un1 i64)) rs k env
noncomputable def El0 (k_ : Nat) (a2 : L0) (k2 : Int) (i : Int) : Option (Int) :=
 lP N [.r, .l, .r, .b] [] k_ (.con .val [lf ty13 a2 .ro] :: (.con .val [lf i64 k2 .ro] :: (un 3 (.con .val [lf i64 i .ro] :: (un 15 [])))))
theorem ql0 (N : Nat) : ∀ k_, El0 N k_ = Z3w N k_
 | 0 => by kernel_rfl
 | k_ + 1 => (show El0 N (k_ + 1) = Z5a N (El0 N k_) from by kernel_rfl).trans (by simp only [ql0 N k_]; rfl)
noncomputable def eE : EnTry := ⟨71, sG, [.v ty13, .v i64], _, Z3i N, pk1 i64, enK Try.func71 (by kernel_rfl),
 fun a k => eok (eS N) (by kernel_rfl) Try.func71 rfl N an_ rfl (Y5 i64) (.trans (b := Z6i N (El0 N N) a k) (by kernel_rfl) (by rw [ql0]; rfl))⟩
end Z3i
namespace laws_FnExactCardinalityRepairs
def sG := sgV [.val ty5, .val ty6] [(.bool, .dp)]
noncomputable def eS : List EnTry := [Z3l.eE N, Z12.eE N, Z1u.eE N, Z0a.eE N, Z19.eE N, Z0v.eE N, Z3q.eE N, Z3s.eE N, Z13.eE N, Z25.eE N, Z0s.eE N, Z4a.eE N, Z3i.eE N]
noncomputable def eE : EnTry := ⟨12, sG, [.v ty5, .v ty6], _, laws_FnExactCardinalityRepairs N, pk1 .bool, enK Try.func12 (by kernel_rfl),
 fun aDb aConstraints => eok (eS N) (by kernel_rfl) Try.func12 rfl N an0 rfl (Y5 .bool) (by kernel_rfl)⟩
end laws_FnExactCardinalityRepairs
end Go.PL
