/- What the machine does at each function is what the plain reading says. Conditions: none. -/
import Derived.Test.YtdnmcmhnikjphaaFpG
import Derived.Test.YtdnmcmhnikjphaaPlA
import Derived.Test.YtdnmcmhnikjphaaProg

set_option linter.unusedVariables false
set_option linter.unusedSimpArgs false
set_option linter.unnecessarySimpa false

namespace Go.PL
open Go.FP Go.Proofs Go.Shelf
set_option maxRecDepth 10000
variable (N : Nat)
abbrev i64 : Ty := .int .i64
abbrev ty0 : Ty := (.slice 3 i64)
abbrev ty1 : Ty := (.slice 5 (.int .u8))
abbrev ty2 : Ty := (.pair (.slice 5 (.int .u8)) (.pair i64 i64))
abbrev ty3 : Ty := (.slice 82 (.pair .str (.pair i64 i64)))
abbrev ty4 : Ty := (.pair i64 (.slice 3 i64))
abbrev ty5 : Ty := (.pair (.slice 82 (.pair .str (.pair i64 i64))) (.slice 54 (.pair i64 (.slice 3 i64))))
abbrev ty6 : Ty := (.slice 54 (.pair i64 (.slice 3 i64)))
abbrev ty7 : Ty := (.pair .str (.pair i64 i64))
abbrev ty8 : Ty := (.pair i64 (.pair (.slice 96 (.pair i64 (.slice 3 i64))) (.slice 3 i64)))
abbrev ty9 : Ty := (.slice 96 (.pair i64 (.slice 3 i64)))
abbrev ty10 : Ty := (.slice 9 .str)
abbrev ty11 : Ty := (.slice 4 .bool)
abbrev ty12 : Ty := (.pair i64 (.pair i64 (.pair i64 (.pair i64 (.pair i64 (.pair i64 i64))))))
abbrev ty13 : Ty := (.slice 57 (.pair i64 (.pair i64 (.pair i64 (.pair i64 (.pair i64 (.pair i64 i64)))))))
abbrev ty14 : Ty := (.slice 59 (.pair i64 i64))
abbrev ty15 : Ty := (.pair i64 i64)
abbrev ty16 : Ty := (.slice 29 (.slice 3 i64))
def Tb : Tab := [⟨3, i64, 8, [], false, false⟩,
 ⟨4, .bool, 1, [], false, false⟩,
 ⟨5, (.int .u8), 1, [], false, false⟩,
 ⟨9, .str, 16, [], false, false⟩,
 ⟨22, ty1, 24, [], false, false⟩,
 ⟨24, ty3, 24, [], false, false⟩,
 ⟨25, ty6, 24, [], false, false⟩,
 ⟨27, ty5, 48, [(0, 24), (1, 25)], false, false⟩,
 ⟨28, ty13, 24, [], false, false⟩,
 ⟨29, ty0, 24, [], false, false⟩,
 ⟨35, ty14, 24, [], false, false⟩,
 ⟨41, ty9, 24, [], false, false⟩,
 ⟨43, ty8, 56, [(0, 3), (1, 41), (2, 29)], false, false⟩,
 ⟨48, ty16, 24, [], false, false⟩,
 ⟨54, ty4, 32, [(0, 3), (1, 29)], false, false⟩,
 ⟨57, ty12, 56, [(0, 3), (1, 3), (2, 3), (3, 3), (4, 3), (5, 3), (6, 3)], false, false⟩,
 ⟨59, ty15, 16, [(0, 3), (1, 3)], false, false⟩,
 ⟨82, ty7, 32, [(0, 9), (1, 3), (2, 3)], false, false⟩,
 ⟨93, ty2, 40, [(0, 22), (1, 3), (2, 3)], false, false⟩,
 ⟨96, ty4, 32, [(0, 3), (1, 29)], false, false⟩,
 ⟨111, ty10, 24, [], false, false⟩,
 ⟨127, ty11, 24, [], false, false⟩,
 ⟨86, .bool, 8, [], true, false⟩]
theorem tab_ok : TabOk Try.prog Tb :=
 (Yf (TEOk.plain (i := Try.t3) (by kernel_rfl) rfl rfl (by kernel_rfl) rfl rfl rfl Try.underlying3)
 (Yf (TEOk.plain (i := Try.t4) (by kernel_rfl) rfl rfl (by kernel_rfl) rfl rfl rfl Try.underlying4)
 (Yf (TEOk.plain (i := Try.t5) (by kernel_rfl) rfl rfl (by kernel_rfl) rfl rfl rfl Try.underlying5)
 (Yf (TEOk.plain (i := Try.t9) (by kernel_rfl) rfl rfl (by kernel_rfl) rfl rfl rfl Try.underlying9)
 (Yf (TEOk.plain (i := Try.t22) (by kernel_rfl) rfl rfl (by kernel_rfl) rfl rfl rfl Try.underlying22)
 (Yf (TEOk.plain (i := Try.t24) (by kernel_rfl) rfl rfl (by kernel_rfl) rfl rfl rfl Try.underlying24)
 (Yf (TEOk.plain (i := Try.t25) (by kernel_rfl) rfl rfl (by kernel_rfl) rfl rfl rfl Try.underlying25)
 (Yf (TEOk.struct (i := Try.t27) (pl := [(0, 1), (1, 1)]) (by kernel_rfl) rfl rfl (by kernel_rfl) Try.underlying27 (by kernel_rfl) (by kernel_rfl) rfl rfl (fun h => by cases h))
 (Yf (TEOk.plain (i := Try.t28) (by kernel_rfl) rfl rfl (by kernel_rfl) rfl rfl rfl Try.underlying28)
 (Yf (TEOk.plain (i := Try.t29) (by kernel_rfl) rfl rfl (by kernel_rfl) rfl rfl rfl Try.underlying29)
 (Yf (TEOk.plain (i := Try.t35) (by kernel_rfl) rfl rfl (by kernel_rfl) rfl rfl rfl Try.underlying35)
 (Yf (TEOk.plain (i := Try.t41) (by kernel_rfl) rfl rfl (by kernel_rfl) rfl rfl rfl Try.underlying41)
 (Yf (TEOk.struct (i := Try.t43) (pl := [(0, 1), (1, 1), (2, 1)]) (by kernel_rfl) rfl rfl (by kernel_rfl) Try.underlying43 (by kernel_rfl) (by kernel_rfl) rfl rfl (fun h => by cases h))
 (Yf (TEOk.plain (i := Try.t48) (by kernel_rfl) rfl rfl (by kernel_rfl) rfl rfl rfl Try.underlying48)
 (Yf (TEOk.struct (i := Try.t54) (pl := [(0, 1), (1, 1)]) (by kernel_rfl) rfl rfl (by kernel_rfl) Try.underlying54 (by kernel_rfl) (by kernel_rfl) rfl rfl (fun h => by cases h))
 (Yf (TEOk.struct (i := Try.t57) (pl := [(0, 1), (1, 1), (2, 1), (3, 1), (4, 1), (5, 1), (6, 1)]) (by kernel_rfl) rfl rfl (by kernel_rfl) Try.underlying57 (by kernel_rfl) (by kernel_rfl) rfl rfl (fun h => by cases h))
 (Yf (TEOk.struct (i := Try.t59) (pl := [(0, 1), (1, 1)]) (by kernel_rfl) rfl rfl (by kernel_rfl) Try.underlying59 (by kernel_rfl) (by kernel_rfl) rfl rfl (fun h => by cases h))
 (Yf (TEOk.struct (i := Try.t82) (pl := [(0, 1), (1, 1), (2, 1)]) (by kernel_rfl) rfl rfl (by kernel_rfl) Try.underlying82 (by kernel_rfl) (by kernel_rfl) rfl rfl (fun h => by cases h))
 (Yf (TEOk.struct (i := Try.t93) (pl := [(0, 1), (1, 1), (2, 1)]) (by kernel_rfl) rfl rfl (by kernel_rfl) Try.underlying93 (by kernel_rfl) (by kernel_rfl) rfl rfl (fun h => by cases h))
 (Yf (TEOk.struct (i := Try.t96) (pl := [(0, 1), (1, 1)]) (by kernel_rfl) rfl rfl (by kernel_rfl) Try.underlying96 (by kernel_rfl) (by kernel_rfl) rfl rfl (fun h => by cases h))
 (Yf (TEOk.plain (i := Try.t111) (by kernel_rfl) rfl rfl (by kernel_rfl) rfl rfl rfl Try.underlying111)
 (Yf (TEOk.plain (i := Try.t127) (by kernel_rfl) rfl rfl (by kernel_rfl) rfl rfl rfl Try.underlying127)
 (Yf (TEOk.ofFn (i := Try.t86) (z := (Try.t86.zero).getD default) (by kernel_rfl) rfl (by kernel_rfl) (by kernel_rfl) Try.underlying86 rfl rfl)
 Yd9)))))))))))))))))))))))
theorem mixed : Try.prog.follows .mixedOrders = true := by decide
def cps : FuncId -> List Ty := capsL [(58, [i64, ty14, .bool, .bool]), (63, [ty13, ty5]), (74, []), (78, [ty0])]
def cpsS : FuncId -> List Ty := fun f => if f = 1000000007 then [.unit] else cps f
def cpsK : FuncId -> List Ty := fun f => if f = 1000000009 then [.unit] else cps f
section
variable {R : Type} (es : List (Entry Try.prog)) (N : Nat) (an : Nat -> Option (List Nat))
noncomputable abbrev evE (sg : Sig) (fn : Func) (args : List RV) (K : List (Σ t : Ty, t.D) -> Option R) : Option R :=
 evFn Tb (sigL es) cps (orcL es) (drawReg Tb (sigL es) cps (orcL es)) N an sg fn (fn.body.getD .skip) args K
noncomputable abbrev evES (sg : Sig) (fn : Func) (args : List RV) (K : List (Σ t : Ty, t.D) -> Option R) : Option R :=
 evFn Tb (sigL es) cpsS (orcL es) (drawReg Tb (sigL es) cpsS (orcL es)) N an sg fn (fn.body.getD .skip) args K
noncomputable abbrev lpES (p : List Dir) (fn : Func) (K : Exit -> Env -> Option R) (rs : List (Env -> Option R)) (k : Nat) (env : Env) : Option R :=
 loopAt Tb (sigL es) cpsS (orcL es) N an p (fn.body.getD .skip) K rs k env
noncomputable abbrev evEK (sg : Sig) (fn : Func) (args : List RV) (K : List (Σ t : Ty, t.D) -> Option R) : Option R :=
 evFn Tb (sigL es) cpsK (orcL es) (drawReg Tb (sigL es) cpsK (orcL es)) N an sg fn (fn.body.getD .skip) args K
noncomputable abbrev lpEK (p : List Dir) (fn : Func) (K : Exit -> Env -> Option R) (rs : List (Env -> Option R)) (k : Nat) (env : Env) : Option R :=
 loopAt Tb (sigL es) cpsK (orcL es) N an p (fn.body.getD .skip) K rs k env
noncomputable abbrev evB (sg : Sig) (b : BoxSig) (fn : Func) (args : List RV) (K : List (Σ t : Ty, t.D) -> Option R) : Option R :=
 evFnB Tb (sigL es) cps (orcL es) (drawReg Tb (sigL es) cps (orcL es)) N an sg b fn (fn.body.getD .skip) args K
noncomputable abbrev evG (k : Nat) (sg : Sig) (fn : Func) (args : List RV) (K : List (Σ t : Ty, t.D) -> Option R) : Option R :=
 evFnG Tb (sigL es) cps (orcL es) (drawReg Tb (sigL es) cps (orcL es)) N an k sg fn (fn.body.getD .skip) args K
noncomputable abbrev evN (id : TypeId) (t : Ty) (rs : List (Ty × Lvl)) (fn : Func) (args : List RV) (K : List (Σ t : Ty, t.D) -> Option R) : Option R :=
 evFnN Tb (sigL es) cps (orcL es) (drawReg Tb (sigL es) cps (orcL es)) N an id t rs fn (fn.body.getD .skip) args K
noncomputable abbrev lpE (p : List Dir) (fn : Func) (K : Exit -> Env -> Option R) (rs : List (Env -> Option R)) (k : Nat) (env : Env) : Option R :=
 loopAt Tb (sigL es) cps (orcL es) N an p (fn.body.getD .skip) K rs k env
end
abbrev EnTry := Entry Try.prog
def an0 : Nat -> Option (List Nat) := fun _ => none
def sgV (ps : List PTy) (rs : List (Ty × Lvl)) : Sig := ⟨ps, rs, false, false, none, none, none⟩
theorem enK {f : FuncId} {fn : Func} (hf : Try.prog.funcs[f]? = some fn) (h : (fn.body.isNone || fn.name == "runtime.NumGoroutine") = false) : Enterable Try.prog f := ⟨fn, hf, (Bool.or_eq_false_iff.1 h).1, (Bool.or_eq_false_iff.1 h).2⟩
def plG (sg : Sig) : Bool := sg.box.isNone && (sg.newb.isNone && (!sg.muts && !sg.own))
theorem eok (es : List (Entry Try.prog)) (ha : agreeL es = true) {f : FuncId} {fn : Func} (hf : Try.prog.funcs[f]? = some fn) (hb : fn.body.isSome = true) (N : Nat) (an : Nat -> Option (List Nat)) {sg : Sig} (hs : plG sg = true) {args : List RV} {α : Type} {un : List (Σ t : Ty, t.D) -> Option α} {pk : α -> List (Σ t : Ty, t.D)} (hu : ∀ r xs, un xs = some r -> xs = pk r) {q : Option α} (h : evE es N an sg fn args un = q) :
  ∀ x, q = some x -> FnOk Try.prog f sg args (pk x) := by
 obtain ⟨ps, rs, m, o, b, n, g⟩ := sg
 simp only [plG, Bool.and_eq_true, Bool.not_eq_true', Option.isNone_iff_eq_none] at hs
 obtain ⟨rfl, rfl, rfl, rfl⟩ := hs
 exact Y4t tab_ok ha mixed hf (by cases h : fn.body with | none => rw [h] at hb; cases hb | some c => rfl) ⟨⟨rfl, rfl⟩, rfl, rfl⟩ hu h
theorem eokS (es : List (Entry Try.prog)) (ha : agreeL es = true) {f : FuncId} {fn : Func} (hf : Try.prog.funcs[f]? = some fn) (hb : fn.body.isSome = true) (N : Nat) (an : Nat -> Option (List Nat)) {sg : Sig} (hs : plG sg = true) {args : List RV} {α : Type} {un : List (Σ t : Ty, t.D) -> Option α} {pk : α -> List (Σ t : Ty, t.D)} (hu : ∀ r xs, un xs = some r -> xs = pk r) {q : Option α} (h : evES es N an sg fn args un = q) :
  ∀ x, q = some x -> FnOk Try.prog f sg args (pk x) := by
 obtain ⟨ps, rs, m, o, b, n, g⟩ := sg
 simp only [plG, Bool.and_eq_true, Bool.not_eq_true', Option.isNone_iff_eq_none] at hs
 obtain ⟨rfl, rfl, rfl, rfl⟩ := hs
 exact Y4t tab_ok ha mixed hf (by cases h : fn.body with | none => rw [h] at hb; cases hb | some c => rfl) ⟨⟨rfl, rfl⟩, rfl, rfl⟩ hu h
theorem eokK (es : List (Entry Try.prog)) (ha : agreeL es = true) {f : FuncId} {fn : Func} (hf : Try.prog.funcs[f]? = some fn) (hb : fn.body.isSome = true) (N : Nat) (an : Nat -> Option (List Nat)) {sg : Sig} (hs : plG sg = true) {args : List RV} {α : Type} {un : List (Σ t : Ty, t.D) -> Option α} {pk : α -> List (Σ t : Ty, t.D)} (hu : ∀ r xs, un xs = some r -> xs = pk r) {q : Option α} (h : evEK es N an sg fn args un = q) :
  ∀ x, q = some x -> FnOk Try.prog f sg args (pk x) := by
 obtain ⟨ps, rs, m, o, b, n, g⟩ := sg
 simp only [plG, Bool.and_eq_true, Bool.not_eq_true', Option.isNone_iff_eq_none] at hs
 obtain ⟨rfl, rfl, rfl, rfl⟩ := hs
 exact Y4t tab_ok ha mixed hf (by cases h : fn.body with | none => rw [h] at hb; cases hb | some c => rfl) ⟨⟨rfl, rfl⟩, rfl, rfl⟩ hu h
theorem Z8j : Bears Try.prog 60 (SlBodyN.n41 (renL 60 0 3 4 29 3)) := ⟨Try.f60.name, by kernel_rfl, Try.func60.trans (congrArg some (by kernel_rfl))⟩
noncomputable def Z6i : Entry Try.prog := ⟨60, ⟨[.val ty0], [(ty0, .dp)], false, false, none, none, none⟩, [.v ty0], I0, Z2w N, pk1 ty0, Y68 Try.func60 (code := Try.f60.body.getD .skip) (by kernel_rfl) (by kernel_rfl),
 fun s q h => Yc2 tab_ok mixed Z8j (by kernel_rfl) Try.underlying4 (te := ⟨3, i64, 8, [], false, false⟩) (by kernel_rfl) rfl rfl h⟩
namespace Z7o
def sG := sgV [.val ty1] [(.bool, .dp)]
noncomputable def eS (N : Nat) : List EnTry := []
noncomputable def eE : EnTry := ⟨4, sG, [.v ty1], _, Z7o N, pk1 .bool, enK Try.func4 (by kernel_rfl),
 fun code => eok (eS N) (by kernel_rfl) Try.func4 rfl N an0 rfl (Y6 .bool) (by kernel_rfl)⟩
end Z7o
namespace Z5j
def sG : Sig := ⟨[.val ty1], [], false, false, none, some 93, none⟩
noncomputable def eS (N : Nat) : List EnTry := []
def an_ : Nat -> Option (List Nat)
 | 0 => some [0, 3, 4]
 | _ => none
noncomputable def lP (p : List Dir) (rs : List (Env -> Option (List Int × Int × Int))) (k : Nat) (env : Env) : Option (List Int × Int × Int) :=
 lpE (eS N) N an_ p Try.f47 (endN Tb 93 ty2 sG.results Try.f47 (un1 ty2)) rs k env
noncomputable def El0 (k_ : Nat) (code2 : I0) (h : Int) (i : Int) : Option (List Int × Int × Int) :=
 lP N [.r, .r, .l, .r, .b] [] k_ (.con .val [lf ty1 code2 .ro] :: (un 2 (.con .val [lf i64 h .ro] :: (.con .val [lf i64 i .ro] :: (un 27 [])))))
theorem ql0 (N : Nat) : ∀ k_, El0 N k_ = Z5y N k_
 | 0 => by kernel_rfl
 | k_ + 1 => (show El0 N (k_ + 1) = Z76 N (El0 N k_) from by kernel_rfl).trans (by simp only [ql0 N k_]; rfl)
theorem vV (code : I0) :
  evN (eS N) N an_ 93 ty2 sG.results Try.f47 [.val ty1 code] (un1 ty2) = Z89 N (El0 N N) code := by kernel_rfl
noncomputable def eE : EnTry := ⟨47, sG, [.v ty1], _, Z5j N, pk1 ty2, enK Try.func47 (by kernel_rfl),
 fun code => Y5j tab_ok (es := eS N) (by kernel_rfl) mixed Try.func47 (by kernel_rfl) rfl rfl (fun _ => ⟨_, _, rfl⟩) (Y6 ty2) ((vV N code).trans (by rw [ql0]; rfl))⟩
end Z5j
namespace Z2e
def bX : BoxSig := ⟨0, 93, [.fx, .ro, .ro]⟩
def sG : Sig := ⟨[.ptr ty2], [(i64, .dp)], false, false, some bX, none, none⟩
noncomputable def eS (N : Nat) : List EnTry := []
theorem vV (c : List Int × Int × Int) :
  evB (eS N) N an0 sG bX Try.f72 [.ptr ty2 c] (un2 ty2 i64) = Z2e N c := by kernel_rfl
noncomputable def eE : EnTry := ⟨72, sG, [.p ty2], _, Z2e N, pk2 ty2 i64, enK Try.func72 (by kernel_rfl),
 fun c => Ym tab_ok (es := eS N) (by kernel_rfl) mixed Try.func72 (by kernel_rfl) rfl rfl (fun _ => ⟨_, _, rfl⟩) (Yr ty2 i64) (vV N c)⟩
end Z2e
namespace Z0
def bX : BoxSig := ⟨0, 93, [.fx, .ro, .ro]⟩
def sG : Sig := ⟨[.ptr ty2, .val i64], [(i64, .dp)], false, false, some bX, none, none⟩
noncomputable def eS : List EnTry := [Z2e.eE N]
theorem vV (c : List Int × Int × Int) (n : Int) :
  evB (eS N) N an0 sG bX Try.f51 [.ptr ty2 c, .val i64 n] (un2 ty2 i64) = Z0 N c n := by kernel_rfl
noncomputable def eE : EnTry := ⟨51, sG, [.p ty2, .v i64], _, Z0 N, pk2 ty2 i64, enK Try.func51 (by kernel_rfl),
 fun c n => Ym tab_ok (es := eS N) (by kernel_rfl) mixed Try.func51 (by kernel_rfl) rfl rfl (fun _ => ⟨_, _, rfl⟩) (Yr ty2 i64) (vV N c n)⟩
end Z0
namespace Z0f
def bX : BoxSig := ⟨0, 93, [.fx, .ro, .ro]⟩
def sG : Sig := ⟨[.ptr ty2, .val ty0], [(i64, .dp)], false, false, some bX, none, none⟩
noncomputable def eS : List EnTry := [Z0.eE N]
theorem vV (c : List Int × Int × Int) (list : I0) :
  evB (eS N) N an0 sG bX Try.f31 [.ptr ty2 c, .val ty0 list] (un2 ty2 i64) = Z0f N c list := by kernel_rfl
noncomputable def eE : EnTry := ⟨31, sG, [.p ty2, .v ty0], _, Z0f N, pk2 ty2 i64, enK Try.func31 (by kernel_rfl),
 fun c list => Ym tab_ok (es := eS N) (by kernel_rfl) mixed Try.func31 (by kernel_rfl) rfl rfl (fun _ => ⟨_, _, rfl⟩) (Yr ty2 i64) (vV N c list)⟩
end Z0f
namespace Z4c
def bX : BoxSig := ⟨0, 93, [.fx, .ro, .ro]⟩
def sG : Sig := ⟨[.ptr ty2], [(ty3, .dp)], false, false, some bX, none, none⟩
noncomputable def eS : List EnTry := [Z0f.eE N, Z0.eE N]
theorem vV (c : List Int × Int × Int) :
  evB (eS N) N an0 sG bX Try.f82 [.ptr ty2 c] (un2 ty2 ty3) = Z4c N c := by kernel_rfl
noncomputable def eE : EnTry := ⟨82, sG, [.p ty2], _, Z4c N, pk2 ty2 ty3, enK Try.func82 (by kernel_rfl),
 fun c => Ym tab_ok (es := eS N) (by kernel_rfl) mixed Try.func82 (by kernel_rfl) rfl rfl (fun _ => ⟨_, _, rfl⟩) (Yr ty2 ty3) (vV N c)⟩
end Z4c
namespace Z4d
def bX : BoxSig := ⟨0, 93, [.fx, .ro, .ro]⟩
def sG : Sig := ⟨[.ptr ty2, .val ty3, .val i64], [(ty4, .dp)], false, false, some bX, none, none⟩
noncomputable def eS : List EnTry := [Z0.eE N]
def an_ : Nat -> Option (List Nat)
 | 0 => some [0, 1, 2, 6, 7]
 | _ => none
noncomputable def lP (p : List Dir) (rs : List (Env -> Option ((List Int × Int × Int) × Int × List Int))) (k : Nat) (env : Env) : Option ((List Int × Int × Int) × Int × List Int) :=
 lpE (eS N) N an_ p Try.f84 (endB Tb sG bX Try.f84 ty2 (un2 ty2 ty4)) rs k env
noncomputable def El0 (k_ : Nat) (c2 : I0) (c3 : Int) (c4 : Int) (l2 : R0) (val2 : Int) (t6 : Int) (t62 : I0) (f : Int) (f2 : I0) : Option ((List Int × Int × Int) × Int × List Int) :=
 lP N [.r, .r, .l, .b] [] k_ (.con (.box ⟨93, true, [true, false, false]⟩) [lf ty1 c2 .ro, lf i64 c3 .ro, lf i64 c4 .ro] :: (.con .val [lf ty3 l2 .ro] :: (.con .val [lf i64 val2 .ro] :: (un 3 (.con (.box ⟨54, false, []⟩) [lf i64 t6 .ro, lf ty0 t62 .dp] :: (.con (.box ⟨54, false, []⟩) [lf i64 f .ro, lf ty0 f2 .dp] :: (un 24 [])))))))
theorem ql0 (N : Nat) : ∀ k_, El0 N k_ = Z59 N k_
 | 0 => by kernel_rfl
 | k_ + 1 => (show El0 N (k_ + 1) = Z6x N (El0 N k_) from by kernel_rfl).trans (by simp only [ql0 N k_]; rfl)
theorem vV (c : List Int × Int × Int) (l : R0) (val : Int) :
  evB (eS N) N an_ sG bX Try.f84 [.ptr ty2 c, .val ty3 l, .val i64 val] (un2 ty2 ty4) = Z7w N (El0 N N) c l val := by kernel_rfl
noncomputable def eE : EnTry := ⟨84, sG, [.p ty2, .v ty3, .v i64], _, Z4d N, pk2 ty2 ty4, enK Try.func84 (by kernel_rfl),
 fun c l val => Ym tab_ok (es := eS N) (by kernel_rfl) mixed Try.func84 (by kernel_rfl) rfl rfl (fun _ => ⟨_, _, rfl⟩) (Yr ty2 ty4) ((vV N c l val).trans (by rw [ql0]; rfl))⟩
end Z4d
namespace Z52
def sG := sgV [.val ty5] [(ty5, .dp)]
noncomputable def eS (N : Nat) : List EnTry := []
def an_ : Nat -> Option (List Nat)
 | 0 => some [1, 2, 3, 4]
 | _ => none
noncomputable def lP (p : List Dir) (rs : List (Env -> Option D0)) (k : Nat) (env : Env) : Option D0 :=
 lpE (eS N) N an_ p Try.f91 (endK Tb sG Try.f91 [] (un1 ty5)) rs k env
noncomputable def El0 (k_ : Nat) (d2 : R0) (d3 : A0) (t2 : R0) (t22 : A0) (x : R0) (x2 : A0) (i : Int) : Option D0 :=
 lP N [.r, .r, .l, .r, .b] [] k_ (un 1 (.con (.box ⟨27, false, []⟩) [lf ty3 d2 .ro, lf ty6 d3 .ro] :: (.con (.box ⟨27, false, []⟩) [lf ty3 t2 .dp, lf ty6 t22 .dp] :: (.con (.box ⟨27, false, []⟩) [lf ty3 x .dp, lf ty6 x2 .dp] :: (.con .val [lf i64 i .ro] :: (un 33 []))))))
theorem ql0 (N : Nat) : ∀ k_, El0 N k_ = Z5a N k_
 | 0 => by kernel_rfl
 | k_ + 1 => (show El0 N (k_ + 1) = Z6y N (El0 N k_) from by kernel_rfl).trans (by simp only [ql0 N k_]; rfl)
noncomputable def eE : EnTry := ⟨91, sG, [.v ty5], _, Z52 N, pk1 ty5, enK Try.func91 (by kernel_rfl),
 fun d => eok (eS N) (by kernel_rfl) Try.func91 rfl N an_ rfl (Y6 ty5) (.trans (b := Z7x N (El0 N N) d) (by kernel_rfl) (by rw [ql0]; rfl))⟩
end Z52
namespace Z4
def sG := sgV [.val i64, .val i64, .val i64] [(.bool, .dp)]
noncomputable def eS (N : Nat) : List EnTry := []
noncomputable def eE : EnTry := ⟨40, sG, [.v i64, .v i64, .v i64], _, Z4 N, pk1 .bool, enK Try.func40 (by kernel_rfl),
 fun x low high => eok (eS N) (by kernel_rfl) Try.func40 rfl N an0 rfl (Y6 .bool) (by kernel_rfl)⟩
end Z4
namespace Z7
def sG := sgV [.val ty7] [(.bool, .dp)]
noncomputable def eS : List EnTry := [Z4.eE N]
noncomputable def eE : EnTry := ⟨68, sG, [.v ty7], _, Z7 N, pk1 .bool, enK Try.func68 (by kernel_rfl),
 fun s => eok (eS N) (by kernel_rfl) Try.func68 rfl N an0 rfl (Y6 .bool) (by kernel_rfl)⟩
end Z7
namespace Z0c
def sG := sgV [.val ty3] [(.bool, .dp)]
noncomputable def eS : List EnTry := [Z7.eE N]
def an_ : Nat -> Option (List Nat)
 | 0 => some [0, 3]
 | _ => none
noncomputable def lP (p : List Dir) (rs : List (Env -> Option (Bool))) (k : Nat) (env : Env) : Option (Bool) :=
 lpE (eS N) N an_ p Try.f43 (endK Tb sG Try.f43 [] (un1 .bool)) rs k env
noncomputable def El0 (k_ : Nat) (l2 : R0) (i : Int) : Option (Bool) :=
 lP N [.r, .l, .r, .b] [] k_ (.con .val [lf ty3 l2 .ro] :: (un 2 (.con .val [lf i64 i .ro] :: (un 33 []))))
theorem ql0 (N : Nat) : ∀ k_, El0 N k_ = Z0i N k_
 | 0 => by kernel_rfl
 | k_ + 1 => (show El0 N (k_ + 1) = Z14 N (El0 N k_) from by kernel_rfl).trans (by simp only [ql0 N k_]; rfl)
noncomputable def eE : EnTry := ⟨43, sG, [.v ty3], _, Z0c N, pk1 .bool, enK Try.func43 (by kernel_rfl),
 fun l => eok (eS N) (by kernel_rfl) Try.func43 rfl N an_ rfl (Y6 .bool) (.trans (b := Z30 N (El0 N N) l) (by kernel_rfl) (by rw [ql0]; rfl))⟩
end Z0c
namespace Z0k
def sG := sgV [.val ty3, .val ty4] [(.bool, .dp)]
noncomputable def eS : List EnTry := [Z4.eE N, Z0c.eE N]
def an_ : Nat -> Option (List Nat)
 | 0 => some [3, 5]
 | _ => none
noncomputable def lP (p : List Dir) (rs : List (Env -> Option (Bool))) (k : Nat) (env : Env) : Option (Bool) :=
 lpE (eS N) N an_ p Try.f41 (endK Tb sG Try.f41 [] (un1 .bool)) rs k env
noncomputable def El0 (k_ : Nat) (f2 : Int) (f3 : I0) (i : Int) : Option (Bool) :=
 lP N [.r, .r, .l, .r, .b] [] k_ (un 3 (.con (.box ⟨54, false, []⟩) [lf i64 f2 .ro, lf ty0 f3 .ro] :: (un 1 (.con .val [lf i64 i .ro] :: (un 38 [])))))
theorem ql0 (N : Nat) : ∀ k_, El0 N k_ = Z2l N k_
 | 0 => by kernel_rfl
 | k_ + 1 => (show El0 N (k_ + 1) = Z3w N (El0 N k_) from by kernel_rfl).trans (by simp only [ql0 N k_]; rfl)
noncomputable def eE : EnTry := ⟨41, sG, [.v ty3, .v ty4], _, Z0k N, pk1 .bool, enK Try.func41 (by kernel_rfl),
 fun l f => eok (eS N) (by kernel_rfl) Try.func41 rfl N an_ rfl (Y6 .bool) (.trans (b := Z66 N (El0 N N) l f) (by kernel_rfl) (by rw [ql0]; rfl))⟩
end Z0k
namespace Z3n
def sG := sgV [.val ty0, .val ty0] [(i64, .dp)]
noncomputable def eS (N : Nat) : List EnTry := []
def an_ : Nat -> Option (List Nat)
 | 0 => some [0, 1, 5]
 | _ => none
noncomputable def lP (p : List Dir) (rs : List (Env -> Option (Int))) (k : Nat) (env : Env) : Option (Int) :=
 lpE (eS N) N an_ p Try.f44 (endK Tb sG Try.f44 [] (un1 i64)) rs k env
noncomputable def El0 (k_ : Nat) (a2 : I0) (b2 : I0) (i : Int) : Option (Int) :=
 lP N [.r, .l, .r, .b] [] k_ (.con .val [lf ty0 a2 .ro] :: (.con .val [lf ty0 b2 .ro] :: (un 3 (.con .val [lf i64 i .ro] :: (un 40 [])))))
theorem ql0 (N : Nat) : ∀ k_, El0 N k_ = Z3e N k_
 | 0 => by kernel_rfl
 | k_ + 1 => (show El0 N (k_ + 1) = Z4i N (El0 N k_) from by kernel_rfl).trans (by simp only [ql0 N k_]; rfl)
noncomputable def eE : EnTry := ⟨44, sG, [.v ty0, .v ty0], _, Z3n N, pk1 i64, enK Try.func44 (by kernel_rfl),
 fun a b => eok (eS N) (by kernel_rfl) Try.func44 rfl N an_ rfl (Y6 i64) (.trans (b := Z7z N (El0 N N) a b) (by kernel_rfl) (by rw [ql0]; rfl))⟩
end Z3n
namespace Z0z
def sG := sgV [.val ty4, .val ty4] [(i64, .dp)]
noncomputable def eS : List EnTry := [Z3n.eE N]
noncomputable def eE : EnTry := ⟨42, sG, [.v ty4, .v ty4], _, Z0z N, pk1 i64, enK Try.func42 (by kernel_rfl),
 fun a b => eok (eS N) (by kernel_rfl) Try.func42 rfl N an0 rfl (Y6 i64) (by kernel_rfl)⟩
end Z0z
namespace Z5
def sG := sgV [.val ty5] [(.bool, .dp)]
noncomputable def eS : List EnTry := [Z0k.eE N, Z0z.eE N, Z0c.eE N]
def an_ : Nat -> Option (List Nat)
 | 0 => some [1, 3]
 | _ => none
noncomputable def lP (p : List Dir) (rs : List (Env -> Option (Bool))) (k : Nat) (env : Env) : Option (Bool) :=
 lpE (eS N) N an_ p Try.f22 (endK Tb sG Try.f22 [] (un1 .bool)) rs k env
noncomputable def El0 (k_ : Nat) (d2 : R0) (d3 : A0) (i : Int) : Option (Bool) :=
 lP N [.r, .l, .r, .b] [] k_ (un 1 (.con (.box ⟨27, false, []⟩) [lf ty3 d2 .ro, lf ty6 d3 .ro] :: (un 1 (.con .val [lf i64 i .ro] :: (un 44 [])))))
theorem ql0 (N : Nat) : ∀ k_, El0 N k_ = Z1o N k_
 | 0 => by kernel_rfl
 | k_ + 1 => (show El0 N (k_ + 1) = Z2y N (El0 N k_) from by kernel_rfl).trans (by simp only [ql0 N k_]; rfl)
noncomputable def eE : EnTry := ⟨22, sG, [.v ty5], _, Z5 N, pk1 .bool, enK Try.func22 (by kernel_rfl),
 fun d => eok (eS N) (by kernel_rfl) Try.func22 rfl N an_ rfl (Y6 .bool) (.trans (b := Z53 N (El0 N N) d) (by kernel_rfl) (by rw [ql0]; rfl))⟩
end Z5
namespace Z3f
def sG := sgV [.val ty5, .val ty4] [(i64, .dp)]
noncomputable def eS : List EnTry := [Z0z.eE N]
def an_ : Nat -> Option (List Nat)
 | 0 => some [2, 3, 5]
 | _ => none
noncomputable def lP (p : List Dir) (rs : List (Env -> Option (Int))) (k : Nat) (env : Env) : Option (Int) :=
 lpE (eS N) N an_ p Try.f98 (endK Tb sG Try.f98 [] (un1 i64)) rs k env
noncomputable def El0 (k_ : Nat) (d2 : R0) (d3 : A0) (f2 : Int) (f3 : I0) (i : Int) : Option (Int) :=
 lP N [.r, .l, .r, .b] [] k_ (un 2 (.con (.box ⟨27, false, []⟩) [lf ty3 d2 .ro, lf ty6 d3 .ro] :: (.con (.box ⟨54, false, []⟩) [lf i64 f2 .ro, lf ty0 f3 .ro] :: (un 1 (.con .val [lf i64 i .ro] :: (un 16 []))))))
theorem ql0 (N : Nat) : ∀ k_, El0 N k_ = Z44 N k_
 | 0 => by kernel_rfl
 | k_ + 1 => (show El0 N (k_ + 1) = Z60 N (El0 N k_) from by kernel_rfl).trans (by simp only [ql0 N k_]; rfl)
noncomputable def eE : EnTry := ⟨98, sG, [.v ty5, .v ty4], _, Z3f N, pk1 i64, enK Try.func98 (by kernel_rfl),
 fun d f => eok (eS N) (by kernel_rfl) Try.func98 rfl N an_ rfl (Y6 i64) (.trans (b := Z6z N (El0 N N) d f) (by kernel_rfl) (by rw [ql0]; rfl))⟩
end Z3f
namespace Z2h
def sG := sgV [.val ty5, .val ty4] [(.bool, .dp)]
noncomputable def eS : List EnTry := [Z5.eE N, Z3f.eE N]
noncomputable def eE : EnTry := ⟨92, sG, [.v ty5, .v ty4], _, Z2h N, pk1 .bool, enK Try.func92 (by kernel_rfl),
 fun d f => eok (eS N) (by kernel_rfl) Try.func92 rfl N an0 rfl (Y6 .bool) (by kernel_rfl)⟩
end Z2h
namespace Z2j
def sG := sgV [.val ty5, .val ty4] [(ty5, .sh), (.bool, .dp)]
noncomputable def eS : List EnTry := [Z0z.eE N, Z52.eE N, Z5.eE N, Z0k.eE N, Z2h.eE N]
def an_ : Nat -> Option (List Nat)
 | 0 => some [3, 4, 6, 7]
 | _ => none
noncomputable def lP (p : List Dir) (rs : List (Env -> Option (D0 × Bool))) (k : Nat) (env : Env) : Option (D0 × Bool) :=
 lpE (eS N) N an_ p Try.f83 (endK Tb sG Try.f83 [] (un2 ty5 .bool)) rs k env
noncomputable def El0 (k_ : Nat) (f2 : Int) (f3 : I0) (t4 : R0) (t42 : A0) (x : R0) (x2 : A0) (k : Int) : Option (D0 × Bool) :=
 lP N [.r, .r, .r, .r, .l, .b] [] k_ (un 3 (.con (.box ⟨54, false, []⟩) [lf i64 f2 .ro, lf ty0 f3 .ro] :: (.con (.box ⟨27, false, []⟩) [lf ty3 t4 .dp, lf ty6 t42 .dp] :: (un 1 (.con (.box ⟨27, false, []⟩) [lf ty3 x .dp, lf ty6 x2 .dp] :: (.con .val [lf i64 k .ro] :: (un 65 [])))))))
theorem ql0 (N : Nat) : ∀ k_, El0 N k_ = Z3p N k_
 | 0 => by kernel_rfl
 | k_ + 1 => (show El0 N (k_ + 1) = Z5k N (El0 N k_) from by kernel_rfl).trans (by simp only [ql0 N k_]; rfl)
noncomputable def eE : EnTry := ⟨83, sG, [.v ty5, .v ty4], _, Z2j N, pk2 ty5 .bool, enK Try.func83 (by kernel_rfl),
 fun d f => eok (eS N) (by kernel_rfl) Try.func83 rfl N an_ rfl (Yr ty5 .bool) (.trans (b := Z6j N (El0 N N) d f) (by kernel_rfl) (by rw [ql0]; rfl))⟩
end Z2j
namespace Z67
def bX : BoxSig := ⟨0, 93, [.fx, .ro, .ro]⟩
def sG : Sig := ⟨[.ptr ty2], [(ty5, .sh)], false, false, some bX, none, none⟩
noncomputable def eS : List EnTry := [Z4d.eE N, Z2j.eE N, Z4c.eE N, Z0f.eE N, Z0.eE N]
def an_ : Nat -> Option (List Nat)
 | 0 => some [0, 2, 3, 4, 5]
 | _ => none
noncomputable def lP (p : List Dir) (rs : List (Env -> Option ((List Int × Int × Int) × List (ByteArray × Int × Int) × List (Int × List Int)))) (k : Nat) (env : Env) : Option ((List Int × Int × Int) × List (ByteArray × Int × Int) × List (Int × List Int)) :=
 lpE (eS N) N an_ p Try.f69 (endB Tb sG bX Try.f69 ty2 (un2 ty2 ty5)) rs k env
noncomputable def El1 (k_ : Nat) (c5 : I0) (c6 : Int) (c7 : Int) (t23 : R0) (t24 : A0) (d3 : R0) (d4 : A0) (val2 : Int) (n2 : Int) : Option ((List Int × Int × Int) × List (ByteArray × Int × Int) × List (Int × List Int)) :=
 lP N [.r, .r, .r, .l, .r, .b] [] k_ (.con (.box ⟨93, true, [true, false, false]⟩) [lf ty1 c5 .ro, lf i64 c6 .ro, lf i64 c7 .ro] :: (un 1 (.con (.box ⟨27, false, []⟩) [lf ty3 t23 .dp, lf ty6 t24 .dp] :: (.con (.box ⟨27, false, []⟩) [lf ty3 d3 .dp, lf ty6 d4 .sh] :: (.con .val [lf i64 val2 .ro] :: (.con .val [lf i64 n2 .ro] :: (un 24 [])))))))
noncomputable def El0 (k_ : Nat) (c2 : I0) (c3 : Int) (c4 : Int) (t2 : R0) (t22 : A0) (d : R0) (d2 : A0) (val : Int) (n : Int) : Option ((List Int × Int × Int) × List (ByteArray × Int × Int) × List (Int × List Int)) :=
 lP N [.r, .r, .r, .l, .r, .b] [] k_ (.con (.box ⟨93, true, [true, false, false]⟩) [lf ty1 c2 .ro, lf i64 c3 .ro, lf i64 c4 .ro] :: (un 1 (.con (.box ⟨27, false, []⟩) [lf ty3 t2 .dp, lf ty6 t22 .dp] :: (.con (.box ⟨27, false, []⟩) [lf ty3 d .dp, lf ty6 d2 .dp] :: (.con .val [lf i64 val .ro] :: (.con .val [lf i64 n .ro] :: (un 24 [])))))))
theorem ql1 (N : Nat) : ∀ k_, El1 N k_ = Z5b N k_
 | 0 => by kernel_rfl
 | k_ + 1 => (show El1 N (k_ + 1) = Z7p N (El1 N k_) from by kernel_rfl).trans (by simp only [ql1 N k_]; rfl)
theorem ql0 (N : Nat) : ∀ k_, El0 N k_ = Z77 N k_
 | 0 => by kernel_rfl
 | k_ + 1 => (show El0 N (k_ + 1) = Z7q N (El1 N k_) (El0 N k_) from by kernel_rfl).trans (by simp only [ql1, ql0 N k_]; rfl)
theorem vV (c : List Int × Int × Int) :
  evB (eS N) N an_ sG bX Try.f69 [.ptr ty2 c] (un2 ty2 ty5) = Z8m N (El0 N N) c := by kernel_rfl
noncomputable def eE : EnTry := ⟨69, sG, [.p ty2], _, Z67 N, pk2 ty2 ty5, enK Try.func69 (by kernel_rfl),
 fun c => Ym tab_ok (es := eS N) (by kernel_rfl) mixed Try.func69 (by kernel_rfl) rfl rfl (fun _ => ⟨_, _, rfl⟩) (Yr ty2 ty5) ((vV N c).trans (by rw [ql0]; rfl))⟩
end Z67
namespace Z5l
def bX : BoxSig := ⟨0, 93, [.fx, .ro, .ro]⟩
def sG : Sig := ⟨[.ptr ty2], [(ty5, .ro)], false, false, some bX, none, none⟩
noncomputable def eS : List EnTry := [Z67.eE N]
def an_ : Nat -> Option (List Nat)
 | 0 => some [0, 2, 3]
 | _ => none
noncomputable def lP (p : List Dir) (rs : List (Env -> Option ((List Int × Int × Int) × List (ByteArray × Int × Int) × List (Int × List Int)))) (k : Nat) (env : Env) : Option ((List Int × Int × Int) × List (ByteArray × Int × Int) × List (Int × List Int)) :=
 lpE (eS N) N an_ p Try.f48 (endB Tb sG bX Try.f48 ty2 (un2 ty2 ty5)) rs k env
noncomputable def El1 (k_ : Nat) (c5 : I0) (c6 : Int) (c7 : Int) (t23 : R0) (t24 : A0) (d3 : R0) (d4 : A0) : Option ((List Int × Int × Int) × List (ByteArray × Int × Int) × List (Int × List Int)) :=
 lP N [.r, .r, .l, .b] [] k_ (.con (.box ⟨93, true, [true, false, false]⟩) [lf ty1 c5 .ro, lf i64 c6 .ro, lf i64 c7 .ro] :: (un 1 (.con (.box ⟨27, false, []⟩) [lf ty3 t23 .dp, lf ty6 t24 .dp] :: (.con (.box ⟨27, false, []⟩) [lf ty3 d3 .dp, lf ty6 d4 .ro] :: (un 15 [])))))
noncomputable def El0 (k_ : Nat) (c2 : I0) (c3 : Int) (c4 : Int) (t2 : R0) (t22 : A0) (d : R0) (d2 : A0) : Option ((List Int × Int × Int) × List (ByteArray × Int × Int) × List (Int × List Int)) :=
 lP N [.r, .r, .l, .b] [] k_ (.con (.box ⟨93, true, [true, false, false]⟩) [lf ty1 c2 .ro, lf i64 c3 .ro, lf i64 c4 .ro] :: (un 1 (.con (.box ⟨27, false, []⟩) [lf ty3 t2 .dp, lf ty6 t22 .dp] :: (.con (.box ⟨27, false, []⟩) [lf ty3 d .dp, lf ty6 d2 .sh] :: (un 15 [])))))
theorem ql1 (N : Nat) : ∀ k_, El1 N k_ = Z4t N k_
 | 0 => by kernel_rfl
 | k_ + 1 => (show El1 N (k_ + 1) = Z78 N (El1 N k_) from by kernel_rfl).trans (by simp only [ql1 N k_]; rfl)
theorem ql0 (N : Nat) : ∀ k_, El0 N k_ = Z6v N k_
 | 0 => by kernel_rfl
 | k_ + 1 => (show El0 N (k_ + 1) = Z79 N (El1 N k_) (El0 N k_) from by kernel_rfl).trans (by simp only [ql1, ql0 N k_]; rfl)
theorem vV (c : List Int × Int × Int) :
  evB (eS N) N an_ sG bX Try.f48 [.ptr ty2 c] (un2 ty2 ty5) = Z8b N (El0 N N) c := by kernel_rfl
noncomputable def eE : EnTry := ⟨48, sG, [.p ty2], _, Z5l N, pk2 ty2 ty5, enK Try.func48 (by kernel_rfl),
 fun c => Ym tab_ok (es := eS N) (by kernel_rfl) mixed Try.func48 (by kernel_rfl) rfl rfl (fun _ => ⟨_, _, rfl⟩) (Yr ty2 ty5) ((vV N c).trans (by rw [ql0]; rfl))⟩
end Z5l
namespace Z0v
def bX : BoxSig := ⟨0, 93, [.fx, .ro, .ro]⟩
def sG : Sig := ⟨[.ptr ty2, .val i64], [(.bool, .dp)], false, false, some bX, none, none⟩
noncomputable def eS : List EnTry := [Z0.eE N]
theorem vV (c : List Int × Int × Int) (n : Int) :
  evB (eS N) N an0 sG bX Try.f30 [.ptr ty2 c, .val i64 n] (un2 ty2 .bool) = Z0v N c n := by kernel_rfl
noncomputable def eE : EnTry := ⟨30, sG, [.p ty2, .v i64], _, Z0v N, pk2 ty2 .bool, enK Try.func30 (by kernel_rfl),
 fun c n => Ym tab_ok (es := eS N) (by kernel_rfl) mixed Try.func30 (by kernel_rfl) rfl rfl (fun _ => ⟨_, _, rfl⟩) (Yr ty2 .bool) (vV N c n)⟩
end Z0v
namespace Z4j
def sG := sgV [.val ty8] [(ty8, .dp)]
noncomputable def eS (N : Nat) : List EnTry := []
def an_ : Nat -> Option (List Nat)
 | 0 => some [1, 2, 3, 4]
 | _ => none
noncomputable def lP (p : List Dir) (rs : List (Env -> Option Q0)) (k : Nat) (env : Env) : Option Q0 :=
 lpE (eS N) N an_ p Try.f93 (endK Tb sG Try.f93 [] (un1 ty8)) rs k env
noncomputable def El0 (k_ : Nat) (q2 : Int) (q3 : A0) (q4 : I0) (t2 : Int) (t22 : A0) (t23 : I0) (x : Int) (x2 : A0) (x3 : I0) (i : Int) : Option Q0 :=
 lP N [.r, .r, .l, .r, .b] [] k_ (un 1 (.con (.box ⟨43, false, []⟩) [lf i64 q2 .ro, lf ty9 q3 .ro, lf ty0 q4 .ro] :: (.con (.box ⟨43, false, []⟩) [lf i64 t2 .ro, lf ty9 t22 .dp, lf ty0 t23 .dp] :: (.con (.box ⟨43, false, []⟩) [lf i64 x .ro, lf ty9 x2 .dp, lf ty0 x3 .dp] :: (.con .val [lf i64 i .ro] :: (un 35 []))))))
theorem ql0 (N : Nat) : ∀ k_, El0 N k_ = Z4y N k_
 | 0 => by kernel_rfl
 | k_ + 1 => (show El0 N (k_ + 1) = Z6k N (El0 N k_) from by kernel_rfl).trans (by simp only [ql0 N k_]; rfl)
noncomputable def eE : EnTry := ⟨93, sG, [.v ty8], _, Z4j N, pk1 ty8, enK Try.func93 (by kernel_rfl),
 fun q => eok (eS N) (by kernel_rfl) Try.func93 rfl N an_ rfl (Y6 ty8) (.trans (b := Z7r N (El0 N N) q) (by kernel_rfl) (by rw [ql0]; rfl))⟩
end Z4j
namespace Z3z
def sG := sgV [.val ty8] [(ty8, .dp)]
noncomputable def eS : List EnTry := [Z4j.eE N]
def an_ : Nat -> Option (List Nat)
 | 0 => some [2, 3, 4, 5]
 | 2 => some [2, 3, 4, 5, 6]
 | 4 => some [2, 3, 4, 5, 6, 7, 8, 9]
 | _ => none
noncomputable def lP (p : List Dir) (rs : List (Env -> Option Q0)) (k : Nat) (env : Env) : Option Q0 :=
 lpE (eS N) N an_ p Try.f85 (endK Tb sG Try.f85 [] (un1 ty8)) rs k env
noncomputable def El2 (k0_ : Nat) (k1_ : Nat) (k_ : Nat) (t27 : Int) (t28 : A0) (t29 : I0) (x7 : Int) (x8 : A0) (x9 : I0) (name3 : I0) (i3 : Int) (k2 : Int) (t : Int) (at__ : Int) (j : Int) : Option Q0 :=
 lP N [.r, .r, .r, .l, .r, .b, .b, .r, .l, .b, .r, .b, .b, .r, .l, .b, .r, .r, .r, .l, .r, .b] [lP N [.r, .r, .r, .l, .r, .b] [] k0_, lP N [.r, .r, .r, .l, .r, .b, .b, .r, .l, .b, .r, .b] [lP N [.r, .r, .r, .l, .r, .b] [] k0_] k1_] k_ (un 2 (.con (.box ⟨43, false, []⟩) [lf i64 t27 .ro, lf ty9 t28 .dp, lf ty0 t29 .dp] :: (.con (.box ⟨43, false, []⟩) [lf i64 x7 .ro, lf ty9 x8 .dp, lf ty0 x9 .dp] :: (.con .val [lf ty0 name3 .dp] :: (.con .val [lf i64 i3 .ro] :: (.con .val [lf i64 k2 .ro] :: (.con .val [lf i64 t .ro] :: (.con .val [lf i64 at__ .ro] :: (.con .val [lf i64 j .ro] :: (un 66 []))))))))))
noncomputable def El1 (k0_ : Nat) (k_ : Nat) (t24 : Int) (t25 : A0) (t26 : I0) (x4 : Int) (x5 : A0) (x6 : I0) (name2 : I0) (i2 : Int) (k : Int) : Option Q0 :=
 lP N [.r, .r, .r, .l, .r, .b, .b, .r, .l, .b, .r, .b] [lP N [.r, .r, .r, .l, .r, .b] [] k0_] k_ (un 2 (.con (.box ⟨43, false, []⟩) [lf i64 t24 .ro, lf ty9 t25 .dp, lf ty0 t26 .dp] :: (.con (.box ⟨43, false, []⟩) [lf i64 x4 .ro, lf ty9 x5 .dp, lf ty0 x6 .dp] :: (.con .val [lf ty0 name2 .dp] :: (.con .val [lf i64 i2 .ro] :: (.con .val [lf i64 k .ro] :: (un 69 [])))))))
noncomputable def El0 (k_ : Nat) (t2 : Int) (t22 : A0) (t23 : I0) (x : Int) (x2 : A0) (x3 : I0) (name : I0) (i : Int) : Option Q0 :=
 lP N [.r, .r, .r, .l, .r, .b] [] k_ (un 2 (.con (.box ⟨43, false, []⟩) [lf i64 t2 .ro, lf ty9 t22 .dp, lf ty0 t23 .dp] :: (.con (.box ⟨43, false, []⟩) [lf i64 x .ro, lf ty9 x2 .dp, lf ty0 x3 .dp] :: (.con .val [lf ty0 name .dp] :: (.con .val [lf i64 i .ro] :: (un 70 []))))))
theorem ql2 (N : Nat) (k0_ : Nat) (k1_ : Nat) : ∀ k_, El2 N k0_ k1_ k_ = Z3g (El1 N k0_ k1_) N k_
 | 0 => by kernel_rfl
 | k_ + 1 => (show El2 N k0_ k1_ (k_ + 1) = Z68 N (El1 N k0_ k1_) (El2 N k0_ k1_ k_) from by kernel_rfl).trans (by simp only [ql2 N k0_ k1_ k_]; rfl)
theorem ql1 (N : Nat) (k0_ : Nat) : ∀ k_, El1 N k0_ k_ = Z2t (El0 N k0_) N k_
 | 0 => by kernel_rfl
 | k_ + 1 => (show El1 N k0_ (k_ + 1) = Z69 N (El0 N k0_) (El2 N k0_ k_ N) (El1 N k0_ k_) from by kernel_rfl).trans (by simp only [ql2, ql1 N k0_ k_]; rfl)
theorem ql0 (N : Nat) : ∀ k_, El0 N k_ = Z3h N k_
 | 0 => by kernel_rfl
 | k_ + 1 => (show El0 N (k_ + 1) = Z6a N (El1 N k_ N) (El0 N k_) from by kernel_rfl).trans (by simp only [ql1, ql0 N k_]; rfl)
noncomputable def eE : EnTry := ⟨85, sG, [.v ty8], _, Z3z N, pk1 ty8, enK Try.func85 (by kernel_rfl),
 fun q => eok (eS N) (by kernel_rfl) Try.func85 rfl N an_ rfl (Y6 ty8) (.trans (b := Z7a N (El0 N N) q) (by kernel_rfl) (by rw [ql0]; rfl))⟩
end Z3z
namespace Z40
def bX : BoxSig := ⟨0, 93, [.fx, .ro, .ro]⟩
def sG : Sig := ⟨[.ptr ty2], [(ty8, .dp)], false, false, some bX, none, none⟩
noncomputable def eS : List EnTry := [Z0v.eE N, Z0.eE N, Z3z.eE N]
def an_ : Nat -> Option (List Nat)
 | 0 => some [0, 2, 3, 4, 5, 6, 7]
 | 2 => some [0, 2, 3, 4, 5, 6, 7, 9, 10]
 | _ => none
noncomputable def lP (p : List Dir) (rs : List (Env -> Option ((List Int × Int × Int) × Int × List (Int × List Int) × List Int))) (k : Nat) (env : Env) : Option ((List Int × Int × Int) × Int × List (Int × List Int) × List Int) :=
 lpE (eS N) N an_ p Try.f70 (endB Tb sG bX Try.f70 ty2 (un2 ty2 ty8)) rs k env
noncomputable def El1 (k0_ : Nat) (k_ : Nat) (c5 : I0) (c6 : Int) (c7 : Int) (t24 : Int) (t25 : A0) (t26 : I0) (q4 : Int) (q5 : A0) (q6 : I0) (n2 : Int) (vars2 : Int) (from_2 : Int) (i2 : Int) (a : Int) (a2 : I0) (m4 : Int) : Option ((List Int × Int × Int) × Int × List (Int × List Int) × List Int) :=
 lP N [.r, .r, .r, .r, .r, .l, .r, .b, .b, .r, .l, .b, .r, .r, .l, .r, .b] [lP N [.r, .r, .r, .r, .r, .l, .r, .b] [] k0_] k_ (.con (.box ⟨93, true, [true, false, false]⟩) [lf ty1 c5 .ro, lf i64 c6 .ro, lf i64 c7 .ro] :: (un 1 (.con (.box ⟨43, false, []⟩) [lf i64 t24 .ro, lf ty9 t25 .dp, lf ty0 t26 .dp] :: (.con (.box ⟨43, false, []⟩) [lf i64 q4 .ro, lf ty9 q5 .dp, lf ty0 q6 .dp] :: (.con .val [lf i64 n2 .ro] :: (.con .val [lf i64 vars2 .ro] :: (.con .val [lf i64 from_2 .ro] :: (.con .val [lf i64 i2 .ro] :: (un 1 (.con (.box ⟨96, false, []⟩) [lf i64 a .ro, lf ty0 a2 .dp] :: (.con .val [lf i64 m4 .ro] :: (un 53 []))))))))))))
noncomputable def El0 (k_ : Nat) (c2 : I0) (c3 : Int) (c4 : Int) (t2 : Int) (t22 : A0) (t23 : I0) (q : Int) (q2 : A0) (q3 : I0) (n : Int) (vars : Int) (from_ : Int) (i : Int) : Option ((List Int × Int × Int) × Int × List (Int × List Int) × List Int) :=
 lP N [.r, .r, .r, .r, .r, .l, .r, .b] [] k_ (.con (.box ⟨93, true, [true, false, false]⟩) [lf ty1 c2 .ro, lf i64 c3 .ro, lf i64 c4 .ro] :: (un 1 (.con (.box ⟨43, false, []⟩) [lf i64 t2 .ro, lf ty9 t22 .dp, lf ty0 t23 .dp] :: (.con (.box ⟨43, false, []⟩) [lf i64 q .ro, lf ty9 q2 .dp, lf ty0 q3 .dp] :: (.con .val [lf i64 n .ro] :: (.con .val [lf i64 vars .ro] :: (.con .val [lf i64 from_ .ro] :: (.con .val [lf i64 i .ro] :: (un 56 [])))))))))
theorem ql1 (N : Nat) (k0_ : Nat) : ∀ k_, El1 N k0_ k_ = Z3i (El0 N k0_) N k_
 | 0 => by kernel_rfl
 | k_ + 1 => (show El1 N k0_ (k_ + 1) = Z6b N (El0 N k0_) (El1 N k0_ k_) from by kernel_rfl).trans (by simp only [ql1 N k0_ k_]; rfl)
theorem ql0 (N : Nat) : ∀ k_, El0 N k_ = Z3j N k_
 | 0 => by kernel_rfl
 | k_ + 1 => (show El0 N (k_ + 1) = Z6c N (El1 N k_ N) (El0 N k_) from by kernel_rfl).trans (by simp only [ql1, ql0 N k_]; rfl)
theorem vV (c : List Int × Int × Int) :
  evB (eS N) N an_ sG bX Try.f70 [.ptr ty2 c] (un2 ty2 ty8) = Z7b N (El0 N N) c := by kernel_rfl
noncomputable def eE : EnTry := ⟨70, sG, [.p ty2], _, Z40 N, pk2 ty2 ty8, enK Try.func70 (by kernel_rfl),
 fun c => Ym tab_ok (es := eS N) (by kernel_rfl) mixed Try.func70 (by kernel_rfl) rfl rfl (fun _ => ⟨_, _, rfl⟩) (Yr ty2 ty8) ((vV N c).trans (by rw [ql0]; rfl))⟩
end Z40
namespace Z4e
def bX : BoxSig := ⟨0, 93, [.fx, .ro, .ro]⟩
def sG : Sig := ⟨[.ptr ty2, .val ty10], [(.str, .dp)], false, false, some bX, none, none⟩
noncomputable def eS : List EnTry := [Z0.eE N]
theorem vV (c : List Int × Int × Int) (list : List ByteArray) :
  evB (eS N) N an0 sG bX Try.f87 [.ptr ty2 c, .val ty10 list] (un2 ty2 .str) = Z4e N c list := by kernel_rfl
noncomputable def eE : EnTry := ⟨87, sG, [.p ty2, .v ty10], _, Z4e N, pk2 ty2 .str, enK Try.func87 (by kernel_rfl),
 fun c list => Ym tab_ok (es := eS N) (by kernel_rfl) mixed Try.func87 (by kernel_rfl) rfl rfl (fun _ => ⟨_, _, rfl⟩) (Yr ty2 .str) (vV N c list)⟩
end Z4e
namespace Z6g
def sG := sgV [.val .str, .val (.int .u8)] [(ty10, .dp)]
noncomputable def eS (N : Nat) : List EnTry := []
def an_ : Nat -> Option (List Nat)
 | 0 => some [0, 1, 5, 6, 7]
 | _ => none
noncomputable def lP (p : List Dir) (rs : List (Env -> Option (List ByteArray))) (k : Nat) (env : Env) : Option (List ByteArray) :=
 lpE (eS N) N an_ p Try.f94 (endK Tb sG Try.f94 [] (un1 ty10)) rs k env
noncomputable def El0 (k_ : Nat) (s2 : ByteArray) (sign2 : Int) (out : List ByteArray) (from_ : Int) (i : Int) : Option (List ByteArray) :=
 lP N [.r, .r, .r, .l, .r, .b] [] k_ (.con .val [lf .str s2 .ro] :: (.con .val [lf (.int .u8) sign2 .ro] :: (un 3 (.con .val [lf ty10 out .dp] :: (.con .val [lf i64 from_ .ro] :: (.con .val [lf i64 i .ro] :: (un 27 [])))))))
theorem ql0 (N : Nat) : ∀ k_, El0 N k_ = Z80 N k_
 | 0 => by kernel_rfl
 | k_ + 1 => (show El0 N (k_ + 1) = Z8k N (El0 N k_) from by kernel_rfl).trans (by simp only [ql0 N k_]; rfl)
noncomputable def eE : EnTry := ⟨94, sG, [.v .str, .v (.int .u8)], _, Z6g N, pk1 ty10, enK Try.func94 (by kernel_rfl),
 fun s sign => eok (eS N) (by kernel_rfl) Try.func94 rfl N an_ rfl (Y6 ty10) (.trans (b := Z9e N (El0 N N) s sign) (by kernel_rfl) (by rw [ql0]; rfl))⟩
end Z6g
namespace Z5c
def sG := sgV [.val i64] [(i64, .dp), (.bool, .dp)]
noncomputable def eS : List EnTry := [Z4.eE N]
noncomputable def eE : EnTry := ⟨102, sG, [.v i64], _, Z5c N, pk2 i64 .bool, enK Try.func102 (by kernel_rfl),
 fun t => eok (eS N) (by kernel_rfl) Try.func102 rfl N an0 rfl (Yr i64 .bool) (by kernel_rfl)⟩
end Z5c
namespace Z5d
def sG := sgV [.val i64] [(.str, .dp)]
noncomputable def eS (N : Nat) : List EnTry := []
def an_ : Nat -> Option (List Nat)
 | 0 => some [0, 3, 4]
 | _ => none
noncomputable def lP (p : List Dir) (rs : List (Env -> Option (ByteArray))) (k : Nat) (env : Env) : Option (ByteArray) :=
 lpE (eS N) N an_ p Try.f103 (endK Tb sG Try.f103 [] (un1 .str)) rs k env
noncomputable def El0 (k_ : Nat) (n2 : Int) (out : ByteArray) (neg : Bool) : Option (ByteArray) :=
 lP N [.r, .r, .r, .r, .l, .b] [] k_ (.con .val [lf i64 n2 .ro] :: (un 2 (.con .val [lf .str out .ro] :: (.con .val [lf .bool neg .ro] :: (un 26 [])))))
theorem ql0 (N : Nat) : ∀ k_, El0 N k_ = Z6l N k_
 | 0 => by kernel_rfl
 | k_ + 1 => (show El0 N (k_ + 1) = Z7l N (El0 N k_) from by kernel_rfl).trans (by simp only [ql0 N k_]; rfl)
noncomputable def eE : EnTry := ⟨103, sG, [.v i64], _, Z5d N, pk1 .str, enK Try.func103 (by kernel_rfl),
 fun n => eok (eS N) (by kernel_rfl) Try.func103 rfl N an_ rfl (Y6 .str) (.trans (b := Z8c N (El0 N N) n) (by kernel_rfl) (by rw [ql0]; rfl))⟩
end Z5d
namespace Z1m
def sG := sgV [.val i64] [(.str, .dp)]
noncomputable def eS : List EnTry := [Z5c.eE N, Z5d.eE N, Z4.eE N]
noncomputable def eE : EnTry := ⟨99, sG, [.v i64], _, Z1m N, pk1 .str, enK Try.func99 (by kernel_rfl),
 fun t => eok (eS N) (by kernel_rfl) Try.func99 rfl N an0 rfl (Y6 .str) (by kernel_rfl)⟩
end Z1m
namespace Z4h
def sG := sgV [.val .str] [(i64, .dp), (.bool, .dp)]
noncomputable def eS : List EnTry := [Z1m.eE N]
def an_ : Nat -> Option (List Nat)
 | 0 => some [0, 4]
 | _ => none
noncomputable def lP (p : List Dir) (rs : List (Env -> Option (Int × Bool))) (k : Nat) (env : Env) : Option (Int × Bool) :=
 lpE (eS N) N an_ p Try.f95 (endK Tb sG Try.f95 [] (un2 i64 .bool)) rs k env
noncomputable def El0 (k_ : Nat) (s2 : ByteArray) (t : Int) : Option (Int × Bool) :=
 lP N [.r, .l, .r, .b] [] k_ (.con .val [lf .str s2 .ro] :: (un 3 (.con .val [lf i64 t .ro] :: (un 9 []))))
theorem ql0 (N : Nat) : ∀ k_, El0 N k_ = Z6m N k_
 | 0 => by kernel_rfl
 | k_ + 1 => (show El0 N (k_ + 1) = Z7m N (El0 N k_) from by kernel_rfl).trans (by simp only [ql0 N k_]; rfl)
noncomputable def eE : EnTry := ⟨95, sG, [.v .str], _, Z4h N, pk2 i64 .bool, enK Try.func95 (by kernel_rfl),
 fun s => eok (eS N) (by kernel_rfl) Try.func95 rfl N an_ rfl (Yr i64 .bool) (.trans (b := Z8d N (El0 N N) s) (by kernel_rfl) (by rw [ql0]; rfl))⟩
end Z4h
namespace Z3q
def sG := sgV [.val ty3, .val .str] [(i64, .dp)]
noncomputable def eS (N : Nat) : List EnTry := []
def an_ : Nat -> Option (List Nat)
 | 0 => some [0, 1, 5]
 | _ => none
noncomputable def lP (p : List Dir) (rs : List (Env -> Option (Int))) (k : Nat) (env : Env) : Option (Int) :=
 lpE (eS N) N an_ p Try.f96 (endK Tb sG Try.f96 [] (un1 i64)) rs k env
noncomputable def El0 (k_ : Nat) (l2 : R0) (name2 : ByteArray) (i : Int) : Option (Int) :=
 lP N [.r, .l, .r, .b] [] k_ (.con .val [lf ty3 l2 .ro] :: (.con .val [lf .str name2 .ro] :: (un 3 (.con .val [lf i64 i .ro] :: (un 14 [])))))
theorem ql0 (N : Nat) : ∀ k_, El0 N k_ = Z5e N k_
 | 0 => by kernel_rfl
 | k_ + 1 => (show El0 N (k_ + 1) = Z6h N (El0 N k_) from by kernel_rfl).trans (by simp only [ql0 N k_]; rfl)
noncomputable def eE : EnTry := ⟨96, sG, [.v ty3, .v .str], _, Z3q N, pk1 i64, enK Try.func96 (by kernel_rfl),
 fun l name => eok (eS N) (by kernel_rfl) Try.func96 rfl N an_ rfl (Y6 i64) (.trans (b := Z7c N (El0 N N) l name) (by kernel_rfl) (by rw [ql0]; rfl))⟩
end Z3q
namespace Z47
def sG := sgV [.val ty3, .val ty8] [(.bool, .dp)]
noncomputable def eS : List EnTry := [Z4.eE N, Z0c.eE N]
def an_ : Nat -> Option (List Nat)
 | 0 => some [0, 3, 5, 6]
 | 2 => some [0, 3, 5, 6, 7, 8]
 | 4 => some [0, 3, 5, 6, 7, 9]
 | 6 => some [3, 5, 10]
 | 8 => some [3, 11]
 | _ => none
noncomputable def lP (p : List Dir) (rs : List (Env -> Option (Bool))) (k : Nat) (env : Env) : Option (Bool) :=
 lpE (eS N) N an_ p Try.f100 (endK Tb sG Try.f100 [] (un1 .bool)) rs k env
noncomputable def El2 (k0_ : Nat) (k_ : Nat) (l4 : R0) (q8 : Int) (q9 : A0) (q10 : I0) (met3 : List Bool) (i3 : Int) (a3 : Int) (a4 : I0) (k2 : Int) : Option (Bool) :=
 lP N [.r, .r, .r, .l, .r, .b, .b, .r, .l, .b, .r, .r, .r, .r, .b] [lP N [.r, .r, .r, .l, .r, .b] [] k0_] k_ (.con .val [lf ty3 l4 .ro] :: (un 2 (.con (.box ⟨43, false, []⟩) [lf i64 q8 .ro, lf ty9 q9 .ro, lf ty0 q10 .ro] :: (un 1 (.con .val [lf ty11 met3 .dp] :: (.con .val [lf i64 i3 .ro] :: (.con (.box ⟨96, false, []⟩) [lf i64 a3 .ro, lf ty0 a4 .ro] :: (un 1 (.con .val [lf i64 k2 .ro] :: (un 140 []))))))))))
noncomputable def El1 (k0_ : Nat) (k_ : Nat) (l3 : R0) (q5 : Int) (q6 : A0) (q7 : I0) (met2 : List Bool) (i2 : Int) (a : Int) (a2 : I0) (k : Int) : Option (Bool) :=
 lP N [.r, .r, .r, .l, .r, .b, .b, .r, .l, .b, .r, .r, .l, .r, .b] [lP N [.r, .r, .r, .l, .r, .b] [] k0_] k_ (.con .val [lf ty3 l3 .ro] :: (un 2 (.con (.box ⟨43, false, []⟩) [lf i64 q5 .ro, lf ty9 q6 .ro, lf ty0 q7 .ro] :: (un 1 (.con .val [lf ty11 met2 .dp] :: (.con .val [lf i64 i2 .ro] :: (.con (.box ⟨96, false, []⟩) [lf i64 a .ro, lf ty0 a2 .ro] :: (.con .val [lf i64 k .ro] :: (un 141 [])))))))))
noncomputable def El4 (k_ : Nat) (q14 : Int) (q15 : A0) (q16 : I0) (i4 : Int) : Option (Bool) :=
 lP N [.r, .r, .r, .r, .r, .l, .r, .b] [] k_ (un 3 (.con (.box ⟨43, false, []⟩) [lf i64 q14 .ro, lf ty9 q15 .ro, lf ty0 q16 .ro] :: (un 7 (.con .val [lf i64 i4 .ro] :: (un 138 [])))))
noncomputable def El3 (k_ : Nat) (q11 : Int) (q12 : A0) (q13 : I0) (met4 : List Bool) (v : Int) : Option (Bool) :=
 lP N [.r, .r, .r, .r, .l, .r, .b] [] k_ (un 3 (.con (.box ⟨43, false, []⟩) [lf i64 q11 .ro, lf ty9 q12 .ro, lf ty0 q13 .ro] :: (un 1 (.con .val [lf ty11 met4 .dp] :: (un 4 (.con .val [lf i64 v .ro] :: (un 139 [])))))))
noncomputable def El0 (k_ : Nat) (l2 : R0) (q2 : Int) (q3 : A0) (q4 : I0) (met : List Bool) (i : Int) : Option (Bool) :=
 lP N [.r, .r, .r, .l, .r, .b] [] k_ (.con .val [lf ty3 l2 .ro] :: (un 2 (.con (.box ⟨43, false, []⟩) [lf i64 q2 .ro, lf ty9 q3 .ro, lf ty0 q4 .ro] :: (un 1 (.con .val [lf ty11 met .dp] :: (.con .val [lf i64 i .ro] :: (un 143 [])))))))
theorem ql2 (N : Nat) (k0_ : Nat) : ∀ k_, El2 N k0_ k_ = Z5m (El0 N k0_) N k_
 | 0 => by kernel_rfl
 | k_ + 1 => (show El2 N k0_ (k_ + 1) = Z6p N (El0 N k0_) (El2 N k0_ k_) from by kernel_rfl).trans (by simp only [ql2 N k0_ k_]; rfl)
theorem ql1 (N : Nat) (k0_ : Nat) : ∀ k_, El1 N k0_ k_ = Z5n (El0 N k0_) N k_
 | 0 => by kernel_rfl
 | k_ + 1 => (show El1 N k0_ (k_ + 1) = Z6q N (El0 N k0_) (El2 N k0_ N) (El1 N k0_ k_) from by kernel_rfl).trans (by simp only [ql2, ql1 N k0_ k_]; rfl)
theorem ql4 (N : Nat) : ∀ k_, El4 N k_ = Z5o N k_
 | 0 => by kernel_rfl
 | k_ + 1 => (show El4 N (k_ + 1) = Z6r N (El4 N k_) from by kernel_rfl).trans (by simp only [ql4 N k_]; rfl)
theorem ql3 (N : Nat) : ∀ k_, El3 N k_ = Z5p N k_
 | 0 => by kernel_rfl
 | k_ + 1 => (show El3 N (k_ + 1) = Z6s N (El4 N N) (El3 N k_) from by kernel_rfl).trans (by simp only [ql4, ql3 N k_]; rfl)
theorem ql0 (N : Nat) : ∀ k_, El0 N k_ = Z48 N k_
 | 0 => by kernel_rfl
 | k_ + 1 => (show El0 N (k_ + 1) = Z6t N (El1 N k_ N) (El3 N N) (El0 N k_) from by kernel_rfl).trans (by simp only [ql1, ql3, ql0 N k_]; rfl)
noncomputable def eE : EnTry := ⟨100, sG, [.v ty3, .v ty8], _, Z47 N, pk1 .bool, enK Try.func100 (by kernel_rfl),
 fun l q => eok (eS N) (by kernel_rfl) Try.func100 rfl N an_ rfl (Y6 .bool) (.trans (b := Z7n N (El0 N N) l q) (by kernel_rfl) (by rw [ql0]; rfl))⟩
end Z47
namespace Z5f
def sG := sgV [.val ty3, .val ty4] [(.str, .dp)]
noncomputable def eS : List EnTry := [Z1m.eE N]
def an_ : Nat -> Option (List Nat)
 | 0 => some [0, 3, 5, 6]
 | _ => none
noncomputable def lP (p : List Dir) (rs : List (Env -> Option (ByteArray))) (k : Nat) (env : Env) : Option (ByteArray) :=
 lpE (eS N) N an_ p Try.f101 (endK Tb sG Try.f101 [] (un1 .str)) rs k env
noncomputable def El0 (k_ : Nat) (l2 : R0) (a2 : Int) (a3 : I0) (s : ByteArray) (i : Int) : Option (ByteArray) :=
 lP N [.r, .r, .l, .r, .b] [] k_ (.con .val [lf ty3 l2 .ro] :: (un 2 (.con (.box ⟨96, false, []⟩) [lf i64 a2 .ro, lf ty0 a3 .ro] :: (un 1 (.con .val [lf .str s .ro] :: (.con .val [lf i64 i .ro] :: (un 32 [])))))))
theorem ql0 (N : Nat) : ∀ k_, El0 N k_ = Z7d N k_
 | 0 => by kernel_rfl
 | k_ + 1 => (show El0 N (k_ + 1) = Z84 N (El0 N k_) from by kernel_rfl).trans (by simp only [ql0 N k_]; rfl)
noncomputable def eE : EnTry := ⟨101, sG, [.v ty3, .v ty4], _, Z5f N, pk1 .str, enK Try.func101 (by kernel_rfl),
 fun l a => eok (eS N) (by kernel_rfl) Try.func101 rfl N an_ rfl (Y6 .str) (.trans (b := Z93 N (El0 N N) l a) (by kernel_rfl) (by rw [ql0]; rfl))⟩
end Z5f
namespace Z4k
def sG := sgV [.val ty3, .val ty8] [(.str, .dp)]
noncomputable def eS : List EnTry := [Z5f.eE N, Z1m.eE N, Z47.eE N]
def an_ : Nat -> Option (List Nat)
 | 0 => some [0, 3, 5, 6]
 | 2 => some [0, 3, 5, 7]
 | _ => none
noncomputable def lP (p : List Dir) (rs : List (Env -> Option (ByteArray))) (k : Nat) (env : Env) : Option (ByteArray) :=
 lpE (eS N) N an_ p Try.f97 (endK Tb sG Try.f97 [] (un1 .str)) rs k env
noncomputable def El1 (k_ : Nat) (l3 : R0) (q5 : Int) (q6 : A0) (q7 : I0) (s2 : ByteArray) (i2 : Int) : Option (ByteArray) :=
 lP N [.r, .r, .r, .r, .r, .l, .r, .b] [] k_ (.con .val [lf ty3 l3 .ro] :: (un 2 (.con (.box ⟨43, false, []⟩) [lf i64 q5 .ro, lf ty9 q6 .ro, lf ty0 q7 .ro] :: (un 1 (.con .val [lf .str s2 .ro] :: (un 1 (.con .val [lf i64 i2 .ro] :: (un 42 []))))))))
noncomputable def El0 (k_ : Nat) (l2 : R0) (q2 : Int) (q3 : A0) (q4 : I0) (s : ByteArray) (i : Int) : Option (ByteArray) :=
 lP N [.r, .r, .r, .l, .r, .b] [] k_ (.con .val [lf ty3 l2 .ro] :: (un 2 (.con (.box ⟨43, false, []⟩) [lf i64 q2 .ro, lf ty9 q3 .ro, lf ty0 q4 .ro] :: (un 1 (.con .val [lf .str s .ro] :: (.con .val [lf i64 i .ro] :: (un 43 [])))))))
theorem ql1 (N : Nat) : ∀ k_, El1 N k_ = Z61 N k_
 | 0 => by kernel_rfl
 | k_ + 1 => (show El1 N (k_ + 1) = Z72 N (El1 N k_) from by kernel_rfl).trans (by simp only [ql1 N k_]; rfl)
theorem ql0 (N : Nat) : ∀ k_, El0 N k_ = Z62 N k_
 | 0 => by kernel_rfl
 | k_ + 1 => (show El0 N (k_ + 1) = Z73 N (El1 N N) (El0 N k_) from by kernel_rfl).trans (by simp only [ql1, ql0 N k_]; rfl)
noncomputable def eE : EnTry := ⟨97, sG, [.v ty3, .v ty8], _, Z4k N, pk1 .str, enK Try.func97 (by kernel_rfl),
 fun l q => eok (eS N) (by kernel_rfl) Try.func97 rfl N an_ rfl (Y6 .str) (.trans (b := Z7u N (El0 N N) l q) (by kernel_rfl) (by rw [ql0]; rfl))⟩
end Z4k
namespace Z1n
def sG := sgV [.val ty3, .val .str] [(ty8, .dp), (.bool, .dp)]
noncomputable def eS : List EnTry := [Z3q.eE N, Z4h.eE N, Z4k.eE N, Z6g.eE N]
def an_ : Nat -> Option (List Nat)
 | 0 => some [0, 1, 4, 6, 7, 8]
 | 2 => some [0, 1, 4, 7, 11, 12]
 | 4 => some [0, 1, 4, 7, 11, 12, 13, 14]
 | _ => none
noncomputable def lP (p : List Dir) (rs : List (Env -> Option (Q0 × Bool))) (k : Nat) (env : Env) : Option (Q0 × Bool) :=
 lpE (eS N) N an_ p Try.f86 (endK Tb sG Try.f86 [] (un2 ty8 .bool)) rs k env
noncomputable def El2 (k0_ : Nat) (k_ : Nat) (l4 : R0) (s4 : ByteArray) (t47 : Int) (t48 : A0) (t49 : I0) (q7 : Int) (q8 : A0) (q9 : I0) (p2 : List ByteArray) (i3 : Int) (a : Int) (a2 : I0) (k : Int) : Option (Q0 × Bool) :=
 lP N [.r, .r, .r, .r, .r, .r, .l, .r, .b, .b, .r, .l, .b, .r, .l, .r, .b] [lP N [.r, .r, .r, .r, .r, .r, .l, .r, .b] [] k0_] k_ (.con .val [lf ty3 l4 .ro] :: (.con .val [lf .str s4 .ro] :: (un 2 (.con (.box ⟨43, false, []⟩) [lf i64 t47 .ro, lf ty9 t48 .dp, lf ty0 t49 .dp] :: (un 2 (.con (.box ⟨43, false, []⟩) [lf i64 q7 .ro, lf ty9 q8 .dp, lf ty0 q9 .dp] :: (un 3 (.con .val [lf ty10 p2 .dp] :: (.con .val [lf i64 i3 .ro] :: (.con (.box ⟨96, false, []⟩) [lf i64 a .ro, lf ty0 a2 .dp] :: (.con .val [lf i64 k .ro] :: (un 108 []))))))))))))
noncomputable def El1 (k_ : Nat) (l3 : R0) (s3 : ByteArray) (t44 : Int) (t45 : A0) (t46 : I0) (q4 : Int) (q5 : A0) (q6 : I0) (p : List ByteArray) (i2 : Int) : Option (Q0 × Bool) :=
 lP N [.r, .r, .r, .r, .r, .r, .l, .r, .b] [] k_ (.con .val [lf ty3 l3 .ro] :: (.con .val [lf .str s3 .ro] :: (un 2 (.con (.box ⟨43, false, []⟩) [lf i64 t44 .ro, lf ty9 t45 .dp, lf ty0 t46 .dp] :: (un 2 (.con (.box ⟨43, false, []⟩) [lf i64 q4 .ro, lf ty9 q5 .dp, lf ty0 q6 .dp] :: (un 3 (.con .val [lf ty10 p .dp] :: (.con .val [lf i64 i2 .ro] :: (un 110 []))))))))))
noncomputable def El0 (k_ : Nat) (l2 : R0) (s2 : ByteArray) (t4 : Int) (t42 : A0) (t43 : I0) (w : List ByteArray) (q : Int) (q2 : A0) (q3 : I0) (i : Int) : Option (Q0 × Bool) :=
 lP N [.r, .r, .r, .r, .l, .r, .b] [] k_ (.con .val [lf ty3 l2 .ro] :: (.con .val [lf .str s2 .ro] :: (un 2 (.con (.box ⟨43, false, []⟩) [lf i64 t4 .ro, lf ty9 t42 .dp, lf ty0 t43 .dp] :: (un 1 (.con .val [lf ty10 w .dp] :: (.con (.box ⟨43, false, []⟩) [lf i64 q .ro, lf ty9 q2 .dp, lf ty0 q3 .dp] :: (.con .val [lf i64 i .ro] :: (un 114 [])))))))))
theorem ql2 (N : Nat) (k0_ : Nat) : ∀ k_, El2 N k0_ k_ = Z6d (El1 N k0_) N k_
 | 0 => by kernel_rfl
 | k_ + 1 => (show El2 N k0_ (k_ + 1) = Z7e N (El1 N k0_) (El2 N k0_ k_) from by kernel_rfl).trans (by simp only [ql2 N k0_ k_]; rfl)
theorem ql1 (N : Nat) : ∀ k_, El1 N k_ = Z4z N k_
 | 0 => by kernel_rfl
 | k_ + 1 => (show El1 N (k_ + 1) = Z7f N (El2 N k_ N) (El1 N k_) from by kernel_rfl).trans (by simp only [ql2, ql1 N k_]; rfl)
theorem ql0 (N : Nat) : ∀ k_, El0 N k_ = Z6e N k_
 | 0 => by kernel_rfl
 | k_ + 1 => (show El0 N (k_ + 1) = Z7g N (El1 N N) (El0 N k_) from by kernel_rfl).trans (by simp only [ql1, ql0 N k_]; rfl)
noncomputable def eE : EnTry := ⟨86, sG, [.v ty3, .v .str], _, Z1n N, pk2 ty8 .bool, enK Try.func86 (by kernel_rfl),
 fun l s => eok (eS N) (by kernel_rfl) Try.func86 rfl N an_ rfl (Yr ty8 .bool) (.trans (b := Z85 N (El0 N N) l s) (by kernel_rfl) (by rw [ql0]; rfl))⟩
end Z1n
namespace Z34
def bX : BoxSig := ⟨0, 93, [.fx, .ro, .ro]⟩
def sG : Sig := ⟨[.ptr ty2, .val ty3], [(ty8, .dp)], false, false, some bX, none, none⟩
noncomputable def eS : List EnTry := [Z4e.eE N, Z1n.eE N]
theorem vV (c : List Int × Int × Int) (l : R0) :
  evB (eS N) N an0 sG bX Try.f71 [.ptr ty2 c, .val ty3 l] (un2 ty2 ty8) = Z34 N c l := by kernel_rfl
noncomputable def eE : EnTry := ⟨71, sG, [.p ty2, .v ty3], _, Z34 N, pk2 ty2 ty8, enK Try.func71 (by kernel_rfl),
 fun c l => Ym tab_ok (es := eS N) (by kernel_rfl) mixed Try.func71 (by kernel_rfl) rfl rfl (fun _ => ⟨_, _, rfl⟩) (Yr ty2 ty8) (vV N c l)⟩
end Z34
namespace Z31
def bX : BoxSig := ⟨0, 93, [.fx, .ro, .ro]⟩
def sG : Sig := ⟨[.ptr ty2, .val ty3], [(ty8, .dp)], false, false, some bX, none, none⟩
noncomputable def eS : List EnTry := [Z0v.eE N, Z40.eE N, Z34.eE N]
def an_ : Nat -> Option (List Nat)
 | 0 => some [0, 4, 5, 6]
 | _ => none
noncomputable def lP (p : List Dir) (rs : List (Env -> Option ((List Int × Int × Int) × Int × List (Int × List Int) × List Int))) (k : Nat) (env : Env) : Option ((List Int × Int × Int) × Int × List (Int × List Int) × List Int) :=
 lpE (eS N) N an_ p Try.f49 (endB Tb sG bX Try.f49 ty2 (un2 ty2 ty8)) rs k env
noncomputable def El0 (k_ : Nat) (c2 : I0) (c3 : Int) (c4 : Int) (t4 : Int) (t42 : A0) (t43 : I0) (q : Int) (q2 : A0) (q3 : I0) (v : Int) : Option ((List Int × Int × Int) × Int × List (Int × List Int) × List Int) :=
 lP N [.r, .r, .r, .l, .r, .t, .r, .b] [] k_ (.con (.box ⟨93, true, [true, false, false]⟩) [lf ty1 c2 .ro, lf i64 c3 .ro, lf i64 c4 .ro] :: (un 3 (.con (.box ⟨43, false, []⟩) [lf i64 t4 .ro, lf ty9 t42 .dp, lf ty0 t43 .dp] :: (.con (.box ⟨43, false, []⟩) [lf i64 q .ro, lf ty9 q2 .dp, lf ty0 q3 .dp] :: (.con .val [lf i64 v .ro] :: (un 24 []))))))
theorem ql0 (N : Nat) : ∀ k_, El0 N k_ = Z3x N k_
 | 0 => by kernel_rfl
 | k_ + 1 => (show El0 N (k_ + 1) = Z6n N (El0 N k_) from by kernel_rfl).trans (by simp only [ql0 N k_]; rfl)
theorem vV (c : List Int × Int × Int) (l : R0) :
  evB (eS N) N an_ sG bX Try.f49 [.ptr ty2 c, .val ty3 l] (un2 ty2 ty8) = Z7s N (El0 N N) c l := by kernel_rfl
noncomputable def eE : EnTry := ⟨49, sG, [.p ty2, .v ty3], _, Z31 N, pk2 ty2 ty8, enK Try.func49 (by kernel_rfl),
 fun c l => Ym tab_ok (es := eS N) (by kernel_rfl) mixed Try.func49 (by kernel_rfl) rfl rfl (fun _ => ⟨_, _, rfl⟩) (Yr ty2 ty8) ((vV N c l).trans (by rw [ql0]; rfl))⟩
end Z31
namespace Z4f
def bX : BoxSig := ⟨0, 93, [.fx, .ro, .ro]⟩
def sG : Sig := ⟨[.ptr ty2, .val ty3], [(ty8, .dp)], false, false, some bX, none, none⟩
noncomputable def eS : List EnTry := [Z31.eE N, Z0.eE N, Z0f.eE N]
theorem vV (c : List Int × Int × Int) (l : R0) :
  evB (eS N) N an0 sG bX Try.f50 [.ptr ty2 c, .val ty3 l] (un2 ty2 ty8) = Z4f N c l := by kernel_rfl
noncomputable def eE : EnTry := ⟨50, sG, [.p ty2, .v ty3], _, Z4f N, pk2 ty2 ty8, enK Try.func50 (by kernel_rfl),
 fun c l => Ym tab_ok (es := eS N) (by kernel_rfl) mixed Try.func50 (by kernel_rfl) rfl rfl (fun _ => ⟨_, _, rfl⟩) (Yr ty2 ty8) (vV N c l)⟩
end Z4f
namespace Z3r
def sG : Sig := ⟨[.val ty1], [(ty5, .ro), (ty8, .dp)], false, false, none, some 93, none⟩
noncomputable def eS : List EnTry := [Z5j.eE N, Z5l.eE N, Z31.eE N, Z0v.eE N, Z4f.eE N]
theorem vV (code : I0) :
  evN (eS N) N an0 93 ty2 sG.results Try.f28 [.val ty1 code] (un3 ty2 ty5 ty8) = Z3r N code := by kernel_rfl
noncomputable def eE : EnTry := ⟨28, sG, [.v ty1], _, Z3r N, pk3 ty2 ty5 ty8, enK Try.func28 (by kernel_rfl),
 fun code => Y5j tab_ok (es := eS N) (by kernel_rfl) mixed Try.func28 (by kernel_rfl) rfl rfl (fun _ => ⟨_, _, rfl⟩) (Yc0 ty2 ty5 ty8) (vV N code)⟩
end Z3r
namespace Z4g
def bX : BoxSig := ⟨0, 93, [.fx, .ro, .ro]⟩
def sG : Sig := ⟨[.ptr ty2], [(ty12, .dp)], false, false, some bX, none, none⟩
noncomputable def eS : List EnTry := [Z0.eE N, Z0f.eE N]
theorem vV (c : List Int × Int × Int) :
  evB (eS N) N an0 sG bX Try.f52 [.ptr ty2 c] (un2 ty2 ty12) = Z4g N c := by kernel_rfl
noncomputable def eE : EnTry := ⟨52, sG, [.p ty2], _, Z4g N, pk2 ty2 ty12, enK Try.func52 (by kernel_rfl),
 fun c => Ym tab_ok (es := eS N) (by kernel_rfl) mixed Try.func52 (by kernel_rfl) rfl rfl (fun _ => ⟨_, _, rfl⟩) (Yr ty2 ty12) (vV N c)⟩
end Z4g
namespace Z54
def bX : BoxSig := ⟨0, 93, [.fx, .ro, .ro]⟩
def sG : Sig := ⟨[.ptr ty2], [(ty13, .dp)], false, false, some bX, none, none⟩
noncomputable def eS : List EnTry := [Z4g.eE N, Z0.eE N]
def an_ : Nat -> Option (List Nat)
 | 0 => some [0, 3, 4]
 | _ => none
noncomputable def lP (p : List Dir) (rs : List (Env -> Option ((List Int × Int × Int) × List C0))) (k : Nat) (env : Env) : Option ((List Int × Int × Int) × List C0) :=
 lpE (eS N) N an_ p Try.f29 (endB Tb sG bX Try.f29 ty2 (un2 ty2 ty13)) rs k env
noncomputable def El0 (k_ : Nat) (c2 : I0) (c3 : Int) (c4 : Int) (l : List C0) (n : Int) : Option ((List Int × Int × Int) × List C0) :=
 lP N [.r, .r, .l, .r, .b] [] k_ (.con (.box ⟨93, true, [true, false, false]⟩) [lf ty1 c2 .ro, lf i64 c3 .ro, lf i64 c4 .ro] :: (un 2 (.con .val [lf ty13 l .dp] :: (.con .val [lf i64 n .ro] :: (un 13 [])))))
theorem ql0 (N : Nat) : ∀ k_, El0 N k_ = Z5g N k_
 | 0 => by kernel_rfl
 | k_ + 1 => (show El0 N (k_ + 1) = Z70 N (El0 N k_) from by kernel_rfl).trans (by simp only [ql0 N k_]; rfl)
theorem vV (c : List Int × Int × Int) :
  evB (eS N) N an_ sG bX Try.f29 [.ptr ty2 c] (un2 ty2 ty13) = Z81 N (El0 N N) c := by kernel_rfl
noncomputable def eE : EnTry := ⟨29, sG, [.p ty2], _, Z54 N, pk2 ty2 ty13, enK Try.func29 (by kernel_rfl),
 fun c => Ym tab_ok (es := eS N) (by kernel_rfl) mixed Try.func29 (by kernel_rfl) rfl rfl (fun _ => ⟨_, _, rfl⟩) (Yr ty2 ty13) ((vV N c).trans (by rw [ql0]; rfl))⟩
end Z54
namespace Z3s
def sG : Sig := ⟨[.val ty1], [(ty5, .ro), (ty13, .dp), (ty8, .dp)], false, false, none, some 93, none⟩
noncomputable def eS : List EnTry := [Z3r.eE N, Z54.eE N]
theorem vV (code : I0) :
  evN (eS N) N an0 93 ty2 sG.results Try.f13 [.val ty1 code] (un4 ty2 ty5 ty13 ty8) = Z3s N code := by kernel_rfl
noncomputable def eE : EnTry := ⟨13, sG, [.v ty1], _, Z3s N, pk4 ty2 ty5 ty13 ty8, enK Try.func13 (by kernel_rfl),
 fun code => Y5j tab_ok (es := eS N) (by kernel_rfl) mixed Try.func13 (by kernel_rfl) rfl rfl (fun _ => ⟨_, _, rfl⟩) (Ydf ty2 ty5 ty13 ty8) (vV N code)⟩
end Z3s
namespace Z41
def bX : BoxSig := ⟨0, 93, [.fx, .ro, .ro]⟩
def sG : Sig := ⟨[.ptr ty2, .val ty5], [(ty0, .dp)], false, false, some bX, none, none⟩
noncomputable def eS : List EnTry := [Z0v.eE N, Z0f.eE N]
def an_ : Nat -> Option (List Nat)
 | 0 => some [0, 3, 5, 6]
 | _ => none
noncomputable def lP (p : List Dir) (rs : List (Env -> Option ((List Int × Int × Int) × List Int))) (k : Nat) (env : Env) : Option ((List Int × Int × Int) × List Int) :=
 lpE (eS N) N an_ p Try.f14 (endB Tb sG bX Try.f14 ty2 (un2 ty2 ty0)) rs k env
noncomputable def El0 (k_ : Nat) (c2 : I0) (c3 : Int) (c4 : Int) (d2 : R0) (d3 : A0) (l : I0) (i : Int) : Option ((List Int × Int × Int) × List Int) :=
 lP N [.r, .r, .l, .r, .b] [] k_ (.con (.box ⟨93, true, [true, false, false]⟩) [lf ty1 c2 .ro, lf i64 c3 .ro, lf i64 c4 .ro] :: (un 2 (.con (.box ⟨27, false, []⟩) [lf ty3 d2 .ro, lf ty6 d3 .ro] :: (un 1 (.con .val [lf ty0 l .dp] :: (.con .val [lf i64 i .ro] :: (un 30 [])))))))
theorem ql0 (N : Nat) : ∀ k_, El0 N k_ = Z4l N k_
 | 0 => by kernel_rfl
 | k_ + 1 => (show El0 N (k_ + 1) = Z6f N (El0 N k_) from by kernel_rfl).trans (by simp only [ql0 N k_]; rfl)
theorem vV (c : List Int × Int × Int) (d : D0) :
  evB (eS N) N an_ sG bX Try.f14 [.ptr ty2 c, .val ty5 d] (un2 ty2 ty0) = Z7h N (El0 N N) c d := by kernel_rfl
noncomputable def eE : EnTry := ⟨14, sG, [.p ty2, .v ty5], _, Z41 N, pk2 ty2 ty0, enK Try.func14 (by kernel_rfl),
 fun c d => Ym tab_ok (es := eS N) (by kernel_rfl) mixed Try.func14 (by kernel_rfl) rfl rfl (fun _ => ⟨_, _, rfl⟩) (Yr ty2 ty0) ((vV N c d).trans (by rw [ql0]; rfl))⟩
end Z41
namespace Z1b
def sG := sgV [.val ty1] [(ty5, .ro), (ty13, .dp), (ty0, .dp)]
noncomputable def eS : List EnTry := [Z3s.eE N, Z41.eE N]
noncomputable def eE : EnTry := ⟨5, sG, [.v ty1], _, Z1b N, pk3 ty5 ty13 ty0, enK Try.func5 (by kernel_rfl),
 fun code => eok (eS N) (by kernel_rfl) Try.func5 rfl N an0 rfl (Yc0 ty5 ty13 ty0) (by kernel_rfl)⟩
end Z1b
namespace Z9
def sG := sgV [.val i64, .val i64, .val i64] [(.bool, .dp)]
noncomputable def eS (N : Nat) : List EnTry := []
noncomputable def eE : EnTry := ⟨35, sG, [.v i64, .v i64, .v i64], _, Z9 N, pk1 .bool, enK Try.func35 (by kernel_rfl),
 fun n low high => eok (eS N) (by kernel_rfl) Try.func35 rfl N an0 rfl (Y6 .bool) (by kernel_rfl)⟩
end Z9
namespace Z1q
def sG := sgV [.val ty7] [(.bool, .dp)]
noncomputable def eS : List EnTry := [Z9.eE N]
noncomputable def eE : EnTry := ⟨53, sG, [.v ty7], _, Z1q N, pk1 .bool, enK Try.func53 (by kernel_rfl),
 fun relation => eok (eS N) (by kernel_rfl) Try.func53 rfl N an0 rfl (Y6 .bool) (by kernel_rfl)⟩
end Z1q
namespace Z1c
def sG := sgV [.val ty3] [(.bool, .dp)]
noncomputable def eS : List EnTry := [Z1q.eE N]
def an_ : Nat -> Option (List Nat)
 | 0 => some [0, 5, 6, 7]
 | _ => none
noncomputable def lP (p : List Dir) (rs : List (Env -> Option (Bool))) (k : Nat) (env : Env) : Option (Bool) :=
 lpE (eS N) N an_ p Try.f32 (endK Tb sG Try.f32 [] (un1 .bool)) rs k env
noncomputable def El0 (k_ : Nat) (relations2 : R0) (t5 : R0) (t6 : Int) (t7 : Int) : Option (Bool) :=
 lP N [.r, .l, .r, .b] [] k_ (.con .val [lf ty3 relations2 .ro] :: (un 4 (.con .val [lf ty3 t5 .ro] :: (.con .val [lf i64 t6 .ro] :: (.con .val [lf i64 t7 .ro] :: (un 26 []))))))
theorem ql0 (N : Nat) : ∀ k_, El0 N k_ = Z1e N k_
 | 0 => by kernel_rfl
 | k_ + 1 => (show El0 N (k_ + 1) = Z2k N (El0 N k_) from by kernel_rfl).trans (by simp only [ql0 N k_]; rfl)
noncomputable def eE : EnTry := ⟨32, sG, [.v ty3], _, Z1c N, pk1 .bool, enK Try.func32 (by kernel_rfl),
 fun relations => eok (eS N) (by kernel_rfl) Try.func32 rfl N an_ rfl (Y6 .bool) (.trans (b := Z4m N (El0 N N) relations) (by kernel_rfl) (by rw [ql0]; rfl))⟩
end Z1c
namespace Z33
def sG := sgV [.val i64] [(.bool, .dp)]
noncomputable def eS : List EnTry := [Z9.eE N]
noncomputable def eE : EnTry := ⟨74, sG, [.v i64], _, Z33 N, pk1 .bool, enK Try.func74 (by kernel_rfl),
 fun v => eok (eS N) (by kernel_rfl) Try.func74 rfl N an0 rfl (Y6 .bool) (by kernel_rfl)⟩
end Z33
namespace Z0g
def sG := sgV [.val ty0, .clo] [(i64, .dp)]
noncomputable def eS : List EnTry := [Z33.eE N]
def an_ : Nat -> Option (List Nat)
 | 0 => some [0, 1, 7, 8]
 | _ => none
noncomputable def lP (p : List Dir) (rs : List (Env -> Option (Int))) (k : Nat) (env : Env) : Option (Int) :=
 lpE (eS N) N an_ p Try.f88 (endK Tb sG Try.f88 [] (un1 i64)) rs k env
noncomputable def El0 (k_ : Nat) (s2 : I0) (t7 : Int) (t8 : Int) : Option (Int) :=
 lP N [.r, .l, .r, .b] [] k_ (.con .val [lf ty0 s2 .ro] :: (.cloR 74 [] :: (un 5 (.con .val [lf i64 t7 .ro] :: (.con .val [lf i64 t8 .ro] :: (un 10 []))))))
theorem ql0 (N : Nat) : ∀ k_, El0 N k_ = Z0a N k_
 | 0 => by kernel_rfl
 | k_ + 1 => (show El0 N (k_ + 1) = Z0r N (El0 N k_) from by kernel_rfl).trans (by simp only [ql0 N k_]; rfl)
noncomputable def eE : EnTry := ⟨88, sG, [.v ty0, .c 74 []], _, Z0g N, pk1 i64, enK Try.func88 (by kernel_rfl),
 fun s => eok (eS N) (by kernel_rfl) Try.func88 rfl N an_ rfl (Y6 i64) (.trans (b := Z1r N (El0 N N) s) (by kernel_rfl) (by rw [ql0]; rfl))⟩
end Z0g
namespace Z0b
def sG := sgV [.val ty0, .clo] [(.bool, .dp)]
noncomputable def eS : List EnTry := [Z0g.eE N]
noncomputable def eE : EnTry := ⟨73, sG, [.v ty0, .c 74 []], _, Z0b N, pk1 .bool, enK Try.func73 (by kernel_rfl),
 fun s => eok (eS N) (by kernel_rfl) Try.func73 rfl N an0 rfl (Y6 .bool) (by kernel_rfl)⟩
end Z0b
namespace Z3k
def sG := sgV [.val ty0] [(.bool, .dp)]
noncomputable def eS : List EnTry := [Z0b.eE N]
noncomputable def eE : EnTry := ⟨54, sG, [.v ty0], _, Z3k N, pk1 .bool, enK Try.func54 (by kernel_rfl),
 fun list => eok (eS N) (by kernel_rfl) Try.func54 rfl N an0 rfl (Y6 .bool) (by kernel_rfl)⟩
end Z3k
namespace Z55
def sG := sgV [.val ty3, .val ty4] [(.bool, .dp)]
noncomputable def eS : List EnTry := [Z9.eE N, Z3k.eE N]
noncomputable def eE : EnTry := ⟨33, sG, [.v ty3, .v ty4], _, Z55 N, pk1 .bool, enK Try.func33 (by kernel_rfl),
 fun relations fact => eok (eS N) (by kernel_rfl) Try.func33 rfl N an0 rfl (Y6 .bool) (by kernel_rfl)⟩
end Z55
namespace Z5i
def sG := sgV [.val i64, .val i64] [(i64, .dp)]
noncomputable def eS (N : Nat) : List EnTry := []
noncomputable def eE : EnTry := ⟨55, sG, [.v i64, .v i64], _, Z5i N, pk1 i64, enK Try.func55 (by kernel_rfl),
 fun a b => eok (eS N) (by kernel_rfl) Try.func55 rfl N an0 rfl (Y6 i64) (by kernel_rfl)⟩
end Z5i
namespace Z42
def sG := sgV [.val i64] [(.bool, .dp)]
noncomputable def eS (N : Nat) : List EnTry := []
noncomputable def eE : EnTry := ⟨89, sG, [.v i64], _, Z42 N, pk1 .bool, enK Try.func89 (by kernel_rfl),
 fun x => eok (eS N) (by kernel_rfl) Try.func89 rfl N an0 rfl (Y6 .bool) (by kernel_rfl)⟩
end Z42
namespace Z32
def sG := sgV [.val i64, .val i64] [(i64, .dp)]
noncomputable def eS : List EnTry := [Z42.eE N]
noncomputable def eE : EnTry := ⟨75, sG, [.v i64, .v i64], _, Z32 N, pk1 i64, enK Try.func75 (by kernel_rfl),
 fun x y => eok (eS N) (by kernel_rfl) Try.func75 rfl N an0 rfl (Y6 i64) (by kernel_rfl)⟩
end Z32
namespace Z17
def sG := sgV [.val ty0, .val ty0] [(i64, .dp)]
noncomputable def eS : List EnTry := [Z32.eE N]
def an_ : Nat -> Option (List Nat)
 | 0 => some [0, 1, 9, 10, 11]
 | _ => none
noncomputable def lP (p : List Dir) (rs : List (Env -> Option (Int))) (k : Nat) (env : Env) : Option (Int) :=
 lpE (eS N) N an_ p Try.f56 (endK Tb sG Try.f56 [] (un1 i64)) rs k env
noncomputable def El0 (k_ : Nat) (s12 : I0) (s22 : I0) (t9 : I0) (t10 : Int) (t11 : Int) : Option (Int) :=
 lP N [.r, .l, .r, .b] [] k_ (.con .val [lf ty0 s12 .ro] :: (.con .val [lf ty0 s22 .ro] :: (un 7 (.con .val [lf ty0 t9 .ro] :: (.con .val [lf i64 t10 .ro] :: (.con .val [lf i64 t11 .ro] :: (un 24 [])))))))
theorem ql0 (N : Nat) : ∀ k_, El0 N k_ = Z0w N k_
 | 0 => by kernel_rfl
 | k_ + 1 => (show El0 N (k_ + 1) = Z1f N (El0 N k_) from by kernel_rfl).trans (by simp only [ql0 N k_]; rfl)
noncomputable def eE : EnTry := ⟨56, sG, [.v ty0, .v ty0], _, Z17 N, pk1 i64, enK Try.func56 (by kernel_rfl),
 fun s1 s2 => eok (eS N) (by kernel_rfl) Try.func56 rfl N an_ rfl (Y6 i64) (.trans (b := Z49 N (El0 N N) s1 s2) (by kernel_rfl) (by rw [ql0]; rfl))⟩
end Z17
namespace Z2i
def sG := sgV [.val ty4, .val ty4] [(i64, .dp)]
noncomputable def eS : List EnTry := [Z5i.eE N, Z17.eE N]
noncomputable def eE : EnTry := ⟨34, sG, [.v ty4, .v ty4], _, Z2i N, pk1 i64, enK Try.func34 (by kernel_rfl),
 fun a b => eok (eS N) (by kernel_rfl) Try.func34 rfl N an0 rfl (Y6 i64) (by kernel_rfl)⟩
end Z2i
namespace Z0d
def sG := sgV [.val ty5] [(.bool, .dp)]
noncomputable def eS : List EnTry := [Z55.eE N, Z2i.eE N, Z1c.eE N]
def an_ : Nat -> Option (List Nat)
 | 0 => some [1, 16, 17, 18]
 | _ => none
noncomputable def lP (p : List Dir) (rs : List (Env -> Option (Bool))) (k : Nat) (env : Env) : Option (Bool) :=
 lpE (eS N) N an_ p Try.f15 (endK Tb sG Try.f15 [] (un1 .bool)) rs k env
noncomputable def El0 (k_ : Nat) (db2 : R0) (db3 : A0) (t16 : A0) (t17 : Int) (t18 : Int) : Option (Bool) :=
 lP N [.r, .r, .l, .r, .b] [] k_ (un 1 (.con (.box ⟨27, false, []⟩) [lf ty3 db2 .ro, lf ty6 db3 .ro] :: (un 14 (.con .val [lf ty6 t16 .ro] :: (.con .val [lf i64 t17 .ro] :: (.con .val [lf i64 t18 .ro] :: (un 25 [])))))))
theorem ql0 (N : Nat) : ∀ k_, El0 N k_ = Z1p N k_
 | 0 => by kernel_rfl
 | k_ + 1 => (show El0 N (k_ + 1) = Z2z N (El0 N k_) from by kernel_rfl).trans (by simp only [ql0 N k_]; rfl)
noncomputable def eE : EnTry := ⟨15, sG, [.v ty5], _, Z0d N, pk1 .bool, enK Try.func15 (by kernel_rfl),
 fun db => eok (eS N) (by kernel_rfl) Try.func15 rfl N an_ rfl (Y6 .bool) (.trans (b := Z56 N (El0 N N) db) (by kernel_rfl) (by rw [ql0]; rfl))⟩
end Z0d
namespace Z1w
def sG := sgV [.val ty0, .val i64] [(.bool, .dp)]
noncomputable def eS : List EnTry := [Z9.eE N]
def an_ : Nat -> Option (List Nat)
 | 0 => some [0, 1, 7, 8, 9]
 | _ => none
noncomputable def lP (p : List Dir) (rs : List (Env -> Option (Bool))) (k : Nat) (env : Env) : Option (Bool) :=
 lpE (eS N) N an_ p Try.f16 (endK Tb sG Try.f16 [] (un1 .bool)) rs k env
noncomputable def El0 (k_ : Nat) (indices2 : I0) (n2 : Int) (t7 : I0) (t8 : Int) (t9 : Int) : Option (Bool) :=
 lP N [.r, .l, .r, .b] [] k_ (.con .val [lf ty0 indices2 .ro] :: (.con .val [lf i64 n2 .ro] :: (un 5 (.con .val [lf ty0 t7 .ro] :: (.con .val [lf i64 t8 .ro] :: (.con .val [lf i64 t9 .ro] :: (un 23 [])))))))
theorem ql0 (N : Nat) : ∀ k_, El0 N k_ = Z2x N k_
 | 0 => by kernel_rfl
 | k_ + 1 => (show El0 N (k_ + 1) = Z4a N (El0 N k_) from by kernel_rfl).trans (by simp only [ql0 N k_]; rfl)
noncomputable def eE : EnTry := ⟨16, sG, [.v ty0, .v i64], _, Z1w N, pk1 .bool, enK Try.func16 (by kernel_rfl),
 fun indices n => eok (eS N) (by kernel_rfl) Try.func16 rfl N an_ rfl (Y6 .bool) (.trans (b := Z6o N (El0 N N) indices n) (by kernel_rfl) (by rw [ql0]; rfl))⟩
end Z1w
namespace Z1d
def sG := sgV [.val ty5, .val ty12] [(.bool, .dp)]
noncomputable def eS : List EnTry := [Z0d.eE N, Z9.eE N]
noncomputable def eE : EnTry := ⟨79, sG, [.v ty5, .v ty12], _, Z1d N, pk1 .bool, enK Try.func79 (by kernel_rfl),
 fun db constraint => eok (eS N) (by kernel_rfl) Try.func79 rfl N an0 rfl (Y6 .bool) (by kernel_rfl)⟩
end Z1d
namespace Z4u
def sG := sgV [.val ty12, .val ty4, .val ty4] [(.bool, .dp)]
noncomputable def eS (N : Nat) : List EnTry := []
noncomputable def eE : EnTry := ⟨80, sG, [.v ty12, .v ty4, .v ty4], _, Z4u N, pk1 .bool, enK Try.func80 (by kernel_rfl),
 fun c a b => eok (eS N) (by kernel_rfl) Try.func80 rfl N an0 rfl (Y6 .bool) (by kernel_rfl)⟩
end Z4u
namespace Z0x
def sG := sgV [.val ty5, .val ty12, .val i64, .val i64] [(.bool, .dp)]
noncomputable def eS : List EnTry := [Z1d.eE N, Z9.eE N, Z4u.eE N]
noncomputable def eE : EnTry := ⟨64, sG, [.v ty5, .v ty12, .v i64, .v i64], _, Z0x N, pk1 .bool, enK Try.func64 (by kernel_rfl),
 fun db constraint first second => eok (eS N) (by kernel_rfl) Try.func64 rfl N an0 rfl (Y6 .bool) (by kernel_rfl)⟩
end Z0x
namespace Z1h
def sG := sgV [.val ty0, .val ty0] [(.bool, .dp)]
noncomputable def eS (N : Nat) : List EnTry := []
def an_ : Nat -> Option (List Nat)
 | 0 => some [0, 1, 12, 13]
 | _ => none
noncomputable def lP (p : List Dir) (rs : List (Env -> Option (Bool))) (k : Nat) (env : Env) : Option (Bool) :=
 lpE (eS N) N an_ p Try.f81 (endK Tb sG Try.f81 [] (un1 .bool)) rs k env
noncomputable def El0 (k_ : Nat) (s12 : I0) (s22 : I0) (t12 : Int) (t13 : Int) : Option (Bool) :=
 lP N [.r, .r, .l, .r, .b] [] k_ (.con .val [lf ty0 s12 .ro] :: (.con .val [lf ty0 s22 .ro] :: (un 10 (.con .val [lf i64 t12 .ro] :: (.con .val [lf i64 t13 .ro] :: (un 12 []))))))
theorem ql0 (N : Nat) : ∀ k_, El0 N k_ = Z1g N k_
 | 0 => by kernel_rfl
 | k_ + 1 => (show El0 N (k_ + 1) = Z2p N (El0 N k_) from by kernel_rfl).trans (by simp only [ql0 N k_]; rfl)
noncomputable def eE : EnTry := ⟨81, sG, [.v ty0, .v ty0], _, Z1h N, pk1 .bool, enK Try.func81 (by kernel_rfl),
 fun s1 s2 => eok (eS N) (by kernel_rfl) Try.func81 rfl N an_ rfl (Y6 .bool) (.trans (b := Z4p N (El0 N N) s1 s2) (by kernel_rfl) (by rw [ql0]; rfl))⟩
end Z1h
namespace Z4n
def sG := sgV [.val ty3, .val ty4, .val ty4] [(.bool, .dp)]
noncomputable def eS : List EnTry := [Z1h.eE N]
noncomputable def eE : EnTry := ⟨65, sG, [.v ty3, .v ty4, .v ty4], _, Z4n N, pk1 .bool, enK Try.func65 (by kernel_rfl),
 fun relations a b => eok (eS N) (by kernel_rfl) Try.func65 rfl N an0 rfl (Y6 .bool) (by kernel_rfl)⟩
end Z4n
namespace Z1j
def sG := sgV [.val i64, .val i64, .ptr ty13, .ptr ty5] [(.bool, .dp)]
noncomputable def eS : List EnTry := [Z0x.eE N, Z4n.eE N]
def an_ : Nat -> Option (List Nat)
 | 0 => some [0, 1, 3, 9, 10, 11]
 | _ => none
noncomputable def lP (p : List Dir) (rs : List (Env -> Option (Bool))) (k : Nat) (env : Env) : Option (Bool) :=
 lpE (eS N) N an_ p Try.f63 (endK Tb sG Try.f63 [] (un1 .bool)) rs k env
noncomputable def El0 (k_ : Nat) (a2 : Int) (b2 : Int) (t3 : R0) (t32 : A0) (t9 : List C0) (t10 : Int) (t11 : Int) : Option (Bool) :=
 lP N [.r, .l, .r, .b] [] k_ (.con .val [lf i64 a2 .ro] :: (.con .val [lf i64 b2 .ro] :: (un 1 (.eptr [lf ty3 t3 .ro, lf ty6 t32 .ro] none :: (un 5 (.con .val [lf ty13 t9 .ro] :: (.con .val [lf i64 t10 .ro] :: (.con .val [lf i64 t11 .ro] :: (un 29 [])))))))))
theorem ql0 (N : Nat) : ∀ k_, El0 N k_ = Z1i N k_
 | 0 => by kernel_rfl
 | k_ + 1 => (show El0 N (k_ + 1) = Z2q N (El0 N k_) from by kernel_rfl).trans (by simp only [ql0 N k_]; rfl)
noncomputable def eE : EnTry := ⟨63, sG, [.v i64, .v i64, .p ty13, .p ty5], _, Z1j N, pk1 .bool, enK Try.func63 (by kernel_rfl),
 fun a b c2 c3 => eok (eS N) (by kernel_rfl) Try.func63 rfl N an_ rfl (Y6 .bool) (.trans (b := Z4q N (El0 N N) a b c2 c3) (by kernel_rfl) (by rw [ql0]; rfl))⟩
end Z1j
namespace Z15
def sG := sgV [.val i64, .clo] [(ty14, .dp)]
noncomputable def eS : List EnTry := [Z1j.eE N]
def an_ : Nat -> Option (List Nat)
 | 0 => some [0, 1, 5, 9, 10]
 | 2 => some [0, 1, 5, 6, 7, 9, 10]
 | _ => none
noncomputable def lP (p : List Dir) (rs : List (Env -> Option E0)) (k : Nat) (env : Env) : Option E0 :=
 lpE (eS N) N an_ p Try.f62 (endK Tb sG Try.f62 [] (un1 ty14)) rs k env
noncomputable def El1 (k0_ : Nat) (k_ : Nat) (n3 : Int) (holds3 : List C0) (holds4 : D0) (out2 : E0) (a : Int) (b : Int) (t92 : Int) (t102 : Int) : Option E0 :=
 lP N [.r, .r, .l, .r, .b, .b, .r, .r, .l, .b, .r, .r, .b] [lP N [.r, .r, .l, .r, .b] [] k0_] k_ (.con .val [lf i64 n3 .ro] :: (.cloR 63 [⟨ty13, holds3⟩, ⟨ty5, holds4⟩] :: (un 3 (.con .val [lf ty14 out2 .dp] :: (.con .val [lf i64 a .ro] :: (.con .val [lf i64 b .ro] :: (un 1 (.con .val [lf i64 t92 .ro] :: (.con .val [lf i64 t102 .ro] :: (un 21 []))))))))))
noncomputable def El0 (k_ : Nat) (n2 : Int) (holds : List C0) (holds2 : D0) (out : E0) (t9 : Int) (t10 : Int) : Option E0 :=
 lP N [.r, .r, .l, .r, .b] [] k_ (.con .val [lf i64 n2 .ro] :: (.cloR 63 [⟨ty13, holds⟩, ⟨ty5, holds2⟩] :: (un 3 (.con .val [lf ty14 out .dp] :: (un 3 (.con .val [lf i64 t9 .ro] :: (.con .val [lf i64 t10 .ro] :: (un 21 []))))))))
theorem ql1 (N : Nat) (k0_ : Nat) : ∀ k_, El1 N k0_ k_ = Z0l (El0 N k0_) N k_
 | 0 => by kernel_rfl
 | k_ + 1 => (show El1 N k0_ (k_ + 1) = Z1s N (El0 N k0_) (El1 N k0_ k_) from by kernel_rfl).trans (by simp only [ql1 N k0_ k_]; rfl)
theorem ql0 (N : Nat) : ∀ k_, El0 N k_ = Z0m N k_
 | 0 => by kernel_rfl
 | k_ + 1 => (show El0 N (k_ + 1) = Z1t N (El1 N k_ N) (El0 N k_) from by kernel_rfl).trans (by simp only [ql1, ql0 N k_]; rfl)
noncomputable def eE : EnTry := ⟨62, sG, [.v i64, .c 63 [ty13, ty5]], _, Z15 N, pk1 ty14, enK Try.func62 (by kernel_rfl),
 fun n c c2 => eok (eS N) (by kernel_rfl) Try.func62 rfl N an_ rfl (Y6 ty14) (.trans (b := Z35 N (El0 N N) n c c2) (by kernel_rfl) (by rw [ql0]; rfl))⟩
end Z15
namespace Z29
def sG := sgV [.val ty5, .val ty13] [(ty14, .dp)]
noncomputable def eS : List EnTry := [Z0d.eE N, Z15.eE N]
noncomputable def eE : EnTry := ⟨37, sG, [.v ty5, .v ty13], _, Z29 N, pk1 ty14, enK Try.func37 (by kernel_rfl),
 fun db constraints => eok (eS N) (by kernel_rfl) Try.func37 rfl N an0 rfl (Y6 ty14) (by kernel_rfl)⟩
end Z29
namespace Z18
def sG := sgV [.val i64, .val ty14] [(.bool, .dp)]
noncomputable def eS : List EnTry := [Z9.eE N]
def an_ : Nat -> Option (List Nat)
 | 0 => some [0, 1, 10, 11, 12]
 | _ => none
noncomputable def lP (p : List Dir) (rs : List (Env -> Option (Bool))) (k : Nat) (env : Env) : Option (Bool) :=
 lpE (eS N) N an_ p Try.f57 (endK Tb sG Try.f57 [] (un1 .bool)) rs k env
noncomputable def El0 (k_ : Nat) (n2 : Int) (edges2 : E0) (t10 : E0) (t11 : Int) (t12 : Int) : Option (Bool) :=
 lP N [.r, .r, .l, .r, .b] [] k_ (.con .val [lf i64 n2 .ro] :: (.con .val [lf ty14 edges2 .ro] :: (un 8 (.con .val [lf ty14 t10 .ro] :: (.con .val [lf i64 t11 .ro] :: (.con .val [lf i64 t12 .ro] :: (un 58 [])))))))
theorem ql0 (N : Nat) : ∀ k_, El0 N k_ = Z1z N k_
 | 0 => by kernel_rfl
 | k_ + 1 => (show El0 N (k_ + 1) = Z36 N (El0 N k_) from by kernel_rfl).trans (by simp only [ql0 N k_]; rfl)
noncomputable def eE : EnTry := ⟨57, sG, [.v i64, .v ty14], _, Z18 N, pk1 .bool, enK Try.func57 (by kernel_rfl),
 fun n edges => eok (eS N) (by kernel_rfl) Try.func57 rfl N an_ rfl (Y6 .bool) (.trans (b := Z5q N (El0 N N) n edges) (by kernel_rfl) (by rw [ql0]; rfl))⟩
end Z18
namespace Z20
def sG := sgV [.val ty0, .val i64] [(i64, .dp)]
noncomputable def eS (N : Nat) : List EnTry := []
def an_ : Nat -> Option (List Nat)
 | 0 => some [0, 1, 7, 8]
 | _ => none
noncomputable def lP (p : List Dir) (rs : List (Env -> Option (Int))) (k : Nat) (env : Env) : Option (Int) :=
 lpE (eS N) N an_ p Try.f66 (endK Tb sG Try.f66 [] (un1 i64)) rs k env
noncomputable def El0 (k_ : Nat) (s2 : I0) (v2 : Int) (t7 : Int) (t8 : Int) : Option (Int) :=
 lP N [.r, .l, .r, .b] [] k_ (.con .val [lf ty0 s2 .ro] :: (.con .val [lf i64 v2 .ro] :: (un 5 (.con .val [lf i64 t7 .ro] :: (.con .val [lf i64 t8 .ro] :: (un 10 []))))))
theorem ql0 (N : Nat) : ∀ k_, El0 N k_ = Z1k N k_
 | 0 => by kernel_rfl
 | k_ + 1 => (show El0 N (k_ + 1) = Z2r N (El0 N k_) from by kernel_rfl).trans (by simp only [ql0 N k_]; rfl)
noncomputable def eE : EnTry := ⟨66, sG, [.v ty0, .v i64], _, Z20 N, pk1 i64, enK Try.func66 (by kernel_rfl),
 fun s v => eok (eS N) (by kernel_rfl) Try.func66 rfl N an_ rfl (Y6 i64) (.trans (b := Z4r N (El0 N N) s v) (by kernel_rfl) (by rw [ql0]; rfl))⟩
end Z20
namespace Z8
def sG := sgV [.val ty0, .val i64] [(.bool, .dp)]
noncomputable def eS : List EnTry := [Z20.eE N]
noncomputable def eE : EnTry := ⟨38, sG, [.v ty0, .v i64], _, Z8 N, pk1 .bool, enK Try.func38 (by kernel_rfl),
 fun s v => eok (eS N) (by kernel_rfl) Try.func38 rfl N an0 rfl (Y6 .bool) (by kernel_rfl)⟩
end Z8
namespace Z21
def sG := sgV [.val ty15, .ptr ty0] [(.bool, .dp)]
noncomputable def eS : List EnTry := [Z8.eE N]
noncomputable def eE : EnTry := ⟨78, sG, [.v ty15, .p ty0], _, Z21 N, pk1 .bool, enK Try.func78 (by kernel_rfl),
 fun e c1 => eok (eS N) (by kernel_rfl) Try.func78 rfl N an0 rfl (Y6 .bool) (by kernel_rfl)⟩
end Z21
namespace Z3
def sG := sgV [.val ty14, .clo] [(i64, .dp)]
noncomputable def eS : List EnTry := [Z21.eE N]
def an_ : Nat -> Option (List Nat)
 | 0 => some [0, 1, 7, 8]
 | _ => none
noncomputable def lP (p : List Dir) (rs : List (Env -> Option (Int))) (k : Nat) (env : Env) : Option (Int) :=
 lpE (eS N) N an_ p Try.f90 (endK Tb sG Try.f90 [] (un1 i64)) rs k env
noncomputable def El0 (k_ : Nat) (s2 : E0) (f : I0) (t7 : Int) (t8 : Int) : Option (Int) :=
 lP N [.r, .l, .r, .b] [] k_ (.con .val [lf ty14 s2 .ro] :: (.cloR 78 [⟨ty0, f⟩] :: (un 5 (.con .val [lf i64 t7 .ro] :: (.con .val [lf i64 t8 .ro] :: (un 10 []))))))
theorem ql0 (N : Nat) : ∀ k_, El0 N k_ = Z1 N k_
 | 0 => by kernel_rfl
 | k_ + 1 => (show El0 N (k_ + 1) = Z6 N (El0 N k_) from by kernel_rfl).trans (by simp only [ql0 N k_]; rfl)
noncomputable def eE : EnTry := ⟨90, sG, [.v ty14, .c 78 [ty0]], _, Z3 N, pk1 i64, enK Try.func90 (by kernel_rfl),
 fun s c => eok (eS N) (by kernel_rfl) Try.func90 rfl N an_ rfl (Y6 i64) (.trans (b := Z0j N (El0 N N) s c) (by kernel_rfl) (by rw [ql0]; rfl))⟩
end Z3
namespace Z2
def sG := sgV [.val ty14, .clo] [(.bool, .dp)]
noncomputable def eS : List EnTry := [Z3.eE N]
noncomputable def eE : EnTry := ⟨77, sG, [.v ty14, .c 78 [ty0]], _, Z2 N, pk1 .bool, enK Try.func77 (by kernel_rfl),
 fun s c => eok (eS N) (by kernel_rfl) Try.func77 rfl N an0 rfl (Y6 .bool) (by kernel_rfl)⟩
end Z2
namespace Z0n
def sG := sgV [.val ty14, .val ty0] [(.bool, .dp)]
noncomputable def eS : List EnTry := [Z2.eE N]
noncomputable def eE : EnTry := ⟨61, sG, [.v ty14, .v ty0], _, Z0n N, pk1 .bool, enK Try.func61 (by kernel_rfl),
 fun edges set => eok (eS N) (by kernel_rfl) Try.func61 rfl N an0 rfl (Y6 .bool) (by kernel_rfl)⟩
end Z0n
namespace Z22
def sG := sgV [.val i64, .val ty14, .val ty0] [(.bool, .dp)]
noncomputable def eS : List EnTry := [Z18.eE N, Z1w.eE N, Z0n.eE N]
noncomputable def eE : EnTry := ⟨76, sG, [.v i64, .v ty14, .v ty0], _, Z22 N, pk1 .bool, enK Try.func76 (by kernel_rfl),
 fun n edges set => eok (eS N) (by kernel_rfl) Try.func76 rfl N an0 rfl (Y6 .bool) (by kernel_rfl)⟩
end Z22
namespace Z10
def sG := sgV [.val i64, .val ty14, .val ty0] [(.bool, .dp)]
noncomputable def eS : List EnTry := [Z8.eE N, Z6i N, Z0n.eE N, Z22.eE N]
def an_ : Nat -> Option (List Nat)
 | 0 => some [1, 2, 13, 14]
 | _ => none
noncomputable def lP (p : List Dir) (rs : List (Env -> Option (Bool))) (k : Nat) (env : Env) : Option (Bool) :=
 lpE (eS N) N an_ p Try.f59 (endK Tb sG Try.f59 [] (un1 .bool)) rs k env
noncomputable def El0 (k_ : Nat) (edges2 : E0) (set2 : I0) (t13 : Int) (t14 : Int) : Option (Bool) :=
 lP N [.r, .r, .l, .r, .b] [] k_ (un 1 (.con .val [lf ty14 edges2 .ro] :: (.con .val [lf ty0 set2 .ro] :: (un 10 (.con .val [lf i64 t13 .ro] :: (.con .val [lf i64 t14 .ro] :: (un 16 [])))))))
theorem ql0 (N : Nat) : ∀ k_, El0 N k_ = Z12 N k_
 | 0 => by kernel_rfl
 | k_ + 1 => (show El0 N (k_ + 1) = Z1x N (El0 N k_) from by kernel_rfl).trans (by simp only [ql0 N k_]; rfl)
noncomputable def eE : EnTry := ⟨59, sG, [.v i64, .v ty14, .v ty0], _, Z10 N, pk1 .bool, enK Try.func59 (by kernel_rfl),
 fun n edges set => eok (eS N) (by kernel_rfl) Try.func59 rfl N an_ rfl (Y6 .bool) (.trans (b := Z3t N (El0 N N) n edges set) (by kernel_rfl) (by rw [ql0]; rfl))⟩
end Z10
namespace Z0t
def bX : BoxSig := ⟨4, 48, [.dp]⟩
def sG : Sig := ⟨[.val i64, .val ty0, .ptr i64, .ptr ty14, .ptr ty16, .self], [], false, false, some bX, none, none⟩
theorem eN : Enterable Try.prog 58 := Y68 Try.func58 (code := Try.f58.body.getD .skip) (by kernel_rfl) (by kernel_rfl)
noncomputable def eS (Rf : Int -> I0 -> Int -> E0 -> L0 -> Int -> E0 -> Option L0) (hR : OkP (Option L0) [.v i64, .v ty0, .p i64, .p ty14, .p ty16, .s 58 [.ro i64, .ro ty14, .pin, .self]] Rf (fun xs_ q => ∀ x, q = some x -> FnOk Try.prog 58 sG xs_ (pk1 ty16 x))) : List EnTry := [Z10.eE N, Z6i N, Z0n.eE N, ⟨58, sG, [.v i64, .v ty0, .p i64, .p ty14, .p ty16, .s 58 [.ro i64, .ro ty14, .pin, .self]], L0, Rf, pk1 ty16, eN, hR⟩]
theorem vV (Rf : Int -> I0 -> Int -> E0 -> L0 -> Int -> E0 -> Option L0) (hR : OkP (Option L0) [.v i64, .v ty0, .p i64, .p ty14, .p ty16, .s 58 [.ro i64, .ro ty14, .pin, .self]] Rf (fun xs_ q => ∀ x, q = some x -> FnOk Try.prog 58 sG xs_ (pk1 ty16 x))) (v : Int) (set : I0) (c2 : Int) (c3 : E0) (c4 : L0) (sc2 : Int) (sc3 : E0) :
  evB (eS N Rf hR) N an0 sG bX Try.f58 [.val i64 v, .val ty0 set, .ptr i64 c2, .ptr ty14 c3, .ptr ty16 c4, .fptr 58 [.ro ⟨i64, sc2⟩, .ro ⟨ty14, sc3⟩, .pin, .self]] (un1 ty16) = Z1u N Rf v set c2 c3 c4 sc2 sc3 := by kernel_rfl
theorem oK (N : Nat) : ∀ k_, OkP (Option L0) [.v i64, .v ty0, .p i64, .p ty14, .p ty16, .s 58 [.ro i64, .ro ty14, .pin, .self]] (Z0h N k_) (fun xs_ q => ∀ x, q = some x -> FnOk Try.prog 58 sG xs_ (pk1 ty16 x))
 | 0 => fun v set c2 c3 c4 sc2 sc3 =>  fun x h => absurd (show (none : Option L0) = some x from h) (by simp)
 | k_ + 1 => fun v set c2 c3 c4 sc2 sc3 => Ym tab_ok (es := eS N (Z0h N k_) (oK N k_)) (by kernel_rfl) mixed Try.func58 (by kernel_rfl) rfl rfl (fun _ => ⟨_, _, rfl⟩) (Y6 ty16) (vV N _ _ v set c2 c3 c4 sc2 sc3)
noncomputable def eE : EnTry := ⟨58, sG, [.v i64, .v ty0, .p i64, .p ty14, .p ty16, .s 58 [.ro i64, .ro ty14, .pin, .self]], L0, Z0t N, pk1 ty16, eN, oK N N⟩
end Z0t
namespace Z0o
def sG := sgV [.val i64, .val ty14] [(ty16, .dp)]
noncomputable def eS : List EnTry := [Z18.eE N, Z0t.eE N]
noncomputable def eE : EnTry := ⟨36, sG, [.v i64, .v ty14], _, Z0o N, pk1 ty16, enK Try.func36 (by kernel_rfl),
 fun n edges => eok (eS N) (by kernel_rfl) Try.func36 rfl N an0 rfl (Y6 ty16) (by kernel_rfl)⟩
end Z0o
namespace Z2a
def sG := sgV [.val ty5, .val ty13] [(ty16, .dp)]
noncomputable def eS : List EnTry := [Z0d.eE N, Z29.eE N, Z0o.eE N]
noncomputable def eE : EnTry := ⟨17, sG, [.v ty5, .v ty13], _, Z2a N, pk1 ty16, enK Try.func17 (by kernel_rfl),
 fun db constraints => eok (eS N) (by kernel_rfl) Try.func17 rfl N an0 rfl (Y6 ty16) (by kernel_rfl)⟩
end Z2a
namespace Z3u
def sG := sgV [.val ty0, .val ty0] [(ty0, .dp)]
noncomputable def eS : List EnTry := [Z8.eE N]
def an_ : Nat -> Option (List Nat)
 | 0 => some [1, 5, 9, 10, 11]
 | _ => none
noncomputable def lP (p : List Dir) (rs : List (Env -> Option I0)) (k : Nat) (env : Env) : Option I0 :=
 lpE (eS N) N an_ p Try.f18 (endK Tb sG Try.f18 [] (un1 ty0)) rs k env
noncomputable def El0 (k_ : Nat) (b2 : I0) (out : I0) (t9 : I0) (t10 : Int) (t11 : Int) : Option I0 :=
 lP N [.r, .r, .l, .r, .b] [] k_ (un 1 (.con .val [lf ty0 b2 .ro] :: (un 3 (.con .val [lf ty0 out .dp] :: (un 3 (.con .val [lf ty0 t9 .ro] :: (.con .val [lf i64 t10 .ro] :: (.con .val [lf i64 t11 .ro] :: (un 13 [])))))))))
theorem ql0 (N : Nat) : ∀ k_, El0 N k_ = Z3y N k_
 | 0 => by kernel_rfl
 | k_ + 1 => (show El0 N (k_ + 1) = Z58 N (El0 N k_) from by kernel_rfl).trans (by simp only [ql0 N k_]; rfl)
noncomputable def eE : EnTry := ⟨18, sG, [.v ty0, .v ty0], _, Z3u N, pk1 ty0, enK Try.func18 (by kernel_rfl),
 fun a b => eok (eS N) (by kernel_rfl) Try.func18 rfl N an_ rfl (Y6 ty0) (.trans (b := Z7t N (El0 N N) a b) (by kernel_rfl) (by rw [ql0]; rfl))⟩
end Z3u
namespace Z2b
def sG := sgV [.val ty5, .val ty13, .val ty0] [(ty0, .dp), (.bool, .dp)]
noncomputable def eS : List EnTry := [Z3u.eE N, Z0d.eE N, Z1w.eE N, Z2a.eE N]
def an_ : Nat -> Option (List Nat)
 | 0 => some [2, 8, 9, 26, 27, 28]
 | _ => none
noncomputable def lP (p : List Dir) (rs : List (Env -> Option (List Int × Bool))) (k : Nat) (env : Env) : Option (List Int × Bool) :=
 lpE (eS N) N an_ p Try.f6 (endK Tb sG Try.f6 [] (un2 ty0 .bool)) rs k env
noncomputable def El1 (k_ : Nat) (indices3 : I0) (outi : Int) (out2 : I0) (most2 : Int) (t262 : L0) (t272 : Int) (t282 : Int) : Option (List Int × Bool) :=
 lP N [.r, .r, .r, .r, .l, .r, .b] [] k_ (un 2 (.con .val [lf ty0 indices3 .ro] :: (un 5 (.con .val [⟨ty0, out2, (.bor 26 0 [(outi, 0)])⟩] :: (.con .val [lf i64 most2 .ro] :: (un 16 (.con .val [lf ty16 t262 .dp] :: (.con .val [lf i64 t272 .ro] :: (.con .val [lf i64 t282 .ro] :: (un 19 []))))))))))
noncomputable def El0 (k_ : Nat) (indices2 : I0) (out : I0) (most : Int) (t26 : L0) (t27 : Int) (t28 : Int) : Option (List Int × Bool) :=
 lP N [.r, .r, .r, .r, .l, .r, .b] [] k_ (un 2 (.con .val [lf ty0 indices2 .ro] :: (un 5 (.con .val [lf ty0 out .dp] :: (.con .val [lf i64 most .ro] :: (un 16 (.con .val [lf ty16 t26 .dp] :: (.con .val [lf i64 t27 .ro] :: (.con .val [lf i64 t28 .ro] :: (un 19 []))))))))))
theorem ql1 (N : Nat) : ∀ k_, El1 N k_ = Z23 N k_
 | 0 => by kernel_rfl
 | k_ + 1 => (show El1 N (k_ + 1) = Z37 N (El1 N k_) from by kernel_rfl).trans (by simp only [ql1 N k_]; rfl)
theorem ql0 (N : Nat) : ∀ k_, El0 N k_ = Z24 N k_
 | 0 => by kernel_rfl
 | k_ + 1 => (show El0 N (k_ + 1) = Z38 N (El1 N k_) (El0 N k_) from by kernel_rfl).trans (by simp only [ql1, ql0 N k_]; rfl)
noncomputable def eE : EnTry := ⟨6, sG, [.v ty5, .v ty13, .v ty0], _, Z2b N, pk2 ty0 .bool, enK Try.func6 (by kernel_rfl),
 fun db constraints indices => eok (eS N) (by kernel_rfl) Try.func6 rfl N an_ rfl (Yr ty0 .bool) (.trans (b := Z5r N (El0 N N) db constraints indices) (by kernel_rfl) (by rw [ql0]; rfl))⟩
end Z2b
namespace Z50
def sG := sgV [.val ty3, .val ty4] [(ty0, .dp)]
noncomputable def eS : List EnTry := [Z0k.eE N]
noncomputable def eE : EnTry := ⟨45, sG, [.v ty3, .v ty4], _, Z50 N, pk1 ty0, enK Try.func45 (by kernel_rfl),
 fun l f => eok (eS N) (by kernel_rfl) Try.func45 rfl N an0 rfl (Y6 ty0) (by kernel_rfl)⟩
end Z50
namespace Z2v
def sG := sgV [.val ty3, .val ty4, .val ty4] [(.bool, .dp)]
noncomputable def eS : List EnTry := [Z0k.eE N, Z50.eE N, Z3n.eE N]
noncomputable def eE : EnTry := ⟨23, sG, [.v ty3, .v ty4, .v ty4], _, Z2v N, pk1 .bool, enK Try.func23 (by kernel_rfl),
 fun l a b => eok (eS N) (by kernel_rfl) Try.func23 rfl N an0 rfl (Y6 .bool) (by kernel_rfl)⟩
end Z2v
namespace Z11
def sG := sgV [.val ty5, .val ty12] [(.bool, .dp)]
noncomputable def eS : List EnTry := [Z5.eE N, Z4.eE N]
noncomputable def eE : EnTry := ⟨46, sG, [.v ty5, .v ty12], _, Z11 N, pk1 .bool, enK Try.func46 (by kernel_rfl),
 fun d x => eok (eS N) (by kernel_rfl) Try.func46 rfl N an0 rfl (Y6 .bool) (by kernel_rfl)⟩
end Z11
namespace Z0y
def sG := sgV [.val ty5, .val ty12, .val i64, .val i64] [(.bool, .dp)]
noncomputable def eS : List EnTry := [Z11.eE N, Z4.eE N]
noncomputable def eE : EnTry := ⟨24, sG, [.v ty5, .v ty12, .v i64, .v i64], _, Z0y N, pk1 .bool, enK Try.func24 (by kernel_rfl),
 fun d x i k => eok (eS N) (by kernel_rfl) Try.func24 rfl N an0 rfl (Y6 .bool) (by kernel_rfl)⟩
end Z0y
namespace Z19
def sG := sgV [.val ty5, .val ty13] [(ty14, .dp)]
noncomputable def eS : List EnTry := [Z0y.eE N, Z2v.eE N, Z5.eE N]
def an_ : Nat -> Option (List Nat)
 | 0 => some [1, 2, 5, 6]
 | 2 => some [1, 2, 5, 6, 7]
 | 4 => some [1, 2, 5, 6, 7, 8, 9]
 | _ => none
noncomputable def lP (p : List Dir) (rs : List (Env -> Option E0)) (k : Nat) (env : Env) : Option E0 :=
 lpE (eS N) N an_ p Try.f9 (endK Tb sG Try.f9 [] (un1 ty14)) rs k env
noncomputable def El2 (k0_ : Nat) (k1_ : Nat) (k_ : Nat) (l4 : List C0) (d6 : R0) (d7 : A0) (out3 : E0) (i3 : Int) (k2 : Int) (is_ : Bool) (n : Int) : Option E0 :=
 lP N [.r, .r, .l, .r, .b, .b, .r, .l, .b, .r, .b, .b, .r, .l, .b, .r, .l, .r, .b] [lP N [.r, .r, .l, .r, .b] [] k0_, lP N [.r, .r, .l, .r, .b, .b, .r, .l, .b, .r, .b] [lP N [.r, .r, .l, .r, .b] [] k0_] k1_] k_ (un 1 (.con .val [lf ty13 l4 .ro] :: (.con (.box ⟨27, false, []⟩) [lf ty3 d6 .ro, lf ty6 d7 .ro] :: (un 2 (.con .val [lf ty14 out3 .dp] :: (.con .val [lf i64 i3 .ro] :: (.con .val [lf i64 k2 .ro] :: (.con .val [lf .bool is_ .ro] :: (.con .val [lf i64 n .ro] :: (un 69 []))))))))))
noncomputable def El1 (k0_ : Nat) (k_ : Nat) (l3 : List C0) (d4 : R0) (d5 : A0) (out2 : E0) (i2 : Int) (k : Int) : Option E0 :=
 lP N [.r, .r, .l, .r, .b, .b, .r, .l, .b, .r, .b] [lP N [.r, .r, .l, .r, .b] [] k0_] k_ (un 1 (.con .val [lf ty13 l3 .ro] :: (.con (.box ⟨27, false, []⟩) [lf ty3 d4 .ro, lf ty6 d5 .ro] :: (un 2 (.con .val [lf ty14 out2 .dp] :: (.con .val [lf i64 i2 .ro] :: (.con .val [lf i64 k .ro] :: (un 71 []))))))))
noncomputable def El0 (k_ : Nat) (l2 : List C0) (d2 : R0) (d3 : A0) (out : E0) (i : Int) : Option E0 :=
 lP N [.r, .r, .l, .r, .b] [] k_ (un 1 (.con .val [lf ty13 l2 .ro] :: (.con (.box ⟨27, false, []⟩) [lf ty3 d2 .ro, lf ty6 d3 .ro] :: (un 2 (.con .val [lf ty14 out .dp] :: (.con .val [lf i64 i .ro] :: (un 72 [])))))))
theorem ql2 (N : Nat) (k0_ : Nat) (k1_ : Nat) : ∀ k_, El2 N k0_ k1_ k_ = Z25 (El1 N k0_ k1_) N k_
 | 0 => by kernel_rfl
 | k_ + 1 => (show El2 N k0_ k1_ (k_ + 1) = Z39 N (El1 N k0_ k1_) (El2 N k0_ k1_ k_) from by kernel_rfl).trans (by simp only [ql2 N k0_ k1_ k_]; rfl)
theorem ql1 (N : Nat) (k0_ : Nat) : ∀ k_, El1 N k0_ k_ = Z0u (El0 N k0_) N k_
 | 0 => by kernel_rfl
 | k_ + 1 => (show El1 N k0_ (k_ + 1) = Z3a N (El0 N k0_) (El2 N k0_ k_ N) (El1 N k0_ k_) from by kernel_rfl).trans (by simp only [ql2, ql1 N k0_ k_]; rfl)
theorem ql0 (N : Nat) : ∀ k_, El0 N k_ = Z16 N k_
 | 0 => by kernel_rfl
 | k_ + 1 => (show El0 N (k_ + 1) = Z2g N (El1 N k_ N) (El0 N k_) from by kernel_rfl).trans (by simp only [ql1, ql0 N k_]; rfl)
noncomputable def eE : EnTry := ⟨9, sG, [.v ty5, .v ty13], _, Z19 N, pk1 ty14, enK Try.func9 (by kernel_rfl),
 fun d l => eok (eS N) (by kernel_rfl) Try.func9 rfl N an_ rfl (Y6 ty14) (.trans (b := Z5s N (El0 N N) d l) (by kernel_rfl) (by rw [ql0]; rfl))⟩
end Z19
namespace Z1a
def sG := sgV [.val i64, .val ty14] [(.bool, .dp)]
noncomputable def eS : List EnTry := [Z4.eE N]
def an_ : Nat -> Option (List Nat)
 | 0 => some [0, 1, 5]
 | _ => none
noncomputable def lP (p : List Dir) (rs : List (Env -> Option (Bool))) (k : Nat) (env : Env) : Option (Bool) :=
 lpE (eS N) N an_ p Try.f25 (endK Tb sG Try.f25 [] (un1 .bool)) rs k env
noncomputable def El0 (k_ : Nat) (n2 : Int) (l2 : E0) (i : Int) : Option (Bool) :=
 lP N [.r, .l, .r, .b] [] k_ (.con .val [lf i64 n2 .ro] :: (.con .val [lf ty14 l2 .ro] :: (un 3 (.con .val [lf i64 i .ro] :: (un 78 [])))))
theorem ql0 (N : Nat) : ∀ k_, El0 N k_ = Z26 N k_
 | 0 => by kernel_rfl
 | k_ + 1 => (show El0 N (k_ + 1) = Z3b N (El0 N k_) from by kernel_rfl).trans (by simp only [ql0 N k_]; rfl)
noncomputable def eE : EnTry := ⟨25, sG, [.v i64, .v ty14], _, Z1a N, pk1 .bool, enK Try.func25 (by kernel_rfl),
 fun n l => eok (eS N) (by kernel_rfl) Try.func25 rfl N an_ rfl (Y6 .bool) (.trans (b := Z5t N (El0 N N) n l) (by kernel_rfl) (by rw [ql0]; rfl))⟩
end Z1a
namespace Z5u
def sG := sgV [.val i64, .val ty0] [(.bool, .dp)]
noncomputable def eS : List EnTry := [Z4.eE N]
def an_ : Nat -> Option (List Nat)
 | 0 => some [0, 1, 5]
 | _ => none
noncomputable def lP (p : List Dir) (rs : List (Env -> Option (Bool))) (k : Nat) (env : Env) : Option (Bool) :=
 lpE (eS N) N an_ p Try.f26 (endK Tb sG Try.f26 [] (un1 .bool)) rs k env
noncomputable def El0 (k_ : Nat) (n2 : Int) (s2 : I0) (i : Int) : Option (Bool) :=
 lP N [.r, .l, .r, .b] [] k_ (.con .val [lf i64 n2 .ro] :: (.con .val [lf ty0 s2 .ro] :: (un 3 (.con .val [lf i64 i .ro] :: (un 30 [])))))
theorem ql0 (N : Nat) : ∀ k_, El0 N k_ = Z4v N k_
 | 0 => by kernel_rfl
 | k_ + 1 => (show El0 N (k_ + 1) = Z63 N (El0 N k_) from by kernel_rfl).trans (by simp only [ql0 N k_]; rfl)
noncomputable def eE : EnTry := ⟨26, sG, [.v i64, .v ty0], _, Z5u N, pk1 .bool, enK Try.func26 (by kernel_rfl),
 fun n s => eok (eS N) (by kernel_rfl) Try.func26 rfl N an_ rfl (Y6 .bool) (.trans (b := Z8g N (El0 N N) n s) (by kernel_rfl) (by rw [ql0]; rfl))⟩
end Z5u
namespace Z2s
def sG := sgV [.val ty0, .val i64] [(.bool, .dp)]
noncomputable def eS (N : Nat) : List EnTry := []
def an_ : Nat -> Option (List Nat)
 | 0 => some [0, 1, 5]
 | _ => none
noncomputable def lP (p : List Dir) (rs : List (Env -> Option (Bool))) (k : Nat) (env : Env) : Option (Bool) :=
 lpE (eS N) N an_ p Try.f21 (endK Tb sG Try.f21 [] (un1 .bool)) rs k env
noncomputable def El0 (k_ : Nat) (l2 : I0) (x2 : Int) (i : Int) : Option (Bool) :=
 lP N [.r, .l, .r, .b] [] k_ (.con .val [lf ty0 l2 .ro] :: (.con .val [lf i64 x2 .ro] :: (un 3 (.con .val [lf i64 i .ro] :: (un 12 [])))))
theorem ql0 (N : Nat) : ∀ k_, El0 N k_ = Z4w N k_
 | 0 => by kernel_rfl
 | k_ + 1 => (show El0 N (k_ + 1) = Z64 N (El0 N k_) from by kernel_rfl).trans (by simp only [ql0 N k_]; rfl)
noncomputable def eE : EnTry := ⟨21, sG, [.v ty0, .v i64], _, Z2s N, pk1 .bool, enK Try.func21 (by kernel_rfl),
 fun l x => eok (eS N) (by kernel_rfl) Try.func21 rfl N an_ rfl (Y6 .bool) (.trans (b := Z8h N (El0 N N) l x) (by kernel_rfl) (by rw [ql0]; rfl))⟩
end Z2s
namespace Z0p
def sG := sgV [.val ty14, .val ty0] [(.bool, .dp)]
noncomputable def eS : List EnTry := [Z2s.eE N]
def an_ : Nat -> Option (List Nat)
 | 0 => some [0, 1, 5]
 | _ => none
noncomputable def lP (p : List Dir) (rs : List (Env -> Option (Bool))) (k : Nat) (env : Env) : Option (Bool) :=
 lpE (eS N) N an_ p Try.f10 (endK Tb sG Try.f10 [] (un1 .bool)) rs k env
noncomputable def El0 (k_ : Nat) (l2 : E0) (s2 : I0) (i : Int) : Option (Bool) :=
 lP N [.r, .l, .r, .b] [] k_ (.con .val [lf ty14 l2 .ro] :: (.con .val [lf ty0 s2 .ro] :: (un 3 (.con .val [lf i64 i .ro] :: (un 22 [])))))
theorem ql0 (N : Nat) : ∀ k_, El0 N k_ = Z27 N k_
 | 0 => by kernel_rfl
 | k_ + 1 => (show El0 N (k_ + 1) = Z3c N (El0 N k_) from by kernel_rfl).trans (by simp only [ql0 N k_]; rfl)
noncomputable def eE : EnTry := ⟨10, sG, [.v ty14, .v ty0], _, Z0p N, pk1 .bool, enK Try.func10 (by kernel_rfl),
 fun l s => eok (eS N) (by kernel_rfl) Try.func10 rfl N an_ rfl (Y6 .bool) (.trans (b := Z5v N (El0 N N) l s) (by kernel_rfl) (by rw [ql0]; rfl))⟩
end Z0p
namespace Z3o
def sG := sgV [.val ty14, .val ty0, .val i64] [(.bool, .dp)]
noncomputable def eS : List EnTry := [Z2s.eE N, Z0p.eE N]
noncomputable def eE : EnTry := ⟨27, sG, [.v ty14, .v ty0, .v i64], _, Z3o N, pk1 .bool, enK Try.func27 (by kernel_rfl),
 fun l s x => eok (eS N) (by kernel_rfl) Try.func27 rfl N an0 rfl (Y6 .bool) (by kernel_rfl)⟩
end Z3o
namespace Z0e
def sG := sgV [.val i64, .val ty14, .val ty0] [(.bool, .dp)]
noncomputable def eS : List EnTry := [Z3o.eE N, Z1a.eE N, Z5u.eE N, Z0p.eE N]
def an_ : Nat -> Option (List Nat)
 | 0 => some [0, 1, 2, 7]
 | _ => none
noncomputable def lP (p : List Dir) (rs : List (Env -> Option (Bool))) (k : Nat) (env : Env) : Option (Bool) :=
 lpE (eS N) N an_ p Try.f12 (endK Tb sG Try.f12 [] (un1 .bool)) rs k env
noncomputable def El0 (k_ : Nat) (n2 : Int) (l2 : E0) (s2 : I0) (x : Int) : Option (Bool) :=
 lP N [.r, .r, .l, .r, .b] [] k_ (.con .val [lf i64 n2 .ro] :: (.con .val [lf ty14 l2 .ro] :: (.con .val [lf ty0 s2 .ro] :: (un 4 (.con .val [lf i64 x .ro] :: (un 25 []))))))
theorem ql0 (N : Nat) : ∀ k_, El0 N k_ = Z13 N k_
 | 0 => by kernel_rfl
 | k_ + 1 => (show El0 N (k_ + 1) = Z1y N (El0 N k_) from by kernel_rfl).trans (by simp only [ql0 N k_]; rfl)
noncomputable def eE : EnTry := ⟨12, sG, [.v i64, .v ty14, .v ty0], _, Z0e N, pk1 .bool, enK Try.func12 (by kernel_rfl),
 fun n l s => eok (eS N) (by kernel_rfl) Try.func12 rfl N an_ rfl (Y6 .bool) (.trans (b := Z3v N (El0 N N) n l s) (by kernel_rfl) (by rw [ql0]; rfl))⟩
end Z0e
namespace Z5z
def sG := sgV [.val i64, .val ty14, .val ty0, .val i64] [(ty16, .dp)]
theorem eN : Enterable Try.prog 67 := Y68 Try.func67 (code := Try.f67.body.getD .skip) (by kernel_rfl) (by kernel_rfl)
noncomputable def eS (Rf : Int -> E0 -> I0 -> Int -> Option L0) (hR : OkP (Option L0) [.v i64, .v ty14, .v ty0, .v i64] Rf (fun xs_ q => ∀ x, q = some x -> FnOk Try.prog 67 sG xs_ (pk1 ty16 x))) : List EnTry := [Z0e.eE N, Z3o.eE N, ⟨67, sG, [.v i64, .v ty14, .v ty0, .v i64], L0, Rf, pk1 ty16, eN, hR⟩]
def an_ : Nat -> Option (List Nat)
 | 0 => some [0, 1, 2, 3, 9, 10, 11]
 | _ => none
noncomputable def lP (Rf : Int -> E0 -> I0 -> Int -> Option L0) (hR : OkP (Option L0) [.v i64, .v ty14, .v ty0, .v i64] Rf (fun xs_ q => ∀ x, q = some x -> FnOk Try.prog 67 sG xs_ (pk1 ty16 x))) (p : List Dir) (rs : List (Env -> Option L0)) (k : Nat) (env : Env) : Option L0 :=
 lpE (eS N Rf hR) N an_ p Try.f67 (endK Tb sG Try.f67 [] (un1 ty16)) rs k env
noncomputable def El0 (Rf : Int -> E0 -> I0 -> Int -> Option L0) (hR : OkP (Option L0) [.v i64, .v ty14, .v ty0, .v i64] Rf (fun xs_ q => ∀ x, q = some x -> FnOk Try.prog 67 sG xs_ (pk1 ty16 x))) (k_ : Nat) (n2 : Int) (l2 : E0) (s2 : I0) (x2 : Int) (out : L0) (met : Bool) (i : Int) : Option L0 :=
 lP N Rf hR [.r, .r, .r, .r, .r, .l, .r, .b] [] k_ (.con .val [lf i64 n2 .ro] :: (.con .val [lf ty14 l2 .ro] :: (.con .val [lf ty0 s2 .ro] :: (.con .val [lf i64 x2 .ro] :: (un 5 (.con .val [lf ty16 out .dp] :: (.con .val [lf .bool met .ro] :: (.con .val [lf i64 i .ro] :: (un 63 [])))))))))
theorem ql0 (N : Nat) (Rf : Int -> E0 -> I0 -> Int -> Option L0) (hR : OkP (Option L0) [.v i64, .v ty14, .v ty0, .v i64] Rf (fun xs_ q => ∀ x, q = some x -> FnOk Try.prog 67 sG xs_ (pk1 ty16 x))) : ∀ k_, El0 N Rf hR k_ = Z3l N Rf k_
 | 0 => by kernel_rfl
 | k_ + 1 => (show El0 N Rf hR (k_ + 1) = Z5w N Rf (El0 N Rf hR k_) from by kernel_rfl).trans (by simp only [ql0 N Rf hR k_]; rfl)
theorem vV (Rf : Int -> E0 -> I0 -> Int -> Option L0) (hR : OkP (Option L0) [.v i64, .v ty14, .v ty0, .v i64] Rf (fun xs_ q => ∀ x, q = some x -> FnOk Try.prog 67 sG xs_ (pk1 ty16 x))) (n : Int) (l : E0) (s : I0) (x : Int) :
  evE (eS N Rf hR) N an_ sG Try.f67 [.val i64 n, .val ty14 l, .val ty0 s, .val i64 x] (un1 ty16) = Z6w N Rf (El0 N Rf hR N) n l s x := by kernel_rfl
theorem oK (N : Nat) : ∀ k_, OkP (Option L0) [.v i64, .v ty14, .v ty0, .v i64] (Z2f N k_) (fun xs_ q => ∀ x, q = some x -> FnOk Try.prog 67 sG xs_ (pk1 ty16 x))
 | 0 => fun n l s x =>  fun x h => absurd (show (none : Option L0) = some x from h) (by simp)
 | k_ + 1 => fun n l s x => Y4t tab_ok (es := eS N (Z2f N k_) (oK N k_)) (by kernel_rfl) mixed Try.func67 (by kernel_rfl) ⟨⟨rfl, rfl⟩, rfl, rfl⟩ (Y6 ty16) ((vV N _ _ n l s x).trans (by rw [ql0]; rfl))
noncomputable def eE : EnTry := ⟨67, sG, [.v i64, .v ty14, .v ty0, .v i64], L0, Z5z N, pk1 ty16, eN, oK N N⟩
end Z5z
namespace Z0q
def sG := sgV [.val i64, .val ty14] [(ty16, .dp)]
noncomputable def eS : List EnTry := [Z1a.eE N, Z5z.eE N]
noncomputable def eE : EnTry := ⟨39, sG, [.v i64, .v ty14], _, Z0q N, pk1 ty16, enK Try.func39 (by kernel_rfl),
 fun n l => eok (eS N) (by kernel_rfl) Try.func39 rfl N an0 rfl (Y6 ty16) (by kernel_rfl)⟩
end Z0q
namespace Z2c
def sG := sgV [.val ty5, .val ty13] [(ty16, .dp)]
noncomputable def eS : List EnTry := [Z5.eE N, Z19.eE N, Z0q.eE N]
noncomputable def eE : EnTry := ⟨19, sG, [.v ty5, .v ty13], _, Z2c N, pk1 ty16, enK Try.func19 (by kernel_rfl),
 fun d l => eok (eS N) (by kernel_rfl) Try.func19 rfl N an0 rfl (Y6 ty16) (by kernel_rfl)⟩
end Z2c
namespace Z4b
def sG := sgV [.val ty5, .val ty0] [(.bool, .dp)]
noncomputable def eS : List EnTry := [Z4.eE N]
def an_ : Nat -> Option (List Nat)
 | 0 => some [1, 2, 5]
 | _ => none
noncomputable def lP (p : List Dir) (rs : List (Env -> Option (Bool))) (k : Nat) (env : Env) : Option (Bool) :=
 lpE (eS N) N an_ p Try.f20 (endK Tb sG Try.f20 [] (un1 .bool)) rs k env
noncomputable def El0 (k_ : Nat) (l2 : I0) (d2 : R0) (d3 : A0) (i : Int) : Option (Bool) :=
 lP N [.r, .l, .r, .b] [] k_ (un 1 (.con .val [lf ty0 l2 .ro] :: (.con (.box ⟨27, false, []⟩) [lf ty3 d2 .ro, lf ty6 d3 .ro] :: (un 2 (.con .val [lf i64 i .ro] :: (un 32 []))))))
theorem ql0 (N : Nat) : ∀ k_, El0 N k_ = Z4x N k_
 | 0 => by kernel_rfl
 | k_ + 1 => (show El0 N (k_ + 1) = Z65 N (El0 N k_) from by kernel_rfl).trans (by simp only [ql0 N k_]; rfl)
noncomputable def eE : EnTry := ⟨20, sG, [.v ty5, .v ty0], _, Z4b N, pk1 .bool, enK Try.func20 (by kernel_rfl),
 fun d l => eok (eS N) (by kernel_rfl) Try.func20 rfl N an_ rfl (Y6 .bool) (.trans (b := Z8i N (El0 N N) d l) (by kernel_rfl) (by rw [ql0]; rfl))⟩
end Z4b
namespace Z2d
def sG := sgV [.val ty5, .val ty13, .val ty0] [(ty0, .dp), (.bool, .dp)]
noncomputable def eS : List EnTry := [Z2s.eE N, Z4b.eE N, Z2c.eE N]
def an_ : Nat -> Option (List Nat)
 | 0 => some [2, 3, 8, 9, 10, 11]
 | 2 => some [2, 3, 8, 9, 10, 11, 12, 13]
 | _ => none
noncomputable def lP (p : List Dir) (rs : List (Env -> Option (List Int × Bool))) (k : Nat) (env : Env) : Option (List Int × Bool) :=
 lpE (eS N) N an_ p Try.f7 (endK Tb sG Try.f7 [] (un2 ty0 .bool)) rs k env
noncomputable def El1 (k0_ : Nat) (k_ : Nat) (s3 : I0) (d4 : R0) (d5 : A0) (best2 : Int) (out2 : I0) (all2 : L0) (i2 : Int) (n : Int) (k : Int) : Option (List Int × Bool) :=
 lP N [.r, .r, .r, .r, .l, .r, .b, .b, .r, .l, .b, .r, .l, .r, .b] [lP N [.r, .r, .r, .r, .l, .r, .b] [] k0_] k_ (un 2 (.con .val [lf ty0 s3 .ro] :: (.con (.box ⟨27, false, []⟩) [lf ty3 d4 .ro, lf ty6 d5 .ro] :: (un 4 (.con .val [lf i64 best2 .ro] :: (.con .val [lf ty0 out2 .dp] :: (.con .val [lf ty16 all2 .dp] :: (.con .val [lf i64 i2 .ro] :: (.con .val [lf i64 n .ro] :: (.con .val [lf i64 k .ro] :: (un 45 [])))))))))))
noncomputable def El0 (k_ : Nat) (s2 : I0) (d2 : R0) (d3 : A0) (best : Int) (out : I0) (all : L0) (i : Int) : Option (List Int × Bool) :=
 lP N [.r, .r, .r, .r, .l, .r, .b] [] k_ (un 2 (.con .val [lf ty0 s2 .ro] :: (.con (.box ⟨27, false, []⟩) [lf ty3 d2 .ro, lf ty6 d3 .ro] :: (un 4 (.con .val [lf i64 best .ro] :: (.con .val [lf ty0 out .dp] :: (.con .val [lf ty16 all .dp] :: (.con .val [lf i64 i .ro] :: (un 47 [])))))))))
theorem ql1 (N : Nat) (k0_ : Nat) : ∀ k_, El1 N k0_ k_ = Z28 (El0 N k0_) N k_
 | 0 => by kernel_rfl
 | k_ + 1 => (show El1 N k0_ (k_ + 1) = Z4s N (El0 N k0_) (El1 N k0_ k_) from by kernel_rfl).trans (by simp only [ql1 N k0_ k_]; rfl)
theorem ql0 (N : Nat) : ∀ k_, El0 N k_ = Z1l N k_
 | 0 => by kernel_rfl
 | k_ + 1 => (show El0 N (k_ + 1) = Z3d N (El1 N k_ N) (El0 N k_) from by kernel_rfl).trans (by simp only [ql1, ql0 N k_]; rfl)
noncomputable def eE : EnTry := ⟨7, sG, [.v ty5, .v ty13, .v ty0], _, Z2d N, pk2 ty0 .bool, enK Try.func7 (by kernel_rfl),
 fun d l s => eok (eS N) (by kernel_rfl) Try.func7 rfl N an_ rfl (Yr ty0 .bool) (.trans (b := Z5x N (El0 N N) d l s) (by kernel_rfl) (by rw [ql0]; rfl))⟩
end Z2d
namespace Z43
def sG := sgV [.val ty0, .val ty0] [(.bool, .dp)]
noncomputable def eS (N : Nat) : List EnTry := []
def an_ : Nat -> Option (List Nat)
 | 0 => some [0, 1, 5]
 | _ => none
noncomputable def lP (p : List Dir) (rs : List (Env -> Option (Bool))) (k : Nat) (env : Env) : Option (Bool) :=
 lpE (eS N) N an_ p Try.f8 (endK Tb sG Try.f8 [] (un1 .bool)) rs k env
noncomputable def El0 (k_ : Nat) (a2 : I0) (b2 : I0) (i : Int) : Option (Bool) :=
 lP N [.r, .r, .l, .r, .b] [] k_ (.con .val [lf ty0 a2 .ro] :: (.con .val [lf ty0 b2 .ro] :: (un 3 (.con .val [lf i64 i .ro] :: (un 20 [])))))
theorem ql0 (N : Nat) : ∀ k_, El0 N k_ = Z3m N k_
 | 0 => by kernel_rfl
 | k_ + 1 => (show El0 N (k_ + 1) = Z51 N (El0 N k_) from by kernel_rfl).trans (by simp only [ql0 N k_]; rfl)
noncomputable def eE : EnTry := ⟨8, sG, [.v ty0, .v ty0], _, Z43 N, pk1 .bool, enK Try.func8 (by kernel_rfl),
 fun a b => eok (eS N) (by kernel_rfl) Try.func8 rfl N an_ rfl (Y6 .bool) (.trans (b := Z7i N (El0 N N) a b) (by kernel_rfl) (by rw [ql0]; rfl))⟩
end Z43
namespace Z71
def sG := sgV [.val ty0, .val i64] [(.bool, .dp)]
noncomputable def eS (N : Nat) : List EnTry := []
def an_ : Nat -> Option (List Nat)
 | 0 => some [0, 1, 5]
 | _ => none
noncomputable def lP (p : List Dir) (rs : List (Env -> Option (Bool))) (k : Nat) (env : Env) : Option (Bool) :=
 lpE (eS N) N an_ p Try.f11 (endK Tb sG Try.f11 [] (un1 .bool)) rs k env
noncomputable def El0 (k_ : Nat) (l2 : I0) (x2 : Int) (i : Int) : Option (Bool) :=
 lP N [.r, .l, .r, .b] [] k_ (.con .val [lf ty0 l2 .ro] :: (.con .val [lf i64 x2 .ro] :: (un 3 (.con .val [lf i64 i .ro] :: (un 12 [])))))
theorem ql0 (N : Nat) : ∀ k_, El0 N k_ = Z6u N k_
 | 0 => by kernel_rfl
 | k_ + 1 => (show El0 N (k_ + 1) = Z83 N (El0 N k_) from by kernel_rfl).trans (by simp only [ql0 N k_]; rfl)
noncomputable def eE : EnTry := ⟨11, sG, [.v ty0, .v i64], _, Z71 N, pk1 .bool, enK Try.func11 (by kernel_rfl),
 fun l x => eok (eS N) (by kernel_rfl) Try.func11 rfl N an_ rfl (Y6 .bool) (.trans (b := Z97 N (El0 N N) l x) (by kernel_rfl) (by rw [ql0]; rfl))⟩
end Z71
namespace laws_FnClosestRepair
def sG := sgV [.val ty1] [(.bool, .dp)]
noncomputable def eS : List EnTry := [Z71.eE N, Z0e.eE N, Z7o.eE N, Z1b.eE N, Z2b.eE N, Z2d.eE N, Z43.eE N, Z19.eE N, Z0p.eE N]
def an_ : Nat -> Option (List Nat)
 | 0 => some [3, 5, 6, 10, 11]
 | _ => none
noncomputable def lP (p : List Dir) (rs : List (Env -> Option (Bool))) (k : Nat) (env : Env) : Option (Bool) :=
 lpE (eS N) N an_ p Try.f3 (endK Tb sG Try.f3 [] (un1 .bool)) rs k env
noncomputable def El0 (k_ : Nat) (d : R0) (d2 : A0) (s : I0) (r12 : I0) (e : E0) (i : Int) : Option (Bool) :=
 lP N [.r, .r, .r, .r, .r, .r, .r, .r, .l, .r, .b] [] k_ (un 3 (.con (.box ⟨27, false, []⟩) [lf ty3 d .ro, lf ty6 d2 .ro] :: (un 1 (.con .val [lf ty0 s .dp] :: (.con .val [lf ty0 r12 .dp] :: (un 3 (.con .val [lf ty14 e .dp] :: (.con .val [lf i64 i .ro] :: (un 61 [])))))))))
theorem ql0 (N : Nat) : ∀ k_, El0 N k_ = laws_FnClosestRepair_l0 N k_
 | 0 => by kernel_rfl
 | k_ + 1 => (show El0 N (k_ + 1) = laws_FnClosestRepair_l0_b N (El0 N k_) from by kernel_rfl).trans (by simp only [ql0 N k_]; rfl)
noncomputable def eE : EnTry := ⟨3, sG, [.v ty1], _, laws_FnClosestRepair N, pk1 .bool, enK Try.func3 (by kernel_rfl),
 fun code => eok (eS N) (by kernel_rfl) Try.func3 rfl N an_ rfl (Y6 .bool) (.trans (b := laws_FnClosestRepair_b N (El0 N N) code) (by kernel_rfl) (by rw [ql0]; rfl))⟩
end laws_FnClosestRepair
end Go.PL
