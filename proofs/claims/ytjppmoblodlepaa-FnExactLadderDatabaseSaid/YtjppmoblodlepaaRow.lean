/- The law holds of every input: the call returns true, and each argument reads as it read before. Conditions: none. -/
import Derived.Test.YtjppmoblodlepaaEv
import Derived.Test.YtjppmoblodlepaaPlB
import Derived.Test.YtjppmoblodlepaaRows
import Derived.ProofKit
import Derived.OpenShut
import Derived.ChangeOld
import Derived.Below

set_option linter.unusedVariables false
set_option linter.unusedSimpArgs false
set_option linter.unnecessarySimpa false

namespace Go.Proofs.Ytjppmoblodlepaa
open Go.ChangeShapes Go.WideShapes Go.ChangeAt Go.RowKit Go.FP
theorem own : ownKnob Try.prog.godebug = none := by kernel_rfl
theorem laidOut : laidOutB Try.prog = true := by kernel_rfl
theorem answers (x0 : Ty.D PL.i64) (x1 : Ty.D PL.i64) (h0 : Wf PL.i64 x0) (h1 : Wf PL.i64 x1) :
  FnSpec Try.prog 3 [(.bool, .dp)] [.val PL.i64 x0, .val PL.i64 x1] [⟨.bool, true⟩] :=
 (PL.laws_FnExactLadderDatabase.eE 1099511627776).ok x0 x1 true (PL.law_LadderDatabase (by decide))
set_option maxRecDepth 100000 in
theorem lifted (os : Os) (started : os.Started) (H : Type) (enc : TypeId × Value -> H) :
  ReturnsInHanded {} Try.checked os 3 .any (Rows.fnExactLadderDatabaseSpec.pre6 enc Try.prog Try.f3 Rows.fnExactLadderDatabaseRow.domain false) (Rows.fnExactLadderDatabaseSpec.post enc Try.prog Try.f3 false true false false) := by
 refine returnsInHanded_of_change (C := Try.checked) own started (by kernel_rfl) Try.func3
  (ChangeSpec.witness6 (enc := enc) (C := Try.checked) false ⟨#[], #[.int .i64 0, .int .i64 0], []⟩ 8 (by kernel_rfl) (by kernel_rfl) (by kernel_rfl) (by kernel_rfl)) ?_
 intro W base args ds gs before hval0 hW hcnd _
 have hval : ∀ (j : Nat) t v, Try.f3.params[j]? = some t -> args[j]? = some v -> Value.okWide Try.prog W .any base t v := hval0
 have hW' := hW
 obtain ⟨p, q, hA0, hV, rfl, hfz, hnd⟩ := hW
 have hA : DataW.TrodAll enc Try.prog W 0 (fun _ => true) true Try.f3.params.toList args.toList ds p := hA0
 rw [Try.params3] at hA hval
 obtain ⟨v0, vs0, d0, ds0, p0, q0, hargs, rfl, rfl, h0, r0⟩ := trodAll_cons hA
 obtain ⟨v1, vs1, d1, ds1, p1, q1, rfl, rfl, rfl, h1, r1⟩ := trodAll_cons r0
 obtain ⟨rfl, rfl, rfl⟩ := trodAll_nil r1
 obtain rfl : args = #[v0, v1] := by cases args; simp_all
 obtain ⟨rfl, rfl⟩ := trodVars_none hV
 have lt0 : ∀ x ∈ p0, x.block < W.heap.size := by obtain ⟨m, hm⟩ := h0; exact DataW.trod_lt m _ _ _ hm
 have lt1 : ∀ x ∈ p1, x.block < W.heap.size := by obtain ⟨m, hm⟩ := h1; exact DataW.trod_lt m _ _ _ hm
 obtain ⟨x0, e0, f0⟩ := Yad PL.tab_ok (f := 16) (τ := PL.i64) (by kernel_rfl) (hval 0 3 v0 rfl rfl) h0
 obtain ⟨x1, e1, f1⟩ := Yad PL.tab_ok (f := 16) (τ := PL.i64) (by kernel_rfl) (hval 1 3 v1 rfl rfl) h1
 clear hA0 hval0
 refine (Ydq (fr := .dp) (answers x0 x1 f0 f1) ⟨v0, _, rfl, e0, v1, _, rfl, e1, rfl⟩).mono fun e W' ⟨he, bel⟩ => ?_
 subst he
 exact ⟨_, rfl, _, _, _, [], _, [], hW', trodAll_mk1 (shut_bool Try.underlying4 _), (trodAll_cons_mk (Below.trod laidOut (by kernel_rfl) (of_decide_eq_true (by kernel_rfl)) h0 bel lt0) (trodAll_cons_mk (Below.trod laidOut (by kernel_rfl) (of_decide_eq_true (by kernel_rfl)) h1 bel lt1) trodAll_mk0)), rfl, bel.frame _, fun h => by cases h⟩
set_option maxHeartbeats 8000000 in
theorem closed : joinedFacts Try.pinned.checked.prog 3 Try.f3 Rows.fnExactLadderDatabaseSpec Rows.fnExactLadderDatabaseRow = true := by
 unfold joinedFacts
 repeat' (with_reducible refine Bool.and_eq_true_iff.2 ⟨?_, ?_⟩)
 all_goals (as_aux_lemma => kernel_rfl)
theorem ladderDatabase : Rows.FnExactLadderDatabaseSaid :=
 OpenClaim.holds_of_wide 3 Try.f3 rfl rfl rfl rfl rfl rfl rfl ⟨rfl, rfl, rfl, rfl, rfl⟩ rfl rfl rfl rfl rfl (by kernel_rfl) Try.func3 closed
  (of_decide_eq_true (by kernel_rfl)) (by unfold Func.isWrapper; rw [if_neg (of_decide_eq_false (by kernel_rfl))]; exact ⟨rfl, rfl⟩)
  (fun os started H enc _ => lifted os started H enc)
#print axioms ladderDatabase
end Go.Proofs.Ytjppmoblodlepaa
