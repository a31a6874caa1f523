/- The plain law of the functions read plainly. Conditions: those that stand in each theorem. -/
import Derived.Test.YtjppmoblodlepaaPlA
import Derived.KernelRfl

set_option linter.unusedVariables false
set_option linter.unusedSimpArgs false
set_option linter.unnecessarySimpa false

namespace Go.PL
abbrev J0 := @decide_eq_false_iff_not
abbrev J1 := @Bool.not_eq_true'
variable {N : Nat}
theorem Y3 : ∀ {xs ys : List Int}, ¬ cmpI xs ys < 0 -> ¬ cmpI ys xs < 0 -> xs = ys
 | [], [], _, _ => rfl
 | [], _ :: _, h, _ => by simp [cmpI] at h
 | _ :: _, [], _, h => by simp [cmpI] at h
 | x :: xs, y :: ys, h1, h2 => by
  have a := @Y3 xs ys;simp only [cmpI] at h1 h2;grind
theorem Y1 : ∀ {xs ys a : List Int}, ¬ cmpI xs ys < 0 -> ¬ cmpI ys a < 0 -> ¬ cmpI xs a < 0
 | [], [], _, _, h => h
 | [], _ :: _, _, h, _ => by simp [cmpI] at h
 | _ :: _, _, [], _, _ => by simp [cmpI]
 | _ :: _, [], _ :: _, _, h => by simp [cmpI] at h
 | x :: xs, y :: ys, z :: a, h1, h2 => by
  have b := @Y1 xs ys a;simp only [cmpI] at h1 h2 ⊢;grind
theorem Y2 : ∀ {xs ys : List Int}, cmpI xs ys < 0 -> ¬ cmpI ys xs < 0
 | [], [], h => by simp [cmpI] at h
 | [], _ :: _, _ => by simp [cmpI]
 | _ :: _, [], h => by simp [cmpI] at h
 | x :: xs, y :: ys, h => by
  have a := @Y2 xs ys;simp only [cmpI] at h ⊢;grind
theorem Y0 {L S : List (Int × List Int)} (d : L.Perm S) (e : S.Pairwise fun a b => (!decide (cmpF b a < 0)) = true) : L.mergeSort (fun a b => !decide (cmpF b a < 0)) = S := by
 refine List.Perm.eq_of_pairwise (le := fun a b => (!decide (cmpF b a < 0)) = true) ?_ (List.pairwise_mergeSort ?_ ?_ _) e ((List.mergeSort_perm _ _).trans d)
 ·rintro ⟨a, x⟩ ⟨b, y⟩ _ _ d e
  have := @Y3 x y;simp only [cmpF, J1, J0] at d e;grind
 ·rintro ⟨a, x⟩ ⟨b, y⟩ ⟨c, z⟩ d e
  have := @Y1 z y x;simp only [cmpF, J1, J0] at d e ⊢;grind
 ·rintro ⟨a, x⟩ ⟨b, y⟩
  have := @Y2 x y;simp only [cmpF, Bool.or_eq_true, J1, J0];grind
def relsL : List (ByteArray × Int × Int) := [(⟨#[114]⟩, 2, 1), (⟨#[115]⟩, 2, 1)]
theorem Y5 (M : Nat) : laws_FnExactLadderDatabase (M + 60) 2 0 = some true := by
 have b : Z3 (M + 60) 2 0 = some ((relsL, [(0, [0, 0]), (0, [0, 1]), (0, [1, 0]), (0, [1, 1]), (1, [0, 0]), (1, [0, 1]), (1, [1, 0]), (1, [1, 1])]), true) := by kernel_rfl
 have a : Z2 (M + 60) 2 0 = (Z0 (M + 60) [(0, [0, 0]), (1, [0, 0]), (0, [0, 1]), (1, [0, 1]), (0, [1, 1]), (1, [1, 1]), (0, [1, 0]), (1, [1, 0])]).bind fun m => some ((relsL, m), true) := by kernel_rfl
 have c : Z0 (M + 60) [(0, [0, 0]), (1, [0, 0]), (0, [0, 1]), (1, [0, 1]), (0, [1, 1]), (1, [1, 1]), (0, [1, 0]), (1, [1, 0])] = some [(0, [0, 0]), (0, [0, 1]), (0, [1, 0]), (0, [1, 1]), (1, [0, 0]), (1, [0, 1]), (1, [1, 0]), (1, [1, 1])] := by
  unfold Z0;rw [Y0 (S := [(0, [0, 0]), (0, [0, 1]), (0, [1, 0]), (0, [1, 1]), (1, [0, 0]), (1, [0, 1]), (1, [1, 0]), (1, [1, 1])]) (by decide) (by decide)];rfl
 rw [c] at a;unfold laws_FnExactLadderDatabase;rw [b, a];show _ = some true
 kernel_rfl
theorem Y6 (M : Nat) : laws_FnExactLadderDatabase (M + 60) 2 1 = some true := by
 have b : Z3 (M + 60) 2 1 = some ((relsL, [(0, [0, 0]), (0, [1, 0]), (0, [1, 1]), (1, [0, 0]), (1, [0, 1]), (1, [1, 0]), (1, [1, 1])]), true) := by kernel_rfl
 have a : Z2 (M + 60) 2 1 = (Z0 (M + 60) [(0, [0, 0]), (1, [0, 0]), (1, [0, 1]), (0, [1, 1]), (1, [1, 1]), (0, [1, 0]), (1, [1, 0])]).bind fun m => some ((relsL, m), true) := by kernel_rfl
 have c : Z0 (M + 60) [(0, [0, 0]), (1, [0, 0]), (1, [0, 1]), (0, [1, 1]), (1, [1, 1]), (0, [1, 0]), (1, [1, 0])] = some [(0, [0, 0]), (0, [1, 0]), (0, [1, 1]), (1, [0, 0]), (1, [0, 1]), (1, [1, 0]), (1, [1, 1])] := by
  unfold Z0;rw [Y0 (S := [(0, [0, 0]), (0, [1, 0]), (0, [1, 1]), (1, [0, 0]), (1, [0, 1]), (1, [1, 0]), (1, [1, 1])]) (by decide) (by decide)];rfl
 rw [c] at a;unfold laws_FnExactLadderDatabase;rw [b, a];show _ = some true
 kernel_rfl
theorem Y7 (M : Nat) : laws_FnExactLadderDatabase (M + 60) 2 2 = some true := by
 have b : Z3 (M + 60) 2 2 = some ((relsL, [(0, [0, 0]), (0, [0, 1]), (0, [1, 0]), (0, [1, 1]), (1, [0, 0]), (1, [0, 1]), (1, [1, 1])]), true) := by kernel_rfl
 have a : Z2 (M + 60) 2 2 = (Z0 (M + 60) [(0, [0, 0]), (1, [0, 0]), (0, [0, 1]), (1, [0, 1]), (0, [1, 1]), (1, [1, 1]), (0, [1, 0])]).bind fun m => some ((relsL, m), true) := by kernel_rfl
 have c : Z0 (M + 60) [(0, [0, 0]), (1, [0, 0]), (0, [0, 1]), (1, [0, 1]), (0, [1, 1]), (1, [1, 1]), (0, [1, 0])] = some [(0, [0, 0]), (0, [0, 1]), (0, [1, 0]), (0, [1, 1]), (1, [0, 0]), (1, [0, 1]), (1, [1, 1])] := by
  unfold Z0;rw [Y0 (S := [(0, [0, 0]), (0, [0, 1]), (0, [1, 0]), (0, [1, 1]), (1, [0, 0]), (1, [0, 1]), (1, [1, 1])]) (by decide) (by decide)];rfl
 rw [c] at a;unfold laws_FnExactLadderDatabase;rw [b, a];show _ = some true
 kernel_rfl
theorem Y8 (M : Nat) : laws_FnExactLadderDatabase (M + 60) 2 3 = some true := by
 have b : Z3 (M + 60) 2 3 = some ((relsL, [(0, [0, 0]), (0, [1, 0]), (0, [1, 1]), (1, [0, 0]), (1, [0, 1]), (1, [1, 1])]), true) := by kernel_rfl
 have a : Z2 (M + 60) 2 3 = (Z0 (M + 60) [(0, [0, 0]), (1, [0, 0]), (1, [0, 1]), (0, [1, 1]), (1, [1, 1]), (0, [1, 0])]).bind fun m => some ((relsL, m), true) := by kernel_rfl
 have c : Z0 (M + 60) [(0, [0, 0]), (1, [0, 0]), (1, [0, 1]), (0, [1, 1]), (1, [1, 1]), (0, [1, 0])] = some [(0, [0, 0]), (0, [1, 0]), (0, [1, 1]), (1, [0, 0]), (1, [0, 1]), (1, [1, 1])] := by
  unfold Z0;rw [Y0 (S := [(0, [0, 0]), (0, [1, 0]), (0, [1, 1]), (1, [0, 0]), (1, [0, 1]), (1, [1, 1])]) (by decide) (by decide)];rfl
 rw [c] at a;unfold laws_FnExactLadderDatabase;rw [b, a];show _ = some true
 kernel_rfl
theorem Y9 (M : Nat) : laws_FnExactLadderDatabase (M + 60) 3 0 = some true := by
 have b : Z3 (M + 60) 3 0 = some ((relsL, [(0, [0, 0]), (0, [0, 1]), (0, [1, 1]), (0, [1, 2]), (0, [2, 0]), (0, [2, 2]), (1, [0, 0]), (1, [0, 2]), (1, [1, 0]), (1, [1, 1]), (1, [2, 1]), (1, [2, 2])]), true) := by kernel_rfl
 have a : Z2 (M + 60) 3 0 = (Z0 (M + 60) [(0, [0, 0]), (1, [0, 0]), (0, [0, 1]), (1, [0, 2]), (0, [1, 1]), (1, [1, 1]), (0, [1, 2]), (1, [1, 0]), (0, [2, 2]), (1, [2, 2]), (0, [2, 0]), (1, [2, 1])]).bind fun m => some ((relsL, m), true) := by kernel_rfl
 have c : Z0 (M + 60) [(0, [0, 0]), (1, [0, 0]), (0, [0, 1]), (1, [0, 2]), (0, [1, 1]), (1, [1, 1]), (0, [1, 2]), (1, [1, 0]), (0, [2, 2]), (1, [2, 2]), (0, [2, 0]), (1, [2, 1])] = some [(0, [0, 0]), (0, [0, 1]), (0, [1, 1]), (0, [1, 2]), (0, [2, 0]), (0, [2, 2]), (1, [0, 0]), (1, [0, 2]), (1, [1, 0]), (1, [1, 1]), (1, [2, 1]), (1, [2, 2])] := by
  unfold Z0;rw [Y0 (S := [(0, [0, 0]), (0, [0, 1]), (0, [1, 1]), (0, [1, 2]), (0, [2, 0]), (0, [2, 2]), (1, [0, 0]), (1, [0, 2]), (1, [1, 0]), (1, [1, 1]), (1, [2, 1]), (1, [2, 2])]) (by decide) (by decide)];rfl
 rw [c] at a;unfold laws_FnExactLadderDatabase;rw [b, a];show _ = some true
 kernel_rfl
theorem Ya (M : Nat) : laws_FnExactLadderDatabase (M + 60) 3 1 = some true := by
 have b : Z3 (M + 60) 3 1 = some ((relsL, [(0, [0, 0]), (0, [1, 1]), (0, [1, 2]), (0, [2, 0]), (0, [2, 2]), (1, [0, 0]), (1, [0, 2]), (1, [1, 0]), (1, [1, 1]), (1, [2, 1]), (1, [2, 2])]), true) := by kernel_rfl
 have a : Z2 (M + 60) 3 1 = (Z0 (M + 60) [(0, [0, 0]), (1, [0, 0]), (1, [0, 2]), (0, [1, 1]), (1, [1, 1]), (0, [1, 2]), (1, [1, 0]), (0, [2, 2]), (1, [2, 2]), (0, [2, 0]), (1, [2, 1])]).bind fun m => some ((relsL, m), true) := by kernel_rfl
 have c : Z0 (M + 60) [(0, [0, 0]), (1, [0, 0]), (1, [0, 2]), (0, [1, 1]), (1, [1, 1]), (0, [1, 2]), (1, [1, 0]), (0, [2, 2]), (1, [2, 2]), (0, [2, 0]), (1, [2, 1])] = some [(0, [0, 0]), (0, [1, 1]), (0, [1, 2]), (0, [2, 0]), (0, [2, 2]), (1, [0, 0]), (1, [0, 2]), (1, [1, 0]), (1, [1, 1]), (1, [2, 1]), (1, [2, 2])] := by
  unfold Z0;rw [Y0 (S := [(0, [0, 0]), (0, [1, 1]), (0, [1, 2]), (0, [2, 0]), (0, [2, 2]), (1, [0, 0]), (1, [0, 2]), (1, [1, 0]), (1, [1, 1]), (1, [2, 1]), (1, [2, 2])]) (by decide) (by decide)];rfl
 rw [c] at a;unfold laws_FnExactLadderDatabase;rw [b, a];show _ = some true
 kernel_rfl
theorem Yb (M : Nat) : laws_FnExactLadderDatabase (M + 60) 3 2 = some true := by
 have b : Z3 (M + 60) 3 2 = some ((relsL, [(0, [0, 0]), (0, [0, 1]), (0, [1, 1]), (0, [1, 2]), (0, [2, 0]), (0, [2, 2]), (1, [0, 0]), (1, [0, 2]), (1, [1, 1]), (1, [2, 1]), (1, [2, 2])]), true) := by kernel_rfl
 have a : Z2 (M + 60) 3 2 = (Z0 (M + 60) [(0, [0, 0]), (1, [0, 0]), (0, [0, 1]), (1, [0, 2]), (0, [1, 1]), (1, [1, 1]), (0, [1, 2]), (0, [2, 2]), (1, [2, 2]), (0, [2, 0]), (1, [2, 1])]).bind fun m => some ((relsL, m), true) := by kernel_rfl
 have c : Z0 (M + 60) [(0, [0, 0]), (1, [0, 0]), (0, [0, 1]), (1, [0, 2]), (0, [1, 1]), (1, [1, 1]), (0, [1, 2]), (0, [2, 2]), (1, [2, 2]), (0, [2, 0]), (1, [2, 1])] = some [(0, [0, 0]), (0, [0, 1]), (0, [1, 1]), (0, [1, 2]), (0, [2, 0]), (0, [2, 2]), (1, [0, 0]), (1, [0, 2]), (1, [1, 1]), (1, [2, 1]), (1, [2, 2])] := by
  unfold Z0;rw [Y0 (S := [(0, [0, 0]), (0, [0, 1]), (0, [1, 1]), (0, [1, 2]), (0, [2, 0]), (0, [2, 2]), (1, [0, 0]), (1, [0, 2]), (1, [1, 1]), (1, [2, 1]), (1, [2, 2])]) (by decide) (by decide)];rfl
 rw [c] at a;unfold laws_FnExactLadderDatabase;rw [b, a];show _ = some true
 kernel_rfl
theorem Yc (M : Nat) : laws_FnExactLadderDatabase (M + 60) 3 3 = some true := by
 have b : Z3 (M + 60) 3 3 = some ((relsL, [(0, [0, 0]), (0, [1, 1]), (0, [1, 2]), (0, [2, 0]), (0, [2, 2]), (1, [0, 0]), (1, [0, 2]), (1, [1, 1]), (1, [2, 1]), (1, [2, 2])]), true) := by kernel_rfl
 have a : Z2 (M + 60) 3 3 = (Z0 (M + 60) [(0, [0, 0]), (1, [0, 0]), (1, [0, 2]), (0, [1, 1]), (1, [1, 1]), (0, [1, 2]), (0, [2, 2]), (1, [2, 2]), (0, [2, 0]), (1, [2, 1])]).bind fun m => some ((relsL, m), true) := by kernel_rfl
 have c : Z0 (M + 60) [(0, [0, 0]), (1, [0, 0]), (1, [0, 2]), (0, [1, 1]), (1, [1, 1]), (0, [1, 2]), (0, [2, 2]), (1, [2, 2]), (0, [2, 0]), (1, [2, 1])] = some [(0, [0, 0]), (0, [1, 1]), (0, [1, 2]), (0, [2, 0]), (0, [2, 2]), (1, [0, 0]), (1, [0, 2]), (1, [1, 1]), (1, [2, 1]), (1, [2, 2])] := by
  unfold Z0;rw [Y0 (S := [(0, [0, 0]), (0, [1, 1]), (0, [1, 2]), (0, [2, 0]), (0, [2, 2]), (1, [0, 0]), (1, [0, 2]), (1, [1, 1]), (1, [2, 1]), (1, [2, 2])]) (by decide) (by decide)];rfl
 rw [c] at a;unfold laws_FnExactLadderDatabase;rw [b, a];show _ = some true
 kernel_rfl
theorem Y4 (M : Nat) {n e : Int} (h : ¬ (2 <= n /\ n <= 3) \/ ¬ (0 <= e /\ e <= 3)) : laws_FnExactLadderDatabase (M + 60) n e = some true := by
 have a : Z3 (M + 60) n e = some (([], []), false) := by
  unfold Z3 Z0s Z9;simp only [cond_eq_ite];grind
 have b : Z2 (M + 60) n e = some (([], []), false) := by
  unfold Z2 Z0t Z0o;simp only [cond_eq_ite];grind
 unfold laws_FnExactLadderDatabase;rw [a, b];show _ = some true
 kernel_rfl
theorem law_LadderDatabase (i : 1048576 < N) {n e : Int} : laws_FnExactLadderDatabase N n e = some true := by
 obtain ⟨M, rfl⟩ : ∃ M, N = M + 60 := ⟨N - 60, by omega⟩;by_cases h : (2 <= n /\ n <= 3) /\ (0 <= e /\ e <= 3)
 ·obtain ⟨⟨c, d⟩, f, g⟩ := h;have a : n = 2 \/ n = 3 := by omega
  have b : e = 0 \/ e = 1 \/ e = 2 \/ e = 3 := by omega
  rcases a with rfl | rfl <;> rcases b with rfl | rfl | rfl | rfl
  ·exact Y5 M
  ·exact Y6 M
  ·exact Y7 M
  ·exact Y8 M
  ·exact Y9 M
  ·exact Ya M
  ·exact Yb M
  ·exact Yc M
 ·exact Y4 M (by omega)
end Go.PL
