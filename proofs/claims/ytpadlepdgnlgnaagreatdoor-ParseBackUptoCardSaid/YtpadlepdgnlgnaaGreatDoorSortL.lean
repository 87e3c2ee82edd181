/- Plain Lean, no program: byte lists sorted by insertion are what any sorting gives. -/
import Derived.Test.YtpadlepdgnlgnaaGreatDoorObj
set_option linter.all false
namespace Fo

theorem leL_iff (x y : L) : leL x y = true ↔ x ≤ y := by
  induction x generalizing y with
  | nil => simp [leL]
  | cons a x ih =>
    cases y with
    | nil => simp [leL]
    | cons b y =>
      rw [List.cons_le_cons_iff]
      simp [leL, ih]
theorem leL_eq (x y : L) : leL x y = decide (x ≤ y) := by
  rw [Bool.eq_iff_iff, leL_iff]; simp
theorem insL_perm (k : L) (l : List L) : (insL k l).Perm (k :: l) := by
  induction l with
  | nil => exact List.Perm.refl _
  | cons x l ih =>
    unfold insL; split
    · exact List.Perm.refl _
    · exact (List.Perm.cons x ih).trans (List.Perm.swap k x l)
theorem isort_perm (l : List L) : (isort l).Perm l := by
  induction l with
  | nil => exact List.Perm.refl _
  | cons x l ih => exact (insL_perm x _).trans (List.Perm.cons x ih)
theorem insL_sorted (k : L) (l : List L) (h : l.Pairwise (· ≤ ·)) : (insL k l).Pairwise (· ≤ ·) := by
  induction l with
  | nil => simp [insL]
  | cons x l ih =>
    unfold insL
    obtain ⟨h1, h2⟩ := List.pairwise_cons.1 h
    split
    · rename_i hle
      rw [leL_iff] at hle
      refine List.pairwise_cons.2 ⟨fun y hy => ?_, h⟩
      rcases List.mem_cons.1 hy with rfl | hy
      · exact hle
      · exact List.le_trans hle (h1 y hy)
    · rename_i hle
      rw [leL_iff] at hle
      refine List.pairwise_cons.2 ⟨fun y hy => ?_, ih h2⟩
      rcases List.mem_cons.1 ((insL_perm k l).mem_iff.1 hy) with rfl | hy
      · rcases List.le_total x y with h | h
        · exact h
        · exact absurd h hle
      · exact h1 y hy
theorem isort_sorted (l : List L) : (isort l).Pairwise (· ≤ ·) := by
  induction l with
  | nil => exact List.Pairwise.nil
  | cons x l ih => exact insL_sorted x _ ih
theorem isort_of_perm {l l' : List L} (h : l.Perm l') (hs : l'.Pairwise (· ≤ ·)) : l' = isort l := by
  refine List.Perm.eq_of_pairwise (le := fun a b => a ≤ b) (fun a b _ _ h1 h2 => List.le_antisymm h1 h2) hs (isort_sorted l) (h.symm.trans (isort_perm l).symm)
theorem isort_merge (l l' : List L) (h : l.Perm l') : l.mergeSort (fun x y => decide (x ≤ y)) = isort l' := by
  have tr : ∀ a b c : L, decide (a ≤ b) = true → decide (b ≤ c) = true → decide (a ≤ c) = true := fun a b c h1 h2 => by simp only [decide_eq_true_eq] at *; exact List.le_trans h1 h2
  have to : ∀ a b : L, (decide (a ≤ b) || decide (b ≤ a)) = true := fun a b => by simp only [Bool.or_eq_true, decide_eq_true_eq]; exact List.le_total a b
  refine isort_of_perm (h.symm.trans (List.mergeSort_perm l _).symm) ?_
  have := List.pairwise_mergeSort tr to l
  exact this.imp (fun h => by simpa using h)
end Fo
