/- Diets: what DietAllows answers, in the program and in the reference. No conditions. -/
import Derived.Test.YtgfclechgalpmaaSRng
import Derived.Test.YtgfclechgalpmaaIRng
import Derived.Test.YtgfclechgalpmaaQx2
namespace Go.Proofs.Ytgfclechgalpmaa.Pure
open Go.RowKit Go.Proofs.YtgfclechgalpmaaW.PrintWords Go.Proofs.YtgfclechgalpmaaW.PrintLast Go.Proofs.Ytgfclechgalpmaa.Q
set_option linter.unusedVariables false
set_option linter.unusedSimpArgs false

def dietB (d k : Int) : Bool := decide (1 ≤ d ∧ d ≤ 4 ∧ 1 ≤ k ∧ k ≤ 5 ∧ (d = 2 → k ≤ 4) ∧ (d = 3 → k ≤ 3) ∧ (d = 4 → k ≤ 1))
theorem dietB_iff (d k : Int) : dietB d k = true ↔ 1 ≤ d ∧ d ≤ 4 ∧ 1 ≤ k ∧ k ≤ 5 ∧ (d = 2 → k ≤ 4) ∧ (d = 3 → k ≤ 3) ∧ (d = 4 → k ≤ 1) := by unfold dietB; exact decide_eq_true_iff
theorem last_eq (d : Int) (h : 1 ≤ d ∧ d ≤ 4) : ∃ m, spec_l12Last.f d = some m ∧ (d = 1 → m = 5) ∧ (d = 2 → m = 4) ∧ (d = 3 → m = 3) ∧ (d = 4 → m = 1) := by
  have : d = 1 ∨ d = 2 ∨ d = 3 ∨ d = 4 := by omega
  rcases this with rfl | rfl | rfl | rfl <;> exact ⟨_, rfl, by decide, by decide, by decide, by decide⟩
theorem sDiet_eq (d k : Int) : spec_DietAllows.f d k = some (dietB d k) := by
  unfold spec_DietAllows.f
  simp only [l6In_eq, Option.bind_some]
  cases h1 : inr d 1 4 with
  | false =>
    have : dietB d k = false := by
      rw [Bool.eq_false_iff]; intro h
      rw [dietB_iff] at h
      have : inr d 1 4 = true := (inr_iff _ _ _).2 ⟨h.1, h.2.1⟩
      rw [h1] at this; cases this
    rw [this]; rfl
  | true =>
    have hd := (inr_iff _ _ _).1 h1
    cases h2 : inr k 1 5 with
    | false =>
      have : dietB d k = false := by
        rw [Bool.eq_false_iff]; intro h
        rw [dietB_iff] at h
        have : inr k 1 5 = true := (inr_iff _ _ _).2 ⟨h.2.2.1, h.2.2.2.1⟩
        rw [h2] at this; cases this
      rw [this]; rfl
    | true =>
      have hk := (inr_iff _ _ _).1 h2
      obtain ⟨m, hm, m1, m2, m3, m4⟩ := last_eq d hd
      rw [if_pos rfl, if_pos rfl, hm]
      simp only [Option.bind_some, Option.some.injEq]
      have : (k ≤ m) ↔ dietB d k = true := by
        rw [dietB_iff]
        have : d = 1 ∨ d = 2 ∨ d = 3 ∨ d = 4 := by omega
        omega
      rw [Bool.eq_iff_iff, ← this, decide_eq_true_iff]
theorem iDiet_eq (d k : Int) : impl_DietAllows.f d k = some (dietB d k) := by
  unfold impl_DietAllows.f
  simp only [isKind_eq, Option.bind_some]
  cases h2 : inr k 1 5 with
  | false =>
    have : dietB d k = false := by
      rw [Bool.eq_false_iff]; intro h
      rw [dietB_iff] at h
      have : inr k 1 5 = true := (inr_iff _ _ _).2 ⟨h.2.2.1, h.2.2.2.1⟩
      rw [h2] at this; cases this
    rw [this]; rfl
  | true =>
    have hk := (inr_iff _ _ _).1 h2
    rw [if_pos rfl]
    have key : ∀ b : Bool, (b = true ↔ dietB d k = true) → b = dietB d k := fun b h => Bool.eq_iff_iff.2 h
    split
    · rename_i e; subst e
      exact congrArg some (key _ (by rw [dietB_iff]; simp; omega))
    split
    · rename_i e; subst e
      exact congrArg some (key _ (by rw [dietB_iff]; simp; omega))
    split
    · rename_i e; subst e
      split
      · rename_i e; subst e
        exact congrArg some (key _ (by rw [dietB_iff]; simp))
      · exact congrArg some (key _ (by rw [dietB_iff]; simp; omega))
    split
    · rename_i e; subst e
      exact congrArg some (key _ (by rw [dietB_iff]; simp; omega))
    · exact congrArg some (key _ (by rw [dietB_iff]; simp; omega))
end Go.Proofs.Ytgfclechgalpmaa.Pure
