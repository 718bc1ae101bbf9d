/- Diets are what they are called: the law's body comes to true for every input. No conditions. -/
import Derived.Test.YtgfclechgalpmaaDrawDiet
import Derived.Test.YtgfclechgalpmaaQx2
namespace Go.Proofs.Ytgfclechgalpmaa.Pure
open Go.RowKit Go.Proofs.YtgfclechgalpmaaW.PrintWords Go.Proofs.YtgfclechgalpmaaW.PrintLast Go.Proofs.Ytgfclechgalpmaa.Q
set_option linter.unusedVariables false
theorem FnDietKinds : laws_FnDietKinds.Pure := by
  intro l _ _ hl
  apply Ok.rounds
  unfold laws_FnDietKinds.f
  refine Ok.ite (fun _ => Ok.ret rfl) fun _ => Ok.bind (drawDiet_ok l hl) ?_
  rintro ⟨d, k⟩ ⟨h0, h1, h2, h3⟩
  simp only at h0 h1 h2 h3
  simp only [iDiet_eq, sDiet_eq, Option.bind_some]
  refine Ok.neg (by simp) ?_
  have yes : (1 ≤ d ∧ d ≤ 4 ∧ 1 ≤ k ∧ k ≤ 5 ∧ (d = 2 → k ≤ 4) ∧ (d = 3 → k ≤ 3) ∧ (d = 4 → k ≤ 1)) → dietB d k = true := (dietB_iff d k).2
  have no : ¬ (1 ≤ d ∧ d ≤ 4 ∧ 1 ≤ k ∧ k ≤ 5 ∧ (d = 2 → k ≤ 4) ∧ (d = 3 → k ≤ 3) ∧ (d = 4 → k ≤ 1)) → dietB d k = false := fun h => by
    rw [Bool.eq_false_iff]; exact fun h' => h ((dietB_iff d k).1 h')
  repeat' refine Ok.ite (fun _ => ?_) (fun _ => ?_)
  all_goals
    refine Ok.ret ?_
    first
    | (simp; done)
    | (rw [yes (by omega)]; simp; done)
    | (rw [no (by omega)]; simp; done)
    | (by_cases e : k = 1
       · rw [yes (by omega)]; simp [e]
       · rw [no (by omega)]; simp [e])
end Go.Proofs.Ytgfclechgalpmaa.Pure
