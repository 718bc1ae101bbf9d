import Derived.Test.YtgfclechgalpmaaQx2
namespace Go.Proofs.Ytgfclechgalpmaa.Pure
open Go.RowKit Go.Proofs.Ytgfclechgalpmaa.Q Go.Proofs.YtgfclechgalpmaaW.PrintWords Go.Proofs.YtgfclechgalpmaaW.PrintLast

/-- YOURS: ∀ (l0 : List Int), l0.length ≤ maxLen → l0.length * 1 ≤ 140737488351232 → (∀ x ∈ l0, (Lit.int .u8 x).wf = true) → ∃ k, laws_FnDiet.f k l0 = some true
What it reaches (each with k first where it has rounds; `.mono`: more rounds tell the same; `.l0`, ..: its loops, with `.mono_l`): spec_l6In.f, spec_l12Last.f, spec_DietAllows.f, impl_within.f, impl_isKind.f, impl_DietAllows.f, spec_l6Open.f, spec_l6Rd_pick.f, spec_DrawDietAllows.f, laws_FnDiet.f -/
theorem FnDiet : laws_FnDiet.Pure := by
  sorry

end Go.Proofs.Ytgfclechgalpmaa.Pure
