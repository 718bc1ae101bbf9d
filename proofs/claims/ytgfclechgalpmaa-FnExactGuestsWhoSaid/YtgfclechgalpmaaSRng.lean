/- The reference's ranges and sets. No conditions. -/
import Derived.Test.YtgfclechgalpmaaRng
import Derived.Test.YtgfclechgalpmaaQx1
import Derived.Test.YtgfclechgalpmaaQx8
namespace Go.Proofs.Ytgfclechgalpmaa.Pure
open Go.RowKit Go.Proofs.YtgfclechgalpmaaW.PrintWords Go.Proofs.YtgfclechgalpmaaW.PrintLast Go.Proofs.Ytgfclechgalpmaa.Q
set_option linter.unusedVariables false
set_option linter.unusedSimpArgs false

theorem l6In_eq (a lo hi : Int) : spec_l6In.f a lo hi = some (inr a lo hi) := by
  unfold spec_l6In.f inr
  by_cases h : a ≥ lo
  · rw [if_pos h]; simp [h]
  · rw [if_neg h]; simp; omega
theorem l3Set_eq (a : Int) : spec_l3Set.f a = some (inr a 0 255) := by simp only [spec_l3Set.f, l6In_eq, Option.bind_some]
end Go.Proofs.Ytgfclechgalpmaa.Pure
