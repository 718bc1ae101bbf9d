/- The program's DietAllows returns what the reference's returns, for all arguments. No conditions. -/
import Derived.Test.YtgfclechgalpmaaDiet
import Derived.Test.YtgfclechgalpmaaQx1
namespace Go.Proofs.Ytgfclechgalpmaa.Pure
open Go.RowKit Go.Proofs.YtgfclechgalpmaaW.PrintWords Go.Proofs.YtgfclechgalpmaaW.PrintLast Go.Proofs.Ytgfclechgalpmaa.Q
theorem FnExactDietAllows : laws_FnExactDietAllows.Pure := by
  intro d k _ _
  unfold laws_FnExactDietAllows.f
  simp [sDiet_eq, iDiet_eq]
end Go.Proofs.Ytgfclechgalpmaa.Pure
