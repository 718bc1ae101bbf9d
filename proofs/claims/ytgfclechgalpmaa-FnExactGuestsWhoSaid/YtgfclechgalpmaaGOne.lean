/- When a guest is valid. No conditions. -/
import Derived.Test.YtgfclechgalpmaaSRng
import Derived.Test.YtgfclechgalpmaaIRng
import Derived.Test.YtgfclechgalpmaaQx8
namespace Go.Proofs.Ytgfclechgalpmaa.Pure
open Go.RowKit Go.Proofs.YtgfclechgalpmaaW.PrintWords Go.Proofs.YtgfclechgalpmaaW.PrintLast Go.Proofs.Ytgfclechgalpmaa.Q
set_option linter.unusedVariables false
set_option linter.unusedSimpArgs false

def gB (a b c : Int) : Bool := inr a 1 99 && inr b 1 4 && inr c 0 255
theorem gB_iff (a b c : Int) : gB a b c = true ↔ (1 ≤ a ∧ a ≤ 99) ∧ (1 ≤ b ∧ b ≤ 4) ∧ 0 ≤ c ∧ c ≤ 255 := by simp [gB, inr_iff, and_assoc]
theorem sGuest_eq (a b c : Int) : spec_l12Guest.f a b c = some (gB a b c) := by
  unfold spec_l12Guest.f gB
  simp only [l6In_eq, l3Set_eq, Option.bind_some]
  cases inr a 1 99 <;> cases inr b 1 4 <;> rfl
theorem iGuest_eq (a b c : Int) : impl_guestValid.f a b c = some (gB a b c) := by
  unfold impl_guestValid.f gB
  simp only [within_eq, isSet_eq, Option.bind_some]
  cases inr a 1 99 <;> cases inr b 1 4 <;> rfl
end Go.Proofs.Ytgfclechgalpmaa.Pure
