/- The program's GuestsValid returns what the reference's returns, for all arguments. No conditions. -/
import Derived.Test.YtgfclechgalpmaaGValid
import Derived.Test.YtgfclechgalpmaaToGuest
import Derived.Test.YtgfclechgalpmaaEqGuest
import Derived.Test.YtgfclechgalpmaaQx16
namespace Go.Proofs.Ytgfclechgalpmaa.Pure
open Go.RowKit Go.Proofs.YtgfclechgalpmaaW.PrintWords Go.Proofs.YtgfclechgalpmaaW.PrintLast Go.Proofs.Ytgfclechgalpmaa.Q
set_option linter.unusedVariables false
set_option linter.unusedSimpArgs false
theorem FnExactGuestsValid (l : List S28) (hm : l.length ≤ maxLen) : ∃ k, laws_FnExactGuestsValid.f k l = some true := by
  apply Ok.rounds
  unfold laws_FnExactGuestsValid.f
  rw [szGuestS_eq l _ (by omega) (by omega) hm]
  refine Ok.val (Ok.ite (fun _ => Ok.ret rfl) fun h => ?_)
  have hl : l.length ≤ 2000000 := by
    split at h <;> omega
  have hl' : (l.map cvGuest).length ≤ 2000000 := by simpa using hl
  refine Ok.bind (toGuestS_ok l hl) ?_
  rintro _ rfl
  refine Ok.bind (sGuests_ok _ hl') fun b1 h1 => Ok.bind (toGuestS_ok l hl) ?_
  rintro _ rfl
  refine Ok.bind (iGuests_ok _ hl') fun b2 h2 => ?_
  obtain rfl := bool_of_iff h1 h2
  refine Ok.neg (by simp) (Ok.bind (toGuestS_ok l hl) ?_)
  rintro _ rfl
  refine Ok.bind (eqGuestS_ok _ hl') ?_
  rintro _ rfl
  exact Ok.pos rfl (Ok.ret rfl)
end Go.Proofs.Ytgfclechgalpmaa.Pure
