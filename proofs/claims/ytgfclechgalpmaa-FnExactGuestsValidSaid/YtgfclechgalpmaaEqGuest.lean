/- The laws' comparison of lists of guests: a list is equal to itself. Condition: at most 2,000,000. -/
import Derived.Test.YtgfclechgalpmaaInts0
import Derived.Test.YtgfclechgalpmaaQx13
namespace Go.Proofs.Ytgfclechgalpmaa.Pure
open Go.RowKit Go.Proofs.YtgfclechgalpmaaW.PrintWords Go.Proofs.YtgfclechgalpmaaW.PrintLast Go.Proofs.Ytgfclechgalpmaa.Q
set_option linter.unusedVariables false
set_option linter.unusedSimpArgs false

theorem eqGuestS_ok (l : List S30) (hl : l.length ≤ 2000000) : Ok (fun k => laws_eqGuestS.f k l l) (· = true) := by
  unfold laws_eqGuestS.f
  refine Ok.pos rfl ?_
  refine Ok.range (fun (_ : Unit) i k => laws_eqGuestS.l0 k l l i) l.length (fun _ _ => True) _ ?_ ?_ () trivial
  · intro i _ hi _ ih
    have ew : wrap64 ((i : Int) + 1) = (i : Int) + 1 := wrap_id (by omega) (by omega)
    refine Ok.step (fun k => by simp only [laws_eqGuestS.l0]; rfl) (Ok.pos (by omega) (Ok.pos (by omega) (Ok.pos (by omega) ?_)))
    simp only [laws_eqGuest.f, ew, if_true, Option.bind_some, bne_self_eq_false, Bool.false_eq_true, if_false]
    exact ih () trivial
  · intro _ _
    exact Ok.step (fun k => by simp only [laws_eqGuestS.l0]; rfl) (Ok.neg (by omega) (Ok.ret rfl))
end Go.Proofs.Ytgfclechgalpmaa.Pure
