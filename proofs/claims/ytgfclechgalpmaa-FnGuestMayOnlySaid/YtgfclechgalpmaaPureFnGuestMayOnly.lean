/- Nothing else is forbidden: the law comes to true for every input. No conditions. -/
import Derived.Test.YtgfclechgalpmaaGuests
import Derived.Test.YtgfclechgalpmaaDrawGuests
import Derived.Test.YtgfclechgalpmaaQx11
namespace Go.Proofs.Ytgfclechgalpmaa.Pure
open Go.RowKit Go.Proofs.YtgfclechgalpmaaW.PrintWords Go.Proofs.YtgfclechgalpmaaW.PrintLast Go.Proofs.Ytgfclechgalpmaa.Q
set_option linter.unusedVariables false
set_option linter.unusedSimpArgs false
theorem one_only (x y z : Int) : GV [(⟨x, y, z⟩ : Gst)] → gB x y z = true := fun h => (h.2 0 (by simp)).1
theorem FnGuestMayOnly : laws_FnGuestMayOnly.Pure := by
  intro l _ _ hl
  apply Ok.rounds
  unfold laws_FnGuestMayOnly.f
  refine Ok.ite (fun _ => Ok.ret rfl) fun _ => Ok.bind (drawGuestMay_ok l hl) ?_
  rintro ⟨x, y, z, s, k⟩ _
  simp only [iMay_eq, Option.bind_some]
  refine Ok.bind (sMay_ok x y z s k) ?_
  rintro _ rfl
  refine Ok.neg (by simp) (Ok.bind (sGuests_ok _ (by simp)) fun b hb => Ok.ite (fun h => ?_) fun h => ?_)
  · have hg := one_only x y z (hb.1 h)
    refine Ok.bind (count_ok s) fun c hc => ?_
    refine Ok.step (fun k => by simp only [laws_FnGuestMayOnly.j0]; rfl) (Ok.ite (fun _ => Ok.ret (by simp)) fun h => ?_)
    have hs : inr s 0 255 = true := (inr_iff _ _ _).2 (Classical.byContradiction fun h' => h (by simpa using hc.2 h'))
    have hz : inr z 0 255 = true := (inr_iff _ _ _).2 ((gB_iff _ _ _).1 hg).2.2
    simp only [impl_AllergensMeet.f, isSet_eq, hz, hs, iDiet_eq, Option.bind_some, if_true, mayB, hg, Bool.true_and]
    exact Ok.ite (fun h => Ok.ret (by simp [h])) (fun h => Ok.ret (by simp [h]))
  · exact Ok.step (fun k => by simp only [laws_FnGuestMayOnly.j0]; rfl) (Ok.pos (show true = true from rfl) (Ok.ret (by simp)))
end Go.Proofs.Ytgfclechgalpmaa.Pure
