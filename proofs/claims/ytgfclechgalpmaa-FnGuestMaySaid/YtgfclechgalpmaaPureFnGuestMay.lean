/- Nobody may eat what harms: the law comes to true for every input. No conditions. -/
import Derived.Test.YtgfclechgalpmaaGuests
import Derived.Test.YtgfclechgalpmaaDrawGuests
import Derived.Test.YtgfclechgalpmaaQx10
namespace Go.Proofs.Ytgfclechgalpmaa.Pure
open Go.RowKit Go.Proofs.YtgfclechgalpmaaW.PrintWords Go.Proofs.YtgfclechgalpmaaW.PrintLast Go.Proofs.Ytgfclechgalpmaa.Q
set_option linter.unusedVariables false
set_option linter.unusedSimpArgs false
theorem one_valid (x y z : Int) (h : gB x y z = true) : GV [(⟨x, y, z⟩ : Gst)] := by
  refine ⟨by simp, fun i hi => ?_⟩
  obtain rfl : i = 0 := by simp at hi; omega
  exact ⟨h, fun h => absurd h (by omega)⟩
theorem FnGuestMay : laws_FnGuestMay.Pure := by
  intro l _ _ hl
  apply Ok.rounds
  unfold laws_FnGuestMay.f
  refine Ok.ite (fun _ => Ok.ret rfl) fun _ => Ok.bind (drawGuestMay_ok l hl) ?_
  rintro ⟨x, y, z, s, k⟩ _
  simp only [iMay_eq, Option.bind_some]
  refine Ok.bind (sMay_ok x y z s k) ?_
  rintro _ rfl
  refine Ok.neg (by simp) ?_
  refine Ok.step (fun k => by simp only [laws_FnGuestMay.j0]; rfl) (Ok.ite (fun _ => Ok.ret (by simp)) fun h => ?_)
  have hm : mayB x y z s k = true := by simpa using h
  simp only [mayB, Bool.and_eq_true, decide_eq_true_iff] at hm
  obtain ⟨⟨⟨h1, h2⟩, h3⟩, h4⟩ := hm
  have hz : inr z 0 255 = true := (inr_iff _ _ _).2 ((gB_iff _ _ _).1 h1).2.2
  simp only [impl_AllergensMeet.f, isSet_eq, hz, h2, iDiet_eq, h4, Option.bind_some, if_true]
  refine Ok.pos h3 ?_
  refine Ok.bind (iGuests_ok _ (by simp)) fun b hb => Ok.ret (hb.2 (one_valid x y z h1))
end Go.Proofs.Ytgfclechgalpmaa.Pure
