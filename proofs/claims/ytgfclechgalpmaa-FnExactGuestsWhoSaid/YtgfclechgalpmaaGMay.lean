/- Who may eat what: GuestMay, in the program and in the reference. No conditions. -/
import Derived.Test.YtgfclechgalpmaaGOne
import Derived.Test.YtgfclechgalpmaaDiet
import Derived.Test.YtgfclechgalpmaaMeet
import Derived.Test.YtgfclechgalpmaaQx10
namespace Go.Proofs.Ytgfclechgalpmaa.Pure
open Go.RowKit Go.Proofs.YtgfclechgalpmaaW.PrintWords Go.Proofs.YtgfclechgalpmaaW.PrintLast Go.Proofs.Ytgfclechgalpmaa.Q
set_option linter.unusedVariables false
set_option linter.unusedSimpArgs false

def mayB (a b c s k : Int) : Bool := gB a b c && inr s 0 255 && decide (Go.bits .and .i64 c s = 0) && dietB b k
theorem iMay_eq (a b c s k : Int) : impl_GuestMay.f a b c s k = some (mayB a b c s k) := by
  unfold impl_GuestMay.f mayB
  simp only [iGuest_eq, isSet_eq, iDiet_eq, Option.bind_some]
  cases gB a b c <;> cases inr s 0 255 <;> by_cases h : Go.bits .and .i64 c s = 0 <;> simp [h]
theorem sMay_ok (a b c s k : Int) : Ok (fun n => spec_GuestMay.f n a b c s k) (· = mayB a b c s k) := by
  unfold spec_GuestMay.f mayB
  simp only [sGuest_eq, l3Set_eq, sDiet_eq, Option.bind_some]
  cases h1 : gB a b c with
  | false => exact Ok.neg (by simp) (Ok.ret (by simp))
  | true =>
    refine Ok.pos rfl ?_
    cases h2 : inr s 0 255 with
    | false => exact Ok.neg (by simp) (Ok.ret (by simp))
    | true =>
      refine Ok.pos rfl ?_
      cases h3 : dietB b k with
      | false => exact Ok.neg (by simp) (Ok.ret (by simp))
      | true =>
        refine Ok.pos rfl ?_
        obtain ⟨x, rfl, hx⟩ := set_nat ((gB_iff _ _ _).1 h1).2.2
        obtain ⟨y, rfl, hy⟩ := set_nat ((inr_iff _ _ _).1 h2)
        refine Ok.bind (meet_ok x y hx hy) ?_
        rintro _ rfl
        refine Ok.ret ?_
        rw [(bits_nat64 x y hx hy).1]
        simp only [Bool.true_and, Bool.and_true]
        rw [Bool.eq_iff_iff, decide_eq_true_iff, beq_iff_eq]
end Go.Proofs.Ytgfclechgalpmaa.Pure
