/- The program's GuestsWho returns what the reference's returns, for all arguments. No conditions. -/
import Derived.Test.YtgfclechgalpmaaGWho
import Derived.Test.YtgfclechgalpmaaToGuest
import Derived.Test.YtgfclechgalpmaaEqGuest
import Derived.Test.YtgfclechgalpmaaMarkGuest
import Derived.Test.YtgfclechgalpmaaEqInts
import Derived.Test.YtgfclechgalpmaaMarkInts
import Derived.Test.YtgfclechgalpmaaQx27
namespace Go.Proofs.Ytgfclechgalpmaa.Pure
open Go.RowKit Go.Proofs.YtgfclechgalpmaaW.PrintWords Go.Proofs.YtgfclechgalpmaaW.PrintLast Go.Proofs.Ytgfclechgalpmaa.Q
set_option linter.unusedVariables false
set_option linter.unusedSimpArgs false
theorem FnExactGuestsWho (l : List S28) (hm : l.length ≤ maxLen) (s : Int) (_ : (Lit.int .i64 s).wf = true) (d : Int) (_ : (Lit.int .i64 d).wf = true) : ∃ k, laws_FnExactGuestsWho.f k l s d = some true := by
  apply Ok.rounds
  unfold laws_FnExactGuestsWho.f
  rw [szGuestS_eq l _ (by omega) (by omega) hm]
  refine Ok.val (Ok.ite (fun _ => Ok.ret rfl) fun h => ?_)
  have hl : l.length ≤ 2000000 := by
    split at h <;> omega
  have hl' : (l.map cvGuest).length ≤ 2000000 := by simpa using hl
  refine Ok.bind (toGuestS_ok l hl) ?_
  rintro _ rfl
  refine Ok.bind (sWho_ok _ s d hl') fun r1 h1 => Ok.bind (toGuestS_ok l hl) ?_
  rintro _ rfl
  have two : ∀ r2 : List Int, ((GV (l.map cvGuest) → r2 = who (l.map cvGuest) s d (l.map cvGuest).length) ∧ (¬ GV (l.map cvGuest) → r2 = [])) → r2 = r1 := by
    intro r2 h2
    by_cases hv : GV (l.map cvGuest)
    · rw [h1.1 hv, h2.1 hv]
    · rw [h1.2 hv, h2.2 hv]
  have hr : r1.length ≤ 2000000 := by
    by_cases hv : GV (l.map cvGuest)
    · rw [h1.1 hv]; exact Nat.le_trans (who_len _ _ _ _) hl'
    · rw [h1.2 hv]; simp
  refine Ok.bind (iWho_ok _ s d hl') fun r2 h2 => ?_
  obtain rfl := two r2 h2
  refine Ok.bind (eqIntS_ok r2 r2 hr) fun b hb => Ok.pos (hb.2 rfl) (Ok.bind (toGuestS_ok l hl) ?_)
  rintro _ rfl
  refine Ok.bind (eqGuestS_ok _ hl') ?_
  rintro _ rfl
  refine Ok.pos rfl (Ok.bind (markGuestS_ok _ 1 (by omega) (by omega) hl') fun m hmk => Ok.neg (by omega) (Ok.bind (eqIntS_ok r2 r2 hr) fun b hb => ?_))
  rw [hb.2 rfl]
  refine Ok.step (fun k => by simp only [laws_FnExactGuestsWho.j0]; rfl) (Ok.neg (by simp) (Ok.bind (markIntS_ok r2 hr) ?_))
  rintro ⟨c, ys⟩ ⟨e1, e2, e3⟩
  simp only at e1 e2 e3 ⊢
  have held := heldIntS_ok ys (by omega) (by rw [e2]; exact e3)
  rw [e2, ← e1] at held
  refine Ok.bind held ?_
  rintro _ rfl
  refine Ok.neg (by omega) (Ok.pos rfl (Ok.bind (toGuestS_ok l hl) ?_))
  rintro _ rfl
  refine Ok.bind (iWho_ok _ s d hl') fun r3 h3 => ?_
  obtain rfl := two r3 h3
  refine Ok.bind (eqIntS_ok r3 r3 hr) fun b hb => Ok.pos (hb.2 rfl) (Ok.bind held ?_)
  rintro _ rfl
  exact Ok.neg (by omega) (Ok.pos rfl (Ok.ret rfl))
end Go.Proofs.Ytgfclechgalpmaa.Pure
