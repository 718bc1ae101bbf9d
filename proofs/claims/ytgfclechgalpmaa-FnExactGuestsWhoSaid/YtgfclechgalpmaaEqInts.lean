/- Lists of whole numbers. Condition: at most 2,000,000 elements. -/
import Derived.Test.YtgfclechgalpmaaInts0
import Derived.Test.YtgfclechgalpmaaQx27
namespace Go.Proofs.Ytgfclechgalpmaa.Pure
open Go.RowKit Go.Proofs.YtgfclechgalpmaaW.PrintWords Go.Proofs.YtgfclechgalpmaaW.PrintLast Go.Proofs.Ytgfclechgalpmaa.Q
set_option linter.unusedVariables false
set_option linter.unusedSimpArgs false

theorem eqIntS_ok (a b : List Int) (hl : a.length ≤ 2000000) : Ok (fun k => laws_eqIntS.f k a b) (fun r => r = true ↔ a = b) := by
  unfold laws_eqIntS.f
  by_cases h : a.length = b.length
  · refine Ok.pos (by omega) ?_
    refine Ok.range (fun (_ : Unit) i k => laws_eqIntS.l0 k a b i) a.length (fun i _ => ∀ j, j < i → a.getD j 0 = b.getD j 0) _ ?_ ?_ () (fun j hj => absurd hj (by omega))
    · intro i _ hi hinv ih
      have ew : wrap64 ((i : Int) + 1) = (i : Int) + 1 := wrap_id (by omega) (by omega)
      refine Ok.step (fun k => by simp only [laws_eqIntS.l0]; rfl) (Ok.pos (by omega) (Ok.pos (by omega) (Ok.pos (by omega) ?_)))
      rw [ew, rd_nat, rd_nat]
      refine Ok.ite (fun h1 => ih () fun j hj => ?_) (fun h1 => Ok.ret ⟨fun h' => (by cases h'), fun h' => absurd (by rw [h']) h1⟩)
      rcases Nat.lt_succ_iff_lt_or_eq.1 hj with h2 | rfl
      · exact hinv j h2
      · exact h1
    · intro _ hinv
      exact Ok.step (fun k => by simp only [laws_eqIntS.l0]; rfl) (Ok.neg (by omega) (Ok.ret ⟨fun _ => eq_of_getD 0 h hinv, fun _ => rfl⟩))
  · exact Ok.neg (by omega) (Ok.ret ⟨fun h' => (by cases h'), fun h' => absurd (by rw [h']) h⟩)
end Go.Proofs.Ytgfclechgalpmaa.Pure
