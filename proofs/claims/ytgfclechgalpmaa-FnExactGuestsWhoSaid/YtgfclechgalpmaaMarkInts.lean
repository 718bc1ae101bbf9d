/- Lists of whole numbers. Condition: at most 2,000,000 elements. -/
import Derived.Test.YtgfclechgalpmaaInts0
import Derived.Test.YtgfclechgalpmaaQx27
namespace Go.Proofs.Ytgfclechgalpmaa.Pure
open Go.RowKit Go.Proofs.YtgfclechgalpmaaW.PrintWords Go.Proofs.YtgfclechgalpmaaW.PrintLast Go.Proofs.Ytgfclechgalpmaa.Q
set_option linter.unusedVariables false
set_option linter.unusedSimpArgs false

theorem markIntS_ok (l : List Int) (hl : l.length ≤ 2000000) : Ok (fun k => laws_markIntS.f k l 1) (fun r => r.1 = (l.length : Int) + 1 ∧ r.2.length = l.length ∧ ∀ j, j < l.length → r.2.getD j 0 = (j : Int) + 1) := by
  unfold laws_markIntS.f
  refine Ok.range (fun (s : List Int × Int) i k => laws_markIntS.l0 k s.1 s.2 i) l.length (fun i s => s.1.length = l.length ∧ s.2 = (i : Int) + 1 ∧ ∀ j, j < i → s.1.getD j 0 = (j : Int) + 1) _ ?_ ?_ (l, 1) ⟨rfl, rfl, fun j hj => absurd hj (by omega)⟩
  · rintro i ⟨xs, c⟩ hi ⟨h1, h2, h3⟩ ih
    simp only at h1 h2 h3
    subst h2
    have ew : wrap64 ((i : Int) + 1) = (i : Int) + 1 := wrap_id (by omega) (by omega)
    have ew2 : wrap64 ((i : Int) + 1 + 1) = ((i : Int) + 1) + 1 := wrap_id (by omega) (by omega)
    refine Ok.step (fun k => by simp only [laws_markIntS.l0]; rfl) (Ok.pos (by omega) (Ok.pos (by omega) ?_))
    rw [ew2, ew]
    refine ih (_, _) ⟨by simp [h1], by simp, fun j hj => ?_⟩
    simp only [Int.toNat_natCast]
    rw [getD_set _ _ _ _ _ (by omega)]
    split
    · rename_i e; subst e; rfl
    · exact h3 j (by omega)
  · rintro ⟨xs, c⟩ ⟨h1, h2, h3⟩
    simp only at h1 h2 h3
    exact Ok.step (fun k => by simp only [laws_markIntS.l0]; rfl) (Ok.neg (by omega) (Ok.ret ⟨h2, h1, h3⟩))
theorem heldIntS_ok (l : List Int) (hl : l.length ≤ 2000000) (h : ∀ j, j < l.length → l.getD j 0 = (j : Int) + 1) : Ok (fun k => laws_heldIntS.f k l 1) (· = (l.length : Int) + 1) := by
  unfold laws_heldIntS.f
  refine Ok.range (fun (c : Int) i k => laws_heldIntS.l0 k l c i) l.length (fun i c => c = (i : Int) + 1) _ ?_ ?_ 1 rfl
  · rintro i _ hi rfl ih
    have ew : wrap64 ((i : Int) + 1) = (i : Int) + 1 := wrap_id (by omega) (by omega)
    have ew2 : wrap64 ((i : Int) + 1 + 1) = ((i : Int) + 1) + 1 := wrap_id (by omega) (by omega)
    refine Ok.step (fun k => by simp only [laws_heldIntS.l0]; rfl) (Ok.pos (by omega) (Ok.pos (by omega) (Ok.pos (by rw [rd_nat, h i hi]) ?_)))
    rw [ew2, ew]
    exact ih _ (by simp)
  · rintro _ rfl
    exact Ok.step (fun k => by simp only [laws_heldIntS.l0]; rfl) (Ok.neg (by omega) (Ok.ret rfl))
end Go.Proofs.Ytgfclechgalpmaa.Pure
