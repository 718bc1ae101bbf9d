/- The laws' marks in lists of guests. Condition: at most 2,000,000. -/
import Derived.Test.YtgfclechgalpmaaInts0
import Derived.Test.YtgfclechgalpmaaQx27
namespace Go.Proofs.Ytgfclechgalpmaa.Pure
open Go.RowKit Go.Proofs.YtgfclechgalpmaaW.PrintWords Go.Proofs.YtgfclechgalpmaaW.PrintLast Go.Proofs.Ytgfclechgalpmaa.Q
set_option linter.unusedVariables false
set_option linter.unusedSimpArgs false

theorem markGuestS_ok (l : List S30) (c0 : Int) (h0 : 0 ≤ c0) (h1 : c0 ≤ 1000000000000) (hl : l.length ≤ 2000000) : Ok (fun k => laws_markGuestS.f k l c0) (fun r => r.1 = c0 + 3 * l.length) := by
  unfold laws_markGuestS.f
  refine Ok.range (fun (s : List S30 × Int) i k => laws_markGuestS.l0 k s.1 s.2 i) l.length (fun i s => s.1.length = l.length ∧ s.2 = c0 + 3 * i) _ ?_ ?_ (l, c0) ⟨rfl, by simp⟩
  · rintro i ⟨xs, c⟩ hi ⟨h2, h3⟩ ih
    simp only at h2 h3
    have ew : wrap64 ((i : Int) + 1) = (i : Int) + 1 := wrap_id (by omega) (by omega)
    have e1 : wrap64 (c + 1) = c + 1 := wrap_id (by omega) (by omega)
    have e2 : wrap64 (c + 1 + 1) = c + 2 := by rw [wrap_id (n := c + 1 + 1) (by omega) (by omega)]; omega
    have e3 : wrap64 (c + 2 + 1) = c + 3 := by rw [wrap_id (n := c + 2 + 1) (by omega) (by omega)]; omega
    refine Ok.step (fun k => by simp only [laws_markGuestS.l0]; rfl) (Ok.pos (by omega) (Ok.pos (by omega) ?_))
    simp only [e1, e2, e3, ew]
    refine Ok.val (Ok.val (ih (_, _) ⟨by simp [h2], by simp only; omega⟩))
  · rintro ⟨xs, c⟩ ⟨h2, h3⟩
    simp only at h2 h3
    refine Ok.step (fun k => by simp only [laws_markGuestS.l0]; rfl) (Ok.neg (by omega) (Ok.ret ?_))
    exact h3
end Go.Proofs.Ytgfclechgalpmaa.Pure
