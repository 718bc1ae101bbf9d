/- A drawn diet and kind. Condition: the bytes are bytes. -/
import Derived.Test.YtgfclechgalpmaaDiet
import Derived.Test.YtgfclechgalpmaaPick
import Derived.Test.YtgfclechgalpmaaQx1
namespace Go.Proofs.Ytgfclechgalpmaa.Pure
open Go.RowKit Go.Proofs.YtgfclechgalpmaaW.PrintWords Go.Proofs.YtgfclechgalpmaaW.PrintLast Go.Proofs.Ytgfclechgalpmaa.Q
set_option linter.unusedVariables false
theorem drawDiet_ok (l : List Int) (hl : ∀ x ∈ l, (Lit.int .u8 x).wf = true) : Ok (fun k => spec_DrawDietAllows.f k l) (fun r => 0 ≤ r.1 ∧ r.1 ≤ 5 ∧ 0 ≤ r.2 ∧ r.2 ≤ 6) := by
  unfold spec_DrawDietAllows.f
  obtain ⟨b, hb, hB⟩ := open_ok l hl
  simp only [hb, Option.bind_some]
  refine Ok.bind (pick_in b 0 6 hB (by omega) (by omega) (by omega) (by omega)) ?_
  rintro ⟨v, p⟩ ⟨hp, h0, h1⟩
  simp only at hp h0 h1 ⊢
  subst hp
  refine Ok.bind (pick_in b _ 7 hB (by omega) (by omega) (by omega) (by omega)) ?_
  rintro ⟨v2, p2⟩ ⟨hp2, h2, h3⟩
  simp only at hp2 h2 h3 ⊢
  exact Ok.ret (by simp only; omega)
end Go.Proofs.Ytgfclechgalpmaa.Pure
