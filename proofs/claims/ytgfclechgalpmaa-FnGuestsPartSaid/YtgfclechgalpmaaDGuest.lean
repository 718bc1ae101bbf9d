/- A drawn guest. Condition: the bytes are bytes. -/
import Derived.Test.YtgfclechgalpmaaPick
import Derived.Test.YtgfclechgalpmaaWt
import Derived.Test.YtgfclechgalpmaaQx17
namespace Go.Proofs.Ytgfclechgalpmaa.Pure
open Go.RowKit Go.Proofs.YtgfclechgalpmaaW.PrintWords Go.Proofs.YtgfclechgalpmaaW.PrintLast Go.Proofs.Ytgfclechgalpmaa.Q
set_option linter.unusedVariables false
set_option linter.unusedSimpArgs false

theorem l91Guest_ok (b : List Int) (p a : Int) (hB : Bytes b) (hp : 0 ≤ p) (hp' : p ≤ 1000000) (ha : 0 ≤ a ∧ a ≤ 1000) : Ok (fun k => spec_l91Guest.f k b p a) (fun r => On p 12 r.2.2.2) := by
  unfold spec_l91Guest.f
  refine Ok.bind (pick_in b p 4 hB hp (by omega) (by omega) (by omega)) ?_
  rintro ⟨v, p1⟩ ⟨rfl, h0, h1⟩
  simp only at h0 h1 ⊢
  have key := Ok.range (fun (s : Int × Int × Int × Int) i k => spec_l91Guest.l0 k i b s.1 s.2.1 s.2.2.1 s.2.2.2) 8 (fun i s => p + 1 ≤ s.1 ∧ s.1 ≤ p + 1 + i) (fun r => On p 12 r.2.2.2) ?_ ?_ (p + 1, a, wrap64 (1 + v), 0) (by simp)
  · exact key
  · rintro i ⟨q, x, y, z⟩ hi hs ih
    simp only at hs ih ⊢
    have ew : wrap64 ((i : Int) + 1) = (i : Int) + 1 := wrap_id (by omega) (by omega)
    refine Ok.step (fun k => by simp only [spec_l91Guest.l0]; rfl) (Ok.pos (by omega) (Ok.bind (pick_in b q 6 hB (by omega) (by omega) (by omega) (by omega)) ?_))
    rintro ⟨v2, q2⟩ ⟨rfl, h2, h3⟩
    simp only at h2 h3 ⊢
    rw [ew]
    refine Ok.ite (fun _ => Ok.bind (weight_ok i (by omega)) fun w _ => ih (q + 1, x, y, _) (by simp only; omega)) (fun _ => ih (q + 1, x, y, z) (by simp only; omega))
  · rintro ⟨q, x, y, z⟩ hs
    simp only at hs ⊢
    refine Ok.step (fun k => by simp only [spec_l91Guest.l0]; rfl) (Ok.neg (by omega) (Ok.bind (pick_in b q 60 hB (by omega) (by omega) (by omega) (by omega)) ?_))
    rintro ⟨v2, q2⟩ ⟨rfl, h2, h3⟩
    simp only at h2 h3 ⊢
    refine Ok.ite (fun _ => Ok.bind (pick_in b _ 2 hB (by omega) (by omega) (by omega) (by omega)) ?_) (fun _ => Ok.ite (fun _ => ?_) (fun _ => Ok.ret ⟨by simp only; omega, by simp only; omega⟩))
    · rintro ⟨v3, q3⟩ ⟨rfl, h4, h5⟩
      exact Ok.ret ⟨by simp only; omega, by simp only; omega⟩
    · simp only [Option.bind_some]
      refine Ok.bind (pick_in b _ 3 hB (by omega) (by omega) (by omega) (by omega)) ?_
      rintro ⟨v3, q3⟩ ⟨rfl, h4, h5⟩
      simp only at h4 h5 ⊢
      exact Ok.pos h4 (Ok.pos (by simpa using h5) (Ok.ret ⟨by simp only; omega, by simp only; omega⟩))
end Go.Proofs.Ytgfclechgalpmaa.Pure
