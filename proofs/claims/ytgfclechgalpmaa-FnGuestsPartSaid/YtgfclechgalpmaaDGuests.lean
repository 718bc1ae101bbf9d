/- Drawn guests: at most 11. Condition: the bytes are bytes. -/
import Derived.Test.YtgfclechgalpmaaDGuest
import Derived.Test.YtgfclechgalpmaaQx18
namespace Go.Proofs.Ytgfclechgalpmaa.Pure
open Go.RowKit Go.Proofs.YtgfclechgalpmaaW.PrintWords Go.Proofs.YtgfclechgalpmaaW.PrintLast Go.Proofs.Ytgfclechgalpmaa.Q
set_option linter.unusedVariables false
set_option linter.unusedSimpArgs false

theorem l91Guests_ok (b : List Int) (p : Int) (hB : Bytes b) (hp : 0 ≤ p) (hp' : p ≤ 100000) : Ok (fun k => spec_l91Guests.f k b p) (fun r => r.1.length ≤ 11 ∧ On p 400 r.2) := by
  unfold spec_l91Guests.f
  simp only [Option.bind_some]
  have loop : ∀ (n : Nat) (q : Int), n ≤ 11 → p ≤ q → q ≤ p + 3 → Ok (fun k => spec_l91Guests.j0 k [] (n : Int) b q) (fun r => r.1.length ≤ 11 ∧ On p 400 r.2) := by
    intro n q hn hq hq'
    refine Ok.step (fun k => by simp only [spec_l91Guests.j0]; rfl) ?_
    refine Ok.range (fun (s : List S30 × Int) i k => spec_l91Guests.l0 k s.1 (n : Int) i b s.2) n (fun i s => s.1.length = i ∧ q ≤ s.2 ∧ s.2 ≤ q + 13 * i) _ ?_ ?_ ([], q) (by simp)
    · rintro i ⟨xs, q1⟩ hi ⟨h1, h2, h3⟩ ih
      simp only at h1 h2 h3 ih ⊢
      refine Ok.step (fun k => by simp only [spec_l91Guests.l0]; rfl) (Ok.pos (by omega) (Ok.bind (pick_in b q1 2 hB (by omega) (by omega) (by omega) (by omega)) ?_))
      rintro ⟨v, q2⟩ ⟨rfl, h4, h5⟩
      simp only at h4 h5 ⊢
      have ew : wrap64 ((i : Int) + 1) = (i : Int) + 1 := wrap_id (by omega) (by omega)
      have ew2 : wrap64 (wrap64 (wrap64 (2 * (i : Int)) + 1) + v) = 2 * (i : Int) + 1 + v := by
        rw [wrap_id (n := 2 * (i : Int)) (by omega) (by omega), wrap_id (n := 2 * (i : Int) + 1) (by omega) (by omega), wrap_id (by omega) (by omega)]
      rw [ew, ew2]
      refine Ok.bind (l91Guest_ok b _ _ hB (by omega) (by omega) (by omega)) ?_
      rintro ⟨x, y, z, q3⟩ ⟨h6, h7⟩
      simp only at h6 h7 ⊢
      exact Ok.pos (by omega) (ih (_, _) ⟨by simp [h1], by simp only; omega, by simp only; omega⟩)
    · rintro ⟨xs, q1⟩ ⟨h1, h2, h3⟩
      simp only at h1 h2 h3 ⊢
      exact Ok.step (fun k => by simp only [spec_l91Guests.l0]; rfl) (Ok.neg (by omega) (Ok.ret ⟨by simp only; omega, by constructor <;> simp only <;> omega⟩))
  refine Ok.bind (pick_in b p 8 hB (by omega) (by omega) (by omega) (by omega)) ?_
  rintro ⟨v, q⟩ ⟨rfl, h0, h1⟩
  simp only at h0 h1 ⊢
  refine Ok.bind (pick_in b _ 20 hB (by omega) (by omega) (by omega) (by omega)) ?_
  rintro ⟨v2, q⟩ ⟨rfl, h2, h3⟩
  simp only at h2 h3 ⊢
  refine Ok.ite (fun _ => Ok.bind (pick_in b _ 2 hB (by omega) (by omega) (by omega) (by omega)) ?_) (fun _ => ?_)
  · rintro ⟨v3, q⟩ ⟨rfl, h4, h5⟩
    simp only at h4 h5 ⊢
    have := loop (10 + v3.toNat) (p + 1 + 1 + 1) (by omega) (by omega) (by omega)
    rw [wrap_id (n := 10 + v3) (by omega) (by omega)]
    rwa [show ((10 + v3.toNat : Nat) : Int) = 10 + v3 by omega] at this
  · have := loop v.toNat (p + 1 + 1) (by omega) (by omega) (by omega)
    rwa [show ((v.toNat : Nat) : Int) = v by omega] at this
end Go.Proofs.Ytgfclechgalpmaa.Pure
