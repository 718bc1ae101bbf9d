/- Drawn guests and sets: each draw answers; at most 11 guests are drawn. Condition: the bytes are bytes. -/
import Derived.Test.YtgfclechgalpmaaPick
import Derived.Test.YtgfclechgalpmaaSets
import Derived.Test.YtgfclechgalpmaaQx7
import Derived.Test.YtgfclechgalpmaaQx8
import Derived.Test.YtgfclechgalpmaaQx10
import Derived.Test.YtgfclechgalpmaaQx8
import Derived.Test.YtgfclechgalpmaaQx10
import Derived.Test.YtgfclechgalpmaaQx11
namespace Go.Proofs.Ytgfclechgalpmaa.Pure
open Go.RowKit Go.Proofs.YtgfclechgalpmaaW.PrintWords Go.Proofs.YtgfclechgalpmaaW.PrintLast Go.Proofs.Ytgfclechgalpmaa.Q
set_option linter.unusedVariables false
set_option linter.unusedSimpArgs false

/-- a place that went on by some, not far -/
def On (p : Int) (m : Int) (q : Int) : Prop := p ≤ q ∧ q ≤ p + m
theorem l91Guest_ok (b : List Int) (p a : Int) (hB : Bytes b) (hp : 0 ≤ p) (hp' : p ≤ 1000000) (ha : 0 ≤ a ∧ a ≤ 1000) : Ok (fun k => spec_l91Guest.f k b p a) (fun r => On p 12 r.2.2.2) := by
  unfold spec_l91Guest.f
  refine Ok.bind (pick_in b p 4 hB hp (by omega) (by omega) (by omega)) ?_
  rintro ⟨v, p1⟩ ⟨rfl, h0, h1⟩
  simp only at h0 h1 ⊢
  have key := Ok.range (fun (s : Int × Int × Int × Int) i k => spec_l91Guest.l0 k i b s.1 s.2.1 s.2.2.1 s.2.2.2) 8 (fun i s => p + 1 ≤ s.1 ∧ s.1 ≤ p + 1 + i) (fun r => On p 12 r.2.2.2) ?_ ?_ (p + 1, a, wrap64 (1 + v), 0) (by simp)
  · exact key
  · rintro i ⟨q, x, y, z⟩ hi hs ih
    simp only at hs ih ⊢
    have ew : wrap64 ((i : Int) + 1) = (i : Int) + 1 := wrap_id (by omega) (by omega)
    refine Ok.step (fun k => by simp only [spec_l91Guest.l0]; rfl) (Ok.pos (by omega) (Ok.bind (pick_in b q 6 hB (by omega) (by omega) (by omega) (by omega)) ?_))
    rintro ⟨v2, q2⟩ ⟨rfl, h2, h3⟩
    simp only at h2 h3 ⊢
    rw [ew]
    refine Ok.ite (fun _ => Ok.bind (weight_ok i (by omega)) fun w _ => ih (q + 1, x, y, _) (by simp only; omega)) (fun _ => ih (q + 1, x, y, z) (by simp only; omega))
  · rintro ⟨q, x, y, z⟩ hs
    simp only at hs ⊢
    refine Ok.step (fun k => by simp only [spec_l91Guest.l0]; rfl) (Ok.neg (by omega) (Ok.bind (pick_in b q 60 hB (by omega) (by omega) (by omega) (by omega)) ?_))
    rintro ⟨v2, q2⟩ ⟨rfl, h2, h3⟩
    simp only at h2 h3 ⊢
    refine Ok.ite (fun _ => Ok.bind (pick_in b _ 2 hB (by omega) (by omega) (by omega) (by omega)) ?_) (fun _ => Ok.ite (fun _ => ?_) (fun _ => Ok.ret ⟨by simp only; omega, by simp only; omega⟩))
    · rintro ⟨v3, q3⟩ ⟨rfl, h4, h5⟩
      exact Ok.ret ⟨by simp only; omega, by simp only; omega⟩
    · simp only [Option.bind_some]
      refine Ok.bind (pick_in b _ 3 hB (by omega) (by omega) (by omega) (by omega)) ?_
      rintro ⟨v3, q3⟩ ⟨rfl, h4, h5⟩
      simp only at h4 h5 ⊢
      exact Ok.pos h4 (Ok.pos (by simpa using h5) (Ok.ret ⟨by simp only; omega, by simp only; omega⟩))
theorem l91Guests_ok (b : List Int) (p : Int) (hB : Bytes b) (hp : 0 ≤ p) (hp' : p ≤ 100000) : Ok (fun k => spec_l91Guests.f k b p) (fun r => r.1.length ≤ 11 ∧ On p 400 r.2) := by
  unfold spec_l91Guests.f
  simp only [Option.bind_some]
  have loop : ∀ (n : Nat) (q : Int), n ≤ 11 → p ≤ q → q ≤ p + 3 → Ok (fun k => spec_l91Guests.j0 k [] (n : Int) b q) (fun r => r.1.length ≤ 11 ∧ On p 400 r.2) := by
    intro n q hn hq hq'
    refine Ok.step (fun k => by simp only [spec_l91Guests.j0]; rfl) ?_
    refine Ok.range (fun (s : List S30 × Int) i k => spec_l91Guests.l0 k s.1 (n : Int) i b s.2) n (fun i s => s.1.length = i ∧ q ≤ s.2 ∧ s.2 ≤ q + 13 * i) _ ?_ ?_ ([], q) (by simp)
    · rintro i ⟨xs, q1⟩ hi ⟨h1, h2, h3⟩ ih
      simp only at h1 h2 h3 ih ⊢
      refine Ok.step (fun k => by simp only [spec_l91Guests.l0]; rfl) (Ok.pos (by omega) (Ok.bind (pick_in b q1 2 hB (by omega) (by omega) (by omega) (by omega)) ?_))
      rintro ⟨v, q2⟩ ⟨rfl, h4, h5⟩
      simp only at h4 h5 ⊢
      have ew : wrap64 ((i : Int) + 1) = (i : Int) + 1 := wrap_id (by omega) (by omega)
      have ew2 : wrap64 (wrap64 (wrap64 (2 * (i : Int)) + 1) + v) = 2 * (i : Int) + 1 + v := by
        rw [wrap_id (n := 2 * (i : Int)) (by omega) (by omega), wrap_id (n := 2 * (i : Int) + 1) (by omega) (by omega), wrap_id (by omega) (by omega)]
      rw [ew, ew2]
      refine Ok.bind (l91Guest_ok b _ _ hB (by omega) (by omega) (by omega)) ?_
      rintro ⟨x, y, z, q3⟩ ⟨h6, h7⟩
      simp only at h6 h7 ⊢
      exact Ok.pos (by omega) (ih (_, _) ⟨by simp [h1], by simp only; omega, by simp only; omega⟩)
    · rintro ⟨xs, q1⟩ ⟨h1, h2, h3⟩
      simp only at h1 h2 h3 ⊢
      exact Ok.step (fun k => by simp only [spec_l91Guests.l0]; rfl) (Ok.neg (by omega) (Ok.ret ⟨by simp only; omega, by constructor <;> simp only <;> omega⟩))
  refine Ok.bind (pick_in b p 8 hB (by omega) (by omega) (by omega) (by omega)) ?_
  rintro ⟨v, q⟩ ⟨rfl, h0, h1⟩
  simp only at h0 h1 ⊢
  refine Ok.bind (pick_in b _ 20 hB (by omega) (by omega) (by omega) (by omega)) ?_
  rintro ⟨v2, q⟩ ⟨rfl, h2, h3⟩
  simp only at h2 h3 ⊢
  refine Ok.ite (fun _ => Ok.bind (pick_in b _ 2 hB (by omega) (by omega) (by omega) (by omega)) ?_) (fun _ => ?_)
  · rintro ⟨v3, q⟩ ⟨rfl, h4, h5⟩
    simp only at h4 h5 ⊢
    have := loop (10 + v3.toNat) (p + 1 + 1 + 1) (by omega) (by omega) (by omega)
    rw [wrap_id (n := 10 + v3) (by omega) (by omega)]
    rwa [show ((10 + v3.toNat : Nat) : Int) = 10 + v3 by omega] at this
  · have := loop v.toNat (p + 1 + 1) (by omega) (by omega) (by omega)
    rwa [show ((v.toNat : Nat) : Int) = v by omega] at this
theorem l91Set_ok (b : List Int) (p : Int) (hB : Bytes b) (hp : 0 ≤ p) (hp' : p ≤ 1000000) : Ok (fun k => spec_l91Set.f k b p) (fun r => On p 10 r.2) := by
  unfold spec_l91Set.f
  refine Ok.bind (pick_in b p 24 hB (by omega) (by omega) (by omega) (by omega)) ?_
  rintro ⟨v, q⟩ ⟨rfl, h0, h1⟩
  simp only [Option.bind_some] at h0 h1 ⊢
  refine Ok.ite (fun _ => Ok.bind (pick_in b _ 3 hB (by omega) (by omega) (by omega) (by omega)) ?_) (fun _ => ?_)
  · rintro ⟨v3, q⟩ ⟨rfl, h4, h5⟩
    simp only at h4 h5 ⊢
    exact Ok.pos h4 (Ok.pos (by simpa using h5) (Ok.ret ⟨by simp only; omega, by simp only; omega⟩))
  · refine Ok.range (fun (s : Int × Int) i k => spec_l91Set.l0 k s.1 i b s.2) 8 (fun i s => p + 1 ≤ s.2 ∧ s.2 ≤ p + 1 + i) _ ?_ ?_ (0, p + 1) (by simp)
    · rintro i ⟨x, q⟩ hi hs ih
      simp only at hs ih ⊢
      have ew : wrap64 ((i : Int) + 1) = (i : Int) + 1 := wrap_id (by omega) (by omega)
      refine Ok.step (fun k => by simp only [spec_l91Set.l0]; rfl) (Ok.pos (by omega) (Ok.bind (pick_in b q 4 hB (by omega) (by omega) (by omega) (by omega)) ?_))
      rintro ⟨v2, q2⟩ ⟨rfl, h2, h3⟩
      simp only at h2 h3 ⊢
      rw [ew]
      exact Ok.ite (fun _ => Ok.bind (weight_ok i (by omega)) fun w _ => ih (_, q + 1) (by simp only; omega)) (fun _ => ih (_, q + 1) (by simp only; omega))
    · rintro ⟨x, q⟩ hs
      simp only at hs ⊢
      exact Ok.step (fun k => by simp only [spec_l91Set.l0]; rfl) (Ok.neg (by omega) (Ok.ret ⟨by simp only; omega, by simp only; omega⟩))
theorem drawGuestsValid_ok (l : List Int) (hl : ∀ x ∈ l, (Lit.int .u8 x).wf = true) : Ok (fun k => spec_DrawGuestsValid.f k l) (fun r => r.length ≤ 11) := by
  unfold spec_DrawGuestsValid.f
  obtain ⟨b, hb, hB⟩ := open_ok l hl
  simp only [hb, Option.bind_some]
  exact Ok.bind (l91Guests_ok b 0 hB (by omega) (by omega)) fun r hr => Ok.ret hr.1
theorem drawGuestMay_ok (l : List Int) (hl : ∀ x ∈ l, (Lit.int .u8 x).wf = true) : Ok (fun k => spec_DrawGuestMay.f k l) (fun _ => True) := by
  unfold spec_DrawGuestMay.f
  obtain ⟨b, hb, hB⟩ := open_ok l hl
  simp only [hb, Option.bind_some]
  refine Ok.bind (pick_in b 0 99 hB (by omega) (by omega) (by omega) (by omega)) ?_
  rintro ⟨v, q⟩ ⟨rfl, h0, h1⟩
  simp only at h0 h1 ⊢
  rw [wrap_id (n := 1 + v) (by omega) (by omega)]
  refine Ok.bind (l91Guest_ok b _ _ hB (by omega) (by omega) (by omega)) ?_
  rintro ⟨x, y, z, q⟩ ⟨h2, h3⟩
  simp only at h2 h3 ⊢
  refine Ok.bind (pick_in b _ 2 hB (by omega) (by omega) (by omega) (by omega)) ?_
  rintro ⟨v2, q2⟩ ⟨rfl, h4, h5⟩
  simp only at h4 h5 ⊢
  refine Ok.ite (fun _ => Ok.bind (l91Set_ok b _ hB (by omega) (by omega)) ?_) (fun _ => ?_)
  · rintro ⟨s, q3⟩ ⟨h6, h7⟩
    simp only at h6 h7 ⊢
    refine Ok.bind (pick_in b _ 6 hB (by omega) (by omega) (by omega) (by omega)) ?_
    rintro ⟨v4, q4⟩ ⟨rfl, h8, h9⟩
    simp only
    refine Ok.bind (pick_in b _ 16 hB (by omega) (by omega) (by omega) (by omega)) fun _ _ => Ok.ret trivial
  · refine Ok.bind (pick_in b _ 6 hB (by omega) (by omega) (by omega) (by omega)) ?_
    rintro ⟨v4, q4⟩ ⟨rfl, h8, h9⟩
    simp only
    refine Ok.bind (pick_in b _ 16 hB (by omega) (by omega) (by omega) (by omega)) fun _ _ => Ok.ret trivial
theorem drawGuestsWho_ok (l : List Int) (hl : ∀ x ∈ l, (Lit.int .u8 x).wf = true) : Ok (fun k => spec_DrawGuestsWho.f k l) (fun r => r.1.length ≤ 11) := by
  unfold spec_DrawGuestsWho.f
  obtain ⟨b, hb, hB⟩ := open_ok l hl
  simp only [hb, Option.bind_some]
  refine Ok.bind (l91Guests_ok b 0 hB (by omega) (by omega)) ?_
  rintro ⟨xs, q⟩ ⟨h0, h1, h2⟩
  simp only at h0 h1 h2 ⊢
  refine Ok.bind (l91Set_ok b _ hB (by omega) (by omega)) ?_
  rintro ⟨s, q3⟩ ⟨h6, h7⟩
  simp only at h6 h7 ⊢
  exact Ok.bind (pick_in b _ 6 hB (by omega) (by omega) (by omega) (by omega)) fun _ _ => Ok.ret h0
end Go.Proofs.Ytgfclechgalpmaa.Pure
