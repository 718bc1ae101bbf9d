/- Guests may be missing: the law comes to true for every input. No conditions. -/
import Derived.Test.YtgfclechgalpmaaGValid
import Derived.Test.YtgfclechgalpmaaDGuests
import Derived.Test.YtgfclechgalpmaaInts0
import Derived.Test.YtgfclechgalpmaaQx19
namespace Go.Proofs.Ytgfclechgalpmaa.Pure
open Go.RowKit Go.Proofs.YtgfclechgalpmaaW.PrintWords Go.Proofs.YtgfclechgalpmaaW.PrintLast Go.Proofs.Ytgfclechgalpmaa.Q
set_option linter.unusedVariables false
set_option linter.unusedSimpArgs false
theorem drawGuestsValid_ok (l : List Int) (hl : ∀ x ∈ l, (Lit.int .u8 x).wf = true) : Ok (fun k => spec_DrawGuestsValid.f k l) (fun r => r.length ≤ 11) := by
  unfold spec_DrawGuestsValid.f
  obtain ⟨b, hb, hB⟩ := open_ok l hl
  simp only [hb, Option.bind_some]
  exact Ok.bind (l91Guests_ok b 0 hB (by omega) (by omega)) fun r hr => Ok.ret hr.1
theorem skip_getD {α : Type} (l : List α) (d : α) (k i : Nat) (hk : k < l.length) : (l.take k ++ l.drop (k + 1)).getD i d = if i < k then l.getD i d else l.getD (i + 1) d := by
  simp only [List.getD_eq_getElem?_getD, List.getElem?_append, List.length_take]
  by_cases h : i < k
  · rw [if_pos h, if_pos (by omega), List.getElem?_take, if_pos h]
  · rw [if_neg h, if_neg (by omega), List.getElem?_drop, show k + 1 + (i - min k l.length) = i + 1 by omega]
theorem GV_skip (l : List Gst) (h : GV l) (k : Nat) (hk : k < l.length) : GV (l.take k ++ l.drop (k + 1)) := by
  have hlen : (l.take k ++ l.drop (k + 1)).length = l.length - 1 := by simp; omega
  refine ⟨by have := h.1; omega, fun i hi => ?_⟩
  rw [hlen] at hi
  have sk := fun j => skip_getD l z30 k j hk
  unfold gGood gAt
  rw [sk i, sk (i - 1)]
  by_cases h1 : i < k
  · rw [if_pos h1, if_pos (by omega)]
    exact h.2 i (by omega)
  · rw [if_neg h1]
    have hg := h.2 (i + 1) (by omega)
    refine ⟨hg.1, fun h0 => ?_⟩
    have hg2 := hg.2 (by omega)
    rw [show i + 1 - 1 = i by omega] at hg2
    by_cases h2 : i - 1 < k
    · rw [if_pos h2]
      obtain rfl : i = k := by omega
      have hg3 := (h.2 i (by omega)).2 h0
      exact Int.lt_trans hg3 hg2
    · rw [if_neg h2, show i - 1 + 1 = i by omega]
      exact hg2
theorem FnGuestsPart : laws_FnGuestsPart.Pure := by
  intro l m _ _ hl hm0 _ _
  apply Ok.rounds
  unfold laws_FnGuestsPart.f
  have main : ∀ c : Bool, ((m.length : Int) > 1048576 → c = true) → Ok (fun k => laws_FnGuestsPart.j0 k l m c) (· = true) := by
    intro c hc
    refine Ok.step (fun k => by simp only [laws_FnGuestsPart.j0]; rfl) (Ok.ite (fun _ => Ok.ret rfl) fun hcf => Ok.bind (drawGuestsValid_ok l hl) ?_)
    intro xs hx
    refine Ok.bind (iGuests_ok xs (by omega)) fun b1 hb1 => Ok.bind (sGuests_ok xs (by omega)) fun b2 hb2 => ?_
    obtain rfl := bool_of_iff hb1 hb2
    have done : Ok (fun k => laws_FnGuestsPart.j1 k m xs b1 b1 true) (· = true) := Ok.step (fun k => by simp only [laws_FnGuestsPart.j1]; rfl) (Ok.pos (show true = true from rfl) (Ok.ret (by simp)))
    refine Ok.neg (by simp) (Ok.ite (fun h => ?_) fun _ => done)
    have hv := hb1.1 h
    refine Ok.step (fun k => by simp only [laws_FnGuestsPart.j1]; rfl) (Ok.ite (fun _ => Ok.ret (by simp)) fun hne => ?_)
    have hpos : 0 < xs.length := by
      rcases Nat.eq_zero_or_pos xs.length with e | e
      · exact absurd (by rw [e]; rfl) hne
      · exact e
    obtain ⟨k, hk, hkl⟩ : ∃ k : Nat, (m.length : Int) % (xs.length : Int) = (k : Int) ∧ k < xs.length := ⟨m.length % xs.length, by simp, Nat.mod_lt _ hpos⟩
    rw [hk, wrap_id (n := (k : Int) + 1) (by omega) (by omega)]
    refine Ok.neg (by omega) (Ok.val (Ok.pos (by omega) (Ok.pos (by omega) (Ok.val (Ok.pos ?_ (Ok.val (Ok.pos (by omega) (Ok.pos (by omega) (Ok.val (Ok.pos ?_ (Ok.val (Ok.pos ?_ (Ok.val (Ok.pos ?_ ?_))))))))))))))
    · exact Nat.lt_of_le_of_lt (m := 20) (by simp; omega) (by decide)
    · exact Nat.lt_of_le_of_lt (m := 20) (by simp; omega) (by decide)
    · exact Nat.lt_of_le_of_lt (m := 20) (by simp; omega) (by decide)
    · simp; omega
    have e1 : ((k : Int)).toNat = k := by omega
    have e2 : ((k : Int) + 1).toNat = k + 1 := by omega
    simp only [e1, e2, List.nil_append]
    have hx := GV_skip xs hv k hkl
    refine Ok.bind (iGuests_ok _ (by simp; omega)) fun b3 hb3 => Ok.pos (hb3.2 hx) (Ok.bind (iGuests_ok _ (by simp; omega)) fun b4 hb4 => Ok.ret ?_)
    cases b4 with
    | false => rfl
    | true =>
      have := ((hb4.1 rfl).2 k (by simp; omega)).1
      unfold gAt at this
      rw [getD_set _ _ _ _ _ hkl, if_pos rfl] at this
      rw [gB_iff] at this
      simp only at this
      omega
  exact Ok.ite (fun _ => main true (fun _ => rfl)) (fun _ => main _ (fun h => decide_eq_true h))
end Go.Proofs.Ytgfclechgalpmaa.Pure
