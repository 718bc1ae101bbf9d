/- Guests: what GuestsValid, GuestMay and GuestsWho answer, in the program and in the reference. Condition: lists of at most 2,000,000 elements. -/
import Derived.Test.YtgfclechgalpmaaDiet
import Derived.Test.YtgfclechgalpmaaQx2
import Derived.Test.YtgfclechgalpmaaQx3
import Derived.Test.YtgfclechgalpmaaQx4
import Derived.Test.YtgfclechgalpmaaQx6
import Derived.Test.YtgfclechgalpmaaQx11
namespace Go.Proofs.Ytgfclechgalpmaa.Pure
open Go.RowKit Go.Proofs.YtgfclechgalpmaaW.PrintWords Go.Proofs.YtgfclechgalpmaaW.PrintLast Go.Proofs.Ytgfclechgalpmaa.Q
set_option linter.unusedVariables false
set_option linter.unusedSimpArgs false

def gB (a b c : Int) : Bool := inr a 1 99 && inr b 1 4 && inr c 0 255
theorem gB_iff (a b c : Int) : gB a b c = true ↔ (1 ≤ a ∧ a ≤ 99) ∧ (1 ≤ b ∧ b ≤ 4) ∧ 0 ≤ c ∧ c ≤ 255 := by simp [gB, inr_iff, and_assoc]
theorem sGuest_eq (a b c : Int) : spec_l12Guest.f a b c = some (gB a b c) := by
  unfold spec_l12Guest.f gB
  simp only [l6In_eq, l3Set_eq, Option.bind_some]
  cases inr a 1 99 <;> cases inr b 1 4 <;> rfl
theorem iGuest_eq (a b c : Int) : impl_guestValid.f a b c = some (gB a b c) := by
  unfold impl_guestValid.f gB
  simp only [within_eq, isSet_eq, Option.bind_some]
  cases inr a 1 99 <;> cases inr b 1 4 <;> rfl
def mayB (a b c s k : Int) : Bool := gB a b c && inr s 0 255 && decide (Go.bits .and .i64 c s = 0) && dietB b k
theorem iMay_eq (a b c s k : Int) : impl_GuestMay.f a b c s k = some (mayB a b c s k) := by
  unfold impl_GuestMay.f mayB
  simp only [iGuest_eq, isSet_eq, iDiet_eq, Option.bind_some]
  cases gB a b c <;> cases inr s 0 255 <;> by_cases h : Go.bits .and .i64 c s = 0 <;> simp [h]
theorem sMay_ok (a b c s k : Int) : Ok (fun n => spec_GuestMay.f n a b c s k) (· = mayB a b c s k) := by
  unfold spec_GuestMay.f mayB
  simp only [sGuest_eq, l3Set_eq, sDiet_eq, Option.bind_some]
  cases h1 : gB a b c with
  | false => exact Ok.neg (by simp) (Ok.ret (by simp))
  | true =>
    refine Ok.pos rfl ?_
    cases h2 : inr s 0 255 with
    | false => exact Ok.neg (by simp) (Ok.ret (by simp))
    | true =>
      refine Ok.pos rfl ?_
      cases h3 : dietB b k with
      | false => exact Ok.neg (by simp) (Ok.ret (by simp))
      | true =>
        refine Ok.pos rfl ?_
        obtain ⟨x, rfl, hx⟩ := set_nat ((gB_iff _ _ _).1 h1).2.2
        obtain ⟨y, rfl, hy⟩ := set_nat ((inr_iff _ _ _).1 h2)
        refine Ok.bind (meet_ok x y hx hy) ?_
        rintro _ rfl
        refine Ok.ret ?_
        rw [(bits_nat64 x y hx hy).1]
        simp only [Bool.true_and, Bool.and_true]
        rw [Bool.eq_iff_iff, decide_eq_true_iff, beq_iff_eq]
abbrev Gst := S30
def gAt (l : List Gst) (i : Nat) : Gst := l.getD i z30
theorem gAt_rd (l : List Gst) (i : Nat) : rd_T30 l (i : Int) = gAt l i := rfl
theorem gAt_prev (l : List Gst) (i : Nat) (h : 0 < i) : rd_T30 l ((i : Int) - 1) = gAt l (i - 1) := by
  unfold rd_T30 gAt
  rw [show ((i : Int) - 1).toNat = i - 1 by omega]
/-- element i is as it must be -/
def gGood (l : List Gst) (i : Nat) : Prop := gB (gAt l i).f0 (gAt l i).f1 (gAt l i).f2 = true ∧ (0 < i → (gAt l (i - 1)).f0 < (gAt l i).f0)
/-- guests are valid -/
def GV (l : List Gst) : Prop := l.length ≤ 10 ∧ ∀ i, i < l.length → gGood l i
theorem sGuests_ok (l : List Gst) (hl : l.length ≤ 2000000) : Ok (fun k => spec_GuestsValid.f k l) (fun r => r = true ↔ GV l) := by
  unfold spec_GuestsValid.f
  refine Ok.range (fun (_ : Unit) i k => spec_GuestsValid.l0 k l i) l.length (fun i _ => ∀ j, j < i → gGood l j) _ ?_ ?_ () (fun j hj => absurd hj (by omega))
  · intro i _ hi hinv ih
    have ew : wrap64 ((i : Int) + 1) = (i : Int) + 1 := wrap_id (by omega) (by omega)
    have ew' : wrap64 ((i : Int) - 1) = (i : Int) - 1 := wrap_id (by omega) (by omega)
    refine Ok.step (fun k => by simp only [spec_GuestsValid.l0]; rfl) (Ok.pos (by omega) (Ok.pos (by omega) ?_))
    simp only [sGuest_eq, Option.bind_some, ew, ew', gAt_rd]
    have bad : ¬ gGood l i → Ok (fun _ => some false) (fun r : Bool => r = true ↔ GV l) := fun h => Ok.ret (by
      constructor
      · intro h'; cases h'
      · intro h'; exact absurd (h'.2 i hi) h)
    have good : gGood l i → Ok (fun k => spec_GuestsValid.l0 k l ((i : Int) + 1)) (fun r : Bool => r = true ↔ GV l) := fun h => ih () (fun j hj => by
      rcases Nat.lt_succ_iff_lt_or_eq.1 hj with h1 | rfl
      · exact hinv j h1
      · exact h)
    refine Ok.ite (fun h1 => Ok.ite (fun h2 => ?_) (fun h2 => good ⟨h1, fun h => absurd h (by omega)⟩)) (fun h1 => bad fun h => h1 h.1)
    refine Ok.pos (by omega) (Ok.pos (by omega) ?_)
    simp only [gAt_prev l i (by omega)]
    refine Ok.ite (fun h3 => bad fun h => ?_) (fun h3 => good ⟨h1, fun _ => by omega⟩)
    have := h.2 (by omega)
    omega
  · intro _ hinv
    refine Ok.step (fun k => by simp only [spec_GuestsValid.l0]; rfl) (Ok.neg (by omega) (Ok.ret ?_))
    rw [decide_eq_true_iff]
    exact ⟨fun h => ⟨by omega, hinv⟩, fun h => by have := h.1; omega⟩
theorem iGuests_ok (l : List Gst) (hl : l.length ≤ 2000000) : Ok (fun k => impl_GuestsValid.f k l) (fun r => r = true ↔ GV l) := by
  unfold impl_GuestsValid.f
  refine Ok.range (fun (_ : Unit) i k => impl_GuestsValid.l0 k l l (l.length : Int) i) l.length (fun i _ => ∀ j, j < i → gGood l j) _ ?_ ?_ () (fun j hj => absurd hj (by omega))
  · intro i _ hi hinv ih
    have ew : wrap64 ((i : Int) + 1) = (i : Int) + 1 := wrap_id (by omega) (by omega)
    have ew' : wrap64 ((i : Int) - 1) = (i : Int) - 1 := wrap_id (by omega) (by omega)
    refine Ok.step (fun k => by simp only [impl_GuestsValid.l0]; rfl) (Ok.pos (by omega) (Ok.pos (by omega) (Ok.pos (by omega) ?_)))
    simp only [iGuest_eq, Option.bind_some, ew, ew', gAt_rd]
    have bad : ¬ gGood l i → Ok (fun _ => some false) (fun r : Bool => r = true ↔ GV l) := fun h => Ok.ret (by
      constructor
      · intro h'; cases h'
      · intro h'; exact absurd (h'.2 i hi) h)
    have good : gGood l i → Ok (fun k => impl_GuestsValid.l0 k l l (l.length : Int) ((i : Int) + 1)) (fun r : Bool => r = true ↔ GV l) := fun h => ih () (fun j hj => by
      rcases Nat.lt_succ_iff_lt_or_eq.1 hj with h1 | rfl
      · exact hinv j h1
      · exact h)
    refine Ok.ite (fun h1 => Ok.ite (fun h2 => ?_) (fun h2 => good ⟨h1, fun h => absurd h (by omega)⟩)) (fun h1 => bad fun h => h1 h.1)
    refine Ok.pos (by omega) (Ok.pos (by omega) ?_)
    simp only [gAt_prev l i (by omega)]
    refine Ok.ite (fun h3 => bad fun h => ?_) (fun h3 => good ⟨h1, fun _ => by omega⟩)
    have := h.2 (by omega)
    omega
  · intro _ hinv
    refine Ok.step (fun k => by simp only [impl_GuestsValid.l0]; rfl) (Ok.neg (by omega) (Ok.ret ?_))
    rw [decide_eq_true_iff]
    exact ⟨fun h => ⟨by omega, hinv⟩, fun h => by have := h.1; omega⟩
def gMay (s k : Int) (x : Gst) : Bool := mayB x.f0 x.f1 x.f2 s k
/-- whom GuestsWho lists, of the first i -/
def who (l : List Gst) (s k : Int) (i : Nat) : List Int := ((l.take i).filter (gMay s k)).map (·.f0)
theorem who_next (l : List Gst) (s k : Int) (i : Nat) (h : i < l.length) : who l s k (i + 1) = if gMay s k (gAt l i) = true then who l s k i ++ [(gAt l i).f0] else who l s k i := by
  unfold who
  rw [take_next z30 h, List.filter_append, List.map_append]
  by_cases hm : gMay s k (gAt l i) = true
  · have e : gMay s k (l.getD i z30) = true := hm
    rw [if_pos hm, List.filter_cons, if_pos e]; rfl
  · have e : ¬ gMay s k (l.getD i z30) = true := hm
    rw [if_neg hm, List.filter_cons, if_neg e]; simp
theorem who_len (l : List Gst) (s k : Int) (i : Nat) : (who l s k i).length ≤ l.length := by
  unfold who
  rw [List.length_map]
  refine Nat.le_trans (List.length_filter_le _ _) ?_
  rw [List.length_take]; omega
theorem iWho_ok (l : List Gst) (s k : Int) (hl : l.length ≤ 2000000) : Ok (fun n => impl_GuestsWho.f n l s k) (fun r => (GV l → r = who l s k l.length) ∧ (¬ GV l → r = [])) := by
  unfold impl_GuestsWho.f
  simp only [Option.bind_some]
  refine Ok.bind (iGuests_ok l hl) fun b hb => ?_
  refine Ok.ite (fun h => ?_) (fun h => Ok.ret ⟨fun h' => absurd (hb.2 h') h, fun _ => rfl⟩)
  refine Ok.range (fun (a : List Int) i n => impl_GuestsWho.l0 n s k a l (l.length : Int) i) l.length (fun i a => a = who l s k i) _ ?_ ?_ [] rfl
  · rintro i _ hi rfl ih
    have ew : wrap64 ((i : Int) + 1) = (i : Int) + 1 := wrap_id (by omega) (by omega)
    have hw := who_len l s k i
    refine Ok.step (fun k => by simp only [impl_GuestsWho.l0]; rfl) (Ok.pos (by omega) (Ok.pos (by omega) (Ok.pos (by omega) ?_)))
    simp only [iMay_eq, Option.bind_some, ew, gAt_rd]
    refine Ok.ite (fun h1 => Ok.pos (by omega) (ih _ ?_)) (fun h1 => ih _ ?_)
    · rw [who_next l s k i hi]; exact (if_pos h1).symm
    · rw [who_next l s k i hi]; exact (if_neg h1).symm
  · rintro _ rfl
    exact Ok.step (fun k => by simp only [impl_GuestsWho.l0]; rfl) (Ok.neg (by omega) (Ok.ret ⟨fun _ => rfl, fun h' => absurd (hb.1 h) h'⟩))
theorem sWho_ok (l : List Gst) (s k : Int) (hl : l.length ≤ 2000000) : Ok (fun n => spec_GuestsWho.f n l s k) (fun r => (GV l → r = who l s k l.length) ∧ (¬ GV l → r = [])) := by
  unfold spec_GuestsWho.f
  by_cases hv : GV l
  · refine Ok.range (fun (a : List Int) i n => spec_GuestsWho.l0 n l s k a i) l.length (fun i a => a = who l s k i) _ ?_ ?_ [] rfl
    · rintro i _ hi rfl ih
      have ew : wrap64 ((i : Int) + 1) = (i : Int) + 1 := wrap_id (by omega) (by omega)
      have hw := who_len l s k i
      refine Ok.step (fun k => by simp only [spec_GuestsWho.l0]; rfl) (Ok.pos (by omega) (Ok.bind (sGuests_ok l hl) fun b hb => ?_))
      refine Ok.step (fun k => by simp only [spec_GuestsWho.j1]; rfl) (Ok.pos (hb.2 hv) (Ok.pos (by omega) (Ok.pos (by omega) ?_)))
      simp only [gAt_rd]
      refine Ok.bind (sMay_ok _ _ _ _ _) ?_
      rintro _ rfl
      rw [ew]
      refine Ok.ite (fun h1 => Ok.pos (by omega) (ih _ ?_)) (fun h1 => ih _ ?_)
      · rw [who_next l s k i hi]; exact (if_pos h1).symm
      · rw [who_next l s k i hi]; exact (if_neg h1).symm
    · rintro _ rfl
      refine Ok.step (fun k => by simp only [spec_GuestsWho.l0]; rfl) (Ok.neg (by omega) ?_)
      exact Ok.step (fun k => by simp only [spec_GuestsWho.j1]; rfl) (Ok.neg (by simp) (Ok.ret ⟨fun _ => rfl, fun h' => absurd hv h'⟩))
  · refine Ok.step (fun k => by simp only [spec_GuestsWho.l0]; rfl) (Ok.ite (fun h => Ok.bind (sGuests_ok l hl) fun b hb => ?_) (fun h => ?_))
    · refine Ok.step (fun k => by simp only [spec_GuestsWho.j1]; rfl) (Ok.neg (fun h => hv (hb.1 h)) (Ok.ret ⟨fun h' => absurd h' hv, fun _ => rfl⟩))
    · exact Ok.step (fun k => by simp only [spec_GuestsWho.j1]; rfl) (Ok.neg (by simp) (Ok.ret ⟨fun h' => absurd h' hv, fun _ => rfl⟩))
end Go.Proofs.Ytgfclechgalpmaa.Pure
