/- When guests are valid, in the program and in the reference. Condition: at most 2,000,000. -/
import Derived.Test.YtgfclechgalpmaaGOne
import Derived.Test.YtgfclechgalpmaaQx14
import Derived.Test.YtgfclechgalpmaaQx15
namespace Go.Proofs.Ytgfclechgalpmaa.Pure
open Go.RowKit Go.Proofs.YtgfclechgalpmaaW.PrintWords Go.Proofs.YtgfclechgalpmaaW.PrintLast Go.Proofs.Ytgfclechgalpmaa.Q
set_option linter.unusedVariables false
set_option linter.unusedSimpArgs false

abbrev Gst := S30
def gAt (l : List Gst) (i : Nat) : Gst := l.getD i z30
theorem gAt_rd (l : List Gst) (i : Nat) : rd_T30 l (i : Int) = gAt l i := rfl
theorem gAt_prev (l : List Gst) (i : Nat) (h : 0 < i) : rd_T30 l ((i : Int) - 1) = gAt l (i - 1) := by
  unfold rd_T30 gAt
  rw [show ((i : Int) - 1).toNat = i - 1 by omega]
/-- element i is as it must be -/
def gGood (l : List Gst) (i : Nat) : Prop := gB (gAt l i).f0 (gAt l i).f1 (gAt l i).f2 = true ∧ (0 < i → (gAt l (i - 1)).f0 < (gAt l i).f0)
/-- guests are valid -/
def GV (l : List Gst) : Prop := l.length ≤ 10 ∧ ∀ i, i < l.length → gGood l i
theorem sGuests_ok (l : List Gst) (hl : l.length ≤ 2000000) : Ok (fun k => spec_GuestsValid.f k l) (fun r => r = true ↔ GV l) := by
  unfold spec_GuestsValid.f
  refine Ok.range (fun (_ : Unit) i k => spec_GuestsValid.l0 k l i) l.length (fun i _ => ∀ j, j < i → gGood l j) _ ?_ ?_ () (fun j hj => absurd hj (by omega))
  · intro i _ hi hinv ih
    have ew : wrap64 ((i : Int) + 1) = (i : Int) + 1 := wrap_id (by omega) (by omega)
    have ew' : wrap64 ((i : Int) - 1) = (i : Int) - 1 := wrap_id (by omega) (by omega)
    refine Ok.step (fun k => by simp only [spec_GuestsValid.l0]; rfl) (Ok.pos (by omega) (Ok.pos (by omega) ?_))
    simp only [sGuest_eq, Option.bind_some, ew, ew', gAt_rd]
    have bad : ¬ gGood l i → Ok (fun _ => some false) (fun r : Bool => r = true ↔ GV l) := fun h => Ok.ret (by
      constructor
      · intro h'; cases h'
      · intro h'; exact absurd (h'.2 i hi) h)
    have good : gGood l i → Ok (fun k => spec_GuestsValid.l0 k l ((i : Int) + 1)) (fun r : Bool => r = true ↔ GV l) := fun h => ih () (fun j hj => by
      rcases Nat.lt_succ_iff_lt_or_eq.1 hj with h1 | rfl
      · exact hinv j h1
      · exact h)
    refine Ok.ite (fun h1 => Ok.ite (fun h2 => ?_) (fun h2 => good ⟨h1, fun h => absurd h (by omega)⟩)) (fun h1 => bad fun h => h1 h.1)
    refine Ok.pos (by omega) (Ok.pos (by omega) ?_)
    simp only [gAt_prev l i (by omega)]
    refine Ok.ite (fun h3 => bad fun h => ?_) (fun h3 => good ⟨h1, fun _ => by omega⟩)
    have := h.2 (by omega)
    omega
  · intro _ hinv
    refine Ok.step (fun k => by simp only [spec_GuestsValid.l0]; rfl) (Ok.neg (by omega) (Ok.ret ?_))
    rw [decide_eq_true_iff]
    exact ⟨fun h => ⟨by omega, hinv⟩, fun h => by have := h.1; omega⟩
theorem iGuests_ok (l : List Gst) (hl : l.length ≤ 2000000) : Ok (fun k => impl_GuestsValid.f k l) (fun r => r = true ↔ GV l) := by
  unfold impl_GuestsValid.f
  refine Ok.range (fun (_ : Unit) i k => impl_GuestsValid.l0 k l l (l.length : Int) i) l.length (fun i _ => ∀ j, j < i → gGood l j) _ ?_ ?_ () (fun j hj => absurd hj (by omega))
  · intro i _ hi hinv ih
    have ew : wrap64 ((i : Int) + 1) = (i : Int) + 1 := wrap_id (by omega) (by omega)
    have ew' : wrap64 ((i : Int) - 1) = (i : Int) - 1 := wrap_id (by omega) (by omega)
    refine Ok.step (fun k => by simp only [impl_GuestsValid.l0]; rfl) (Ok.pos (by omega) (Ok.pos (by omega) (Ok.pos (by omega) ?_)))
    simp only [iGuest_eq, Option.bind_some, ew, ew', gAt_rd]
    have bad : ¬ gGood l i → Ok (fun _ => some false) (fun r : Bool => r = true ↔ GV l) := fun h => Ok.ret (by
      constructor
      · intro h'; cases h'
      · intro h'; exact absurd (h'.2 i hi) h)
    have good : gGood l i → Ok (fun k => impl_GuestsValid.l0 k l l (l.length : Int) ((i : Int) + 1)) (fun r : Bool => r = true ↔ GV l) := fun h => ih () (fun j hj => by
      rcases Nat.lt_succ_iff_lt_or_eq.1 hj with h1 | rfl
      · exact hinv j h1
      · exact h)
    refine Ok.ite (fun h1 => Ok.ite (fun h2 => ?_) (fun h2 => good ⟨h1, fun h => absurd h (by omega)⟩)) (fun h1 => bad fun h => h1 h.1)
    refine Ok.pos (by omega) (Ok.pos (by omega) ?_)
    simp only [gAt_prev l i (by omega)]
    refine Ok.ite (fun h3 => bad fun h => ?_) (fun h3 => good ⟨h1, fun _ => by omega⟩)
    have := h.2 (by omega)
    omega
  · intro _ hinv
    refine Ok.step (fun k => by simp only [impl_GuestsValid.l0]; rfl) (Ok.neg (by omega) (Ok.ret ?_))
    rw [decide_eq_true_iff]
    exact ⟨fun h => ⟨by omega, hinv⟩, fun h => by have := h.1; omega⟩
end Go.Proofs.Ytgfclechgalpmaa.Pure
