/- Whom GuestsWho lists, in the program and in the reference. Condition: at most 2,000,000 guests. -/
import Derived.Test.YtgfclechgalpmaaGValid
import Derived.Test.YtgfclechgalpmaaGMay
import Derived.Test.YtgfclechgalpmaaQx25
namespace Go.Proofs.Ytgfclechgalpmaa.Pure
open Go.RowKit Go.Proofs.YtgfclechgalpmaaW.PrintWords Go.Proofs.YtgfclechgalpmaaW.PrintLast Go.Proofs.Ytgfclechgalpmaa.Q
set_option linter.unusedVariables false
set_option linter.unusedSimpArgs false

def gMay (s k : Int) (x : Gst) : Bool := mayB x.f0 x.f1 x.f2 s k
/-- whom GuestsWho lists, of the first i -/
def who (l : List Gst) (s k : Int) (i : Nat) : List Int := ((l.take i).filter (gMay s k)).map (·.f0)
theorem who_next (l : List Gst) (s k : Int) (i : Nat) (h : i < l.length) : who l s k (i + 1) = if gMay s k (gAt l i) = true then who l s k i ++ [(gAt l i).f0] else who l s k i := by
  unfold who
  rw [take_next z30 h, List.filter_append, List.map_append]
  by_cases hm : gMay s k (gAt l i) = true
  · have e : gMay s k (l.getD i z30) = true := hm
    rw [if_pos hm, List.filter_cons, if_pos e]; rfl
  · have e : ¬ gMay s k (l.getD i z30) = true := hm
    rw [if_neg hm, List.filter_cons, if_neg e]; simp
theorem who_len (l : List Gst) (s k : Int) (i : Nat) : (who l s k i).length ≤ l.length := by
  unfold who
  rw [List.length_map]
  refine Nat.le_trans (List.length_filter_le _ _) ?_
  rw [List.length_take]; omega
theorem iWho_ok (l : List Gst) (s k : Int) (hl : l.length ≤ 2000000) : Ok (fun n => impl_GuestsWho.f n l s k) (fun r => (GV l → r = who l s k l.length) ∧ (¬ GV l → r = [])) := by
  unfold impl_GuestsWho.f
  simp only [Option.bind_some]
  refine Ok.bind (iGuests_ok l hl) fun b hb => ?_
  refine Ok.ite (fun h => ?_) (fun h => Ok.ret ⟨fun h' => absurd (hb.2 h') h, fun _ => rfl⟩)
  refine Ok.range (fun (a : List Int) i n => impl_GuestsWho.l0 n s k a l (l.length : Int) i) l.length (fun i a => a = who l s k i) _ ?_ ?_ [] rfl
  · rintro i _ hi rfl ih
    have ew : wrap64 ((i : Int) + 1) = (i : Int) + 1 := wrap_id (by omega) (by omega)
    have hw := who_len l s k i
    refine Ok.step (fun k => by simp only [impl_GuestsWho.l0]; rfl) (Ok.pos (by omega) (Ok.pos (by omega) (Ok.pos (by omega) ?_)))
    simp only [iMay_eq, Option.bind_some, ew, gAt_rd]
    refine Ok.ite (fun h1 => Ok.pos (by omega) (ih _ ?_)) (fun h1 => ih _ ?_)
    · rw [who_next l s k i hi]; exact (if_pos h1).symm
    · rw [who_next l s k i hi]; exact (if_neg h1).symm
  · rintro _ rfl
    exact Ok.step (fun k => by simp only [impl_GuestsWho.l0]; rfl) (Ok.neg (by omega) (Ok.ret ⟨fun _ => rfl, fun h' => absurd (hb.1 h) h'⟩))
theorem sWho_ok (l : List Gst) (s k : Int) (hl : l.length ≤ 2000000) : Ok (fun n => spec_GuestsWho.f n l s k) (fun r => (GV l → r = who l s k l.length) ∧ (¬ GV l → r = [])) := by
  unfold spec_GuestsWho.f
  by_cases hv : GV l
  · refine Ok.range (fun (a : List Int) i n => spec_GuestsWho.l0 n l s k a i) l.length (fun i a => a = who l s k i) _ ?_ ?_ [] rfl
    · rintro i _ hi rfl ih
      have ew : wrap64 ((i : Int) + 1) = (i : Int) + 1 := wrap_id (by omega) (by omega)
      have hw := who_len l s k i
      refine Ok.step (fun k => by simp only [spec_GuestsWho.l0]; rfl) (Ok.pos (by omega) (Ok.bind (sGuests_ok l hl) fun b hb => ?_))
      refine Ok.step (fun k => by simp only [spec_GuestsWho.j1]; rfl) (Ok.pos (hb.2 hv) (Ok.pos (by omega) (Ok.pos (by omega) ?_)))
      simp only [gAt_rd]
      refine Ok.bind (sMay_ok _ _ _ _ _) ?_
      rintro _ rfl
      rw [ew]
      refine Ok.ite (fun h1 => Ok.pos (by omega) (ih _ ?_)) (fun h1 => ih _ ?_)
      · rw [who_next l s k i hi]; exact (if_pos h1).symm
      · rw [who_next l s k i hi]; exact (if_neg h1).symm
    · rintro _ rfl
      refine Ok.step (fun k => by simp only [spec_GuestsWho.l0]; rfl) (Ok.neg (by omega) ?_)
      exact Ok.step (fun k => by simp only [spec_GuestsWho.j1]; rfl) (Ok.neg (by simp) (Ok.ret ⟨fun _ => rfl, fun h' => absurd hv h'⟩))
  · refine Ok.step (fun k => by simp only [spec_GuestsWho.l0]; rfl) (Ok.ite (fun h => Ok.bind (sGuests_ok l hl) fun b hb => ?_) (fun h => ?_))
    · refine Ok.step (fun k => by simp only [spec_GuestsWho.j1]; rfl) (Ok.neg (fun h => hv (hb.1 h)) (Ok.ret ⟨fun h' => absurd h' hv, fun _ => rfl⟩))
    · exact Ok.step (fun k => by simp only [spec_GuestsWho.j1]; rfl) (Ok.neg (by simp) (Ok.ret ⟨fun h' => absurd h' hv, fun _ => rfl⟩))
end Go.Proofs.Ytgfclechgalpmaa.Pure
