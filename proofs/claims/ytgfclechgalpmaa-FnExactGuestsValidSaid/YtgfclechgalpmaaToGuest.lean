/- The laws' guests and the program's: copied field by field. Condition: at most 2,000,000. -/
import Derived.Test.YtgfclechgalpmaaInts0
import Derived.Test.YtgfclechgalpmaaQx13
namespace Go.Proofs.Ytgfclechgalpmaa.Pure
open Go.RowKit Go.Proofs.YtgfclechgalpmaaW.PrintWords Go.Proofs.YtgfclechgalpmaaW.PrintLast Go.Proofs.Ytgfclechgalpmaa.Q
set_option linter.unusedVariables false
set_option linter.unusedSimpArgs false

def cvGuest (x : S28) : S30 := ⟨x.f0, x.f1, x.f2⟩
theorem toGuestS_ok (l : List S28) (hl : l.length ≤ 2000000) : Ok (fun k => laws_toGuestS.f k l) (· = l.map cvGuest) := by
  unfold laws_toGuestS.f
  refine Ok.pos (by omega) (Ok.pos (Nat.le_trans (m := 2000000) (by omega) (by decide)) ?_)
  refine Ok.range (fun (s : List S30) i k => laws_toGuestS.l0 k l s i) l.length (fun i s => s.length = l.length ∧ ∀ j, j < i → s.getD j z30 = (l.map cvGuest).getD j z30) _ ?_ ?_ _ ⟨by simp, fun j hj => absurd hj (by omega)⟩
  · rintro i s hi ⟨h1, h2⟩ ih
    have ew : wrap64 ((i : Int) + 1) = (i : Int) + 1 := wrap_id (by omega) (by omega)
    refine Ok.step (fun k => by simp only [laws_toGuestS.l0]; rfl) (Ok.pos (by omega) (Ok.pos (by omega) ?_))
    simp only [laws_toGuest.f, Option.bind_some, ew]
    refine Ok.pos (by omega) (ih _ ⟨by simp [h1], fun j hj => ?_⟩)
    simp only [Int.toNat_natCast]
    rw [getD_set _ _ _ _ _ (by omega)]
    split
    · rename_i e; subst e
      rw [getD_at _ _ _ (by simp; omega), List.getElem_map]
      have e : rd_T28 l (j : Int) = l[j] := getD_at l z28 j (by omega)
      rw [e]; rfl
    · exact h2 j (by omega)
  · rintro s ⟨h1, h2⟩
    exact Ok.step (fun k => by simp only [laws_toGuestS.l0]; rfl) (Ok.neg (by omega) (Ok.ret (eq_of_getD z30 (by simp [h1]) (fun i hi => h2 i (by omega)))))
theorem szGuestS_eq (l : List S28) (a : Int) (h0 : 0 ≤ a) (h1 : a ≤ 9223372036854775807) (hl : l.length ≤ maxLen) : laws_szGuestS.f l a = some (if (l.length : Int) ≤ a then a - l.length else -1) := by
  unfold laws_szGuestS.f
  have := len_small hl
  rw [wrap_id (n := a - (l.length : Int)) (by omega) (by omega)]
  by_cases h : (l.length : Int) ≤ a
  · rw [if_neg (by omega), if_pos h]
  · rw [if_pos (by omega), if_neg h]
end Go.Proofs.Ytgfclechgalpmaa.Pure
