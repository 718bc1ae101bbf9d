/- Does a set have an allergen? Conditions: the set is in the range 0 to 255, the allergen at most 8. -/
import Derived.Test.YtgfclechgalpmaaWt
import Derived.Test.YtgfclechgalpmaaQx10
namespace Go.Proofs.Ytgfclechgalpmaa.Pure
open Go.RowKit Go.Proofs.YtgfclechgalpmaaW.PrintWords Go.Proofs.YtgfclechgalpmaaW.PrintLast Go.Proofs.Ytgfclechgalpmaa.Q
set_option linter.unusedVariables false
set_option linter.unusedSimpArgs false

theorem has_ok (a : Nat) (ha : a < 256) (i : Nat) (h : i ≤ 8) : Ok (fun k => spec_l3Has.f k (a : Int) (i : Int)) (· = a.testBit i) := by
  unfold spec_l3Has.f
  refine Ok.bind (weight_ok i h) ?_
  rintro _ rfl
  have hp := pow_le i h
  refine Ok.neg (by omega) (Ok.ret ?_)
  have e : ((2 : Int) ^ i) = ((2 ^ i : Nat) : Int) := by simp
  rw [e, Int.tdiv_eq_ediv_of_nonneg (by omega), ← Int.natCast_ediv]
  have hd : a / 2 ^ i ≤ a := Nat.div_le_self _ _
  generalize hq : a / 2 ^ i = q at hd
  rw [wrap_id (n := ((q : Nat) : Int)) (by omega) (by omega), Int.tmod_eq_emod_of_nonneg (by omega), Nat.testBit_eq_decide_div_mod_eq, hq]
  by_cases h1 : q % 2 = 1
  · rw [decide_eq_true h1, beq_iff_eq]; omega
  · rw [decide_eq_false h1, beq_eq_false_iff_ne]; omega
theorem mod_next (x i : Nat) : x % 2 ^ (i + 1) = x % 2 ^ i + (if x.testBit i = true then 2 ^ i else 0) := by
  rw [Nat.mod_pow_succ, Nat.testBit_eq_decide_div_mod_eq]
  have h := Nat.mod_two_eq_zero_or_one (x / 2 ^ i)
  rcases h with h | h <;> simp [h]
theorem cast_mod (x i : Nat) (hi : i ≤ 8) (hx : x < 256) : 0 ≤ ((x % 2 ^ i : Nat) : Int) ∧ ((x % 2 ^ i : Nat) : Int) ≤ 255 := by
  have := Nat.mod_le x (2 ^ i)
  omega
end Go.Proofs.Ytgfclechgalpmaa.Pure
