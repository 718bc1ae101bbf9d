/- The reference's common part of two sets. Conditions: sets in the range 0 to 255. -/
import Derived.Test.YtgfclechgalpmaaHas
import Derived.Test.YtgfclechgalpmaaQx10
namespace Go.Proofs.Ytgfclechgalpmaa.Pure
open Go.RowKit Go.Proofs.YtgfclechgalpmaaW.PrintWords Go.Proofs.YtgfclechgalpmaaW.PrintLast Go.Proofs.Ytgfclechgalpmaa.Q
set_option linter.unusedVariables false
set_option linter.unusedSimpArgs false

theorem meet_ok (a b : Nat) (ha : a < 256) (hb : b < 256) : Ok (fun k => spec_l3Meet.f k (a : Int) (b : Int)) (· = ((a &&& b : Nat) : Int)) := by
  unfold spec_l3Meet.f
  have hab : a &&& b < 256 := Nat.and_lt_two_pow (n := 8) _ hb
  refine Ok.range (fun (s : Int) i k => spec_l3Meet.l0 k (a : Int) (b : Int) s i) 8 (fun i s => s = (((a &&& b) % 2 ^ i : Nat) : Int)) _ ?_ ?_ 0 (by simp [Nat.mod_one])
  · rintro i _ hi rfl ih
    have hr := cast_mod (a &&& b) i (by omega) hab
    have hp := pow_le i (by omega)
    have hn := mod_next (a &&& b) i
    have ew : wrap64 ((i : Int) + 1) = (i : Int) + 1 := wrap_id (by omega) (by omega)
    rw [Nat.testBit_and] at hn
    refine Ok.step (fun k => by simp only [spec_l3Meet.l0]; rfl) (Ok.pos (by omega) (Ok.bind (has_ok a ha i (by omega)) ?_))
    rintro _ rfl
    cases h1 : a.testBit i with
    | false =>
      refine Ok.neg (by simp) ?_
      rw [ew]
      exact ih _ (by rw [hn, h1]; simp)
    | true =>
      refine Ok.pos rfl (Ok.bind (has_ok b hb i (by omega)) ?_)
      rintro _ rfl
      cases h2 : b.testBit i with
      | false =>
        refine Ok.neg (by simp) ?_
        rw [ew]
        exact ih _ (by rw [hn, h2]; simp)
      | true =>
        refine Ok.pos rfl (Ok.bind (weight_ok i (by omega)) ?_)
        rintro _ rfl
        rw [ew, wrap_id (n := _ + 2 ^ i) (by omega) (by omega)]
        exact ih _ (by rw [hn, h1, h2]; simp)
  · rintro _ rfl
    refine Ok.step (fun k => by simp only [spec_l3Meet.l0]; rfl) (Ok.neg (by omega) (Ok.ret ?_))
    rw [Nat.mod_eq_of_lt hab]
end Go.Proofs.Ytgfclechgalpmaa.Pure
