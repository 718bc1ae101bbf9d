/- Ranges, and the bits of sets. No conditions. -/
import Derived.Test.YtgfclechgalpmaaOk
namespace Go.Proofs.Ytgfclechgalpmaa.Pure
open Go.RowKit Go.Proofs.YtgfclechgalpmaaW.PrintWords Go.Proofs.YtgfclechgalpmaaW.PrintLast
set_option linter.unusedVariables false
set_option linter.unusedSimpArgs false

def inr (a lo hi : Int) : Bool := decide (lo ≤ a ∧ a ≤ hi)
theorem inr_iff (a lo hi : Int) : inr a lo hi = true ↔ lo ≤ a ∧ a ≤ hi := by simp [inr]
theorem bits_nat64 (a b : Nat) (ha : a < 256) (hb : b < 256) : Go.bits .and .i64 (a : Int) (b : Int) = ((a &&& b : Nat) : Int) ∧ Go.bits .or .i64 (a : Int) (b : Int) = ((a ||| b : Nat) : Int) :=
  Go.bits_nat .i64 8 (by decide) (fun n h0 h1 => by rw [IntKind.wrap_i64]; omega) a b ha hb
theorem set_nat {a : Int} (h : 0 ≤ a ∧ a ≤ 255) : ∃ n : Nat, a = (n : Int) ∧ n < 256 := ⟨a.toNat, by omega, by omega⟩
end Go.Proofs.Ytgfclechgalpmaa.Pure
