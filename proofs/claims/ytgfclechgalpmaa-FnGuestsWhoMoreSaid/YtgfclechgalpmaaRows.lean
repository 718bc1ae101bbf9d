/-
  No cell of these rows narrows 'for every input' (looked for: loops, veiled, ifaces, maps, wideKeys, modest, calm, conditions, laid).
  DERIVED. THE GIVEN ROWS OF THIS SEAT. 11 by the template 'for every input the law returns true; each argument reads behind the call as it read before'; 0 by the template 'total and deterministic' (their statements: YtgfclechgalpmaaTotals.lean).
  GIVEN WITH THE SEED: the statements are not yours to turn. If you find one false, say at which input.
  Laid BY PROGRAM, IN A SANDBOX (cutbox-rows.mjs): the forced cells as the released guide's own fill.sh prints them over the translation 2c81672775c83af6… (all of the seat's roots in one cut). By AI agents, Wed Nov 11 2026. No macro, syntax, notation, axiom, sorry.
-/
import Derived.Test.YtgfclechgalpmaaChecked
import GoSem.Claim
import GoSem.ClaimJoined
import GoSem.ClaimMapViews
import Derived.JoinedTies
import Derived.KernelRfl
namespace Go.Proofs.Ytgfclechgalpmaa
/- THE CELL 'sum', in the pinned program and in every row, IS THE sha256 OF THE DUMP (.gsa) THAT YtgfclechgalpmaaProg.lean LOADS. Nothing in Lean hashes anything: it is a label: what it is worth is what the hold of that sum in a sandbox is worth. -/
noncomputable def Try.pinned : Pinned := { name := "ytgfclechgalpmaa", sum := "2c81672775c83af62a02aed121c96cdeca79426ca16a157fa97dbc9a382e332c", checked := Try.checked }
namespace Rows
def none {H : Type} : Left H := { results := [], args := [] }

/-- 'laws.FnExactDietAllows': WHATEVER THE INPUT: true; the input reads as it did. -/
def fnExactDietAllowsSpec : ChangeSpec := { name := "fnExactDietAllows", fn := fun _ => fun
  | [d1, d2] => { results := [.lit (.bool true)], args := [d1, d2] }
  | _ => none }
def fnExactDietAllowsRow : OpenClaim := { program := "ytgfclechgalpmaa", sum := "2c81672775c83af62a02aed121c96cdeca79426ca16a157fa97dbc9a382e332c", func := "loop.example/messkitchen/laws.FnExactDietAllows", spec := "fnExactDietAllows", apart := false }
def FnExactDietAllowsSaid : Prop := fnExactDietAllowsRow.holds Try.pinned (OpenSpec.ofChange fnExactDietAllowsSpec)

/-- ITS FALSE NEIGHBOUR: 'it returns false'. Refute it at one input. -/
def fnExactDietAllowsWrong : ChangeSpec := { name := "fnExactDietAllows", fn := fun _ => fun
  | [d1, d2] => { results := [.lit (.bool false)], args := [d1, d2] }
  | _ => none }
def FnExactDietAllowsWrongFalsely : Prop := fnExactDietAllowsRow.holds Try.pinned (OpenSpec.ofChange fnExactDietAllowsWrong)

/-- 'laws.FnDiet': WHATEVER THE INPUT: true; the input reads as it did. -/
def fnDietSpec : ChangeSpec := { name := "fnDiet", fn := fun _ => fun
  | [d] => { results := [.lit (.bool true)], args := [d] }
  | _ => none }
def fnDietRow : OpenClaim := { program := "ytgfclechgalpmaa", sum := "2c81672775c83af62a02aed121c96cdeca79426ca16a157fa97dbc9a382e332c", func := "loop.example/messkitchen/laws.FnDiet", spec := "fnDiet", apart := false }
def FnDietSaid : Prop := fnDietRow.holds Try.pinned (OpenSpec.ofChange fnDietSpec)

/-- ITS FALSE NEIGHBOUR: 'it returns false'. Refute it at one input. -/
def fnDietWrong : ChangeSpec := { name := "fnDiet", fn := fun _ => fun
  | [d] => { results := [.lit (.bool false)], args := [d] }
  | _ => none }
def FnDietWrongFalsely : Prop := fnDietRow.holds Try.pinned (OpenSpec.ofChange fnDietWrong)

/-- 'laws.FnDietKinds': WHATEVER THE INPUT: true; the input reads as it did. -/
def fnDietKindsSpec : ChangeSpec := { name := "fnDietKinds", fn := fun _ => fun
  | [d] => { results := [.lit (.bool true)], args := [d] }
  | _ => none }
def fnDietKindsRow : OpenClaim := { program := "ytgfclechgalpmaa", sum := "2c81672775c83af62a02aed121c96cdeca79426ca16a157fa97dbc9a382e332c", func := "loop.example/messkitchen/laws.FnDietKinds", spec := "fnDietKinds", apart := false }
def FnDietKindsSaid : Prop := fnDietKindsRow.holds Try.pinned (OpenSpec.ofChange fnDietKindsSpec)

/-- ITS FALSE NEIGHBOUR: 'it returns false'. Refute it at one input. -/
def fnDietKindsWrong : ChangeSpec := { name := "fnDietKinds", fn := fun _ => fun
  | [d] => { results := [.lit (.bool false)], args := [d] }
  | _ => none }
def FnDietKindsWrongFalsely : Prop := fnDietKindsRow.holds Try.pinned (OpenSpec.ofChange fnDietKindsWrong)

/-- 'laws.FnExactGuestMay': WHATEVER THE INPUT: true; the input reads as it did. -/
def fnExactGuestMaySpec : ChangeSpec := { name := "fnExactGuestMay", fn := fun _ => fun
  | [d1, d2, d3] => { results := [.lit (.bool true)], args := [d1, d2, d3] }
  | _ => none }
def fnExactGuestMayRow : OpenClaim := { program := "ytgfclechgalpmaa", sum := "2c81672775c83af62a02aed121c96cdeca79426ca16a157fa97dbc9a382e332c", func := "loop.example/messkitchen/laws.FnExactGuestMay", spec := "fnExactGuestMay", apart := false }
def FnExactGuestMaySaid : Prop := fnExactGuestMayRow.holds Try.pinned (OpenSpec.ofChange fnExactGuestMaySpec)

/-- ITS FALSE NEIGHBOUR: 'it returns false'. Refute it at one input. -/
def fnExactGuestMayWrong : ChangeSpec := { name := "fnExactGuestMay", fn := fun _ => fun
  | [d1, d2, d3] => { results := [.lit (.bool false)], args := [d1, d2, d3] }
  | _ => none }
def FnExactGuestMayWrongFalsely : Prop := fnExactGuestMayRow.holds Try.pinned (OpenSpec.ofChange fnExactGuestMayWrong)

/-- 'laws.FnExactGuestsValid': WHATEVER THE INPUT: true; the input reads as it did. -/
def fnExactGuestsValidSpec : ChangeSpec := { name := "fnExactGuestsValid", fn := fun _ => fun
  | [d] => { results := [.lit (.bool true)], args := [d] }
  | _ => none }
def fnExactGuestsValidRow : OpenClaim := { program := "ytgfclechgalpmaa", sum := "2c81672775c83af62a02aed121c96cdeca79426ca16a157fa97dbc9a382e332c", func := "loop.example/messkitchen/laws.FnExactGuestsValid", spec := "fnExactGuestsValid", apart := false }
def FnExactGuestsValidSaid : Prop := fnExactGuestsValidRow.holds Try.pinned (OpenSpec.ofChange fnExactGuestsValidSpec)

/-- ITS FALSE NEIGHBOUR: 'it returns false'. Refute it at one input. -/
def fnExactGuestsValidWrong : ChangeSpec := { name := "fnExactGuestsValid", fn := fun _ => fun
  | [d] => { results := [.lit (.bool false)], args := [d] }
  | _ => none }
def FnExactGuestsValidWrongFalsely : Prop := fnExactGuestsValidRow.holds Try.pinned (OpenSpec.ofChange fnExactGuestsValidWrong)

/-- 'laws.FnGuestsPart': WHATEVER THE INPUT: true; the input reads as it did. -/
def fnGuestsPartSpec : ChangeSpec := { name := "fnGuestsPart", fn := fun _ => fun
  | [d1, d2] => { results := [.lit (.bool true)], args := [d1, d2] }
  | _ => none }
def fnGuestsPartRow : OpenClaim := { program := "ytgfclechgalpmaa", sum := "2c81672775c83af62a02aed121c96cdeca79426ca16a157fa97dbc9a382e332c", func := "loop.example/messkitchen/laws.FnGuestsPart", spec := "fnGuestsPart", apart := false }
def FnGuestsPartSaid : Prop := fnGuestsPartRow.holds Try.pinned (OpenSpec.ofChange fnGuestsPartSpec)

/-- ITS FALSE NEIGHBOUR: 'it returns false'. Refute it at one input. -/
def fnGuestsPartWrong : ChangeSpec := { name := "fnGuestsPart", fn := fun _ => fun
  | [d1, d2] => { results := [.lit (.bool false)], args := [d1, d2] }
  | _ => none }
def FnGuestsPartWrongFalsely : Prop := fnGuestsPartRow.holds Try.pinned (OpenSpec.ofChange fnGuestsPartWrong)

/-- 'laws.FnGuestMay': WHATEVER THE INPUT: true; the input reads as it did. -/
def fnGuestMaySpec : ChangeSpec := { name := "fnGuestMay", fn := fun _ => fun
  | [d] => { results := [.lit (.bool true)], args := [d] }
  | _ => none }
def fnGuestMayRow : OpenClaim := { program := "ytgfclechgalpmaa", sum := "2c81672775c83af62a02aed121c96cdeca79426ca16a157fa97dbc9a382e332c", func := "loop.example/messkitchen/laws.FnGuestMay", spec := "fnGuestMay", apart := false }
def FnGuestMaySaid : Prop := fnGuestMayRow.holds Try.pinned (OpenSpec.ofChange fnGuestMaySpec)

/-- ITS FALSE NEIGHBOUR: 'it returns false'. Refute it at one input. -/
def fnGuestMayWrong : ChangeSpec := { name := "fnGuestMay", fn := fun _ => fun
  | [d] => { results := [.lit (.bool false)], args := [d] }
  | _ => none }
def FnGuestMayWrongFalsely : Prop := fnGuestMayRow.holds Try.pinned (OpenSpec.ofChange fnGuestMayWrong)

/-- 'laws.FnGuestMayOnly': WHATEVER THE INPUT: true; the input reads as it did. -/
def fnGuestMayOnlySpec : ChangeSpec := { name := "fnGuestMayOnly", fn := fun _ => fun
  | [d] => { results := [.lit (.bool true)], args := [d] }
  | _ => none }
def fnGuestMayOnlyRow : OpenClaim := { program := "ytgfclechgalpmaa", sum := "2c81672775c83af62a02aed121c96cdeca79426ca16a157fa97dbc9a382e332c", func := "loop.example/messkitchen/laws.FnGuestMayOnly", spec := "fnGuestMayOnly", apart := false }
def FnGuestMayOnlySaid : Prop := fnGuestMayOnlyRow.holds Try.pinned (OpenSpec.ofChange fnGuestMayOnlySpec)

/-- ITS FALSE NEIGHBOUR: 'it returns false'. Refute it at one input. -/
def fnGuestMayOnlyWrong : ChangeSpec := { name := "fnGuestMayOnly", fn := fun _ => fun
  | [d] => { results := [.lit (.bool false)], args := [d] }
  | _ => none }
def FnGuestMayOnlyWrongFalsely : Prop := fnGuestMayOnlyRow.holds Try.pinned (OpenSpec.ofChange fnGuestMayOnlyWrong)

/-- 'laws.FnGuestsWho': WHATEVER THE INPUT: true; the input reads as it did. -/
def fnGuestsWhoSpec : ChangeSpec := { name := "fnGuestsWho", fn := fun _ => fun
  | [d] => { results := [.lit (.bool true)], args := [d] }
  | _ => none }
def fnGuestsWhoRow : OpenClaim := { program := "ytgfclechgalpmaa", sum := "2c81672775c83af62a02aed121c96cdeca79426ca16a157fa97dbc9a382e332c", func := "loop.example/messkitchen/laws.FnGuestsWho", spec := "fnGuestsWho", apart := false }
def FnGuestsWhoSaid : Prop := fnGuestsWhoRow.holds Try.pinned (OpenSpec.ofChange fnGuestsWhoSpec)

/-- ITS FALSE NEIGHBOUR: 'it returns false'. Refute it at one input. -/
def fnGuestsWhoWrong : ChangeSpec := { name := "fnGuestsWho", fn := fun _ => fun
  | [d] => { results := [.lit (.bool false)], args := [d] }
  | _ => none }
def FnGuestsWhoWrongFalsely : Prop := fnGuestsWhoRow.holds Try.pinned (OpenSpec.ofChange fnGuestsWhoWrong)

/-- 'laws.FnExactGuestsWho': WHATEVER THE INPUT: true; the input reads as it did. -/
def fnExactGuestsWhoSpec : ChangeSpec := { name := "fnExactGuestsWho", fn := fun _ => fun
  | [d1, d2, d3] => { results := [.lit (.bool true)], args := [d1, d2, d3] }
  | _ => none }
def fnExactGuestsWhoRow : OpenClaim := { program := "ytgfclechgalpmaa", sum := "2c81672775c83af62a02aed121c96cdeca79426ca16a157fa97dbc9a382e332c", func := "loop.example/messkitchen/laws.FnExactGuestsWho", spec := "fnExactGuestsWho", apart := false }
def FnExactGuestsWhoSaid : Prop := fnExactGuestsWhoRow.holds Try.pinned (OpenSpec.ofChange fnExactGuestsWhoSpec)

/-- ITS FALSE NEIGHBOUR: 'it returns false'. Refute it at one input. -/
def fnExactGuestsWhoWrong : ChangeSpec := { name := "fnExactGuestsWho", fn := fun _ => fun
  | [d1, d2, d3] => { results := [.lit (.bool false)], args := [d1, d2, d3] }
  | _ => none }
def FnExactGuestsWhoWrongFalsely : Prop := fnExactGuestsWhoRow.holds Try.pinned (OpenSpec.ofChange fnExactGuestsWhoWrong)

/-- 'laws.FnGuestsWhoMore': WHATEVER THE INPUT: true; the input reads as it did. -/
def fnGuestsWhoMoreSpec : ChangeSpec := { name := "fnGuestsWhoMore", fn := fun _ => fun
  | [d1, d2] => { results := [.lit (.bool true)], args := [d1, d2] }
  | _ => none }
def fnGuestsWhoMoreRow : OpenClaim := { program := "ytgfclechgalpmaa", sum := "2c81672775c83af62a02aed121c96cdeca79426ca16a157fa97dbc9a382e332c", func := "loop.example/messkitchen/laws.FnGuestsWhoMore", spec := "fnGuestsWhoMore", apart := false }
def FnGuestsWhoMoreSaid : Prop := fnGuestsWhoMoreRow.holds Try.pinned (OpenSpec.ofChange fnGuestsWhoMoreSpec)

/-- ITS FALSE NEIGHBOUR: 'it returns false'. Refute it at one input. -/
def fnGuestsWhoMoreWrong : ChangeSpec := { name := "fnGuestsWhoMore", fn := fun _ => fun
  | [d1, d2] => { results := [.lit (.bool false)], args := [d1, d2] }
  | _ => none }
def FnGuestsWhoMoreWrongFalsely : Prop := fnGuestsWhoMoreRow.holds Try.pinned (OpenSpec.ofChange fnGuestsWhoMoreWrong)

/- THE SECOND FORM. 'bulk': how many values and letters a reading holds, each counted each time it is reached (what is shared counts as often as it is met; a slice's spare places count too). A statement '..UptoSaid' is the law's where the arguments, and the package variables that the reading takes, are together of bulk at most 1048576: NARROWER than '..Said'. Prove '..Said' where nothing that the law and all that it calls make is longer than what came in: it says more and counts as full. Else prove '..UptoSaid'. A law counts once. -/
mutual
def uptoBulk {H : Type} : DataW H → Nat
  | .lit (.string bytes) => bytes.length + 1
  | .lit _ => 1
  | .nil => 1
  | .ptr d => uptoBulk d + 1
  | .slice elems spare => uptoBulkAll elems + uptoBulkAll spare + 1
  | .agg parts => uptoBulkAll parts + 1
  | .iface _ d => uptoBulk d + 1
  | .map entries => uptoBulkEntries entries + 1
  | .held _ => 1
def uptoBulkAll {H : Type} : List (DataW H) → Nat
  | [] => 0
  | d :: r => uptoBulk d + uptoBulkAll r
def uptoBulkEntries {H : Type} : List (Lit × DataW H) → Nat
  | [] => 0
  | x :: r => uptoBulkEntry x + uptoBulkEntries r
def uptoBulkEntry {H : Type} : Lit × DataW H → Nat
  | (.string bytes, d) => bytes.length + uptoBulk d + 1
  | (_, d) => uptoBulk d + 1
 end
def uptoSmall : (H : Type) → List (DataW H) → Bool := fun _ ds => decide (uptoBulkAll ds ≤ 1048576)
def OpenSpec.upto (s : _root_.Go.ChangeSpec) : _root_.Go.OpenSpec := { _root_.Go.OpenSpec.ofChange s with cond := some uptoSmall }

/-- 'laws.FnExactDietAllows', WHERE WHAT IT READS IS OF BULK AT MOST 1048576: true; the input reads as it did. -/
def fnExactDietAllowsUptoRow : OpenClaim := { program := "ytgfclechgalpmaa", sum := "2c81672775c83af62a02aed121c96cdeca79426ca16a157fa97dbc9a382e332c", func := "loop.example/messkitchen/laws.FnExactDietAllows", spec := "fnExactDietAllows", apart := false, narrowed := true }
def FnExactDietAllowsUptoSaid : Prop := fnExactDietAllowsUptoRow.holds Try.pinned (OpenSpec.upto fnExactDietAllowsSpec)

/-- 'laws.FnDiet', WHERE WHAT IT READS IS OF BULK AT MOST 1048576: true; the input reads as it did. -/
def fnDietUptoRow : OpenClaim := { program := "ytgfclechgalpmaa", sum := "2c81672775c83af62a02aed121c96cdeca79426ca16a157fa97dbc9a382e332c", func := "loop.example/messkitchen/laws.FnDiet", spec := "fnDiet", apart := false, narrowed := true }
def FnDietUptoSaid : Prop := fnDietUptoRow.holds Try.pinned (OpenSpec.upto fnDietSpec)

/-- 'laws.FnDietKinds', WHERE WHAT IT READS IS OF BULK AT MOST 1048576: true; the input reads as it did. -/
def fnDietKindsUptoRow : OpenClaim := { program := "ytgfclechgalpmaa", sum := "2c81672775c83af62a02aed121c96cdeca79426ca16a157fa97dbc9a382e332c", func := "loop.example/messkitchen/laws.FnDietKinds", spec := "fnDietKinds", apart := false, narrowed := true }
def FnDietKindsUptoSaid : Prop := fnDietKindsUptoRow.holds Try.pinned (OpenSpec.upto fnDietKindsSpec)

/-- 'laws.FnExactGuestMay', WHERE WHAT IT READS IS OF BULK AT MOST 1048576: true; the input reads as it did. -/
def fnExactGuestMayUptoRow : OpenClaim := { program := "ytgfclechgalpmaa", sum := "2c81672775c83af62a02aed121c96cdeca79426ca16a157fa97dbc9a382e332c", func := "loop.example/messkitchen/laws.FnExactGuestMay", spec := "fnExactGuestMay", apart := false, narrowed := true }
def FnExactGuestMayUptoSaid : Prop := fnExactGuestMayUptoRow.holds Try.pinned (OpenSpec.upto fnExactGuestMaySpec)

/-- 'laws.FnExactGuestsValid', WHERE WHAT IT READS IS OF BULK AT MOST 1048576: true; the input reads as it did. -/
def fnExactGuestsValidUptoRow : OpenClaim := { program := "ytgfclechgalpmaa", sum := "2c81672775c83af62a02aed121c96cdeca79426ca16a157fa97dbc9a382e332c", func := "loop.example/messkitchen/laws.FnExactGuestsValid", spec := "fnExactGuestsValid", apart := false, narrowed := true }
def FnExactGuestsValidUptoSaid : Prop := fnExactGuestsValidUptoRow.holds Try.pinned (OpenSpec.upto fnExactGuestsValidSpec)

/-- 'laws.FnGuestsPart', WHERE WHAT IT READS IS OF BULK AT MOST 1048576: true; the input reads as it did. -/
def fnGuestsPartUptoRow : OpenClaim := { program := "ytgfclechgalpmaa", sum := "2c81672775c83af62a02aed121c96cdeca79426ca16a157fa97dbc9a382e332c", func := "loop.example/messkitchen/laws.FnGuestsPart", spec := "fnGuestsPart", apart := false, narrowed := true }
def FnGuestsPartUptoSaid : Prop := fnGuestsPartUptoRow.holds Try.pinned (OpenSpec.upto fnGuestsPartSpec)

/-- 'laws.FnGuestMay', WHERE WHAT IT READS IS OF BULK AT MOST 1048576: true; the input reads as it did. -/
def fnGuestMayUptoRow : OpenClaim := { program := "ytgfclechgalpmaa", sum := "2c81672775c83af62a02aed121c96cdeca79426ca16a157fa97dbc9a382e332c", func := "loop.example/messkitchen/laws.FnGuestMay", spec := "fnGuestMay", apart := false, narrowed := true }
def FnGuestMayUptoSaid : Prop := fnGuestMayUptoRow.holds Try.pinned (OpenSpec.upto fnGuestMaySpec)

/-- 'laws.FnGuestMayOnly', WHERE WHAT IT READS IS OF BULK AT MOST 1048576: true; the input reads as it did. -/
def fnGuestMayOnlyUptoRow : OpenClaim := { program := "ytgfclechgalpmaa", sum := "2c81672775c83af62a02aed121c96cdeca79426ca16a157fa97dbc9a382e332c", func := "loop.example/messkitchen/laws.FnGuestMayOnly", spec := "fnGuestMayOnly", apart := false, narrowed := true }
def FnGuestMayOnlyUptoSaid : Prop := fnGuestMayOnlyUptoRow.holds Try.pinned (OpenSpec.upto fnGuestMayOnlySpec)

/-- 'laws.FnGuestsWho', WHERE WHAT IT READS IS OF BULK AT MOST 1048576: true; the input reads as it did. -/
def fnGuestsWhoUptoRow : OpenClaim := { program := "ytgfclechgalpmaa", sum := "2c81672775c83af62a02aed121c96cdeca79426ca16a157fa97dbc9a382e332c", func := "loop.example/messkitchen/laws.FnGuestsWho", spec := "fnGuestsWho", apart := false, narrowed := true }
def FnGuestsWhoUptoSaid : Prop := fnGuestsWhoUptoRow.holds Try.pinned (OpenSpec.upto fnGuestsWhoSpec)

/-- 'laws.FnExactGuestsWho', WHERE WHAT IT READS IS OF BULK AT MOST 1048576: true; the input reads as it did. -/
def fnExactGuestsWhoUptoRow : OpenClaim := { program := "ytgfclechgalpmaa", sum := "2c81672775c83af62a02aed121c96cdeca79426ca16a157fa97dbc9a382e332c", func := "loop.example/messkitchen/laws.FnExactGuestsWho", spec := "fnExactGuestsWho", apart := false, narrowed := true }
def FnExactGuestsWhoUptoSaid : Prop := fnExactGuestsWhoUptoRow.holds Try.pinned (OpenSpec.upto fnExactGuestsWhoSpec)

/-- 'laws.FnGuestsWhoMore', WHERE WHAT IT READS IS OF BULK AT MOST 1048576: true; the input reads as it did. -/
def fnGuestsWhoMoreUptoRow : OpenClaim := { program := "ytgfclechgalpmaa", sum := "2c81672775c83af62a02aed121c96cdeca79426ca16a157fa97dbc9a382e332c", func := "loop.example/messkitchen/laws.FnGuestsWhoMore", spec := "fnGuestsWhoMore", apart := false, narrowed := true }
def FnGuestsWhoMoreUptoSaid : Prop := fnGuestsWhoMoreUptoRow.holds Try.pinned (OpenSpec.upto fnGuestsWhoMoreSpec)

end Rows
end Go.Proofs.Ytgfclechgalpmaa
