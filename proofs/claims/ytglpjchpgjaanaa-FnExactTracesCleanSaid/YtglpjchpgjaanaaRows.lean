/-
  No cell of these rows narrows 'for every input' (looked for: loops, veiled, ifaces, maps, wideKeys, modest, calm, conditions, laid).
  DERIVED. THE GIVEN ROWS OF THIS SEAT. 11 by the template 'for every input the law returns true; each argument reads behind the call as it read before'; 0 by the template 'total and deterministic' (their statements: YtglpjchpgjaanaaTotals.lean).
  GIVEN WITH THE SEED: the statements are not yours to turn. If you find one false, say at which input.
  Laid BY PROGRAM, IN A SANDBOX (cutbox-rows.mjs): the forced cells as the released guide's own fill.sh prints them over the translation 263afa0ab675b752… (all of the seat's roots in one cut). By AI agents, Wed Nov 11 2026. No macro, syntax, notation, axiom, sorry.
-/
import Derived.Test.YtglpjchpgjaanaaChecked
import GoSem.Claim
import GoSem.ClaimJoined
import GoSem.ClaimMapViews
import Derived.JoinedTies
import Derived.KernelRfl
namespace Go.Proofs.Ytglpjchpgjaanaa
/- THE CELL 'sum', in the pinned program and in every row, IS THE sha256 OF THE DUMP (.gsa) THAT YtglpjchpgjaanaaProg.lean LOADS. Nothing in Lean hashes anything: it is a label: what it is worth is what the hold of that sum in a sandbox is worth. -/
noncomputable def Try.pinned : Pinned := { name := "ytglpjchpgjaanaa", sum := "263afa0ab675b7521748569f572481a410690db3a44aeb87ff0ac6b6b738a774", checked := Try.checked }
namespace Rows
def none {H : Type} : Left H := { results := [], args := [] }

/-- 'laws.FnExactUsesValid': WHATEVER THE INPUT: true; the input reads as it did. -/
def fnExactUsesValidSpec : ChangeSpec := { name := "fnExactUsesValid", fn := fun _ => fun
  | [d] => { results := [.lit (.bool true)], args := [d] }
  | _ => none }
def fnExactUsesValidRow : OpenClaim := { program := "ytglpjchpgjaanaa", sum := "263afa0ab675b7521748569f572481a410690db3a44aeb87ff0ac6b6b738a774", func := "loop.example/messkitchen/laws.FnExactUsesValid", spec := "fnExactUsesValid", apart := false }
def FnExactUsesValidSaid : Prop := fnExactUsesValidRow.holds Try.pinned (OpenSpec.ofChange fnExactUsesValidSpec)

/-- ITS FALSE NEIGHBOUR: 'it returns false'. Refute it at one input. -/
def fnExactUsesValidWrong : ChangeSpec := { name := "fnExactUsesValid", fn := fun _ => fun
  | [d] => { results := [.lit (.bool false)], args := [d] }
  | _ => none }
def FnExactUsesValidWrongFalsely : Prop := fnExactUsesValidRow.holds Try.pinned (OpenSpec.ofChange fnExactUsesValidWrong)

/-- 'laws.FnExactTracesLeft': WHATEVER THE INPUT: true; the input reads as it did. -/
def fnExactTracesLeftSpec : ChangeSpec := { name := "fnExactTracesLeft", fn := fun _ => fun
  | [d1, d2] => { results := [.lit (.bool true)], args := [d1, d2] }
  | _ => none }
def fnExactTracesLeftRow : OpenClaim := { program := "ytglpjchpgjaanaa", sum := "263afa0ab675b7521748569f572481a410690db3a44aeb87ff0ac6b6b738a774", func := "loop.example/messkitchen/laws.FnExactTracesLeft", spec := "fnExactTracesLeft", apart := false }
def FnExactTracesLeftSaid : Prop := fnExactTracesLeftRow.holds Try.pinned (OpenSpec.ofChange fnExactTracesLeftSpec)

/-- ITS FALSE NEIGHBOUR: 'it returns false'. Refute it at one input. -/
def fnExactTracesLeftWrong : ChangeSpec := { name := "fnExactTracesLeft", fn := fun _ => fun
  | [d1, d2] => { results := [.lit (.bool false)], args := [d1, d2] }
  | _ => none }
def FnExactTracesLeftWrongFalsely : Prop := fnExactTracesLeftRow.holds Try.pinned (OpenSpec.ofChange fnExactTracesLeftWrong)

/-- 'laws.FnTracesBegin': WHATEVER THE INPUT: true; the input reads as it did. -/
def fnTracesBeginSpec : ChangeSpec := { name := "fnTracesBegin", fn := fun _ => fun
  | [d1, d2] => { results := [.lit (.bool true)], args := [d1, d2] }
  | _ => none }
def fnTracesBeginRow : OpenClaim := { program := "ytglpjchpgjaanaa", sum := "263afa0ab675b7521748569f572481a410690db3a44aeb87ff0ac6b6b738a774", func := "loop.example/messkitchen/laws.FnTracesBegin", spec := "fnTracesBegin", apart := false }
def FnTracesBeginSaid : Prop := fnTracesBeginRow.holds Try.pinned (OpenSpec.ofChange fnTracesBeginSpec)

/-- ITS FALSE NEIGHBOUR: 'it returns false'. Refute it at one input. -/
def fnTracesBeginWrong : ChangeSpec := { name := "fnTracesBegin", fn := fun _ => fun
  | [d1, d2] => { results := [.lit (.bool false)], args := [d1, d2] }
  | _ => none }
def FnTracesBeginWrongFalsely : Prop := fnTracesBeginRow.holds Try.pinned (OpenSpec.ofChange fnTracesBeginWrong)

/-- 'laws.FnTracesLeft': WHATEVER THE INPUT: true; the input reads as it did. -/
def fnTracesLeftSpec : ChangeSpec := { name := "fnTracesLeft", fn := fun _ => fun
  | [d] => { results := [.lit (.bool true)], args := [d] }
  | _ => none }
def fnTracesLeftRow : OpenClaim := { program := "ytglpjchpgjaanaa", sum := "263afa0ab675b7521748569f572481a410690db3a44aeb87ff0ac6b6b738a774", func := "loop.example/messkitchen/laws.FnTracesLeft", spec := "fnTracesLeft", apart := false }
def FnTracesLeftSaid : Prop := fnTracesLeftRow.holds Try.pinned (OpenSpec.ofChange fnTracesLeftSpec)

/-- ITS FALSE NEIGHBOUR: 'it returns false'. Refute it at one input. -/
def fnTracesLeftWrong : ChangeSpec := { name := "fnTracesLeft", fn := fun _ => fun
  | [d] => { results := [.lit (.bool false)], args := [d] }
  | _ => none }
def FnTracesLeftWrongFalsely : Prop := fnTracesLeftRow.holds Try.pinned (OpenSpec.ofChange fnTracesLeftWrong)

/-- 'laws.FnTraces': WHATEVER THE INPUT: true; the input reads as it did. -/
def fnTracesSpec : ChangeSpec := { name := "fnTraces", fn := fun _ => fun
  | [d] => { results := [.lit (.bool true)], args := [d] }
  | _ => none }
def fnTracesRow : OpenClaim := { program := "ytglpjchpgjaanaa", sum := "263afa0ab675b7521748569f572481a410690db3a44aeb87ff0ac6b6b738a774", func := "loop.example/messkitchen/laws.FnTraces", spec := "fnTraces", apart := false }
def FnTracesSaid : Prop := fnTracesRow.holds Try.pinned (OpenSpec.ofChange fnTracesSpec)

/-- ITS FALSE NEIGHBOUR: 'it returns false'. Refute it at one input. -/
def fnTracesWrong : ChangeSpec := { name := "fnTraces", fn := fun _ => fun
  | [d] => { results := [.lit (.bool false)], args := [d] }
  | _ => none }
def FnTracesWrongFalsely : Prop := fnTracesRow.holds Try.pinned (OpenSpec.ofChange fnTracesWrong)

/-- 'laws.FnTracesLess': WHATEVER THE INPUT: true; the input reads as it did. -/
def fnTracesLessSpec : ChangeSpec := { name := "fnTracesLess", fn := fun _ => fun
  | [d1, d2] => { results := [.lit (.bool true)], args := [d1, d2] }
  | _ => none }
def fnTracesLessRow : OpenClaim := { program := "ytglpjchpgjaanaa", sum := "263afa0ab675b7521748569f572481a410690db3a44aeb87ff0ac6b6b738a774", func := "loop.example/messkitchen/laws.FnTracesLess", spec := "fnTracesLess", apart := false }
def FnTracesLessSaid : Prop := fnTracesLessRow.holds Try.pinned (OpenSpec.ofChange fnTracesLessSpec)

/-- ITS FALSE NEIGHBOUR: 'it returns false'. Refute it at one input. -/
def fnTracesLessWrong : ChangeSpec := { name := "fnTracesLess", fn := fun _ => fun
  | [d1, d2] => { results := [.lit (.bool false)], args := [d1, d2] }
  | _ => none }
def FnTracesLessWrongFalsely : Prop := fnTracesLessRow.holds Try.pinned (OpenSpec.ofChange fnTracesLessWrong)

/-- 'laws.FnExactTracesOf': WHATEVER THE INPUT: true; the input reads as it did. -/
def fnExactTracesOfSpec : ChangeSpec := { name := "fnExactTracesOf", fn := fun _ => fun
  | [d] => { results := [.lit (.bool true)], args := [d] }
  | _ => none }
def fnExactTracesOfRow : OpenClaim := { program := "ytglpjchpgjaanaa", sum := "263afa0ab675b7521748569f572481a410690db3a44aeb87ff0ac6b6b738a774", func := "loop.example/messkitchen/laws.FnExactTracesOf", spec := "fnExactTracesOf", apart := false }
def FnExactTracesOfSaid : Prop := fnExactTracesOfRow.holds Try.pinned (OpenSpec.ofChange fnExactTracesOfSpec)

/-- ITS FALSE NEIGHBOUR: 'it returns false'. Refute it at one input. -/
def fnExactTracesOfWrong : ChangeSpec := { name := "fnExactTracesOf", fn := fun _ => fun
  | [d] => { results := [.lit (.bool false)], args := [d] }
  | _ => none }
def FnExactTracesOfWrongFalsely : Prop := fnExactTracesOfRow.holds Try.pinned (OpenSpec.ofChange fnExactTracesOfWrong)

/-- 'laws.FnTracesClean': WHATEVER THE INPUT: true; the input reads as it did. -/
def fnTracesCleanSpec : ChangeSpec := { name := "fnTracesClean", fn := fun _ => fun
  | [d] => { results := [.lit (.bool true)], args := [d] }
  | _ => none }
def fnTracesCleanRow : OpenClaim := { program := "ytglpjchpgjaanaa", sum := "263afa0ab675b7521748569f572481a410690db3a44aeb87ff0ac6b6b738a774", func := "loop.example/messkitchen/laws.FnTracesClean", spec := "fnTracesClean", apart := false }
def FnTracesCleanSaid : Prop := fnTracesCleanRow.holds Try.pinned (OpenSpec.ofChange fnTracesCleanSpec)

/-- ITS FALSE NEIGHBOUR: 'it returns false'. Refute it at one input. -/
def fnTracesCleanWrong : ChangeSpec := { name := "fnTracesClean", fn := fun _ => fun
  | [d] => { results := [.lit (.bool false)], args := [d] }
  | _ => none }
def FnTracesCleanWrongFalsely : Prop := fnTracesCleanRow.holds Try.pinned (OpenSpec.ofChange fnTracesCleanWrong)

/-- 'laws.FnTracesCleanFew': WHATEVER THE INPUT: true; the input reads as it did. -/
def fnTracesCleanFewSpec : ChangeSpec := { name := "fnTracesCleanFew", fn := fun _ => fun
  | [d] => { results := [.lit (.bool true)], args := [d] }
  | _ => none }
def fnTracesCleanFewRow : OpenClaim := { program := "ytglpjchpgjaanaa", sum := "263afa0ab675b7521748569f572481a410690db3a44aeb87ff0ac6b6b738a774", func := "loop.example/messkitchen/laws.FnTracesCleanFew", spec := "fnTracesCleanFew", apart := false }
def FnTracesCleanFewSaid : Prop := fnTracesCleanFewRow.holds Try.pinned (OpenSpec.ofChange fnTracesCleanFewSpec)

/-- ITS FALSE NEIGHBOUR: 'it returns false'. Refute it at one input. -/
def fnTracesCleanFewWrong : ChangeSpec := { name := "fnTracesCleanFew", fn := fun _ => fun
  | [d] => { results := [.lit (.bool false)], args := [d] }
  | _ => none }
def FnTracesCleanFewWrongFalsely : Prop := fnTracesCleanFewRow.holds Try.pinned (OpenSpec.ofChange fnTracesCleanFewWrong)

/-- 'laws.FnTracesCleanLess': WHATEVER THE INPUT: true; the input reads as it did. -/
def fnTracesCleanLessSpec : ChangeSpec := { name := "fnTracesCleanLess", fn := fun _ => fun
  | [d1, d2] => { results := [.lit (.bool true)], args := [d1, d2] }
  | _ => none }
def fnTracesCleanLessRow : OpenClaim := { program := "ytglpjchpgjaanaa", sum := "263afa0ab675b7521748569f572481a410690db3a44aeb87ff0ac6b6b738a774", func := "loop.example/messkitchen/laws.FnTracesCleanLess", spec := "fnTracesCleanLess", apart := false }
def FnTracesCleanLessSaid : Prop := fnTracesCleanLessRow.holds Try.pinned (OpenSpec.ofChange fnTracesCleanLessSpec)

/-- ITS FALSE NEIGHBOUR: 'it returns false'. Refute it at one input. -/
def fnTracesCleanLessWrong : ChangeSpec := { name := "fnTracesCleanLess", fn := fun _ => fun
  | [d1, d2] => { results := [.lit (.bool false)], args := [d1, d2] }
  | _ => none }
def FnTracesCleanLessWrongFalsely : Prop := fnTracesCleanLessRow.holds Try.pinned (OpenSpec.ofChange fnTracesCleanLessWrong)

/-- 'laws.FnExactTracesClean': WHATEVER THE INPUT: true; the input reads as it did. -/
def fnExactTracesCleanSpec : ChangeSpec := { name := "fnExactTracesClean", fn := fun _ => fun
  | [d1, d2] => { results := [.lit (.bool true)], args := [d1, d2] }
  | _ => none }
def fnExactTracesCleanRow : OpenClaim := { program := "ytglpjchpgjaanaa", sum := "263afa0ab675b7521748569f572481a410690db3a44aeb87ff0ac6b6b738a774", func := "loop.example/messkitchen/laws.FnExactTracesClean", spec := "fnExactTracesClean", apart := false }
def FnExactTracesCleanSaid : Prop := fnExactTracesCleanRow.holds Try.pinned (OpenSpec.ofChange fnExactTracesCleanSpec)

/-- ITS FALSE NEIGHBOUR: 'it returns false'. Refute it at one input. -/
def fnExactTracesCleanWrong : ChangeSpec := { name := "fnExactTracesClean", fn := fun _ => fun
  | [d1, d2] => { results := [.lit (.bool false)], args := [d1, d2] }
  | _ => none }
def FnExactTracesCleanWrongFalsely : Prop := fnExactTracesCleanRow.holds Try.pinned (OpenSpec.ofChange fnExactTracesCleanWrong)

/- THE SECOND FORM. 'bulk': how many values and letters a reading holds, each counted each time it is reached (what is shared counts as often as it is met; a slice's spare places count too). A statement '..UptoSaid' is the law's where the arguments, and the package variables that the reading takes, are together of bulk at most 1048576: NARROWER than '..Said'. Prove '..Said' where nothing that the law and all that it calls make is longer than what came in: it says more and counts as full. Else prove '..UptoSaid'. A law counts once. -/
mutual
def uptoBulk {H : Type} : DataW H → Nat
  | .lit (.string bytes) => bytes.length + 1
  | .lit _ => 1
  | .nil => 1
  | .ptr d => uptoBulk d + 1
  | .slice elems spare => uptoBulkAll elems + uptoBulkAll spare + 1
  | .agg parts => uptoBulkAll parts + 1
  | .iface _ d => uptoBulk d + 1
  | .map entries => uptoBulkEntries entries + 1
  | .held _ => 1
def uptoBulkAll {H : Type} : List (DataW H) → Nat
  | [] => 0
  | d :: r => uptoBulk d + uptoBulkAll r
def uptoBulkEntries {H : Type} : List (Lit × DataW H) → Nat
  | [] => 0
  | x :: r => uptoBulkEntry x + uptoBulkEntries r
def uptoBulkEntry {H : Type} : Lit × DataW H → Nat
  | (.string bytes, d) => bytes.length + uptoBulk d + 1
  | (_, d) => uptoBulk d + 1
 end
def uptoSmall : (H : Type) → List (DataW H) → Bool := fun _ ds => decide (uptoBulkAll ds ≤ 1048576)
def OpenSpec.upto (s : _root_.Go.ChangeSpec) : _root_.Go.OpenSpec := { _root_.Go.OpenSpec.ofChange s with cond := some uptoSmall }

/-- 'laws.FnExactUsesValid', WHERE WHAT IT READS IS OF BULK AT MOST 1048576: true; the input reads as it did. -/
def fnExactUsesValidUptoRow : OpenClaim := { program := "ytglpjchpgjaanaa", sum := "263afa0ab675b7521748569f572481a410690db3a44aeb87ff0ac6b6b738a774", func := "loop.example/messkitchen/laws.FnExactUsesValid", spec := "fnExactUsesValid", apart := false, narrowed := true }
def FnExactUsesValidUptoSaid : Prop := fnExactUsesValidUptoRow.holds Try.pinned (OpenSpec.upto fnExactUsesValidSpec)

/-- 'laws.FnExactTracesLeft', WHERE WHAT IT READS IS OF BULK AT MOST 1048576: true; the input reads as it did. -/
def fnExactTracesLeftUptoRow : OpenClaim := { program := "ytglpjchpgjaanaa", sum := "263afa0ab675b7521748569f572481a410690db3a44aeb87ff0ac6b6b738a774", func := "loop.example/messkitchen/laws.FnExactTracesLeft", spec := "fnExactTracesLeft", apart := false, narrowed := true }
def FnExactTracesLeftUptoSaid : Prop := fnExactTracesLeftUptoRow.holds Try.pinned (OpenSpec.upto fnExactTracesLeftSpec)

/-- 'laws.FnTracesBegin', WHERE WHAT IT READS IS OF BULK AT MOST 1048576: true; the input reads as it did. -/
def fnTracesBeginUptoRow : OpenClaim := { program := "ytglpjchpgjaanaa", sum := "263afa0ab675b7521748569f572481a410690db3a44aeb87ff0ac6b6b738a774", func := "loop.example/messkitchen/laws.FnTracesBegin", spec := "fnTracesBegin", apart := false, narrowed := true }
def FnTracesBeginUptoSaid : Prop := fnTracesBeginUptoRow.holds Try.pinned (OpenSpec.upto fnTracesBeginSpec)

/-- 'laws.FnTracesLeft', WHERE WHAT IT READS IS OF BULK AT MOST 1048576: true; the input reads as it did. -/
def fnTracesLeftUptoRow : OpenClaim := { program := "ytglpjchpgjaanaa", sum := "263afa0ab675b7521748569f572481a410690db3a44aeb87ff0ac6b6b738a774", func := "loop.example/messkitchen/laws.FnTracesLeft", spec := "fnTracesLeft", apart := false, narrowed := true }
def FnTracesLeftUptoSaid : Prop := fnTracesLeftUptoRow.holds Try.pinned (OpenSpec.upto fnTracesLeftSpec)

/-- 'laws.FnTraces', WHERE WHAT IT READS IS OF BULK AT MOST 1048576: true; the input reads as it did. -/
def fnTracesUptoRow : OpenClaim := { program := "ytglpjchpgjaanaa", sum := "263afa0ab675b7521748569f572481a410690db3a44aeb87ff0ac6b6b738a774", func := "loop.example/messkitchen/laws.FnTraces", spec := "fnTraces", apart := false, narrowed := true }
def FnTracesUptoSaid : Prop := fnTracesUptoRow.holds Try.pinned (OpenSpec.upto fnTracesSpec)

/-- 'laws.FnTracesLess', WHERE WHAT IT READS IS OF BULK AT MOST 1048576: true; the input reads as it did. -/
def fnTracesLessUptoRow : OpenClaim := { program := "ytglpjchpgjaanaa", sum := "263afa0ab675b7521748569f572481a410690db3a44aeb87ff0ac6b6b738a774", func := "loop.example/messkitchen/laws.FnTracesLess", spec := "fnTracesLess", apart := false, narrowed := true }
def FnTracesLessUptoSaid : Prop := fnTracesLessUptoRow.holds Try.pinned (OpenSpec.upto fnTracesLessSpec)

/-- 'laws.FnExactTracesOf', WHERE WHAT IT READS IS OF BULK AT MOST 1048576: true; the input reads as it did. -/
def fnExactTracesOfUptoRow : OpenClaim := { program := "ytglpjchpgjaanaa", sum := "263afa0ab675b7521748569f572481a410690db3a44aeb87ff0ac6b6b738a774", func := "loop.example/messkitchen/laws.FnExactTracesOf", spec := "fnExactTracesOf", apart := false, narrowed := true }
def FnExactTracesOfUptoSaid : Prop := fnExactTracesOfUptoRow.holds Try.pinned (OpenSpec.upto fnExactTracesOfSpec)

/-- 'laws.FnTracesClean', WHERE WHAT IT READS IS OF BULK AT MOST 1048576: true; the input reads as it did. -/
def fnTracesCleanUptoRow : OpenClaim := { program := "ytglpjchpgjaanaa", sum := "263afa0ab675b7521748569f572481a410690db3a44aeb87ff0ac6b6b738a774", func := "loop.example/messkitchen/laws.FnTracesClean", spec := "fnTracesClean", apart := false, narrowed := true }
def FnTracesCleanUptoSaid : Prop := fnTracesCleanUptoRow.holds Try.pinned (OpenSpec.upto fnTracesCleanSpec)

/-- 'laws.FnTracesCleanFew', WHERE WHAT IT READS IS OF BULK AT MOST 1048576: true; the input reads as it did. -/
def fnTracesCleanFewUptoRow : OpenClaim := { program := "ytglpjchpgjaanaa", sum := "263afa0ab675b7521748569f572481a410690db3a44aeb87ff0ac6b6b738a774", func := "loop.example/messkitchen/laws.FnTracesCleanFew", spec := "fnTracesCleanFew", apart := false, narrowed := true }
def FnTracesCleanFewUptoSaid : Prop := fnTracesCleanFewUptoRow.holds Try.pinned (OpenSpec.upto fnTracesCleanFewSpec)

/-- 'laws.FnTracesCleanLess', WHERE WHAT IT READS IS OF BULK AT MOST 1048576: true; the input reads as it did. -/
def fnTracesCleanLessUptoRow : OpenClaim := { program := "ytglpjchpgjaanaa", sum := "263afa0ab675b7521748569f572481a410690db3a44aeb87ff0ac6b6b738a774", func := "loop.example/messkitchen/laws.FnTracesCleanLess", spec := "fnTracesCleanLess", apart := false, narrowed := true }
def FnTracesCleanLessUptoSaid : Prop := fnTracesCleanLessUptoRow.holds Try.pinned (OpenSpec.upto fnTracesCleanLessSpec)

/-- 'laws.FnExactTracesClean', WHERE WHAT IT READS IS OF BULK AT MOST 1048576: true; the input reads as it did. -/
def fnExactTracesCleanUptoRow : OpenClaim := { program := "ytglpjchpgjaanaa", sum := "263afa0ab675b7521748569f572481a410690db3a44aeb87ff0ac6b6b738a774", func := "loop.example/messkitchen/laws.FnExactTracesClean", spec := "fnExactTracesClean", apart := false, narrowed := true }
def FnExactTracesCleanUptoSaid : Prop := fnExactTracesCleanUptoRow.holds Try.pinned (OpenSpec.upto fnExactTracesCleanSpec)

end Rows
end Go.Proofs.Ytglpjchpgjaanaa
