/-
  No cell of these rows narrows 'for every input' (looked for: loops, veiled, ifaces, maps, wideKeys, modest, calm, conditions, laid).
  DERIVED. THE GIVEN ROWS OF THIS SEAT. 12 by the template 'for every input the law returns true; each argument reads behind the call as it read before'; 0 by the template 'total and deterministic' (their statements: YtglddjbcaknnaaaTotals.lean).
  GIVEN WITH THE SEED: the statements are not yours to turn. If you find one false, say at which input.
  Laid BY PROGRAM, IN A SANDBOX (cutbox-rows.mjs): the forced cells as the released guide's own fill.sh prints them over the translation 050af54c513e2576… (all of the seat's roots in one cut). By AI agents, Wed Nov 11 2026. No macro, syntax, notation, axiom, sorry.
-/
import Derived.Test.YtglddjbcaknnaaaChecked
import GoSem.Claim
import GoSem.ClaimJoined
import GoSem.ClaimMapViews
import Derived.JoinedTies
import Derived.KernelRfl
namespace Go.Proofs.Ytglddjbcaknnaaa
/- THE CELL 'sum', in the pinned program and in every row, IS THE sha256 OF THE DUMP (.gsa) THAT YtglddjbcaknnaaaProg.lean LOADS. Nothing in Lean hashes anything: it is a label: what it is worth is what the hold of that sum in a sandbox is worth. -/
noncomputable def Try.pinned : Pinned := { name := "ytglddjbcaknnaaa", sum := "050af54c513e2576e00b4ecd326b83a5c302ad93ac25da60e0c4dd3816e5fce3", checked := Try.checked }
namespace Rows
def none {H : Type} : Left H := { results := [], args := [] }

/-- 'laws.FnExactNeedsValid': WHATEVER THE INPUT: true; the input reads as it did. -/
def fnExactNeedsValidSpec : ChangeSpec := { name := "fnExactNeedsValid", fn := fun _ => fun
  | [d1, d2] => { results := [.lit (.bool true)], args := [d1, d2] }
  | _ => none }
def fnExactNeedsValidRow : OpenClaim := { program := "ytglddjbcaknnaaa", sum := "050af54c513e2576e00b4ecd326b83a5c302ad93ac25da60e0c4dd3816e5fce3", func := "loop.example/messkitchen/laws.FnExactNeedsValid", spec := "fnExactNeedsValid", unfollowed := true, recurses := true, apart := false }
def FnExactNeedsValidSaid : Prop := fnExactNeedsValidRow.holds Try.pinned (OpenSpec.ofChange fnExactNeedsValidSpec)

/-- ITS FALSE NEIGHBOUR: 'it returns false'. Refute it at one input. -/
def fnExactNeedsValidWrong : ChangeSpec := { name := "fnExactNeedsValid", fn := fun _ => fun
  | [d1, d2] => { results := [.lit (.bool false)], args := [d1, d2] }
  | _ => none }
def FnExactNeedsValidWrongFalsely : Prop := fnExactNeedsValidRow.holds Try.pinned (OpenSpec.ofChange fnExactNeedsValidWrong)

/-- 'laws.FnNeedsPart': WHATEVER THE INPUT: true; the input reads as it did. -/
def fnNeedsPartSpec : ChangeSpec := { name := "fnNeedsPart", fn := fun _ => fun
  | [d1, d2] => { results := [.lit (.bool true)], args := [d1, d2] }
  | _ => none }
def fnNeedsPartRow : OpenClaim := { program := "ytglddjbcaknnaaa", sum := "050af54c513e2576e00b4ecd326b83a5c302ad93ac25da60e0c4dd3816e5fce3", func := "loop.example/messkitchen/laws.FnNeedsPart", spec := "fnNeedsPart", unfollowed := true, recurses := true, apart := false }
def FnNeedsPartSaid : Prop := fnNeedsPartRow.holds Try.pinned (OpenSpec.ofChange fnNeedsPartSpec)

/-- ITS FALSE NEIGHBOUR: 'it returns false'. Refute it at one input. -/
def fnNeedsPartWrong : ChangeSpec := { name := "fnNeedsPart", fn := fun _ => fun
  | [d1, d2] => { results := [.lit (.bool false)], args := [d1, d2] }
  | _ => none }
def FnNeedsPartWrongFalsely : Prop := fnNeedsPartRow.holds Try.pinned (OpenSpec.ofChange fnNeedsPartWrong)

/-- 'laws.FnSwapsPart': WHATEVER THE INPUT: true; the input reads as it did. -/
def fnSwapsPartSpec : ChangeSpec := { name := "fnSwapsPart", fn := fun _ => fun
  | [d1, d2] => { results := [.lit (.bool true)], args := [d1, d2] }
  | _ => none }
def fnSwapsPartRow : OpenClaim := { program := "ytglddjbcaknnaaa", sum := "050af54c513e2576e00b4ecd326b83a5c302ad93ac25da60e0c4dd3816e5fce3", func := "loop.example/messkitchen/laws.FnSwapsPart", spec := "fnSwapsPart", unfollowed := true, recurses := true, apart := false }
def FnSwapsPartSaid : Prop := fnSwapsPartRow.holds Try.pinned (OpenSpec.ofChange fnSwapsPartSpec)

/-- ITS FALSE NEIGHBOUR: 'it returns false'. Refute it at one input. -/
def fnSwapsPartWrong : ChangeSpec := { name := "fnSwapsPart", fn := fun _ => fun
  | [d1, d2] => { results := [.lit (.bool false)], args := [d1, d2] }
  | _ => none }
def FnSwapsPartWrongFalsely : Prop := fnSwapsPartRow.holds Try.pinned (OpenSpec.ofChange fnSwapsPartWrong)

/-- 'laws.FnExactNeedsEnergy': WHATEVER THE INPUT: true; the input reads as it did. -/
def fnExactNeedsEnergySpec : ChangeSpec := { name := "fnExactNeedsEnergy", fn := fun _ => fun
  | [d1, d2] => { results := [.lit (.bool true)], args := [d1, d2] }
  | _ => none }
def fnExactNeedsEnergyRow : OpenClaim := { program := "ytglddjbcaknnaaa", sum := "050af54c513e2576e00b4ecd326b83a5c302ad93ac25da60e0c4dd3816e5fce3", func := "loop.example/messkitchen/laws.FnExactNeedsEnergy", spec := "fnExactNeedsEnergy", unfollowed := true, recurses := true, apart := false }
def FnExactNeedsEnergySaid : Prop := fnExactNeedsEnergyRow.holds Try.pinned (OpenSpec.ofChange fnExactNeedsEnergySpec)

/-- ITS FALSE NEIGHBOUR: 'it returns false'. Refute it at one input. -/
def fnExactNeedsEnergyWrong : ChangeSpec := { name := "fnExactNeedsEnergy", fn := fun _ => fun
  | [d1, d2] => { results := [.lit (.bool false)], args := [d1, d2] }
  | _ => none }
def FnExactNeedsEnergyWrongFalsely : Prop := fnExactNeedsEnergyRow.holds Try.pinned (OpenSpec.ofChange fnExactNeedsEnergyWrong)

/-- 'laws.FnExactSwapsValid': WHATEVER THE INPUT: true; the input reads as it did. -/
def fnExactSwapsValidSpec : ChangeSpec := { name := "fnExactSwapsValid", fn := fun _ => fun
  | [d1, d2] => { results := [.lit (.bool true)], args := [d1, d2] }
  | _ => none }
def fnExactSwapsValidRow : OpenClaim := { program := "ytglddjbcaknnaaa", sum := "050af54c513e2576e00b4ecd326b83a5c302ad93ac25da60e0c4dd3816e5fce3", func := "loop.example/messkitchen/laws.FnExactSwapsValid", spec := "fnExactSwapsValid", unfollowed := true, recurses := true, apart := false }
def FnExactSwapsValidSaid : Prop := fnExactSwapsValidRow.holds Try.pinned (OpenSpec.ofChange fnExactSwapsValidSpec)

/-- ITS FALSE NEIGHBOUR: 'it returns false'. Refute it at one input. -/
def fnExactSwapsValidWrong : ChangeSpec := { name := "fnExactSwapsValid", fn := fun _ => fun
  | [d1, d2] => { results := [.lit (.bool false)], args := [d1, d2] }
  | _ => none }
def FnExactSwapsValidWrongFalsely : Prop := fnExactSwapsValidRow.holds Try.pinned (OpenSpec.ofChange fnExactSwapsValidWrong)

/-- 'laws.FnSwapsFor': WHATEVER THE INPUT: true; the input reads as it did. -/
def fnSwapsForSpec : ChangeSpec := { name := "fnSwapsFor", fn := fun _ => fun
  | [d] => { results := [.lit (.bool true)], args := [d] }
  | _ => none }
def fnSwapsForRow : OpenClaim := { program := "ytglddjbcaknnaaa", sum := "050af54c513e2576e00b4ecd326b83a5c302ad93ac25da60e0c4dd3816e5fce3", func := "loop.example/messkitchen/laws.FnSwapsFor", spec := "fnSwapsFor", unfollowed := true, recurses := true, apart := false }
def FnSwapsForSaid : Prop := fnSwapsForRow.holds Try.pinned (OpenSpec.ofChange fnSwapsForSpec)

/-- ITS FALSE NEIGHBOUR: 'it returns false'. Refute it at one input. -/
def fnSwapsForWrong : ChangeSpec := { name := "fnSwapsFor", fn := fun _ => fun
  | [d] => { results := [.lit (.bool false)], args := [d] }
  | _ => none }
def FnSwapsForWrongFalsely : Prop := fnSwapsForRow.holds Try.pinned (OpenSpec.ofChange fnSwapsForWrong)

/-- 'laws.FnExactSwapsFor': WHATEVER THE INPUT: true; the input reads as it did. -/
def fnExactSwapsForSpec : ChangeSpec := { name := "fnExactSwapsFor", fn := fun _ => fun
  | [d1, d2, d3] => { results := [.lit (.bool true)], args := [d1, d2, d3] }
  | _ => none }
def fnExactSwapsForRow : OpenClaim := { program := "ytglddjbcaknnaaa", sum := "050af54c513e2576e00b4ecd326b83a5c302ad93ac25da60e0c4dd3816e5fce3", func := "loop.example/messkitchen/laws.FnExactSwapsFor", spec := "fnExactSwapsFor", unfollowed := true, recurses := true, apart := false }
def FnExactSwapsForSaid : Prop := fnExactSwapsForRow.holds Try.pinned (OpenSpec.ofChange fnExactSwapsForSpec)

/-- ITS FALSE NEIGHBOUR: 'it returns false'. Refute it at one input. -/
def fnExactSwapsForWrong : ChangeSpec := { name := "fnExactSwapsFor", fn := fun _ => fun
  | [d1, d2, d3] => { results := [.lit (.bool false)], args := [d1, d2, d3] }
  | _ => none }
def FnExactSwapsForWrongFalsely : Prop := fnExactSwapsForRow.holds Try.pinned (OpenSpec.ofChange fnExactSwapsForWrong)

/-- 'laws.FnSwapNone': WHATEVER THE INPUT: true; the input reads as it did. -/
def fnSwapNoneSpec : ChangeSpec := { name := "fnSwapNone", fn := fun _ => fun
  | [d] => { results := [.lit (.bool true)], args := [d] }
  | _ => none }
def fnSwapNoneRow : OpenClaim := { program := "ytglddjbcaknnaaa", sum := "050af54c513e2576e00b4ecd326b83a5c302ad93ac25da60e0c4dd3816e5fce3", func := "loop.example/messkitchen/laws.FnSwapNone", spec := "fnSwapNone", unfollowed := true, recurses := true, apart := false }
def FnSwapNoneSaid : Prop := fnSwapNoneRow.holds Try.pinned (OpenSpec.ofChange fnSwapNoneSpec)

/-- ITS FALSE NEIGHBOUR: 'it returns false'. Refute it at one input. -/
def fnSwapNoneWrong : ChangeSpec := { name := "fnSwapNone", fn := fun _ => fun
  | [d] => { results := [.lit (.bool false)], args := [d] }
  | _ => none }
def FnSwapNoneWrongFalsely : Prop := fnSwapNoneRow.holds Try.pinned (OpenSpec.ofChange fnSwapNoneWrong)

/-- 'laws.FnSwapNeeds': WHATEVER THE INPUT: true; the input reads as it did. -/
def fnSwapNeedsSpec : ChangeSpec := { name := "fnSwapNeeds", fn := fun _ => fun
  | [d] => { results := [.lit (.bool true)], args := [d] }
  | _ => none }
def fnSwapNeedsRow : OpenClaim := { program := "ytglddjbcaknnaaa", sum := "050af54c513e2576e00b4ecd326b83a5c302ad93ac25da60e0c4dd3816e5fce3", func := "loop.example/messkitchen/laws.FnSwapNeeds", spec := "fnSwapNeeds", unfollowed := true, recurses := true, apart := false }
def FnSwapNeedsSaid : Prop := fnSwapNeedsRow.holds Try.pinned (OpenSpec.ofChange fnSwapNeedsSpec)

/-- ITS FALSE NEIGHBOUR: 'it returns false'. Refute it at one input. -/
def fnSwapNeedsWrong : ChangeSpec := { name := "fnSwapNeeds", fn := fun _ => fun
  | [d] => { results := [.lit (.bool false)], args := [d] }
  | _ => none }
def FnSwapNeedsWrongFalsely : Prop := fnSwapNeedsRow.holds Try.pinned (OpenSpec.ofChange fnSwapNeedsWrong)

/-- 'laws.FnSwapOne': WHATEVER THE INPUT: true; the input reads as it did. -/
def fnSwapOneSpec : ChangeSpec := { name := "fnSwapOne", fn := fun _ => fun
  | [d] => { results := [.lit (.bool true)], args := [d] }
  | _ => none }
def fnSwapOneRow : OpenClaim := { program := "ytglddjbcaknnaaa", sum := "050af54c513e2576e00b4ecd326b83a5c302ad93ac25da60e0c4dd3816e5fce3", func := "loop.example/messkitchen/laws.FnSwapOne", spec := "fnSwapOne", unfollowed := true, recurses := true, apart := false }
def FnSwapOneSaid : Prop := fnSwapOneRow.holds Try.pinned (OpenSpec.ofChange fnSwapOneSpec)

/-- ITS FALSE NEIGHBOUR: 'it returns false'. Refute it at one input. -/
def fnSwapOneWrong : ChangeSpec := { name := "fnSwapOne", fn := fun _ => fun
  | [d] => { results := [.lit (.bool false)], args := [d] }
  | _ => none }
def FnSwapOneWrongFalsely : Prop := fnSwapOneRow.holds Try.pinned (OpenSpec.ofChange fnSwapOneWrong)

/-- 'laws.FnSwapLess': WHATEVER THE INPUT: true; the input reads as it did. -/
def fnSwapLessSpec : ChangeSpec := { name := "fnSwapLess", fn := fun _ => fun
  | [d] => { results := [.lit (.bool true)], args := [d] }
  | _ => none }
def fnSwapLessRow : OpenClaim := { program := "ytglddjbcaknnaaa", sum := "050af54c513e2576e00b4ecd326b83a5c302ad93ac25da60e0c4dd3816e5fce3", func := "loop.example/messkitchen/laws.FnSwapLess", spec := "fnSwapLess", unfollowed := true, recurses := true, apart := false }
def FnSwapLessSaid : Prop := fnSwapLessRow.holds Try.pinned (OpenSpec.ofChange fnSwapLessSpec)

/-- ITS FALSE NEIGHBOUR: 'it returns false'. Refute it at one input. -/
def fnSwapLessWrong : ChangeSpec := { name := "fnSwapLess", fn := fun _ => fun
  | [d] => { results := [.lit (.bool false)], args := [d] }
  | _ => none }
def FnSwapLessWrongFalsely : Prop := fnSwapLessRow.holds Try.pinned (OpenSpec.ofChange fnSwapLessWrong)

/-- 'laws.FnExactSwapNeeds': WHATEVER THE INPUT: true; the input reads as it did. -/
def fnExactSwapNeedsSpec : ChangeSpec := { name := "fnExactSwapNeeds", fn := fun _ => fun
  | [d1, d2, d3, d4] => { results := [.lit (.bool true)], args := [d1, d2, d3, d4] }
  | _ => none }
def fnExactSwapNeedsRow : OpenClaim := { program := "ytglddjbcaknnaaa", sum := "050af54c513e2576e00b4ecd326b83a5c302ad93ac25da60e0c4dd3816e5fce3", func := "loop.example/messkitchen/laws.FnExactSwapNeeds", spec := "fnExactSwapNeeds", unfollowed := true, recurses := true, apart := false }
def FnExactSwapNeedsSaid : Prop := fnExactSwapNeedsRow.holds Try.pinned (OpenSpec.ofChange fnExactSwapNeedsSpec)

/-- ITS FALSE NEIGHBOUR: 'it returns false'. Refute it at one input. -/
def fnExactSwapNeedsWrong : ChangeSpec := { name := "fnExactSwapNeeds", fn := fun _ => fun
  | [d1, d2, d3, d4] => { results := [.lit (.bool false)], args := [d1, d2, d3, d4] }
  | _ => none }
def FnExactSwapNeedsWrongFalsely : Prop := fnExactSwapNeedsRow.holds Try.pinned (OpenSpec.ofChange fnExactSwapNeedsWrong)

/- THE SECOND FORM. 'bulk': how many values and letters a reading holds, each counted each time it is reached (what is shared counts as often as it is met; a slice's spare places count too). A statement '..UptoSaid' is the law's where the arguments, and the package variables that the reading takes, are together of bulk at most 1048576: NARROWER than '..Said'. Prove '..Said' where nothing that the law and all that it calls make is longer than what came in: it says more and counts as full. Else prove '..UptoSaid'. A law counts once. -/
mutual
def uptoBulk {H : Type} : DataW H → Nat
  | .lit (.string bytes) => bytes.length + 1
  | .lit _ => 1
  | .nil => 1
  | .ptr d => uptoBulk d + 1
  | .slice elems spare => uptoBulkAll elems + uptoBulkAll spare + 1
  | .agg parts => uptoBulkAll parts + 1
  | .iface _ d => uptoBulk d + 1
  | .map entries => uptoBulkEntries entries + 1
  | .held _ => 1
def uptoBulkAll {H : Type} : List (DataW H) → Nat
  | [] => 0
  | d :: r => uptoBulk d + uptoBulkAll r
def uptoBulkEntries {H : Type} : List (Lit × DataW H) → Nat
  | [] => 0
  | x :: r => uptoBulkEntry x + uptoBulkEntries r
def uptoBulkEntry {H : Type} : Lit × DataW H → Nat
  | (.string bytes, d) => bytes.length + uptoBulk d + 1
  | (_, d) => uptoBulk d + 1
 end
def uptoSmall : (H : Type) → List (DataW H) → Bool := fun _ ds => decide (uptoBulkAll ds ≤ 1048576)
def OpenSpec.upto (s : _root_.Go.ChangeSpec) : _root_.Go.OpenSpec := { _root_.Go.OpenSpec.ofChange s with cond := some uptoSmall }

/-- 'laws.FnExactNeedsValid', WHERE WHAT IT READS IS OF BULK AT MOST 1048576: true; the input reads as it did. -/
def fnExactNeedsValidUptoRow : OpenClaim := { program := "ytglddjbcaknnaaa", sum := "050af54c513e2576e00b4ecd326b83a5c302ad93ac25da60e0c4dd3816e5fce3", func := "loop.example/messkitchen/laws.FnExactNeedsValid", spec := "fnExactNeedsValid", unfollowed := true, recurses := true, apart := false, narrowed := true }
def FnExactNeedsValidUptoSaid : Prop := fnExactNeedsValidUptoRow.holds Try.pinned (OpenSpec.upto fnExactNeedsValidSpec)

/-- 'laws.FnNeedsPart', WHERE WHAT IT READS IS OF BULK AT MOST 1048576: true; the input reads as it did. -/
def fnNeedsPartUptoRow : OpenClaim := { program := "ytglddjbcaknnaaa", sum := "050af54c513e2576e00b4ecd326b83a5c302ad93ac25da60e0c4dd3816e5fce3", func := "loop.example/messkitchen/laws.FnNeedsPart", spec := "fnNeedsPart", unfollowed := true, recurses := true, apart := false, narrowed := true }
def FnNeedsPartUptoSaid : Prop := fnNeedsPartUptoRow.holds Try.pinned (OpenSpec.upto fnNeedsPartSpec)

/-- 'laws.FnSwapsPart', WHERE WHAT IT READS IS OF BULK AT MOST 1048576: true; the input reads as it did. -/
def fnSwapsPartUptoRow : OpenClaim := { program := "ytglddjbcaknnaaa", sum := "050af54c513e2576e00b4ecd326b83a5c302ad93ac25da60e0c4dd3816e5fce3", func := "loop.example/messkitchen/laws.FnSwapsPart", spec := "fnSwapsPart", unfollowed := true, recurses := true, apart := false, narrowed := true }
def FnSwapsPartUptoSaid : Prop := fnSwapsPartUptoRow.holds Try.pinned (OpenSpec.upto fnSwapsPartSpec)

/-- 'laws.FnExactNeedsEnergy', WHERE WHAT IT READS IS OF BULK AT MOST 1048576: true; the input reads as it did. -/
def fnExactNeedsEnergyUptoRow : OpenClaim := { program := "ytglddjbcaknnaaa", sum := "050af54c513e2576e00b4ecd326b83a5c302ad93ac25da60e0c4dd3816e5fce3", func := "loop.example/messkitchen/laws.FnExactNeedsEnergy", spec := "fnExactNeedsEnergy", unfollowed := true, recurses := true, apart := false, narrowed := true }
def FnExactNeedsEnergyUptoSaid : Prop := fnExactNeedsEnergyUptoRow.holds Try.pinned (OpenSpec.upto fnExactNeedsEnergySpec)

/-- 'laws.FnExactSwapsValid', WHERE WHAT IT READS IS OF BULK AT MOST 1048576: true; the input reads as it did. -/
def fnExactSwapsValidUptoRow : OpenClaim := { program := "ytglddjbcaknnaaa", sum := "050af54c513e2576e00b4ecd326b83a5c302ad93ac25da60e0c4dd3816e5fce3", func := "loop.example/messkitchen/laws.FnExactSwapsValid", spec := "fnExactSwapsValid", unfollowed := true, recurses := true, apart := false, narrowed := true }
def FnExactSwapsValidUptoSaid : Prop := fnExactSwapsValidUptoRow.holds Try.pinned (OpenSpec.upto fnExactSwapsValidSpec)

/-- 'laws.FnSwapsFor', WHERE WHAT IT READS IS OF BULK AT MOST 1048576: true; the input reads as it did. -/
def fnSwapsForUptoRow : OpenClaim := { program := "ytglddjbcaknnaaa", sum := "050af54c513e2576e00b4ecd326b83a5c302ad93ac25da60e0c4dd3816e5fce3", func := "loop.example/messkitchen/laws.FnSwapsFor", spec := "fnSwapsFor", unfollowed := true, recurses := true, apart := false, narrowed := true }
def FnSwapsForUptoSaid : Prop := fnSwapsForUptoRow.holds Try.pinned (OpenSpec.upto fnSwapsForSpec)

/-- 'laws.FnExactSwapsFor', WHERE WHAT IT READS IS OF BULK AT MOST 1048576: true; the input reads as it did. -/
def fnExactSwapsForUptoRow : OpenClaim := { program := "ytglddjbcaknnaaa", sum := "050af54c513e2576e00b4ecd326b83a5c302ad93ac25da60e0c4dd3816e5fce3", func := "loop.example/messkitchen/laws.FnExactSwapsFor", spec := "fnExactSwapsFor", unfollowed := true, recurses := true, apart := false, narrowed := true }
def FnExactSwapsForUptoSaid : Prop := fnExactSwapsForUptoRow.holds Try.pinned (OpenSpec.upto fnExactSwapsForSpec)

/-- 'laws.FnSwapNone', WHERE WHAT IT READS IS OF BULK AT MOST 1048576: true; the input reads as it did. -/
def fnSwapNoneUptoRow : OpenClaim := { program := "ytglddjbcaknnaaa", sum := "050af54c513e2576e00b4ecd326b83a5c302ad93ac25da60e0c4dd3816e5fce3", func := "loop.example/messkitchen/laws.FnSwapNone", spec := "fnSwapNone", unfollowed := true, recurses := true, apart := false, narrowed := true }
def FnSwapNoneUptoSaid : Prop := fnSwapNoneUptoRow.holds Try.pinned (OpenSpec.upto fnSwapNoneSpec)

/-- 'laws.FnSwapNeeds', WHERE WHAT IT READS IS OF BULK AT MOST 1048576: true; the input reads as it did. -/
def fnSwapNeedsUptoRow : OpenClaim := { program := "ytglddjbcaknnaaa", sum := "050af54c513e2576e00b4ecd326b83a5c302ad93ac25da60e0c4dd3816e5fce3", func := "loop.example/messkitchen/laws.FnSwapNeeds", spec := "fnSwapNeeds", unfollowed := true, recurses := true, apart := false, narrowed := true }
def FnSwapNeedsUptoSaid : Prop := fnSwapNeedsUptoRow.holds Try.pinned (OpenSpec.upto fnSwapNeedsSpec)

/-- 'laws.FnSwapOne', WHERE WHAT IT READS IS OF BULK AT MOST 1048576: true; the input reads as it did. -/
def fnSwapOneUptoRow : OpenClaim := { program := "ytglddjbcaknnaaa", sum := "050af54c513e2576e00b4ecd326b83a5c302ad93ac25da60e0c4dd3816e5fce3", func := "loop.example/messkitchen/laws.FnSwapOne", spec := "fnSwapOne", unfollowed := true, recurses := true, apart := false, narrowed := true }
def FnSwapOneUptoSaid : Prop := fnSwapOneUptoRow.holds Try.pinned (OpenSpec.upto fnSwapOneSpec)

/-- 'laws.FnSwapLess', WHERE WHAT IT READS IS OF BULK AT MOST 1048576: true; the input reads as it did. -/
def fnSwapLessUptoRow : OpenClaim := { program := "ytglddjbcaknnaaa", sum := "050af54c513e2576e00b4ecd326b83a5c302ad93ac25da60e0c4dd3816e5fce3", func := "loop.example/messkitchen/laws.FnSwapLess", spec := "fnSwapLess", unfollowed := true, recurses := true, apart := false, narrowed := true }
def FnSwapLessUptoSaid : Prop := fnSwapLessUptoRow.holds Try.pinned (OpenSpec.upto fnSwapLessSpec)

/-- 'laws.FnExactSwapNeeds', WHERE WHAT IT READS IS OF BULK AT MOST 1048576: true; the input reads as it did. -/
def fnExactSwapNeedsUptoRow : OpenClaim := { program := "ytglddjbcaknnaaa", sum := "050af54c513e2576e00b4ecd326b83a5c302ad93ac25da60e0c4dd3816e5fce3", func := "loop.example/messkitchen/laws.FnExactSwapNeeds", spec := "fnExactSwapNeeds", unfollowed := true, recurses := true, apart := false, narrowed := true }
def FnExactSwapNeedsUptoSaid : Prop := fnExactSwapNeedsUptoRow.holds Try.pinned (OpenSpec.upto fnExactSwapNeedsSpec)

end Rows
end Go.Proofs.Ytglddjbcaknnaaa
