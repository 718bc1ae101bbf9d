/-
  No cell of these rows narrows 'for every input' (looked for: loops, veiled, ifaces, maps, wideKeys, modest, calm, conditions, laid).
  DERIVED. THE GIVEN ROWS OF THIS SEAT. 13 by the template 'for every input the law returns true; each argument reads behind the call as it read before'; 0 by the template 'total and deterministic' (their statements: YtehenjjaekkcfaaTotals.lean).
  GIVEN WITH THE SEED: the statements are not yours to turn. If you find one false, say at which input.
  Laid BY PROGRAM, IN A SANDBOX (cutbox-rows.mjs): the forced cells as the released guide's own fill.sh prints them over the translation 13ab073c967b8c71… (all of the seat's roots in one cut). By AI agents, Wed Nov 11 2026. No macro, syntax, notation, axiom, sorry.
-/
import Derived.Test.YtehenjjaekkcfaaChecked
import GoSem.Claim
import GoSem.ClaimJoined
import GoSem.ClaimMapViews
import Derived.JoinedTies
import Derived.KernelRfl
namespace Go.Proofs.Ytehenjjaekkcfaa
/- THE CELL 'sum', in the pinned program and in every row, IS THE sha256 OF THE DUMP (.gsa) THAT YtehenjjaekkcfaaProg.lean LOADS. Nothing in Lean hashes anything: it is a label: what it is worth is what the hold of that sum in a sandbox is worth. -/
noncomputable def Try.pinned : Pinned := { name := "ytehenjjaekkcfaa", sum := "13ab073c967b8c71463abdcc91b729c7ebdce566d7ecbc0fbc2e844753fb7ae9", checked := Try.checked }
namespace Rows
def none {H : Type} : Left H := { results := [], args := [] }

/-- 'laws.FnExactChoicesValid': WHATEVER THE INPUT: true; the input reads as it did. -/
def fnExactChoicesValidSpec : ChangeSpec := { name := "fnExactChoicesValid", fn := fun _ => fun
  | [d] => { results := [.lit (.bool true)], args := [d] }
  | _ => none }
def fnExactChoicesValidRow : OpenClaim := { program := "ytehenjjaekkcfaa", sum := "13ab073c967b8c71463abdcc91b729c7ebdce566d7ecbc0fbc2e844753fb7ae9", func := "loop.example/messkitchen/laws.FnExactChoicesValid", spec := "fnExactChoicesValid", unfollowed := true, recurses := true, apart := false }
def FnExactChoicesValidSaid : Prop := fnExactChoicesValidRow.holds Try.pinned (OpenSpec.ofChange fnExactChoicesValidSpec)

/-- ITS FALSE NEIGHBOUR: 'it returns false'. Refute it at one input. -/
def fnExactChoicesValidWrong : ChangeSpec := { name := "fnExactChoicesValid", fn := fun _ => fun
  | [d] => { results := [.lit (.bool false)], args := [d] }
  | _ => none }
def FnExactChoicesValidWrongFalsely : Prop := fnExactChoicesValidRow.holds Try.pinned (OpenSpec.ofChange fnExactChoicesValidWrong)

/-- 'laws.FnChoicesPart': WHATEVER THE INPUT: true; the input reads as it did. -/
def fnChoicesPartSpec : ChangeSpec := { name := "fnChoicesPart", fn := fun _ => fun
  | [d1, d2] => { results := [.lit (.bool true)], args := [d1, d2] }
  | _ => none }
def fnChoicesPartRow : OpenClaim := { program := "ytehenjjaekkcfaa", sum := "13ab073c967b8c71463abdcc91b729c7ebdce566d7ecbc0fbc2e844753fb7ae9", func := "loop.example/messkitchen/laws.FnChoicesPart", spec := "fnChoicesPart", unfollowed := true, recurses := true, apart := false }
def FnChoicesPartSaid : Prop := fnChoicesPartRow.holds Try.pinned (OpenSpec.ofChange fnChoicesPartSpec)

/-- ITS FALSE NEIGHBOUR: 'it returns false'. Refute it at one input. -/
def fnChoicesPartWrong : ChangeSpec := { name := "fnChoicesPart", fn := fun _ => fun
  | [d1, d2] => { results := [.lit (.bool false)], args := [d1, d2] }
  | _ => none }
def FnChoicesPartWrongFalsely : Prop := fnChoicesPartRow.holds Try.pinned (OpenSpec.ofChange fnChoicesPartWrong)

/-- 'laws.FnServeFirst': WHATEVER THE INPUT: true; the input reads as it did. -/
def fnServeFirstSpec : ChangeSpec := { name := "fnServeFirst", fn := fun _ => fun
  | [d] => { results := [.lit (.bool true)], args := [d] }
  | _ => none }
def fnServeFirstRow : OpenClaim := { program := "ytehenjjaekkcfaa", sum := "13ab073c967b8c71463abdcc91b729c7ebdce566d7ecbc0fbc2e844753fb7ae9", func := "loop.example/messkitchen/laws.FnServeFirst", spec := "fnServeFirst", unfollowed := true, recurses := true, apart := false }
def FnServeFirstSaid : Prop := fnServeFirstRow.holds Try.pinned (OpenSpec.ofChange fnServeFirstSpec)

/-- ITS FALSE NEIGHBOUR: 'it returns false'. Refute it at one input. -/
def fnServeFirstWrong : ChangeSpec := { name := "fnServeFirst", fn := fun _ => fun
  | [d] => { results := [.lit (.bool false)], args := [d] }
  | _ => none }
def FnServeFirstWrongFalsely : Prop := fnServeFirstRow.holds Try.pinned (OpenSpec.ofChange fnServeFirstWrong)

/-- 'laws.FnServeGaps': WHATEVER THE INPUT: true; the input reads as it did. -/
def fnServeGapsSpec : ChangeSpec := { name := "fnServeGaps", fn := fun _ => fun
  | [d] => { results := [.lit (.bool true)], args := [d] }
  | _ => none }
def fnServeGapsRow : OpenClaim := { program := "ytehenjjaekkcfaa", sum := "13ab073c967b8c71463abdcc91b729c7ebdce566d7ecbc0fbc2e844753fb7ae9", func := "loop.example/messkitchen/laws.FnServeGaps", spec := "fnServeGaps", unfollowed := true, recurses := true, apart := false }
def FnServeGapsSaid : Prop := fnServeGapsRow.holds Try.pinned (OpenSpec.ofChange fnServeGapsSpec)

/-- ITS FALSE NEIGHBOUR: 'it returns false'. Refute it at one input. -/
def fnServeGapsWrong : ChangeSpec := { name := "fnServeGaps", fn := fun _ => fun
  | [d] => { results := [.lit (.bool false)], args := [d] }
  | _ => none }
def FnServeGapsWrongFalsely : Prop := fnServeGapsRow.holds Try.pinned (OpenSpec.ofChange fnServeGapsWrong)

/-- 'laws.FnExactServeFits': WHATEVER THE INPUT: true; the input reads as it did. -/
def fnExactServeFitsSpec : ChangeSpec := { name := "fnExactServeFits", fn := fun _ => fun
  | [d1, d2, d3] => { results := [.lit (.bool true)], args := [d1, d2, d3] }
  | _ => none }
def fnExactServeFitsRow : OpenClaim := { program := "ytehenjjaekkcfaa", sum := "13ab073c967b8c71463abdcc91b729c7ebdce566d7ecbc0fbc2e844753fb7ae9", func := "loop.example/messkitchen/laws.FnExactServeFits", spec := "fnExactServeFits", unfollowed := true, recurses := true, apart := false }
def FnExactServeFitsSaid : Prop := fnExactServeFitsRow.holds Try.pinned (OpenSpec.ofChange fnExactServeFitsSpec)

/-- ITS FALSE NEIGHBOUR: 'it returns false'. Refute it at one input. -/
def fnExactServeFitsWrong : ChangeSpec := { name := "fnExactServeFits", fn := fun _ => fun
  | [d1, d2, d3] => { results := [.lit (.bool false)], args := [d1, d2, d3] }
  | _ => none }
def FnExactServeFitsWrongFalsely : Prop := fnExactServeFitsRow.holds Try.pinned (OpenSpec.ofChange fnExactServeFitsWrong)

/-- 'laws.FnServeRoomFull': WHATEVER THE INPUT: true; the input reads as it did. -/
def fnServeRoomFullSpec : ChangeSpec := { name := "fnServeRoomFull", fn := fun _ => fun
  | [d] => { results := [.lit (.bool true)], args := [d] }
  | _ => none }
def fnServeRoomFullRow : OpenClaim := { program := "ytehenjjaekkcfaa", sum := "13ab073c967b8c71463abdcc91b729c7ebdce566d7ecbc0fbc2e844753fb7ae9", func := "loop.example/messkitchen/laws.FnServeRoomFull", spec := "fnServeRoomFull", unfollowed := true, recurses := true, apart := false }
def FnServeRoomFullSaid : Prop := fnServeRoomFullRow.holds Try.pinned (OpenSpec.ofChange fnServeRoomFullSpec)

/-- ITS FALSE NEIGHBOUR: 'it returns false'. Refute it at one input. -/
def fnServeRoomFullWrong : ChangeSpec := { name := "fnServeRoomFull", fn := fun _ => fun
  | [d] => { results := [.lit (.bool false)], args := [d] }
  | _ => none }
def FnServeRoomFullWrongFalsely : Prop := fnServeRoomFullRow.holds Try.pinned (OpenSpec.ofChange fnServeRoomFullWrong)

/-- 'laws.FnExactServeFirst': WHATEVER THE INPUT: true; the input reads as it did. -/
def fnExactServeFirstSpec : ChangeSpec := { name := "fnExactServeFirst", fn := fun _ => fun
  | [d1, d2] => { results := [.lit (.bool true)], args := [d1, d2] }
  | _ => none }
def fnExactServeFirstRow : OpenClaim := { program := "ytehenjjaekkcfaa", sum := "13ab073c967b8c71463abdcc91b729c7ebdce566d7ecbc0fbc2e844753fb7ae9", func := "loop.example/messkitchen/laws.FnExactServeFirst", spec := "fnExactServeFirst", unfollowed := true, recurses := true, apart := false }
def FnExactServeFirstSaid : Prop := fnExactServeFirstRow.holds Try.pinned (OpenSpec.ofChange fnExactServeFirstSpec)

/-- ITS FALSE NEIGHBOUR: 'it returns false'. Refute it at one input. -/
def fnExactServeFirstWrong : ChangeSpec := { name := "fnExactServeFirst", fn := fun _ => fun
  | [d1, d2] => { results := [.lit (.bool false)], args := [d1, d2] }
  | _ => none }
def FnExactServeFirstWrongFalsely : Prop := fnExactServeFirstRow.holds Try.pinned (OpenSpec.ofChange fnExactServeFirstWrong)

/-- 'laws.FnServeRoomMore': WHATEVER THE INPUT: true; the input reads as it did. -/
def fnServeRoomMoreSpec : ChangeSpec := { name := "fnServeRoomMore", fn := fun _ => fun
  | [d1, d2] => { results := [.lit (.bool true)], args := [d1, d2] }
  | _ => none }
def fnServeRoomMoreRow : OpenClaim := { program := "ytehenjjaekkcfaa", sum := "13ab073c967b8c71463abdcc91b729c7ebdce566d7ecbc0fbc2e844753fb7ae9", func := "loop.example/messkitchen/laws.FnServeRoomMore", spec := "fnServeRoomMore", unfollowed := true, recurses := true, apart := false }
def FnServeRoomMoreSaid : Prop := fnServeRoomMoreRow.holds Try.pinned (OpenSpec.ofChange fnServeRoomMoreSpec)

/-- ITS FALSE NEIGHBOUR: 'it returns false'. Refute it at one input. -/
def fnServeRoomMoreWrong : ChangeSpec := { name := "fnServeRoomMore", fn := fun _ => fun
  | [d1, d2] => { results := [.lit (.bool false)], args := [d1, d2] }
  | _ => none }
def FnServeRoomMoreWrongFalsely : Prop := fnServeRoomMoreRow.holds Try.pinned (OpenSpec.ofChange fnServeRoomMoreWrong)

/-- 'laws.FnServeFits': WHATEVER THE INPUT: true; the input reads as it did. -/
def fnServeFitsSpec : ChangeSpec := { name := "fnServeFits", fn := fun _ => fun
  | [d] => { results := [.lit (.bool true)], args := [d] }
  | _ => none }
def fnServeFitsRow : OpenClaim := { program := "ytehenjjaekkcfaa", sum := "13ab073c967b8c71463abdcc91b729c7ebdce566d7ecbc0fbc2e844753fb7ae9", func := "loop.example/messkitchen/laws.FnServeFits", spec := "fnServeFits", unfollowed := true, recurses := true, apart := false }
def FnServeFitsSaid : Prop := fnServeFitsRow.holds Try.pinned (OpenSpec.ofChange fnServeFitsSpec)

/-- ITS FALSE NEIGHBOUR: 'it returns false'. Refute it at one input. -/
def fnServeFitsWrong : ChangeSpec := { name := "fnServeFits", fn := fun _ => fun
  | [d] => { results := [.lit (.bool false)], args := [d] }
  | _ => none }
def FnServeFitsWrongFalsely : Prop := fnServeFitsRow.holds Try.pinned (OpenSpec.ofChange fnServeFitsWrong)

/-- 'laws.FnExactServeGaps': WHATEVER THE INPUT: true; the input reads as it did. -/
def fnExactServeGapsSpec : ChangeSpec := { name := "fnExactServeGaps", fn := fun _ => fun
  | [d1, d2] => { results := [.lit (.bool true)], args := [d1, d2] }
  | _ => none }
def fnExactServeGapsRow : OpenClaim := { program := "ytehenjjaekkcfaa", sum := "13ab073c967b8c71463abdcc91b729c7ebdce566d7ecbc0fbc2e844753fb7ae9", func := "loop.example/messkitchen/laws.FnExactServeGaps", spec := "fnExactServeGaps", unfollowed := true, recurses := true, apart := false }
def FnExactServeGapsSaid : Prop := fnExactServeGapsRow.holds Try.pinned (OpenSpec.ofChange fnExactServeGapsSpec)

/-- ITS FALSE NEIGHBOUR: 'it returns false'. Refute it at one input. -/
def fnExactServeGapsWrong : ChangeSpec := { name := "fnExactServeGaps", fn := fun _ => fun
  | [d1, d2] => { results := [.lit (.bool false)], args := [d1, d2] }
  | _ => none }
def FnExactServeGapsWrongFalsely : Prop := fnExactServeGapsRow.holds Try.pinned (OpenSpec.ofChange fnExactServeGapsWrong)

/-- 'laws.FnServeRoom': WHATEVER THE INPUT: true; the input reads as it did. -/
def fnServeRoomSpec : ChangeSpec := { name := "fnServeRoom", fn := fun _ => fun
  | [d] => { results := [.lit (.bool true)], args := [d] }
  | _ => none }
def fnServeRoomRow : OpenClaim := { program := "ytehenjjaekkcfaa", sum := "13ab073c967b8c71463abdcc91b729c7ebdce566d7ecbc0fbc2e844753fb7ae9", func := "loop.example/messkitchen/laws.FnServeRoom", spec := "fnServeRoom", unfollowed := true, recurses := true, apart := false }
def FnServeRoomSaid : Prop := fnServeRoomRow.holds Try.pinned (OpenSpec.ofChange fnServeRoomSpec)

/-- ITS FALSE NEIGHBOUR: 'it returns false'. Refute it at one input. -/
def fnServeRoomWrong : ChangeSpec := { name := "fnServeRoom", fn := fun _ => fun
  | [d] => { results := [.lit (.bool false)], args := [d] }
  | _ => none }
def FnServeRoomWrongFalsely : Prop := fnServeRoomRow.holds Try.pinned (OpenSpec.ofChange fnServeRoomWrong)

/-- 'laws.FnServeRoomFound': WHATEVER THE INPUT: true; the input reads as it did. -/
def fnServeRoomFoundSpec : ChangeSpec := { name := "fnServeRoomFound", fn := fun _ => fun
  | [d] => { results := [.lit (.bool true)], args := [d] }
  | _ => none }
def fnServeRoomFoundRow : OpenClaim := { program := "ytehenjjaekkcfaa", sum := "13ab073c967b8c71463abdcc91b729c7ebdce566d7ecbc0fbc2e844753fb7ae9", func := "loop.example/messkitchen/laws.FnServeRoomFound", spec := "fnServeRoomFound", unfollowed := true, recurses := true, apart := false }
def FnServeRoomFoundSaid : Prop := fnServeRoomFoundRow.holds Try.pinned (OpenSpec.ofChange fnServeRoomFoundSpec)

/-- ITS FALSE NEIGHBOUR: 'it returns false'. Refute it at one input. -/
def fnServeRoomFoundWrong : ChangeSpec := { name := "fnServeRoomFound", fn := fun _ => fun
  | [d] => { results := [.lit (.bool false)], args := [d] }
  | _ => none }
def FnServeRoomFoundWrongFalsely : Prop := fnServeRoomFoundRow.holds Try.pinned (OpenSpec.ofChange fnServeRoomFoundWrong)

/-- 'laws.FnExactServeRoom': WHATEVER THE INPUT: true; the input reads as it did. -/
def fnExactServeRoomSpec : ChangeSpec := { name := "fnExactServeRoom", fn := fun _ => fun
  | [d1, d2] => { results := [.lit (.bool true)], args := [d1, d2] }
  | _ => none }
def fnExactServeRoomRow : OpenClaim := { program := "ytehenjjaekkcfaa", sum := "13ab073c967b8c71463abdcc91b729c7ebdce566d7ecbc0fbc2e844753fb7ae9", func := "loop.example/messkitchen/laws.FnExactServeRoom", spec := "fnExactServeRoom", unfollowed := true, recurses := true, apart := false }
def FnExactServeRoomSaid : Prop := fnExactServeRoomRow.holds Try.pinned (OpenSpec.ofChange fnExactServeRoomSpec)

/-- ITS FALSE NEIGHBOUR: 'it returns false'. Refute it at one input. -/
def fnExactServeRoomWrong : ChangeSpec := { name := "fnExactServeRoom", fn := fun _ => fun
  | [d1, d2] => { results := [.lit (.bool false)], args := [d1, d2] }
  | _ => none }
def FnExactServeRoomWrongFalsely : Prop := fnExactServeRoomRow.holds Try.pinned (OpenSpec.ofChange fnExactServeRoomWrong)

/- THE SECOND FORM. 'bulk': how many values and letters a reading holds, each counted each time it is reached (what is shared counts as often as it is met; a slice's spare places count too). A statement '..UptoSaid' is the law's where the arguments, and the package variables that the reading takes, are together of bulk at most 1048576: NARROWER than '..Said'. Prove '..Said' where nothing that the law and all that it calls make is longer than what came in: it says more and counts as full. Else prove '..UptoSaid'. A law counts once. -/
mutual
def uptoBulk {H : Type} : DataW H → Nat
  | .lit (.string bytes) => bytes.length + 1
  | .lit _ => 1
  | .nil => 1
  | .ptr d => uptoBulk d + 1
  | .slice elems spare => uptoBulkAll elems + uptoBulkAll spare + 1
  | .agg parts => uptoBulkAll parts + 1
  | .iface _ d => uptoBulk d + 1
  | .map entries => uptoBulkEntries entries + 1
  | .held _ => 1
def uptoBulkAll {H : Type} : List (DataW H) → Nat
  | [] => 0
  | d :: r => uptoBulk d + uptoBulkAll r
def uptoBulkEntries {H : Type} : List (Lit × DataW H) → Nat
  | [] => 0
  | x :: r => uptoBulkEntry x + uptoBulkEntries r
def uptoBulkEntry {H : Type} : Lit × DataW H → Nat
  | (.string bytes, d) => bytes.length + uptoBulk d + 1
  | (_, d) => uptoBulk d + 1
 end
def uptoSmall : (H : Type) → List (DataW H) → Bool := fun _ ds => decide (uptoBulkAll ds ≤ 1048576)
def OpenSpec.upto (s : _root_.Go.ChangeSpec) : _root_.Go.OpenSpec := { _root_.Go.OpenSpec.ofChange s with cond := some uptoSmall }

/-- 'laws.FnExactChoicesValid', WHERE WHAT IT READS IS OF BULK AT MOST 1048576: true; the input reads as it did. -/
def fnExactChoicesValidUptoRow : OpenClaim := { program := "ytehenjjaekkcfaa", sum := "13ab073c967b8c71463abdcc91b729c7ebdce566d7ecbc0fbc2e844753fb7ae9", func := "loop.example/messkitchen/laws.FnExactChoicesValid", spec := "fnExactChoicesValid", unfollowed := true, recurses := true, apart := false, narrowed := true }
def FnExactChoicesValidUptoSaid : Prop := fnExactChoicesValidUptoRow.holds Try.pinned (OpenSpec.upto fnExactChoicesValidSpec)

/-- 'laws.FnChoicesPart', WHERE WHAT IT READS IS OF BULK AT MOST 1048576: true; the input reads as it did. -/
def fnChoicesPartUptoRow : OpenClaim := { program := "ytehenjjaekkcfaa", sum := "13ab073c967b8c71463abdcc91b729c7ebdce566d7ecbc0fbc2e844753fb7ae9", func := "loop.example/messkitchen/laws.FnChoicesPart", spec := "fnChoicesPart", unfollowed := true, recurses := true, apart := false, narrowed := true }
def FnChoicesPartUptoSaid : Prop := fnChoicesPartUptoRow.holds Try.pinned (OpenSpec.upto fnChoicesPartSpec)

/-- 'laws.FnServeFirst', WHERE WHAT IT READS IS OF BULK AT MOST 1048576: true; the input reads as it did. -/
def fnServeFirstUptoRow : OpenClaim := { program := "ytehenjjaekkcfaa", sum := "13ab073c967b8c71463abdcc91b729c7ebdce566d7ecbc0fbc2e844753fb7ae9", func := "loop.example/messkitchen/laws.FnServeFirst", spec := "fnServeFirst", unfollowed := true, recurses := true, apart := false, narrowed := true }
def FnServeFirstUptoSaid : Prop := fnServeFirstUptoRow.holds Try.pinned (OpenSpec.upto fnServeFirstSpec)

/-- 'laws.FnServeGaps', WHERE WHAT IT READS IS OF BULK AT MOST 1048576: true; the input reads as it did. -/
def fnServeGapsUptoRow : OpenClaim := { program := "ytehenjjaekkcfaa", sum := "13ab073c967b8c71463abdcc91b729c7ebdce566d7ecbc0fbc2e844753fb7ae9", func := "loop.example/messkitchen/laws.FnServeGaps", spec := "fnServeGaps", unfollowed := true, recurses := true, apart := false, narrowed := true }
def FnServeGapsUptoSaid : Prop := fnServeGapsUptoRow.holds Try.pinned (OpenSpec.upto fnServeGapsSpec)

/-- 'laws.FnExactServeFits', WHERE WHAT IT READS IS OF BULK AT MOST 1048576: true; the input reads as it did. -/
def fnExactServeFitsUptoRow : OpenClaim := { program := "ytehenjjaekkcfaa", sum := "13ab073c967b8c71463abdcc91b729c7ebdce566d7ecbc0fbc2e844753fb7ae9", func := "loop.example/messkitchen/laws.FnExactServeFits", spec := "fnExactServeFits", unfollowed := true, recurses := true, apart := false, narrowed := true }
def FnExactServeFitsUptoSaid : Prop := fnExactServeFitsUptoRow.holds Try.pinned (OpenSpec.upto fnExactServeFitsSpec)

/-- 'laws.FnServeRoomFull', WHERE WHAT IT READS IS OF BULK AT MOST 1048576: true; the input reads as it did. -/
def fnServeRoomFullUptoRow : OpenClaim := { program := "ytehenjjaekkcfaa", sum := "13ab073c967b8c71463abdcc91b729c7ebdce566d7ecbc0fbc2e844753fb7ae9", func := "loop.example/messkitchen/laws.FnServeRoomFull", spec := "fnServeRoomFull", unfollowed := true, recurses := true, apart := false, narrowed := true }
def FnServeRoomFullUptoSaid : Prop := fnServeRoomFullUptoRow.holds Try.pinned (OpenSpec.upto fnServeRoomFullSpec)

/-- 'laws.FnExactServeFirst', WHERE WHAT IT READS IS OF BULK AT MOST 1048576: true; the input reads as it did. -/
def fnExactServeFirstUptoRow : OpenClaim := { program := "ytehenjjaekkcfaa", sum := "13ab073c967b8c71463abdcc91b729c7ebdce566d7ecbc0fbc2e844753fb7ae9", func := "loop.example/messkitchen/laws.FnExactServeFirst", spec := "fnExactServeFirst", unfollowed := true, recurses := true, apart := false, narrowed := true }
def FnExactServeFirstUptoSaid : Prop := fnExactServeFirstUptoRow.holds Try.pinned (OpenSpec.upto fnExactServeFirstSpec)

/-- 'laws.FnServeRoomMore', WHERE WHAT IT READS IS OF BULK AT MOST 1048576: true; the input reads as it did. -/
def fnServeRoomMoreUptoRow : OpenClaim := { program := "ytehenjjaekkcfaa", sum := "13ab073c967b8c71463abdcc91b729c7ebdce566d7ecbc0fbc2e844753fb7ae9", func := "loop.example/messkitchen/laws.FnServeRoomMore", spec := "fnServeRoomMore", unfollowed := true, recurses := true, apart := false, narrowed := true }
def FnServeRoomMoreUptoSaid : Prop := fnServeRoomMoreUptoRow.holds Try.pinned (OpenSpec.upto fnServeRoomMoreSpec)

/-- 'laws.FnServeFits', WHERE WHAT IT READS IS OF BULK AT MOST 1048576: true; the input reads as it did. -/
def fnServeFitsUptoRow : OpenClaim := { program := "ytehenjjaekkcfaa", sum := "13ab073c967b8c71463abdcc91b729c7ebdce566d7ecbc0fbc2e844753fb7ae9", func := "loop.example/messkitchen/laws.FnServeFits", spec := "fnServeFits", unfollowed := true, recurses := true, apart := false, narrowed := true }
def FnServeFitsUptoSaid : Prop := fnServeFitsUptoRow.holds Try.pinned (OpenSpec.upto fnServeFitsSpec)

/-- 'laws.FnExactServeGaps', WHERE WHAT IT READS IS OF BULK AT MOST 1048576: true; the input reads as it did. -/
def fnExactServeGapsUptoRow : OpenClaim := { program := "ytehenjjaekkcfaa", sum := "13ab073c967b8c71463abdcc91b729c7ebdce566d7ecbc0fbc2e844753fb7ae9", func := "loop.example/messkitchen/laws.FnExactServeGaps", spec := "fnExactServeGaps", unfollowed := true, recurses := true, apart := false, narrowed := true }
def FnExactServeGapsUptoSaid : Prop := fnExactServeGapsUptoRow.holds Try.pinned (OpenSpec.upto fnExactServeGapsSpec)

/-- 'laws.FnServeRoom', WHERE WHAT IT READS IS OF BULK AT MOST 1048576: true; the input reads as it did. -/
def fnServeRoomUptoRow : OpenClaim := { program := "ytehenjjaekkcfaa", sum := "13ab073c967b8c71463abdcc91b729c7ebdce566d7ecbc0fbc2e844753fb7ae9", func := "loop.example/messkitchen/laws.FnServeRoom", spec := "fnServeRoom", unfollowed := true, recurses := true, apart := false, narrowed := true }
def FnServeRoomUptoSaid : Prop := fnServeRoomUptoRow.holds Try.pinned (OpenSpec.upto fnServeRoomSpec)

/-- 'laws.FnServeRoomFound', WHERE WHAT IT READS IS OF BULK AT MOST 1048576: true; the input reads as it did. -/
def fnServeRoomFoundUptoRow : OpenClaim := { program := "ytehenjjaekkcfaa", sum := "13ab073c967b8c71463abdcc91b729c7ebdce566d7ecbc0fbc2e844753fb7ae9", func := "loop.example/messkitchen/laws.FnServeRoomFound", spec := "fnServeRoomFound", unfollowed := true, recurses := true, apart := false, narrowed := true }
def FnServeRoomFoundUptoSaid : Prop := fnServeRoomFoundUptoRow.holds Try.pinned (OpenSpec.upto fnServeRoomFoundSpec)

/-- 'laws.FnExactServeRoom', WHERE WHAT IT READS IS OF BULK AT MOST 1048576: true; the input reads as it did. -/
def fnExactServeRoomUptoRow : OpenClaim := { program := "ytehenjjaekkcfaa", sum := "13ab073c967b8c71463abdcc91b729c7ebdce566d7ecbc0fbc2e844753fb7ae9", func := "loop.example/messkitchen/laws.FnExactServeRoom", spec := "fnExactServeRoom", unfollowed := true, recurses := true, apart := false, narrowed := true }
def FnExactServeRoomUptoSaid : Prop := fnExactServeRoomUptoRow.holds Try.pinned (OpenSpec.upto fnExactServeRoomSpec)

end Rows
end Go.Proofs.Ytehenjjaekkcfaa
