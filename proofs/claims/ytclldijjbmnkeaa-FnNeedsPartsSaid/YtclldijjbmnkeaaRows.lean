/-
  No cell of these rows narrows 'for every input' (looked for: loops, veiled, ifaces, maps, wideKeys, modest, calm, conditions, laid).
  DERIVED. THE GIVEN ROWS OF THIS SEAT. 16 by the template 'for every input the law returns true; each argument reads behind the call as it read before'; 0 by the template 'total and deterministic' (their statements: YtclldijjbmnkeaaTotals.lean).
  GIVEN WITH THE SEED: the statements are not yours to turn. If you find one false, say at which input.
  Laid BY PROGRAM, IN A SANDBOX (cutbox-rows.mjs): the forced cells as the released guide's own fill.sh prints them over the translation b2fd1b3767e0b3a6… (all of the seat's roots in one cut). By AI agents, Wed Nov 11 2026. No macro, syntax, notation, axiom, sorry.
-/
import Derived.Test.YtclldijjbmnkeaaChecked
import GoSem.Claim
import GoSem.ClaimJoined
import GoSem.ClaimMapViews
import Derived.JoinedTies
import Derived.KernelRfl
namespace Go.Proofs.Ytclldijjbmnkeaa
/- THE CELL 'sum', in the pinned program and in every row, IS THE sha256 OF THE DUMP (.gsa) THAT YtclldijjbmnkeaaProg.lean LOADS. Nothing in Lean hashes anything: it is a label: what it is worth is what the hold of that sum in a sandbox is worth. -/
noncomputable def Try.pinned : Pinned := { name := "ytclldijjbmnkeaa", sum := "b2fd1b3767e0b3a616fcfbbd38b7fdadcf246da56a98ef8258fb7a345694fa2b", checked := Try.checked }
namespace Rows
def none {H : Type} : Left H := { results := [], args := [] }

/-- 'laws.FnDishesFind': WHATEVER THE INPUT: true; the input reads as it did. -/
def fnDishesFindSpec : ChangeSpec := { name := "fnDishesFind", fn := fun _ => fun
  | [d] => { results := [.lit (.bool true)], args := [d] }
  | _ => none }
def fnDishesFindRow : OpenClaim := { program := "ytclldijjbmnkeaa", sum := "b2fd1b3767e0b3a616fcfbbd38b7fdadcf246da56a98ef8258fb7a345694fa2b", func := "loop.example/messkitchen/laws.FnDishesFind", spec := "fnDishesFind", unfollowed := true, recurses := true, apart := false }
def FnDishesFindSaid : Prop := fnDishesFindRow.holds Try.pinned (OpenSpec.ofChange fnDishesFindSpec)

/-- ITS FALSE NEIGHBOUR: 'it returns false'. Refute it at one input. -/
def fnDishesFindWrong : ChangeSpec := { name := "fnDishesFind", fn := fun _ => fun
  | [d] => { results := [.lit (.bool false)], args := [d] }
  | _ => none }
def FnDishesFindWrongFalsely : Prop := fnDishesFindRow.holds Try.pinned (OpenSpec.ofChange fnDishesFindWrong)

/-- 'laws.FnExactDishesFind': WHATEVER THE INPUT: true; the input reads as it did. -/
def fnExactDishesFindSpec : ChangeSpec := { name := "fnExactDishesFind", fn := fun _ => fun
  | [d1, d2] => { results := [.lit (.bool true)], args := [d1, d2] }
  | _ => none }
def fnExactDishesFindRow : OpenClaim := { program := "ytclldijjbmnkeaa", sum := "b2fd1b3767e0b3a616fcfbbd38b7fdadcf246da56a98ef8258fb7a345694fa2b", func := "loop.example/messkitchen/laws.FnExactDishesFind", spec := "fnExactDishesFind", unfollowed := true, recurses := true, apart := false }
def FnExactDishesFindSaid : Prop := fnExactDishesFindRow.holds Try.pinned (OpenSpec.ofChange fnExactDishesFindSpec)

/-- ITS FALSE NEIGHBOUR: 'it returns false'. Refute it at one input. -/
def fnExactDishesFindWrong : ChangeSpec := { name := "fnExactDishesFind", fn := fun _ => fun
  | [d1, d2] => { results := [.lit (.bool false)], args := [d1, d2] }
  | _ => none }
def FnExactDishesFindWrongFalsely : Prop := fnExactDishesFindRow.holds Try.pinned (OpenSpec.ofChange fnExactDishesFindWrong)

/-- 'laws.FnExactDishAllergens': WHATEVER THE INPUT: true; the input reads as it did. -/
def fnExactDishAllergensSpec : ChangeSpec := { name := "fnExactDishAllergens", fn := fun _ => fun
  | [d1, d2, d3] => { results := [.lit (.bool true)], args := [d1, d2, d3] }
  | _ => none }
def fnExactDishAllergensRow : OpenClaim := { program := "ytclldijjbmnkeaa", sum := "b2fd1b3767e0b3a616fcfbbd38b7fdadcf246da56a98ef8258fb7a345694fa2b", func := "loop.example/messkitchen/laws.FnExactDishAllergens", spec := "fnExactDishAllergens", unfollowed := true, recurses := true, apart := false }
def FnExactDishAllergensSaid : Prop := fnExactDishAllergensRow.holds Try.pinned (OpenSpec.ofChange fnExactDishAllergensSpec)

/-- ITS FALSE NEIGHBOUR: 'it returns false'. Refute it at one input. -/
def fnExactDishAllergensWrong : ChangeSpec := { name := "fnExactDishAllergens", fn := fun _ => fun
  | [d1, d2, d3] => { results := [.lit (.bool false)], args := [d1, d2, d3] }
  | _ => none }
def FnExactDishAllergensWrongFalsely : Prop := fnExactDishAllergensRow.holds Try.pinned (OpenSpec.ofChange fnExactDishAllergensWrong)

/-- 'laws.FnExactDishUses': WHATEVER THE INPUT: true; the input reads as it did. -/
def fnExactDishUsesSpec : ChangeSpec := { name := "fnExactDishUses", fn := fun _ => fun
  | [d1, d2, d3] => { results := [.lit (.bool true)], args := [d1, d2, d3] }
  | _ => none }
def fnExactDishUsesRow : OpenClaim := { program := "ytclldijjbmnkeaa", sum := "b2fd1b3767e0b3a616fcfbbd38b7fdadcf246da56a98ef8258fb7a345694fa2b", func := "loop.example/messkitchen/laws.FnExactDishUses", spec := "fnExactDishUses", unfollowed := true, recurses := true, apart := false }
def FnExactDishUsesSaid : Prop := fnExactDishUsesRow.holds Try.pinned (OpenSpec.ofChange fnExactDishUsesSpec)

/-- ITS FALSE NEIGHBOUR: 'it returns false'. Refute it at one input. -/
def fnExactDishUsesWrong : ChangeSpec := { name := "fnExactDishUses", fn := fun _ => fun
  | [d1, d2, d3] => { results := [.lit (.bool false)], args := [d1, d2, d3] }
  | _ => none }
def FnExactDishUsesWrongFalsely : Prop := fnExactDishUsesRow.holds Try.pinned (OpenSpec.ofChange fnExactDishUsesWrong)

/-- 'laws.FnExactDishNeeds': WHATEVER THE INPUT: true; the input reads as it did. -/
def fnExactDishNeedsSpec : ChangeSpec := { name := "fnExactDishNeeds", fn := fun _ => fun
  | [d1, d2, d3, d4] => { results := [.lit (.bool true)], args := [d1, d2, d3, d4] }
  | _ => none }
def fnExactDishNeedsRow : OpenClaim := { program := "ytclldijjbmnkeaa", sum := "b2fd1b3767e0b3a616fcfbbd38b7fdadcf246da56a98ef8258fb7a345694fa2b", func := "loop.example/messkitchen/laws.FnExactDishNeeds", spec := "fnExactDishNeeds", unfollowed := true, recurses := true, apart := false }
def FnExactDishNeedsSaid : Prop := fnExactDishNeedsRow.holds Try.pinned (OpenSpec.ofChange fnExactDishNeedsSpec)

/-- ITS FALSE NEIGHBOUR: 'it returns false'. Refute it at one input. -/
def fnExactDishNeedsWrong : ChangeSpec := { name := "fnExactDishNeeds", fn := fun _ => fun
  | [d1, d2, d3, d4] => { results := [.lit (.bool false)], args := [d1, d2, d3, d4] }
  | _ => none }
def FnExactDishNeedsWrongFalsely : Prop := fnExactDishNeedsRow.holds Try.pinned (OpenSpec.ofChange fnExactDishNeedsWrong)

/-- 'laws.FnDishesPart': WHATEVER THE INPUT: true; the input reads as it did. -/
def fnDishesPartSpec : ChangeSpec := { name := "fnDishesPart", fn := fun _ => fun
  | [d] => { results := [.lit (.bool true)], args := [d] }
  | _ => none }
def fnDishesPartRow : OpenClaim := { program := "ytclldijjbmnkeaa", sum := "b2fd1b3767e0b3a616fcfbbd38b7fdadcf246da56a98ef8258fb7a345694fa2b", func := "loop.example/messkitchen/laws.FnDishesPart", spec := "fnDishesPart", unfollowed := true, recurses := true, apart := false }
def FnDishesPartSaid : Prop := fnDishesPartRow.holds Try.pinned (OpenSpec.ofChange fnDishesPartSpec)

/-- ITS FALSE NEIGHBOUR: 'it returns false'. Refute it at one input. -/
def fnDishesPartWrong : ChangeSpec := { name := "fnDishesPart", fn := fun _ => fun
  | [d] => { results := [.lit (.bool false)], args := [d] }
  | _ => none }
def FnDishesPartWrongFalsely : Prop := fnDishesPartRow.holds Try.pinned (OpenSpec.ofChange fnDishesPartWrong)

/-- 'laws.FnExactDishesValid': WHATEVER THE INPUT: true; the input reads as it did. -/
def fnExactDishesValidSpec : ChangeSpec := { name := "fnExactDishesValid", fn := fun _ => fun
  | [d1, d2] => { results := [.lit (.bool true)], args := [d1, d2] }
  | _ => none }
def fnExactDishesValidRow : OpenClaim := { program := "ytclldijjbmnkeaa", sum := "b2fd1b3767e0b3a616fcfbbd38b7fdadcf246da56a98ef8258fb7a345694fa2b", func := "loop.example/messkitchen/laws.FnExactDishesValid", spec := "fnExactDishesValid", unfollowed := true, recurses := true, apart := false }
def FnExactDishesValidSaid : Prop := fnExactDishesValidRow.holds Try.pinned (OpenSpec.ofChange fnExactDishesValidSpec)

/-- ITS FALSE NEIGHBOUR: 'it returns false'. Refute it at one input. -/
def fnExactDishesValidWrong : ChangeSpec := { name := "fnExactDishesValid", fn := fun _ => fun
  | [d1, d2] => { results := [.lit (.bool false)], args := [d1, d2] }
  | _ => none }
def FnExactDishesValidWrongFalsely : Prop := fnExactDishesValidRow.holds Try.pinned (OpenSpec.ofChange fnExactDishesValidWrong)

/-- 'laws.FnDishUsesPart': WHATEVER THE INPUT: true; the input reads as it did. -/
def fnDishUsesPartSpec : ChangeSpec := { name := "fnDishUsesPart", fn := fun _ => fun
  | [d] => { results := [.lit (.bool true)], args := [d] }
  | _ => none }
def fnDishUsesPartRow : OpenClaim := { program := "ytclldijjbmnkeaa", sum := "b2fd1b3767e0b3a616fcfbbd38b7fdadcf246da56a98ef8258fb7a345694fa2b", func := "loop.example/messkitchen/laws.FnDishUsesPart", spec := "fnDishUsesPart", unfollowed := true, recurses := true, apart := false }
def FnDishUsesPartSaid : Prop := fnDishUsesPartRow.holds Try.pinned (OpenSpec.ofChange fnDishUsesPartSpec)

/-- ITS FALSE NEIGHBOUR: 'it returns false'. Refute it at one input. -/
def fnDishUsesPartWrong : ChangeSpec := { name := "fnDishUsesPart", fn := fun _ => fun
  | [d] => { results := [.lit (.bool false)], args := [d] }
  | _ => none }
def FnDishUsesPartWrongFalsely : Prop := fnDishUsesPartRow.holds Try.pinned (OpenSpec.ofChange fnDishUsesPartWrong)

/-- 'laws.FnDishUses': WHATEVER THE INPUT: true; the input reads as it did. -/
def fnDishUsesSpec : ChangeSpec := { name := "fnDishUses", fn := fun _ => fun
  | [d] => { results := [.lit (.bool true)], args := [d] }
  | _ => none }
def fnDishUsesRow : OpenClaim := { program := "ytclldijjbmnkeaa", sum := "b2fd1b3767e0b3a616fcfbbd38b7fdadcf246da56a98ef8258fb7a345694fa2b", func := "loop.example/messkitchen/laws.FnDishUses", spec := "fnDishUses", unfollowed := true, recurses := true, apart := false }
def FnDishUsesSaid : Prop := fnDishUsesRow.holds Try.pinned (OpenSpec.ofChange fnDishUsesSpec)

/-- ITS FALSE NEIGHBOUR: 'it returns false'. Refute it at one input. -/
def fnDishUsesWrong : ChangeSpec := { name := "fnDishUses", fn := fun _ => fun
  | [d] => { results := [.lit (.bool false)], args := [d] }
  | _ => none }
def FnDishUsesWrongFalsely : Prop := fnDishUsesRow.holds Try.pinned (OpenSpec.ofChange fnDishUsesWrong)

/-- 'laws.FnNeeds': WHATEVER THE INPUT: true; the input reads as it did. -/
def fnNeedsSpec : ChangeSpec := { name := "fnNeeds", fn := fun _ => fun
  | [d] => { results := [.lit (.bool true)], args := [d] }
  | _ => none }
def fnNeedsRow : OpenClaim := { program := "ytclldijjbmnkeaa", sum := "b2fd1b3767e0b3a616fcfbbd38b7fdadcf246da56a98ef8258fb7a345694fa2b", func := "loop.example/messkitchen/laws.FnNeeds", spec := "fnNeeds", unfollowed := true, recurses := true, apart := false }
def FnNeedsSaid : Prop := fnNeedsRow.holds Try.pinned (OpenSpec.ofChange fnNeedsSpec)

/-- ITS FALSE NEIGHBOUR: 'it returns false'. Refute it at one input. -/
def fnNeedsWrong : ChangeSpec := { name := "fnNeeds", fn := fun _ => fun
  | [d] => { results := [.lit (.bool false)], args := [d] }
  | _ => none }
def FnNeedsWrongFalsely : Prop := fnNeedsRow.holds Try.pinned (OpenSpec.ofChange fnNeedsWrong)

/-- 'laws.FnNeedsParts': WHATEVER THE INPUT: true; the input reads as it did. -/
def fnNeedsPartsSpec : ChangeSpec := { name := "fnNeedsParts", fn := fun _ => fun
  | [d] => { results := [.lit (.bool true)], args := [d] }
  | _ => none }
def fnNeedsPartsRow : OpenClaim := { program := "ytclldijjbmnkeaa", sum := "b2fd1b3767e0b3a616fcfbbd38b7fdadcf246da56a98ef8258fb7a345694fa2b", func := "loop.example/messkitchen/laws.FnNeedsParts", spec := "fnNeedsParts", unfollowed := true, recurses := true, apart := false }
def FnNeedsPartsSaid : Prop := fnNeedsPartsRow.holds Try.pinned (OpenSpec.ofChange fnNeedsPartsSpec)

/-- ITS FALSE NEIGHBOUR: 'it returns false'. Refute it at one input. -/
def fnNeedsPartsWrong : ChangeSpec := { name := "fnNeedsParts", fn := fun _ => fun
  | [d] => { results := [.lit (.bool false)], args := [d] }
  | _ => none }
def FnNeedsPartsWrongFalsely : Prop := fnNeedsPartsRow.holds Try.pinned (OpenSpec.ofChange fnNeedsPartsWrong)

/-- 'laws.FnNeedsTwo': WHATEVER THE INPUT: true; the input reads as it did. -/
def fnNeedsTwoSpec : ChangeSpec := { name := "fnNeedsTwo", fn := fun _ => fun
  | [d1, d2] => { results := [.lit (.bool true)], args := [d1, d2] }
  | _ => none }
def fnNeedsTwoRow : OpenClaim := { program := "ytclldijjbmnkeaa", sum := "b2fd1b3767e0b3a616fcfbbd38b7fdadcf246da56a98ef8258fb7a345694fa2b", func := "loop.example/messkitchen/laws.FnNeedsTwo", spec := "fnNeedsTwo", unfollowed := true, recurses := true, apart := false }
def FnNeedsTwoSaid : Prop := fnNeedsTwoRow.holds Try.pinned (OpenSpec.ofChange fnNeedsTwoSpec)

/-- ITS FALSE NEIGHBOUR: 'it returns false'. Refute it at one input. -/
def fnNeedsTwoWrong : ChangeSpec := { name := "fnNeedsTwo", fn := fun _ => fun
  | [d1, d2] => { results := [.lit (.bool false)], args := [d1, d2] }
  | _ => none }
def FnNeedsTwoWrongFalsely : Prop := fnNeedsTwoRow.holds Try.pinned (OpenSpec.ofChange fnNeedsTwoWrong)

/-- 'laws.FnDishKind': WHATEVER THE INPUT: true; the input reads as it did. -/
def fnDishKindSpec : ChangeSpec := { name := "fnDishKind", fn := fun _ => fun
  | [d] => { results := [.lit (.bool true)], args := [d] }
  | _ => none }
def fnDishKindRow : OpenClaim := { program := "ytclldijjbmnkeaa", sum := "b2fd1b3767e0b3a616fcfbbd38b7fdadcf246da56a98ef8258fb7a345694fa2b", func := "loop.example/messkitchen/laws.FnDishKind", spec := "fnDishKind", unfollowed := true, recurses := true, apart := false }
def FnDishKindSaid : Prop := fnDishKindRow.holds Try.pinned (OpenSpec.ofChange fnDishKindSpec)

/-- ITS FALSE NEIGHBOUR: 'it returns false'. Refute it at one input. -/
def fnDishKindWrong : ChangeSpec := { name := "fnDishKind", fn := fun _ => fun
  | [d] => { results := [.lit (.bool false)], args := [d] }
  | _ => none }
def FnDishKindWrongFalsely : Prop := fnDishKindRow.holds Try.pinned (OpenSpec.ofChange fnDishKindWrong)

/-- 'laws.FnNeedsMore': WHATEVER THE INPUT: true; the input reads as it did. -/
def fnNeedsMoreSpec : ChangeSpec := { name := "fnNeedsMore", fn := fun _ => fun
  | [d] => { results := [.lit (.bool true)], args := [d] }
  | _ => none }
def fnNeedsMoreRow : OpenClaim := { program := "ytclldijjbmnkeaa", sum := "b2fd1b3767e0b3a616fcfbbd38b7fdadcf246da56a98ef8258fb7a345694fa2b", func := "loop.example/messkitchen/laws.FnNeedsMore", spec := "fnNeedsMore", unfollowed := true, recurses := true, apart := false }
def FnNeedsMoreSaid : Prop := fnNeedsMoreRow.holds Try.pinned (OpenSpec.ofChange fnNeedsMoreSpec)

/-- ITS FALSE NEIGHBOUR: 'it returns false'. Refute it at one input. -/
def fnNeedsMoreWrong : ChangeSpec := { name := "fnNeedsMore", fn := fun _ => fun
  | [d] => { results := [.lit (.bool false)], args := [d] }
  | _ => none }
def FnNeedsMoreWrongFalsely : Prop := fnNeedsMoreRow.holds Try.pinned (OpenSpec.ofChange fnNeedsMoreWrong)

/-- 'laws.FnDishAllergens': WHATEVER THE INPUT: true; the input reads as it did. -/
def fnDishAllergensSpec : ChangeSpec := { name := "fnDishAllergens", fn := fun _ => fun
  | [d] => { results := [.lit (.bool true)], args := [d] }
  | _ => none }
def fnDishAllergensRow : OpenClaim := { program := "ytclldijjbmnkeaa", sum := "b2fd1b3767e0b3a616fcfbbd38b7fdadcf246da56a98ef8258fb7a345694fa2b", func := "loop.example/messkitchen/laws.FnDishAllergens", spec := "fnDishAllergens", unfollowed := true, recurses := true, apart := false }
def FnDishAllergensSaid : Prop := fnDishAllergensRow.holds Try.pinned (OpenSpec.ofChange fnDishAllergensSpec)

/-- ITS FALSE NEIGHBOUR: 'it returns false'. Refute it at one input. -/
def fnDishAllergensWrong : ChangeSpec := { name := "fnDishAllergens", fn := fun _ => fun
  | [d] => { results := [.lit (.bool false)], args := [d] }
  | _ => none }
def FnDishAllergensWrongFalsely : Prop := fnDishAllergensRow.holds Try.pinned (OpenSpec.ofChange fnDishAllergensWrong)

/-- 'laws.FnExactDishKind': WHATEVER THE INPUT: true; the input reads as it did. -/
def fnExactDishKindSpec : ChangeSpec := { name := "fnExactDishKind", fn := fun _ => fun
  | [d1, d2, d3] => { results := [.lit (.bool true)], args := [d1, d2, d3] }
  | _ => none }
def fnExactDishKindRow : OpenClaim := { program := "ytclldijjbmnkeaa", sum := "b2fd1b3767e0b3a616fcfbbd38b7fdadcf246da56a98ef8258fb7a345694fa2b", func := "loop.example/messkitchen/laws.FnExactDishKind", spec := "fnExactDishKind", unfollowed := true, recurses := true, apart := false }
def FnExactDishKindSaid : Prop := fnExactDishKindRow.holds Try.pinned (OpenSpec.ofChange fnExactDishKindSpec)

/-- ITS FALSE NEIGHBOUR: 'it returns false'. Refute it at one input. -/
def fnExactDishKindWrong : ChangeSpec := { name := "fnExactDishKind", fn := fun _ => fun
  | [d1, d2, d3] => { results := [.lit (.bool false)], args := [d1, d2, d3] }
  | _ => none }
def FnExactDishKindWrongFalsely : Prop := fnExactDishKindRow.holds Try.pinned (OpenSpec.ofChange fnExactDishKindWrong)

/- THE SECOND FORM. 'bulk': how many values and letters a reading holds, each counted each time it is reached (what is shared counts as often as it is met; a slice's spare places count too). A statement '..UptoSaid' is the law's where the arguments, and the package variables that the reading takes, are together of bulk at most 1048576: NARROWER than '..Said'. Prove '..Said' where nothing that the law and all that it calls make is longer than what came in: it says more and counts as full. Else prove '..UptoSaid'. A law counts once. -/
mutual
def uptoBulk {H : Type} : DataW H → Nat
  | .lit (.string bytes) => bytes.length + 1
  | .lit _ => 1
  | .nil => 1
  | .ptr d => uptoBulk d + 1
  | .slice elems spare => uptoBulkAll elems + uptoBulkAll spare + 1
  | .agg parts => uptoBulkAll parts + 1
  | .iface _ d => uptoBulk d + 1
  | .map entries => uptoBulkEntries entries + 1
  | .held _ => 1
def uptoBulkAll {H : Type} : List (DataW H) → Nat
  | [] => 0
  | d :: r => uptoBulk d + uptoBulkAll r
def uptoBulkEntries {H : Type} : List (Lit × DataW H) → Nat
  | [] => 0
  | x :: r => uptoBulkEntry x + uptoBulkEntries r
def uptoBulkEntry {H : Type} : Lit × DataW H → Nat
  | (.string bytes, d) => bytes.length + uptoBulk d + 1
  | (_, d) => uptoBulk d + 1
 end
def uptoSmall : (H : Type) → List (DataW H) → Bool := fun _ ds => decide (uptoBulkAll ds ≤ 1048576)
def OpenSpec.upto (s : _root_.Go.ChangeSpec) : _root_.Go.OpenSpec := { _root_.Go.OpenSpec.ofChange s with cond := some uptoSmall }

/-- 'laws.FnDishesFind', WHERE WHAT IT READS IS OF BULK AT MOST 1048576: true; the input reads as it did. -/
def fnDishesFindUptoRow : OpenClaim := { program := "ytclldijjbmnkeaa", sum := "b2fd1b3767e0b3a616fcfbbd38b7fdadcf246da56a98ef8258fb7a345694fa2b", func := "loop.example/messkitchen/laws.FnDishesFind", spec := "fnDishesFind", unfollowed := true, recurses := true, apart := false, narrowed := true }
def FnDishesFindUptoSaid : Prop := fnDishesFindUptoRow.holds Try.pinned (OpenSpec.upto fnDishesFindSpec)

/-- 'laws.FnExactDishesFind', WHERE WHAT IT READS IS OF BULK AT MOST 1048576: true; the input reads as it did. -/
def fnExactDishesFindUptoRow : OpenClaim := { program := "ytclldijjbmnkeaa", sum := "b2fd1b3767e0b3a616fcfbbd38b7fdadcf246da56a98ef8258fb7a345694fa2b", func := "loop.example/messkitchen/laws.FnExactDishesFind", spec := "fnExactDishesFind", unfollowed := true, recurses := true, apart := false, narrowed := true }
def FnExactDishesFindUptoSaid : Prop := fnExactDishesFindUptoRow.holds Try.pinned (OpenSpec.upto fnExactDishesFindSpec)

/-- 'laws.FnExactDishAllergens', WHERE WHAT IT READS IS OF BULK AT MOST 1048576: true; the input reads as it did. -/
def fnExactDishAllergensUptoRow : OpenClaim := { program := "ytclldijjbmnkeaa", sum := "b2fd1b3767e0b3a616fcfbbd38b7fdadcf246da56a98ef8258fb7a345694fa2b", func := "loop.example/messkitchen/laws.FnExactDishAllergens", spec := "fnExactDishAllergens", unfollowed := true, recurses := true, apart := false, narrowed := true }
def FnExactDishAllergensUptoSaid : Prop := fnExactDishAllergensUptoRow.holds Try.pinned (OpenSpec.upto fnExactDishAllergensSpec)

/-- 'laws.FnExactDishUses', WHERE WHAT IT READS IS OF BULK AT MOST 1048576: true; the input reads as it did. -/
def fnExactDishUsesUptoRow : OpenClaim := { program := "ytclldijjbmnkeaa", sum := "b2fd1b3767e0b3a616fcfbbd38b7fdadcf246da56a98ef8258fb7a345694fa2b", func := "loop.example/messkitchen/laws.FnExactDishUses", spec := "fnExactDishUses", unfollowed := true, recurses := true, apart := false, narrowed := true }
def FnExactDishUsesUptoSaid : Prop := fnExactDishUsesUptoRow.holds Try.pinned (OpenSpec.upto fnExactDishUsesSpec)

/-- 'laws.FnExactDishNeeds', WHERE WHAT IT READS IS OF BULK AT MOST 1048576: true; the input reads as it did. -/
def fnExactDishNeedsUptoRow : OpenClaim := { program := "ytclldijjbmnkeaa", sum := "b2fd1b3767e0b3a616fcfbbd38b7fdadcf246da56a98ef8258fb7a345694fa2b", func := "loop.example/messkitchen/laws.FnExactDishNeeds", spec := "fnExactDishNeeds", unfollowed := true, recurses := true, apart := false, narrowed := true }
def FnExactDishNeedsUptoSaid : Prop := fnExactDishNeedsUptoRow.holds Try.pinned (OpenSpec.upto fnExactDishNeedsSpec)

/-- 'laws.FnDishesPart', WHERE WHAT IT READS IS OF BULK AT MOST 1048576: true; the input reads as it did. -/
def fnDishesPartUptoRow : OpenClaim := { program := "ytclldijjbmnkeaa", sum := "b2fd1b3767e0b3a616fcfbbd38b7fdadcf246da56a98ef8258fb7a345694fa2b", func := "loop.example/messkitchen/laws.FnDishesPart", spec := "fnDishesPart", unfollowed := true, recurses := true, apart := false, narrowed := true }
def FnDishesPartUptoSaid : Prop := fnDishesPartUptoRow.holds Try.pinned (OpenSpec.upto fnDishesPartSpec)

/-- 'laws.FnExactDishesValid', WHERE WHAT IT READS IS OF BULK AT MOST 1048576: true; the input reads as it did. -/
def fnExactDishesValidUptoRow : OpenClaim := { program := "ytclldijjbmnkeaa", sum := "b2fd1b3767e0b3a616fcfbbd38b7fdadcf246da56a98ef8258fb7a345694fa2b", func := "loop.example/messkitchen/laws.FnExactDishesValid", spec := "fnExactDishesValid", unfollowed := true, recurses := true, apart := false, narrowed := true }
def FnExactDishesValidUptoSaid : Prop := fnExactDishesValidUptoRow.holds Try.pinned (OpenSpec.upto fnExactDishesValidSpec)

/-- 'laws.FnDishUsesPart', WHERE WHAT IT READS IS OF BULK AT MOST 1048576: true; the input reads as it did. -/
def fnDishUsesPartUptoRow : OpenClaim := { program := "ytclldijjbmnkeaa", sum := "b2fd1b3767e0b3a616fcfbbd38b7fdadcf246da56a98ef8258fb7a345694fa2b", func := "loop.example/messkitchen/laws.FnDishUsesPart", spec := "fnDishUsesPart", unfollowed := true, recurses := true, apart := false, narrowed := true }
def FnDishUsesPartUptoSaid : Prop := fnDishUsesPartUptoRow.holds Try.pinned (OpenSpec.upto fnDishUsesPartSpec)

/-- 'laws.FnDishUses', WHERE WHAT IT READS IS OF BULK AT MOST 1048576: true; the input reads as it did. -/
def fnDishUsesUptoRow : OpenClaim := { program := "ytclldijjbmnkeaa", sum := "b2fd1b3767e0b3a616fcfbbd38b7fdadcf246da56a98ef8258fb7a345694fa2b", func := "loop.example/messkitchen/laws.FnDishUses", spec := "fnDishUses", unfollowed := true, recurses := true, apart := false, narrowed := true }
def FnDishUsesUptoSaid : Prop := fnDishUsesUptoRow.holds Try.pinned (OpenSpec.upto fnDishUsesSpec)

/-- 'laws.FnNeeds', WHERE WHAT IT READS IS OF BULK AT MOST 1048576: true; the input reads as it did. -/
def fnNeedsUptoRow : OpenClaim := { program := "ytclldijjbmnkeaa", sum := "b2fd1b3767e0b3a616fcfbbd38b7fdadcf246da56a98ef8258fb7a345694fa2b", func := "loop.example/messkitchen/laws.FnNeeds", spec := "fnNeeds", unfollowed := true, recurses := true, apart := false, narrowed := true }
def FnNeedsUptoSaid : Prop := fnNeedsUptoRow.holds Try.pinned (OpenSpec.upto fnNeedsSpec)

/-- 'laws.FnNeedsParts', WHERE WHAT IT READS IS OF BULK AT MOST 1048576: true; the input reads as it did. -/
def fnNeedsPartsUptoRow : OpenClaim := { program := "ytclldijjbmnkeaa", sum := "b2fd1b3767e0b3a616fcfbbd38b7fdadcf246da56a98ef8258fb7a345694fa2b", func := "loop.example/messkitchen/laws.FnNeedsParts", spec := "fnNeedsParts", unfollowed := true, recurses := true, apart := false, narrowed := true }
def FnNeedsPartsUptoSaid : Prop := fnNeedsPartsUptoRow.holds Try.pinned (OpenSpec.upto fnNeedsPartsSpec)

/-- 'laws.FnNeedsTwo', WHERE WHAT IT READS IS OF BULK AT MOST 1048576: true; the input reads as it did. -/
def fnNeedsTwoUptoRow : OpenClaim := { program := "ytclldijjbmnkeaa", sum := "b2fd1b3767e0b3a616fcfbbd38b7fdadcf246da56a98ef8258fb7a345694fa2b", func := "loop.example/messkitchen/laws.FnNeedsTwo", spec := "fnNeedsTwo", unfollowed := true, recurses := true, apart := false, narrowed := true }
def FnNeedsTwoUptoSaid : Prop := fnNeedsTwoUptoRow.holds Try.pinned (OpenSpec.upto fnNeedsTwoSpec)

/-- 'laws.FnDishKind', WHERE WHAT IT READS IS OF BULK AT MOST 1048576: true; the input reads as it did. -/
def fnDishKindUptoRow : OpenClaim := { program := "ytclldijjbmnkeaa", sum := "b2fd1b3767e0b3a616fcfbbd38b7fdadcf246da56a98ef8258fb7a345694fa2b", func := "loop.example/messkitchen/laws.FnDishKind", spec := "fnDishKind", unfollowed := true, recurses := true, apart := false, narrowed := true }
def FnDishKindUptoSaid : Prop := fnDishKindUptoRow.holds Try.pinned (OpenSpec.upto fnDishKindSpec)

/-- 'laws.FnNeedsMore', WHERE WHAT IT READS IS OF BULK AT MOST 1048576: true; the input reads as it did. -/
def fnNeedsMoreUptoRow : OpenClaim := { program := "ytclldijjbmnkeaa", sum := "b2fd1b3767e0b3a616fcfbbd38b7fdadcf246da56a98ef8258fb7a345694fa2b", func := "loop.example/messkitchen/laws.FnNeedsMore", spec := "fnNeedsMore", unfollowed := true, recurses := true, apart := false, narrowed := true }
def FnNeedsMoreUptoSaid : Prop := fnNeedsMoreUptoRow.holds Try.pinned (OpenSpec.upto fnNeedsMoreSpec)

/-- 'laws.FnDishAllergens', WHERE WHAT IT READS IS OF BULK AT MOST 1048576: true; the input reads as it did. -/
def fnDishAllergensUptoRow : OpenClaim := { program := "ytclldijjbmnkeaa", sum := "b2fd1b3767e0b3a616fcfbbd38b7fdadcf246da56a98ef8258fb7a345694fa2b", func := "loop.example/messkitchen/laws.FnDishAllergens", spec := "fnDishAllergens", unfollowed := true, recurses := true, apart := false, narrowed := true }
def FnDishAllergensUptoSaid : Prop := fnDishAllergensUptoRow.holds Try.pinned (OpenSpec.upto fnDishAllergensSpec)

/-- 'laws.FnExactDishKind', WHERE WHAT IT READS IS OF BULK AT MOST 1048576: true; the input reads as it did. -/
def fnExactDishKindUptoRow : OpenClaim := { program := "ytclldijjbmnkeaa", sum := "b2fd1b3767e0b3a616fcfbbd38b7fdadcf246da56a98ef8258fb7a345694fa2b", func := "loop.example/messkitchen/laws.FnExactDishKind", spec := "fnExactDishKind", unfollowed := true, recurses := true, apart := false, narrowed := true }
def FnExactDishKindUptoSaid : Prop := fnExactDishKindUptoRow.holds Try.pinned (OpenSpec.upto fnExactDishKindSpec)

end Rows
end Go.Proofs.Ytclldijjbmnkeaa
