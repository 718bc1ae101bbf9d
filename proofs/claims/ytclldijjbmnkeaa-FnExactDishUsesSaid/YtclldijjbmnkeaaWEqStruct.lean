-- Words of the print, those that this seat's texts name (by a program of this session).
import Derived.Test.YtclldijjbmnkeaaWWords
import Derived.Laws.StructEq
/-! ### 53. '==' of structs as_ one Bool -/
namespace Go.Proofs.YtclldijjbmnkeaaW.PrintWords
open Go.RowKit
section
variable {P : Program} {d : Nat} {xs ys : Array Value} {f : Field} {fs : List Field} {a b : Value} {r s : Bool} {w : World}
end
end Go.Proofs.YtclldijjbmnkeaaW.PrintWords
