-- Words of the print, those that this seat's texts name (by a program of this session).
import Derived.Test.YtclldijjbmnkeaaWInv
import Derived.Test.YtclldijjbmnkeaaWFootNe
namespace Go.Proofs.YtclldijjbmnkeaaW.PrintWords
open Go.RowKit
end Go.Proofs.YtclldijjbmnkeaaW.PrintWords
namespace Go.Proofs.YtclldijjbmnkeaaW.PrintLast
section
variable {ops : Array Oper} {a : Act} {o og : Oper} {g : Nat} {t : Tmp} {u : Bool}
end
end Go.Proofs.YtclldijjbmnkeaaW.PrintLast
