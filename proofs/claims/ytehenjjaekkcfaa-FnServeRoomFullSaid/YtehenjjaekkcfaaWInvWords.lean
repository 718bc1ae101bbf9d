-- Words of the print, those that this seat's texts name (by a program of this session).
import Derived.Test.YtehenjjaekkcfaaWInv
import Derived.Test.YtehenjjaekkcfaaWFootNe
namespace Go.Proofs.YtehenjjaekkcfaaW.PrintWords
open Go.RowKit
end Go.Proofs.YtehenjjaekkcfaaW.PrintWords
namespace Go.Proofs.YtehenjjaekkcfaaW.PrintLast
section
variable {ops : Array Oper} {a : Act} {o og : Oper} {g : Nat} {t : Tmp} {u : Bool}
end
end Go.Proofs.YtehenjjaekkcfaaW.PrintLast
