-- Words of the print, those that this seat's texts name (by a program of this session).
import Derived.Test.YtglpjchpgjaanaaWInv
import Derived.Test.YtglpjchpgjaanaaWFootNe
namespace Go.Proofs.YtglpjchpgjaanaaW.PrintWords
open Go.RowKit
end Go.Proofs.YtglpjchpgjaanaaW.PrintWords
namespace Go.Proofs.YtglpjchpgjaanaaW.PrintLast
section
variable {ops : Array Oper} {a : Act} {o og : Oper} {g : Nat} {t : Tmp} {u : Bool}
end
end Go.Proofs.YtglpjchpgjaanaaW.PrintLast
