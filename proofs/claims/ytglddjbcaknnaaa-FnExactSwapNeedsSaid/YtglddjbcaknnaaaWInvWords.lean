-- Words of the print, those that this seat's texts name (by a program of this session).
import Derived.Test.YtglddjbcaknnaaaWInv
import Derived.Test.YtglddjbcaknnaaaWFootNe
namespace Go.Proofs.YtglddjbcaknnaaaW.PrintWords
open Go.RowKit
end Go.Proofs.YtglddjbcaknnaaaW.PrintWords
namespace Go.Proofs.YtglddjbcaknnaaaW.PrintLast
section
variable {ops : Array Oper} {a : Act} {o og : Oper} {g : Nat} {t : Tmp} {u : Bool}
end
end Go.Proofs.YtglddjbcaknnaaaW.PrintLast
