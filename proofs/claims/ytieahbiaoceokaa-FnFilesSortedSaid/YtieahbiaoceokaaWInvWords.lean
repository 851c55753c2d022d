/- Words of the kit's print, less what this claim does not use. -/
import Derived.Test.YtieahbiaoceokaaWInv
import Derived.Test.YtieahbiaoceokaaWFootNe
namespace Go.Proofs.YtieahbiaoceokaaW.PrintWords
open Go.RowKit
end Go.Proofs.YtieahbiaoceokaaW.PrintWords
namespace Go.Proofs.YtieahbiaoceokaaW.PrintLast
section
variable {ops : Array Oper} {a : Act} {o og : Oper} {g : Nat} {t : Tmp} {u : Bool}
end
end Go.Proofs.YtieahbiaoceokaaW.PrintLast
