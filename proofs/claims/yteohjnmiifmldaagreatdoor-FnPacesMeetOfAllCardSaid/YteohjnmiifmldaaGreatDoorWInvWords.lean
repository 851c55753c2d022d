/- Words of the kit's print, less what this claim does not use. -/
import Derived.Test.YteohjnmiifmldaaGreatDoorWInv
import Derived.Test.YteohjnmiifmldaaGreatDoorWFootNe
namespace Go.Proofs.YteohjnmiifmldaaGreatDoorW.PrintWords
open Go.RowKit
end Go.Proofs.YteohjnmiifmldaaGreatDoorW.PrintWords
namespace Go.Proofs.YteohjnmiifmldaaGreatDoorW.PrintLast
section
variable {ops : Array Oper} {a : Act} {o og : Oper} {g : Nat} {t : Tmp} {u : Bool}
end
end Go.Proofs.YteohjnmiifmldaaGreatDoorW.PrintLast
