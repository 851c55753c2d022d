/- Words of the kit's print, less what this claim does not use. -/
import Derived.Test.YtieahbiaoceokaaWWords
import Derived.Laws.StructEq
/-! ### 53. '==' of structs as_ one Bool -/
namespace Go.Proofs.YtieahbiaoceokaaW.PrintWords
open Go.RowKit
section
variable {P : Program} {d : Nat} {xs ys : Array Value} {f : Field} {fs : List Field} {a b : Value} {r s : Bool} {w : World}
end
end Go.Proofs.YtieahbiaoceokaaW.PrintWords
