/- Words of the kit's print, less what this claim does not use. -/
import Derived.Test.YtieahbiaoceokaaWLast
import Derived.Test.YtieahbiaoceokaaWWords
/-! ### 50. A region's order in a table, made once a region: each step asks the table (numbers alone), not the operations -/
namespace Go.Proofs.YtieahbiaoceokaaW.PrintLast
open Go.Proofs.YtieahbiaoceokaaW.PrintWords (Aside0)
section
variable {md : Region.Mode} {ops : Array Oper} {T : Bool × List (List Nat × List Nat)} {l l' li lj lk : Array Bool} {ds : List Nat} {i j k : Nat}
end
end Go.Proofs.YtieahbiaoceokaaW.PrintLast
