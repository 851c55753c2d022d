-- WRITTEN BY printx.py, a program of this session over the kit's print: not typed by hand. Lean checks it.
import Derived.Test.YtjbnhdmphanpdaaAx0
import Derived.Test.YtjbnhdmphanpdaaAx1
import Derived.Test.YtjbnhdmphanpdaaAx2
import Derived.Test.YtjbnhdmphanpdaaAx3
import Derived.Test.YtjbnhdmphanpdaaAx4
import Derived.Test.YtjbnhdmphanpdaaAx5
import Derived.Test.YtjbnhdmphanpdaaAx6
import Derived.Test.YtjbnhdmphanpdaaAx7
import Derived.Test.YtjbnhdmphanpdaaAx8
namespace Go.Proofs.Ytjbnhdmphanpdaa.A
open Go.RowKit Go.Proofs.YtjbnhdmphanpdaaW.PrintWords Go.Proofs.YtjbnhdmphanpdaaW.PrintLast Go.Proofs.YtjbnhdmphanpdaaW.PrintMore Go.Proofs.Ytjbnhdmphanpdaa.X
attribute [local go_sem] max2_int min2_int max_two min_two max_three min_three max_four min_four   -- for this text's walks alone
set_option linter.unusedVariables false
set_option linter.unusedSimpArgs false

end Go.Proofs.Ytjbnhdmphanpdaa.A
