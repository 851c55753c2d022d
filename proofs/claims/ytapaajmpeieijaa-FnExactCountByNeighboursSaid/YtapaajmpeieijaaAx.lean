-- WRITTEN BY printx.py, a program of this session over the kit's print: not typed by hand. Lean checks it.
import Derived.Test.YtapaajmpeieijaaAx0
import Derived.Test.YtapaajmpeieijaaAx1
import Derived.Test.YtapaajmpeieijaaAx2
import Derived.Test.YtapaajmpeieijaaAx3
import Derived.Test.YtapaajmpeieijaaAx4
import Derived.Test.YtapaajmpeieijaaAx5
import Derived.Test.YtapaajmpeieijaaAx6
import Derived.Test.YtapaajmpeieijaaAx7
import Derived.Test.YtapaajmpeieijaaAx8
namespace Go.Proofs.Ytapaajmpeieijaa.A
open Go.RowKit Go.Proofs.YtapaajmpeieijaaW.PrintWords Go.Proofs.YtapaajmpeieijaaW.PrintLast Go.Proofs.YtapaajmpeieijaaW.PrintMore Go.Proofs.Ytapaajmpeieijaa.X
attribute [local go_sem] max2_int min2_int max_two min_two max_three min_three max_four min_four   -- for this text's walks alone
set_option linter.unusedVariables false
set_option linter.unusedSimpArgs false

end Go.Proofs.Ytapaajmpeieijaa.A
