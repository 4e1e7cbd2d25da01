-- PRINTED by print.py (a twelfth state) out of the translation. Not trusted: Lean checks it.
import Derived.Test.YtipikejhchpfnaaNAx0
import Derived.Test.YtipikejhchpfnaaNAx1
import Derived.Test.YtipikejhchpfnaaNAx2
import Derived.Test.YtipikejhchpfnaaNAx3
import Derived.Test.YtipikejhchpfnaaNAx4
import Derived.Test.YtipikejhchpfnaaNAx5
import Derived.Test.YtipikejhchpfnaaNAx6
import Derived.Test.YtipikejhchpfnaaNAx7
import Derived.Test.YtipikejhchpfnaaNAx8
import Derived.Test.YtipikejhchpfnaaNAx9
import Derived.Test.YtipikejhchpfnaaNAx10
namespace Go.Proofs.Ytipikejhchpfnaa.NA
open Go.RowKit Go.Proofs.YtipikejhchpfnaaW.PrintWords Go.Proofs.YtipikejhchpfnaaW.PrintLast Go.Proofs.YtipikejhchpfnaaW.PrintMore
attribute [local go_sem] max2_int min2_int max_two min_two max_three min_three max_four min_four   -- for this text's walks alone
set_option linter.unusedVariables false
set_option linter.unusedSimpArgs false

end Go.Proofs.Ytipikejhchpfnaa.NA
