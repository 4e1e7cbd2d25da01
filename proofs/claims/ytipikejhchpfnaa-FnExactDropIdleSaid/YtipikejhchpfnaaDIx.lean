-- PRINTED by print.py (a twelfth state) out of the translation. Not trusted: Lean checks it.
import Derived.Test.YtipikejhchpfnaaDIx0
import Derived.Test.YtipikejhchpfnaaDIx1
import Derived.Test.YtipikejhchpfnaaDIx2
import Derived.Test.YtipikejhchpfnaaDIx3
import Derived.Test.YtipikejhchpfnaaDIx4
import Derived.Test.YtipikejhchpfnaaDIx5
import Derived.Test.YtipikejhchpfnaaDIx6
import Derived.Test.YtipikejhchpfnaaDIx7
import Derived.Test.YtipikejhchpfnaaDIx8
import Derived.Test.YtipikejhchpfnaaDIx9
import Derived.Test.YtipikejhchpfnaaDIx10
import Derived.Test.YtipikejhchpfnaaDIx11
import Derived.Test.YtipikejhchpfnaaDIx12
namespace Go.Proofs.Ytipikejhchpfnaa.DI
open Go.RowKit Go.Proofs.YtipikejhchpfnaaW.PrintWords Go.Proofs.YtipikejhchpfnaaW.PrintLast Go.Proofs.YtipikejhchpfnaaW.PrintMore
attribute [local go_sem] max2_int min2_int max_two min_two max_three min_three max_four min_four   -- for this text's walks alone
set_option linter.unusedVariables false
set_option linter.unusedSimpArgs false

end Go.Proofs.Ytipikejhchpfnaa.DI
