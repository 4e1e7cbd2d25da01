-- PRINTED by print.py (a twelfth state) out of the translation. Not trusted: Lean checks it.
import Derived.Test.YtipikejhchpfnaaUOx0
import Derived.Test.YtipikejhchpfnaaUOx1
import Derived.Test.YtipikejhchpfnaaUOx2
import Derived.Test.YtipikejhchpfnaaUOx3
import Derived.Test.YtipikejhchpfnaaUOx4
import Derived.Test.YtipikejhchpfnaaUOx5
import Derived.Test.YtipikejhchpfnaaUOx6
import Derived.Test.YtipikejhchpfnaaUOx7
import Derived.Test.YtipikejhchpfnaaUOx8
import Derived.Test.YtipikejhchpfnaaUOx9
namespace Go.Proofs.Ytipikejhchpfnaa.UO
open Go.RowKit Go.Proofs.YtipikejhchpfnaaW.PrintWords Go.Proofs.YtipikejhchpfnaaW.PrintLast Go.Proofs.YtipikejhchpfnaaW.PrintMore
attribute [local go_sem] max2_int min2_int max_two min_two max_three min_three max_four min_four   -- for this text's walks alone
set_option linter.unusedVariables false
set_option linter.unusedSimpArgs false

end Go.Proofs.Ytipikejhchpfnaa.UO
