-- PRINTED by print.py (a twelfth state) out of the translation. Not trusted: Lean checks it.
import Derived.Test.YtipikejhchpfnaaFSx0
import Derived.Test.YtipikejhchpfnaaFSx1
import Derived.Test.YtipikejhchpfnaaFSx2
import Derived.Test.YtipikejhchpfnaaFSx3
import Derived.Test.YtipikejhchpfnaaFSx4
import Derived.Test.YtipikejhchpfnaaFSx5
import Derived.Test.YtipikejhchpfnaaFSx6
import Derived.Test.YtipikejhchpfnaaFSx7
import Derived.Test.YtipikejhchpfnaaFSx8
namespace Go.Proofs.Ytipikejhchpfnaa.FS
open Go.RowKit Go.Proofs.YtipikejhchpfnaaW.PrintWords Go.Proofs.YtipikejhchpfnaaW.PrintLast Go.Proofs.YtipikejhchpfnaaW.PrintMore
attribute [local go_sem] max2_int min2_int max_two min_two max_three min_three max_four min_four   -- for this text's walks alone
set_option linter.unusedVariables false
set_option linter.unusedSimpArgs false

end Go.Proofs.Ytipikejhchpfnaa.FS
