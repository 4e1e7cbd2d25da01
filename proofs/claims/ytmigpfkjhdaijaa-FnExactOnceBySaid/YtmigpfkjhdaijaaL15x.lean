-- PRINTED by print.py (a twelfth state) out of the translation. Not trusted: Lean checks it.
import Derived.Test.YtmigpfkjhdaijaaL15x0
import Derived.Test.YtmigpfkjhdaijaaL15x1
import Derived.Test.YtmigpfkjhdaijaaL15x2
import Derived.Test.YtmigpfkjhdaijaaL15x3
import Derived.Test.YtmigpfkjhdaijaaL15x4
import Derived.Test.YtmigpfkjhdaijaaL15x5
import Derived.Test.YtmigpfkjhdaijaaL15x6
import Derived.Test.YtmigpfkjhdaijaaL15x7
namespace Go.Proofs.Ytmigpfkjhdaijaa.L15
open Go.RowKit Go.Proofs.YtmigpfkjhdaijaaW.PrintWords Go.Proofs.YtmigpfkjhdaijaaW.PrintLast Go.Proofs.YtmigpfkjhdaijaaW.PrintMore
attribute [local go_sem] max2_int min2_int max_two min_two max_three min_three max_four min_four   -- for this text's walks alone
set_option linter.unusedVariables false
set_option linter.unusedSimpArgs false

end Go.Proofs.Ytmigpfkjhdaijaa.L15
