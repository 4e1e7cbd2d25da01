-- PRINTED by print.py (a twelfth state) out of the translation. Not trusted: Lean checks it.
import Derived.Test.YtmigpfkjhdaijabL15x0
import Derived.Test.YtmigpfkjhdaijabL15x1
import Derived.Test.YtmigpfkjhdaijabL15x2
import Derived.Test.YtmigpfkjhdaijabL15x3
import Derived.Test.YtmigpfkjhdaijabL15x4
import Derived.Test.YtmigpfkjhdaijabL15x5
import Derived.Test.YtmigpfkjhdaijabL15x6
import Derived.Test.YtmigpfkjhdaijabL15x7
import Derived.Test.YtmigpfkjhdaijabL15x8
namespace Go.Proofs.Ytmigpfkjhdaijab.L15
open Go.RowKit Go.Proofs.YtmigpfkjhdaijabW.PrintWords Go.Proofs.YtmigpfkjhdaijabW.PrintLast Go.Proofs.YtmigpfkjhdaijabW.PrintMore
attribute [local go_sem] max2_int min2_int max_two min_two max_three min_three max_four min_four   -- for this text's walks alone
set_option linter.unusedVariables false
set_option linter.unusedSimpArgs false

end Go.Proofs.Ytmigpfkjhdaijab.L15
