-- PRINTED by print.py (a twelfth state) out of the translation. Not trusted: Lean checks it.
import Derived.Test.YtmigpfkjhdaijabCPx0
import Derived.Test.YtmigpfkjhdaijabCPx1
import Derived.Test.YtmigpfkjhdaijabCPx2
import Derived.Test.YtmigpfkjhdaijabCPx3
import Derived.Test.YtmigpfkjhdaijabCPx4
import Derived.Test.YtmigpfkjhdaijabCPx5
import Derived.Test.YtmigpfkjhdaijabCPx6
import Derived.Test.YtmigpfkjhdaijabCPx7
namespace Go.Proofs.Ytmigpfkjhdaijab.CP
open Go.RowKit Go.Proofs.YtmigpfkjhdaijabW.PrintWords Go.Proofs.YtmigpfkjhdaijabW.PrintLast Go.Proofs.YtmigpfkjhdaijabW.PrintMore
attribute [local go_sem] max2_int min2_int max_two min_two max_three min_three max_four min_four   -- for this text's walks alone
set_option linter.unusedVariables false
set_option linter.unusedSimpArgs false

end Go.Proofs.Ytmigpfkjhdaijab.CP
