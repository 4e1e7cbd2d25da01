-- PRINTED by print.py (a twelfth state) out of the translation. Not trusted: Lean checks it.
import Derived.Test.YtmigpfkjhdaijabPAx0
import Derived.Test.YtmigpfkjhdaijabPAx1
import Derived.Test.YtmigpfkjhdaijabPAx2
import Derived.Test.YtmigpfkjhdaijabPAx3
import Derived.Test.YtmigpfkjhdaijabPAx4
import Derived.Test.YtmigpfkjhdaijabPAx5
import Derived.Test.YtmigpfkjhdaijabPAx6
import Derived.Test.YtmigpfkjhdaijabPAx7
import Derived.Test.YtmigpfkjhdaijabPAx8
import Derived.Test.YtmigpfkjhdaijabPAx9
namespace Go.Proofs.Ytmigpfkjhdaijab.PA
open Go.RowKit Go.Proofs.YtmigpfkjhdaijabW.PrintWords Go.Proofs.YtmigpfkjhdaijabW.PrintLast Go.Proofs.YtmigpfkjhdaijabW.PrintMore
attribute [local go_sem] max2_int min2_int max_two min_two max_three min_three max_four min_four   -- for this text's walks alone
set_option linter.unusedVariables false
set_option linter.unusedSimpArgs false

end Go.Proofs.Ytmigpfkjhdaijab.PA
