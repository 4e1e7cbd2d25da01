-- PRINTED by print.py (a twelfth state) out of the translation. Not trusted: Lean checks it.
import Derived.Test.YtmigpfkjhdaijabRFx0
import Derived.Test.YtmigpfkjhdaijabRFx1
import Derived.Test.YtmigpfkjhdaijabRFx2
import Derived.Test.YtmigpfkjhdaijabRFx3
import Derived.Test.YtmigpfkjhdaijabRFx4
import Derived.Test.YtmigpfkjhdaijabRFx5
import Derived.Test.YtmigpfkjhdaijabRFx6
import Derived.Test.YtmigpfkjhdaijabRFx7
import Derived.Test.YtmigpfkjhdaijabRFx8
import Derived.Test.YtmigpfkjhdaijabRFx9
import Derived.Test.YtmigpfkjhdaijabRFx10
namespace Go.Proofs.Ytmigpfkjhdaijab.RF
open Go.RowKit Go.Proofs.YtmigpfkjhdaijabW.PrintWords Go.Proofs.YtmigpfkjhdaijabW.PrintLast Go.Proofs.YtmigpfkjhdaijabW.PrintMore
attribute [local go_sem] max2_int min2_int max_two min_two max_three min_three max_four min_four   -- for this text's walks alone
set_option linter.unusedVariables false
set_option linter.unusedSimpArgs false

end Go.Proofs.Ytmigpfkjhdaijab.RF
