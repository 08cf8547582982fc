-- PRINTED by print.py (a twelfth state) out of the translation. Not trusted: Lean checks it.
import Derived.Test.YtgljhgjjenengaaDoorXJt0
import Derived.Test.YtgljhgjjenengaaDoorXJt1
import Derived.Test.YtgljhgjjenengaaDoorXJt2
import Derived.Test.YtgljhgjjenengaaDoorXJt3
import Derived.Test.YtgljhgjjenengaaDoorXJt4
import Derived.Test.YtgljhgjjenengaaDoorXJt5
import Derived.Test.YtgljhgjjenengaaDoorXJt6
namespace Go.Proofs.YtgljhgjjenengaaDoor.XJt
open Go.RowKit Go.Proofs.YtgljhgjjenengaaDoorW.PrintWords Go.Proofs.YtgljhgjjenengaaDoorW.PrintLast Go.Proofs.YtgljhgjjenengaaDoorW.PrintMore
attribute [local go_sem] max2_int min2_int max_two min_two max_three min_three max_four min_four   -- for this text's walks alone
set_option linter.unusedVariables false
set_option linter.unusedSimpArgs false

end Go.Proofs.YtgljhgjjenengaaDoor.XJt
