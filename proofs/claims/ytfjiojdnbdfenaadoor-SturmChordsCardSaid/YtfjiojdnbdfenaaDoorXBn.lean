-- PRINTED by print.py (a twelfth state) out of the translation. Not trusted: Lean checks it.
import Derived.Test.YtfjiojdnbdfenaaDoorXBn0
import Derived.Test.YtfjiojdnbdfenaaDoorXBn1
import Derived.Test.YtfjiojdnbdfenaaDoorXBn2
namespace Go.Proofs.YtfjiojdnbdfenaaDoor.XBn
open Go.RowKit Go.Proofs.YtfjiojdnbdfenaaDoorW.PrintWords Go.Proofs.YtfjiojdnbdfenaaDoorW.PrintLast Go.Proofs.YtfjiojdnbdfenaaDoorW.PrintMore
attribute [local go_sem] max2_int min2_int max_two min_two max_three min_three max_four min_four   -- for this text's walks alone
set_option linter.unusedVariables false
set_option linter.unusedSimpArgs false

end Go.Proofs.YtfjiojdnbdfenaaDoor.XBn
