-- PRINTED by print.py (a twelfth state) out of the translation. Not trusted: Lean checks it.
import Derived.Test.YtfjiojdnbdfenaaDoorProg
import Derived.Below
import Derived.Deep.Draws
import Derived.Deep.AppendLies
import Derived.Maps.AppendAt
import Derived.OwnWalk
import Derived.Laws.BytesArg
import Derived.Laws.MakeOwn
import Derived.Laws.OwnMore
import Derived.Deep.OwnRows
import Derived.Tactics
import Derived.Lib.ConvBytes
import Derived.Laws.Slices
import Derived.WalkKit
import Derived.KernelRfl
import Derived.RowKit3
import Derived.Deep.LoopGhost
import Derived.Deep.QuietTactic
import Derived.BigQuiet
import Derived.WideLaws
import Derived.Deep.DeepCutAuto
import Derived.Deep.CutBlock
import Derived.Deep.RegionHeld3
import Derived.Laws.Rows
import Derived.Lib.AppendStr
import Derived.ArgAppend
import Derived.Laws.IdiomCopy
import Derived.OrdersHeld
import Derived.Laws.BitsLemmas
import Derived.RowKit
import Derived.Test.YtfjiojdnbdfenaaDoorWWords
import Derived.Test.YtfjiojdnbdfenaaDoorWLast
import Derived.Test.YtfjiojdnbdfenaaDoorWTab
import Derived.Test.YtfjiojdnbdfenaaDoorWFour
import Derived.Test.YtfjiojdnbdfenaaDoorWQPut
import Derived.Test.YtfjiojdnbdfenaaDoorWApart
import Derived.Test.YtfjiojdnbdfenaaDoorWArr
import Derived.Test.YtfjiojdnbdfenaaDoorWZeros
import Derived.Test.YtfjiojdnbdfenaaDoorWFoot
import Derived.Test.YtfjiojdnbdfenaaDoorWKept
import Derived.Test.YtfjiojdnbdfenaaDoorWShare
import Derived.Test.YtfjiojdnbdfenaaDoorWN
import Derived.Test.YtfjiojdnbdfenaaDoorWFootNe
import Derived.Test.YtfjiojdnbdfenaaDoorWAt
import Derived.Test.YtfjiojdnbdfenaaDoorWEqStruct
import Derived.Test.YtfjiojdnbdfenaaDoorWRepsOne
import Derived.Test.YtfjiojdnbdfenaaDoorWInv
import Derived.Test.YtfjiojdnbdfenaaDoorWInvWords
import Derived.Test.YtfjiojdnbdfenaaDoorWGuard
import Derived.Test.YtfjiojdnbdfenaaDoorWNEv
import Derived.Test.YtfjiojdnbdfenaaDoorWMore
namespace Go.Proofs.YtfjiojdnbdfenaaDoor.XBn
open Go.RowKit Go.Proofs.YtfjiojdnbdfenaaDoorW.PrintWords Go.Proofs.YtfjiojdnbdfenaaDoorW.PrintLast Go.Proofs.YtfjiojdnbdfenaaDoorW.PrintMore
attribute [local go_sem] max2_int min2_int max_two min_two max_three min_three max_four min_four   -- for this text's walks alone
set_option linter.unusedVariables false
set_option linter.unusedSimpArgs false



def errW : Option Int → Value
  | none => .nilIface
  | some c => .iface 0 (.int .i64 c)
theorem errW_none : errW none = .nilIface := rfl
theorem errW_some (c : Int) : errW (some c) = .iface 0 (.int .i64 c) := rfl

theorem info115 : (Tryd.prog.info? 115).map (fun i => (i.zero, i.size, i.bytes)) = some (some (.int .u32 0), 1, 4) := by kernel_rfl
-- the values' own types

end Go.Proofs.YtfjiojdnbdfenaaDoor.XBn
