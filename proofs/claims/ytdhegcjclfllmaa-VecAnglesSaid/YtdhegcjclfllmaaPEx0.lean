-- Printed by xprint.py, a program of this session: the kit's print, with own texts for some functions.
import Derived.Test.YtdhegcjclfllmaaProg
import Derived.Below
import Derived.Deep.Draws
import Derived.Deep.AppendLies
import Derived.Maps.AppendAt
import Derived.OwnWalk
import Derived.Laws.BytesArg
import Derived.Laws.MakeOwn
import Derived.Laws.OwnMore
import Derived.Deep.OwnRows
import Derived.Tactics
import Derived.Lib.ConvBytes
import Derived.Laws.Slices
import Derived.WalkKit
import Derived.KernelRfl
import Derived.RowKit3
import Derived.Deep.LoopGhost
import Derived.Deep.QuietTactic
import Derived.BigQuiet
import Derived.WideLaws
import Derived.Deep.DeepCutAuto
import Derived.Deep.CutBlock
import Derived.Deep.RegionHeld3
import Derived.Laws.Rows
import Derived.Lib.AppendStr
import Derived.ArgAppend
import Derived.Laws.IdiomCopy
import Derived.OrdersHeld
import Derived.Laws.BitsLemmas
import Derived.RowKit
import Derived.Test.YtdhegcjclfllmaaWWords
import Derived.Test.YtdhegcjclfllmaaWLast
import Derived.Test.YtdhegcjclfllmaaWTab
import Derived.Test.YtdhegcjclfllmaaWFour
import Derived.Test.YtdhegcjclfllmaaWQPut
import Derived.Test.YtdhegcjclfllmaaWApart
import Derived.Test.YtdhegcjclfllmaaWArr
import Derived.Test.YtdhegcjclfllmaaWZeros
import Derived.Test.YtdhegcjclfllmaaWFoot
import Derived.Test.YtdhegcjclfllmaaWKept
import Derived.Test.YtdhegcjclfllmaaWShare
import Derived.Test.YtdhegcjclfllmaaWN
import Derived.Test.YtdhegcjclfllmaaWFootNe
import Derived.Test.YtdhegcjclfllmaaWAt
import Derived.Test.YtdhegcjclfllmaaWEqStruct
import Derived.Test.YtdhegcjclfllmaaWRepsOne
import Derived.Test.YtdhegcjclfllmaaWInv
import Derived.Test.YtdhegcjclfllmaaWInvWords
import Derived.Test.YtdhegcjclfllmaaWGuard
import Derived.Test.YtdhegcjclfllmaaWNEv
import Derived.Test.YtdhegcjclfllmaaWMore
namespace Go.Proofs.Ytdhegcjclfllmaa.PE
open Go.RowKit Go.Proofs.YtdhegcjclfllmaaW.PrintWords Go.Proofs.YtdhegcjclfllmaaW.PrintLast Go.Proofs.YtdhegcjclfllmaaW.PrintMore
attribute [local go_sem] max2_int min2_int max_two min_two max_three min_three max_four min_four   -- for this text's walks alone
set_option linter.unusedVariables false
set_option linter.unusedSimpArgs false



def errW : Option Int → Value
  | none => .nilIface
  | some c => .iface 0 (.int .i64 c)
theorem errW_none : errW none = .nilIface := rfl
theorem errW_some (c : Int) : errW (some c) = .iface 0 (.int .i64 c) := rfl

-- the values' own types

end Go.Proofs.Ytdhegcjclfllmaa.PE
