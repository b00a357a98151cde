-- Laid by a program of this session (wip/myprint.py), over the kit's print of the translation. Not trusted: Lean checks it.
import Derived.Test.YtbhmpmhjklkghaaProg
import Derived.Below
import Derived.Deep.Draws
import Derived.Deep.AppendLies
import Derived.Maps.AppendAt
import Derived.OwnWalk
import Derived.Laws.BytesArg
import Derived.Laws.MakeOwn
import Derived.Laws.OwnMore
import Derived.Deep.OwnRows
import Derived.Tactics
import Derived.Lib.ConvBytes
import Derived.Laws.Slices
import Derived.WalkKit
import Derived.KernelRfl
import Derived.RowKit3
import Derived.Deep.LoopGhost
import Derived.Deep.QuietTactic
import Derived.BigQuiet
import Derived.WideLaws
import Derived.Deep.DeepCutAuto
import Derived.Deep.CutBlock
import Derived.Deep.RegionHeld3
import Derived.Laws.Rows
import Derived.Lib.AppendStr
import Derived.ArgAppend
import Derived.Laws.IdiomCopy
import Derived.OrdersHeld
import Derived.Laws.BitsLemmas
import Derived.RowKit
import Derived.Test.YtbhmpmhjklkghaaAwake
import Derived.Test.YtbhmpmhjklkghaaWWords
import Derived.Test.YtbhmpmhjklkghaaWLast
import Derived.Test.YtbhmpmhjklkghaaWTab
import Derived.Test.YtbhmpmhjklkghaaWFour
import Derived.Test.YtbhmpmhjklkghaaWQPut
import Derived.Test.YtbhmpmhjklkghaaWApart
import Derived.Test.YtbhmpmhjklkghaaWArr
import Derived.Test.YtbhmpmhjklkghaaWZeros
import Derived.Test.YtbhmpmhjklkghaaWFoot
import Derived.Test.YtbhmpmhjklkghaaWKept
import Derived.Test.YtbhmpmhjklkghaaWShare
import Derived.Test.YtbhmpmhjklkghaaWN
import Derived.Test.YtbhmpmhjklkghaaWFootNe
import Derived.Test.YtbhmpmhjklkghaaWAt
import Derived.Test.YtbhmpmhjklkghaaWEqStruct
import Derived.Test.YtbhmpmhjklkghaaWRepsOne
import Derived.Test.YtbhmpmhjklkghaaWInv
import Derived.Test.YtbhmpmhjklkghaaWInvWords
import Derived.Test.YtbhmpmhjklkghaaWGuard
import Derived.Test.YtbhmpmhjklkghaaWNEv
import Derived.Test.YtbhmpmhjklkghaaWMore
namespace Go.Proofs.Ytbhmpmhjklkghaa.RDecoders
open Go.RowKit Go.Proofs.Ytbhmpmhjklkghaa Go.Proofs.Ytbhmpmhjklkghaa.CBase Go.Proofs.YtbhmpmhjklkghaaW.PrintWords Go.Proofs.YtbhmpmhjklkghaaW.PrintLast Go.Proofs.YtbhmpmhjklkghaaW.PrintMore
attribute [local go_sem] max2_int min2_int max_two min_two max_three min_three max_four min_four   -- for this text's walks alone
set_option linter.unusedVariables false
set_option linter.unusedSimpArgs false



def errW : Option Int → Value
  | none => .nilIface
  | some c => .iface 0 (.int .i64 c)
theorem errW_none : errW none = .nilIface := rfl
theorem errW_some (c : Int) : errW (some c) = .iface 0 (.int .i64 c) := rfl

-- the values' own types

end Go.Proofs.Ytbhmpmhjklkghaa.RDecoders
