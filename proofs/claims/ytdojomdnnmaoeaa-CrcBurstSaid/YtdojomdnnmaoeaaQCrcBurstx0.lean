-- Laid by a program of this session (wip/myprint.py), over the kit's print of the translation. Not trusted: Lean checks it.
import Derived.Test.YtdojomdnnmaoeaaProg
import Derived.Below
import Derived.Deep.Draws
import Derived.Deep.AppendLies
import Derived.Maps.AppendAt
import Derived.OwnWalk
import Derived.Laws.BytesArg
import Derived.Laws.MakeOwn
import Derived.Laws.OwnMore
import Derived.Deep.OwnRows
import Derived.Tactics
import Derived.Lib.ConvBytes
import Derived.Laws.Slices
import Derived.WalkKit
import Derived.KernelRfl
import Derived.RowKit3
import Derived.Deep.LoopGhost
import Derived.Deep.QuietTactic
import Derived.BigQuiet
import Derived.WideLaws
import Derived.Deep.DeepCutAuto
import Derived.Deep.CutBlock
import Derived.Deep.RegionHeld3
import Derived.Laws.Rows
import Derived.Lib.AppendStr
import Derived.ArgAppend
import Derived.Laws.IdiomCopy
import Derived.OrdersHeld
import Derived.Laws.BitsLemmas
import Derived.RowKit
import Derived.Test.YtdojomdnnmaoeaaSum
import Derived.Test.YtdojomdnnmaoeaaWWords
import Derived.Test.YtdojomdnnmaoeaaWLast
import Derived.Test.YtdojomdnnmaoeaaWTab
import Derived.Test.YtdojomdnnmaoeaaWFour
import Derived.Test.YtdojomdnnmaoeaaWQPut
import Derived.Test.YtdojomdnnmaoeaaWApart
import Derived.Test.YtdojomdnnmaoeaaWArr
import Derived.Test.YtdojomdnnmaoeaaWZeros
import Derived.Test.YtdojomdnnmaoeaaWFoot
import Derived.Test.YtdojomdnnmaoeaaWKept
import Derived.Test.YtdojomdnnmaoeaaWShare
import Derived.Test.YtdojomdnnmaoeaaWN
import Derived.Test.YtdojomdnnmaoeaaWFootNe
import Derived.Test.YtdojomdnnmaoeaaWAt
import Derived.Test.YtdojomdnnmaoeaaWEqStruct
import Derived.Test.YtdojomdnnmaoeaaWRepsOne
import Derived.Test.YtdojomdnnmaoeaaWInv
import Derived.Test.YtdojomdnnmaoeaaWInvWords
import Derived.Test.YtdojomdnnmaoeaaWGuard
import Derived.Test.YtdojomdnnmaoeaaWNEv
import Derived.Test.YtdojomdnnmaoeaaWMore
namespace Go.Proofs.Ytdojomdnnmaoeaa.QCrcBurst
open Go.RowKit Go.Proofs.YtdojomdnnmaoeaaW.PrintWords Go.Proofs.YtdojomdnnmaoeaaW.PrintLast Go.Proofs.YtdojomdnnmaoeaaW.PrintMore
attribute [local go_sem] max2_int min2_int max_two min_two max_three min_three max_four min_four   -- for this text's walks alone
set_option linter.unusedVariables false
set_option linter.unusedSimpArgs false



def errW : Option Int → Value
  | none => .nilIface
  | some c => .iface 0 (.int .i64 c)
theorem errW_none : errW none = .nilIface := rfl
theorem errW_some (c : Int) : errW (some c) = .iface 0 (.int .i64 c) := rfl

-- the values' own types

end Go.Proofs.Ytdojomdnnmaoeaa.QCrcBurst
