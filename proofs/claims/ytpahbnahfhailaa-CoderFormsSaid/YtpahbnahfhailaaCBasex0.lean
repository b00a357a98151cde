-- Laid by a program of this session (wip/myprint.py), over the kit's print of the translation. Not trusted: Lean checks it.
import Derived.Test.YtpahbnahfhailaaProg
import Derived.Below
import Derived.Deep.Draws
import Derived.Deep.AppendLies
import Derived.Maps.AppendAt
import Derived.OwnWalk
import Derived.Laws.BytesArg
import Derived.Laws.MakeOwn
import Derived.Laws.OwnMore
import Derived.Deep.OwnRows
import Derived.Tactics
import Derived.Lib.ConvBytes
import Derived.Laws.Slices
import Derived.WalkKit
import Derived.KernelRfl
import Derived.RowKit3
import Derived.Deep.LoopGhost
import Derived.Deep.QuietTactic
import Derived.BigQuiet
import Derived.WideLaws
import Derived.Deep.DeepCutAuto
import Derived.Deep.CutBlock
import Derived.Deep.RegionHeld3
import Derived.Laws.Rows
import Derived.Lib.AppendStr
import Derived.ArgAppend
import Derived.Laws.IdiomCopy
import Derived.OrdersHeld
import Derived.Laws.BitsLemmas
import Derived.RowKit
import Derived.Test.YtpahbnahfhailaaWWords
import Derived.Test.YtpahbnahfhailaaWLast
import Derived.Test.YtpahbnahfhailaaWTab
import Derived.Test.YtpahbnahfhailaaWFour
import Derived.Test.YtpahbnahfhailaaWQPut
import Derived.Test.YtpahbnahfhailaaWApart
import Derived.Test.YtpahbnahfhailaaWArr
import Derived.Test.YtpahbnahfhailaaWZeros
import Derived.Test.YtpahbnahfhailaaWFoot
import Derived.Test.YtpahbnahfhailaaWKept
import Derived.Test.YtpahbnahfhailaaWShare
import Derived.Test.YtpahbnahfhailaaWN
import Derived.Test.YtpahbnahfhailaaWFootNe
import Derived.Test.YtpahbnahfhailaaWAt
import Derived.Test.YtpahbnahfhailaaWEqStruct
import Derived.Test.YtpahbnahfhailaaWRepsOne
import Derived.Test.YtpahbnahfhailaaWInv
import Derived.Test.YtpahbnahfhailaaWInvWords
import Derived.Test.YtpahbnahfhailaaWGuard
import Derived.Test.YtpahbnahfhailaaWNEv
import Derived.Test.YtpahbnahfhailaaWMore
namespace Go.Proofs.Ytpahbnahfhailaa.CBase
open Go.RowKit Go.Proofs.YtpahbnahfhailaaW.PrintWords Go.Proofs.YtpahbnahfhailaaW.PrintLast Go.Proofs.YtpahbnahfhailaaW.PrintMore
attribute [local go_sem] max2_int min2_int max_two min_two max_three min_three max_four min_four   -- for this text's walks alone
set_option linter.unusedVariables false
set_option linter.unusedSimpArgs false



def errW : Option Int → Value
  | none => .nilIface
  | some c => .iface 0 (.int .i64 c)
theorem errW_none : errW none = .nilIface := rfl
theorem errW_some (c : Int) : errW (some c) = .iface 0 (.int .i64 c) := rfl

theorem info5 : (Try.prog.info? 5).map (fun i => (i.zero, i.size, i.bytes)) = some (some (.int .u8 0), 1, 1) := by kernel_rfl
-- the values' own types

end Go.Proofs.Ytpahbnahfhailaa.CBase
