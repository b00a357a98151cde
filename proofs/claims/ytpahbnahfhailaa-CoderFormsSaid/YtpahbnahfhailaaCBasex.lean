-- Laid by a program of this session (wip/myprint.py), over the kit's print of the translation. Not trusted: Lean checks it.
import Derived.Test.YtpahbnahfhailaaCBasex0
import Derived.Test.YtpahbnahfhailaaCBasex1
import Derived.Test.YtpahbnahfhailaaCBasex2
namespace Go.Proofs.Ytpahbnahfhailaa.CBase
open Go.RowKit Go.Proofs.YtpahbnahfhailaaW.PrintWords Go.Proofs.YtpahbnahfhailaaW.PrintLast Go.Proofs.YtpahbnahfhailaaW.PrintMore
attribute [local go_sem] max2_int min2_int max_two min_two max_three min_three max_four min_four   -- for this text's walks alone
set_option linter.unusedVariables false
set_option linter.unusedSimpArgs false

end Go.Proofs.Ytpahbnahfhailaa.CBase
