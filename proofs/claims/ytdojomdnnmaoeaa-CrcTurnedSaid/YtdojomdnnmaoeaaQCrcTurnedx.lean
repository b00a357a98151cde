-- Laid by a program of this session (wip/myprint.py), over the kit's print of the translation. Not trusted: Lean checks it.
import Derived.Test.YtdojomdnnmaoeaaQCrcTurnedx0
import Derived.Test.YtdojomdnnmaoeaaQCrcTurnedx1
namespace Go.Proofs.Ytdojomdnnmaoeaa.QCrcTurned
open Go.RowKit Go.Proofs.YtdojomdnnmaoeaaW.PrintWords Go.Proofs.YtdojomdnnmaoeaaW.PrintLast Go.Proofs.YtdojomdnnmaoeaaW.PrintMore
attribute [local go_sem] max2_int min2_int max_two min_two max_three min_three max_four min_four   -- for this text's walks alone
set_option linter.unusedVariables false
set_option linter.unusedSimpArgs false

end Go.Proofs.Ytdojomdnnmaoeaa.QCrcTurned
