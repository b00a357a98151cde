-- Laid by a program of this session (wip/myprint.py), over the kit's print of the translation. Not trusted: Lean checks it.
import Derived.Test.YtbhmpmhjklkghaaCBasex0
import Derived.Test.YtbhmpmhjklkghaaCBasex1
import Derived.Test.YtbhmpmhjklkghaaCBasex2
namespace Go.Proofs.Ytbhmpmhjklkghaa.CBase
open Go.RowKit Go.Proofs.YtbhmpmhjklkghaaW.PrintWords Go.Proofs.YtbhmpmhjklkghaaW.PrintLast Go.Proofs.YtbhmpmhjklkghaaW.PrintMore
attribute [local go_sem] max2_int min2_int max_two min_two max_three min_three max_four min_four   -- for this text's walks alone
set_option linter.unusedVariables false
set_option linter.unusedSimpArgs false

end Go.Proofs.Ytbhmpmhjklkghaa.CBase
