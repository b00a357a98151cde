-- Laid by a program of this session (wip/myprint.py), over the kit's print of the translation. Not trusted: Lean checks it.
import Derived.Test.YtpahbnahfhailaaRCoderFormsx0
namespace Go.Proofs.Ytpahbnahfhailaa.RCoderForms
open Go.RowKit Go.Proofs.Ytpahbnahfhailaa.CBase Go.Proofs.YtpahbnahfhailaaW.PrintWords Go.Proofs.YtpahbnahfhailaaW.PrintLast Go.Proofs.YtpahbnahfhailaaW.PrintMore
attribute [local go_sem] max2_int min2_int max_two min_two max_three min_three max_four min_four   -- for this text's walks alone
set_option linter.unusedVariables false
set_option linter.unusedSimpArgs false

-- by hand: function 27 (coder_Ends)

-- by hand: function 14 (coder_May)

-- by hand: function 19 (coder_Chance)

-- by hand: function 20 (coder_Middle)

-- by hand: function 21 (coder_Gone)

-- by hand: function 22 (coder_Up)

-- by hand: function 9 (coder_Bit)

-- by hand: function 11 (coder_End)

-- by hand: function 13 (descantlaw0_Num)

-- by hand: function 16 (coder_New)

-- by hand: function 18 (descantlaw4_awake)

end Go.Proofs.Ytpahbnahfhailaa.RCoderForms
