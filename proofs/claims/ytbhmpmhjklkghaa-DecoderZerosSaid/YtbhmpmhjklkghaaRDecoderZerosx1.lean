-- Laid by a program of this session (wip/myprint.py), over the kit's print of the translation. Not trusted: Lean checks it.
import Derived.Test.YtbhmpmhjklkghaaRDecoderZerosx0
namespace Go.Proofs.Ytbhmpmhjklkghaa.RDecoderZeros
open Go.RowKit Go.Proofs.Ytbhmpmhjklkghaa Go.Proofs.Ytbhmpmhjklkghaa.CBase Go.Proofs.YtbhmpmhjklkghaaW.PrintWords Go.Proofs.YtbhmpmhjklkghaaW.PrintLast Go.Proofs.YtbhmpmhjklkghaaW.PrintMore
attribute [local go_sem] max2_int min2_int max_two min_two max_three min_three max_four min_four   -- for this text's walks alone
set_option linter.unusedVariables false
set_option linter.unusedSimpArgs false

-- by hand: function 28 (coder_Ends)

-- by hand: function 13 (decoder_May)

-- by hand: function 19 (coder_Chance)

-- by hand: function 20 (coder_Middle)

-- by hand: function 21 (coder_Gone)

-- by hand: function 22 (coder_Up)

-- by hand: function 23 (decoder_at)

-- by hand: function 8 (decoder_Bit)

-- by hand: function 27 (coder_New)

-- by hand: function 10 (decoder_New)

-- by hand: function 12 (descantlaw0_Num)

-- by hand: function 15 (descantlaw5_awake)

end Go.Proofs.Ytbhmpmhjklkghaa.RDecoderZeros
