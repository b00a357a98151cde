-- Laid by a program of this session (wip/myprint.py), over the kit's print of the translation. Not trusted: Lean checks it.
import Derived.Test.YtbhmpmhjklkghaaQDecoderAnyx0
namespace Go.Proofs.Ytbhmpmhjklkghaa.QDecoderAny
open Go.RowKit Go.Proofs.Ytbhmpmhjklkghaa Go.Proofs.Ytbhmpmhjklkghaa.CBase Go.Proofs.YtbhmpmhjklkghaaW.PrintWords Go.Proofs.YtbhmpmhjklkghaaW.PrintLast Go.Proofs.YtbhmpmhjklkghaaW.PrintMore
attribute [local go_sem] max2_int min2_int max_two min_two max_three min_three max_four min_four   -- for this text's walks alone
set_option linter.unusedVariables false
set_option linter.unusedSimpArgs false

-- by hand: function 28 (coder_Ends)

-- by hand: function 13 (decoder_May)

-- by hand: function 19 (coder_Chance)

-- by hand: function 20 (coder_Middle)

-- by hand: function 21 (coder_Gone)

-- by hand: function 22 (coder_Up)

-- by hand: function 23 (decoder_at)

-- by hand: function 8 (decoder_Bit)

-- by hand: function 27 (coder_New)

-- by hand: function 10 (decoder_New)

-- by hand: function 12 (descantlaw0_Num)

-- by hand: function 15 (descantlaw5_awake)

-- by hand: function 16 (descantref1_NewCoder)

-- by hand: function 30 (descantref1_upTo)

-- by hand: function 24 (descantref1_chance)

-- by hand: function 25 (descantref1_middle)

-- by hand: function 34 (descantref1_word)

-- by hand: function 29 (descantref1_between)

-- by hand: function 31 (descantref1_CoderMay)

-- by hand: function 32 (descantref1_bitMay)

-- by hand: function 33 (descantref1_Low)

-- by hand: function 17 (descantref1_CodeBit)

end Go.Proofs.Ytbhmpmhjklkghaa.QDecoderAny
