-- Printed for this claim by a turned copy of the kit's print (wip/patch_print.py): a text of this session.
import Derived.Test.YtnjdehldlcmojaaQNumBytesx0
import Derived.Test.YtnjdehldlcmojaaQNumBytesx1
import Derived.Test.YtnjdehldlcmojaaQNumBytesx2
import Derived.Test.YtnjdehldlcmojaaQNumBytesx3
namespace Go.Proofs.Ytnjdehldlcmojaa.QNumBytes
open Go.RowKit Go.Proofs.YtnjdehldlcmojaaW.PrintWords Go.Proofs.YtnjdehldlcmojaaW.PrintLast Go.Proofs.YtnjdehldlcmojaaW.PrintMore
attribute [local go_sem] max2_int min2_int max_two min_two max_three min_three max_four min_four   -- for this text's walks alone
set_option linter.unusedVariables false
set_option linter.unusedSimpArgs false

end Go.Proofs.Ytnjdehldlcmojaa.QNumBytes
