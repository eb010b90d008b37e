-- Printed for this claim by a turned copy of the kit's print (wip/patch_print.py): a text of this session.
import Derived.Test.YtnjdehldlcmojaaQNumCutsx0
import Derived.Test.YtnjdehldlcmojaaQNumCutsx1
import Derived.Test.YtnjdehldlcmojaaQNumCutsx2
namespace Go.Proofs.Ytnjdehldlcmojaa.QNumCuts
open Go.RowKit Go.Proofs.YtnjdehldlcmojaaW.PrintWords Go.Proofs.YtnjdehldlcmojaaW.PrintLast Go.Proofs.YtnjdehldlcmojaaW.PrintMore
attribute [local go_sem] max2_int min2_int max_two min_two max_three min_three max_four min_four   -- for this text's walks alone
set_option linter.unusedVariables false
set_option linter.unusedSimpArgs false

end Go.Proofs.Ytnjdehldlcmojaa.QNumCuts
