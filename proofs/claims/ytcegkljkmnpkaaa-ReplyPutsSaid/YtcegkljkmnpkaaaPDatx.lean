/- Written by a program of this session (wip/tools/myprint.py: the kit's print with small turns). The machine's side: each Go function as a Lean function, and a proof that its code comes to just these answers. Conditions: none. -/
import Derived.Test.YtcegkljkmnpkaaaPDatx0
import Derived.Test.YtcegkljkmnpkaaaPDatx1
import Derived.Test.YtcegkljkmnpkaaaPDatx2
import Derived.Test.YtcegkljkmnpkaaaPDatx3
import Derived.Test.YtcegkljkmnpkaaaPDatx4
import Derived.Test.YtcegkljkmnpkaaaPDatx5
import Derived.Test.YtcegkljkmnpkaaaPDatx6
import Derived.Test.YtcegkljkmnpkaaaPDatx7
namespace Go.Proofs.Ytcegkljkmnpkaaa.PDat
open Go.RowKit Go.Proofs.YtcegkljkmnpkaaaW.PrintWords Go.Proofs.YtcegkljkmnpkaaaW.PrintLast Go.Proofs.YtcegkljkmnpkaaaW.PrintMore
attribute [local go_sem] max2_int min2_int max_two min_two max_three min_three max_four min_four   -- for this text's walks alone
set_option linter.unusedVariables false
set_option linter.unusedSimpArgs false

end Go.Proofs.Ytcegkljkmnpkaaa.PDat
