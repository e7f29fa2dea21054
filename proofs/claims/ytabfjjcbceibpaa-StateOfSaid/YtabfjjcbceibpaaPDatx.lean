/- Written by a program of this session (wip/tools/myprint.py: the kit's print with small turns). The machine's side: each Go function as a Lean function, and a proof that its code comes to just these answers. Conditions: none. -/
import Derived.Test.YtabfjjcbceibpaaPDatx0
import Derived.Test.YtabfjjcbceibpaaPDatx1
import Derived.Test.YtabfjjcbceibpaaPDatx2
import Derived.Test.YtabfjjcbceibpaaPDatx3
import Derived.Test.YtabfjjcbceibpaaPDatx4
import Derived.Test.YtabfjjcbceibpaaPDatx5
import Derived.Test.YtabfjjcbceibpaaPDatx6
import Derived.Test.YtabfjjcbceibpaaPDatx7
import Derived.Test.YtabfjjcbceibpaaPDatx8
namespace Go.Proofs.Ytabfjjcbceibpaa.PDat
open Go.RowKit Go.Proofs.YtabfjjcbceibpaaW.PrintWords Go.Proofs.YtabfjjcbceibpaaW.PrintLast Go.Proofs.YtabfjjcbceibpaaW.PrintMore
attribute [local go_sem] max2_int min2_int max_two min_two max_three min_three max_four min_four   -- for this text's walks alone
set_option linter.unusedVariables false
set_option linter.unusedSimpArgs false

end Go.Proofs.Ytabfjjcbceibpaa.PDat
