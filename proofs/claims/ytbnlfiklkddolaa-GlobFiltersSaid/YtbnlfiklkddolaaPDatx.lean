/- Written by a program of this session (wip/tools/myprint.py: the kit's print with small turns). The machine's side: each Go function as a Lean function, and a proof that its code comes to just these answers. Conditions: none. -/
import Derived.Test.YtbnlfiklkddolaaPDatx0
import Derived.Test.YtbnlfiklkddolaaPDatx1
import Derived.Test.YtbnlfiklkddolaaPDatx2
namespace Go.Proofs.Ytbnlfiklkddolaa.PDat
open Go.RowKit Go.Proofs.YtbnlfiklkddolaaW.PrintWords Go.Proofs.YtbnlfiklkddolaaW.PrintLast Go.Proofs.YtbnlfiklkddolaaW.PrintMore
attribute [local go_sem] max2_int min2_int max_two min_two max_three min_three max_four min_four   -- for this text's walks alone
set_option linter.unusedVariables false
set_option linter.unusedSimpArgs false

end Go.Proofs.Ytbnlfiklkddolaa.PDat
