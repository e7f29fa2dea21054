/- Written by a program of this session (wip/tools/myprint.py: the kit's print with small turns). The machine's side: each Go function as a Lean function, and a proof that its code comes to just these answers. Conditions: none. -/
import Derived.Test.YtdbgfmiokmempaaProg
import Derived.Below
import Derived.Deep.Draws
import Derived.Deep.AppendLies
import Derived.Maps.AppendAt
import Derived.OwnWalk
import Derived.Laws.BytesArg
import Derived.Laws.MakeOwn
import Derived.Laws.OwnMore
import Derived.Deep.OwnRows
import Derived.Tactics
import Derived.Lib.ConvBytes
import Derived.Laws.Slices
import Derived.WalkKit
import Derived.KernelRfl
import Derived.RowKit3
import Derived.Deep.LoopGhost
import Derived.Deep.QuietTactic
import Derived.BigQuiet
import Derived.WideLaws
import Derived.Deep.DeepCutAuto
import Derived.Deep.CutBlock
import Derived.Deep.RegionHeld3
import Derived.Laws.Rows
import Derived.Lib.AppendStr
import Derived.ArgAppend
import Derived.Laws.IdiomCopy
import Derived.OrdersHeld
import Derived.Laws.BitsLemmas
import Derived.RowKit
import Derived.Test.YtdbgfmiokmempaaWWords
import Derived.Test.YtdbgfmiokmempaaWLast
import Derived.Test.YtdbgfmiokmempaaWTab
import Derived.Test.YtdbgfmiokmempaaWFour
import Derived.Test.YtdbgfmiokmempaaWQPut
import Derived.Test.YtdbgfmiokmempaaWApart
import Derived.Test.YtdbgfmiokmempaaWArr
import Derived.Test.YtdbgfmiokmempaaWZeros
import Derived.Test.YtdbgfmiokmempaaWFoot
import Derived.Test.YtdbgfmiokmempaaWKept
import Derived.Test.YtdbgfmiokmempaaWShare
import Derived.Test.YtdbgfmiokmempaaWN
import Derived.Test.YtdbgfmiokmempaaWFootNe
import Derived.Test.YtdbgfmiokmempaaWAt
import Derived.Test.YtdbgfmiokmempaaWEqStruct
import Derived.Test.YtdbgfmiokmempaaWRepsOne
import Derived.Test.YtdbgfmiokmempaaWInv
import Derived.Test.YtdbgfmiokmempaaWInvWords
import Derived.Test.YtdbgfmiokmempaaWGuard
import Derived.Test.YtdbgfmiokmempaaWNEv
import Derived.Test.YtdbgfmiokmempaaWMore
namespace Go.Proofs.Ytdbgfmiokmempaa.PCore
open Go.RowKit Go.Proofs.YtdbgfmiokmempaaW.PrintWords Go.Proofs.YtdbgfmiokmempaaW.PrintLast Go.Proofs.YtdbgfmiokmempaaW.PrintMore
attribute [local go_sem] max2_int min2_int max_two min_two max_three min_three max_four min_four   -- for this text's walks alone
set_option linter.unusedVariables false
set_option linter.unusedSimpArgs false



def errW : Option Int → Value
  | none => .nilIface
  | some c => .iface 0 (.int .i64 c)
theorem errW_none : errW none = .nilIface := rfl
theorem errW_some (c : Int) : errW (some c) = .iface 0 (.int .i64 c) := rfl

theorem info5 : (Try.prog.info? 5).map (fun i => (i.zero, i.size, i.bytes)) = some (some (.int .u8 0), 1, 1) := by kernel_rfl
-- the values' own types

end Go.Proofs.Ytdbgfmiokmempaa.PCore
