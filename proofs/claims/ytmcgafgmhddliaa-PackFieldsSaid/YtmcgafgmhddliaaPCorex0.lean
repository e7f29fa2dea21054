/- Written by a program of this session (wip/tools/myprint.py: the kit's print with small turns). The machine's side: each Go function as a Lean function, and a proof that its code comes to just these answers. Conditions: none. -/
import Derived.Test.YtmcgafgmhddliaaProg
import Derived.Below
import Derived.Deep.Draws
import Derived.Deep.AppendLies
import Derived.Maps.AppendAt
import Derived.OwnWalk
import Derived.Laws.BytesArg
import Derived.Laws.MakeOwn
import Derived.Laws.OwnMore
import Derived.Deep.OwnRows
import Derived.Tactics
import Derived.Lib.ConvBytes
import Derived.Laws.Slices
import Derived.WalkKit
import Derived.KernelRfl
import Derived.RowKit3
import Derived.Deep.LoopGhost
import Derived.Deep.QuietTactic
import Derived.BigQuiet
import Derived.WideLaws
import Derived.Deep.DeepCutAuto
import Derived.Deep.CutBlock
import Derived.Deep.RegionHeld3
import Derived.Laws.Rows
import Derived.Lib.AppendStr
import Derived.ArgAppend
import Derived.Laws.IdiomCopy
import Derived.OrdersHeld
import Derived.Laws.BitsLemmas
import Derived.RowKit
import Derived.Test.YtmcgafgmhddliaaWWords
import Derived.Test.YtmcgafgmhddliaaWLast
import Derived.Test.YtmcgafgmhddliaaWTab
import Derived.Test.YtmcgafgmhddliaaWFour
import Derived.Test.YtmcgafgmhddliaaWQPut
import Derived.Test.YtmcgafgmhddliaaWApart
import Derived.Test.YtmcgafgmhddliaaWArr
import Derived.Test.YtmcgafgmhddliaaWZeros
import Derived.Test.YtmcgafgmhddliaaWFoot
import Derived.Test.YtmcgafgmhddliaaWKept
import Derived.Test.YtmcgafgmhddliaaWShare
import Derived.Test.YtmcgafgmhddliaaWN
import Derived.Test.YtmcgafgmhddliaaWFootNe
import Derived.Test.YtmcgafgmhddliaaWAt
import Derived.Test.YtmcgafgmhddliaaWEqStruct
import Derived.Test.YtmcgafgmhddliaaWRepsOne
import Derived.Test.YtmcgafgmhddliaaWInv
import Derived.Test.YtmcgafgmhddliaaWInvWords
import Derived.Test.YtmcgafgmhddliaaWGuard
import Derived.Test.YtmcgafgmhddliaaWNEv
import Derived.Test.YtmcgafgmhddliaaWMore
namespace Go.Proofs.Ytmcgafgmhddliaa.PCore
open Go.RowKit Go.Proofs.YtmcgafgmhddliaaW.PrintWords Go.Proofs.YtmcgafgmhddliaaW.PrintLast Go.Proofs.YtmcgafgmhddliaaW.PrintMore
attribute [local go_sem] max2_int min2_int max_two min_two max_three min_three max_four min_four   -- for this text's walks alone
set_option linter.unusedVariables false
set_option linter.unusedSimpArgs false



def errW : Option Int → Value
  | none => .nilIface
  | some c => .iface 0 (.int .i64 c)
theorem errW_none : errW none = .nilIface := rfl
theorem errW_some (c : Int) : errW (some c) = .iface 0 (.int .i64 c) := rfl

theorem info5 : (Try.prog.info? 5).map (fun i => (i.zero, i.size, i.bytes)) = some (some (.int .u8 0), 1, 1) := by kernel_rfl
-- the values' own types

end Go.Proofs.Ytmcgafgmhddliaa.PCore
