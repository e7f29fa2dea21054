/- Written by a program of this session (wip/tools/myprint.py: the kit's print with small turns). The machine's side: each Go function as a Lean function, and a proof that its code comes to just these answers. Conditions: none. -/
import Derived.Test.YtcegkljkmnpkaaaProg
import Derived.Below
import Derived.Deep.Draws
import Derived.Deep.AppendLies
import Derived.Maps.AppendAt
import Derived.OwnWalk
import Derived.Laws.BytesArg
import Derived.Laws.MakeOwn
import Derived.Laws.OwnMore
import Derived.Deep.OwnRows
import Derived.Tactics
import Derived.Lib.ConvBytes
import Derived.Laws.Slices
import Derived.WalkKit
import Derived.KernelRfl
import Derived.RowKit3
import Derived.Deep.LoopGhost
import Derived.Deep.QuietTactic
import Derived.BigQuiet
import Derived.WideLaws
import Derived.Deep.DeepCutAuto
import Derived.Deep.CutBlock
import Derived.Deep.RegionHeld3
import Derived.Laws.Rows
import Derived.Lib.AppendStr
import Derived.ArgAppend
import Derived.Laws.IdiomCopy
import Derived.OrdersHeld
import Derived.Laws.BitsLemmas
import Derived.RowKit
import Derived.Test.YtcegkljkmnpkaaaWWords
import Derived.Test.YtcegkljkmnpkaaaWLast
import Derived.Test.YtcegkljkmnpkaaaWTab
import Derived.Test.YtcegkljkmnpkaaaWFour
import Derived.Test.YtcegkljkmnpkaaaWQPut
import Derived.Test.YtcegkljkmnpkaaaWApart
import Derived.Test.YtcegkljkmnpkaaaWArr
import Derived.Test.YtcegkljkmnpkaaaWZeros
import Derived.Test.YtcegkljkmnpkaaaWFoot
import Derived.Test.YtcegkljkmnpkaaaWKept
import Derived.Test.YtcegkljkmnpkaaaWShare
import Derived.Test.YtcegkljkmnpkaaaWN
import Derived.Test.YtcegkljkmnpkaaaWFootNe
import Derived.Test.YtcegkljkmnpkaaaWAt
import Derived.Test.YtcegkljkmnpkaaaWEqStruct
import Derived.Test.YtcegkljkmnpkaaaWRepsOne
import Derived.Test.YtcegkljkmnpkaaaWInv
import Derived.Test.YtcegkljkmnpkaaaWInvWords
import Derived.Test.YtcegkljkmnpkaaaWGuard
import Derived.Test.YtcegkljkmnpkaaaWNEv
import Derived.Test.YtcegkljkmnpkaaaWMore
namespace Go.Proofs.Ytcegkljkmnpkaaa.PCore
open Go.RowKit Go.Proofs.YtcegkljkmnpkaaaW.PrintWords Go.Proofs.YtcegkljkmnpkaaaW.PrintLast Go.Proofs.YtcegkljkmnpkaaaW.PrintMore
attribute [local go_sem] max2_int min2_int max_two min_two max_three min_three max_four min_four   -- for this text's walks alone
set_option linter.unusedVariables false
set_option linter.unusedSimpArgs false



def errW : Option Int → Value
  | none => .nilIface
  | some c => .iface 0 (.int .i64 c)
theorem errW_none : errW none = .nilIface := rfl
theorem errW_some (c : Int) : errW (some c) = .iface 0 (.int .i64 c) := rfl

theorem info5 : (Try.prog.info? 5).map (fun i => (i.zero, i.size, i.bytes)) = some (some (.int .u8 0), 1, 1) := by kernel_rfl
-- the values' own types

end Go.Proofs.Ytcegkljkmnpkaaa.PCore
