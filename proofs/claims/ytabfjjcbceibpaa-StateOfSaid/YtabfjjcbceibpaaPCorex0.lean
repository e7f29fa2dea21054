/- Written by a program of this session (wip/tools/myprint.py: the kit's print with small turns). The machine's side: each Go function as a Lean function, and a proof that its code comes to just these answers. Conditions: none. -/
import Derived.Test.YtabfjjcbceibpaaProg
import Derived.Below
import Derived.Deep.Draws
import Derived.Deep.AppendLies
import Derived.Maps.AppendAt
import Derived.OwnWalk
import Derived.Laws.BytesArg
import Derived.Laws.MakeOwn
import Derived.Laws.OwnMore
import Derived.Deep.OwnRows
import Derived.Tactics
import Derived.Lib.ConvBytes
import Derived.Laws.Slices
import Derived.WalkKit
import Derived.KernelRfl
import Derived.RowKit3
import Derived.Deep.LoopGhost
import Derived.Deep.QuietTactic
import Derived.BigQuiet
import Derived.WideLaws
import Derived.Deep.DeepCutAuto
import Derived.Deep.CutBlock
import Derived.Deep.RegionHeld3
import Derived.Laws.Rows
import Derived.Lib.AppendStr
import Derived.ArgAppend
import Derived.Laws.IdiomCopy
import Derived.OrdersHeld
import Derived.Laws.BitsLemmas
import Derived.RowKit
import Derived.Test.YtabfjjcbceibpaaWWords
import Derived.Test.YtabfjjcbceibpaaWLast
import Derived.Test.YtabfjjcbceibpaaWTab
import Derived.Test.YtabfjjcbceibpaaWFour
import Derived.Test.YtabfjjcbceibpaaWQPut
import Derived.Test.YtabfjjcbceibpaaWApart
import Derived.Test.YtabfjjcbceibpaaWArr
import Derived.Test.YtabfjjcbceibpaaWZeros
import Derived.Test.YtabfjjcbceibpaaWFoot
import Derived.Test.YtabfjjcbceibpaaWKept
import Derived.Test.YtabfjjcbceibpaaWShare
import Derived.Test.YtabfjjcbceibpaaWN
import Derived.Test.YtabfjjcbceibpaaWFootNe
import Derived.Test.YtabfjjcbceibpaaWAt
import Derived.Test.YtabfjjcbceibpaaWEqStruct
import Derived.Test.YtabfjjcbceibpaaWRepsOne
import Derived.Test.YtabfjjcbceibpaaWInv
import Derived.Test.YtabfjjcbceibpaaWInvWords
import Derived.Test.YtabfjjcbceibpaaWGuard
import Derived.Test.YtabfjjcbceibpaaWNEv
import Derived.Test.YtabfjjcbceibpaaWMore
namespace Go.Proofs.Ytabfjjcbceibpaa.PCore
open Go.RowKit Go.Proofs.YtabfjjcbceibpaaW.PrintWords Go.Proofs.YtabfjjcbceibpaaW.PrintLast Go.Proofs.YtabfjjcbceibpaaW.PrintMore
attribute [local go_sem] max2_int min2_int max_two min_two max_three min_three max_four min_four   -- for this text's walks alone
set_option linter.unusedVariables false
set_option linter.unusedSimpArgs false



def errW : Option Int → Value
  | none => .nilIface
  | some c => .iface 0 (.int .i64 c)
theorem errW_none : errW none = .nilIface := rfl
theorem errW_some (c : Int) : errW (some c) = .iface 0 (.int .i64 c) := rfl

theorem info5 : (Try.prog.info? 5).map (fun i => (i.zero, i.size, i.bytes)) = some (some (.int .u8 0), 1, 1) := by kernel_rfl
-- the values' own types

end Go.Proofs.Ytabfjjcbceibpaa.PCore
