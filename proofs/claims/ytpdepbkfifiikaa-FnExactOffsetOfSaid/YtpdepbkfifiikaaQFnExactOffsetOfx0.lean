/- A part of the proof of the law FnExactOffsetOf: contracts of the functions that it reaches; no condition but those that each theorem states. -/
import Derived.Test.YtpdepbkfifiikaaProg
import Derived.Below
import Derived.Deep.Draws
import Derived.Deep.AppendLies
import Derived.Maps.AppendAt
import Derived.OwnWalk
import Derived.Laws.BytesArg
import Derived.Laws.MakeOwn
import Derived.Laws.OwnMore
import Derived.Deep.OwnRows
import Derived.Tactics
import Derived.Lib.ConvBytes
import Derived.Laws.Slices
import Derived.WalkKit
import Derived.KernelRfl
import Derived.RowKit3
import Derived.Deep.LoopGhost
import Derived.Deep.QuietTactic
import Derived.BigQuiet
import Derived.WideLaws
import Derived.Deep.DeepCutAuto
import Derived.Deep.CutBlock
import Derived.Deep.RegionHeld3
import Derived.Laws.Rows
import Derived.Lib.AppendStr
import Derived.ArgAppend
import Derived.Laws.IdiomCopy
import Derived.OrdersHeld
import Derived.Laws.BitsLemmas
import Derived.RowKit
import Derived.Test.YtpdepbkfifiikaaWWords
import Derived.Test.YtpdepbkfifiikaaWLast
import Derived.Test.YtpdepbkfifiikaaWTab
import Derived.Test.YtpdepbkfifiikaaWFour
import Derived.Test.YtpdepbkfifiikaaWQPut
import Derived.Test.YtpdepbkfifiikaaWApart
import Derived.Test.YtpdepbkfifiikaaWArr
import Derived.Test.YtpdepbkfifiikaaWZeros
import Derived.Test.YtpdepbkfifiikaaWFoot
import Derived.Test.YtpdepbkfifiikaaWKept
import Derived.Test.YtpdepbkfifiikaaWShare
import Derived.Test.YtpdepbkfifiikaaWN
import Derived.Test.YtpdepbkfifiikaaWFootNe
import Derived.Test.YtpdepbkfifiikaaWAt
import Derived.Test.YtpdepbkfifiikaaWEqStruct
import Derived.Test.YtpdepbkfifiikaaWRepsOne
import Derived.Test.YtpdepbkfifiikaaWInv
import Derived.Test.YtpdepbkfifiikaaWInvWords
import Derived.Test.YtpdepbkfifiikaaWGuard
import Derived.Test.YtpdepbkfifiikaaWNEv
import Derived.Test.YtpdepbkfifiikaaWMore
namespace Go.Proofs.Ytpdepbkfifiikaa.QFnExactOffsetOf
open Go.RowKit Go.Proofs.YtpdepbkfifiikaaW.PrintWords Go.Proofs.YtpdepbkfifiikaaW.PrintLast Go.Proofs.YtpdepbkfifiikaaW.PrintMore
attribute [local go_sem] max2_int min2_int max_two min_two max_three min_three max_four min_four   -- for this text's walks alone
set_option linter.unusedVariables false
set_option linter.unusedSimpArgs false



def errW : Option Int → Value
  | none => .nilIface
  | some c => .iface 0 (.int .i64 c)
theorem errW_none : errW none = .nilIface := rfl
theorem errW_some (c : Int) : errW (some c) = .iface 0 (.int .i64 c) := rfl

theorem info3 : (Try.prog.info? 3).map (fun i => (i.zero, i.size, i.bytes)) = some (some (.int .i64 0), 1, 8) := by kernel_rfl
-- the values' own types

end Go.Proofs.Ytpdepbkfifiikaa.QFnExactOffsetOf
