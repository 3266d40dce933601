/- A part of the proof of the law FnExactParsePacket: contracts of the functions that it reaches; no condition but those that each theorem states. -/
import Derived.Test.YtilnodnkknamhaaProg
import Derived.Below
import Derived.Deep.Draws
import Derived.Deep.AppendLies
import Derived.Maps.AppendAt
import Derived.OwnWalk
import Derived.Laws.BytesArg
import Derived.Laws.MakeOwn
import Derived.Laws.OwnMore
import Derived.Deep.OwnRows
import Derived.Tactics
import Derived.Lib.ConvBytes
import Derived.Laws.Slices
import Derived.WalkKit
import Derived.KernelRfl
import Derived.RowKit3
import Derived.Deep.LoopGhost
import Derived.Deep.QuietTactic
import Derived.BigQuiet
import Derived.WideLaws
import Derived.Deep.DeepCutAuto
import Derived.Deep.CutBlock
import Derived.Deep.RegionHeld3
import Derived.Laws.Rows
import Derived.Lib.AppendStr
import Derived.ArgAppend
import Derived.Laws.IdiomCopy
import Derived.OrdersHeld
import Derived.Laws.BitsLemmas
import Derived.RowKit
import Derived.Test.YtilnodnkknamhaaWWords
import Derived.Test.YtilnodnkknamhaaWLast
import Derived.Test.YtilnodnkknamhaaWTab
import Derived.Test.YtilnodnkknamhaaWFour
import Derived.Test.YtilnodnkknamhaaWQPut
import Derived.Test.YtilnodnkknamhaaWApart
import Derived.Test.YtilnodnkknamhaaWArr
import Derived.Test.YtilnodnkknamhaaWZeros
import Derived.Test.YtilnodnkknamhaaWFoot
import Derived.Test.YtilnodnkknamhaaWKept
import Derived.Test.YtilnodnkknamhaaWShare
import Derived.Test.YtilnodnkknamhaaWN
import Derived.Test.YtilnodnkknamhaaWFootNe
import Derived.Test.YtilnodnkknamhaaWAt
import Derived.Test.YtilnodnkknamhaaWEqStruct
import Derived.Test.YtilnodnkknamhaaWRepsOne
import Derived.Test.YtilnodnkknamhaaWInv
import Derived.Test.YtilnodnkknamhaaWInvWords
import Derived.Test.YtilnodnkknamhaaWGuard
import Derived.Test.YtilnodnkknamhaaWNEv
import Derived.Test.YtilnodnkknamhaaWMore
namespace Go.Proofs.Ytilnodnkknamhaa.QFnExactParsePacket
open Go.RowKit Go.Proofs.YtilnodnkknamhaaW.PrintWords Go.Proofs.YtilnodnkknamhaaW.PrintLast Go.Proofs.YtilnodnkknamhaaW.PrintMore
attribute [local go_sem] max2_int min2_int max_two min_two max_three min_three max_four min_four   -- for this text's walks alone
set_option linter.unusedVariables false
set_option linter.unusedSimpArgs false



def errW : Option Int → Value
  | none => .nilIface
  | some c => .iface 0 (.int .i64 c)
theorem errW_none : errW none = .nilIface := rfl
theorem errW_some (c : Int) : errW (some c) = .iface 0 (.int .i64 c) := rfl

theorem info3 : (Try.prog.info? 3).map (fun i => (i.zero, i.size, i.bytes)) = some (some (.int .i64 0), 1, 8) := by kernel_rfl
theorem info5 : (Try.prog.info? 5).map (fun i => (i.zero, i.size, i.bytes)) = some (some (.int .u8 0), 1, 1) := by kernel_rfl
-- the values' own types

end Go.Proofs.Ytilnodnkknamhaa.QFnExactParsePacket
