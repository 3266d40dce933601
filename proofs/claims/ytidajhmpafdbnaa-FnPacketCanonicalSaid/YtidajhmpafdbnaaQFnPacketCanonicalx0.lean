/- A part of the proof of the law FnPacketCanonical: contracts of the functions that it reaches; no condition but those that each theorem states. -/
import Derived.Test.YtidajhmpafdbnaaProg
import Derived.Below
import Derived.Deep.Draws
import Derived.Deep.AppendLies
import Derived.Maps.AppendAt
import Derived.OwnWalk
import Derived.Laws.BytesArg
import Derived.Laws.MakeOwn
import Derived.Laws.OwnMore
import Derived.Deep.OwnRows
import Derived.Tactics
import Derived.Lib.ConvBytes
import Derived.Laws.Slices
import Derived.WalkKit
import Derived.KernelRfl
import Derived.RowKit3
import Derived.Deep.LoopGhost
import Derived.Deep.QuietTactic
import Derived.BigQuiet
import Derived.WideLaws
import Derived.Deep.DeepCutAuto
import Derived.Deep.CutBlock
import Derived.Deep.RegionHeld3
import Derived.Laws.Rows
import Derived.Lib.AppendStr
import Derived.ArgAppend
import Derived.Laws.IdiomCopy
import Derived.OrdersHeld
import Derived.Laws.BitsLemmas
import Derived.RowKit
import Derived.Test.YtidajhmpafdbnaaWWords
import Derived.Test.YtidajhmpafdbnaaWLast
import Derived.Test.YtidajhmpafdbnaaWTab
import Derived.Test.YtidajhmpafdbnaaWFour
import Derived.Test.YtidajhmpafdbnaaWQPut
import Derived.Test.YtidajhmpafdbnaaWApart
import Derived.Test.YtidajhmpafdbnaaWArr
import Derived.Test.YtidajhmpafdbnaaWZeros
import Derived.Test.YtidajhmpafdbnaaWFoot
import Derived.Test.YtidajhmpafdbnaaWKept
import Derived.Test.YtidajhmpafdbnaaWShare
import Derived.Test.YtidajhmpafdbnaaWN
import Derived.Test.YtidajhmpafdbnaaWFootNe
import Derived.Test.YtidajhmpafdbnaaWAt
import Derived.Test.YtidajhmpafdbnaaWEqStruct
import Derived.Test.YtidajhmpafdbnaaWRepsOne
import Derived.Test.YtidajhmpafdbnaaWInv
import Derived.Test.YtidajhmpafdbnaaWInvWords
import Derived.Test.YtidajhmpafdbnaaWGuard
import Derived.Test.YtidajhmpafdbnaaWNEv
import Derived.Test.YtidajhmpafdbnaaWMore
namespace Go.Proofs.Ytidajhmpafdbnaa.QFnPacketCanonical
open Go.RowKit Go.Proofs.YtidajhmpafdbnaaW.PrintWords Go.Proofs.YtidajhmpafdbnaaW.PrintLast Go.Proofs.YtidajhmpafdbnaaW.PrintMore
attribute [local go_sem] max2_int min2_int max_two min_two max_three min_three max_four min_four   -- for this text's walks alone
set_option linter.unusedVariables false
set_option linter.unusedSimpArgs false



def errW : Option Int → Value
  | none => .nilIface
  | some c => .iface 0 (.int .i64 c)
theorem errW_none : errW none = .nilIface := rfl
theorem errW_some (c : Int) : errW (some c) = .iface 0 (.int .i64 c) := rfl

theorem info3 : (Try.prog.info? 3).map (fun i => (i.zero, i.size, i.bytes)) = some (some (.int .i64 0), 1, 8) := by kernel_rfl
theorem info5 : (Try.prog.info? 5).map (fun i => (i.zero, i.size, i.bytes)) = some (some (.int .u8 0), 1, 1) := by kernel_rfl
-- the values' own types

end Go.Proofs.Ytidajhmpafdbnaa.QFnPacketCanonical
