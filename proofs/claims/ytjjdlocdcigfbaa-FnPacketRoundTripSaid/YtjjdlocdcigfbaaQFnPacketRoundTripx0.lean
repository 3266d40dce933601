/- A part of the proof of the law FnPacketRoundTrip: contracts of the functions that it reaches; no condition but those that each theorem states. -/
import Derived.Test.YtjjdlocdcigfbaaProg
import Derived.Below
import Derived.Deep.Draws
import Derived.Deep.AppendLies
import Derived.Maps.AppendAt
import Derived.OwnWalk
import Derived.Laws.BytesArg
import Derived.Laws.MakeOwn
import Derived.Laws.OwnMore
import Derived.Deep.OwnRows
import Derived.Tactics
import Derived.Lib.ConvBytes
import Derived.Laws.Slices
import Derived.WalkKit
import Derived.KernelRfl
import Derived.RowKit3
import Derived.Deep.LoopGhost
import Derived.Deep.QuietTactic
import Derived.BigQuiet
import Derived.WideLaws
import Derived.Deep.DeepCutAuto
import Derived.Deep.CutBlock
import Derived.Deep.RegionHeld3
import Derived.Laws.Rows
import Derived.Lib.AppendStr
import Derived.ArgAppend
import Derived.Laws.IdiomCopy
import Derived.OrdersHeld
import Derived.Laws.BitsLemmas
import Derived.RowKit
import Derived.Test.YtjjdlocdcigfbaaWWords
import Derived.Test.YtjjdlocdcigfbaaWLast
import Derived.Test.YtjjdlocdcigfbaaWTab
import Derived.Test.YtjjdlocdcigfbaaWFour
import Derived.Test.YtjjdlocdcigfbaaWQPut
import Derived.Test.YtjjdlocdcigfbaaWApart
import Derived.Test.YtjjdlocdcigfbaaWArr
import Derived.Test.YtjjdlocdcigfbaaWZeros
import Derived.Test.YtjjdlocdcigfbaaWFoot
import Derived.Test.YtjjdlocdcigfbaaWKept
import Derived.Test.YtjjdlocdcigfbaaWShare
import Derived.Test.YtjjdlocdcigfbaaWN
import Derived.Test.YtjjdlocdcigfbaaWFootNe
import Derived.Test.YtjjdlocdcigfbaaWAt
import Derived.Test.YtjjdlocdcigfbaaWEqStruct
import Derived.Test.YtjjdlocdcigfbaaWRepsOne
import Derived.Test.YtjjdlocdcigfbaaWInv
import Derived.Test.YtjjdlocdcigfbaaWInvWords
import Derived.Test.YtjjdlocdcigfbaaWGuard
import Derived.Test.YtjjdlocdcigfbaaWNEv
import Derived.Test.YtjjdlocdcigfbaaWMore
namespace Go.Proofs.Ytjjdlocdcigfbaa.QFnPacketRoundTrip
open Go.RowKit Go.Proofs.YtjjdlocdcigfbaaW.PrintWords Go.Proofs.YtjjdlocdcigfbaaW.PrintLast Go.Proofs.YtjjdlocdcigfbaaW.PrintMore
attribute [local go_sem] max2_int min2_int max_two min_two max_three min_three max_four min_four   -- for this text's walks alone
set_option linter.unusedVariables false
set_option linter.unusedSimpArgs false



def errW : Option Int → Value
  | none => .nilIface
  | some c => .iface 0 (.int .i64 c)
theorem errW_none : errW none = .nilIface := rfl
theorem errW_some (c : Int) : errW (some c) = .iface 0 (.int .i64 c) := rfl

theorem info3 : (Try.prog.info? 3).map (fun i => (i.zero, i.size, i.bytes)) = some (some (.int .i64 0), 1, 8) := by kernel_rfl
theorem info5 : (Try.prog.info? 5).map (fun i => (i.zero, i.size, i.bytes)) = some (some (.int .u8 0), 1, 1) := by kernel_rfl
-- the values' own types

end Go.Proofs.Ytjjdlocdcigfbaa.QFnPacketRoundTrip
