/-
  No cell of these rows narrows 'for every input' (looked for: loops, veiled, ifaces, maps, wideKeys, modest, calm, conditions, laid).
  DERIVED. THE GIVEN ROWS OF THIS SEAT. 12 by the template 'for every input the law returns true; each argument reads behind the call as it read before'; 0 by the template 'total and deterministic' (their statements: YtilnodnkknamhaaTotals.lean).
  GIVEN WITH THE SEED: the statements are not yours to turn. If you find one false, say at which input.
  Laid BY PROGRAM, IN A SANDBOX (cutbox-rows.mjs): the forced cells as the released guide's own fill.sh prints them over the translation 204f4e5738da0c3b… (all of the seat's roots in one cut). By AI agents, Wed Nov 11 2026. No macro, syntax, notation, axiom, sorry.
-/
import Derived.Test.YtilnodnkknamhaaChecked
import GoSem.Claim
import GoSem.ClaimJoined
import GoSem.ClaimMapViews
import Derived.JoinedTies
import Derived.KernelRfl
namespace Go.Proofs.Ytilnodnkknamhaa
/- THE CELL 'sum', in the pinned program and in every row, IS THE sha256 OF THE DUMP (.gsa) THAT YtilnodnkknamhaaProg.lean LOADS. Nothing in Lean hashes anything: it is a label: what it is worth is what the hold of that sum in a sandbox is worth. -/
noncomputable def Try.pinned : Pinned := { name := "ytilnodnkknamhaa", sum := "204f4e5738da0c3b592d7b2832eff8b4529037785e7e193e65aa85576f1caa05", checked := Try.checked }
namespace Rows
def none {H : Type} : Left H := { results := [], args := [] }

/-- 'laws.FnExactFormatPacket': WHATEVER THE INPUT: true; the input reads as it did. -/
def fnExactFormatPacketSpec : ChangeSpec := { name := "fnExactFormatPacket", fn := fun _ => fun
  | [d] => { results := [.lit (.bool true)], args := [d] }
  | _ => none }
def fnExactFormatPacketRow : OpenClaim := { program := "ytilnodnkknamhaa", sum := "204f4e5738da0c3b592d7b2832eff8b4529037785e7e193e65aa85576f1caa05", func := "loop.example/satelliteclock/laws.FnExactFormatPacket", spec := "fnExactFormatPacket", apart := false }
def FnExactFormatPacketSaid : Prop := fnExactFormatPacketRow.holds Try.pinned (OpenSpec.ofChange fnExactFormatPacketSpec)

/-- ITS FALSE NEIGHBOUR: 'it returns false'. Refute it at one input. -/
def fnExactFormatPacketWrong : ChangeSpec := { name := "fnExactFormatPacket", fn := fun _ => fun
  | [d] => { results := [.lit (.bool false)], args := [d] }
  | _ => none }
def FnExactFormatPacketWrongFalsely : Prop := fnExactFormatPacketRow.holds Try.pinned (OpenSpec.ofChange fnExactFormatPacketWrong)

/-- 'laws.FnLevelAtLocked': WHATEVER THE INPUT: true; the input reads as it did. -/
def fnLevelAtLockedSpec : ChangeSpec := { name := "fnLevelAtLocked", fn := fun _ => fun
  | [d] => { results := [.lit (.bool true)], args := [d] }
  | _ => none }
def fnLevelAtLockedRow : OpenClaim := { program := "ytilnodnkknamhaa", sum := "204f4e5738da0c3b592d7b2832eff8b4529037785e7e193e65aa85576f1caa05", func := "loop.example/satelliteclock/laws.FnLevelAtLocked", spec := "fnLevelAtLocked", apart := false }
def FnLevelAtLockedSaid : Prop := fnLevelAtLockedRow.holds Try.pinned (OpenSpec.ofChange fnLevelAtLockedSpec)

/-- ITS FALSE NEIGHBOUR: 'it returns false'. Refute it at one input. -/
def fnLevelAtLockedWrong : ChangeSpec := { name := "fnLevelAtLocked", fn := fun _ => fun
  | [d] => { results := [.lit (.bool false)], args := [d] }
  | _ => none }
def FnLevelAtLockedWrongFalsely : Prop := fnLevelAtLockedRow.holds Try.pinned (OpenSpec.ofChange fnLevelAtLockedWrong)

/-- 'laws.FnAnswerClient': WHATEVER THE INPUT: true; the input reads as it did. -/
def fnAnswerClientSpec : ChangeSpec := { name := "fnAnswerClient", fn := fun _ => fun
  | [d] => { results := [.lit (.bool true)], args := [d] }
  | _ => none }
def fnAnswerClientRow : OpenClaim := { program := "ytilnodnkknamhaa", sum := "204f4e5738da0c3b592d7b2832eff8b4529037785e7e193e65aa85576f1caa05", func := "loop.example/satelliteclock/laws.FnAnswerClient", spec := "fnAnswerClient", apart := false }
def FnAnswerClientSaid : Prop := fnAnswerClientRow.holds Try.pinned (OpenSpec.ofChange fnAnswerClientSpec)

/-- ITS FALSE NEIGHBOUR: 'it returns false'. Refute it at one input. -/
def fnAnswerClientWrong : ChangeSpec := { name := "fnAnswerClient", fn := fun _ => fun
  | [d] => { results := [.lit (.bool false)], args := [d] }
  | _ => none }
def FnAnswerClientWrongFalsely : Prop := fnAnswerClientRow.holds Try.pinned (OpenSpec.ofChange fnAnswerClientWrong)

/-- 'laws.FnAnswerClientAlarm': WHATEVER THE INPUT: true; the input reads as it did. -/
def fnAnswerClientAlarmSpec : ChangeSpec := { name := "fnAnswerClientAlarm", fn := fun _ => fun
  | [d] => { results := [.lit (.bool true)], args := [d] }
  | _ => none }
def fnAnswerClientAlarmRow : OpenClaim := { program := "ytilnodnkknamhaa", sum := "204f4e5738da0c3b592d7b2832eff8b4529037785e7e193e65aa85576f1caa05", func := "loop.example/satelliteclock/laws.FnAnswerClientAlarm", spec := "fnAnswerClientAlarm", apart := false }
def FnAnswerClientAlarmSaid : Prop := fnAnswerClientAlarmRow.holds Try.pinned (OpenSpec.ofChange fnAnswerClientAlarmSpec)

/-- ITS FALSE NEIGHBOUR: 'it returns false'. Refute it at one input. -/
def fnAnswerClientAlarmWrong : ChangeSpec := { name := "fnAnswerClientAlarm", fn := fun _ => fun
  | [d] => { results := [.lit (.bool false)], args := [d] }
  | _ => none }
def FnAnswerClientAlarmWrongFalsely : Prop := fnAnswerClientAlarmRow.holds Try.pinned (OpenSpec.ofChange fnAnswerClientAlarmWrong)

/-- 'laws.FnDelayOf': WHATEVER THE INPUT: true; the input reads as it did. -/
def fnDelayOfSpec : ChangeSpec := { name := "fnDelayOf", fn := fun _ => fun
  | [d] => { results := [.lit (.bool true)], args := [d] }
  | _ => none }
def fnDelayOfRow : OpenClaim := { program := "ytilnodnkknamhaa", sum := "204f4e5738da0c3b592d7b2832eff8b4529037785e7e193e65aa85576f1caa05", func := "loop.example/satelliteclock/laws.FnDelayOf", spec := "fnDelayOf", unfollowed := true, recurses := true, apart := false }
def FnDelayOfSaid : Prop := fnDelayOfRow.holds Try.pinned (OpenSpec.ofChange fnDelayOfSpec)

/-- ITS FALSE NEIGHBOUR: 'it returns false'. Refute it at one input. -/
def fnDelayOfWrong : ChangeSpec := { name := "fnDelayOf", fn := fun _ => fun
  | [d] => { results := [.lit (.bool false)], args := [d] }
  | _ => none }
def FnDelayOfWrongFalsely : Prop := fnDelayOfRow.holds Try.pinned (OpenSpec.ofChange fnDelayOfWrong)

/-- 'laws.FnPacketVersion': WHATEVER THE INPUT: true; the input reads as it did. -/
def fnPacketVersionSpec : ChangeSpec := { name := "fnPacketVersion", fn := fun _ => fun
  | [d] => { results := [.lit (.bool true)], args := [d] }
  | _ => none }
def fnPacketVersionRow : OpenClaim := { program := "ytilnodnkknamhaa", sum := "204f4e5738da0c3b592d7b2832eff8b4529037785e7e193e65aa85576f1caa05", func := "loop.example/satelliteclock/laws.FnPacketVersion", spec := "fnPacketVersion", apart := false }
def FnPacketVersionSaid : Prop := fnPacketVersionRow.holds Try.pinned (OpenSpec.ofChange fnPacketVersionSpec)

/-- ITS FALSE NEIGHBOUR: 'it returns false'. Refute it at one input. -/
def fnPacketVersionWrong : ChangeSpec := { name := "fnPacketVersion", fn := fun _ => fun
  | [d] => { results := [.lit (.bool false)], args := [d] }
  | _ => none }
def FnPacketVersionWrongFalsely : Prop := fnPacketVersionRow.holds Try.pinned (OpenSpec.ofChange fnPacketVersionWrong)

/-- 'laws.FnAnswerClientTake': WHATEVER THE INPUT: true; the input reads as it did. -/
def fnAnswerClientTakeSpec : ChangeSpec := { name := "fnAnswerClientTake", fn := fun _ => fun
  | [d] => { results := [.lit (.bool true)], args := [d] }
  | _ => none }
def fnAnswerClientTakeRow : OpenClaim := { program := "ytilnodnkknamhaa", sum := "204f4e5738da0c3b592d7b2832eff8b4529037785e7e193e65aa85576f1caa05", func := "loop.example/satelliteclock/laws.FnAnswerClientTake", spec := "fnAnswerClientTake", apart := false }
def FnAnswerClientTakeSaid : Prop := fnAnswerClientTakeRow.holds Try.pinned (OpenSpec.ofChange fnAnswerClientTakeSpec)

/-- ITS FALSE NEIGHBOUR: 'it returns false'. Refute it at one input. -/
def fnAnswerClientTakeWrong : ChangeSpec := { name := "fnAnswerClientTake", fn := fun _ => fun
  | [d] => { results := [.lit (.bool false)], args := [d] }
  | _ => none }
def FnAnswerClientTakeWrongFalsely : Prop := fnAnswerClientTakeRow.holds Try.pinned (OpenSpec.ofChange fnAnswerClientTakeWrong)

/-- 'laws.FnExactBestStep': WHATEVER THE INPUT: true; the input reads as it did. -/
def fnExactBestStepSpec : ChangeSpec := { name := "fnExactBestStep", fn := fun _ => fun
  | [d] => { results := [.lit (.bool true)], args := [d] }
  | _ => none }
def fnExactBestStepRow : OpenClaim := { program := "ytilnodnkknamhaa", sum := "204f4e5738da0c3b592d7b2832eff8b4529037785e7e193e65aa85576f1caa05", func := "loop.example/satelliteclock/laws.FnExactBestStep", spec := "fnExactBestStep", unfollowed := true, recurses := true, apart := false }
def FnExactBestStepSaid : Prop := fnExactBestStepRow.holds Try.pinned (OpenSpec.ofChange fnExactBestStepSpec)

/-- ITS FALSE NEIGHBOUR: 'it returns false'. Refute it at one input. -/
def fnExactBestStepWrong : ChangeSpec := { name := "fnExactBestStep", fn := fun _ => fun
  | [d] => { results := [.lit (.bool false)], args := [d] }
  | _ => none }
def FnExactBestStepWrongFalsely : Prop := fnExactBestStepRow.holds Try.pinned (OpenSpec.ofChange fnExactBestStepWrong)

/-- 'laws.FnExactParsePacket': WHATEVER THE INPUT: true; the input reads as it did. -/
def fnExactParsePacketSpec : ChangeSpec := { name := "fnExactParsePacket", fn := fun _ => fun
  | [d] => { results := [.lit (.bool true)], args := [d] }
  | _ => none }
def fnExactParsePacketRow : OpenClaim := { program := "ytilnodnkknamhaa", sum := "204f4e5738da0c3b592d7b2832eff8b4529037785e7e193e65aa85576f1caa05", func := "loop.example/satelliteclock/laws.FnExactParsePacket", spec := "fnExactParsePacket", apart := false }
def FnExactParsePacketSaid : Prop := fnExactParsePacketRow.holds Try.pinned (OpenSpec.ofChange fnExactParsePacketSpec)

/-- ITS FALSE NEIGHBOUR: 'it returns false'. Refute it at one input. -/
def fnExactParsePacketWrong : ChangeSpec := { name := "fnExactParsePacket", fn := fun _ => fun
  | [d] => { results := [.lit (.bool false)], args := [d] }
  | _ => none }
def FnExactParsePacketWrongFalsely : Prop := fnExactParsePacketRow.holds Try.pinned (OpenSpec.ofChange fnExactParsePacketWrong)

/-- 'laws.FnSlopeOf': WHATEVER THE INPUT: true; the input reads as it did. -/
def fnSlopeOfSpec : ChangeSpec := { name := "fnSlopeOf", fn := fun _ => fun
  | [d] => { results := [.lit (.bool true)], args := [d] }
  | _ => none }
def fnSlopeOfRow : OpenClaim := { program := "ytilnodnkknamhaa", sum := "204f4e5738da0c3b592d7b2832eff8b4529037785e7e193e65aa85576f1caa05", func := "loop.example/satelliteclock/laws.FnSlopeOf", spec := "fnSlopeOf", unfollowed := true, recurses := true, apart := false }
def FnSlopeOfSaid : Prop := fnSlopeOfRow.holds Try.pinned (OpenSpec.ofChange fnSlopeOfSpec)

/-- ITS FALSE NEIGHBOUR: 'it returns false'. Refute it at one input. -/
def fnSlopeOfWrong : ChangeSpec := { name := "fnSlopeOf", fn := fun _ => fun
  | [d] => { results := [.lit (.bool false)], args := [d] }
  | _ => none }
def FnSlopeOfWrongFalsely : Prop := fnSlopeOfRow.holds Try.pinned (OpenSpec.ofChange fnSlopeOfWrong)

/-- 'laws.FnSlopeOfBack': WHATEVER THE INPUT: true; the input reads as it did. -/
def fnSlopeOfBackSpec : ChangeSpec := { name := "fnSlopeOfBack", fn := fun _ => fun
  | [d] => { results := [.lit (.bool true)], args := [d] }
  | _ => none }
def fnSlopeOfBackRow : OpenClaim := { program := "ytilnodnkknamhaa", sum := "204f4e5738da0c3b592d7b2832eff8b4529037785e7e193e65aa85576f1caa05", func := "loop.example/satelliteclock/laws.FnSlopeOfBack", spec := "fnSlopeOfBack", unfollowed := true, recurses := true, apart := false }
def FnSlopeOfBackSaid : Prop := fnSlopeOfBackRow.holds Try.pinned (OpenSpec.ofChange fnSlopeOfBackSpec)

/-- ITS FALSE NEIGHBOUR: 'it returns false'. Refute it at one input. -/
def fnSlopeOfBackWrong : ChangeSpec := { name := "fnSlopeOfBack", fn := fun _ => fun
  | [d] => { results := [.lit (.bool false)], args := [d] }
  | _ => none }
def FnSlopeOfBackWrongFalsely : Prop := fnSlopeOfBackRow.holds Try.pinned (OpenSpec.ofChange fnSlopeOfBackWrong)

/-- 'laws.FnSlopeOfLine': WHATEVER THE INPUT: true; the input reads as it did. -/
def fnSlopeOfLineSpec : ChangeSpec := { name := "fnSlopeOfLine", fn := fun _ => fun
  | [d] => { results := [.lit (.bool true)], args := [d] }
  | _ => none }
def fnSlopeOfLineRow : OpenClaim := { program := "ytilnodnkknamhaa", sum := "204f4e5738da0c3b592d7b2832eff8b4529037785e7e193e65aa85576f1caa05", func := "loop.example/satelliteclock/laws.FnSlopeOfLine", spec := "fnSlopeOfLine", unfollowed := true, recurses := true, apart := false }
def FnSlopeOfLineSaid : Prop := fnSlopeOfLineRow.holds Try.pinned (OpenSpec.ofChange fnSlopeOfLineSpec)

/-- ITS FALSE NEIGHBOUR: 'it returns false'. Refute it at one input. -/
def fnSlopeOfLineWrong : ChangeSpec := { name := "fnSlopeOfLine", fn := fun _ => fun
  | [d] => { results := [.lit (.bool false)], args := [d] }
  | _ => none }
def FnSlopeOfLineWrongFalsely : Prop := fnSlopeOfLineRow.holds Try.pinned (OpenSpec.ofChange fnSlopeOfLineWrong)

/- THE SECOND FORM. 'bulk': how many values and letters a reading holds, each counted each time it is reached (what is shared counts as often as it is met; a slice's spare places count too). A statement '..UptoSaid' is the law's where the arguments, and the package variables that the reading takes, are together of bulk at most 1048576: NARROWER than '..Said'. Prove '..Said' where nothing that the law and all that it calls make is longer than what came in: it says more and counts as full. Else prove '..UptoSaid'. A law counts once. -/
mutual
def uptoBulk {H : Type} : DataW H → Nat
  | .lit (.string bytes) => bytes.length + 1
  | .lit _ => 1
  | .nil => 1
  | .ptr d => uptoBulk d + 1
  | .slice elems spare => uptoBulkAll elems + uptoBulkAll spare + 1
  | .agg parts => uptoBulkAll parts + 1
  | .iface _ d => uptoBulk d + 1
  | .map entries => uptoBulkEntries entries + 1
  | .held _ => 1
def uptoBulkAll {H : Type} : List (DataW H) → Nat
  | [] => 0
  | d :: r => uptoBulk d + uptoBulkAll r
def uptoBulkEntries {H : Type} : List (Lit × DataW H) → Nat
  | [] => 0
  | x :: r => uptoBulkEntry x + uptoBulkEntries r
def uptoBulkEntry {H : Type} : Lit × DataW H → Nat
  | (.string bytes, d) => bytes.length + uptoBulk d + 1
  | (_, d) => uptoBulk d + 1
 end
def uptoSmall : (H : Type) → List (DataW H) → Bool := fun _ ds => decide (uptoBulkAll ds ≤ 1048576)
def OpenSpec.upto (s : _root_.Go.ChangeSpec) : _root_.Go.OpenSpec := { _root_.Go.OpenSpec.ofChange s with cond := some uptoSmall }

/-- 'laws.FnExactFormatPacket', WHERE WHAT IT READS IS OF BULK AT MOST 1048576: true; the input reads as it did. -/
def fnExactFormatPacketUptoRow : OpenClaim := { program := "ytilnodnkknamhaa", sum := "204f4e5738da0c3b592d7b2832eff8b4529037785e7e193e65aa85576f1caa05", func := "loop.example/satelliteclock/laws.FnExactFormatPacket", spec := "fnExactFormatPacket", apart := false, narrowed := true }
def FnExactFormatPacketUptoSaid : Prop := fnExactFormatPacketUptoRow.holds Try.pinned (OpenSpec.upto fnExactFormatPacketSpec)

/-- 'laws.FnLevelAtLocked', WHERE WHAT IT READS IS OF BULK AT MOST 1048576: true; the input reads as it did. -/
def fnLevelAtLockedUptoRow : OpenClaim := { program := "ytilnodnkknamhaa", sum := "204f4e5738da0c3b592d7b2832eff8b4529037785e7e193e65aa85576f1caa05", func := "loop.example/satelliteclock/laws.FnLevelAtLocked", spec := "fnLevelAtLocked", apart := false, narrowed := true }
def FnLevelAtLockedUptoSaid : Prop := fnLevelAtLockedUptoRow.holds Try.pinned (OpenSpec.upto fnLevelAtLockedSpec)

/-- 'laws.FnAnswerClient', WHERE WHAT IT READS IS OF BULK AT MOST 1048576: true; the input reads as it did. -/
def fnAnswerClientUptoRow : OpenClaim := { program := "ytilnodnkknamhaa", sum := "204f4e5738da0c3b592d7b2832eff8b4529037785e7e193e65aa85576f1caa05", func := "loop.example/satelliteclock/laws.FnAnswerClient", spec := "fnAnswerClient", apart := false, narrowed := true }
def FnAnswerClientUptoSaid : Prop := fnAnswerClientUptoRow.holds Try.pinned (OpenSpec.upto fnAnswerClientSpec)

/-- 'laws.FnAnswerClientAlarm', WHERE WHAT IT READS IS OF BULK AT MOST 1048576: true; the input reads as it did. -/
def fnAnswerClientAlarmUptoRow : OpenClaim := { program := "ytilnodnkknamhaa", sum := "204f4e5738da0c3b592d7b2832eff8b4529037785e7e193e65aa85576f1caa05", func := "loop.example/satelliteclock/laws.FnAnswerClientAlarm", spec := "fnAnswerClientAlarm", apart := false, narrowed := true }
def FnAnswerClientAlarmUptoSaid : Prop := fnAnswerClientAlarmUptoRow.holds Try.pinned (OpenSpec.upto fnAnswerClientAlarmSpec)

/-- 'laws.FnDelayOf', WHERE WHAT IT READS IS OF BULK AT MOST 1048576: true; the input reads as it did. -/
def fnDelayOfUptoRow : OpenClaim := { program := "ytilnodnkknamhaa", sum := "204f4e5738da0c3b592d7b2832eff8b4529037785e7e193e65aa85576f1caa05", func := "loop.example/satelliteclock/laws.FnDelayOf", spec := "fnDelayOf", unfollowed := true, recurses := true, apart := false, narrowed := true }
def FnDelayOfUptoSaid : Prop := fnDelayOfUptoRow.holds Try.pinned (OpenSpec.upto fnDelayOfSpec)

/-- 'laws.FnPacketVersion', WHERE WHAT IT READS IS OF BULK AT MOST 1048576: true; the input reads as it did. -/
def fnPacketVersionUptoRow : OpenClaim := { program := "ytilnodnkknamhaa", sum := "204f4e5738da0c3b592d7b2832eff8b4529037785e7e193e65aa85576f1caa05", func := "loop.example/satelliteclock/laws.FnPacketVersion", spec := "fnPacketVersion", apart := false, narrowed := true }
def FnPacketVersionUptoSaid : Prop := fnPacketVersionUptoRow.holds Try.pinned (OpenSpec.upto fnPacketVersionSpec)

/-- 'laws.FnAnswerClientTake', WHERE WHAT IT READS IS OF BULK AT MOST 1048576: true; the input reads as it did. -/
def fnAnswerClientTakeUptoRow : OpenClaim := { program := "ytilnodnkknamhaa", sum := "204f4e5738da0c3b592d7b2832eff8b4529037785e7e193e65aa85576f1caa05", func := "loop.example/satelliteclock/laws.FnAnswerClientTake", spec := "fnAnswerClientTake", apart := false, narrowed := true }
def FnAnswerClientTakeUptoSaid : Prop := fnAnswerClientTakeUptoRow.holds Try.pinned (OpenSpec.upto fnAnswerClientTakeSpec)

/-- 'laws.FnExactBestStep', WHERE WHAT IT READS IS OF BULK AT MOST 1048576: true; the input reads as it did. -/
def fnExactBestStepUptoRow : OpenClaim := { program := "ytilnodnkknamhaa", sum := "204f4e5738da0c3b592d7b2832eff8b4529037785e7e193e65aa85576f1caa05", func := "loop.example/satelliteclock/laws.FnExactBestStep", spec := "fnExactBestStep", unfollowed := true, recurses := true, apart := false, narrowed := true }
def FnExactBestStepUptoSaid : Prop := fnExactBestStepUptoRow.holds Try.pinned (OpenSpec.upto fnExactBestStepSpec)

/-- 'laws.FnExactParsePacket', WHERE WHAT IT READS IS OF BULK AT MOST 1048576: true; the input reads as it did. -/
def fnExactParsePacketUptoRow : OpenClaim := { program := "ytilnodnkknamhaa", sum := "204f4e5738da0c3b592d7b2832eff8b4529037785e7e193e65aa85576f1caa05", func := "loop.example/satelliteclock/laws.FnExactParsePacket", spec := "fnExactParsePacket", apart := false, narrowed := true }
def FnExactParsePacketUptoSaid : Prop := fnExactParsePacketUptoRow.holds Try.pinned (OpenSpec.upto fnExactParsePacketSpec)

/-- 'laws.FnSlopeOf', WHERE WHAT IT READS IS OF BULK AT MOST 1048576: true; the input reads as it did. -/
def fnSlopeOfUptoRow : OpenClaim := { program := "ytilnodnkknamhaa", sum := "204f4e5738da0c3b592d7b2832eff8b4529037785e7e193e65aa85576f1caa05", func := "loop.example/satelliteclock/laws.FnSlopeOf", spec := "fnSlopeOf", unfollowed := true, recurses := true, apart := false, narrowed := true }
def FnSlopeOfUptoSaid : Prop := fnSlopeOfUptoRow.holds Try.pinned (OpenSpec.upto fnSlopeOfSpec)

/-- 'laws.FnSlopeOfBack', WHERE WHAT IT READS IS OF BULK AT MOST 1048576: true; the input reads as it did. -/
def fnSlopeOfBackUptoRow : OpenClaim := { program := "ytilnodnkknamhaa", sum := "204f4e5738da0c3b592d7b2832eff8b4529037785e7e193e65aa85576f1caa05", func := "loop.example/satelliteclock/laws.FnSlopeOfBack", spec := "fnSlopeOfBack", unfollowed := true, recurses := true, apart := false, narrowed := true }
def FnSlopeOfBackUptoSaid : Prop := fnSlopeOfBackUptoRow.holds Try.pinned (OpenSpec.upto fnSlopeOfBackSpec)

/-- 'laws.FnSlopeOfLine', WHERE WHAT IT READS IS OF BULK AT MOST 1048576: true; the input reads as it did. -/
def fnSlopeOfLineUptoRow : OpenClaim := { program := "ytilnodnkknamhaa", sum := "204f4e5738da0c3b592d7b2832eff8b4529037785e7e193e65aa85576f1caa05", func := "loop.example/satelliteclock/laws.FnSlopeOfLine", spec := "fnSlopeOfLine", unfollowed := true, recurses := true, apart := false, narrowed := true }
def FnSlopeOfLineUptoSaid : Prop := fnSlopeOfLineUptoRow.holds Try.pinned (OpenSpec.upto fnSlopeOfLineSpec)

end Rows
end Go.Proofs.Ytilnodnkknamhaa
