/-
  No cell of these rows narrows 'for every input' (looked for: loops, veiled, ifaces, maps, wideKeys, modest, calm, conditions, laid).
  DERIVED. THE GIVEN ROWS OF THIS SEAT. 12 by the template 'for every input the law returns true; each argument reads behind the call as it read before'; 0 by the template 'total and deterministic' (their statements: YtpdepbkfifiikaaTotals.lean).
  GIVEN WITH THE SEED: the statements are not yours to turn. If you find one false, say at which input.
  Laid BY PROGRAM, IN A SANDBOX (cutbox-rows.mjs): the forced cells as the released guide's own fill.sh prints them over the translation 503aed064a358156… (all of the seat's roots in one cut). By AI agents, Wed Nov 11 2026. No macro, syntax, notation, axiom, sorry.
-/
import Derived.Test.YtpdepbkfifiikaaChecked
import GoSem.Claim
import GoSem.ClaimJoined
import GoSem.ClaimMapViews
import Derived.JoinedTies
import Derived.KernelRfl
namespace Go.Proofs.Ytpdepbkfifiikaa
/- THE CELL 'sum', in the pinned program and in every row, IS THE sha256 OF THE DUMP (.gsa) THAT YtpdepbkfifiikaaProg.lean LOADS. Nothing in Lean hashes anything: it is a label: what it is worth is what the hold of that sum in a sandbox is worth. -/
noncomputable def Try.pinned : Pinned := { name := "ytpdepbkfifiikaa", sum := "503aed064a3581561bba8c0e43082a5ccbe9c762313ecf3320c4380807d2b2fd", checked := Try.checked }
namespace Rows
def none {H : Type} : Left H := { results := [], args := [] }

/-- 'laws.FnErrorAtSteady': WHATEVER THE INPUT: true; the input reads as it did. -/
def fnErrorAtSteadySpec : ChangeSpec := { name := "fnErrorAtSteady", fn := fun _ => fun
  | [d] => { results := [.lit (.bool true)], args := [d] }
  | _ => none }
def fnErrorAtSteadyRow : OpenClaim := { program := "ytpdepbkfifiikaa", sum := "503aed064a3581561bba8c0e43082a5ccbe9c762313ecf3320c4380807d2b2fd", func := "loop.example/satelliteclock/laws.FnErrorAtSteady", spec := "fnErrorAtSteady", apart := false }
def FnErrorAtSteadySaid : Prop := fnErrorAtSteadyRow.holds Try.pinned (OpenSpec.ofChange fnErrorAtSteadySpec)

/-- ITS FALSE NEIGHBOUR: 'it returns false'. Refute it at one input. -/
def fnErrorAtSteadyWrong : ChangeSpec := { name := "fnErrorAtSteady", fn := fun _ => fun
  | [d] => { results := [.lit (.bool false)], args := [d] }
  | _ => none }
def FnErrorAtSteadyWrongFalsely : Prop := fnErrorAtSteadyRow.holds Try.pinned (OpenSpec.ofChange fnErrorAtSteadyWrong)

/-- 'laws.FnHoldUntilWander': WHATEVER THE INPUT: true; the input reads as it did. -/
def fnHoldUntilWanderSpec : ChangeSpec := { name := "fnHoldUntilWander", fn := fun _ => fun
  | [d] => { results := [.lit (.bool true)], args := [d] }
  | _ => none }
def fnHoldUntilWanderRow : OpenClaim := { program := "ytpdepbkfifiikaa", sum := "503aed064a3581561bba8c0e43082a5ccbe9c762313ecf3320c4380807d2b2fd", func := "loop.example/satelliteclock/laws.FnHoldUntilWander", spec := "fnHoldUntilWander", apart := false }
def FnHoldUntilWanderSaid : Prop := fnHoldUntilWanderRow.holds Try.pinned (OpenSpec.ofChange fnHoldUntilWanderSpec)

/-- ITS FALSE NEIGHBOUR: 'it returns false'. Refute it at one input. -/
def fnHoldUntilWanderWrong : ChangeSpec := { name := "fnHoldUntilWander", fn := fun _ => fun
  | [d] => { results := [.lit (.bool false)], args := [d] }
  | _ => none }
def FnHoldUntilWanderWrongFalsely : Prop := fnHoldUntilWanderRow.holds Try.pinned (OpenSpec.ofChange fnHoldUntilWanderWrong)

/-- 'laws.FnSmearAt': WHATEVER THE INPUT: true; the input reads as it did. -/
def fnSmearAtSpec : ChangeSpec := { name := "fnSmearAt", fn := fun _ => fun
  | [d] => { results := [.lit (.bool true)], args := [d] }
  | _ => none }
def fnSmearAtRow : OpenClaim := { program := "ytpdepbkfifiikaa", sum := "503aed064a3581561bba8c0e43082a5ccbe9c762313ecf3320c4380807d2b2fd", func := "loop.example/satelliteclock/laws.FnSmearAt", spec := "fnSmearAt", apart := false }
def FnSmearAtSaid : Prop := fnSmearAtRow.holds Try.pinned (OpenSpec.ofChange fnSmearAtSpec)

/-- ITS FALSE NEIGHBOUR: 'it returns false'. Refute it at one input. -/
def fnSmearAtWrong : ChangeSpec := { name := "fnSmearAt", fn := fun _ => fun
  | [d] => { results := [.lit (.bool false)], args := [d] }
  | _ => none }
def FnSmearAtWrongFalsely : Prop := fnSmearAtRow.holds Try.pinned (OpenSpec.ofChange fnSmearAtWrong)

/-- 'laws.FnExactTakeAnswer': WHATEVER THE INPUT: true; the input reads as it did. -/
def fnExactTakeAnswerSpec : ChangeSpec := { name := "fnExactTakeAnswer", fn := fun _ => fun
  | [d1, d2, d3] => { results := [.lit (.bool true)], args := [d1, d2, d3] }
  | _ => none }
def fnExactTakeAnswerRow : OpenClaim := { program := "ytpdepbkfifiikaa", sum := "503aed064a3581561bba8c0e43082a5ccbe9c762313ecf3320c4380807d2b2fd", func := "loop.example/satelliteclock/laws.FnExactTakeAnswer", spec := "fnExactTakeAnswer", apart := false }
def FnExactTakeAnswerSaid : Prop := fnExactTakeAnswerRow.holds Try.pinned (OpenSpec.ofChange fnExactTakeAnswerSpec)

/-- ITS FALSE NEIGHBOUR: 'it returns false'. Refute it at one input. -/
def fnExactTakeAnswerWrong : ChangeSpec := { name := "fnExactTakeAnswer", fn := fun _ => fun
  | [d1, d2, d3] => { results := [.lit (.bool false)], args := [d1, d2, d3] }
  | _ => none }
def FnExactTakeAnswerWrongFalsely : Prop := fnExactTakeAnswerRow.holds Try.pinned (OpenSpec.ofChange fnExactTakeAnswerWrong)

/-- 'laws.FnExactOffsetOf': WHATEVER THE INPUT: true; the input reads as it did. -/
def fnExactOffsetOfSpec : ChangeSpec := { name := "fnExactOffsetOf", fn := fun _ => fun
  | [d] => { results := [.lit (.bool true)], args := [d] }
  | _ => none }
def fnExactOffsetOfRow : OpenClaim := { program := "ytpdepbkfifiikaa", sum := "503aed064a3581561bba8c0e43082a5ccbe9c762313ecf3320c4380807d2b2fd", func := "loop.example/satelliteclock/laws.FnExactOffsetOf", spec := "fnExactOffsetOf", unfollowed := true, recurses := true, apart := false }
def FnExactOffsetOfSaid : Prop := fnExactOffsetOfRow.holds Try.pinned (OpenSpec.ofChange fnExactOffsetOfSpec)

/-- ITS FALSE NEIGHBOUR: 'it returns false'. Refute it at one input. -/
def fnExactOffsetOfWrong : ChangeSpec := { name := "fnExactOffsetOf", fn := fun _ => fun
  | [d] => { results := [.lit (.bool false)], args := [d] }
  | _ => none }
def FnExactOffsetOfWrongFalsely : Prop := fnExactOffsetOfRow.holds Try.pinned (OpenSpec.ofChange fnExactOffsetOfWrong)

/-- 'laws.FnExactAnswerClient': WHATEVER THE INPUT: true; the input reads as it did. -/
def fnExactAnswerClientSpec : ChangeSpec := { name := "fnExactAnswerClient", fn := fun _ => fun
  | [d1, d2, d3, d4, d5] => { results := [.lit (.bool true)], args := [d1, d2, d3, d4, d5] }
  | _ => none }
def fnExactAnswerClientRow : OpenClaim := { program := "ytpdepbkfifiikaa", sum := "503aed064a3581561bba8c0e43082a5ccbe9c762313ecf3320c4380807d2b2fd", func := "loop.example/satelliteclock/laws.FnExactAnswerClient", spec := "fnExactAnswerClient", apart := false }
def FnExactAnswerClientSaid : Prop := fnExactAnswerClientRow.holds Try.pinned (OpenSpec.ofChange fnExactAnswerClientSpec)

/-- ITS FALSE NEIGHBOUR: 'it returns false'. Refute it at one input. -/
def fnExactAnswerClientWrong : ChangeSpec := { name := "fnExactAnswerClient", fn := fun _ => fun
  | [d1, d2, d3, d4, d5] => { results := [.lit (.bool false)], args := [d1, d2, d3, d4, d5] }
  | _ => none }
def FnExactAnswerClientWrongFalsely : Prop := fnExactAnswerClientRow.holds Try.pinned (OpenSpec.ofChange fnExactAnswerClientWrong)

/-- 'laws.FnHoldUntil': WHATEVER THE INPUT: true; the input reads as it did. -/
def fnHoldUntilSpec : ChangeSpec := { name := "fnHoldUntil", fn := fun _ => fun
  | [d] => { results := [.lit (.bool true)], args := [d] }
  | _ => none }
def fnHoldUntilRow : OpenClaim := { program := "ytpdepbkfifiikaa", sum := "503aed064a3581561bba8c0e43082a5ccbe9c762313ecf3320c4380807d2b2fd", func := "loop.example/satelliteclock/laws.FnHoldUntil", spec := "fnHoldUntil", apart := false }
def FnHoldUntilSaid : Prop := fnHoldUntilRow.holds Try.pinned (OpenSpec.ofChange fnHoldUntilSpec)

/-- ITS FALSE NEIGHBOUR: 'it returns false'. Refute it at one input. -/
def fnHoldUntilWrong : ChangeSpec := { name := "fnHoldUntil", fn := fun _ => fun
  | [d] => { results := [.lit (.bool false)], args := [d] }
  | _ => none }
def FnHoldUntilWrongFalsely : Prop := fnHoldUntilRow.holds Try.pinned (OpenSpec.ofChange fnHoldUntilWrong)

/-- 'laws.FnHoldUntilNone': WHATEVER THE INPUT: true; the input reads as it did. -/
def fnHoldUntilNoneSpec : ChangeSpec := { name := "fnHoldUntilNone", fn := fun _ => fun
  | [d] => { results := [.lit (.bool true)], args := [d] }
  | _ => none }
def fnHoldUntilNoneRow : OpenClaim := { program := "ytpdepbkfifiikaa", sum := "503aed064a3581561bba8c0e43082a5ccbe9c762313ecf3320c4380807d2b2fd", func := "loop.example/satelliteclock/laws.FnHoldUntilNone", spec := "fnHoldUntilNone", apart := false }
def FnHoldUntilNoneSaid : Prop := fnHoldUntilNoneRow.holds Try.pinned (OpenSpec.ofChange fnHoldUntilNoneSpec)

/-- ITS FALSE NEIGHBOUR: 'it returns false'. Refute it at one input. -/
def fnHoldUntilNoneWrong : ChangeSpec := { name := "fnHoldUntilNone", fn := fun _ => fun
  | [d] => { results := [.lit (.bool false)], args := [d] }
  | _ => none }
def FnHoldUntilNoneWrongFalsely : Prop := fnHoldUntilNoneRow.holds Try.pinned (OpenSpec.ofChange fnHoldUntilNoneWrong)

/-- 'laws.FnValidPacket': WHATEVER THE INPUT: true; the input reads as it did. -/
def fnValidPacketSpec : ChangeSpec := { name := "fnValidPacket", fn := fun _ => fun
  | [d] => { results := [.lit (.bool true)], args := [d] }
  | _ => none }
def fnValidPacketRow : OpenClaim := { program := "ytpdepbkfifiikaa", sum := "503aed064a3581561bba8c0e43082a5ccbe9c762313ecf3320c4380807d2b2fd", func := "loop.example/satelliteclock/laws.FnValidPacket", spec := "fnValidPacket", apart := false }
def FnValidPacketSaid : Prop := fnValidPacketRow.holds Try.pinned (OpenSpec.ofChange fnValidPacketSpec)

/-- ITS FALSE NEIGHBOUR: 'it returns false'. Refute it at one input. -/
def fnValidPacketWrong : ChangeSpec := { name := "fnValidPacket", fn := fun _ => fun
  | [d] => { results := [.lit (.bool false)], args := [d] }
  | _ => none }
def FnValidPacketWrongFalsely : Prop := fnValidPacketRow.holds Try.pinned (OpenSpec.ofChange fnValidPacketWrong)

/-- 'laws.FnSeenAgain': WHATEVER THE INPUT: true; the input reads as it did. -/
def fnSeenAgainSpec : ChangeSpec := { name := "fnSeenAgain", fn := fun _ => fun
  | [d] => { results := [.lit (.bool true)], args := [d] }
  | _ => none }
def fnSeenAgainRow : OpenClaim := { program := "ytpdepbkfifiikaa", sum := "503aed064a3581561bba8c0e43082a5ccbe9c762313ecf3320c4380807d2b2fd", func := "loop.example/satelliteclock/laws.FnSeenAgain", spec := "fnSeenAgain", apart := false }
def FnSeenAgainSaid : Prop := fnSeenAgainRow.holds Try.pinned (OpenSpec.ofChange fnSeenAgainSpec)

/-- ITS FALSE NEIGHBOUR: 'it returns false'. Refute it at one input. -/
def fnSeenAgainWrong : ChangeSpec := { name := "fnSeenAgain", fn := fun _ => fun
  | [d] => { results := [.lit (.bool false)], args := [d] }
  | _ => none }
def FnSeenAgainWrongFalsely : Prop := fnSeenAgainRow.holds Try.pinned (OpenSpec.ofChange fnSeenAgainWrong)

/-- 'laws.FnSeenAgainTwice': WHATEVER THE INPUT: true; the input reads as it did. -/
def fnSeenAgainTwiceSpec : ChangeSpec := { name := "fnSeenAgainTwice", fn := fun _ => fun
  | [d] => { results := [.lit (.bool true)], args := [d] }
  | _ => none }
def fnSeenAgainTwiceRow : OpenClaim := { program := "ytpdepbkfifiikaa", sum := "503aed064a3581561bba8c0e43082a5ccbe9c762313ecf3320c4380807d2b2fd", func := "loop.example/satelliteclock/laws.FnSeenAgainTwice", spec := "fnSeenAgainTwice", apart := false }
def FnSeenAgainTwiceSaid : Prop := fnSeenAgainTwiceRow.holds Try.pinned (OpenSpec.ofChange fnSeenAgainTwiceSpec)

/-- ITS FALSE NEIGHBOUR: 'it returns false'. Refute it at one input. -/
def fnSeenAgainTwiceWrong : ChangeSpec := { name := "fnSeenAgainTwice", fn := fun _ => fun
  | [d] => { results := [.lit (.bool false)], args := [d] }
  | _ => none }
def FnSeenAgainTwiceWrongFalsely : Prop := fnSeenAgainTwiceRow.holds Try.pinned (OpenSpec.ofChange fnSeenAgainTwiceWrong)

/-- 'laws.FnLevelAt': WHATEVER THE INPUT: true; the input reads as it did. -/
def fnLevelAtSpec : ChangeSpec := { name := "fnLevelAt", fn := fun _ => fun
  | [d] => { results := [.lit (.bool true)], args := [d] }
  | _ => none }
def fnLevelAtRow : OpenClaim := { program := "ytpdepbkfifiikaa", sum := "503aed064a3581561bba8c0e43082a5ccbe9c762313ecf3320c4380807d2b2fd", func := "loop.example/satelliteclock/laws.FnLevelAt", spec := "fnLevelAt", apart := false }
def FnLevelAtSaid : Prop := fnLevelAtRow.holds Try.pinned (OpenSpec.ofChange fnLevelAtSpec)

/-- ITS FALSE NEIGHBOUR: 'it returns false'. Refute it at one input. -/
def fnLevelAtWrong : ChangeSpec := { name := "fnLevelAt", fn := fun _ => fun
  | [d] => { results := [.lit (.bool false)], args := [d] }
  | _ => none }
def FnLevelAtWrongFalsely : Prop := fnLevelAtRow.holds Try.pinned (OpenSpec.ofChange fnLevelAtWrong)

/- THE SECOND FORM. 'bulk': how many values and letters a reading holds, each counted each time it is reached (what is shared counts as often as it is met; a slice's spare places count too). A statement '..UptoSaid' is the law's where the arguments, and the package variables that the reading takes, are together of bulk at most 1048576: NARROWER than '..Said'. Prove '..Said' where nothing that the law and all that it calls make is longer than what came in: it says more and counts as full. Else prove '..UptoSaid'. A law counts once. -/
mutual
def uptoBulk {H : Type} : DataW H → Nat
  | .lit (.string bytes) => bytes.length + 1
  | .lit _ => 1
  | .nil => 1
  | .ptr d => uptoBulk d + 1
  | .slice elems spare => uptoBulkAll elems + uptoBulkAll spare + 1
  | .agg parts => uptoBulkAll parts + 1
  | .iface _ d => uptoBulk d + 1
  | .map entries => uptoBulkEntries entries + 1
  | .held _ => 1
def uptoBulkAll {H : Type} : List (DataW H) → Nat
  | [] => 0
  | d :: r => uptoBulk d + uptoBulkAll r
def uptoBulkEntries {H : Type} : List (Lit × DataW H) → Nat
  | [] => 0
  | x :: r => uptoBulkEntry x + uptoBulkEntries r
def uptoBulkEntry {H : Type} : Lit × DataW H → Nat
  | (.string bytes, d) => bytes.length + uptoBulk d + 1
  | (_, d) => uptoBulk d + 1
 end
def uptoSmall : (H : Type) → List (DataW H) → Bool := fun _ ds => decide (uptoBulkAll ds ≤ 1048576)
def OpenSpec.upto (s : _root_.Go.ChangeSpec) : _root_.Go.OpenSpec := { _root_.Go.OpenSpec.ofChange s with cond := some uptoSmall }

/-- 'laws.FnErrorAtSteady', WHERE WHAT IT READS IS OF BULK AT MOST 1048576: true; the input reads as it did. -/
def fnErrorAtSteadyUptoRow : OpenClaim := { program := "ytpdepbkfifiikaa", sum := "503aed064a3581561bba8c0e43082a5ccbe9c762313ecf3320c4380807d2b2fd", func := "loop.example/satelliteclock/laws.FnErrorAtSteady", spec := "fnErrorAtSteady", apart := false, narrowed := true }
def FnErrorAtSteadyUptoSaid : Prop := fnErrorAtSteadyUptoRow.holds Try.pinned (OpenSpec.upto fnErrorAtSteadySpec)

/-- 'laws.FnHoldUntilWander', WHERE WHAT IT READS IS OF BULK AT MOST 1048576: true; the input reads as it did. -/
def fnHoldUntilWanderUptoRow : OpenClaim := { program := "ytpdepbkfifiikaa", sum := "503aed064a3581561bba8c0e43082a5ccbe9c762313ecf3320c4380807d2b2fd", func := "loop.example/satelliteclock/laws.FnHoldUntilWander", spec := "fnHoldUntilWander", apart := false, narrowed := true }
def FnHoldUntilWanderUptoSaid : Prop := fnHoldUntilWanderUptoRow.holds Try.pinned (OpenSpec.upto fnHoldUntilWanderSpec)

/-- 'laws.FnSmearAt', WHERE WHAT IT READS IS OF BULK AT MOST 1048576: true; the input reads as it did. -/
def fnSmearAtUptoRow : OpenClaim := { program := "ytpdepbkfifiikaa", sum := "503aed064a3581561bba8c0e43082a5ccbe9c762313ecf3320c4380807d2b2fd", func := "loop.example/satelliteclock/laws.FnSmearAt", spec := "fnSmearAt", apart := false, narrowed := true }
def FnSmearAtUptoSaid : Prop := fnSmearAtUptoRow.holds Try.pinned (OpenSpec.upto fnSmearAtSpec)

/-- 'laws.FnExactTakeAnswer', WHERE WHAT IT READS IS OF BULK AT MOST 1048576: true; the input reads as it did. -/
def fnExactTakeAnswerUptoRow : OpenClaim := { program := "ytpdepbkfifiikaa", sum := "503aed064a3581561bba8c0e43082a5ccbe9c762313ecf3320c4380807d2b2fd", func := "loop.example/satelliteclock/laws.FnExactTakeAnswer", spec := "fnExactTakeAnswer", apart := false, narrowed := true }
def FnExactTakeAnswerUptoSaid : Prop := fnExactTakeAnswerUptoRow.holds Try.pinned (OpenSpec.upto fnExactTakeAnswerSpec)

/-- 'laws.FnExactOffsetOf', WHERE WHAT IT READS IS OF BULK AT MOST 1048576: true; the input reads as it did. -/
def fnExactOffsetOfUptoRow : OpenClaim := { program := "ytpdepbkfifiikaa", sum := "503aed064a3581561bba8c0e43082a5ccbe9c762313ecf3320c4380807d2b2fd", func := "loop.example/satelliteclock/laws.FnExactOffsetOf", spec := "fnExactOffsetOf", unfollowed := true, recurses := true, apart := false, narrowed := true }
def FnExactOffsetOfUptoSaid : Prop := fnExactOffsetOfUptoRow.holds Try.pinned (OpenSpec.upto fnExactOffsetOfSpec)

/-- 'laws.FnExactAnswerClient', WHERE WHAT IT READS IS OF BULK AT MOST 1048576: true; the input reads as it did. -/
def fnExactAnswerClientUptoRow : OpenClaim := { program := "ytpdepbkfifiikaa", sum := "503aed064a3581561bba8c0e43082a5ccbe9c762313ecf3320c4380807d2b2fd", func := "loop.example/satelliteclock/laws.FnExactAnswerClient", spec := "fnExactAnswerClient", apart := false, narrowed := true }
def FnExactAnswerClientUptoSaid : Prop := fnExactAnswerClientUptoRow.holds Try.pinned (OpenSpec.upto fnExactAnswerClientSpec)

/-- 'laws.FnHoldUntil', WHERE WHAT IT READS IS OF BULK AT MOST 1048576: true; the input reads as it did. -/
def fnHoldUntilUptoRow : OpenClaim := { program := "ytpdepbkfifiikaa", sum := "503aed064a3581561bba8c0e43082a5ccbe9c762313ecf3320c4380807d2b2fd", func := "loop.example/satelliteclock/laws.FnHoldUntil", spec := "fnHoldUntil", apart := false, narrowed := true }
def FnHoldUntilUptoSaid : Prop := fnHoldUntilUptoRow.holds Try.pinned (OpenSpec.upto fnHoldUntilSpec)

/-- 'laws.FnHoldUntilNone', WHERE WHAT IT READS IS OF BULK AT MOST 1048576: true; the input reads as it did. -/
def fnHoldUntilNoneUptoRow : OpenClaim := { program := "ytpdepbkfifiikaa", sum := "503aed064a3581561bba8c0e43082a5ccbe9c762313ecf3320c4380807d2b2fd", func := "loop.example/satelliteclock/laws.FnHoldUntilNone", spec := "fnHoldUntilNone", apart := false, narrowed := true }
def FnHoldUntilNoneUptoSaid : Prop := fnHoldUntilNoneUptoRow.holds Try.pinned (OpenSpec.upto fnHoldUntilNoneSpec)

/-- 'laws.FnValidPacket', WHERE WHAT IT READS IS OF BULK AT MOST 1048576: true; the input reads as it did. -/
def fnValidPacketUptoRow : OpenClaim := { program := "ytpdepbkfifiikaa", sum := "503aed064a3581561bba8c0e43082a5ccbe9c762313ecf3320c4380807d2b2fd", func := "loop.example/satelliteclock/laws.FnValidPacket", spec := "fnValidPacket", apart := false, narrowed := true }
def FnValidPacketUptoSaid : Prop := fnValidPacketUptoRow.holds Try.pinned (OpenSpec.upto fnValidPacketSpec)

/-- 'laws.FnSeenAgain', WHERE WHAT IT READS IS OF BULK AT MOST 1048576: true; the input reads as it did. -/
def fnSeenAgainUptoRow : OpenClaim := { program := "ytpdepbkfifiikaa", sum := "503aed064a3581561bba8c0e43082a5ccbe9c762313ecf3320c4380807d2b2fd", func := "loop.example/satelliteclock/laws.FnSeenAgain", spec := "fnSeenAgain", apart := false, narrowed := true }
def FnSeenAgainUptoSaid : Prop := fnSeenAgainUptoRow.holds Try.pinned (OpenSpec.upto fnSeenAgainSpec)

/-- 'laws.FnSeenAgainTwice', WHERE WHAT IT READS IS OF BULK AT MOST 1048576: true; the input reads as it did. -/
def fnSeenAgainTwiceUptoRow : OpenClaim := { program := "ytpdepbkfifiikaa", sum := "503aed064a3581561bba8c0e43082a5ccbe9c762313ecf3320c4380807d2b2fd", func := "loop.example/satelliteclock/laws.FnSeenAgainTwice", spec := "fnSeenAgainTwice", apart := false, narrowed := true }
def FnSeenAgainTwiceUptoSaid : Prop := fnSeenAgainTwiceUptoRow.holds Try.pinned (OpenSpec.upto fnSeenAgainTwiceSpec)

/-- 'laws.FnLevelAt', WHERE WHAT IT READS IS OF BULK AT MOST 1048576: true; the input reads as it did. -/
def fnLevelAtUptoRow : OpenClaim := { program := "ytpdepbkfifiikaa", sum := "503aed064a3581561bba8c0e43082a5ccbe9c762313ecf3320c4380807d2b2fd", func := "loop.example/satelliteclock/laws.FnLevelAt", spec := "fnLevelAt", apart := false, narrowed := true }
def FnLevelAtUptoSaid : Prop := fnLevelAtUptoRow.holds Try.pinned (OpenSpec.upto fnLevelAtSpec)

end Rows
end Go.Proofs.Ytpdepbkfifiikaa
