/-
  No cell of these rows narrows 'for every input' (looked for: loops, veiled, ifaces, maps, wideKeys, modest, calm, conditions, laid).
  DERIVED. THE GIVEN ROWS OF THIS SEAT. 12 by the template 'for every input the law returns true; each argument reads behind the call as it read before'; 0 by the template 'total and deterministic' (their statements: YtnmoghmeinhfnaaTotals.lean).
  GIVEN WITH THE SEED: the statements are not yours to turn. If you find one false, say at which input.
  Laid BY PROGRAM, IN A SANDBOX (cutbox-rows.mjs): the forced cells as the released guide's own fill.sh prints them over the translation 0f2ec0862f0af7e9… (all of the seat's roots in one cut). By AI agents, Wed Nov 11 2026. No macro, syntax, notation, axiom, sorry.
-/
import Derived.Test.YtnmoghmeinhfnaaChecked
import GoSem.Claim
import GoSem.ClaimJoined
import GoSem.ClaimMapViews
import Derived.JoinedTies
import Derived.KernelRfl
namespace Go.Proofs.Ytnmoghmeinhfnaa
/- THE CELL 'sum', in the pinned program and in every row, IS THE sha256 OF THE DUMP (.gsa) THAT YtnmoghmeinhfnaaProg.lean LOADS. Nothing in Lean hashes anything: it is a label: what it is worth is what the hold of that sum in a sandbox is worth. -/
noncomputable def Try.pinned : Pinned := { name := "ytnmoghmeinhfnaa", sum := "0f2ec0862f0af7e93da0a9c3503978b98ac2d09fbe524158b4506028129e7661", checked := Try.checked }
namespace Rows
def none {H : Type} : Left H := { results := [], args := [] }

/-- 'laws.FnExactStampOf': WHATEVER THE INPUT: true; the input reads as it did. -/
def fnExactStampOfSpec : ChangeSpec := { name := "fnExactStampOf", fn := fun _ => fun
  | [d1, d2] => { results := [.lit (.bool true)], args := [d1, d2] }
  | _ => none }
def fnExactStampOfRow : OpenClaim := { program := "ytnmoghmeinhfnaa", sum := "0f2ec0862f0af7e93da0a9c3503978b98ac2d09fbe524158b4506028129e7661", func := "loop.example/satelliteclock/laws.FnExactStampOf", spec := "fnExactStampOf", apart := false }
def FnExactStampOfSaid : Prop := fnExactStampOfRow.holds Try.pinned (OpenSpec.ofChange fnExactStampOfSpec)

/-- ITS FALSE NEIGHBOUR: 'it returns false'. Refute it at one input. -/
def fnExactStampOfWrong : ChangeSpec := { name := "fnExactStampOf", fn := fun _ => fun
  | [d1, d2] => { results := [.lit (.bool false)], args := [d1, d2] }
  | _ => none }
def FnExactStampOfWrongFalsely : Prop := fnExactStampOfRow.holds Try.pinned (OpenSpec.ofChange fnExactStampOfWrong)

/-- 'laws.FnExactSmearDone': WHATEVER THE INPUT: true; the input reads as it did. -/
def fnExactSmearDoneSpec : ChangeSpec := { name := "fnExactSmearDone", fn := fun _ => fun
  | [d1, d2] => { results := [.lit (.bool true)], args := [d1, d2] }
  | _ => none }
def fnExactSmearDoneRow : OpenClaim := { program := "ytnmoghmeinhfnaa", sum := "0f2ec0862f0af7e93da0a9c3503978b98ac2d09fbe524158b4506028129e7661", func := "loop.example/satelliteclock/laws.FnExactSmearDone", spec := "fnExactSmearDone", apart := false }
def FnExactSmearDoneSaid : Prop := fnExactSmearDoneRow.holds Try.pinned (OpenSpec.ofChange fnExactSmearDoneSpec)

/-- ITS FALSE NEIGHBOUR: 'it returns false'. Refute it at one input. -/
def fnExactSmearDoneWrong : ChangeSpec := { name := "fnExactSmearDone", fn := fun _ => fun
  | [d1, d2] => { results := [.lit (.bool false)], args := [d1, d2] }
  | _ => none }
def FnExactSmearDoneWrongFalsely : Prop := fnExactSmearDoneRow.holds Try.pinned (OpenSpec.ofChange fnExactSmearDoneWrong)

/-- 'laws.FnExactSplitStamp': WHATEVER THE INPUT: true; the input reads as it did. -/
def fnExactSplitStampSpec : ChangeSpec := { name := "fnExactSplitStamp", fn := fun _ => fun
  | [d] => { results := [.lit (.bool true)], args := [d] }
  | _ => none }
def fnExactSplitStampRow : OpenClaim := { program := "ytnmoghmeinhfnaa", sum := "0f2ec0862f0af7e93da0a9c3503978b98ac2d09fbe524158b4506028129e7661", func := "loop.example/satelliteclock/laws.FnExactSplitStamp", spec := "fnExactSplitStamp", apart := false }
def FnExactSplitStampSaid : Prop := fnExactSplitStampRow.holds Try.pinned (OpenSpec.ofChange fnExactSplitStampSpec)

/-- ITS FALSE NEIGHBOUR: 'it returns false'. Refute it at one input. -/
def fnExactSplitStampWrong : ChangeSpec := { name := "fnExactSplitStamp", fn := fun _ => fun
  | [d] => { results := [.lit (.bool false)], args := [d] }
  | _ => none }
def FnExactSplitStampWrongFalsely : Prop := fnExactSplitStampRow.holds Try.pinned (OpenSpec.ofChange fnExactSplitStampWrong)

/-- 'laws.FnExactValidState': WHATEVER THE INPUT: true; the input reads as it did. -/
def fnExactValidStateSpec : ChangeSpec := { name := "fnExactValidState", fn := fun _ => fun
  | [d] => { results := [.lit (.bool true)], args := [d] }
  | _ => none }
def fnExactValidStateRow : OpenClaim := { program := "ytnmoghmeinhfnaa", sum := "0f2ec0862f0af7e93da0a9c3503978b98ac2d09fbe524158b4506028129e7661", func := "loop.example/satelliteclock/laws.FnExactValidState", spec := "fnExactValidState", apart := false }
def FnExactValidStateSaid : Prop := fnExactValidStateRow.holds Try.pinned (OpenSpec.ofChange fnExactValidStateSpec)

/-- ITS FALSE NEIGHBOUR: 'it returns false'. Refute it at one input. -/
def fnExactValidStateWrong : ChangeSpec := { name := "fnExactValidState", fn := fun _ => fun
  | [d] => { results := [.lit (.bool false)], args := [d] }
  | _ => none }
def FnExactValidStateWrongFalsely : Prop := fnExactValidStateRow.holds Try.pinned (OpenSpec.ofChange fnExactValidStateWrong)

/-- 'laws.FnExactValidPacket': WHATEVER THE INPUT: true; the input reads as it did. -/
def fnExactValidPacketSpec : ChangeSpec := { name := "fnExactValidPacket", fn := fun _ => fun
  | [d] => { results := [.lit (.bool true)], args := [d] }
  | _ => none }
def fnExactValidPacketRow : OpenClaim := { program := "ytnmoghmeinhfnaa", sum := "0f2ec0862f0af7e93da0a9c3503978b98ac2d09fbe524158b4506028129e7661", func := "loop.example/satelliteclock/laws.FnExactValidPacket", spec := "fnExactValidPacket", apart := false }
def FnExactValidPacketSaid : Prop := fnExactValidPacketRow.holds Try.pinned (OpenSpec.ofChange fnExactValidPacketSpec)

/-- ITS FALSE NEIGHBOUR: 'it returns false'. Refute it at one input. -/
def fnExactValidPacketWrong : ChangeSpec := { name := "fnExactValidPacket", fn := fun _ => fun
  | [d] => { results := [.lit (.bool false)], args := [d] }
  | _ => none }
def FnExactValidPacketWrongFalsely : Prop := fnExactValidPacketRow.holds Try.pinned (OpenSpec.ofChange fnExactValidPacketWrong)

/-- 'laws.FnExactErrorAt': WHATEVER THE INPUT: true; the input reads as it did. -/
def fnExactErrorAtSpec : ChangeSpec := { name := "fnExactErrorAt", fn := fun _ => fun
  | [d1, d2] => { results := [.lit (.bool true)], args := [d1, d2] }
  | _ => none }
def fnExactErrorAtRow : OpenClaim := { program := "ytnmoghmeinhfnaa", sum := "0f2ec0862f0af7e93da0a9c3503978b98ac2d09fbe524158b4506028129e7661", func := "loop.example/satelliteclock/laws.FnExactErrorAt", spec := "fnExactErrorAt", apart := false }
def FnExactErrorAtSaid : Prop := fnExactErrorAtRow.holds Try.pinned (OpenSpec.ofChange fnExactErrorAtSpec)

/-- ITS FALSE NEIGHBOUR: 'it returns false'. Refute it at one input. -/
def fnExactErrorAtWrong : ChangeSpec := { name := "fnExactErrorAt", fn := fun _ => fun
  | [d1, d2] => { results := [.lit (.bool false)], args := [d1, d2] }
  | _ => none }
def FnExactErrorAtWrongFalsely : Prop := fnExactErrorAtRow.holds Try.pinned (OpenSpec.ofChange fnExactErrorAtWrong)

/-- 'laws.FnExactSmearAt': WHATEVER THE INPUT: true; the input reads as it did. -/
def fnExactSmearAtSpec : ChangeSpec := { name := "fnExactSmearAt", fn := fun _ => fun
  | [d1, d2] => { results := [.lit (.bool true)], args := [d1, d2] }
  | _ => none }
def fnExactSmearAtRow : OpenClaim := { program := "ytnmoghmeinhfnaa", sum := "0f2ec0862f0af7e93da0a9c3503978b98ac2d09fbe524158b4506028129e7661", func := "loop.example/satelliteclock/laws.FnExactSmearAt", spec := "fnExactSmearAt", apart := false }
def FnExactSmearAtSaid : Prop := fnExactSmearAtRow.holds Try.pinned (OpenSpec.ofChange fnExactSmearAtSpec)

/-- ITS FALSE NEIGHBOUR: 'it returns false'. Refute it at one input. -/
def fnExactSmearAtWrong : ChangeSpec := { name := "fnExactSmearAt", fn := fun _ => fun
  | [d1, d2] => { results := [.lit (.bool false)], args := [d1, d2] }
  | _ => none }
def FnExactSmearAtWrongFalsely : Prop := fnExactSmearAtRow.holds Try.pinned (OpenSpec.ofChange fnExactSmearAtWrong)

/-- 'laws.FnBestStepNone': WHATEVER THE INPUT: true; the input reads as it did. -/
def fnBestStepNoneSpec : ChangeSpec := { name := "fnBestStepNone", fn := fun _ => fun
  | [d] => { results := [.lit (.bool true)], args := [d] }
  | _ => none }
def fnBestStepNoneRow : OpenClaim := { program := "ytnmoghmeinhfnaa", sum := "0f2ec0862f0af7e93da0a9c3503978b98ac2d09fbe524158b4506028129e7661", func := "loop.example/satelliteclock/laws.FnBestStepNone", spec := "fnBestStepNone", unfollowed := true, recurses := true, apart := false }
def FnBestStepNoneSaid : Prop := fnBestStepNoneRow.holds Try.pinned (OpenSpec.ofChange fnBestStepNoneSpec)

/-- ITS FALSE NEIGHBOUR: 'it returns false'. Refute it at one input. -/
def fnBestStepNoneWrong : ChangeSpec := { name := "fnBestStepNone", fn := fun _ => fun
  | [d] => { results := [.lit (.bool false)], args := [d] }
  | _ => none }
def FnBestStepNoneWrongFalsely : Prop := fnBestStepNoneRow.holds Try.pinned (OpenSpec.ofChange fnBestStepNoneWrong)

/-- 'laws.FnExactHoldUntil': WHATEVER THE INPUT: true; the input reads as it did. -/
def fnExactHoldUntilSpec : ChangeSpec := { name := "fnExactHoldUntil", fn := fun _ => fun
  | [d] => { results := [.lit (.bool true)], args := [d] }
  | _ => none }
def fnExactHoldUntilRow : OpenClaim := { program := "ytnmoghmeinhfnaa", sum := "0f2ec0862f0af7e93da0a9c3503978b98ac2d09fbe524158b4506028129e7661", func := "loop.example/satelliteclock/laws.FnExactHoldUntil", spec := "fnExactHoldUntil", apart := false }
def FnExactHoldUntilSaid : Prop := fnExactHoldUntilRow.holds Try.pinned (OpenSpec.ofChange fnExactHoldUntilSpec)

/-- ITS FALSE NEIGHBOUR: 'it returns false'. Refute it at one input. -/
def fnExactHoldUntilWrong : ChangeSpec := { name := "fnExactHoldUntil", fn := fun _ => fun
  | [d] => { results := [.lit (.bool false)], args := [d] }
  | _ => none }
def FnExactHoldUntilWrongFalsely : Prop := fnExactHoldUntilRow.holds Try.pinned (OpenSpec.ofChange fnExactHoldUntilWrong)

/-- 'laws.FnExactSmearedStamp': WHATEVER THE INPUT: true; the input reads as it did. -/
def fnExactSmearedStampSpec : ChangeSpec := { name := "fnExactSmearedStamp", fn := fun _ => fun
  | [d1, d2] => { results := [.lit (.bool true)], args := [d1, d2] }
  | _ => none }
def fnExactSmearedStampRow : OpenClaim := { program := "ytnmoghmeinhfnaa", sum := "0f2ec0862f0af7e93da0a9c3503978b98ac2d09fbe524158b4506028129e7661", func := "loop.example/satelliteclock/laws.FnExactSmearedStamp", spec := "fnExactSmearedStamp", apart := false }
def FnExactSmearedStampSaid : Prop := fnExactSmearedStampRow.holds Try.pinned (OpenSpec.ofChange fnExactSmearedStampSpec)

/-- ITS FALSE NEIGHBOUR: 'it returns false'. Refute it at one input. -/
def fnExactSmearedStampWrong : ChangeSpec := { name := "fnExactSmearedStamp", fn := fun _ => fun
  | [d1, d2] => { results := [.lit (.bool false)], args := [d1, d2] }
  | _ => none }
def FnExactSmearedStampWrongFalsely : Prop := fnExactSmearedStampRow.holds Try.pinned (OpenSpec.ofChange fnExactSmearedStampWrong)

/-- 'laws.FnValidState': WHATEVER THE INPUT: true; the input reads as it did. -/
def fnValidStateSpec : ChangeSpec := { name := "fnValidState", fn := fun _ => fun
  | [d] => { results := [.lit (.bool true)], args := [d] }
  | _ => none }
def fnValidStateRow : OpenClaim := { program := "ytnmoghmeinhfnaa", sum := "0f2ec0862f0af7e93da0a9c3503978b98ac2d09fbe524158b4506028129e7661", func := "loop.example/satelliteclock/laws.FnValidState", spec := "fnValidState", apart := false }
def FnValidStateSaid : Prop := fnValidStateRow.holds Try.pinned (OpenSpec.ofChange fnValidStateSpec)

/-- ITS FALSE NEIGHBOUR: 'it returns false'. Refute it at one input. -/
def fnValidStateWrong : ChangeSpec := { name := "fnValidState", fn := fun _ => fun
  | [d] => { results := [.lit (.bool false)], args := [d] }
  | _ => none }
def FnValidStateWrongFalsely : Prop := fnValidStateRow.holds Try.pinned (OpenSpec.ofChange fnValidStateWrong)

/-- 'laws.FnExactAskServer': WHATEVER THE INPUT: true; the input reads as it did. -/
def fnExactAskServerSpec : ChangeSpec := { name := "fnExactAskServer", fn := fun _ => fun
  | [d] => { results := [.lit (.bool true)], args := [d] }
  | _ => none }
def fnExactAskServerRow : OpenClaim := { program := "ytnmoghmeinhfnaa", sum := "0f2ec0862f0af7e93da0a9c3503978b98ac2d09fbe524158b4506028129e7661", func := "loop.example/satelliteclock/laws.FnExactAskServer", spec := "fnExactAskServer", apart := false }
def FnExactAskServerSaid : Prop := fnExactAskServerRow.holds Try.pinned (OpenSpec.ofChange fnExactAskServerSpec)

/-- ITS FALSE NEIGHBOUR: 'it returns false'. Refute it at one input. -/
def fnExactAskServerWrong : ChangeSpec := { name := "fnExactAskServer", fn := fun _ => fun
  | [d] => { results := [.lit (.bool false)], args := [d] }
  | _ => none }
def FnExactAskServerWrongFalsely : Prop := fnExactAskServerRow.holds Try.pinned (OpenSpec.ofChange fnExactAskServerWrong)

/- THE SECOND FORM. 'bulk': how many values and letters a reading holds, each counted each time it is reached (what is shared counts as often as it is met; a slice's spare places count too). A statement '..UptoSaid' is the law's where the arguments, and the package variables that the reading takes, are together of bulk at most 1048576: NARROWER than '..Said'. Prove '..Said' where nothing that the law and all that it calls make is longer than what came in: it says more and counts as full. Else prove '..UptoSaid'. A law counts once. -/
mutual
def uptoBulk {H : Type} : DataW H → Nat
  | .lit (.string bytes) => bytes.length + 1
  | .lit _ => 1
  | .nil => 1
  | .ptr d => uptoBulk d + 1
  | .slice elems spare => uptoBulkAll elems + uptoBulkAll spare + 1
  | .agg parts => uptoBulkAll parts + 1
  | .iface _ d => uptoBulk d + 1
  | .map entries => uptoBulkEntries entries + 1
  | .held _ => 1
def uptoBulkAll {H : Type} : List (DataW H) → Nat
  | [] => 0
  | d :: r => uptoBulk d + uptoBulkAll r
def uptoBulkEntries {H : Type} : List (Lit × DataW H) → Nat
  | [] => 0
  | x :: r => uptoBulkEntry x + uptoBulkEntries r
def uptoBulkEntry {H : Type} : Lit × DataW H → Nat
  | (.string bytes, d) => bytes.length + uptoBulk d + 1
  | (_, d) => uptoBulk d + 1
 end
def uptoSmall : (H : Type) → List (DataW H) → Bool := fun _ ds => decide (uptoBulkAll ds ≤ 1048576)
def OpenSpec.upto (s : _root_.Go.ChangeSpec) : _root_.Go.OpenSpec := { _root_.Go.OpenSpec.ofChange s with cond := some uptoSmall }

/-- 'laws.FnExactStampOf', WHERE WHAT IT READS IS OF BULK AT MOST 1048576: true; the input reads as it did. -/
def fnExactStampOfUptoRow : OpenClaim := { program := "ytnmoghmeinhfnaa", sum := "0f2ec0862f0af7e93da0a9c3503978b98ac2d09fbe524158b4506028129e7661", func := "loop.example/satelliteclock/laws.FnExactStampOf", spec := "fnExactStampOf", apart := false, narrowed := true }
def FnExactStampOfUptoSaid : Prop := fnExactStampOfUptoRow.holds Try.pinned (OpenSpec.upto fnExactStampOfSpec)

/-- 'laws.FnExactSmearDone', WHERE WHAT IT READS IS OF BULK AT MOST 1048576: true; the input reads as it did. -/
def fnExactSmearDoneUptoRow : OpenClaim := { program := "ytnmoghmeinhfnaa", sum := "0f2ec0862f0af7e93da0a9c3503978b98ac2d09fbe524158b4506028129e7661", func := "loop.example/satelliteclock/laws.FnExactSmearDone", spec := "fnExactSmearDone", apart := false, narrowed := true }
def FnExactSmearDoneUptoSaid : Prop := fnExactSmearDoneUptoRow.holds Try.pinned (OpenSpec.upto fnExactSmearDoneSpec)

/-- 'laws.FnExactSplitStamp', WHERE WHAT IT READS IS OF BULK AT MOST 1048576: true; the input reads as it did. -/
def fnExactSplitStampUptoRow : OpenClaim := { program := "ytnmoghmeinhfnaa", sum := "0f2ec0862f0af7e93da0a9c3503978b98ac2d09fbe524158b4506028129e7661", func := "loop.example/satelliteclock/laws.FnExactSplitStamp", spec := "fnExactSplitStamp", apart := false, narrowed := true }
def FnExactSplitStampUptoSaid : Prop := fnExactSplitStampUptoRow.holds Try.pinned (OpenSpec.upto fnExactSplitStampSpec)

/-- 'laws.FnExactValidState', WHERE WHAT IT READS IS OF BULK AT MOST 1048576: true; the input reads as it did. -/
def fnExactValidStateUptoRow : OpenClaim := { program := "ytnmoghmeinhfnaa", sum := "0f2ec0862f0af7e93da0a9c3503978b98ac2d09fbe524158b4506028129e7661", func := "loop.example/satelliteclock/laws.FnExactValidState", spec := "fnExactValidState", apart := false, narrowed := true }
def FnExactValidStateUptoSaid : Prop := fnExactValidStateUptoRow.holds Try.pinned (OpenSpec.upto fnExactValidStateSpec)

/-- 'laws.FnExactValidPacket', WHERE WHAT IT READS IS OF BULK AT MOST 1048576: true; the input reads as it did. -/
def fnExactValidPacketUptoRow : OpenClaim := { program := "ytnmoghmeinhfnaa", sum := "0f2ec0862f0af7e93da0a9c3503978b98ac2d09fbe524158b4506028129e7661", func := "loop.example/satelliteclock/laws.FnExactValidPacket", spec := "fnExactValidPacket", apart := false, narrowed := true }
def FnExactValidPacketUptoSaid : Prop := fnExactValidPacketUptoRow.holds Try.pinned (OpenSpec.upto fnExactValidPacketSpec)

/-- 'laws.FnExactErrorAt', WHERE WHAT IT READS IS OF BULK AT MOST 1048576: true; the input reads as it did. -/
def fnExactErrorAtUptoRow : OpenClaim := { program := "ytnmoghmeinhfnaa", sum := "0f2ec0862f0af7e93da0a9c3503978b98ac2d09fbe524158b4506028129e7661", func := "loop.example/satelliteclock/laws.FnExactErrorAt", spec := "fnExactErrorAt", apart := false, narrowed := true }
def FnExactErrorAtUptoSaid : Prop := fnExactErrorAtUptoRow.holds Try.pinned (OpenSpec.upto fnExactErrorAtSpec)

/-- 'laws.FnExactSmearAt', WHERE WHAT IT READS IS OF BULK AT MOST 1048576: true; the input reads as it did. -/
def fnExactSmearAtUptoRow : OpenClaim := { program := "ytnmoghmeinhfnaa", sum := "0f2ec0862f0af7e93da0a9c3503978b98ac2d09fbe524158b4506028129e7661", func := "loop.example/satelliteclock/laws.FnExactSmearAt", spec := "fnExactSmearAt", apart := false, narrowed := true }
def FnExactSmearAtUptoSaid : Prop := fnExactSmearAtUptoRow.holds Try.pinned (OpenSpec.upto fnExactSmearAtSpec)

/-- 'laws.FnBestStepNone', WHERE WHAT IT READS IS OF BULK AT MOST 1048576: true; the input reads as it did. -/
def fnBestStepNoneUptoRow : OpenClaim := { program := "ytnmoghmeinhfnaa", sum := "0f2ec0862f0af7e93da0a9c3503978b98ac2d09fbe524158b4506028129e7661", func := "loop.example/satelliteclock/laws.FnBestStepNone", spec := "fnBestStepNone", unfollowed := true, recurses := true, apart := false, narrowed := true }
def FnBestStepNoneUptoSaid : Prop := fnBestStepNoneUptoRow.holds Try.pinned (OpenSpec.upto fnBestStepNoneSpec)

/-- 'laws.FnExactHoldUntil', WHERE WHAT IT READS IS OF BULK AT MOST 1048576: true; the input reads as it did. -/
def fnExactHoldUntilUptoRow : OpenClaim := { program := "ytnmoghmeinhfnaa", sum := "0f2ec0862f0af7e93da0a9c3503978b98ac2d09fbe524158b4506028129e7661", func := "loop.example/satelliteclock/laws.FnExactHoldUntil", spec := "fnExactHoldUntil", apart := false, narrowed := true }
def FnExactHoldUntilUptoSaid : Prop := fnExactHoldUntilUptoRow.holds Try.pinned (OpenSpec.upto fnExactHoldUntilSpec)

/-- 'laws.FnExactSmearedStamp', WHERE WHAT IT READS IS OF BULK AT MOST 1048576: true; the input reads as it did. -/
def fnExactSmearedStampUptoRow : OpenClaim := { program := "ytnmoghmeinhfnaa", sum := "0f2ec0862f0af7e93da0a9c3503978b98ac2d09fbe524158b4506028129e7661", func := "loop.example/satelliteclock/laws.FnExactSmearedStamp", spec := "fnExactSmearedStamp", apart := false, narrowed := true }
def FnExactSmearedStampUptoSaid : Prop := fnExactSmearedStampUptoRow.holds Try.pinned (OpenSpec.upto fnExactSmearedStampSpec)

/-- 'laws.FnValidState', WHERE WHAT IT READS IS OF BULK AT MOST 1048576: true; the input reads as it did. -/
def fnValidStateUptoRow : OpenClaim := { program := "ytnmoghmeinhfnaa", sum := "0f2ec0862f0af7e93da0a9c3503978b98ac2d09fbe524158b4506028129e7661", func := "loop.example/satelliteclock/laws.FnValidState", spec := "fnValidState", apart := false, narrowed := true }
def FnValidStateUptoSaid : Prop := fnValidStateUptoRow.holds Try.pinned (OpenSpec.upto fnValidStateSpec)

/-- 'laws.FnExactAskServer', WHERE WHAT IT READS IS OF BULK AT MOST 1048576: true; the input reads as it did. -/
def fnExactAskServerUptoRow : OpenClaim := { program := "ytnmoghmeinhfnaa", sum := "0f2ec0862f0af7e93da0a9c3503978b98ac2d09fbe524158b4506028129e7661", func := "loop.example/satelliteclock/laws.FnExactAskServer", spec := "fnExactAskServer", apart := false, narrowed := true }
def FnExactAskServerUptoSaid : Prop := fnExactAskServerUptoRow.holds Try.pinned (OpenSpec.upto fnExactAskServerSpec)

end Rows
end Go.Proofs.Ytnmoghmeinhfnaa
