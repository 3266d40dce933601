/-
  No cell of these rows narrows 'for every input' (looked for: loops, veiled, ifaces, maps, wideKeys, modest, calm, conditions, laid).
  DERIVED. THE GIVEN ROWS OF THIS SEAT. 12 by the template 'for every input the law returns true; each argument reads behind the call as it read before'; 0 by the template 'total and deterministic' (their statements: YtijaknepdpmjbaaTotals.lean).
  GIVEN WITH THE SEED: the statements are not yours to turn. If you find one false, say at which input.
  Laid BY PROGRAM, IN A SANDBOX (cutbox-rows.mjs): the forced cells as the released guide's own fill.sh prints them over the translation ebfd88aced568ced… (all of the seat's roots in one cut). By AI agents, Wed Nov 11 2026. No macro, syntax, notation, axiom, sorry.
-/
import Derived.Test.YtijaknepdpmjbaaChecked
import GoSem.Claim
import GoSem.ClaimJoined
import GoSem.ClaimMapViews
import Derived.JoinedTies
import Derived.KernelRfl
namespace Go.Proofs.Ytijaknepdpmjbaa
/- THE CELL 'sum', in the pinned program and in every row, IS THE sha256 OF THE DUMP (.gsa) THAT YtijaknepdpmjbaaProg.lean LOADS. Nothing in Lean hashes anything: it is a label: what it is worth is what the hold of that sum in a sandbox is worth. -/
noncomputable def Try.pinned : Pinned := { name := "ytijaknepdpmjbaa", sum := "ebfd88aced568ced5f52ee672df21a46ad7840b60891132ec7684116170eda19", checked := Try.checked }
namespace Rows
def none {H : Type} : Left H := { results := [], args := [] }

/-- 'laws.FnStampOf': WHATEVER THE INPUT: true; the input reads as it did. -/
def fnStampOfSpec : ChangeSpec := { name := "fnStampOf", fn := fun _ => fun
  | [d] => { results := [.lit (.bool true)], args := [d] }
  | _ => none }
def fnStampOfRow : OpenClaim := { program := "ytijaknepdpmjbaa", sum := "ebfd88aced568ced5f52ee672df21a46ad7840b60891132ec7684116170eda19", func := "loop.example/satelliteclock/laws.FnStampOf", spec := "fnStampOf", apart := false }
def FnStampOfSaid : Prop := fnStampOfRow.holds Try.pinned (OpenSpec.ofChange fnStampOfSpec)

/-- ITS FALSE NEIGHBOUR: 'it returns false'. Refute it at one input. -/
def fnStampOfWrong : ChangeSpec := { name := "fnStampOf", fn := fun _ => fun
  | [d] => { results := [.lit (.bool false)], args := [d] }
  | _ => none }
def FnStampOfWrongFalsely : Prop := fnStampOfRow.holds Try.pinned (OpenSpec.ofChange fnStampOfWrong)

/-- 'laws.FnSmearDoneAll': WHATEVER THE INPUT: true; the input reads as it did. -/
def fnSmearDoneAllSpec : ChangeSpec := { name := "fnSmearDoneAll", fn := fun _ => fun
  | [d] => { results := [.lit (.bool true)], args := [d] }
  | _ => none }
def fnSmearDoneAllRow : OpenClaim := { program := "ytijaknepdpmjbaa", sum := "ebfd88aced568ced5f52ee672df21a46ad7840b60891132ec7684116170eda19", func := "loop.example/satelliteclock/laws.FnSmearDoneAll", spec := "fnSmearDoneAll", apart := false }
def FnSmearDoneAllSaid : Prop := fnSmearDoneAllRow.holds Try.pinned (OpenSpec.ofChange fnSmearDoneAllSpec)

/-- ITS FALSE NEIGHBOUR: 'it returns false'. Refute it at one input. -/
def fnSmearDoneAllWrong : ChangeSpec := { name := "fnSmearDoneAll", fn := fun _ => fun
  | [d] => { results := [.lit (.bool false)], args := [d] }
  | _ => none }
def FnSmearDoneAllWrongFalsely : Prop := fnSmearDoneAllRow.holds Try.pinned (OpenSpec.ofChange fnSmearDoneAllWrong)

/-- 'laws.FnSplitStampNext': WHATEVER THE INPUT: true; the input reads as it did. -/
def fnSplitStampNextSpec : ChangeSpec := { name := "fnSplitStampNext", fn := fun _ => fun
  | [d] => { results := [.lit (.bool true)], args := [d] }
  | _ => none }
def fnSplitStampNextRow : OpenClaim := { program := "ytijaknepdpmjbaa", sum := "ebfd88aced568ced5f52ee672df21a46ad7840b60891132ec7684116170eda19", func := "loop.example/satelliteclock/laws.FnSplitStampNext", spec := "fnSplitStampNext", apart := false }
def FnSplitStampNextSaid : Prop := fnSplitStampNextRow.holds Try.pinned (OpenSpec.ofChange fnSplitStampNextSpec)

/-- ITS FALSE NEIGHBOUR: 'it returns false'. Refute it at one input. -/
def fnSplitStampNextWrong : ChangeSpec := { name := "fnSplitStampNext", fn := fun _ => fun
  | [d] => { results := [.lit (.bool false)], args := [d] }
  | _ => none }
def FnSplitStampNextWrongFalsely : Prop := fnSplitStampNextRow.holds Try.pinned (OpenSpec.ofChange fnSplitStampNextWrong)

/-- 'laws.FnSpanOf': WHATEVER THE INPUT: true; the input reads as it did. -/
def fnSpanOfSpec : ChangeSpec := { name := "fnSpanOf", fn := fun _ => fun
  | [d] => { results := [.lit (.bool true)], args := [d] }
  | _ => none }
def fnSpanOfRow : OpenClaim := { program := "ytijaknepdpmjbaa", sum := "ebfd88aced568ced5f52ee672df21a46ad7840b60891132ec7684116170eda19", func := "loop.example/satelliteclock/laws.FnSpanOf", spec := "fnSpanOf", unfollowed := true, recurses := true, apart := false }
def FnSpanOfSaid : Prop := fnSpanOfRow.holds Try.pinned (OpenSpec.ofChange fnSpanOfSpec)

/-- ITS FALSE NEIGHBOUR: 'it returns false'. Refute it at one input. -/
def fnSpanOfWrong : ChangeSpec := { name := "fnSpanOf", fn := fun _ => fun
  | [d] => { results := [.lit (.bool false)], args := [d] }
  | _ => none }
def FnSpanOfWrongFalsely : Prop := fnSpanOfRow.holds Try.pinned (OpenSpec.ofChange fnSpanOfWrong)

/-- 'laws.FnExactLevelAt': WHATEVER THE INPUT: true; the input reads as it did. -/
def fnExactLevelAtSpec : ChangeSpec := { name := "fnExactLevelAt", fn := fun _ => fun
  | [d1, d2] => { results := [.lit (.bool true)], args := [d1, d2] }
  | _ => none }
def fnExactLevelAtRow : OpenClaim := { program := "ytijaknepdpmjbaa", sum := "ebfd88aced568ced5f52ee672df21a46ad7840b60891132ec7684116170eda19", func := "loop.example/satelliteclock/laws.FnExactLevelAt", spec := "fnExactLevelAt", apart := false }
def FnExactLevelAtSaid : Prop := fnExactLevelAtRow.holds Try.pinned (OpenSpec.ofChange fnExactLevelAtSpec)

/-- ITS FALSE NEIGHBOUR: 'it returns false'. Refute it at one input. -/
def fnExactLevelAtWrong : ChangeSpec := { name := "fnExactLevelAt", fn := fun _ => fun
  | [d1, d2] => { results := [.lit (.bool false)], args := [d1, d2] }
  | _ => none }
def FnExactLevelAtWrongFalsely : Prop := fnExactLevelAtRow.holds Try.pinned (OpenSpec.ofChange fnExactLevelAtWrong)

/-- 'laws.FnSplitStamp': WHATEVER THE INPUT: true; the input reads as it did. -/
def fnSplitStampSpec : ChangeSpec := { name := "fnSplitStamp", fn := fun _ => fun
  | [d] => { results := [.lit (.bool true)], args := [d] }
  | _ => none }
def fnSplitStampRow : OpenClaim := { program := "ytijaknepdpmjbaa", sum := "ebfd88aced568ced5f52ee672df21a46ad7840b60891132ec7684116170eda19", func := "loop.example/satelliteclock/laws.FnSplitStamp", spec := "fnSplitStamp", apart := false }
def FnSplitStampSaid : Prop := fnSplitStampRow.holds Try.pinned (OpenSpec.ofChange fnSplitStampSpec)

/-- ITS FALSE NEIGHBOUR: 'it returns false'. Refute it at one input. -/
def fnSplitStampWrong : ChangeSpec := { name := "fnSplitStamp", fn := fun _ => fun
  | [d] => { results := [.lit (.bool false)], args := [d] }
  | _ => none }
def FnSplitStampWrongFalsely : Prop := fnSplitStampRow.holds Try.pinned (OpenSpec.ofChange fnSplitStampWrong)

/-- 'laws.FnSmearDone': WHATEVER THE INPUT: true; the input reads as it did. -/
def fnSmearDoneSpec : ChangeSpec := { name := "fnSmearDone", fn := fun _ => fun
  | [d] => { results := [.lit (.bool true)], args := [d] }
  | _ => none }
def fnSmearDoneRow : OpenClaim := { program := "ytijaknepdpmjbaa", sum := "ebfd88aced568ced5f52ee672df21a46ad7840b60891132ec7684116170eda19", func := "loop.example/satelliteclock/laws.FnSmearDone", spec := "fnSmearDone", apart := false }
def FnSmearDoneSaid : Prop := fnSmearDoneRow.holds Try.pinned (OpenSpec.ofChange fnSmearDoneSpec)

/-- ITS FALSE NEIGHBOUR: 'it returns false'. Refute it at one input. -/
def fnSmearDoneWrong : ChangeSpec := { name := "fnSmearDone", fn := fun _ => fun
  | [d] => { results := [.lit (.bool false)], args := [d] }
  | _ => none }
def FnSmearDoneWrongFalsely : Prop := fnSmearDoneRow.holds Try.pinned (OpenSpec.ofChange fnSmearDoneWrong)

/-- 'laws.FnExactSeenAgain': WHATEVER THE INPUT: true; the input reads as it did. -/
def fnExactSeenAgainSpec : ChangeSpec := { name := "fnExactSeenAgain", fn := fun _ => fun
  | [d1, d2, d3] => { results := [.lit (.bool true)], args := [d1, d2, d3] }
  | _ => none }
def fnExactSeenAgainRow : OpenClaim := { program := "ytijaknepdpmjbaa", sum := "ebfd88aced568ced5f52ee672df21a46ad7840b60891132ec7684116170eda19", func := "loop.example/satelliteclock/laws.FnExactSeenAgain", spec := "fnExactSeenAgain", apart := false }
def FnExactSeenAgainSaid : Prop := fnExactSeenAgainRow.holds Try.pinned (OpenSpec.ofChange fnExactSeenAgainSpec)

/-- ITS FALSE NEIGHBOUR: 'it returns false'. Refute it at one input. -/
def fnExactSeenAgainWrong : ChangeSpec := { name := "fnExactSeenAgain", fn := fun _ => fun
  | [d1, d2, d3] => { results := [.lit (.bool false)], args := [d1, d2, d3] }
  | _ => none }
def FnExactSeenAgainWrongFalsely : Prop := fnExactSeenAgainRow.holds Try.pinned (OpenSpec.ofChange fnExactSeenAgainWrong)

/-- 'laws.FnAskServer': WHATEVER THE INPUT: true; the input reads as it did. -/
def fnAskServerSpec : ChangeSpec := { name := "fnAskServer", fn := fun _ => fun
  | [d] => { results := [.lit (.bool true)], args := [d] }
  | _ => none }
def fnAskServerRow : OpenClaim := { program := "ytijaknepdpmjbaa", sum := "ebfd88aced568ced5f52ee672df21a46ad7840b60891132ec7684116170eda19", func := "loop.example/satelliteclock/laws.FnAskServer", spec := "fnAskServer", apart := false }
def FnAskServerSaid : Prop := fnAskServerRow.holds Try.pinned (OpenSpec.ofChange fnAskServerSpec)

/-- ITS FALSE NEIGHBOUR: 'it returns false'. Refute it at one input. -/
def fnAskServerWrong : ChangeSpec := { name := "fnAskServer", fn := fun _ => fun
  | [d] => { results := [.lit (.bool false)], args := [d] }
  | _ => none }
def FnAskServerWrongFalsely : Prop := fnAskServerRow.holds Try.pinned (OpenSpec.ofChange fnAskServerWrong)

/-- 'laws.FnExactDelayOf': WHATEVER THE INPUT: true; the input reads as it did. -/
def fnExactDelayOfSpec : ChangeSpec := { name := "fnExactDelayOf", fn := fun _ => fun
  | [d] => { results := [.lit (.bool true)], args := [d] }
  | _ => none }
def fnExactDelayOfRow : OpenClaim := { program := "ytijaknepdpmjbaa", sum := "ebfd88aced568ced5f52ee672df21a46ad7840b60891132ec7684116170eda19", func := "loop.example/satelliteclock/laws.FnExactDelayOf", spec := "fnExactDelayOf", unfollowed := true, recurses := true, apart := false }
def FnExactDelayOfSaid : Prop := fnExactDelayOfRow.holds Try.pinned (OpenSpec.ofChange fnExactDelayOfSpec)

/-- ITS FALSE NEIGHBOUR: 'it returns false'. Refute it at one input. -/
def fnExactDelayOfWrong : ChangeSpec := { name := "fnExactDelayOf", fn := fun _ => fun
  | [d] => { results := [.lit (.bool false)], args := [d] }
  | _ => none }
def FnExactDelayOfWrongFalsely : Prop := fnExactDelayOfRow.holds Try.pinned (OpenSpec.ofChange fnExactDelayOfWrong)

/-- 'laws.FnSpanOfVote': WHATEVER THE INPUT: true; the input reads as it did. -/
def fnSpanOfVoteSpec : ChangeSpec := { name := "fnSpanOfVote", fn := fun _ => fun
  | [d] => { results := [.lit (.bool true)], args := [d] }
  | _ => none }
def fnSpanOfVoteRow : OpenClaim := { program := "ytijaknepdpmjbaa", sum := "ebfd88aced568ced5f52ee672df21a46ad7840b60891132ec7684116170eda19", func := "loop.example/satelliteclock/laws.FnSpanOfVote", spec := "fnSpanOfVote", unfollowed := true, recurses := true, apart := false }
def FnSpanOfVoteSaid : Prop := fnSpanOfVoteRow.holds Try.pinned (OpenSpec.ofChange fnSpanOfVoteSpec)

/-- ITS FALSE NEIGHBOUR: 'it returns false'. Refute it at one input. -/
def fnSpanOfVoteWrong : ChangeSpec := { name := "fnSpanOfVote", fn := fun _ => fun
  | [d] => { results := [.lit (.bool false)], args := [d] }
  | _ => none }
def FnSpanOfVoteWrongFalsely : Prop := fnSpanOfVoteRow.holds Try.pinned (OpenSpec.ofChange fnSpanOfVoteWrong)

/-- 'laws.FnErrorAt': WHATEVER THE INPUT: true; the input reads as it did. -/
def fnErrorAtSpec : ChangeSpec := { name := "fnErrorAt", fn := fun _ => fun
  | [d] => { results := [.lit (.bool true)], args := [d] }
  | _ => none }
def fnErrorAtRow : OpenClaim := { program := "ytijaknepdpmjbaa", sum := "ebfd88aced568ced5f52ee672df21a46ad7840b60891132ec7684116170eda19", func := "loop.example/satelliteclock/laws.FnErrorAt", spec := "fnErrorAt", apart := false }
def FnErrorAtSaid : Prop := fnErrorAtRow.holds Try.pinned (OpenSpec.ofChange fnErrorAtSpec)

/-- ITS FALSE NEIGHBOUR: 'it returns false'. Refute it at one input. -/
def fnErrorAtWrong : ChangeSpec := { name := "fnErrorAt", fn := fun _ => fun
  | [d] => { results := [.lit (.bool false)], args := [d] }
  | _ => none }
def FnErrorAtWrongFalsely : Prop := fnErrorAtRow.holds Try.pinned (OpenSpec.ofChange fnErrorAtWrong)

/- THE SECOND FORM. 'bulk': how many values and letters a reading holds, each counted each time it is reached (what is shared counts as often as it is met; a slice's spare places count too). A statement '..UptoSaid' is the law's where the arguments, and the package variables that the reading takes, are together of bulk at most 1048576: NARROWER than '..Said'. Prove '..Said' where nothing that the law and all that it calls make is longer than what came in: it says more and counts as full. Else prove '..UptoSaid'. A law counts once. -/
mutual
def uptoBulk {H : Type} : DataW H → Nat
  | .lit (.string bytes) => bytes.length + 1
  | .lit _ => 1
  | .nil => 1
  | .ptr d => uptoBulk d + 1
  | .slice elems spare => uptoBulkAll elems + uptoBulkAll spare + 1
  | .agg parts => uptoBulkAll parts + 1
  | .iface _ d => uptoBulk d + 1
  | .map entries => uptoBulkEntries entries + 1
  | .held _ => 1
def uptoBulkAll {H : Type} : List (DataW H) → Nat
  | [] => 0
  | d :: r => uptoBulk d + uptoBulkAll r
def uptoBulkEntries {H : Type} : List (Lit × DataW H) → Nat
  | [] => 0
  | x :: r => uptoBulkEntry x + uptoBulkEntries r
def uptoBulkEntry {H : Type} : Lit × DataW H → Nat
  | (.string bytes, d) => bytes.length + uptoBulk d + 1
  | (_, d) => uptoBulk d + 1
 end
def uptoSmall : (H : Type) → List (DataW H) → Bool := fun _ ds => decide (uptoBulkAll ds ≤ 1048576)
def OpenSpec.upto (s : _root_.Go.ChangeSpec) : _root_.Go.OpenSpec := { _root_.Go.OpenSpec.ofChange s with cond := some uptoSmall }

/-- 'laws.FnStampOf', WHERE WHAT IT READS IS OF BULK AT MOST 1048576: true; the input reads as it did. -/
def fnStampOfUptoRow : OpenClaim := { program := "ytijaknepdpmjbaa", sum := "ebfd88aced568ced5f52ee672df21a46ad7840b60891132ec7684116170eda19", func := "loop.example/satelliteclock/laws.FnStampOf", spec := "fnStampOf", apart := false, narrowed := true }
def FnStampOfUptoSaid : Prop := fnStampOfUptoRow.holds Try.pinned (OpenSpec.upto fnStampOfSpec)

/-- 'laws.FnSmearDoneAll', WHERE WHAT IT READS IS OF BULK AT MOST 1048576: true; the input reads as it did. -/
def fnSmearDoneAllUptoRow : OpenClaim := { program := "ytijaknepdpmjbaa", sum := "ebfd88aced568ced5f52ee672df21a46ad7840b60891132ec7684116170eda19", func := "loop.example/satelliteclock/laws.FnSmearDoneAll", spec := "fnSmearDoneAll", apart := false, narrowed := true }
def FnSmearDoneAllUptoSaid : Prop := fnSmearDoneAllUptoRow.holds Try.pinned (OpenSpec.upto fnSmearDoneAllSpec)

/-- 'laws.FnSplitStampNext', WHERE WHAT IT READS IS OF BULK AT MOST 1048576: true; the input reads as it did. -/
def fnSplitStampNextUptoRow : OpenClaim := { program := "ytijaknepdpmjbaa", sum := "ebfd88aced568ced5f52ee672df21a46ad7840b60891132ec7684116170eda19", func := "loop.example/satelliteclock/laws.FnSplitStampNext", spec := "fnSplitStampNext", apart := false, narrowed := true }
def FnSplitStampNextUptoSaid : Prop := fnSplitStampNextUptoRow.holds Try.pinned (OpenSpec.upto fnSplitStampNextSpec)

/-- 'laws.FnSpanOf', WHERE WHAT IT READS IS OF BULK AT MOST 1048576: true; the input reads as it did. -/
def fnSpanOfUptoRow : OpenClaim := { program := "ytijaknepdpmjbaa", sum := "ebfd88aced568ced5f52ee672df21a46ad7840b60891132ec7684116170eda19", func := "loop.example/satelliteclock/laws.FnSpanOf", spec := "fnSpanOf", unfollowed := true, recurses := true, apart := false, narrowed := true }
def FnSpanOfUptoSaid : Prop := fnSpanOfUptoRow.holds Try.pinned (OpenSpec.upto fnSpanOfSpec)

/-- 'laws.FnExactLevelAt', WHERE WHAT IT READS IS OF BULK AT MOST 1048576: true; the input reads as it did. -/
def fnExactLevelAtUptoRow : OpenClaim := { program := "ytijaknepdpmjbaa", sum := "ebfd88aced568ced5f52ee672df21a46ad7840b60891132ec7684116170eda19", func := "loop.example/satelliteclock/laws.FnExactLevelAt", spec := "fnExactLevelAt", apart := false, narrowed := true }
def FnExactLevelAtUptoSaid : Prop := fnExactLevelAtUptoRow.holds Try.pinned (OpenSpec.upto fnExactLevelAtSpec)

/-- 'laws.FnSplitStamp', WHERE WHAT IT READS IS OF BULK AT MOST 1048576: true; the input reads as it did. -/
def fnSplitStampUptoRow : OpenClaim := { program := "ytijaknepdpmjbaa", sum := "ebfd88aced568ced5f52ee672df21a46ad7840b60891132ec7684116170eda19", func := "loop.example/satelliteclock/laws.FnSplitStamp", spec := "fnSplitStamp", apart := false, narrowed := true }
def FnSplitStampUptoSaid : Prop := fnSplitStampUptoRow.holds Try.pinned (OpenSpec.upto fnSplitStampSpec)

/-- 'laws.FnSmearDone', WHERE WHAT IT READS IS OF BULK AT MOST 1048576: true; the input reads as it did. -/
def fnSmearDoneUptoRow : OpenClaim := { program := "ytijaknepdpmjbaa", sum := "ebfd88aced568ced5f52ee672df21a46ad7840b60891132ec7684116170eda19", func := "loop.example/satelliteclock/laws.FnSmearDone", spec := "fnSmearDone", apart := false, narrowed := true }
def FnSmearDoneUptoSaid : Prop := fnSmearDoneUptoRow.holds Try.pinned (OpenSpec.upto fnSmearDoneSpec)

/-- 'laws.FnExactSeenAgain', WHERE WHAT IT READS IS OF BULK AT MOST 1048576: true; the input reads as it did. -/
def fnExactSeenAgainUptoRow : OpenClaim := { program := "ytijaknepdpmjbaa", sum := "ebfd88aced568ced5f52ee672df21a46ad7840b60891132ec7684116170eda19", func := "loop.example/satelliteclock/laws.FnExactSeenAgain", spec := "fnExactSeenAgain", apart := false, narrowed := true }
def FnExactSeenAgainUptoSaid : Prop := fnExactSeenAgainUptoRow.holds Try.pinned (OpenSpec.upto fnExactSeenAgainSpec)

/-- 'laws.FnAskServer', WHERE WHAT IT READS IS OF BULK AT MOST 1048576: true; the input reads as it did. -/
def fnAskServerUptoRow : OpenClaim := { program := "ytijaknepdpmjbaa", sum := "ebfd88aced568ced5f52ee672df21a46ad7840b60891132ec7684116170eda19", func := "loop.example/satelliteclock/laws.FnAskServer", spec := "fnAskServer", apart := false, narrowed := true }
def FnAskServerUptoSaid : Prop := fnAskServerUptoRow.holds Try.pinned (OpenSpec.upto fnAskServerSpec)

/-- 'laws.FnExactDelayOf', WHERE WHAT IT READS IS OF BULK AT MOST 1048576: true; the input reads as it did. -/
def fnExactDelayOfUptoRow : OpenClaim := { program := "ytijaknepdpmjbaa", sum := "ebfd88aced568ced5f52ee672df21a46ad7840b60891132ec7684116170eda19", func := "loop.example/satelliteclock/laws.FnExactDelayOf", spec := "fnExactDelayOf", unfollowed := true, recurses := true, apart := false, narrowed := true }
def FnExactDelayOfUptoSaid : Prop := fnExactDelayOfUptoRow.holds Try.pinned (OpenSpec.upto fnExactDelayOfSpec)

/-- 'laws.FnSpanOfVote', WHERE WHAT IT READS IS OF BULK AT MOST 1048576: true; the input reads as it did. -/
def fnSpanOfVoteUptoRow : OpenClaim := { program := "ytijaknepdpmjbaa", sum := "ebfd88aced568ced5f52ee672df21a46ad7840b60891132ec7684116170eda19", func := "loop.example/satelliteclock/laws.FnSpanOfVote", spec := "fnSpanOfVote", unfollowed := true, recurses := true, apart := false, narrowed := true }
def FnSpanOfVoteUptoSaid : Prop := fnSpanOfVoteUptoRow.holds Try.pinned (OpenSpec.upto fnSpanOfVoteSpec)

/-- 'laws.FnErrorAt', WHERE WHAT IT READS IS OF BULK AT MOST 1048576: true; the input reads as it did. -/
def fnErrorAtUptoRow : OpenClaim := { program := "ytijaknepdpmjbaa", sum := "ebfd88aced568ced5f52ee672df21a46ad7840b60891132ec7684116170eda19", func := "loop.example/satelliteclock/laws.FnErrorAt", spec := "fnErrorAt", apart := false, narrowed := true }
def FnErrorAtUptoSaid : Prop := fnErrorAtUptoRow.holds Try.pinned (OpenSpec.upto fnErrorAtSpec)

end Rows
end Go.Proofs.Ytijaknepdpmjbaa
