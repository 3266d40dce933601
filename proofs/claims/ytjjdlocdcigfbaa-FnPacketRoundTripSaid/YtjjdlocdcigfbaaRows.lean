/-
  No cell of these rows narrows 'for every input' (looked for: loops, veiled, ifaces, maps, wideKeys, modest, calm, conditions, laid).
  DERIVED. THE GIVEN ROWS OF THIS SEAT. 12 by the template 'for every input the law returns true; each argument reads behind the call as it read before'; 0 by the template 'total and deterministic' (their statements: YtjjdlocdcigfbaaTotals.lean).
  GIVEN WITH THE SEED: the statements are not yours to turn. If you find one false, say at which input.
  Laid BY PROGRAM, IN A SANDBOX (cutbox-rows.mjs): the forced cells as the released guide's own fill.sh prints them over the translation 2d4498a6d0a82364… (all of the seat's roots in one cut). By AI agents, Wed Nov 11 2026. No macro, syntax, notation, axiom, sorry.
-/
import Derived.Test.YtjjdlocdcigfbaaChecked
import GoSem.Claim
import GoSem.ClaimJoined
import GoSem.ClaimMapViews
import Derived.JoinedTies
import Derived.KernelRfl
namespace Go.Proofs.Ytjjdlocdcigfbaa
/- THE CELL 'sum', in the pinned program and in every row, IS THE sha256 OF THE DUMP (.gsa) THAT YtjjdlocdcigfbaaProg.lean LOADS. Nothing in Lean hashes anything: it is a label: what it is worth is what the hold of that sum in a sandbox is worth. -/
noncomputable def Try.pinned : Pinned := { name := "ytjjdlocdcigfbaa", sum := "2d4498a6d0a823648028c39fdca62c5565d2cdc12230b4254a3e95ee3428e916", checked := Try.checked }
namespace Rows
def none {H : Type} : Left H := { results := [], args := [] }

/-- 'laws.FnOffsetOf': WHATEVER THE INPUT: true; the input reads as it did. -/
def fnOffsetOfSpec : ChangeSpec := { name := "fnOffsetOf", fn := fun _ => fun
  | [d] => { results := [.lit (.bool true)], args := [d] }
  | _ => none }
def fnOffsetOfRow : OpenClaim := { program := "ytjjdlocdcigfbaa", sum := "2d4498a6d0a823648028c39fdca62c5565d2cdc12230b4254a3e95ee3428e916", func := "loop.example/satelliteclock/laws.FnOffsetOf", spec := "fnOffsetOf", unfollowed := true, recurses := true, apart := false }
def FnOffsetOfSaid : Prop := fnOffsetOfRow.holds Try.pinned (OpenSpec.ofChange fnOffsetOfSpec)

/-- ITS FALSE NEIGHBOUR: 'it returns false'. Refute it at one input. -/
def fnOffsetOfWrong : ChangeSpec := { name := "fnOffsetOf", fn := fun _ => fun
  | [d] => { results := [.lit (.bool false)], args := [d] }
  | _ => none }
def FnOffsetOfWrongFalsely : Prop := fnOffsetOfRow.holds Try.pinned (OpenSpec.ofChange fnOffsetOfWrong)

/-- 'laws.FnOffsetOfShift': WHATEVER THE INPUT: true; the input reads as it did. -/
def fnOffsetOfShiftSpec : ChangeSpec := { name := "fnOffsetOfShift", fn := fun _ => fun
  | [d] => { results := [.lit (.bool true)], args := [d] }
  | _ => none }
def fnOffsetOfShiftRow : OpenClaim := { program := "ytjjdlocdcigfbaa", sum := "2d4498a6d0a823648028c39fdca62c5565d2cdc12230b4254a3e95ee3428e916", func := "loop.example/satelliteclock/laws.FnOffsetOfShift", spec := "fnOffsetOfShift", unfollowed := true, recurses := true, apart := false }
def FnOffsetOfShiftSaid : Prop := fnOffsetOfShiftRow.holds Try.pinned (OpenSpec.ofChange fnOffsetOfShiftSpec)

/-- ITS FALSE NEIGHBOUR: 'it returns false'. Refute it at one input. -/
def fnOffsetOfShiftWrong : ChangeSpec := { name := "fnOffsetOfShift", fn := fun _ => fun
  | [d] => { results := [.lit (.bool false)], args := [d] }
  | _ => none }
def FnOffsetOfShiftWrongFalsely : Prop := fnOffsetOfShiftRow.holds Try.pinned (OpenSpec.ofChange fnOffsetOfShiftWrong)

/-- 'laws.FnExactSpanOf': WHATEVER THE INPUT: true; the input reads as it did. -/
def fnExactSpanOfSpec : ChangeSpec := { name := "fnExactSpanOf", fn := fun _ => fun
  | [d] => { results := [.lit (.bool true)], args := [d] }
  | _ => none }
def fnExactSpanOfRow : OpenClaim := { program := "ytjjdlocdcigfbaa", sum := "2d4498a6d0a823648028c39fdca62c5565d2cdc12230b4254a3e95ee3428e916", func := "loop.example/satelliteclock/laws.FnExactSpanOf", spec := "fnExactSpanOf", unfollowed := true, recurses := true, apart := false }
def FnExactSpanOfSaid : Prop := fnExactSpanOfRow.holds Try.pinned (OpenSpec.ofChange fnExactSpanOfSpec)

/-- ITS FALSE NEIGHBOUR: 'it returns false'. Refute it at one input. -/
def fnExactSpanOfWrong : ChangeSpec := { name := "fnExactSpanOf", fn := fun _ => fun
  | [d] => { results := [.lit (.bool false)], args := [d] }
  | _ => none }
def FnExactSpanOfWrongFalsely : Prop := fnExactSpanOfRow.holds Try.pinned (OpenSpec.ofChange fnExactSpanOfWrong)

/-- 'laws.FnSecondDiffs': WHATEVER THE INPUT: true; the input reads as it did. -/
def fnSecondDiffsSpec : ChangeSpec := { name := "fnSecondDiffs", fn := fun _ => fun
  | [d] => { results := [.lit (.bool true)], args := [d] }
  | _ => none }
def fnSecondDiffsRow : OpenClaim := { program := "ytjjdlocdcigfbaa", sum := "2d4498a6d0a823648028c39fdca62c5565d2cdc12230b4254a3e95ee3428e916", func := "loop.example/satelliteclock/laws.FnSecondDiffs", spec := "fnSecondDiffs", unfollowed := true, recurses := true, apart := false }
def FnSecondDiffsSaid : Prop := fnSecondDiffsRow.holds Try.pinned (OpenSpec.ofChange fnSecondDiffsSpec)

/-- ITS FALSE NEIGHBOUR: 'it returns false'. Refute it at one input. -/
def fnSecondDiffsWrong : ChangeSpec := { name := "fnSecondDiffs", fn := fun _ => fun
  | [d] => { results := [.lit (.bool false)], args := [d] }
  | _ => none }
def FnSecondDiffsWrongFalsely : Prop := fnSecondDiffsRow.holds Try.pinned (OpenSpec.ofChange fnSecondDiffsWrong)

/-- 'laws.FnSecondDiffsLine': WHATEVER THE INPUT: true; the input reads as it did. -/
def fnSecondDiffsLineSpec : ChangeSpec := { name := "fnSecondDiffsLine", fn := fun _ => fun
  | [d] => { results := [.lit (.bool true)], args := [d] }
  | _ => none }
def fnSecondDiffsLineRow : OpenClaim := { program := "ytjjdlocdcigfbaa", sum := "2d4498a6d0a823648028c39fdca62c5565d2cdc12230b4254a3e95ee3428e916", func := "loop.example/satelliteclock/laws.FnSecondDiffsLine", spec := "fnSecondDiffsLine", unfollowed := true, recurses := true, apart := false }
def FnSecondDiffsLineSaid : Prop := fnSecondDiffsLineRow.holds Try.pinned (OpenSpec.ofChange fnSecondDiffsLineSpec)

/-- ITS FALSE NEIGHBOUR: 'it returns false'. Refute it at one input. -/
def fnSecondDiffsLineWrong : ChangeSpec := { name := "fnSecondDiffsLine", fn := fun _ => fun
  | [d] => { results := [.lit (.bool false)], args := [d] }
  | _ => none }
def FnSecondDiffsLineWrongFalsely : Prop := fnSecondDiffsLineRow.holds Try.pinned (OpenSpec.ofChange fnSecondDiffsLineWrong)

/-- 'laws.FnSecondDiffsTurn': WHATEVER THE INPUT: true; the input reads as it did. -/
def fnSecondDiffsTurnSpec : ChangeSpec := { name := "fnSecondDiffsTurn", fn := fun _ => fun
  | [d] => { results := [.lit (.bool true)], args := [d] }
  | _ => none }
def fnSecondDiffsTurnRow : OpenClaim := { program := "ytjjdlocdcigfbaa", sum := "2d4498a6d0a823648028c39fdca62c5565d2cdc12230b4254a3e95ee3428e916", func := "loop.example/satelliteclock/laws.FnSecondDiffsTurn", spec := "fnSecondDiffsTurn", unfollowed := true, recurses := true, apart := false }
def FnSecondDiffsTurnSaid : Prop := fnSecondDiffsTurnRow.holds Try.pinned (OpenSpec.ofChange fnSecondDiffsTurnSpec)

/-- ITS FALSE NEIGHBOUR: 'it returns false'. Refute it at one input. -/
def fnSecondDiffsTurnWrong : ChangeSpec := { name := "fnSecondDiffsTurn", fn := fun _ => fun
  | [d] => { results := [.lit (.bool false)], args := [d] }
  | _ => none }
def FnSecondDiffsTurnWrongFalsely : Prop := fnSecondDiffsTurnRow.holds Try.pinned (OpenSpec.ofChange fnSecondDiffsTurnWrong)

/-- 'laws.FnPacketRoundTrip': WHATEVER THE INPUT: true; the input reads as it did. -/
def fnPacketRoundTripSpec : ChangeSpec := { name := "fnPacketRoundTrip", fn := fun _ => fun
  | [d] => { results := [.lit (.bool true)], args := [d] }
  | _ => none }
def fnPacketRoundTripRow : OpenClaim := { program := "ytjjdlocdcigfbaa", sum := "2d4498a6d0a823648028c39fdca62c5565d2cdc12230b4254a3e95ee3428e916", func := "loop.example/satelliteclock/laws.FnPacketRoundTrip", spec := "fnPacketRoundTrip", apart := false }
def FnPacketRoundTripSaid : Prop := fnPacketRoundTripRow.holds Try.pinned (OpenSpec.ofChange fnPacketRoundTripSpec)

/-- ITS FALSE NEIGHBOUR: 'it returns false'. Refute it at one input. -/
def fnPacketRoundTripWrong : ChangeSpec := { name := "fnPacketRoundTrip", fn := fun _ => fun
  | [d] => { results := [.lit (.bool false)], args := [d] }
  | _ => none }
def FnPacketRoundTripWrongFalsely : Prop := fnPacketRoundTripRow.holds Try.pinned (OpenSpec.ofChange fnPacketRoundTripWrong)

/-- 'laws.FnTakeAnswerLate': WHATEVER THE INPUT: true; the input reads as it did. -/
def fnTakeAnswerLateSpec : ChangeSpec := { name := "fnTakeAnswerLate", fn := fun _ => fun
  | [d] => { results := [.lit (.bool true)], args := [d] }
  | _ => none }
def fnTakeAnswerLateRow : OpenClaim := { program := "ytjjdlocdcigfbaa", sum := "2d4498a6d0a823648028c39fdca62c5565d2cdc12230b4254a3e95ee3428e916", func := "loop.example/satelliteclock/laws.FnTakeAnswerLate", spec := "fnTakeAnswerLate", unfollowed := true, recurses := true, apart := false }
def FnTakeAnswerLateSaid : Prop := fnTakeAnswerLateRow.holds Try.pinned (OpenSpec.ofChange fnTakeAnswerLateSpec)

/-- ITS FALSE NEIGHBOUR: 'it returns false'. Refute it at one input. -/
def fnTakeAnswerLateWrong : ChangeSpec := { name := "fnTakeAnswerLate", fn := fun _ => fun
  | [d] => { results := [.lit (.bool false)], args := [d] }
  | _ => none }
def FnTakeAnswerLateWrongFalsely : Prop := fnTakeAnswerLateRow.holds Try.pinned (OpenSpec.ofChange fnTakeAnswerLateWrong)

/-- 'laws.FnDeviationOf': WHATEVER THE INPUT: true; the input reads as it did. -/
def fnDeviationOfSpec : ChangeSpec := { name := "fnDeviationOf", fn := fun _ => fun
  | [d] => { results := [.lit (.bool true)], args := [d] }
  | _ => none }
def fnDeviationOfRow : OpenClaim := { program := "ytjjdlocdcigfbaa", sum := "2d4498a6d0a823648028c39fdca62c5565d2cdc12230b4254a3e95ee3428e916", func := "loop.example/satelliteclock/laws.FnDeviationOf", spec := "fnDeviationOf", unfollowed := true, recurses := true, apart := false }
def FnDeviationOfSaid : Prop := fnDeviationOfRow.holds Try.pinned (OpenSpec.ofChange fnDeviationOfSpec)

/-- ITS FALSE NEIGHBOUR: 'it returns false'. Refute it at one input. -/
def fnDeviationOfWrong : ChangeSpec := { name := "fnDeviationOf", fn := fun _ => fun
  | [d] => { results := [.lit (.bool false)], args := [d] }
  | _ => none }
def FnDeviationOfWrongFalsely : Prop := fnDeviationOfRow.holds Try.pinned (OpenSpec.ofChange fnDeviationOfWrong)

/-- 'laws.FnDeviationOfMean': WHATEVER THE INPUT: true; the input reads as it did. -/
def fnDeviationOfMeanSpec : ChangeSpec := { name := "fnDeviationOfMean", fn := fun _ => fun
  | [d] => { results := [.lit (.bool true)], args := [d] }
  | _ => none }
def fnDeviationOfMeanRow : OpenClaim := { program := "ytjjdlocdcigfbaa", sum := "2d4498a6d0a823648028c39fdca62c5565d2cdc12230b4254a3e95ee3428e916", func := "loop.example/satelliteclock/laws.FnDeviationOfMean", spec := "fnDeviationOfMean", unfollowed := true, recurses := true, apart := false }
def FnDeviationOfMeanSaid : Prop := fnDeviationOfMeanRow.holds Try.pinned (OpenSpec.ofChange fnDeviationOfMeanSpec)

/-- ITS FALSE NEIGHBOUR: 'it returns false'. Refute it at one input. -/
def fnDeviationOfMeanWrong : ChangeSpec := { name := "fnDeviationOfMean", fn := fun _ => fun
  | [d] => { results := [.lit (.bool false)], args := [d] }
  | _ => none }
def FnDeviationOfMeanWrongFalsely : Prop := fnDeviationOfMeanRow.holds Try.pinned (OpenSpec.ofChange fnDeviationOfMeanWrong)

/-- 'laws.FnTakeAnswer': WHATEVER THE INPUT: true; the input reads as it did. -/
def fnTakeAnswerSpec : ChangeSpec := { name := "fnTakeAnswer", fn := fun _ => fun
  | [d] => { results := [.lit (.bool true)], args := [d] }
  | _ => none }
def fnTakeAnswerRow : OpenClaim := { program := "ytjjdlocdcigfbaa", sum := "2d4498a6d0a823648028c39fdca62c5565d2cdc12230b4254a3e95ee3428e916", func := "loop.example/satelliteclock/laws.FnTakeAnswer", spec := "fnTakeAnswer", unfollowed := true, recurses := true, apart := false }
def FnTakeAnswerSaid : Prop := fnTakeAnswerRow.holds Try.pinned (OpenSpec.ofChange fnTakeAnswerSpec)

/-- ITS FALSE NEIGHBOUR: 'it returns false'. Refute it at one input. -/
def fnTakeAnswerWrong : ChangeSpec := { name := "fnTakeAnswer", fn := fun _ => fun
  | [d] => { results := [.lit (.bool false)], args := [d] }
  | _ => none }
def FnTakeAnswerWrongFalsely : Prop := fnTakeAnswerRow.holds Try.pinned (OpenSpec.ofChange fnTakeAnswerWrong)

/-- 'laws.FnSpanOfWide': WHATEVER THE INPUT: true; the input reads as it did. -/
def fnSpanOfWideSpec : ChangeSpec := { name := "fnSpanOfWide", fn := fun _ => fun
  | [d] => { results := [.lit (.bool true)], args := [d] }
  | _ => none }
def fnSpanOfWideRow : OpenClaim := { program := "ytjjdlocdcigfbaa", sum := "2d4498a6d0a823648028c39fdca62c5565d2cdc12230b4254a3e95ee3428e916", func := "loop.example/satelliteclock/laws.FnSpanOfWide", spec := "fnSpanOfWide", unfollowed := true, recurses := true, apart := false }
def FnSpanOfWideSaid : Prop := fnSpanOfWideRow.holds Try.pinned (OpenSpec.ofChange fnSpanOfWideSpec)

/-- ITS FALSE NEIGHBOUR: 'it returns false'. Refute it at one input. -/
def fnSpanOfWideWrong : ChangeSpec := { name := "fnSpanOfWide", fn := fun _ => fun
  | [d] => { results := [.lit (.bool false)], args := [d] }
  | _ => none }
def FnSpanOfWideWrongFalsely : Prop := fnSpanOfWideRow.holds Try.pinned (OpenSpec.ofChange fnSpanOfWideWrong)

/- THE SECOND FORM. 'bulk': how many values and letters a reading holds, each counted each time it is reached (what is shared counts as often as it is met; a slice's spare places count too). A statement '..UptoSaid' is the law's where the arguments, and the package variables that the reading takes, are together of bulk at most 1048576: NARROWER than '..Said'. Prove '..Said' where nothing that the law and all that it calls make is longer than what came in: it says more and counts as full. Else prove '..UptoSaid'. A law counts once. -/
mutual
def uptoBulk {H : Type} : DataW H → Nat
  | .lit (.string bytes) => bytes.length + 1
  | .lit _ => 1
  | .nil => 1
  | .ptr d => uptoBulk d + 1
  | .slice elems spare => uptoBulkAll elems + uptoBulkAll spare + 1
  | .agg parts => uptoBulkAll parts + 1
  | .iface _ d => uptoBulk d + 1
  | .map entries => uptoBulkEntries entries + 1
  | .held _ => 1
def uptoBulkAll {H : Type} : List (DataW H) → Nat
  | [] => 0
  | d :: r => uptoBulk d + uptoBulkAll r
def uptoBulkEntries {H : Type} : List (Lit × DataW H) → Nat
  | [] => 0
  | x :: r => uptoBulkEntry x + uptoBulkEntries r
def uptoBulkEntry {H : Type} : Lit × DataW H → Nat
  | (.string bytes, d) => bytes.length + uptoBulk d + 1
  | (_, d) => uptoBulk d + 1
 end
def uptoSmall : (H : Type) → List (DataW H) → Bool := fun _ ds => decide (uptoBulkAll ds ≤ 1048576)
def OpenSpec.upto (s : _root_.Go.ChangeSpec) : _root_.Go.OpenSpec := { _root_.Go.OpenSpec.ofChange s with cond := some uptoSmall }

/-- 'laws.FnOffsetOf', WHERE WHAT IT READS IS OF BULK AT MOST 1048576: true; the input reads as it did. -/
def fnOffsetOfUptoRow : OpenClaim := { program := "ytjjdlocdcigfbaa", sum := "2d4498a6d0a823648028c39fdca62c5565d2cdc12230b4254a3e95ee3428e916", func := "loop.example/satelliteclock/laws.FnOffsetOf", spec := "fnOffsetOf", unfollowed := true, recurses := true, apart := false, narrowed := true }
def FnOffsetOfUptoSaid : Prop := fnOffsetOfUptoRow.holds Try.pinned (OpenSpec.upto fnOffsetOfSpec)

/-- 'laws.FnOffsetOfShift', WHERE WHAT IT READS IS OF BULK AT MOST 1048576: true; the input reads as it did. -/
def fnOffsetOfShiftUptoRow : OpenClaim := { program := "ytjjdlocdcigfbaa", sum := "2d4498a6d0a823648028c39fdca62c5565d2cdc12230b4254a3e95ee3428e916", func := "loop.example/satelliteclock/laws.FnOffsetOfShift", spec := "fnOffsetOfShift", unfollowed := true, recurses := true, apart := false, narrowed := true }
def FnOffsetOfShiftUptoSaid : Prop := fnOffsetOfShiftUptoRow.holds Try.pinned (OpenSpec.upto fnOffsetOfShiftSpec)

/-- 'laws.FnExactSpanOf', WHERE WHAT IT READS IS OF BULK AT MOST 1048576: true; the input reads as it did. -/
def fnExactSpanOfUptoRow : OpenClaim := { program := "ytjjdlocdcigfbaa", sum := "2d4498a6d0a823648028c39fdca62c5565d2cdc12230b4254a3e95ee3428e916", func := "loop.example/satelliteclock/laws.FnExactSpanOf", spec := "fnExactSpanOf", unfollowed := true, recurses := true, apart := false, narrowed := true }
def FnExactSpanOfUptoSaid : Prop := fnExactSpanOfUptoRow.holds Try.pinned (OpenSpec.upto fnExactSpanOfSpec)

/-- 'laws.FnSecondDiffs', WHERE WHAT IT READS IS OF BULK AT MOST 1048576: true; the input reads as it did. -/
def fnSecondDiffsUptoRow : OpenClaim := { program := "ytjjdlocdcigfbaa", sum := "2d4498a6d0a823648028c39fdca62c5565d2cdc12230b4254a3e95ee3428e916", func := "loop.example/satelliteclock/laws.FnSecondDiffs", spec := "fnSecondDiffs", unfollowed := true, recurses := true, apart := false, narrowed := true }
def FnSecondDiffsUptoSaid : Prop := fnSecondDiffsUptoRow.holds Try.pinned (OpenSpec.upto fnSecondDiffsSpec)

/-- 'laws.FnSecondDiffsLine', WHERE WHAT IT READS IS OF BULK AT MOST 1048576: true; the input reads as it did. -/
def fnSecondDiffsLineUptoRow : OpenClaim := { program := "ytjjdlocdcigfbaa", sum := "2d4498a6d0a823648028c39fdca62c5565d2cdc12230b4254a3e95ee3428e916", func := "loop.example/satelliteclock/laws.FnSecondDiffsLine", spec := "fnSecondDiffsLine", unfollowed := true, recurses := true, apart := false, narrowed := true }
def FnSecondDiffsLineUptoSaid : Prop := fnSecondDiffsLineUptoRow.holds Try.pinned (OpenSpec.upto fnSecondDiffsLineSpec)

/-- 'laws.FnSecondDiffsTurn', WHERE WHAT IT READS IS OF BULK AT MOST 1048576: true; the input reads as it did. -/
def fnSecondDiffsTurnUptoRow : OpenClaim := { program := "ytjjdlocdcigfbaa", sum := "2d4498a6d0a823648028c39fdca62c5565d2cdc12230b4254a3e95ee3428e916", func := "loop.example/satelliteclock/laws.FnSecondDiffsTurn", spec := "fnSecondDiffsTurn", unfollowed := true, recurses := true, apart := false, narrowed := true }
def FnSecondDiffsTurnUptoSaid : Prop := fnSecondDiffsTurnUptoRow.holds Try.pinned (OpenSpec.upto fnSecondDiffsTurnSpec)

/-- 'laws.FnPacketRoundTrip', WHERE WHAT IT READS IS OF BULK AT MOST 1048576: true; the input reads as it did. -/
def fnPacketRoundTripUptoRow : OpenClaim := { program := "ytjjdlocdcigfbaa", sum := "2d4498a6d0a823648028c39fdca62c5565d2cdc12230b4254a3e95ee3428e916", func := "loop.example/satelliteclock/laws.FnPacketRoundTrip", spec := "fnPacketRoundTrip", apart := false, narrowed := true }
def FnPacketRoundTripUptoSaid : Prop := fnPacketRoundTripUptoRow.holds Try.pinned (OpenSpec.upto fnPacketRoundTripSpec)

/-- 'laws.FnTakeAnswerLate', WHERE WHAT IT READS IS OF BULK AT MOST 1048576: true; the input reads as it did. -/
def fnTakeAnswerLateUptoRow : OpenClaim := { program := "ytjjdlocdcigfbaa", sum := "2d4498a6d0a823648028c39fdca62c5565d2cdc12230b4254a3e95ee3428e916", func := "loop.example/satelliteclock/laws.FnTakeAnswerLate", spec := "fnTakeAnswerLate", unfollowed := true, recurses := true, apart := false, narrowed := true }
def FnTakeAnswerLateUptoSaid : Prop := fnTakeAnswerLateUptoRow.holds Try.pinned (OpenSpec.upto fnTakeAnswerLateSpec)

/-- 'laws.FnDeviationOf', WHERE WHAT IT READS IS OF BULK AT MOST 1048576: true; the input reads as it did. -/
def fnDeviationOfUptoRow : OpenClaim := { program := "ytjjdlocdcigfbaa", sum := "2d4498a6d0a823648028c39fdca62c5565d2cdc12230b4254a3e95ee3428e916", func := "loop.example/satelliteclock/laws.FnDeviationOf", spec := "fnDeviationOf", unfollowed := true, recurses := true, apart := false, narrowed := true }
def FnDeviationOfUptoSaid : Prop := fnDeviationOfUptoRow.holds Try.pinned (OpenSpec.upto fnDeviationOfSpec)

/-- 'laws.FnDeviationOfMean', WHERE WHAT IT READS IS OF BULK AT MOST 1048576: true; the input reads as it did. -/
def fnDeviationOfMeanUptoRow : OpenClaim := { program := "ytjjdlocdcigfbaa", sum := "2d4498a6d0a823648028c39fdca62c5565d2cdc12230b4254a3e95ee3428e916", func := "loop.example/satelliteclock/laws.FnDeviationOfMean", spec := "fnDeviationOfMean", unfollowed := true, recurses := true, apart := false, narrowed := true }
def FnDeviationOfMeanUptoSaid : Prop := fnDeviationOfMeanUptoRow.holds Try.pinned (OpenSpec.upto fnDeviationOfMeanSpec)

/-- 'laws.FnTakeAnswer', WHERE WHAT IT READS IS OF BULK AT MOST 1048576: true; the input reads as it did. -/
def fnTakeAnswerUptoRow : OpenClaim := { program := "ytjjdlocdcigfbaa", sum := "2d4498a6d0a823648028c39fdca62c5565d2cdc12230b4254a3e95ee3428e916", func := "loop.example/satelliteclock/laws.FnTakeAnswer", spec := "fnTakeAnswer", unfollowed := true, recurses := true, apart := false, narrowed := true }
def FnTakeAnswerUptoSaid : Prop := fnTakeAnswerUptoRow.holds Try.pinned (OpenSpec.upto fnTakeAnswerSpec)

/-- 'laws.FnSpanOfWide', WHERE WHAT IT READS IS OF BULK AT MOST 1048576: true; the input reads as it did. -/
def fnSpanOfWideUptoRow : OpenClaim := { program := "ytjjdlocdcigfbaa", sum := "2d4498a6d0a823648028c39fdca62c5565d2cdc12230b4254a3e95ee3428e916", func := "loop.example/satelliteclock/laws.FnSpanOfWide", spec := "fnSpanOfWide", unfollowed := true, recurses := true, apart := false, narrowed := true }
def FnSpanOfWideUptoSaid : Prop := fnSpanOfWideUptoRow.holds Try.pinned (OpenSpec.upto fnSpanOfWideSpec)

end Rows
end Go.Proofs.Ytjjdlocdcigfbaa
