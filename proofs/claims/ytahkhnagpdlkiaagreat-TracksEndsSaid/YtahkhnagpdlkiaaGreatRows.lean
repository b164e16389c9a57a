/-
  No cell of these rows narrows 'for every input' (looked for: loops, veiled, ifaces, maps, wideKeys, modest, calm, conditions, laid).
  DERIVED. THE GIVEN ROWS OF THIS SEAT. 13 by the template 'for every input the law returns true; each argument reads behind the call as it read before'; 0 by the template 'total and deterministic' (their statements: YtahkhnagpdlkiaaGreatTotals.lean).
  GIVEN WITH THE SEED: the statements are not yours to turn. If you find one false, say at which input.
  Laid BY PROGRAM, IN A SANDBOX (cutbox-rows.mjs): the forced cells as the released guide's own fill.sh prints them over the translation 7f7914b673739612… (all of the seat's roots in one cut). By AI agents, Wed Nov 11 2026. No macro, syntax, notation, axiom, sorry.
-/
import Derived.Test.YtahkhnagpdlkiaaGreatChecked
import GoSem.Claim
import GoSem.ClaimJoined
import GoSem.ClaimMapViews
import Derived.JoinedTies
import Derived.KernelRfl
namespace Go.Proofs.YtahkhnagpdlkiaaGreat
/- THE CELL 'sum', in the pinned program and in every row, IS THE sha256 OF THE DUMP (.gsa) THAT YtahkhnagpdlkiaaGreatProg.lean LOADS. Nothing in Lean hashes anything: it is a label: what it is worth is what the hold of that sum in a sandbox is worth. -/
noncomputable def Tryz.pinned : Pinned := { name := "ytahkhnagpdlkiaagreat", sum := "7f7914b67373961296e38d5638b1ce959e0a3ed56c2f749bebf77e3d29a943c2", checked := Tryz.checked }
namespace Rows
def none {H : Type} : Left H := { results := [], args := [] }

/-- 'aneroidlaw04.TracksProofs': WHATEVER THE INPUT: true; the input reads as it did. -/
def tracksProofsSpec : ChangeSpec := { name := "tracksProofs", fn := fun _ => fun
  | [d1, d2] => { results := [.lit (.bool true)], args := [d1, d2] }
  | _ => none }
def tracksProofsRow : OpenClaim := { program := "ytahkhnagpdlkiaagreat", sum := "7f7914b67373961296e38d5638b1ce959e0a3ed56c2f749bebf77e3d29a943c2", func := "aneroid/aneroidlaw04.TracksProofs", spec := "tracksProofs", unfollowed := true, recurses := true, plainKeys := false, apart := false }
def TracksProofsSaid : Prop := tracksProofsRow.holds Tryz.pinned (OpenSpec.ofChange tracksProofsSpec)

/-- ITS FALSE NEIGHBOUR: 'it returns false'. Refute it at one input. -/
def tracksProofsWrong : ChangeSpec := { name := "tracksProofs", fn := fun _ => fun
  | [d1, d2] => { results := [.lit (.bool false)], args := [d1, d2] }
  | _ => none }
def TracksProofsWrongFalsely : Prop := tracksProofsRow.holds Tryz.pinned (OpenSpec.ofChange tracksProofsWrong)

/-- 'aneroidlaw04.TracksSums': WHATEVER THE INPUT: true; the input reads as it did. -/
def tracksSumsSpec : ChangeSpec := { name := "tracksSums", fn := fun _ => fun
  | [d1, d2, d3] => { results := [.lit (.bool true)], args := [d1, d2, d3] }
  | _ => none }
def tracksSumsRow : OpenClaim := { program := "ytahkhnagpdlkiaagreat", sum := "7f7914b67373961296e38d5638b1ce959e0a3ed56c2f749bebf77e3d29a943c2", func := "aneroid/aneroidlaw04.TracksSums", spec := "tracksSums", unfollowed := true, recurses := true, plainKeys := false, apart := false }
def TracksSumsSaid : Prop := tracksSumsRow.holds Tryz.pinned (OpenSpec.ofChange tracksSumsSpec)

/-- ITS FALSE NEIGHBOUR: 'it returns false'. Refute it at one input. -/
def tracksSumsWrong : ChangeSpec := { name := "tracksSums", fn := fun _ => fun
  | [d1, d2, d3] => { results := [.lit (.bool false)], args := [d1, d2, d3] }
  | _ => none }
def TracksSumsWrongFalsely : Prop := tracksSumsRow.holds Tryz.pinned (OpenSpec.ofChange tracksSumsWrong)

/-- 'aneroidlaw04.TracksSets': WHATEVER THE INPUT: true; the input reads as it did. -/
def tracksSetsSpec : ChangeSpec := { name := "tracksSets", fn := fun _ => fun
  | [d1, d2] => { results := [.lit (.bool true)], args := [d1, d2] }
  | _ => none }
def tracksSetsRow : OpenClaim := { program := "ytahkhnagpdlkiaagreat", sum := "7f7914b67373961296e38d5638b1ce959e0a3ed56c2f749bebf77e3d29a943c2", func := "aneroid/aneroidlaw04.TracksSets", spec := "tracksSets", unfollowed := true, recurses := true, plainKeys := false, apart := false }
def TracksSetsSaid : Prop := tracksSetsRow.holds Tryz.pinned (OpenSpec.ofChange tracksSetsSpec)

/-- ITS FALSE NEIGHBOUR: 'it returns false'. Refute it at one input. -/
def tracksSetsWrong : ChangeSpec := { name := "tracksSets", fn := fun _ => fun
  | [d1, d2] => { results := [.lit (.bool false)], args := [d1, d2] }
  | _ => none }
def TracksSetsWrongFalsely : Prop := tracksSetsRow.holds Tryz.pinned (OpenSpec.ofChange tracksSetsWrong)

/-- 'aneroidlaw04.TracksLess': WHATEVER THE INPUT: true; the input reads as it did. -/
def tracksLessSpec : ChangeSpec := { name := "tracksLess", fn := fun _ => fun
  | [d1, d2] => { results := [.lit (.bool true)], args := [d1, d2] }
  | _ => none }
def tracksLessRow : OpenClaim := { program := "ytahkhnagpdlkiaagreat", sum := "7f7914b67373961296e38d5638b1ce959e0a3ed56c2f749bebf77e3d29a943c2", func := "aneroid/aneroidlaw04.TracksLess", spec := "tracksLess", unfollowed := true, recurses := true, plainKeys := false, apart := false }
def TracksLessSaid : Prop := tracksLessRow.holds Tryz.pinned (OpenSpec.ofChange tracksLessSpec)

/-- ITS FALSE NEIGHBOUR: 'it returns false'. Refute it at one input. -/
def tracksLessWrong : ChangeSpec := { name := "tracksLess", fn := fun _ => fun
  | [d1, d2] => { results := [.lit (.bool false)], args := [d1, d2] }
  | _ => none }
def TracksLessWrongFalsely : Prop := tracksLessRow.holds Tryz.pinned (OpenSpec.ofChange tracksLessWrong)

/-- 'aneroidlaw04.TracksEnds': WHATEVER THE INPUT: true; the input reads as it did. -/
def tracksEndsSpec : ChangeSpec := { name := "tracksEnds", fn := fun _ => fun
  | [d1, d2, d3] => { results := [.lit (.bool true)], args := [d1, d2, d3] }
  | _ => none }
def tracksEndsRow : OpenClaim := { program := "ytahkhnagpdlkiaagreat", sum := "7f7914b67373961296e38d5638b1ce959e0a3ed56c2f749bebf77e3d29a943c2", func := "aneroid/aneroidlaw04.TracksEnds", spec := "tracksEnds", unfollowed := true, recurses := true, plainKeys := false, apart := false }
def TracksEndsSaid : Prop := tracksEndsRow.holds Tryz.pinned (OpenSpec.ofChange tracksEndsSpec)

/-- ITS FALSE NEIGHBOUR: 'it returns false'. Refute it at one input. -/
def tracksEndsWrong : ChangeSpec := { name := "tracksEnds", fn := fun _ => fun
  | [d1, d2, d3] => { results := [.lit (.bool false)], args := [d1, d2, d3] }
  | _ => none }
def TracksEndsWrongFalsely : Prop := tracksEndsRow.holds Tryz.pinned (OpenSpec.ofChange tracksEndsWrong)

/-- 'aneroidlaw04.TracksFirst': WHATEVER THE INPUT: true; the input reads as it did. -/
def tracksFirstSpec : ChangeSpec := { name := "tracksFirst", fn := fun _ => fun
  | [d1, d2] => { results := [.lit (.bool true)], args := [d1, d2] }
  | _ => none }
def tracksFirstRow : OpenClaim := { program := "ytahkhnagpdlkiaagreat", sum := "7f7914b67373961296e38d5638b1ce959e0a3ed56c2f749bebf77e3d29a943c2", func := "aneroid/aneroidlaw04.TracksFirst", spec := "tracksFirst", unfollowed := true, recurses := true, plainKeys := false, apart := false }
def TracksFirstSaid : Prop := tracksFirstRow.holds Tryz.pinned (OpenSpec.ofChange tracksFirstSpec)

/-- ITS FALSE NEIGHBOUR: 'it returns false'. Refute it at one input. -/
def tracksFirstWrong : ChangeSpec := { name := "tracksFirst", fn := fun _ => fun
  | [d1, d2] => { results := [.lit (.bool false)], args := [d1, d2] }
  | _ => none }
def TracksFirstWrongFalsely : Prop := tracksFirstRow.holds Tryz.pinned (OpenSpec.ofChange tracksFirstWrong)

/-- 'aneroidlaw04.TracksPlain': WHATEVER THE INPUT: true; the input reads as it did. -/
def tracksPlainSpec : ChangeSpec := { name := "tracksPlain", fn := fun _ => fun
  | [d1, d2, d3] => { results := [.lit (.bool true)], args := [d1, d2, d3] }
  | _ => none }
def tracksPlainRow : OpenClaim := { program := "ytahkhnagpdlkiaagreat", sum := "7f7914b67373961296e38d5638b1ce959e0a3ed56c2f749bebf77e3d29a943c2", func := "aneroid/aneroidlaw04.TracksPlain", spec := "tracksPlain", unfollowed := true, recurses := true, plainKeys := false, apart := false }
def TracksPlainSaid : Prop := tracksPlainRow.holds Tryz.pinned (OpenSpec.ofChange tracksPlainSpec)

/-- ITS FALSE NEIGHBOUR: 'it returns false'. Refute it at one input. -/
def tracksPlainWrong : ChangeSpec := { name := "tracksPlain", fn := fun _ => fun
  | [d1, d2, d3] => { results := [.lit (.bool false)], args := [d1, d2, d3] }
  | _ => none }
def TracksPlainWrongFalsely : Prop := tracksPlainRow.holds Tryz.pinned (OpenSpec.ofChange tracksPlainWrong)

/-- 'aneroidlaw04.TracksExact': WHATEVER THE INPUT: true; the input reads as it did. -/
def tracksExactSpec : ChangeSpec := { name := "tracksExact", fn := fun _ => fun
  | [d1, d2] => { results := [.lit (.bool true)], args := [d1, d2] }
  | _ => none }
def tracksExactRow : OpenClaim := { program := "ytahkhnagpdlkiaagreat", sum := "7f7914b67373961296e38d5638b1ce959e0a3ed56c2f749bebf77e3d29a943c2", func := "aneroid/aneroidlaw04.TracksExact", spec := "tracksExact", unfollowed := true, recurses := true, plainKeys := false, apart := false }
def TracksExactSaid : Prop := tracksExactRow.holds Tryz.pinned (OpenSpec.ofChange tracksExactSpec)

/-- ITS FALSE NEIGHBOUR: 'it returns false'. Refute it at one input. -/
def tracksExactWrong : ChangeSpec := { name := "tracksExact", fn := fun _ => fun
  | [d1, d2] => { results := [.lit (.bool false)], args := [d1, d2] }
  | _ => none }
def TracksExactWrongFalsely : Prop := tracksExactRow.holds Tryz.pinned (OpenSpec.ofChange tracksExactWrong)

/-- 'aneroidlaw04.TracksSound': WHATEVER THE INPUT: true; the input reads as it did. -/
def tracksSoundSpec : ChangeSpec := { name := "tracksSound", fn := fun _ => fun
  | [d1, d2] => { results := [.lit (.bool true)], args := [d1, d2] }
  | _ => none }
def tracksSoundRow : OpenClaim := { program := "ytahkhnagpdlkiaagreat", sum := "7f7914b67373961296e38d5638b1ce959e0a3ed56c2f749bebf77e3d29a943c2", func := "aneroid/aneroidlaw04.TracksSound", spec := "tracksSound", unfollowed := true, recurses := true, plainKeys := false, apart := false }
def TracksSoundSaid : Prop := tracksSoundRow.holds Tryz.pinned (OpenSpec.ofChange tracksSoundSpec)

/-- ITS FALSE NEIGHBOUR: 'it returns false'. Refute it at one input. -/
def tracksSoundWrong : ChangeSpec := { name := "tracksSound", fn := fun _ => fun
  | [d1, d2] => { results := [.lit (.bool false)], args := [d1, d2] }
  | _ => none }
def TracksSoundWrongFalsely : Prop := tracksSoundRow.holds Tryz.pinned (OpenSpec.ofChange tracksSoundWrong)

/-- 'aneroidlaw04.TracksNarrow': WHATEVER THE INPUT: true; the input reads as it did. -/
def tracksNarrowSpec : ChangeSpec := { name := "tracksNarrow", fn := fun _ => fun
  | [d1, d2] => { results := [.lit (.bool true)], args := [d1, d2] }
  | _ => none }
def tracksNarrowRow : OpenClaim := { program := "ytahkhnagpdlkiaagreat", sum := "7f7914b67373961296e38d5638b1ce959e0a3ed56c2f749bebf77e3d29a943c2", func := "aneroid/aneroidlaw04.TracksNarrow", spec := "tracksNarrow", unfollowed := true, recurses := true, plainKeys := false, apart := false }
def TracksNarrowSaid : Prop := tracksNarrowRow.holds Tryz.pinned (OpenSpec.ofChange tracksNarrowSpec)

/-- ITS FALSE NEIGHBOUR: 'it returns false'. Refute it at one input. -/
def tracksNarrowWrong : ChangeSpec := { name := "tracksNarrow", fn := fun _ => fun
  | [d1, d2] => { results := [.lit (.bool false)], args := [d1, d2] }
  | _ => none }
def TracksNarrowWrongFalsely : Prop := tracksNarrowRow.holds Tryz.pinned (OpenSpec.ofChange tracksNarrowWrong)

/-- 'aneroidlaw04.TracksExchange': WHATEVER THE INPUT: true; the input reads as it did. -/
def tracksExchangeSpec : ChangeSpec := { name := "tracksExchange", fn := fun _ => fun
  | [d1, d2] => { results := [.lit (.bool true)], args := [d1, d2] }
  | _ => none }
def tracksExchangeRow : OpenClaim := { program := "ytahkhnagpdlkiaagreat", sum := "7f7914b67373961296e38d5638b1ce959e0a3ed56c2f749bebf77e3d29a943c2", func := "aneroid/aneroidlaw04.TracksExchange", spec := "tracksExchange", unfollowed := true, recurses := true, plainKeys := false, apart := false }
def TracksExchangeSaid : Prop := tracksExchangeRow.holds Tryz.pinned (OpenSpec.ofChange tracksExchangeSpec)

/-- ITS FALSE NEIGHBOUR: 'it returns false'. Refute it at one input. -/
def tracksExchangeWrong : ChangeSpec := { name := "tracksExchange", fn := fun _ => fun
  | [d1, d2] => { results := [.lit (.bool false)], args := [d1, d2] }
  | _ => none }
def TracksExchangeWrongFalsely : Prop := tracksExchangeRow.holds Tryz.pinned (OpenSpec.ofChange tracksExchangeWrong)

/-- 'aneroidlaw04.TracksChecks': WHATEVER THE INPUT: true; the input reads as it did. -/
def tracksChecksSpec : ChangeSpec := { name := "tracksChecks", fn := fun _ => fun
  | [d1, d2, d3, d4] => { results := [.lit (.bool true)], args := [d1, d2, d3, d4] }
  | _ => none }
def tracksChecksRow : OpenClaim := { program := "ytahkhnagpdlkiaagreat", sum := "7f7914b67373961296e38d5638b1ce959e0a3ed56c2f749bebf77e3d29a943c2", func := "aneroid/aneroidlaw04.TracksChecks", spec := "tracksChecks", unfollowed := true, recurses := true, plainKeys := false, apart := false }
def TracksChecksSaid : Prop := tracksChecksRow.holds Tryz.pinned (OpenSpec.ofChange tracksChecksSpec)

/-- ITS FALSE NEIGHBOUR: 'it returns false'. Refute it at one input. -/
def tracksChecksWrong : ChangeSpec := { name := "tracksChecks", fn := fun _ => fun
  | [d1, d2, d3, d4] => { results := [.lit (.bool false)], args := [d1, d2, d3, d4] }
  | _ => none }
def TracksChecksWrongFalsely : Prop := tracksChecksRow.holds Tryz.pinned (OpenSpec.ofChange tracksChecksWrong)

/-- 'aneroidlaw04.TracksTurned': WHATEVER THE INPUT: true; the input reads as it did. -/
def tracksTurnedSpec : ChangeSpec := { name := "tracksTurned", fn := fun _ => fun
  | [d1, d2] => { results := [.lit (.bool true)], args := [d1, d2] }
  | _ => none }
def tracksTurnedRow : OpenClaim := { program := "ytahkhnagpdlkiaagreat", sum := "7f7914b67373961296e38d5638b1ce959e0a3ed56c2f749bebf77e3d29a943c2", func := "aneroid/aneroidlaw04.TracksTurned", spec := "tracksTurned", unfollowed := true, recurses := true, plainKeys := false, apart := false }
def TracksTurnedSaid : Prop := tracksTurnedRow.holds Tryz.pinned (OpenSpec.ofChange tracksTurnedSpec)

/-- ITS FALSE NEIGHBOUR: 'it returns false'. Refute it at one input. -/
def tracksTurnedWrong : ChangeSpec := { name := "tracksTurned", fn := fun _ => fun
  | [d1, d2] => { results := [.lit (.bool false)], args := [d1, d2] }
  | _ => none }
def TracksTurnedWrongFalsely : Prop := tracksTurnedRow.holds Tryz.pinned (OpenSpec.ofChange tracksTurnedWrong)

/- THE SECOND FORM. 'bulk': how many values and letters a reading holds, each counted each time it is reached (what is shared counts as often as it is met; a slice's spare places count too). A statement '..UptoSaid' is the law's where the arguments, and the package variables that the reading takes, are together of bulk at most 1048576: NARROWER than '..Said'. Prove '..Said' where nothing that the law and all that it calls make is longer than what came in: it says more and counts as full. Else prove '..UptoSaid'. A law counts once. -/
mutual
def uptoBulk {H : Type} : DataW H → Nat
  | .lit (.string bytes) => bytes.length + 1
  | .lit _ => 1
  | .nil => 1
  | .ptr d => uptoBulk d + 1
  | .slice elems spare => uptoBulkAll elems + uptoBulkAll spare + 1
  | .agg parts => uptoBulkAll parts + 1
  | .iface _ d => uptoBulk d + 1
  | .map entries => uptoBulkEntries entries + 1
  | .held _ => 1
def uptoBulkAll {H : Type} : List (DataW H) → Nat
  | [] => 0
  | d :: r => uptoBulk d + uptoBulkAll r
def uptoBulkEntries {H : Type} : List (Lit × DataW H) → Nat
  | [] => 0
  | x :: r => uptoBulkEntry x + uptoBulkEntries r
def uptoBulkEntry {H : Type} : Lit × DataW H → Nat
  | (.string bytes, d) => bytes.length + uptoBulk d + 1
  | (_, d) => uptoBulk d + 1
 end
def uptoSmall : (H : Type) → List (DataW H) → Bool := fun _ ds => decide (uptoBulkAll ds ≤ 1048576)
def OpenSpec.upto (s : _root_.Go.ChangeSpec) : _root_.Go.OpenSpec := { _root_.Go.OpenSpec.ofChange s with cond := some uptoSmall }

/-- 'aneroidlaw04.TracksProofs', WHERE WHAT IT READS IS OF BULK AT MOST 1048576: true; the input reads as it did. -/
def tracksProofsUptoRow : OpenClaim := { program := "ytahkhnagpdlkiaagreat", sum := "7f7914b67373961296e38d5638b1ce959e0a3ed56c2f749bebf77e3d29a943c2", func := "aneroid/aneroidlaw04.TracksProofs", spec := "tracksProofs", unfollowed := true, recurses := true, plainKeys := false, apart := false, narrowed := true }
def TracksProofsUptoSaid : Prop := tracksProofsUptoRow.holds Tryz.pinned (OpenSpec.upto tracksProofsSpec)

/-- 'aneroidlaw04.TracksSums', WHERE WHAT IT READS IS OF BULK AT MOST 1048576: true; the input reads as it did. -/
def tracksSumsUptoRow : OpenClaim := { program := "ytahkhnagpdlkiaagreat", sum := "7f7914b67373961296e38d5638b1ce959e0a3ed56c2f749bebf77e3d29a943c2", func := "aneroid/aneroidlaw04.TracksSums", spec := "tracksSums", unfollowed := true, recurses := true, plainKeys := false, apart := false, narrowed := true }
def TracksSumsUptoSaid : Prop := tracksSumsUptoRow.holds Tryz.pinned (OpenSpec.upto tracksSumsSpec)

/-- 'aneroidlaw04.TracksSets', WHERE WHAT IT READS IS OF BULK AT MOST 1048576: true; the input reads as it did. -/
def tracksSetsUptoRow : OpenClaim := { program := "ytahkhnagpdlkiaagreat", sum := "7f7914b67373961296e38d5638b1ce959e0a3ed56c2f749bebf77e3d29a943c2", func := "aneroid/aneroidlaw04.TracksSets", spec := "tracksSets", unfollowed := true, recurses := true, plainKeys := false, apart := false, narrowed := true }
def TracksSetsUptoSaid : Prop := tracksSetsUptoRow.holds Tryz.pinned (OpenSpec.upto tracksSetsSpec)

/-- 'aneroidlaw04.TracksLess', WHERE WHAT IT READS IS OF BULK AT MOST 1048576: true; the input reads as it did. -/
def tracksLessUptoRow : OpenClaim := { program := "ytahkhnagpdlkiaagreat", sum := "7f7914b67373961296e38d5638b1ce959e0a3ed56c2f749bebf77e3d29a943c2", func := "aneroid/aneroidlaw04.TracksLess", spec := "tracksLess", unfollowed := true, recurses := true, plainKeys := false, apart := false, narrowed := true }
def TracksLessUptoSaid : Prop := tracksLessUptoRow.holds Tryz.pinned (OpenSpec.upto tracksLessSpec)

/-- 'aneroidlaw04.TracksEnds', WHERE WHAT IT READS IS OF BULK AT MOST 1048576: true; the input reads as it did. -/
def tracksEndsUptoRow : OpenClaim := { program := "ytahkhnagpdlkiaagreat", sum := "7f7914b67373961296e38d5638b1ce959e0a3ed56c2f749bebf77e3d29a943c2", func := "aneroid/aneroidlaw04.TracksEnds", spec := "tracksEnds", unfollowed := true, recurses := true, plainKeys := false, apart := false, narrowed := true }
def TracksEndsUptoSaid : Prop := tracksEndsUptoRow.holds Tryz.pinned (OpenSpec.upto tracksEndsSpec)

/-- 'aneroidlaw04.TracksFirst', WHERE WHAT IT READS IS OF BULK AT MOST 1048576: true; the input reads as it did. -/
def tracksFirstUptoRow : OpenClaim := { program := "ytahkhnagpdlkiaagreat", sum := "7f7914b67373961296e38d5638b1ce959e0a3ed56c2f749bebf77e3d29a943c2", func := "aneroid/aneroidlaw04.TracksFirst", spec := "tracksFirst", unfollowed := true, recurses := true, plainKeys := false, apart := false, narrowed := true }
def TracksFirstUptoSaid : Prop := tracksFirstUptoRow.holds Tryz.pinned (OpenSpec.upto tracksFirstSpec)

/-- 'aneroidlaw04.TracksPlain', WHERE WHAT IT READS IS OF BULK AT MOST 1048576: true; the input reads as it did. -/
def tracksPlainUptoRow : OpenClaim := { program := "ytahkhnagpdlkiaagreat", sum := "7f7914b67373961296e38d5638b1ce959e0a3ed56c2f749bebf77e3d29a943c2", func := "aneroid/aneroidlaw04.TracksPlain", spec := "tracksPlain", unfollowed := true, recurses := true, plainKeys := false, apart := false, narrowed := true }
def TracksPlainUptoSaid : Prop := tracksPlainUptoRow.holds Tryz.pinned (OpenSpec.upto tracksPlainSpec)

/-- 'aneroidlaw04.TracksExact', WHERE WHAT IT READS IS OF BULK AT MOST 1048576: true; the input reads as it did. -/
def tracksExactUptoRow : OpenClaim := { program := "ytahkhnagpdlkiaagreat", sum := "7f7914b67373961296e38d5638b1ce959e0a3ed56c2f749bebf77e3d29a943c2", func := "aneroid/aneroidlaw04.TracksExact", spec := "tracksExact", unfollowed := true, recurses := true, plainKeys := false, apart := false, narrowed := true }
def TracksExactUptoSaid : Prop := tracksExactUptoRow.holds Tryz.pinned (OpenSpec.upto tracksExactSpec)

/-- 'aneroidlaw04.TracksSound', WHERE WHAT IT READS IS OF BULK AT MOST 1048576: true; the input reads as it did. -/
def tracksSoundUptoRow : OpenClaim := { program := "ytahkhnagpdlkiaagreat", sum := "7f7914b67373961296e38d5638b1ce959e0a3ed56c2f749bebf77e3d29a943c2", func := "aneroid/aneroidlaw04.TracksSound", spec := "tracksSound", unfollowed := true, recurses := true, plainKeys := false, apart := false, narrowed := true }
def TracksSoundUptoSaid : Prop := tracksSoundUptoRow.holds Tryz.pinned (OpenSpec.upto tracksSoundSpec)

/-- 'aneroidlaw04.TracksNarrow', WHERE WHAT IT READS IS OF BULK AT MOST 1048576: true; the input reads as it did. -/
def tracksNarrowUptoRow : OpenClaim := { program := "ytahkhnagpdlkiaagreat", sum := "7f7914b67373961296e38d5638b1ce959e0a3ed56c2f749bebf77e3d29a943c2", func := "aneroid/aneroidlaw04.TracksNarrow", spec := "tracksNarrow", unfollowed := true, recurses := true, plainKeys := false, apart := false, narrowed := true }
def TracksNarrowUptoSaid : Prop := tracksNarrowUptoRow.holds Tryz.pinned (OpenSpec.upto tracksNarrowSpec)

/-- 'aneroidlaw04.TracksExchange', WHERE WHAT IT READS IS OF BULK AT MOST 1048576: true; the input reads as it did. -/
def tracksExchangeUptoRow : OpenClaim := { program := "ytahkhnagpdlkiaagreat", sum := "7f7914b67373961296e38d5638b1ce959e0a3ed56c2f749bebf77e3d29a943c2", func := "aneroid/aneroidlaw04.TracksExchange", spec := "tracksExchange", unfollowed := true, recurses := true, plainKeys := false, apart := false, narrowed := true }
def TracksExchangeUptoSaid : Prop := tracksExchangeUptoRow.holds Tryz.pinned (OpenSpec.upto tracksExchangeSpec)

/-- 'aneroidlaw04.TracksChecks', WHERE WHAT IT READS IS OF BULK AT MOST 1048576: true; the input reads as it did. -/
def tracksChecksUptoRow : OpenClaim := { program := "ytahkhnagpdlkiaagreat", sum := "7f7914b67373961296e38d5638b1ce959e0a3ed56c2f749bebf77e3d29a943c2", func := "aneroid/aneroidlaw04.TracksChecks", spec := "tracksChecks", unfollowed := true, recurses := true, plainKeys := false, apart := false, narrowed := true }
def TracksChecksUptoSaid : Prop := tracksChecksUptoRow.holds Tryz.pinned (OpenSpec.upto tracksChecksSpec)

/-- 'aneroidlaw04.TracksTurned', WHERE WHAT IT READS IS OF BULK AT MOST 1048576: true; the input reads as it did. -/
def tracksTurnedUptoRow : OpenClaim := { program := "ytahkhnagpdlkiaagreat", sum := "7f7914b67373961296e38d5638b1ce959e0a3ed56c2f749bebf77e3d29a943c2", func := "aneroid/aneroidlaw04.TracksTurned", spec := "tracksTurned", unfollowed := true, recurses := true, plainKeys := false, apart := false, narrowed := true }
def TracksTurnedUptoSaid : Prop := tracksTurnedUptoRow.holds Tryz.pinned (OpenSpec.upto tracksTurnedSpec)

end Rows
end Go.Proofs.YtahkhnagpdlkiaaGreat
