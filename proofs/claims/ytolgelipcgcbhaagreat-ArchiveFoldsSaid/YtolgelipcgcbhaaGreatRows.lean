/-
  No cell of these rows narrows 'for every input' (looked for: loops, veiled, ifaces, maps, wideKeys, modest, calm, conditions, laid).
  DERIVED. THE GIVEN ROWS OF THIS SEAT. 15 by the template 'for every input the law returns true; each argument reads behind the call as it read before'; 0 by the template 'total and deterministic' (their statements: YtolgelipcgcbhaaGreatTotals.lean).
  GIVEN WITH THE SEED: the statements are not yours to turn. If you find one false, say at which input.
  Laid BY PROGRAM, IN A SANDBOX (cutbox-rows.mjs): the forced cells as the released guide's own fill.sh prints them over the translation f698a4c125791d3a… (all of the seat's roots in one cut). By AI agents, Wed Nov 11 2026. No macro, syntax, notation, axiom, sorry.
-/
import Derived.Test.YtolgelipcgcbhaaGreatChecked
import GoSem.Claim
import GoSem.ClaimJoined
import GoSem.ClaimMapViews
import Derived.JoinedTies
import Derived.KernelRfl
namespace Go.Proofs.YtolgelipcgcbhaaGreat
/- THE CELL 'sum', in the pinned program and in every row, IS THE sha256 OF THE DUMP (.gsa) THAT YtolgelipcgcbhaaGreatProg.lean LOADS. Nothing in Lean hashes anything: it is a label: what it is worth is what the hold of that sum in a sandbox is worth. -/
noncomputable def Tryz.pinned : Pinned := { name := "ytolgelipcgcbhaagreat", sum := "f698a4c125791d3ae443a1195b8a31a231b8a6539a79ed5f6e10a8f9873de6a8", checked := Tryz.checked }
namespace Rows
def none {H : Type} : Left H := { results := [], args := [] }

/-- 'aneroidlaw06.ArchiveFolds': WHATEVER THE INPUT: true; the input reads as it did. -/
def archiveFoldsSpec : ChangeSpec := { name := "archiveFolds", fn := fun _ => fun
  | [d1, d2, d3, d4, d5] => { results := [.lit (.bool true)], args := [d1, d2, d3, d4, d5] }
  | _ => none }
def archiveFoldsRow : OpenClaim := { program := "ytolgelipcgcbhaagreat", sum := "f698a4c125791d3ae443a1195b8a31a231b8a6539a79ed5f6e10a8f9873de6a8", func := "aneroid/aneroidlaw06.ArchiveFolds", spec := "archiveFolds", inPlace := ["slices.overlaps[aneroid/api.Height]"], unfollowed := true, recurses := true, plainKeys := false, apart := false }
def ArchiveFoldsSaid : Prop := archiveFoldsRow.holds Tryz.pinned (OpenSpec.ofChange archiveFoldsSpec)

/-- ITS FALSE NEIGHBOUR: 'it returns false'. Refute it at one input. -/
def archiveFoldsWrong : ChangeSpec := { name := "archiveFolds", fn := fun _ => fun
  | [d1, d2, d3, d4, d5] => { results := [.lit (.bool false)], args := [d1, d2, d3, d4, d5] }
  | _ => none }
def ArchiveFoldsWrongFalsely : Prop := archiveFoldsRow.holds Tryz.pinned (OpenSpec.ofChange archiveFoldsWrong)

/-- 'aneroidlaw06.ArchiveKnown': WHATEVER THE INPUT: true; the input reads as it did. -/
def archiveKnownSpec : ChangeSpec := { name := "archiveKnown", fn := fun _ => fun
  | [d1, d2, d3, d4] => { results := [.lit (.bool true)], args := [d1, d2, d3, d4] }
  | _ => none }
def archiveKnownRow : OpenClaim := { program := "ytolgelipcgcbhaagreat", sum := "f698a4c125791d3ae443a1195b8a31a231b8a6539a79ed5f6e10a8f9873de6a8", func := "aneroid/aneroidlaw06.ArchiveKnown", spec := "archiveKnown", inPlace := ["slices.overlaps[aneroid/api.Height]"], unfollowed := true, recurses := true, plainKeys := false, apart := false }
def ArchiveKnownSaid : Prop := archiveKnownRow.holds Tryz.pinned (OpenSpec.ofChange archiveKnownSpec)

/-- ITS FALSE NEIGHBOUR: 'it returns false'. Refute it at one input. -/
def archiveKnownWrong : ChangeSpec := { name := "archiveKnown", fn := fun _ => fun
  | [d1, d2, d3, d4] => { results := [.lit (.bool false)], args := [d1, d2, d3, d4] }
  | _ => none }
def ArchiveKnownWrongFalsely : Prop := archiveKnownRow.holds Tryz.pinned (OpenSpec.ofChange archiveKnownWrong)

/-- 'aneroidlaw06.ArchiveChains': WHATEVER THE INPUT: true; the input reads as it did. -/
def archiveChainsSpec : ChangeSpec := { name := "archiveChains", fn := fun _ => fun
  | [d1, d2] => { results := [.lit (.bool true)], args := [d1, d2] }
  | _ => none }
def archiveChainsRow : OpenClaim := { program := "ytolgelipcgcbhaagreat", sum := "f698a4c125791d3ae443a1195b8a31a231b8a6539a79ed5f6e10a8f9873de6a8", func := "aneroid/aneroidlaw06.ArchiveChains", spec := "archiveChains", inPlace := ["slices.overlaps[aneroid/api.Height]"], unfollowed := true, recurses := true, plainKeys := false, apart := false }
def ArchiveChainsSaid : Prop := archiveChainsRow.holds Tryz.pinned (OpenSpec.ofChange archiveChainsSpec)

/-- ITS FALSE NEIGHBOUR: 'it returns false'. Refute it at one input. -/
def archiveChainsWrong : ChangeSpec := { name := "archiveChains", fn := fun _ => fun
  | [d1, d2] => { results := [.lit (.bool false)], args := [d1, d2] }
  | _ => none }
def ArchiveChainsWrongFalsely : Prop := archiveChainsRow.holds Tryz.pinned (OpenSpec.ofChange archiveChainsWrong)

/-- 'aneroidlaw06.ArchiveWithdrawn': WHATEVER THE INPUT: true; the input reads as it did. -/
def archiveWithdrawnSpec : ChangeSpec := { name := "archiveWithdrawn", fn := fun _ => fun
  | [d1, d2, d3] => { results := [.lit (.bool true)], args := [d1, d2, d3] }
  | _ => none }
def archiveWithdrawnRow : OpenClaim := { program := "ytolgelipcgcbhaagreat", sum := "f698a4c125791d3ae443a1195b8a31a231b8a6539a79ed5f6e10a8f9873de6a8", func := "aneroid/aneroidlaw06.ArchiveWithdrawn", spec := "archiveWithdrawn", inPlace := ["slices.overlaps[aneroid/api.Height]"], unfollowed := true, recurses := true, plainKeys := false, apart := false }
def ArchiveWithdrawnSaid : Prop := archiveWithdrawnRow.holds Tryz.pinned (OpenSpec.ofChange archiveWithdrawnSpec)

/-- ITS FALSE NEIGHBOUR: 'it returns false'. Refute it at one input. -/
def archiveWithdrawnWrong : ChangeSpec := { name := "archiveWithdrawn", fn := fun _ => fun
  | [d1, d2, d3] => { results := [.lit (.bool false)], args := [d1, d2, d3] }
  | _ => none }
def ArchiveWithdrawnWrongFalsely : Prop := archiveWithdrawnRow.holds Tryz.pinned (OpenSpec.ofChange archiveWithdrawnWrong)

/-- 'aneroidlaw06.ArchiveSecond': WHATEVER THE INPUT: true; the input reads as it did. -/
def archiveSecondSpec : ChangeSpec := { name := "archiveSecond", fn := fun _ => fun
  | [d1, d2, d3, d4] => { results := [.lit (.bool true)], args := [d1, d2, d3, d4] }
  | _ => none }
def archiveSecondRow : OpenClaim := { program := "ytolgelipcgcbhaagreat", sum := "f698a4c125791d3ae443a1195b8a31a231b8a6539a79ed5f6e10a8f9873de6a8", func := "aneroid/aneroidlaw06.ArchiveSecond", spec := "archiveSecond", inPlace := ["slices.overlaps[aneroid/api.Height]"], unfollowed := true, recurses := true, plainKeys := false, apart := false }
def ArchiveSecondSaid : Prop := archiveSecondRow.holds Tryz.pinned (OpenSpec.ofChange archiveSecondSpec)

/-- ITS FALSE NEIGHBOUR: 'it returns false'. Refute it at one input. -/
def archiveSecondWrong : ChangeSpec := { name := "archiveSecond", fn := fun _ => fun
  | [d1, d2, d3, d4] => { results := [.lit (.bool false)], args := [d1, d2, d3, d4] }
  | _ => none }
def ArchiveSecondWrongFalsely : Prop := archiveSecondRow.holds Tryz.pinned (OpenSpec.ofChange archiveSecondWrong)

/-- 'aneroidlaw06.ArchiveWeeks': WHATEVER THE INPUT: true; the input reads as it did. -/
def archiveWeeksSpec : ChangeSpec := { name := "archiveWeeks", fn := fun _ => fun
  | [d1, d2] => { results := [.lit (.bool true)], args := [d1, d2] }
  | _ => none }
def archiveWeeksRow : OpenClaim := { program := "ytolgelipcgcbhaagreat", sum := "f698a4c125791d3ae443a1195b8a31a231b8a6539a79ed5f6e10a8f9873de6a8", func := "aneroid/aneroidlaw06.ArchiveWeeks", spec := "archiveWeeks", inPlace := ["slices.overlaps[aneroid/api.Height]"], unfollowed := true, recurses := true, plainKeys := false, apart := false }
def ArchiveWeeksSaid : Prop := archiveWeeksRow.holds Tryz.pinned (OpenSpec.ofChange archiveWeeksSpec)

/-- ITS FALSE NEIGHBOUR: 'it returns false'. Refute it at one input. -/
def archiveWeeksWrong : ChangeSpec := { name := "archiveWeeks", fn := fun _ => fun
  | [d1, d2] => { results := [.lit (.bool false)], args := [d1, d2] }
  | _ => none }
def ArchiveWeeksWrongFalsely : Prop := archiveWeeksRow.holds Tryz.pinned (OpenSpec.ofChange archiveWeeksWrong)

/-- 'aneroidlaw06.ArchiveFurther': WHATEVER THE INPUT: true; the input reads as it did. -/
def archiveFurtherSpec : ChangeSpec := { name := "archiveFurther", fn := fun _ => fun
  | [d1, d2, d3, d4, d5] => { results := [.lit (.bool true)], args := [d1, d2, d3, d4, d5] }
  | _ => none }
def archiveFurtherRow : OpenClaim := { program := "ytolgelipcgcbhaagreat", sum := "f698a4c125791d3ae443a1195b8a31a231b8a6539a79ed5f6e10a8f9873de6a8", func := "aneroid/aneroidlaw06.ArchiveFurther", spec := "archiveFurther", inPlace := ["slices.overlaps[aneroid/api.Height]"], unfollowed := true, recurses := true, plainKeys := false, apart := false }
def ArchiveFurtherSaid : Prop := archiveFurtherRow.holds Tryz.pinned (OpenSpec.ofChange archiveFurtherSpec)

/-- ITS FALSE NEIGHBOUR: 'it returns false'. Refute it at one input. -/
def archiveFurtherWrong : ChangeSpec := { name := "archiveFurther", fn := fun _ => fun
  | [d1, d2, d3, d4, d5] => { results := [.lit (.bool false)], args := [d1, d2, d3, d4, d5] }
  | _ => none }
def ArchiveFurtherWrongFalsely : Prop := archiveFurtherRow.holds Tryz.pinned (OpenSpec.ofChange archiveFurtherWrong)

/-- 'aneroidlaw06.ArchiveMoved': WHATEVER THE INPUT: true; the input reads as it did. -/
def archiveMovedSpec : ChangeSpec := { name := "archiveMoved", fn := fun _ => fun
  | [d1, d2, d3, d4, d5] => { results := [.lit (.bool true)], args := [d1, d2, d3, d4, d5] }
  | _ => none }
def archiveMovedRow : OpenClaim := { program := "ytolgelipcgcbhaagreat", sum := "f698a4c125791d3ae443a1195b8a31a231b8a6539a79ed5f6e10a8f9873de6a8", func := "aneroid/aneroidlaw06.ArchiveMoved", spec := "archiveMoved", inPlace := ["slices.overlaps[aneroid/api.Height]"], unfollowed := true, recurses := true, plainKeys := false, apart := false }
def ArchiveMovedSaid : Prop := archiveMovedRow.holds Tryz.pinned (OpenSpec.ofChange archiveMovedSpec)

/-- ITS FALSE NEIGHBOUR: 'it returns false'. Refute it at one input. -/
def archiveMovedWrong : ChangeSpec := { name := "archiveMoved", fn := fun _ => fun
  | [d1, d2, d3, d4, d5] => { results := [.lit (.bool false)], args := [d1, d2, d3, d4, d5] }
  | _ => none }
def ArchiveMovedWrongFalsely : Prop := archiveMovedRow.holds Tryz.pinned (OpenSpec.ofChange archiveMovedWrong)

/-- 'aneroidlaw06.ArchiveChecks': WHATEVER THE INPUT: true; the input reads as it did. -/
def archiveChecksSpec : ChangeSpec := { name := "archiveChecks", fn := fun _ => fun
  | [d1, d2, d3, d4] => { results := [.lit (.bool true)], args := [d1, d2, d3, d4] }
  | _ => none }
def archiveChecksRow : OpenClaim := { program := "ytolgelipcgcbhaagreat", sum := "f698a4c125791d3ae443a1195b8a31a231b8a6539a79ed5f6e10a8f9873de6a8", func := "aneroid/aneroidlaw06.ArchiveChecks", spec := "archiveChecks", inPlace := ["slices.overlaps[aneroid/api.Height]"], unfollowed := true, recurses := true, plainKeys := false, apart := false }
def ArchiveChecksSaid : Prop := archiveChecksRow.holds Tryz.pinned (OpenSpec.ofChange archiveChecksSpec)

/-- ITS FALSE NEIGHBOUR: 'it returns false'. Refute it at one input. -/
def archiveChecksWrong : ChangeSpec := { name := "archiveChecks", fn := fun _ => fun
  | [d1, d2, d3, d4] => { results := [.lit (.bool false)], args := [d1, d2, d3, d4] }
  | _ => none }
def ArchiveChecksWrongFalsely : Prop := archiveChecksRow.holds Tryz.pinned (OpenSpec.ofChange archiveChecksWrong)

/-- 'aneroidlaw06.ArchiveOrder': WHATEVER THE INPUT: true; the input reads as it did. -/
def archiveOrderSpec : ChangeSpec := { name := "archiveOrder", fn := fun _ => fun
  | [d1, d2, d3] => { results := [.lit (.bool true)], args := [d1, d2, d3] }
  | _ => none }
def archiveOrderRow : OpenClaim := { program := "ytolgelipcgcbhaagreat", sum := "f698a4c125791d3ae443a1195b8a31a231b8a6539a79ed5f6e10a8f9873de6a8", func := "aneroid/aneroidlaw06.ArchiveOrder", spec := "archiveOrder", inPlace := ["slices.overlaps[aneroid/api.Height]"], unfollowed := true, recurses := true, plainKeys := false, apart := false }
def ArchiveOrderSaid : Prop := archiveOrderRow.holds Tryz.pinned (OpenSpec.ofChange archiveOrderSpec)

/-- ITS FALSE NEIGHBOUR: 'it returns false'. Refute it at one input. -/
def archiveOrderWrong : ChangeSpec := { name := "archiveOrder", fn := fun _ => fun
  | [d1, d2, d3] => { results := [.lit (.bool false)], args := [d1, d2, d3] }
  | _ => none }
def ArchiveOrderWrongFalsely : Prop := archiveOrderRow.holds Tryz.pinned (OpenSpec.ofChange archiveOrderWrong)

/-- 'aneroidlaw06.ArchiveOne': WHATEVER THE INPUT: true; the input reads as it did. -/
def archiveOneSpec : ChangeSpec := { name := "archiveOne", fn := fun _ => fun
  | [d1, d2] => { results := [.lit (.bool true)], args := [d1, d2] }
  | _ => none }
def archiveOneRow : OpenClaim := { program := "ytolgelipcgcbhaagreat", sum := "f698a4c125791d3ae443a1195b8a31a231b8a6539a79ed5f6e10a8f9873de6a8", func := "aneroid/aneroidlaw06.ArchiveOne", spec := "archiveOne", inPlace := ["slices.overlaps[aneroid/api.Height]"], unfollowed := true, recurses := true, plainKeys := false, apart := false }
def ArchiveOneSaid : Prop := archiveOneRow.holds Tryz.pinned (OpenSpec.ofChange archiveOneSpec)

/-- ITS FALSE NEIGHBOUR: 'it returns false'. Refute it at one input. -/
def archiveOneWrong : ChangeSpec := { name := "archiveOne", fn := fun _ => fun
  | [d1, d2] => { results := [.lit (.bool false)], args := [d1, d2] }
  | _ => none }
def ArchiveOneWrongFalsely : Prop := archiveOneRow.holds Tryz.pinned (OpenSpec.ofChange archiveOneWrong)

/-- 'aneroidlaw06.ArchiveStations': WHATEVER THE INPUT: true; the input reads as it did. -/
def archiveStationsSpec : ChangeSpec := { name := "archiveStations", fn := fun _ => fun
  | [d1, d2] => { results := [.lit (.bool true)], args := [d1, d2] }
  | _ => none }
def archiveStationsRow : OpenClaim := { program := "ytolgelipcgcbhaagreat", sum := "f698a4c125791d3ae443a1195b8a31a231b8a6539a79ed5f6e10a8f9873de6a8", func := "aneroid/aneroidlaw06.ArchiveStations", spec := "archiveStations", inPlace := ["slices.overlaps[aneroid/api.Height]"], unfollowed := true, recurses := true, plainKeys := false, apart := false }
def ArchiveStationsSaid : Prop := archiveStationsRow.holds Tryz.pinned (OpenSpec.ofChange archiveStationsSpec)

/-- ITS FALSE NEIGHBOUR: 'it returns false'. Refute it at one input. -/
def archiveStationsWrong : ChangeSpec := { name := "archiveStations", fn := fun _ => fun
  | [d1, d2] => { results := [.lit (.bool false)], args := [d1, d2] }
  | _ => none }
def ArchiveStationsWrongFalsely : Prop := archiveStationsRow.holds Tryz.pinned (OpenSpec.ofChange archiveStationsWrong)

/-- 'aneroidlaw06.ArchiveReads': WHATEVER THE INPUT: true; the input reads as it did. -/
def archiveReadsSpec : ChangeSpec := { name := "archiveReads", fn := fun _ => fun
  | [d1, d2, d3, d4, d5] => { results := [.lit (.bool true)], args := [d1, d2, d3, d4, d5] }
  | _ => none }
def archiveReadsRow : OpenClaim := { program := "ytolgelipcgcbhaagreat", sum := "f698a4c125791d3ae443a1195b8a31a231b8a6539a79ed5f6e10a8f9873de6a8", func := "aneroid/aneroidlaw06.ArchiveReads", spec := "archiveReads", inPlace := ["slices.overlaps[aneroid/api.Height]"], unfollowed := true, recurses := true, plainKeys := false, apart := false }
def ArchiveReadsSaid : Prop := archiveReadsRow.holds Tryz.pinned (OpenSpec.ofChange archiveReadsSpec)

/-- ITS FALSE NEIGHBOUR: 'it returns false'. Refute it at one input. -/
def archiveReadsWrong : ChangeSpec := { name := "archiveReads", fn := fun _ => fun
  | [d1, d2, d3, d4, d5] => { results := [.lit (.bool false)], args := [d1, d2, d3, d4, d5] }
  | _ => none }
def ArchiveReadsWrongFalsely : Prop := archiveReadsRow.holds Tryz.pinned (OpenSpec.ofChange archiveReadsWrong)

/-- 'aneroidlaw06.ArchiveUnion': WHATEVER THE INPUT: true; the input reads as it did. -/
def archiveUnionSpec : ChangeSpec := { name := "archiveUnion", fn := fun _ => fun
  | [d1, d2, d3, d4] => { results := [.lit (.bool true)], args := [d1, d2, d3, d4] }
  | _ => none }
def archiveUnionRow : OpenClaim := { program := "ytolgelipcgcbhaagreat", sum := "f698a4c125791d3ae443a1195b8a31a231b8a6539a79ed5f6e10a8f9873de6a8", func := "aneroid/aneroidlaw06.ArchiveUnion", spec := "archiveUnion", inPlace := ["slices.overlaps[aneroid/api.Height]"], unfollowed := true, recurses := true, plainKeys := false, apart := false }
def ArchiveUnionSaid : Prop := archiveUnionRow.holds Tryz.pinned (OpenSpec.ofChange archiveUnionSpec)

/-- ITS FALSE NEIGHBOUR: 'it returns false'. Refute it at one input. -/
def archiveUnionWrong : ChangeSpec := { name := "archiveUnion", fn := fun _ => fun
  | [d1, d2, d3, d4] => { results := [.lit (.bool false)], args := [d1, d2, d3, d4] }
  | _ => none }
def ArchiveUnionWrongFalsely : Prop := archiveUnionRow.holds Tryz.pinned (OpenSpec.ofChange archiveUnionWrong)

/-- 'aneroidlaw06.ArchiveSets': WHATEVER THE INPUT: true; the input reads as it did. -/
def archiveSetsSpec : ChangeSpec := { name := "archiveSets", fn := fun _ => fun
  | [d1, d2, d3] => { results := [.lit (.bool true)], args := [d1, d2, d3] }
  | _ => none }
def archiveSetsRow : OpenClaim := { program := "ytolgelipcgcbhaagreat", sum := "f698a4c125791d3ae443a1195b8a31a231b8a6539a79ed5f6e10a8f9873de6a8", func := "aneroid/aneroidlaw06.ArchiveSets", spec := "archiveSets", inPlace := ["slices.overlaps[aneroid/api.Height]"], unfollowed := true, recurses := true, plainKeys := false, apart := false }
def ArchiveSetsSaid : Prop := archiveSetsRow.holds Tryz.pinned (OpenSpec.ofChange archiveSetsSpec)

/-- ITS FALSE NEIGHBOUR: 'it returns false'. Refute it at one input. -/
def archiveSetsWrong : ChangeSpec := { name := "archiveSets", fn := fun _ => fun
  | [d1, d2, d3] => { results := [.lit (.bool false)], args := [d1, d2, d3] }
  | _ => none }
def ArchiveSetsWrongFalsely : Prop := archiveSetsRow.holds Tryz.pinned (OpenSpec.ofChange archiveSetsWrong)

/- THE SECOND FORM. 'bulk': how many values and letters a reading holds, each counted each time it is reached (what is shared counts as often as it is met; a slice's spare places count too). A statement '..UptoSaid' is the law's where the arguments, and the package variables that the reading takes, are together of bulk at most 1048576: NARROWER than '..Said'. Prove '..Said' where nothing that the law and all that it calls make is longer than what came in: it says more and counts as full. Else prove '..UptoSaid'. A law counts once. -/
mutual
def uptoBulk {H : Type} : DataW H → Nat
  | .lit (.string bytes) => bytes.length + 1
  | .lit _ => 1
  | .nil => 1
  | .ptr d => uptoBulk d + 1
  | .slice elems spare => uptoBulkAll elems + uptoBulkAll spare + 1
  | .agg parts => uptoBulkAll parts + 1
  | .iface _ d => uptoBulk d + 1
  | .map entries => uptoBulkEntries entries + 1
  | .held _ => 1
def uptoBulkAll {H : Type} : List (DataW H) → Nat
  | [] => 0
  | d :: r => uptoBulk d + uptoBulkAll r
def uptoBulkEntries {H : Type} : List (Lit × DataW H) → Nat
  | [] => 0
  | x :: r => uptoBulkEntry x + uptoBulkEntries r
def uptoBulkEntry {H : Type} : Lit × DataW H → Nat
  | (.string bytes, d) => bytes.length + uptoBulk d + 1
  | (_, d) => uptoBulk d + 1
 end
def uptoSmall : (H : Type) → List (DataW H) → Bool := fun _ ds => decide (uptoBulkAll ds ≤ 1048576)
def OpenSpec.upto (s : _root_.Go.ChangeSpec) : _root_.Go.OpenSpec := { _root_.Go.OpenSpec.ofChange s with cond := some uptoSmall }

/-- 'aneroidlaw06.ArchiveFolds', WHERE WHAT IT READS IS OF BULK AT MOST 1048576: true; the input reads as it did. -/
def archiveFoldsUptoRow : OpenClaim := { program := "ytolgelipcgcbhaagreat", sum := "f698a4c125791d3ae443a1195b8a31a231b8a6539a79ed5f6e10a8f9873de6a8", func := "aneroid/aneroidlaw06.ArchiveFolds", spec := "archiveFolds", inPlace := ["slices.overlaps[aneroid/api.Height]"], unfollowed := true, recurses := true, plainKeys := false, apart := false, narrowed := true }
def ArchiveFoldsUptoSaid : Prop := archiveFoldsUptoRow.holds Tryz.pinned (OpenSpec.upto archiveFoldsSpec)

/-- 'aneroidlaw06.ArchiveKnown', WHERE WHAT IT READS IS OF BULK AT MOST 1048576: true; the input reads as it did. -/
def archiveKnownUptoRow : OpenClaim := { program := "ytolgelipcgcbhaagreat", sum := "f698a4c125791d3ae443a1195b8a31a231b8a6539a79ed5f6e10a8f9873de6a8", func := "aneroid/aneroidlaw06.ArchiveKnown", spec := "archiveKnown", inPlace := ["slices.overlaps[aneroid/api.Height]"], unfollowed := true, recurses := true, plainKeys := false, apart := false, narrowed := true }
def ArchiveKnownUptoSaid : Prop := archiveKnownUptoRow.holds Tryz.pinned (OpenSpec.upto archiveKnownSpec)

/-- 'aneroidlaw06.ArchiveChains', WHERE WHAT IT READS IS OF BULK AT MOST 1048576: true; the input reads as it did. -/
def archiveChainsUptoRow : OpenClaim := { program := "ytolgelipcgcbhaagreat", sum := "f698a4c125791d3ae443a1195b8a31a231b8a6539a79ed5f6e10a8f9873de6a8", func := "aneroid/aneroidlaw06.ArchiveChains", spec := "archiveChains", inPlace := ["slices.overlaps[aneroid/api.Height]"], unfollowed := true, recurses := true, plainKeys := false, apart := false, narrowed := true }
def ArchiveChainsUptoSaid : Prop := archiveChainsUptoRow.holds Tryz.pinned (OpenSpec.upto archiveChainsSpec)

/-- 'aneroidlaw06.ArchiveWithdrawn', WHERE WHAT IT READS IS OF BULK AT MOST 1048576: true; the input reads as it did. -/
def archiveWithdrawnUptoRow : OpenClaim := { program := "ytolgelipcgcbhaagreat", sum := "f698a4c125791d3ae443a1195b8a31a231b8a6539a79ed5f6e10a8f9873de6a8", func := "aneroid/aneroidlaw06.ArchiveWithdrawn", spec := "archiveWithdrawn", inPlace := ["slices.overlaps[aneroid/api.Height]"], unfollowed := true, recurses := true, plainKeys := false, apart := false, narrowed := true }
def ArchiveWithdrawnUptoSaid : Prop := archiveWithdrawnUptoRow.holds Tryz.pinned (OpenSpec.upto archiveWithdrawnSpec)

/-- 'aneroidlaw06.ArchiveSecond', WHERE WHAT IT READS IS OF BULK AT MOST 1048576: true; the input reads as it did. -/
def archiveSecondUptoRow : OpenClaim := { program := "ytolgelipcgcbhaagreat", sum := "f698a4c125791d3ae443a1195b8a31a231b8a6539a79ed5f6e10a8f9873de6a8", func := "aneroid/aneroidlaw06.ArchiveSecond", spec := "archiveSecond", inPlace := ["slices.overlaps[aneroid/api.Height]"], unfollowed := true, recurses := true, plainKeys := false, apart := false, narrowed := true }
def ArchiveSecondUptoSaid : Prop := archiveSecondUptoRow.holds Tryz.pinned (OpenSpec.upto archiveSecondSpec)

/-- 'aneroidlaw06.ArchiveWeeks', WHERE WHAT IT READS IS OF BULK AT MOST 1048576: true; the input reads as it did. -/
def archiveWeeksUptoRow : OpenClaim := { program := "ytolgelipcgcbhaagreat", sum := "f698a4c125791d3ae443a1195b8a31a231b8a6539a79ed5f6e10a8f9873de6a8", func := "aneroid/aneroidlaw06.ArchiveWeeks", spec := "archiveWeeks", inPlace := ["slices.overlaps[aneroid/api.Height]"], unfollowed := true, recurses := true, plainKeys := false, apart := false, narrowed := true }
def ArchiveWeeksUptoSaid : Prop := archiveWeeksUptoRow.holds Tryz.pinned (OpenSpec.upto archiveWeeksSpec)

/-- 'aneroidlaw06.ArchiveFurther', WHERE WHAT IT READS IS OF BULK AT MOST 1048576: true; the input reads as it did. -/
def archiveFurtherUptoRow : OpenClaim := { program := "ytolgelipcgcbhaagreat", sum := "f698a4c125791d3ae443a1195b8a31a231b8a6539a79ed5f6e10a8f9873de6a8", func := "aneroid/aneroidlaw06.ArchiveFurther", spec := "archiveFurther", inPlace := ["slices.overlaps[aneroid/api.Height]"], unfollowed := true, recurses := true, plainKeys := false, apart := false, narrowed := true }
def ArchiveFurtherUptoSaid : Prop := archiveFurtherUptoRow.holds Tryz.pinned (OpenSpec.upto archiveFurtherSpec)

/-- 'aneroidlaw06.ArchiveMoved', WHERE WHAT IT READS IS OF BULK AT MOST 1048576: true; the input reads as it did. -/
def archiveMovedUptoRow : OpenClaim := { program := "ytolgelipcgcbhaagreat", sum := "f698a4c125791d3ae443a1195b8a31a231b8a6539a79ed5f6e10a8f9873de6a8", func := "aneroid/aneroidlaw06.ArchiveMoved", spec := "archiveMoved", inPlace := ["slices.overlaps[aneroid/api.Height]"], unfollowed := true, recurses := true, plainKeys := false, apart := false, narrowed := true }
def ArchiveMovedUptoSaid : Prop := archiveMovedUptoRow.holds Tryz.pinned (OpenSpec.upto archiveMovedSpec)

/-- 'aneroidlaw06.ArchiveChecks', WHERE WHAT IT READS IS OF BULK AT MOST 1048576: true; the input reads as it did. -/
def archiveChecksUptoRow : OpenClaim := { program := "ytolgelipcgcbhaagreat", sum := "f698a4c125791d3ae443a1195b8a31a231b8a6539a79ed5f6e10a8f9873de6a8", func := "aneroid/aneroidlaw06.ArchiveChecks", spec := "archiveChecks", inPlace := ["slices.overlaps[aneroid/api.Height]"], unfollowed := true, recurses := true, plainKeys := false, apart := false, narrowed := true }
def ArchiveChecksUptoSaid : Prop := archiveChecksUptoRow.holds Tryz.pinned (OpenSpec.upto archiveChecksSpec)

/-- 'aneroidlaw06.ArchiveOrder', WHERE WHAT IT READS IS OF BULK AT MOST 1048576: true; the input reads as it did. -/
def archiveOrderUptoRow : OpenClaim := { program := "ytolgelipcgcbhaagreat", sum := "f698a4c125791d3ae443a1195b8a31a231b8a6539a79ed5f6e10a8f9873de6a8", func := "aneroid/aneroidlaw06.ArchiveOrder", spec := "archiveOrder", inPlace := ["slices.overlaps[aneroid/api.Height]"], unfollowed := true, recurses := true, plainKeys := false, apart := false, narrowed := true }
def ArchiveOrderUptoSaid : Prop := archiveOrderUptoRow.holds Tryz.pinned (OpenSpec.upto archiveOrderSpec)

/-- 'aneroidlaw06.ArchiveOne', WHERE WHAT IT READS IS OF BULK AT MOST 1048576: true; the input reads as it did. -/
def archiveOneUptoRow : OpenClaim := { program := "ytolgelipcgcbhaagreat", sum := "f698a4c125791d3ae443a1195b8a31a231b8a6539a79ed5f6e10a8f9873de6a8", func := "aneroid/aneroidlaw06.ArchiveOne", spec := "archiveOne", inPlace := ["slices.overlaps[aneroid/api.Height]"], unfollowed := true, recurses := true, plainKeys := false, apart := false, narrowed := true }
def ArchiveOneUptoSaid : Prop := archiveOneUptoRow.holds Tryz.pinned (OpenSpec.upto archiveOneSpec)

/-- 'aneroidlaw06.ArchiveStations', WHERE WHAT IT READS IS OF BULK AT MOST 1048576: true; the input reads as it did. -/
def archiveStationsUptoRow : OpenClaim := { program := "ytolgelipcgcbhaagreat", sum := "f698a4c125791d3ae443a1195b8a31a231b8a6539a79ed5f6e10a8f9873de6a8", func := "aneroid/aneroidlaw06.ArchiveStations", spec := "archiveStations", inPlace := ["slices.overlaps[aneroid/api.Height]"], unfollowed := true, recurses := true, plainKeys := false, apart := false, narrowed := true }
def ArchiveStationsUptoSaid : Prop := archiveStationsUptoRow.holds Tryz.pinned (OpenSpec.upto archiveStationsSpec)

/-- 'aneroidlaw06.ArchiveReads', WHERE WHAT IT READS IS OF BULK AT MOST 1048576: true; the input reads as it did. -/
def archiveReadsUptoRow : OpenClaim := { program := "ytolgelipcgcbhaagreat", sum := "f698a4c125791d3ae443a1195b8a31a231b8a6539a79ed5f6e10a8f9873de6a8", func := "aneroid/aneroidlaw06.ArchiveReads", spec := "archiveReads", inPlace := ["slices.overlaps[aneroid/api.Height]"], unfollowed := true, recurses := true, plainKeys := false, apart := false, narrowed := true }
def ArchiveReadsUptoSaid : Prop := archiveReadsUptoRow.holds Tryz.pinned (OpenSpec.upto archiveReadsSpec)

/-- 'aneroidlaw06.ArchiveUnion', WHERE WHAT IT READS IS OF BULK AT MOST 1048576: true; the input reads as it did. -/
def archiveUnionUptoRow : OpenClaim := { program := "ytolgelipcgcbhaagreat", sum := "f698a4c125791d3ae443a1195b8a31a231b8a6539a79ed5f6e10a8f9873de6a8", func := "aneroid/aneroidlaw06.ArchiveUnion", spec := "archiveUnion", inPlace := ["slices.overlaps[aneroid/api.Height]"], unfollowed := true, recurses := true, plainKeys := false, apart := false, narrowed := true }
def ArchiveUnionUptoSaid : Prop := archiveUnionUptoRow.holds Tryz.pinned (OpenSpec.upto archiveUnionSpec)

/-- 'aneroidlaw06.ArchiveSets', WHERE WHAT IT READS IS OF BULK AT MOST 1048576: true; the input reads as it did. -/
def archiveSetsUptoRow : OpenClaim := { program := "ytolgelipcgcbhaagreat", sum := "f698a4c125791d3ae443a1195b8a31a231b8a6539a79ed5f6e10a8f9873de6a8", func := "aneroid/aneroidlaw06.ArchiveSets", spec := "archiveSets", inPlace := ["slices.overlaps[aneroid/api.Height]"], unfollowed := true, recurses := true, plainKeys := false, apart := false, narrowed := true }
def ArchiveSetsUptoSaid : Prop := archiveSetsUptoRow.holds Tryz.pinned (OpenSpec.upto archiveSetsSpec)

end Rows
end Go.Proofs.YtolgelipcgcbhaaGreat
