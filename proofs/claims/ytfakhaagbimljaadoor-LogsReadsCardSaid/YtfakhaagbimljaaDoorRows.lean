/-
  NARROWER THAN 'FOR EVERY INPUT', by the rows' own cells (each row's printed sentence says how): LogsParses: laid · LogsShows: laid · LogsImports: laid · LogsTrips: laid · LogsReads: laid.
  DERIVED. THE GIVEN ROWS OF THIS SEAT. 5 by the template 'for every input the law returns true; each argument reads behind the call as it read before'; 0 by the template 'total and deterministic' (their statements: YtfakhaagbimljaaDoorTotals.lean).
  GIVEN WITH THE SEED: the statements are not yours to turn. If you find one false, say at which input.
  Laid BY PROGRAM, IN A SANDBOX (cutbox-rows.mjs): the forced cells as the released guide's own fill.sh prints them over the translation c5b3c4c73a63f716… (all of the seat's roots in one cut). By AI agents, Wed Nov 11 2026. No macro, syntax, notation, axiom, sorry.
-/
import Derived.Test.YtfakhaagbimljaaDoorChecked
import GoSem.PinnedTables
import GoSem.Claim
import GoSem.ClaimJoined
import GoSem.ClaimMapViews
import Derived.JoinedTies
import Derived.KernelRfl
namespace Go.Proofs.YtfakhaagbimljaaDoor
/- THE CELL 'sum', in the pinned program and in every row, IS THE sha256 OF THE DUMP (.gsa) THAT YtfakhaagbimljaaDoorProg.lean LOADS. Nothing in Lean hashes anything: it is a label: what it is worth is what the hold of that sum in a sandbox is worth. -/
noncomputable def Tryd.pinned : Pinned := { name := "ytfakhaagbimljaadoor", sum := "c5b3c4c73a63f716d0c3fe20cb6fa6099e7b527b45fcc666d9593336c7a183b9", checked := Tryd.checked }
namespace Rows
def none {H : Type} : Left H := { results := [], args := [] }

/- WHAT THE LISTED PACKAGE-LEVEL VARIABLES READ AS WHEN THE CALL BEGINS. Each datum BY PROGRAM (the guide's laid-datum.mjs) off the statement by which the dump's own 'gosem.cut.vars' lays the variable. In a bare row this is a premise. The card (YtfakhaagbimljaaDoorCards.lean) ties it to the program's text. -/
def laid_unicode_utf8_acceptRanges {H : Type} : DataW H := .agg [.agg [.lit (.int .u8 128), .lit (.int .u8 191)], .agg [.lit (.int .u8 160), .lit (.int .u8 191)], .agg [.lit (.int .u8 128), .lit (.int .u8 159)], .agg [.lit (.int .u8 144), .lit (.int .u8 191)], .agg [.lit (.int .u8 128), .lit (.int .u8 143)], .agg [.lit (.int .u8 0), .lit (.int .u8 0)], .agg [.lit (.int .u8 0), .lit (.int .u8 0)], .agg [.lit (.int .u8 0), .lit (.int .u8 0)], .agg [.lit (.int .u8 0), .lit (.int .u8 0)], .agg [.lit (.int .u8 0), .lit (.int .u8 0)], .agg [.lit (.int .u8 0), .lit (.int .u8 0)], .agg [.lit (.int .u8 0), .lit (.int .u8 0)], .agg [.lit (.int .u8 0), .lit (.int .u8 0)], .agg [.lit (.int .u8 0), .lit (.int .u8 0)], .agg [.lit (.int .u8 0), .lit (.int .u8 0)], .agg [.lit (.int .u8 0), .lit (.int .u8 0)]]
/-- One of Go's own tables, pinned by name: the form's constant. -/
def laid_unicode_utf8_first : DataW Unit := Go.Pinned.utf8First

/-- 'learnerlaw17.LogsParses': WHATEVER THE INPUT: true; the input reads as it did. -/
def logsParsesSpec : ChangeSpec := { name := "logsParses", fn := fun _ => fun
  | [d1, d2, d3] => { results := [.lit (.bool true)], args := [d1, d2, d3] }
  | _ => none }
def logsParsesRow : OpenClaim := { program := "ytfakhaagbimljaadoor", sum := "c5b3c4c73a63f716d0c3fe20cb6fa6099e7b527b45fcc666d9593336c7a183b9", func := "learner/learnerlaw17.LogsParses", spec := "logsParses", inPlace := ["internal/bytealg.IndexByteString", "internal/bytealg.IndexString", "internal/bytealg.CountString", "internal/abi.NoEscape", "slices.overlaps[learner/api.Trace]"], unfollowed := true, recurses := true, named := ["internal/bytealg.MaxLen", "unicode/utf8.first", "unicode/utf8.acceptRanges"], apart := false, laid := [("unicode/utf8.acceptRanges", laid_unicode_utf8_acceptRanges), ("unicode/utf8.first", laid_unicode_utf8_first)] }
def LogsParsesSaid : Prop := logsParsesRow.holds Tryd.pinned (OpenSpec.ofChange logsParsesSpec)

/-- ITS FALSE NEIGHBOUR: 'it returns false'. Refute it at one input. -/
def logsParsesWrong : ChangeSpec := { name := "logsParses", fn := fun _ => fun
  | [d1, d2, d3] => { results := [.lit (.bool false)], args := [d1, d2, d3] }
  | _ => none }
def LogsParsesWrongFalsely : Prop := logsParsesRow.holds Tryd.pinned (OpenSpec.ofChange logsParsesWrong)

/-- 'learnerlaw17.LogsShows': WHATEVER THE INPUT: true; the input reads as it did. -/
def logsShowsSpec : ChangeSpec := { name := "logsShows", fn := fun _ => fun
  | [d] => { results := [.lit (.bool true)], args := [d] }
  | _ => none }
def logsShowsRow : OpenClaim := { program := "ytfakhaagbimljaadoor", sum := "c5b3c4c73a63f716d0c3fe20cb6fa6099e7b527b45fcc666d9593336c7a183b9", func := "learner/learnerlaw17.LogsShows", spec := "logsShows", inPlace := ["internal/bytealg.IndexByteString", "internal/bytealg.IndexString", "internal/bytealg.CountString", "internal/abi.NoEscape", "slices.overlaps[learner/api.Trace]"], unfollowed := true, recurses := true, named := ["internal/bytealg.MaxLen", "unicode/utf8.first", "unicode/utf8.acceptRanges"], apart := false, laid := [("unicode/utf8.acceptRanges", laid_unicode_utf8_acceptRanges), ("unicode/utf8.first", laid_unicode_utf8_first)] }
def LogsShowsSaid : Prop := logsShowsRow.holds Tryd.pinned (OpenSpec.ofChange logsShowsSpec)

/-- ITS FALSE NEIGHBOUR: 'it returns false'. Refute it at one input. -/
def logsShowsWrong : ChangeSpec := { name := "logsShows", fn := fun _ => fun
  | [d] => { results := [.lit (.bool false)], args := [d] }
  | _ => none }
def LogsShowsWrongFalsely : Prop := logsShowsRow.holds Tryd.pinned (OpenSpec.ofChange logsShowsWrong)

/-- 'learnerlaw17.LogsImports': WHATEVER THE INPUT: true; the input reads as it did. -/
def logsImportsSpec : ChangeSpec := { name := "logsImports", fn := fun _ => fun
  | [d1, d2] => { results := [.lit (.bool true)], args := [d1, d2] }
  | _ => none }
def logsImportsRow : OpenClaim := { program := "ytfakhaagbimljaadoor", sum := "c5b3c4c73a63f716d0c3fe20cb6fa6099e7b527b45fcc666d9593336c7a183b9", func := "learner/learnerlaw17.LogsImports", spec := "logsImports", inPlace := ["internal/bytealg.IndexByteString", "internal/bytealg.IndexString", "internal/bytealg.CountString", "internal/abi.NoEscape", "slices.overlaps[learner/api.Trace]"], unfollowed := true, recurses := true, named := ["internal/bytealg.MaxLen", "unicode/utf8.first", "unicode/utf8.acceptRanges"], apart := false, laid := [("unicode/utf8.acceptRanges", laid_unicode_utf8_acceptRanges), ("unicode/utf8.first", laid_unicode_utf8_first)] }
def LogsImportsSaid : Prop := logsImportsRow.holds Tryd.pinned (OpenSpec.ofChange logsImportsSpec)

/-- ITS FALSE NEIGHBOUR: 'it returns false'. Refute it at one input. -/
def logsImportsWrong : ChangeSpec := { name := "logsImports", fn := fun _ => fun
  | [d1, d2] => { results := [.lit (.bool false)], args := [d1, d2] }
  | _ => none }
def LogsImportsWrongFalsely : Prop := logsImportsRow.holds Tryd.pinned (OpenSpec.ofChange logsImportsWrong)

/-- 'learnerlaw17.LogsTrips': WHATEVER THE INPUT: true; the input reads as it did. -/
def logsTripsSpec : ChangeSpec := { name := "logsTrips", fn := fun _ => fun
  | [d] => { results := [.lit (.bool true)], args := [d] }
  | _ => none }
def logsTripsRow : OpenClaim := { program := "ytfakhaagbimljaadoor", sum := "c5b3c4c73a63f716d0c3fe20cb6fa6099e7b527b45fcc666d9593336c7a183b9", func := "learner/learnerlaw17.LogsTrips", spec := "logsTrips", inPlace := ["internal/bytealg.IndexByteString", "internal/bytealg.IndexString", "internal/bytealg.CountString", "internal/abi.NoEscape", "slices.overlaps[learner/api.Trace]"], unfollowed := true, recurses := true, named := ["internal/bytealg.MaxLen", "unicode/utf8.first", "unicode/utf8.acceptRanges"], apart := false, laid := [("unicode/utf8.acceptRanges", laid_unicode_utf8_acceptRanges), ("unicode/utf8.first", laid_unicode_utf8_first)] }
def LogsTripsSaid : Prop := logsTripsRow.holds Tryd.pinned (OpenSpec.ofChange logsTripsSpec)

/-- ITS FALSE NEIGHBOUR: 'it returns false'. Refute it at one input. -/
def logsTripsWrong : ChangeSpec := { name := "logsTrips", fn := fun _ => fun
  | [d] => { results := [.lit (.bool false)], args := [d] }
  | _ => none }
def LogsTripsWrongFalsely : Prop := logsTripsRow.holds Tryd.pinned (OpenSpec.ofChange logsTripsWrong)

/-- 'learnerlaw17.LogsReads': WHATEVER THE INPUT: true; the input reads as it did. -/
def logsReadsSpec : ChangeSpec := { name := "logsReads", fn := fun _ => fun
  | [d1, d2, d3] => { results := [.lit (.bool true)], args := [d1, d2, d3] }
  | _ => none }
def logsReadsRow : OpenClaim := { program := "ytfakhaagbimljaadoor", sum := "c5b3c4c73a63f716d0c3fe20cb6fa6099e7b527b45fcc666d9593336c7a183b9", func := "learner/learnerlaw17.LogsReads", spec := "logsReads", inPlace := ["internal/bytealg.IndexByteString", "internal/bytealg.IndexString", "internal/bytealg.CountString", "internal/abi.NoEscape", "slices.overlaps[learner/api.Trace]"], unfollowed := true, recurses := true, named := ["internal/bytealg.MaxLen", "unicode/utf8.first", "unicode/utf8.acceptRanges"], apart := false, laid := [("unicode/utf8.acceptRanges", laid_unicode_utf8_acceptRanges), ("unicode/utf8.first", laid_unicode_utf8_first)] }
def LogsReadsSaid : Prop := logsReadsRow.holds Tryd.pinned (OpenSpec.ofChange logsReadsSpec)

/-- ITS FALSE NEIGHBOUR: 'it returns false'. Refute it at one input. -/
def logsReadsWrong : ChangeSpec := { name := "logsReads", fn := fun _ => fun
  | [d1, d2, d3] => { results := [.lit (.bool false)], args := [d1, d2, d3] }
  | _ => none }
def LogsReadsWrongFalsely : Prop := logsReadsRow.holds Tryd.pinned (OpenSpec.ofChange logsReadsWrong)

/- THE SECOND FORM. 'bulk': how many values and letters a reading holds, each counted each time it is reached (what is shared counts as often as it is met; a slice's spare places count too). A statement '..UptoSaid' is the law's where the arguments, and the package variables that the reading takes, are together of bulk at most 1048576: NARROWER than '..Said'. Prove '..Said' where nothing that the law and all that it calls make is longer than what came in: it says more and counts as full. Else prove '..UptoSaid'. A law counts once. -/
mutual
def uptoBulk {H : Type} : DataW H → Nat
  | .lit (.string bytes) => bytes.length + 1
  | .lit _ => 1
  | .nil => 1
  | .ptr d => uptoBulk d + 1
  | .slice elems spare => uptoBulkAll elems + uptoBulkAll spare + 1
  | .agg parts => uptoBulkAll parts + 1
  | .iface _ d => uptoBulk d + 1
  | .map entries => uptoBulkEntries entries + 1
  | .held _ => 1
def uptoBulkAll {H : Type} : List (DataW H) → Nat
  | [] => 0
  | d :: r => uptoBulk d + uptoBulkAll r
def uptoBulkEntries {H : Type} : List (Lit × DataW H) → Nat
  | [] => 0
  | x :: r => uptoBulkEntry x + uptoBulkEntries r
def uptoBulkEntry {H : Type} : Lit × DataW H → Nat
  | (.string bytes, d) => bytes.length + uptoBulk d + 1
  | (_, d) => uptoBulk d + 1
 end
def uptoSmall : (H : Type) → List (DataW H) → Bool := fun _ ds => decide (uptoBulkAll ds ≤ 1048576)
def OpenSpec.upto (s : _root_.Go.ChangeSpec) : _root_.Go.OpenSpec := { _root_.Go.OpenSpec.ofChange s with cond := some uptoSmall }

/-- 'learnerlaw17.LogsParses', WHERE WHAT IT READS IS OF BULK AT MOST 1048576: true; the input reads as it did. -/
def logsParsesUptoRow : OpenClaim := { program := "ytfakhaagbimljaadoor", sum := "c5b3c4c73a63f716d0c3fe20cb6fa6099e7b527b45fcc666d9593336c7a183b9", func := "learner/learnerlaw17.LogsParses", spec := "logsParses", inPlace := ["internal/bytealg.IndexByteString", "internal/bytealg.IndexString", "internal/bytealg.CountString", "internal/abi.NoEscape", "slices.overlaps[learner/api.Trace]"], unfollowed := true, recurses := true, named := ["internal/bytealg.MaxLen", "unicode/utf8.first", "unicode/utf8.acceptRanges"], apart := false, laid := [("unicode/utf8.acceptRanges", laid_unicode_utf8_acceptRanges), ("unicode/utf8.first", laid_unicode_utf8_first)], narrowed := true }
def LogsParsesUptoSaid : Prop := logsParsesUptoRow.holds Tryd.pinned (OpenSpec.upto logsParsesSpec)

/-- 'learnerlaw17.LogsShows', WHERE WHAT IT READS IS OF BULK AT MOST 1048576: true; the input reads as it did. -/
def logsShowsUptoRow : OpenClaim := { program := "ytfakhaagbimljaadoor", sum := "c5b3c4c73a63f716d0c3fe20cb6fa6099e7b527b45fcc666d9593336c7a183b9", func := "learner/learnerlaw17.LogsShows", spec := "logsShows", inPlace := ["internal/bytealg.IndexByteString", "internal/bytealg.IndexString", "internal/bytealg.CountString", "internal/abi.NoEscape", "slices.overlaps[learner/api.Trace]"], unfollowed := true, recurses := true, named := ["internal/bytealg.MaxLen", "unicode/utf8.first", "unicode/utf8.acceptRanges"], apart := false, laid := [("unicode/utf8.acceptRanges", laid_unicode_utf8_acceptRanges), ("unicode/utf8.first", laid_unicode_utf8_first)], narrowed := true }
def LogsShowsUptoSaid : Prop := logsShowsUptoRow.holds Tryd.pinned (OpenSpec.upto logsShowsSpec)

/-- 'learnerlaw17.LogsImports', WHERE WHAT IT READS IS OF BULK AT MOST 1048576: true; the input reads as it did. -/
def logsImportsUptoRow : OpenClaim := { program := "ytfakhaagbimljaadoor", sum := "c5b3c4c73a63f716d0c3fe20cb6fa6099e7b527b45fcc666d9593336c7a183b9", func := "learner/learnerlaw17.LogsImports", spec := "logsImports", inPlace := ["internal/bytealg.IndexByteString", "internal/bytealg.IndexString", "internal/bytealg.CountString", "internal/abi.NoEscape", "slices.overlaps[learner/api.Trace]"], unfollowed := true, recurses := true, named := ["internal/bytealg.MaxLen", "unicode/utf8.first", "unicode/utf8.acceptRanges"], apart := false, laid := [("unicode/utf8.acceptRanges", laid_unicode_utf8_acceptRanges), ("unicode/utf8.first", laid_unicode_utf8_first)], narrowed := true }
def LogsImportsUptoSaid : Prop := logsImportsUptoRow.holds Tryd.pinned (OpenSpec.upto logsImportsSpec)

/-- 'learnerlaw17.LogsTrips', WHERE WHAT IT READS IS OF BULK AT MOST 1048576: true; the input reads as it did. -/
def logsTripsUptoRow : OpenClaim := { program := "ytfakhaagbimljaadoor", sum := "c5b3c4c73a63f716d0c3fe20cb6fa6099e7b527b45fcc666d9593336c7a183b9", func := "learner/learnerlaw17.LogsTrips", spec := "logsTrips", inPlace := ["internal/bytealg.IndexByteString", "internal/bytealg.IndexString", "internal/bytealg.CountString", "internal/abi.NoEscape", "slices.overlaps[learner/api.Trace]"], unfollowed := true, recurses := true, named := ["internal/bytealg.MaxLen", "unicode/utf8.first", "unicode/utf8.acceptRanges"], apart := false, laid := [("unicode/utf8.acceptRanges", laid_unicode_utf8_acceptRanges), ("unicode/utf8.first", laid_unicode_utf8_first)], narrowed := true }
def LogsTripsUptoSaid : Prop := logsTripsUptoRow.holds Tryd.pinned (OpenSpec.upto logsTripsSpec)

/-- 'learnerlaw17.LogsReads', WHERE WHAT IT READS IS OF BULK AT MOST 1048576: true; the input reads as it did. -/
def logsReadsUptoRow : OpenClaim := { program := "ytfakhaagbimljaadoor", sum := "c5b3c4c73a63f716d0c3fe20cb6fa6099e7b527b45fcc666d9593336c7a183b9", func := "learner/learnerlaw17.LogsReads", spec := "logsReads", inPlace := ["internal/bytealg.IndexByteString", "internal/bytealg.IndexString", "internal/bytealg.CountString", "internal/abi.NoEscape", "slices.overlaps[learner/api.Trace]"], unfollowed := true, recurses := true, named := ["internal/bytealg.MaxLen", "unicode/utf8.first", "unicode/utf8.acceptRanges"], apart := false, laid := [("unicode/utf8.acceptRanges", laid_unicode_utf8_acceptRanges), ("unicode/utf8.first", laid_unicode_utf8_first)], narrowed := true }
def LogsReadsUptoSaid : Prop := logsReadsUptoRow.holds Tryd.pinned (OpenSpec.upto logsReadsSpec)

end Rows
end Go.Proofs.YtfakhaagbimljaaDoor
