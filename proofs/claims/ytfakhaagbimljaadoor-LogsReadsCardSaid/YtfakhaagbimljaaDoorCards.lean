/-
  DERIVED. GIVEN WITH THE SEED: THE CARDS: each row of YtfakhaagbimljaaDoorRows.lean that lists a variable, with what it lists TIED to the program's text (the seventh form; the later family's looks); each row that meets fmt, with fmt's text TOLD by the authors' own Lean function (tested against real Go, not proved from fmt's source: count such statements apart). THE CARD IS WHAT COUNTS. Prove the row's statement (the work); the ties are given (YtfakhaagbimljaaDoorTie.lean); close each card by the builder's one call (the guide's Derived/Test/ToyasCard.lean, 'card_holds'). Laid BY PROGRAM, IN A SANDBOX (cutbox-door.mjs). By AI agents, Wed Nov 11 2026. No macro, syntax, notation, axiom, sorry.
-/
import Derived.Test.YtfakhaagbimljaaDoorRows
import GoSem.ClaimSeven
namespace Go.Proofs.YtfakhaagbimljaaDoor
namespace Rows

/-- THE TIED CARD OF 'learnerlaw17.LogsParses'. -/
def logsParsesCard : Claim7 := { stood := { row := logsParsesRow, standIns := [], harness := (true, "2b4808d776ba1ae9f5f114534c5dd4341721b8d838486f58f7b4a033f10797fc"), looks := false }, kinds := [], alts := [], laidByText := true, laidKinds := [.data, .pinned], laidTests := true, laidLooks := .later }
def LogsParsesCardSaid : Prop := Claim7.holds Tryd.pinned (.plain (OpenSpec.ofChange logsParsesSpec)) logsParsesCard

/-- THE TIED CARD OF 'learnerlaw17.LogsShows'. -/
def logsShowsCard : Claim7 := { stood := { row := logsShowsRow, standIns := [], harness := (true, "2b4808d776ba1ae9f5f114534c5dd4341721b8d838486f58f7b4a033f10797fc"), looks := false }, kinds := [], alts := [], laidByText := true, laidKinds := [.data, .pinned], laidTests := true, laidLooks := .later }
def LogsShowsCardSaid : Prop := Claim7.holds Tryd.pinned (.plain (OpenSpec.ofChange logsShowsSpec)) logsShowsCard

/-- THE TIED CARD OF 'learnerlaw17.LogsImports'. -/
def logsImportsCard : Claim7 := { stood := { row := logsImportsRow, standIns := [], harness := (true, "2b4808d776ba1ae9f5f114534c5dd4341721b8d838486f58f7b4a033f10797fc"), looks := false }, kinds := [], alts := [], laidByText := true, laidKinds := [.data, .pinned], laidTests := true, laidLooks := .later }
def LogsImportsCardSaid : Prop := Claim7.holds Tryd.pinned (.plain (OpenSpec.ofChange logsImportsSpec)) logsImportsCard

/-- THE TIED CARD OF 'learnerlaw17.LogsTrips'. -/
def logsTripsCard : Claim7 := { stood := { row := logsTripsRow, standIns := [], harness := (true, "2b4808d776ba1ae9f5f114534c5dd4341721b8d838486f58f7b4a033f10797fc"), looks := false }, kinds := [], alts := [], laidByText := true, laidKinds := [.data, .pinned], laidTests := true, laidLooks := .later }
def LogsTripsCardSaid : Prop := Claim7.holds Tryd.pinned (.plain (OpenSpec.ofChange logsTripsSpec)) logsTripsCard

/-- THE TIED CARD OF 'learnerlaw17.LogsReads'. -/
def logsReadsCard : Claim7 := { stood := { row := logsReadsRow, standIns := [], harness := (true, "2b4808d776ba1ae9f5f114534c5dd4341721b8d838486f58f7b4a033f10797fc"), looks := false }, kinds := [], alts := [], laidByText := true, laidKinds := [.data, .pinned], laidTests := true, laidLooks := .later }
def LogsReadsCardSaid : Prop := Claim7.holds Tryd.pinned (.plain (OpenSpec.ofChange logsReadsSpec)) logsReadsCard

/-- THE SECOND FORM's CARD OF 'learnerlaw17.LogsParses'. -/
def logsParsesUptoCard : Claim7 := { stood := { row := logsParsesUptoRow, standIns := [], harness := (true, "2b4808d776ba1ae9f5f114534c5dd4341721b8d838486f58f7b4a033f10797fc"), looks := false }, kinds := [], alts := [], laidByText := true, laidKinds := [.data, .pinned], laidTests := true, laidLooks := .later }
def LogsParsesUptoCardSaid : Prop := Claim7.holds Tryd.pinned (.plain (OpenSpec.upto logsParsesSpec)) logsParsesUptoCard

/-- THE SECOND FORM's CARD OF 'learnerlaw17.LogsShows'. -/
def logsShowsUptoCard : Claim7 := { stood := { row := logsShowsUptoRow, standIns := [], harness := (true, "2b4808d776ba1ae9f5f114534c5dd4341721b8d838486f58f7b4a033f10797fc"), looks := false }, kinds := [], alts := [], laidByText := true, laidKinds := [.data, .pinned], laidTests := true, laidLooks := .later }
def LogsShowsUptoCardSaid : Prop := Claim7.holds Tryd.pinned (.plain (OpenSpec.upto logsShowsSpec)) logsShowsUptoCard

/-- THE SECOND FORM's CARD OF 'learnerlaw17.LogsImports'. -/
def logsImportsUptoCard : Claim7 := { stood := { row := logsImportsUptoRow, standIns := [], harness := (true, "2b4808d776ba1ae9f5f114534c5dd4341721b8d838486f58f7b4a033f10797fc"), looks := false }, kinds := [], alts := [], laidByText := true, laidKinds := [.data, .pinned], laidTests := true, laidLooks := .later }
def LogsImportsUptoCardSaid : Prop := Claim7.holds Tryd.pinned (.plain (OpenSpec.upto logsImportsSpec)) logsImportsUptoCard

/-- THE SECOND FORM's CARD OF 'learnerlaw17.LogsTrips'. -/
def logsTripsUptoCard : Claim7 := { stood := { row := logsTripsUptoRow, standIns := [], harness := (true, "2b4808d776ba1ae9f5f114534c5dd4341721b8d838486f58f7b4a033f10797fc"), looks := false }, kinds := [], alts := [], laidByText := true, laidKinds := [.data, .pinned], laidTests := true, laidLooks := .later }
def LogsTripsUptoCardSaid : Prop := Claim7.holds Tryd.pinned (.plain (OpenSpec.upto logsTripsSpec)) logsTripsUptoCard

/-- THE SECOND FORM's CARD OF 'learnerlaw17.LogsReads'. -/
def logsReadsUptoCard : Claim7 := { stood := { row := logsReadsUptoRow, standIns := [], harness := (true, "2b4808d776ba1ae9f5f114534c5dd4341721b8d838486f58f7b4a033f10797fc"), looks := false }, kinds := [], alts := [], laidByText := true, laidKinds := [.data, .pinned], laidTests := true, laidLooks := .later }
def LogsReadsUptoCardSaid : Prop := Claim7.holds Tryd.pinned (.plain (OpenSpec.upto logsReadsSpec)) logsReadsUptoCard
end Rows
end Go.Proofs.YtfakhaagbimljaaDoor
