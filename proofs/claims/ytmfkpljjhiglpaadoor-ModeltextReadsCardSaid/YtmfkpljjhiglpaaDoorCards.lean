/-
  DERIVED. GIVEN WITH THE SEED: THE CARDS: each row of YtmfkpljjhiglpaaDoorRows.lean that lists a variable, with what it lists TIED to the program's text (the seventh form; the later family's looks); each row that meets fmt, with fmt's text TOLD by the authors' own Lean function (tested against real Go, not proved from fmt's source: count such statements apart). THE CARD IS WHAT COUNTS. Prove the row's statement (the work); the ties are given (YtmfkpljjhiglpaaDoorTie.lean); close each card by the builder's one call (the guide's Derived/Test/ToyasCard.lean, 'card_holds'). Laid BY PROGRAM, IN A SANDBOX (cutbox-door.mjs). By AI agents, Wed Nov 11 2026. No macro, syntax, notation, axiom, sorry.
-/
import Derived.Test.YtmfkpljjhiglpaaDoorRows
import GoSem.ClaimSeven
namespace Go.Proofs.YtmfkpljjhiglpaaDoor
namespace Rows

/-- THE TIED CARD OF 'learnerlaw15.ModeltextTrips'. -/
def modeltextTripsCard : Claim7 := { stood := { row := modeltextTripsRow, standIns := [], harness := (true, "9059d842b4b788820909ae2c46e376b15d5bdaf05496f69eb5b3fc4aa9e26e36"), looks := false }, kinds := [], alts := [], laidByText := true, laidKinds := [.data, .data, .data, .data, .pinned], laidTests := true, laidLooks := .later }
def ModeltextTripsCardSaid : Prop := Claim7.holds Tryd.pinned (.plain (OpenSpec.ofChange modeltextTripsSpec)) modeltextTripsCard

/-- THE TIED CARD OF 'learnerlaw15.ModeltextReads'. -/
def modeltextReadsCard : Claim7 := { stood := { row := modeltextReadsRow, standIns := [], harness := (true, "9059d842b4b788820909ae2c46e376b15d5bdaf05496f69eb5b3fc4aa9e26e36"), looks := false }, kinds := [], alts := [], laidByText := true, laidKinds := [.data, .data, .data, .data, .pinned], laidTests := true, laidLooks := .later }
def ModeltextReadsCardSaid : Prop := Claim7.holds Tryd.pinned (.plain (OpenSpec.ofChange modeltextReadsSpec)) modeltextReadsCard

/-- THE TIED CARD OF 'learnerlaw15.ModeltextLines'. -/
def modeltextLinesCard : Claim7 := { stood := { row := modeltextLinesRow, standIns := [], harness := (true, "9059d842b4b788820909ae2c46e376b15d5bdaf05496f69eb5b3fc4aa9e26e36"), looks := false }, kinds := [], alts := [], laidByText := true, laidKinds := [.data, .data, .data, .data, .pinned], laidTests := true, laidLooks := .later }
def ModeltextLinesCardSaid : Prop := Claim7.holds Tryd.pinned (.plain (OpenSpec.ofChange modeltextLinesSpec)) modeltextLinesCard

/-- THE TIED CARD OF 'learnerlaw15.ModeltextOrder'. -/
def modeltextOrderCard : Claim7 := { stood := { row := modeltextOrderRow, standIns := [], harness := (true, "9059d842b4b788820909ae2c46e376b15d5bdaf05496f69eb5b3fc4aa9e26e36"), looks := false }, kinds := [], alts := [], laidByText := true, laidKinds := [.data, .data, .data, .data, .pinned], laidTests := true, laidLooks := .later }
def ModeltextOrderCardSaid : Prop := Claim7.holds Tryd.pinned (.plain (OpenSpec.ofChange modeltextOrderSpec)) modeltextOrderCard

/-- THE SECOND FORM's CARD OF 'learnerlaw15.ModeltextTrips'. -/
def modeltextTripsUptoCard : Claim7 := { stood := { row := modeltextTripsUptoRow, standIns := [], harness := (true, "9059d842b4b788820909ae2c46e376b15d5bdaf05496f69eb5b3fc4aa9e26e36"), looks := false }, kinds := [], alts := [], laidByText := true, laidKinds := [.data, .data, .data, .data, .pinned], laidTests := true, laidLooks := .later }
def ModeltextTripsUptoCardSaid : Prop := Claim7.holds Tryd.pinned (.plain (OpenSpec.upto modeltextTripsSpec)) modeltextTripsUptoCard

/-- THE SECOND FORM's CARD OF 'learnerlaw15.ModeltextReads'. -/
def modeltextReadsUptoCard : Claim7 := { stood := { row := modeltextReadsUptoRow, standIns := [], harness := (true, "9059d842b4b788820909ae2c46e376b15d5bdaf05496f69eb5b3fc4aa9e26e36"), looks := false }, kinds := [], alts := [], laidByText := true, laidKinds := [.data, .data, .data, .data, .pinned], laidTests := true, laidLooks := .later }
def ModeltextReadsUptoCardSaid : Prop := Claim7.holds Tryd.pinned (.plain (OpenSpec.upto modeltextReadsSpec)) modeltextReadsUptoCard

/-- THE SECOND FORM's CARD OF 'learnerlaw15.ModeltextLines'. -/
def modeltextLinesUptoCard : Claim7 := { stood := { row := modeltextLinesUptoRow, standIns := [], harness := (true, "9059d842b4b788820909ae2c46e376b15d5bdaf05496f69eb5b3fc4aa9e26e36"), looks := false }, kinds := [], alts := [], laidByText := true, laidKinds := [.data, .data, .data, .data, .pinned], laidTests := true, laidLooks := .later }
def ModeltextLinesUptoCardSaid : Prop := Claim7.holds Tryd.pinned (.plain (OpenSpec.upto modeltextLinesSpec)) modeltextLinesUptoCard

/-- THE SECOND FORM's CARD OF 'learnerlaw15.ModeltextOrder'. -/
def modeltextOrderUptoCard : Claim7 := { stood := { row := modeltextOrderUptoRow, standIns := [], harness := (true, "9059d842b4b788820909ae2c46e376b15d5bdaf05496f69eb5b3fc4aa9e26e36"), looks := false }, kinds := [], alts := [], laidByText := true, laidKinds := [.data, .data, .data, .data, .pinned], laidTests := true, laidLooks := .later }
def ModeltextOrderUptoCardSaid : Prop := Claim7.holds Tryd.pinned (.plain (OpenSpec.upto modeltextOrderSpec)) modeltextOrderUptoCard
end Rows
end Go.Proofs.YtmfkpljjhiglpaaDoor
