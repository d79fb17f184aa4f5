/-
  DERIVED. GIVEN WITH THE SEED: THE CARDS: each row of YtmfkpljjhiglpaaGreatDoorRows.lean that lists a variable, with what it lists TIED to the program's text (the seventh form; the later family's looks); each row that meets fmt, with fmt's text TOLD by the authors' own Lean function (tested against real Go, not proved from fmt's source: count such statements apart). THE CARD IS WHAT COUNTS. Prove the row's statement (the work); the ties are given (YtmfkpljjhiglpaaGreatDoorTie.lean); close each card by the builder's one call (the guide's Derived/Test/ToyasCard.lean, 'card_holds'). Laid BY PROGRAM, IN A SANDBOX (cutbox-door.mjs). By AI agents, Wed Nov 11 2026. No macro, syntax, notation, axiom, sorry.
-/
import Derived.Test.YtmfkpljjhiglpaaGreatDoorRows
import GoSem.ClaimSeven
namespace Go.Proofs.YtmfkpljjhiglpaaGreatDoor
namespace Rows

/-- THE TIED CARD OF 'learnerlaw15.ModeltextShows'. -/
def modeltextShowsCard : Claim7 := { stood := { row := modeltextShowsRow, standIns := [], harness := (true, "b6cb1e6088208d010f711a3251ca06040b4fa6f80cd246ff2d3c0b33bf4939e2"), looks := false }, kinds := [], alts := [], laidByText := true, laidKinds := [.data, .data, .data, .data, .pinned], laidTests := true, laidLooks := .later }
def ModeltextShowsCardSaid : Prop := Claim7.holds Tryz.pinned (.plain (OpenSpec.ofChange modeltextShowsSpec)) modeltextShowsCard

/-- THE TIED CARD OF 'learnerlaw15.ModeltextParses'. -/
def modeltextParsesCard : Claim7 := { stood := { row := modeltextParsesRow, standIns := [], harness := (true, "b6cb1e6088208d010f711a3251ca06040b4fa6f80cd246ff2d3c0b33bf4939e2"), looks := false }, kinds := [], alts := [], laidByText := true, laidKinds := [.data, .data, .data, .data, .pinned], laidTests := true, laidLooks := .later }
def ModeltextParsesCardSaid : Prop := Claim7.holds Tryz.pinned (.plain (OpenSpec.ofChange modeltextParsesSpec)) modeltextParsesCard

/-- THE SECOND FORM's CARD OF 'learnerlaw15.ModeltextShows'. -/
def modeltextShowsUptoCard : Claim7 := { stood := { row := modeltextShowsUptoRow, standIns := [], harness := (true, "b6cb1e6088208d010f711a3251ca06040b4fa6f80cd246ff2d3c0b33bf4939e2"), looks := false }, kinds := [], alts := [], laidByText := true, laidKinds := [.data, .data, .data, .data, .pinned], laidTests := true, laidLooks := .later }
def ModeltextShowsUptoCardSaid : Prop := Claim7.holds Tryz.pinned (.plain (OpenSpec.upto modeltextShowsSpec)) modeltextShowsUptoCard

/-- THE SECOND FORM's CARD OF 'learnerlaw15.ModeltextParses'. -/
def modeltextParsesUptoCard : Claim7 := { stood := { row := modeltextParsesUptoRow, standIns := [], harness := (true, "b6cb1e6088208d010f711a3251ca06040b4fa6f80cd246ff2d3c0b33bf4939e2"), looks := false }, kinds := [], alts := [], laidByText := true, laidKinds := [.data, .data, .data, .data, .pinned], laidTests := true, laidLooks := .later }
def ModeltextParsesUptoCardSaid : Prop := Claim7.holds Tryz.pinned (.plain (OpenSpec.upto modeltextParsesSpec)) modeltextParsesUptoCard
end Rows
end Go.Proofs.YtmfkpljjhiglpaaGreatDoor
