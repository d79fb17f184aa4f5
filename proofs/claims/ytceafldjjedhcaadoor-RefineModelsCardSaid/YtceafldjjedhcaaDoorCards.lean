/-
  DERIVED. GIVEN WITH THE SEED: THE CARDS: each row of YtceafldjjedhcaaDoorRows.lean that lists a variable, with what it lists TIED to the program's text (the seventh form; the later family's looks); each row that meets fmt, with fmt's text TOLD by the authors' own Lean function (tested against real Go, not proved from fmt's source: count such statements apart). THE CARD IS WHAT COUNTS. Prove the row's statement (the work); the ties are given (YtceafldjjedhcaaDoorTie.lean); close each card by the builder's one call (the guide's Derived/Test/ToyasCard.lean, 'card_holds'). Laid BY PROGRAM, IN A SANDBOX (cutbox-door.mjs). By AI agents, Wed Nov 11 2026. No macro, syntax, notation, axiom, sorry.
-/
import Derived.Test.YtceafldjjedhcaaDoorRows
import GoSem.ClaimSeven
namespace Go.Proofs.YtceafldjjedhcaaDoor
namespace Rows

/-- THE TIED CARD OF 'learnerlaw38.RefineModels'. -/
def refineModelsCard : Claim7 := { stood := { row := refineModelsRow, standIns := [], harness := (true, "a44159c7af0d8712dcfa3be4ce3206cbcac67e2d731343aaac081b0cfb58ea6d"), looks := false }, kinds := [], alts := [], laidByText := true, laidKinds := [.data, .data, .data], laidTests := true, laidLooks := .later }
def RefineModelsCardSaid : Prop := Claim7.holds Tryd.pinned (.plain (OpenSpec.ofChange refineModelsSpec)) refineModelsCard

/-- THE SECOND FORM's CARD OF 'learnerlaw38.RefineModels'. -/
def refineModelsUptoCard : Claim7 := { stood := { row := refineModelsUptoRow, standIns := [], harness := (true, "a44159c7af0d8712dcfa3be4ce3206cbcac67e2d731343aaac081b0cfb58ea6d"), looks := false }, kinds := [], alts := [], laidByText := true, laidKinds := [.data, .data, .data], laidTests := true, laidLooks := .later }
def RefineModelsUptoCardSaid : Prop := Claim7.holds Tryd.pinned (.plain (OpenSpec.upto refineModelsSpec)) refineModelsUptoCard
end Rows
end Go.Proofs.YtceafldjjedhcaaDoor
