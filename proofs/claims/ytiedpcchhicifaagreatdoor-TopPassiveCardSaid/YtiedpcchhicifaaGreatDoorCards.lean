/-
  DERIVED. GIVEN WITH THE SEED: THE CARDS: each row of YtiedpcchhicifaaGreatDoorRows.lean that lists a variable, with what it lists TIED to the program's text (the seventh form; the later family's looks); each row that meets fmt, with fmt's text TOLD by the authors' own Lean function (tested against real Go, not proved from fmt's source: count such statements apart). THE CARD IS WHAT COUNTS. Prove the row's statement (the work); the ties are given (YtiedpcchhicifaaGreatDoorTie.lean); close each card by the builder's one call (the guide's Derived/Test/ToyasCard.lean, 'card_holds'). Laid BY PROGRAM, IN A SANDBOX (cutbox-door.mjs). By AI agents, Wed Nov 11 2026. No macro, syntax, notation, axiom, sorry.
-/
import Derived.Test.YtiedpcchhicifaaGreatDoorRows
import GoSem.ClaimSeven
namespace Go.Proofs.YtiedpcchhicifaaGreatDoor
namespace Rows

/-- THE TIED CARD OF 'learnertop.TopPassive'. -/
def topPassiveCard : Claim7 := { stood := { row := topPassiveRow, standIns := [], harness := (true, "4d5c108610c562ad560f62143cf6cc2cb380c87772f0df718fe1d9617d2a7dfd"), looks := false }, kinds := [], alts := [], laidByText := true, laidKinds := [.data, .data, .data], laidTests := true, laidLooks := .later }
def TopPassiveCardSaid : Prop := Claim7.holds Tryz.pinned (.plain (OpenSpec.ofChange topPassiveSpec)) topPassiveCard

/-- THE SECOND FORM's CARD OF 'learnertop.TopPassive'. -/
def topPassiveUptoCard : Claim7 := { stood := { row := topPassiveUptoRow, standIns := [], harness := (true, "4d5c108610c562ad560f62143cf6cc2cb380c87772f0df718fe1d9617d2a7dfd"), looks := false }, kinds := [], alts := [], laidByText := true, laidKinds := [.data, .data, .data], laidTests := true, laidLooks := .later }
def TopPassiveUptoCardSaid : Prop := Claim7.holds Tryz.pinned (.plain (OpenSpec.upto topPassiveSpec)) topPassiveUptoCard
end Rows
end Go.Proofs.YtiedpcchhicifaaGreatDoor
