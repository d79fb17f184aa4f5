/-
  DERIVED. GIVEN WITH THE SEED: THE CARDS: each row of YtlehgfchljdbjaaDoorRows.lean that lists a variable, with what it lists TIED to the program's text (the seventh form; the later family's looks); each row that meets fmt, with fmt's text TOLD by the authors' own Lean function (tested against real Go, not proved from fmt's source: count such statements apart). THE CARD IS WHAT COUNTS. Prove the row's statement (the work); the ties are given (YtlehgfchljdbjaaDoorTie.lean); close each card by the builder's one call (the guide's Derived/Test/ToyasCard.lean, 'card_holds'). Laid BY PROGRAM, IN A SANDBOX (cutbox-door.mjs). By AI agents, Wed Nov 11 2026. No macro, syntax, notation, axiom, sorry.
-/
import Derived.Test.YtlehgfchljdbjaaDoorRows
import GoSem.ClaimSeven
namespace Go.Proofs.YtlehgfchljdbjaaDoor
namespace Rows

/-- THE TIED CARD OF 'learnerlaw03.AlphabetChecks'. -/
def alphabetChecksCard : Claim7 := { stood := { row := alphabetChecksRow, standIns := [], harness := (true, "04adb5e4f22a9e6f0b6ff6d2db7c32845d163e1470df0ec8ab52cc502016d61a"), looks := false }, kinds := [], alts := [], laidByText := true, laidKinds := [.data, .data, .data], laidTests := true, laidLooks := .later }
def AlphabetChecksCardSaid : Prop := Claim7.holds Tryd.pinned (.plain (OpenSpec.ofChange alphabetChecksSpec)) alphabetChecksCard

/-- THE TIED CARD OF 'learnerlaw03.AlphabetWords'. -/
def alphabetWordsCard : Claim7 := { stood := { row := alphabetWordsRow, standIns := [], harness := (true, "04adb5e4f22a9e6f0b6ff6d2db7c32845d163e1470df0ec8ab52cc502016d61a"), looks := false }, kinds := [], alts := [], laidByText := true, laidKinds := [.data, .data, .data], laidTests := true, laidLooks := .later }
def AlphabetWordsCardSaid : Prop := Claim7.holds Tryd.pinned (.plain (OpenSpec.ofChange alphabetWordsSpec)) alphabetWordsCard

/-- THE TIED CARD OF 'learnerlaw03.AlphabetTexts'. -/
def alphabetTextsCard : Claim7 := { stood := { row := alphabetTextsRow, standIns := [], harness := (true, "04adb5e4f22a9e6f0b6ff6d2db7c32845d163e1470df0ec8ab52cc502016d61a"), looks := false }, kinds := [], alts := [], laidByText := true, laidKinds := [.data, .data, .data], laidTests := true, laidLooks := .later }
def AlphabetTextsCardSaid : Prop := Claim7.holds Tryd.pinned (.plain (OpenSpec.ofChange alphabetTextsSpec)) alphabetTextsCard

/-- THE TIED CARD OF 'learnerlaw03.AlphabetNumbers'. -/
def alphabetNumbersCard : Claim7 := { stood := { row := alphabetNumbersRow, standIns := [], harness := (true, "04adb5e4f22a9e6f0b6ff6d2db7c32845d163e1470df0ec8ab52cc502016d61a"), looks := false }, kinds := [], alts := [], laidByText := true, laidKinds := [.data, .data, .data], laidTests := true, laidLooks := .later }
def AlphabetNumbersCardSaid : Prop := Claim7.holds Tryd.pinned (.plain (OpenSpec.ofChange alphabetNumbersSpec)) alphabetNumbersCard

/-- THE TIED CARD OF 'learnerlaw03.AlphabetTrips'. -/
def alphabetTripsCard : Claim7 := { stood := { row := alphabetTripsRow, standIns := [], harness := (true, "04adb5e4f22a9e6f0b6ff6d2db7c32845d163e1470df0ec8ab52cc502016d61a"), looks := false }, kinds := [], alts := [], laidByText := true, laidKinds := [.data, .data, .data], laidTests := true, laidLooks := .later }
def AlphabetTripsCardSaid : Prop := Claim7.holds Tryd.pinned (.plain (OpenSpec.ofChange alphabetTripsSpec)) alphabetTripsCard

/-- THE TIED CARD OF 'learnerlaw03.AlphabetNames'. -/
def alphabetNamesCard : Claim7 := { stood := { row := alphabetNamesRow, standIns := [], harness := (true, "04adb5e4f22a9e6f0b6ff6d2db7c32845d163e1470df0ec8ab52cc502016d61a"), looks := false }, kinds := [], alts := [], laidByText := true, laidKinds := [.data, .data, .data], laidTests := true, laidLooks := .later }
def AlphabetNamesCardSaid : Prop := Claim7.holds Tryd.pinned (.plain (OpenSpec.ofChange alphabetNamesSpec)) alphabetNamesCard

/-- THE SECOND FORM's CARD OF 'learnerlaw03.AlphabetChecks'. -/
def alphabetChecksUptoCard : Claim7 := { stood := { row := alphabetChecksUptoRow, standIns := [], harness := (true, "04adb5e4f22a9e6f0b6ff6d2db7c32845d163e1470df0ec8ab52cc502016d61a"), looks := false }, kinds := [], alts := [], laidByText := true, laidKinds := [.data, .data, .data], laidTests := true, laidLooks := .later }
def AlphabetChecksUptoCardSaid : Prop := Claim7.holds Tryd.pinned (.plain (OpenSpec.upto alphabetChecksSpec)) alphabetChecksUptoCard

/-- THE SECOND FORM's CARD OF 'learnerlaw03.AlphabetWords'. -/
def alphabetWordsUptoCard : Claim7 := { stood := { row := alphabetWordsUptoRow, standIns := [], harness := (true, "04adb5e4f22a9e6f0b6ff6d2db7c32845d163e1470df0ec8ab52cc502016d61a"), looks := false }, kinds := [], alts := [], laidByText := true, laidKinds := [.data, .data, .data], laidTests := true, laidLooks := .later }
def AlphabetWordsUptoCardSaid : Prop := Claim7.holds Tryd.pinned (.plain (OpenSpec.upto alphabetWordsSpec)) alphabetWordsUptoCard

/-- THE SECOND FORM's CARD OF 'learnerlaw03.AlphabetTexts'. -/
def alphabetTextsUptoCard : Claim7 := { stood := { row := alphabetTextsUptoRow, standIns := [], harness := (true, "04adb5e4f22a9e6f0b6ff6d2db7c32845d163e1470df0ec8ab52cc502016d61a"), looks := false }, kinds := [], alts := [], laidByText := true, laidKinds := [.data, .data, .data], laidTests := true, laidLooks := .later }
def AlphabetTextsUptoCardSaid : Prop := Claim7.holds Tryd.pinned (.plain (OpenSpec.upto alphabetTextsSpec)) alphabetTextsUptoCard

/-- THE SECOND FORM's CARD OF 'learnerlaw03.AlphabetNumbers'. -/
def alphabetNumbersUptoCard : Claim7 := { stood := { row := alphabetNumbersUptoRow, standIns := [], harness := (true, "04adb5e4f22a9e6f0b6ff6d2db7c32845d163e1470df0ec8ab52cc502016d61a"), looks := false }, kinds := [], alts := [], laidByText := true, laidKinds := [.data, .data, .data], laidTests := true, laidLooks := .later }
def AlphabetNumbersUptoCardSaid : Prop := Claim7.holds Tryd.pinned (.plain (OpenSpec.upto alphabetNumbersSpec)) alphabetNumbersUptoCard

/-- THE SECOND FORM's CARD OF 'learnerlaw03.AlphabetTrips'. -/
def alphabetTripsUptoCard : Claim7 := { stood := { row := alphabetTripsUptoRow, standIns := [], harness := (true, "04adb5e4f22a9e6f0b6ff6d2db7c32845d163e1470df0ec8ab52cc502016d61a"), looks := false }, kinds := [], alts := [], laidByText := true, laidKinds := [.data, .data, .data], laidTests := true, laidLooks := .later }
def AlphabetTripsUptoCardSaid : Prop := Claim7.holds Tryd.pinned (.plain (OpenSpec.upto alphabetTripsSpec)) alphabetTripsUptoCard

/-- THE SECOND FORM's CARD OF 'learnerlaw03.AlphabetNames'. -/
def alphabetNamesUptoCard : Claim7 := { stood := { row := alphabetNamesUptoRow, standIns := [], harness := (true, "04adb5e4f22a9e6f0b6ff6d2db7c32845d163e1470df0ec8ab52cc502016d61a"), looks := false }, kinds := [], alts := [], laidByText := true, laidKinds := [.data, .data, .data], laidTests := true, laidLooks := .later }
def AlphabetNamesUptoCardSaid : Prop := Claim7.holds Tryd.pinned (.plain (OpenSpec.upto alphabetNamesSpec)) alphabetNamesUptoCard
end Rows
end Go.Proofs.YtlehgfchljdbjaaDoor
