/-
  DERIVED. GIVEN WITH THE SEED: THE CARDS: each row of YtgmgnkmgofkfpaaDoorRows.lean that lists a variable, with what it lists TIED to the program's text (the seventh form; the later family's looks); each row that meets fmt, with fmt's text TOLD by the authors' own Lean function (tested against real Go, not proved from fmt's source: count such statements apart). THE CARD IS WHAT COUNTS. Prove the row's statement (the work); the ties are given (YtgmgnkmgofkfpaaDoorTie.lean); close each card by the builder's one call (the guide's Derived/Test/ToyasCard.lean, 'card_holds'). Laid BY PROGRAM, IN A SANDBOX (cutbox-door.mjs). By AI agents, Wed Nov 11 2026. No macro, syntax, notation, axiom, sorry.
-/
import Derived.Test.YtgmgnkmgofkfpaaDoorRows
import GoSem.ClaimSeven
namespace Go.Proofs.YtgmgnkmgofkfpaaDoor
namespace Rows

/-- THE TIED CARD OF 'learnerlaw37.MapperValid'. -/
def mapperValidCard : Claim7 := { stood := { row := mapperValidRow, standIns := [], harness := (true, "263c410bb7dba791ba222f686c41a3a7a7ac1f979230d67aa7f6dd32e990f127"), looks := false }, kinds := [], alts := [], laidByText := true, laidKinds := [.data, .data, .data], laidTests := true, laidLooks := .later }
def MapperValidCardSaid : Prop := Claim7.holds Tryd.pinned (.plain (OpenSpec.ofChange mapperValidSpec)) mapperValidCard

/-- THE TIED CARD OF 'learnerlaw37.MapperWords'. -/
def mapperWordsCard : Claim7 := { stood := { row := mapperWordsRow, standIns := [], harness := (true, "263c410bb7dba791ba222f686c41a3a7a7ac1f979230d67aa7f6dd32e990f127"), looks := false }, kinds := [], alts := [], laidByText := true, laidKinds := [.data, .data, .data], laidTests := true, laidLooks := .later }
def MapperWordsCardSaid : Prop := Claim7.holds Tryd.pinned (.plain (OpenSpec.ofChange mapperWordsSpec)) mapperWordsCard

/-- THE TIED CARD OF 'learnerlaw37.MapperModels'. -/
def mapperModelsCard : Claim7 := { stood := { row := mapperModelsRow, standIns := [], harness := (true, "263c410bb7dba791ba222f686c41a3a7a7ac1f979230d67aa7f6dd32e990f127"), looks := false }, kinds := [], alts := [], laidByText := true, laidKinds := [.data, .data, .data], laidTests := true, laidLooks := .later }
def MapperModelsCardSaid : Prop := Claim7.holds Tryd.pinned (.plain (OpenSpec.ofChange mapperModelsSpec)) mapperModelsCard

/-- THE TIED CARD OF 'learnerlaw37.MapperBack'. -/
def mapperBackCard : Claim7 := { stood := { row := mapperBackRow, standIns := [], harness := (true, "263c410bb7dba791ba222f686c41a3a7a7ac1f979230d67aa7f6dd32e990f127"), looks := false }, kinds := [], alts := [], laidByText := true, laidKinds := [.data, .data, .data], laidTests := true, laidLooks := .later }
def MapperBackCardSaid : Prop := Claim7.holds Tryd.pinned (.plain (OpenSpec.ofChange mapperBackSpec)) mapperBackCard

/-- THE TIED CARD OF 'learnerlaw37.MapperFollows'. -/
def mapperFollowsCard : Claim7 := { stood := { row := mapperFollowsRow, standIns := [], harness := (true, "263c410bb7dba791ba222f686c41a3a7a7ac1f979230d67aa7f6dd32e990f127"), looks := false }, kinds := [], alts := [], laidByText := true, laidKinds := [.data, .data, .data], laidTests := true, laidLooks := .later }
def MapperFollowsCardSaid : Prop := Claim7.holds Tryd.pinned (.plain (OpenSpec.ofChange mapperFollowsSpec)) mapperFollowsCard

/-- THE TIED CARD OF 'learnerlaw37.MapperClashes'. -/
def mapperClashesCard : Claim7 := { stood := { row := mapperClashesRow, standIns := [], harness := (true, "263c410bb7dba791ba222f686c41a3a7a7ac1f979230d67aa7f6dd32e990f127"), looks := false }, kinds := [], alts := [], laidByText := true, laidKinds := [.data, .data, .data], laidTests := true, laidLooks := .later }
def MapperClashesCardSaid : Prop := Claim7.holds Tryd.pinned (.plain (OpenSpec.ofChange mapperClashesSpec)) mapperClashesCard

/-- THE SECOND FORM's CARD OF 'learnerlaw37.MapperValid'. -/
def mapperValidUptoCard : Claim7 := { stood := { row := mapperValidUptoRow, standIns := [], harness := (true, "263c410bb7dba791ba222f686c41a3a7a7ac1f979230d67aa7f6dd32e990f127"), looks := false }, kinds := [], alts := [], laidByText := true, laidKinds := [.data, .data, .data], laidTests := true, laidLooks := .later }
def MapperValidUptoCardSaid : Prop := Claim7.holds Tryd.pinned (.plain (OpenSpec.upto mapperValidSpec)) mapperValidUptoCard

/-- THE SECOND FORM's CARD OF 'learnerlaw37.MapperWords'. -/
def mapperWordsUptoCard : Claim7 := { stood := { row := mapperWordsUptoRow, standIns := [], harness := (true, "263c410bb7dba791ba222f686c41a3a7a7ac1f979230d67aa7f6dd32e990f127"), looks := false }, kinds := [], alts := [], laidByText := true, laidKinds := [.data, .data, .data], laidTests := true, laidLooks := .later }
def MapperWordsUptoCardSaid : Prop := Claim7.holds Tryd.pinned (.plain (OpenSpec.upto mapperWordsSpec)) mapperWordsUptoCard

/-- THE SECOND FORM's CARD OF 'learnerlaw37.MapperModels'. -/
def mapperModelsUptoCard : Claim7 := { stood := { row := mapperModelsUptoRow, standIns := [], harness := (true, "263c410bb7dba791ba222f686c41a3a7a7ac1f979230d67aa7f6dd32e990f127"), looks := false }, kinds := [], alts := [], laidByText := true, laidKinds := [.data, .data, .data], laidTests := true, laidLooks := .later }
def MapperModelsUptoCardSaid : Prop := Claim7.holds Tryd.pinned (.plain (OpenSpec.upto mapperModelsSpec)) mapperModelsUptoCard

/-- THE SECOND FORM's CARD OF 'learnerlaw37.MapperBack'. -/
def mapperBackUptoCard : Claim7 := { stood := { row := mapperBackUptoRow, standIns := [], harness := (true, "263c410bb7dba791ba222f686c41a3a7a7ac1f979230d67aa7f6dd32e990f127"), looks := false }, kinds := [], alts := [], laidByText := true, laidKinds := [.data, .data, .data], laidTests := true, laidLooks := .later }
def MapperBackUptoCardSaid : Prop := Claim7.holds Tryd.pinned (.plain (OpenSpec.upto mapperBackSpec)) mapperBackUptoCard

/-- THE SECOND FORM's CARD OF 'learnerlaw37.MapperFollows'. -/
def mapperFollowsUptoCard : Claim7 := { stood := { row := mapperFollowsUptoRow, standIns := [], harness := (true, "263c410bb7dba791ba222f686c41a3a7a7ac1f979230d67aa7f6dd32e990f127"), looks := false }, kinds := [], alts := [], laidByText := true, laidKinds := [.data, .data, .data], laidTests := true, laidLooks := .later }
def MapperFollowsUptoCardSaid : Prop := Claim7.holds Tryd.pinned (.plain (OpenSpec.upto mapperFollowsSpec)) mapperFollowsUptoCard

/-- THE SECOND FORM's CARD OF 'learnerlaw37.MapperClashes'. -/
def mapperClashesUptoCard : Claim7 := { stood := { row := mapperClashesUptoRow, standIns := [], harness := (true, "263c410bb7dba791ba222f686c41a3a7a7ac1f979230d67aa7f6dd32e990f127"), looks := false }, kinds := [], alts := [], laidByText := true, laidKinds := [.data, .data, .data], laidTests := true, laidLooks := .later }
def MapperClashesUptoCardSaid : Prop := Claim7.holds Tryd.pinned (.plain (OpenSpec.upto mapperClashesSpec)) mapperClashesUptoCard
end Rows
end Go.Proofs.YtgmgnkmgofkfpaaDoor
