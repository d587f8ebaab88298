/-
  DERIVED. GIVEN WITH THE SEED: THE CARDS: each row of YtfilkkmcagndlaaGreatDoorRows.lean that lists a variable, with what it lists TIED to the program's text (the seventh form; the later family's looks); each row that meets fmt, with fmt's text TOLD by the authors' own Lean function (tested against real Go, not proved from fmt's source: count such statements apart). THE CARD IS WHAT COUNTS. Prove the row's statement (the work); the ties are given (YtfilkkmcagndlaaGreatDoorTie.lean); close each card by the builder's one call (the guide's Derived/Test/ToyasCard.lean, 'card_holds'). Laid BY PROGRAM, IN A SANDBOX (cutbox-door.mjs). By AI agents, Wed Nov 11 2026. No macro, syntax, notation, axiom, sorry.
-/
import Derived.Test.YtfilkkmcagndlaaGreatDoorRows
import GoSem.ClaimSeven
namespace Go.Proofs.YtfilkkmcagndlaaGreatDoor
namespace Rows

/-- THE TIED CARD OF 'abugidalaw35.CountsValid'. -/
def countsValidCard : Claim7 := { stood := { row := countsValidRow, standIns := [], harness := (true, "7c4c12853d54250aee831335b6fcfbeafb1da9c7f49def67bb69e590115736e1"), looks := true }, kinds := [], alts := [], laidByText := true, laidKinds := [.data, .data, .data], laidTests := true, laidLooks := .later }
def CountsValidCardSaid : Prop := Claim7.holds Tryz.pinned (.plain (OpenSpec.ofChange countsValidSpec)) countsValidCard

/-- THE TIED CARD OF 'abugidalaw35.CountsEstimates'. -/
def countsEstimatesCard : Claim7 := { stood := { row := countsEstimatesRow, standIns := [], harness := (true, "7c4c12853d54250aee831335b6fcfbeafb1da9c7f49def67bb69e590115736e1"), looks := true }, kinds := [], alts := [], laidByText := true, laidKinds := [.data, .data, .data], laidTests := true, laidLooks := .later }
def CountsEstimatesCardSaid : Prop := Claim7.holds Tryz.pinned (.plain (OpenSpec.ofChange countsEstimatesSpec)) countsEstimatesCard

/-- THE TIED CARD OF 'abugidalaw35.CountsModels'. -/
def countsModelsCard : Claim7 := { stood := { row := countsModelsRow, standIns := [], harness := (true, "7c4c12853d54250aee831335b6fcfbeafb1da9c7f49def67bb69e590115736e1"), looks := true }, kinds := [], alts := [], laidByText := true, laidKinds := [.data, .data, .data], laidTests := true, laidLooks := .later }
def CountsModelsCardSaid : Prop := Claim7.holds Tryz.pinned (.plain (OpenSpec.ofChange countsModelsSpec)) countsModelsCard

/-- THE SECOND FORM's CARD OF 'abugidalaw35.CountsValid'. -/
def countsValidUptoCard : Claim7 := { stood := { row := countsValidUptoRow, standIns := [], harness := (true, "7c4c12853d54250aee831335b6fcfbeafb1da9c7f49def67bb69e590115736e1"), looks := true }, kinds := [], alts := [], laidByText := true, laidKinds := [.data, .data, .data], laidTests := true, laidLooks := .later }
def CountsValidUptoCardSaid : Prop := Claim7.holds Tryz.pinned (.plain (OpenSpec.upto countsValidSpec)) countsValidUptoCard

/-- THE SECOND FORM's CARD OF 'abugidalaw35.CountsEstimates'. -/
def countsEstimatesUptoCard : Claim7 := { stood := { row := countsEstimatesUptoRow, standIns := [], harness := (true, "7c4c12853d54250aee831335b6fcfbeafb1da9c7f49def67bb69e590115736e1"), looks := true }, kinds := [], alts := [], laidByText := true, laidKinds := [.data, .data, .data], laidTests := true, laidLooks := .later }
def CountsEstimatesUptoCardSaid : Prop := Claim7.holds Tryz.pinned (.plain (OpenSpec.upto countsEstimatesSpec)) countsEstimatesUptoCard

/-- THE SECOND FORM's CARD OF 'abugidalaw35.CountsModels'. -/
def countsModelsUptoCard : Claim7 := { stood := { row := countsModelsUptoRow, standIns := [], harness := (true, "7c4c12853d54250aee831335b6fcfbeafb1da9c7f49def67bb69e590115736e1"), looks := true }, kinds := [], alts := [], laidByText := true, laidKinds := [.data, .data, .data], laidTests := true, laidLooks := .later }
def CountsModelsUptoCardSaid : Prop := Claim7.holds Tryz.pinned (.plain (OpenSpec.upto countsModelsSpec)) countsModelsUptoCard
end Rows
end Go.Proofs.YtfilkkmcagndlaaGreatDoor
