/-
  DERIVED. GIVEN WITH THE SEED: THE CARDS: each row of YtiemejfbgmllfaaGreatDoorRows.lean that lists a variable, with what it lists TIED to the program's text (the seventh form; the later family's looks); each row that meets fmt, with fmt's text TOLD by the authors' own Lean function (tested against real Go, not proved from fmt's source: count such statements apart). THE CARD IS WHAT COUNTS. Prove the row's statement (the work); the ties are given (YtiemejfbgmllfaaGreatDoorTie.lean); close each card by the builder's one call (the guide's Derived/Test/ToyasCard.lean, 'card_holds'). Laid BY PROGRAM, IN A SANDBOX (cutbox-door.mjs). By AI agents, Wed Nov 11 2026. No macro, syntax, notation, axiom, sorry.
-/
import Derived.Test.YtiemejfbgmllfaaGreatDoorRows
import GoSem.ClaimSeven
namespace Go.Proofs.YtiemejfbgmllfaaGreatDoor
namespace Rows

/-- THE TIED CARD OF 'abugidalaw35.CountsExamples'. -/
def countsExamplesCard : Claim7 := { stood := { row := countsExamplesRow, standIns := [], harness := (true, "998e599733753f482a93dcff2e46bcbfce69af1d1de43440215b7e7f4e582104"), looks := true }, kinds := [], alts := [], laidByText := true, laidKinds := [.data, .data, .data], laidTests := true, laidLooks := .later }
def CountsExamplesCardSaid : Prop := Claim7.holds Tryz.pinned (.plain (OpenSpec.ofChange countsExamplesSpec)) countsExamplesCard

/-- THE SECOND FORM's CARD OF 'abugidalaw35.CountsExamples'. -/
def countsExamplesUptoCard : Claim7 := { stood := { row := countsExamplesUptoRow, standIns := [], harness := (true, "998e599733753f482a93dcff2e46bcbfce69af1d1de43440215b7e7f4e582104"), looks := true }, kinds := [], alts := [], laidByText := true, laidKinds := [.data, .data, .data], laidTests := true, laidLooks := .later }
def CountsExamplesUptoCardSaid : Prop := Claim7.holds Tryz.pinned (.plain (OpenSpec.upto countsExamplesSpec)) countsExamplesUptoCard
end Rows
end Go.Proofs.YtiemejfbgmllfaaGreatDoor
