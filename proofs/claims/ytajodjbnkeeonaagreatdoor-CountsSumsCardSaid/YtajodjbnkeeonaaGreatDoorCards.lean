/-
  DERIVED. GIVEN WITH THE SEED: THE CARDS: each row of YtajodjbnkeeonaaGreatDoorRows.lean that lists a variable, with what it lists TIED to the program's text (the seventh form; the later family's looks); each row that meets fmt, with fmt's text TOLD by the authors' own Lean function (tested against real Go, not proved from fmt's source: count such statements apart). THE CARD IS WHAT COUNTS. Prove the row's statement (the work); the ties are given (YtajodjbnkeeonaaGreatDoorTie.lean); close each card by the builder's one call (the guide's Derived/Test/ToyasCard.lean, 'card_holds'). Laid BY PROGRAM, IN A SANDBOX (cutbox-door.mjs). By AI agents, Wed Nov 11 2026. No macro, syntax, notation, axiom, sorry.
-/
import Derived.Test.YtajodjbnkeeonaaGreatDoorRows
import GoSem.ClaimSeven
namespace Go.Proofs.YtajodjbnkeeonaaGreatDoor
namespace Rows

/-- THE TIED CARD OF 'abugidalaw35.CountsCounts'. -/
def countsCountsCard : Claim7 := { stood := { row := countsCountsRow, standIns := [], harness := (true, "fabf98ab7634a5970b8296a4d9bd917ee3609bd1845621f975874a6fe0d78291"), looks := true }, kinds := [], alts := [], laidByText := true, laidKinds := [.data, .data, .data], laidTests := true, laidLooks := .later }
def CountsCountsCardSaid : Prop := Claim7.holds Tryz.pinned (.plain (OpenSpec.ofChange countsCountsSpec)) countsCountsCard

/-- THE TIED CARD OF 'abugidalaw35.CountsMerges'. -/
def countsMergesCard : Claim7 := { stood := { row := countsMergesRow, standIns := [], harness := (true, "fabf98ab7634a5970b8296a4d9bd917ee3609bd1845621f975874a6fe0d78291"), looks := true }, kinds := [], alts := [], laidByText := true, laidKinds := [.data, .data, .data], laidTests := true, laidLooks := .later }
def CountsMergesCardSaid : Prop := Claim7.holds Tryz.pinned (.plain (OpenSpec.ofChange countsMergesSpec)) countsMergesCard

/-- THE TIED CARD OF 'abugidalaw35.CountsSums'. -/
def countsSumsCard : Claim7 := { stood := { row := countsSumsRow, standIns := [], harness := (true, "fabf98ab7634a5970b8296a4d9bd917ee3609bd1845621f975874a6fe0d78291"), looks := true }, kinds := [], alts := [], laidByText := true, laidKinds := [.data, .data, .data], laidTests := true, laidLooks := .later }
def CountsSumsCardSaid : Prop := Claim7.holds Tryz.pinned (.plain (OpenSpec.ofChange countsSumsSpec)) countsSumsCard

/-- THE SECOND FORM's CARD OF 'abugidalaw35.CountsCounts'. -/
def countsCountsUptoCard : Claim7 := { stood := { row := countsCountsUptoRow, standIns := [], harness := (true, "fabf98ab7634a5970b8296a4d9bd917ee3609bd1845621f975874a6fe0d78291"), looks := true }, kinds := [], alts := [], laidByText := true, laidKinds := [.data, .data, .data], laidTests := true, laidLooks := .later }
def CountsCountsUptoCardSaid : Prop := Claim7.holds Tryz.pinned (.plain (OpenSpec.upto countsCountsSpec)) countsCountsUptoCard

/-- THE SECOND FORM's CARD OF 'abugidalaw35.CountsMerges'. -/
def countsMergesUptoCard : Claim7 := { stood := { row := countsMergesUptoRow, standIns := [], harness := (true, "fabf98ab7634a5970b8296a4d9bd917ee3609bd1845621f975874a6fe0d78291"), looks := true }, kinds := [], alts := [], laidByText := true, laidKinds := [.data, .data, .data], laidTests := true, laidLooks := .later }
def CountsMergesUptoCardSaid : Prop := Claim7.holds Tryz.pinned (.plain (OpenSpec.upto countsMergesSpec)) countsMergesUptoCard

/-- THE SECOND FORM's CARD OF 'abugidalaw35.CountsSums'. -/
def countsSumsUptoCard : Claim7 := { stood := { row := countsSumsUptoRow, standIns := [], harness := (true, "fabf98ab7634a5970b8296a4d9bd917ee3609bd1845621f975874a6fe0d78291"), looks := true }, kinds := [], alts := [], laidByText := true, laidKinds := [.data, .data, .data], laidTests := true, laidLooks := .later }
def CountsSumsUptoCardSaid : Prop := Claim7.holds Tryz.pinned (.plain (OpenSpec.upto countsSumsSpec)) countsSumsUptoCard
end Rows
end Go.Proofs.YtajodjbnkeeonaaGreatDoor
