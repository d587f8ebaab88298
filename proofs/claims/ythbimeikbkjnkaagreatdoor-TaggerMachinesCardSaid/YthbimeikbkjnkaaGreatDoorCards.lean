/-
  DERIVED. GIVEN WITH THE SEED: THE CARDS: each row of YthbimeikbkjnkaaGreatDoorRows.lean that lists a variable, with what it lists TIED to the program's text (the seventh form; the later family's looks); each row that meets fmt, with fmt's text TOLD by the authors' own Lean function (tested against real Go, not proved from fmt's source: count such statements apart). THE CARD IS WHAT COUNTS. Prove the row's statement (the work); the ties are given (YthbimeikbkjnkaaGreatDoorTie.lean); close each card by the builder's one call (the guide's Derived/Test/ToyasCard.lean, 'card_holds'). Laid BY PROGRAM, IN A SANDBOX (cutbox-door.mjs). By AI agents, Wed Nov 11 2026. No macro, syntax, notation, axiom, sorry.
-/
import Derived.Test.YthbimeikbkjnkaaGreatDoorRows
import GoSem.ClaimSeven
namespace Go.Proofs.YthbimeikbkjnkaaGreatDoor
namespace Rows

/-- THE TIED CARD OF 'abugidalaw36.TaggerExamples'. -/
def taggerExamplesCard : Claim7 := { stood := { row := taggerExamplesRow, standIns := [], harness := (true, "d3bf08ebd9ea1bcaa5cb35fb73af600287fdc0001c94dc43560aeefca0fab896"), looks := true }, kinds := [], alts := [], laidByText := true, laidKinds := [.data, .data, .data], laidTests := true, laidLooks := .later }
def TaggerExamplesCardSaid : Prop := Claim7.holds Tryz.pinned (.plain (OpenSpec.ofChange taggerExamplesSpec)) taggerExamplesCard

/-- THE TIED CARD OF 'abugidalaw36.TaggerScores'. -/
def taggerScoresCard : Claim7 := { stood := { row := taggerScoresRow, standIns := [], harness := (true, "d3bf08ebd9ea1bcaa5cb35fb73af600287fdc0001c94dc43560aeefca0fab896"), looks := true }, kinds := [], alts := [], laidByText := true, laidKinds := [.data, .data, .data], laidTests := true, laidLooks := .later }
def TaggerScoresCardSaid : Prop := Claim7.holds Tryz.pinned (.plain (OpenSpec.ofChange taggerScoresSpec)) taggerScoresCard

/-- THE TIED CARD OF 'abugidalaw36.TaggerTags'. -/
def taggerTagsCard : Claim7 := { stood := { row := taggerTagsRow, standIns := [], harness := (true, "d3bf08ebd9ea1bcaa5cb35fb73af600287fdc0001c94dc43560aeefca0fab896"), looks := true }, kinds := [], alts := [], laidByText := true, laidKinds := [.data, .data, .data], laidTests := true, laidLooks := .later }
def TaggerTagsCardSaid : Prop := Claim7.holds Tryz.pinned (.plain (OpenSpec.ofChange taggerTagsSpec)) taggerTagsCard

/-- THE TIED CARD OF 'abugidalaw36.TaggerMachines'. -/
def taggerMachinesCard : Claim7 := { stood := { row := taggerMachinesRow, standIns := [], harness := (true, "d3bf08ebd9ea1bcaa5cb35fb73af600287fdc0001c94dc43560aeefca0fab896"), looks := true }, kinds := [], alts := [], laidByText := true, laidKinds := [.data, .data, .data], laidTests := true, laidLooks := .later }
def TaggerMachinesCardSaid : Prop := Claim7.holds Tryz.pinned (.plain (OpenSpec.ofChange taggerMachinesSpec)) taggerMachinesCard

/-- THE TIED CARD OF 'abugidalaw36.TaggerTotals'. -/
def taggerTotalsCard : Claim7 := { stood := { row := taggerTotalsRow, standIns := [], harness := (true, "d3bf08ebd9ea1bcaa5cb35fb73af600287fdc0001c94dc43560aeefca0fab896"), looks := true }, kinds := [], alts := [], laidByText := true, laidKinds := [.data, .data, .data], laidTests := true, laidLooks := .later }
def TaggerTotalsCardSaid : Prop := Claim7.holds Tryz.pinned (.plain (OpenSpec.ofChange taggerTotalsSpec)) taggerTotalsCard

/-- THE TIED CARD OF 'abugidalaw36.TaggerBest'. -/
def taggerBestCard : Claim7 := { stood := { row := taggerBestRow, standIns := [], harness := (true, "d3bf08ebd9ea1bcaa5cb35fb73af600287fdc0001c94dc43560aeefca0fab896"), looks := true }, kinds := [], alts := [], laidByText := true, laidKinds := [.data, .data, .data], laidTests := true, laidLooks := .later }
def TaggerBestCardSaid : Prop := Claim7.holds Tryz.pinned (.plain (OpenSpec.ofChange taggerBestSpec)) taggerBestCard

/-- THE TIED CARD OF 'abugidalaw36.TaggerUnknown'. -/
def taggerUnknownCard : Claim7 := { stood := { row := taggerUnknownRow, standIns := [], harness := (true, "d3bf08ebd9ea1bcaa5cb35fb73af600287fdc0001c94dc43560aeefca0fab896"), looks := true }, kinds := [], alts := [], laidByText := true, laidKinds := [.data, .data, .data], laidTests := true, laidLooks := .later }
def TaggerUnknownCardSaid : Prop := Claim7.holds Tryz.pinned (.plain (OpenSpec.ofChange taggerUnknownSpec)) taggerUnknownCard

/-- THE TIED CARD OF 'abugidalaw36.TaggerFirst'. -/
def taggerFirstCard : Claim7 := { stood := { row := taggerFirstRow, standIns := [], harness := (true, "d3bf08ebd9ea1bcaa5cb35fb73af600287fdc0001c94dc43560aeefca0fab896"), looks := true }, kinds := [], alts := [], laidByText := true, laidKinds := [.data, .data, .data], laidTests := true, laidLooks := .later }
def TaggerFirstCardSaid : Prop := Claim7.holds Tryz.pinned (.plain (OpenSpec.ofChange taggerFirstSpec)) taggerFirstCard

/-- THE SECOND FORM's CARD OF 'abugidalaw36.TaggerExamples'. -/
def taggerExamplesUptoCard : Claim7 := { stood := { row := taggerExamplesUptoRow, standIns := [], harness := (true, "d3bf08ebd9ea1bcaa5cb35fb73af600287fdc0001c94dc43560aeefca0fab896"), looks := true }, kinds := [], alts := [], laidByText := true, laidKinds := [.data, .data, .data], laidTests := true, laidLooks := .later }
def TaggerExamplesUptoCardSaid : Prop := Claim7.holds Tryz.pinned (.plain (OpenSpec.upto taggerExamplesSpec)) taggerExamplesUptoCard

/-- THE SECOND FORM's CARD OF 'abugidalaw36.TaggerScores'. -/
def taggerScoresUptoCard : Claim7 := { stood := { row := taggerScoresUptoRow, standIns := [], harness := (true, "d3bf08ebd9ea1bcaa5cb35fb73af600287fdc0001c94dc43560aeefca0fab896"), looks := true }, kinds := [], alts := [], laidByText := true, laidKinds := [.data, .data, .data], laidTests := true, laidLooks := .later }
def TaggerScoresUptoCardSaid : Prop := Claim7.holds Tryz.pinned (.plain (OpenSpec.upto taggerScoresSpec)) taggerScoresUptoCard

/-- THE SECOND FORM's CARD OF 'abugidalaw36.TaggerTags'. -/
def taggerTagsUptoCard : Claim7 := { stood := { row := taggerTagsUptoRow, standIns := [], harness := (true, "d3bf08ebd9ea1bcaa5cb35fb73af600287fdc0001c94dc43560aeefca0fab896"), looks := true }, kinds := [], alts := [], laidByText := true, laidKinds := [.data, .data, .data], laidTests := true, laidLooks := .later }
def TaggerTagsUptoCardSaid : Prop := Claim7.holds Tryz.pinned (.plain (OpenSpec.upto taggerTagsSpec)) taggerTagsUptoCard

/-- THE SECOND FORM's CARD OF 'abugidalaw36.TaggerMachines'. -/
def taggerMachinesUptoCard : Claim7 := { stood := { row := taggerMachinesUptoRow, standIns := [], harness := (true, "d3bf08ebd9ea1bcaa5cb35fb73af600287fdc0001c94dc43560aeefca0fab896"), looks := true }, kinds := [], alts := [], laidByText := true, laidKinds := [.data, .data, .data], laidTests := true, laidLooks := .later }
def TaggerMachinesUptoCardSaid : Prop := Claim7.holds Tryz.pinned (.plain (OpenSpec.upto taggerMachinesSpec)) taggerMachinesUptoCard

/-- THE SECOND FORM's CARD OF 'abugidalaw36.TaggerTotals'. -/
def taggerTotalsUptoCard : Claim7 := { stood := { row := taggerTotalsUptoRow, standIns := [], harness := (true, "d3bf08ebd9ea1bcaa5cb35fb73af600287fdc0001c94dc43560aeefca0fab896"), looks := true }, kinds := [], alts := [], laidByText := true, laidKinds := [.data, .data, .data], laidTests := true, laidLooks := .later }
def TaggerTotalsUptoCardSaid : Prop := Claim7.holds Tryz.pinned (.plain (OpenSpec.upto taggerTotalsSpec)) taggerTotalsUptoCard

/-- THE SECOND FORM's CARD OF 'abugidalaw36.TaggerBest'. -/
def taggerBestUptoCard : Claim7 := { stood := { row := taggerBestUptoRow, standIns := [], harness := (true, "d3bf08ebd9ea1bcaa5cb35fb73af600287fdc0001c94dc43560aeefca0fab896"), looks := true }, kinds := [], alts := [], laidByText := true, laidKinds := [.data, .data, .data], laidTests := true, laidLooks := .later }
def TaggerBestUptoCardSaid : Prop := Claim7.holds Tryz.pinned (.plain (OpenSpec.upto taggerBestSpec)) taggerBestUptoCard

/-- THE SECOND FORM's CARD OF 'abugidalaw36.TaggerUnknown'. -/
def taggerUnknownUptoCard : Claim7 := { stood := { row := taggerUnknownUptoRow, standIns := [], harness := (true, "d3bf08ebd9ea1bcaa5cb35fb73af600287fdc0001c94dc43560aeefca0fab896"), looks := true }, kinds := [], alts := [], laidByText := true, laidKinds := [.data, .data, .data], laidTests := true, laidLooks := .later }
def TaggerUnknownUptoCardSaid : Prop := Claim7.holds Tryz.pinned (.plain (OpenSpec.upto taggerUnknownSpec)) taggerUnknownUptoCard

/-- THE SECOND FORM's CARD OF 'abugidalaw36.TaggerFirst'. -/
def taggerFirstUptoCard : Claim7 := { stood := { row := taggerFirstUptoRow, standIns := [], harness := (true, "d3bf08ebd9ea1bcaa5cb35fb73af600287fdc0001c94dc43560aeefca0fab896"), looks := true }, kinds := [], alts := [], laidByText := true, laidKinds := [.data, .data, .data], laidTests := true, laidLooks := .later }
def TaggerFirstUptoCardSaid : Prop := Claim7.holds Tryz.pinned (.plain (OpenSpec.upto taggerFirstSpec)) taggerFirstUptoCard
end Rows
end Go.Proofs.YthbimeikbkjnkaaGreatDoor
