/-
  DERIVED. GIVEN WITH THE SEED: THE CARDS: each row of YthhajcnbjiiclaaGreatDoorRows.lean that lists a variable, with what it lists TIED to the program's text (the seventh form; the later family's looks); each row that meets fmt, with fmt's text TOLD by the authors' own Lean function (tested against real Go, not proved from fmt's source: count such statements apart). THE CARD IS WHAT COUNTS. Prove the row's statement (the work); the ties are given (YthhajcnbjiiclaaGreatDoorTie.lean); close each card by the builder's one call (the guide's Derived/Test/ToyasCard.lean, 'card_holds'). Laid BY PROGRAM, IN A SANDBOX (cutbox-door.mjs). By AI agents, Wed Nov 11 2026. No macro, syntax, notation, axiom, sorry.
-/
import Derived.Test.YthhajcnbjiiclaaGreatDoorRows
import GoSem.ClaimSeven
namespace Go.Proofs.YthhajcnbjiiclaaGreatDoor
namespace Rows

/-- THE TIED CARD OF 'staithelaw24.NodeLives'. -/
def nodeLivesCard : Claim7 := { stood := { row := nodeLivesRow, standIns := [], harness := (true, "b6bd0c8da403275a02115b5447982521090475ce64e765a90cafbd4ae705210f"), looks := true }, kinds := [], alts := [], laidByText := true, laidKinds := [.data, .data, .data, .sentinel, .sentinel], laidTests := true, laidLooks := .later }
def NodeLivesCardSaid : Prop := Claim7.holds Tryz.pinned (.plain (OpenSpec.ofChange nodeLivesSpec)) nodeLivesCard

/-- THE TIED CARD OF 'staithelaw24.NodeHolds'. -/
def nodeHoldsCard : Claim7 := { stood := { row := nodeHoldsRow, standIns := [], harness := (true, "b6bd0c8da403275a02115b5447982521090475ce64e765a90cafbd4ae705210f"), looks := true }, kinds := [], alts := [], laidByText := true, laidKinds := [.data, .data, .data, .sentinel, .sentinel], laidTests := true, laidLooks := .later }
def NodeHoldsCardSaid : Prop := Claim7.holds Tryz.pinned (.plain (OpenSpec.ofChange nodeHoldsSpec)) nodeHoldsCard

/-- THE TIED CARD OF 'staithelaw24.NodeRises'. -/
def nodeRisesCard : Claim7 := { stood := { row := nodeRisesRow, standIns := [], harness := (true, "b6bd0c8da403275a02115b5447982521090475ce64e765a90cafbd4ae705210f"), looks := true }, kinds := [], alts := [], laidByText := true, laidKinds := [.data, .data, .data, .sentinel, .sentinel], laidTests := true, laidLooks := .later }
def NodeRisesCardSaid : Prop := Claim7.holds Tryz.pinned (.plain (OpenSpec.ofChange nodeRisesSpec)) nodeRisesCard

/-- THE TIED CARD OF 'staithelaw24.NodeScript'. -/
def nodeScriptCard : Claim7 := { stood := { row := nodeScriptRow, standIns := [], harness := (true, "b6bd0c8da403275a02115b5447982521090475ce64e765a90cafbd4ae705210f"), looks := true }, kinds := [], alts := [], laidByText := true, laidKinds := [.data, .data, .data, .sentinel, .sentinel], laidTests := true, laidLooks := .later }
def NodeScriptCardSaid : Prop := Claim7.holds Tryz.pinned (.plain (OpenSpec.ofChange nodeScriptSpec)) nodeScriptCard

/-- THE TIED CARD OF 'staithelaw24.NodeNone'. -/
def nodeNoneCard : Claim7 := { stood := { row := nodeNoneRow, standIns := [], harness := (true, "b6bd0c8da403275a02115b5447982521090475ce64e765a90cafbd4ae705210f"), looks := true }, kinds := [], alts := [], laidByText := true, laidKinds := [.data, .data, .data, .sentinel, .sentinel], laidTests := true, laidLooks := .later }
def NodeNoneCardSaid : Prop := Claim7.holds Tryz.pinned (.plain (OpenSpec.ofChange nodeNoneSpec)) nodeNoneCard

/-- THE SECOND FORM's CARD OF 'staithelaw24.NodeLives'. -/
def nodeLivesUptoCard : Claim7 := { stood := { row := nodeLivesUptoRow, standIns := [], harness := (true, "b6bd0c8da403275a02115b5447982521090475ce64e765a90cafbd4ae705210f"), looks := true }, kinds := [], alts := [], laidByText := true, laidKinds := [.data, .data, .data, .sentinel, .sentinel], laidTests := true, laidLooks := .later }
def NodeLivesUptoCardSaid : Prop := Claim7.holds Tryz.pinned (.plain (OpenSpec.upto nodeLivesSpec)) nodeLivesUptoCard

/-- THE SECOND FORM's CARD OF 'staithelaw24.NodeHolds'. -/
def nodeHoldsUptoCard : Claim7 := { stood := { row := nodeHoldsUptoRow, standIns := [], harness := (true, "b6bd0c8da403275a02115b5447982521090475ce64e765a90cafbd4ae705210f"), looks := true }, kinds := [], alts := [], laidByText := true, laidKinds := [.data, .data, .data, .sentinel, .sentinel], laidTests := true, laidLooks := .later }
def NodeHoldsUptoCardSaid : Prop := Claim7.holds Tryz.pinned (.plain (OpenSpec.upto nodeHoldsSpec)) nodeHoldsUptoCard

/-- THE SECOND FORM's CARD OF 'staithelaw24.NodeRises'. -/
def nodeRisesUptoCard : Claim7 := { stood := { row := nodeRisesUptoRow, standIns := [], harness := (true, "b6bd0c8da403275a02115b5447982521090475ce64e765a90cafbd4ae705210f"), looks := true }, kinds := [], alts := [], laidByText := true, laidKinds := [.data, .data, .data, .sentinel, .sentinel], laidTests := true, laidLooks := .later }
def NodeRisesUptoCardSaid : Prop := Claim7.holds Tryz.pinned (.plain (OpenSpec.upto nodeRisesSpec)) nodeRisesUptoCard

/-- THE SECOND FORM's CARD OF 'staithelaw24.NodeScript'. -/
def nodeScriptUptoCard : Claim7 := { stood := { row := nodeScriptUptoRow, standIns := [], harness := (true, "b6bd0c8da403275a02115b5447982521090475ce64e765a90cafbd4ae705210f"), looks := true }, kinds := [], alts := [], laidByText := true, laidKinds := [.data, .data, .data, .sentinel, .sentinel], laidTests := true, laidLooks := .later }
def NodeScriptUptoCardSaid : Prop := Claim7.holds Tryz.pinned (.plain (OpenSpec.upto nodeScriptSpec)) nodeScriptUptoCard

/-- THE SECOND FORM's CARD OF 'staithelaw24.NodeNone'. -/
def nodeNoneUptoCard : Claim7 := { stood := { row := nodeNoneUptoRow, standIns := [], harness := (true, "b6bd0c8da403275a02115b5447982521090475ce64e765a90cafbd4ae705210f"), looks := true }, kinds := [], alts := [], laidByText := true, laidKinds := [.data, .data, .data, .sentinel, .sentinel], laidTests := true, laidLooks := .later }
def NodeNoneUptoCardSaid : Prop := Claim7.holds Tryz.pinned (.plain (OpenSpec.upto nodeNoneSpec)) nodeNoneUptoCard
end Rows
end Go.Proofs.YthhajcnbjiiclaaGreatDoor
