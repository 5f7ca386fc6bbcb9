/-
  DERIVED. GIVEN WITH THE SEED: THE CARDS: each row of YtlpgdkbokakniaaGreatDoorRows.lean that lists a variable, with what it lists TIED to the program's text (the seventh form; the later family's looks); each row that meets fmt, with fmt's text TOLD by the authors' own Lean function (tested against real Go, not proved from fmt's source: count such statements apart). THE CARD IS WHAT COUNTS. Prove the row's statement (the work); the ties are given (YtlpgdkbokakniaaGreatDoorTie.lean); close each card by the builder's one call (the guide's Derived/Test/ToyasCard.lean, 'card_holds'). Laid BY PROGRAM, IN A SANDBOX (cutbox-door.mjs). By AI agents, Wed Nov 11 2026. No macro, syntax, notation, axiom, sorry.
-/
import Derived.Test.YtlpgdkbokakniaaGreatDoorRows
import GoSem.ClaimSeven
namespace Go.Proofs.YtlpgdkbokakniaaGreatDoor
namespace Rows

/-- THE TIED CARD OF 'staithelaw9.FoldEmpty'. -/
def foldEmptyCard : Claim7 := { stood := { row := foldEmptyRow, standIns := [], harness := (true, "8859a03e2841bc492963eb833a51ff991f66ccf84d1378fe0ecb4e01092a1d06"), looks := true }, kinds := [], alts := [], laidByText := true, laidKinds := [.data, .data, .data, .sentinel, .sentinel], laidTests := true, laidLooks := .later }
def FoldEmptyCardSaid : Prop := Claim7.holds Tryz.pinned (.plain (OpenSpec.ofChange foldEmptySpec)) foldEmptyCard

/-- THE TIED CARD OF 'staithelaw20.SnapOf'. -/
def snapOfCard : Claim7 := { stood := { row := snapOfRow, standIns := [], harness := (true, "8859a03e2841bc492963eb833a51ff991f66ccf84d1378fe0ecb4e01092a1d06"), looks := true }, kinds := [], alts := [], laidByText := true, laidKinds := [.data, .data, .data, .sentinel, .sentinel], laidTests := true, laidLooks := .later }
def SnapOfCardSaid : Prop := Claim7.holds Tryz.pinned (.plain (OpenSpec.ofChange snapOfSpec)) snapOfCard

/-- THE TIED CARD OF 'staithelaw13.ModelParts'. -/
def modelPartsCard : Claim7 := { stood := { row := modelPartsRow, standIns := [], harness := (true, "8859a03e2841bc492963eb833a51ff991f66ccf84d1378fe0ecb4e01092a1d06"), looks := true }, kinds := [], alts := [], laidByText := true, laidKinds := [.data, .data, .data, .sentinel, .sentinel], laidTests := true, laidLooks := .later }
def ModelPartsCardSaid : Prop := Claim7.holds Tryz.pinned (.plain (OpenSpec.ofChange modelPartsSpec)) modelPartsCard

/-- THE TIED CARD OF 'staithelaw13.ModelPlain'. -/
def modelPlainCard : Claim7 := { stood := { row := modelPlainRow, standIns := [], harness := (true, "8859a03e2841bc492963eb833a51ff991f66ccf84d1378fe0ecb4e01092a1d06"), looks := true }, kinds := [], alts := [], laidByText := true, laidKinds := [.data, .data, .data, .sentinel, .sentinel], laidTests := true, laidLooks := .later }
def ModelPlainCardSaid : Prop := Claim7.holds Tryz.pinned (.plain (OpenSpec.ofChange modelPlainSpec)) modelPlainCard

/-- THE TIED CARD OF 'staithelaw13.ModelAlike'. -/
def modelAlikeCard : Claim7 := { stood := { row := modelAlikeRow, standIns := [], harness := (true, "8859a03e2841bc492963eb833a51ff991f66ccf84d1378fe0ecb4e01092a1d06"), looks := true }, kinds := [], alts := [], laidByText := true, laidKinds := [.data, .data, .data, .sentinel, .sentinel], laidTests := true, laidLooks := .later }
def ModelAlikeCardSaid : Prop := Claim7.holds Tryz.pinned (.plain (OpenSpec.ofChange modelAlikeSpec)) modelAlikeCard

/-- THE SECOND FORM's CARD OF 'staithelaw9.FoldEmpty'. -/
def foldEmptyUptoCard : Claim7 := { stood := { row := foldEmptyUptoRow, standIns := [], harness := (true, "8859a03e2841bc492963eb833a51ff991f66ccf84d1378fe0ecb4e01092a1d06"), looks := true }, kinds := [], alts := [], laidByText := true, laidKinds := [.data, .data, .data, .sentinel, .sentinel], laidTests := true, laidLooks := .later }
def FoldEmptyUptoCardSaid : Prop := Claim7.holds Tryz.pinned (.plain (OpenSpec.upto foldEmptySpec)) foldEmptyUptoCard

/-- THE SECOND FORM's CARD OF 'staithelaw20.SnapOf'. -/
def snapOfUptoCard : Claim7 := { stood := { row := snapOfUptoRow, standIns := [], harness := (true, "8859a03e2841bc492963eb833a51ff991f66ccf84d1378fe0ecb4e01092a1d06"), looks := true }, kinds := [], alts := [], laidByText := true, laidKinds := [.data, .data, .data, .sentinel, .sentinel], laidTests := true, laidLooks := .later }
def SnapOfUptoCardSaid : Prop := Claim7.holds Tryz.pinned (.plain (OpenSpec.upto snapOfSpec)) snapOfUptoCard

/-- THE SECOND FORM's CARD OF 'staithelaw13.ModelParts'. -/
def modelPartsUptoCard : Claim7 := { stood := { row := modelPartsUptoRow, standIns := [], harness := (true, "8859a03e2841bc492963eb833a51ff991f66ccf84d1378fe0ecb4e01092a1d06"), looks := true }, kinds := [], alts := [], laidByText := true, laidKinds := [.data, .data, .data, .sentinel, .sentinel], laidTests := true, laidLooks := .later }
def ModelPartsUptoCardSaid : Prop := Claim7.holds Tryz.pinned (.plain (OpenSpec.upto modelPartsSpec)) modelPartsUptoCard

/-- THE SECOND FORM's CARD OF 'staithelaw13.ModelPlain'. -/
def modelPlainUptoCard : Claim7 := { stood := { row := modelPlainUptoRow, standIns := [], harness := (true, "8859a03e2841bc492963eb833a51ff991f66ccf84d1378fe0ecb4e01092a1d06"), looks := true }, kinds := [], alts := [], laidByText := true, laidKinds := [.data, .data, .data, .sentinel, .sentinel], laidTests := true, laidLooks := .later }
def ModelPlainUptoCardSaid : Prop := Claim7.holds Tryz.pinned (.plain (OpenSpec.upto modelPlainSpec)) modelPlainUptoCard

/-- THE SECOND FORM's CARD OF 'staithelaw13.ModelAlike'. -/
def modelAlikeUptoCard : Claim7 := { stood := { row := modelAlikeUptoRow, standIns := [], harness := (true, "8859a03e2841bc492963eb833a51ff991f66ccf84d1378fe0ecb4e01092a1d06"), looks := true }, kinds := [], alts := [], laidByText := true, laidKinds := [.data, .data, .data, .sentinel, .sentinel], laidTests := true, laidLooks := .later }
def ModelAlikeUptoCardSaid : Prop := Claim7.holds Tryz.pinned (.plain (OpenSpec.upto modelAlikeSpec)) modelAlikeUptoCard
end Rows
end Go.Proofs.YtlpgdkbokakniaaGreatDoor
