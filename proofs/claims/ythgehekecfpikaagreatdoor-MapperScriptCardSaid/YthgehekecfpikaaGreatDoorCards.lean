/-
  DERIVED. GIVEN WITH THE SEED: THE CARDS: each row of YthgehekecfpikaaGreatDoorRows.lean that lists a variable, with what it lists TIED to the program's text (the seventh form; the later family's looks); each row that meets fmt, with fmt's text TOLD by the authors' own Lean function (tested against real Go, not proved from fmt's source: count such statements apart). THE CARD IS WHAT COUNTS. Prove the row's statement (the work); the ties are given (YthgehekecfpikaaGreatDoorTie.lean); close each card by the builder's one call (the guide's Derived/Test/ToyasCard.lean, 'card_holds'). Laid BY PROGRAM, IN A SANDBOX (cutbox-door.mjs). By AI agents, Wed Nov 11 2026. No macro, syntax, notation, axiom, sorry.
-/
import Derived.Test.YthgehekecfpikaaGreatDoorRows
import GoSem.ClaimSeven
namespace Go.Proofs.YthgehekecfpikaaGreatDoor
namespace Rows

/-- THE TIED CARD OF 'staithelaw26.CheckOrders'. -/
def checkOrdersCard : Claim7 := { stood := { row := checkOrdersRow, standIns := [], harness := (true, "dcb6ab82f2f0c84635babedfcfbaa795c131daf5b63a47d17e39df4986293316"), looks := true }, kinds := [], alts := [], laidByText := true, laidKinds := [.data, .data, .data, .sentinel, .sentinel], laidTests := true, laidLooks := .later }
def CheckOrdersCardSaid : Prop := Claim7.holds Tryz.pinned (.plain (OpenSpec.ofChange checkOrdersSpec)) checkOrdersCard

/-- THE TIED CARD OF 'staithelaw19.MapperScript'. -/
def mapperScriptCard : Claim7 := { stood := { row := mapperScriptRow, standIns := [], harness := (true, "dcb6ab82f2f0c84635babedfcfbaa795c131daf5b63a47d17e39df4986293316"), looks := true }, kinds := [], alts := [], laidByText := true, laidKinds := [.data, .data, .data, .sentinel, .sentinel], laidTests := true, laidLooks := .later }
def MapperScriptCardSaid : Prop := Claim7.holds Tryz.pinned (.plain (OpenSpec.ofChange mapperScriptSpec)) mapperScriptCard

/-- THE TIED CARD OF 'staithelaw19.MapperPushes'. -/
def mapperPushesCard : Claim7 := { stood := { row := mapperPushesRow, standIns := [], harness := (true, "dcb6ab82f2f0c84635babedfcfbaa795c131daf5b63a47d17e39df4986293316"), looks := true }, kinds := [], alts := [], laidByText := true, laidKinds := [.data, .data, .data, .sentinel, .sentinel], laidTests := true, laidLooks := .later }
def MapperPushesCardSaid : Prop := Claim7.holds Tryz.pinned (.plain (OpenSpec.ofChange mapperPushesSpec)) mapperPushesCard

/-- THE TIED CARD OF 'staithelaw19.MapperNone'. -/
def mapperNoneCard : Claim7 := { stood := { row := mapperNoneRow, standIns := [], harness := (true, "dcb6ab82f2f0c84635babedfcfbaa795c131daf5b63a47d17e39df4986293316"), looks := true }, kinds := [], alts := [], laidByText := true, laidKinds := [.data, .data, .data, .sentinel, .sentinel], laidTests := true, laidLooks := .later }
def MapperNoneCardSaid : Prop := Claim7.holds Tryz.pinned (.plain (OpenSpec.ofChange mapperNoneSpec)) mapperNoneCard

/-- THE TIED CARD OF 'staithelaw21.ReducerOnce'. -/
def reducerOnceCard : Claim7 := { stood := { row := reducerOnceRow, standIns := [], harness := (true, "dcb6ab82f2f0c84635babedfcfbaa795c131daf5b63a47d17e39df4986293316"), looks := true }, kinds := [], alts := [], laidByText := true, laidKinds := [.data, .data, .data, .sentinel, .sentinel], laidTests := true, laidLooks := .later }
def ReducerOnceCardSaid : Prop := Claim7.holds Tryz.pinned (.plain (OpenSpec.ofChange reducerOnceSpec)) reducerOnceCard

/-- THE TIED CARD OF 'staithelaw19.MapperWhole'. -/
def mapperWholeCard : Claim7 := { stood := { row := mapperWholeRow, standIns := [], harness := (true, "dcb6ab82f2f0c84635babedfcfbaa795c131daf5b63a47d17e39df4986293316"), looks := true }, kinds := [], alts := [], laidByText := true, laidKinds := [.data, .data, .data, .sentinel, .sentinel], laidTests := true, laidLooks := .later }
def MapperWholeCardSaid : Prop := Claim7.holds Tryz.pinned (.plain (OpenSpec.ofChange mapperWholeSpec)) mapperWholeCard

/-- THE TIED CARD OF 'staithelaw21.ReducerRecords'. -/
def reducerRecordsCard : Claim7 := { stood := { row := reducerRecordsRow, standIns := [], harness := (true, "dcb6ab82f2f0c84635babedfcfbaa795c131daf5b63a47d17e39df4986293316"), looks := true }, kinds := [], alts := [], laidByText := true, laidKinds := [.data, .data, .data, .sentinel, .sentinel], laidTests := true, laidLooks := .later }
def ReducerRecordsCardSaid : Prop := Claim7.holds Tryz.pinned (.plain (OpenSpec.ofChange reducerRecordsSpec)) reducerRecordsCard

/-- THE TIED CARD OF 'staithelaw21.ReducerNone'. -/
def reducerNoneCard : Claim7 := { stood := { row := reducerNoneRow, standIns := [], harness := (true, "dcb6ab82f2f0c84635babedfcfbaa795c131daf5b63a47d17e39df4986293316"), looks := true }, kinds := [], alts := [], laidByText := true, laidKinds := [.data, .data, .data, .sentinel, .sentinel], laidTests := true, laidLooks := .later }
def ReducerNoneCardSaid : Prop := Claim7.holds Tryz.pinned (.plain (OpenSpec.ofChange reducerNoneSpec)) reducerNoneCard

/-- THE TIED CARD OF 'staithelaw26.CheckMerges'. -/
def checkMergesCard : Claim7 := { stood := { row := checkMergesRow, standIns := [], harness := (true, "dcb6ab82f2f0c84635babedfcfbaa795c131daf5b63a47d17e39df4986293316"), looks := true }, kinds := [], alts := [], laidByText := true, laidKinds := [.data, .data, .data, .sentinel, .sentinel], laidTests := true, laidLooks := .later }
def CheckMergesCardSaid : Prop := Claim7.holds Tryz.pinned (.plain (OpenSpec.ofChange checkMergesSpec)) checkMergesCard

/-- THE TIED CARD OF 'staithelaw21.ReducerRight'. -/
def reducerRightCard : Claim7 := { stood := { row := reducerRightRow, standIns := [], harness := (true, "dcb6ab82f2f0c84635babedfcfbaa795c131daf5b63a47d17e39df4986293316"), looks := true }, kinds := [], alts := [], laidByText := true, laidKinds := [.data, .data, .data, .sentinel, .sentinel], laidTests := true, laidLooks := .later }
def ReducerRightCardSaid : Prop := Claim7.holds Tryz.pinned (.plain (OpenSpec.ofChange reducerRightSpec)) reducerRightCard

/-- THE TIED CARD OF 'staithelaw21.ReducerOrders'. -/
def reducerOrdersCard : Claim7 := { stood := { row := reducerOrdersRow, standIns := [], harness := (true, "dcb6ab82f2f0c84635babedfcfbaa795c131daf5b63a47d17e39df4986293316"), looks := true }, kinds := [], alts := [], laidByText := true, laidKinds := [.data, .data, .data, .sentinel, .sentinel], laidTests := true, laidLooks := .later }
def ReducerOrdersCardSaid : Prop := Claim7.holds Tryz.pinned (.plain (OpenSpec.ofChange reducerOrdersSpec)) reducerOrdersCard

/-- THE TIED CARD OF 'staithelaw23.WorkerTries'. -/
def workerTriesCard : Claim7 := { stood := { row := workerTriesRow, standIns := [], harness := (true, "dcb6ab82f2f0c84635babedfcfbaa795c131daf5b63a47d17e39df4986293316"), looks := true }, kinds := [], alts := [], laidByText := true, laidKinds := [.data, .data, .data, .sentinel, .sentinel], laidTests := true, laidLooks := .later }
def WorkerTriesCardSaid : Prop := Claim7.holds Tryz.pinned (.plain (OpenSpec.ofChange workerTriesSpec)) workerTriesCard

/-- THE TIED CARD OF 'staithelaw23.WorkerParts'. -/
def workerPartsCard : Claim7 := { stood := { row := workerPartsRow, standIns := [], harness := (true, "dcb6ab82f2f0c84635babedfcfbaa795c131daf5b63a47d17e39df4986293316"), looks := true }, kinds := [], alts := [], laidByText := true, laidKinds := [.data, .data, .data, .sentinel, .sentinel], laidTests := true, laidLooks := .later }
def WorkerPartsCardSaid : Prop := Claim7.holds Tryz.pinned (.plain (OpenSpec.ofChange workerPartsSpec)) workerPartsCard

/-- THE TIED CARD OF 'staithelaw23.WorkerNone'. -/
def workerNoneCard : Claim7 := { stood := { row := workerNoneRow, standIns := [], harness := (true, "dcb6ab82f2f0c84635babedfcfbaa795c131daf5b63a47d17e39df4986293316"), looks := true }, kinds := [], alts := [], laidByText := true, laidKinds := [.data, .data, .data, .sentinel, .sentinel], laidTests := true, laidLooks := .later }
def WorkerNoneCardSaid : Prop := Claim7.holds Tryz.pinned (.plain (OpenSpec.ofChange workerNoneSpec)) workerNoneCard

/-- THE TIED CARD OF 'staithelaw23.WorkerScript'. -/
def workerScriptCard : Claim7 := { stood := { row := workerScriptRow, standIns := [], harness := (true, "dcb6ab82f2f0c84635babedfcfbaa795c131daf5b63a47d17e39df4986293316"), looks := true }, kinds := [], alts := [], laidByText := true, laidKinds := [.data, .data, .data, .sentinel, .sentinel], laidTests := true, laidLooks := .later }
def WorkerScriptCardSaid : Prop := Claim7.holds Tryz.pinned (.plain (OpenSpec.ofChange workerScriptSpec)) workerScriptCard

/-- THE SECOND FORM's CARD OF 'staithelaw26.CheckOrders'. -/
def checkOrdersUptoCard : Claim7 := { stood := { row := checkOrdersUptoRow, standIns := [], harness := (true, "dcb6ab82f2f0c84635babedfcfbaa795c131daf5b63a47d17e39df4986293316"), looks := true }, kinds := [], alts := [], laidByText := true, laidKinds := [.data, .data, .data, .sentinel, .sentinel], laidTests := true, laidLooks := .later }
def CheckOrdersUptoCardSaid : Prop := Claim7.holds Tryz.pinned (.plain (OpenSpec.upto checkOrdersSpec)) checkOrdersUptoCard

/-- THE SECOND FORM's CARD OF 'staithelaw19.MapperScript'. -/
def mapperScriptUptoCard : Claim7 := { stood := { row := mapperScriptUptoRow, standIns := [], harness := (true, "dcb6ab82f2f0c84635babedfcfbaa795c131daf5b63a47d17e39df4986293316"), looks := true }, kinds := [], alts := [], laidByText := true, laidKinds := [.data, .data, .data, .sentinel, .sentinel], laidTests := true, laidLooks := .later }
def MapperScriptUptoCardSaid : Prop := Claim7.holds Tryz.pinned (.plain (OpenSpec.upto mapperScriptSpec)) mapperScriptUptoCard

/-- THE SECOND FORM's CARD OF 'staithelaw19.MapperPushes'. -/
def mapperPushesUptoCard : Claim7 := { stood := { row := mapperPushesUptoRow, standIns := [], harness := (true, "dcb6ab82f2f0c84635babedfcfbaa795c131daf5b63a47d17e39df4986293316"), looks := true }, kinds := [], alts := [], laidByText := true, laidKinds := [.data, .data, .data, .sentinel, .sentinel], laidTests := true, laidLooks := .later }
def MapperPushesUptoCardSaid : Prop := Claim7.holds Tryz.pinned (.plain (OpenSpec.upto mapperPushesSpec)) mapperPushesUptoCard

/-- THE SECOND FORM's CARD OF 'staithelaw19.MapperNone'. -/
def mapperNoneUptoCard : Claim7 := { stood := { row := mapperNoneUptoRow, standIns := [], harness := (true, "dcb6ab82f2f0c84635babedfcfbaa795c131daf5b63a47d17e39df4986293316"), looks := true }, kinds := [], alts := [], laidByText := true, laidKinds := [.data, .data, .data, .sentinel, .sentinel], laidTests := true, laidLooks := .later }
def MapperNoneUptoCardSaid : Prop := Claim7.holds Tryz.pinned (.plain (OpenSpec.upto mapperNoneSpec)) mapperNoneUptoCard

/-- THE SECOND FORM's CARD OF 'staithelaw21.ReducerOnce'. -/
def reducerOnceUptoCard : Claim7 := { stood := { row := reducerOnceUptoRow, standIns := [], harness := (true, "dcb6ab82f2f0c84635babedfcfbaa795c131daf5b63a47d17e39df4986293316"), looks := true }, kinds := [], alts := [], laidByText := true, laidKinds := [.data, .data, .data, .sentinel, .sentinel], laidTests := true, laidLooks := .later }
def ReducerOnceUptoCardSaid : Prop := Claim7.holds Tryz.pinned (.plain (OpenSpec.upto reducerOnceSpec)) reducerOnceUptoCard

/-- THE SECOND FORM's CARD OF 'staithelaw19.MapperWhole'. -/
def mapperWholeUptoCard : Claim7 := { stood := { row := mapperWholeUptoRow, standIns := [], harness := (true, "dcb6ab82f2f0c84635babedfcfbaa795c131daf5b63a47d17e39df4986293316"), looks := true }, kinds := [], alts := [], laidByText := true, laidKinds := [.data, .data, .data, .sentinel, .sentinel], laidTests := true, laidLooks := .later }
def MapperWholeUptoCardSaid : Prop := Claim7.holds Tryz.pinned (.plain (OpenSpec.upto mapperWholeSpec)) mapperWholeUptoCard

/-- THE SECOND FORM's CARD OF 'staithelaw21.ReducerRecords'. -/
def reducerRecordsUptoCard : Claim7 := { stood := { row := reducerRecordsUptoRow, standIns := [], harness := (true, "dcb6ab82f2f0c84635babedfcfbaa795c131daf5b63a47d17e39df4986293316"), looks := true }, kinds := [], alts := [], laidByText := true, laidKinds := [.data, .data, .data, .sentinel, .sentinel], laidTests := true, laidLooks := .later }
def ReducerRecordsUptoCardSaid : Prop := Claim7.holds Tryz.pinned (.plain (OpenSpec.upto reducerRecordsSpec)) reducerRecordsUptoCard

/-- THE SECOND FORM's CARD OF 'staithelaw21.ReducerNone'. -/
def reducerNoneUptoCard : Claim7 := { stood := { row := reducerNoneUptoRow, standIns := [], harness := (true, "dcb6ab82f2f0c84635babedfcfbaa795c131daf5b63a47d17e39df4986293316"), looks := true }, kinds := [], alts := [], laidByText := true, laidKinds := [.data, .data, .data, .sentinel, .sentinel], laidTests := true, laidLooks := .later }
def ReducerNoneUptoCardSaid : Prop := Claim7.holds Tryz.pinned (.plain (OpenSpec.upto reducerNoneSpec)) reducerNoneUptoCard

/-- THE SECOND FORM's CARD OF 'staithelaw26.CheckMerges'. -/
def checkMergesUptoCard : Claim7 := { stood := { row := checkMergesUptoRow, standIns := [], harness := (true, "dcb6ab82f2f0c84635babedfcfbaa795c131daf5b63a47d17e39df4986293316"), looks := true }, kinds := [], alts := [], laidByText := true, laidKinds := [.data, .data, .data, .sentinel, .sentinel], laidTests := true, laidLooks := .later }
def CheckMergesUptoCardSaid : Prop := Claim7.holds Tryz.pinned (.plain (OpenSpec.upto checkMergesSpec)) checkMergesUptoCard

/-- THE SECOND FORM's CARD OF 'staithelaw21.ReducerRight'. -/
def reducerRightUptoCard : Claim7 := { stood := { row := reducerRightUptoRow, standIns := [], harness := (true, "dcb6ab82f2f0c84635babedfcfbaa795c131daf5b63a47d17e39df4986293316"), looks := true }, kinds := [], alts := [], laidByText := true, laidKinds := [.data, .data, .data, .sentinel, .sentinel], laidTests := true, laidLooks := .later }
def ReducerRightUptoCardSaid : Prop := Claim7.holds Tryz.pinned (.plain (OpenSpec.upto reducerRightSpec)) reducerRightUptoCard

/-- THE SECOND FORM's CARD OF 'staithelaw21.ReducerOrders'. -/
def reducerOrdersUptoCard : Claim7 := { stood := { row := reducerOrdersUptoRow, standIns := [], harness := (true, "dcb6ab82f2f0c84635babedfcfbaa795c131daf5b63a47d17e39df4986293316"), looks := true }, kinds := [], alts := [], laidByText := true, laidKinds := [.data, .data, .data, .sentinel, .sentinel], laidTests := true, laidLooks := .later }
def ReducerOrdersUptoCardSaid : Prop := Claim7.holds Tryz.pinned (.plain (OpenSpec.upto reducerOrdersSpec)) reducerOrdersUptoCard

/-- THE SECOND FORM's CARD OF 'staithelaw23.WorkerTries'. -/
def workerTriesUptoCard : Claim7 := { stood := { row := workerTriesUptoRow, standIns := [], harness := (true, "dcb6ab82f2f0c84635babedfcfbaa795c131daf5b63a47d17e39df4986293316"), looks := true }, kinds := [], alts := [], laidByText := true, laidKinds := [.data, .data, .data, .sentinel, .sentinel], laidTests := true, laidLooks := .later }
def WorkerTriesUptoCardSaid : Prop := Claim7.holds Tryz.pinned (.plain (OpenSpec.upto workerTriesSpec)) workerTriesUptoCard

/-- THE SECOND FORM's CARD OF 'staithelaw23.WorkerParts'. -/
def workerPartsUptoCard : Claim7 := { stood := { row := workerPartsUptoRow, standIns := [], harness := (true, "dcb6ab82f2f0c84635babedfcfbaa795c131daf5b63a47d17e39df4986293316"), looks := true }, kinds := [], alts := [], laidByText := true, laidKinds := [.data, .data, .data, .sentinel, .sentinel], laidTests := true, laidLooks := .later }
def WorkerPartsUptoCardSaid : Prop := Claim7.holds Tryz.pinned (.plain (OpenSpec.upto workerPartsSpec)) workerPartsUptoCard

/-- THE SECOND FORM's CARD OF 'staithelaw23.WorkerNone'. -/
def workerNoneUptoCard : Claim7 := { stood := { row := workerNoneUptoRow, standIns := [], harness := (true, "dcb6ab82f2f0c84635babedfcfbaa795c131daf5b63a47d17e39df4986293316"), looks := true }, kinds := [], alts := [], laidByText := true, laidKinds := [.data, .data, .data, .sentinel, .sentinel], laidTests := true, laidLooks := .later }
def WorkerNoneUptoCardSaid : Prop := Claim7.holds Tryz.pinned (.plain (OpenSpec.upto workerNoneSpec)) workerNoneUptoCard

/-- THE SECOND FORM's CARD OF 'staithelaw23.WorkerScript'. -/
def workerScriptUptoCard : Claim7 := { stood := { row := workerScriptUptoRow, standIns := [], harness := (true, "dcb6ab82f2f0c84635babedfcfbaa795c131daf5b63a47d17e39df4986293316"), looks := true }, kinds := [], alts := [], laidByText := true, laidKinds := [.data, .data, .data, .sentinel, .sentinel], laidTests := true, laidLooks := .later }
def WorkerScriptUptoCardSaid : Prop := Claim7.holds Tryz.pinned (.plain (OpenSpec.upto workerScriptSpec)) workerScriptUptoCard
end Rows
end Go.Proofs.YthgehekecfpikaaGreatDoor
