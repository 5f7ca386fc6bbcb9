/-
  No cell of these rows narrows 'for every input' (looked for: loops, veiled, ifaces, maps, wideKeys, modest, calm, conditions, laid).
  DERIVED. THE GIVEN ROWS OF THIS SEAT. 18 by the template 'for every input the law returns true; each argument reads behind the call as it read before'; 0 by the template 'total and deterministic' (their statements: YtnaaahpmnhoabaaTotals.lean).
  GIVEN WITH THE SEED: the statements are not yours to turn. If you find one false, say at which input.
  Laid BY PROGRAM, IN A SANDBOX (cutbox-rows.mjs): the forced cells as the released guide's own fill.sh prints them over the translation 699588fbd06cd72b… (all of the seat's roots in one cut). By AI agents, Wed Nov 11 2026. No macro, syntax, notation, axiom, sorry.
-/
import Derived.Test.YtnaaahpmnhoabaaChecked
import GoSem.Claim
import GoSem.ClaimJoined
import GoSem.ClaimMapViews
import Derived.JoinedTies
import Derived.KernelRfl
namespace Go.Proofs.Ytnaaahpmnhoabaa
/- THE CELL 'sum', in the pinned program and in every row, IS THE sha256 OF THE DUMP (.gsa) THAT YtnaaahpmnhoabaaProg.lean LOADS. Nothing in Lean hashes anything: it is a label: what it is worth is what the hold of that sum in a sandbox is worth. -/
noncomputable def Try.pinned : Pinned := { name := "ytnaaahpmnhoabaa", sum := "699588fbd06cd72be8fc114d69b6babee8284317048bbfaa49e126356030c049", checked := Try.checked }
namespace Rows
def none {H : Type} : Left H := { results := [], args := [] }

/-- 'staithelaw20.SnapTells': WHATEVER THE INPUT: true; the input reads as it did. -/
def snapTellsSpec : ChangeSpec := { name := "snapTells", fn := fun _ => fun
  | [d1, d2, d3, d4] => { results := [.lit (.bool true)], args := [d1, d2, d3, d4] }
  | _ => none }
def snapTellsRow : OpenClaim := { program := "ytnaaahpmnhoabaa", sum := "699588fbd06cd72be8fc114d69b6babee8284317048bbfaa49e126356030c049", func := "staithe/staithelaw20.SnapTells", spec := "snapTells", unfollowed := true, recurses := true, apart := false }
def SnapTellsSaid : Prop := snapTellsRow.holds Try.pinned (OpenSpec.ofChange snapTellsSpec)

/-- ITS FALSE NEIGHBOUR: 'it returns false'. Refute it at one input. -/
def snapTellsWrong : ChangeSpec := { name := "snapTells", fn := fun _ => fun
  | [d1, d2, d3, d4] => { results := [.lit (.bool false)], args := [d1, d2, d3, d4] }
  | _ => none }
def SnapTellsWrongFalsely : Prop := snapTellsRow.holds Try.pinned (OpenSpec.ofChange snapTellsWrong)

/-- 'staithelaw20.SnapRises': WHATEVER THE INPUT: true; the input reads as it did. -/
def snapRisesSpec : ChangeSpec := { name := "snapRises", fn := fun _ => fun
  | [d1, d2] => { results := [.lit (.bool true)], args := [d1, d2] }
  | _ => none }
def snapRisesRow : OpenClaim := { program := "ytnaaahpmnhoabaa", sum := "699588fbd06cd72be8fc114d69b6babee8284317048bbfaa49e126356030c049", func := "staithe/staithelaw20.SnapRises", spec := "snapRises", unfollowed := true, recurses := true, apart := false }
def SnapRisesSaid : Prop := snapRisesRow.holds Try.pinned (OpenSpec.ofChange snapRisesSpec)

/-- ITS FALSE NEIGHBOUR: 'it returns false'. Refute it at one input. -/
def snapRisesWrong : ChangeSpec := { name := "snapRises", fn := fun _ => fun
  | [d1, d2] => { results := [.lit (.bool false)], args := [d1, d2] }
  | _ => none }
def SnapRisesWrongFalsely : Prop := snapRisesRow.holds Try.pinned (OpenSpec.ofChange snapRisesWrong)

/-- 'staithelaw20.SnapGrows': WHATEVER THE INPUT: true; the input reads as it did. -/
def snapGrowsSpec : ChangeSpec := { name := "snapGrows", fn := fun _ => fun
  | [d1, d2, d3] => { results := [.lit (.bool true)], args := [d1, d2, d3] }
  | _ => none }
def snapGrowsRow : OpenClaim := { program := "ytnaaahpmnhoabaa", sum := "699588fbd06cd72be8fc114d69b6babee8284317048bbfaa49e126356030c049", func := "staithe/staithelaw20.SnapGrows", spec := "snapGrows", unfollowed := true, recurses := true, apart := false }
def SnapGrowsSaid : Prop := snapGrowsRow.holds Try.pinned (OpenSpec.ofChange snapGrowsSpec)

/-- ITS FALSE NEIGHBOUR: 'it returns false'. Refute it at one input. -/
def snapGrowsWrong : ChangeSpec := { name := "snapGrows", fn := fun _ => fun
  | [d1, d2, d3] => { results := [.lit (.bool false)], args := [d1, d2, d3] }
  | _ => none }
def SnapGrowsWrongFalsely : Prop := snapGrowsRow.holds Try.pinned (OpenSpec.ofChange snapGrowsWrong)

/-- 'staithelaw17.WindowScript': WHATEVER THE INPUT: true; the input reads as it did. -/
def windowScriptSpec : ChangeSpec := { name := "windowScript", fn := fun _ => fun
  | [d1, d2, d3] => { results := [.lit (.bool true)], args := [d1, d2, d3] }
  | _ => none }
def windowScriptRow : OpenClaim := { program := "ytnaaahpmnhoabaa", sum := "699588fbd06cd72be8fc114d69b6babee8284317048bbfaa49e126356030c049", func := "staithe/staithelaw17.WindowScript", spec := "windowScript", apart := false }
def WindowScriptSaid : Prop := windowScriptRow.holds Try.pinned (OpenSpec.ofChange windowScriptSpec)

/-- ITS FALSE NEIGHBOUR: 'it returns false'. Refute it at one input. -/
def windowScriptWrong : ChangeSpec := { name := "windowScript", fn := fun _ => fun
  | [d1, d2, d3] => { results := [.lit (.bool false)], args := [d1, d2, d3] }
  | _ => none }
def WindowScriptWrongFalsely : Prop := windowScriptRow.holds Try.pinned (OpenSpec.ofChange windowScriptWrong)

/-- 'staithelaw17.WindowBounds': WHATEVER THE INPUT: true; the input reads as it did. -/
def windowBoundsSpec : ChangeSpec := { name := "windowBounds", fn := fun _ => fun
  | [d1, d2, d3] => { results := [.lit (.bool true)], args := [d1, d2, d3] }
  | _ => none }
def windowBoundsRow : OpenClaim := { program := "ytnaaahpmnhoabaa", sum := "699588fbd06cd72be8fc114d69b6babee8284317048bbfaa49e126356030c049", func := "staithe/staithelaw17.WindowBounds", spec := "windowBounds", apart := false }
def WindowBoundsSaid : Prop := windowBoundsRow.holds Try.pinned (OpenSpec.ofChange windowBoundsSpec)

/-- ITS FALSE NEIGHBOUR: 'it returns false'. Refute it at one input. -/
def windowBoundsWrong : ChangeSpec := { name := "windowBounds", fn := fun _ => fun
  | [d1, d2, d3] => { results := [.lit (.bool false)], args := [d1, d2, d3] }
  | _ => none }
def WindowBoundsWrongFalsely : Prop := windowBoundsRow.holds Try.pinned (OpenSpec.ofChange windowBoundsWrong)

/-- 'staithelaw17.WindowRuns': WHATEVER THE INPUT: true; the input reads as it did. -/
def windowRunsSpec : ChangeSpec := { name := "windowRuns", fn := fun _ => fun
  | [d1, d2, d3] => { results := [.lit (.bool true)], args := [d1, d2, d3] }
  | _ => none }
def windowRunsRow : OpenClaim := { program := "ytnaaahpmnhoabaa", sum := "699588fbd06cd72be8fc114d69b6babee8284317048bbfaa49e126356030c049", func := "staithe/staithelaw17.WindowRuns", spec := "windowRuns", apart := false }
def WindowRunsSaid : Prop := windowRunsRow.holds Try.pinned (OpenSpec.ofChange windowRunsSpec)

/-- ITS FALSE NEIGHBOUR: 'it returns false'. Refute it at one input. -/
def windowRunsWrong : ChangeSpec := { name := "windowRuns", fn := fun _ => fun
  | [d1, d2, d3] => { results := [.lit (.bool false)], args := [d1, d2, d3] }
  | _ => none }
def WindowRunsWrongFalsely : Prop := windowRunsRow.holds Try.pinned (OpenSpec.ofChange windowRunsWrong)

/-- 'staithelaw17.WindowNone': WHATEVER THE INPUT: true; the input reads as it did. -/
def windowNoneSpec : ChangeSpec := { name := "windowNone", fn := fun _ => fun
  | [d] => { results := [.lit (.bool true)], args := [d] }
  | _ => none }
def windowNoneRow : OpenClaim := { program := "ytnaaahpmnhoabaa", sum := "699588fbd06cd72be8fc114d69b6babee8284317048bbfaa49e126356030c049", func := "staithe/staithelaw17.WindowNone", spec := "windowNone", apart := false }
def WindowNoneSaid : Prop := windowNoneRow.holds Try.pinned (OpenSpec.ofChange windowNoneSpec)

/-- ITS FALSE NEIGHBOUR: 'it returns false'. Refute it at one input. -/
def windowNoneWrong : ChangeSpec := { name := "windowNone", fn := fun _ => fun
  | [d] => { results := [.lit (.bool false)], args := [d] }
  | _ => none }
def WindowNoneWrongFalsely : Prop := windowNoneRow.holds Try.pinned (OpenSpec.ofChange windowNoneWrong)

/-- 'staithelaw11.MergeRuns': WHATEVER THE INPUT: true; the input reads as it did. -/
def mergeRunsSpec : ChangeSpec := { name := "mergeRuns", fn := fun _ => fun
  | [d] => { results := [.lit (.bool true)], args := [d] }
  | _ => none }
def mergeRunsRow : OpenClaim := { program := "ytnaaahpmnhoabaa", sum := "699588fbd06cd72be8fc114d69b6babee8284317048bbfaa49e126356030c049", func := "staithe/staithelaw11.MergeRuns", spec := "mergeRuns", unfollowed := true, recurses := true, apart := false }
def MergeRunsSaid : Prop := mergeRunsRow.holds Try.pinned (OpenSpec.ofChange mergeRunsSpec)

/-- ITS FALSE NEIGHBOUR: 'it returns false'. Refute it at one input. -/
def mergeRunsWrong : ChangeSpec := { name := "mergeRuns", fn := fun _ => fun
  | [d] => { results := [.lit (.bool false)], args := [d] }
  | _ => none }
def MergeRunsWrongFalsely : Prop := mergeRunsRow.holds Try.pinned (OpenSpec.ofChange mergeRunsWrong)

/-- 'staithelaw11.MergeSorts': WHATEVER THE INPUT: true; the input reads as it did. -/
def mergeSortsSpec : ChangeSpec := { name := "mergeSorts", fn := fun _ => fun
  | [d1, d2] => { results := [.lit (.bool true)], args := [d1, d2] }
  | _ => none }
def mergeSortsRow : OpenClaim := { program := "ytnaaahpmnhoabaa", sum := "699588fbd06cd72be8fc114d69b6babee8284317048bbfaa49e126356030c049", func := "staithe/staithelaw11.MergeSorts", spec := "mergeSorts", unfollowed := true, recurses := true, apart := false }
def MergeSortsSaid : Prop := mergeSortsRow.holds Try.pinned (OpenSpec.ofChange mergeSortsSpec)

/-- ITS FALSE NEIGHBOUR: 'it returns false'. Refute it at one input. -/
def mergeSortsWrong : ChangeSpec := { name := "mergeSorts", fn := fun _ => fun
  | [d1, d2] => { results := [.lit (.bool false)], args := [d1, d2] }
  | _ => none }
def MergeSortsWrongFalsely : Prop := mergeSortsRow.holds Try.pinned (OpenSpec.ofChange mergeSortsWrong)

/-- 'staithelaw11.MergeEmpty': WHATEVER THE INPUT: true; the input reads as it did. -/
def mergeEmptySpec : ChangeSpec := { name := "mergeEmpty", fn := fun _ => fun
  | [d1, d2] => { results := [.lit (.bool true)], args := [d1, d2] }
  | _ => none }
def mergeEmptyRow : OpenClaim := { program := "ytnaaahpmnhoabaa", sum := "699588fbd06cd72be8fc114d69b6babee8284317048bbfaa49e126356030c049", func := "staithe/staithelaw11.MergeEmpty", spec := "mergeEmpty", unfollowed := true, recurses := true, apart := false }
def MergeEmptySaid : Prop := mergeEmptyRow.holds Try.pinned (OpenSpec.ofChange mergeEmptySpec)

/-- ITS FALSE NEIGHBOUR: 'it returns false'. Refute it at one input. -/
def mergeEmptyWrong : ChangeSpec := { name := "mergeEmpty", fn := fun _ => fun
  | [d1, d2] => { results := [.lit (.bool false)], args := [d1, d2] }
  | _ => none }
def MergeEmptyWrongFalsely : Prop := mergeEmptyRow.holds Try.pinned (OpenSpec.ofChange mergeEmptyWrong)

/-- 'staithelaw11.MergeParts': WHATEVER THE INPUT: true; the input reads as it did. -/
def mergePartsSpec : ChangeSpec := { name := "mergeParts", fn := fun _ => fun
  | [d1, d2, d3] => { results := [.lit (.bool true)], args := [d1, d2, d3] }
  | _ => none }
def mergePartsRow : OpenClaim := { program := "ytnaaahpmnhoabaa", sum := "699588fbd06cd72be8fc114d69b6babee8284317048bbfaa49e126356030c049", func := "staithe/staithelaw11.MergeParts", spec := "mergeParts", unfollowed := true, recurses := true, apart := false }
def MergePartsSaid : Prop := mergePartsRow.holds Try.pinned (OpenSpec.ofChange mergePartsSpec)

/-- ITS FALSE NEIGHBOUR: 'it returns false'. Refute it at one input. -/
def mergePartsWrong : ChangeSpec := { name := "mergeParts", fn := fun _ => fun
  | [d1, d2, d3] => { results := [.lit (.bool false)], args := [d1, d2, d3] }
  | _ => none }
def MergePartsWrongFalsely : Prop := mergePartsRow.holds Try.pinned (OpenSpec.ofChange mergePartsWrong)

/-- 'staithelaw26.CheckEnds': WHATEVER THE INPUT: true; the input reads as it did. -/
def checkEndsSpec : ChangeSpec := { name := "checkEnds", fn := fun _ => fun
  | [d1, d2, d3] => { results := [.lit (.bool true)], args := [d1, d2, d3] }
  | _ => none }
def checkEndsRow : OpenClaim := { program := "ytnaaahpmnhoabaa", sum := "699588fbd06cd72be8fc114d69b6babee8284317048bbfaa49e126356030c049", func := "staithe/staithelaw26.CheckEnds", spec := "checkEnds", recurses := true, apart := false }
def CheckEndsSaid : Prop := checkEndsRow.holds Try.pinned (OpenSpec.ofChange checkEndsSpec)

/-- ITS FALSE NEIGHBOUR: 'it returns false'. Refute it at one input. -/
def checkEndsWrong : ChangeSpec := { name := "checkEnds", fn := fun _ => fun
  | [d1, d2, d3] => { results := [.lit (.bool false)], args := [d1, d2, d3] }
  | _ => none }
def CheckEndsWrongFalsely : Prop := checkEndsRow.holds Try.pinned (OpenSpec.ofChange checkEndsWrong)

/-- 'staithelaw5.ProgTells': WHATEVER THE INPUT: true; the input reads as it did. -/
def progTellsSpec : ChangeSpec := { name := "progTells", fn := fun _ => fun
  | [d] => { results := [.lit (.bool true)], args := [d] }
  | _ => none }
def progTellsRow : OpenClaim := { program := "ytnaaahpmnhoabaa", sum := "699588fbd06cd72be8fc114d69b6babee8284317048bbfaa49e126356030c049", func := "staithe/staithelaw5.ProgTells", spec := "progTells", recurses := true, apart := false }
def ProgTellsSaid : Prop := progTellsRow.holds Try.pinned (OpenSpec.ofChange progTellsSpec)

/-- ITS FALSE NEIGHBOUR: 'it returns false'. Refute it at one input. -/
def progTellsWrong : ChangeSpec := { name := "progTells", fn := fun _ => fun
  | [d] => { results := [.lit (.bool false)], args := [d] }
  | _ => none }
def ProgTellsWrongFalsely : Prop := progTellsRow.holds Try.pinned (OpenSpec.ofChange progTellsWrong)

/-- 'staithelaw5.ProgParts': WHATEVER THE INPUT: true; the input reads as it did. -/
def progPartsSpec : ChangeSpec := { name := "progParts", fn := fun _ => fun
  | [d1, d2, d3] => { results := [.lit (.bool true)], args := [d1, d2, d3] }
  | _ => none }
def progPartsRow : OpenClaim := { program := "ytnaaahpmnhoabaa", sum := "699588fbd06cd72be8fc114d69b6babee8284317048bbfaa49e126356030c049", func := "staithe/staithelaw5.ProgParts", spec := "progParts", recurses := true, apart := false }
def ProgPartsSaid : Prop := progPartsRow.holds Try.pinned (OpenSpec.ofChange progPartsSpec)

/-- ITS FALSE NEIGHBOUR: 'it returns false'. Refute it at one input. -/
def progPartsWrong : ChangeSpec := { name := "progParts", fn := fun _ => fun
  | [d1, d2, d3] => { results := [.lit (.bool false)], args := [d1, d2, d3] }
  | _ => none }
def ProgPartsWrongFalsely : Prop := progPartsRow.holds Try.pinned (OpenSpec.ofChange progPartsWrong)

/-- 'staithelaw5.ProgJumps': WHATEVER THE INPUT: true; the input reads as it did. -/
def progJumpsSpec : ChangeSpec := { name := "progJumps", fn := fun _ => fun
  | [d1, d2, d3] => { results := [.lit (.bool true)], args := [d1, d2, d3] }
  | _ => none }
def progJumpsRow : OpenClaim := { program := "ytnaaahpmnhoabaa", sum := "699588fbd06cd72be8fc114d69b6babee8284317048bbfaa49e126356030c049", func := "staithe/staithelaw5.ProgJumps", spec := "progJumps", recurses := true, apart := false }
def ProgJumpsSaid : Prop := progJumpsRow.holds Try.pinned (OpenSpec.ofChange progJumpsSpec)

/-- ITS FALSE NEIGHBOUR: 'it returns false'. Refute it at one input. -/
def progJumpsWrong : ChangeSpec := { name := "progJumps", fn := fun _ => fun
  | [d1, d2, d3] => { results := [.lit (.bool false)], args := [d1, d2, d3] }
  | _ => none }
def ProgJumpsWrongFalsely : Prop := progJumpsRow.holds Try.pinned (OpenSpec.ofChange progJumpsWrong)

/-- 'staithelaw7.PairStable': WHATEVER THE INPUT: true; the input reads as it did. -/
def pairStableSpec : ChangeSpec := { name := "pairStable", fn := fun _ => fun
  | [d] => { results := [.lit (.bool true)], args := [d] }
  | _ => none }
def pairStableRow : OpenClaim := { program := "ytnaaahpmnhoabaa", sum := "699588fbd06cd72be8fc114d69b6babee8284317048bbfaa49e126356030c049", func := "staithe/staithelaw7.PairStable", spec := "pairStable", unfollowed := true, recurses := true, apart := false }
def PairStableSaid : Prop := pairStableRow.holds Try.pinned (OpenSpec.ofChange pairStableSpec)

/-- ITS FALSE NEIGHBOUR: 'it returns false'. Refute it at one input. -/
def pairStableWrong : ChangeSpec := { name := "pairStable", fn := fun _ => fun
  | [d] => { results := [.lit (.bool false)], args := [d] }
  | _ => none }
def PairStableWrongFalsely : Prop := pairStableRow.holds Try.pinned (OpenSpec.ofChange pairStableWrong)

/-- 'staithelaw7.PairTells': WHATEVER THE INPUT: true; the input reads as it did. -/
def pairTellsSpec : ChangeSpec := { name := "pairTells", fn := fun _ => fun
  | [d1, d2, d3] => { results := [.lit (.bool true)], args := [d1, d2, d3] }
  | _ => none }
def pairTellsRow : OpenClaim := { program := "ytnaaahpmnhoabaa", sum := "699588fbd06cd72be8fc114d69b6babee8284317048bbfaa49e126356030c049", func := "staithe/staithelaw7.PairTells", spec := "pairTells", unfollowed := true, recurses := true, apart := false }
def PairTellsSaid : Prop := pairTellsRow.holds Try.pinned (OpenSpec.ofChange pairTellsSpec)

/-- ITS FALSE NEIGHBOUR: 'it returns false'. Refute it at one input. -/
def pairTellsWrong : ChangeSpec := { name := "pairTells", fn := fun _ => fun
  | [d1, d2, d3] => { results := [.lit (.bool false)], args := [d1, d2, d3] }
  | _ => none }
def PairTellsWrongFalsely : Prop := pairTellsRow.holds Try.pinned (OpenSpec.ofChange pairTellsWrong)

/-- 'staithelaw7.PairParts': WHATEVER THE INPUT: true; the input reads as it did. -/
def pairPartsSpec : ChangeSpec := { name := "pairParts", fn := fun _ => fun
  | [d1, d2, d3] => { results := [.lit (.bool true)], args := [d1, d2, d3] }
  | _ => none }
def pairPartsRow : OpenClaim := { program := "ytnaaahpmnhoabaa", sum := "699588fbd06cd72be8fc114d69b6babee8284317048bbfaa49e126356030c049", func := "staithe/staithelaw7.PairParts", spec := "pairParts", unfollowed := true, recurses := true, apart := false }
def PairPartsSaid : Prop := pairPartsRow.holds Try.pinned (OpenSpec.ofChange pairPartsSpec)

/-- ITS FALSE NEIGHBOUR: 'it returns false'. Refute it at one input. -/
def pairPartsWrong : ChangeSpec := { name := "pairParts", fn := fun _ => fun
  | [d1, d2, d3] => { results := [.lit (.bool false)], args := [d1, d2, d3] }
  | _ => none }
def PairPartsWrongFalsely : Prop := pairPartsRow.holds Try.pinned (OpenSpec.ofChange pairPartsWrong)

/- THE SECOND FORM. 'bulk': how many values and letters a reading holds, each counted each time it is reached (what is shared counts as often as it is met; a slice's spare places count too). A statement '..UptoSaid' is the law's where the arguments, and the package variables that the reading takes, are together of bulk at most 1048576: NARROWER than '..Said'. Prove '..Said' where nothing that the law and all that it calls make is longer than what came in: it says more and counts as full. Else prove '..UptoSaid'. A law counts once. -/
mutual
def uptoBulk {H : Type} : DataW H → Nat
  | .lit (.string bytes) => bytes.length + 1
  | .lit _ => 1
  | .nil => 1
  | .ptr d => uptoBulk d + 1
  | .slice elems spare => uptoBulkAll elems + uptoBulkAll spare + 1
  | .agg parts => uptoBulkAll parts + 1
  | .iface _ d => uptoBulk d + 1
  | .map entries => uptoBulkEntries entries + 1
  | .held _ => 1
def uptoBulkAll {H : Type} : List (DataW H) → Nat
  | [] => 0
  | d :: r => uptoBulk d + uptoBulkAll r
def uptoBulkEntries {H : Type} : List (Lit × DataW H) → Nat
  | [] => 0
  | x :: r => uptoBulkEntry x + uptoBulkEntries r
def uptoBulkEntry {H : Type} : Lit × DataW H → Nat
  | (.string bytes, d) => bytes.length + uptoBulk d + 1
  | (_, d) => uptoBulk d + 1
 end
def uptoSmall : (H : Type) → List (DataW H) → Bool := fun _ ds => decide (uptoBulkAll ds ≤ 1048576)
def OpenSpec.upto (s : _root_.Go.ChangeSpec) : _root_.Go.OpenSpec := { _root_.Go.OpenSpec.ofChange s with cond := some uptoSmall }

/-- 'staithelaw20.SnapTells', WHERE WHAT IT READS IS OF BULK AT MOST 1048576: true; the input reads as it did. -/
def snapTellsUptoRow : OpenClaim := { program := "ytnaaahpmnhoabaa", sum := "699588fbd06cd72be8fc114d69b6babee8284317048bbfaa49e126356030c049", func := "staithe/staithelaw20.SnapTells", spec := "snapTells", unfollowed := true, recurses := true, apart := false, narrowed := true }
def SnapTellsUptoSaid : Prop := snapTellsUptoRow.holds Try.pinned (OpenSpec.upto snapTellsSpec)

/-- 'staithelaw20.SnapRises', WHERE WHAT IT READS IS OF BULK AT MOST 1048576: true; the input reads as it did. -/
def snapRisesUptoRow : OpenClaim := { program := "ytnaaahpmnhoabaa", sum := "699588fbd06cd72be8fc114d69b6babee8284317048bbfaa49e126356030c049", func := "staithe/staithelaw20.SnapRises", spec := "snapRises", unfollowed := true, recurses := true, apart := false, narrowed := true }
def SnapRisesUptoSaid : Prop := snapRisesUptoRow.holds Try.pinned (OpenSpec.upto snapRisesSpec)

/-- 'staithelaw20.SnapGrows', WHERE WHAT IT READS IS OF BULK AT MOST 1048576: true; the input reads as it did. -/
def snapGrowsUptoRow : OpenClaim := { program := "ytnaaahpmnhoabaa", sum := "699588fbd06cd72be8fc114d69b6babee8284317048bbfaa49e126356030c049", func := "staithe/staithelaw20.SnapGrows", spec := "snapGrows", unfollowed := true, recurses := true, apart := false, narrowed := true }
def SnapGrowsUptoSaid : Prop := snapGrowsUptoRow.holds Try.pinned (OpenSpec.upto snapGrowsSpec)

/-- 'staithelaw17.WindowScript', WHERE WHAT IT READS IS OF BULK AT MOST 1048576: true; the input reads as it did. -/
def windowScriptUptoRow : OpenClaim := { program := "ytnaaahpmnhoabaa", sum := "699588fbd06cd72be8fc114d69b6babee8284317048bbfaa49e126356030c049", func := "staithe/staithelaw17.WindowScript", spec := "windowScript", apart := false, narrowed := true }
def WindowScriptUptoSaid : Prop := windowScriptUptoRow.holds Try.pinned (OpenSpec.upto windowScriptSpec)

/-- 'staithelaw17.WindowBounds', WHERE WHAT IT READS IS OF BULK AT MOST 1048576: true; the input reads as it did. -/
def windowBoundsUptoRow : OpenClaim := { program := "ytnaaahpmnhoabaa", sum := "699588fbd06cd72be8fc114d69b6babee8284317048bbfaa49e126356030c049", func := "staithe/staithelaw17.WindowBounds", spec := "windowBounds", apart := false, narrowed := true }
def WindowBoundsUptoSaid : Prop := windowBoundsUptoRow.holds Try.pinned (OpenSpec.upto windowBoundsSpec)

/-- 'staithelaw17.WindowRuns', WHERE WHAT IT READS IS OF BULK AT MOST 1048576: true; the input reads as it did. -/
def windowRunsUptoRow : OpenClaim := { program := "ytnaaahpmnhoabaa", sum := "699588fbd06cd72be8fc114d69b6babee8284317048bbfaa49e126356030c049", func := "staithe/staithelaw17.WindowRuns", spec := "windowRuns", apart := false, narrowed := true }
def WindowRunsUptoSaid : Prop := windowRunsUptoRow.holds Try.pinned (OpenSpec.upto windowRunsSpec)

/-- 'staithelaw17.WindowNone', WHERE WHAT IT READS IS OF BULK AT MOST 1048576: true; the input reads as it did. -/
def windowNoneUptoRow : OpenClaim := { program := "ytnaaahpmnhoabaa", sum := "699588fbd06cd72be8fc114d69b6babee8284317048bbfaa49e126356030c049", func := "staithe/staithelaw17.WindowNone", spec := "windowNone", apart := false, narrowed := true }
def WindowNoneUptoSaid : Prop := windowNoneUptoRow.holds Try.pinned (OpenSpec.upto windowNoneSpec)

/-- 'staithelaw11.MergeRuns', WHERE WHAT IT READS IS OF BULK AT MOST 1048576: true; the input reads as it did. -/
def mergeRunsUptoRow : OpenClaim := { program := "ytnaaahpmnhoabaa", sum := "699588fbd06cd72be8fc114d69b6babee8284317048bbfaa49e126356030c049", func := "staithe/staithelaw11.MergeRuns", spec := "mergeRuns", unfollowed := true, recurses := true, apart := false, narrowed := true }
def MergeRunsUptoSaid : Prop := mergeRunsUptoRow.holds Try.pinned (OpenSpec.upto mergeRunsSpec)

/-- 'staithelaw11.MergeSorts', WHERE WHAT IT READS IS OF BULK AT MOST 1048576: true; the input reads as it did. -/
def mergeSortsUptoRow : OpenClaim := { program := "ytnaaahpmnhoabaa", sum := "699588fbd06cd72be8fc114d69b6babee8284317048bbfaa49e126356030c049", func := "staithe/staithelaw11.MergeSorts", spec := "mergeSorts", unfollowed := true, recurses := true, apart := false, narrowed := true }
def MergeSortsUptoSaid : Prop := mergeSortsUptoRow.holds Try.pinned (OpenSpec.upto mergeSortsSpec)

/-- 'staithelaw11.MergeEmpty', WHERE WHAT IT READS IS OF BULK AT MOST 1048576: true; the input reads as it did. -/
def mergeEmptyUptoRow : OpenClaim := { program := "ytnaaahpmnhoabaa", sum := "699588fbd06cd72be8fc114d69b6babee8284317048bbfaa49e126356030c049", func := "staithe/staithelaw11.MergeEmpty", spec := "mergeEmpty", unfollowed := true, recurses := true, apart := false, narrowed := true }
def MergeEmptyUptoSaid : Prop := mergeEmptyUptoRow.holds Try.pinned (OpenSpec.upto mergeEmptySpec)

/-- 'staithelaw11.MergeParts', WHERE WHAT IT READS IS OF BULK AT MOST 1048576: true; the input reads as it did. -/
def mergePartsUptoRow : OpenClaim := { program := "ytnaaahpmnhoabaa", sum := "699588fbd06cd72be8fc114d69b6babee8284317048bbfaa49e126356030c049", func := "staithe/staithelaw11.MergeParts", spec := "mergeParts", unfollowed := true, recurses := true, apart := false, narrowed := true }
def MergePartsUptoSaid : Prop := mergePartsUptoRow.holds Try.pinned (OpenSpec.upto mergePartsSpec)

/-- 'staithelaw26.CheckEnds', WHERE WHAT IT READS IS OF BULK AT MOST 1048576: true; the input reads as it did. -/
def checkEndsUptoRow : OpenClaim := { program := "ytnaaahpmnhoabaa", sum := "699588fbd06cd72be8fc114d69b6babee8284317048bbfaa49e126356030c049", func := "staithe/staithelaw26.CheckEnds", spec := "checkEnds", recurses := true, apart := false, narrowed := true }
def CheckEndsUptoSaid : Prop := checkEndsUptoRow.holds Try.pinned (OpenSpec.upto checkEndsSpec)

/-- 'staithelaw5.ProgTells', WHERE WHAT IT READS IS OF BULK AT MOST 1048576: true; the input reads as it did. -/
def progTellsUptoRow : OpenClaim := { program := "ytnaaahpmnhoabaa", sum := "699588fbd06cd72be8fc114d69b6babee8284317048bbfaa49e126356030c049", func := "staithe/staithelaw5.ProgTells", spec := "progTells", recurses := true, apart := false, narrowed := true }
def ProgTellsUptoSaid : Prop := progTellsUptoRow.holds Try.pinned (OpenSpec.upto progTellsSpec)

/-- 'staithelaw5.ProgParts', WHERE WHAT IT READS IS OF BULK AT MOST 1048576: true; the input reads as it did. -/
def progPartsUptoRow : OpenClaim := { program := "ytnaaahpmnhoabaa", sum := "699588fbd06cd72be8fc114d69b6babee8284317048bbfaa49e126356030c049", func := "staithe/staithelaw5.ProgParts", spec := "progParts", recurses := true, apart := false, narrowed := true }
def ProgPartsUptoSaid : Prop := progPartsUptoRow.holds Try.pinned (OpenSpec.upto progPartsSpec)

/-- 'staithelaw5.ProgJumps', WHERE WHAT IT READS IS OF BULK AT MOST 1048576: true; the input reads as it did. -/
def progJumpsUptoRow : OpenClaim := { program := "ytnaaahpmnhoabaa", sum := "699588fbd06cd72be8fc114d69b6babee8284317048bbfaa49e126356030c049", func := "staithe/staithelaw5.ProgJumps", spec := "progJumps", recurses := true, apart := false, narrowed := true }
def ProgJumpsUptoSaid : Prop := progJumpsUptoRow.holds Try.pinned (OpenSpec.upto progJumpsSpec)

/-- 'staithelaw7.PairStable', WHERE WHAT IT READS IS OF BULK AT MOST 1048576: true; the input reads as it did. -/
def pairStableUptoRow : OpenClaim := { program := "ytnaaahpmnhoabaa", sum := "699588fbd06cd72be8fc114d69b6babee8284317048bbfaa49e126356030c049", func := "staithe/staithelaw7.PairStable", spec := "pairStable", unfollowed := true, recurses := true, apart := false, narrowed := true }
def PairStableUptoSaid : Prop := pairStableUptoRow.holds Try.pinned (OpenSpec.upto pairStableSpec)

/-- 'staithelaw7.PairTells', WHERE WHAT IT READS IS OF BULK AT MOST 1048576: true; the input reads as it did. -/
def pairTellsUptoRow : OpenClaim := { program := "ytnaaahpmnhoabaa", sum := "699588fbd06cd72be8fc114d69b6babee8284317048bbfaa49e126356030c049", func := "staithe/staithelaw7.PairTells", spec := "pairTells", unfollowed := true, recurses := true, apart := false, narrowed := true }
def PairTellsUptoSaid : Prop := pairTellsUptoRow.holds Try.pinned (OpenSpec.upto pairTellsSpec)

/-- 'staithelaw7.PairParts', WHERE WHAT IT READS IS OF BULK AT MOST 1048576: true; the input reads as it did. -/
def pairPartsUptoRow : OpenClaim := { program := "ytnaaahpmnhoabaa", sum := "699588fbd06cd72be8fc114d69b6babee8284317048bbfaa49e126356030c049", func := "staithe/staithelaw7.PairParts", spec := "pairParts", unfollowed := true, recurses := true, apart := false, narrowed := true }
def PairPartsUptoSaid : Prop := pairPartsUptoRow.holds Try.pinned (OpenSpec.upto pairPartsSpec)

end Rows
end Go.Proofs.Ytnaaahpmnhoabaa
