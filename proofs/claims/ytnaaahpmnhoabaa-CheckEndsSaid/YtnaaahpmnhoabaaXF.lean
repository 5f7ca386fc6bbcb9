/- The facts of the types that the walks cite. -/
import Derived.Test.YtnaaahpmnhoabaaXN
import Derived.Test.YtnaaahpmnhoabaaXD
import Derived.Test.YtnaaahpmnhoabaaProg
import Derived.KernelRfl
set_option linter.unusedVariables false
namespace Go.Proofs.Ytnaaahpmnhoabaa.X
open Go
theorem bd104 : bdOf Try.prog 104 = some (#[.int .i64 0, .int .i64 0, .int .i64 0, .int .i64 0, .int .i64 0, .slice none 0 0, .slice none 0 0], #[(0, 1), (1, 1), (2, 1), (3, 1), (4, 1), (5, 1), (6, 1)]) := by kernel_rfl
theorem bd46 : bdOf Try.prog 46 = some (#[.int .i64 0, .int .i64 0, .int .i64 0, .int .i64 0], #[(0, 1), (1, 1), (2, 1), (3, 1)]) := by kernel_rfl
theorem bd86 : bdOf Try.prog 86 = some (#[.int .i64 0, .int .i64 0, .string ⟨#[]⟩], #[(0, 1), (1, 1), (2, 1)]) := by kernel_rfl
theorem bd91 : bdOf Try.prog 91 = some (#[.string ⟨#[]⟩, .string ⟨#[]⟩], #[(0, 1), (1, 1)]) := by kernel_rfl
theorem bd98 : bdOf Try.prog 98 = some (#[.int .i64 0, .int .i64 0, .int .i64 0, .int .i64 0], #[(0, 1), (1, 1), (2, 1), (3, 1)]) := by kernel_rfl
theorem ce104 : Try.prog.cellsOf 104 = 7 := by kernel_rfl
theorem ce42 : Try.prog.cellsOf 42 = 2 := by kernel_rfl
theorem ce86 : Try.prog.cellsOf 86 = 3 := by kernel_rfl
theorem ce91 : Try.prog.cellsOf 91 = 2 := by kernel_rfl
theorem eq86 : EqT Try.prog 86 [⟨ "Op", 3, 0, false, "", "", 0⟩, ⟨ "A", 3, 1, false, "", "", 8⟩, ⟨ "S", 9, 2, false, "", "", 16⟩] := ⟨by kernel_rfl, by kernel_rfl, by kernel_rfl⟩
theorem eq91 : EqT Try.prog 91 [⟨ "Key", 9, 0, false, "", "", 0⟩, ⟨ "Value", 9, 1, false, "", "", 16⟩] := ⟨by kernel_rfl, by kernel_rfl, by kernel_rfl⟩
theorem fo104_0 : foOf Try.prog 104 0 = some 0 := by kernel_rfl
theorem fo104_1 : foOf Try.prog 104 1 = some 1 := by kernel_rfl
theorem fo104_2 : foOf Try.prog 104 2 = some 2 := by kernel_rfl
theorem fo104_3 : foOf Try.prog 104 3 = some 3 := by kernel_rfl
theorem fo104_4 : foOf Try.prog 104 4 = some 4 := by kernel_rfl
theorem fo104_5 : foOf Try.prog 104 5 = some 5 := by kernel_rfl
theorem fo104_6 : foOf Try.prog 104 6 = some 6 := by kernel_rfl
theorem fo42_0 : foOf Try.prog 42 0 = some 0 := by kernel_rfl
theorem fo42_1 : foOf Try.prog 42 1 = some 1 := by kernel_rfl
theorem fo46_0 : foOf Try.prog 46 0 = some 0 := by kernel_rfl
theorem fo46_1 : foOf Try.prog 46 1 = some 1 := by kernel_rfl
theorem fo46_2 : foOf Try.prog 46 2 = some 2 := by kernel_rfl
theorem fo46_3 : foOf Try.prog 46 3 = some 3 := by kernel_rfl
theorem fo86_0 : foOf Try.prog 86 0 = some 0 := by kernel_rfl
theorem fo86_1 : foOf Try.prog 86 1 = some 1 := by kernel_rfl
theorem fo86_2 : foOf Try.prog 86 2 = some 2 := by kernel_rfl
theorem fo91_0 : foOf Try.prog 91 0 = some 0 := by kernel_rfl
theorem fo91_1 : foOf Try.prog 91 1 = some 1 := by kernel_rfl
theorem fo98_0 : foOf Try.prog 98 0 = some 0 := by kernel_rfl
theorem fo98_1 : foOf Try.prog 98 1 = some 1 := by kernel_rfl
theorem fo98_2 : foOf Try.prog 98 2 = some 2 := by kernel_rfl
theorem fo98_3 : foOf Try.prog 98 3 = some 3 := by kernel_rfl
theorem kn100 : Known Try.prog 100 := known Try.func100 rfl rfl
theorem kn101 : Known Try.prog 101 := known Try.func101 rfl rfl
theorem kn102 : Known Try.prog 102 := known Try.func102 rfl rfl
theorem kn103 : Known Try.prog 103 := known Try.func103 rfl rfl
theorem kn104 : Known Try.prog 104 := known Try.func104 rfl rfl
theorem kn105 : Known Try.prog 105 := known Try.func105 rfl rfl
theorem kn106 : Known Try.prog 106 := known Try.func106 rfl rfl
theorem kn107 : Known Try.prog 107 := known Try.func107 rfl rfl
theorem kn111 : Known Try.prog 111 := known Try.func111 rfl rfl
theorem kn112 : Known Try.prog 112 := known Try.func112 rfl rfl
theorem kn113 : Known Try.prog 113 := known Try.func113 rfl rfl
theorem kn114 : Known Try.prog 114 := known Try.func114 rfl rfl
theorem kn135 : Known Try.prog 135 := known Try.func135 rfl rfl
theorem kn145 : Known Try.prog 145 := known Try.func145 rfl rfl
theorem kn21 : Known Try.prog 21 := known Try.func21 rfl rfl
theorem kn22 : Known Try.prog 22 := known Try.func22 rfl rfl
theorem kn23 : Known Try.prog 23 := known Try.func23 rfl rfl
theorem kn24 : Known Try.prog 24 := known Try.func24 rfl rfl
theorem kn25 : Known Try.prog 25 := known Try.func25 rfl rfl
theorem kn26 : Known Try.prog 26 := known Try.func26 rfl rfl
theorem kn27 : Known Try.prog 27 := known Try.func27 rfl rfl
theorem kn28 : Known Try.prog 28 := known Try.func28 rfl rfl
theorem kn29 : Known Try.prog 29 := known Try.func29 rfl rfl
theorem kn30 : Known Try.prog 30 := known Try.func30 rfl rfl
theorem kn31 : Known Try.prog 31 := known Try.func31 rfl rfl
theorem kn32 : Known Try.prog 32 := known Try.func32 rfl rfl
theorem kn33 : Known Try.prog 33 := known Try.func33 rfl rfl
theorem kn34 : Known Try.prog 34 := known Try.func34 rfl rfl
theorem kn35 : Known Try.prog 35 := known Try.func35 rfl rfl
theorem kn36 : Known Try.prog 36 := known Try.func36 rfl rfl
theorem kn37 : Known Try.prog 37 := known Try.func37 rfl rfl
theorem kn38 : Known Try.prog 38 := known Try.func38 rfl rfl
theorem kn39 : Known Try.prog 39 := known Try.func39 rfl rfl
theorem kn40 : Known Try.prog 40 := known Try.func40 rfl rfl
theorem kn41 : Known Try.prog 41 := known Try.func41 rfl rfl
theorem kn42 : Known Try.prog 42 := known Try.func42 rfl rfl
theorem kn43 : Known Try.prog 43 := known Try.func43 rfl rfl
theorem kn44 : Known Try.prog 44 := known Try.func44 rfl rfl
theorem kn45 : Known Try.prog 45 := known Try.func45 rfl rfl
theorem kn46 : Known Try.prog 46 := known Try.func46 rfl rfl
theorem kn47 : Known Try.prog 47 := known Try.func47 rfl rfl
theorem kn48 : Known Try.prog 48 := known Try.func48 rfl rfl
theorem kn49 : Known Try.prog 49 := known Try.func49 rfl rfl
theorem kn50 : Known Try.prog 50 := known Try.func50 rfl rfl
theorem kn51 : Known Try.prog 51 := known Try.func51 rfl rfl
theorem kn52 : Known Try.prog 52 := known Try.func52 rfl rfl
theorem kn53 : Known Try.prog 53 := known Try.func53 rfl rfl
theorem kn54 : Known Try.prog 54 := known Try.func54 rfl rfl
theorem kn55 : Known Try.prog 55 := known Try.func55 rfl rfl
theorem kn56 : Known Try.prog 56 := known Try.func56 rfl rfl
theorem kn57 : Known Try.prog 57 := known Try.func57 rfl rfl
theorem kn58 : Known Try.prog 58 := known Try.func58 rfl rfl
theorem kn59 : Known Try.prog 59 := known Try.func59 rfl rfl
theorem kn60 : Known Try.prog 60 := known Try.func60 rfl rfl
theorem kn61 : Known Try.prog 61 := known Try.func61 rfl rfl
theorem kn62 : Known Try.prog 62 := known Try.func62 rfl rfl
theorem kn63 : Known Try.prog 63 := known Try.func63 rfl rfl
theorem kn64 : Known Try.prog 64 := known Try.func64 rfl rfl
theorem kn65 : Known Try.prog 65 := known Try.func65 rfl rfl
theorem kn66 : Known Try.prog 66 := known Try.func66 rfl rfl
theorem kn67 : Known Try.prog 67 := known Try.func67 rfl rfl
theorem kn68 : Known Try.prog 68 := known Try.func68 rfl rfl
theorem kn69 : Known Try.prog 69 := known Try.func69 rfl rfl
theorem kn70 : Known Try.prog 70 := known Try.func70 rfl rfl
theorem kn71 : Known Try.prog 71 := known Try.func71 rfl rfl
theorem kn72 : Known Try.prog 72 := known Try.func72 rfl rfl
theorem kn73 : Known Try.prog 73 := known Try.func73 rfl rfl
theorem kn74 : Known Try.prog 74 := known Try.func74 rfl rfl
theorem kn75 : Known Try.prog 75 := known Try.func75 rfl rfl
theorem kn76 : Known Try.prog 76 := known Try.func76 rfl rfl
theorem kn77 : Known Try.prog 77 := known Try.func77 rfl rfl
theorem kn78 : Known Try.prog 78 := known Try.func78 rfl rfl
theorem kn79 : Known Try.prog 79 := known Try.func79 rfl rfl
theorem kn80 : Known Try.prog 80 := known Try.func80 rfl rfl
theorem kn81 : Known Try.prog 81 := known Try.func81 rfl rfl
theorem kn82 : Known Try.prog 82 := known Try.func82 rfl rfl
theorem kn83 : Known Try.prog 83 := known Try.func83 rfl rfl
theorem kn84 : Known Try.prog 84 := known Try.func84 rfl rfl
theorem kn85 : Known Try.prog 85 := known Try.func85 rfl rfl
theorem kn86 : Known Try.prog 86 := known Try.func86 rfl rfl
theorem kn87 : Known Try.prog 87 := known Try.func87 rfl rfl
theorem kn88 : Known Try.prog 88 := known Try.func88 rfl rfl
theorem kn89 : Known Try.prog 89 := known Try.func89 rfl rfl
theorem kn90 : Known Try.prog 90 := known Try.func90 rfl rfl
theorem kn91 : Known Try.prog 91 := known Try.func91 rfl rfl
theorem kn92 : Known Try.prog 92 := known Try.func92 rfl rfl
theorem kn93 : Known Try.prog 93 := known Try.func93 rfl rfl
theorem kn94 : Known Try.prog 94 := known Try.func94 rfl rfl
theorem kn95 : Known Try.prog 95 := known Try.func95 rfl rfl
theorem kn96 : Known Try.prog 96 := known Try.func96 rfl rfl
theorem kn97 : Known Try.prog 97 := known Try.func97 rfl rfl
theorem kn98 : Known Try.prog 98 := known Try.func98 rfl rfl
theorem kn99 : Known Try.prog 99 := known Try.func99 rfl rfl
theorem mo : Try.prog.follows .mixedOrders = true := by kernel_rfl
theorem sl22 : slOf Try.prog 22 = some (3, 1, 8) := by kernel_rfl
theorem sl31 : slOf Try.prog 31 = some (42, 2, 16) := by kernel_rfl
theorem sl51 : slOf Try.prog 51 = some (54, 1, 24) := by kernel_rfl
theorem sl54 : slOf Try.prog 54 = some (91, 2, 32) := by kernel_rfl
theorem sl66 : slOf Try.prog 66 = some (9, 1, 16) := by kernel_rfl
theorem sl71 : slOf Try.prog 71 = some (104, 7, 88) := by kernel_rfl
theorem sl79 : slOf Try.prog 79 = some (86, 3, 32) := by kernel_rfl
theorem st104 : stOf Try.prog 104 = some [(3, 0, 1), (3, 1, 1), (3, 2, 1), (3, 3, 1), (3, 4, 1), (22, 5, 1), (54, 6, 1)] := by kernel_rfl
theorem st42 : stOf Try.prog 42 = some [(3, 0, 1), (3, 1, 1)] := by kernel_rfl
theorem st86 : stOf Try.prog 86 = some [(3, 0, 1), (3, 1, 1), (9, 2, 1)] := by kernel_rfl
theorem st91 : stOf Try.prog 91 = some [(9, 0, 1), (9, 1, 1)] := by kernel_rfl
theorem ty104 : tyOf Try.prog 104 = some (true, 7) := by kernel_rfl
theorem ty22 : tyOf Try.prog 22 = some (false, 1) := by kernel_rfl
theorem ty3 : tyOf Try.prog 3 = some (false, 1) := by kernel_rfl
theorem ty54 : tyOf Try.prog 54 = some (false, 1) := by kernel_rfl
theorem ty86 : tyOf Try.prog 86 = some (true, 3) := by kernel_rfl
theorem ty9 : tyOf Try.prog 9 = some (false, 1) := by kernel_rfl
theorem ty91 : tyOf Try.prog 91 = some (true, 2) := by kernel_rfl
theorem un112 : Try.prog.underlying 112 = some (.int .u64) := by kernel_rfl
theorem un113 : Try.prog.underlying 113 = some (.int .u32) := by kernel_rfl
theorem un22 : Try.prog.underlying 22 = some (.slice 3) := by kernel_rfl
theorem un3 : Try.prog.underlying 3 = some (.int .i64) := by kernel_rfl
theorem un31 : Try.prog.underlying 31 = some (.slice 42) := by kernel_rfl
theorem un32 : Try.prog.underlying 32 = some (.pointer 98) := by kernel_rfl
theorem un36 : Try.prog.underlying 36 = some (.pointer 46) := by kernel_rfl
theorem un4 : Try.prog.underlying 4 = some (.bool) := by kernel_rfl
theorem un5 : Try.prog.underlying 5 = some (.int .u8) := by kernel_rfl
theorem un51 : Try.prog.underlying 51 = some (.slice 54) := by kernel_rfl
theorem un54 : Try.prog.underlying 54 = some (.slice 91) := by kernel_rfl
theorem un66 : Try.prog.underlying 66 = some (.slice 9) := by kernel_rfl
theorem un71 : Try.prog.underlying 71 = some (.slice 104) := by kernel_rfl
theorem un79 : Try.prog.underlying 79 = some (.slice 86) := by kernel_rfl
theorem un9 : Try.prog.underlying 9 = some (.string) := by kernel_rfl
theorem un96 : Try.prog.underlying 96 = some (.int .u64) := by kernel_rfl
theorem zr104 : zrOf Try.prog 104 = some (.agg #[.int .i64 0, .int .i64 0, .int .i64 0, .int .i64 0, .int .i64 0, .slice none 0 0, .slice none 0 0]) := by kernel_rfl
theorem zr3 : zrOf Try.prog 3 = some (.int .i64 0) := by kernel_rfl
theorem zr54 : zrOf Try.prog 54 = some (.slice none 0 0) := by kernel_rfl
theorem zr86 : zrOf Try.prog 86 = some (.agg #[.int .i64 0, .int .i64 0, .string ⟨#[]⟩]) := by kernel_rfl
theorem zr9 : zrOf Try.prog 9 = some (.string ⟨#[]⟩) := by kernel_rfl
theorem zr91 : zrOf Try.prog 91 = some (.agg #[.string ⟨#[]⟩, .string ⟨#[]⟩]) := by kernel_rfl
theorem eqz86 : InsT Try.prog 86 3 9 := ⟨⟨_, _, _, eq86, by decide, by decide, by decide, rfl, rfl, rfl, rfl, rfl, rfl⟩, un9, un3, ty9, ty3⟩
theorem eqz91 : PairT Try.prog 91 9 := ⟨⟨_, _, eq91, by decide, by decide, rfl, rfl, rfl, rfl⟩, un9, ty9⟩
end Go.Proofs.Ytnaaahpmnhoabaa.X
