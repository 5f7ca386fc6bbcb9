/- The facts of the types that the walks cite. -/
import Derived.Test.YtlpgdkbokakniaaGreatDoorXSy
import Derived.Test.YtlpgdkbokakniaaGreatDoorXN
import Derived.Test.YtlpgdkbokakniaaGreatDoorXD
import Derived.Test.YtlpgdkbokakniaaGreatDoorProg
import Derived.KernelRfl
set_option linter.unusedVariables false
namespace Go.Proofs.YtlpgdkbokakniaaGreatDoor.X
open Go
theorem bd104 : bdOf Tryz.prog 104 = some (#[.bool false, .int .i64 0, .string ⟨#[]⟩], #[(0, 1), (1, 1), (2, 1)]) := by kernel_rfl
theorem bd108 : bdOf Tryz.prog 108 = some (#[.slice none 0 0, .string ⟨#[]⟩, .slice none 0 0, .int .i64 0, .int .i64 0, .int .i64 0, .bool false, .slice none 0 0, .bool false, .int .i64 0, .string ⟨#[]⟩, .bool false, .int .i64 0, .string ⟨#[]⟩, .bool false, .int .i64 0, .string ⟨#[]⟩, .bool false, .int .i64 0, .string ⟨#[]⟩, .bool false, .int .i64 0, .string ⟨#[]⟩, .bool false, .int .i64 0, .string ⟨#[]⟩, .bool false, .int .i64 0, .string ⟨#[]⟩, .bool false, .int .i64 0, .string ⟨#[]⟩, .slice none 0 0, .map none], #[(0, 1), (1, 1), (2, 1), (3, 1), (4, 1), (5, 1), (6, 1), (7, 1), (8, 24), (32, 1), (33, 1)]) := by kernel_rfl
theorem bd185 : bdOf Tryz.prog 185 = some (#[.int .u32 0, .int .i32 0, .int .u32 0, .int .u32 0, .nilFunc, .string ⟨#[]⟩], #[(0, 3), (3, 1), (4, 1), (5, 1)]) := by kernel_rfl
theorem bd29 : bdOf Tryz.prog 29 = some (#[.int .i64 0, .int .i64 0, .string ⟨#[]⟩], #[(0, 1), (1, 1), (2, 1)]) := by kernel_rfl
theorem bd56 : bdOf Tryz.prog 56 = some (#[.string ⟨#[]⟩, .string ⟨#[]⟩], #[(0, 1), (1, 1)]) := by kernel_rfl
theorem bd96 : bdOf Tryz.prog 96 = some (#[.int .i64 0, .int .i64 0, .int .i64 0, .int .i64 0, .int .i64 0, .int .i64 0, .int .i64 0, .int .i64 0], #[(0, 8)]) := by kernel_rfl
theorem ce29 : Tryz.prog.cellsOf 29 = 3 := by kernel_rfl
theorem ce56 : Tryz.prog.cellsOf 56 = 2 := by kernel_rfl
theorem eq56 : EqT Tryz.prog 56 [⟨ "Key", 9, 0, false, "", "", 0⟩, ⟨ "Value", 9, 1, false, "", "", 16⟩] := ⟨by kernel_rfl, by kernel_rfl, by kernel_rfl⟩
theorem ex116 : ExtIs Tryz.prog 116 (Extern.Atomic.loadT (.int .i64)) := ⟨_, Tryz.func116, by kernel_rfl, by kernel_rfl, by kernel_rfl, by kernel_rfl⟩
theorem ex117 : ExtIs Tryz.prog 117 (Extern.Atomic.casT (.int .i64)) := ⟨_, Tryz.func117, by kernel_rfl, by kernel_rfl, by kernel_rfl, by kernel_rfl⟩
theorem ex151 : ExtIs Tryz.prog 151 (Extern.Atomic.storeT) := ⟨_, Tryz.func151, by kernel_rfl, by kernel_rfl, by kernel_rfl, by kernel_rfl⟩
theorem ex165 : ExtIs Tryz.prog 165 (Extern.Atomic.loadT (.int .u32)) := ⟨_, Tryz.func165, by kernel_rfl, by kernel_rfl, by kernel_rfl, by kernel_rfl⟩
theorem ex182 : ExtIs Tryz.prog 182 (fun _ => do mark .disable; pure Extern.Race.none_) := ⟨_, Tryz.func182, by kernel_rfl, by kernel_rfl, by kernel_rfl, by kernel_rfl⟩
theorem ex183 : ExtIs Tryz.prog 183 (Extern.Atomic.casT (.int .i32)) := ⟨_, Tryz.func183, by kernel_rfl, by kernel_rfl, by kernel_rfl, by kernel_rfl⟩
theorem ex184 : ExtIs Tryz.prog 184 (fun _ => do mark .enable; pure Extern.Race.none_) := ⟨_, Tryz.func184, by kernel_rfl, by kernel_rfl, by kernel_rfl, by kernel_rfl⟩
theorem ex185 : ExtIs Tryz.prog 185 (Extern.Race.marked .acquire) := ⟨_, Tryz.func185, by kernel_rfl, by kernel_rfl, by kernel_rfl, by kernel_rfl⟩
theorem ex187 : ExtIs Tryz.prog 187 (Extern.Race.marked .releaseMerge) := ⟨_, Tryz.func187, by kernel_rfl, by kernel_rfl, by kernel_rfl, by kernel_rfl⟩
theorem ex188 : ExtIs Tryz.prog 188 (Extern.Atomic.update (Op.intArith .add) .i32 true) := ⟨_, Tryz.func188, by kernel_rfl, by kernel_rfl, by kernel_rfl, by kernel_rfl⟩
theorem fo104_0 : foOf Tryz.prog 104 0 = some 0 := by kernel_rfl
theorem fo104_1 : foOf Tryz.prog 104 1 = some 1 := by kernel_rfl
theorem fo104_2 : foOf Tryz.prog 104 2 = some 2 := by kernel_rfl
theorem fo108_1 : foOf Tryz.prog 108 1 = some 1 := by kernel_rfl
theorem fo108_10 : foOf Tryz.prog 108 10 = some 33 := by kernel_rfl
theorem fo108_2 : foOf Tryz.prog 108 2 = some 2 := by kernel_rfl
theorem fo108_3 : foOf Tryz.prog 108 3 = some 3 := by kernel_rfl
theorem fo108_4 : foOf Tryz.prog 108 4 = some 4 := by kernel_rfl
theorem fo108_5 : foOf Tryz.prog 108 5 = some 5 := by kernel_rfl
theorem fo108_6 : foOf Tryz.prog 108 6 = some 6 := by kernel_rfl
theorem fo108_7 : foOf Tryz.prog 108 7 = some 7 := by kernel_rfl
theorem fo108_8 : foOf Tryz.prog 108 8 = some 8 := by kernel_rfl
theorem fo108_9 : foOf Tryz.prog 108 9 = some 32 := by kernel_rfl
theorem fo177_1 : foOf Tryz.prog 177 1 = some 0 := by kernel_rfl
theorem fo179_0 : foOf Tryz.prog 179 0 = some 0 := by kernel_rfl
theorem fo181_1 : foOf Tryz.prog 181 1 = some 0 := by kernel_rfl
theorem fo183_1 : foOf Tryz.prog 183 1 = some 0 := by kernel_rfl
theorem fo185_0 : foOf Tryz.prog 185 0 = some 0 := by kernel_rfl
theorem fo185_1 : foOf Tryz.prog 185 1 = some 3 := by kernel_rfl
theorem fo185_2 : foOf Tryz.prog 185 2 = some 4 := by kernel_rfl
theorem fo185_3 : foOf Tryz.prog 185 3 = some 5 := by kernel_rfl
theorem fo29_0 : foOf Tryz.prog 29 0 = some 0 := by kernel_rfl
theorem fo29_1 : foOf Tryz.prog 29 1 = some 1 := by kernel_rfl
theorem fo29_2 : foOf Tryz.prog 29 2 = some 2 := by kernel_rfl
theorem fo56_0 : foOf Tryz.prog 56 0 = some 0 := by kernel_rfl
theorem fo56_1 : foOf Tryz.prog 56 1 = some 1 := by kernel_rfl
theorem fo93_2 : foOf Tryz.prog 93 2 = some 0 := by kernel_rfl
theorem fo96_0 : foOf Tryz.prog 96 0 = some 0 := by kernel_rfl
theorem is104 : (Tryz.prog.info? 104).map (·.size) = some 3 := by kernel_rfl
theorem is93 : (Tryz.prog.info? 93).map (·.size) = some 1 := by kernel_rfl
theorem kn10 : Known Tryz.prog 10 := known Tryz.func10 rfl rfl
theorem kn103 : Known Tryz.prog 103 := known Tryz.func103 rfl rfl
theorem kn104 : Known Tryz.prog 104 := known Tryz.func104 rfl rfl
theorem kn105 : Known Tryz.prog 105 := known Tryz.func105 rfl rfl
theorem kn106 : Known Tryz.prog 106 := known Tryz.func106 rfl rfl
theorem kn107 : Known Tryz.prog 107 := known Tryz.func107 rfl rfl
theorem kn108 : Known Tryz.prog 108 := known Tryz.func108 rfl rfl
theorem kn109 : Known Tryz.prog 109 := known Tryz.func109 rfl rfl
theorem kn11 : Known Tryz.prog 11 := known Tryz.func11 rfl rfl
theorem kn110 : Known Tryz.prog 110 := known Tryz.func110 rfl rfl
theorem kn111 : Known Tryz.prog 111 := known Tryz.func111 rfl rfl
theorem kn112 : Known Tryz.prog 112 := known Tryz.func112 rfl rfl
theorem kn113 : Known Tryz.prog 113 := known Tryz.func113 rfl rfl
theorem kn114 : Known Tryz.prog 114 := known Tryz.func114 rfl rfl
theorem kn115 : Known Tryz.prog 115 := known Tryz.func115 rfl rfl
theorem kn118 : Known Tryz.prog 118 := known Tryz.func118 rfl rfl
theorem kn12 : Known Tryz.prog 12 := known Tryz.func12 rfl rfl
theorem kn126 : Known Tryz.prog 126 := known Tryz.func126 rfl rfl
theorem kn127 : Known Tryz.prog 127 := known Tryz.func127 rfl rfl
theorem kn128 : Known Tryz.prog 128 := known Tryz.func128 rfl rfl
theorem kn129 : Known Tryz.prog 129 := known Tryz.func129 rfl rfl
theorem kn130 : Known Tryz.prog 130 := known Tryz.func130 rfl rfl
theorem kn131 : Known Tryz.prog 131 := known Tryz.func131 rfl rfl
theorem kn132 : Known Tryz.prog 132 := known Tryz.func132 rfl rfl
theorem kn136 : Known Tryz.prog 136 := known Tryz.func136 rfl rfl
theorem kn137 : Known Tryz.prog 137 := known Tryz.func137 rfl rfl
theorem kn138 : Known Tryz.prog 138 := known Tryz.func138 rfl rfl
theorem kn14 : Known Tryz.prog 14 := known Tryz.func14 rfl rfl
theorem kn15 : Known Tryz.prog 15 := known Tryz.func15 rfl rfl
theorem kn152 : Known Tryz.prog 152 := known Tryz.func152 rfl rfl
theorem kn153 : Known Tryz.prog 153 := known Tryz.func153 rfl rfl
theorem kn154 : Known Tryz.prog 154 := known Tryz.func154 rfl rfl
theorem kn177 : Known Tryz.prog 177 := known Tryz.func177 rfl rfl
theorem kn178 : Known Tryz.prog 178 := known Tryz.func178 rfl rfl
theorem kn19 : Known Tryz.prog 19 := known Tryz.func19 rfl rfl
theorem kn31 : Known Tryz.prog 31 := known Tryz.func31 rfl rfl
theorem kn32 : Known Tryz.prog 32 := known Tryz.func32 rfl rfl
theorem kn36 : Known Tryz.prog 36 := known Tryz.func36 rfl rfl
theorem kn37 : Known Tryz.prog 37 := known Tryz.func37 rfl rfl
theorem kn38 : Known Tryz.prog 38 := known Tryz.func38 rfl rfl
theorem kn45 : Known Tryz.prog 45 := known Tryz.func45 rfl rfl
theorem kn50 : Known Tryz.prog 50 := known Tryz.func50 rfl rfl
theorem kn52 : Known Tryz.prog 52 := known Tryz.func52 rfl rfl
theorem kn53 : Known Tryz.prog 53 := known Tryz.func53 rfl rfl
theorem kn54 : Known Tryz.prog 54 := known Tryz.func54 rfl rfl
theorem kn55 : Known Tryz.prog 55 := known Tryz.func55 rfl rfl
theorem kn56 : Known Tryz.prog 56 := known Tryz.func56 rfl rfl
theorem kn57 : Known Tryz.prog 57 := known Tryz.func57 rfl rfl
theorem kn58 : Known Tryz.prog 58 := known Tryz.func58 rfl rfl
theorem kn62 : Known Tryz.prog 62 := known Tryz.func62 rfl rfl
theorem kn63 : Known Tryz.prog 63 := known Tryz.func63 rfl rfl
theorem kn66 : Known Tryz.prog 66 := known Tryz.func66 rfl rfl
theorem kn67 : Known Tryz.prog 67 := known Tryz.func67 rfl rfl
theorem kn69 : Known Tryz.prog 69 := known Tryz.func69 rfl rfl
theorem kn70 : Known Tryz.prog 70 := known Tryz.func70 rfl rfl
theorem kn71 : Known Tryz.prog 71 := known Tryz.func71 rfl rfl
theorem kn72 : Known Tryz.prog 72 := known Tryz.func72 rfl rfl
theorem kn73 : Known Tryz.prog 73 := known Tryz.func73 rfl rfl
theorem kn74 : Known Tryz.prog 74 := known Tryz.func74 rfl rfl
theorem kn75 : Known Tryz.prog 75 := known Tryz.func75 rfl rfl
theorem kn78 : Known Tryz.prog 78 := known Tryz.func78 rfl rfl
theorem kn79 : Known Tryz.prog 79 := known Tryz.func79 rfl rfl
theorem kn8 : Known Tryz.prog 8 := known Tryz.func8 rfl rfl
theorem kn80 : Known Tryz.prog 80 := known Tryz.func80 rfl rfl
theorem kn81 : Known Tryz.prog 81 := known Tryz.func81 rfl rfl
theorem kn83 : Known Tryz.prog 83 := known Tryz.func83 rfl rfl
theorem kn84 : Known Tryz.prog 84 := known Tryz.func84 rfl rfl
theorem kn87 : Known Tryz.prog 87 := known Tryz.func87 rfl rfl
theorem kn88 : Known Tryz.prog 88 := known Tryz.func88 rfl rfl
theorem kn89 : Known Tryz.prog 89 := known Tryz.func89 rfl rfl
theorem kn9 : Known Tryz.prog 9 := known Tryz.func9 rfl rfl
theorem kn90 : Known Tryz.prog 90 := known Tryz.func90 rfl rfl
theorem mo : Tryz.prog.follows .mixedOrders = true := by kernel_rfl
theorem nz179 : (Tryz.prog.info? 179).map (fun i => decide (i.size = 0)) = some false := by kernel_rfl
theorem sl102 : slOf Tryz.prog 102 = some (104, 3, 32) := by kernel_rfl
theorem sl22 : slOf Tryz.prog 22 = some (29, 3, 32) := by kernel_rfl
theorem sl23 : slOf Tryz.prog 23 = some (56, 2, 32) := by kernel_rfl
theorem sl75 : slOf Tryz.prog 75 = some (9, 1, 16) := by kernel_rfl
theorem st29 : stOf Tryz.prog 29 = some [(3, 0, 1), (3, 1, 1), (9, 2, 1)] := by kernel_rfl
theorem st56 : stOf Tryz.prog 56 = some [(9, 0, 1), (9, 1, 1)] := by kernel_rfl
theorem ty102 : tyOf Tryz.prog 102 = some (false, 1) := by kernel_rfl
theorem ty104 : tyOf Tryz.prog 104 = some (true, 3) := by kernel_rfl
theorem ty106 : tyOf Tryz.prog 106 = some (false, 1) := by kernel_rfl
theorem ty164 : tyOf Tryz.prog 164 = some (false, 1) := by kernel_rfl
theorem ty166 : tyOf Tryz.prog 166 = some (false, 1) := by kernel_rfl
theorem ty2 : tyOf Tryz.prog 2 = some (false, 1) := by kernel_rfl
theorem ty21 : tyOf Tryz.prog 21 = some (false, 1) := by kernel_rfl
theorem ty23 : tyOf Tryz.prog 23 = some (false, 1) := by kernel_rfl
theorem ty29 : tyOf Tryz.prog 29 = some (true, 3) := by kernel_rfl
theorem ty3 : tyOf Tryz.prog 3 = some (false, 1) := by kernel_rfl
theorem ty4 : tyOf Tryz.prog 4 = some (false, 1) := by kernel_rfl
theorem ty56 : tyOf Tryz.prog 56 = some (true, 2) := by kernel_rfl
theorem ty75 : tyOf Tryz.prog 75 = some (false, 1) := by kernel_rfl
theorem ty9 : tyOf Tryz.prog 9 = some (false, 1) := by kernel_rfl
theorem ui168 : Tryz.prog.underlying 168 = some (.interface (Tryz.prog.methodsAt 168)) := by kernel_rfl
theorem un102 : Tryz.prog.underlying 102 = some (.slice 104) := by kernel_rfl
theorem un105 : Tryz.prog.underlying 105 = some (.array 8 104) := by kernel_rfl
theorem un106 : Tryz.prog.underlying 106 = some (.map 2 164) := by kernel_rfl
theorem un111 : Tryz.prog.underlying 111 = some (.pointer 93) := by kernel_rfl
theorem un164 : Tryz.prog.underlying 164 = some (.pointer 185) := by kernel_rfl
theorem un166 : Tryz.prog.underlying 166 = some (.func #[] #[9] false) := by kernel_rfl
theorem un2 : Tryz.prog.underlying 2 = some (.int .i64) := by kernel_rfl
theorem un22 : Tryz.prog.underlying 22 = some (.slice 29) := by kernel_rfl
theorem un222 : Tryz.prog.underlying 222 = some (.pointer 179) := by kernel_rfl
theorem un23 : Tryz.prog.underlying 23 = some (.slice 56) := by kernel_rfl
theorem un3 : Tryz.prog.underlying 3 = some (.int .i64) := by kernel_rfl
theorem un5 : Tryz.prog.underlying 5 = some (.int .u8) := by kernel_rfl
theorem un72 : Tryz.prog.underlying 72 = some (.int .u64) := by kernel_rfl
theorem un73 : Tryz.prog.underlying 73 = some (.pointer 96) := by kernel_rfl
theorem un75 : Tryz.prog.underlying 75 = some (.slice 9) := by kernel_rfl
theorem un9 : Tryz.prog.underlying 9 = some (.string) := by kernel_rfl
theorem un94 : Tryz.prog.underlying 94 = some (.array 8 93) := by kernel_rfl
theorem up226 : Tryz.prog.underlying 226 = some .unsafePointer := by kernel_rfl
theorem zr104 : zrOf Tryz.prog 104 = some (.agg #[.bool false, .int .i64 0, .string ⟨#[]⟩]) := by kernel_rfl
theorem zr164 : zrOf Tryz.prog 164 = some (.pointer none) := by kernel_rfl
theorem zr29 : zrOf Tryz.prog 29 = some (.agg #[.int .i64 0, .int .i64 0, .string ⟨#[]⟩]) := by kernel_rfl
theorem zr56 : zrOf Tryz.prog 56 = some (.agg #[.string ⟨#[]⟩, .string ⟨#[]⟩]) := by kernel_rfl
theorem zr9 : zrOf Tryz.prog 9 = some (.string ⟨#[]⟩) := by kernel_rfl
theorem eqz56 : PairT Tryz.prog 56 9 := ⟨⟨_, _, eq56, by decide, by decide, rfl, rfl, rfl, rfl⟩, un9, ty9⟩
end Go.Proofs.YtlpgdkbokakniaaGreatDoor.X
