/- WorkerParts: texts XF, XL, XL3, XU, XProg, XV, XV2, F1, XH, XT, XT2, XT3, XT4, XPair, XMer, XMer2, XProg2, XRec, XV3, V1, V2, V3, XV4, XV5, XG, V4, O1, joined by a program of ours; what nothing names is left out. -/
import Derived.Test.YthgehekecfpikaaGreatDoorWorkerPartsQ1
import Derived.Test.YthgehekecfpikaaGreatDoorProg
import Derived.KernelRfl
import Derived.Sort.Row
import Derived.Sort.Grow
import Derived.Sort.EncStr
import Derived.Lib.SlicesCompact
import Derived.WideLaws
import Derived.Sort.Walk0
import Derived.Defers
import Derived.Lib.LaidTab
import Derived.Lib.ItoaNum
import Derived.Lib.AppendIntMem
import Derived.Test.YthgehekecfpikaaGreatDoorShelf
set_option linter.unusedVariables false
set_option linter.unusedSimpArgs false
set_option maxHeartbeats 8000000
namespace Go.Proofs.YthgehekecfpikaaGreatDoor.X
open Go
theorem Nv:D5 Tryz.prog 106=some (#[.string ⟨#[]⟩,.string ⟨#[]⟩],#[(0,1),(1,1)]):=by kernel_rfl
theorem RJ:D5 Tryz.prog 164=some (#[.slice none 0 0,.int .i64 0,.slice none 0 0,.slice none 0 0,.slice none 0 0,.int .i64 0,.int .i64 0,.int .i64 0,.slice none 0 0,.int .i64 0,.int .i64 0,.int .i64 0,.int .i64 0,.int .i64 0,.int .i64 0,.pointer none,.slice none 0 0],#[(0,12),(12,1),(13,1),(14,1),(15,1),(16,1)]):=by kernel_rfl
theorem RK:D5 Tryz.prog 185=some (#[.slice none 0 0,.int .i64 0,.slice none 0 0,.slice none 0 0,.slice none 0 0,.int .i64 0,.int .i64 0,.int .i64 0,.slice none 0 0,.int .i64 0,.int .i64 0,.int .i64 0,.int .i64 0,.int .i64 0,.bool false,.slice none 0 0,.bool false,.int .i64 0,.int .i64 0,.bool false,.slice none 0 0,.bool false,.int .i64 0,.int .i64 0,.bool false,.slice none 0 0,.bool false,.int .i64 0,.int .i64 0,.bool false,.slice none 0 0,.bool false,.int .i64 0,.int .i64 0,.bool false,.slice none 0 0,.bool false,.int .i64 0,.int .i64 0,.bool false,.slice none 0 0,.bool false,.int .i64 0,.int .i64 0,.pointer none,.slice none 0 0],#[(0,12),(12,1),(13,1),(14,30),(44,1),(45,1)]):=by kernel_rfl
theorem Jt:D5 Tryz.prog 223=some (#[.int .i64 0,.int .i64 0,.string ⟨#[]⟩],#[(0,1),(1,1),(2,1)]):=by kernel_rfl
theorem Nw:D5 Tryz.prog 234=some (#[.int .u32 0,.int .i32 0,.int .u32 0,.int .u32 0,.nilFunc,.string ⟨#[]⟩],#[(0,3),(3,1),(4,1),(5,1)]):=by kernel_rfl
theorem RN:D5 Tryz.prog 239=some (#[.int .i64 0,.int .i64 0,.int .i64 0,.int .i64 0],#[(0,1),(1,1),(2,1),(3,1)]):=by kernel_rfl
theorem RO:D5 Tryz.prog 253=some (#[.map none],#[(0,1)]):=by kernel_rfl
theorem RP:D5 Tryz.prog 26=some (#[.slice none 0 0,.int .i64 0,.slice none 0 0,.slice none 0 0,.slice none 0 0,.int .i64 0,.int .i64 0,.int .i64 0,.slice none 0 0],#[(0,1),(1,1),(2,1),(3,1),(4,1),(5,1),(6,1),(7,1),(8,1)]):=by kernel_rfl
theorem RQ:D5 Tryz.prog 28=some (#[.slice none 0 0,.int .i64 0,.slice none 0 0,.slice none 0 0,.slice none 0 0,.int .i64 0,.int .i64 0,.int .i64 0,.slice none 0 0,.int .i64 0,.int .i64 0,.int .i64 0],#[(0,9),(9,1),(10,1),(11,1)]):=by kernel_rfl
theorem Nx:D5 Tryz.prog 284=some (#[.bool false,.int .i64 0,.string ⟨#[]⟩],#[(0,1),(1,1),(2,1)]):=by kernel_rfl
theorem RR:D5 Tryz.prog 288=some (#[.slice none 0 0,.string ⟨#[]⟩,.slice none 0 0,.int .i64 0,.int .i64 0,.int .i64 0,.bool false,.slice none 0 0,.bool false,.int .i64 0,.string ⟨#[]⟩,.bool false,.int .i64 0,.string ⟨#[]⟩,.bool false,.int .i64 0,.string ⟨#[]⟩,.bool false,.int .i64 0,.string ⟨#[]⟩,.bool false,.int .i64 0,.string ⟨#[]⟩,.bool false,.int .i64 0,.string ⟨#[]⟩,.bool false,.int .i64 0,.string ⟨#[]⟩,.bool false,.int .i64 0,.string ⟨#[]⟩,.slice none 0 0,.map none],#[(0,1),(1,1),(2,1),(3,1),(4,1),(5,1),(6,1),(7,1),(8,24),(32,1),(33,1)]):=by kernel_rfl
theorem RS:D5 Tryz.prog 322=some (#[.int .i64 0,.int .i64 0,.int .i64 0,.int .i64 0,.int .i64 0,.int .i64 0,.int .i64 0,.int .i64 0],#[(0,8)]):=by kernel_rfl
theorem Ny:D5 Tryz.prog 37=some (#[.int .i64 0,.int .i64 0,.int .i64 0,.int .i64 0,.int .i64 0,.slice none 0 0,.slice none 0 0],#[(0,1),(1,1),(2,1),(3,1),(4,1),(5,1),(6,1)]):=by kernel_rfl
theorem GG:D5 Tryz.prog 64=some (#[.int .i64 0,.int .i64 0,.int .i64 0,.int .i64 0,.int .i64 0,.int .i64 0,.int .i64 0,.int .i64 0,.slice none 0 0,.slice none 0 0],#[(0,1),(1,1),(2,1),(3,1),(4,1),(5,1),(6,1),(7,1),(8,1),(9,1)]):=by kernel_rfl
theorem Sa:Tryz.prog.cellsOf 106=2:=by kernel_rfl
theorem Sb:Tryz.prog.cellsOf 223=3:=by kernel_rfl
theorem Sc:Tryz.prog.cellsOf 26=9:=by kernel_rfl
theorem Sd:Tryz.prog.cellsOf 28=12:=by kernel_rfl
theorem S3:G6 Tryz.prog 106 [⟨ "Key",9,0,false, "", "",0⟩,⟨ "Value",9,1,false, "", "",16⟩]:=⟨by kernel_rfl,by kernel_rfl,by kernel_rfl⟩
theorem Lc:En Tryz.prog 186 (Extern.Atomic.storeT):=⟨_,Tryz.func186,by kernel_rfl,by kernel_rfl,by kernel_rfl,by kernel_rfl⟩
theorem Ld:En Tryz.prog 188 (Extern.Atomic.loadT (.int .u32)):=⟨_,Tryz.func188,by kernel_rfl,by kernel_rfl,by kernel_rfl,by kernel_rfl⟩
theorem N8:En Tryz.prog 294 (fun _=>do mark .disable;pure Extern.Race.none_):=⟨_,Tryz.func294,by kernel_rfl,by kernel_rfl,by kernel_rfl,by kernel_rfl⟩
theorem S_:En Tryz.prog 295 (Extern.Atomic.casT (.int .i32)):=⟨_,Tryz.func295,by kernel_rfl,by kernel_rfl,by kernel_rfl,by kernel_rfl⟩
theorem N9:En Tryz.prog 296 (fun _=>do mark .enable;pure Extern.Race.none_):=⟨_,Tryz.func296,by kernel_rfl,by kernel_rfl,by kernel_rfl,by kernel_rfl⟩
theorem Ta:En Tryz.prog 297 (Extern.Race.marked .acquire):=⟨_,Tryz.func297,by kernel_rfl,by kernel_rfl,by kernel_rfl,by kernel_rfl⟩
theorem Tb:En Tryz.prog 299 (Extern.Race.marked .releaseMerge):=⟨_,Tryz.func299,by kernel_rfl,by kernel_rfl,by kernel_rfl,by kernel_rfl⟩
theorem Tc:En Tryz.prog 300 (Extern.Atomic.update (Op.intArith .add) .i32 true):=⟨_,Tryz.func300,by kernel_rfl,by kernel_rfl,by kernel_rfl,by kernel_rfl⟩
theorem Td:En Tryz.prog 316 (Extern.Atomic.loadT (.int .i64)):=⟨_,Tryz.func316,by kernel_rfl,by kernel_rfl,by kernel_rfl,by kernel_rfl⟩
theorem Te:En Tryz.prog 317 (Extern.Atomic.casT (.int .i64)):=⟨_,Tryz.func317,by kernel_rfl,by kernel_rfl,by kernel_rfl,by kernel_rfl⟩
theorem E8:Bj Tryz.prog 106 0=some 0:=by kernel_rfl
theorem HJ:Bj Tryz.prog 106 1=some 1:=by kernel_rfl
theorem JH:Bj Tryz.prog 164 0=some 0:=by kernel_rfl
theorem Tm:Bj Tryz.prog 164 1=some 12:=by kernel_rfl
theorem Oe:Bj Tryz.prog 164 2=some 13:=by kernel_rfl
theorem Lp:Bj Tryz.prog 164 3=some 14:=by kernel_rfl
theorem JI:Bj Tryz.prog 164 4=some 15:=by kernel_rfl
theorem JJ:Bj Tryz.prog 164 5=some 16:=by kernel_rfl
theorem JK:Bj Tryz.prog 181 0=some 0:=by kernel_rfl
theorem Of:Bj Tryz.prog 181 1=some 1:=by kernel_rfl
theorem Hb:Bj Tryz.prog 185 0=some 0:=by kernel_rfl
theorem Og:Bj Tryz.prog 185 1=some 12:=by kernel_rfl
theorem Oh:Bj Tryz.prog 185 2=some 13:=by kernel_rfl
theorem IA:Bj Tryz.prog 185 3=some 14:=by kernel_rfl
theorem GK:Bj Tryz.prog 185 5=some 45:=by kernel_rfl
theorem HK:Bj Tryz.prog 208 1=some 0:=by kernel_rfl
theorem C7:Bj Tryz.prog 223 0=some 0:=by kernel_rfl
theorem Dm:Bj Tryz.prog 223 1=some 1:=by kernel_rfl
theorem EV:Bj Tryz.prog 223 2=some 2:=by kernel_rfl
theorem Ls:Bj Tryz.prog 228 0=some 0:=by kernel_rfl
theorem Oj:Bj Tryz.prog 230 1=some 0:=by kernel_rfl
theorem Lt:Bj Tryz.prog 232 1=some 0:=by kernel_rfl
theorem Lu:Bj Tryz.prog 234 0=some 0:=by kernel_rfl
theorem Lv:Bj Tryz.prog 234 1=some 3:=by kernel_rfl
theorem JO:Bj Tryz.prog 234 2=some 4:=by kernel_rfl
theorem ID:Bj Tryz.prog 234 3=some 5:=by kernel_rfl
theorem Tn:Bj Tryz.prog 239 0=some 0:=by kernel_rfl
theorem To:Bj Tryz.prog 239 1=some 1:=by kernel_rfl
theorem Ok:Bj Tryz.prog 239 3=some 3:=by kernel_rfl
theorem DT:Bj Tryz.prog 26 0=some 0:=by kernel_rfl
theorem GL:Bj Tryz.prog 26 1=some 1:=by kernel_rfl
theorem HM:Bj Tryz.prog 26 2=some 2:=by kernel_rfl
theorem HN:Bj Tryz.prog 26 3=some 3:=by kernel_rfl
theorem HO:Bj Tryz.prog 26 4=some 4:=by kernel_rfl
theorem Ol:Bj Tryz.prog 26 5=some 5:=by kernel_rfl
theorem Om:Bj Tryz.prog 26 6=some 6:=by kernel_rfl
theorem JP:Bj Tryz.prog 26 7=some 7:=by kernel_rfl
theorem HP:Bj Tryz.prog 26 8=some 8:=by kernel_rfl
theorem Hc:Bj Tryz.prog 284 0=some 0:=by kernel_rfl
theorem EH:Bj Tryz.prog 284 1=some 1:=by kernel_rfl
theorem FI:Bj Tryz.prog 284 2=some 2:=by kernel_rfl
theorem Tp:Bj Tryz.prog 288 1=some 1:=by kernel_rfl
theorem IE:Bj Tryz.prog 288 10=some 33:=by kernel_rfl
theorem JQ:Bj Tryz.prog 288 2=some 2:=by kernel_rfl
theorem Tq:Bj Tryz.prog 288 3=some 3:=by kernel_rfl
theorem HQ:Bj Tryz.prog 288 4=some 4:=by kernel_rfl
theorem Lw:Bj Tryz.prog 288 5=some 5:=by kernel_rfl
theorem On:Bj Tryz.prog 288 6=some 6:=by kernel_rfl
theorem Gn:Bj Tryz.prog 288 7=some 7:=by kernel_rfl
theorem Oo:Bj Tryz.prog 288 8=some 8:=by kernel_rfl
theorem JR:Bj Tryz.prog 288 9=some 32:=by kernel_rfl
theorem CV:Bj Tryz.prog 28 0=some 0:=by kernel_rfl
theorem IF:Bj Tryz.prog 28 1=some 9:=by kernel_rfl
theorem Lx:Bj Tryz.prog 28 2=some 10:=by kernel_rfl
theorem Tr:Bj Tryz.prog 28 3=some 11:=by kernel_rfl
theorem Oq:Bj Tryz.prog 319 2=some 0:=by kernel_rfl
theorem Ts:Bj Tryz.prog 322 0=some 0:=by kernel_rfl
theorem GM:Bj Tryz.prog 37 0=some 0:=by kernel_rfl
theorem Tt:Bj Tryz.prog 37 1=some 1:=by kernel_rfl
theorem Ot:Bj Tryz.prog 37 2=some 2:=by kernel_rfl
theorem Ou:Bj Tryz.prog 37 5=some 5:=by kernel_rfl
theorem Tu:Bj Tryz.prog 37 6=some 6:=by kernel_rfl
theorem Fr:Bj Tryz.prog 64 0=some 0:=by kernel_rfl
theorem Ly:Bj Tryz.prog 64 1=some 1:=by kernel_rfl
theorem Lz:Bj Tryz.prog 64 2=some 2:=by kernel_rfl
theorem JS:Bj Tryz.prog 64 3=some 3:=by kernel_rfl
theorem Ov:Bj Tryz.prog 64 4=some 4:=by kernel_rfl
theorem Ow:Bj Tryz.prog 64 5=some 5:=by kernel_rfl
theorem Ox:Bj Tryz.prog 64 6=some 6:=by kernel_rfl
theorem Oy:Bj Tryz.prog 64 7=some 7:=by kernel_rfl
theorem Oz:Bj Tryz.prog 64 8=some 8:=by kernel_rfl
theorem OA:Bj Tryz.prog 64 9=some 9:=by kernel_rfl
theorem IJ:(Tryz.prog.info? 181).map (·.size)=some 5:=by kernel_rfl
theorem OW:(Tryz.prog.info? 284).map (·.size)=some 3:=by kernel_rfl
theorem T9:(Tryz.prog.info? 319).map (·.size)=some 1:=by kernel_rfl
theorem LL:AL Tryz.prog 105:=AO Tryz.func105 rfl rfl
theorem LM:AL Tryz.prog 106:=AO Tryz.func106 rfl rfl
theorem LN:AL Tryz.prog 107:=AO Tryz.func107 rfl rfl
theorem Ug:AL Tryz.prog 108:=AO Tryz.func108 rfl rfl
theorem IK:AL Tryz.prog 109:=AO Tryz.func109 rfl rfl
theorem Uh:AL Tryz.prog 113:=AO Tryz.func113 rfl rfl
theorem OZ:AL Tryz.prog 118:=AO Tryz.func118 rfl rfl
theorem Ui:AL Tryz.prog 120:=AO Tryz.func120 rfl rfl
theorem JU:AL Tryz.prog 123:=AO Tryz.func123 rfl rfl
theorem Uj:AL Tryz.prog 124:=AO Tryz.func124 rfl rfl
theorem Uk:AL Tryz.prog 125:=AO Tryz.func125 rfl rfl
theorem Ul:AL Tryz.prog 126:=AO Tryz.func126 rfl rfl
theorem Um:AL Tryz.prog 128:=AO Tryz.func128 rfl rfl
theorem HT:AL Tryz.prog 129:=AO Tryz.func129 rfl rfl
theorem Un:AL Tryz.prog 131:=AO Tryz.func131 rfl rfl
theorem Uo:AL Tryz.prog 136:=AO Tryz.func136 rfl rfl
theorem Up:AL Tryz.prog 137:=AO Tryz.func137 rfl rfl
theorem Uq:AL Tryz.prog 138:=AO Tryz.func138 rfl rfl
theorem JV:AL Tryz.prog 142:=AO Tryz.func142 rfl rfl
theorem JW:AL Tryz.prog 144:=AO Tryz.func144 rfl rfl
theorem O0:AL Tryz.prog 153:=AO Tryz.func153 rfl rfl
theorem LO:AL Tryz.prog 154:=AO Tryz.func154 rfl rfl
theorem Uv:AL Tryz.prog 157:=AO Tryz.func157 rfl rfl
theorem LP:AL Tryz.prog 158:=AO Tryz.func158 rfl rfl
theorem O1:AL Tryz.prog 159:=AO Tryz.func159 rfl rfl
theorem O2:AL Tryz.prog 160:=AO Tryz.func160 rfl rfl
theorem Uw:AL Tryz.prog 167:=AO Tryz.func167 rfl rfl
theorem Ux:AL Tryz.prog 168:=AO Tryz.func168 rfl rfl
theorem LQ:AL Tryz.prog 169:=AO Tryz.func169 rfl rfl
theorem O3:AL Tryz.prog 173:=AO Tryz.func173 rfl rfl
theorem Uy:AL Tryz.prog 174:=AO Tryz.func174 rfl rfl
theorem O4:AL Tryz.prog 175:=AO Tryz.func175 rfl rfl
theorem LR:AL Tryz.prog 176:=AO Tryz.func176 rfl rfl
theorem O5:AL Tryz.prog 177:=AO Tryz.func177 rfl rfl
theorem Uz:AL Tryz.prog 178:=AO Tryz.func178 rfl rfl
theorem UA:AL Tryz.prog 18:=AO Tryz.func18 rfl rfl
theorem UB:AL Tryz.prog 180:=AO Tryz.func180 rfl rfl
theorem UC:AL Tryz.prog 184:=AO Tryz.func184 rfl rfl
theorem UD:AL Tryz.prog 185:=AO Tryz.func185 rfl rfl
theorem LS:AL Tryz.prog 187:=AO Tryz.func187 rfl rfl
theorem IL:AL Tryz.prog 19:=AO Tryz.func19 rfl rfl
theorem UE:AL Tryz.prog 195:=AO Tryz.func195 rfl rfl
theorem O6:AL Tryz.prog 203:=AO Tryz.func203 rfl rfl
theorem O7:AL Tryz.prog 204:=AO Tryz.func204 rfl rfl
theorem O8:AL Tryz.prog 205:=AO Tryz.func205 rfl rfl
theorem UF:AL Tryz.prog 206:=AO Tryz.func206 rfl rfl
theorem O9:AL Tryz.prog 207:=AO Tryz.func207 rfl rfl
theorem UG:AL Tryz.prog 208:=AO Tryz.func208 rfl rfl
theorem HU:AL Tryz.prog 209:=AO Tryz.func209 rfl rfl
theorem UH:AL Tryz.prog 210:=AO Tryz.func210 rfl rfl
theorem UI:AL Tryz.prog 211:=AO Tryz.func211 rfl rfl
theorem UJ:AL Tryz.prog 212:=AO Tryz.func212 rfl rfl
theorem UK:AL Tryz.prog 213:=AO Tryz.func213 rfl rfl
theorem O_:AL Tryz.prog 214:=AO Tryz.func214 rfl rfl
theorem UL:AL Tryz.prog 215:=AO Tryz.func215 rfl rfl
theorem Pa:AL Tryz.prog 218:=AO Tryz.func218 rfl rfl
theorem UM:AL Tryz.prog 22:=AO Tryz.func22 rfl rfl
theorem UN:AL Tryz.prog 224:=AO Tryz.func224 rfl rfl
theorem UO:AL Tryz.prog 23:=AO Tryz.func23 rfl rfl
theorem UP:AL Tryz.prog 243:=AO Tryz.func243 rfl rfl
theorem UQ:AL Tryz.prog 244:=AO Tryz.func244 rfl rfl
theorem UR:AL Tryz.prog 245:=AO Tryz.func245 rfl rfl
theorem US:AL Tryz.prog 246:=AO Tryz.func246 rfl rfl
theorem UT:AL Tryz.prog 247:=AO Tryz.func247 rfl rfl
theorem UU:AL Tryz.prog 248:=AO Tryz.func248 rfl rfl
theorem UV:AL Tryz.prog 249:=AO Tryz.func249 rfl rfl
theorem UW:AL Tryz.prog 25:=AO Tryz.func25 rfl rfl
theorem UX:AL Tryz.prog 250:=AO Tryz.func250 rfl rfl
theorem UY:AL Tryz.prog 251:=AO Tryz.func251 rfl rfl
theorem UZ:AL Tryz.prog 262:=AO Tryz.func262 rfl rfl
theorem U0:AL Tryz.prog 263:=AO Tryz.func263 rfl rfl
theorem U1:AL Tryz.prog 264:=AO Tryz.func264 rfl rfl
theorem D7:AL Tryz.prog 265:=AO Tryz.func265 rfl rfl
theorem FK:AL Tryz.prog 266:=AO Tryz.func266 rfl rfl
theorem HV:AL Tryz.prog 267:=AO Tryz.func267 rfl rfl
theorem U2:AL Tryz.prog 268:=AO Tryz.func268 rfl rfl
theorem JX:AL Tryz.prog 269:=AO Tryz.func269 rfl rfl
theorem Pb:AL Tryz.prog 27:=AO Tryz.func27 rfl rfl
theorem Pc:AL Tryz.prog 270:=AO Tryz.func270 rfl rfl
theorem U3:AL Tryz.prog 271:=AO Tryz.func271 rfl rfl
theorem U4:AL Tryz.prog 272:=AO Tryz.func272 rfl rfl
theorem U5:AL Tryz.prog 273:=AO Tryz.func273 rfl rfl
theorem U6:AL Tryz.prog 274:=AO Tryz.func274 rfl rfl
theorem U7:AL Tryz.prog 275:=AO Tryz.func275 rfl rfl
theorem U8:AL Tryz.prog 276:=AO Tryz.func276 rfl rfl
theorem Pd:AL Tryz.prog 277:=AO Tryz.func277 rfl rfl
theorem HW:AL Tryz.prog 278:=AO Tryz.func278 rfl rfl
theorem Pe:AL Tryz.prog 279:=AO Tryz.func279 rfl rfl
theorem U9:AL Tryz.prog 281:=AO Tryz.func281 rfl rfl
theorem U_:AL Tryz.prog 282:=AO Tryz.func282 rfl rfl
theorem LT:AL Tryz.prog 30:=AO Tryz.func30 rfl rfl
theorem Va:AL Tryz.prog 302:=AO Tryz.func302 rfl rfl
theorem Vb:AL Tryz.prog 303:=AO Tryz.func303 rfl rfl
theorem Pf:AL Tryz.prog 304:=AO Tryz.func304 rfl rfl
theorem Pg:AL Tryz.prog 305:=AO Tryz.func305 rfl rfl
theorem Ph:AL Tryz.prog 306:=AO Tryz.func306 rfl rfl
theorem Vc:AL Tryz.prog 31:=AO Tryz.func31 rfl rfl
theorem JY:AL Tryz.prog 32:=AO Tryz.func32 rfl rfl
theorem Vd:AL Tryz.prog 326:=AO Tryz.func326 rfl rfl
theorem LU:AL Tryz.prog 329:=AO Tryz.func329 rfl rfl
theorem Ve:AL Tryz.prog 33:=AO Tryz.func33 rfl rfl
theorem Vf:AL Tryz.prog 41:=AO Tryz.func41 rfl rfl
theorem Pi:AL Tryz.prog 51:=AO Tryz.func51 rfl rfl
theorem Vg:AL Tryz.prog 53:=AO Tryz.func53 rfl rfl
theorem Vh:AL Tryz.prog 56:=AO Tryz.func56 rfl rfl
theorem Vi:AL Tryz.prog 60:=AO Tryz.func60 rfl rfl
theorem Vj:AL Tryz.prog 61:=AO Tryz.func61 rfl rfl
theorem Vk:AL Tryz.prog 63:=AO Tryz.func63 rfl rfl
theorem IM:AL Tryz.prog 71:=AO Tryz.func71 rfl rfl
theorem HX:AL Tryz.prog 87:=AO Tryz.func87 rfl rfl
theorem Pn:AL Tryz.prog 88:=AO Tryz.func88 rfl rfl
theorem F5:AL Tryz.prog 89:=AO Tryz.func89 rfl rfl
theorem LX:AL Tryz.prog 94:=AO Tryz.func94 rfl rfl
theorem Po:AL Tryz.prog 95:=AO Tryz.func95 rfl rfl
theorem Vp:AL Tryz.prog 96:=AO Tryz.func96 rfl rfl
theorem Vq:AL Tryz.prog 97:=AO Tryz.func97 rfl rfl
theorem Vr:AL Tryz.prog 98:=AO Tryz.func98 rfl rfl
theorem mo:Tryz.prog.follows .mixedOrders=true:=by kernel_rfl
theorem PY:(Tryz.prog.info? 228).map (fun i=>decide (i.size=0))=some false:=by kernel_rfl
theorem Fy:C5 Tryz.prog 144=some (24,1,24):=by kernel_rfl
theorem Ja:C5 Tryz.prog 162=some (168,1,8):=by kernel_rfl
theorem Fz:C5 Tryz.prog 22=some (35,1,24):=by kernel_rfl
theorem GY:C5 Tryz.prog 23=some (223,3,32):=by kernel_rfl
theorem GZ:C5 Tryz.prog 235=some (5,1,1):=by kernel_rfl
theorem DI:C5 Tryz.prog 24=some (3,1,8):=by kernel_rfl
theorem G0:C5 Tryz.prog 241=some (9,1,16):=by kernel_rfl
theorem BY:C5 Tryz.prog 282=some (284,3,32):=by kernel_rfl
theorem Jb:C5 Tryz.prog 29=some (37,7,88):=by kernel_rfl
theorem By:C5 Tryz.prog 35=some (106,2,32):=by kernel_rfl
theorem MI:C5 Tryz.prog 53=some (64,10,112):=by kernel_rfl
theorem Y4:Gc Tryz.prog 106=some [(9,0,1),(9,1,1)]:=by kernel_rfl
theorem Y5:Gc Tryz.prog 223=some [(3,0,1),(3,1,1),(9,2,1)]:=by kernel_rfl
theorem Y6:Gc Tryz.prog 26=some [(22,0,1),(3,1,1),(23,2,1),(23,3,1),(23,4,1),(3,5,1),(3,6,1),(3,7,1),(24,8,1)]:=by kernel_rfl
theorem Y7:Gc Tryz.prog 28=some [(26,0,9),(3,9,1),(3,10,1),(3,11,1)]:=by kernel_rfl
theorem Cc:Cd Tryz.prog 106=some (true,2):=by kernel_rfl
theorem FB:Cd Tryz.prog 144=some (false,1):=by kernel_rfl
theorem DO:Cd Tryz.prog 161=some (false,1):=by kernel_rfl
theorem Ji:Cd Tryz.prog 162=some (false,1):=by kernel_rfl
theorem KG:Cd Tryz.prog 167=some (false,1):=by kernel_rfl
theorem Zx:Cd Tryz.prog 168=some (false,1):=by kernel_rfl
theorem DW:Cd Tryz.prog 2=some (false,1):=by kernel_rfl
theorem Zy:Cd Tryz.prog 21=some (false,1):=by kernel_rfl
theorem DX:Cd Tryz.prog 22=some (false,1):=by kernel_rfl
theorem Il:Cd Tryz.prog 223=some (true,3):=by kernel_rfl
theorem Eh:Cd Tryz.prog 23=some (false,1):=by kernel_rfl
theorem EY:Cd Tryz.prog 24=some (false,1):=by kernel_rfl
theorem KI:Cd Tryz.prog 241=some (false,1):=by kernel_rfl
theorem Jk:Cd Tryz.prog 26=some (true,9):=by kernel_rfl
theorem DC:Cd Tryz.prog 28=some (true,12):=by kernel_rfl
theorem Gx:Cd Tryz.prog 282=some (false,1):=by kernel_rfl
theorem C_:Cd Tryz.prog 284=some (true,3):=by kernel_rfl
theorem Jl:Cd Tryz.prog 286=some (false,1):=by kernel_rfl
theorem AA:Cd Tryz.prog 3=some (false,1):=by kernel_rfl
theorem EO:Cd Tryz.prog 35=some (false,1):=by kernel_rfl
theorem KJ:Cd Tryz.prog 37=some (true,7):=by kernel_rfl
theorem Fg:Cd Tryz.prog 4=some (false,1):=by kernel_rfl
theorem FC:Cd Tryz.prog 44=some (false,1):=by kernel_rfl
theorem Zz:Cd Tryz.prog 5=some (false,1):=by kernel_rfl
theorem Fh:Cd Tryz.prog 64=some (true,10):=by kernel_rfl
theorem BS:Cd Tryz.prog 9=some (false,1):=by kernel_rfl
theorem Ra:Tryz.prog.underlying 370=some (.interface (Tryz.prog.methodsAt 370)):=by kernel_rfl
theorem EZ:Tryz.prog.underlying 158=some (.int .u64):=by kernel_rfl
theorem Jn:Tryz.prog.underlying 161=some (.pointer 234):=by kernel_rfl
theorem ZC:Tryz.prog.underlying 162=some (.slice 168):=by kernel_rfl
theorem Rb:Tryz.prog.underlying 167=some (.func #[] #[9] false):=by kernel_rfl
theorem ZD:Tryz.prog.underlying 168=some (.pointer 239):=by kernel_rfl
theorem Rc:Tryz.prog.underlying 178=some (.pointer 181):=by kernel_rfl
theorem Jo:Tryz.prog.underlying 182=some (.array 6 181):=by kernel_rfl
theorem Im:Tryz.prog.underlying 2=some (.int .i64):=by kernel_rfl
theorem Rd:Tryz.prog.underlying 206=some (.int .u32):=by kernel_rfl
theorem Ei:Tryz.prog.underlying 22=some (.slice 35):=by kernel_rfl
theorem FD:Tryz.prog.underlying 23=some (.slice 223):=by kernel_rfl
theorem GA:Tryz.prog.underlying 235=some (.slice 5):=by kernel_rfl
theorem EP:Tryz.prog.underlying 24=some (.slice 3):=by kernel_rfl
theorem Re:Tryz.prog.underlying 241=some (.slice 9):=by kernel_rfl
theorem Hq:Tryz.prog.underlying 270=some (.int .u64):=by kernel_rfl
theorem Hr:Tryz.prog.underlying 282=some (.slice 284):=by kernel_rfl
theorem Rf:Tryz.prog.underlying 285=some (.array 8 284):=by kernel_rfl
theorem Jp:Tryz.prog.underlying 286=some (.map 2 161):=by kernel_rfl
theorem MR:Tryz.prog.underlying 29=some (.slice 37):=by kernel_rfl
theorem ZE:Tryz.prog.underlying 291=some (.pointer 322):=by kernel_rfl
theorem DD:Tryz.prog.underlying 3=some (.int .i64):=by kernel_rfl
theorem ZF:Tryz.prog.underlying 320=some (.array 8 319):=by kernel_rfl
theorem ZG:Tryz.prog.underlying 326=some (.pointer 319):=by kernel_rfl
theorem Da:Tryz.prog.underlying 35=some (.slice 106):=by kernel_rfl
theorem Rg:Tryz.prog.underlying 362=some (.pointer 228):=by kernel_rfl
theorem ZH:Tryz.prog.underlying 4=some (.bool):=by kernel_rfl
theorem Hs:Tryz.prog.underlying 44=some (.pointer 164):=by kernel_rfl
theorem Ht:Tryz.prog.underlying 5=some (.int .u8):=by kernel_rfl
theorem ZI:Tryz.prog.underlying 53=some (.slice 64):=by kernel_rfl
theorem Io:Tryz.prog.underlying 75=some (.pointer 185):=by kernel_rfl
theorem CA:Tryz.prog.underlying 9=some (.string):=by kernel_rfl
theorem Ri:Tryz.prog.underlying 366=some .unsafePointer:=by kernel_rfl
theorem Dc:C1 Tryz.prog 106=some (.agg #[.string ⟨#[]⟩,.string ⟨#[]⟩]):=by kernel_rfl
theorem KP:C1 Tryz.prog 161=some (.pointer none):=by kernel_rfl
theorem KQ:C1 Tryz.prog 168=some (.pointer none):=by kernel_rfl
theorem KS:C1 Tryz.prog 223=some (.agg #[.int .i64 0,.int .i64 0,.string ⟨#[]⟩]):=by kernel_rfl
theorem FE:C1 Tryz.prog 24=some (.slice none 0 0):=by kernel_rfl
theorem Rw:C1 Tryz.prog 28=some (.agg #[.slice none 0 0,.int .i64 0,.slice none 0 0,.slice none 0 0,.slice none 0 0,.int .i64 0,.int .i64 0,.int .i64 0,.slice none 0 0,.int .i64 0,.int .i64 0,.int .i64 0]):=by kernel_rfl
theorem Do:C1 Tryz.prog 284=some (.agg #[.bool false,.int .i64 0,.string ⟨#[]⟩]):=by kernel_rfl
theorem FV:C1 Tryz.prog 3=some (.int .i64 0):=by kernel_rfl
theorem KT:C1 Tryz.prog 35=some (.slice none 0 0):=by kernel_rfl
theorem Jq:C1 Tryz.prog 37=some (.agg #[.int .i64 0,.int .i64 0,.int .i64 0,.int .i64 0,.int .i64 0,.slice none 0 0,.slice none 0 0]):=by kernel_rfl
theorem aP:C1 Tryz.prog 44=some (.pointer none):=by kernel_rfl
theorem KU:C1 Tryz.prog 5=some (.int .u8 0):=by kernel_rfl
theorem Ir:C1 Tryz.prog 64=some (.agg #[.int .i64 0,.int .i64 0,.int .i64 0,.int .i64 0,.int .i64 0,.int .i64 0,.int .i64 0,.int .i64 0,.slice none 0 0,.slice none 0 0]):=by kernel_rfl
theorem Is:C1 Tryz.prog 9=some (.string ⟨#[]⟩):=by kernel_rfl
theorem S8:M3 Tryz.prog 106 9:=⟨⟨_,_,S3,by decide,by decide,rfl,rfl,rfl,rfl⟩,CA,BS⟩
def E7 {α:Type} (p:α→Bool) (xs:List α):Int:=match xs.findIdx? p with |some i=>(i:Int)|none=> -1
theorem Le {α:Type} {p:α→Bool} {xs:List α} {k:Nat} {x:α} (h:∀ y∈xs.take k,p y=false) (hx:xs[k]?=some x) (hp:p x=true):E7 p xs=(k:Int):=by
 have:xs.findIdx? p=some k:=by
  rw [List.findIdx?_eq_some_iff_getElem]
  have hlt:k<xs.length:=by
   rcases Nat.lt_or_ge k xs.length with h'|h'
   ·exact h'
   ·simp [List.getElem?_eq_none h'] at hx
  refine ⟨hlt,by rw [List.getElem?_eq_getElem hlt] at hx;rw [Option.some.inj hx];exact hp,fun j hj=>?_⟩
  have:=h xs[j] (by rw [List.mem_take_iff_getElem];exact ⟨j,by omega,rfl⟩)
  simp [this]
 simp [E7,this]
theorem JE {α:Type} {p:α→Bool} {xs:List α} (h:∀ y∈xs,p y=false):E7 p xs= -1:=by
 have:xs.findIdx? p=none:=by
  rw [List.findIdx?_eq_none_iff]
  exact h
 simp [E7,this]
theorem Lf {α:Type} (p:α→Bool) (xs:List α):decide (0≤E7 p xs)=xs.any p:=by
 by_cases h:∃ y∈xs,p y=true
 ·have h1:xs.any p=true:=by simpa using h
  rw [h1,decide_eq_true_eq]
  unfold E7
  cases hf:xs.findIdx? p with
  |none=>
   rw [List.findIdx?_eq_none_iff] at hf
   obtain ⟨y,hy,hp⟩:=h
   rw [hf y hy] at hp
   cases hp
  |some i=>simp
 ·have h':∀ y∈xs,p y=false:=fun y hy=>by
   cases hp:p y with
   |false=>rfl
   |true=>exact (h ⟨y,hy,hp⟩).elim
  rw [JE h']
  have h1:xs.any p=false:=by
   rw [List.any_eq_false]
   intro y hy
   simp [h' y hy]
  rw [h1]
  decide
theorem MP {α:Type} {p:α→Bool} {xs:List α} {k:Nat} {x:α} (h:∀ y∈xs.take k,p y=false) (hx:xs[k]?=some x) (hp:p x=false):∀ y∈xs.take (k+1),p y=false:=by
 intro y hy
 rw [List.take_add_one,hx] at hy
 simp at hy
 exact hy.elim (h y) (fun e=>e▸hp)
def cnt {α:Type} (p:α→Bool) (xs:List α):Nat:=(xs.filter p).length
theorem Sv {α:Type} (p:α→Bool) (xs:List α) (x:α):cnt p (xs++[x])=cnt p xs+if p x then 1 else 0:=by
 unfold cnt
 rw [List.filter_append]
 by_cases h:p x<;>simp [h]
theorem NI {α:Type} (p:α→Bool) (xs:List α):cnt p xs≤xs.length:=List.length_filter_le p xs
theorem NJ {α:Type} {p:α→Bool} {xs:List α} {k:Nat} {x:α} (hx:xs[k]?=some x):cnt p (xs.take (k+1))=cnt p (xs.take k)+if p x then 1 else 0:=by
 rw [List.take_add_one,hx,←Sv]
 rfl
section
variable {w w0:World} {F0:AJ} {As Rs:List SP} {α:Type} [Inhabited α] {e1:α→Value}
theorem ON {b t:Nat} {xs:List α} {rest:List Value} (H:Hd w0 F0 w (blk b (xs.map e1++rest) t::As) Rs):Sort.Holds e1 w b 0 xs.toArray:=by
 intro j hj
 simp only [List.size_toArray] at hj
 rw [Nat.zero_add]
 refine ⟨H.cell (List.mem_cons_self ..) ?_,H.free (List.mem_cons_self ..) j⟩
 rw [List.getElem?_append_left (by simpa using hj),List.getElem?_map,List.getElem?_eq_getElem hj]
 simp [hj]
theorem Xx {xs ys:List α} {rest:List Value} (hl:ys.length=xs.length):Sort.putCells e1 0 ys.toArray (xs.map e1++rest).toArray=(ys.map e1++rest).toArray:=by
 apply Array.toList_inj.1
 apply List.ext_getElem?
 intro i
 unfold Sort.putCells
 rw [Array.toList_mapIdx,List.getElem?_mapIdx]
 simp only [List.size_toArray,Nat.zero_le,true_and,Nat.zero_add,Nat.sub_zero,List.getElem!_toArray]
 rcases Nat.lt_or_ge i ys.length with h|h
 ·rw [List.getElem?_append_left (by simpa using (hl▸h)),List.getElem?_append_left (by simpa using h),List.getElem?_map,List.getElem?_map,List.getElem?_eq_getElem h,List.getElem?_eq_getElem (by omega)]
  simp [h]
 ·rw [List.getElem?_append_right (by simp;omega),List.getElem?_append_right (by simpa using h)]
  simp only [List.length_map,hl]
  cases rest[i - xs.length]? with
  |none=>rfl
  |some v=>simp;omega
theorem ND {b t n:Nat} {xs ys:List α} {rest:List Value} {os:Array Obj} (H:Hd w0 F0 w (blk b (xs.map e1++rest) t::As) Rs) (hl:ys.length=xs.length):
  Hd w0 F0 (Sort.grow (Sort.putRow e1 (Sort.ahead w n) b 0 ys.toArray) os) (blk b (ys.map e1++rest) t::As) Rs:=by
 refine H.write fun F hF=>?_
 have hb:b<w.heap.size:=by
  rcases Nat.lt_or_ge b w.heap.size with h|h
  ·exact h
  ·have:=hF.2
   rw [Array.getElem?_eq_none h] at this
   cases this
 have hh:∀ k,k<w.heap.size→(Sort.grow (Sort.putRow e1 (Sort.ahead w n) b 0 ys.toArray) os).heap[k]?=(w.heap.modify b (Sort.onCells (Sort.putCells e1 0 ys.toArray)))[k]?:=by
  intro k hk
  show ((w.heap.modify b (Sort.onCells (Sort.putCells e1 0 ys.toArray)))++os)[k]?=_
  rw [Array.getElem?_append_left (by simpa using hk)]
 refine ⟨⟨hF.1,?_⟩,rfl,rfl,rfl,?_,fun k hk hn=>?_⟩
 ·rw [hh b hb,Array.getElem?_modify,if_pos rfl,hF.2]
  simp only [Option.map_some,Sort.onCells,Xx hl]
 ·show w.heap.size≤((w.heap.modify b (Sort.onCells (Sort.putCells e1 0 ys.toArray)))++os).size
  simp
 ·rw [hh k hk,Array.getElem?_modify,if_neg (by rintro rfl;exact hn hF.1)]
theorem TM (w:World):Sort.grow w #[]=w:=by
 unfold Sort.grow
 simp
end
theorem J5 {α:Type} {e1:α→Value} (xs:List α):xs.flatMap (fun x=>[e1 x])=xs.map e1:=by
 induction xs with
 |nil=>rfl
 |cons x xs ih=>simp [ih]
section
variable {P:Program} {α:Type} [Inhabited α] {e1:α→Value} {h1:∀ x,∀ c∈[e1 x],c.oneCell'=true} {f:FuncId}
theorem St {s:List α→List α} (hlen:∀ xs,(s xs).length=xs.length) (hnil:s []=[])
  (h0:∀ (p:Option Addr) (c:Nat) (w:World),Calls P f #[.slice p 0 c] w fun e w'=>e=.returned (.tuple #[])∧w'=w)
  (hc:∀ (b c:Nat) (xs:List α) (w:World),Sort.Holds e1 w b 0 xs.toArray→b<w.heap.size→xs.length≤1000000→Calls P f #[.slice (some ⟨b,0,none⟩) xs.length c] w fun e w'=>e=.returned (.tuple #[])∧∃ n os,w'=Sort.grow (Sort.putRow e1 (Sort.ahead w n) b 0 (s xs).toArray) os)
  (v:Value) (xs:List α) (hb:xs.length≤1000000):Cn P f [v] [Y (flat (fun x=>[e1 x]) 1 (by omega) (fun _=>rfl) h1) v xs] [] (fun _ Bs=>Bs=[Y (flat (fun x=>[e1 x]) 1 (by omega) (fun _=>rfl) h1) v (s xs)]):=by
 intro w F H
 obtain ⟨A,c,rfl,hle,hmax,hp⟩:=H.fA 0 rfl
 rcases Nat.eq_zero_or_pos xs.length with hx|hx
 ·obtain rfl:=List.eq_nil_of_length_eq_zero hx
  refine (h0 A c w).mono ?_
  rintro e w' ⟨rfl,rfl⟩
  exact ⟨_,rfl,_,rfl,by rw [hnil];exact H⟩
 ·obtain ⟨b,t,rest,rfl,hm,hle',hmax',hr,H'⟩:=H.toBlk hx
  rw [J5] at H'
  have hbl:b<w.heap.size:=H'.fact (List.mem_cons_self ..) fun F hF=>by
   rcases Nat.lt_or_ge b w.heap.size with h|h
   ·exact h
   ·have:=hF.2
    rw [Array.getElem?_eq_none h] at this
    cases this
  refine (hc b c xs w (ON H') hbl hb).mono ?_
  rintro e w' ⟨rfl,n,os,rfl⟩
  refine ⟨_,rfl,_,rfl,?_⟩
  have H2:=ND (n:=n) (os:=os) H' (hlen xs)
  rw [←J5] at H2
  exact H2.ofBlk (hlen xs) hle' hmax' hr
theorem Sr {s:List α→List α} {z:α} (hlen:∀ xs,(s xs).length≤xs.length) (hnil:s []=[])
  (h0:∀ (p:Option Addr) (c:Nat) (w:World),Calls P f #[.slice p 0 c] w fun e w'=>e=.returned (.slice p 0 c)∧w'=w)
  (hc:∀ (b c:Nat) (xs:List α) (w:World),Sort.Holds e1 w b 0 xs.toArray→xs.length≤1000000→xs.length≤c→Calls P f #[.slice (some ⟨b,0,none⟩) xs.length c] w fun e w'=>e=.returned (.slice (some ⟨b,0,none⟩) (s xs).length c)∧∃ n,w'=Sort.putRow e1 (Sort.ahead w n) b 0 (s xs++List.replicate (xs.length - (s xs).length) z).toArray)
  (v:Value) (xs:List α) (hb:xs.length≤1000000):Cn P f [v] [Y (flat (fun x=>[e1 x]) 1 (by omega) (fun _=>rfl) h1) v xs] [] (fun u Bs=>Bs=[Y (flat (fun x=>[e1 x]) 1 (by omega) (fun _=>rfl) h1) u (s xs)]):=by
 intro w F H
 obtain ⟨A,c,rfl,hle,hmax,hp⟩:=H.fA 0 rfl
 rcases Nat.eq_zero_or_pos xs.length with hx|hx
 ·obtain rfl:=List.eq_nil_of_length_eq_zero hx
  refine (h0 A c w).mono ?_
  rintro e w' ⟨rfl,rfl⟩
  exact ⟨_,rfl,_,rfl,by rw [hnil];exact H⟩
 ·obtain ⟨b,t,rest,rfl,hm,hle',hmax',hr,H'⟩:=H.toBlk hx
  rw [J5] at H'
  refine (hc b c xs w (ON H') hb hle).mono ?_
  rintro e w' ⟨rfl,n,rfl⟩
  refine ⟨_,rfl,_,rfl,?_⟩
  have hl:=hlen xs
  have H2:=ND (n:=n) (os:=#[]) H' (ys:=s xs++List.replicate (xs.length - (s xs).length) z) (by simp;omega)
  rw [TM,List.map_append,List.append_assoc,←J5 (s xs)] at H2
  exact H2.ofBlk U (by omega) hmax' (by simp;omega)
end
theorem NM {α:Type} [Inhabited α] [DecidableEq α] (xs:List α):(Lib.compact xs).length≤xs.length:=by
 unfold Lib.compact Lib.compactUpTo
 rw [List.length_map]
 exact Nat.le_trans (List.length_filter_le _ _) (by simp)
def Gr (x:ByteArray):List UInt8:=x.data.toList
def Jh (x:List UInt8):ByteArray:=⟨x.toArray⟩
def FR (xs:List ByteArray):List ByteArray:=((xs.map Gr).mergeSort fun x y=>decide (x≤y)).map Jh
def Gl (xs:List ByteArray):List ByteArray:=(Lib.compact (xs.map Gr)).map Jh
theorem OM {w:World} {b:Nat} {xs:List ByteArray} (h:Sort.Holds Value.string w b 0 xs.toArray):Sort.Holds Go.Proofs.encStr w b 0 (xs.map Gr).toArray:=by
 intro j hj
 have hj':j<xs.length:=by simpa using hj
 have:=h j (by simpa using hj')
 simp only [List.getElem!_toArray] at this ⊢
 rw [getElem!_pos _ j (by simpa using hj')]
 rw [getElem!_pos _ j hj'] at this
 rw [List.getElem_map]
 have e:Go.Proofs.encStr (Gr xs[j])=Value.string xs[j]:=by simp [Go.Proofs.encStr,Gr]
 rw [e]
 exact this
theorem Ql {w:World} {b:Nat} {zs:List (List UInt8)}:Sort.putRow Go.Proofs.encStr w b 0 zs.toArray=Sort.putRow Value.string w b 0 (zs.map Jh).toArray:=by
 unfold Sort.putRow
 congr 1
 funext c
 unfold Sort.putCells
 congr 1
 funext k x
 simp only [List.size_toArray,List.length_map,List.getElem!_toArray]
 split
 ·rename_i h
  have h':k - 0<zs.length:=by omega
  rw [getElem!_pos (zs.map Jh) _ (by simpa using h'),getElem!_pos zs _ h',List.getElem_map]
  rfl
 ·rfl
theorem Wq {s:ByteArray}:s=(⟨#[]⟩:ByteArray)↔s.size=0:=by
 constructor
 ·rintro rfl;rfl
 ·intro h
  have:s.data=#[]:=Array.eq_empty_of_size_eq_zero h
  cases s
  simp at this
  subst this
  rfl
def BG (p:BC) (n:Int):Prop:=0≤p.op∧p.op≤23∧(p.op=1→p.s.size=0)∧(p.op=2→p.a=0∧p.s.size≤64)∧(p.op=19∨p.op=20→0≤p.a∧p.a≤n∧p.s.size=0)∧
 (p.op=21∨p.op=22→0≤p.a∧p.a≤7∧p.s.size=0)∧(¬ (p.op=1∨p.op=2∨p.op=19∨p.op=20∨p.op=21∨p.op=22)→p.a=0∧p.s.size=0)
instance (p:BC) (n:Int):Decidable (BG p n):=by unfold BG;infer_instance
def Er (n:Int):BC→Bool:=fun p=>!decide (BG p n)
def Dx (xs:List BC):Int:=if 0≤E7 (Er xs.length) (xs.take 40) then E7 (Er xs.length) (xs.take 40) else if (40:Int)<xs.length then 40 else -1
theorem RH {xs:List BC} {k:Nat} {x:BC} (hk:k<40) (hn:∀ y∈xs.take k,Er xs.length y=false) (hx:xs[k]?=some x) (hb:¬ BG x xs.length):Dx xs=(k:Int):=by
 have:E7 (Er xs.length) (xs.take 40)=(k:Int):=Le (k:=k) (by rw [List.take_take,Nat.min_eq_left (by omega)];exact hn) (by rw [List.getElem?_take,if_pos hk];exact hx) (by simp [Er,hb])
 unfold Dx
 rw [this,if_pos (by omega)]
theorem Nu {xs:List BC} {k:Nat} (hk:k=min xs.length 40) (hn:∀ y∈xs.take k,Er xs.length y=false):Dx xs=if (40:Int)<xs.length then 40 else -1:=by
 have:E7 (Er xs.length) (xs.take 40)= -1:=JE (by
  intro y hy
  refine hn y ?_
  rw [hk]
  rcases Nat.le_total xs.length 40 with h|h
  ·rw [Nat.min_eq_left h,List.take_of_length_le (Nat.le_refl _)]
   rwa [List.take_of_length_le h] at hy
  ·rwa [Nat.min_eq_right h])
 unfold Dx
 rw [this,if_neg (by omega)]
theorem RI {xs:List BC} {k:Nat} {x:BC} (hn:∀ y∈xs.take k,Er xs.length y=false) (hx:xs[k]?=some x) (hb:BG x xs.length):∀ y∈xs.take (k+1),Er xs.length y=false:=
 MP hn hx (by simp [Er,hb])
def EJ (xs:List BC):Bool:=decide (¬ (xs.length≤60∧∀ p∈xs,p.s.size≤100))
theorem TK {xs:List BC} {k:Nat} {x:BC} (hx:xs[k]?=some x) (h:100<x.s.size):true=EJ xs:=by
 have h3:¬ (xs.length≤60∧∀ p∈xs,p.s.size≤100):=fun h2=>absurd (h2.2 x (List.mem_of_getElem? hx)) (by omega)
 exact (decide_eq_true h3).symm
theorem OH {xs:List BC} {k:Nat} (hn:∀ y∈xs.take k,y.s.size≤100) (h:xs.length≤k∨60<xs.length):decide ((60:Int)<(xs.length:Int))=EJ xs:=by
 refine decide_eq_decide.2 ⟨fun h1 h2=>by omega,fun h1=>?_⟩
 apply Classical.byContradiction
 intro h2
 refine h1 ⟨by omega,?_⟩
 rwa [List.take_of_length_le (by omega)] at hn
theorem Zg {xs:List BC} {k:Nat} {x:BC} (hn:∀ y∈xs.take k,y.s.size≤100) (hx:xs[k]?=some x) (h:x.s.size≤100):∀ y∈xs.take (k+1),y.s.size≤100:=by
 intro y hy
 rw [List.take_add_one,hx] at hy
 simp at hy
 rcases hy with hy|rfl
 ·exact hn y hy
 ·exact h
structure AP where
 t:Bool
 n:Int
 b:ByteArray
def JB (v:AP):List Value:=[.bool v.t,.int .i64 v.n,.string v.b]
def AW:Kd AP:=flat JB 3 (by omega) (fun _=>rfl) (fun _ c h=>by
 simp only [JB,List.mem_cons,List.not_mem_nil,or_false] at h
 rcases h with rfl|rfl|rfl<;>rfl)
def Db (n:Int):AP:=⟨false,n,⟨#[]⟩⟩
def Ez (s:ByteArray):AP:=⟨true,0,s⟩
def CE:AP:=⟨false,0,⟨#[]⟩⟩
def EQ (v:AP):Prop:=AE v.n∧v.b.size≤64
def Ba (op:Int):ByteArray:=
 if op=3∨op=4∨op=22 then ⟨#[101]⟩ else if op=5∨op=12 then ⟨#[101,101]⟩ else if op=8∨op=9∨op=10∨op=11 then ⟨#[110,110]⟩
 else if op=13∨op=23 then ⟨#[98,98]⟩ else if op=14∨op=18 then ⟨#[98]⟩ else if op=15 then ⟨#[98,110]⟩ else if op=16 then ⟨#[98,110,110]⟩ else if op=17∨op=20 then ⟨#[110]⟩ else ⟨#[]⟩
def Fq (c:UInt8) (v:AP):Bool:=!((c==110 && v.t)||(c==98 && !v.t))
def EU:List UInt8→List AP→Bool
 |c::cs,v::vs=>Fq c v && EU cs vs
 |_,_=>true
def Aw (op:Int) (stk:List AP):Int×List AP×List AP:=
 if stk.length<(Ba op).size then (1,stk,[])
 else if EU (Ba op).data.toList (stk.drop (stk.length - (Ba op).size)) then (0,stk.take (stk.length - (Ba op).size),stk.drop (stk.length - (Ba op).size)) else (2,stk,[])
def EE (v:AP):Bool:=v.t && decide (64<v.b.size)
def Be (stk vs:List AP):Int×List AP:=
 if vs.any EE then (4,stk) else if 16<stk.length+vs.length then (1,stk) else (0,stk++vs)
def DS (told:List Ap) (k v:ByteArray):Int×List Ap:=
 if 16<k.size then (4,told) else if 40≤told.length then (5,told) else (0,told++[⟨k,v⟩])
def Bx (op a b:Int):AP:=if op=8 then Db (IntKind.i64.wrap (a+b)) else if op=9 then Db (IntKind.i64.wrap (a - b)) else if op=10 then Db (IntKind.i64.wrap (a*b)) else Db (if a<b then 1 else 0)
def P1 (b:Bool):AP:=Db (if b then 1 else 0)
def Ew (a b:AP):Bool:=if a.t then b.t && decide (a.b=b.b) else !b.t && decide (a.n=b.n)
def ED (s:ByteArray) (i:Int):Int:=if i<0∨(s.size:Int)≤i then -1 else ((s[i.toNat]?.getD 0).toNat:Int)
def Fp (s:ByteArray) (f t:Int):ByteArray:=
 if min (max t 0) (s.size:Int)≤min (max f 0) (s.size:Int) then ⟨#[]⟩ else s.extract (min (max f 0) (s.size:Int)).toNat (min (max t 0) (s.size:Int)).toNat
structure VM where
 pos:Int
 halted:Bool
 stk:List AP
 g:Nat→AP
 told:List Ap
 vals:List ByteArray
structure A8 where
 dig:Int→ByteArray
 num:ByteArray→Int
def Ig (g:Nat→AP) (k:Nat) (v:AP):Nat→AP:=fun j=>if j=k then v else g j
def C0 (m:VM) (vs:List AP):VM×Int:=({m with stk:=(Be m.stk vs).2},(Be m.stk vs).1)
def GR (m:VM):VM×Int:=
 match m.vals with
 |[]=>C0 m [Db 0]
 |v::vs=>C0 {m with vals:=vs} [Ez v,Db 1]
def B9 (D:A8) (key:ByteArray) (m:VM) (i:BC) (v:List AP):VM×Int:=
 let v0:=v.getD 0 CE;let v1:=v.getD 1 CE;let v2:=v.getD 2 CE
 if i.op=0 then ({m with halted:=true},0)
 else if i.op=1 then C0 m [Db i.a]
 else if i.op=2 then C0 m [Ez i.s]
 else if i.op=3 then C0 m [v0,v0]
 else if i.op=5 then C0 m [v1,v0]
 else if i.op=6 then C0 m [Ez key]
 else if i.op=7 then GR m
 else if i.op=8∨i.op=9∨i.op=10∨i.op=11 then C0 m [Bx i.op v0.n v1.n]
 else if i.op=12 then C0 m [P1 (Ew v0 v1)]
 else if i.op=13 then C0 m [Ez (v0.b++v1.b)]
 else if i.op=14 then C0 m [Db v0.b.size]
 else if i.op=15 then C0 m [Db (ED v0.b v1.n)]
 else if i.op=16 then C0 m [Ez (Fp v0.b v1.n v2.n)]
 else if i.op=17 then C0 m [Ez (D.dig v0.n)]
 else if i.op=18 then C0 m [Db (D.num v0.b)]
 else if i.op=19 then ({m with pos:=i.a},0)
 else if i.op=20 then (if v0.n≠0 then {m with pos:=i.a} else m,0)
 else if i.op=21 then C0 m [m.g i.a.toNat]
 else if i.op=22 then ({m with g:=Ig m.g i.a.toNat v0},0)
 else if i.op=23 then ({m with told:=(DS m.told v0.b v1.b).2},(DS m.told v0.b v1.b).1)
 else (m,0)
def BF (D:A8) (key:ByteArray) (m:VM) (i:BC):VM×Int:=
 if (Aw i.op m.stk).1≠0 then (m,(Aw i.op m.stk).1) else B9 D key {m with stk:=(Aw i.op m.stk).2.1} i (Aw i.op m.stk).2.2
def CI (D:A8) (p:List BC) (key:ByteArray):Nat→VM→VM×Int
 |0,m=>if m.pos<p.length∧m.halted=false then (m,3) else (m,0)
 |n+1,m=>
  if m.pos<p.length∧m.halted=false then
   match p[m.pos.toNat]? with
   |some i=>if (BF D key {m with pos:=m.pos+1} i).2≠0 then BF D key {m with pos:=m.pos+1} i else CI D p key n (BF D key {m with pos:=m.pos+1} i).1
   |none=>(m,0)
  else (m,0)
def Dw (vals:List ByteArray):VM:=⟨0,false,[],fun _=>CE,[],vals⟩
def Bp (D:A8) (p:List BC) (key:ByteArray) (vals:List ByteArray) (fuel:Int):List Ap×Int:=
 if ¬ Dx p<0∨fuel<0 then ([],2)
 else if (CI D p key (min fuel 2000).toNat (Dw vals)).2≠0 then ([],(CI D p key (min fuel 2000).toNat (Dw vals)).2) else ((CI D p key (min fuel 2000).toNat (Dw vals)).1.told,0)
/-! ### Facts -/
theorem M0 (x:Int):AE (IntKind.i64.wrap x):=by
 unfold AE
 simp only [IntKind.wrap,IntKind.bits,IntKind.signed]
 simp
 omega
theorem WB (op a b:Int):EQ (Bx op a b):=by
 unfold Bx
 split
 ·exact ⟨M0 _,(by decide:(⟨#[]⟩:ByteArray).size≤64)⟩
 ·split
  ·exact ⟨M0 _,(by decide:(⟨#[]⟩:ByteArray).size≤64)⟩
  ·split
   ·exact ⟨M0 _,(by decide:(⟨#[]⟩:ByteArray).size≤64)⟩
   ·refine ⟨?_,(by decide:(⟨#[]⟩:ByteArray).size≤64)⟩
    show AE (if a<b then 1 else 0)
    split<;>(unfold AE;omega)
def A_ (pv:Value) (key:ByteArray) (vv:Value) (fuel pos steps:Int) (halted:Bool) (sv:Value) (g:Nat→AP) (tv mv:Value):List Value:=
 [pv,.string key,vv,.int .i64 fuel,.int .i64 pos,.int .i64 steps,.bool halted,sv,
  .bool (g 0).t,.int .i64 (g 0).n,.string (g 0).b,.bool (g 1).t,.int .i64 (g 1).n,.string (g 1).b,.bool (g 2).t,.int .i64 (g 2).n,.string (g 2).b,.bool (g 3).t,.int .i64 (g 3).n,.string (g 3).b,
  .bool (g 4).t,.int .i64 (g 4).n,.string (g 4).b,.bool (g 5).t,.int .i64 (g 5).n,.string (g 5).b,.bool (g 6).t,.int .i64 (g 6).n,.string (g 6).b,.bool (g 7).t,.int .i64 (g 7).n,.string (g 7).b,tv,mv]
section
variable {P:Program} {fn:Func} {R:Ending→World→Prop} {n:Nat} {l:BB} {w w':World} {v:Value} {t:TypeId}
theorem Yg {s:Tmp} {sz:Nat} {p:Addr} {cs:List Value} {a:Act} (hr:fn.results=#[.cell s t]) (ha:CB n l a) (hs:lk l s=some (.pointer (some p))) (ht:Cd P t=some (true,sz)) (hz:cs.length=sz) (hc:∀ j v,cs[j]?=some v→w.cell? (p.add j)=some v):(results fn a.tmps).run P w=.ok (.agg cs.toArray) w:=by
 have hl:=run_loadCells_list (P:=P) w p cs hc
 have hg:=(ha.get s _ hs).1
 simp [results,hr]
 rw [←Array.getD_eq_getD_getElem?,hg]
 simp [asAddr,loadVar,Kq ht,MC ht,←hz,hl]
theorem Fx {s:Tmp} {sz:Nat} {p:Addr} {cs:List Value} (hr:fn.results=#[.cell s t]) (hs:lk l s=some (.pointer (some p))) (ht:Cd P t=some (true,sz)) (hz:cs.length=sz) (hc:∀ j v,cs[j]?=some v→w.cell? (p.add j)=some v) (h:R (.returned (.agg cs.toArray)) w):WQ (bodyPost P fn R) .ret n l w:=
 fun a ha=>bodyPost_ret (Yg hr ha hs ht hz hc) ha.defers h
end
section
variable {P:Program} {n:Nat} {l:BB} {w w0:World} {F0:AJ} {o:Oper} {x y z:Operand} {t:TypeId} {As Rs:List SP}
theorem XD {tt:TypeId} {s:ByteArray} {k k':IntKind} {i j:Int} {r:ByteArray} (ho:o.op=.slice tt x (some y) (some z) none) (ht:P.underlying tt=some .string) (hx:ev l x=some (.string s)) (hy:ev l y=some (.int k i)) (hz:ev l z=some (.int k' j))
  (h0:0≤i) (h1:i≤j) (h2:j≤(s.size:Int)) (hr:s.extract i.toNat j.toNat=r):Bv P n l w o (.string r) w:=by
 intro a ha
 have hb:(Instr.sliceBounds false s.size s.size (some (.int k i)) (some (.int k' j)) none).run P w=.ok (i.toNat,j.toNat,s.size) w:=by
  have g0:0≤j:=by omega
  simp [Instr.sliceBounds,Instr.sliceBound,asIntOf,h0,h2,g0]
  intro hh
  omega
 simp [execOp,ho,ha.eval hx,ha.eval hy,ha.eval hz,Instr.sliceAt,Instr.slice,hb,run_underlying ht,←hr]
theorem GU {tt e:TypeId} {size len:Nat} {b off:Nat} {k:IntKind} {i:Int} {p:Nat} (ho:o.op=.indexAddr tt x y) (hu:P.underlying tt=some (.array len e)) (hi:(P.info? e).map (·.size)=some size)
  (hx:ev l x=some (.pointer (some ⟨b,off,none⟩))) (hy:ev l y=some (.int k i)) (h0:0≤i) (h1:i<(len:Int)) (hp:off+i.toNat*size=p):Bv P n l w o (.pointer (some ⟨b,p,none⟩)) w:=by
 obtain ⟨inf,h2,h3⟩:=Option.map_eq_some_iff.1 hi
 exact XH ho hu h2 h3 hx hy h0 h1 hp
theorem Qq {t':TypeId} {u:Value} {b:Bool} (ho:o.op=.binOp .neq t x (.const .nilIface) t') (ht:P.underlying t=some (.interface (P.methodsAt t))) (hx:ev l x=some u) (hu:(u=.nilIface∧b=false)∨(∃ te pe,u=.iface te pe∧b=true)):Bv P n l w o (.bool b) w:=by
 intro a ha
 have hc:a.eval (.const .nilIface)=.nilIface:=rfl
 rcases hu with ⟨rfl,rfl⟩|⟨te,pe,rfl,rfl⟩
 ·have h:=run_equal_nil_nil (P:=P) w t ht
  simp [execOp,ho,ha.eval hx,hc,eqGuard,binOp,h]
 ·have h:=run_equal_held_nil (P:=P) w t te pe ht
  simp [execOp,ho,ha.eval hx,hc,eqGuard,binOp,h]
theorem Qu {src dst e:TypeId} {p:Addr} {v:Value} (ho:o.op=.convert src dst x) (hs:P.underlying src=some (.pointer e)) (hd:P.underlying dst=some .unsafePointer) (hz:(P.info? e).map (fun i=>decide (i.size=0))=some false) (hx:ev l x=some (.pointer (some p))) (hc:w.cell? p=some v):Bv P n l w o (.pointer (some p)) w:=by
 intro a ha
 simp [execOp,ho,ha.eval hx,run_convert_to_unsafe hs hd hz hc]
theorem WR {α:Type} {d:Kd α} {F:AJ} {A:Option Addr} {m c:Nat} {xs:List α} (h:(Y d (.slice A m c) xs).P w F) {i:Nat} (hi:i≤m):(Y d (.slice A i c) (xs.take i)).P w F:=by
 obtain ⟨A',m',c',e,hl,cs,F1,F2,s1,s2,dj,⟨r1,r2,r3,r4⟩,hrep⟩:=h
 simp only [List.cons.injEq,Value.slice.injEq,and_true] at e
 obtain ⟨rfl,rfl,rfl⟩:=e
 refine ⟨A,i,c,rfl,by rw [List.length_take];omega,cs.take (i*d.sz),F1,F2,s1,s2,dj,⟨by omega,r2,?_,?_⟩,hrep.take i⟩
 ·rw [List.length_take,r3]
  exact Nat.min_eq_left (Nat.mul_le_mul_right _ hi)
 ·rcases r4 with h0|⟨b,C,t,e,hb,hh,hs,ht⟩
  ·exact .inl h0
  ·refine .inr ⟨b,C,t,e,hb,hh,hs,?_⟩
   rw [←ht,List.take_take,Nat.min_eq_left (Nat.mul_le_mul_right _ hi)]
theorem Hd.preO {α:Type} {d:Kd α} {A:Option Addr} {m c:Nat} {xs:List α} (H:Hd w0 F0 w (Y d (.slice A m c) xs::As) Rs) (i:Nat) (hi:i≤m):Hd w0 F0 w (Y d (.slice A i c) (xs.take i)::As) Rs:=H.turn fun _ h=>WR h hi
end
section
variable {w w0:World} {F0:AJ} {As Rs:List SP} {α:Type} {enc:α→List Value} {sz:Nat} {hp:0<sz} {hl:∀ x,(enc x).length=sz} {h1:∀ x,∀ c∈enc x,c.oneCell'=true} {xs:List α} {A:Option Addr} {m c:Nat}
theorem Hd.thX (H:Hd w0 F0 w As Rs) (hS:∀ F,(∀ A∈As,A.P w F)→(∀ R∈Rs,R.P w F)→(Aa (flat enc sz hp hl h1) (.slice A m c) xs).P w F) {i:Nat} {x:α} (hx:xs[i]?=some x):E3 A:=H.read fun F hA hR=>Lm (hS F hA hR) hx
theorem Hd.elX (H:Hd w0 F0 w As Rs) (hS:∀ F,(∀ A∈As,A.P w F)→(∀ R∈Rs,R.P w F)→(Aa (flat enc sz hp hl h1) (.slice A m c) xs).P w F) {i:Nat} {x:α} (hx:xs[i]?=some x) {q p:Nat} {u:Value} (hu:(enc x)[q]?=some u) (hpj:AS A+i*sz+q=p):w.cell? ⟨DY A,p,none⟩=some u:=
 H.read fun F hA hR=>Lk (hS F hA hR) hx hu hpj
theorem Hd.elsX (H:Hd w0 F0 w As Rs) (hS:∀ F,(∀ A∈As,A.P w F)→(∀ R∈Rs,R.P w F)→(Aa (flat enc sz hp hl h1) (.slice A m c) xs).P w F) {i:Nat} {x:α} (hx:xs[i]?=some x) {p:Nat} (hpj:AS A+i*sz=p):∀ q v,(enc x)[q]?=some v→w.cell? ((⟨DY A,p,none⟩:Addr).add q)=some v:=by
 intro q v hq
 rw [Ej]
 exact H.elX hS hx hq (by rw [hpj])
end
section
variable {pv:Value} {key:ByteArray} {vv:Value} {fuel pos steps:Int} {halted:Bool} {sv:Value} {g:Nat→AP} {tv mv:Value}
theorem Py {k:Nat} (h:k<8):k=0∨k=1∨k=2∨k=3∨k=4∨k=5∨k=6∨k=7:=by omega
theorem Yn {k:Nat} (h:k<8):(((A_ pv key vv fuel pos steps halted sv g tv mv).drop (8+k*3)).take 3)=JB (g k):=by
 rcases Py h with rfl|rfl|rfl|rfl|rfl|rfl|rfl|rfl<;>rfl
theorem Yo {k:Nat} (h:k<8) (v:AP):Eu (A_ pv key vv fuel pos steps halted sv g tv mv) (8+k*3) (JB v)=A_ pv key vv fuel pos steps halted sv (Ig g k v) tv mv:=by
 rcases Py h with rfl|rfl|rfl|rfl|rfl|rfl|rfl|rfl<;>rfl
end
theorem Zi  :
    Cn Tryz.prog 210 [] [] [] (fun v Bs=>∃ b,v=.pointer (some ⟨b,0,none⟩)∧Bs=[blk b [.int .i64 0,.int .i64 0,.int .i64 0,.int .i64 0,.int .i64 0,.int .i64 0,.int .i64 0,.int .i64 0] 322]):=by
 intro w0 F0 H
 refine enter Tryz.func210 U U (Nat.le_of_ble_eq_true U) (Ab (Ae (Ad U (Ac (Z (Ab (Ae (V U U (CR (parts:=[]) (vs:=[]) (cs:=[.int .i64 0,.int .i64 0,.int .i64 0,.int .i64 0,.int .i64 0,.int .i64 0,.int .i64 0,.int .i64 0]) U RS U U) (Ct U U U U H (fun b1 w H=>(Ad U (Ac (Z ?_)))))))))))))
 replace H:Hd _ _ _ [blk b1 [.int .i64 0,.int .i64 0,.int .i64 0,.int .i64 0,.int .i64 0,.int .i64 0,.int .i64 0,.int .i64 0] 322] []:=H
 exact An (Aq U U (Ak ⟨_,rfl,rfl⟩ H))
theorem Zh (t:Nat):
    Cn Tryz.prog 249 [.pointer (some ⟨t,0,none⟩),.int .i64 0] [] [] (fun v Bs=>v=.pointer (some ⟨t,0,none⟩)∧Bs=[]):=by
 intro w0 F0 H
 refine enter Tryz.func249 U U (Nat.le_of_ble_eq_true U) (Ab (Ae (Ad U (Ac (Z (Ab (Ab (Ae (Ad U (V U U (Dn U ZE U U) (Ah 2 U (V U U (Bb U U U) (Ah 3 U (V U U (CL U U U) (Ad U (Ac (Z (B2 U (Av (Z (Ab (Ae (Ah 2 U (V U U (AH U U) (V U U (Aj U Ts U) (V U U (GU (p:=0) U ZF T9 U U (by omega) (by omega) U) (Ad U (Ac (Z (An (Aq U U ?_)))))))))))))))))))))))))))))))
 replace H:Hd _ _ _ [] []:=H
 exact Ak ⟨rfl,rfl⟩ H
theorem RA (nb:Nat) (n o:Int) (hn:0≤n∧n≤1099511627776) (ho:0≤o∧o≤1099511627776):
    Cn Tryz.prog 250 [.int .i64 o,.pointer (some ⟨nb,0,none⟩)] [] [blk nb [.int .i64 n] 3] (fun v Bs=>v=.int .i64 (min (o+n) 1099511627776)∧Bs=[]):=by
 intro w0 F0 H
 refine enter Tryz.func250 U U (Nat.le_of_ble_eq_true U) (Ab (Ae (Ad U (Ac (Z (Ab (Ae (Ad U (V U U (Al U AA U (H.cellRI 0 U U)) (V U U (AU (z:=o+n) U U U (AB (by omega) (by omega))) (V U U (Hi (z:=min (o+n) 1099511627776) U U U U) (Ad U (Ac (Z (An (Aq U U ?_))))))))))))))))
 replace H:Hd _ _ _ [] [blk nb [.int .i64 n] 3]:=H
 exact Ak ⟨rfl,rfl⟩ H
theorem Vz (t:Nat) (c0 c1 c2 c3 c4 c5 c6 c7:Int):
    Cn Tryz.prog 281 [.pointer (some ⟨t,0,none⟩)] [] [blk t [.int .i64 c0,.int .i64 c1,.int .i64 c2,.int .i64 c3,.int .i64 c4,.int .i64 c5,.int .i64 c6,.int .i64 c7] 322] (fun v Bs=>v=.int .i64 c0∧Bs=[]):=by
 intro w0 F0 H
 refine enter Tryz.func281 U U (Nat.le_of_ble_eq_true U) (Ab (Ae (Ad U (Ac (Z (Ab (Ae (Ad U (V U U (AH U U) (V U U (Aj U Oq U) (V U U (Kh Td U U (H.cellRI 0 U U)) (Ad U (Ac (Z (An (Aq U U ?_))))))))))))))))
 replace H:Hd _ _ _ [] [blk t [.int .i64 c0,.int .i64 c1,.int .i64 c2,.int .i64 c3,.int .i64 c4,.int .i64 c5,.int .i64 c6,.int .i64 c7] 322]:=H
 exact Ak ⟨rfl,rfl⟩ H
theorem R_ (t:Nat) (c0 c1 c2 c3 c4 c5 c6 c7:Int) (n:Int):
    Cn Tryz.prog 282 [.pointer (some ⟨t,0,none⟩),.int .i64 c0,.int .i64 n] [blk t [.int .i64 c0,.int .i64 c1,.int .i64 c2,.int .i64 c3,.int .i64 c4,.int .i64 c5,.int .i64 c6,.int .i64 c7] 322] [] (fun v Bs=>v=.bool true∧Bs=[blk t [.int .i64 n,.int .i64 c1,.int .i64 c2,.int .i64 c3,.int .i64 c4,.int .i64 c5,.int .i64 c6,.int .i64 c7] 322]):=by
 intro w0 F0 H
 refine enter Tryz.func282 U U (Nat.le_of_ble_eq_true U) (Ab (Ae (Ad U (Ac (Z (Ab (Ae (Ad U (V U U (AH U U) (V U U (Aj U Oq U) (Ah 2 U (QU Te U U U U H U (fun w H=>?_)))))))))))))
 replace H:Hd _ _ _ [blk t [.int .i64 n,.int .i64 c1,.int .i64 c2,.int .i64 c3,.int .i64 c4,.int .i64 c5,.int .i64 c6,.int .i64 c7] 322] []:=H
 exact Ad U (Ac (Z (An (Aq U U (Ak ⟨rfl,rfl⟩ H)))))
theorem Si (t:Nat) (c0 c1 c2 c3 c4 c5 c6 c7:Int) (nb:Nat) (n:Int) (hn:0≤n∧n≤1099511627776) (ho:0≤c0∧c0≤1099511627776):
    Cn Tryz.prog 248 [.pointer (some ⟨t,0,none⟩),.func (.func 250) #[] #[.pointer (some ⟨nb,0,none⟩)]] [blk t [.int .i64 c0,.int .i64 c1,.int .i64 c2,.int .i64 c3,.int .i64 c4,.int .i64 c5,.int .i64 c6,.int .i64 c7] 322] [blk nb [.int .i64 n] 3] (fun v Bs=>v=.int .i64 (min (c0+n) 1099511627776)∧Bs=[blk t [.int .i64 (min (c0+n) 1099511627776),.int .i64 c1,.int .i64 c2,.int .i64 c3,.int .i64 c4,.int .i64 c5,.int .i64 c6,.int .i64 c7] 322]):=by
 intro w0 F0 H
 refine enter Tryz.func248 U U (Nat.le_of_ble_eq_true U) (Ab (Ae (Ad U (Ac (Z (Ab (Ab (Ae (Ad U (V U U (Dn U ZG U U) (Ac (Z (B2 U (Av (Z (AQ (BL (σ:=Unit) (fun u=>[(0,.pointer (some ⟨t,0,none⟩)),(1,.func (.func 250) #[] #[.pointer (some ⟨nb,0,none⟩)])]) (fun u w=>(Hd w0 F0 w [blk t [.int .i64 c0,.int .i64 c1,.int .i64 c2,.int .i64 c3,.int .i64 c4,.int .i64 c5,.int .i64 c6,.int .i64 c7] 322] [blk nb [.int .i64 n] 3])) (fun u=>0) () ⟨rfl,rfl,trivial⟩ H ?_)))))))))))))))))
 rintro u w H
 refine AQ (Ab (Ae (Ad U (sc (Vz t c0 c1 c2 c3 c4 c5 c6 c7) H (lA 0 U (fun _ h=>h) l0) U U (Au U9 U U) ?_))))
 rintro _ _ w ⟨rfl,rfl⟩ H
 refine Ad U (Ac (Z (Ab (Ae (Ah 2 U (sc (RA nb n c0 hn ho) H (lR 0 U l0) U U (FX (vs:=[.int .i64 c0]) (fs:=#[]) (cs:=#[.pointer (some ⟨nb,0,none⟩)]) UX U U U) ?_))))))
 rintro _ _ w ⟨rfl,rfl⟩ H
 refine Ad U (Ac (Z (Ab (Ae (Ah 2 U (V U U (A0 U U U) (Ad U ?_)))))))
 refine AN (d:=17) U (fun h1=>?_) (fun h1=>?_)
 ·refine Ah 5 U (Ac (Z (CG U (Ab (Ae (Ah 2 U (Ac (Z (An (AX (Ay (AX (Aq U U ?_)))))))))))))
  replace H:Hd w0 F0 w [blk t [.int .i64 (min (c0+n) 1099511627776),.int .i64 c1,.int .i64 c2,.int .i64 c3,.int .i64 c4,.int .i64 c5,.int .i64 c6,.int .i64 c7] 322] [blk nb [.int .i64 n] 3]:=by rw [h1];exact H
  exact Ak ⟨rfl,rfl⟩ H
 refine Ah 3 U (sc (R_ t c0 c1 c2 c3 c4 c5 c6 c7 (min (c0+n) 1099511627776)) H l0 U U (Au U_ U U) ?_)
 rintro _ _ w ⟨rfl,rfl⟩ H
 refine Ad U (Ac (Z ?_))
 replace H:Hd _ _ _ [blk t [.int .i64 (min (c0+n) 1099511627776),.int .i64 c1,.int .i64 c2,.int .i64 c3,.int .i64 c4,.int .i64 c5,.int .i64 c6,.int .i64 c7] 322] [blk nb [.int .i64 n] 3]:=H
 exact CG U (Ab (Ae (Ah 2 U (Ac (Z (An (AX (Ay (AX (Aq U U (Ak ⟨rfl,rfl⟩ H)))))))))))
theorem Q6 (t:Nat) (c0 c1 c2 c3 c4 c5 c6 c7:Int) (n:Int) (hn:0≤n∧n≤1099511627776) (ho:0≤c0∧c0≤1099511627776):
    Cn Tryz.prog 214 [.pointer (some ⟨t,0,none⟩),.int .i64 0,.int .i64 n] [blk t [.int .i64 c0,.int .i64 c1,.int .i64 c2,.int .i64 c3,.int .i64 c4,.int .i64 c5,.int .i64 c6,.int .i64 c7] 322] [] (fun v Bs=>v=.int .i64 (min (c0+n) 1099511627776)∧Bs=[blk t [.int .i64 (min (c0+n) 1099511627776),.int .i64 c1,.int .i64 c2,.int .i64 c3,.int .i64 c4,.int .i64 c5,.int .i64 c6,.int .i64 c7] 322]):=by
 intro w0 F0 H
 refine enter Tryz.func214 U U (Nat.le_of_ble_eq_true U) (Ab (Ae (Ct U U U U H (fun b1 w H=>(Ad U (Ac (Z ?_)))))))
 replace H:Hd _ _ _ [blk b1 [.int .i64 n] 3,blk t [.int .i64 c0,.int .i64 c1,.int .i64 c2,.int .i64 c3,.int .i64 c4,.int .i64 c5,.int .i64 c6,.int .i64 c7] 322] []:=H
 refine Ab (Ab (Ae (V U U (Al U AA U (H.cellI 0 U U)) (V U U (Bb U U U) (Ad U ?_)))))
 refine AN (d:=9) U (fun h2=>?_) (fun h2=>?_)
 ·exfalso;omega
 refine V U U (Al U AA U (H.cellI 0 U U)) (V U U (Ck U U U) (Ad U (Ac (Z ?_))))
 refine Ax U (fun h3=>?_) (fun h3=>?_)
 ·exfalso;omega
 refine Av (Z (Ab (Ae (Ah 2 U (sc (Zh t) H l0 U U (Au UV U U) ?_)))))
 rintro _ _ w ⟨rfl,rfl⟩ H
 refine V U U (Hh (fs:=#[]) (cs:=#[.pointer (some ⟨b1,0,none⟩)]) U U U) ?_
 replace H:=H.p1
 refine sc (Si t c0 c1 c2 c3 c4 c5 c6 c7 b1 n hn ho) H (lA 0 U (fun _ h=>h) l0) U U (Au UU U U) ?_
 rintro _ _ w ⟨rfl,rfl⟩ H
 replace H:=H.h1 (A:=blk t [.int .i64 (min (c0+n) 1099511627776),.int .i64 c1,.int .i64 c2,.int .i64 c3,.int .i64 c4,.int .i64 c5,.int .i64 c6,.int .i64 c7] 322)
 refine Ad U (Ac (Z (An (Aq U U ?_))))
 replace H:=H.k1
 exact Ak ⟨rfl,rfl⟩ H
def Am {α:Type} (d:Kd α):Kd (Value×List α) where
 sz:=1
 O w F x cs:=cs=[x.1]∧(Bz d).O w F x.2 [x.1]
 R w F x cs:=cs=[x.1]∧(Bz d).R w F x.2 [x.1]
 O_loc h hk:=⟨h.1,(Bz d).O_loc h.2 hk⟩
 O_mono h hk:=⟨h.1,(Bz d).O_mono h.2 hk⟩
 R_loc h hk:=⟨h.1,(Bz d).R_loc h.2 hk⟩
 R_mono h hk:=⟨h.1,(Bz d).R_mono h.2 hk⟩
 O_R h:=⟨h.1,(Bz d).O_R h.2⟩
 len h:=by rw [h.1];rfl
 one h:=fun c hc=>(Bz d).one h.2 c (h.1▸hc)
 pos:=Nat.one_pos
section
variable {w w0:World} {F F0:AJ} {As Rs:List SP} {α:Type} {d:Kd α} {A:Option Addr} {m c:Nat} {us:List (Value×List α)}
theorem LH (h:(Aa (Am d) (.slice A m c) us).P w F) {i:Nat} {x:Value×List α} (hx:us[i]?=some x):
  E3 A∧w.cell? ⟨DY A,AS A+i*1,none⟩=some x.1∧(Aa d x.1 x.2).P w F:=by
 obtain ⟨b,off,cs,e,hl,hc,h1,h2⟩:=I6 h hx
 subst h1 e
 exact ⟨rfl,hc 0 x.1 rfl,h2⟩
theorem HY (h:(Aa (Am d) (.slice A m c) us).P w F) {i:Nat} {u:Value} {x:List α} (hx:us[i]?=some (u,x)):(Aa d u x).P w F:=(LH h hx).2.2
theorem Hd.thRd (H:Hd w0 F0 w As Rs) (j:Nat) (hj:Rs[j]?=some (Aa (Am d) (.slice A m c) us)) {i:Nat} {x:Value×List α} (hx:us[i]?=some x):E3 A:=H.factR (List.mem_of_getElem? hj) fun _ h=>(LH h hx).1
theorem Hd.elRd (H:Hd w0 F0 w As Rs) (j:Nat) (hj:Rs[j]?=some (Aa (Am d) (.slice A m c) us)) {i:Nat} {u:Value} {x:List α} (hx:us[i]?=some (u,x)) {p:Nat} (hp:AS A+i*1=p):w.cell? ⟨DY A,p,none⟩=some u:=by
 subst hp
 exact H.factR (List.mem_of_getElem? hj) fun _ h=>(LH h hx).2.1
theorem Hd.nestR (H:Hd w0 F0 w As Rs) (j:Nat) (hj:Rs[j]?=some (Aa (Am d) (.slice A m c) us)) {i:Nat} {u:Value} {x:List α} (hx:us[i]?=some (u,x)):∃ A' c',u=.slice A' x.length c'∧x.length≤c'∧c'≤9223372036854775807:=by
 refine H.factR (List.mem_of_getElem? hj) fun _ h=>?_
 obtain ⟨A',c',e,h1,h2,_⟩:=DU (HY h hx)
 exact ⟨A',c',e,h1,h2⟩
theorem Hd.pickR (is:List Nat) (H:Hd w0 F0 w As Rs):Hd w0 F0 w As (is.filterMap fun i=>Rs[i]?):=H.subR fun R hR=>by
 obtain ⟨i,_,hi⟩:=List.mem_filterMap.1 hR
 exact List.mem_of_getElem? hi
theorem Hd.dropR {R:SP} (H:Hd w0 F0 w As (R::Rs)):Hd w0 F0 w As Rs:=H.subR fun _ hR=>List.mem_cons_of_mem _ hR
theorem Hd.dupR {R:SP} (H:Hd w0 F0 w As Rs) (j:Nat) (hj:Rs[j]?=some R):Hd w0 F0 w As (R::Rs):=H.addR fun _ h=>h _ (List.mem_of_getElem? hj)
theorem Hd.sufR {xs:List α} (H:Hd w0 F0 w As Rs) (j:Nat) (hj:Rs[j]?=some (Aa d (.slice A m c) xs)) {n:Nat} (hn:n≤m):Hd w0 F0 w As (Aa d (.slice (DK A c n d.sz) (m - n) (c - n)) (xs.drop n)::Rs):=
 H.addR fun _ h=>Id (h _ (List.mem_of_getElem? hj)) hn
theorem QG:∀ {xs:List (List α)} {cs:List Value},AV (Bz d) w F xs cs→∃ us:List (Value×List α),us.map (·.2)=xs∧AV (Am d) w F us cs
 |[],_,h=>⟨[],rfl,h⟩
 |x::xs,_,⟨c,cs',e,h1,h2⟩=>by
  obtain ⟨us,rfl,hu⟩:=QG h2
  obtain ⟨A',n',c',rfl,h3⟩:=h1
  exact ⟨(.slice A' n' c',x)::us,rfl,_,_,e,⟨rfl,_,_,_,rfl,h3⟩,hu⟩
theorem Hd.heads {v:Value} {xs:List (List α)} (H:Hd w0 F0 w As Rs) (j:Nat) (hj:Rs[j]?=some (Aa (Bz d) v xs)):∃ us:List (Value×List α),us.map (·.2)=xs∧Hd w0 F0 w As (Aa (Am d) v us::Rs):=by
 obtain ⟨F,G,s,r,dj,f,g,u⟩:=H
 obtain ⟨A',n',c',e,h1,h2,h3,cs,h4,h5⟩:=r _ (List.mem_of_getElem? hj)
 obtain ⟨us,rfl,hu⟩:=QG h5
 refine ⟨us,rfl,F,G,s,?_,dj,f,g,u⟩
 intro R hR
 cases hR with
 |head=>exact ⟨A',n',c',e,by rw [←h1,List.length_map],h2,h3,cs,h4,hu⟩
 |tail _ hm=>exact r R hm
theorem QF:∀ {us:List (Value×List α)},(∀ p∈us,(Aa d p.1 p.2).P w F)→AV (Am d) w F us (us.map (·.1))
 |[],_=>rfl
 |p::us,h=>⟨[p.1],us.map (·.1),rfl,⟨rfl,h p (List.mem_cons_self ..)⟩,QF fun q hq=>h q (List.mem_cons_of_mem _ hq)⟩
end
section
variable {P:Program} {ops:Array Oper} {Q:Exit→Act→World→Prop} {rest:List Oper} {n:Nat} {l:BB} {w0 w:World} {F0:AJ} {o:Oper} {As Rs:List SP} {x y:Operand} {t:TypeId}
theorem If {α:Type} {d:Kd α} {e bytes et b:Nat} {z u v':Value} {us:List (Value×List α)} {ys:List α}
  (hg:gd ops l o=some true) (hd:CM n o.dst=true) (ho:o.op=.call { callee:=.builtin .append,args:=#[x,y],argTypes:=#[t,t] }) (hs:C5 P t=some (e,1,bytes)) (hz:C1 P e=some z) (hzs:z.cells.size=1) (hb0:0<bytes)
  (hx:ev l x=some u) (hy:ev l y=some (.slice (some ⟨b,0,none⟩) 1 1)) (H:Hd w0 F0 w (Y (Am d) u us::blk b [v'] et::Y d v' ys::As) Rs) (hb:(us.length+1)*bytes≤140737488355328)
  (h:∀ u' w',Hd w0 F0 w' (Y (Am d) u' (us++[(v',ys)])::As) Rs→WL P ops Q rest n (Cu l o.dst u') w'):WL P ops Q (o::rest) n l w:=by
 have H1:Hd w0 F0 w ([blk b [v'] et,Y d v' ys]++(Y (Am d) u us::As)) Rs:=H.perm ((List.Perm.swap _ _ _).trans ((List.Perm.swap _ _ _).cons _))
 have H2:=H1.shut (A:=BZ [blk b [v'] et,Y d v' ys]) (fun F hF=>hF)
 have H3:=H2.perm (List.Perm.swap _ _ _)
 refine YA (d:=Am d) (ys:=[(v',ys)]) hg hd ho hs hz hzs hb0 hx hy H3 hb U ?_ h
 rintro F ⟨F1,F2,h1,h2,h3,hbk,G1,G2,g1,g2,g3,hos,_⟩
 refine ⟨[v'],⟨trivial,.inr ⟨b,0,_,_,_,rfl,h1 b hbk.1,hbk.2,by simp⟩⟩,?_⟩
 exact ⟨F2,none_,[v'],[],h2,fun _ q=>q.elim,fun _ _ q=>q,rfl,⟨rfl,(Bz d).O_mono hos g1⟩,rfl⟩
end
theorem L2 (a b:ByteArray):Bh a b=decide (a.data.toList<b.data.toList):=Proofs.bytesLess_eq _ _
theorem GP (a:ByteArray):Bh a a=false:=by
 rw [L2]
 exact decide_eq_false (List.lt_irrefl _)
theorem PA {a b c:ByteArray} (h1:Bh a b=true) (h2:Bh b c=true):Bh a c=true:=by
 rw [L2] at *
 exact decide_eq_true (List.lt_trans (of_decide_eq_true h1) (of_decide_eq_true h2))
theorem J3 {a b:ByteArray} (h1:Bh a b=true):Bh b a=false:=by
 cases h:Bh b a with
 |false=>rfl
 |true=>have:=PA h1 h;rw [GP] at this;cases this
theorem L1 {a b:ByteArray} (h1:Bh a b=false) (h2:Bh b a=false):a=b:=by
 rw [L2] at *
 have h1:=of_decide_eq_false h1
 have h2:=of_decide_eq_false h2
 exact toList_inj (List.le_antisymm h2 h1)
theorem F6 {a b c:ByteArray} (h1:Bh b a=false) (h2:Bh c b=false):Bh c a=false:=by
 cases h:Bh c a with
 |false=>rfl
 |true=>
  cases h3:Bh a b with
  |true=>have:=PA h h3;rw [this] at h2;cases h2
  |false=>
   have:=L1 h3 h1
   subst this
   rw [h] at h2
   cases h2
theorem Pz {a b c:ByteArray} (h1:Bh a b=true) (h2:Bh c b=false):Bh a c=true:=by
 cases h:Bh a c with
 |true=>rfl
 |false=>have:=F6 h2 h;rw [this] at h1;cases h1
theorem Vx {a b c:ByteArray} (h1:Bh b a=false) (h2:Bh b c=true):Bh a c=true:=by
 cases h:Bh a c with
 |true=>rfl
 |false=>have:=F6 h h1;rw [this] at h2;cases h2
def B1 (xs ys:List Ap):Prop:=xs.length=ys.length∧∀ k:ByteArray,xs.filter (fun p=>decide (p.key=k))=ys.filter (fun p=>decide (p.key=k))
theorem B1.refl (xs:List Ap):B1 xs xs:=⟨rfl,fun _=>rfl⟩
theorem B1.trans {xs ys zs:List Ap} (h1:B1 xs ys) (h2:B1 ys zs):B1 xs zs:=⟨h1.1.trans h2.1,fun k=>(h1.2 k).trans (h2.2 k)⟩
theorem B1.symm {xs ys:List Ap} (h1:B1 xs ys):B1 ys xs:=⟨h1.1.symm,fun k=>(h1.2 k).symm⟩
theorem B1.append {a b c d:List Ap} (h1:B1 a b) (h2:B1 c d):B1 (a++c) (b++d):=
 ⟨by rw [List.length_append,List.length_append,h1.1,h2.1],fun k=>by rw [List.filter_append,List.filter_append,h1.2,h2.2]⟩
theorem B1.mem {xs ys:List Ap} (h:B1 xs ys) {p:Ap} (hp:p∈xs):p∈ys:=by
 have:p∈xs.filter (fun q=>decide (q.key=p.key)):=List.mem_filter.2 ⟨hp,by simp⟩
 rw [h.2] at this
 exact (List.mem_filter.1 this).1
def CX (xs:List Ap):Prop:=xs.Pairwise fun p q=>Bh q.key p.key=false
instance (xs:List Ap):Decidable (CX xs):=by unfold CX;infer_instance
def ins (p:Ap):List Ap→List Ap
 |[]=>[p]
 |q::l=>if Bh q.key p.key=true then q::ins p l else p::q::l
def srt:List Ap→List Ap
 |[]=>[]
 |p::l=>ins p (srt l)
theorem OS {p q:Ap}:∀ {l:List Ap},q∈ins p l↔q=p∨q∈l
 |[]=>by simp [ins]
 |r::l=>by
  unfold ins
  split
  ·rw [List.mem_cons,OS,List.mem_cons]
   constructor<;>(rintro (h|h|h)<;>simp [h])
  ·simp
theorem OT {p:Ap}:∀ {l:List Ap},CX l→CX (ins p l)
 |[],_=>by simp [ins,CX]
 |q::l,h=>by
  have h':=List.pairwise_cons.1 h
  unfold ins
  split
  ·rename_i hlt
   refine List.pairwise_cons.2 ⟨fun r hr=>?_,OT h'.2⟩
   rcases OS.1 hr with rfl|hr
   ·exact J3 hlt
   ·exact h'.1 r hr
  ·rename_i hlt
   have hlt:Bh q.key p.key=false:=by simpa using hlt
   refine List.pairwise_cons.2 ⟨fun r hr=>?_,h⟩
   rcases List.mem_cons.1 hr with rfl|hr
   ·exact hlt
   ·exact F6 hlt (h'.1 r hr)
theorem OU {p:Ap}:∀ {l:List Ap},B1 (p::l) (ins p l)
 |[]=>B1.refl _
 |q::l=>by
  unfold ins
  split
  ·rename_i hlt
   have hne:p.key≠q.key:=fun e=>by rw [e,GP] at hlt;cases hlt
   have h1:B1 (p::q::l) (q::p::l):=by
    refine ⟨by simp,fun k=>?_⟩
    by_cases hp:p.key=k
    ·have:¬ q.key=k:=fun e=>hne (hp.trans e.symm)
     simp [hp,this]
    ·simp [List.filter_cons,hp]
   exact h1.trans (B1.append (B1.refl [q]) (OU (p:=p) (l:=l)))
  ·exact B1.refl _
theorem Je:∀ l:List Ap,CX (srt l)
 |[]=>List.Pairwise.nil
 |_::l=>OT (Je l)
theorem Gb:∀ l:List Ap,B1 l (srt l)
 |[]=>B1.refl _
 |p::l=>(B1.append (B1.refl [p]) (Gb l)).trans OU
theorem P6:∀ {xs ys:List Ap},CX xs→CX ys→B1 xs ys→xs=ys
 |[],ys,_,_,h=>(List.eq_nil_of_length_eq_zero h.1.symm).symm
 |x::xs,[],_,_,h=>by cases h.1
 |x::xs,y::ys,hx,hy,h=>by
  have hx':=List.pairwise_cons.1 hx
  have hy':=List.pairwise_cons.1 hy
  have hk:x.key=y.key:=by
   refine L1 ?_ ?_
   ·rcases List.mem_cons.1 (h.mem (List.mem_cons_self ..):x∈y::ys) with e|hm
    ·rw [e,GP]
    ·exact hy'.1 x hm
   ·rcases List.mem_cons.1 (h.symm.mem (List.mem_cons_self ..):y∈x::xs) with e|hm
    ·rw [e,GP]
    ·exact hx'.1 y hm
  have he:=h.2 x.key
  rw [List.filter_cons_of_pos (by simp),List.filter_cons_of_pos (by simp [hk])] at he
  obtain ⟨rfl,_⟩:=List.cons.inj he
  rw [P6 hx'.2 hy'.2 ⟨by simpa using h.1,fun k=>?_⟩]
  have hk2:=h.2 k
  by_cases hxk:x.key=k
  ·rw [List.filter_cons_of_pos (by simp [hxk]),List.filter_cons_of_pos (by simp [hxk])] at hk2
   exact (List.cons.inj hk2).2
  ·rw [List.filter_cons_of_neg (by simp [hxk]),List.filter_cons_of_neg (by simp [hxk])] at hk2
   exact hk2
theorem Jd {xs ys:List Ap} (h:B1 xs ys) (ho:CX ys):ys=srt xs:=P6 ho (Je xs) (h.symm.trans (Gb xs))
theorem Q2 {xs:List Ap} (ho:CX xs):srt xs=xs:=(Jd (B1.refl xs) ho).symm
theorem Y2 {xs ys:List Ap} (h:B1 xs ys):srt xs=srt ys:=(Jd (h.trans (Gb ys)) (Je ys)).symm
theorem Ga (xs:List Ap):(srt xs).length=xs.length:=(Gb xs).1.symm
def CU (xs ys:List Ap) (f:Nat→Nat):Prop:=ys.length=xs.length∧∀ t,ys[t]?=xs[f t]?
def EX (a b n t:Nat):Nat:=if a≤t∧t<a+n then t+(b - a) else if b≤t∧t<b+n then t - (b - a) else t
def Bk (a m b t:Nat):Nat:=if a≤t∧t<a+(b - m) then t+(m - a) else if a+(b - m)≤t∧t<b then t - (b - m) else t
theorem KN (xs:List Ap) {f:Nat→Nat} (h:∀ t,f t=t):CU xs xs f:=⟨rfl,fun t=>by rw [h]⟩
theorem ZY {xs ys:List Ap} {a b k:Nat} {x y:Ap} (hab:a+k<b) (h:CU xs ys (EX a b k)) (hx:ys[a+k]?=some x) (hy:ys[b+k]?=some y):
  CU xs ((ys.set (a+k) y).set (b+k) x) (EX a b (k+1)):=by
 have l1:a+k<ys.length:=(List.getElem?_eq_some_iff.1 hx).1
 have l2:b+k<ys.length:=(List.getElem?_eq_some_iff.1 hy).1
 refine ⟨by simpa using h.1,fun t=>?_⟩
 rw [List.getElem?_set,List.getElem?_set]
 have hx':=h.2 (a+k)
 have hy':=h.2 (b+k)
 rw [hx] at hx'
 rw [hy] at hy'
 by_cases h1:b+k=t
 ·subst h1
  rw [if_pos rfl,if_pos (by simpa using l2),hx']
  congr 1
  unfold EX
  rw [if_neg (by omega),if_neg (by omega),if_neg (by omega),if_pos (by omega)]
  omega
 ·rw [if_neg h1]
  by_cases h2:a+k=t
  ·subst h2
   rw [if_pos rfl,if_pos l1,hy']
   congr 1
   unfold EX
   rw [if_neg (by omega),if_neg (by omega),if_pos (by omega)]
   omega
  ·rw [if_neg h2,h.2]
   congr 1
   unfold EX
   repeat' split
   all_goals omega
theorem Yi {xs ys:List Ap} {m i j:Nat} (him:i≤m) (hj:j<i) (h:CU xs ys (EX (m - i) m j)):∀ t,xs[Bk (m - i) m (m+j) t]?=ys[Bk (m - (i - j)) m (m+j) t]?:=by
 intro t
 rw [h.2]
 congr 1
 unfold Bk EX
 repeat' split
 all_goals omega
theorem Yj {xs ys:List Ap} {m i j:Nat} (him:i≤m) (hj:i<j) (h:CU xs ys (EX (m - i) (m+j - i) i)):∀ t,xs[Bk (m - i) m (m+j) t]?=ys[Bk (m - i) m (m+(j - i)) t]?:=by
 intro t
 rw [h.2]
 congr 1
 unfold Bk EX
 repeat' split
 all_goals omega
theorem Yh {m i t:Nat} (him:i≤m):Bk (m - i) m (m+i) t=EX (m - i) m i t:=by
 unfold Bk EX
 repeat' split
 all_goals omega
theorem ZV {xs ys:List Ap} {a m b:Nat} (h:CU xs ys (Bk a m b)) (h1:a≤m) (h2:m≤b) (h3:b≤xs.length):
  ys=xs.take a++((xs.drop m).take (b - m)++((xs.drop a).take (m - a)++xs.drop b)):=by
 apply List.ext_getElem?
 intro t
 rw [h.2]
 unfold Bk
 by_cases c1:t<a
 ·rw [if_neg (by omega),if_neg (by omega),List.getElem?_append_left (by simp;omega),List.getElem?_take,if_pos c1]
 rw [List.getElem?_append_right (by simp;omega)]
 have e1:(xs.take a).length=a:=by simp;omega
 rw [e1]
 by_cases c2:t<a+(b - m)
 ·rw [if_pos (by omega),List.getElem?_append_left (by simp;omega),List.getElem?_take,if_pos (by omega),List.getElem?_drop]
  congr 1
  omega
 rw [List.getElem?_append_right (by simp;omega),if_neg (by omega)]
 have e2:((xs.drop m).take (b - m)).length=b - m:=by simp;omega
 rw [e2]
 by_cases c3:t<b
 ·rw [if_pos (by omega),List.getElem?_append_left (by simp;omega),List.getElem?_take,if_pos (by omega),List.getElem?_drop]
  congr 1
  omega
 rw [List.getElem?_append_right (by simp;omega),if_neg (by omega)]
 have e3:((xs.drop a).take (m - a)).length=m - a:=by simp;omega
 rw [e3,List.getElem?_drop]
 congr 1
 omega
theorem SB {xs:List Ap} {a m b:Nat} (h1:a≤m) (h2:m≤b):xs=xs.take a++((xs.drop a).take (m - a)++((xs.drop m).take (b - m)++xs.drop b)):=by
 have e1:(xs.drop m).take (b - m)++xs.drop b=xs.drop m:=by
  have:=List.take_append_drop (b - m) (xs.drop m)
  rwa [List.drop_drop,show m+(b - m)=b by omega] at this
 have e2:(xs.drop a).take (m - a)++xs.drop m=xs.drop a:=by
  have:=List.take_append_drop (m - a) (xs.drop a)
  rwa [List.drop_drop,show a+(m - a)=m by omega] at this
 rw [e1,e2,List.take_append_drop]
theorem QM {xs ys:List Ap} {a m b:Nat} (h:CU xs ys (Bk a m b)) (h1:a≤m) (h2:m≤b) (h3:b≤xs.length)
  (hne:∀ p q x y,a≤p→p<m→m≤q→q<b→xs[p]?=some x→xs[q]?=some y→x.key≠y.key):B1 xs ys:=by
 refine ⟨h.1.symm,fun k=>?_⟩
 rw [ZV h h1 h2 h3]
 conv=>lhs;rw [SB (xs:=xs) h1 h2]
 simp only [List.filter_append]
 congr 1
 rw [←List.append_assoc,←List.append_assoc]
 congr 1
 by_cases hk:∃ x∈(xs.drop a).take (m - a),x.key=k
 ·obtain ⟨x,hx,hxk⟩:=hk
  obtain ⟨p,hp⟩:=List.getElem?_of_mem hx
  have hpl:p<m - a:=by
   have:=(List.getElem?_eq_some_iff.1 hp).1
   simp at this
   omega
  rw [List.getElem?_take,if_pos hpl,List.getElem?_drop] at hp
  have:(((xs.drop m).take (b - m)).filter fun p=>decide (p.key=k))=[]:=by
   rw [List.filter_eq_nil_iff]
   intro y hy
   obtain ⟨q,hq⟩:=List.getElem?_of_mem hy
   have hql:q<b - m:=by
    have:=(List.getElem?_eq_some_iff.1 hq).1
    simp at this
    omega
   rw [List.getElem?_take,if_pos hql,List.getElem?_drop] at hq
   have:=hne (a+p) (m+q) x y (by omega) (by omega) (by omega) (by omega) hp hq
   simp only [decide_eq_true_eq]
   exact fun e=>this (hxk.trans e.symm)
  rw [this,List.append_nil,List.nil_append]
 ·have:(((xs.drop a).take (m - a)).filter fun p=>decide (p.key=k))=[]:=by
   rw [List.filter_eq_nil_iff]
   intro x hx
   simp only [decide_eq_true_eq]
   exact fun e=>hk ⟨x,hx,e⟩
  rw [this,List.append_nil,List.nil_append]
def BR (xs:List Ap) (a b:Nat):Prop:=∀ p q x y,a≤p→p<q→q<b→xs[p]?=some x→xs[q]?=some y→Bh y.key x.key=false
def D4 (xs ys:List Ap) (a b:Nat):Prop:=ys.length=xs.length∧(∀ t,t<a∨b≤t→ys[t]?=xs[t]?)∧∀ t,a≤t→t<b→∃ u,a≤u∧u<b∧ys[t]?=xs[u]?
theorem D4.refl (xs:List Ap) (a b:Nat):D4 xs xs a b:=⟨rfl,fun _ _=>rfl,fun t h1 h2=>⟨t,h1,h2,rfl⟩⟩
theorem D4.trans {xs ys zs:List Ap} {a b:Nat} (h1:D4 xs ys a b) (h2:D4 ys zs a b):D4 xs zs a b:=by
 refine ⟨h2.1.trans h1.1,fun t ht=>(h2.2.1 t ht).trans (h1.2.1 t ht),fun t ha hb=>?_⟩
 obtain ⟨u,u1,u2,e⟩:=h2.2.2 t ha hb
 obtain ⟨u',u1',u2',e'⟩:=h1.2.2 u u1 u2
 exact ⟨u',u1',u2',e.trans e'⟩
theorem D4.wider {xs ys:List Ap} {a b a' b':Nat} (h:D4 xs ys a b) (ha:a'≤a) (hb:b≤b'):D4 xs ys a' b':=by
 refine ⟨h.1,fun t ht=>h.2.1 t (by omega),fun t h1 h2=>?_⟩
 by_cases c:a≤t∧t<b
 ·obtain ⟨u,u1,u2,e⟩:=h.2.2 t c.1 c.2
  exact ⟨u,by omega,by omega,e⟩
 ·exact ⟨t,h1,h2,h.2.1 t (by omega)⟩
theorem QL {xs ys:List Ap} {a m b:Nat} (h:CU xs ys (Bk a m b)) (h1:a≤m) (h2:m≤b):D4 xs ys a b:=by
 refine ⟨h.1,fun t ht=>?_,fun t ha hb=>⟨Bk a m b t,?_,?_,h.2 t⟩⟩
 ·rw [h.2,show Bk a m b t=t by unfold Bk;rw [if_neg (by omega),if_neg (by omega)]]
 ·unfold Bk;split<;>(try split)<;>omega
 ·unfold Bk;split<;>(try split)<;>omega
theorem BR.same {xs ys:List Ap} {a b:Nat} (h:BR xs a b) (he:∀ t,a≤t→t<b→ys[t]?=xs[t]?):BR ys a b:=
 fun p q x y h1 h2 h3 hx hy=>h p q x y h1 h2 h3 ((he p h1 (by omega)).symm.trans hx) ((he q (by omega) h3).symm.trans hy)
theorem BR.sub {xs:List Ap} {a b a' b':Nat} (h:BR xs a b) (ha:a≤a') (hb:b'≤b):BR xs a' b':=
 fun p q x y h1 h2 h3=>h p q x y (by omega) h2 (by omega)
theorem BR.one (xs:List Ap) {a b:Nat} (h:b≤a+1):BR xs a b:=fun p q x y h1 h2 h3=>by omega
theorem BR.ord {xs:List Ap} (h:BR xs 0 xs.length):CX xs:=by
 unfold CX
 rw [List.pairwise_iff_getElem]
 intro i j hi hj hij
 exact h i j _ _ (by omega) hij hj (List.getElem?_eq_getElem hi) (List.getElem?_eq_getElem hj)
structure CT (xs ys:List Ap) (a b:Nat):Prop where
 stab:B1 xs ys
 ins:D4 xs ys a b
 srt:BR ys a b
theorem Zd {xs:List Ap} {j:Nat} {x y:Ap} (hx:xs[j]?=some x) (hy:xs[j+1]?=some y) (hlt:Bh y.key x.key=true):B1 xs ((xs.set (j+1) x).set j y)∧D4 xs ((xs.set (j+1) x).set j y) j (j+2):=by
 have l1:j+1<xs.length:=(List.getElem?_eq_some_iff.1 hy).1
 have hv:CU xs ((xs.set (j+1) x).set j y) (Bk j (j+1) (j+2)):=by
  refine ⟨by simp,fun t=>?_⟩
  rw [List.getElem?_set,List.getElem?_set]
  unfold Bk
  by_cases c1:j=t
  ·subst c1
   rw [if_pos rfl,if_pos (by simp;omega),if_pos (by omega),show j+(j+1 - j)=j+1 by omega,hy]
  ·rw [if_neg c1]
   by_cases c2:j+1=t
   ·subst c2
    rw [if_pos rfl,if_pos l1,if_neg (by omega),if_pos (by omega),show j+1 - (j+2 - (j+1))=j by omega,hx]
   ·rw [if_neg c2,if_neg (by omega),if_neg (by omega)]
 refine ⟨QM hv (by omega) (by omega) (by omega) fun p q u v h1 h2 h3 h4 hu hw=>?_,QL hv (by omega) (by omega)⟩
 obtain rfl:p=j:=by omega
 obtain rfl:q=p+1:=by omega
 rw [hx] at hu
 rw [hy] at hw
 obtain rfl:=Option.some.inj hu
 obtain rfl:=Option.some.inj hw
 intro e
 rw [e,GP] at hlt
 cases hlt
def Gh (xs:List Ap) (a b j:Nat):Prop:=∀ p q x y,a≤p→p<q→q<b→q≠j→xs[p]?=some x→xs[q]?=some y→Bh y.key x.key=false
theorem R3 {xs:List Ap} {a i:Nat} (h:BR xs a i):Gh xs a (i+1) i:=fun p q x y h1 h2 h3 h4=>h p q x y h1 h2 (by omega)
theorem R0 {xs:List Ap} {a b:Nat} (h:Gh xs a b a):BR xs a b:=fun p q x y h1 h2 h3=>h p q x y h1 h2 h3 (by omega)
theorem R6 {xs:List Ap} {a b j:Nat} {x y:Ap} (h:Gh xs a b (j+1)) (ha:a≤j) (hx:xs[j]?=some x) (hy:xs[j+1]?=some y) (hlt:Bh y.key x.key=false):BR xs a b:=by
 intro p q u v h1 h2 h3 hu hv
 by_cases c:q=j+1
 ·subst c
  rw [hy] at hv
  obtain rfl:=Option.some.inj hv
  by_cases c2:p=j
  ·subst c2
   rw [hx] at hu
   obtain rfl:=Option.some.inj hu
   exact hlt
  ·exact F6 (h p j u x h1 (by omega) (by omega) (by omega) hu hx) hlt
 ·exact h p q u v h1 h2 h3 c hu hv
theorem R4 {xs:List Ap} {a b j:Nat} {x y:Ap} (h:Gh xs a b (j+1)) (ha:a≤j) (hx:xs[j]?=some x) (hy:xs[j+1]?=some y) (hlt:Bh y.key x.key=true) (hb:j+1<b):Gh ((xs.set (j+1) x).set j y) a b j:=by
 have l1:j+1<xs.length:=(List.getElem?_eq_some_iff.1 hy).1
 have g:∀ t u,((xs.set (j+1) x).set j y)[t]?=some u→(t=j∧u=y)∨(t=j+1∧u=x)∨(t≠j∧t≠j+1∧xs[t]?=some u):=by
  intro t u ht
  rw [List.getElem?_set,List.getElem?_set] at ht
  by_cases c1:j=t
  ·rw [if_pos c1,if_pos (by simp;omega)] at ht
   exact .inl ⟨c1.symm,(Option.some.inj ht).symm⟩
  ·rw [if_neg c1] at ht
   by_cases c2:j+1=t
   ·rw [if_pos c2,if_pos l1] at ht
    exact .inr (.inl ⟨c2.symm,(Option.some.inj ht).symm⟩)
   ·rw [if_neg c2] at ht
    exact .inr (.inr ⟨Ne.symm c1,Ne.symm c2,ht⟩)
 intro p q u v h1 h2 h3 h4 hu hv
 rcases g q v hv with ⟨rfl,_⟩|⟨rfl,rfl⟩|⟨q1,q2,hq⟩
 ·exact absurd U h4
 ·rcases g p u hu with ⟨rfl,rfl⟩|⟨rfl,_⟩|⟨p1,p2,hp⟩
  ·exact J3 hlt
  ·omega
  ·exact h p j u v h1 (by omega) (by omega) (by omega) hp hx
 ·rcases g p u hu with ⟨rfl,rfl⟩|⟨rfl,rfl⟩|⟨p1,p2,hp⟩
  ·exact h (p+1) q u v (by omega) (by omega) h3 q2 hy hq
  ·exact h j q u v (by omega) (by omega) h3 q2 hx hq
  ·exact h p q u v h1 h2 h3 q2 hp hq
theorem BR.le {xs:List Ap} {a b p q:Nat} {x y:Ap} (h:BR xs a b) (h1:a≤p) (h2:p≤q) (h3:q<b) (hx:xs[p]?=some x) (hy:xs[q]?=some y):Bh y.key x.key=false:=by
 rcases Nat.lt_or_ge p q with h'|h'
 ·exact h p q x y h1 h' h3 hx hy
 ·obtain rfl:p=q:=by omega
  rw [hx] at hy
  obtain rfl:=Option.some.inj hy
  exact GP _
theorem Ko {xs ys:List Ap} {a m b s mid e:Nat} (hv:CU xs ys (Bk s m e)) (h1:a≤s) (h2:s≤m) (h3:m≤e) (h4:e≤b) (hmid:mid=s+(e - m)) (hl:BR xs a m) (hr:BR xs m b):
  BR ys a s∧BR ys s mid∧BR ys mid e∧BR ys e b:=by
 subst hmid
 refine ⟨?_,?_,?_,?_⟩
 ·refine (hl.sub (Nat.le_refl _) h2).same fun t ht1 ht2=>?_
  rw [hv.2,show Bk s m e t=t by unfold Bk;rw [if_neg (by omega),if_neg (by omega)]]
 ·intro p q x y p1 p2 p3 hx hy
  rw [hv.2,show Bk s m e p=p+(m - s) by unfold Bk;rw [if_pos (by omega)]] at hx
  rw [hv.2,show Bk s m e q=q+(m - s) by unfold Bk;rw [if_pos (by omega)]] at hy
  exact hr _ _ x y (by omega) (by omega) (by omega) hx hy
 ·intro p q x y p1 p2 p3 hx hy
  rw [hv.2,show Bk s m e p=p - (e - m) by unfold Bk;rw [if_neg (by omega),if_pos (by omega)]] at hx
  rw [hv.2,show Bk s m e q=q - (e - m) by unfold Bk;rw [if_neg (by omega),if_pos (by omega)]] at hy
  exact hl _ _ x y (by omega) (by omega) (by omega) hx hy
 ·refine (hr.sub h3 (Nat.le_refl _)).same fun t ht1 ht2=>?_
  rw [hv.2,show Bk s m e t=t by unfold Bk;rw [if_neg (by omega),if_neg (by omega)]]
theorem CT.refl {xs:List Ap} {a b:Nat} (h:BR xs a b):CT xs xs a b:=⟨B1.refl _,D4.refl _ _ _,h⟩
theorem GX {xs:List Ap} {a s mid:Nat} (h1:BR xs a s) (h2:BR xs s mid) (h:¬ (a<s∧s<mid)) (hs:a≤s):BR xs a mid:=by
 rcases Nat.lt_or_ge a s with c|c
 ·exact h1.sub (Nat.le_refl _) (by omega)
 ·exact h2.sub (by omega) (Nat.le_refl _)
theorem GQ {xs ys zs ws:List Ap} {a m b s mid e:Nat} (hv:CU xs ys (Bk s m e)) (h1:a≤s) (h2:s≤m) (h3:m≤e) (h4:e≤b) (hb:b≤xs.length) (hmid:mid=s+(e - m)) (hl:BR xs a m) (hr:BR xs m b)
  (hlow:s=a∨e=b∨∃ u v,xs[s - 1]?=some u∧xs[e]?=some v∧Bh v.key u.key=false)
  (hup:s=m∨e=m∨∃ u v,xs[e - 1]?=some u∧xs[s]?=some v∧Bh u.key v.key=true)
  (hz:CT ys zs a mid) (hw:CT zs ws mid b):CT xs ws a b:=by
 have hkey:∀ p q x y,s≤p→p<m→m≤q→q<e→xs[p]?=some x→xs[q]?=some y→Bh y.key x.key=true:=by
  intro p q x y p1 p2 q1 q2 hx hy
  rcases hup with c|c|⟨u,v,hu,hv',hlt⟩
  ·omega
  ·omega
  ·exact Pz (Vx (hr.le (p:=q) (q:=e - 1) q1 (by omega) (by omega) hy hu) hlt) (hl.le (p:=s) (q:=p) h1 p1 p2 hv' hx)
 have s1:B1 xs ys:=QM hv h2 h3 (by omega) fun p q x y p1 p2 q1 q2 hx hy e=>by
  have:=hkey p q x y p1 p2 q1 q2 hx hy
  rw [e,GP] at this
  cases this
 have i1:D4 xs ys a b:=(QL hv h2 h3).wider h1 h4
 have hm1:s≤mid:=by omega
 have hm2:mid≤e:=by omega
 refine ⟨s1.trans (hz.stab.trans hw.stab),i1.trans ((hz.ins.wider (Nat.le_refl _) (by omega)).trans (hw.ins.wider (by omega) (Nat.le_refl _))),fun p q x y p1 p2 p3 hx hy=>?_⟩
 rcases Nat.lt_or_ge q mid with c|c
 ·rw [hw.ins.2.1 p (by omega)] at hx
  rw [hw.ins.2.1 q (by omega)] at hy
  exact hz.srt p q x y p1 p2 c hx hy
 rcases Nat.lt_or_ge p mid with c'|c'
 ·rw [hw.ins.2.1 p (by omega)] at hx
  obtain ⟨u,u1,u2,hu⟩:=hz.ins.2.2 p p1 c'
  rw [hx] at hu
  obtain ⟨t,t1,t2,ht⟩:=hw.ins.2.2 q c p3
  rw [hy,hz.ins.2.1 t (by omega)] at ht
  -- the pair at u of ys is x, the pair at t of ys is y
  have hxu:=hv.2 u
  have hyt:=hv.2 t
  rw [←hu] at hxu
  rw [←ht] at hyt
  rcases Nat.lt_or_ge u s with cu|cu
  ·rw [show Bk s m e u=u by unfold Bk;rw [if_neg (by omega),if_neg (by omega)]] at hxu
   rcases Nat.lt_or_ge t e with ct|ct
   ·rw [show Bk s m e t=t - (e - m) by unfold Bk;rw [if_neg (by omega),if_pos (by omega)]] at hyt
    exact hl u _ x y u1 (by omega) (by omega) hxu.symm hyt.symm
   ·rw [show Bk s m e t=t by unfold Bk;rw [if_neg (by omega),if_neg (by omega)]] at hyt
    rcases hlow with d|d|⟨u',v',hu',hv',hlt⟩
    ·omega
    ·omega
    ·exact F6 (hl.le (p:=u) (q:=s - 1) u1 (by omega) (by omega) hxu.symm hu') (F6 hlt (hr.le (p:=e) (q:=t) h3 ct t2 hv' hyt.symm))
  ·rw [show Bk s m e u=u+(m - s) by unfold Bk;rw [if_pos (by omega)]] at hxu
   rcases Nat.lt_or_ge t e with ct|ct
   ·rw [show Bk s m e t=t - (e - m) by unfold Bk;rw [if_neg (by omega),if_pos (by omega)]] at hyt
    exact J3 (hkey _ _ y x (by omega) (by omega) (by omega) (by omega) hyt.symm hxu.symm)
   ·rw [show Bk s m e t=t by unfold Bk;rw [if_neg (by omega),if_neg (by omega)]] at hyt
    exact hr _ t x y (by omega) (by omega) t2 hxu.symm hyt.symm
 ·exact hw.srt p q x y c' p2 p3 hx hy
theorem V4 {xs ys:List Ap} {a b i:Nat} {x:Ap} (hv:CU xs ys (Bk a (a+1) i)) (h1:a+1≤i) (h2:i≤b) (hb:b≤xs.length) (hr:BR xs (a+1) b) (hx:xs[a]?=some x)
  (hlow:i=a+1∨∃ u,xs[i - 1]?=some u∧Bh u.key x.key=true) (hup:i=b∨∃ u,xs[i]?=some u∧Bh u.key x.key=false):CT xs ys a b:=by
 have hruns:=Ko hv (Nat.le_refl a) (by omega) h1 h2 rfl (BR.one xs (Nat.le_refl _)) hr
 have e1:a+(i - (a+1))=i - 1:=by omega
 rw [e1] at hruns
 -- low: nothing stands below a; up: what stands below i is below x
 have hs:CT ys ys a (i - 1):=CT.refl hruns.2.1
 have hyx:ys[i - 1]?=some x:=by rw [hv.2,show Bk a (a+1) i (i - 1)=a by unfold Bk;rw [if_neg (by omega),if_pos (by omega)];omega,hx]
 have hw:CT ys ys (i - 1) b:=by
  refine CT.refl fun p q u v p1 p2 p3 hu hw=>?_
  rcases Nat.lt_or_ge p i with c|c
  ·obtain rfl:p=i - 1:=by omega
   rw [hyx] at hu
   obtain rfl:=Option.some.inj hu
   rw [hv.2,show Bk a (a+1) i q=q by unfold Bk;rw [if_neg (by omega),if_neg (by omega)]] at hw
   rcases hup with d|⟨u',hu',hlt⟩
   ·omega
   ·exact F6 hlt (hr.le (p:=i) (q:=q) h1 (by omega) p3 hu' hw)
  ·exact hruns.2.2.2 p q u v c p2 p3 hu hw
 refine GQ hv (Nat.le_refl _) (by omega) h1 h2 hb e1.symm (BR.one xs (Nat.le_refl _)) hr (.inl U) ?_ hs hw
 rcases hlow with d|⟨u,hu,hlt⟩
 ·exact .inr (.inl d)
 ·exact .inr (.inr ⟨u,x,hu,hx,hlt⟩)
theorem V6 {xs ys:List Ap} {a m i:Nat} {x:Ap} (hv:CU xs ys (Bk i m (m+1))) (h1:a≤i) (h2:i≤m) (hb:m+1≤xs.length) (hl:BR xs a m) (hx:xs[m]?=some x)
  (hlow:i=a∨∃ u,xs[i - 1]?=some u∧Bh x.key u.key=false) (hup:i=m∨∃ u,xs[i]?=some u∧Bh x.key u.key=true):CT xs ys a (m+1):=by
 have hruns:=Ko hv h1 h2 (by omega) (Nat.le_refl _) rfl hl (BR.one xs (by omega))
 have e1:i+(m+1 - m)=i+1:=by omega
 rw [e1] at hruns
 have hyx:ys[i]?=some x:=by rw [hv.2,show Bk i m (m+1) i=m by unfold Bk;rw [if_pos (by omega)];omega,hx]
 have hs:CT ys ys a (i+1):=by
  refine CT.refl fun p q u v p1 p2 p3 hu hw=>?_
  rcases Nat.lt_or_ge q i with c|c
  ·exact hruns.1 p q u v p1 p2 c hu hw
  ·obtain rfl:q=i:=by omega
   rw [hyx] at hw
   obtain rfl:=Option.some.inj hw
   rw [hv.2,show Bk q m (m+1) p=p by unfold Bk;rw [if_neg (by omega),if_neg (by omega)]] at hu
   rcases hlow with d|⟨u',hu',hlt⟩
   ·omega
   ·exact F6 (hl.le (p:=p) (q:=q - 1) p1 (by omega) (by omega) hu hu') hlt
 have hw:CT ys ys (i+1) (m+1):=CT.refl hruns.2.2.1
 refine GQ hv h1 h2 (by omega) (Nat.le_refl _) hb e1.symm hl (BR.one xs (by omega)) (.inr (.inl U)) ?_ hs hw
 rcases hup with d|⟨u,hu,hlt⟩
 ·exact .inl d
 ·exact .inr (.inr ⟨x,u,by rw [show m+1 - 1=m by omega];exact hx,hu,hlt⟩)
theorem IG (n:Nat):((n:Nat):Int).fdiv (2^(min (1:Int).toNat IntKind.u64.bits))=((n / 2:Nat):Int):=by
 have:(2:Int)^(min (1:Int).toNat IntKind.u64.bits)=2:=by decide
 rw [this,Int.fdiv_eq_ediv_of_nonneg _ (by omega)]
 omega
def FW (a b:ByteArray):Int:=if Bh a b=true then -1 else if Bh b a=true then 1 else 0
theorem Sp {a b:ByteArray} (h:Bh a b=true):FW a b= -1:=if_pos h
theorem So {a b:ByteArray} (h:¬ Bh a b=true) (h2:(!(Bh a b||decide (a=b)))=true):FW a b=1:=by
 unfold FW
 rw [if_neg h,if_pos]
 cases h3:Bh b a with
 |true=>rfl
 |false=>
  have:=L1 (by simpa using h) h3
  subst this
  simp at h2
theorem Sn {a b:ByteArray} (h:¬ Bh a b=true) (h2:(!(Bh a b||decide (a=b)))=false):FW a b=0:=by
 have h':Bh a b=false:=by simpa using h
 have:a=b:=by simpa [h'] using h2
 subst this
 unfold FW
 rw [if_neg h,if_neg h]
theorem GH {a b:ByteArray}:FW a b<0↔Bh a b=true:=by
 unfold FW
 by_cases h:Bh a b=true
 ·simp [h]
 ·rw [if_neg h]
  by_cases h2:Bh b a=true
  ·rw [if_pos h2];simp [h]
  ·rw [if_neg h2];simp [h]
theorem HD {a b:ByteArray} (h:¬ FW a b<0):Bh a b=false:=by
 cases h2:Bh a b with
 |false=>rfl
 |true=>exact absurd (GH.2 h2) h
theorem Ze {xs:List Ap} {j:Nat} {x y:Ap} (hj:0<j) (hx:xs[j - 1]?=some x) (hy:xs[j]?=some y) (hlt:Bh y.key x.key=true):B1 xs ((xs.set j x).set (j - 1) y)∧D4 xs ((xs.set j x).set (j - 1) y) (j - 1) (j+1):=by
 obtain ⟨i,rfl⟩:∃ i,j=i+1:=⟨j - 1,by omega⟩
 exact Zd hx hy hlt
theorem R7 {xs:List Ap} {a b j:Nat} {x y:Ap} (h:Gh xs a b j) (hj:a<j) (hx:xs[j - 1]?=some x) (hy:xs[j]?=some y) (hlt:Bh y.key x.key=false):BR xs a b:=by
 obtain ⟨i,rfl⟩:∃ i,j=i+1:=⟨j - 1,by omega⟩
 exact R6 h (by omega) hx hy hlt
theorem R5 {xs:List Ap} {a b j:Nat} {x y:Ap} (h:Gh xs a b j) (hj:a<j) (hx:xs[j - 1]?=some x) (hy:xs[j]?=some y) (hlt:Bh y.key x.key=true) (hb:j<b):Gh ((xs.set j x).set (j - 1) y) a b (j - 1):=by
 obtain ⟨i,rfl⟩:∃ i,j=i+1:=⟨j - 1,by omega⟩
 exact R4 h (by omega) hx hy hlt (by omega)
theorem ZZ {xs ys:List Ap} {a k:Nat} {x y:Ap} (hk:a≤k) (h:CU xs ys (Bk a (a+1) (k+1))) (hx:ys[k]?=some x) (hy:ys[k+1]?=some y):CU xs ((ys.set k y).set (k+1) x) (Bk a (a+1) (k+1+1)):=by
 have l1:k<ys.length:=(List.getElem?_eq_some_iff.1 hx).1
 have l2:k+1<ys.length:=(List.getElem?_eq_some_iff.1 hy).1
 refine ⟨by simpa using h.1,fun t=>?_⟩
 rw [List.getElem?_set,List.getElem?_set]
 have hx':=h.2 k
 have hy':=h.2 (k+1)
 rw [hx] at hx'
 rw [hy] at hy'
 by_cases c1:k+1=t
 ·subst c1
  rw [if_pos rfl,if_pos (by simpa using l2),hx']
  congr 1
  unfold Bk
  repeat' split
  all_goals omega
 ·rw [if_neg c1]
  by_cases c2:k=t
  ·subst c2
   rw [if_pos rfl,if_pos l1,hy']
   congr 1
   unfold Bk
   repeat' split
   all_goals omega
  ·rw [if_neg c2,h.2]
   congr 1
   unfold Bk
   repeat' split
   all_goals omega
theorem ZT {xs ys:List Ap} {m k:Nat} {x y:Ap} (hk:k≤m) (h0:0<k) (h:CU xs ys (Bk k m (m+1))) (hx:ys[k]?=some x) (hy:ys[k - 1]?=some y):CU xs ((ys.set k y).set (k - 1) x) (Bk (k - 1) m (m+1)):=by
 have l1:k<ys.length:=(List.getElem?_eq_some_iff.1 hx).1
 have l2:k - 1<ys.length:=(List.getElem?_eq_some_iff.1 hy).1
 refine ⟨by simpa using h.1,fun t=>?_⟩
 rw [List.getElem?_set,List.getElem?_set]
 have hx':=h.2 k
 have hy':=h.2 (k - 1)
 rw [hx] at hx'
 rw [hy] at hy'
 by_cases c1:k - 1=t
 ·subst c1
  rw [if_pos rfl,if_pos (by simpa using l2),hx']
  congr 1
  unfold Bk
  repeat' split
  all_goals omega
 ·rw [if_neg c1]
  by_cases c2:k=t
  ·subst c2
   rw [if_pos rfl,if_pos l1,hy']
   congr 1
   unfold Bk
   repeat' split
   all_goals omega
  ·rw [if_neg c2,h.2]
   congr 1
   unfold Bk
   repeat' split
   all_goals omega
theorem ZW (xs:List Ap) (a:Nat):CU xs xs (Bk a (a+1) (a+1)):=KN xs fun t=>by
 unfold Bk
 repeat' split
 all_goals omega
theorem ZX (xs:List Ap) (m:Nat):CU xs xs (Bk m m (m+1)):=KN xs fun t=>by
 unfold Bk
 repeat' split
 all_goals omega
theorem KM (xs:List Ap) {s m e:Nat} (h:¬ (s<m∧m<e)) (h1:s≤m) (h2:m≤e):CU xs xs (Bk s m e):=KN xs fun t=>by
 unfold Bk
 repeat' split
 all_goals omega
theorem Z0 {xs ys:List Ap} {a m k:Nat} {x y:Ap} (hm:m=a+1) (hk:a≤k) (h:CU xs ys (Bk a m (k+1))) (hx:ys[k]?=some x) (hy:ys[k+1]?=some y):CU xs ((ys.set k y).set (k+1) x) (Bk a m (k+1+1)):=by
 subst hm
 exact ZZ hk h hx hy
theorem ZU {xs ys:List Ap} {m b k:Nat} {x y:Ap} (hb:b=m+1) (hk:k≤m) (h0:0<k) (h:CU xs ys (Bk k m b)) (hx:ys[k]?=some x) (hy:ys[k - 1]?=some y):CU xs ((ys.set k y).set (k - 1) x) (Bk (k - 1) m b):=by
 subst hb
 exact ZT hk h0 h hx hy
theorem V5 {xs ys:List Ap} {a m b i:Nat} {x:Ap} (hm:m=a+1) (hv:CU xs ys (Bk a m i)) (h1:m≤i) (h2:i≤b) (hb:b≤xs.length) (hr:BR xs m b) (hx:xs[a]?=some x)
  (hlow:i=m∨∃ u,xs[i - 1]?=some u∧Bh u.key x.key=true) (hup:i=b∨∃ u,xs[i]?=some u∧Bh u.key x.key=false):CT xs ys a b:=by
 subst hm
 exact V4 hv h1 h2 hb hr hx hlow hup
theorem V7 {xs ys:List Ap} {a m b i:Nat} {x:Ap} (hm:b=m+1) (hv:CU xs ys (Bk i m b)) (h1:a≤i) (h2:i≤m) (hb:b≤xs.length) (hl:BR xs a m) (hx:xs[m]?=some x)
  (hlow:i=a∨∃ u,xs[i - 1]?=some u∧Bh x.key u.key=false) (hup:i=m∨∃ u,xs[i]?=some u∧Bh x.key u.key=true):CT xs ys a b:=by
 subst hm
 exact V6 hv h1 h2 hb hl hx hlow hup
def DJ (xs:List Ap) (lo hi bs:Nat):Prop:=∀ p q x y,lo≤p→p<q→q<hi→p / bs=q / bs→xs[p]?=some x→xs[q]?=some y→Bh y.key x.key=false
theorem K_ {c bs p:Nat} (h1:c*bs≤p) (h2:p<(c+1)*bs):p / bs=c:=Nat.div_eq_of_lt_le h1 h2
theorem DJ.at {xs:List Ap} {lo hi bs c a b:Nat} (h:DJ xs lo hi bs) (ha:a=c*bs) (hlo:lo≤a) (hb:b≤a+bs) (hh:b≤hi):BR xs a b:=by
 intro p q x y p1 p2 p3 hx hy
 refine h p q x y (by omega) p2 (by omega) ?_ hx hy
 have:(c+1)*bs=c*bs+bs:=Nat.succ_mul c bs
 rw [K_ (c:=c) (by omega) (by omega),K_ (c:=c) (by omega) (by omega)]
theorem DJ.more {xs ys:List Ap} {bs c a b:Nat} (h:DJ xs 0 a bs) (ha:a=c*bs) (hb:b≤a+bs) (hi:D4 xs ys a b) (hs:BR ys a b):DJ ys 0 b bs:=by
 intro p q x y p1 p2 p3 hd hx hy
 have e1:(c+1)*bs=c*bs+bs:=Nat.succ_mul c bs
 rcases Nat.lt_or_ge p a with c1|c1
 ·rcases Nat.lt_or_ge q a with c2|c2
  ·rw [hi.2.1 p (by omega)] at hx
   rw [hi.2.1 q (by omega)] at hy
   exact h p q x y p1 p2 c2 hd hx hy
  ·exfalso
   have hq:q / bs=c:=K_ (by omega) (by omega)
   have hbs:0<bs:=by omega
   have:p / bs<c:=(Nat.div_lt_iff_lt_mul hbs).2 (by omega)
   omega
 ·exact hs p q x y c1 p2 p3 hx hy
theorem DJ.same {xs ys:List Ap} {lo hi bs lo':Nat} (h:DJ xs lo hi bs) (hl:lo≤lo') (he:∀ t,lo'≤t→ys[t]?=xs[t]?):DJ ys lo' hi bs:=by
 intro p q x y p1 p2 p3 hd hx hy
 rw [he p (by omega)] at hx
 rw [he q (by omega)] at hy
 exact h p q x y (by omega) p2 p3 hd hx hy
theorem DJ.nil (xs:List Ap) (bs:Nat):DJ xs 0 0 bs:=fun p q x y p1 p2 p3=>by omega
theorem DJ.all {xs:List Ap} {n bs:Nat} (h:DJ xs 0 n bs) (hn:n≤bs):BR xs 0 n:=by
 intro p q x y p1 p2 p3 hx hy
 refine h p q x y p1 p2 p3 ?_ hx hy
 rw [Nat.div_eq_of_lt (by omega),Nat.div_eq_of_lt (by omega)]
theorem Jv {zs:List Ap} {a n bs:Nat} (h:DJ zs a n bs) (hc:∃ c,a=c*(2*bs)) (hn:a+bs≤n):BR zs a (a+bs)∧∀ b,b≤a+2*bs→b≤n→BR zs (a+bs) b:=by
 obtain ⟨c,rfl⟩:=hc
 have e:c*(2*bs)=(2*c)*bs:=by rw [←Nat.mul_assoc,Nat.mul_comm c 2]
 have e2:(2*c+1)*bs=(2*c)*bs+bs:=Nat.succ_mul _ _
 refine ⟨h.at (c:=2*c) e (Nat.le_refl _) (Nat.le_refl _) hn,fun b h1 h2=>h.at (c:=2*c+1) (by omega) (by omega) (by omega) h2⟩
theorem RZ {zs:List Ap} {a n bs:Nat} (h:DJ zs a n bs) (hc:∃ c,a=c*(2*bs)) (hn:n≤a+bs):BR zs a n:=by
 obtain ⟨c,rfl⟩:=hc
 exact h.at (c:=2*c) (by rw [←Nat.mul_assoc,Nat.mul_comm c 2]) (Nat.le_refl _) hn (Nat.le_refl _)
theorem K0 {zs ws:List Ap} {a b bs:Nat} (h:DJ zs 0 a (2*bs)) (hc:∃ c,a=c*(2*bs)) (hb:b≤a+2*bs) (hs:CT zs ws a b):DJ ws 0 b (2*bs):=by
 obtain ⟨c,hc⟩:=hc
 exact h.more hc hb hs.ins hs.srt
theorem Wc {a bs:Nat} (hc:∃ c,a=c*(2*bs)):∃ c,a+2*bs=c*(2*bs):=by
 obtain ⟨c,rfl⟩:=hc
 exact ⟨c+1,(Nat.succ_mul c (2*bs)).symm⟩
def It (xs:List Ap) (i:Nat):Prop:=∀ t x y,i≤t→xs[t]?=some x→xs[t+1]?=some y→Bh y.key x.key=false
theorem RD {xs:List Ap} (h:It xs 0):CX xs:=by
 refine BR.ord ?_
 have key:∀ d p x y,xs[p]?=some x→xs[p+d+1]?=some y→Bh y.key x.key=false:=by
  intro d
  induction d with
  |zero=>intro p x y hx hy;exact h p x y (Nat.zero_le _) hx hy
  |succ d ih=>
   intro p x y hx hy
   have hl:p+d+1<xs.length:=by have:=(List.getElem?_eq_some_iff.1 hy).1;omega
   have hz:=List.getElem?_eq_getElem hl
   exact F6 (ih p x _ hx hz) (h (p+d+1) _ y (Nat.zero_le _) hz hy)
 intro p q x y _ h2 _ hx hy
 exact key (q - p - 1) p x y hx (by rw [show p+(q - p - 1)+1=q by omega];exact hy)
theorem WP {xs:List Ap} {j:Nat} {x y:Ap} (ho:CX xs) (hj:0<j) (hx:xs[j]?=some x) (hy:xs[j - 1]?=some y):Bh x.key y.key=false:=by
 unfold CX at ho
 rw [List.pairwise_iff_getElem] at ho
 have l1:=List.getElem?_eq_some_iff.1 hx
 have l2:=List.getElem?_eq_some_iff.1 hy
 have:=ho (j - 1) j l2.1 l1.1 (by omega)
 rwa [l1.2,l2.2] at this
theorem RC {xs:List Ap} {j:Nat} {x y:Ap} (h:It xs j) (hj:0<j) (hx:xs[j]?=some x) (hy:xs[j - 1]?=some y) (hlt:Bh x.key y.key=false):It xs (j - 1):=by
 intro t u v ht hu hv
 rcases Nat.lt_or_ge t j with c|c
 ·obtain rfl:t=j - 1:=by omega
  rw [hy] at hu
  rw [show j - 1+1=j by omega,hx] at hv
  obtain rfl:=Option.some.inj hu
  obtain rfl:=Option.some.inj hv
  exact hlt
 ·exact h t u v c hu hv
theorem RB (xs:List Ap):It xs (xs.length - 1):=fun t x y ht hx hy=>by
 have:=(List.getElem?_eq_some_iff.1 hy).1
 omega
def BQ (ps:List Ap) (k:ByteArray):List ByteArray:=(ps.filter fun p=>decide (p.key=k)).map (·.val)
def DF (ps:List Ap):List ByteArray:=Gl (FR (ps.map (·.key)))
theorem Y9 {xs ys:List Ap} (h:∀ k:ByteArray,xs.filter (fun p=>decide (p.key=k))=ys.filter (fun p=>decide (p.key=k))):B1 xs ys:=by
 refine ⟨List.Perm.length_eq (List.perm_iff_count.2 fun p=>?_),h⟩
 have e:∀ l:List Ap,l.count p=(l.filter fun q=>decide (q.key=p.key)).count p:=fun l=>(List.count_filter (by simp)).symm
 rw [e xs,e ys,h]
def E9 (xs:List Ap) (n:Int):Bool:=decide (¬ ((xs.length:Int)≤n∧∀ p∈xs,p.key.size≤100∧p.val.size≤100))
theorem OG {xs:List Ap} {n:Int} {k:Nat} {x:Ap} (hx:xs[k]?=some x) (h:100<x.key.size∨100<x.val.size):true=E9 xs n:=by
 have h3:¬ ((xs.length:Int)≤n∧∀ p∈xs,p.key.size≤100∧p.val.size≤100):=fun h2=>absurd (h2.2 x (List.mem_of_getElem? hx)) (by omega)
 exact (decide_eq_true h3).symm
theorem OF {xs:List Ap} {n:Int} {k:Nat} (hn:∀ y∈xs.take k,y.key.size≤100∧y.val.size≤100) (h:xs.length≤k∨n<(xs.length:Int)):decide (n<(xs.length:Int))=E9 xs n:=by
 refine decide_eq_decide.2 ⟨fun h1 h2=>by omega,fun h1=>?_⟩
 apply Classical.byContradiction
 intro h2
 refine h1 ⟨by omega,?_⟩
 rwa [List.take_of_length_le (by omega)] at hn
theorem Ww (ps:List Ap) (k:ByteArray):(BQ ps k).length≤ps.length:=by
 unfold BQ
 rw [List.length_map]
 exact List.length_filter_le _ _
theorem Wz {xs:List Ap} {key:ByteArray} {k:Nat} {x:Ap} (hx:xs[k]?=some x) (h:x.key=key):BQ (xs.take (k+1)) key=BQ (xs.take k) key++[x.val]:=by
 unfold BQ
 rw [List.take_add_one,hx]
 simp [h]
theorem Wy {xs:List Ap} {key:ByteArray} {k:Nat} {x:Ap} (hx:xs[k]?=some x) (h:¬ x.key=key):BQ (xs.take (k+1)) key=BQ (xs.take k) key:=by
 unfold BQ
 rw [List.take_add_one,hx]
 simp [h]
theorem Ud {xs:List Ap} {k:Nat} {x:Ap} (hx:xs[k]?=some x):(xs.take (k+1)).map (·.key)=(xs.take k).map (·.key)++[x.key]:=by
 rw [List.take_add_one,hx]
 simp
theorem ML (xs:List ByteArray):(FR xs).length=xs.length:=by simp [FR]
theorem Sy (xs:List ByteArray):(Gl xs).length≤xs.length:=by
 have:=NM (xs.map Gr)
 simpa [Gl] using this
theorem Ue (ps:List Ap):(DF ps).length≤ps.length:=by
 unfold DF
 have:=Sy (FR (ps.map (·.key)))
 rw [ML,List.length_map] at this
 exact this
def C8 (p:Ap):Prop:=p.key.size≤16∧p.val.size≤64
instance (p:Ap):Decidable (C8 p):=by unfold C8;infer_instance
def He (xs:List Ap):Prop:=∀ p∈xs,C8 p
instance (xs:List Ap):Decidable (He xs):=by unfold He;infer_instance
theorem V1 (xs:List Ap):(!(xs.any fun p=>!decide (C8 p)))=decide (He xs):=by
 rw [Bool.eq_iff_iff,decide_eq_true_iff]
 unfold He
 simp
theorem JA {α:Type} {l:List α} {x:α} (h:l[0]?=some x):l=x::l.drop 1:=by
 cases l with
 |nil=>simp at h
 |cons y l=>simp at h;subst h;rfl
theorem V2 {al bl:List Ap} {x y:Ap} (hx:al[0]?=some x) (hy:bl[0]?=some y) (ha:CX al) (hb:CX bl) (h:¬ Bh y.key x.key=true):srt (al++bl)=x::srt (al.drop 1++bl):=by
 have h':Bh y.key x.key=false:=by simpa using h
 have ea:=JA hx
 have eb:=JA hy
 rw [ea] at ha
 rw [eb] at hb
 obtain ⟨ha1,ha2⟩:=List.pairwise_cons.1 ha
 obtain ⟨hb1,hb2⟩:=List.pairwise_cons.1 hb
 refine (Jd ?_ ?_).symm
 ·have:B1 (x::(al.drop 1++bl)) (x::srt (al.drop 1++bl)):=B1.append (a:=[x]) (b:=[x]) (B1.refl _) (Gb _)
  rwa [←List.cons_append,←ea] at this
 ·refine List.pairwise_cons.2 ⟨fun q hq=>?_,Je _⟩
  have hq':=(Gb (al.drop 1++bl)).symm.mem hq
  rcases List.mem_append.1 hq' with h1|h1
  ·exact ha1 q h1
  ·rw [eb] at h1
   rcases List.mem_cons.1 h1 with rfl|h2
   ·exact h'
   ·exact F6 h' (hb1 q h2)
theorem V3 {al bl:List Ap} {x y:Ap} (hx:al[0]?=some x) (hy:bl[0]?=some y) (ha:CX al) (hb:CX bl) (h:Bh y.key x.key=true):srt (al++bl)=y::srt (al++bl.drop 1):=by
 have ea:=JA hx
 have eb:=JA hy
 have ha0:=ha
 rw [ea] at ha0
 rw [eb] at hb
 obtain ⟨ha1,ha2⟩:=List.pairwise_cons.1 ha0
 obtain ⟨hb1,hb2⟩:=List.pairwise_cons.1 hb
 have hal:∀ q∈al,Bh y.key q.key=true:=by
  intro q hq
  rw [ea] at hq
  rcases List.mem_cons.1 hq with rfl|h2
  ·exact h
  ·exact Pz h (ha1 q h2)
 refine (Jd ?_ ?_).symm
 ·have h1:B1 (al++bl) (y::(al++bl.drop 1)):=by
   refine Y9 fun k=>?_
   rw [eb,List.drop_succ_cons,List.drop_zero,List.filter_append,List.filter_cons,List.filter_cons,List.filter_append]
   by_cases hk:y.key=k
   ·have:al.filter (fun p=>decide (p.key=k))=[]:=List.filter_eq_nil_iff.2 fun q hq=>by
     have:=hal q hq
     rw [hk] at this
     simp only [decide_eq_true_eq]
     intro e
     rw [e,GP] at this
     cases this
    simp [this,hk]
   ·simp [hk]
  exact h1.trans (B1.append (a:=[y]) (b:=[y]) (B1.refl _) (Gb _))
 ·refine List.pairwise_cons.2 ⟨fun q hq=>?_,Je _⟩
  have hq':=(Gb (al++bl.drop 1)).symm.mem hq
  rcases List.mem_append.1 hq' with h1|h1
  ·exact J3 (hal q h1)
  ·exact hb1 q h1
theorem PK {al bl:List Ap} (ha:CX al) (hb:CX bl) (h:al.length=0∨bl.length=0):srt (al++bl)=al++bl:=by
 rcases h with h|h
 ·rw [List.eq_nil_of_length_eq_zero h];exact Q2 hb
 ·rw [List.eq_nil_of_length_eq_zero h,List.append_nil];exact Q2 ha
theorem P5 {al:List Ap} (ha:CX al) (k:Nat):CX (al.drop k):=List.Pairwise.sublist (List.drop_sublist k al) ha
def CK (us:List (Value×List Ap)):List Ap:=us.flatMap (·.2)
theorem Oc {us:List (Value×List Ap)} {k:Nat} {u:Value} {x:List Ap} (hx:us[k]?=some (u,x)):CK (us.take (k+1))=CK (us.take k)++x:=by
 unfold CK
 rw [Eg hx,List.flatMap_append]
 simp
theorem Oa (a b:List (Value×List Ap)):CK (a++b)=CK a++CK b:=by simp [CK]
theorem Ob (us:List (Value×List Ap)) (k:Nat):(CK (us.take k)).length≤(CK us).length:=by
 have:(CK us).length=(CK (us.take k)).length+(CK (us.drop k)).length:=by rw [←List.length_append,←Oa,List.take_append_drop]
 omega
theorem Tj (us:List (Value×List Ap)) (k:Nat):(CK (us.drop k)).length≤(CK us).length:=by
 have:(CK us).length=(CK (us.take k)).length+(CK (us.drop k)).length:=by rw [←List.length_append,←Oa,List.take_append_drop]
 omega
theorem Y1 (a b:List Ap):srt (srt a++b)=srt (a++b):=Y2 (B1.append (Gb a).symm (B1.refl b))
theorem Cb {α:Type} {xs:List α} {k:Nat} {x:α} (h:xs[k]?=some x):x∈xs:=List.mem_of_getElem? h
structure EA where
 A:Option Addr
 n:Nat
 c:Nat
def Iy (h:EA):List Value:=[.slice h.A h.n h.c]
def Du:Kd EA:=flat Iy 1 (by omega) (fun _=>rfl) (fun _ c h=>by simp [Iy] at h;subst h;rfl)
def Ft:Value→EA
 |.slice A n c=>⟨A,n,c⟩
 |_=>⟨none,0,0⟩
section
variable {w w0:World} {F F0:AJ} {As Rs:List SP} {α:Type} {d:Kd α}
theorem OI:∀ {us:List (Value×List α)} {cs:List Value},AV (Am d) w F us cs→∀ p∈us,(Aa d p.1 p.2).P w F
 |[],_,_,p,hp=>by cases hp
 |q::us,_,⟨c,cs',e,h1,h2⟩,p,hp=>by
  cases hp with
  |head=>exact h1.2
  |tail _ hm=>exact OI h2 p hm
end
/-! ### Parts -/
def Ed (key:ByteArray):Nat→Int
 |0=>7
 |k+1=>IntKind.u32.wrap (IntKind.u32.wrap (31*Ed key k)+((key[k]?.getD 0).toNat:Int))
theorem aK (x:Int):0≤IntKind.u32.wrap x∧IntKind.u32.wrap x<4294967296:=by
 simp only [IntKind.wrap,IntKind.bits,IntKind.signed]
 simp
 omega
theorem L_ (key:ByteArray) (k:Nat):0≤Ed key k∧Ed key k<4294967296:=by
 cases k with
 |zero=>exact ⟨by simp [Ed],by simp [Ed]⟩
 |succ k=>exact aK _
def Kf (key:ByteArray) (n:Int):Int:=if n<1 then -1 else Ed key key.size%n
def EW (xs:List Ap) (n p:Int):List Ap:=xs.filter fun x=>decide (Kf x.key n=p)
theorem WH {xs:List Ap} {n p:Int} {k:Nat} {x:Ap} (hx:xs[k]?=some x) (h:Kf x.key n=p):EW (xs.take (k+1)) n p=EW (xs.take k) n p++[x]:=by
 unfold EW
 rw [Eg hx,List.filter_append]
 simp [h]
theorem WE {xs:List Ap} {n p:Int} {k:Nat} {x:Ap} (hx:xs[k]?=some x) (h:¬ Kf x.key n=p):EW (xs.take (k+1)) n p=EW (xs.take k) n p:=by
 unfold EW
 rw [Eg hx,List.filter_append]
 simp [h]
theorem P3 (xs:List Ap) (n p:Int):(EW xs n p).length≤xs.length:=List.length_filter_le ..
theorem Ws {key:ByteArray} {k:Nat} {b:UInt8} (hb:key[k]?=some b):Ed key (k+1)=IntKind.u32.wrap (IntKind.u32.wrap (31*Ed key k)+(b.toNat:Int)):=by
 rw [Ed,hb]
 rfl
theorem aN (b:UInt8):IntKind.u32.wrap (b.toNat:Int)=(b.toNat:Int):=by
 have:=UInt8.toNat_lt b
 simp only [IntKind.wrap,IntKind.bits,IntKind.signed]
 simp
 omega
theorem Nt {xs:List BC} (h:xs.length≤40):Dx xs<0↔∀ p∈xs,BG p xs.length:=by
 have e:xs.take 40=xs:=List.take_of_length_le h
 have h2:=Lf (Er xs.length) xs
 unfold Dx
 rw [e]
 constructor
 ·intro hb p hp
  apply Classical.byContradiction
  intro hg
  have h3:xs.any (Er xs.length)=true:=List.any_eq_true.2 ⟨p,hp,by simp [Er,hg]⟩
  rw [h3] at h2
  rw [if_pos (of_decide_eq_true h2)] at hb
  have:=of_decide_eq_true h2
  omega
 ·intro hg
  have h3:xs.any (Er xs.length)=false:=List.any_eq_false.2 (fun p hp=>by simp [Er,hg p hp])
  rw [h3] at h2
  rw [if_neg (of_decide_eq_false h2),if_neg (by omega)]
  omega
theorem Ho {α:Type} {Q:α→Prop} {xs:List α} {k:Nat} {x:α} (hn:∀ y∈xs.take k,Q y) (hx:xs[k]?=some x) (h:Q x):∀ y∈xs.take (k+1),Q y:=by
 intro y hy
 rw [List.take_add_one,hx] at hy
 rcases List.mem_append.1 hy with hy|hy
 ·exact hn y hy
 ·obtain rfl:y=x:=by simpa using hy
  exact h
structure Bm where
 kind:Int
 part:Int
 sp:Int
 att:Int
 why:Int
 sv:Value
 set:List Int
 pv:Value
 pairs:List Ap
def G_ (r:Bm):List Value:=[.int .i64 r.kind,.int .i64 r.part,.int .i64 r.sp,.int .i64 r.att,.int .i64 r.why,r.sv,r.pv]
def B4:Kd Bm where
 sz:=7
 O w F x cs:=cs=G_ x∧∃ F1 F2:AJ,(∀ k,F1 k→F k)∧(∀ k,F2 k→F k)∧(∀ k,F1 k→¬ F2 k)∧(Bz (Ai .i64)).O w F1 x.set [x.sv]∧(Bz Ag).O w F2 x.pairs [x.pv]
 R w F x cs:=cs=G_ x∧(Bz (Ai .i64)).R w F x.set [x.sv]∧(Bz Ag).R w F x.pairs [x.pv]
 O_loc:=fun ⟨e,F1,F2,s1,s2,dj,h1,h2⟩ hk=>⟨e,F1,F2,s1,s2,dj,(Bz _).O_loc h1 (fun k x=>hk k (s1 k x)),(Bz _).O_loc h2 (fun k x=>hk k (s2 k x))⟩
 O_mono:=fun ⟨e,F1,F2,s1,s2,dj,h1,h2⟩ hk=>⟨e,F1,F2,fun k x=>hk k (s1 k x),fun k x=>hk k (s2 k x),dj,h1,h2⟩
 R_loc:=fun ⟨e,h1,h2⟩ hk=>⟨e,(Bz _).R_loc h1 hk,(Bz _).R_loc h2 hk⟩
 R_mono:=fun ⟨e,h1,h2⟩ hk=>⟨e,(Bz _).R_mono h1 hk,(Bz _).R_mono h2 hk⟩
 O_R:=fun ⟨e,F1,F2,s1,s2,dj,h1,h2⟩=>⟨e,(Bz _).R_mono ((Bz _).O_R h1) s1,(Bz _).R_mono ((Bz _).O_R h2) s2⟩
 len h:=by rw [h.1];rfl
 one:=fun ⟨e,h1,h2⟩ c hc=>by
  have g1:=(Bz _).one h1
  have g2:=(Bz _).one h2
  subst e
  simp only [G_,List.mem_cons,List.not_mem_nil,or_false] at hc
  rcases hc with rfl|rfl|rfl|rfl|rfl|rfl|rfl
  ·rfl
  ·rfl
  ·rfl
  ·rfl
  ·rfl
  ·exact g1 _ (List.mem_cons_self ..)
  ·exact g2 _ (List.mem_cons_self ..)
 pos:=by omega
structure Fl where
 kind:Int
 part:Int
 sp:Int
 att:Int
 why:Int
 hs:EA
 hp:EA
def GJ (r:Fl):List Value:=[.int .i64 r.kind,.int .i64 r.part,.int .i64 r.sp,.int .i64 r.att,.int .i64 r.why,.slice r.hs.A r.hs.n r.hs.c,.slice r.hp.A r.hp.n r.hp.c]
def Dy:Kd Fl:=flat GJ 7 (by omega) (fun _=>rfl) (fun _ c h=>by
 simp only [GJ,List.mem_cons,List.not_mem_nil,or_false] at h
 rcases h with rfl|rfl|rfl|rfl|rfl|rfl|rfl<;>rfl)
def Cz (r:Bm):Fl:=⟨r.kind,r.part,r.sp,r.att,r.why,Ft r.sv,Ft r.pv⟩
section
variable {w w0:World} {F F0:AJ} {As Rs:List SP} {A:Option Addr} {m c:Nat}
theorem Kn {us:List Bm} (h:(Aa B4 (.slice A m c) us).P w F) {i:Nat} {x:Bm} (hx:us[i]?=some x):
  E3 A∧(∀ q u,(G_ x)[q]?=some u→w.cell? ⟨DY A,AS A+i*7+q,none⟩=some u)∧(Aa (Ai .i64) x.sv x.set).P w F∧(Aa Ag x.pv x.pairs).P w F:=by
 obtain ⟨b,off,cs,e,hl,hc,h1,h2,h3⟩:=I6 h hx
 subst h1 e
 exact ⟨rfl,hc,h2,h3⟩
theorem I5 {us:List Bm} (h:(Aa B4 (.slice A m c) us).P w F) {i:Nat} {a1 a2 a3 a4 a5:Int} {sv pv:Value} {set:List Int} {pairs:List Ap} (hx:us[i]?=some ⟨a1,a2,a3,a4,a5,sv,set,pv,pairs⟩):(Aa (Ai .i64) sv set).P w F:=(Kn h hx).2.2.1
theorem QB {us:List Bm} (h:(Aa B4 (.slice A m c) us).P w F) {i:Nat} {a1 a2 a3 a4 a5:Int} {sv pv:Value} {set:List Int} {pairs:List Ap} (hx:us[i]?=some ⟨a1,a2,a3,a4,a5,sv,set,pv,pairs⟩):(Aa Ag pv pairs).P w F:=(Kn h hx).2.2.2
theorem Hd.thRr {us:List Bm} (H:Hd w0 F0 w As Rs) (j:Nat) (hj:Rs[j]?=some (Aa B4 (.slice A m c) us)) {i:Nat} {x:Bm} (hx:us[i]?=some x):E3 A:=H.factR (List.mem_of_getElem? hj) fun _ h=>(Kn h hx).1
theorem Hd.nestRr {us:List Bm} (H:Hd w0 F0 w As Rs) (j:Nat) (hj:Rs[j]?=some (Aa B4 (.slice A m c) us)) {i:Nat} {a1 a2 a3 a4 a5:Int} {sv pv:Value} {set:List Int} {pairs:List Ap} (hx:us[i]?=some ⟨a1,a2,a3,a4,a5,sv,set,pv,pairs⟩):
  ∃ A1 c1 A2 c2,sv=.slice A1 set.length c1∧pv=.slice A2 pairs.length c2∧set.length≤c1∧c1≤9223372036854775807∧pairs.length≤c2∧c2≤9223372036854775807:=by
 refine H.factR (List.mem_of_getElem? hj) fun _ h=>?_
 obtain ⟨A1,c1,e1,g1,g2,_⟩:=DU (I5 h hx)
 obtain ⟨A2,c2,e2,g3,g4,_⟩:=DU (QB h hx)
 exact ⟨A1,c1,A2,c2,e1,e2,g1,g2,g3,g4⟩
theorem QI:∀ {us:List Bm} {cs:List Value},AV B4 w F us cs→AV Dy w F (us.map Cz) cs
 |[],_,h=>h
 |x::us,_,⟨c,cs',e,⟨h1,h2,h3⟩,h4⟩=>by
  obtain ⟨A1,c1,e1,_⟩:=DU (d:=Ai .i64) (w:=w) (F:=F) h2
  obtain ⟨A2,c2,e2,_⟩:=DU (d:=Ag) (w:=w) (F:=F) h3
  exact ⟨c,cs',e,show c=GJ (Cz x) by rw [h1];simp [G_,GJ,Cz,Ft,e1,e2],QI h4⟩
theorem X1 {v:Value} {us:List Bm} (h:(Aa B4 v us).P w F):(Aa Dy v (us.map Cz)).P w F:=by
 obtain ⟨A',n',c',e,h1,h2,h3,cs,h4,h5⟩:=h
 exact ⟨A',n',c',e,by rw [List.length_map,h1],h2,h3,cs,h4,QI h5⟩
theorem Hd.recs {v:Value} {us:List Bm} (H:Hd w0 F0 w As Rs) (j:Nat) (hj:Rs[j]?=some (Aa B4 v us)):∃ fs:List Fl,fs.length=us.length∧Hd w0 F0 w As (Aa Dy v fs::Rs):=
 ⟨us.map Cz,List.length_map ..,H.addR fun _ h=>X1 (h _ (List.mem_of_getElem? hj))⟩
theorem Hd.elsRr {us:List Bm} (H:Hd w0 F0 w As Rs) (j:Nat) (hj:Rs[j]?=some (Aa B4 (.slice A m c) us)) {i:Nat} {x:Bm} (hx:us[i]?=some x) {p:Nat} (hpj:AS A+i*7=p):∀ q v,(G_ x)[q]?=some v→w.cell? ((⟨DY A,p,none⟩:Addr).add q)=some v:=by
 intro q v hq
 rw [Ej,←hpj]
 exact H.factR (List.mem_of_getElem? hj) fun F h=>(Kn h hx).2.1 q v hq
end
section
variable {P:Program} {t:TypeId}
end
/-! ### What records say -/
theorem E6 {α:Type} {xs:List α} {k:Nat} {x:α} (hx:xs[k]?=some x):xs.drop k=x::xs.drop (k+1):=by
 have hlt:k<xs.length:=by
  rcases Nat.lt_or_ge k xs.length with h|h
  ·exact h
  ·simp [List.getElem?_eq_none h] at hx
 rw [List.drop_eq_getElem_cons hlt]
 rw [List.getElem?_eq_getElem hlt] at hx
 rw [Option.some.inj hx]
theorem G9 {s:ByteArray} {i:Nat} {c:UInt8} (h:s[i]?=some c):s.data.toList[i]?=some c:=by
 rw [getElem?_def] at h
 split at h
 ·rename_i hi
  have e:s[i]=c:=Option.some.inj h
  rw [←e,Array.getElem?_toList,Array.getElem?_eq_getElem (show i<s.data.size from hi)]
  rfl
 ·cases h
theorem Ha (c:UInt8) (v:AP):Fq c v=!((decide ((c.toNat:Int)=110) && v.t)||(decide ((c.toNat:Int)=98) && !v.t)):=by
 have h:∀ d:UInt8,(c==d)=decide ((c.toNat:Int)=(d.toNat:Int)):=by
  intro d
  rw [Bool.eq_iff_iff,beq_iff_eq,decide_eq_true_eq]
  constructor
  ·rintro rfl;rfl
  ·intro h
   exact UInt8.toNat_inj.1 (by omega)
 unfold Fq
 rw [h,h]
 rfl
theorem JF {ks:List UInt8} {xs:List AP} {i:Nat} {c:UInt8} {x:AP} (hk:ks[i]?=some c) (hx:xs[i]?=some x) (hb:Fq c x=true):EU (ks.drop (i+1)) (xs.drop (i+1))=EU (ks.drop i) (xs.drop i):=by
 rw [E6 hk,E6 hx]
 simp [EU,hb]
theorem Lj {ks:List UInt8} {xs:List AP} {i:Nat} {c:UInt8} {x:AP} (hk:ks[i]?=some c) (hx:xs[i]?=some x) (hb:Fq c x=false):EU (ks.drop i) (xs.drop i)=false:=by
 rw [E6 hk,E6 hx]
 simp [EU,hb]
theorem Ti {ks:List UInt8} {xs:List AP} {i:Nat} (h:xs.length≤i):EU (ks.drop i) (xs.drop i)=true:=by
 rw [List.drop_eq_nil_of_le h]
 cases ks.drop i<;>rfl
theorem L8 {op:Int} {stk:List AP} (h:stk.length<(Ba op).size):Aw op stk=(1,stk,[]):=if_pos h
theorem IS {op:Int} {stk:List AP} (h:¬ stk.length<(Ba op).size) (h2:EU (Ba op).data.toList (stk.drop (stk.length - (Ba op).size))=false):Aw op stk=(2,stk,[]):=by
 unfold Aw
 rw [if_neg h,if_neg (by rw [h2];decide)]
theorem L6 {op:Int} {stk:List AP} (h:¬ stk.length<(Ba op).size) (h2:EU (Ba op).data.toList (stk.drop (stk.length - (Ba op).size))=true):Aw op stk=(0,stk.take (stk.length - (Ba op).size),stk.drop (stk.length - (Ba op).size)):=by
 unfold Aw
 rw [if_neg h,if_pos h2]
theorem L7 {op:Int} {stk:List AP} (h:(Aw op stk).1=0):(Aw op stk).2.2.length=(Ba op).size∧(Aw op stk).2.1.length≤stk.length∧(∀ v∈(Aw op stk).2.2,v∈stk)∧(∀ v∈(Aw op stk).2.1,v∈stk):=by
 by_cases h1:stk.length<(Ba op).size
 ·rw [L8 h1] at h;cases h
 ·cases h2:EU (Ba op).data.toList (stk.drop (stk.length - (Ba op).size)) with
  |false=>rw [IS h1 h2] at h;cases h
  |true=>
   rw [L6 h1 h2]
   refine ⟨by simp only [List.length_drop];omega,by simp only [List.length_take];omega,fun v hv=>List.mem_of_mem_drop hv,fun v hv=>List.mem_of_mem_take hv⟩
theorem Xq {stk vs:List AP} {k:Nat} {x:AP} (hx:vs[k]?=some x) (h:EE x=true):Be stk vs=(4,stk):=by
 unfold Be
 rw [if_pos (List.any_eq_true.2 ⟨x,Cb hx,h⟩)]
theorem Ns {vs:List AP} (hn:∀ y∈vs,EE y=false):¬ vs.any EE=true:=by
 intro h
 obtain ⟨x,h1,h2⟩:=List.any_eq_true.1 h
 rw [hn x h1] at h2
 cases h2
theorem Xt {stk vs:List AP} (hn:∀ y∈vs,EE y=false) (h:16<stk.length+vs.length):Be stk vs=(1,stk):=by
 unfold Be
 rw [if_neg (Ns hn),if_pos h]
theorem Xr {stk vs:List AP} (hn:∀ y∈vs,EE y=false) (h:¬ 16<stk.length+vs.length):Be stk vs=(0,stk++vs):=by
 unfold Be
 rw [if_neg (Ns hn),if_neg h]
theorem Xv (stk vs:List AP) (h:stk.length≤16):(Be stk vs).2.length≤16:=by
 unfold Be
 split
 ·exact h
 ·split
  ·exact h
  ·simp only [List.length_append];omega
theorem RY {v:AP} (h1:v.t=true) (h2:(64:Int)<(v.b.size:Int)):EE v=true:=by
 unfold EE
 rw [h1,decide_eq_true (by omega)]
 rfl
theorem NA {v:AP} (h:v.t=false∨¬ (64:Int)<(v.b.size:Int)):EE v=false:=by
 unfold EE
 rcases h with h|h
 ·rw [h];rfl
 ·rw [decide_eq_false (by omega),Bool.and_false]
theorem SR {told:List Ap} {k v:ByteArray} (h:(16:Int)<(k.size:Int)):DS told k v=(4,told):=if_pos (by omega)
theorem SU {told:List Ap} {k v:ByteArray} (h:¬ (16:Int)<(k.size:Int)) (h2:40≤told.length):DS told k v=(5,told):=by
 unfold DS
 rw [if_neg (by omega),if_pos h2]
theorem SS {told:List Ap} {k v:ByteArray} (h:¬ (16:Int)<(k.size:Int)) (h2:¬ 40≤told.length):DS told k v=(0,told++[⟨k,v⟩]):=by
 unfold DS
 rw [if_neg (by omega),if_neg h2]
def C2 {α:Type} (d:Kd α) (v:Value) (xs:List α) (v2:Value) (ys:List α):Prop:=∀ (w:World) (F:AJ),(Aa d v xs).P w F→(Aa d v2 ys).P w F
theorem C2.refl {α:Type} (d:Kd α) (v:Value) (xs:List α):C2 d v xs v xs:=fun _ _ h=>h
def E_ (stk:List AP):List ByteArray→Int×List AP×List ByteArray
 |[]=>((Be stk [Db 0]).1,(Be stk [Db 0]).2,[])
 |v::vs=>((Be stk [Ez v,Db 1]).1,(Be stk [Ez v,Db 1]).2,vs)
theorem Wn {stk:List AP} {vals:List ByteArray} {x:ByteArray} (hx:vals[0]?=some x):E_ stk vals=((Be stk [Ez x,Db 1]).1,(Be stk [Ez x,Db 1]).2,vals.drop 1):=by
 cases vals with
 |nil=>simp at hx
 |cons y vs=>simp at hx;subst hx;rfl
theorem Uf (op:Int):
    Cn Tryz.prog 302 [.int .i64 op] [] [] (fun v Bs=>v=.string (Ba op)∧Bs=[]):=by
 intro w0 F0 H
 refine enter Tryz.func302 U U (Nat.le_of_ble_eq_true U) (Ab (Ae (Ad U (Ac (Z (Ab (Ab (Ae (Ad U (Ac (Z (AQ (Ab (Ab (Ae (V U U (A0 U U U) (Ad U (Ac (Z ?_)))))))))))))))))))
 refine Ax U (fun h1=>?_) (fun h1=>?_)
 ·refine Av (Z ?_)
  refine Ax U (fun h2=>?_) (fun h2=>?_)
  ·exact Ab (Ae (Ad U (Ac (Z (An (AX (Ay (Aq U U (Ak ⟨congrArg Value.string (by unfold Ba;repeat (first |rw [if_pos (by omega)]|rw [if_neg (by omega)])),rfl⟩ H)))))))))
  exact absurd h1 h2
 refine Ab (Ae (V U U (A0 U U U) (Ad U (Ac (Z ?_)))))
 refine Ax U (fun h3=>?_) (fun h3=>?_)
 ·refine Av (Z ?_)
  refine Ax U (fun h4=>?_) (fun h4=>?_)
  ·exact Ab (Ae (Ad U (Ac (Z (An (AX (Ay (Aq U U (Ak ⟨congrArg Value.string (by unfold Ba;repeat (first |rw [if_pos (by omega)]|rw [if_neg (by omega)])),rfl⟩ H)))))))))
  exact absurd h3 h4
 refine Ae (V U U (A0 U U U) (Ad U (Ac (Z ?_))))
 refine Ax U (fun h5=>?_) (fun h5=>?_)
 ·exact Ab (Ae (Ad U (Ac (Z (An (AX (Ay (Aq U U (Ak ⟨congrArg Value.string (by unfold Ba;repeat (first |rw [if_pos (by omega)]|rw [if_neg (by omega)])),rfl⟩ H)))))))))
 refine Ab (Ab (Ae (V U U (A0 U U U) (Ad U (Ac (Z ?_))))))
 refine Ax U (fun h6=>?_) (fun h6=>?_)
 ·refine Av (Z ?_)
  refine Ax U (fun h7=>?_) (fun h7=>?_)
  ·exact Ab (Ae (Ad U (Ac (Z (An (AX (Ay (Aq U U (Ak ⟨congrArg Value.string (by unfold Ba;repeat (first |rw [if_pos (by omega)]|rw [if_neg (by omega)])),rfl⟩ H)))))))))
  exact absurd h6 h7
 refine Ae (V U U (A0 U U U) (Ad U (Ac (Z ?_))))
 refine Ax U (fun h8=>?_) (fun h8=>?_)
 ·exact Ab (Ae (Ad U (Ac (Z (An (AX (Ay (Aq U U (Ak ⟨congrArg Value.string (by unfold Ba;repeat (first |rw [if_pos (by omega)]|rw [if_neg (by omega)])),rfl⟩ H)))))))))
 refine Ab (Ab (Ae (V U U (A0 U U U) (Ad U (Ac (Z ?_))))))
 refine Ax U (fun h9=>?_) (fun h9=>?_)
 ·refine Av (Z ?_)
  refine Ax U (fun h10=>?_) (fun h10=>?_)
  ·exact Ab (Ae (Ad U (Ac (Z (An (AX (Ay (Aq U U (Ak ⟨congrArg Value.string (by unfold Ba;repeat (first |rw [if_pos (by omega)]|rw [if_neg (by omega)])),rfl⟩ H)))))))))
  exact absurd h9 h10
 refine Ab (Ae (V U U (A0 U U U) (Ad U (Ac (Z ?_)))))
 refine Ax U (fun h11=>?_) (fun h11=>?_)
 ·refine Av (Z ?_)
  refine Ax U (fun h12=>?_) (fun h12=>?_)
  ·exact Ab (Ae (Ad U (Ac (Z (An (AX (Ay (Aq U U (Ak ⟨congrArg Value.string (by unfold Ba;repeat (first |rw [if_pos (by omega)]|rw [if_neg (by omega)])),rfl⟩ H)))))))))
  exact absurd h11 h12
 refine Ab (Ae (V U U (A0 U U U) (Ad U (Ac (Z ?_)))))
 refine Ax U (fun h13=>?_) (fun h13=>?_)
 ·refine Av (Z ?_)
  refine Ax U (fun h14=>?_) (fun h14=>?_)
  ·exact Ab (Ae (Ad U (Ac (Z (An (AX (Ay (Aq U U (Ak ⟨congrArg Value.string (by unfold Ba;repeat (first |rw [if_pos (by omega)]|rw [if_neg (by omega)])),rfl⟩ H)))))))))
  exact absurd h13 h14
 refine Ae (V U U (A0 U U U) (Ad U (Ac (Z ?_))))
 refine Ax U (fun h15=>?_) (fun h15=>?_)
 ·exact Ab (Ae (Ad U (Ac (Z (An (AX (Ay (Aq U U (Ak ⟨congrArg Value.string (by unfold Ba;repeat (first |rw [if_pos (by omega)]|rw [if_neg (by omega)])),rfl⟩ H)))))))))
 refine Ab (Ab (Ae (V U U (A0 U U U) (Ad U (Ac (Z ?_))))))
 refine Ax U (fun h16=>?_) (fun h16=>?_)
 ·refine Av (Z ?_)
  refine Ax U (fun h17=>?_) (fun h17=>?_)
  ·exact Ab (Ae (Ad U (Ac (Z (An (AX (Ay (Aq U U (Ak ⟨congrArg Value.string (by unfold Ba;repeat (first |rw [if_pos (by omega)]|rw [if_neg (by omega)])),rfl⟩ H)))))))))
  exact absurd h16 h17
 refine Ae (V U U (A0 U U U) (Ad U (Ac (Z ?_))))
 refine Ax U (fun h18=>?_) (fun h18=>?_)
 ·exact Ab (Ae (Ad U (Ac (Z (An (AX (Ay (Aq U U (Ak ⟨congrArg Value.string (by unfold Ba;repeat (first |rw [if_pos (by omega)]|rw [if_neg (by omega)])),rfl⟩ H)))))))))
 refine Ab (Ab (Ae (V U U (A0 U U U) (Ad U (Ac (Z ?_))))))
 refine Ax U (fun h19=>?_) (fun h19=>?_)
 ·refine Av (Z ?_)
  refine Ax U (fun h20=>?_) (fun h20=>?_)
  ·exact Ab (Ae (Ad U (Ac (Z (An (AX (Ay (Aq U U (Ak ⟨congrArg Value.string (by unfold Ba;repeat (first |rw [if_pos (by omega)]|rw [if_neg (by omega)])),rfl⟩ H)))))))))
  exact absurd h19 h20
 refine Ae (V U U (A0 U U U) (Ad U (Ac (Z ?_))))
 refine Ax U (fun h21=>?_) (fun h21=>?_)
 ·exact Ab (Ae (Ad U (Ac (Z (An (AX (Ay (Aq U U (Ak ⟨congrArg Value.string (by unfold Ba;repeat (first |rw [if_pos (by omega)]|rw [if_neg (by omega)])),rfl⟩ H)))))))))
 refine Ab (Ae (V U U (A0 U U U) (Ad U (Ac (Z ?_)))))
 refine Ax U (fun h22=>?_) (fun h22=>?_)
 ·exact Ab (Ae (Ad U (Ac (Z (An (AX (Ay (Aq U U (Ak ⟨congrArg Value.string (by unfold Ba;repeat (first |rw [if_pos (by omega)]|rw [if_neg (by omega)])),rfl⟩ H)))))))))
 refine Ab (Ae (V U U (A0 U U U) (Ad U (Ac (Z ?_)))))
 refine Ax U (fun h23=>?_) (fun h23=>?_)
 ·exact Ab (Ae (Ad U (Ac (Z (An (AX (Ay (Aq U U (Ak ⟨congrArg Value.string (by unfold Ba;repeat (first |rw [if_pos (by omega)]|rw [if_neg (by omega)])),rfl⟩ H)))))))))
 refine Ab (Ab (Ae (V U U (A0 U U U) (Ad U (Ac (Z ?_))))))
 refine Ax U (fun h24=>?_) (fun h24=>?_)
 ·refine Av (Z ?_)
  refine Ax U (fun h25=>?_) (fun h25=>?_)
  ·exact Ab (Ae (Ad U (Ac (Z (An (AX (Ay (Aq U U (Ak ⟨congrArg Value.string (by unfold Ba;repeat (first |rw [if_pos (by omega)]|rw [if_neg (by omega)])),rfl⟩ H)))))))))
  exact absurd h24 h25
 refine Ae (V U U (A0 U U U) (Ad U (Ac (Z ?_))))
 refine Ax U (fun h26=>?_) (fun h26=>?_)
 ·exact Ab (Ae (Ad U (Ac (Z (An (AX (Ay (Aq U U (Ak ⟨congrArg Value.string (by unfold Ba;repeat (first |rw [if_pos (by omega)]|rw [if_neg (by omega)])),rfl⟩ H)))))))))
 exact Av (AT (Z (Ab (Ae (Ad U (Ac (Z (An (Aq U U (Ak ⟨congrArg Value.string (by unfold Ba;repeat (first |rw [if_pos (by omega)]|rw [if_neg (by omega)])),rfl⟩ H))))))))))
theorem FT (n:Int):
    Cn Tryz.prog 266 [.int .i64 n] [] [] (fun v Bs=>v=.agg #[.bool false,.int .i64 n,.string ⟨#[]⟩]∧Bs=[]):=by
 intro w0 F0 H
 refine enter Tryz.func266 U U (Nat.le_of_ble_eq_true U) (Ab (Ae (Dr U U U Do H (fun b1 w H=>(Ac (Z ?_))))))
 replace H:Hd _ _ _ [blk b1 [.bool false,.int .i64 0,.string ⟨#[]⟩] 284] []:=H
 refine Ab (Ae (Ad U (V U U (CR (parts:=[(1,.tmp 3)]) (vs:=[.int .i64 n]) (cs:=[.bool false,.int .i64 n,.string ⟨#[]⟩]) U Nx U U) (BH U U U C_ U U H U (Nat.le_of_ble_eq_true U) (fun u hu=>by simp [Value.cells] at hu;rcases hu with rfl|rfl|rfl<;>rfl) (fun w H=>?_)))))
 replace H:=H.h1 (A:=blk b1 [.bool false,.int .i64 n,.string ⟨#[]⟩] 284)
 refine Ac (Z (An (Fx (cs:=[.bool false,.int .i64 n,.string ⟨#[]⟩]) U U C_ U (H.cellsI 0 U U) ?_)))
 replace H:=H.nil
 exact Ak ⟨rfl,rfl⟩ H
theorem Ip (s:ByteArray):
    Cn Tryz.prog 267 [.string s] [] [] (fun v Bs=>v=.agg #[.bool true,.int .i64 0,.string s]∧Bs=[]):=by
 intro w0 F0 H
 refine enter Tryz.func267 U U (Nat.le_of_ble_eq_true U) (Ab (Ae (Dr U U U Do H (fun b1 w H=>(Ac (Z ?_))))))
 replace H:Hd _ _ _ [blk b1 [.bool false,.int .i64 0,.string ⟨#[]⟩] 284] []:=H
 refine Ab (Ae (Ad U (V U U (CR (parts:=[(0,.const (.bool true)),(2,.tmp 3)]) (vs:=[.bool true,.string s]) (cs:=[.bool true,.int .i64 0,.string s]) U Nx U U) (BH U U U C_ U U H U (Nat.le_of_ble_eq_true U) (fun u hu=>by simp [Value.cells] at hu;rcases hu with rfl|rfl|rfl<;>rfl) (fun w H=>?_)))))
 replace H:=H.h1 (A:=blk b1 [.bool true,.int .i64 0,.string s] 284)
 refine Ac (Z (An (Fx (cs:=[.bool true,.int .i64 0,.string s]) U U C_ U (H.cellsI 0 U U) ?_)))
 replace H:=H.nil
 exact Ak ⟨rfl,rfl⟩ H
theorem P2 (b:Bool):
    Cn Tryz.prog 270 [.bool b] [] [] (fun v Bs=>v=.agg #[.bool false,.int .i64 (if b=true then 1 else 0),.string ⟨#[]⟩]∧Bs=[]):=by
 intro w0 F0 H
 refine enter Tryz.func270 U U (Nat.le_of_ble_eq_true U) (Ab (Ae (Dr U U U Do H (fun b1 w H=>(Ac (Z ?_))))))
 replace H:Hd _ _ _ [blk b1 [.bool false,.int .i64 0,.string ⟨#[]⟩] 284] []:=H
 refine Ab (Ab (Ae (Ad U (Ac (Z ?_)))))
 refine DQ (b:=b) U (fun h2=>?_) (fun h2=>?_)
 ·refine Ab (Ae (sc (FT 1) H l0 U U (Au FK U U) ?_))
  rintro _ _ w ⟨rfl,rfl⟩ H
  refine BH U U U C_ U U H U (Nat.le_of_ble_eq_true U) (fun u hu=>by simp [Value.cells] at hu;rcases hu with rfl|rfl|rfl<;>rfl) (fun w H=>?_)
  replace H:=H.h1 (A:=blk b1 [.bool false,.int .i64 1,.string ⟨#[]⟩] 284)
  refine Ac (Z (An (Ay (Fx (cs:=[.bool false,.int .i64 1,.string ⟨#[]⟩]) U U C_ U (H.cellsI 0 U U) ?_))))
  replace H:=H.nil
  exact Ak ⟨by simp only [h2];rfl,rfl⟩ H
 refine Av (Z (Ab (Ae (sc (FT 0) H l0 U U (Au FK U U) ?_))))
 rintro _ _ w ⟨rfl,rfl⟩ H
 refine BH U U U C_ U U H U (Nat.le_of_ble_eq_true U) (fun u hu=>by simp [Value.cells] at hu;rcases hu with rfl|rfl|rfl<;>rfl) (fun w H=>(Ac (Z (An (Fx (cs:=[.bool false,.int .i64 0,.string ⟨#[]⟩]) U U C_ U (H.cellsI 0 U U) ?_)))))
 replace H:=H.nil
 exact Ak ⟨by simp only [h2];rfl,rfl⟩ H
theorem Kb (op:Int) (a:Int) (b:Int):
    Cn Tryz.prog 269 [.int .i64 op,.int .i64 a,.int .i64 b] [] [] (fun v Bs=>v=.agg #[.bool ((Bx op a b).t),.int .i64 ((Bx op a b).n),.string ((Bx op a b).b)]∧Bs=[]):=by
 intro w0 F0 H
 refine enter Tryz.func269 U U (Nat.le_of_ble_eq_true U) (Ab (Ae (Dr U U U Do H (fun b1 w H=>(Ac (Z ?_))))))
 replace H:Hd _ _ _ [blk b1 [.bool false,.int .i64 0,.string ⟨#[]⟩] 284] []:=H
 refine Ab (Ab (Ae (Ad U (Ac (Z (AQ (Ab (Ae (V U U (A0 U U U) (Ad U (Ac (Z ?_))))))))))))
 refine Ax U (fun h2=>?_) (fun h2=>?_)
 ·refine Ab (Ae (Ah 2 U (V U U (AU (z:=IntKind.i64.wrap (a+b)) U U U U) (sc (FT (IntKind.i64.wrap (a+b))) H l0 U U (Au FK U U) ?_))))
  rintro _ _ w ⟨rfl,rfl⟩ H
  refine BH U U U C_ U U H U (Nat.le_of_ble_eq_true U) (fun u hu=>by simp [Value.cells] at hu;rcases hu with rfl|rfl|rfl<;>rfl) (fun w H=>?_)
  replace H:=H.h1 (A:=blk b1 [.bool false,.int .i64 (IntKind.i64.wrap (a+b)),.string ⟨#[]⟩] 284)
  refine Ac (Z (An (AX (Ay (Fx (cs:=[.bool false,.int .i64 (IntKind.i64.wrap (a+b)),.string ⟨#[]⟩]) U U C_ U (H.cellsI 0 U U) ?_)))))
  have e:Bx op a b=Db (IntKind.i64.wrap (a+b)):=by unfold Bx;rw [if_pos h2]
  replace H:=H.nil
  exact Ak ⟨by rw [e];rfl,rfl⟩ H
 refine Ab (Ae (V U U (A0 U U U) (Ad U (Ac (Z ?_)))))
 refine Ax U (fun h3=>?_) (fun h3=>?_)
 ·refine Ab (Ae (Ah 2 U (V U U (Cw (z:=IntKind.i64.wrap (a - b)) U U U U) (sc (FT (IntKind.i64.wrap (a - b))) H l0 U U (Au FK U U) ?_))))
  rintro _ _ w ⟨rfl,rfl⟩ H
  refine BH U U U C_ U U H U (Nat.le_of_ble_eq_true U) (fun u hu=>by simp [Value.cells] at hu;rcases hu with rfl|rfl|rfl<;>rfl) (fun w H=>?_)
  replace H:=H.h1 (A:=blk b1 [.bool false,.int .i64 (IntKind.i64.wrap (a - b)),.string ⟨#[]⟩] 284)
  refine Ac (Z (An (AX (Ay (Fx (cs:=[.bool false,.int .i64 (IntKind.i64.wrap (a - b)),.string ⟨#[]⟩]) U U C_ U (H.cellsI 0 U U) ?_)))))
  have e:Bx op a b=Db (IntKind.i64.wrap (a - b)):=by unfold Bx;rw [if_neg h2,if_pos h3]
  replace H:=H.nil
  exact Ak ⟨by rw [e];rfl,rfl⟩ H
 refine Ab (Ae (V U U (A0 U U U) (Ad U (Ac (Z ?_)))))
 refine Ax U (fun h4=>?_) (fun h4=>?_)
 ·refine Ab (Ae (Ah 2 U (V U U (GV (z:=IntKind.i64.wrap (a*b)) U U U U) (sc (FT (IntKind.i64.wrap (a*b))) H l0 U U (Au FK U U) ?_))))
  rintro _ _ w ⟨rfl,rfl⟩ H
  refine BH U U U C_ U U H U (Nat.le_of_ble_eq_true U) (fun u hu=>by simp [Value.cells] at hu;rcases hu with rfl|rfl|rfl<;>rfl) (fun w H=>?_)
  replace H:=H.h1 (A:=blk b1 [.bool false,.int .i64 (IntKind.i64.wrap (a*b)),.string ⟨#[]⟩] 284)
  refine Ac (Z (An (AX (Ay (Fx (cs:=[.bool false,.int .i64 (IntKind.i64.wrap (a*b)),.string ⟨#[]⟩]) U U C_ U (H.cellsI 0 U U) ?_)))))
  have e:Bx op a b=Db (IntKind.i64.wrap (a*b)):=by unfold Bx;rw [if_neg h2,if_neg h3,if_pos h4]
  replace H:=H.nil
  exact Ak ⟨by rw [e];rfl,rfl⟩ H
 refine Av (AT (Z (Ab (Ae (Ah 2 U (V U U (Bb U U U) (sc (P2 (decide (a<b))) H l0 U U (Au Pc U U) ?_)))))))
 rintro _ _ w ⟨rfl,rfl⟩ H
 refine BH U U U C_ U U H U (Nat.le_of_ble_eq_true U) (fun u hu=>by simp [Value.cells] at hu;rcases hu with rfl|rfl|rfl<;>rfl) (fun w H=>?_)
 replace H:=H.h1 (A:=blk b1 [.bool false,.int .i64 (if (decide (a<b))=true then 1 else 0),.string ⟨#[]⟩] 284)
 refine Ac (Z (An (Fx (cs:=[.bool false,.int .i64 (if (decide (a<b))=true then 1 else 0),.string ⟨#[]⟩]) U U C_ U (H.cellsI 0 U U) ?_)))
 have e:Bx op a b=Db (if a<b then 1 else 0):=by unfold Bx;rw [if_neg h2,if_neg h3,if_neg h4]
 replace H:=H.nil
 exact Ak ⟨by rw [e];simp [Db],rfl⟩ H
theorem ZS (a:AP) (b:AP):
    Cn Tryz.prog 271 [.agg #[.bool a.t,.int .i64 a.n,.string a.b],.agg #[.bool b.t,.int .i64 b.n,.string b.b]] [] [] (fun v Bs=>v=.bool (Ew a b)∧Bs=[]):=by
 intro w0 F0 H
 refine enter Tryz.func271 U U (Nat.le_of_ble_eq_true U) (Ab (Ae (Ct U U U U H (fun b1 w H=>(Ct U U U U H (fun b2 w H=>(Ad U (Ac (Z ?_)))))))))
 replace H:Hd _ _ _ [blk b2 [.bool b.t,.int .i64 b.n,.string b.b] 284,blk b1 [.bool a.t,.int .i64 a.n,.string a.b] 284] []:=H
 refine Ab (Ab (Ae (V U U (Aj U Hc U) (V U U (Al U Fg U (H.cellI 1 U U)) (Ac (Z ?_))))))
 refine DQ (b:=a.t) U (fun h3=>?_) (fun h3=>?_)
 ·refine Ab (Ae (V U U (Aj U Hc U) (V U U (Al U Fg U (H.cellI 0 U U)) (Ad U ?_))))
  refine Fe (d:=9) (b:=b.t) U (fun h4=>?_) (fun h4=>?_)
  ·refine V U U (Aj U FI U) (V U U (Al U BS U (H.cellI 1 U U)) (V U U (Aj U FI U) (V U U (Al U BS U (H.cellI 0 U U)) (V U U (Ms U U U) (Ah 2 U (Ac (Z (An (Ay (Aq U U ?_))))))))))
   replace H:=H.nil
   exact Ak ⟨congrArg Value.bool (by unfold Ew;simp [h3,h4]),rfl⟩ H
  refine Ah 7 U (Ac (Z (An (Ay (Aq U U ?_)))))
  replace H:=H.nil
  exact Ak ⟨congrArg Value.bool (by unfold Ew;simp [h3,h4]),rfl⟩ H
 refine Av (Z (Ab (Ae (V U U (Aj U Hc U) (V U U (Al U Fg U (H.cellI 0 U U)) (V U U (FP U U U) (Ad U ?_)))))))
 refine Fe (d:=19) (b:=!b.t) U (fun h5=>?_) (fun h5=>?_)
 ·refine V U U (Aj U EH U) (V U U (Al U DW U (H.cellI 1 U U)) (V U U (Aj U EH U) (V U U (Al U DW U (H.cellI 0 U U)) (V U U (A0 U U U) (Ah 2 U (Ac (Z (An (Aq U U ?_)))))))))
  replace H:=H.nil
  exact Ak ⟨congrArg Value.bool (by unfold Ew;simp [h3,h5]),rfl⟩ H
 refine Ah 7 U (Ac (Z (An (Aq U U ?_))))
 replace H:=H.nil
 exact Ak ⟨congrArg Value.bool (by unfold Ew;simp [h3,h5]),rfl⟩ H
theorem ZQ (s:ByteArray) (i:Int):
    Cn Tryz.prog 272 [.string s,.int .i64 i] [] [] (fun v Bs=>v=.int .i64 (ED s i)∧Bs=[]):=by
 intro w0 F0 H
 refine enter Tryz.func272 U U (Nat.le_of_ble_eq_true U) (Ab (Ae (Ad U (Ac (Z (Ab (Ab (Ae (Ad U (V U U (Bb U U U) (Ad U ?_)))))))))))
 refine AN (d:=7) U (fun h1=>?_) (fun h1=>?_)
 ·exact Ah 5 U (Ac (Z (CG U (Ab (Ae (Ad U (Ac (Z (An (Ay (Aq U U (Ak ⟨congrArg (Value.int .i64) (if_pos (by omega)).symm,rfl⟩ H))))))))))))
 refine Ah 2 U (V U U (Dp U CA U) (V U U (CL U U U) (Ad U (Ac (Z ?_)))))
 refine Ax U (fun h2=>?_) (fun h2=>?_)
 ·exact Ab (Ae (Ad U (Ac (Z (An (Ay (Aq U U (Ak ⟨congrArg (Value.int .i64) (if_pos (by omega)).symm,rfl⟩ H))))))))
 refine Av (Z (Ab (Ae (Ah 2 U ?_))))
 obtain ⟨c0,hc0⟩:∃ c0,s[i.toNat]?=some c0:=⟨_,getElem?_pos s i.toNat (by omega)⟩
 exact V U U (I1 U CA U U (by omega) hc0) (V U U (DH (z:=((c0).toNat:Int)) U U Ht Im (AB (by omega) (by have:=UInt8.toNat_lt c0;omega))) (Ad U (Ac (Z (An (Aq U U (Ak ⟨congrArg (Value.int .i64) (by unfold ED;rw [if_neg (by omega),hc0];rfl),rfl⟩ H)))))))
theorem ZR (s:ByteArray) (f:Int) (t:Int):
    Cn Tryz.prog 273 [.string s,.int .i64 f,.int .i64 t] [] [] (fun v Bs=>v=.string (Fp s f t)∧Bs=[]):=by
 intro w0 F0 H
 refine enter Tryz.func273 U U (Nat.le_of_ble_eq_true U) (Ab (Ae (Ad U (Ac (Z (Ab (Ae (Ad U (V U U (Dp U CA U) (Ad U (Ac (Z (Ab (Ae (Ad U (V U U (Qt (z:=max f 0) U U U U) (Ad U (V U U (Hi (z:=min (max f 0) ((s.size:Nat):Int)) U U U U) (Ad U (V U U (Qt (z:=max t 0) U U U U) (Ad U (V U U (Hi (z:=min (max t 0) ((s.size:Nat):Int)) U U U U) (Ah 2 U (Ac (Z (Ab (Ab (Ae (Ah 2 U (V U U (Co U U U) (Ac (Z ?_))))))))))))))))))))))))))))))))
 refine Ax U (fun h1=>?_) (fun h1=>?_)
 ·exact Ab (Ae (Ad U (Ac (Z (An (Ay (Aq U U (Ak ⟨congrArg Value.string (if_pos h1).symm,rfl⟩ H))))))))
 exact Av (Z (Ab (Ae (Ah 3 U (V U U (XD (r:=s.extract (min (max f 0) ((s.size:Nat):Int)).toNat (min (max t 0) ((s.size:Nat):Int)).toNat) U CA U U U (by omega) (by omega) (by omega) U) (Ad U (Ac (Z (An (Aq U U (Ak ⟨congrArg Value.string (if_neg h1).symm,rfl⟩ H)))))))))))
theorem Wd (r:Nat) (pv:Value) (key:ByteArray) (vv:Value) (fuel pos steps:Int) (halted:Bool) (sv:Value) (g:Nat→AP) (tv mv:Value) (stk:List AP) (op:Int) (hst:stk.length≤16):
    Cn Tryz.prog 264 [.pointer (some ⟨r,0,none⟩),.int .i64 op] [blk r (A_ pv key vv fuel pos steps halted sv g tv mv) 288,Y AW sv stk] [] (fun v Bs=>∃ u sv2,v=.tuple #[u,.int .i64 (Aw op stk).1]∧Bs=[blk r (A_ pv key vv fuel pos steps halted sv2 g tv mv) 288,Y AW sv2 (Aw op stk).2.1,Y AW u (Aw op stk).2.2]):=by
 intro w0 F0 H
 obtain ⟨A1,c2,rfl,hc3,hm4,hp5⟩:=H.fA 1 rfl
 refine enter Tryz.func264 U U (Nat.le_of_ble_eq_true U) (Ab (Ae (Ah 2 U (Ac (Z ?_)))))
 replace H:Hd _ _ _ [blk r (A_ pv key vv fuel pos steps halted (.slice A1 stk.length c2) g tv mv) 288,Y AW (.slice A1 stk.length c2) stk] []:=H
 refine Ab (Ae (Ad U (sc (Uf op) H l0 U U (Au Va U U) ?_)))
 rintro _ _ w ⟨rfl,rfl⟩ H
 refine Ad U (Ac (Z (Ab (Ab (Ae (Ad U (V U U (Dp U CA U) (Ad U (V U U (AH U U) (V U U (Aj U Gn U) (V U U (Al U Gx U (H.cellI 0 U U)) (V U U (Bc U Hr U) (V U U (Ck U U U) (Ac (Z ?_)))))))))))))))
 refine Ax U (fun h6=>?_) (fun h6=>?_)
 ·refine Ab (Ae (Ah 2 U (Ac (Z (An (Ay (Ch U U U ?_)))))))
  have e:=L8 (op:=op) (stk:=stk) (by omega)
  replace H:=H.newnil AW|>.sel 3 [1,2,0] [] rfl (by kernel_rfl)
  replace H:Hd _ _ _ [blk r (A_ pv key vv fuel pos steps halted (.slice A1 stk.length c2) g tv mv) 288,Y AW (.slice A1 stk.length c2) stk,Y AW (.slice none 0 0) []] []:=H
  exact Ak ⟨_,_,by rw [e]<;>rfl,by rw [e]<;>rfl⟩ H
 refine Av (Z (Ab (Gj mo (by kernel_rfl) H (Eb U (Bu U U (fun w H=>AH U U) (Bu U U (fun w H=>Aj U Gn U) (Bu U U (fun w H=>Al U Gx U (H.cellI 0 U U)) (Eb U (Bu U U (fun w H=>AH U U) (Bu U U (fun w H=>Aj U Gn U) (Bu U U (fun w H=>Al U Gx U (H.cellI 0 U U)) (Bu U U (fun w H=>Bc U Hr U) (Eb U (Bu U U (fun w H=>Dp U CA U) (Bu U U (fun w H=>Cw (z:=((stk.length - ((Ba op).size):Nat):Int)) U U U (by rw [AB (by omega) (by omega)];omega)) (Bu U U (fun w H=>Mr U BY U U (by omega) (by omega) U) (Eb U (Bu U U (fun w H=>AH U U) (Bu U U (fun w H=>Aj U Gn U) (Bu U U (fun w H=>Al U Gx U (H.cellI 0 U U)) ?_))))))))))))))))))))
 refine Eb U (Bu U U (fun w H=>AH U U) (Bu U U (fun w H=>Aj U Gn U) (Bu U U (fun w H=>Al U Gx U (H.cellI 0 U U)) (Bu U U (fun w H=>Bc U Hr U) (Eb U (Bu U U (fun w H=>Dp U CA U) (Bu U U (fun w H=>Cw (z:=((stk.length - ((Ba op).size):Nat):Int)) U U U (by rw [AB (by omega) (by omega)];omega)) (Bu U U (fun w H=>I0 U BY U U (by omega) (by omega) U) (Jm 2 U (Gy (fun w H=>(Z (Ab (Ab (Ae (Ad U (V U U (Bc U Hr U) (Ad U (Ac (Z (AQ (BL (σ:=Nat) (fun i=>[(0,.pointer (some ⟨r,0,none⟩)),(6,.string (Ba op)),(7,.slice A1 (stk.length - ((Ba op).size)) c2),(8,.slice (DK A1 c2 (stk.length - ((Ba op).size)) 3) (stk.length - (stk.length - ((Ba op).size))) (c2 - (stk.length - ((Ba op).size)))),(48,.slice (DK A1 c2 (stk.length - ((Ba op).size)) 3) (stk.length - (stk.length - ((Ba op).size))) (c2 - (stk.length - ((Ba op).size)))),(49,.int .i64 ((stk.length - (stk.length - ((Ba op).size)):Nat):Int)),(50,.int .i64 ((i:Nat):Int))]) (fun i w=>(Hd w0 F0 w [blk r (A_ pv key vv fuel pos steps halted (.slice A1 stk.length c2) g tv mv) 288,Y AW (.slice A1 stk.length c2) stk] [])∧(i≤(Ba op).size)∧(EU ((Ba op).data.toList.drop i) ((stk.drop (stk.length - (Ba op).size)).drop i)=EU (Ba op).data.toList (stk.drop (stk.length - (Ba op).size)))) (fun i=>(Ba op).size - i) 0 ⟨rfl,rfl,rfl,rfl,rfl,rfl,rfl,trivial⟩ ⟨H,Nat.zero_le _,rfl⟩ ?_))))))))))))))))))))))
 rintro i w ⟨H,hi,hf⟩
 refine Ab (Ae (V U U (Bb U U U) (Ac (Z (Ab ?_)))))
 refine Ax U (fun h7=>?_) (fun h7=>?_)
 ·refine Av (Z (Ab (AQ (Ab (Ae (Ad U ?_))))))
  obtain ⟨x8,hx9⟩:∃ z9,(stk.drop (stk.length - ((Ba op).size)))[i]?=some z9:=⟨_,List.getElem?_eq_getElem (show i<(stk.drop (stk.length - ((Ba op).size))).length by simp only [List.length_take,List.length_drop];omega)⟩
  have th10:=H.thX (fun F hA hR=>Id (BI F (hA _ (List.mem_of_getElem? (i:=1) rfl))) (i:=stk.length - ((Ba op).size)) (by omega)) hx9
  refine V U U (AY (p:=AS (DK A1 c2 (stk.length - ((Ba op).size)) 3)+i*3) U BY U U (by omega) (by omega) th10 U) (V U U (Bo (cs:=[.bool x8.t,.int .i64 x8.n,.string x8.b]) U C_ U U (H.elsX (fun F hA hR=>Id (BI F (hA _ (List.mem_of_getElem? (i:=1) U))) (i:=stk.length - ((Ba op).size)) (by omega)) hx9 U)) (Dr U U U Do H (fun b11 w H=>(Ad U (BH U U U C_ U U H U (Nat.le_of_ble_eq_true U) (fun u hu=>by simp [Value.cells] at hu;rcases hu with rfl|rfl|rfl<;>rfl) (fun w H=>?_))))))
  replace H:Hd _ _ _ [blk b11 [.bool x8.t,.int .i64 x8.n,.string x8.b] 284,blk r (A_ pv key vv fuel pos steps halted (.slice A1 stk.length c2) g tv mv) 288,Y AW (.slice A1 stk.length c2) stk] []:=H
  refine Ac (Z (Ab (Ae (Ah 2 U ?_))))
  obtain ⟨c12,hb13⟩:∃ c0,(Ba op)[i]?=some c0:=⟨_,getElem?_pos (Ba op) i (by omega)⟩
  refine V U U (I1 U CA U U (by omega) hb13) (V U U (A0 U U U) (Ad U ?_))
  refine AN (d:=59) U (fun h14=>?_) (fun h14=>?_)
  ·refine V U U (Aj U Hc U) (V U U (Al U Fg U (H.cellI 0 U U)) (Ah 2 U ?_))
   refine Fe (d:=63) (b:=x8.t) U (fun h15=>?_) (fun h15=>?_)
   ·refine Ah 10 U (Ac (Z (CG U (Ab (Ae (Ah 2 U (Ac (Z (An (AX (Ay (Ay (AX (Ay (Ch U U U ?_)))))))))))))))
    have hfit:Fq c12 x8=false:=by rw [Ha];simp_all
    have e:=IS (op:=op) (stk:=stk) (by omega) (hf.symm.trans (Lj (G9 hb13) hx9 hfit))
    replace H:=H.p2.p2.k2.newnil AW|>.p2|>.p2
    exact Ak ⟨_,_,by rw [e]<;>rfl,by rw [e]<;>rfl⟩ H
   refine Ah 2 U (V U U (I1 U CA U U (by omega) hb13) (V U U (A0 U U U) (Ad U ?_)))
   refine AN (d:=68) U (fun h16=>?_) (fun h16=>?_)
   ·refine V U U (Aj U Hc U) (V U U (Al U Fg U (H.cellI 0 U U)) (V U U (FP U U U) (Ah 2 U (Ac (Z ?_)))))
    refine DQ (b:=!x8.t) U (fun h17=>?_) (fun h17=>?_)
    ·refine Ab (Ae (Ah 2 U (Ac (Z (An (AX (Ay (Ay (AX (Ay (Ch U U U ?_)))))))))))
     have hfit:Fq c12 x8=false:=by rw [Ha];simp_all
     have e:=IS (op:=op) (stk:=stk) (by omega) (hf.symm.trans (Lj (G9 hb13) hx9 hfit))
     replace H:=H.p2.p2.k2.newnil AW|>.p2|>.p2
     exact Ak ⟨_,_,by rw [e]<;>rfl,by rw [e]<;>rfl⟩ H
    refine Av (AT (Z (Ae (V U U (AU (z:=((i+1:Nat):Int)) U U U (by rw [AB (by omega) (by omega)];omega)) (Ad U (Ac ?_))))))
    have hfit:Fq c12 x8=true:=by rw [Ha];simp_all
    have hf2:=(JF (G9 hb13) hx9 hfit).trans hf
    replace H:=H.p2.p2.k2
    exact Bf (s:=i) (i+1) ⟨rfl,rfl,rfl,rfl,rfl,rfl,rfl,trivial⟩ ⟨H,by (try dsimp only);omega,hf2⟩ (by (try dsimp only);omega)
   refine Ah 5 U (Ac (Z (B2 U (Av (AT (Z (Ae (V U U (AU (z:=((i+1:Nat):Int)) U U U (by rw [AB (by omega) (by omega)];omega)) (Ad U (Ac ?_))))))))))
   have hfit:Fq c12 x8=true:=by rw [Ha];simp_all
   have hf2:=(JF (G9 hb13) hx9 hfit).trans hf
   replace H:=H.p2.p2.k2
   exact Bf (s:=i) (i+1) ⟨rfl,rfl,rfl,rfl,rfl,rfl,rfl,trivial⟩ ⟨H,by (try dsimp only);omega,hf2⟩ (by (try dsimp only);omega)
  refine Ah 6 U (V U U (I1 U CA U U (by omega) hb13) (V U U (A0 U U U) (Ad U ?_)))
  refine AN (d:=68) U (fun h18=>?_) (fun h18=>?_)
  ·refine V U U (Aj U Hc U) (V U U (Al U Fg U (H.cellI 0 U U)) (V U U (FP U U U) (Ah 2 U (Ac (Z ?_)))))
   refine DQ (b:=!x8.t) U (fun h19=>?_) (fun h19=>?_)
   ·refine Ab (Ae (Ah 2 U (Ac (Z (An (AX (Ay (Ay (AX (Ay (Ch U U U ?_)))))))))))
    have hfit:Fq c12 x8=false:=by rw [Ha];simp_all
    have e:=IS (op:=op) (stk:=stk) (by omega) (hf.symm.trans (Lj (G9 hb13) hx9 hfit))
    replace H:=H.p2.p2.k2.newnil AW|>.p2|>.p2
    exact Ak ⟨_,_,by rw [e]<;>rfl,by rw [e]<;>rfl⟩ H
   refine Av (AT (Z (Ae (V U U (AU (z:=((i+1:Nat):Int)) U U U (by rw [AB (by omega) (by omega)];omega)) (Ad U (Ac ?_))))))
   have hfit:Fq c12 x8=true:=by rw [Ha];simp_all
   have hf2:=(JF (G9 hb13) hx9 hfit).trans hf
   replace H:=H.p2.p2.k2
   exact Bf (s:=i) (i+1) ⟨rfl,rfl,rfl,rfl,rfl,rfl,rfl,trivial⟩ ⟨H,by (try dsimp only);omega,hf2⟩ (by (try dsimp only);omega)
  refine Ah 5 U (Ac (Z (B2 U (Av (AT (Z (Ae (V U U (AU (z:=((i+1:Nat):Int)) U U U (by rw [AB (by omega) (by omega)];omega)) (Ad U (Ac ?_))))))))))
  have hfit:Fq c12 x8=true:=by rw [Ha];simp_all
  have hf2:=(JF (G9 hb13) hx9 hfit).trans hf
  replace H:=H.p2.p2.k2
  exact Bf (s:=i) (i+1) ⟨rfl,rfl,rfl,rfl,rfl,rfl,rfl,trivial⟩ ⟨H,by (try dsimp only);omega,hf2⟩ (by (try dsimp only);omega)
 refine BD (AM (AM (BE (Z (Ab (Ae (Ad U ?_)))))))
 replace H:=H.newnil AW
 refine Cy (xs:=[]) (ys:=stk.drop (stk.length - ((Ba op).size))) U U U BY Do U (by decide) U U H (by simp only [List.length_nil];omega) (fun F hA hR=>Id (BI F (hA _ (List.mem_of_getElem? (i:=1) U))) (i:=stk.length - ((Ba op).size)) (by omega)) (fun v20 w H=>(Ad U (Ac (Z ?_))))
 replace H:Hd _ _ _ [Y AW v20 ([]++(stk.drop (stk.length - ((Ba op).size)))),blk r (A_ pv key vv fuel pos steps halted (.slice A1 stk.length c2) g tv mv) 288,Y AW (.slice A1 stk.length c2) stk] []:=H
 refine Ab (Ae (Ah 2 U (V U U (AH U U) (V U U (Aj U Gn U) ?_))))
 replace H:=H.p1
 refine BH U U U Gx U U H U (Nat.le_of_ble_eq_true U) (fun u hu=>by simp [Value.cells] at hu;subst hu;rfl) (fun w H=>?_)
 replace H:=H.h1 (A:=blk r (A_ pv key vv fuel pos steps halted (.slice A1 (stk.length - ((Ba op).size)) c2) g tv mv) 288)
 refine Ac (Z (Ab ?_))
 replace H:=H.p2.preO (stk.length - (Ba op).size) (by omega)|>.h1 (A:=Y AW (.slice A1 (stk.length - ((Ba op).size)) c2) (stk.take (stk.length - (Ba op).size)))
 refine Ae (Ah 3 U (Ac (Z (An (Ch U U U ?_)))))
 replace H:=H.p1.h3 (C:=Y AW v20 (stk.drop (stk.length - (Ba op).size)))
 have e:=L6 (op:=op) (stk:=stk) (by omega) (hf.symm.trans (Ti (by simp only [List.length_drop];omega)))
 exact Ak ⟨_,_,by rw [e]<;>rfl,by rw [e]<;>rfl⟩ H
theorem D_ (r:Nat) (pv:Value) (key:ByteArray) (vv:Value) (fuel pos steps:Int) (halted:Bool) (sv:Value) (g:Nat→AP) (tv mv:Value) (stk:List AP) (vvs:Value) (vs:List AP) (hst:stk.length≤16) (hvs:vs.length≤16):
    Cn Tryz.prog 265 [.pointer (some ⟨r,0,none⟩),vvs] [blk r (A_ pv key vv fuel pos steps halted sv g tv mv) 288,Y AW sv stk] [Aa AW vvs vs] (fun v Bs=>∃ sv2,v=.int .i64 (Be stk vs).1∧Bs=[blk r (A_ pv key vv fuel pos steps halted sv2 g tv mv) 288,Y AW sv2 (Be stk vs).2]):=by
 intro w0 F0 H
 obtain ⟨A1,c2,rfl,hc3,hm4,hp5⟩:=H.fR 0 rfl
 refine enter Tryz.func265 U U (Nat.le_of_ble_eq_true U) (Ab (Ae (Ad U (Ac (Z ?_)))))
 replace H:Hd _ _ _ [blk r (A_ pv key vv fuel pos steps halted sv g tv mv) 288,Y AW sv stk] [Aa AW (.slice A1 vs.length c2) vs]:=H
 refine Ab (Ab (Ae (Ad U (V U U (Bc U Hr U) (Ad U (Ac (Z (AQ (BL (σ:=Nat) (fun k=>[(0,.pointer (some ⟨r,0,none⟩)),(1,.slice A1 vs.length c2),(7,.slice A1 vs.length c2),(8,.int .i64 ((vs.length:Nat):Int)),(9,.int .i64 ((k:Nat):Int))]) (fun k w=>(Hd w0 F0 w [blk r (A_ pv key vv fuel pos steps halted sv g tv mv) 288,Y AW sv stk] [Aa AW (.slice A1 vs.length c2) vs])∧(k≤vs.length)∧(∀ y∈vs.take k,EE y=false)) (fun k=>vs.length - k) 0 ⟨rfl,rfl,rfl,rfl,rfl,trivial⟩ ⟨H,Nat.zero_le _,by (try dsimp only);simp⟩ ?_)))))))))
 rintro k w ⟨H,hk,hn⟩
 refine Ab (Ae (V U U (Bb U U U) (Ac (Z (Ab ?_)))))
 refine Ax U (fun h6=>?_) (fun h6=>?_)
 ·refine Av (Z (Ab (AQ (Ab (Ae ?_)))))
  obtain ⟨x7,hx8⟩:∃ z9,vs[k]?=some z9:=⟨_,List.getElem?_eq_getElem (show k<vs.length by omega)⟩
  have th9:=H.thR 0 rfl hx8
  refine V U U (AY (p:=AS A1+k*3) U BY U U (by omega) (by omega) th9 U) (V U U (Bo (cs:=[.bool x7.t,.int .i64 x7.n,.string x7.b]) U C_ U U (H.elsR 0 U hx8 U)) (Dr U U U Do H (fun b10 w H=>(BH U U U C_ U U H U (Nat.le_of_ble_eq_true U) (fun u hu=>by simp [Value.cells] at hu;rcases hu with rfl|rfl|rfl<;>rfl) (fun w H=>?_)))))
  replace H:=H.h1 (A:=blk b10 [.bool x7.t,.int .i64 x7.n,.string x7.b] 284)
  refine Ac (Z (Ab (Ae (V U U (Aj U Hc U) (V U U (Al U Fg U (H.cellI 0 U U)) (Ad U ?_))))))
  refine Fe (d:=15) (b:=x7.t) U (fun h11=>?_) (fun h11=>?_)
  ·refine V U U (Aj U FI U) (V U U (Al U BS U (H.cellI 0 U U)) (V U U (Dp U CA U) (V U U (Ck U U U) (Ad U (Ac (Z ?_))))))
   refine Ax U (fun h12=>?_) (fun h12=>?_)
   ·refine Ab (Ae (Ad U (Ac (Z (An (AX (Ay (Ay (AX (Ay (Aq U U ?_)))))))))))
    have e:=Xq (stk:=stk) hx8 (RY h11 h12)
    replace H:=H.p2.p2.k2
    exact Ak ⟨_,by rw [e]<;>rfl,by rw [e]<;>rfl⟩ H
   refine Av (AT (Z (Ae (V U U (AU (z:=((k+1:Nat):Int)) U U U (by rw [AB (by omega) (by omega)];omega)) (Ad U (Ac ?_))))))
   replace H:=H.p2.p2.k2
   exact Bf (s:=k) (k+1) ⟨rfl,rfl,rfl,rfl,rfl,trivial⟩ ⟨H,by (try dsimp only);omega,Ho hn hx8 (NA (.inr h12))⟩ (by (try dsimp only);omega)
  refine Ah 5 U (Ac (Z (B2 U (Av (AT (Z (Ae (V U U (AU (z:=((k+1:Nat):Int)) U U U (by rw [AB (by omega) (by omega)];omega)) (Ad U (Ac ?_))))))))))
  replace H:=H.p2.p2.k2
  exact Bf (s:=k) (k+1) ⟨rfl,rfl,rfl,rfl,rfl,trivial⟩ ⟨H,by (try dsimp only);omega,Ho hn hx8 (NA (.inl h11))⟩ (by (try dsimp only);omega)
 refine BD (AM (AM (BE (Z (Ab (Ab (Ae (Ad U (V U U (AH U U) (V U U (Aj U Gn U) (V U U (Al U Gx U (H.cellI 0 U U)) ?_)))))))))))
 obtain ⟨A13,c14,rfl,hc15,hm16,hp17⟩:=H.fA 1 rfl
 refine V U U (Bc U Hr U) (Ad U (V U U (Bc U Hr U) (V U U (AU (z:=((stk.length+vs.length:Nat):Int)) U U U (by rw [AB (by omega) (by omega)];omega)) (V U U (Ck U U U) (Ac (Z ?_))))))
 refine Ax U (fun h18=>?_) (fun h18=>?_)
 ·refine Ab (Ae (Ad U (Ac (Z (An (Ay (Aq U U ?_)))))))
  have e:=Xt (stk:=stk) (vs:=vs) (by rw [List.take_of_length_le (by omega)] at hn;exact hn) (by omega)
  exact Ak ⟨_,by rw [e]<;>rfl,by rw [e]<;>rfl⟩ H
 refine Av (Z (Ab (Ae (Ah 2 U (V U U (AH U U) (V U U (Aj U Gn U) (V U U (Al U Gx U (H.cellI 0 U U)) (Ad U ?_))))))))
 replace H:=H.p1
 refine Cy (xs:=stk) (ys:=vs) U U U BY Do U (by decide) U U H (by omega) (fun F hA hR=>hR _ (List.mem_of_getElem? (i:=0) U)) (fun v19 w H=>(V U U (AH U U) (V U U (Aj U Gn U) ?_)))
 obtain ⟨A20,c21,rfl,hc22,hm23,hp24⟩:=H.fA 0 rfl
 replace H:=H.p1
 refine BH U U U Gx U U H U (Nat.le_of_ble_eq_true U) (fun u hu=>by simp [Value.cells] at hu;subst hu;rfl) (fun w H=>?_)
 replace H:Hd _ _ _ [blk r (A_ pv key vv fuel pos steps halted (.slice A20 ((stk++vs).length) c21) g tv mv) 288,Y AW (.slice A20 ((stk++vs).length) c21) (stk++vs)] [Aa AW (.slice A1 vs.length c2) vs]:=H
 refine Ac (Z (Ab (Ae (Ad U (Ac (Z (An (Aq U U ?_))))))))
 have e:=Xr (stk:=stk) (vs:=vs) (by rw [List.take_of_length_le (by omega)] at hn;exact hn) (by omega)
 exact Ak ⟨_,by rw [e]<;>rfl,by rw [e]<;>rfl⟩ H
theorem Wo (r:Nat) (pv:Value) (key:ByteArray) (vv:Value) (fuel pos steps:Int) (halted:Bool) (sv:Value) (g:Nat→AP) (tv mv:Value) (stk:List AP) (vals:List ByteArray) (hst:stk.length≤16):
    Cn Tryz.prog 268 [.pointer (some ⟨r,0,none⟩)] [blk r (A_ pv key vv fuel pos steps halted sv g tv mv) 288,Y AW sv stk] [Aa Bg vv vals] (fun v Bs=>∃ sv2 vv2,v=.int .i64 (E_ stk vals).1∧C2 Bg vv vals vv2 (E_ stk vals).2.2∧Bs=[blk r (A_ pv key vv2 fuel pos steps halted sv2 g tv mv) 288,Y AW sv2 (E_ stk vals).2.1]):=by
 intro w0 F0 H
 obtain ⟨A1,c2,rfl,hc3,hm4,hp5⟩:=H.fR 0 rfl
 refine enter Tryz.func268 U U (Nat.le_of_ble_eq_true U) (Ab (Ae (Ad U (Ac (Z ?_)))))
 replace H:Hd _ _ _ [blk r (A_ pv key (.slice A1 vals.length c2) fuel pos steps halted sv g tv mv) 288,Y AW sv stk] [Aa Bg (.slice A1 vals.length c2) vals]:=H
 refine Ab (Ab (Ae (Ad U (V U U (AH U U) (V U U (Aj U JQ U) (V U U (Al U KI U (H.cellI 0 U U)) (V U U (Bc U Re U) (V U U (A0 U U U) (Ac (Z ?_))))))))))
 refine Ax U (fun h6=>?_) (fun h6=>?_)
 ·refine Ab ?_
  have hv0:vals=[]:=List.eq_nil_of_length_eq_zero (by omega)
  refine Ae (Ad U (sc (FT 0) H l0 U U (Au FK U U) ?_))
  rintro _ _ w ⟨rfl,rfl⟩ H
  refine BX (parts:=[(0,.tmp 11)]) (vs:=[.agg #[.bool false,.int .i64 0,.string ⟨#[]⟩]]) (cs:=[.bool false,.int .i64 0,.string ⟨#[]⟩]) U U U BY Do U (by decide) (by decide) U U H (fun b7 w H=>?_)
  replace H:=H.h1 (A:=blk b7 [.bool false,.int .i64 0,.string ⟨#[]⟩] 284)|>.p2|>.p2
  refine sc (D_ r pv key (.slice A1 vals.length c2) fuel pos steps halted sv g tv mv stk (.slice (some ⟨b7,0,none⟩) 1 1) [(⟨false,0,⟨#[]⟩⟩:AP)] (by omega) (Nat.le_of_ble_eq_true U)) H (lA 0 U (fun F h=>Cm h rfl (by decide) (AV.flat_eq.2 U)) l0) U U (Au D7 U U) ?_
  rintro _ _ w ⟨s8,rfl,rfl⟩ H
  replace H:=H.h2 (A:=blk r (A_ pv key (.slice A1 vals.length c2) fuel pos steps halted s8 g tv mv) 288) (B:=Y AW s8 ((Be stk [(⟨false,0,⟨#[]⟩⟩:AP)]).2))
  refine Ad U (Ac (Z (An (Ay (Aq U U ?_)))))
  replace H:=H.k2
  have e:E_ stk vals=((Be stk [Db 0]).1,(Be stk [Db 0]).2,[]):=by rw [hv0];rfl
  exact Ak ⟨s8,.slice A1 vals.length c2,by rw [e]<;>rfl,by rw [e,hv0]<;>exact C2.refl _ _ _,by rw [e]<;>rfl⟩ H
 refine Av (Z (Ab (Ae (Ad U (V U U (AH U U) (V U U (Aj U JQ U) (V U U (Al U KI U (H.cellI 0 U U)) ?_)))))))
 obtain ⟨x9,hx10⟩:∃ z9,vals[0]?=some z9:=⟨_,List.getElem?_eq_getElem (show 0<vals.length by omega)⟩
 have th11:=H.thR 0 rfl hx10
 refine V U U (AY (p:=AS A1+0*1) U G0 U U (by omega) (by omega) th11 (by omega)) (V U U (Al U BS U (H.elR 0 U hx10 (q:=0) U U)) (Ad U (Ac (Z (Ab (Ae (Ah 2 U (V U U (AH U U) (V U U (Aj U JQ U) (V U U (Al U KI U (H.cellI 0 U U)) (V U U (I0 U G0 U U (by omega) (by omega) U) (V U U (AH U U) (V U U (Aj U JQ U) (BH U U U KI U U H U (Nat.le_of_ble_eq_true U) (fun u hu=>by simp [Value.cells] at hu;subst hu;rfl) (fun w H=>?_)))))))))))))))
 replace H:=H.h1 (A:=blk r (A_ pv key (.slice (DK A1 c2 1 1) (vals.length - 1) (c2 - 1)) fuel pos steps halted sv g tv mv) 288)
 refine Ac (Z (Ab (Ae (Ah 2 U (sc (Ip x9) H l0 U U (Au HV U U) ?_)))))
 rintro _ _ w ⟨rfl,rfl⟩ H
 refine sc (FT 1) H l0 U U (Au FK U U) ?_
 rintro _ _ w ⟨rfl,rfl⟩ H
 refine BX (parts:=[(0,.tmp 30),(1,.tmp 31)]) (vs:=[.agg #[.bool true,.int .i64 0,.string x9],.agg #[.bool false,.int .i64 1,.string ⟨#[]⟩]]) (cs:=[.bool true,.int .i64 0,.string x9,.bool false,.int .i64 1,.string ⟨#[]⟩]) U U U BY Do U (by decide) (by decide) U U H (fun b12 w H=>?_)
 replace H:=H.h1 (A:=blk b12 [.bool true,.int .i64 0,.string x9,.bool false,.int .i64 1,.string ⟨#[]⟩] 284)|>.p2|>.p2
 refine sc (D_ r pv key (.slice (DK A1 c2 1 1) (vals.length - 1) (c2 - 1)) fuel pos steps halted sv g tv mv stk (.slice (some ⟨b12,0,none⟩) 2 2) [(⟨true,0,x9⟩:AP),(⟨false,1,⟨#[]⟩⟩:AP)] (by omega) (Nat.le_of_ble_eq_true U)) H (lA 0 U (fun F h=>Cm h rfl (by decide) (AV.flat_eq.2 U)) l0) U U (Au D7 U U) ?_
 rintro _ _ w ⟨s13,rfl,rfl⟩ H
 replace H:=H.h2 (A:=blk r (A_ pv key (.slice (DK A1 c2 1 1) (vals.length - 1) (c2 - 1)) fuel pos steps halted s13 g tv mv) 288) (B:=Y AW s13 ((Be stk [(⟨true,0,x9⟩:AP),(⟨false,1,⟨#[]⟩⟩:AP)]).2))
 refine Ad U (Ac (Z (An (Aq U U ?_))))
 replace H:=H.k2
 have e:=Wn (stk:=stk) hx10
 exact Ak ⟨s13,.slice (DK A1 c2 1 1) (vals.length - 1) (c2 - 1),by rw [e]<;>rfl,by rw [e];exact fun w F h=>Id h (by omega),by rw [e]<;>rfl⟩ H
theorem SV (r:Nat) (pv:Value) (key:ByteArray) (vv:Value) (fuel pos steps:Int) (halted:Bool) (sv:Value) (g:Nat→AP) (tv mv:Value) (told:List Ap) (ek ew:ByteArray) (hto:told.length≤40):
    Cn Tryz.prog 276 [.pointer (some ⟨r,0,none⟩),.string ek,.string ew] [blk r (A_ pv key vv fuel pos steps halted sv g tv mv) 288,Y Ag tv told] [] (fun v Bs=>∃ tv2,v=.int .i64 (DS told ek ew).1∧Bs=[blk r (A_ pv key vv fuel pos steps halted sv g tv2 mv) 288,Y Ag tv2 (DS told ek ew).2]):=by
 intro w0 F0 H
 obtain ⟨A1,c2,rfl,hc3,hm4,hp5⟩:=H.fA 1 rfl
 refine enter Tryz.func276 U U (Nat.le_of_ble_eq_true U) (Ab (Ae (Ad U (Ac (Z ?_)))))
 replace H:Hd _ _ _ [blk r (A_ pv key vv fuel pos steps halted sv g (.slice A1 told.length c2) mv) 288,Y Ag (.slice A1 told.length c2) told] []:=H
 refine Ab (AQ (Ab (Ae (Ad U (V U U (Dp U CA U) (V U U (Ck U U U) (Ad U (Ac (Z ?_)))))))))
 refine Ax U (fun h6=>?_) (fun h6=>?_)
 ·refine Ab (Ae (Ad U (Ac (Z (An (AX (Ay (Aq U U ?_))))))))
  have e:=SR (told:=told) (k:=ek) (v:=ew) h6
  exact Ak ⟨_,by rw [e]<;>rfl,by rw [e]<;>rfl⟩ H
 refine Ab (Ae (Ad U (V U U (AH U U) (V U U (Aj U JR U) (V U U (Al U EO U (H.cellI 0 U U)) (V U U (Bc U Da U) (V U U (CL U U U) (Ad U (Ac (Z ?_))))))))))
 refine Ax U (fun h7=>?_) (fun h7=>?_)
 ·refine Ab (Ae (Ad U (Ac (Z (An (AX (Ay (Aq U U ?_))))))))
  have e:=SU (told:=told) (k:=ek) (v:=ew) h6 (by omega)
  exact Ak ⟨_,by rw [e]<;>rfl,by rw [e]<;>rfl⟩ H
 refine Av (AT (Z (Ab (Ae (Ah 2 U (V U U (AH U U) (V U U (Aj U JR U) (V U U (Al U EO U (H.cellI 0 U U)) (Ah 2 U (V U U (CR (parts:=[(0,.tmp 23),(1,.tmp 24)]) (vs:=[.string ek,.string ew]) (cs:=[.string ek,.string ew]) U Nv U U) (BX (parts:=[(0,.tmp 25)]) (vs:=[.agg #[.string ek,.string ew]]) (cs:=[.string ek,.string ew]) U U U By Dc U (by decide) (by decide) U U H (fun b8 w H=>?_))))))))))))
 replace H:=H.p2
 refine Cy (xs:=told) (ys:=[(⟨ek,ew⟩:Ap)]) U U U By Dc U (by decide) U U H (by first |omega|(simp only [List.length_cons,List.length_nil];omega)) (fun F hA hR=>Cm (hA _ (List.mem_of_getElem? (i:=0) U)) U (by decide) (AV.flat_eq.2 U)) (fun v9 w H=>(V U U (AH U U) (V U U (Aj U JR U) ?_)))
 obtain ⟨A10,c11,rfl,hc12,hm13,hp14⟩:=H.fA 0 rfl
 replace H:=H.p2
 refine BH U U U EO U U H U (Nat.le_of_ble_eq_true U) (fun u hu=>by simp [Value.cells] at hu;subst hu;rfl) (fun w H=>?_)
 replace H:Hd _ _ _ [blk r (A_ pv key vv fuel pos steps halted sv g (.slice A10 ((told++[(⟨ek,ew⟩:Ap)]).length) c11) mv) 288,Y Ag (.slice A10 ((told++[(⟨ek,ew⟩:Ap)]).length) c11) (told++[(⟨ek,ew⟩:Ap)]),blk b8 [.string ek,.string ew] 106] []:=H
 refine Ac (Z (Ab (Ae (Ad U (Ac (Z (An (Aq U U ?_))))))))
 replace H:=H.k2
 have e:=SS (told:=told) (k:=ek) (v:=ew) h6 (by omega)
 exact Ak ⟨_,by rw [e]<;>rfl,by rw [e]<;>rfl⟩ H
section
variable {D:A8} {key:ByteArray} {m:VM} {i:BC} {v:List AP}
theorem La (h:(Aw i.op m.stk).1≠0):BF D key m i=(m,(Aw i.op m.stk).1):=if_pos h
theorem Dl (h:¬ (Aw i.op m.stk).1≠0):BF D key m i=B9 D key {m with stk:=(Aw i.op m.stk).2.1} i (Aw i.op m.stk).2.2:=if_neg h
theorem M6 (h:i.op=0):B9 D key m i v=({m with halted:=true},0):=by unfold B9;rw [h];rfl
theorem M7 (h:i.op=1):B9 D key m i v=C0 m [Db i.a]:=by unfold B9;rw [h];rfl
theorem Nh (h:i.op=2):B9 D key m i v=C0 m [Ez i.s]:=by unfold B9;rw [h];rfl
theorem Nl (h:i.op=3):B9 D key m i v=C0 m [v.getD 0 CE,v.getD 0 CE]:=by unfold B9;rw [h];rfl
theorem Nm (h:i.op=4):B9 D key m i v=(m,0):=by unfold B9;rw [h];rfl
theorem Nn (h:i.op=5):B9 D key m i v=C0 m [v.getD 1 CE,v.getD 0 CE]:=by unfold B9;rw [h];rfl
theorem No (h:i.op=6):B9 D key m i v=C0 m [Ez key]:=by unfold B9;rw [h];rfl
theorem Np (h:i.op=7):B9 D key m i v=GR m:=by unfold B9;rw [h];rfl
theorem Iv (h:i.op=8∨i.op=9∨i.op=10∨i.op=11):B9 D key m i v=C0 m [Bx i.op (v.getD 0 CE).n (v.getD 1 CE).n]:=by
 unfold B9
 rcases h with h|h|h|h<;>(rw [h];rfl)
theorem M8 (h:i.op=12):B9 D key m i v=C0 m [P1 (Ew (v.getD 0 CE) (v.getD 1 CE))]:=by unfold B9;rw [h];rfl
theorem M9 (h:i.op=13):B9 D key m i v=C0 m [Ez ((v.getD 0 CE).b++(v.getD 1 CE).b)]:=by unfold B9;rw [h];rfl
theorem M_ (h:i.op=14):B9 D key m i v=C0 m [Db (v.getD 0 CE).b.size]:=by unfold B9;rw [h];rfl
theorem Nb (h:i.op=15):B9 D key m i v=C0 m [Db (ED (v.getD 0 CE).b (v.getD 1 CE).n)]:=by unfold B9;rw [h];rfl
theorem Nc (h:i.op=16):B9 D key m i v=C0 m [Ez (Fp (v.getD 0 CE).b (v.getD 1 CE).n (v.getD 2 CE).n)]:=by unfold B9;rw [h];rfl
theorem Nd (h:i.op=17):B9 D key m i v=C0 m [Ez (D.dig (v.getD 0 CE).n)]:=by unfold B9;rw [h];rfl
theorem Nf (h:i.op=18):B9 D key m i v=C0 m [Db (D.num (v.getD 0 CE).b)]:=by unfold B9;rw [h];rfl
theorem Ng (h:i.op=19):B9 D key m i v=({m with pos:=i.a},0):=by unfold B9;rw [h];rfl
theorem KW (h:i.op=20):B9 D key m i v=(if (v.getD 0 CE).n≠0 then {m with pos:=i.a} else m,0):=by unfold B9;rw [h];rfl
theorem Ni (h:i.op=21):B9 D key m i v=C0 m [m.g i.a.toNat]:=by unfold B9;rw [h];rfl
theorem Nj (h:i.op=22):B9 D key m i v=({m with g:=Ig m.g i.a.toNat (v.getD 0 CE)},0):=by unfold B9;rw [h];rfl
theorem Nk (h:i.op=23):B9 D key m i v=({m with told:=(DS m.told (v.getD 0 CE).b (v.getD 1 CE).b).2},(DS m.told (v.getD 0 CE).b (v.getD 1 CE).b).1):=by unfold B9;rw [h];rfl
theorem We {op:Int} {stk:List AP} (h:(Aw op stk).1≠0):(Aw op stk).2.1=stk:=by
 by_cases h1:stk.length<(Ba op).size
 ·rw [L8 h1]
 ·cases h2:EU (Ba op).data.toList (stk.drop (stk.length - (Ba op).size)) with
  |false=>rw [IS h1 h2]
  |true=>rw [L6 h1 h2] at h;exact absurd rfl h
theorem Dd {k:Nat} {x:AP} (h:v[k]?=some x):v.getD k CE=x:=by rw [List.getD_eq_getElem?_getD,h];rfl
theorem PT:GR m=({m with stk:=(E_ m.stk m.vals).2.1,vals:=(E_ m.stk m.vals).2.2},(E_ m.stk m.vals).1):=by
 unfold GR
 split
 ·rename_i h
  rw [h]
  cases m
  simp only at h
  subst h
  rfl
 ·rename_i x xs h
  rw [h]
  rfl
end
structure Eo (n:Int) (m:VM):Prop where
 ok:(∀ v∈m.stk,EQ v)∧∀ k,EQ (m.g k)
 len:m.stk.length≤16
 told:m.told.length≤40
 pos:0≤m.pos∧m.pos≤n
theorem Xw {stk vs:List AP} (h:(Be stk vs).1=0):(Be stk vs).2=stk++vs∧∀ v∈vs,EE v=false:=by
 unfold Be at h ⊢
 split at h
 ·cases h
 ·rename_i h1
  rw [if_neg h1]
  split at h
  ·cases h
  ·rename_i h2
   rw [if_neg h2]
   refine ⟨rfl,fun v hv=>?_⟩
   cases hb:EE v with
   |false=>rfl
   |true=>exact absurd (List.any_eq_true.2 ⟨v,hv,hb⟩) h1
theorem RX {v:AP} (h:EE v=false) (ht:v.t=true):v.b.size≤64:=by
 unfold EE at h
 rw [ht,Bool.true_and] at h
 have:=of_decide_eq_false h
 omega
theorem Et {n:Int} {m:VM} {vs:List AP} (hm:Eo n m) (h:(C0 m vs).2=0) (hv:∀ v∈vs,AE v.n∧(v.t=false→v.b.size≤64)):Eo n (C0 m vs).1:=by
 obtain ⟨h1,h2⟩:=Xw (stk:=m.stk) (vs:=vs) h
 refine ⟨⟨fun v hv'=>?_,hm.ok.2⟩,?_,hm.told,hm.pos⟩
 ·have hv2:v∈(Be m.stk vs).2:=hv'
  rw [h1] at hv2
  rcases List.mem_append.1 hv2 with h3|h3
  ·exact hm.ok.1 v h3
  ·refine ⟨(hv v h3).1,?_⟩
   cases ht:v.t with
   |false=>exact (hv v h3).2 ht
   |true=>exact RX (h2 v h3) ht
 ·exact Xv _ _ hm.len
theorem PU:(⟨#[]⟩:ByteArray).size≤64:=by decide
theorem II:AE 0:=by unfold AE;decide
theorem Md:EQ CE:=⟨II,PU⟩
theorem Hf {n:Int} (h:AE n):∀ v∈[Db n],AE v.n∧(v.t=false→v.b.size≤64):=by
 intro v hv
 rw [List.mem_singleton.1 hv]
 exact ⟨h,fun _=>PU⟩
theorem H6 (s:ByteArray):∀ v∈[Ez s],AE v.n∧(v.t=false→v.b.size≤64):=by
 intro v hv
 rw [List.mem_singleton.1 hv]
 exact ⟨II,fun h=>by cases h⟩
theorem Mc {v:AP} (h:EQ v):AE v.n∧(v.t=false→v.b.size≤64):=⟨h.1,fun _=>h.2⟩
theorem Mb {v:List AP} (h:∀ x∈v,EQ x) (k:Nat):EQ (v.getD k CE):=by
 rw [List.getD_eq_getElem?_getD]
 cases hk:v[k]? with
 |none=>exact Md
 |some x=>exact h x (Cb hk)
theorem RE (s:ByteArray) (i:Int):AE (ED s i):=by
 unfold ED
 split
 ·unfold AE;omega
 ·have:=UInt8.toNat_lt (s[i.toNat]?.getD 0)
  unfold AE
  omega
theorem T6 {D:A8} (hD:∀ s:ByteArray,AE (D.num s)) {key:ByteArray} {n:Int} {m:VM} {i:BC} {v:List AP} (hm:Eo n m) (hi:BG i n) (ha:AE i.a) (hv:∀ x∈v,EQ x) (h:(B9 D key m i v).2=0):Eo n (B9 D key m i v).1:=by
 have h0:=Mb hv 0
 have h1:=Mb hv 1
 have g1:=hi.1
 have g2:=hi.2.1
 have two:∀ {a b:AP},EQ a→EQ b→∀ x∈[a,b],AE x.n∧(x.t=false→x.b.size≤64):=by
  intro a b pa pb x hx
  rcases List.mem_cons.1 hx with rfl|hx
  ·exact Mc pa
  ·rw [List.mem_singleton.1 hx];exact Mc pb
 have one:∀ {a:AP},EQ a→∀ x∈[a],AE x.n∧(x.t=false→x.b.size≤64):=by
  intro a pa x hx
  rw [List.mem_singleton.1 hx];exact Mc pa
 have bit:∀ b:Bool,AE (if b then 1 else 0):=by intro b;cases b<;>(unfold AE;decide)
 rcases (show i.op=0∨i.op=1∨i.op=2∨i.op=3∨i.op=4∨i.op=5∨i.op=6∨i.op=7∨(i.op=8∨i.op=9∨i.op=10∨i.op=11)∨i.op=12∨i.op=13∨i.op=14∨i.op=15∨i.op=16∨i.op=17∨i.op=18∨i.op=19∨i.op=20∨i.op=21∨i.op=22∨i.op=23 by omega) with
  e|e|e|e|e|e|e|e|e|e|e|e|e|e|e|e|e|e|e|e|e
 ·rw [M6 e] at h ⊢;exact ⟨hm.ok,hm.len,hm.told,hm.pos⟩
 ·rw [M7 e] at h ⊢;exact Et hm h (Hf ha)
 ·rw [Nh e] at h ⊢;exact Et hm h (H6 _)
 ·rw [Nl e] at h ⊢;exact Et hm h (two h0 h0)
 ·rw [Nm e] at h ⊢;exact hm
 ·rw [Nn e] at h ⊢;exact Et hm h (two h1 h0)
 ·rw [No e] at h ⊢;exact Et hm h (H6 _)
 ·rw [Np e] at h ⊢
  unfold GR at h ⊢
  split at h
  ·exact Et hm h (Hf (by unfold AE;omega))
  ·rename_i x xs hx
   have hm2:Eo n {m with vals:=xs}:=⟨hm.ok,hm.len,hm.told,hm.pos⟩
   refine Et hm2 h fun y hy=>?_
   rcases List.mem_cons.1 hy with rfl|hy
   ·exact H6 x _ (List.mem_singleton.2 U)
   ·exact Hf (n:=1) (by unfold AE;omega) y hy
 ·rw [Iv e] at h ⊢;exact Et hm h (one (WB _ _ _))
 ·rw [M8 e] at h ⊢;exact Et hm h (Hf (bit _))
 ·rw [M9 e] at h ⊢;exact Et hm h (H6 _)
 ·rw [M_ e] at h ⊢;exact Et hm h (Hf (by have:=h0.2;unfold AE;omega))
 ·rw [Nb e] at h ⊢;exact Et hm h (Hf (RE _ _))
 ·rw [Nc e] at h ⊢;exact Et hm h (H6 _)
 ·rw [Nd e] at h ⊢;exact Et hm h (H6 _)
 ·rw [Nf e] at h ⊢;exact Et hm h (Hf (hD _))
 ·rw [Ng e] at h ⊢
  have:=hi.2.2.2.2.1 (.inl e)
  exact ⟨hm.ok,hm.len,hm.told,⟨this.1,this.2.1⟩⟩
 ·rw [KW e] at h ⊢
  have:=hi.2.2.2.2.1 (.inr e)
  split
  ·exact ⟨hm.ok,hm.len,hm.told,⟨this.1,this.2.1⟩⟩
  ·exact hm
 ·rw [Ni e] at h ⊢;exact Et hm h (one (hm.ok.2 _))
 ·rw [Nj e] at h ⊢
  refine ⟨⟨hm.ok.1,fun k=>?_⟩,hm.len,hm.told,hm.pos⟩
  show EQ (if k=i.a.toNat then v.getD 0 CE else m.g k)
  split
  ·exact h0
  ·exact hm.ok.2 k
 ·rw [Nk e] at h ⊢
  refine ⟨hm.ok,hm.len,?_,hm.pos⟩
  show (DS m.told (v.getD 0 CE).b (v.getD 1 CE).b).2.length≤40
  have:=hm.told
  unfold DS
  split
  ·exact this
  ·split
   ·exact this
   ·simp only [List.length_append,List.length_cons,List.length_nil];omega
theorem OV {D:A8} (hD:∀ s:ByteArray,AE (D.num s)) {key:ByteArray} {n:Int} {m:VM} {i:BC} (hm:Eo n m) (hi:BG i n) (ha:AE i.a) (h:(BF D key m i).2=0):Eo n (BF D key m i).1:=by
 by_cases hN:(Aw i.op m.stk).1≠0
 ·rw [La hN] at h;exact absurd h hN
 ·rw [Dl hN] at h ⊢
  obtain ⟨l1,l2,l3,l4⟩:=L7 (Classical.not_not.1 hN)
  exact T6 hD ⟨⟨fun v hv=>hm.ok.1 v (l4 v hv),hm.ok.2⟩,Nat.le_trans l2 hm.len,hm.told,hm.pos⟩ hi ha (fun x hx=>hm.ok.1 x (l3 x hx)) h
section
variable {D:A8} {p:List BC} {key:ByteArray} {m:VM} {i:BC}
theorem Mm (k:Nat) (h:¬ (m.pos<p.length∧m.halted=false)):CI D p key k m=(m,0):=by
 cases k<;>exact if_neg h
theorem Xk (h:m.pos<p.length∧m.halted=false):CI D p key 0 m=(m,3):=if_pos h
theorem Qa {k:Nat} (h:m.pos<p.length∧m.halted=false) (hi:p[m.pos.toNat]?=some i) (hw:(BF D key {m with pos:=m.pos+1} i).2≠0):CI D p key (k+1) m=BF D key {m with pos:=m.pos+1} i:=by
 unfold CI
 rw [if_pos h,hi]
 exact if_pos hw
theorem Qb {k:Nat} (h:m.pos<p.length∧m.halted=false) (hi:p[m.pos.toNat]?=some i) (hw:¬ (BF D key {m with pos:=m.pos+1} i).2≠0):CI D p key (k+1) m=CI D p key k (BF D key {m with pos:=m.pos+1} i).1:=by
 conv=>lhs;unfold CI
 rw [if_pos h,hi]
 exact if_neg hw
end
theorem T5 (n:Nat) (vals:List ByteArray):Eo n (Dw vals) where
 ok:=⟨fun v hv=>(by cases hv),fun _=>Md⟩
 len:=Nat.zero_le _
 told:=Nat.zero_le _
 pos:=⟨Int.le_refl 0,Int.natCast_nonneg n⟩
theorem V0 {xs:List BC} (h:Dx xs<0):∀ x∈xs,BG x xs.length:=by
 by_cases hl:xs.length≤40
 ·exact (Nt hl).1 h
 ·exfalso
  unfold Dx at h
  split at h
  ·omega
  ·rw [if_pos (by omega)] at h
   omega
theorem T7 {n:Int} {m:VM} (h:Eo n m) (hp:m.pos<n):Eo n {m with pos:=m.pos+1}:=⟨h.ok,h.len,h.told,⟨by have:=h.pos;show 0≤m.pos+1;omega,by show m.pos+1≤n;omega⟩⟩
def LD (P:Program) (name:String) (Q:Array Value→Prop):SP where
 P w F:=∃ g,P.globalNamed name=some g∧F g∧∃ cs,w.var? P name=some cs∧Q cs
 loc:=fun ⟨g,h1,h2,cs,h3,h4⟩ hk=>⟨g,h1,h2,cs,by
  unfold World.var? at h3 ⊢
  rw [h1] at h3 ⊢
  simp only [Option.bind_some] at h3 ⊢
  rw [hk g h2]
  exact h3,h4⟩
 mono:=fun ⟨g,h1,h2,h3⟩ hs=>⟨g,h1,hs g h2,h3⟩
def NE (A B:SP):SP where
 P w F:=A.P w F∧B.P w F
 loc:=fun ⟨a,b⟩ hk=>⟨SP.loc _ a hk,SP.loc _ b hk⟩
 mono:=fun ⟨a,b⟩ hs=>⟨SP.mono _ a hs,SP.mono _ b hs⟩
section
variable {w0 w w':World} {F0:AJ} {As Rs:List SP}
theorem Hd.after (H:Hd w0 F0 w As Rs) (ub:Ca none_ w w'):Hd w0 F0 w' As Rs:=by
 have h:Hd w0 F0 w' (BW True::As) Rs:=H.new ub (F':=none_) trivial (fun _ h=>h.elim)
 exact h.drop
theorem MS (h:Go.RowKit.Below w.heap.size w w'):Ca none_ w w':=⟨h.os,h.tape,h.output,h.size,fun k hk _=>h.block k hk⟩
theorem ZP (w:World) (k:Nat) (os:Array Obj):Ca none_ w (Sort.grow (w.drewN k) os):=⟨rfl,rfl,rfl,by simp [Sort.grow],fun i hi _=>by
 show (w.heap++os)[i]?=_
 rw [Array.getElem?_append_left hi]⟩
end
/-! ### Calls that were put off -/
def KV (P:Program) (f:FuncId) (args:List Value) (As Rs:List SP) (T:Value→List SP→Prop):Prop:=
 ∀ w F u,Hd w F w As Rs→CallsD P f args.toArray u w fun e u' w'=>u'=u∧Hy (fun v w'=>∃ Bs,T v Bs∧Hd w F w' Bs Rs) e w'
theorem N4 {P:Program} {n:Nat} {w:World} {f:FuncId} {fn:Func} {c:Code} {args:List Value} {u:FrameMode} {R:Ending→World→Prop} (hf:P.funcs[f]?=some fn) (hb:fn.body=some c) (hn:fn.ntmps=n) (hl:args.length≤n)
  (h:WC P c (bodyPost P fn R) n (HH 0 args) w):CallsD P f args.toArray u w fun e u' w'=>u'=u∧R e w':=by
 refine callsD_of_wp hf hb (h _ ⟨rfl,?_,?_⟩)
 ·simp only [Array.size_append,List.size_toArray,Array.size_replicate,hn]
  omega
 ·intro s v hs
  obtain ⟨_,h2⟩:=LZ args 0 s v hs
  have hlt:s<args.length:=by
   rcases Nat.lt_or_ge s args.length with h'|h'
   ·exact h'
   ·simp [List.getElem?_eq_none h'] at h2
  refine ⟨?_,by omega⟩
  have h3:args[s]?=some v:=by simpa using h2
  simp [Array.getD_eq_getD_getElem?,Array.getElem?_append,hlt]
  simpa [List.getElem?_eq_getElem hlt] using h3
theorem Jw {P:Program} {w0 w:World} {F0:AJ} {As Rs Cs Ss:List SP} {f:FuncId} {args:List Value} {u:FrameMode} {T:Value→List SP→Prop} (hc:KV P f args Cs Ss T) (H:Hd w0 F0 w (Cs++As) Rs) (hl:Fk w As Rs Ss):
  CallsD P f args.toArray u w fun e u' w'=>u'=u∧Hy (fun v w'=>∃ Bs,T v Bs∧Hd w0 F0 w' (Bs++As) Rs) e w':=by
 obtain ⟨Fc,h1,h2⟩:=H.frame hl
 refine (hc w Fc u h1).mono ?_
 rintro e u' w' ⟨hu,v,rfl,Bs,hT,hB⟩
 exact ⟨hu,v,rfl,Bs,hT,h2 w' Bs hB⟩
/-! ### Digits that are made once -/
def HF (n:Int):ByteArray:=⟨(Lib.itoa n).toArray⟩
def EF (n:Int) (c t:Nat):SP:=ex fun f:Value=>blk c [.int .u32 1,.int .i32 0,.int .u32 0,.int .u32 1,f,.string (HF n)] t
def El (p:Int×Nat):Int×Value:=(p.1,.pointer (some ⟨p.2,0,none⟩))
def DR (t:Nat) (kvs:List (Int×Nat)):SP:=BZ (kvs.map fun p=>EF p.1 p.2 t)
def Jz (t b:Nat):SP:=ex fun kvs:List (Int×Nat)=>BZ [D2 b (kvs.map El),DR t kvs]
section
variable {w0 w w':World} {F0:AJ} {As Rs:List SP} {t b:Nat}
theorem Hd.ex_out {α:Sort _} {A:α→SP} (H:Hd w0 F0 w (ex A::As) Rs):∃ a,Hd w0 F0 w (A a::As) Rs:=by
 obtain ⟨F,G,⟨F1,F2,h1,h2,h3,⟨a,ha⟩,s⟩,r,d,f,g,u⟩:=H
 exact ⟨a,F,G,⟨F1,F2,h1,h2,h3,ha,s⟩,r,d,f,g,u⟩
theorem Hd.ex_in {α:Sort _} {A:α→SP} (a:α) (H:Hd w0 F0 w (A a::As) Rs):Hd w0 F0 w (ex A::As) Rs:=H.turn fun _ h=>⟨a,h⟩
theorem SJ (H:Hd w0 F0 w (Jz t b::As) Rs):∃ kvs:List (Int×Nat),Hd w0 F0 w (D2 b (kvs.map El)::DR t kvs::As) Rs:=by
 obtain ⟨kvs,h⟩:=H.ex_out
 exact ⟨kvs,h.open_ (Bs:=[D2 b (kvs.map El),DR t kvs]) fun F hF=>hF⟩
theorem K9 (kvs:List (Int×Nat)) (H:Hd w0 F0 w (D2 b (kvs.map El)::DR t kvs::As) Rs):Hd w0 F0 w (Jz t b::As) Rs:=
 (Hd.shut (Bs:=[D2 b (kvs.map El),DR t kvs]) H fun F hF=>hF).ex_in kvs
theorem Sf (H:Hd w0 F0 w As Rs):Hd w0 F0 w (DR t []::As) Rs:=Hd.shut (Bs:=[]) H fun F hF=>hF
theorem SI {A:SP} (H:Hd w0 F0 w (A::D2 b []::As) Rs):Hd w0 F0 w (A::Jz t b::As) Rs:=by
 have h1:Hd w0 F0 w (D2 b []::A::As) Rs:=H.perm (List.Perm.swap _ _ _)
 have h2:=(Sf (t:=t) h1).perm (List.Perm.swap _ _ _)
 exact (K9 [] h2).perm (List.Perm.swap _ _ _)
theorem Za {A B C:SP} (H:Hd w0 F0 w (A::B::C::As) Rs):Hd w0 F0 w (C::A::B::As) Rs:=H.perm (((List.Perm.swap C B As).cons A).trans (List.Perm.swap C A _))
theorem Nq {n:Int}:∀ {kvs:List (Int×Nat)} {v:Value},Ep n (kvs.map El)=some v→∃ c,v=.pointer (some ⟨c,0,none⟩)∧(n,c)∈kvs
 |[],_,h=>by simp [Ep] at h
 |p::kvs,v,h=>by
  simp only [List.map_cons,Ep,El] at h
  split at h
  ·rename_i e
   refine ⟨p.2,(Option.some.inj h).symm,?_⟩
   rw [e]
   exact List.mem_cons_self ..
  ·obtain ⟨c,h1,h2⟩:=Nq h
   exact ⟨c,h1,List.mem_cons_of_mem _ h2⟩
theorem Nr {n:Int} {v:Value}:∀ {kvs:List (Int×Value)},Ep n kvs=none→Ep n (kvs++[(n,v)])=some v
 |[],_=>by simp [Ep]
 |p::kvs,h=>by
  simp only [List.cons_append,Ep] at h ⊢
  split at h
  ·cases h
  ·rename_i e
   rw [if_neg e]
   exact Nr h
theorem VW (kvs:List (Int×Nat)) (n:Int) (b:Nat):(kvs++[(n,b)]).map El=kvs.map El++[(n,.pointer (some ⟨b,0,none⟩))]:=by simp [El]
theorem Sh {kvs:List (Int×Nat)} {n:Int} {c:Nat} (hm:(n,c)∈kvs) (H:Hd w0 F0 w (DR t kvs::As) Rs):∃ rest:List (Int×Nat),Hd w0 F0 w (EF n c t::DR t rest::As) Rs∧∀ {w1:World} {F1:AJ} {w2:World} {Bs Rs':List SP},Hd w1 F1 w2 (EF n c t::DR t rest::Bs) Rs'→Hd w1 F1 w2 (DR t kvs::Bs) Rs':=by
 obtain ⟨s,u,rfl⟩:=List.append_of_mem hm
 have hp:((s++(n,c)::u).map fun p=>EF p.1 p.2 t).Perm (EF n c t::((s++u).map fun p=>EF p.1 p.2 t)):=by
  rw [List.map_append,List.map_cons,List.map_append]
  exact List.perm_middle
 refine ⟨s++u,?_,?_⟩
 ·have h1:Hd w0 F0 w (BZ (EF n c t::((s++u).map fun p=>EF p.1 p.2 t))::As) Rs:=H.turn fun F hF=>Cl.perm hp hF
  refine h1.open_ (Bs:=[EF n c t,DR t (s++u)]) fun F hF=>?_
  obtain ⟨F1,F2,a1,a2,a3,a,b⟩:=hF
  exact ⟨F1,F2,a1,a2,a3,a,F2,none_,fun _ h=>h,fun _ h=>h.elim,fun _ _ h=>h,b,trivial⟩
 ·intro w1 F1 w2 Bs Rs' H2
  refine Hd.shut (Bs:=[EF n c t,DR t (s++u)]) H2 fun F hF=>?_
  obtain ⟨F1,F2,a1,a2,a3,a,F3,F4,b1,b2,b3,b,_⟩:=hF
  exact Cl.perm hp.symm ⟨F1,F2,a1,a2,a3,a,Cl.mono b b1⟩
theorem Sg {kvs:List (Int×Nat)} {n:Int} {c:Nat} (H:Hd w0 F0 w (EF n c t::DR t kvs::As) Rs):Hd w0 F0 w (DR t (kvs++[(n,c)])::As) Rs:=by
 have hp:((kvs++[(n,c)]).map fun p=>EF p.1 p.2 t).Perm (EF n c t::(kvs.map fun p=>EF p.1 p.2 t)):=by
  rw [List.map_append,List.map_cons,List.map_nil]
  exact List.perm_append_singleton ..
 refine Hd.shut (Bs:=[EF n c t,DR t kvs]) H fun F hF=>?_
 obtain ⟨F1,F2,a1,a2,a3,a,F3,F4,b1,b2,b3,b,_⟩:=hF
 exact Cl.perm hp.symm ⟨F1,F2,a1,a2,a3,a,Cl.mono b b1⟩
end
section
variable {P:Program} {n:Nat} {l:BB} {w w0:World} {F0:AJ} {o:Oper} {x y:Operand} {t kt et:TypeId} {As Rs:List SP} {b:Nat} {kvs:List (Int×Value)} {v:Value}
theorem Ki (ho:o.op=.lookup t x y false) (hm:P.underlying t=some (.map kt et)) (hk:P.underlying kt=some (.int .i64)) {z:Value} (hz:C1 P et=some z) (hx:ev l x=some (.map (some b))) {k:Int} (hy:ev l y=some (.int .i64 k))
  (H:Hd w0 F0 w As Rs) (j:Nat) (hj:As[j]?=some (D2 b kvs)) (hv:(Ep k kvs).getD z=v):Bv P n l w o v w:=hv▸XI ho hm hk hz hx hy H j hj
end
def gl:SP:=NE (LD Tryz.prog "internal/strconv.uint64pow10" (fun cs=>cs=(Lib.pow10Tab.map fun z=>Value.int .u64 z).toArray)) (NE (LD Tryz.prog "strconv.ErrSyntax" (fun cs=>∃ tp p,cs=#[.iface tp p])) (LD Tryz.prog "strconv.ErrRange" (fun cs=>∃ tp p,cs=#[.iface tp p])))
def Gq (s:ByteArray):Int:=match Lib.parseIntB 64 s.data.toList with
 |.ok v=>if HF v=s then v else 0
 |_=>0
def dg:A8:=⟨HF,Gq⟩
abbrev BP (b:Nat):SP:=Jz 234 b
theorem H0 (s:ByteArray):AE (dg.num s):=by
 show AE (Gq s)
 unfold Gq
 split
 ·rename_i v h
  have:=Lib.parseIntB_bounds h
  split
  ·unfold AE;omega
  ·exact II
 ·exact II
theorem Tx (n:Int) (hn:AE n):Cn Tryz.prog 326 [.int .i64 n,.int .i64 10] [] [gl] (fun v Bs=>v=.string (dg.dig n)∧Bs=[]):=by
 intro w F H
 have htab:Lib.TabIs Tryz.prog w "internal/strconv.uint64pow10" .u64 Lib.pow10Tab:=H.factR (List.mem_cons_self ..) fun F h=>by
  obtain ⟨⟨g,h1,h2,cs,h3,rfl⟩,_⟩:=h
  exact h3
 refine (Go.Proofs.Tryz.strconv_FormatInt_10 n hn.1 hn.2 w htab).mono ?_
 rintro e w' ⟨rfl,k,os,rfl⟩
 exact ⟨_,rfl,[],⟨rfl,rfl⟩,H.after (ZP w k os)⟩
theorem Xc (s:ByteArray) (hs:s.size≤64) (v:Int) (h:Lib.parseIntB 64 s.data.toList=.ok v):Cn Tryz.prog 305 [.string s,.int .i64 10,.int .i64 64] [] [gl] (fun r Bs=>r=.tuple #[.int .i64 v,.nilIface]∧Bs=[]):=by
 intro w F H
 refine (Go.Proofs.Tryz.strconv_ParseInt_10_at64_ok s (by omega) v h w).mono ?_
 rintro e w' ⟨rfl,hw⟩
 refine ⟨_,rfl,[],⟨rfl,rfl⟩,?_⟩
 rcases hw with rfl|⟨t,rfl⟩
 ·exact H
 ·exact H.after (MS (Lib.bytesWorld_below ..))
theorem Xb (s:ByteArray) (hs:s.size≤64) (h:∀ v,Lib.parseIntB 64 s.data.toList≠.ok v):Cn Tryz.prog 305 [.string s,.int .i64 10,.int .i64 64] [] [gl] (fun r Bs=>∃ x te pe,r=.tuple #[.int .i64 x,.iface te pe]∧Bs=[]):=by
 intro w F H
 obtain ⟨tp,p,hS⟩:∃ tp p,w.var? Tryz.prog "strconv.ErrSyntax" =some #[.iface tp p]:=H.factR (List.mem_cons_self ..) fun F h=>by
  obtain ⟨_,⟨g,h1,h2,cs,h3,tp,p,rfl⟩,_⟩:=h
  exact ⟨tp,p,h3⟩
 obtain ⟨tq,q,hR⟩:∃ tp p,w.var? Tryz.prog "strconv.ErrRange" =some #[.iface tp p]:=H.factR (List.mem_cons_self ..) fun F h=>by
  obtain ⟨_,_,⟨g,h1,h2,cs,h3,tp,p,rfl⟩⟩:=h
  exact ⟨tp,p,h3⟩
 rcases hh:Lib.parseIntB 64 s.data.toList with v|_|_
 ·exact absurd hh (h v)
 ·refine (Go.Proofs.Tryz.strconv_ParseInt_10_at64_syntax_var s (by omega) (fun e he=>by rw [hh] at he;subst he;exact ⟨fun v=>nofun,nofun⟩) tp p w hS).mono ?_
  rintro e w' ⟨N,rfl,_,_,hb⟩
  exact ⟨_,rfl,[],⟨_,_,_,rfl,rfl⟩,H.after (MS hb)⟩
 ·refine (Go.Proofs.Tryz.strconv_ParseInt_10_at64_range_var s (by omega) hh tq q w hR).mono ?_
  rintro e w' ⟨N,rfl,_,_,hb⟩
  exact ⟨_,rfl,[],⟨_,_,_,rfl,rfl⟩,H.after (MS hb)⟩
theorem NU (n:Int) (hn:AE n):
    Cn Tryz.prog 304 [.int .i64 n] [] [gl] (fun v Bs=>v=.string (dg.dig n)∧Bs=[]):=by
 intro w0 F0 H
 refine enter Tryz.func304 U U (Nat.le_of_ble_eq_true U) (Ab (Ae (Ad U (Ac (Z (Ab (Ae (Ad U (sc (Tx n (by assumption)) H (lR 0 U l0) U U (Au Vd U U) ?_)))))))))
 rintro _ _ w ⟨rfl,rfl⟩ H
 exact Ad U (Ac (Z (An (Aq U U (Ak ⟨rfl,rfl⟩ H)))))
theorem Wt {s:ByteArray} (h:∀ v,Lib.parseIntB 64 s.data.toList≠.ok v):dg.num s=0:=by
 show Gq s=0
 unfold Gq
 split
 ·rename_i v hh
  exact absurd hh (h v)
 ·rfl
theorem Wu (s:ByteArray) (hs:s.size≤64):
    Cn Tryz.prog 275 [.string s] [] [gl] (fun v Bs=>v=.int .i64 (dg.num s)∧Bs=[]):=by
 intro w0 F0 H
 refine enter Tryz.func275 U U (Nat.le_of_ble_eq_true U) (Ab (Ae (Ad U (Ac (Z (Ab ?_))))))
 by_cases hok:∃ v,Lib.parseIntB 64 s.data.toList=.ok v
 ·refine Ae (Ad U ?_)
  obtain ⟨x0,hx0⟩:=hok
  have hxb:=Lib.parseIntB_bounds hx0
  have hx64:AE x0:=by unfold AE;omega
  refine sc (Xc s hs x0 hx0) H (lR 0 U l0) U U (Au Pg U U) ?_
  rintro _ _ w ⟨rfl,rfl⟩ H
  refine Ah 5 U (Ac (Z (Ab (Ab (Ae (Ad U (V U U (Qq U Ra U (.inl ⟨rfl,rfl⟩)) (Ah 2 U (sc (NU x0 (by assumption)) H (lR 0 U l0) U U (Au Pf U U) ?_)))))))))
  rintro _ _ w ⟨rfl,rfl⟩ H
  refine Ad U (V U U (Mu U U U) (Ad U (Ac (Z ?_))))
  refine Ax U (fun h1=>?_) (fun h1=>?_)
  ·refine Ab (Ae (Ad U (Ac (Z (An (Ay (Aq U U ?_)))))))
   have e:dg.num s=0:=by show Gq s=_;unfold Gq;rw [hx0];exact if_neg h1
   exact Ak ⟨by rw [e]<;>rfl,rfl⟩ H
  refine Av (Z (Ab (Ae (Ah 2 U (Ac (Z (An (Aq U U ?_))))))))
  have e:dg.num s=x0:=by show Gq s=_;unfold Gq;rw [hx0];exact if_pos (Classical.not_not.1 h1)
  exact Ak ⟨by rw [e]<;>rfl,rfl⟩ H
 refine Ae (Ad U (sc (Xb s hs (fun v h=>hok ⟨v,h⟩)) H (lR 0 U l0) U U (Au Pg U U) ?_))
 rintro _ _ w ⟨x0,te,pe,rfl,rfl⟩ H
 refine Ah 5 U (Ac (Z (Ab (Ab (Ae (Ad U (V U U (Qq U Ra U (.inr ⟨_,_,rfl,rfl⟩)) (Ah 6 U (Ac (Z (CG U (Ab (Ae (Ad U (Ac (Z (An (Ay (Aq U U ?_)))))))))))))))))))
 have e:dg.num s=0:=Wt (fun v h=>hok ⟨v,h⟩)
 exact Ak ⟨by rw [e]<;>rfl,rfl⟩ H
theorem KY (b:Bool):
    Cn Tryz.prog 187 [.bool b] [] [] (fun v Bs=>v=.int .u32 (if b=true then 1 else 0)∧Bs=[]):=by
 intro w0 F0 H
 refine enter Tryz.func187 U U (Nat.le_of_ble_eq_true U) (Ab (Ae (Ad U (Ac (Z (Ab (Ab (Ae (Ad U (Ac (Z ?_)))))))))))
 refine DQ (b:=b) U (fun h1=>?_) (fun h1=>?_)
 ·exact Ab (Ae (Ad U (Ac (Z (An (Ay (Aq U U (Ak ⟨by simp [h1],rfl⟩ H))))))))
 exact Av (Z (Ab (Ae (Ad U (Ac (Z (An (Aq U U (Ak ⟨by simp [h1],rfl⟩ H)))))))))
theorem MM (c:Nat) (d m:Int) (sm:Value) (md:Int) (fv:Value) (tx:ByteArray):
    Cn Tryz.prog 142 [.pointer (some ⟨c,3,none⟩),.bool true] [blk c [.int .u32 d,.int .i32 m,sm,.int .u32 md,fv,.string tx] 234] [] (fun v Bs=>v=.tuple #[]∧Bs=[blk c [.int .u32 d,.int .i32 m,sm,.int .u32 1,fv,.string tx] 234]):=by
 intro w0 F0 H
 refine enter Tryz.func142 U U (Nat.le_of_ble_eq_true U) (B3 (.e 0 (.e 1 (.e 2 (.e 3 (.m 4 (.m 5 .z)))))) (fun w=>∃ Ar,Hd w0 F0 w (Ar) []) mo (by kernel_rfl) (fun w H=>⟨_,H⟩) H (fun w H=>(At U (Ao U U U (fun w ⟨Ar,H⟩=>AH U U) (Ao U U U (fun w ⟨Ar,H⟩=>Aj U HK U) (At U (AR U (sc (KY true) H l0 U U (Au LS U U) ?_))))))))
 rintro _ _ w ⟨rfl,rfl⟩ H
 refine AI ⟨_,H⟩ (AR U (MD Lc U U U U H U (fun w H=>?_)))
 replace H:Hd _ _ _ [blk c [.int .u32 d,.int .i32 m,sm,.int .u32 1,fv,.string tx] 234] []:=H
 exact AI ⟨_,H⟩ (BM (DB U (Ak ⟨rfl,rfl⟩ H)))
theorem Q4 (c:Nat) (d m:Int) (sm:Value) (md:Int) (fv:Value) (tx:ByteArray):
    KV Tryz.prog 142 [.pointer (some ⟨c,0,none⟩),.bool true] [blk c [.int .u32 d,.int .i32 m,sm,.int .u32 md,fv,.string tx] 234] [] (fun v Bs=>v=.tuple #[]∧Bs=[blk c [.int .u32 1,.int .i32 m,sm,.int .u32 md,fv,.string tx] 234]):=by
 intro w0 F0 ufm H
 refine N4 Tryz.func142 U U (Nat.le_of_ble_eq_true U) (B3 (.e 0 (.e 1 (.e 2 (.e 3 (.m 4 (.m 5 .z)))))) (fun w=>∃ Ar,Hd w0 F0 w (Ar) []) mo (by kernel_rfl) (fun w H=>⟨_,H⟩) H (fun w H=>(At U (Ao U U U (fun w ⟨Ar,H⟩=>AH U U) (Ao U U U (fun w ⟨Ar,H⟩=>Aj U HK U) (At U (AR U (sc (KY true) H l0 U U (Au LS U U) ?_))))))))
 rintro _ _ w ⟨rfl,rfl⟩ H
 refine AI ⟨_,H⟩ (AR U (MD Lc U U U U H U (fun w H=>?_)))
 replace H:Hd _ _ _ [blk c [.int .u32 1,.int .i32 m,sm,.int .u32 md,fv,.string tx] 234] []:=H
 exact AI ⟨_,H⟩ (BM (DB U (Ak ⟨rfl,rfl⟩ H)))
theorem J0 (c:Nat) (m:Int) (sm:Value) (md:Int) (fv:Value) (tx:ByteArray):
    Cn Tryz.prog 144 [.pointer (some ⟨c,0,none⟩)] [] [blk c [.int .u32 0,.int .i32 m,sm,.int .u32 md,fv,.string tx] 234] (fun v Bs=>v=.bool false∧Bs=[]):=by
 intro w0 F0 H
 refine enter Tryz.func144 U U (Nat.le_of_ble_eq_true U) (Ab (Ae (Ad U (Ac (Z (Ab (Ae (Ad U (V U U (AH U U) (V U U (Aj U HK U) (V U U (Kh Ld U U (H.cellRI 0 U U)) (V U U (C9 U U U) (Ad U (Ac (Z (An (Aq U U ?_)))))))))))))))))
 replace H:Hd _ _ _ [] [blk c [.int .u32 0,.int .i32 m,sm,.int .u32 md,fv,.string tx] 234]:=H
 exact Ak ⟨rfl,rfl⟩ H
theorem VA (c:Nat) (m:Int) (sm:Value) (md:Int) (fv:Value) (tx:ByteArray):
    Cn Tryz.prog 144 [.pointer (some ⟨c,0,none⟩)] [] [blk c [.int .u32 1,.int .i32 m,sm,.int .u32 md,fv,.string tx] 234] (fun v Bs=>v=.bool true∧Bs=[]):=by
 intro w0 F0 H
 refine enter Tryz.func144 U U (Nat.le_of_ble_eq_true U) (Ab (Ae (Ad U (Ac (Z (Ab (Ae (Ad U (V U U (AH U U) (V U U (Aj U HK U) (V U U (Kh Ld U U (H.cellRI 0 U U)) (V U U (C9 U U U) (Ad U (Ac (Z (An (Aq U U ?_)))))))))))))))))
 replace H:Hd _ _ _ [] [blk c [.int .u32 1,.int .i32 m,sm,.int .u32 md,fv,.string tx] 234]:=H
 exact Ak ⟨rfl,rfl⟩ H
theorem T1 (c:Nat) (d:Int) (sm:Value) (md:Int) (fv:Value) (tx:ByteArray):
    Cn Tryz.prog 262 [.pointer (some ⟨c,1,none⟩)] [blk c [.int .u32 d,.int .i32 0,sm,.int .u32 md,fv,.string tx] 234] [] (fun v Bs=>v=.tuple #[]∧Bs=[blk c [.int .u32 d,.int .i32 1,sm,.int .u32 md,fv,.string tx] 234]):=by
 intro w0 F0 H
 refine enter Tryz.func262 U U (Nat.le_of_ble_eq_true U) (Ab (Ae (V U U (Kj N8 U U) (Ac (Z (Ab (Ab (Ae (Ad U (V U U (AH U U) (V U U (Aj U Ls U) (QU S_ U U U U H U (fun w H=>?_)))))))))))))
 replace H:Hd _ _ _ [blk c [.int .u32 d,.int .i32 1,sm,.int .u32 md,fv,.string tx] 234] []:=H
 exact Ac (Z (CG U (Ab (CG U (Ab (Ae (V U U (Kj N9 U U) (Ac (Z (Ae (Ad U (V U U (Qu U Rg Ri PY U (H.cellI 0 U U)) (V U U (Qs Ta U U) (Ac (Z (An (Ay (IZ U (Ak ⟨rfl,rfl⟩ H)))))))))))))))))))
theorem Pw (c:Nat) (d:Int) (sm:Value) (md:Int) (fv:Value) (tx:ByteArray):
    Cn Tryz.prog 241 [.pointer (some ⟨c,1,none⟩)] [blk c [.int .u32 d,.int .i32 0,sm,.int .u32 md,fv,.string tx] 234] [] (fun v Bs=>v=.tuple #[]∧Bs=[blk c [.int .u32 d,.int .i32 1,sm,.int .u32 md,fv,.string tx] 234]):=by
 intro w0 F0 H
 refine enter Tryz.func241 U U (Nat.le_of_ble_eq_true U) (Ae (Ad U (V U U (AH U U) (V U U (Aj U Oj U) (sc (T1 c d sm md fv tx) H l0 U U (Au UZ U U) ?_)))))
 rintro _ _ w ⟨rfl,rfl⟩ H
 refine Ac (DB U ?_)
 replace H:Hd _ _ _ [blk c [.int .u32 d,.int .i32 1,sm,.int .u32 md,fv,.string tx] 234] []:=H
 exact Ak ⟨rfl,rfl⟩ H
theorem Ua (c:Nat) (d:Int) (sm:Value) (md:Int) (fv:Value) (tx:ByteArray):
    Cn Tryz.prog 263 [.pointer (some ⟨c,1,none⟩)] [blk c [.int .u32 d,.int .i32 1,sm,.int .u32 md,fv,.string tx] 234] [] (fun v Bs=>v=.tuple #[]∧Bs=[blk c [.int .u32 d,.int .i32 0,sm,.int .u32 md,fv,.string tx] 234]):=by
 intro w0 F0 H
 refine enter Tryz.func263 U U (Nat.le_of_ble_eq_true U) (Ab (CG U (Ab (Ae (Ad U (V U U (AH U U) (V U U (Aj U Ls U) (V U U (Al U Zy U (H.cellI 0 U U)) (Ac (Z (Ab (Ae (Ad U (V U U (Qu U Rg Ri PY U (H.cellI 0 U U)) (V U U (Qs Tb U U) (Ac (Z (Ae (V U U (Kj N8 U U) (Ac (Z (Ab (Ae (Ad U (V U U (AH U U) (V U U (Aj U Ls U) (Yz Tc U U U U H U U (fun w H=>?_))))))))))))))))))))))))))))
 replace H:Hd _ _ _ [blk c [.int .u32 d,.int .i32 0,sm,.int .u32 md,fv,.string tx] 234] []:=H
 exact Ad U (Ac (Z (Ab (Ab (Ae (Ad U (V U U (C9 U U U) (Ac (Z (B2 U (Av (Z (Ae (V U U (Kj N9 U U) (Ac (DB U (Ak ⟨rfl,rfl⟩ H)))))))))))))))))
theorem Rh (c:Nat) (d:Int) (sm:Value) (md:Int) (fv:Value) (tx:ByteArray):
    KV Tryz.prog 242 [.pointer (some ⟨c,1,none⟩)] [blk c [.int .u32 d,.int .i32 1,sm,.int .u32 md,fv,.string tx] 234] [] (fun v Bs=>v=.tuple #[]∧Bs=[blk c [.int .u32 d,.int .i32 0,sm,.int .u32 md,fv,.string tx] 234]):=by
 intro w0 F0 ufm H
 refine N4 Tryz.func242 U U (Nat.le_of_ble_eq_true U) (Ae (Ad U (V U U (AH U U) (V U U (Aj U Oj U) (sc (Ua c d sm md fv tx) H l0 U U (Au U0 U U) ?_)))))
 rintro _ _ w ⟨rfl,rfl⟩ H
 refine Ac (DB U ?_)
 replace H:Hd _ _ _ [blk c [.int .u32 d,.int .i32 0,sm,.int .u32 md,fv,.string tx] 234] []:=H
 exact Ak ⟨rfl,rfl⟩ H
end Go.Proofs.YthgehekecfpikaaGreatDoor.X
