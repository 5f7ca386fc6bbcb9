/- WorkerTries: texts XF, XL, XL3, XU, XProg, XV, XV2, F1, XH, XT, XT2, XT3, XT4, XPair, XMer, XMer2, XProg2, XRec, XV3, V1, V2, V3, XV4, XV5, XG, V4, O1, joined by a program of ours; what nothing names is left out. -/
import Derived.Test.YthgehekecfpikaaGreatDoorWorkerTriesQ1
import Derived.Test.YthgehekecfpikaaGreatDoorProg
import Derived.KernelRfl
import Derived.Sort.Row
import Derived.Sort.Grow
import Derived.Sort.EncStr
import Derived.Lib.SlicesCompact
import Derived.WideLaws
import Derived.Sort.Walk0
import Derived.Defers
import Derived.Lib.LaidTab
import Derived.Lib.ItoaNum
import Derived.Lib.AppendIntMem
import Derived.Test.YthgehekecfpikaaGreatDoorShelf
set_option linter.unusedVariables false
set_option linter.unusedSimpArgs false
set_option maxHeartbeats 8000000
namespace Go.Proofs.YthgehekecfpikaaGreatDoor.X
open Go
theorem NJ:Ec Tryz.prog 106=some (#[.string ⟨#[]⟩,.string ⟨#[]⟩],#[(0,1),(1,1)]):=by kernel_rfl
theorem R_:Ec Tryz.prog 164=some (#[.slice none 0 0,.int .i64 0,.slice none 0 0,.slice none 0 0,.slice none 0 0,.int .i64 0,.int .i64 0,.int .i64 0,.slice none 0 0,.int .i64 0,.int .i64 0,.int .i64 0,.int .i64 0,.int .i64 0,.int .i64 0,.pointer none,.slice none 0 0],#[(0,12),(12,1),(13,1),(14,1),(15,1),(16,1)]):=by kernel_rfl
theorem Sa:Ec Tryz.prog 185=some (#[.slice none 0 0,.int .i64 0,.slice none 0 0,.slice none 0 0,.slice none 0 0,.int .i64 0,.int .i64 0,.int .i64 0,.slice none 0 0,.int .i64 0,.int .i64 0,.int .i64 0,.int .i64 0,.int .i64 0,.bool false,.slice none 0 0,.bool false,.int .i64 0,.int .i64 0,.bool false,.slice none 0 0,.bool false,.int .i64 0,.int .i64 0,.bool false,.slice none 0 0,.bool false,.int .i64 0,.int .i64 0,.bool false,.slice none 0 0,.bool false,.int .i64 0,.int .i64 0,.bool false,.slice none 0 0,.bool false,.int .i64 0,.int .i64 0,.bool false,.slice none 0 0,.bool false,.int .i64 0,.int .i64 0,.pointer none,.slice none 0 0],#[(0,12),(12,1),(13,1),(14,30),(44,1),(45,1)]):=by kernel_rfl
theorem JB:Ec Tryz.prog 223=some (#[.int .i64 0,.int .i64 0,.string ⟨#[]⟩],#[(0,1),(1,1),(2,1)]):=by kernel_rfl
theorem NK:Ec Tryz.prog 234=some (#[.int .u32 0,.int .i32 0,.int .u32 0,.int .u32 0,.nilFunc,.string ⟨#[]⟩],#[(0,3),(3,1),(4,1),(5,1)]):=by kernel_rfl
theorem Sd:Ec Tryz.prog 239=some (#[.int .i64 0,.int .i64 0,.int .i64 0,.int .i64 0],#[(0,1),(1,1),(2,1),(3,1)]):=by kernel_rfl
theorem Se:Ec Tryz.prog 253=some (#[.map none],#[(0,1)]):=by kernel_rfl
theorem Sf:Ec Tryz.prog 26=some (#[.slice none 0 0,.int .i64 0,.slice none 0 0,.slice none 0 0,.slice none 0 0,.int .i64 0,.int .i64 0,.int .i64 0,.slice none 0 0],#[(0,1),(1,1),(2,1),(3,1),(4,1),(5,1),(6,1),(7,1),(8,1)]):=by kernel_rfl
theorem Sg:Ec Tryz.prog 28=some (#[.slice none 0 0,.int .i64 0,.slice none 0 0,.slice none 0 0,.slice none 0 0,.int .i64 0,.int .i64 0,.int .i64 0,.slice none 0 0,.int .i64 0,.int .i64 0,.int .i64 0],#[(0,9),(9,1),(10,1),(11,1)]):=by kernel_rfl
theorem NL:Ec Tryz.prog 284=some (#[.bool false,.int .i64 0,.string ⟨#[]⟩],#[(0,1),(1,1),(2,1)]):=by kernel_rfl
theorem Sh:Ec Tryz.prog 288=some (#[.slice none 0 0,.string ⟨#[]⟩,.slice none 0 0,.int .i64 0,.int .i64 0,.int .i64 0,.bool false,.slice none 0 0,.bool false,.int .i64 0,.string ⟨#[]⟩,.bool false,.int .i64 0,.string ⟨#[]⟩,.bool false,.int .i64 0,.string ⟨#[]⟩,.bool false,.int .i64 0,.string ⟨#[]⟩,.bool false,.int .i64 0,.string ⟨#[]⟩,.bool false,.int .i64 0,.string ⟨#[]⟩,.bool false,.int .i64 0,.string ⟨#[]⟩,.bool false,.int .i64 0,.string ⟨#[]⟩,.slice none 0 0,.map none],#[(0,1),(1,1),(2,1),(3,1),(4,1),(5,1),(6,1),(7,1),(8,24),(32,1),(33,1)]):=by kernel_rfl
theorem Si:Ec Tryz.prog 322=some (#[.int .i64 0,.int .i64 0,.int .i64 0,.int .i64 0,.int .i64 0,.int .i64 0,.int .i64 0,.int .i64 0],#[(0,8)]):=by kernel_rfl
theorem Sj:Ec Tryz.prog 37=some (#[.int .i64 0,.int .i64 0,.int .i64 0,.int .i64 0,.int .i64 0,.slice none 0 0,.slice none 0 0],#[(0,1),(1,1),(2,1),(3,1),(4,1),(5,1),(6,1)]):=by kernel_rfl
theorem EI:Ec Tryz.prog 64=some (#[.int .i64 0,.int .i64 0,.int .i64 0,.int .i64 0,.int .i64 0,.int .i64 0,.int .i64 0,.int .i64 0,.slice none 0 0,.slice none 0 0],#[(0,1),(1,1),(2,1),(3,1),(4,1),(5,1),(6,1),(7,1),(8,1),(9,1)]):=by kernel_rfl
theorem SB:Tryz.prog.cellsOf 106=2:=by kernel_rfl
theorem SC:Tryz.prog.cellsOf 223=3:=by kernel_rfl
theorem SD:Tryz.prog.cellsOf 26=9:=by kernel_rfl
theorem SE:Tryz.prog.cellsOf 28=12:=by kernel_rfl
theorem Ts:Hc Tryz.prog 106 [⟨ "Key",9,0,false, "", "",0⟩,⟨ "Value",9,1,false, "", "",16⟩]:=⟨by kernel_rfl,by kernel_rfl,by kernel_rfl⟩
theorem Lo:Et Tryz.prog 186 (Extern.Atomic.storeT):=⟨_,Tryz.func186,by kernel_rfl,by kernel_rfl,by kernel_rfl,by kernel_rfl⟩
theorem Lp:Et Tryz.prog 188 (Extern.Atomic.loadT (.int .u32)):=⟨_,Tryz.func188,by kernel_rfl,by kernel_rfl,by kernel_rfl,by kernel_rfl⟩
theorem Oj:Et Tryz.prog 294 (fun _=>do mark .disable;pure Extern.Race.none_):=⟨_,Tryz.func294,by kernel_rfl,by kernel_rfl,by kernel_rfl,by kernel_rfl⟩
theorem Ty:Et Tryz.prog 295 (Extern.Atomic.casT (.int .i32)):=⟨_,Tryz.func295,by kernel_rfl,by kernel_rfl,by kernel_rfl,by kernel_rfl⟩
theorem Ok:Et Tryz.prog 296 (fun _=>do mark .enable;pure Extern.Race.none_):=⟨_,Tryz.func296,by kernel_rfl,by kernel_rfl,by kernel_rfl,by kernel_rfl⟩
theorem Tz:Et Tryz.prog 297 (Extern.Race.marked .acquire):=⟨_,Tryz.func297,by kernel_rfl,by kernel_rfl,by kernel_rfl,by kernel_rfl⟩
theorem TA:Et Tryz.prog 299 (Extern.Race.marked .releaseMerge):=⟨_,Tryz.func299,by kernel_rfl,by kernel_rfl,by kernel_rfl,by kernel_rfl⟩
theorem TB:Et Tryz.prog 300 (Extern.Atomic.update (Op.intArith .add) .i32 true):=⟨_,Tryz.func300,by kernel_rfl,by kernel_rfl,by kernel_rfl,by kernel_rfl⟩
theorem TC:Et Tryz.prog 316 (Extern.Atomic.loadT (.int .i64)):=⟨_,Tryz.func316,by kernel_rfl,by kernel_rfl,by kernel_rfl,by kernel_rfl⟩
theorem TD:Et Tryz.prog 317 (Extern.Atomic.casT (.int .i64)):=⟨_,Tryz.func317,by kernel_rfl,by kernel_rfl,by kernel_rfl,by kernel_rfl⟩
theorem Fg:Bm Tryz.prog 106 0=some 0:=by kernel_rfl
theorem HN:Bm Tryz.prog 106 1=some 1:=by kernel_rfl
theorem JQ:Bm Tryz.prog 164 0=some 0:=by kernel_rfl
theorem TN:Bm Tryz.prog 164 1=some 12:=by kernel_rfl
theorem Ot:Bm Tryz.prog 164 2=some 13:=by kernel_rfl
theorem Lz:Bm Tryz.prog 164 3=some 14:=by kernel_rfl
theorem JR:Bm Tryz.prog 164 4=some 15:=by kernel_rfl
theorem JS:Bm Tryz.prog 164 5=some 16:=by kernel_rfl
theorem JT:Bm Tryz.prog 181 0=some 0:=by kernel_rfl
theorem Ou:Bm Tryz.prog 181 1=some 1:=by kernel_rfl
theorem Hk:Bm Tryz.prog 185 0=some 0:=by kernel_rfl
theorem Ov:Bm Tryz.prog 185 1=some 12:=by kernel_rfl
theorem Ow:Bm Tryz.prog 185 2=some 13:=by kernel_rfl
theorem IJ:Bm Tryz.prog 185 3=some 14:=by kernel_rfl
theorem GP:Bm Tryz.prog 185 5=some 45:=by kernel_rfl
theorem HO:Bm Tryz.prog 208 1=some 0:=by kernel_rfl
theorem C9:Bm Tryz.prog 223 0=some 0:=by kernel_rfl
theorem Dm:Bm Tryz.prog 223 1=some 1:=by kernel_rfl
theorem EZ:Bm Tryz.prog 223 2=some 2:=by kernel_rfl
theorem LD:Bm Tryz.prog 228 0=some 0:=by kernel_rfl
theorem Oy:Bm Tryz.prog 230 1=some 0:=by kernel_rfl
theorem LE:Bm Tryz.prog 232 1=some 0:=by kernel_rfl
theorem LF:Bm Tryz.prog 234 0=some 0:=by kernel_rfl
theorem LG:Bm Tryz.prog 234 1=some 3:=by kernel_rfl
theorem JW:Bm Tryz.prog 234 2=some 4:=by kernel_rfl
theorem IM:Bm Tryz.prog 234 3=some 5:=by kernel_rfl
theorem TO:Bm Tryz.prog 239 0=some 0:=by kernel_rfl
theorem TP:Bm Tryz.prog 239 1=some 1:=by kernel_rfl
theorem Oz:Bm Tryz.prog 239 3=some 3:=by kernel_rfl
theorem DQ:Bm Tryz.prog 26 0=some 0:=by kernel_rfl
theorem HQ:Bm Tryz.prog 26 1=some 1:=by kernel_rfl
theorem HR:Bm Tryz.prog 26 2=some 2:=by kernel_rfl
theorem HS:Bm Tryz.prog 26 3=some 3:=by kernel_rfl
theorem HT:Bm Tryz.prog 26 4=some 4:=by kernel_rfl
theorem OA:Bm Tryz.prog 26 5=some 5:=by kernel_rfl
theorem OB:Bm Tryz.prog 26 6=some 6:=by kernel_rfl
theorem JX:Bm Tryz.prog 26 7=some 7:=by kernel_rfl
theorem HU:Bm Tryz.prog 26 8=some 8:=by kernel_rfl
theorem Hl:Bm Tryz.prog 284 0=some 0:=by kernel_rfl
theorem EM:Bm Tryz.prog 284 1=some 1:=by kernel_rfl
theorem FP:Bm Tryz.prog 284 2=some 2:=by kernel_rfl
theorem TQ:Bm Tryz.prog 288 1=some 1:=by kernel_rfl
theorem IN:Bm Tryz.prog 288 10=some 33:=by kernel_rfl
theorem JY:Bm Tryz.prog 288 2=some 2:=by kernel_rfl
theorem TR:Bm Tryz.prog 288 3=some 3:=by kernel_rfl
theorem HV:Bm Tryz.prog 288 4=some 4:=by kernel_rfl
theorem LH:Bm Tryz.prog 288 5=some 5:=by kernel_rfl
theorem OC:Bm Tryz.prog 288 6=some 6:=by kernel_rfl
theorem Gt:Bm Tryz.prog 288 7=some 7:=by kernel_rfl
theorem OD:Bm Tryz.prog 288 8=some 8:=by kernel_rfl
theorem JZ:Bm Tryz.prog 288 9=some 32:=by kernel_rfl
theorem C0:Bm Tryz.prog 28 0=some 0:=by kernel_rfl
theorem IO:Bm Tryz.prog 28 1=some 9:=by kernel_rfl
theorem IP:Bm Tryz.prog 28 2=some 10:=by kernel_rfl
theorem TT:Bm Tryz.prog 28 3=some 11:=by kernel_rfl
theorem OE:Bm Tryz.prog 319 2=some 0:=by kernel_rfl
theorem TU:Bm Tryz.prog 322 0=some 0:=by kernel_rfl
theorem GQ:Bm Tryz.prog 37 0=some 0:=by kernel_rfl
theorem TV:Bm Tryz.prog 37 1=some 1:=by kernel_rfl
theorem OF:Bm Tryz.prog 37 2=some 2:=by kernel_rfl
theorem OG:Bm Tryz.prog 37 5=some 5:=by kernel_rfl
theorem TW:Bm Tryz.prog 37 6=some 6:=by kernel_rfl
theorem Fh:Bm Tryz.prog 64 0=some 0:=by kernel_rfl
theorem LI:Bm Tryz.prog 64 1=some 1:=by kernel_rfl
theorem LJ:Bm Tryz.prog 64 2=some 2:=by kernel_rfl
theorem HW:Bm Tryz.prog 64 3=some 3:=by kernel_rfl
theorem OH:Bm Tryz.prog 64 4=some 4:=by kernel_rfl
theorem OI:Bm Tryz.prog 64 5=some 5:=by kernel_rfl
theorem OJ:Bm Tryz.prog 64 6=some 6:=by kernel_rfl
theorem OK:Bm Tryz.prog 64 7=some 7:=by kernel_rfl
theorem OL:Bm Tryz.prog 64 8=some 8:=by kernel_rfl
theorem OM:Bm Tryz.prog 64 9=some 9:=by kernel_rfl
theorem IS:(Tryz.prog.info? 181).map (·.size)=some 5:=by kernel_rfl
theorem Pb:(Tryz.prog.info? 284).map (·.size)=some 3:=by kernel_rfl
theorem UA:(Tryz.prog.info? 319).map (·.size)=some 1:=by kernel_rfl
theorem Pc:(Tryz.prog.info? 4).map (·.size)=some 1:=by kernel_rfl
theorem LT:AN Tryz.prog 105:=AR Tryz.func105 rfl rfl
theorem LU:AN Tryz.prog 106:=AR Tryz.func106 rfl rfl
theorem LV:AN Tryz.prog 107:=AR Tryz.func107 rfl rfl
theorem UI:AN Tryz.prog 108:=AR Tryz.func108 rfl rfl
theorem IT:AN Tryz.prog 109:=AR Tryz.func109 rfl rfl
theorem UJ:AN Tryz.prog 113:=AR Tryz.func113 rfl rfl
theorem Pf:AN Tryz.prog 118:=AR Tryz.func118 rfl rfl
theorem UK:AN Tryz.prog 120:=AR Tryz.func120 rfl rfl
theorem J3:AN Tryz.prog 123:=AR Tryz.func123 rfl rfl
theorem UL:AN Tryz.prog 124:=AR Tryz.func124 rfl rfl
theorem UM:AN Tryz.prog 125:=AR Tryz.func125 rfl rfl
theorem UN:AN Tryz.prog 126:=AR Tryz.func126 rfl rfl
theorem UO:AN Tryz.prog 128:=AR Tryz.func128 rfl rfl
theorem H0:AN Tryz.prog 129:=AR Tryz.func129 rfl rfl
theorem UP:AN Tryz.prog 131:=AR Tryz.func131 rfl rfl
theorem UQ:AN Tryz.prog 136:=AR Tryz.func136 rfl rfl
theorem UR:AN Tryz.prog 137:=AR Tryz.func137 rfl rfl
theorem US:AN Tryz.prog 138:=AR Tryz.func138 rfl rfl
theorem J4:AN Tryz.prog 142:=AR Tryz.func142 rfl rfl
theorem J5:AN Tryz.prog 144:=AR Tryz.func144 rfl rfl
theorem Pg:AN Tryz.prog 153:=AR Tryz.func153 rfl rfl
theorem LW:AN Tryz.prog 154:=AR Tryz.func154 rfl rfl
theorem UX:AN Tryz.prog 157:=AR Tryz.func157 rfl rfl
theorem LX:AN Tryz.prog 158:=AR Tryz.func158 rfl rfl
theorem Ph:AN Tryz.prog 159:=AR Tryz.func159 rfl rfl
theorem Pi:AN Tryz.prog 160:=AR Tryz.func160 rfl rfl
theorem UY:AN Tryz.prog 167:=AR Tryz.func167 rfl rfl
theorem UZ:AN Tryz.prog 168:=AR Tryz.func168 rfl rfl
theorem LY:AN Tryz.prog 169:=AR Tryz.func169 rfl rfl
theorem Pj:AN Tryz.prog 173:=AR Tryz.func173 rfl rfl
theorem U0:AN Tryz.prog 174:=AR Tryz.func174 rfl rfl
theorem Pk:AN Tryz.prog 175:=AR Tryz.func175 rfl rfl
theorem LZ:AN Tryz.prog 176:=AR Tryz.func176 rfl rfl
theorem Pl:AN Tryz.prog 177:=AR Tryz.func177 rfl rfl
theorem U1:AN Tryz.prog 178:=AR Tryz.func178 rfl rfl
theorem U2:AN Tryz.prog 18:=AR Tryz.func18 rfl rfl
theorem U3:AN Tryz.prog 180:=AR Tryz.func180 rfl rfl
theorem U4:AN Tryz.prog 184:=AR Tryz.func184 rfl rfl
theorem U5:AN Tryz.prog 185:=AR Tryz.func185 rfl rfl
theorem L0:AN Tryz.prog 187:=AR Tryz.func187 rfl rfl
theorem IU:AN Tryz.prog 19:=AR Tryz.func19 rfl rfl
theorem U6:AN Tryz.prog 195:=AR Tryz.func195 rfl rfl
theorem Pm:AN Tryz.prog 203:=AR Tryz.func203 rfl rfl
theorem Pn:AN Tryz.prog 204:=AR Tryz.func204 rfl rfl
theorem Po:AN Tryz.prog 205:=AR Tryz.func205 rfl rfl
theorem U7:AN Tryz.prog 206:=AR Tryz.func206 rfl rfl
theorem Pp:AN Tryz.prog 207:=AR Tryz.func207 rfl rfl
theorem U8:AN Tryz.prog 208:=AR Tryz.func208 rfl rfl
theorem H6:AN Tryz.prog 209:=AR Tryz.func209 rfl rfl
theorem U9:AN Tryz.prog 210:=AR Tryz.func210 rfl rfl
theorem U_:AN Tryz.prog 211:=AR Tryz.func211 rfl rfl
theorem Va:AN Tryz.prog 212:=AR Tryz.func212 rfl rfl
theorem Vb:AN Tryz.prog 213:=AR Tryz.func213 rfl rfl
theorem Pq:AN Tryz.prog 214:=AR Tryz.func214 rfl rfl
theorem Vc:AN Tryz.prog 215:=AR Tryz.func215 rfl rfl
theorem Pr:AN Tryz.prog 218:=AR Tryz.func218 rfl rfl
theorem L1:AN Tryz.prog 22:=AR Tryz.func22 rfl rfl
theorem Vd:AN Tryz.prog 224:=AR Tryz.func224 rfl rfl
theorem Ve:AN Tryz.prog 23:=AR Tryz.func23 rfl rfl
theorem Vf:AN Tryz.prog 243:=AR Tryz.func243 rfl rfl
theorem Vg:AN Tryz.prog 244:=AR Tryz.func244 rfl rfl
theorem Vh:AN Tryz.prog 245:=AR Tryz.func245 rfl rfl
theorem Vi:AN Tryz.prog 246:=AR Tryz.func246 rfl rfl
theorem Vj:AN Tryz.prog 247:=AR Tryz.func247 rfl rfl
theorem Vk:AN Tryz.prog 248:=AR Tryz.func248 rfl rfl
theorem Vl:AN Tryz.prog 249:=AR Tryz.func249 rfl rfl
theorem Vm:AN Tryz.prog 25:=AR Tryz.func25 rfl rfl
theorem Vn:AN Tryz.prog 250:=AR Tryz.func250 rfl rfl
theorem Vo:AN Tryz.prog 251:=AR Tryz.func251 rfl rfl
theorem Vp:AN Tryz.prog 262:=AR Tryz.func262 rfl rfl
theorem Vq:AN Tryz.prog 263:=AR Tryz.func263 rfl rfl
theorem Vr:AN Tryz.prog 264:=AR Tryz.func264 rfl rfl
theorem Ed:AN Tryz.prog 265:=AR Tryz.func265 rfl rfl
theorem FQ:AN Tryz.prog 266:=AR Tryz.func266 rfl rfl
theorem H7:AN Tryz.prog 267:=AR Tryz.func267 rfl rfl
theorem Vs:AN Tryz.prog 268:=AR Tryz.func268 rfl rfl
theorem J8:AN Tryz.prog 269:=AR Tryz.func269 rfl rfl
theorem L2:AN Tryz.prog 27:=AR Tryz.func27 rfl rfl
theorem Ps:AN Tryz.prog 270:=AR Tryz.func270 rfl rfl
theorem Vt:AN Tryz.prog 271:=AR Tryz.func271 rfl rfl
theorem Vu:AN Tryz.prog 272:=AR Tryz.func272 rfl rfl
theorem Vv:AN Tryz.prog 273:=AR Tryz.func273 rfl rfl
theorem Vw:AN Tryz.prog 274:=AR Tryz.func274 rfl rfl
theorem Vx:AN Tryz.prog 275:=AR Tryz.func275 rfl rfl
theorem Vy:AN Tryz.prog 276:=AR Tryz.func276 rfl rfl
theorem Pt:AN Tryz.prog 277:=AR Tryz.func277 rfl rfl
theorem H8:AN Tryz.prog 278:=AR Tryz.func278 rfl rfl
theorem Pu:AN Tryz.prog 279:=AR Tryz.func279 rfl rfl
theorem Vz:AN Tryz.prog 281:=AR Tryz.func281 rfl rfl
theorem VA:AN Tryz.prog 282:=AR Tryz.func282 rfl rfl
theorem J9:AN Tryz.prog 30:=AR Tryz.func30 rfl rfl
theorem VB:AN Tryz.prog 302:=AR Tryz.func302 rfl rfl
theorem VC:AN Tryz.prog 303:=AR Tryz.func303 rfl rfl
theorem Pv:AN Tryz.prog 304:=AR Tryz.func304 rfl rfl
theorem Pw:AN Tryz.prog 305:=AR Tryz.func305 rfl rfl
theorem Px:AN Tryz.prog 306:=AR Tryz.func306 rfl rfl
theorem Py:AN Tryz.prog 31:=AR Tryz.func31 rfl rfl
theorem H9:AN Tryz.prog 32:=AR Tryz.func32 rfl rfl
theorem VD:AN Tryz.prog 326:=AR Tryz.func326 rfl rfl
theorem L3:AN Tryz.prog 329:=AR Tryz.func329 rfl rfl
theorem VE:AN Tryz.prog 33:=AR Tryz.func33 rfl rfl
theorem VF:AN Tryz.prog 41:=AR Tryz.func41 rfl rfl
theorem Pz:AN Tryz.prog 51:=AR Tryz.func51 rfl rfl
theorem VG:AN Tryz.prog 53:=AR Tryz.func53 rfl rfl
theorem VH:AN Tryz.prog 56:=AR Tryz.func56 rfl rfl
theorem VI:AN Tryz.prog 60:=AR Tryz.func60 rfl rfl
theorem VJ:AN Tryz.prog 61:=AR Tryz.func61 rfl rfl
theorem VK:AN Tryz.prog 63:=AR Tryz.func63 rfl rfl
theorem J_:AN Tryz.prog 71:=AR Tryz.func71 rfl rfl
theorem Ib:AN Tryz.prog 87:=AR Tryz.func87 rfl rfl
theorem PC:AN Tryz.prog 88:=AR Tryz.func88 rfl rfl
theorem Gd:AN Tryz.prog 89:=AR Tryz.func89 rfl rfl
theorem L6:AN Tryz.prog 94:=AR Tryz.func94 rfl rfl
theorem PD:AN Tryz.prog 95:=AR Tryz.func95 rfl rfl
theorem VN:AN Tryz.prog 96:=AR Tryz.func96 rfl rfl
theorem VO:AN Tryz.prog 97:=AR Tryz.func97 rfl rfl
theorem VP:AN Tryz.prog 98:=AR Tryz.func98 rfl rfl
theorem mo:Tryz.prog.follows .mixedOrders=true:=by kernel_rfl
theorem Qa:(Tryz.prog.info? 228).map (fun i=>decide (i.size=0))=some false:=by kernel_rfl
theorem FF:C7 Tryz.prog 144=some (24,1,24):=by kernel_rfl
theorem Jg:C7 Tryz.prog 162=some (168,1,8):=by kernel_rfl
theorem FG:C7 Tryz.prog 22=some (35,1,24):=by kernel_rfl
theorem G3:C7 Tryz.prog 23=some (223,3,32):=by kernel_rfl
theorem G4:C7 Tryz.prog 235=some (5,1,1):=by kernel_rfl
theorem Dx:C7 Tryz.prog 24=some (3,1,8):=by kernel_rfl
theorem G5:C7 Tryz.prog 241=some (9,1,16):=by kernel_rfl
theorem B4:C7 Tryz.prog 282=some (284,3,32):=by kernel_rfl
theorem MR:C7 Tryz.prog 29=some (37,7,88):=by kernel_rfl
theorem BB:C7 Tryz.prog 35=some (106,2,32):=by kernel_rfl
theorem Jh:C7 Tryz.prog 53=some (64,10,112):=by kernel_rfl
theorem Zk:Gi Tryz.prog 106=some [(9,0,1),(9,1,1)]:=by kernel_rfl
theorem Zl:Gi Tryz.prog 223=some [(3,0,1),(3,1,1),(9,2,1)]:=by kernel_rfl
theorem Zm:Gi Tryz.prog 26=some [(22,0,1),(3,1,1),(23,2,1),(23,3,1),(23,4,1),(3,5,1),(3,6,1),(3,7,1),(24,8,1)]:=by kernel_rfl
theorem Zn:Gi Tryz.prog 28=some [(26,0,9),(3,9,1),(3,10,1),(3,11,1)]:=by kernel_rfl
theorem Cj:Ch Tryz.prog 106=some (true,2):=by kernel_rfl
theorem FI:Ch Tryz.prog 144=some (false,1):=by kernel_rfl
theorem DT:Ch Tryz.prog 161=some (false,1):=by kernel_rfl
theorem Jp:Ch Tryz.prog 162=some (false,1):=by kernel_rfl
theorem KT:Ch Tryz.prog 167=some (false,1):=by kernel_rfl
theorem ZR:Ch Tryz.prog 168=some (false,1):=by kernel_rfl
theorem D1:Ch Tryz.prog 2=some (false,1):=by kernel_rfl
theorem ZS:Ch Tryz.prog 21=some (false,1):=by kernel_rfl
theorem DU:Ch Tryz.prog 22=some (false,1):=by kernel_rfl
theorem Iv:Ch Tryz.prog 223=some (true,3):=by kernel_rfl
theorem Ep:Ch Tryz.prog 23=some (false,1):=by kernel_rfl
theorem E5:Ch Tryz.prog 24=some (false,1):=by kernel_rfl
theorem KU:Ch Tryz.prog 241=some (false,1):=by kernel_rfl
theorem Jr:Ch Tryz.prog 26=some (true,9):=by kernel_rfl
theorem DE:Ch Tryz.prog 28=some (true,12):=by kernel_rfl
theorem GE:Ch Tryz.prog 282=some (false,1):=by kernel_rfl
theorem Da:Ch Tryz.prog 284=some (true,3):=by kernel_rfl
theorem Js:Ch Tryz.prog 286=some (false,1):=by kernel_rfl
theorem AB:Ch Tryz.prog 3=some (false,1):=by kernel_rfl
theorem ET:Ch Tryz.prog 35=some (false,1):=by kernel_rfl
theorem KV:Ch Tryz.prog 37=some (true,7):=by kernel_rfl
theorem EU:Ch Tryz.prog 4=some (false,1):=by kernel_rfl
theorem FJ:Ch Tryz.prog 44=some (false,1):=by kernel_rfl
theorem ZT:Ch Tryz.prog 5=some (false,1):=by kernel_rfl
theorem E6:Ch Tryz.prog 64=some (true,10):=by kernel_rfl
theorem BV:Ch Tryz.prog 9=some (false,1):=by kernel_rfl
theorem Rx:Tryz.prog.underlying 370=some (.interface (Tryz.prog.methodsAt 370)):=by kernel_rfl
theorem E7:Tryz.prog.underlying 158=some (.int .u64):=by kernel_rfl
theorem Ju:Tryz.prog.underlying 161=some (.pointer 234):=by kernel_rfl
theorem ZW:Tryz.prog.underlying 162=some (.slice 168):=by kernel_rfl
theorem RA:Tryz.prog.underlying 167=some (.func #[] #[9] false):=by kernel_rfl
theorem ZX:Tryz.prog.underlying 168=some (.pointer 239):=by kernel_rfl
theorem RB:Tryz.prog.underlying 178=some (.pointer 181):=by kernel_rfl
theorem Jv:Tryz.prog.underlying 182=some (.array 6 181):=by kernel_rfl
theorem Iw:Tryz.prog.underlying 2=some (.int .i64):=by kernel_rfl
theorem RC:Tryz.prog.underlying 206=some (.int .u32):=by kernel_rfl
theorem Ej:Tryz.prog.underlying 22=some (.slice 35):=by kernel_rfl
theorem FK:Tryz.prog.underlying 23=some (.slice 223):=by kernel_rfl
theorem GH:Tryz.prog.underlying 235=some (.slice 5):=by kernel_rfl
theorem Ea:Tryz.prog.underlying 24=some (.slice 3):=by kernel_rfl
theorem RD:Tryz.prog.underlying 241=some (.slice 9):=by kernel_rfl
theorem Hw:Tryz.prog.underlying 270=some (.int .u64):=by kernel_rfl
theorem Hx:Tryz.prog.underlying 282=some (.slice 284):=by kernel_rfl
theorem RE:Tryz.prog.underlying 285=some (.array 8 284):=by kernel_rfl
theorem Jw:Tryz.prog.underlying 286=some (.map 2 161):=by kernel_rfl
theorem RF:Tryz.prog.underlying 29=some (.slice 37):=by kernel_rfl
theorem ZY:Tryz.prog.underlying 291=some (.pointer 322):=by kernel_rfl
theorem Dr:Tryz.prog.underlying 3=some (.int .i64):=by kernel_rfl
theorem ZZ:Tryz.prog.underlying 320=some (.array 8 319):=by kernel_rfl
theorem Z0:Tryz.prog.underlying 326=some (.pointer 319):=by kernel_rfl
theorem Db:Tryz.prog.underlying 35=some (.slice 106):=by kernel_rfl
theorem RG:Tryz.prog.underlying 362=some (.pointer 228):=by kernel_rfl
theorem G9:Tryz.prog.underlying 44=some (.pointer 164):=by kernel_rfl
theorem Hy:Tryz.prog.underlying 5=some (.int .u8):=by kernel_rfl
theorem RH:Tryz.prog.underlying 53=some (.slice 64):=by kernel_rfl
theorem Jx:Tryz.prog.underlying 75=some (.pointer 185):=by kernel_rfl
theorem CF:Tryz.prog.underlying 9=some (.string):=by kernel_rfl
theorem RJ:Tryz.prog.underlying 366=some .unsafePointer:=by kernel_rfl
theorem Dd:CY Tryz.prog 106=some (.agg #[.string ⟨#[]⟩,.string ⟨#[]⟩]):=by kernel_rfl
theorem K0:CY Tryz.prog 161=some (.pointer none):=by kernel_rfl
theorem K5:CY Tryz.prog 168=some (.pointer none):=by kernel_rfl
theorem K7:CY Tryz.prog 223=some (.agg #[.int .i64 0,.int .i64 0,.string ⟨#[]⟩]):=by kernel_rfl
theorem FL:CY Tryz.prog 24=some (.slice none 0 0):=by kernel_rfl
theorem RT:CY Tryz.prog 28=some (.agg #[.slice none 0 0,.int .i64 0,.slice none 0 0,.slice none 0 0,.slice none 0 0,.int .i64 0,.int .i64 0,.int .i64 0,.slice none 0 0,.int .i64 0,.int .i64 0,.int .i64 0]):=by kernel_rfl
theorem Do:CY Tryz.prog 284=some (.agg #[.bool false,.int .i64 0,.string ⟨#[]⟩]):=by kernel_rfl
theorem F7:CY Tryz.prog 3=some (.int .i64 0):=by kernel_rfl
theorem K8:CY Tryz.prog 35=some (.slice none 0 0):=by kernel_rfl
theorem Ng:CY Tryz.prog 37=some (.agg #[.int .i64 0,.int .i64 0,.int .i64 0,.int .i64 0,.int .i64 0,.slice none 0 0,.slice none 0 0]):=by kernel_rfl
theorem bD:CY Tryz.prog 44=some (.pointer none):=by kernel_rfl
theorem K9:CY Tryz.prog 5=some (.int .u8 0):=by kernel_rfl
theorem IA:CY Tryz.prog 64=some (.agg #[.int .i64 0,.int .i64 0,.int .i64 0,.int .i64 0,.int .i64 0,.int .i64 0,.int .i64 0,.int .i64 0,.slice none 0 0,.slice none 0 0]):=by kernel_rfl
theorem IB:CY Tryz.prog 9=some (.string ⟨#[]⟩):=by kernel_rfl
theorem Tw:Ni Tryz.prog 106 9:=⟨⟨_,_,Ts,by decide,by decide,rfl,rfl,rfl,rfl⟩,CF,BV⟩
def Ff {α:Type} (p:α→Bool) (xs:List α):Int:=match xs.findIdx? p with |some i=>(i:Int)|none=> -1
theorem Lq {α:Type} {p:α→Bool} {xs:List α} {k:Nat} {x:α} (h:∀ y∈xs.take k,p y=false) (hx:xs[k]?=some x) (hp:p x=true):Ff p xs=(k:Int):=by
 have:xs.findIdx? p=some k:=by
  rw [List.findIdx?_eq_some_iff_getElem]
  have hlt:k<xs.length:=by
   rcases Nat.lt_or_ge k xs.length with h'|h'
   ·exact h'
   ·simp [List.getElem?_eq_none h'] at hx
  refine ⟨hlt,by rw [List.getElem?_eq_getElem hlt] at hx;rw [Option.some.inj hx];exact hp,fun j hj=>?_⟩
  have:=h xs[j] (by rw [List.mem_take_iff_getElem];exact ⟨j,by omega,rfl⟩)
  simp [this]
 simp [Ff,this]
theorem JM {α:Type} {p:α→Bool} {xs:List α} (h:∀ y∈xs,p y=false):Ff p xs= -1:=by
 have:xs.findIdx? p=none:=by
  rw [List.findIdx?_eq_none_iff]
  exact h
 simp [Ff,this]
theorem Lr {α:Type} (p:α→Bool) (xs:List α):decide (0≤Ff p xs)=xs.any p:=by
 by_cases h:∃ y∈xs,p y=true
 ·have h1:xs.any p=true:=by simpa using h
  rw [h1,decide_eq_true_eq]
  unfold Ff
  cases hf:xs.findIdx? p with
  |none=>
   rw [List.findIdx?_eq_none_iff] at hf
   obtain ⟨y,hy,hp⟩:=h
   rw [hf y hy] at hp
   cases hp
  |some i=>simp
 ·have h':∀ y∈xs,p y=false:=fun y hy=>by
   cases hp:p y with
   |false=>rfl
   |true=>exact (h ⟨y,hy,hp⟩).elim
  rw [JM h']
  have h1:xs.any p=false:=by
   rw [List.any_eq_false]
   intro y hy
   simp [h' y hy]
  rw [h1]
  decide
theorem MY {α:Type} {p:α→Bool} {xs:List α} {k:Nat} {x:α} (h:∀ y∈xs.take k,p y=false) (hx:xs[k]?=some x) (hp:p x=false):∀ y∈xs.take (k+1),p y=false:=by
 intro y hy
 rw [List.take_add_one,hx] at hy
 simp at hy
 exact hy.elim (h y) (fun e=>e▸hp)
def cnt {α:Type} (p:α→Bool) (xs:List α):Nat:=(xs.filter p).length
theorem SW {α:Type} (p:α→Bool) (xs:List α) (x:α):cnt p (xs++[x])=cnt p xs+if p x then 1 else 0:=by
 unfold cnt
 rw [List.filter_append]
 by_cases h:p x<;>simp [h]
theorem NV {α:Type} (p:α→Bool) (xs:List α):cnt p xs≤xs.length:=List.length_filter_le p xs
theorem NW {α:Type} {p:α→Bool} {xs:List α} {k:Nat} {x:α} (hx:xs[k]?=some x):cnt p (xs.take (k+1))=cnt p (xs.take k)+if p x then 1 else 0:=by
 rw [List.take_add_one,hx,←SW]
 rfl
section
variable {w w0:World} {F0:AJ} {As Rs:List SP} {α:Type} [Inhabited α] {e1:α→Value}
theorem O3 {b t:Nat} {xs:List α} {rest:List Value} (H:Hd w0 F0 w (blk b (xs.map e1++rest) t::As) Rs):Sort.Holds e1 w b 0 xs.toArray:=by
 intro j hj
 simp only [List.size_toArray] at hj
 rw [Nat.zero_add]
 refine ⟨H.cell (List.mem_cons_self ..) ?_,H.free (List.mem_cons_self ..) j⟩
 rw [List.getElem?_append_left (by simpa using hj),List.getElem?_map,List.getElem?_eq_getElem hj]
 simp [hj]
theorem XM {xs ys:List α} {rest:List Value} (hl:ys.length=xs.length):Sort.putCells e1 0 ys.toArray (xs.map e1++rest).toArray=(ys.map e1++rest).toArray:=by
 apply Array.toList_inj.1
 apply List.ext_getElem?
 intro i
 unfold Sort.putCells
 rw [Array.toList_mapIdx,List.getElem?_mapIdx]
 simp only [List.size_toArray,Nat.zero_le,true_and,Nat.zero_add,Nat.sub_zero,List.getElem!_toArray]
 rcases Nat.lt_or_ge i ys.length with h|h
 ·rw [List.getElem?_append_left (by simpa using (hl▸h)),List.getElem?_append_left (by simpa using h),List.getElem?_map,List.getElem?_map,List.getElem?_eq_getElem h,List.getElem?_eq_getElem (by omega)]
  simp [h]
 ·rw [List.getElem?_append_right (by simp;omega),List.getElem?_append_right (by simpa using h)]
  simp only [List.length_map,hl]
  cases rest[i - xs.length]? with
  |none=>rfl
  |some v=>simp;omega
theorem NQ {b t n:Nat} {xs ys:List α} {rest:List Value} {os:Array Obj} (H:Hd w0 F0 w (blk b (xs.map e1++rest) t::As) Rs) (hl:ys.length=xs.length):
  Hd w0 F0 (Sort.grow (Sort.putRow e1 (Sort.ahead w n) b 0 ys.toArray) os) (blk b (ys.map e1++rest) t::As) Rs:=by
 refine H.write fun F hF=>?_
 have hb:b<w.heap.size:=by
  rcases Nat.lt_or_ge b w.heap.size with h|h
  ·exact h
  ·have:=hF.2
   rw [Array.getElem?_eq_none h] at this
   cases this
 have hh:∀ k,k<w.heap.size→(Sort.grow (Sort.putRow e1 (Sort.ahead w n) b 0 ys.toArray) os).heap[k]?=(w.heap.modify b (Sort.onCells (Sort.putCells e1 0 ys.toArray)))[k]?:=by
  intro k hk
  show ((w.heap.modify b (Sort.onCells (Sort.putCells e1 0 ys.toArray)))++os)[k]?=_
  rw [Array.getElem?_append_left (by simpa using hk)]
 refine ⟨⟨hF.1,?_⟩,rfl,rfl,rfl,?_,fun k hk hn=>?_⟩
 ·rw [hh b hb,Array.getElem?_modify,if_pos rfl,hF.2]
  simp only [Option.map_some,Sort.onCells,XM hl]
 ·show w.heap.size≤((w.heap.modify b (Sort.onCells (Sort.putCells e1 0 ys.toArray)))++os).size
  simp
 ·rw [hh k hk,Array.getElem?_modify,if_neg (by rintro rfl;exact hn hF.1)]
theorem Uc (w:World):Sort.grow w #[]=w:=by
 unfold Sort.grow
 simp
end
theorem Kj {α:Type} {e1:α→Value} (xs:List α):xs.flatMap (fun x=>[e1 x])=xs.map e1:=by
 induction xs with
 |nil=>rfl
 |cons x xs ih=>simp [ih]
section
variable {P:Program} {α:Type} [Inhabited α] {e1:α→Value} {h1:∀ x,∀ c∈[e1 x],c.oneCell'=true} {f:FuncId}
theorem SU {s:List α→List α} (hlen:∀ xs,(s xs).length=xs.length) (hnil:s []=[])
  (h0:∀ (p:Option Addr) (c:Nat) (w:World),Calls P f #[.slice p 0 c] w fun e w'=>e=.returned (.tuple #[])∧w'=w)
  (hc:∀ (b c:Nat) (xs:List α) (w:World),Sort.Holds e1 w b 0 xs.toArray→b<w.heap.size→xs.length≤1000000→Calls P f #[.slice (some ⟨b,0,none⟩) xs.length c] w fun e w'=>e=.returned (.tuple #[])∧∃ n os,w'=Sort.grow (Sort.putRow e1 (Sort.ahead w n) b 0 (s xs).toArray) os)
  (v:Value) (xs:List α) (hb:xs.length≤1000000):Cn P f [v] [Y (flat (fun x=>[e1 x]) 1 (by omega) (fun _=>rfl) h1) v xs] [] (fun _ Bs=>Bs=[Y (flat (fun x=>[e1 x]) 1 (by omega) (fun _=>rfl) h1) v (s xs)]):=by
 intro w F H
 obtain ⟨A,c,rfl,hle,hmax,hp⟩:=H.fA 0 rfl
 rcases Nat.eq_zero_or_pos xs.length with hx|hx
 ·obtain rfl:=List.eq_nil_of_length_eq_zero hx
  refine (h0 A c w).mono ?_
  rintro e w' ⟨rfl,rfl⟩
  exact ⟨_,rfl,_,rfl,by rw [hnil];exact H⟩
 ·obtain ⟨b,t,rest,rfl,hm,hle',hmax',hr,H'⟩:=H.toBlk hx
  rw [Kj] at H'
  have hbl:b<w.heap.size:=H'.fact (List.mem_cons_self ..) fun F hF=>by
   rcases Nat.lt_or_ge b w.heap.size with h|h
   ·exact h
   ·have:=hF.2
    rw [Array.getElem?_eq_none h] at this
    cases this
  refine (hc b c xs w (O3 H') hbl hb).mono ?_
  rintro e w' ⟨rfl,n,os,rfl⟩
  refine ⟨_,rfl,_,rfl,?_⟩
  have H2:=NQ (n:=n) (os:=os) H' (hlen xs)
  rw [←Kj] at H2
  exact H2.ofBlk (hlen xs) hle' hmax' hr
theorem ST {s:List α→List α} {z:α} (hlen:∀ xs,(s xs).length≤xs.length) (hnil:s []=[])
  (h0:∀ (p:Option Addr) (c:Nat) (w:World),Calls P f #[.slice p 0 c] w fun e w'=>e=.returned (.slice p 0 c)∧w'=w)
  (hc:∀ (b c:Nat) (xs:List α) (w:World),Sort.Holds e1 w b 0 xs.toArray→xs.length≤1000000→xs.length≤c→Calls P f #[.slice (some ⟨b,0,none⟩) xs.length c] w fun e w'=>e=.returned (.slice (some ⟨b,0,none⟩) (s xs).length c)∧∃ n,w'=Sort.putRow e1 (Sort.ahead w n) b 0 (s xs++List.replicate (xs.length - (s xs).length) z).toArray)
  (v:Value) (xs:List α) (hb:xs.length≤1000000):Cn P f [v] [Y (flat (fun x=>[e1 x]) 1 (by omega) (fun _=>rfl) h1) v xs] [] (fun u Bs=>Bs=[Y (flat (fun x=>[e1 x]) 1 (by omega) (fun _=>rfl) h1) u (s xs)]):=by
 intro w F H
 obtain ⟨A,c,rfl,hle,hmax,hp⟩:=H.fA 0 rfl
 rcases Nat.eq_zero_or_pos xs.length with hx|hx
 ·obtain rfl:=List.eq_nil_of_length_eq_zero hx
  refine (h0 A c w).mono ?_
  rintro e w' ⟨rfl,rfl⟩
  exact ⟨_,rfl,_,rfl,by rw [hnil];exact H⟩
 ·obtain ⟨b,t,rest,rfl,hm,hle',hmax',hr,H'⟩:=H.toBlk hx
  rw [Kj] at H'
  refine (hc b c xs w (O3 H') hb hle).mono ?_
  rintro e w' ⟨rfl,n,rfl⟩
  refine ⟨_,rfl,_,rfl,?_⟩
  have hl:=hlen xs
  have H2:=NQ (n:=n) (os:=#[]) H' (ys:=s xs++List.replicate (xs.length - (s xs).length) z) (by simp;omega)
  rw [Uc,List.map_append,List.append_assoc,←Kj (s xs)] at H2
  exact H2.ofBlk U (by omega) hmax' (by simp;omega)
end
theorem NZ {α:Type} [Inhabited α] [DecidableEq α] (xs:List α):(Lib.compact xs).length≤xs.length:=by
 unfold Lib.compact Lib.compactUpTo
 rw [List.length_map]
 exact Nat.le_trans (List.length_filter_le _ _) (by simp)
def Gw (x:ByteArray):List UInt8:=x.data.toList
def Jo (x:List UInt8):ByteArray:=⟨x.toArray⟩
def FY (xs:List ByteArray):List ByteArray:=((xs.map Gw).mergeSort fun x y=>decide (x≤y)).map Jo
def Gr (xs:List ByteArray):List ByteArray:=(Lib.compact (xs.map Gw)).map Jo
theorem O2 {w:World} {b:Nat} {xs:List ByteArray} (h:Sort.Holds Value.string w b 0 xs.toArray):Sort.Holds Go.Proofs.encStr w b 0 (xs.map Gw).toArray:=by
 intro j hj
 have hj':j<xs.length:=by simpa using hj
 have:=h j (by simpa using hj')
 simp only [List.getElem!_toArray] at this ⊢
 rw [getElem!_pos _ j (by simpa using hj')]
 rw [getElem!_pos _ j hj'] at this
 rw [List.getElem_map]
 have e:Go.Proofs.encStr (Gw xs[j])=Value.string xs[j]:=by simp [Go.Proofs.encStr,Gw]
 rw [e]
 exact this
theorem QB {w:World} {b:Nat} {zs:List (List UInt8)}:Sort.putRow Go.Proofs.encStr w b 0 zs.toArray=Sort.putRow Value.string w b 0 (zs.map Jo).toArray:=by
 unfold Sort.putRow
 congr 1
 funext c
 unfold Sort.putCells
 congr 1
 funext k x
 simp only [List.size_toArray,List.length_map,List.getElem!_toArray]
 split
 ·rename_i h
  have h':k - 0<zs.length:=by omega
  rw [getElem!_pos (zs.map Jo) _ (by simpa using h'),getElem!_pos zs _ h',List.getElem_map]
  rfl
 ·rfl
theorem WN {s:ByteArray}:s=(⟨#[]⟩:ByteArray)↔s.size=0:=by
 constructor
 ·rintro rfl;rfl
 ·intro h
  have:s.data=#[]:=Array.eq_empty_of_size_eq_zero h
  cases s
  simp at this
  subst this
  rfl
def BL (p:BG) (n:Int):Prop:=0≤p.op∧p.op≤23∧(p.op=1→p.s.size=0)∧(p.op=2→p.a=0∧p.s.size≤64)∧(p.op=19∨p.op=20→0≤p.a∧p.a≤n∧p.s.size=0)∧
 (p.op=21∨p.op=22→0≤p.a∧p.a≤7∧p.s.size=0)∧(¬ (p.op=1∨p.op=2∨p.op=19∨p.op=20∨p.op=21∨p.op=22)→p.a=0∧p.s.size=0)
instance (p:BG) (n:Int):Decidable (BL p n):=by unfold BL;infer_instance
def Ew (n:Int):BG→Bool:=fun p=>!decide (BL p n)
def Dz (xs:List BG):Int:=if 0≤Ff (Ew xs.length) (xs.take 40) then Ff (Ew xs.length) (xs.take 40) else if (40:Int)<xs.length then 40 else -1
theorem R8 {xs:List BG} {k:Nat} {x:BG} (hk:k<40) (hn:∀ y∈xs.take k,Ew xs.length y=false) (hx:xs[k]?=some x) (hb:¬ BL x xs.length):Dz xs=(k:Int):=by
 have:Ff (Ew xs.length) (xs.take 40)=(k:Int):=Lq (k:=k) (by rw [List.take_take,Nat.min_eq_left (by omega)];exact hn) (by rw [List.getElem?_take,if_pos hk];exact hx) (by simp [Ew,hb])
 unfold Dz
 rw [this,if_pos (by omega)]
theorem NI {xs:List BG} {k:Nat} (hk:k=min xs.length 40) (hn:∀ y∈xs.take k,Ew xs.length y=false):Dz xs=if (40:Int)<xs.length then 40 else -1:=by
 have:Ff (Ew xs.length) (xs.take 40)= -1:=JM (by
  intro y hy
  refine hn y ?_
  rw [hk]
  rcases Nat.le_total xs.length 40 with h|h
  ·rw [Nat.min_eq_left h,List.take_of_length_le (Nat.le_refl _)]
   rwa [List.take_of_length_le h] at hy
  ·rwa [Nat.min_eq_right h])
 unfold Dz
 rw [this,if_neg (by omega)]
theorem R9 {xs:List BG} {k:Nat} {x:BG} (hn:∀ y∈xs.take k,Ew xs.length y=false) (hx:xs[k]?=some x) (hb:BL x xs.length):∀ y∈xs.take (k+1),Ew xs.length y=false:=
 MY hn hx (by simp [Ew,hb])
def EO (xs:List BG):Bool:=decide (¬ (xs.length≤60∧∀ p∈xs,p.s.size≤100))
theorem Ub {xs:List BG} {k:Nat} {x:BG} (hx:xs[k]?=some x) (h:100<x.s.size):true=EO xs:=by
 have h3:¬ (xs.length≤60∧∀ p∈xs,p.s.size≤100):=fun h2=>absurd (h2.2 x (List.mem_of_getElem? hx)) (by omega)
 exact (decide_eq_true h3).symm
theorem OT {xs:List BG} {k:Nat} (hn:∀ y∈xs.take k,y.s.size≤100) (h:xs.length≤k∨60<xs.length):decide ((60:Int)<(xs.length:Int))=EO xs:=by
 refine decide_eq_decide.2 ⟨fun h1 h2=>by omega,fun h1=>?_⟩
 apply Classical.byContradiction
 intro h2
 refine h1 ⟨by omega,?_⟩
 rwa [List.take_of_length_le (by omega)] at hn
theorem Zx {xs:List BG} {k:Nat} {x:BG} (hn:∀ y∈xs.take k,y.s.size≤100) (hx:xs[k]?=some x) (h:x.s.size≤100):∀ y∈xs.take (k+1),y.s.size≤100:=by
 intro y hy
 rw [List.take_add_one,hx] at hy
 simp at hy
 rcases hy with hy|rfl
 ·exact hn y hy
 ·exact h
structure AQ where
 t:Bool
 n:Int
 b:ByteArray
def JJ (v:AQ):List Value:=[.bool v.t,.int .i64 v.n,.string v.b]
def AX:Kd AQ:=flat JJ 3 (by omega) (fun _=>rfl) (fun _ c h=>by
 simp only [JJ,List.mem_cons,List.not_mem_nil,or_false] at h
 rcases h with rfl|rfl|rfl<;>rfl)
def Dc (n:Int):AQ:=⟨false,n,⟨#[]⟩⟩
def ED (s:ByteArray):AQ:=⟨true,0,s⟩
def CM:AQ:=⟨false,0,⟨#[]⟩⟩
def EV (v:AQ):Prop:=AA v.n∧v.b.size≤64
def Be (op:Int):ByteArray:=
 if op=3∨op=4∨op=22 then ⟨#[101]⟩ else if op=5∨op=12 then ⟨#[101,101]⟩ else if op=8∨op=9∨op=10∨op=11 then ⟨#[110,110]⟩
 else if op=13∨op=23 then ⟨#[98,98]⟩ else if op=14∨op=18 then ⟨#[98]⟩ else if op=15 then ⟨#[98,110]⟩ else if op=16 then ⟨#[98,110,110]⟩ else if op=17∨op=20 then ⟨#[110]⟩ else ⟨#[]⟩
def Fy (c:UInt8) (v:AQ):Bool:=!((c==110 && v.t)||(c==98 && !v.t))
def EY:List UInt8→List AQ→Bool
 |c::cs,v::vs=>Fy c v && EY cs vs
 |_,_=>true
def Aw (op:Int) (stk:List AQ):Int×List AQ×List AQ:=
 if stk.length<(Be op).size then (1,stk,[])
 else if EY (Be op).data.toList (stk.drop (stk.length - (Be op).size)) then (0,stk.take (stk.length - (Be op).size),stk.drop (stk.length - (Be op).size)) else (2,stk,[])
def EJ (v:AQ):Bool:=v.t && decide (64<v.b.size)
def Bh (stk vs:List AQ):Int×List AQ:=
 if vs.any EJ then (4,stk) else if 16<stk.length+vs.length then (1,stk) else (0,stk++vs)
def DY (told:List Ap) (k v:ByteArray):Int×List Ap:=
 if 16<k.size then (4,told) else if 40≤told.length then (5,told) else (0,told++[⟨k,v⟩])
def BA (op a b:Int):AQ:=if op=8 then Dc (IntKind.i64.wrap (a+b)) else if op=9 then Dc (IntKind.i64.wrap (a - b)) else if op=10 then Dc (IntKind.i64.wrap (a*b)) else Dc (if a<b then 1 else 0)
def Qd (b:Bool):AQ:=Dc (if b then 1 else 0)
def EB (a b:AQ):Bool:=if a.t then b.t && decide (a.b=b.b) else !b.t && decide (a.n=b.n)
def EH (s:ByteArray) (i:Int):Int:=if i<0∨(s.size:Int)≤i then -1 else ((s[i.toNat]?.getD 0).toNat:Int)
def Fx (s:ByteArray) (f t:Int):ByteArray:=
 if min (max t 0) (s.size:Int)≤min (max f 0) (s.size:Int) then ⟨#[]⟩ else s.extract (min (max f 0) (s.size:Int)).toNat (min (max t 0) (s.size:Int)).toNat
structure VM where
 pos:Int
 halted:Bool
 stk:List AQ
 g:Nat→AQ
 told:List Ap
 vals:List ByteArray
structure AV where
 dig:Int→ByteArray
 num:ByteArray→Int
def Iq (g:Nat→AQ) (k:Nat) (v:AQ):Nat→AQ:=fun j=>if j=k then v else g j
def C2 (m:VM) (vs:List AQ):VM×Int:=({m with stk:=(Bh m.stk vs).2},(Bh m.stk vs).1)
def GV (m:VM):VM×Int:=
 match m.vals with
 |[]=>C2 m [Dc 0]
 |v::vs=>C2 {m with vals:=vs} [ED v,Dc 1]
def Cc (D:AV) (key:ByteArray) (m:VM) (i:BG) (v:List AQ):VM×Int:=
 let v0:=v.getD 0 CM;let v1:=v.getD 1 CM;let v2:=v.getD 2 CM
 if i.op=0 then ({m with halted:=true},0)
 else if i.op=1 then C2 m [Dc i.a]
 else if i.op=2 then C2 m [ED i.s]
 else if i.op=3 then C2 m [v0,v0]
 else if i.op=5 then C2 m [v1,v0]
 else if i.op=6 then C2 m [ED key]
 else if i.op=7 then GV m
 else if i.op=8∨i.op=9∨i.op=10∨i.op=11 then C2 m [BA i.op v0.n v1.n]
 else if i.op=12 then C2 m [Qd (EB v0 v1)]
 else if i.op=13 then C2 m [ED (v0.b++v1.b)]
 else if i.op=14 then C2 m [Dc v0.b.size]
 else if i.op=15 then C2 m [Dc (EH v0.b v1.n)]
 else if i.op=16 then C2 m [ED (Fx v0.b v1.n v2.n)]
 else if i.op=17 then C2 m [ED (D.dig v0.n)]
 else if i.op=18 then C2 m [Dc (D.num v0.b)]
 else if i.op=19 then ({m with pos:=i.a},0)
 else if i.op=20 then (if v0.n≠0 then {m with pos:=i.a} else m,0)
 else if i.op=21 then C2 m [m.g i.a.toNat]
 else if i.op=22 then ({m with g:=Iq m.g i.a.toNat v0},0)
 else if i.op=23 then ({m with told:=(DY m.told v0.b v1.b).2},(DY m.told v0.b v1.b).1)
 else (m,0)
def BK (D:AV) (key:ByteArray) (m:VM) (i:BG):VM×Int:=
 if (Aw i.op m.stk).1≠0 then (m,(Aw i.op m.stk).1) else Cc D key {m with stk:=(Aw i.op m.stk).2.1} i (Aw i.op m.stk).2.2
def CO (D:AV) (p:List BG) (key:ByteArray):Nat→VM→VM×Int
 |0,m=>if m.pos<p.length∧m.halted=false then (m,3) else (m,0)
 |n+1,m=>
  if m.pos<p.length∧m.halted=false then
   match p[m.pos.toNat]? with
   |some i=>if (BK D key {m with pos:=m.pos+1} i).2≠0 then BK D key {m with pos:=m.pos+1} i else CO D p key n (BK D key {m with pos:=m.pos+1} i).1
   |none=>(m,0)
  else (m,0)
def Dy (vals:List ByteArray):VM:=⟨0,false,[],fun _=>CM,[],vals⟩
def Bv (D:AV) (p:List BG) (key:ByteArray) (vals:List ByteArray) (fuel:Int):List Ap×Int:=
 if ¬ Dz p<0∨fuel<0 then ([],2)
 else if (CO D p key (min fuel 2000).toNat (Dy vals)).2≠0 then ([],(CO D p key (min fuel 2000).toNat (Dy vals)).2) else ((CO D p key (min fuel 2000).toNat (Dy vals)).1.told,0)
/-! ### Facts -/
theorem Nd (x:Int):AA (IntKind.i64.wrap x):=by
 unfold AA
 simp only [IntKind.wrap,IntKind.bits,IntKind.signed]
 simp
 omega
theorem WY (op a b:Int):EV (BA op a b):=by
 unfold BA
 split
 ·exact ⟨Nd _,(by decide:(⟨#[]⟩:ByteArray).size≤64)⟩
 ·split
  ·exact ⟨Nd _,(by decide:(⟨#[]⟩:ByteArray).size≤64)⟩
  ·split
   ·exact ⟨Nd _,(by decide:(⟨#[]⟩:ByteArray).size≤64)⟩
   ·refine ⟨?_,(by decide:(⟨#[]⟩:ByteArray).size≤64)⟩
    show AA (if a<b then 1 else 0)
    split<;>(unfold AA;omega)
def Bc (pv:Value) (key:ByteArray) (vv:Value) (fuel pos steps:Int) (halted:Bool) (sv:Value) (g:Nat→AQ) (tv mv:Value):List Value:=
 [pv,.string key,vv,.int .i64 fuel,.int .i64 pos,.int .i64 steps,.bool halted,sv,
  .bool (g 0).t,.int .i64 (g 0).n,.string (g 0).b,.bool (g 1).t,.int .i64 (g 1).n,.string (g 1).b,.bool (g 2).t,.int .i64 (g 2).n,.string (g 2).b,.bool (g 3).t,.int .i64 (g 3).n,.string (g 3).b,
  .bool (g 4).t,.int .i64 (g 4).n,.string (g 4).b,.bool (g 5).t,.int .i64 (g 5).n,.string (g 5).b,.bool (g 6).t,.int .i64 (g 6).n,.string (g 6).b,.bool (g 7).t,.int .i64 (g 7).n,.string (g 7).b,tv,mv]
section
variable {P:Program} {fn:Func} {R:Ending→World→Prop} {n:Nat} {l:BF} {w w':World} {v:Value} {t:TypeId}
theorem Yw {s:Tmp} {sz:Nat} {p:Addr} {cs:List Value} {a:Act} (hr:fn.results=#[.cell s t]) (ha:CG n l a) (hs:lk l s=some (.pointer (some p))) (ht:Ch P t=some (true,sz)) (hz:cs.length=sz) (hc:∀ j v,cs[j]?=some v→w.cell? (p.add j)=some v):(results fn a.tmps).run P w=.ok (.agg cs.toArray) w:=by
 have hl:=run_loadCells_list (P:=P) w p cs hc
 have hg:=(ha.get s _ hs).1
 simp [results,hr]
 rw [←Array.getD_eq_getD_getElem?,hg]
 simp [asAddr,loadVar,KE ht,ML ht,←hz,hl]
theorem FD {s:Tmp} {sz:Nat} {p:Addr} {cs:List Value} (hr:fn.results=#[.cell s t]) (hs:lk l s=some (.pointer (some p))) (ht:Ch P t=some (true,sz)) (hz:cs.length=sz) (hc:∀ j v,cs[j]?=some v→w.cell? (p.add j)=some v) (h:R (.returned (.agg cs.toArray)) w):WQ (bodyPost P fn R) .ret n l w:=
 fun a ha=>bodyPost_ret (Yw hr ha hs ht hz hc) ha.defers h
end
section
variable {P:Program} {n:Nat} {l:BF} {w w0:World} {F0:AJ} {o:Oper} {x y z:Operand} {t:TypeId} {As Rs:List SP}
theorem XR {tt:TypeId} {s:ByteArray} {k k':IntKind} {i j:Int} {r:ByteArray} (ho:o.op=.slice tt x (some y) (some z) none) (ht:P.underlying tt=some .string) (hx:ev l x=some (.string s)) (hy:ev l y=some (.int k i)) (hz:ev l z=some (.int k' j))
  (h0:0≤i) (h1:i≤j) (h2:j≤(s.size:Int)) (hr:s.extract i.toNat j.toNat=r):Bz P n l w o (.string r) w:=by
 intro a ha
 have hb:(Instr.sliceBounds false s.size s.size (some (.int k i)) (some (.int k' j)) none).run P w=.ok (i.toNat,j.toNat,s.size) w:=by
  have g0:0≤j:=by omega
  simp [Instr.sliceBounds,Instr.sliceBound,asIntOf,h0,h2,g0]
  intro hh
  omega
 simp [execOp,ho,ha.eval hx,ha.eval hy,ha.eval hz,Instr.sliceAt,Instr.slice,hb,run_underlying ht,←hr]
theorem FE {tt e:TypeId} {size len:Nat} {b off:Nat} {k:IntKind} {i:Int} {p:Nat} (ho:o.op=.indexAddr tt x y) (hu:P.underlying tt=some (.array len e)) (hi:(P.info? e).map (·.size)=some size)
  (hx:ev l x=some (.pointer (some ⟨b,off,none⟩))) (hy:ev l y=some (.int k i)) (h0:0≤i) (h1:i<(len:Int)) (hp:off+i.toNat*size=p):Bz P n l w o (.pointer (some ⟨b,p,none⟩)) w:=by
 obtain ⟨inf,h2,h3⟩:=Option.map_eq_some_iff.1 hi
 exact XV ho hu h2 h3 hx hy h0 h1 hp
theorem QG {t':TypeId} {u:Value} {b:Bool} (ho:o.op=.binOp .neq t x (.const .nilIface) t') (ht:P.underlying t=some (.interface (P.methodsAt t))) (hx:ev l x=some u) (hu:(u=.nilIface∧b=false)∨(∃ te pe,u=.iface te pe∧b=true)):Bz P n l w o (.bool b) w:=by
 intro a ha
 have hc:a.eval (.const .nilIface)=.nilIface:=rfl
 rcases hu with ⟨rfl,rfl⟩|⟨te,pe,rfl,rfl⟩
 ·have h:=run_equal_nil_nil (P:=P) w t ht
  simp [execOp,ho,ha.eval hx,hc,eqGuard,binOp,h]
 ·have h:=run_equal_held_nil (P:=P) w t te pe ht
  simp [execOp,ho,ha.eval hx,hc,eqGuard,binOp,h]
theorem QM {src dst e:TypeId} {p:Addr} {v:Value} (ho:o.op=.convert src dst x) (hs:P.underlying src=some (.pointer e)) (hd:P.underlying dst=some .unsafePointer) (hz:(P.info? e).map (fun i=>decide (i.size=0))=some false) (hx:ev l x=some (.pointer (some p))) (hc:w.cell? p=some v):Bz P n l w o (.pointer (some p)) w:=by
 intro a ha
 simp [execOp,ho,ha.eval hx,run_convert_to_unsafe hs hd hz hc]
theorem Xc {α:Type} {d:Kd α} {F:AJ} {A:Option Addr} {m c:Nat} {xs:List α} (h:(Y d (.slice A m c) xs).P w F) {i:Nat} (hi:i≤m):(Y d (.slice A i c) (xs.take i)).P w F:=by
 obtain ⟨A',m',c',e,hl,cs,F1,F2,s1,s2,dj,⟨r1,r2,r3,r4⟩,hrep⟩:=h
 simp only [List.cons.injEq,Value.slice.injEq,and_true] at e
 obtain ⟨rfl,rfl,rfl⟩:=e
 refine ⟨A,i,c,rfl,by rw [List.length_take];omega,cs.take (i*d.sz),F1,F2,s1,s2,dj,⟨by omega,r2,?_,?_⟩,hrep.take i⟩
 ·rw [List.length_take,r3]
  exact Nat.min_eq_left (Nat.mul_le_mul_right _ hi)
 ·rcases r4 with h0|⟨b,C,t,e,hb,hh,hs,ht⟩
  ·exact .inl h0
  ·refine .inr ⟨b,C,t,e,hb,hh,hs,?_⟩
   rw [←ht,List.take_take,Nat.min_eq_left (Nat.mul_le_mul_right _ hi)]
theorem Hd.preO {α:Type} {d:Kd α} {A:Option Addr} {m c:Nat} {xs:List α} (H:Hd w0 F0 w (Y d (.slice A m c) xs::As) Rs) (i:Nat) (hi:i≤m):Hd w0 F0 w (Y d (.slice A i c) (xs.take i)::As) Rs:=H.turn fun _ h=>Xc h hi
end
section
variable {w w0:World} {F0:AJ} {As Rs:List SP} {α:Type} {enc:α→List Value} {sz:Nat} {hp:0<sz} {hl:∀ x,(enc x).length=sz} {h1:∀ x,∀ c∈enc x,c.oneCell'=true} {xs:List α} {A:Option Addr} {m c:Nat}
theorem Hd.thX (H:Hd w0 F0 w As Rs) (hS:∀ F,(∀ A∈As,A.P w F)→(∀ R∈Rs,R.P w F)→(Z (flat enc sz hp hl h1) (.slice A m c) xs).P w F) {i:Nat} {x:α} (hx:xs[i]?=some x):Fb A:=H.read fun F hA hR=>Ly (hS F hA hR) hx
theorem Hd.elX (H:Hd w0 F0 w As Rs) (hS:∀ F,(∀ A∈As,A.P w F)→(∀ R∈Rs,R.P w F)→(Z (flat enc sz hp hl h1) (.slice A m c) xs).P w F) {i:Nat} {x:α} (hx:xs[i]?=some x) {q p:Nat} {u:Value} (hu:(enc x)[q]?=some u) (hpj:AP A+i*sz+q=p):w.cell? ⟨DW A,p,none⟩=some u:=
 H.read fun F hA hR=>Lw (hS F hA hR) hx hu hpj
theorem Hd.elsX (H:Hd w0 F0 w As Rs) (hS:∀ F,(∀ A∈As,A.P w F)→(∀ R∈Rs,R.P w F)→(Z (flat enc sz hp hl h1) (.slice A m c) xs).P w F) {i:Nat} {x:α} (hx:xs[i]?=some x) {p:Nat} (hpj:AP A+i*sz=p):∀ q v,(enc x)[q]?=some v→w.cell? ((⟨DW A,p,none⟩:Addr).add q)=some v:=by
 intro q v hq
 rw [Ek]
 exact H.elX hS hx hq (by rw [hpj])
end
section
variable {pv:Value} {key:ByteArray} {vv:Value} {fuel pos steps:Int} {halted:Bool} {sv:Value} {g:Nat→AQ} {tv mv:Value}
theorem PJ {k:Nat} (h:k<8):k=0∨k=1∨k=2∨k=3∨k=4∨k=5∨k=6∨k=7:=by omega
theorem YC {k:Nat} (h:k<8):(((Bc pv key vv fuel pos steps halted sv g tv mv).drop (8+k*3)).take 3)=JJ (g k):=by
 rcases PJ h with rfl|rfl|rfl|rfl|rfl|rfl|rfl|rfl<;>rfl
theorem YD {k:Nat} (h:k<8) (v:AQ):Es (Bc pv key vv fuel pos steps halted sv g tv mv) (8+k*3) (JJ v)=Bc pv key vv fuel pos steps halted sv (Iq g k v) tv mv:=by
 rcases PJ h with rfl|rfl|rfl|rfl|rfl|rfl|rfl|rfl<;>rfl
end
theorem Zz  :
    Cn Tryz.prog 210 [] [] [] (fun v Bs=>∃ b,v=.pointer (some ⟨b,0,none⟩)∧Bs=[blk b [.int .i64 0,.int .i64 0,.int .i64 0,.int .i64 0,.int .i64 0,.int .i64 0,.int .i64 0,.int .i64 0] 322]):=by
 intro w0 F0 H
 refine enter Tryz.func210 U U (Nat.le_of_ble_eq_true U) (Ab (Ae (Ad U (Ac (Aa (Ab (Ae (V U U (Co (parts:=[]) (vs:=[]) (cs:=[.int .i64 0,.int .i64 0,.int .i64 0,.int .i64 0,.int .i64 0,.int .i64 0,.int .i64 0,.int .i64 0]) U Si U U) (CA U U U U H (fun b1 w H=>(Ad U (Ac (Aa ?_)))))))))))))
 replace H:Hd _ _ _ [blk b1 [.int .i64 0,.int .i64 0,.int .i64 0,.int .i64 0,.int .i64 0,.int .i64 0,.int .i64 0,.int .i64 0] 322] []:=H
 exact An (Aq U U (Al ⟨_,rfl,rfl⟩ H))
theorem Zy (t:Nat):
    Cn Tryz.prog 249 [.pointer (some ⟨t,0,none⟩),.int .i64 0] [] [] (fun v Bs=>v=.pointer (some ⟨t,0,none⟩)∧Bs=[]):=by
 intro w0 F0 H
 refine enter Tryz.func249 U U (Nat.le_of_ble_eq_true U) (Ab (Ae (Ad U (Ac (Aa (Ab (Ab (Ae (Ad U (V U U (Dn U ZY U U) (Ah 2 U (V U U (Bd U U U) (Ah 3 U (V U U (CR U U U) (Ad U (Ac (Aa (B7 U (Av (Aa (Ab (Ae (Ah 2 U (V U U (AH U U) (V U U (Aj U TU U) (V U U (FE (p:=0) U ZZ UA U U (by omega) (by omega) U) (Ad U (Ac (Aa (An (Aq U U ?_)))))))))))))))))))))))))))))))
 replace H:Hd _ _ _ [] []:=H
 exact Al ⟨rfl,rfl⟩ H
theorem RY (nb:Nat) (n o:Int) (hn:0≤n∧n≤1099511627776) (ho:0≤o∧o≤1099511627776):
    Cn Tryz.prog 250 [.int .i64 o,.pointer (some ⟨nb,0,none⟩)] [] [blk nb [.int .i64 n] 3] (fun v Bs=>v=.int .i64 (min (o+n) 1099511627776)∧Bs=[]):=by
 intro w0 F0 H
 refine enter Tryz.func250 U U (Nat.le_of_ble_eq_true U) (Ab (Ae (Ad U (Ac (Aa (Ab (Ae (Ad U (V U U (Ak U AB U (H.cellRI 0 U U)) (V U U (AT (z:=o+n) U U U (AC (by omega) (by omega))) (V U U (Hr (z:=min (o+n) 1099511627776) U U U U) (Ad U (Ac (Aa (An (Aq U U ?_))))))))))))))))
 replace H:Hd _ _ _ [] [blk nb [.int .i64 n] 3]:=H
 exact Al ⟨rfl,rfl⟩ H
theorem VY (t:Nat) (c0 c1 c2 c3 c4 c5 c6 c7:Int):
    Cn Tryz.prog 281 [.pointer (some ⟨t,0,none⟩)] [] [blk t [.int .i64 c0,.int .i64 c1,.int .i64 c2,.int .i64 c3,.int .i64 c4,.int .i64 c5,.int .i64 c6,.int .i64 c7] 322] (fun v Bs=>v=.int .i64 c0∧Bs=[]):=by
 intro w0 F0 H
 refine enter Tryz.func281 U U (Nat.le_of_ble_eq_true U) (Ab (Ae (Ad U (Ac (Aa (Ab (Ae (Ad U (V U U (AH U U) (V U U (Aj U OE U) (V U U (Kt TC U U (H.cellRI 0 U U)) (Ad U (Ac (Aa (An (Aq U U ?_))))))))))))))))
 replace H:Hd _ _ _ [] [blk t [.int .i64 c0,.int .i64 c1,.int .i64 c2,.int .i64 c3,.int .i64 c4,.int .i64 c5,.int .i64 c6,.int .i64 c7] 322]:=H
 exact Al ⟨rfl,rfl⟩ H
theorem SA (t:Nat) (c0 c1 c2 c3 c4 c5 c6 c7:Int) (n:Int):
    Cn Tryz.prog 282 [.pointer (some ⟨t,0,none⟩),.int .i64 c0,.int .i64 n] [blk t [.int .i64 c0,.int .i64 c1,.int .i64 c2,.int .i64 c3,.int .i64 c4,.int .i64 c5,.int .i64 c6,.int .i64 c7] 322] [] (fun v Bs=>v=.bool true∧Bs=[blk t [.int .i64 n,.int .i64 c1,.int .i64 c2,.int .i64 c3,.int .i64 c4,.int .i64 c5,.int .i64 c6,.int .i64 c7] 322]):=by
 intro w0 F0 H
 refine enter Tryz.func282 U U (Nat.le_of_ble_eq_true U) (Ab (Ae (Ad U (Ac (Aa (Ab (Ae (Ad U (V U U (AH U U) (V U U (Aj U OE U) (Ah 2 U (Ra TD U U U U H U (fun w H=>?_)))))))))))))
 replace H:Hd _ _ _ [blk t [.int .i64 n,.int .i64 c1,.int .i64 c2,.int .i64 c3,.int .i64 c4,.int .i64 c5,.int .i64 c6,.int .i64 c7] 322] []:=H
 exact Ad U (Ac (Aa (An (Aq U U (Al ⟨rfl,rfl⟩ H)))))
theorem SJ (t:Nat) (c0 c1 c2 c3 c4 c5 c6 c7:Int) (nb:Nat) (n:Int) (hn:0≤n∧n≤1099511627776) (ho:0≤c0∧c0≤1099511627776):
    Cn Tryz.prog 248 [.pointer (some ⟨t,0,none⟩),.func (.func 250) #[] #[.pointer (some ⟨nb,0,none⟩)]] [blk t [.int .i64 c0,.int .i64 c1,.int .i64 c2,.int .i64 c3,.int .i64 c4,.int .i64 c5,.int .i64 c6,.int .i64 c7] 322] [blk nb [.int .i64 n] 3] (fun v Bs=>v=.int .i64 (min (c0+n) 1099511627776)∧Bs=[blk t [.int .i64 (min (c0+n) 1099511627776),.int .i64 c1,.int .i64 c2,.int .i64 c3,.int .i64 c4,.int .i64 c5,.int .i64 c6,.int .i64 c7] 322]):=by
 intro w0 F0 H
 refine enter Tryz.func248 U U (Nat.le_of_ble_eq_true U) (Ab (Ae (Ad U (Ac (Aa (Ab (Ab (Ae (Ad U (V U U (Dn U Z0 U U) (Ac (Aa (B7 U (Av (Aa (AS (BQ (σ:=Unit) (fun u=>[(0,.pointer (some ⟨t,0,none⟩)),(1,.func (.func 250) #[] #[.pointer (some ⟨nb,0,none⟩)])]) (fun u w=>(Hd w0 F0 w [blk t [.int .i64 c0,.int .i64 c1,.int .i64 c2,.int .i64 c3,.int .i64 c4,.int .i64 c5,.int .i64 c6,.int .i64 c7] 322] [blk nb [.int .i64 n] 3])) (fun u=>0) () ⟨rfl,rfl,trivial⟩ H ?_)))))))))))))))))
 rintro u w H
 refine AS (Ab (Ae (Ad U (sc (VY t c0 c1 c2 c3 c4 c5 c6 c7) H (lA 0 U (fun _ h=>h) l0) U U (At Vz U U) ?_))))
 rintro _ _ w ⟨rfl,rfl⟩ H
 refine Ad U (Ac (Aa (Ab (Ae (Ah 2 U (sc (RY nb n c0 hn ho) H (lR 0 U l0) U U (F_ (vs:=[.int .i64 c0]) (fs:=#[]) (cs:=#[.pointer (some ⟨nb,0,none⟩)]) Vn U U U) ?_))))))
 rintro _ _ w ⟨rfl,rfl⟩ H
 refine Ad U (Ac (Aa (Ab (Ae (Ah 2 U (V U U (Bb U U U) (Ad U ?_)))))))
 refine AK (d:=17) U (fun h1=>?_) (fun h1=>?_)
 ·refine Ah 5 U (Ac (Aa (Cw U (Ab (Ae (Ah 2 U (Ac (Aa (An (A0 (Az (A0 (Aq U U ?_)))))))))))))
  replace H:Hd w0 F0 w [blk t [.int .i64 (min (c0+n) 1099511627776),.int .i64 c1,.int .i64 c2,.int .i64 c3,.int .i64 c4,.int .i64 c5,.int .i64 c6,.int .i64 c7] 322] [blk nb [.int .i64 n] 3]:=by rw [h1];exact H
  exact Al ⟨rfl,rfl⟩ H
 refine Ah 3 U (sc (SA t c0 c1 c2 c3 c4 c5 c6 c7 (min (c0+n) 1099511627776)) H l0 U U (At VA U U) ?_)
 rintro _ _ w ⟨rfl,rfl⟩ H
 refine Ad U (Ac (Aa ?_))
 replace H:Hd _ _ _ [blk t [.int .i64 (min (c0+n) 1099511627776),.int .i64 c1,.int .i64 c2,.int .i64 c3,.int .i64 c4,.int .i64 c5,.int .i64 c6,.int .i64 c7] 322] [blk nb [.int .i64 n] 3]:=H
 exact Cw U (Ab (Ae (Ah 2 U (Ac (Aa (An (A0 (Az (A0 (Aq U U (Al ⟨rfl,rfl⟩ H)))))))))))
theorem Rn (t:Nat) (c0 c1 c2 c3 c4 c5 c6 c7:Int) (n:Int) (hn:0≤n∧n≤1099511627776) (ho:0≤c0∧c0≤1099511627776):
    Cn Tryz.prog 214 [.pointer (some ⟨t,0,none⟩),.int .i64 0,.int .i64 n] [blk t [.int .i64 c0,.int .i64 c1,.int .i64 c2,.int .i64 c3,.int .i64 c4,.int .i64 c5,.int .i64 c6,.int .i64 c7] 322] [] (fun v Bs=>v=.int .i64 (min (c0+n) 1099511627776)∧Bs=[blk t [.int .i64 (min (c0+n) 1099511627776),.int .i64 c1,.int .i64 c2,.int .i64 c3,.int .i64 c4,.int .i64 c5,.int .i64 c6,.int .i64 c7] 322]):=by
 intro w0 F0 H
 refine enter Tryz.func214 U U (Nat.le_of_ble_eq_true U) (Ab (Ae (CA U U U U H (fun b1 w H=>(Ad U (Ac (Aa ?_)))))))
 replace H:Hd _ _ _ [blk b1 [.int .i64 n] 3,blk t [.int .i64 c0,.int .i64 c1,.int .i64 c2,.int .i64 c3,.int .i64 c4,.int .i64 c5,.int .i64 c6,.int .i64 c7] 322] []:=H
 refine Ab (Ab (Ae (V U U (Ak U AB U (H.cellI 0 U U)) (V U U (Bd U U U) (Ad U ?_)))))
 refine AK (d:=9) U (fun h2=>?_) (fun h2=>?_)
 ·exfalso;omega
 refine V U U (Ak U AB U (H.cellI 0 U U)) (V U U (Cp U U U) (Ad U (Ac (Aa ?_))))
 refine Ax U (fun h3=>?_) (fun h3=>?_)
 ·exfalso;omega
 refine Av (Aa (Ab (Ae (Ah 2 U (sc (Zy t) H l0 U U (At Vl U U) ?_)))))
 rintro _ _ w ⟨rfl,rfl⟩ H
 refine V U U (Hq (fs:=#[]) (cs:=#[.pointer (some ⟨b1,0,none⟩)]) U U U) ?_
 replace H:=H.p1
 refine sc (SJ t c0 c1 c2 c3 c4 c5 c6 c7 b1 n hn ho) H (lA 0 U (fun _ h=>h) l0) U U (At Vk U U) ?_
 rintro _ _ w ⟨rfl,rfl⟩ H
 replace H:=H.h1 (A:=blk t [.int .i64 (min (c0+n) 1099511627776),.int .i64 c1,.int .i64 c2,.int .i64 c3,.int .i64 c4,.int .i64 c5,.int .i64 c6,.int .i64 c7] 322)
 refine Ad U (Ac (Aa (An (Aq U U ?_))))
 replace H:=H.k1
 exact Al ⟨rfl,rfl⟩ H
def Am {α:Type} (d:Kd α):Kd (Value×List α) where
 sz:=1
 O w F x cs:=cs=[x.1]∧(Bg d).O w F x.2 [x.1]
 R w F x cs:=cs=[x.1]∧(Bg d).R w F x.2 [x.1]
 O_loc h hk:=⟨h.1,(Bg d).O_loc h.2 hk⟩
 O_mono h hk:=⟨h.1,(Bg d).O_mono h.2 hk⟩
 R_loc h hk:=⟨h.1,(Bg d).R_loc h.2 hk⟩
 R_mono h hk:=⟨h.1,(Bg d).R_mono h.2 hk⟩
 O_R h:=⟨h.1,(Bg d).O_R h.2⟩
 len h:=by rw [h.1];rfl
 one h:=fun c hc=>(Bg d).one h.2 c (h.1▸hc)
 pos:=Nat.one_pos
section
variable {w w0:World} {F F0:AJ} {As Rs:List SP} {α:Type} {d:Kd α} {A:Option Addr} {m c:Nat} {us:List (Value×List α)}
theorem LR (h:(Z (Am d) (.slice A m c) us).P w F) {i:Nat} {x:Value×List α} (hx:us[i]?=some x):
  Fb A∧w.cell? ⟨DW A,AP A+i*1,none⟩=some x.1∧(Z d x.1 x.2).P w F:=by
 obtain ⟨b,off,cs,e,hl,hc,h1,h2⟩:=Jb h hx
 subst h1 e
 exact ⟨rfl,hc 0 x.1 rfl,h2⟩
theorem Ic (h:(Z (Am d) (.slice A m c) us).P w F) {i:Nat} {u:Value} {x:List α} (hx:us[i]?=some (u,x)):(Z d u x).P w F:=(LR h hx).2.2
theorem Hd.thRd (H:Hd w0 F0 w As Rs) (j:Nat) (hj:Rs[j]?=some (Z (Am d) (.slice A m c) us)) {i:Nat} {x:Value×List α} (hx:us[i]?=some x):Fb A:=H.factR (List.mem_of_getElem? hj) fun _ h=>(LR h hx).1
theorem Hd.elRd (H:Hd w0 F0 w As Rs) (j:Nat) (hj:Rs[j]?=some (Z (Am d) (.slice A m c) us)) {i:Nat} {u:Value} {x:List α} (hx:us[i]?=some (u,x)) {p:Nat} (hp:AP A+i*1=p):w.cell? ⟨DW A,p,none⟩=some u:=by
 subst hp
 exact H.factR (List.mem_of_getElem? hj) fun _ h=>(LR h hx).2.1
theorem Hd.nestR (H:Hd w0 F0 w As Rs) (j:Nat) (hj:Rs[j]?=some (Z (Am d) (.slice A m c) us)) {i:Nat} {u:Value} {x:List α} (hx:us[i]?=some (u,x)):∃ A' c',u=.slice A' x.length c'∧x.length≤c'∧c'≤9223372036854775807:=by
 refine H.factR (List.mem_of_getElem? hj) fun _ h=>?_
 obtain ⟨A',c',e,h1,h2,_⟩:=DZ (Ic h hx)
 exact ⟨A',c',e,h1,h2⟩
theorem Hd.pickR (is:List Nat) (H:Hd w0 F0 w As Rs):Hd w0 F0 w As (is.filterMap fun i=>Rs[i]?):=H.subR fun R hR=>by
 obtain ⟨i,_,hi⟩:=List.mem_filterMap.1 hR
 exact List.mem_of_getElem? hi
theorem Hd.dropR {R:SP} (H:Hd w0 F0 w As (R::Rs)):Hd w0 F0 w As Rs:=H.subR fun _ hR=>List.mem_cons_of_mem _ hR
theorem Hd.dupR {R:SP} (H:Hd w0 F0 w As Rs) (j:Nat) (hj:Rs[j]?=some R):Hd w0 F0 w As (R::Rs):=H.addR fun _ h=>h _ (List.mem_of_getElem? hj)
theorem Hd.sufR {xs:List α} (H:Hd w0 F0 w As Rs) (j:Nat) (hj:Rs[j]?=some (Z d (.slice A m c) xs)) {n:Nat} (hn:n≤m):Hd w0 F0 w As (Z d (.slice (DO A c n d.sz) (m - n) (c - n)) (xs.drop n)::Rs):=
 H.addR fun _ h=>Io (h _ (List.mem_of_getElem? hj)) hn
theorem QW:∀ {xs:List (List α)} {cs:List Value},AW (Bg d) w F xs cs→∃ us:List (Value×List α),us.map (·.2)=xs∧AW (Am d) w F us cs
 |[],_,h=>⟨[],rfl,h⟩
 |x::xs,_,⟨c,cs',e,h1,h2⟩=>by
  obtain ⟨us,rfl,hu⟩:=QW h2
  obtain ⟨A',n',c',rfl,h3⟩:=h1
  exact ⟨(.slice A' n' c',x)::us,rfl,_,_,e,⟨rfl,_,_,_,rfl,h3⟩,hu⟩
theorem Hd.heads {v:Value} {xs:List (List α)} (H:Hd w0 F0 w As Rs) (j:Nat) (hj:Rs[j]?=some (Z (Bg d) v xs)):∃ us:List (Value×List α),us.map (·.2)=xs∧Hd w0 F0 w As (Z (Am d) v us::Rs):=by
 obtain ⟨F,G,s,r,dj,f,g,u⟩:=H
 obtain ⟨A',n',c',e,h1,h2,h3,cs,h4,h5⟩:=r _ (List.mem_of_getElem? hj)
 obtain ⟨us,rfl,hu⟩:=QW h5
 refine ⟨us,rfl,F,G,s,?_,dj,f,g,u⟩
 intro R hR
 cases hR with
 |head=>exact ⟨A',n',c',e,by rw [←h1,List.length_map],h2,h3,cs,h4,hu⟩
 |tail _ hm=>exact r R hm
theorem QV:∀ {us:List (Value×List α)},(∀ p∈us,(Z d p.1 p.2).P w F)→AW (Am d) w F us (us.map (·.1))
 |[],_=>rfl
 |p::us,h=>⟨[p.1],us.map (·.1),rfl,⟨rfl,h p (List.mem_cons_self ..)⟩,QV fun q hq=>h q (List.mem_cons_of_mem _ hq)⟩
end
section
variable {P:Program} {ops:Array Oper} {Q:Exit→Act→World→Prop} {rest:List Oper} {n:Nat} {l:BF} {w0 w:World} {F0:AJ} {o:Oper} {As Rs:List SP} {x y:Operand} {t:TypeId}
theorem Ip {α:Type} {d:Kd α} {e bytes et b:Nat} {z u v':Value} {us:List (Value×List α)} {ys:List α}
  (hg:gd ops l o=some true) (hd:CQ n o.dst=true) (ho:o.op=.call { callee:=.builtin .append,args:=#[x,y],argTypes:=#[t,t] }) (hs:C7 P t=some (e,1,bytes)) (hz:CY P e=some z) (hzs:z.cells.size=1) (hb0:0<bytes)
  (hx:ev l x=some u) (hy:ev l y=some (.slice (some ⟨b,0,none⟩) 1 1)) (H:Hd w0 F0 w (Y (Am d) u us::blk b [v'] et::Y d v' ys::As) Rs) (hb:(us.length+1)*bytes≤140737488355328)
  (h:∀ u' w',Hd w0 F0 w' (Y (Am d) u' (us++[(v',ys)])::As) Rs→WL P ops Q rest n (CB l o.dst u') w'):WL P ops Q (o::rest) n l w:=by
 have H1:Hd w0 F0 w ([blk b [v'] et,Y d v' ys]++(Y (Am d) u us::As)) Rs:=H.perm ((List.Perm.swap _ _ _).trans ((List.Perm.swap _ _ _).cons _))
 have H2:=H1.shut (A:=B5 [blk b [v'] et,Y d v' ys]) (fun F hF=>hF)
 have H3:=H2.perm (List.Perm.swap _ _ _)
 refine YS (d:=Am d) (ys:=[(v',ys)]) hg hd ho hs hz hzs hb0 hx hy H3 hb U ?_ h
 rintro F ⟨F1,F2,h1,h2,h3,hbk,G1,G2,g1,g2,g3,hos,_⟩
 refine ⟨[v'],⟨trivial,.inr ⟨b,0,_,_,_,rfl,h1 b hbk.1,hbk.2,by simp⟩⟩,?_⟩
 exact ⟨F2,none_,[v'],[],h2,fun _ q=>q.elim,fun _ _ q=>q,rfl,⟨rfl,(Bg d).O_mono hos g1⟩,rfl⟩
end
theorem Mc (a b:ByteArray):Bl a b=decide (a.data.toList<b.data.toList):=Proofs.bytesLess_eq _ _
theorem GT (a:ByteArray):Bl a a=false:=by
 rw [Mc]
 exact decide_eq_false (List.lt_irrefl _)
theorem PL {a b c:ByteArray} (h1:Bl a b=true) (h2:Bl b c=true):Bl a c=true:=by
 rw [Mc] at *
 exact decide_eq_true (List.lt_trans (of_decide_eq_true h1) (of_decide_eq_true h2))
theorem Kh {a b:ByteArray} (h1:Bl a b=true):Bl b a=false:=by
 cases h:Bl b a with
 |false=>rfl
 |true=>have:=PL h1 h;rw [GT] at this;cases this
theorem Mb {a b:ByteArray} (h1:Bl a b=false) (h2:Bl b a=false):a=b:=by
 rw [Mc] at *
 have h1:=of_decide_eq_false h1
 have h2:=of_decide_eq_false h2
 exact toList_inj (List.le_antisymm h2 h1)
theorem Ge {a b c:ByteArray} (h1:Bl b a=false) (h2:Bl c b=false):Bl c a=false:=by
 cases h:Bl c a with
 |false=>rfl
 |true=>
  cases h3:Bl a b with
  |true=>have:=PL h h3;rw [this] at h2;cases h2
  |false=>
   have:=Mb h3 h1
   subst this
   rw [h] at h2
   cases h2
theorem PK {a b c:ByteArray} (h1:Bl a b=true) (h2:Bl c b=false):Bl a c=true:=by
 cases h:Bl a c with
 |true=>rfl
 |false=>have:=Ge h2 h;rw [this] at h1;cases h1
theorem VV {a b c:ByteArray} (h1:Bl b a=false) (h2:Bl b c=true):Bl a c=true:=by
 cases h:Bl a c with
 |true=>rfl
 |false=>have:=Ge h h1;rw [this] at h2;cases h2
def B6 (xs ys:List Ap):Prop:=xs.length=ys.length∧∀ k:ByteArray,xs.filter (fun p=>decide (p.key=k))=ys.filter (fun p=>decide (p.key=k))
theorem B6.refl (xs:List Ap):B6 xs xs:=⟨rfl,fun _=>rfl⟩
theorem B6.trans {xs ys zs:List Ap} (h1:B6 xs ys) (h2:B6 ys zs):B6 xs zs:=⟨h1.1.trans h2.1,fun k=>(h1.2 k).trans (h2.2 k)⟩
theorem B6.symm {xs ys:List Ap} (h1:B6 xs ys):B6 ys xs:=⟨h1.1.symm,fun k=>(h1.2 k).symm⟩
theorem B6.append {a b c d:List Ap} (h1:B6 a b) (h2:B6 c d):B6 (a++c) (b++d):=
 ⟨by rw [List.length_append,List.length_append,h1.1,h2.1],fun k=>by rw [List.filter_append,List.filter_append,h1.2,h2.2]⟩
theorem B6.mem {xs ys:List Ap} (h:B6 xs ys) {p:Ap} (hp:p∈xs):p∈ys:=by
 have:p∈xs.filter (fun q=>decide (q.key=p.key)):=List.mem_filter.2 ⟨hp,by simp⟩
 rw [h.2] at this
 exact (List.mem_filter.1 this).1
def CZ (xs:List Ap):Prop:=xs.Pairwise fun p q=>Bl q.key p.key=false
instance (xs:List Ap):Decidable (CZ xs):=by unfold CZ;infer_instance
def ins (p:Ap):List Ap→List Ap
 |[]=>[p]
 |q::l=>if Bl q.key p.key=true then q::ins p l else p::q::l
def srt:List Ap→List Ap
 |[]=>[]
 |p::l=>ins p (srt l)
theorem O7 {p q:Ap}:∀ {l:List Ap},q∈ins p l↔q=p∨q∈l
 |[]=>by simp [ins]
 |r::l=>by
  unfold ins
  split
  ·rw [List.mem_cons,O7,List.mem_cons]
   constructor<;>(rintro (h|h|h)<;>simp [h])
  ·simp
theorem O8 {p:Ap}:∀ {l:List Ap},CZ l→CZ (ins p l)
 |[],_=>by simp [ins,CZ]
 |q::l,h=>by
  have h':=List.pairwise_cons.1 h
  unfold ins
  split
  ·rename_i hlt
   refine List.pairwise_cons.2 ⟨fun r hr=>?_,O8 h'.2⟩
   rcases O7.1 hr with rfl|hr
   ·exact Kh hlt
   ·exact h'.1 r hr
  ·rename_i hlt
   have hlt:Bl q.key p.key=false:=by simpa using hlt
   refine List.pairwise_cons.2 ⟨fun r hr=>?_,h⟩
   rcases List.mem_cons.1 hr with rfl|hr
   ·exact hlt
   ·exact Ge hlt (h'.1 r hr)
theorem O9 {p:Ap}:∀ {l:List Ap},B6 (p::l) (ins p l)
 |[]=>B6.refl _
 |q::l=>by
  unfold ins
  split
  ·rename_i hlt
   have hne:p.key≠q.key:=fun e=>by rw [e,GT] at hlt;cases hlt
   have h1:B6 (p::q::l) (q::p::l):=by
    refine ⟨by simp,fun k=>?_⟩
    by_cases hp:p.key=k
    ·have:¬ q.key=k:=fun e=>hne (hp.trans e.symm)
     simp [hp,this]
    ·simp [List.filter_cons,hp]
   exact h1.trans (B6.append (B6.refl [q]) (O9 (p:=p) (l:=l)))
  ·exact B6.refl _
theorem Jl:∀ l:List Ap,CZ (srt l)
 |[]=>List.Pairwise.nil
 |_::l=>O8 (Jl l)
theorem Gh:∀ l:List Ap,B6 l (srt l)
 |[]=>B6.refl _
 |p::l=>(B6.append (B6.refl [p]) (Gh l)).trans O9
theorem Qi:∀ {xs ys:List Ap},CZ xs→CZ ys→B6 xs ys→xs=ys
 |[],ys,_,_,h=>(List.eq_nil_of_length_eq_zero h.1.symm).symm
 |x::xs,[],_,_,h=>by cases h.1
 |x::xs,y::ys,hx,hy,h=>by
  have hx':=List.pairwise_cons.1 hx
  have hy':=List.pairwise_cons.1 hy
  have hk:x.key=y.key:=by
   refine Mb ?_ ?_
   ·rcases List.mem_cons.1 (h.mem (List.mem_cons_self ..):x∈y::ys) with e|hm
    ·rw [e,GT]
    ·exact hy'.1 x hm
   ·rcases List.mem_cons.1 (h.symm.mem (List.mem_cons_self ..):y∈x::xs) with e|hm
    ·rw [e,GT]
    ·exact hx'.1 y hm
  have he:=h.2 x.key
  rw [List.filter_cons_of_pos (by simp),List.filter_cons_of_pos (by simp [hk])] at he
  obtain ⟨rfl,_⟩:=List.cons.inj he
  rw [Qi hx'.2 hy'.2 ⟨by simpa using h.1,fun k=>?_⟩]
  have hk2:=h.2 k
  by_cases hxk:x.key=k
  ·rw [List.filter_cons_of_pos (by simp [hxk]),List.filter_cons_of_pos (by simp [hxk])] at hk2
   exact (List.cons.inj hk2).2
  ·rw [List.filter_cons_of_neg (by simp [hxk]),List.filter_cons_of_neg (by simp [hxk])] at hk2
   exact hk2
theorem Jk {xs ys:List Ap} (h:B6 xs ys) (ho:CZ ys):ys=srt xs:=Qi ho (Jl xs) (h.symm.trans (Gh xs))
theorem Rj {xs:List Ap} (ho:CZ xs):srt xs=xs:=(Jk (B6.refl xs) ho).symm
theorem Zi {xs ys:List Ap} (h:B6 xs ys):srt xs=srt ys:=(Jk (h.trans (Gh ys)) (Jl ys)).symm
theorem Gg (xs:List Ap):(srt xs).length=xs.length:=(Gh xs).1.symm
def CV (xs ys:List Ap) (f:Nat→Nat):Prop:=ys.length=xs.length∧∀ t,ys[t]?=xs[f t]?
def E4 (a b n t:Nat):Nat:=if a≤t∧t<a+n then t+(b - a) else if b≤t∧t<b+n then t - (b - a) else t
def Bn (a m b t:Nat):Nat:=if a≤t∧t<a+(b - m) then t+(m - a) else if a+(b - m)≤t∧t<b then t - (b - m) else t
theorem KX (xs:List Ap) {f:Nat→Nat} (h:∀ t,f t=t):CV xs xs f:=⟨rfl,fun t=>by rw [h]⟩
theorem aB {xs ys:List Ap} {a b k:Nat} {x y:Ap} (hab:a+k<b) (h:CV xs ys (E4 a b k)) (hx:ys[a+k]?=some x) (hy:ys[b+k]?=some y):
  CV xs ((ys.set (a+k) y).set (b+k) x) (E4 a b (k+1)):=by
 have l1:a+k<ys.length:=(List.getElem?_eq_some_iff.1 hx).1
 have l2:b+k<ys.length:=(List.getElem?_eq_some_iff.1 hy).1
 refine ⟨by simpa using h.1,fun t=>?_⟩
 rw [List.getElem?_set,List.getElem?_set]
 have hx':=h.2 (a+k)
 have hy':=h.2 (b+k)
 rw [hx] at hx'
 rw [hy] at hy'
 by_cases h1:b+k=t
 ·subst h1
  rw [if_pos rfl,if_pos (by simpa using l2),hx']
  congr 1
  unfold E4
  rw [if_neg (by omega),if_neg (by omega),if_neg (by omega),if_pos (by omega)]
  omega
 ·rw [if_neg h1]
  by_cases h2:a+k=t
  ·subst h2
   rw [if_pos rfl,if_pos l1,hy']
   congr 1
   unfold E4
   rw [if_neg (by omega),if_neg (by omega),if_pos (by omega)]
   omega
  ·rw [if_neg h2,h.2]
   congr 1
   unfold E4
   repeat' split
   all_goals omega
theorem Yy {xs ys:List Ap} {m i j:Nat} (him:i≤m) (hj:j<i) (h:CV xs ys (E4 (m - i) m j)):∀ t,xs[Bn (m - i) m (m+j) t]?=ys[Bn (m - (i - j)) m (m+j) t]?:=by
 intro t
 rw [h.2]
 congr 1
 unfold Bn E4
 repeat' split
 all_goals omega
theorem Yz {xs ys:List Ap} {m i j:Nat} (him:i≤m) (hj:i<j) (h:CV xs ys (E4 (m - i) (m+j - i) i)):∀ t,xs[Bn (m - i) m (m+j) t]?=ys[Bn (m - i) m (m+(j - i)) t]?:=by
 intro t
 rw [h.2]
 congr 1
 unfold Bn E4
 repeat' split
 all_goals omega
theorem Yx {m i t:Nat} (him:i≤m):Bn (m - i) m (m+i) t=E4 (m - i) m i t:=by
 unfold Bn E4
 repeat' split
 all_goals omega
theorem Z9 {xs ys:List Ap} {a m b:Nat} (h:CV xs ys (Bn a m b)) (h1:a≤m) (h2:m≤b) (h3:b≤xs.length):
  ys=xs.take a++((xs.drop m).take (b - m)++((xs.drop a).take (m - a)++xs.drop b)):=by
 apply List.ext_getElem?
 intro t
 rw [h.2]
 unfold Bn
 by_cases c1:t<a
 ·rw [if_neg (by omega),if_neg (by omega),List.getElem?_append_left (by simp;omega),List.getElem?_take,if_pos c1]
 rw [List.getElem?_append_right (by simp;omega)]
 have e1:(xs.take a).length=a:=by simp;omega
 rw [e1]
 by_cases c2:t<a+(b - m)
 ·rw [if_pos (by omega),List.getElem?_append_left (by simp;omega),List.getElem?_take,if_pos (by omega),List.getElem?_drop]
  congr 1
  omega
 rw [List.getElem?_append_right (by simp;omega),if_neg (by omega)]
 have e2:((xs.drop m).take (b - m)).length=b - m:=by simp;omega
 rw [e2]
 by_cases c3:t<b
 ·rw [if_pos (by omega),List.getElem?_append_left (by simp;omega),List.getElem?_take,if_pos (by omega),List.getElem?_drop]
  congr 1
  omega
 rw [List.getElem?_append_right (by simp;omega),if_neg (by omega)]
 have e3:((xs.drop a).take (m - a)).length=m - a:=by simp;omega
 rw [e3,List.getElem?_drop]
 congr 1
 omega
theorem S4 {xs:List Ap} {a m b:Nat} (h1:a≤m) (h2:m≤b):xs=xs.take a++((xs.drop a).take (m - a)++((xs.drop m).take (b - m)++xs.drop b)):=by
 have e1:(xs.drop m).take (b - m)++xs.drop b=xs.drop m:=by
  have:=List.take_append_drop (b - m) (xs.drop m)
  rwa [List.drop_drop,show m+(b - m)=b by omega] at this
 have e2:(xs.drop a).take (m - a)++xs.drop m=xs.drop a:=by
  have:=List.take_append_drop (m - a) (xs.drop a)
  rwa [List.drop_drop,show a+(m - a)=m by omega] at this
 rw [e1,e2,List.take_append_drop]
theorem Q2 {xs ys:List Ap} {a m b:Nat} (h:CV xs ys (Bn a m b)) (h1:a≤m) (h2:m≤b) (h3:b≤xs.length)
  (hne:∀ p q x y,a≤p→p<m→m≤q→q<b→xs[p]?=some x→xs[q]?=some y→x.key≠y.key):B6 xs ys:=by
 refine ⟨h.1.symm,fun k=>?_⟩
 rw [Z9 h h1 h2 h3]
 conv=>lhs;rw [S4 (xs:=xs) h1 h2]
 simp only [List.filter_append]
 congr 1
 rw [←List.append_assoc,←List.append_assoc]
 congr 1
 by_cases hk:∃ x∈(xs.drop a).take (m - a),x.key=k
 ·obtain ⟨x,hx,hxk⟩:=hk
  obtain ⟨p,hp⟩:=List.getElem?_of_mem hx
  have hpl:p<m - a:=by
   have:=(List.getElem?_eq_some_iff.1 hp).1
   simp at this
   omega
  rw [List.getElem?_take,if_pos hpl,List.getElem?_drop] at hp
  have:(((xs.drop m).take (b - m)).filter fun p=>decide (p.key=k))=[]:=by
   rw [List.filter_eq_nil_iff]
   intro y hy
   obtain ⟨q,hq⟩:=List.getElem?_of_mem hy
   have hql:q<b - m:=by
    have:=(List.getElem?_eq_some_iff.1 hq).1
    simp at this
    omega
   rw [List.getElem?_take,if_pos hql,List.getElem?_drop] at hq
   have:=hne (a+p) (m+q) x y (by omega) (by omega) (by omega) (by omega) hp hq
   simp only [decide_eq_true_eq]
   exact fun e=>this (hxk.trans e.symm)
  rw [this,List.append_nil,List.nil_append]
 ·have:(((xs.drop a).take (m - a)).filter fun p=>decide (p.key=k))=[]:=by
   rw [List.filter_eq_nil_iff]
   intro x hx
   simp only [decide_eq_true_eq]
   exact fun e=>hk ⟨x,hx,e⟩
  rw [this,List.append_nil,List.nil_append]
def BU (xs:List Ap) (a b:Nat):Prop:=∀ p q x y,a≤p→p<q→q<b→xs[p]?=some x→xs[q]?=some y→Bl y.key x.key=false
def Eb (xs ys:List Ap) (a b:Nat):Prop:=ys.length=xs.length∧(∀ t,t<a∨b≤t→ys[t]?=xs[t]?)∧∀ t,a≤t→t<b→∃ u,a≤u∧u<b∧ys[t]?=xs[u]?
theorem Eb.refl (xs:List Ap) (a b:Nat):Eb xs xs a b:=⟨rfl,fun _ _=>rfl,fun t h1 h2=>⟨t,h1,h2,rfl⟩⟩
theorem Eb.trans {xs ys zs:List Ap} {a b:Nat} (h1:Eb xs ys a b) (h2:Eb ys zs a b):Eb xs zs a b:=by
 refine ⟨h2.1.trans h1.1,fun t ht=>(h2.2.1 t ht).trans (h1.2.1 t ht),fun t ha hb=>?_⟩
 obtain ⟨u,u1,u2,e⟩:=h2.2.2 t ha hb
 obtain ⟨u',u1',u2',e'⟩:=h1.2.2 u u1 u2
 exact ⟨u',u1',u2',e.trans e'⟩
theorem Eb.wider {xs ys:List Ap} {a b a' b':Nat} (h:Eb xs ys a b) (ha:a'≤a) (hb:b≤b'):Eb xs ys a' b':=by
 refine ⟨h.1,fun t ht=>h.2.1 t (by omega),fun t h1 h2=>?_⟩
 by_cases c:a≤t∧t<b
 ·obtain ⟨u,u1,u2,e⟩:=h.2.2 t c.1 c.2
  exact ⟨u,by omega,by omega,e⟩
 ·exact ⟨t,h1,h2,h.2.1 t (by omega)⟩
theorem Q1 {xs ys:List Ap} {a m b:Nat} (h:CV xs ys (Bn a m b)) (h1:a≤m) (h2:m≤b):Eb xs ys a b:=by
 refine ⟨h.1,fun t ht=>?_,fun t ha hb=>⟨Bn a m b t,?_,?_,h.2 t⟩⟩
 ·rw [h.2,show Bn a m b t=t by unfold Bn;rw [if_neg (by omega),if_neg (by omega)]]
 ·unfold Bn;split<;>(try split)<;>omega
 ·unfold Bn;split<;>(try split)<;>omega
theorem BU.same {xs ys:List Ap} {a b:Nat} (h:BU xs a b) (he:∀ t,a≤t→t<b→ys[t]?=xs[t]?):BU ys a b:=
 fun p q x y h1 h2 h3 hx hy=>h p q x y h1 h2 h3 ((he p h1 (by omega)).symm.trans hx) ((he q (by omega) h3).symm.trans hy)
theorem BU.sub {xs:List Ap} {a b a' b':Nat} (h:BU xs a b) (ha:a≤a') (hb:b'≤b):BU xs a' b':=
 fun p q x y h1 h2 h3=>h p q x y (by omega) h2 (by omega)
theorem BU.one (xs:List Ap) {a b:Nat} (h:b≤a+1):BU xs a b:=fun p q x y h1 h2 h3=>by omega
theorem BU.ord {xs:List Ap} (h:BU xs 0 xs.length):CZ xs:=by
 unfold CZ
 rw [List.pairwise_iff_getElem]
 intro i j hi hj hij
 exact h i j _ _ (by omega) hij hj (List.getElem?_eq_getElem hi) (List.getElem?_eq_getElem hj)
structure CU (xs ys:List Ap) (a b:Nat):Prop where
 stab:B6 xs ys
 ins:Eb xs ys a b
 srt:BU ys a b
theorem Zu {xs:List Ap} {j:Nat} {x y:Ap} (hx:xs[j]?=some x) (hy:xs[j+1]?=some y) (hlt:Bl y.key x.key=true):B6 xs ((xs.set (j+1) x).set j y)∧Eb xs ((xs.set (j+1) x).set j y) j (j+2):=by
 have l1:j+1<xs.length:=(List.getElem?_eq_some_iff.1 hy).1
 have hv:CV xs ((xs.set (j+1) x).set j y) (Bn j (j+1) (j+2)):=by
  refine ⟨by simp,fun t=>?_⟩
  rw [List.getElem?_set,List.getElem?_set]
  unfold Bn
  by_cases c1:j=t
  ·subst c1
   rw [if_pos rfl,if_pos (by simp;omega),if_pos (by omega),show j+(j+1 - j)=j+1 by omega,hy]
  ·rw [if_neg c1]
   by_cases c2:j+1=t
   ·subst c2
    rw [if_pos rfl,if_pos l1,if_neg (by omega),if_pos (by omega),show j+1 - (j+2 - (j+1))=j by omega,hx]
   ·rw [if_neg c2,if_neg (by omega),if_neg (by omega)]
 refine ⟨Q2 hv (by omega) (by omega) (by omega) fun p q u v h1 h2 h3 h4 hu hw=>?_,Q1 hv (by omega) (by omega)⟩
 obtain rfl:p=j:=by omega
 obtain rfl:q=p+1:=by omega
 rw [hx] at hu
 rw [hy] at hw
 obtain rfl:=Option.some.inj hu
 obtain rfl:=Option.some.inj hw
 intro e
 rw [e,GT] at hlt
 cases hlt
def Gm (xs:List Ap) (a b j:Nat):Prop:=∀ p q x y,a≤p→p<q→q<b→q≠j→xs[p]?=some x→xs[q]?=some y→Bl y.key x.key=false
theorem St {xs:List Ap} {a i:Nat} (h:BU xs a i):Gm xs a (i+1) i:=fun p q x y h1 h2 h3 h4=>h p q x y h1 h2 (by omega)
theorem Sr {xs:List Ap} {a b:Nat} (h:Gm xs a b a):BU xs a b:=fun p q x y h1 h2 h3=>h p q x y h1 h2 h3 (by omega)
theorem Sw {xs:List Ap} {a b j:Nat} {x y:Ap} (h:Gm xs a b (j+1)) (ha:a≤j) (hx:xs[j]?=some x) (hy:xs[j+1]?=some y) (hlt:Bl y.key x.key=false):BU xs a b:=by
 intro p q u v h1 h2 h3 hu hv
 by_cases c:q=j+1
 ·subst c
  rw [hy] at hv
  obtain rfl:=Option.some.inj hv
  by_cases c2:p=j
  ·subst c2
   rw [hx] at hu
   obtain rfl:=Option.some.inj hu
   exact hlt
  ·exact Ge (h p j u x h1 (by omega) (by omega) (by omega) hu hx) hlt
 ·exact h p q u v h1 h2 h3 c hu hv
theorem Su {xs:List Ap} {a b j:Nat} {x y:Ap} (h:Gm xs a b (j+1)) (ha:a≤j) (hx:xs[j]?=some x) (hy:xs[j+1]?=some y) (hlt:Bl y.key x.key=true) (hb:j+1<b):Gm ((xs.set (j+1) x).set j y) a b j:=by
 have l1:j+1<xs.length:=(List.getElem?_eq_some_iff.1 hy).1
 have g:∀ t u,((xs.set (j+1) x).set j y)[t]?=some u→(t=j∧u=y)∨(t=j+1∧u=x)∨(t≠j∧t≠j+1∧xs[t]?=some u):=by
  intro t u ht
  rw [List.getElem?_set,List.getElem?_set] at ht
  by_cases c1:j=t
  ·rw [if_pos c1,if_pos (by simp;omega)] at ht
   exact .inl ⟨c1.symm,(Option.some.inj ht).symm⟩
  ·rw [if_neg c1] at ht
   by_cases c2:j+1=t
   ·rw [if_pos c2,if_pos l1] at ht
    exact .inr (.inl ⟨c2.symm,(Option.some.inj ht).symm⟩)
   ·rw [if_neg c2] at ht
    exact .inr (.inr ⟨Ne.symm c1,Ne.symm c2,ht⟩)
 intro p q u v h1 h2 h3 h4 hu hv
 rcases g q v hv with ⟨rfl,_⟩|⟨rfl,rfl⟩|⟨q1,q2,hq⟩
 ·exact absurd U h4
 ·rcases g p u hu with ⟨rfl,rfl⟩|⟨rfl,_⟩|⟨p1,p2,hp⟩
  ·exact Kh hlt
  ·omega
  ·exact h p j u v h1 (by omega) (by omega) (by omega) hp hx
 ·rcases g p u hu with ⟨rfl,rfl⟩|⟨rfl,rfl⟩|⟨p1,p2,hp⟩
  ·exact h (p+1) q u v (by omega) (by omega) h3 q2 hy hq
  ·exact h j q u v (by omega) (by omega) h3 q2 hx hq
  ·exact h p q u v h1 h2 h3 q2 hp hq
theorem BU.le {xs:List Ap} {a b p q:Nat} {x y:Ap} (h:BU xs a b) (h1:a≤p) (h2:p≤q) (h3:q<b) (hx:xs[p]?=some x) (hy:xs[q]?=some y):Bl y.key x.key=false:=by
 rcases Nat.lt_or_ge p q with h'|h'
 ·exact h p q x y h1 h' h3 hx hy
 ·obtain rfl:p=q:=by omega
  rw [hx] at hy
  obtain rfl:=Option.some.inj hy
  exact GT _
theorem KC {xs ys:List Ap} {a m b s mid e:Nat} (hv:CV xs ys (Bn s m e)) (h1:a≤s) (h2:s≤m) (h3:m≤e) (h4:e≤b) (hmid:mid=s+(e - m)) (hl:BU xs a m) (hr:BU xs m b):
  BU ys a s∧BU ys s mid∧BU ys mid e∧BU ys e b:=by
 subst hmid
 refine ⟨?_,?_,?_,?_⟩
 ·refine (hl.sub (Nat.le_refl _) h2).same fun t ht1 ht2=>?_
  rw [hv.2,show Bn s m e t=t by unfold Bn;rw [if_neg (by omega),if_neg (by omega)]]
 ·intro p q x y p1 p2 p3 hx hy
  rw [hv.2,show Bn s m e p=p+(m - s) by unfold Bn;rw [if_pos (by omega)]] at hx
  rw [hv.2,show Bn s m e q=q+(m - s) by unfold Bn;rw [if_pos (by omega)]] at hy
  exact hr _ _ x y (by omega) (by omega) (by omega) hx hy
 ·intro p q x y p1 p2 p3 hx hy
  rw [hv.2,show Bn s m e p=p - (e - m) by unfold Bn;rw [if_neg (by omega),if_pos (by omega)]] at hx
  rw [hv.2,show Bn s m e q=q - (e - m) by unfold Bn;rw [if_neg (by omega),if_pos (by omega)]] at hy
  exact hl _ _ x y (by omega) (by omega) (by omega) hx hy
 ·refine (hr.sub h3 (Nat.le_refl _)).same fun t ht1 ht2=>?_
  rw [hv.2,show Bn s m e t=t by unfold Bn;rw [if_neg (by omega),if_neg (by omega)]]
theorem CU.refl {xs:List Ap} {a b:Nat} (h:BU xs a b):CU xs xs a b:=⟨B6.refl _,Eb.refl _ _ _,h⟩
theorem G0 {xs:List Ap} {a s mid:Nat} (h1:BU xs a s) (h2:BU xs s mid) (h:¬ (a<s∧s<mid)) (hs:a≤s):BU xs a mid:=by
 rcases Nat.lt_or_ge a s with c|c
 ·exact h1.sub (Nat.le_refl _) (by omega)
 ·exact h2.sub (by omega) (Nat.le_refl _)
theorem GU {xs ys zs ws:List Ap} {a m b s mid e:Nat} (hv:CV xs ys (Bn s m e)) (h1:a≤s) (h2:s≤m) (h3:m≤e) (h4:e≤b) (hb:b≤xs.length) (hmid:mid=s+(e - m)) (hl:BU xs a m) (hr:BU xs m b)
  (hlow:s=a∨e=b∨∃ u v,xs[s - 1]?=some u∧xs[e]?=some v∧Bl v.key u.key=false)
  (hup:s=m∨e=m∨∃ u v,xs[e - 1]?=some u∧xs[s]?=some v∧Bl u.key v.key=true)
  (hz:CU ys zs a mid) (hw:CU zs ws mid b):CU xs ws a b:=by
 have hkey:∀ p q x y,s≤p→p<m→m≤q→q<e→xs[p]?=some x→xs[q]?=some y→Bl y.key x.key=true:=by
  intro p q x y p1 p2 q1 q2 hx hy
  rcases hup with c|c|⟨u,v,hu,hv',hlt⟩
  ·omega
  ·omega
  ·exact PK (VV (hr.le (p:=q) (q:=e - 1) q1 (by omega) (by omega) hy hu) hlt) (hl.le (p:=s) (q:=p) h1 p1 p2 hv' hx)
 have s1:B6 xs ys:=Q2 hv h2 h3 (by omega) fun p q x y p1 p2 q1 q2 hx hy e=>by
  have:=hkey p q x y p1 p2 q1 q2 hx hy
  rw [e,GT] at this
  cases this
 have i1:Eb xs ys a b:=(Q1 hv h2 h3).wider h1 h4
 have hm1:s≤mid:=by omega
 have hm2:mid≤e:=by omega
 refine ⟨s1.trans (hz.stab.trans hw.stab),i1.trans ((hz.ins.wider (Nat.le_refl _) (by omega)).trans (hw.ins.wider (by omega) (Nat.le_refl _))),fun p q x y p1 p2 p3 hx hy=>?_⟩
 rcases Nat.lt_or_ge q mid with c|c
 ·rw [hw.ins.2.1 p (by omega)] at hx
  rw [hw.ins.2.1 q (by omega)] at hy
  exact hz.srt p q x y p1 p2 c hx hy
 rcases Nat.lt_or_ge p mid with c'|c'
 ·rw [hw.ins.2.1 p (by omega)] at hx
  obtain ⟨u,u1,u2,hu⟩:=hz.ins.2.2 p p1 c'
  rw [hx] at hu
  obtain ⟨t,t1,t2,ht⟩:=hw.ins.2.2 q c p3
  rw [hy,hz.ins.2.1 t (by omega)] at ht
  -- the pair at u of ys is x, the pair at t of ys is y
  have hxu:=hv.2 u
  have hyt:=hv.2 t
  rw [←hu] at hxu
  rw [←ht] at hyt
  rcases Nat.lt_or_ge u s with cu|cu
  ·rw [show Bn s m e u=u by unfold Bn;rw [if_neg (by omega),if_neg (by omega)]] at hxu
   rcases Nat.lt_or_ge t e with ct|ct
   ·rw [show Bn s m e t=t - (e - m) by unfold Bn;rw [if_neg (by omega),if_pos (by omega)]] at hyt
    exact hl u _ x y u1 (by omega) (by omega) hxu.symm hyt.symm
   ·rw [show Bn s m e t=t by unfold Bn;rw [if_neg (by omega),if_neg (by omega)]] at hyt
    rcases hlow with d|d|⟨u',v',hu',hv',hlt⟩
    ·omega
    ·omega
    ·exact Ge (hl.le (p:=u) (q:=s - 1) u1 (by omega) (by omega) hxu.symm hu') (Ge hlt (hr.le (p:=e) (q:=t) h3 ct t2 hv' hyt.symm))
  ·rw [show Bn s m e u=u+(m - s) by unfold Bn;rw [if_pos (by omega)]] at hxu
   rcases Nat.lt_or_ge t e with ct|ct
   ·rw [show Bn s m e t=t - (e - m) by unfold Bn;rw [if_neg (by omega),if_pos (by omega)]] at hyt
    exact Kh (hkey _ _ y x (by omega) (by omega) (by omega) (by omega) hyt.symm hxu.symm)
   ·rw [show Bn s m e t=t by unfold Bn;rw [if_neg (by omega),if_neg (by omega)]] at hyt
    exact hr _ t x y (by omega) (by omega) t2 hxu.symm hyt.symm
 ·exact hw.srt p q x y c' p2 p3 hx hy
theorem Wp {xs ys:List Ap} {a b i:Nat} {x:Ap} (hv:CV xs ys (Bn a (a+1) i)) (h1:a+1≤i) (h2:i≤b) (hb:b≤xs.length) (hr:BU xs (a+1) b) (hx:xs[a]?=some x)
  (hlow:i=a+1∨∃ u,xs[i - 1]?=some u∧Bl u.key x.key=true) (hup:i=b∨∃ u,xs[i]?=some u∧Bl u.key x.key=false):CU xs ys a b:=by
 have hruns:=KC hv (Nat.le_refl a) (by omega) h1 h2 rfl (BU.one xs (Nat.le_refl _)) hr
 have e1:a+(i - (a+1))=i - 1:=by omega
 rw [e1] at hruns
 -- low: nothing stands below a; up: what stands below i is below x
 have hs:CU ys ys a (i - 1):=CU.refl hruns.2.1
 have hyx:ys[i - 1]?=some x:=by rw [hv.2,show Bn a (a+1) i (i - 1)=a by unfold Bn;rw [if_neg (by omega),if_pos (by omega)];omega,hx]
 have hw:CU ys ys (i - 1) b:=by
  refine CU.refl fun p q u v p1 p2 p3 hu hw=>?_
  rcases Nat.lt_or_ge p i with c|c
  ·obtain rfl:p=i - 1:=by omega
   rw [hyx] at hu
   obtain rfl:=Option.some.inj hu
   rw [hv.2,show Bn a (a+1) i q=q by unfold Bn;rw [if_neg (by omega),if_neg (by omega)]] at hw
   rcases hup with d|⟨u',hu',hlt⟩
   ·omega
   ·exact Ge hlt (hr.le (p:=i) (q:=q) h1 (by omega) p3 hu' hw)
  ·exact hruns.2.2.2 p q u v c p2 p3 hu hw
 refine GU hv (Nat.le_refl _) (by omega) h1 h2 hb e1.symm (BU.one xs (Nat.le_refl _)) hr (.inl U) ?_ hs hw
 rcases hlow with d|⟨u,hu,hlt⟩
 ·exact .inr (.inl d)
 ·exact .inr (.inr ⟨u,x,hu,hx,hlt⟩)
theorem Wr {xs ys:List Ap} {a m i:Nat} {x:Ap} (hv:CV xs ys (Bn i m (m+1))) (h1:a≤i) (h2:i≤m) (hb:m+1≤xs.length) (hl:BU xs a m) (hx:xs[m]?=some x)
  (hlow:i=a∨∃ u,xs[i - 1]?=some u∧Bl x.key u.key=false) (hup:i=m∨∃ u,xs[i]?=some u∧Bl x.key u.key=true):CU xs ys a (m+1):=by
 have hruns:=KC hv h1 h2 (by omega) (Nat.le_refl _) rfl hl (BU.one xs (by omega))
 have e1:i+(m+1 - m)=i+1:=by omega
 rw [e1] at hruns
 have hyx:ys[i]?=some x:=by rw [hv.2,show Bn i m (m+1) i=m by unfold Bn;rw [if_pos (by omega)];omega,hx]
 have hs:CU ys ys a (i+1):=by
  refine CU.refl fun p q u v p1 p2 p3 hu hw=>?_
  rcases Nat.lt_or_ge q i with c|c
  ·exact hruns.1 p q u v p1 p2 c hu hw
  ·obtain rfl:q=i:=by omega
   rw [hyx] at hw
   obtain rfl:=Option.some.inj hw
   rw [hv.2,show Bn q m (m+1) p=p by unfold Bn;rw [if_neg (by omega),if_neg (by omega)]] at hu
   rcases hlow with d|⟨u',hu',hlt⟩
   ·omega
   ·exact Ge (hl.le (p:=p) (q:=q - 1) p1 (by omega) (by omega) hu hu') hlt
 have hw:CU ys ys (i+1) (m+1):=CU.refl hruns.2.2.1
 refine GU hv h1 h2 (by omega) (Nat.le_refl _) hb e1.symm hl (BU.one xs (by omega)) (.inr (.inl U)) ?_ hs hw
 rcases hup with d|⟨u,hu,hlt⟩
 ·exact .inl d
 ·exact .inr (.inr ⟨x,u,by rw [show m+1 - 1=m by omega];exact hx,hu,hlt⟩)
theorem IQ (n:Nat):((n:Nat):Int).fdiv (2^(min (1:Int).toNat IntKind.u64.bits))=((n / 2:Nat):Int):=by
 have:(2:Int)^(min (1:Int).toNat IntKind.u64.bits)=2:=by decide
 rw [this,Int.fdiv_eq_ediv_of_nonneg _ (by omega)]
 omega
def F9 (a b:ByteArray):Int:=if Bl a b=true then -1 else if Bl b a=true then 1 else 0
theorem SR {a b:ByteArray} (h:Bl a b=true):F9 a b= -1:=if_pos h
theorem SQ {a b:ByteArray} (h:¬ Bl a b=true) (h2:(!(Bl a b||decide (a=b)))=true):F9 a b=1:=by
 unfold F9
 rw [if_neg h,if_pos]
 cases h3:Bl b a with
 |true=>rfl
 |false=>
  have:=Mb (by simpa using h) h3
  subst this
  simp at h2
theorem SO {a b:ByteArray} (h:¬ Bl a b=true) (h2:(!(Bl a b||decide (a=b)))=false):F9 a b=0:=by
 have h':Bl a b=false:=by simpa using h
 have:a=b:=by simpa [h'] using h2
 subst this
 unfold F9
 rw [if_neg h,if_neg h]
theorem GM {a b:ByteArray}:F9 a b<0↔Bl a b=true:=by
 unfold F9
 by_cases h:Bl a b=true
 ·simp [h]
 ·rw [if_neg h]
  by_cases h2:Bl b a=true
  ·rw [if_pos h2];simp [h]
  ·rw [if_neg h2];simp [h]
theorem HH {a b:ByteArray} (h:¬ F9 a b<0):Bl a b=false:=by
 cases h2:Bl a b with
 |false=>rfl
 |true=>exact absurd (GM.2 h2) h
theorem Zv {xs:List Ap} {j:Nat} {x y:Ap} (hj:0<j) (hx:xs[j - 1]?=some x) (hy:xs[j]?=some y) (hlt:Bl y.key x.key=true):B6 xs ((xs.set j x).set (j - 1) y)∧Eb xs ((xs.set j x).set (j - 1) y) (j - 1) (j+1):=by
 obtain ⟨i,rfl⟩:∃ i,j=i+1:=⟨j - 1,by omega⟩
 exact Zu hx hy hlt
theorem Sx {xs:List Ap} {a b j:Nat} {x y:Ap} (h:Gm xs a b j) (hj:a<j) (hx:xs[j - 1]?=some x) (hy:xs[j]?=some y) (hlt:Bl y.key x.key=false):BU xs a b:=by
 obtain ⟨i,rfl⟩:∃ i,j=i+1:=⟨j - 1,by omega⟩
 exact Sw h (by omega) hx hy hlt
theorem Sv {xs:List Ap} {a b j:Nat} {x y:Ap} (h:Gm xs a b j) (hj:a<j) (hx:xs[j - 1]?=some x) (hy:xs[j]?=some y) (hlt:Bl y.key x.key=true) (hb:j<b):Gm ((xs.set j x).set (j - 1) y) a b (j - 1):=by
 obtain ⟨i,rfl⟩:∃ i,j=i+1:=⟨j - 1,by omega⟩
 exact Su h (by omega) hx hy hlt (by omega)
theorem aC {xs ys:List Ap} {a k:Nat} {x y:Ap} (hk:a≤k) (h:CV xs ys (Bn a (a+1) (k+1))) (hx:ys[k]?=some x) (hy:ys[k+1]?=some y):CV xs ((ys.set k y).set (k+1) x) (Bn a (a+1) (k+1+1)):=by
 have l1:k<ys.length:=(List.getElem?_eq_some_iff.1 hx).1
 have l2:k+1<ys.length:=(List.getElem?_eq_some_iff.1 hy).1
 refine ⟨by simpa using h.1,fun t=>?_⟩
 rw [List.getElem?_set,List.getElem?_set]
 have hx':=h.2 k
 have hy':=h.2 (k+1)
 rw [hx] at hx'
 rw [hy] at hy'
 by_cases c1:k+1=t
 ·subst c1
  rw [if_pos rfl,if_pos (by simpa using l2),hx']
  congr 1
  unfold Bn
  repeat' split
  all_goals omega
 ·rw [if_neg c1]
  by_cases c2:k=t
  ·subst c2
   rw [if_pos rfl,if_pos l1,hy']
   congr 1
   unfold Bn
   repeat' split
   all_goals omega
  ·rw [if_neg c2,h.2]
   congr 1
   unfold Bn
   repeat' split
   all_goals omega
theorem Z7 {xs ys:List Ap} {m k:Nat} {x y:Ap} (hk:k≤m) (h0:0<k) (h:CV xs ys (Bn k m (m+1))) (hx:ys[k]?=some x) (hy:ys[k - 1]?=some y):CV xs ((ys.set k y).set (k - 1) x) (Bn (k - 1) m (m+1)):=by
 have l1:k<ys.length:=(List.getElem?_eq_some_iff.1 hx).1
 have l2:k - 1<ys.length:=(List.getElem?_eq_some_iff.1 hy).1
 refine ⟨by simpa using h.1,fun t=>?_⟩
 rw [List.getElem?_set,List.getElem?_set]
 have hx':=h.2 k
 have hy':=h.2 (k - 1)
 rw [hx] at hx'
 rw [hy] at hy'
 by_cases c1:k - 1=t
 ·subst c1
  rw [if_pos rfl,if_pos (by simpa using l2),hx']
  congr 1
  unfold Bn
  repeat' split
  all_goals omega
 ·rw [if_neg c1]
  by_cases c2:k=t
  ·subst c2
   rw [if_pos rfl,if_pos l1,hy']
   congr 1
   unfold Bn
   repeat' split
   all_goals omega
  ·rw [if_neg c2,h.2]
   congr 1
   unfold Bn
   repeat' split
   all_goals omega
theorem Z_ (xs:List Ap) (a:Nat):CV xs xs (Bn a (a+1) (a+1)):=KX xs fun t=>by
 unfold Bn
 repeat' split
 all_goals omega
theorem aA (xs:List Ap) (m:Nat):CV xs xs (Bn m m (m+1)):=KX xs fun t=>by
 unfold Bn
 repeat' split
 all_goals omega
theorem KW (xs:List Ap) {s m e:Nat} (h:¬ (s<m∧m<e)) (h1:s≤m) (h2:m≤e):CV xs xs (Bn s m e):=KX xs fun t=>by
 unfold Bn
 repeat' split
 all_goals omega
theorem aD {xs ys:List Ap} {a m k:Nat} {x y:Ap} (hm:m=a+1) (hk:a≤k) (h:CV xs ys (Bn a m (k+1))) (hx:ys[k]?=some x) (hy:ys[k+1]?=some y):CV xs ((ys.set k y).set (k+1) x) (Bn a m (k+1+1)):=by
 subst hm
 exact aC hk h hx hy
theorem Z8 {xs ys:List Ap} {m b k:Nat} {x y:Ap} (hb:b=m+1) (hk:k≤m) (h0:0<k) (h:CV xs ys (Bn k m b)) (hx:ys[k]?=some x) (hy:ys[k - 1]?=some y):CV xs ((ys.set k y).set (k - 1) x) (Bn (k - 1) m b):=by
 subst hb
 exact Z7 hk h0 h hx hy
theorem Wq {xs ys:List Ap} {a m b i:Nat} {x:Ap} (hm:m=a+1) (hv:CV xs ys (Bn a m i)) (h1:m≤i) (h2:i≤b) (hb:b≤xs.length) (hr:BU xs m b) (hx:xs[a]?=some x)
  (hlow:i=m∨∃ u,xs[i - 1]?=some u∧Bl u.key x.key=true) (hup:i=b∨∃ u,xs[i]?=some u∧Bl u.key x.key=false):CU xs ys a b:=by
 subst hm
 exact Wp hv h1 h2 hb hr hx hlow hup
theorem Ws {xs ys:List Ap} {a m b i:Nat} {x:Ap} (hm:b=m+1) (hv:CV xs ys (Bn i m b)) (h1:a≤i) (h2:i≤m) (hb:b≤xs.length) (hl:BU xs a m) (hx:xs[m]?=some x)
  (hlow:i=a∨∃ u,xs[i - 1]?=some u∧Bl x.key u.key=false) (hup:i=m∨∃ u,xs[i]?=some u∧Bl x.key u.key=true):CU xs ys a b:=by
 subst hm
 exact Wr hv h1 h2 hb hl hx hlow hup
def DM (xs:List Ap) (lo hi bs:Nat):Prop:=∀ p q x y,lo≤p→p<q→q<hi→p / bs=q / bs→xs[p]?=some x→xs[q]?=some y→Bl y.key x.key=false
theorem Lk {c bs p:Nat} (h1:c*bs≤p) (h2:p<(c+1)*bs):p / bs=c:=Nat.div_eq_of_lt_le h1 h2
theorem DM.at {xs:List Ap} {lo hi bs c a b:Nat} (h:DM xs lo hi bs) (ha:a=c*bs) (hlo:lo≤a) (hb:b≤a+bs) (hh:b≤hi):BU xs a b:=by
 intro p q x y p1 p2 p3 hx hy
 refine h p q x y (by omega) p2 (by omega) ?_ hx hy
 have:(c+1)*bs=c*bs+bs:=Nat.succ_mul c bs
 rw [Lk (c:=c) (by omega) (by omega),Lk (c:=c) (by omega) (by omega)]
theorem DM.more {xs ys:List Ap} {bs c a b:Nat} (h:DM xs 0 a bs) (ha:a=c*bs) (hb:b≤a+bs) (hi:Eb xs ys a b) (hs:BU ys a b):DM ys 0 b bs:=by
 intro p q x y p1 p2 p3 hd hx hy
 have e1:(c+1)*bs=c*bs+bs:=Nat.succ_mul c bs
 rcases Nat.lt_or_ge p a with c1|c1
 ·rcases Nat.lt_or_ge q a with c2|c2
  ·rw [hi.2.1 p (by omega)] at hx
   rw [hi.2.1 q (by omega)] at hy
   exact h p q x y p1 p2 c2 hd hx hy
  ·exfalso
   have hq:q / bs=c:=Lk (by omega) (by omega)
   have hbs:0<bs:=by omega
   have:p / bs<c:=(Nat.div_lt_iff_lt_mul hbs).2 (by omega)
   omega
 ·exact hs p q x y c1 p2 p3 hx hy
theorem DM.same {xs ys:List Ap} {lo hi bs lo':Nat} (h:DM xs lo hi bs) (hl:lo≤lo') (he:∀ t,lo'≤t→ys[t]?=xs[t]?):DM ys lo' hi bs:=by
 intro p q x y p1 p2 p3 hd hx hy
 rw [he p (by omega)] at hx
 rw [he q (by omega)] at hy
 exact h p q x y (by omega) p2 p3 hd hx hy
theorem DM.nil (xs:List Ap) (bs:Nat):DM xs 0 0 bs:=fun p q x y p1 p2 p3=>by omega
theorem DM.all {xs:List Ap} {n bs:Nat} (h:DM xs 0 n bs) (hn:n≤bs):BU xs 0 n:=by
 intro p q x y p1 p2 p3 hx hy
 refine h p q x y p1 p2 p3 ?_ hx hy
 rw [Nat.div_eq_of_lt (by omega),Nat.div_eq_of_lt (by omega)]
theorem JD {zs:List Ap} {a n bs:Nat} (h:DM zs a n bs) (hc:∃ c,a=c*(2*bs)) (hn:a+bs≤n):BU zs a (a+bs)∧∀ b,b≤a+2*bs→b≤n→BU zs (a+bs) b:=by
 obtain ⟨c,rfl⟩:=hc
 have e:c*(2*bs)=(2*c)*bs:=by rw [←Nat.mul_assoc,Nat.mul_comm c 2]
 have e2:(2*c+1)*bs=(2*c)*bs+bs:=Nat.succ_mul _ _
 refine ⟨h.at (c:=2*c) e (Nat.le_refl _) (Nat.le_refl _) hn,fun b h1 h2=>h.at (c:=2*c+1) (by omega) (by omega) (by omega) h2⟩
theorem Sq {zs:List Ap} {a n bs:Nat} (h:DM zs a n bs) (hc:∃ c,a=c*(2*bs)) (hn:n≤a+bs):BU zs a n:=by
 obtain ⟨c,rfl⟩:=hc
 exact h.at (c:=2*c) (by rw [←Nat.mul_assoc,Nat.mul_comm c 2]) (Nat.le_refl _) hn (Nat.le_refl _)
theorem Ld {zs ws:List Ap} {a b bs:Nat} (h:DM zs 0 a (2*bs)) (hc:∃ c,a=c*(2*bs)) (hb:b≤a+2*bs) (hs:CU zs ws a b):DM ws 0 b (2*bs):=by
 obtain ⟨c,hc⟩:=hc
 exact h.more hc hb hs.ins hs.srt
theorem Ww {a bs:Nat} (hc:∃ c,a=c*(2*bs)):∃ c,a+2*bs=c*(2*bs):=by
 obtain ⟨c,rfl⟩:=hc
 exact ⟨c+1,(Nat.succ_mul c (2*bs)).symm⟩
def IC (xs:List Ap) (i:Nat):Prop:=∀ t x y,i≤t→xs[t]?=some x→xs[t+1]?=some y→Bl y.key x.key=false
theorem R3 {xs:List Ap} (h:IC xs 0):CZ xs:=by
 refine BU.ord ?_
 have key:∀ d p x y,xs[p]?=some x→xs[p+d+1]?=some y→Bl y.key x.key=false:=by
  intro d
  induction d with
  |zero=>intro p x y hx hy;exact h p x y (Nat.zero_le _) hx hy
  |succ d ih=>
   intro p x y hx hy
   have hl:p+d+1<xs.length:=by have:=(List.getElem?_eq_some_iff.1 hy).1;omega
   have hz:=List.getElem?_eq_getElem hl
   exact Ge (ih p x _ hx hz) (h (p+d+1) _ y (Nat.zero_le _) hz hy)
 intro p q x y _ h2 _ hx hy
 exact key (q - p - 1) p x y hx (by rw [show p+(q - p - 1)+1=q by omega];exact hy)
theorem Xb {xs:List Ap} {j:Nat} {x y:Ap} (ho:CZ xs) (hj:0<j) (hx:xs[j]?=some x) (hy:xs[j - 1]?=some y):Bl x.key y.key=false:=by
 unfold CZ at ho
 rw [List.pairwise_iff_getElem] at ho
 have l1:=List.getElem?_eq_some_iff.1 hx
 have l2:=List.getElem?_eq_some_iff.1 hy
 have:=ho (j - 1) j l2.1 l1.1 (by omega)
 rwa [l1.2,l2.2] at this
theorem R0 {xs:List Ap} {j:Nat} {x y:Ap} (h:IC xs j) (hj:0<j) (hx:xs[j]?=some x) (hy:xs[j - 1]?=some y) (hlt:Bl x.key y.key=false):IC xs (j - 1):=by
 intro t u v ht hu hv
 rcases Nat.lt_or_ge t j with c|c
 ·obtain rfl:t=j - 1:=by omega
  rw [hy] at hu
  rw [show j - 1+1=j by omega,hx] at hv
  obtain rfl:=Option.some.inj hu
  obtain rfl:=Option.some.inj hv
  exact hlt
 ·exact h t u v c hu hv
theorem RZ (xs:List Ap):IC xs (xs.length - 1):=fun t x y ht hx hy=>by
 have:=(List.getElem?_eq_some_iff.1 hy).1
 omega
def BT (ps:List Ap) (k:ByteArray):List ByteArray:=(ps.filter fun p=>decide (p.key=k)).map (·.val)
def DH (ps:List Ap):List ByteArray:=Gr (FY (ps.map (·.key)))
theorem Zp {xs ys:List Ap} (h:∀ k:ByteArray,xs.filter (fun p=>decide (p.key=k))=ys.filter (fun p=>decide (p.key=k))):B6 xs ys:=by
 refine ⟨List.Perm.length_eq (List.perm_iff_count.2 fun p=>?_),h⟩
 have e:∀ l:List Ap,l.count p=(l.filter fun q=>decide (q.key=p.key)).count p:=fun l=>(List.count_filter (by simp)).symm
 rw [e xs,e ys,h]
def Fi (xs:List Ap) (n:Int):Bool:=decide (¬ ((xs.length:Int)≤n∧∀ p∈xs,p.key.size≤100∧p.val.size≤100))
theorem OS {xs:List Ap} {n:Int} {k:Nat} {x:Ap} (hx:xs[k]?=some x) (h:100<x.key.size∨100<x.val.size):true=Fi xs n:=by
 have h3:¬ ((xs.length:Int)≤n∧∀ p∈xs,p.key.size≤100∧p.val.size≤100):=fun h2=>absurd (h2.2 x (List.mem_of_getElem? hx)) (by omega)
 exact (decide_eq_true h3).symm
theorem OR {xs:List Ap} {n:Int} {k:Nat} (hn:∀ y∈xs.take k,y.key.size≤100∧y.val.size≤100) (h:xs.length≤k∨n<(xs.length:Int)):decide (n<(xs.length:Int))=Fi xs n:=by
 refine decide_eq_decide.2 ⟨fun h1 h2=>by omega,fun h1=>?_⟩
 apply Classical.byContradiction
 intro h2
 refine h1 ⟨by omega,?_⟩
 rwa [List.take_of_length_le (by omega)] at hn
theorem WT (ps:List Ap) (k:ByteArray):(BT ps k).length≤ps.length:=by
 unfold BT
 rw [List.length_map]
 exact List.length_filter_le _ _
theorem WX {xs:List Ap} {key:ByteArray} {k:Nat} {x:Ap} (hx:xs[k]?=some x) (h:x.key=key):BT (xs.take (k+1)) key=BT (xs.take k) key++[x.val]:=by
 unfold BT
 rw [List.take_add_one,hx]
 simp [h]
theorem WW {xs:List Ap} {key:ByteArray} {k:Nat} {x:Ap} (hx:xs[k]?=some x) (h:¬ x.key=key):BT (xs.take (k+1)) key=BT (xs.take k) key:=by
 unfold BT
 rw [List.take_add_one,hx]
 simp [h]
theorem UF {xs:List Ap} {k:Nat} {x:Ap} (hx:xs[k]?=some x):(xs.take (k+1)).map (·.key)=(xs.take k).map (·.key)++[x.key]:=by
 rw [List.take_add_one,hx]
 simp
theorem MU (xs:List ByteArray):(FY xs).length=xs.length:=by simp [FY]
theorem SZ (xs:List ByteArray):(Gr xs).length≤xs.length:=by
 have:=NZ (xs.map Gw)
 simpa [Gr] using this
theorem UG (ps:List Ap):(DH ps).length≤ps.length:=by
 unfold DH
 have:=SZ (FY (ps.map (·.key)))
 rw [MU,List.length_map] at this
 exact this
def C_ (p:Ap):Prop:=p.key.size≤16∧p.val.size≤64
instance (p:Ap):Decidable (C_ p):=by unfold C_;infer_instance
def Hn (xs:List Ap):Prop:=∀ p∈xs,C_ p
instance (xs:List Ap):Decidable (Hn xs):=by unfold Hn;infer_instance
theorem Wm (xs:List Ap):(!(xs.any fun p=>!decide (C_ p)))=decide (Hn xs):=by
 rw [Bool.eq_iff_iff,decide_eq_true_iff]
 unfold Hn
 simp
theorem JI {α:Type} {l:List α} {x:α} (h:l[0]?=some x):l=x::l.drop 1:=by
 cases l with
 |nil=>simp at h
 |cons y l=>simp at h;subst h;rfl
theorem Wn {al bl:List Ap} {x y:Ap} (hx:al[0]?=some x) (hy:bl[0]?=some y) (ha:CZ al) (hb:CZ bl) (h:¬ Bl y.key x.key=true):srt (al++bl)=x::srt (al.drop 1++bl):=by
 have h':Bl y.key x.key=false:=by simpa using h
 have ea:=JI hx
 have eb:=JI hy
 rw [ea] at ha
 rw [eb] at hb
 obtain ⟨ha1,ha2⟩:=List.pairwise_cons.1 ha
 obtain ⟨hb1,hb2⟩:=List.pairwise_cons.1 hb
 refine (Jk ?_ ?_).symm
 ·have:B6 (x::(al.drop 1++bl)) (x::srt (al.drop 1++bl)):=B6.append (a:=[x]) (b:=[x]) (B6.refl _) (Gh _)
  rwa [←List.cons_append,←ea] at this
 ·refine List.pairwise_cons.2 ⟨fun q hq=>?_,Jl _⟩
  have hq':=(Gh (al.drop 1++bl)).symm.mem hq
  rcases List.mem_append.1 hq' with h1|h1
  ·exact ha1 q h1
  ·rw [eb] at h1
   rcases List.mem_cons.1 h1 with rfl|h2
   ·exact h'
   ·exact Ge h' (hb1 q h2)
theorem Wo {al bl:List Ap} {x y:Ap} (hx:al[0]?=some x) (hy:bl[0]?=some y) (ha:CZ al) (hb:CZ bl) (h:Bl y.key x.key=true):srt (al++bl)=y::srt (al++bl.drop 1):=by
 have ea:=JI hx
 have eb:=JI hy
 have ha0:=ha
 rw [ea] at ha0
 rw [eb] at hb
 obtain ⟨ha1,ha2⟩:=List.pairwise_cons.1 ha0
 obtain ⟨hb1,hb2⟩:=List.pairwise_cons.1 hb
 have hal:∀ q∈al,Bl y.key q.key=true:=by
  intro q hq
  rw [ea] at hq
  rcases List.mem_cons.1 hq with rfl|h2
  ·exact h
  ·exact PK h (ha1 q h2)
 refine (Jk ?_ ?_).symm
 ·have h1:B6 (al++bl) (y::(al++bl.drop 1)):=by
   refine Zp fun k=>?_
   rw [eb,List.drop_succ_cons,List.drop_zero,List.filter_append,List.filter_cons,List.filter_cons,List.filter_append]
   by_cases hk:y.key=k
   ·have:al.filter (fun p=>decide (p.key=k))=[]:=List.filter_eq_nil_iff.2 fun q hq=>by
     have:=hal q hq
     rw [hk] at this
     simp only [decide_eq_true_eq]
     intro e
     rw [e,GT] at this
     cases this
    simp [this,hk]
   ·simp [hk]
  exact h1.trans (B6.append (a:=[y]) (b:=[y]) (B6.refl _) (Gh _))
 ·refine List.pairwise_cons.2 ⟨fun q hq=>?_,Jl _⟩
  have hq':=(Gh (al++bl.drop 1)).symm.mem hq
  rcases List.mem_append.1 hq' with h1|h1
  ·exact Kh (hal q h1)
  ·exact hb1 q h1
theorem PV {al bl:List Ap} (ha:CZ al) (hb:CZ bl) (h:al.length=0∨bl.length=0):srt (al++bl)=al++bl:=by
 rcases h with h|h
 ·rw [List.eq_nil_of_length_eq_zero h];exact Rj hb
 ·rw [List.eq_nil_of_length_eq_zero h,List.append_nil];exact Rj ha
theorem Qh {al:List Ap} (ha:CZ al) (k:Nat):CZ (al.drop k):=List.Pairwise.sublist (List.drop_sublist k al) ha
def CP (us:List (Value×List Ap)):List Ap:=us.flatMap (·.2)
theorem Oo {us:List (Value×List Ap)} {k:Nat} {u:Value} {x:List Ap} (hx:us[k]?=some (u,x)):CP (us.take (k+1))=CP (us.take k)++x:=by
 unfold CP
 rw [Eo hx,List.flatMap_append]
 simp
theorem Om (a b:List (Value×List Ap)):CP (a++b)=CP a++CP b:=by simp [CP]
theorem On (us:List (Value×List Ap)) (k:Nat):(CP (us.take k)).length≤(CP us).length:=by
 have:(CP us).length=(CP (us.take k)).length+(CP (us.drop k)).length:=by rw [←List.length_append,←Om,List.take_append_drop]
 omega
theorem TJ (us:List (Value×List Ap)) (k:Nat):(CP (us.drop k)).length≤(CP us).length:=by
 have:(CP us).length=(CP (us.take k)).length+(CP (us.drop k)).length:=by rw [←List.length_append,←Om,List.take_append_drop]
 omega
theorem Zh (a b:List Ap):srt (srt a++b)=srt (a++b):=Zi (B6.append (Gh a).symm (B6.refl b))
theorem Ce {α:Type} {xs:List α} {k:Nat} {x:α} (h:xs[k]?=some x):x∈xs:=List.mem_of_getElem? h
structure EF where
 A:Option Addr
 n:Nat
 c:Nat
def IH (h:EF):List Value:=[.slice h.A h.n h.c]
def Dv:Kd EF:=flat IH 1 (by omega) (fun _=>rfl) (fun _ c h=>by simp [IH] at h;subst h;rfl)
def FA:Value→EF
 |.slice A n c=>⟨A,n,c⟩
 |_=>⟨none,0,0⟩
section
variable {w w0:World} {F F0:AJ} {As Rs:List SP} {α:Type} {d:Kd α}
theorem OV:∀ {us:List (Value×List α)} {cs:List Value},AW (Am d) w F us cs→∀ p∈us,(Z d p.1 p.2).P w F
 |[],_,_,p,hp=>by cases hp
 |q::us,_,⟨c,cs',e,h1,h2⟩,p,hp=>by
  cases hp with
  |head=>exact h1.2
  |tail _ hm=>exact OV h2 p hm
end
/-! ### Parts -/
def El (key:ByteArray):Nat→Int
 |0=>7
 |k+1=>IntKind.u32.wrap (IntKind.u32.wrap (31*El key k)+((key[k]?.getD 0).toNat:Int))
theorem aY (x:Int):0≤IntKind.u32.wrap x∧IntKind.u32.wrap x<4294967296:=by
 simp only [IntKind.wrap,IntKind.bits,IntKind.signed]
 simp
 omega
theorem Mk (key:ByteArray) (k:Nat):0≤El key k∧El key k<4294967296:=by
 cases k with
 |zero=>exact ⟨by simp [El],by simp [El]⟩
 |succ k=>exact aY _
def Kr (key:ByteArray) (n:Int):Int:=if n<1 then -1 else El key key.size%n
def E2 (xs:List Ap) (n p:Int):List Ap:=xs.filter fun x=>decide (Kr x.key n=p)
theorem W5 {xs:List Ap} {n p:Int} {k:Nat} {x:Ap} (hx:xs[k]?=some x) (h:Kr x.key n=p):E2 (xs.take (k+1)) n p=E2 (xs.take k) n p++[x]:=by
 unfold E2
 rw [Eo hx,List.filter_append]
 simp [h]
theorem WZ {xs:List Ap} {n p:Int} {k:Nat} {x:Ap} (hx:xs[k]?=some x) (h:¬ Kr x.key n=p):E2 (xs.take (k+1)) n p=E2 (xs.take k) n p:=by
 unfold E2
 rw [Eo hx,List.filter_append]
 simp [h]
theorem Qf (xs:List Ap) (n p:Int):(E2 xs n p).length≤xs.length:=List.length_filter_le ..
theorem WP {key:ByteArray} {k:Nat} {b:UInt8} (hb:key[k]?=some b):El key (k+1)=IntKind.u32.wrap (IntKind.u32.wrap (31*El key k)+(b.toNat:Int)):=by
 rw [El,hb]
 rfl
theorem bA (b:UInt8):IntKind.u32.wrap (b.toNat:Int)=(b.toNat:Int):=by
 have:=UInt8.toNat_lt b
 simp only [IntKind.wrap,IntKind.bits,IntKind.signed]
 simp
 omega
theorem NH {xs:List BG} (h:xs.length≤40):Dz xs<0↔∀ p∈xs,BL p xs.length:=by
 have e:xs.take 40=xs:=List.take_of_length_le h
 have h2:=Lr (Ew xs.length) xs
 unfold Dz
 rw [e]
 constructor
 ·intro hb p hp
  apply Classical.byContradiction
  intro hg
  have h3:xs.any (Ew xs.length)=true:=List.any_eq_true.2 ⟨p,hp,by simp [Ew,hg]⟩
  rw [h3] at h2
  rw [if_pos (of_decide_eq_true h2)] at hb
  have:=of_decide_eq_true h2
  omega
 ·intro hg
  have h3:xs.any (Ew xs.length)=false:=List.any_eq_false.2 (fun p hp=>by simp [Ew,hg p hp])
  rw [h3] at h2
  rw [if_neg (of_decide_eq_false h2),if_neg (by omega)]
  omega
theorem Hv {α:Type} {Q:α→Prop} {xs:List α} {k:Nat} {x:α} (hn:∀ y∈xs.take k,Q y) (hx:xs[k]?=some x) (h:Q x):∀ y∈xs.take (k+1),Q y:=by
 intro y hy
 rw [List.take_add_one,hx] at hy
 rcases List.mem_append.1 hy with hy|hy
 ·exact hn y hy
 ·obtain rfl:y=x:=by simpa using hy
  exact h
structure Bu where
 kind:Int
 part:Int
 sp:Int
 att:Int
 why:Int
 sv:Value
 set:List Int
 pv:Value
 pairs:List Ap
def Hi (r:Bu):List Value:=[.int .i64 r.kind,.int .i64 r.part,.int .i64 r.sp,.int .i64 r.att,.int .i64 r.why,r.sv,r.pv]
def B8:Kd Bu where
 sz:=7
 O w F x cs:=cs=Hi x∧∃ F1 F2:AJ,(∀ k,F1 k→F k)∧(∀ k,F2 k→F k)∧(∀ k,F1 k→¬ F2 k)∧(Bg (Ai .i64)).O w F1 x.set [x.sv]∧(Bg Ag).O w F2 x.pairs [x.pv]
 R w F x cs:=cs=Hi x∧(Bg (Ai .i64)).R w F x.set [x.sv]∧(Bg Ag).R w F x.pairs [x.pv]
 O_loc:=fun ⟨e,F1,F2,s1,s2,dj,h1,h2⟩ hk=>⟨e,F1,F2,s1,s2,dj,(Bg _).O_loc h1 (fun k x=>hk k (s1 k x)),(Bg _).O_loc h2 (fun k x=>hk k (s2 k x))⟩
 O_mono:=fun ⟨e,F1,F2,s1,s2,dj,h1,h2⟩ hk=>⟨e,F1,F2,fun k x=>hk k (s1 k x),fun k x=>hk k (s2 k x),dj,h1,h2⟩
 R_loc:=fun ⟨e,h1,h2⟩ hk=>⟨e,(Bg _).R_loc h1 hk,(Bg _).R_loc h2 hk⟩
 R_mono:=fun ⟨e,h1,h2⟩ hk=>⟨e,(Bg _).R_mono h1 hk,(Bg _).R_mono h2 hk⟩
 O_R:=fun ⟨e,F1,F2,s1,s2,dj,h1,h2⟩=>⟨e,(Bg _).R_mono ((Bg _).O_R h1) s1,(Bg _).R_mono ((Bg _).O_R h2) s2⟩
 len h:=by rw [h.1];rfl
 one:=fun ⟨e,h1,h2⟩ c hc=>by
  have g1:=(Bg _).one h1
  have g2:=(Bg _).one h2
  subst e
  simp only [Hi,List.mem_cons,List.not_mem_nil,or_false] at hc
  rcases hc with rfl|rfl|rfl|rfl|rfl|rfl|rfl
  ·rfl
  ·rfl
  ·rfl
  ·rfl
  ·rfl
  ·exact g1 _ (List.mem_cons_self ..)
  ·exact g2 _ (List.mem_cons_self ..)
 pos:=by omega
structure F8 where
 kind:Int
 part:Int
 sp:Int
 att:Int
 why:Int
 hs:EF
 hp:EF
def GO (r:F8):List Value:=[.int .i64 r.kind,.int .i64 r.part,.int .i64 r.sp,.int .i64 r.att,.int .i64 r.why,.slice r.hs.A r.hs.n r.hs.c,.slice r.hp.A r.hp.n r.hp.c]
def Gb:Kd F8:=flat GO 7 (by omega) (fun _=>rfl) (fun _ c h=>by
 simp only [GO,List.mem_cons,List.not_mem_nil,or_false] at h
 rcases h with rfl|rfl|rfl|rfl|rfl|rfl|rfl<;>rfl)
def Gj (r:Bu):F8:=⟨r.kind,r.part,r.sp,r.att,r.why,FA r.sv,FA r.pv⟩
section
variable {w w0:World} {F F0:AJ} {As Rs:List SP} {A:Option Addr} {m c:Nat}
theorem KB {us:List Bu} (h:(Z B8 (.slice A m c) us).P w F) {i:Nat} {x:Bu} (hx:us[i]?=some x):
  Fb A∧(∀ q u,(Hi x)[q]?=some u→w.cell? ⟨DW A,AP A+i*7+q,none⟩=some u)∧(Z (Ai .i64) x.sv x.set).P w F∧(Z Ag x.pv x.pairs).P w F:=by
 obtain ⟨b,off,cs,e,hl,hc,h1,h2,h3⟩:=Jb h hx
 subst h1 e
 exact ⟨rfl,hc,h2,h3⟩
theorem Ja {us:List Bu} (h:(Z B8 (.slice A m c) us).P w F) {i:Nat} {a1 a2 a3 a4 a5:Int} {sv pv:Value} {set:List Int} {pairs:List Ap} (hx:us[i]?=some ⟨a1,a2,a3,a4,a5,sv,set,pv,pairs⟩):(Z (Ai .i64) sv set).P w F:=(KB h hx).2.2.1
theorem QS {us:List Bu} (h:(Z B8 (.slice A m c) us).P w F) {i:Nat} {a1 a2 a3 a4 a5:Int} {sv pv:Value} {set:List Int} {pairs:List Ap} (hx:us[i]?=some ⟨a1,a2,a3,a4,a5,sv,set,pv,pairs⟩):(Z Ag pv pairs).P w F:=(KB h hx).2.2.2
theorem Hd.thRr {us:List Bu} (H:Hd w0 F0 w As Rs) (j:Nat) (hj:Rs[j]?=some (Z B8 (.slice A m c) us)) {i:Nat} {x:Bu} (hx:us[i]?=some x):Fb A:=H.factR (List.mem_of_getElem? hj) fun _ h=>(KB h hx).1
theorem Hd.nestRr {us:List Bu} (H:Hd w0 F0 w As Rs) (j:Nat) (hj:Rs[j]?=some (Z B8 (.slice A m c) us)) {i:Nat} {a1 a2 a3 a4 a5:Int} {sv pv:Value} {set:List Int} {pairs:List Ap} (hx:us[i]?=some ⟨a1,a2,a3,a4,a5,sv,set,pv,pairs⟩):
  ∃ A1 c1 A2 c2,sv=.slice A1 set.length c1∧pv=.slice A2 pairs.length c2∧set.length≤c1∧c1≤9223372036854775807∧pairs.length≤c2∧c2≤9223372036854775807:=by
 refine H.factR (List.mem_of_getElem? hj) fun _ h=>?_
 obtain ⟨A1,c1,e1,g1,g2,_⟩:=DZ (Ja h hx)
 obtain ⟨A2,c2,e2,g3,g4,_⟩:=DZ (QS h hx)
 exact ⟨A1,c1,A2,c2,e1,e2,g1,g2,g3,g4⟩
theorem QY:∀ {us:List Bu} {cs:List Value},AW B8 w F us cs→AW Gb w F (us.map Gj) cs
 |[],_,h=>h
 |x::us,_,⟨c,cs',e,⟨h1,h2,h3⟩,h4⟩=>by
  obtain ⟨A1,c1,e1,_⟩:=DZ (d:=Ai .i64) (w:=w) (F:=F) h2
  obtain ⟨A2,c2,e2,_⟩:=DZ (d:=Ag) (w:=w) (F:=F) h3
  exact ⟨c,cs',e,show c=GO (Gj x) by rw [h1];simp [Hi,GO,Gj,FA,e1,e2],QY h4⟩
theorem Ye {v:Value} {us:List Bu} (h:(Z B8 v us).P w F):(Z Gb v (us.map Gj)).P w F:=by
 obtain ⟨A',n',c',e,h1,h2,h3,cs,h4,h5⟩:=h
 exact ⟨A',n',c',e,by rw [List.length_map,h1],h2,h3,cs,h4,QY h5⟩
theorem Hd.recs {v:Value} {us:List Bu} (H:Hd w0 F0 w As Rs) (j:Nat) (hj:Rs[j]?=some (Z B8 v us)):∃ fs:List F8,fs.length=us.length∧Hd w0 F0 w As (Z Gb v fs::Rs):=
 ⟨us.map Gj,List.length_map ..,H.addR fun _ h=>Ye (h _ (List.mem_of_getElem? hj))⟩
theorem Hd.elsRr {us:List Bu} (H:Hd w0 F0 w As Rs) (j:Nat) (hj:Rs[j]?=some (Z B8 (.slice A m c) us)) {i:Nat} {x:Bu} (hx:us[i]?=some x) {p:Nat} (hpj:AP A+i*7=p):∀ q v,(Hi x)[q]?=some v→w.cell? ((⟨DW A,p,none⟩:Addr).add q)=some v:=by
 intro q v hq
 rw [Ek,←hpj]
 exact H.factR (List.mem_of_getElem? hj) fun F h=>(KB h hx).2.1 q v hq
end
section
variable {P:Program} {t:TypeId}
end
/-! ### What records say -/
theorem Fe {α:Type} {xs:List α} {k:Nat} {x:α} (hx:xs[k]?=some x):xs.drop k=x::xs.drop (k+1):=by
 have hlt:k<xs.length:=by
  rcases Nat.lt_or_ge k xs.length with h|h
  ·exact h
  ·simp [List.getElem?_eq_none h] at hx
 rw [List.drop_eq_getElem_cons hlt]
 rw [List.getElem?_eq_getElem hlt] at hx
 rw [Option.some.inj hx]
theorem Hh {s:ByteArray} {i:Nat} {c:UInt8} (h:s[i]?=some c):s.data.toList[i]?=some c:=by
 rw [getElem?_def] at h
 split at h
 ·rename_i hi
  have e:s[i]=c:=Option.some.inj h
  rw [←e,Array.getElem?_toList,Array.getElem?_eq_getElem (show i<s.data.size from hi)]
  rfl
 ·cases h
theorem Hj (c:UInt8) (v:AQ):Fy c v=!((decide ((c.toNat:Int)=110) && v.t)||(decide ((c.toNat:Int)=98) && !v.t)):=by
 have h:∀ d:UInt8,(c==d)=decide ((c.toNat:Int)=(d.toNat:Int)):=by
  intro d
  rw [Bool.eq_iff_iff,beq_iff_eq,decide_eq_true_eq]
  constructor
  ·rintro rfl;rfl
  ·intro h
   exact UInt8.toNat_inj.1 (by omega)
 unfold Fy
 rw [h,h]
 rfl
theorem JN {ks:List UInt8} {xs:List AQ} {i:Nat} {c:UInt8} {x:AQ} (hk:ks[i]?=some c) (hx:xs[i]?=some x) (hb:Fy c x=true):EY (ks.drop (i+1)) (xs.drop (i+1))=EY (ks.drop i) (xs.drop i):=by
 rw [Fe hk,Fe hx]
 simp [EY,hb]
theorem Lv {ks:List UInt8} {xs:List AQ} {i:Nat} {c:UInt8} {x:AQ} (hk:ks[i]?=some c) (hx:xs[i]?=some x) (hb:Fy c x=false):EY (ks.drop i) (xs.drop i)=false:=by
 rw [Fe hk,Fe hx]
 simp [EY,hb]
theorem TI {ks:List UInt8} {xs:List AQ} {i:Nat} (h:xs.length≤i):EY (ks.drop i) (xs.drop i)=true:=by
 rw [List.drop_eq_nil_of_le h]
 cases ks.drop i<;>rfl
theorem Mj {op:Int} {stk:List AQ} (h:stk.length<(Be op).size):Aw op stk=(1,stk,[]):=if_pos h
theorem IZ {op:Int} {stk:List AQ} (h:¬ stk.length<(Be op).size) (h2:EY (Be op).data.toList (stk.drop (stk.length - (Be op).size))=false):Aw op stk=(2,stk,[]):=by
 unfold Aw
 rw [if_neg h,if_neg (by rw [h2];decide)]
theorem Mh {op:Int} {stk:List AQ} (h:¬ stk.length<(Be op).size) (h2:EY (Be op).data.toList (stk.drop (stk.length - (Be op).size))=true):Aw op stk=(0,stk.take (stk.length - (Be op).size),stk.drop (stk.length - (Be op).size)):=by
 unfold Aw
 rw [if_neg h,if_pos h2]
theorem Mi {op:Int} {stk:List AQ} (h:(Aw op stk).1=0):(Aw op stk).2.2.length=(Be op).size∧(Aw op stk).2.1.length≤stk.length∧(∀ v∈(Aw op stk).2.2,v∈stk)∧(∀ v∈(Aw op stk).2.1,v∈stk):=by
 by_cases h1:stk.length<(Be op).size
 ·rw [Mj h1] at h;cases h
 ·cases h2:EY (Be op).data.toList (stk.drop (stk.length - (Be op).size)) with
  |false=>rw [IZ h1 h2] at h;cases h
  |true=>
   rw [Mh h1 h2]
   refine ⟨by simp only [List.length_drop];omega,by simp only [List.length_take];omega,fun v hv=>List.mem_of_mem_drop hv,fun v hv=>List.mem_of_mem_take hv⟩
theorem XH {stk vs:List AQ} {k:Nat} {x:AQ} (hx:vs[k]?=some x) (h:EJ x=true):Bh stk vs=(4,stk):=by
 unfold Bh
 rw [if_pos (List.any_eq_true.2 ⟨x,Ce hx,h⟩)]
theorem NG {vs:List AQ} (hn:∀ y∈vs,EJ y=false):¬ vs.any EJ=true:=by
 intro h
 obtain ⟨x,h1,h2⟩:=List.any_eq_true.1 h
 rw [hn x h1] at h2
 cases h2
theorem XJ {stk vs:List AQ} (hn:∀ y∈vs,EJ y=false) (h:16<stk.length+vs.length):Bh stk vs=(1,stk):=by
 unfold Bh
 rw [if_neg (NG hn),if_pos h]
theorem XI {stk vs:List AQ} (hn:∀ y∈vs,EJ y=false) (h:¬ 16<stk.length+vs.length):Bh stk vs=(0,stk++vs):=by
 unfold Bh
 rw [if_neg (NG hn),if_neg h]
theorem XK (stk vs:List AQ) (h:stk.length≤16):(Bh stk vs).2.length≤16:=by
 unfold Bh
 split
 ·exact h
 ·split
  ·exact h
  ·simp only [List.length_append];omega
theorem Sp {v:AQ} (h1:v.t=true) (h2:(64:Int)<(v.b.size:Int)):EJ v=true:=by
 unfold EJ
 rw [h1,decide_eq_true (by omega)]
 rfl
theorem NN {v:AQ} (h:v.t=false∨¬ (64:Int)<(v.b.size:Int)):EJ v=false:=by
 unfold EJ
 rcases h with h|h
 ·rw [h];rfl
 ·rw [decide_eq_false (by omega),Bool.and_false]
theorem Ti {told:List Ap} {k v:ByteArray} (h:(16:Int)<(k.size:Int)):DY told k v=(4,told):=if_pos (by omega)
theorem Tl {told:List Ap} {k v:ByteArray} (h:¬ (16:Int)<(k.size:Int)) (h2:40≤told.length):DY told k v=(5,told):=by
 unfold DY
 rw [if_neg (by omega),if_pos h2]
theorem Tj {told:List Ap} {k v:ByteArray} (h:¬ (16:Int)<(k.size:Int)) (h2:¬ 40≤told.length):DY told k v=(0,told++[⟨k,v⟩]):=by
 unfold DY
 rw [if_neg (by omega),if_neg h2]
def C6 {α:Type} (d:Kd α) (v:Value) (xs:List α) (v2:Value) (ys:List α):Prop:=∀ (w:World) (F:AJ),(Z d v xs).P w F→(Z d v2 ys).P w F
theorem C6.refl {α:Type} (d:Kd α) (v:Value) (xs:List α):C6 d v xs v xs:=fun _ _ h=>h
def Fk (stk:List AQ):List ByteArray→Int×List AQ×List ByteArray
 |[]=>((Bh stk [Dc 0]).1,(Bh stk [Dc 0]).2,[])
 |v::vs=>((Bh stk [ED v,Dc 1]).1,(Bh stk [ED v,Dc 1]).2,vs)
theorem WJ {stk:List AQ} {vals:List ByteArray} {x:ByteArray} (hx:vals[0]?=some x):Fk stk vals=((Bh stk [ED x,Dc 1]).1,(Bh stk [ED x,Dc 1]).2,vals.drop 1):=by
 cases vals with
 |nil=>simp at hx
 |cons y vs=>simp at hx;subst hx;rfl
theorem UH (op:Int):
    Cn Tryz.prog 302 [.int .i64 op] [] [] (fun v Bs=>v=.string (Be op)∧Bs=[]):=by
 intro w0 F0 H
 refine enter Tryz.func302 U U (Nat.le_of_ble_eq_true U) (Ab (Ae (Ad U (Ac (Aa (Ab (Ab (Ae (Ad U (Ac (Aa (AS (Ab (Ab (Ae (V U U (Bb U U U) (Ad U (Ac (Aa ?_)))))))))))))))))))
 refine Ax U (fun h1=>?_) (fun h1=>?_)
 ·refine Av (Aa ?_)
  refine Ax U (fun h2=>?_) (fun h2=>?_)
  ·exact Ab (Ae (Ad U (Ac (Aa (An (A0 (Az (Aq U U (Al ⟨congrArg Value.string (by unfold Be;repeat (first |rw [if_pos (by omega)]|rw [if_neg (by omega)])),rfl⟩ H)))))))))
  exact absurd h1 h2
 refine Ab (Ae (V U U (Bb U U U) (Ad U (Ac (Aa ?_)))))
 refine Ax U (fun h3=>?_) (fun h3=>?_)
 ·refine Av (Aa ?_)
  refine Ax U (fun h4=>?_) (fun h4=>?_)
  ·exact Ab (Ae (Ad U (Ac (Aa (An (A0 (Az (Aq U U (Al ⟨congrArg Value.string (by unfold Be;repeat (first |rw [if_pos (by omega)]|rw [if_neg (by omega)])),rfl⟩ H)))))))))
  exact absurd h3 h4
 refine Ae (V U U (Bb U U U) (Ad U (Ac (Aa ?_))))
 refine Ax U (fun h5=>?_) (fun h5=>?_)
 ·exact Ab (Ae (Ad U (Ac (Aa (An (A0 (Az (Aq U U (Al ⟨congrArg Value.string (by unfold Be;repeat (first |rw [if_pos (by omega)]|rw [if_neg (by omega)])),rfl⟩ H)))))))))
 refine Ab (Ab (Ae (V U U (Bb U U U) (Ad U (Ac (Aa ?_))))))
 refine Ax U (fun h6=>?_) (fun h6=>?_)
 ·refine Av (Aa ?_)
  refine Ax U (fun h7=>?_) (fun h7=>?_)
  ·exact Ab (Ae (Ad U (Ac (Aa (An (A0 (Az (Aq U U (Al ⟨congrArg Value.string (by unfold Be;repeat (first |rw [if_pos (by omega)]|rw [if_neg (by omega)])),rfl⟩ H)))))))))
  exact absurd h6 h7
 refine Ae (V U U (Bb U U U) (Ad U (Ac (Aa ?_))))
 refine Ax U (fun h8=>?_) (fun h8=>?_)
 ·exact Ab (Ae (Ad U (Ac (Aa (An (A0 (Az (Aq U U (Al ⟨congrArg Value.string (by unfold Be;repeat (first |rw [if_pos (by omega)]|rw [if_neg (by omega)])),rfl⟩ H)))))))))
 refine Ab (Ab (Ae (V U U (Bb U U U) (Ad U (Ac (Aa ?_))))))
 refine Ax U (fun h9=>?_) (fun h9=>?_)
 ·refine Av (Aa ?_)
  refine Ax U (fun h10=>?_) (fun h10=>?_)
  ·exact Ab (Ae (Ad U (Ac (Aa (An (A0 (Az (Aq U U (Al ⟨congrArg Value.string (by unfold Be;repeat (first |rw [if_pos (by omega)]|rw [if_neg (by omega)])),rfl⟩ H)))))))))
  exact absurd h9 h10
 refine Ab (Ae (V U U (Bb U U U) (Ad U (Ac (Aa ?_)))))
 refine Ax U (fun h11=>?_) (fun h11=>?_)
 ·refine Av (Aa ?_)
  refine Ax U (fun h12=>?_) (fun h12=>?_)
  ·exact Ab (Ae (Ad U (Ac (Aa (An (A0 (Az (Aq U U (Al ⟨congrArg Value.string (by unfold Be;repeat (first |rw [if_pos (by omega)]|rw [if_neg (by omega)])),rfl⟩ H)))))))))
  exact absurd h11 h12
 refine Ab (Ae (V U U (Bb U U U) (Ad U (Ac (Aa ?_)))))
 refine Ax U (fun h13=>?_) (fun h13=>?_)
 ·refine Av (Aa ?_)
  refine Ax U (fun h14=>?_) (fun h14=>?_)
  ·exact Ab (Ae (Ad U (Ac (Aa (An (A0 (Az (Aq U U (Al ⟨congrArg Value.string (by unfold Be;repeat (first |rw [if_pos (by omega)]|rw [if_neg (by omega)])),rfl⟩ H)))))))))
  exact absurd h13 h14
 refine Ae (V U U (Bb U U U) (Ad U (Ac (Aa ?_))))
 refine Ax U (fun h15=>?_) (fun h15=>?_)
 ·exact Ab (Ae (Ad U (Ac (Aa (An (A0 (Az (Aq U U (Al ⟨congrArg Value.string (by unfold Be;repeat (first |rw [if_pos (by omega)]|rw [if_neg (by omega)])),rfl⟩ H)))))))))
 refine Ab (Ab (Ae (V U U (Bb U U U) (Ad U (Ac (Aa ?_))))))
 refine Ax U (fun h16=>?_) (fun h16=>?_)
 ·refine Av (Aa ?_)
  refine Ax U (fun h17=>?_) (fun h17=>?_)
  ·exact Ab (Ae (Ad U (Ac (Aa (An (A0 (Az (Aq U U (Al ⟨congrArg Value.string (by unfold Be;repeat (first |rw [if_pos (by omega)]|rw [if_neg (by omega)])),rfl⟩ H)))))))))
  exact absurd h16 h17
 refine Ae (V U U (Bb U U U) (Ad U (Ac (Aa ?_))))
 refine Ax U (fun h18=>?_) (fun h18=>?_)
 ·exact Ab (Ae (Ad U (Ac (Aa (An (A0 (Az (Aq U U (Al ⟨congrArg Value.string (by unfold Be;repeat (first |rw [if_pos (by omega)]|rw [if_neg (by omega)])),rfl⟩ H)))))))))
 refine Ab (Ab (Ae (V U U (Bb U U U) (Ad U (Ac (Aa ?_))))))
 refine Ax U (fun h19=>?_) (fun h19=>?_)
 ·refine Av (Aa ?_)
  refine Ax U (fun h20=>?_) (fun h20=>?_)
  ·exact Ab (Ae (Ad U (Ac (Aa (An (A0 (Az (Aq U U (Al ⟨congrArg Value.string (by unfold Be;repeat (first |rw [if_pos (by omega)]|rw [if_neg (by omega)])),rfl⟩ H)))))))))
  exact absurd h19 h20
 refine Ae (V U U (Bb U U U) (Ad U (Ac (Aa ?_))))
 refine Ax U (fun h21=>?_) (fun h21=>?_)
 ·exact Ab (Ae (Ad U (Ac (Aa (An (A0 (Az (Aq U U (Al ⟨congrArg Value.string (by unfold Be;repeat (first |rw [if_pos (by omega)]|rw [if_neg (by omega)])),rfl⟩ H)))))))))
 refine Ab (Ae (V U U (Bb U U U) (Ad U (Ac (Aa ?_)))))
 refine Ax U (fun h22=>?_) (fun h22=>?_)
 ·exact Ab (Ae (Ad U (Ac (Aa (An (A0 (Az (Aq U U (Al ⟨congrArg Value.string (by unfold Be;repeat (first |rw [if_pos (by omega)]|rw [if_neg (by omega)])),rfl⟩ H)))))))))
 refine Ab (Ae (V U U (Bb U U U) (Ad U (Ac (Aa ?_)))))
 refine Ax U (fun h23=>?_) (fun h23=>?_)
 ·exact Ab (Ae (Ad U (Ac (Aa (An (A0 (Az (Aq U U (Al ⟨congrArg Value.string (by unfold Be;repeat (first |rw [if_pos (by omega)]|rw [if_neg (by omega)])),rfl⟩ H)))))))))
 refine Ab (Ab (Ae (V U U (Bb U U U) (Ad U (Ac (Aa ?_))))))
 refine Ax U (fun h24=>?_) (fun h24=>?_)
 ·refine Av (Aa ?_)
  refine Ax U (fun h25=>?_) (fun h25=>?_)
  ·exact Ab (Ae (Ad U (Ac (Aa (An (A0 (Az (Aq U U (Al ⟨congrArg Value.string (by unfold Be;repeat (first |rw [if_pos (by omega)]|rw [if_neg (by omega)])),rfl⟩ H)))))))))
  exact absurd h24 h25
 refine Ae (V U U (Bb U U U) (Ad U (Ac (Aa ?_))))
 refine Ax U (fun h26=>?_) (fun h26=>?_)
 ·exact Ab (Ae (Ad U (Ac (Aa (An (A0 (Az (Aq U U (Al ⟨congrArg Value.string (by unfold Be;repeat (first |rw [if_pos (by omega)]|rw [if_neg (by omega)])),rfl⟩ H)))))))))
 exact Av (AU (Aa (Ab (Ae (Ad U (Ac (Aa (An (Aq U U (Al ⟨congrArg Value.string (by unfold Be;repeat (first |rw [if_pos (by omega)]|rw [if_neg (by omega)])),rfl⟩ H))))))))))
theorem F5 (n:Int):
    Cn Tryz.prog 266 [.int .i64 n] [] [] (fun v Bs=>v=.agg #[.bool false,.int .i64 n,.string ⟨#[]⟩]∧Bs=[]):=by
 intro w0 F0 H
 refine enter Tryz.func266 U U (Nat.le_of_ble_eq_true U) (Ab (Ae (Dg U U U Do H (fun b1 w H=>(Ac (Aa ?_))))))
 replace H:Hd _ _ _ [blk b1 [.bool false,.int .i64 0,.string ⟨#[]⟩] 284] []:=H
 refine Ab (Ae (Ad U (V U U (Co (parts:=[(1,.tmp 3)]) (vs:=[.int .i64 n]) (cs:=[.bool false,.int .i64 n,.string ⟨#[]⟩]) U NL U U) (BE U U U Da U U H U (Nat.le_of_ble_eq_true U) (fun u hu=>by simp [Value.cells] at hu;rcases hu with rfl|rfl|rfl<;>rfl) (fun w H=>?_)))))
 replace H:=H.h1 (A:=blk b1 [.bool false,.int .i64 n,.string ⟨#[]⟩] 284)
 refine Ac (Aa (An (FD (cs:=[.bool false,.int .i64 n,.string ⟨#[]⟩]) U U Da U (H.cellsI 0 U U) ?_)))
 replace H:=H.nil
 exact Al ⟨rfl,rfl⟩ H
theorem Ix (s:ByteArray):
    Cn Tryz.prog 267 [.string s] [] [] (fun v Bs=>v=.agg #[.bool true,.int .i64 0,.string s]∧Bs=[]):=by
 intro w0 F0 H
 refine enter Tryz.func267 U U (Nat.le_of_ble_eq_true U) (Ab (Ae (Dg U U U Do H (fun b1 w H=>(Ac (Aa ?_))))))
 replace H:Hd _ _ _ [blk b1 [.bool false,.int .i64 0,.string ⟨#[]⟩] 284] []:=H
 refine Ab (Ae (Ad U (V U U (Co (parts:=[(0,.const (.bool true)),(2,.tmp 3)]) (vs:=[.bool true,.string s]) (cs:=[.bool true,.int .i64 0,.string s]) U NL U U) (BE U U U Da U U H U (Nat.le_of_ble_eq_true U) (fun u hu=>by simp [Value.cells] at hu;rcases hu with rfl|rfl|rfl<;>rfl) (fun w H=>?_)))))
 replace H:=H.h1 (A:=blk b1 [.bool true,.int .i64 0,.string s] 284)
 refine Ac (Aa (An (FD (cs:=[.bool true,.int .i64 0,.string s]) U U Da U (H.cellsI 0 U U) ?_)))
 replace H:=H.nil
 exact Al ⟨rfl,rfl⟩ H
theorem Qe (b:Bool):
    Cn Tryz.prog 270 [.bool b] [] [] (fun v Bs=>v=.agg #[.bool false,.int .i64 (if b=true then 1 else 0),.string ⟨#[]⟩]∧Bs=[]):=by
 intro w0 F0 H
 refine enter Tryz.func270 U U (Nat.le_of_ble_eq_true U) (Ab (Ae (Dg U U U Do H (fun b1 w H=>(Ac (Aa ?_))))))
 replace H:Hd _ _ _ [blk b1 [.bool false,.int .i64 0,.string ⟨#[]⟩] 284] []:=H
 refine Ab (Ab (Ae (Ad U (Ac (Aa ?_)))))
 refine DN (b:=b) U (fun h2=>?_) (fun h2=>?_)
 ·refine Ab (Ae (sc (F5 1) H l0 U U (At FQ U U) ?_))
  rintro _ _ w ⟨rfl,rfl⟩ H
  refine BE U U U Da U U H U (Nat.le_of_ble_eq_true U) (fun u hu=>by simp [Value.cells] at hu;rcases hu with rfl|rfl|rfl<;>rfl) (fun w H=>?_)
  replace H:=H.h1 (A:=blk b1 [.bool false,.int .i64 1,.string ⟨#[]⟩] 284)
  refine Ac (Aa (An (Az (FD (cs:=[.bool false,.int .i64 1,.string ⟨#[]⟩]) U U Da U (H.cellsI 0 U U) ?_))))
  replace H:=H.nil
  exact Al ⟨by simp only [h2];rfl,rfl⟩ H
 refine Av (Aa (Ab (Ae (sc (F5 0) H l0 U U (At FQ U U) ?_))))
 rintro _ _ w ⟨rfl,rfl⟩ H
 refine BE U U U Da U U H U (Nat.le_of_ble_eq_true U) (fun u hu=>by simp [Value.cells] at hu;rcases hu with rfl|rfl|rfl<;>rfl) (fun w H=>(Ac (Aa (An (FD (cs:=[.bool false,.int .i64 0,.string ⟨#[]⟩]) U U Da U (H.cellsI 0 U U) ?_)))))
 replace H:=H.nil
 exact Al ⟨by simp only [h2];rfl,rfl⟩ H
theorem Ko (op:Int) (a:Int) (b:Int):
    Cn Tryz.prog 269 [.int .i64 op,.int .i64 a,.int .i64 b] [] [] (fun v Bs=>v=.agg #[.bool ((BA op a b).t),.int .i64 ((BA op a b).n),.string ((BA op a b).b)]∧Bs=[]):=by
 intro w0 F0 H
 refine enter Tryz.func269 U U (Nat.le_of_ble_eq_true U) (Ab (Ae (Dg U U U Do H (fun b1 w H=>(Ac (Aa ?_))))))
 replace H:Hd _ _ _ [blk b1 [.bool false,.int .i64 0,.string ⟨#[]⟩] 284] []:=H
 refine Ab (Ab (Ae (Ad U (Ac (Aa (AS (Ab (Ae (V U U (Bb U U U) (Ad U (Ac (Aa ?_))))))))))))
 refine Ax U (fun h2=>?_) (fun h2=>?_)
 ·refine Ab (Ae (Ah 2 U (V U U (AT (z:=IntKind.i64.wrap (a+b)) U U U U) (sc (F5 (IntKind.i64.wrap (a+b))) H l0 U U (At FQ U U) ?_))))
  rintro _ _ w ⟨rfl,rfl⟩ H
  refine BE U U U Da U U H U (Nat.le_of_ble_eq_true U) (fun u hu=>by simp [Value.cells] at hu;rcases hu with rfl|rfl|rfl<;>rfl) (fun w H=>?_)
  replace H:=H.h1 (A:=blk b1 [.bool false,.int .i64 (IntKind.i64.wrap (a+b)),.string ⟨#[]⟩] 284)
  refine Ac (Aa (An (A0 (Az (FD (cs:=[.bool false,.int .i64 (IntKind.i64.wrap (a+b)),.string ⟨#[]⟩]) U U Da U (H.cellsI 0 U U) ?_)))))
  have e:BA op a b=Dc (IntKind.i64.wrap (a+b)):=by unfold BA;rw [if_pos h2]
  replace H:=H.nil
  exact Al ⟨by rw [e];rfl,rfl⟩ H
 refine Ab (Ae (V U U (Bb U U U) (Ad U (Ac (Aa ?_)))))
 refine Ax U (fun h3=>?_) (fun h3=>?_)
 ·refine Ab (Ae (Ah 2 U (V U U (CK (z:=IntKind.i64.wrap (a - b)) U U U U) (sc (F5 (IntKind.i64.wrap (a - b))) H l0 U U (At FQ U U) ?_))))
  rintro _ _ w ⟨rfl,rfl⟩ H
  refine BE U U U Da U U H U (Nat.le_of_ble_eq_true U) (fun u hu=>by simp [Value.cells] at hu;rcases hu with rfl|rfl|rfl<;>rfl) (fun w H=>?_)
  replace H:=H.h1 (A:=blk b1 [.bool false,.int .i64 (IntKind.i64.wrap (a - b)),.string ⟨#[]⟩] 284)
  refine Ac (Aa (An (A0 (Az (FD (cs:=[.bool false,.int .i64 (IntKind.i64.wrap (a - b)),.string ⟨#[]⟩]) U U Da U (H.cellsI 0 U U) ?_)))))
  have e:BA op a b=Dc (IntKind.i64.wrap (a - b)):=by unfold BA;rw [if_neg h2,if_pos h3]
  replace H:=H.nil
  exact Al ⟨by rw [e];rfl,rfl⟩ H
 refine Ab (Ae (V U U (Bb U U U) (Ad U (Ac (Aa ?_)))))
 refine Ax U (fun h4=>?_) (fun h4=>?_)
 ·refine Ab (Ae (Ah 2 U (V U U (GX (z:=IntKind.i64.wrap (a*b)) U U U U) (sc (F5 (IntKind.i64.wrap (a*b))) H l0 U U (At FQ U U) ?_))))
  rintro _ _ w ⟨rfl,rfl⟩ H
  refine BE U U U Da U U H U (Nat.le_of_ble_eq_true U) (fun u hu=>by simp [Value.cells] at hu;rcases hu with rfl|rfl|rfl<;>rfl) (fun w H=>?_)
  replace H:=H.h1 (A:=blk b1 [.bool false,.int .i64 (IntKind.i64.wrap (a*b)),.string ⟨#[]⟩] 284)
  refine Ac (Aa (An (A0 (Az (FD (cs:=[.bool false,.int .i64 (IntKind.i64.wrap (a*b)),.string ⟨#[]⟩]) U U Da U (H.cellsI 0 U U) ?_)))))
  have e:BA op a b=Dc (IntKind.i64.wrap (a*b)):=by unfold BA;rw [if_neg h2,if_neg h3,if_pos h4]
  replace H:=H.nil
  exact Al ⟨by rw [e];rfl,rfl⟩ H
 refine Av (AU (Aa (Ab (Ae (Ah 2 U (V U U (Bd U U U) (sc (Qe (decide (a<b))) H l0 U U (At Ps U U) ?_)))))))
 rintro _ _ w ⟨rfl,rfl⟩ H
 refine BE U U U Da U U H U (Nat.le_of_ble_eq_true U) (fun u hu=>by simp [Value.cells] at hu;rcases hu with rfl|rfl|rfl<;>rfl) (fun w H=>?_)
 replace H:=H.h1 (A:=blk b1 [.bool false,.int .i64 (if (decide (a<b))=true then 1 else 0),.string ⟨#[]⟩] 284)
 refine Ac (Aa (An (FD (cs:=[.bool false,.int .i64 (if (decide (a<b))=true then 1 else 0),.string ⟨#[]⟩]) U U Da U (H.cellsI 0 U U) ?_)))
 have e:BA op a b=Dc (if a<b then 1 else 0):=by unfold BA;rw [if_neg h2,if_neg h3,if_neg h4]
 replace H:=H.nil
 exact Al ⟨by rw [e];simp [Dc],rfl⟩ H
theorem Z6 (a:AQ) (b:AQ):
    Cn Tryz.prog 271 [.agg #[.bool a.t,.int .i64 a.n,.string a.b],.agg #[.bool b.t,.int .i64 b.n,.string b.b]] [] [] (fun v Bs=>v=.bool (EB a b)∧Bs=[]):=by
 intro w0 F0 H
 refine enter Tryz.func271 U U (Nat.le_of_ble_eq_true U) (Ab (Ae (CA U U U U H (fun b1 w H=>(CA U U U U H (fun b2 w H=>(Ad U (Ac (Aa ?_)))))))))
 replace H:Hd _ _ _ [blk b2 [.bool b.t,.int .i64 b.n,.string b.b] 284,blk b1 [.bool a.t,.int .i64 a.n,.string a.b] 284] []:=H
 refine Ab (Ab (Ae (V U U (Aj U Hl U) (V U U (Ak U EU U (H.cellI 1 U U)) (Ac (Aa ?_))))))
 refine DN (b:=a.t) U (fun h3=>?_) (fun h3=>?_)
 ·refine Ab (Ae (V U U (Aj U Hl U) (V U U (Ak U EU U (H.cellI 0 U U)) (Ad U ?_))))
  refine E3 (d:=9) (b:=b.t) U (fun h4=>?_) (fun h4=>?_)
  ·refine V U U (Aj U FP U) (V U U (Ak U BV U (H.cellI 1 U U)) (V U U (Aj U FP U) (V U U (Ak U BV U (H.cellI 0 U U)) (V U U (MC U U U) (Ah 2 U (Ac (Aa (An (Az (Aq U U ?_))))))))))
   replace H:=H.nil
   exact Al ⟨congrArg Value.bool (by unfold EB;simp [h3,h4]),rfl⟩ H
  refine Ah 7 U (Ac (Aa (An (Az (Aq U U ?_)))))
  replace H:=H.nil
  exact Al ⟨congrArg Value.bool (by unfold EB;simp [h3,h4]),rfl⟩ H
 refine Av (Aa (Ab (Ae (V U U (Aj U Hl U) (V U U (Ak U EU U (H.cellI 0 U U)) (V U U (FW U U U) (Ad U ?_)))))))
 refine E3 (d:=19) (b:=!b.t) U (fun h5=>?_) (fun h5=>?_)
 ·refine V U U (Aj U EM U) (V U U (Ak U D1 U (H.cellI 1 U U)) (V U U (Aj U EM U) (V U U (Ak U D1 U (H.cellI 0 U U)) (V U U (Bb U U U) (Ah 2 U (Ac (Aa (An (Aq U U ?_)))))))))
  replace H:=H.nil
  exact Al ⟨congrArg Value.bool (by unfold EB;simp [h3,h5]),rfl⟩ H
 refine Ah 7 U (Ac (Aa (An (Aq U U ?_))))
 replace H:=H.nil
 exact Al ⟨congrArg Value.bool (by unfold EB;simp [h3,h5]),rfl⟩ H
theorem Z4 (s:ByteArray) (i:Int):
    Cn Tryz.prog 272 [.string s,.int .i64 i] [] [] (fun v Bs=>v=.int .i64 (EH s i)∧Bs=[]):=by
 intro w0 F0 H
 refine enter Tryz.func272 U U (Nat.le_of_ble_eq_true U) (Ab (Ae (Ad U (Ac (Aa (Ab (Ab (Ae (Ad U (V U U (Bd U U U) (Ad U ?_)))))))))))
 refine AK (d:=7) U (fun h1=>?_) (fun h1=>?_)
 ·exact Ah 5 U (Ac (Aa (Cw U (Ab (Ae (Ad U (Ac (Aa (An (Az (Aq U U (Al ⟨congrArg (Value.int .i64) (if_pos (by omega)).symm,rfl⟩ H))))))))))))
 refine Ah 2 U (V U U (Dp U CF U) (V U U (CR U U U) (Ad U (Ac (Aa ?_)))))
 refine Ax U (fun h2=>?_) (fun h2=>?_)
 ·exact Ab (Ae (Ad U (Ac (Aa (An (Az (Aq U U (Al ⟨congrArg (Value.int .i64) (if_pos (by omega)).symm,rfl⟩ H))))))))
 refine Av (Aa (Ab (Ae (Ah 2 U ?_))))
 obtain ⟨c0,hc0⟩:∃ c0,s[i.toNat]?=some c0:=⟨_,getElem?_pos s i.toNat (by omega)⟩
 exact V U U (I8 U CF U U (by omega) hc0) (V U U (DK (z:=((c0).toNat:Int)) U U Hy Iw (AC (by omega) (by have:=UInt8.toNat_lt c0;omega))) (Ad U (Ac (Aa (An (Aq U U (Al ⟨congrArg (Value.int .i64) (by unfold EH;rw [if_neg (by omega),hc0];rfl),rfl⟩ H)))))))
theorem Z5 (s:ByteArray) (f:Int) (t:Int):
    Cn Tryz.prog 273 [.string s,.int .i64 f,.int .i64 t] [] [] (fun v Bs=>v=.string (Fx s f t)∧Bs=[]):=by
 intro w0 F0 H
 refine enter Tryz.func273 U U (Nat.le_of_ble_eq_true U) (Ab (Ae (Ad U (Ac (Aa (Ab (Ae (Ad U (V U U (Dp U CF U) (Ad U (Ac (Aa (Ab (Ae (Ad U (V U U (QK (z:=max f 0) U U U U) (Ad U (V U U (Hr (z:=min (max f 0) ((s.size:Nat):Int)) U U U U) (Ad U (V U U (QK (z:=max t 0) U U U U) (Ad U (V U U (Hr (z:=min (max t 0) ((s.size:Nat):Int)) U U U U) (Ah 2 U (Ac (Aa (Ab (Ab (Ae (Ah 2 U (V U U (Cz U U U) (Ac (Aa ?_))))))))))))))))))))))))))))))))
 refine Ax U (fun h1=>?_) (fun h1=>?_)
 ·exact Ab (Ae (Ad U (Ac (Aa (An (Az (Aq U U (Al ⟨congrArg Value.string (if_pos h1).symm,rfl⟩ H))))))))
 exact Av (Aa (Ab (Ae (Ah 3 U (V U U (XR (r:=s.extract (min (max f 0) ((s.size:Nat):Int)).toNat (min (max t 0) ((s.size:Nat):Int)).toNat) U CF U U U (by omega) (by omega) (by omega) U) (Ad U (Ac (Aa (An (Aq U U (Al ⟨congrArg Value.string (if_neg h1).symm,rfl⟩ H)))))))))))
theorem Wx (r:Nat) (pv:Value) (key:ByteArray) (vv:Value) (fuel pos steps:Int) (halted:Bool) (sv:Value) (g:Nat→AQ) (tv mv:Value) (stk:List AQ) (op:Int) (hst:stk.length≤16):
    Cn Tryz.prog 264 [.pointer (some ⟨r,0,none⟩),.int .i64 op] [blk r (Bc pv key vv fuel pos steps halted sv g tv mv) 288,Y AX sv stk] [] (fun v Bs=>∃ u sv2,v=.tuple #[u,.int .i64 (Aw op stk).1]∧Bs=[blk r (Bc pv key vv fuel pos steps halted sv2 g tv mv) 288,Y AX sv2 (Aw op stk).2.1,Y AX u (Aw op stk).2.2]):=by
 intro w0 F0 H
 obtain ⟨A1,c2,rfl,hc3,hm4,hp5⟩:=H.fA 1 rfl
 refine enter Tryz.func264 U U (Nat.le_of_ble_eq_true U) (Ab (Ae (Ah 2 U (Ac (Aa ?_)))))
 replace H:Hd _ _ _ [blk r (Bc pv key vv fuel pos steps halted (.slice A1 stk.length c2) g tv mv) 288,Y AX (.slice A1 stk.length c2) stk] []:=H
 refine Ab (Ae (Ad U (sc (UH op) H l0 U U (At VB U U) ?_)))
 rintro _ _ w ⟨rfl,rfl⟩ H
 refine Ad U (Ac (Aa (Ab (Ab (Ae (Ad U (V U U (Dp U CF U) (Ad U (V U U (AH U U) (V U U (Aj U Gt U) (V U U (Ak U GE U (H.cellI 0 U U)) (V U U (A8 U Hx U) (V U U (Cp U U U) (Ac (Aa ?_)))))))))))))))
 refine Ax U (fun h6=>?_) (fun h6=>?_)
 ·refine Ab (Ae (Ah 2 U (Ac (Aa (An (Az (Cl U U U ?_)))))))
  have e:=Mj (op:=op) (stk:=stk) (by omega)
  replace H:=H.newnil AX|>.sel 3 [1,2,0] [] rfl (by kernel_rfl)
  replace H:Hd _ _ _ [blk r (Bc pv key vv fuel pos steps halted (.slice A1 stk.length c2) g tv mv) 288,Y AX (.slice A1 stk.length c2) stk,Y AX (.slice none 0 0) []] []:=H
  exact Al ⟨_,_,by rw [e]<;>rfl,by rw [e]<;>rfl⟩ H
 refine Av (Aa (Ab (Gp mo (by kernel_rfl) H (Ei U (By U U (fun w H=>AH U U) (By U U (fun w H=>Aj U Gt U) (By U U (fun w H=>Ak U GE U (H.cellI 0 U U)) (Ei U (By U U (fun w H=>AH U U) (By U U (fun w H=>Aj U Gt U) (By U U (fun w H=>Ak U GE U (H.cellI 0 U U)) (By U U (fun w H=>A8 U Hx U) (Ei U (By U U (fun w H=>Dp U CF U) (By U U (fun w H=>CK (z:=((stk.length - ((Be op).size):Nat):Int)) U U U (by rw [AC (by omega) (by omega)];omega)) (By U U (fun w H=>Ku U B4 U U (by omega) (by omega) U) (Ei U (By U U (fun w H=>AH U U) (By U U (fun w H=>Aj U Gt U) (By U U (fun w H=>Ak U GE U (H.cellI 0 U U)) ?_))))))))))))))))))))
 refine Ei U (By U U (fun w H=>AH U U) (By U U (fun w H=>Aj U Gt U) (By U U (fun w H=>Ak U GE U (H.cellI 0 U U)) (By U U (fun w H=>A8 U Hx U) (Ei U (By U U (fun w H=>Dp U CF U) (By U U (fun w H=>CK (z:=((stk.length - ((Be op).size):Nat):Int)) U U U (by rw [AC (by omega) (by omega)];omega)) (By U U (fun w H=>I7 U B4 U U (by omega) (by omega) U) (Jt 2 U (GF (fun w H=>(Aa (Ab (Ab (Ae (Ad U (V U U (A8 U Hx U) (Ad U (Ac (Aa (AS (BQ (σ:=Nat) (fun i=>[(0,.pointer (some ⟨r,0,none⟩)),(6,.string (Be op)),(7,.slice A1 (stk.length - ((Be op).size)) c2),(8,.slice (DO A1 c2 (stk.length - ((Be op).size)) 3) (stk.length - (stk.length - ((Be op).size))) (c2 - (stk.length - ((Be op).size)))),(48,.slice (DO A1 c2 (stk.length - ((Be op).size)) 3) (stk.length - (stk.length - ((Be op).size))) (c2 - (stk.length - ((Be op).size)))),(49,.int .i64 ((stk.length - (stk.length - ((Be op).size)):Nat):Int)),(50,.int .i64 ((i:Nat):Int))]) (fun i w=>(Hd w0 F0 w [blk r (Bc pv key vv fuel pos steps halted (.slice A1 stk.length c2) g tv mv) 288,Y AX (.slice A1 stk.length c2) stk] [])∧(i≤(Be op).size)∧(EY ((Be op).data.toList.drop i) ((stk.drop (stk.length - (Be op).size)).drop i)=EY (Be op).data.toList (stk.drop (stk.length - (Be op).size)))) (fun i=>(Be op).size - i) 0 ⟨rfl,rfl,rfl,rfl,rfl,rfl,rfl,trivial⟩ ⟨H,Nat.zero_le _,rfl⟩ ?_))))))))))))))))))))))
 rintro i w ⟨H,hi,hf⟩
 refine Ab (Ae (V U U (Bd U U U) (Ac (Aa (Ab ?_)))))
 refine Ax U (fun h7=>?_) (fun h7=>?_)
 ·refine Av (Aa (Ab (AS (Ab (Ae (Ad U ?_))))))
  obtain ⟨x8,hx9⟩:∃ z9,(stk.drop (stk.length - ((Be op).size)))[i]?=some z9:=⟨_,List.getElem?_eq_getElem (show i<(stk.drop (stk.length - ((Be op).size))).length by simp only [List.length_take,List.length_drop];omega)⟩
  have th10:=H.thX (fun F hA hR=>Io (BJ F (hA _ (List.mem_of_getElem? (i:=1) rfl))) (i:=stk.length - ((Be op).size)) (by omega)) hx9
  refine V U U (AZ (p:=AP (DO A1 c2 (stk.length - ((Be op).size)) 3)+i*3) U B4 U U (by omega) (by omega) th10 U) (V U U (Bq (cs:=[.bool x8.t,.int .i64 x8.n,.string x8.b]) U Da U U (H.elsX (fun F hA hR=>Io (BJ F (hA _ (List.mem_of_getElem? (i:=1) U))) (i:=stk.length - ((Be op).size)) (by omega)) hx9 U)) (Dg U U U Do H (fun b11 w H=>(Ad U (BE U U U Da U U H U (Nat.le_of_ble_eq_true U) (fun u hu=>by simp [Value.cells] at hu;rcases hu with rfl|rfl|rfl<;>rfl) (fun w H=>?_))))))
  replace H:Hd _ _ _ [blk b11 [.bool x8.t,.int .i64 x8.n,.string x8.b] 284,blk r (Bc pv key vv fuel pos steps halted (.slice A1 stk.length c2) g tv mv) 288,Y AX (.slice A1 stk.length c2) stk] []:=H
  refine Ac (Aa (Ab (Ae (Ah 2 U ?_))))
  obtain ⟨c12,hb13⟩:∃ c0,(Be op)[i]?=some c0:=⟨_,getElem?_pos (Be op) i (by omega)⟩
  refine V U U (I8 U CF U U (by omega) hb13) (V U U (Bb U U U) (Ad U ?_))
  refine AK (d:=59) U (fun h14=>?_) (fun h14=>?_)
  ·refine V U U (Aj U Hl U) (V U U (Ak U EU U (H.cellI 0 U U)) (Ah 2 U ?_))
   refine E3 (d:=63) (b:=x8.t) U (fun h15=>?_) (fun h15=>?_)
   ·refine Ah 10 U (Ac (Aa (Cw U (Ab (Ae (Ah 2 U (Ac (Aa (An (A0 (Az (Az (A0 (Az (Cl U U U ?_)))))))))))))))
    have hfit:Fy c12 x8=false:=by rw [Hj];simp_all
    have e:=IZ (op:=op) (stk:=stk) (by omega) (hf.symm.trans (Lv (Hh hb13) hx9 hfit))
    replace H:=H.p2.p2.k2.newnil AX|>.p2|>.p2
    exact Al ⟨_,_,by rw [e]<;>rfl,by rw [e]<;>rfl⟩ H
   refine Ah 2 U (V U U (I8 U CF U U (by omega) hb13) (V U U (Bb U U U) (Ad U ?_)))
   refine AK (d:=68) U (fun h16=>?_) (fun h16=>?_)
   ·refine V U U (Aj U Hl U) (V U U (Ak U EU U (H.cellI 0 U U)) (V U U (FW U U U) (Ah 2 U (Ac (Aa ?_)))))
    refine DN (b:=!x8.t) U (fun h17=>?_) (fun h17=>?_)
    ·refine Ab (Ae (Ah 2 U (Ac (Aa (An (A0 (Az (Az (A0 (Az (Cl U U U ?_)))))))))))
     have hfit:Fy c12 x8=false:=by rw [Hj];simp_all
     have e:=IZ (op:=op) (stk:=stk) (by omega) (hf.symm.trans (Lv (Hh hb13) hx9 hfit))
     replace H:=H.p2.p2.k2.newnil AX|>.p2|>.p2
     exact Al ⟨_,_,by rw [e]<;>rfl,by rw [e]<;>rfl⟩ H
    refine Av (AU (Aa (Ae (V U U (AT (z:=((i+1:Nat):Int)) U U U (by rw [AC (by omega) (by omega)];omega)) (Ad U (Ac ?_))))))
    have hfit:Fy c12 x8=true:=by rw [Hj];simp_all
    have hf2:=(JN (Hh hb13) hx9 hfit).trans hf
    replace H:=H.p2.p2.k2
    exact Bi (s:=i) (i+1) ⟨rfl,rfl,rfl,rfl,rfl,rfl,rfl,trivial⟩ ⟨H,by (try dsimp only);omega,hf2⟩ (by (try dsimp only);omega)
   refine Ah 5 U (Ac (Aa (B7 U (Av (AU (Aa (Ae (V U U (AT (z:=((i+1:Nat):Int)) U U U (by rw [AC (by omega) (by omega)];omega)) (Ad U (Ac ?_))))))))))
   have hfit:Fy c12 x8=true:=by rw [Hj];simp_all
   have hf2:=(JN (Hh hb13) hx9 hfit).trans hf
   replace H:=H.p2.p2.k2
   exact Bi (s:=i) (i+1) ⟨rfl,rfl,rfl,rfl,rfl,rfl,rfl,trivial⟩ ⟨H,by (try dsimp only);omega,hf2⟩ (by (try dsimp only);omega)
  refine Ah 6 U (V U U (I8 U CF U U (by omega) hb13) (V U U (Bb U U U) (Ad U ?_)))
  refine AK (d:=68) U (fun h18=>?_) (fun h18=>?_)
  ·refine V U U (Aj U Hl U) (V U U (Ak U EU U (H.cellI 0 U U)) (V U U (FW U U U) (Ah 2 U (Ac (Aa ?_)))))
   refine DN (b:=!x8.t) U (fun h19=>?_) (fun h19=>?_)
   ·refine Ab (Ae (Ah 2 U (Ac (Aa (An (A0 (Az (Az (A0 (Az (Cl U U U ?_)))))))))))
    have hfit:Fy c12 x8=false:=by rw [Hj];simp_all
    have e:=IZ (op:=op) (stk:=stk) (by omega) (hf.symm.trans (Lv (Hh hb13) hx9 hfit))
    replace H:=H.p2.p2.k2.newnil AX|>.p2|>.p2
    exact Al ⟨_,_,by rw [e]<;>rfl,by rw [e]<;>rfl⟩ H
   refine Av (AU (Aa (Ae (V U U (AT (z:=((i+1:Nat):Int)) U U U (by rw [AC (by omega) (by omega)];omega)) (Ad U (Ac ?_))))))
   have hfit:Fy c12 x8=true:=by rw [Hj];simp_all
   have hf2:=(JN (Hh hb13) hx9 hfit).trans hf
   replace H:=H.p2.p2.k2
   exact Bi (s:=i) (i+1) ⟨rfl,rfl,rfl,rfl,rfl,rfl,rfl,trivial⟩ ⟨H,by (try dsimp only);omega,hf2⟩ (by (try dsimp only);omega)
  refine Ah 5 U (Ac (Aa (B7 U (Av (AU (Aa (Ae (V U U (AT (z:=((i+1:Nat):Int)) U U U (by rw [AC (by omega) (by omega)];omega)) (Ad U (Ac ?_))))))))))
  have hfit:Fy c12 x8=true:=by rw [Hj];simp_all
  have hf2:=(JN (Hh hb13) hx9 hfit).trans hf
  replace H:=H.p2.p2.k2
  exact Bi (s:=i) (i+1) ⟨rfl,rfl,rfl,rfl,rfl,rfl,rfl,trivial⟩ ⟨H,by (try dsimp only);omega,hf2⟩ (by (try dsimp only);omega)
 refine BC (AM (AM (BD (Aa (Ab (Ae (Ad U ?_)))))))
 replace H:=H.newnil AX
 refine Ct (xs:=[]) (ys:=stk.drop (stk.length - ((Be op).size))) U U U B4 Do U (by decide) U U H (by simp only [List.length_nil];omega) (fun F hA hR=>Io (BJ F (hA _ (List.mem_of_getElem? (i:=1) U))) (i:=stk.length - ((Be op).size)) (by omega)) (fun v20 w H=>(Ad U (Ac (Aa ?_))))
 replace H:Hd _ _ _ [Y AX v20 ([]++(stk.drop (stk.length - ((Be op).size)))),blk r (Bc pv key vv fuel pos steps halted (.slice A1 stk.length c2) g tv mv) 288,Y AX (.slice A1 stk.length c2) stk] []:=H
 refine Ab (Ae (Ah 2 U (V U U (AH U U) (V U U (Aj U Gt U) ?_))))
 replace H:=H.p1
 refine BE U U U GE U U H U (Nat.le_of_ble_eq_true U) (fun u hu=>by simp [Value.cells] at hu;subst hu;rfl) (fun w H=>?_)
 replace H:=H.h1 (A:=blk r (Bc pv key vv fuel pos steps halted (.slice A1 (stk.length - ((Be op).size)) c2) g tv mv) 288)
 refine Ac (Aa (Ab ?_))
 replace H:=H.p2.preO (stk.length - (Be op).size) (by omega)|>.h1 (A:=Y AX (.slice A1 (stk.length - ((Be op).size)) c2) (stk.take (stk.length - (Be op).size)))
 refine Ae (Ah 3 U (Ac (Aa (An (Cl U U U ?_)))))
 replace H:=H.p1.h3 (C:=Y AX v20 (stk.drop (stk.length - (Be op).size)))
 have e:=Mh (op:=op) (stk:=stk) (by omega) (hf.symm.trans (TI (by simp only [List.length_drop];omega)))
 exact Al ⟨_,_,by rw [e]<;>rfl,by rw [e]<;>rfl⟩ H
theorem Eg (r:Nat) (pv:Value) (key:ByteArray) (vv:Value) (fuel pos steps:Int) (halted:Bool) (sv:Value) (g:Nat→AQ) (tv mv:Value) (stk:List AQ) (vvs:Value) (vs:List AQ) (hst:stk.length≤16) (hvs:vs.length≤16):
    Cn Tryz.prog 265 [.pointer (some ⟨r,0,none⟩),vvs] [blk r (Bc pv key vv fuel pos steps halted sv g tv mv) 288,Y AX sv stk] [Z AX vvs vs] (fun v Bs=>∃ sv2,v=.int .i64 (Bh stk vs).1∧Bs=[blk r (Bc pv key vv fuel pos steps halted sv2 g tv mv) 288,Y AX sv2 (Bh stk vs).2]):=by
 intro w0 F0 H
 obtain ⟨A1,c2,rfl,hc3,hm4,hp5⟩:=H.fR 0 rfl
 refine enter Tryz.func265 U U (Nat.le_of_ble_eq_true U) (Ab (Ae (Ad U (Ac (Aa ?_)))))
 replace H:Hd _ _ _ [blk r (Bc pv key vv fuel pos steps halted sv g tv mv) 288,Y AX sv stk] [Z AX (.slice A1 vs.length c2) vs]:=H
 refine Ab (Ab (Ae (Ad U (V U U (A8 U Hx U) (Ad U (Ac (Aa (AS (BQ (σ:=Nat) (fun k=>[(0,.pointer (some ⟨r,0,none⟩)),(1,.slice A1 vs.length c2),(7,.slice A1 vs.length c2),(8,.int .i64 ((vs.length:Nat):Int)),(9,.int .i64 ((k:Nat):Int))]) (fun k w=>(Hd w0 F0 w [blk r (Bc pv key vv fuel pos steps halted sv g tv mv) 288,Y AX sv stk] [Z AX (.slice A1 vs.length c2) vs])∧(k≤vs.length)∧(∀ y∈vs.take k,EJ y=false)) (fun k=>vs.length - k) 0 ⟨rfl,rfl,rfl,rfl,rfl,trivial⟩ ⟨H,Nat.zero_le _,by (try dsimp only);simp⟩ ?_)))))))))
 rintro k w ⟨H,hk,hn⟩
 refine Ab (Ae (V U U (Bd U U U) (Ac (Aa (Ab ?_)))))
 refine Ax U (fun h6=>?_) (fun h6=>?_)
 ·refine Av (Aa (Ab (AS (Ab (Ae ?_)))))
  obtain ⟨x7,hx8⟩:∃ z9,vs[k]?=some z9:=⟨_,List.getElem?_eq_getElem (show k<vs.length by omega)⟩
  have th9:=H.thR 0 rfl hx8
  refine V U U (AZ (p:=AP A1+k*3) U B4 U U (by omega) (by omega) th9 U) (V U U (Bq (cs:=[.bool x7.t,.int .i64 x7.n,.string x7.b]) U Da U U (H.elsR 0 U hx8 U)) (Dg U U U Do H (fun b10 w H=>(BE U U U Da U U H U (Nat.le_of_ble_eq_true U) (fun u hu=>by simp [Value.cells] at hu;rcases hu with rfl|rfl|rfl<;>rfl) (fun w H=>?_)))))
  replace H:=H.h1 (A:=blk b10 [.bool x7.t,.int .i64 x7.n,.string x7.b] 284)
  refine Ac (Aa (Ab (Ae (V U U (Aj U Hl U) (V U U (Ak U EU U (H.cellI 0 U U)) (Ad U ?_))))))
  refine E3 (d:=15) (b:=x7.t) U (fun h11=>?_) (fun h11=>?_)
  ·refine V U U (Aj U FP U) (V U U (Ak U BV U (H.cellI 0 U U)) (V U U (Dp U CF U) (V U U (Cp U U U) (Ad U (Ac (Aa ?_))))))
   refine Ax U (fun h12=>?_) (fun h12=>?_)
   ·refine Ab (Ae (Ad U (Ac (Aa (An (A0 (Az (Az (A0 (Az (Aq U U ?_)))))))))))
    have e:=XH (stk:=stk) hx8 (Sp h11 h12)
    replace H:=H.p2.p2.k2
    exact Al ⟨_,by rw [e]<;>rfl,by rw [e]<;>rfl⟩ H
   refine Av (AU (Aa (Ae (V U U (AT (z:=((k+1:Nat):Int)) U U U (by rw [AC (by omega) (by omega)];omega)) (Ad U (Ac ?_))))))
   replace H:=H.p2.p2.k2
   exact Bi (s:=k) (k+1) ⟨rfl,rfl,rfl,rfl,rfl,trivial⟩ ⟨H,by (try dsimp only);omega,Hv hn hx8 (NN (.inr h12))⟩ (by (try dsimp only);omega)
  refine Ah 5 U (Ac (Aa (B7 U (Av (AU (Aa (Ae (V U U (AT (z:=((k+1:Nat):Int)) U U U (by rw [AC (by omega) (by omega)];omega)) (Ad U (Ac ?_))))))))))
  replace H:=H.p2.p2.k2
  exact Bi (s:=k) (k+1) ⟨rfl,rfl,rfl,rfl,rfl,trivial⟩ ⟨H,by (try dsimp only);omega,Hv hn hx8 (NN (.inl h11))⟩ (by (try dsimp only);omega)
 refine BC (AM (AM (BD (Aa (Ab (Ab (Ae (Ad U (V U U (AH U U) (V U U (Aj U Gt U) (V U U (Ak U GE U (H.cellI 0 U U)) ?_)))))))))))
 obtain ⟨A13,c14,rfl,hc15,hm16,hp17⟩:=H.fA 1 rfl
 refine V U U (A8 U Hx U) (Ad U (V U U (A8 U Hx U) (V U U (AT (z:=((stk.length+vs.length:Nat):Int)) U U U (by rw [AC (by omega) (by omega)];omega)) (V U U (Cp U U U) (Ac (Aa ?_))))))
 refine Ax U (fun h18=>?_) (fun h18=>?_)
 ·refine Ab (Ae (Ad U (Ac (Aa (An (Az (Aq U U ?_)))))))
  have e:=XJ (stk:=stk) (vs:=vs) (by rw [List.take_of_length_le (by omega)] at hn;exact hn) (by omega)
  exact Al ⟨_,by rw [e]<;>rfl,by rw [e]<;>rfl⟩ H
 refine Av (Aa (Ab (Ae (Ah 2 U (V U U (AH U U) (V U U (Aj U Gt U) (V U U (Ak U GE U (H.cellI 0 U U)) (Ad U ?_))))))))
 replace H:=H.p1
 refine Ct (xs:=stk) (ys:=vs) U U U B4 Do U (by decide) U U H (by omega) (fun F hA hR=>hR _ (List.mem_of_getElem? (i:=0) U)) (fun v19 w H=>(V U U (AH U U) (V U U (Aj U Gt U) ?_)))
 obtain ⟨A20,c21,rfl,hc22,hm23,hp24⟩:=H.fA 0 rfl
 replace H:=H.p1
 refine BE U U U GE U U H U (Nat.le_of_ble_eq_true U) (fun u hu=>by simp [Value.cells] at hu;subst hu;rfl) (fun w H=>?_)
 replace H:Hd _ _ _ [blk r (Bc pv key vv fuel pos steps halted (.slice A20 ((stk++vs).length) c21) g tv mv) 288,Y AX (.slice A20 ((stk++vs).length) c21) (stk++vs)] [Z AX (.slice A1 vs.length c2) vs]:=H
 refine Ac (Aa (Ab (Ae (Ad U (Ac (Aa (An (Aq U U ?_))))))))
 have e:=XI (stk:=stk) (vs:=vs) (by rw [List.take_of_length_le (by omega)] at hn;exact hn) (by omega)
 exact Al ⟨_,by rw [e]<;>rfl,by rw [e]<;>rfl⟩ H
theorem WK (r:Nat) (pv:Value) (key:ByteArray) (vv:Value) (fuel pos steps:Int) (halted:Bool) (sv:Value) (g:Nat→AQ) (tv mv:Value) (stk:List AQ) (vals:List ByteArray) (hst:stk.length≤16):
    Cn Tryz.prog 268 [.pointer (some ⟨r,0,none⟩)] [blk r (Bc pv key vv fuel pos steps halted sv g tv mv) 288,Y AX sv stk] [Z Bk vv vals] (fun v Bs=>∃ sv2 vv2,v=.int .i64 (Fk stk vals).1∧C6 Bk vv vals vv2 (Fk stk vals).2.2∧Bs=[blk r (Bc pv key vv2 fuel pos steps halted sv2 g tv mv) 288,Y AX sv2 (Fk stk vals).2.1]):=by
 intro w0 F0 H
 obtain ⟨A1,c2,rfl,hc3,hm4,hp5⟩:=H.fR 0 rfl
 refine enter Tryz.func268 U U (Nat.le_of_ble_eq_true U) (Ab (Ae (Ad U (Ac (Aa ?_)))))
 replace H:Hd _ _ _ [blk r (Bc pv key (.slice A1 vals.length c2) fuel pos steps halted sv g tv mv) 288,Y AX sv stk] [Z Bk (.slice A1 vals.length c2) vals]:=H
 refine Ab (Ab (Ae (Ad U (V U U (AH U U) (V U U (Aj U JY U) (V U U (Ak U KU U (H.cellI 0 U U)) (V U U (A8 U RD U) (V U U (Bb U U U) (Ac (Aa ?_))))))))))
 refine Ax U (fun h6=>?_) (fun h6=>?_)
 ·refine Ab ?_
  have hv0:vals=[]:=List.eq_nil_of_length_eq_zero (by omega)
  refine Ae (Ad U (sc (F5 0) H l0 U U (At FQ U U) ?_))
  rintro _ _ w ⟨rfl,rfl⟩ H
  refine BX (parts:=[(0,.tmp 11)]) (vs:=[.agg #[.bool false,.int .i64 0,.string ⟨#[]⟩]]) (cs:=[.bool false,.int .i64 0,.string ⟨#[]⟩]) U U U B4 Do U (by decide) (by decide) U U H (fun b7 w H=>?_)
  replace H:=H.h1 (A:=blk b7 [.bool false,.int .i64 0,.string ⟨#[]⟩] 284)|>.p2|>.p2
  refine sc (Eg r pv key (.slice A1 vals.length c2) fuel pos steps halted sv g tv mv stk (.slice (some ⟨b7,0,none⟩) 1 1) [(⟨false,0,⟨#[]⟩⟩:AQ)] (by omega) (Nat.le_of_ble_eq_true U)) H (lA 0 U (fun F h=>Cm h rfl (by decide) (AW.flat_eq.2 U)) l0) U U (At Ed U U) ?_
  rintro _ _ w ⟨s8,rfl,rfl⟩ H
  replace H:=H.h2 (A:=blk r (Bc pv key (.slice A1 vals.length c2) fuel pos steps halted s8 g tv mv) 288) (B:=Y AX s8 ((Bh stk [(⟨false,0,⟨#[]⟩⟩:AQ)]).2))
  refine Ad U (Ac (Aa (An (Az (Aq U U ?_)))))
  replace H:=H.k2
  have e:Fk stk vals=((Bh stk [Dc 0]).1,(Bh stk [Dc 0]).2,[]):=by rw [hv0];rfl
  exact Al ⟨s8,.slice A1 vals.length c2,by rw [e]<;>rfl,by rw [e,hv0]<;>exact C6.refl _ _ _,by rw [e]<;>rfl⟩ H
 refine Av (Aa (Ab (Ae (Ad U (V U U (AH U U) (V U U (Aj U JY U) (V U U (Ak U KU U (H.cellI 0 U U)) ?_)))))))
 obtain ⟨x9,hx10⟩:∃ z9,vals[0]?=some z9:=⟨_,List.getElem?_eq_getElem (show 0<vals.length by omega)⟩
 have th11:=H.thR 0 rfl hx10
 refine V U U (AZ (p:=AP A1+0*1) U G5 U U (by omega) (by omega) th11 (by omega)) (V U U (Ak U BV U (H.elR 0 U hx10 (q:=0) U U)) (Ad U (Ac (Aa (Ab (Ae (Ah 2 U (V U U (AH U U) (V U U (Aj U JY U) (V U U (Ak U KU U (H.cellI 0 U U)) (V U U (I7 U G5 U U (by omega) (by omega) U) (V U U (AH U U) (V U U (Aj U JY U) (BE U U U KU U U H U (Nat.le_of_ble_eq_true U) (fun u hu=>by simp [Value.cells] at hu;subst hu;rfl) (fun w H=>?_)))))))))))))))
 replace H:=H.h1 (A:=blk r (Bc pv key (.slice (DO A1 c2 1 1) (vals.length - 1) (c2 - 1)) fuel pos steps halted sv g tv mv) 288)
 refine Ac (Aa (Ab (Ae (Ah 2 U (sc (Ix x9) H l0 U U (At H7 U U) ?_)))))
 rintro _ _ w ⟨rfl,rfl⟩ H
 refine sc (F5 1) H l0 U U (At FQ U U) ?_
 rintro _ _ w ⟨rfl,rfl⟩ H
 refine BX (parts:=[(0,.tmp 30),(1,.tmp 31)]) (vs:=[.agg #[.bool true,.int .i64 0,.string x9],.agg #[.bool false,.int .i64 1,.string ⟨#[]⟩]]) (cs:=[.bool true,.int .i64 0,.string x9,.bool false,.int .i64 1,.string ⟨#[]⟩]) U U U B4 Do U (by decide) (by decide) U U H (fun b12 w H=>?_)
 replace H:=H.h1 (A:=blk b12 [.bool true,.int .i64 0,.string x9,.bool false,.int .i64 1,.string ⟨#[]⟩] 284)|>.p2|>.p2
 refine sc (Eg r pv key (.slice (DO A1 c2 1 1) (vals.length - 1) (c2 - 1)) fuel pos steps halted sv g tv mv stk (.slice (some ⟨b12,0,none⟩) 2 2) [(⟨true,0,x9⟩:AQ),(⟨false,1,⟨#[]⟩⟩:AQ)] (by omega) (Nat.le_of_ble_eq_true U)) H (lA 0 U (fun F h=>Cm h rfl (by decide) (AW.flat_eq.2 U)) l0) U U (At Ed U U) ?_
 rintro _ _ w ⟨s13,rfl,rfl⟩ H
 replace H:=H.h2 (A:=blk r (Bc pv key (.slice (DO A1 c2 1 1) (vals.length - 1) (c2 - 1)) fuel pos steps halted s13 g tv mv) 288) (B:=Y AX s13 ((Bh stk [(⟨true,0,x9⟩:AQ),(⟨false,1,⟨#[]⟩⟩:AQ)]).2))
 refine Ad U (Ac (Aa (An (Aq U U ?_))))
 replace H:=H.k2
 have e:=WJ (stk:=stk) hx10
 exact Al ⟨s13,.slice (DO A1 c2 1 1) (vals.length - 1) (c2 - 1),by rw [e]<;>rfl,by rw [e];exact fun w F h=>Io h (by omega),by rw [e]<;>rfl⟩ H
theorem Tm (r:Nat) (pv:Value) (key:ByteArray) (vv:Value) (fuel pos steps:Int) (halted:Bool) (sv:Value) (g:Nat→AQ) (tv mv:Value) (told:List Ap) (ek ew:ByteArray) (hto:told.length≤40):
    Cn Tryz.prog 276 [.pointer (some ⟨r,0,none⟩),.string ek,.string ew] [blk r (Bc pv key vv fuel pos steps halted sv g tv mv) 288,Y Ag tv told] [] (fun v Bs=>∃ tv2,v=.int .i64 (DY told ek ew).1∧Bs=[blk r (Bc pv key vv fuel pos steps halted sv g tv2 mv) 288,Y Ag tv2 (DY told ek ew).2]):=by
 intro w0 F0 H
 obtain ⟨A1,c2,rfl,hc3,hm4,hp5⟩:=H.fA 1 rfl
 refine enter Tryz.func276 U U (Nat.le_of_ble_eq_true U) (Ab (Ae (Ad U (Ac (Aa ?_)))))
 replace H:Hd _ _ _ [blk r (Bc pv key vv fuel pos steps halted sv g (.slice A1 told.length c2) mv) 288,Y Ag (.slice A1 told.length c2) told] []:=H
 refine Ab (AS (Ab (Ae (Ad U (V U U (Dp U CF U) (V U U (Cp U U U) (Ad U (Ac (Aa ?_)))))))))
 refine Ax U (fun h6=>?_) (fun h6=>?_)
 ·refine Ab (Ae (Ad U (Ac (Aa (An (A0 (Az (Aq U U ?_))))))))
  have e:=Ti (told:=told) (k:=ek) (v:=ew) h6
  exact Al ⟨_,by rw [e]<;>rfl,by rw [e]<;>rfl⟩ H
 refine Ab (Ae (Ad U (V U U (AH U U) (V U U (Aj U JZ U) (V U U (Ak U ET U (H.cellI 0 U U)) (V U U (A8 U Db U) (V U U (CR U U U) (Ad U (Ac (Aa ?_))))))))))
 refine Ax U (fun h7=>?_) (fun h7=>?_)
 ·refine Ab (Ae (Ad U (Ac (Aa (An (A0 (Az (Aq U U ?_))))))))
  have e:=Tl (told:=told) (k:=ek) (v:=ew) h6 (by omega)
  exact Al ⟨_,by rw [e]<;>rfl,by rw [e]<;>rfl⟩ H
 refine Av (AU (Aa (Ab (Ae (Ah 2 U (V U U (AH U U) (V U U (Aj U JZ U) (V U U (Ak U ET U (H.cellI 0 U U)) (Ah 2 U (V U U (Co (parts:=[(0,.tmp 23),(1,.tmp 24)]) (vs:=[.string ek,.string ew]) (cs:=[.string ek,.string ew]) U NJ U U) (BX (parts:=[(0,.tmp 25)]) (vs:=[.agg #[.string ek,.string ew]]) (cs:=[.string ek,.string ew]) U U U BB Dd U (by decide) (by decide) U U H (fun b8 w H=>?_))))))))))))
 replace H:=H.p2
 refine Ct (xs:=told) (ys:=[(⟨ek,ew⟩:Ap)]) U U U BB Dd U (by decide) U U H (by first |omega|(simp only [List.length_cons,List.length_nil];omega)) (fun F hA hR=>Cm (hA _ (List.mem_of_getElem? (i:=0) U)) U (by decide) (AW.flat_eq.2 U)) (fun v9 w H=>(V U U (AH U U) (V U U (Aj U JZ U) ?_)))
 obtain ⟨A10,c11,rfl,hc12,hm13,hp14⟩:=H.fA 0 rfl
 replace H:=H.p2
 refine BE U U U ET U U H U (Nat.le_of_ble_eq_true U) (fun u hu=>by simp [Value.cells] at hu;subst hu;rfl) (fun w H=>?_)
 replace H:Hd _ _ _ [blk r (Bc pv key vv fuel pos steps halted sv g (.slice A10 ((told++[(⟨ek,ew⟩:Ap)]).length) c11) mv) 288,Y Ag (.slice A10 ((told++[(⟨ek,ew⟩:Ap)]).length) c11) (told++[(⟨ek,ew⟩:Ap)]),blk b8 [.string ek,.string ew] 106] []:=H
 refine Ac (Aa (Ab (Ae (Ad U (Ac (Aa (An (Aq U U ?_))))))))
 replace H:=H.k2
 have e:=Tj (told:=told) (k:=ek) (v:=ew) h6 (by omega)
 exact Al ⟨_,by rw [e]<;>rfl,by rw [e]<;>rfl⟩ H
section
variable {D:AV} {key:ByteArray} {m:VM} {i:BG} {v:List AQ}
theorem Ll (h:(Aw i.op m.stk).1≠0):BK D key m i=(m,(Aw i.op m.stk).1):=if_pos h
theorem Dl (h:¬ (Aw i.op m.stk).1≠0):BK D key m i=Cc D key {m with stk:=(Aw i.op m.stk).2.1} i (Aw i.op m.stk).2.2:=if_neg h
theorem Nl (h:i.op=0):Cc D key m i v=({m with halted:=true},0):=by unfold Cc;rw [h];rfl
theorem Nm (h:i.op=1):Cc D key m i v=C2 m [Dc i.a]:=by unfold Cc;rw [h];rfl
theorem Nv (h:i.op=2):Cc D key m i v=C2 m [ED i.s]:=by unfold Cc;rw [h];rfl
theorem Nz (h:i.op=3):Cc D key m i v=C2 m [v.getD 0 CM,v.getD 0 CM]:=by unfold Cc;rw [h];rfl
theorem NA (h:i.op=4):Cc D key m i v=(m,0):=by unfold Cc;rw [h];rfl
theorem NB (h:i.op=5):Cc D key m i v=C2 m [v.getD 1 CM,v.getD 0 CM]:=by unfold Cc;rw [h];rfl
theorem NC (h:i.op=6):Cc D key m i v=C2 m [ED key]:=by unfold Cc;rw [h];rfl
theorem ND (h:i.op=7):Cc D key m i v=GV m:=by unfold Cc;rw [h];rfl
theorem IE (h:i.op=8∨i.op=9∨i.op=10∨i.op=11):Cc D key m i v=C2 m [BA i.op (v.getD 0 CM).n (v.getD 1 CM).n]:=by
 unfold Cc
 rcases h with h|h|h|h<;>(rw [h];rfl)
theorem Nn (h:i.op=12):Cc D key m i v=C2 m [Qd (EB (v.getD 0 CM) (v.getD 1 CM))]:=by unfold Cc;rw [h];rfl
theorem No (h:i.op=13):Cc D key m i v=C2 m [ED ((v.getD 0 CM).b++(v.getD 1 CM).b)]:=by unfold Cc;rw [h];rfl
theorem Np (h:i.op=14):Cc D key m i v=C2 m [Dc (v.getD 0 CM).b.size]:=by unfold Cc;rw [h];rfl
theorem Nq (h:i.op=15):Cc D key m i v=C2 m [Dc (EH (v.getD 0 CM).b (v.getD 1 CM).n)]:=by unfold Cc;rw [h];rfl
theorem Nr (h:i.op=16):Cc D key m i v=C2 m [ED (Fx (v.getD 0 CM).b (v.getD 1 CM).n (v.getD 2 CM).n)]:=by unfold Cc;rw [h];rfl
theorem Ns (h:i.op=17):Cc D key m i v=C2 m [ED (D.dig (v.getD 0 CM).n)]:=by unfold Cc;rw [h];rfl
theorem Nt (h:i.op=18):Cc D key m i v=C2 m [Dc (D.num (v.getD 0 CM).b)]:=by unfold Cc;rw [h];rfl
theorem Nu (h:i.op=19):Cc D key m i v=({m with pos:=i.a},0):=by unfold Cc;rw [h];rfl
theorem La (h:i.op=20):Cc D key m i v=(if (v.getD 0 CM).n≠0 then {m with pos:=i.a} else m,0):=by unfold Cc;rw [h];rfl
theorem Nw (h:i.op=21):Cc D key m i v=C2 m [m.g i.a.toNat]:=by unfold Cc;rw [h];rfl
theorem Nx (h:i.op=22):Cc D key m i v=({m with g:=Iq m.g i.a.toNat (v.getD 0 CM)},0):=by unfold Cc;rw [h];rfl
theorem Ny (h:i.op=23):Cc D key m i v=({m with told:=(DY m.told (v.getD 0 CM).b (v.getD 1 CM).b).2},(DY m.told (v.getD 0 CM).b (v.getD 1 CM).b).1):=by unfold Cc;rw [h];rfl
theorem Wy {op:Int} {stk:List AQ} (h:(Aw op stk).1≠0):(Aw op stk).2.1=stk:=by
 by_cases h1:stk.length<(Be op).size
 ·rw [Mj h1]
 ·cases h2:EY (Be op).data.toList (stk.drop (stk.length - (Be op).size)) with
  |false=>rw [IZ h1 h2]
  |true=>rw [Mh h1 h2] at h;exact absurd rfl h
theorem De {k:Nat} {x:AQ} (h:v[k]?=some x):v.getD k CM=x:=by rw [List.getD_eq_getElem?_getD,h];rfl
theorem P6:GV m=({m with stk:=(Fk m.stk m.vals).2.1,vals:=(Fk m.stk m.vals).2.2},(Fk m.stk m.vals).1):=by
 unfold GV
 split
 ·rename_i h
  rw [h]
  cases m
  simp only at h
  subst h
  rfl
 ·rename_i x xs h
  rw [h]
  rfl
end
structure Eu (n:Int) (m:VM):Prop where
 ok:(∀ v∈m.stk,EV v)∧∀ k,EV (m.g k)
 len:m.stk.length≤16
 told:m.told.length≤40
 pos:0≤m.pos∧m.pos≤n
theorem XL {stk vs:List AQ} (h:(Bh stk vs).1=0):(Bh stk vs).2=stk++vs∧∀ v∈vs,EJ v=false:=by
 unfold Bh at h ⊢
 split at h
 ·cases h
 ·rename_i h1
  rw [if_neg h1]
  split at h
  ·cases h
  ·rename_i h2
   rw [if_neg h2]
   refine ⟨rfl,fun v hv=>?_⟩
   cases hb:EJ v with
   |false=>rfl
   |true=>exact absurd (List.any_eq_true.2 ⟨v,hv,hb⟩) h1
theorem So {v:AQ} (h:EJ v=false) (ht:v.t=true):v.b.size≤64:=by
 unfold EJ at h
 rw [ht,Bool.true_and] at h
 have:=of_decide_eq_false h
 omega
theorem Ez {n:Int} {m:VM} {vs:List AQ} (hm:Eu n m) (h:(C2 m vs).2=0) (hv:∀ v∈vs,AA v.n∧(v.t=false→v.b.size≤64)):Eu n (C2 m vs).1:=by
 obtain ⟨h1,h2⟩:=XL (stk:=m.stk) (vs:=vs) h
 refine ⟨⟨fun v hv'=>?_,hm.ok.2⟩,?_,hm.told,hm.pos⟩
 ·have hv2:v∈(Bh m.stk vs).2:=hv'
  rw [h1] at hv2
  rcases List.mem_append.1 hv2 with h3|h3
  ·exact hm.ok.1 v h3
  ·refine ⟨(hv v h3).1,?_⟩
   cases ht:v.t with
   |false=>exact (hv v h3).2 ht
   |true=>exact So (h2 v h3) ht
 ·exact XK _ _ hm.len
theorem P7:(⟨#[]⟩:ByteArray).size≤64:=by decide
theorem IR:AA 0:=by unfold AA;decide
theorem Mp:EV CM:=⟨IR,P7⟩
theorem Ho {n:Int} (h:AA n):∀ v∈[Dc n],AA v.n∧(v.t=false→v.b.size≤64):=by
 intro v hv
 rw [List.mem_singleton.1 hv]
 exact ⟨h,fun _=>P7⟩
theorem If (s:ByteArray):∀ v∈[ED s],AA v.n∧(v.t=false→v.b.size≤64):=by
 intro v hv
 rw [List.mem_singleton.1 hv]
 exact ⟨IR,fun h=>by cases h⟩
theorem Mo {v:AQ} (h:EV v):AA v.n∧(v.t=false→v.b.size≤64):=⟨h.1,fun _=>h.2⟩
theorem Mn {v:List AQ} (h:∀ x∈v,EV x) (k:Nat):EV (v.getD k CM):=by
 rw [List.getD_eq_getElem?_getD]
 cases hk:v[k]? with
 |none=>exact Mp
 |some x=>exact h x (Ce hk)
theorem R5 (s:ByteArray) (i:Int):AA (EH s i):=by
 unfold EH
 split
 ·unfold AA;omega
 ·have:=UInt8.toNat_lt (s[i.toNat]?.getD 0)
  unfold AA
  omega
theorem Ux {D:AV} (hD:∀ s:ByteArray,AA (D.num s)) {key:ByteArray} {n:Int} {m:VM} {i:BG} {v:List AQ} (hm:Eu n m) (hi:BL i n) (ha:AA i.a) (hv:∀ x∈v,EV x) (h:(Cc D key m i v).2=0):Eu n (Cc D key m i v).1:=by
 have h0:=Mn hv 0
 have h1:=Mn hv 1
 have g1:=hi.1
 have g2:=hi.2.1
 have two:∀ {a b:AQ},EV a→EV b→∀ x∈[a,b],AA x.n∧(x.t=false→x.b.size≤64):=by
  intro a b pa pb x hx
  rcases List.mem_cons.1 hx with rfl|hx
  ·exact Mo pa
  ·rw [List.mem_singleton.1 hx];exact Mo pb
 have one:∀ {a:AQ},EV a→∀ x∈[a],AA x.n∧(x.t=false→x.b.size≤64):=by
  intro a pa x hx
  rw [List.mem_singleton.1 hx];exact Mo pa
 have bit:∀ b:Bool,AA (if b then 1 else 0):=by intro b;cases b<;>(unfold AA;decide)
 rcases (show i.op=0∨i.op=1∨i.op=2∨i.op=3∨i.op=4∨i.op=5∨i.op=6∨i.op=7∨(i.op=8∨i.op=9∨i.op=10∨i.op=11)∨i.op=12∨i.op=13∨i.op=14∨i.op=15∨i.op=16∨i.op=17∨i.op=18∨i.op=19∨i.op=20∨i.op=21∨i.op=22∨i.op=23 by omega) with
  e|e|e|e|e|e|e|e|e|e|e|e|e|e|e|e|e|e|e|e|e
 ·rw [Nl e] at h ⊢;exact ⟨hm.ok,hm.len,hm.told,hm.pos⟩
 ·rw [Nm e] at h ⊢;exact Ez hm h (Ho ha)
 ·rw [Nv e] at h ⊢;exact Ez hm h (If _)
 ·rw [Nz e] at h ⊢;exact Ez hm h (two h0 h0)
 ·rw [NA e] at h ⊢;exact hm
 ·rw [NB e] at h ⊢;exact Ez hm h (two h1 h0)
 ·rw [NC e] at h ⊢;exact Ez hm h (If _)
 ·rw [ND e] at h ⊢
  unfold GV at h ⊢
  split at h
  ·exact Ez hm h (Ho (by unfold AA;omega))
  ·rename_i x xs hx
   have hm2:Eu n {m with vals:=xs}:=⟨hm.ok,hm.len,hm.told,hm.pos⟩
   refine Ez hm2 h fun y hy=>?_
   rcases List.mem_cons.1 hy with rfl|hy
   ·exact If x _ (List.mem_singleton.2 U)
   ·exact Ho (n:=1) (by unfold AA;omega) y hy
 ·rw [IE e] at h ⊢;exact Ez hm h (one (WY _ _ _))
 ·rw [Nn e] at h ⊢;exact Ez hm h (Ho (bit _))
 ·rw [No e] at h ⊢;exact Ez hm h (If _)
 ·rw [Np e] at h ⊢;exact Ez hm h (Ho (by have:=h0.2;unfold AA;omega))
 ·rw [Nq e] at h ⊢;exact Ez hm h (Ho (R5 _ _))
 ·rw [Nr e] at h ⊢;exact Ez hm h (If _)
 ·rw [Ns e] at h ⊢;exact Ez hm h (If _)
 ·rw [Nt e] at h ⊢;exact Ez hm h (Ho (hD _))
 ·rw [Nu e] at h ⊢
  have:=hi.2.2.2.2.1 (.inl e)
  exact ⟨hm.ok,hm.len,hm.told,⟨this.1,this.2.1⟩⟩
 ·rw [La e] at h ⊢
  have:=hi.2.2.2.2.1 (.inr e)
  split
  ·exact ⟨hm.ok,hm.len,hm.told,⟨this.1,this.2.1⟩⟩
  ·exact hm
 ·rw [Nw e] at h ⊢;exact Ez hm h (one (hm.ok.2 _))
 ·rw [Nx e] at h ⊢
  refine ⟨⟨hm.ok.1,fun k=>?_⟩,hm.len,hm.told,hm.pos⟩
  show EV (if k=i.a.toNat then v.getD 0 CM else m.g k)
  split
  ·exact h0
  ·exact hm.ok.2 k
 ·rw [Ny e] at h ⊢
  refine ⟨hm.ok,hm.len,?_,hm.pos⟩
  show (DY m.told (v.getD 0 CM).b (v.getD 1 CM).b).2.length≤40
  have:=hm.told
  unfold DY
  split
  ·exact this
  ·split
   ·exact this
   ·simp only [List.length_append,List.length_cons,List.length_nil];omega
theorem O_ {D:AV} (hD:∀ s:ByteArray,AA (D.num s)) {key:ByteArray} {n:Int} {m:VM} {i:BG} (hm:Eu n m) (hi:BL i n) (ha:AA i.a) (h:(BK D key m i).2=0):Eu n (BK D key m i).1:=by
 by_cases hN:(Aw i.op m.stk).1≠0
 ·rw [Ll hN] at h;exact absurd h hN
 ·rw [Dl hN] at h ⊢
  obtain ⟨l1,l2,l3,l4⟩:=Mi (Classical.not_not.1 hN)
  exact Ux hD ⟨⟨fun v hv=>hm.ok.1 v (l4 v hv),hm.ok.2⟩,Nat.le_trans l2 hm.len,hm.told,hm.pos⟩ hi ha (fun x hx=>hm.ok.1 x (l3 x hx)) h
section
variable {D:AV} {p:List BG} {key:ByteArray} {m:VM} {i:BG}
theorem Mx (k:Nat) (h:¬ (m.pos<p.length∧m.halted=false)):CO D p key k m=(m,0):=by
 cases k<;>exact if_neg h
theorem XB (h:m.pos<p.length∧m.halted=false):CO D p key 0 m=(m,3):=if_pos h
theorem Qp {k:Nat} (h:m.pos<p.length∧m.halted=false) (hi:p[m.pos.toNat]?=some i) (hw:(BK D key {m with pos:=m.pos+1} i).2≠0):CO D p key (k+1) m=BK D key {m with pos:=m.pos+1} i:=by
 unfold CO
 rw [if_pos h,hi]
 exact if_pos hw
theorem Qq {k:Nat} (h:m.pos<p.length∧m.halted=false) (hi:p[m.pos.toNat]?=some i) (hw:¬ (BK D key {m with pos:=m.pos+1} i).2≠0):CO D p key (k+1) m=CO D p key k (BK D key {m with pos:=m.pos+1} i).1:=by
 conv=>lhs;unfold CO
 rw [if_pos h,hi]
 exact if_neg hw
end
theorem Uw (n:Nat) (vals:List ByteArray):Eu n (Dy vals) where
 ok:=⟨fun v hv=>(by cases hv),fun _=>Mp⟩
 len:=Nat.zero_le _
 told:=Nat.zero_le _
 pos:=⟨Int.le_refl 0,Int.natCast_nonneg n⟩
theorem Wl {xs:List BG} (h:Dz xs<0):∀ x∈xs,BL x xs.length:=by
 by_cases hl:xs.length≤40
 ·exact (NH hl).1 h
 ·exfalso
  unfold Dz at h
  split at h
  ·omega
  ·rw [if_pos (by omega)] at h
   omega
theorem Uy {n:Int} {m:VM} (h:Eu n m) (hp:m.pos<n):Eu n {m with pos:=m.pos+1}:=⟨h.ok,h.len,h.told,⟨by have:=h.pos;show 0≤m.pos+1;omega,by show m.pos+1≤n;omega⟩⟩
def LN (P:Program) (name:String) (Q:Array Value→Prop):SP where
 P w F:=∃ g,P.globalNamed name=some g∧F g∧∃ cs,w.var? P name=some cs∧Q cs
 loc:=fun ⟨g,h1,h2,cs,h3,h4⟩ hk=>⟨g,h1,h2,cs,by
  unfold World.var? at h3 ⊢
  rw [h1] at h3 ⊢
  simp only [Option.bind_some] at h3 ⊢
  rw [hk g h2]
  exact h3,h4⟩
 mono:=fun ⟨g,h1,h2,h3⟩ hs=>⟨g,h1,hs g h2,h3⟩
def NR (A B:SP):SP where
 P w F:=A.P w F∧B.P w F
 loc:=fun ⟨a,b⟩ hk=>⟨SP.loc _ a hk,SP.loc _ b hk⟩
 mono:=fun ⟨a,b⟩ hs=>⟨SP.mono _ a hs,SP.mono _ b hs⟩
section
variable {w0 w w':World} {F0:AJ} {As Rs:List SP}
theorem Hd.after (H:Hd w0 F0 w As Rs) (ub:Ci none_ w w'):Hd w0 F0 w' As Rs:=by
 have h:Hd w0 F0 w' (B1 True::As) Rs:=H.new ub (F':=none_) trivial (fun _ h=>h.elim)
 exact h.drop
theorem M3 (h:Go.RowKit.Below w.heap.size w w'):Ci none_ w w':=⟨h.os,h.tape,h.output,h.size,fun k hk _=>h.block k hk⟩
theorem Z3 (w:World) (k:Nat) (os:Array Obj):Ci none_ w (Sort.grow (w.drewN k) os):=⟨rfl,rfl,rfl,by simp [Sort.grow],fun i hi _=>by
 show (w.heap++os)[i]?=_
 rw [Array.getElem?_append_left hi]⟩
end
/-! ### Calls that were put off -/
def K_ (P:Program) (f:FuncId) (args:List Value) (As Rs:List SP) (T:Value→List SP→Prop):Prop:=
 ∀ w F u,Hd w F w As Rs→CallsD P f args.toArray u w fun e u' w'=>u'=u∧HB (fun v w'=>∃ Bs,T v Bs∧Hd w F w' Bs Rs) e w'
theorem Of {P:Program} {n:Nat} {w:World} {f:FuncId} {fn:Func} {c:Code} {args:List Value} {u:FrameMode} {R:Ending→World→Prop} (hf:P.funcs[f]?=some fn) (hb:fn.body=some c) (hn:fn.ntmps=n) (hl:args.length≤n)
  (h:WC P c (bodyPost P fn R) n (HL 0 args) w):CallsD P f args.toArray u w fun e u' w'=>u'=u∧R e w':=by
 refine callsD_of_wp hf hb (h _ ⟨rfl,?_,?_⟩)
 ·simp only [Array.size_append,List.size_toArray,Array.size_replicate,hn]
  omega
 ·intro s v hs
  obtain ⟨_,h2⟩:=L9 args 0 s v hs
  have hlt:s<args.length:=by
   rcases Nat.lt_or_ge s args.length with h'|h'
   ·exact h'
   ·simp [List.getElem?_eq_none h'] at h2
  refine ⟨?_,by omega⟩
  have h3:args[s]?=some v:=by simpa using h2
  simp [Array.getD_eq_getD_getElem?,Array.getElem?_append,hlt]
  simpa [List.getElem?_eq_getElem hlt] using h3
theorem JE {P:Program} {w0 w:World} {F0:AJ} {As Rs Cs Ss:List SP} {f:FuncId} {args:List Value} {u:FrameMode} {T:Value→List SP→Prop} (hc:K_ P f args Cs Ss T) (H:Hd w0 F0 w (Cs++As) Rs) (hl:Fu w As Rs Ss):
  CallsD P f args.toArray u w fun e u' w'=>u'=u∧HB (fun v w'=>∃ Bs,T v Bs∧Hd w0 F0 w' (Bs++As) Rs) e w':=by
 obtain ⟨Fc,h1,h2⟩:=H.frame hl
 refine (hc w Fc u h1).mono ?_
 rintro e u' w' ⟨hu,v,rfl,Bs,hT,hB⟩
 exact ⟨hu,v,rfl,Bs,hT,h2 w' Bs hB⟩
/-! ### Digits that are made once -/
def HJ (n:Int):ByteArray:=⟨(Lib.itoa n).toArray⟩
def EK (n:Int) (c t:Nat):SP:=ex fun f:Value=>blk c [.int .u32 1,.int .i32 0,.int .u32 0,.int .u32 1,f,.string (HJ n)] t
def Er (p:Int×Nat):Int×Value:=(p.1,.pointer (some ⟨p.2,0,none⟩))
def DX (t:Nat) (kvs:List (Int×Nat)):SP:=B5 (kvs.map fun p=>EK p.1 p.2 t)
def JH (t b:Nat):SP:=ex fun kvs:List (Int×Nat)=>B5 [D8 b (kvs.map Er),DX t kvs]
section
variable {w0 w w':World} {F0:AJ} {As Rs:List SP} {t b:Nat}
theorem Hd.ex_out {α:Sort _} {A:α→SP} (H:Hd w0 F0 w (ex A::As) Rs):∃ a,Hd w0 F0 w (A a::As) Rs:=by
 obtain ⟨F,G,⟨F1,F2,h1,h2,h3,⟨a,ha⟩,s⟩,r,d,f,g,u⟩:=H
 exact ⟨a,F,G,⟨F1,F2,h1,h2,h3,ha,s⟩,r,d,f,g,u⟩
theorem Hd.ex_in {α:Sort _} {A:α→SP} (a:α) (H:Hd w0 F0 w (A a::As) Rs):Hd w0 F0 w (ex A::As) Rs:=H.turn fun _ h=>⟨a,h⟩
theorem Tb (H:Hd w0 F0 w (JH t b::As) Rs):∃ kvs:List (Int×Nat),Hd w0 F0 w (D8 b (kvs.map Er)::DX t kvs::As) Rs:=by
 obtain ⟨kvs,h⟩:=H.ex_out
 exact ⟨kvs,h.open_ (Bs:=[D8 b (kvs.map Er),DX t kvs]) fun F hF=>hF⟩
theorem Lj (kvs:List (Int×Nat)) (H:Hd w0 F0 w (D8 b (kvs.map Er)::DX t kvs::As) Rs):Hd w0 F0 w (JH t b::As) Rs:=
 (Hd.shut (Bs:=[D8 b (kvs.map Er),DX t kvs]) H fun F hF=>hF).ex_in kvs
theorem SG (H:Hd w0 F0 w As Rs):Hd w0 F0 w (DX t []::As) Rs:=Hd.shut (Bs:=[]) H fun F hF=>hF
theorem Ta {A:SP} (H:Hd w0 F0 w (A::D8 b []::As) Rs):Hd w0 F0 w (A::JH t b::As) Rs:=by
 have h1:Hd w0 F0 w (D8 b []::A::As) Rs:=H.perm (List.Perm.swap _ _ _)
 have h2:=(SG (t:=t) h1).perm (List.Perm.swap _ _ _)
 exact (Lj [] h2).perm (List.Perm.swap _ _ _)
theorem Zr {A B C:SP} (H:Hd w0 F0 w (A::B::C::As) Rs):Hd w0 F0 w (C::A::B::As) Rs:=H.perm (((List.Perm.swap C B As).cons A).trans (List.Perm.swap C A _))
theorem NE {n:Int}:∀ {kvs:List (Int×Nat)} {v:Value},Ev n (kvs.map Er)=some v→∃ c,v=.pointer (some ⟨c,0,none⟩)∧(n,c)∈kvs
 |[],_,h=>by simp [Ev] at h
 |p::kvs,v,h=>by
  simp only [List.map_cons,Ev,Er] at h
  split at h
  ·rename_i e
   refine ⟨p.2,(Option.some.inj h).symm,?_⟩
   rw [e]
   exact List.mem_cons_self ..
  ·obtain ⟨c,h1,h2⟩:=NE h
   exact ⟨c,h1,List.mem_cons_of_mem _ h2⟩
theorem NF {n:Int} {v:Value}:∀ {kvs:List (Int×Value)},Ev n kvs=none→Ev n (kvs++[(n,v)])=some v
 |[],_=>by simp [Ev]
 |p::kvs,h=>by
  simp only [List.cons_append,Ev] at h ⊢
  split at h
  ·cases h
  ·rename_i e
   rw [if_neg e]
   exact NF h
theorem Wh (kvs:List (Int×Nat)) (n:Int) (b:Nat):(kvs++[(n,b)]).map Er=kvs.map Er++[(n,.pointer (some ⟨b,0,none⟩))]:=by simp [Er]
theorem SI {kvs:List (Int×Nat)} {n:Int} {c:Nat} (hm:(n,c)∈kvs) (H:Hd w0 F0 w (DX t kvs::As) Rs):∃ rest:List (Int×Nat),Hd w0 F0 w (EK n c t::DX t rest::As) Rs∧∀ {w1:World} {F1:AJ} {w2:World} {Bs Rs':List SP},Hd w1 F1 w2 (EK n c t::DX t rest::Bs) Rs'→Hd w1 F1 w2 (DX t kvs::Bs) Rs':=by
 obtain ⟨s,u,rfl⟩:=List.append_of_mem hm
 have hp:((s++(n,c)::u).map fun p=>EK p.1 p.2 t).Perm (EK n c t::((s++u).map fun p=>EK p.1 p.2 t)):=by
  rw [List.map_append,List.map_cons,List.map_append]
  exact List.perm_middle
 refine ⟨s++u,?_,?_⟩
 ·have h1:Hd w0 F0 w (B5 (EK n c t::((s++u).map fun p=>EK p.1 p.2 t))::As) Rs:=H.turn fun F hF=>Cr.perm hp hF
  refine h1.open_ (Bs:=[EK n c t,DX t (s++u)]) fun F hF=>?_
  obtain ⟨F1,F2,a1,a2,a3,a,b⟩:=hF
  exact ⟨F1,F2,a1,a2,a3,a,F2,none_,fun _ h=>h,fun _ h=>h.elim,fun _ _ h=>h,b,trivial⟩
 ·intro w1 F1 w2 Bs Rs' H2
  refine Hd.shut (Bs:=[EK n c t,DX t (s++u)]) H2 fun F hF=>?_
  obtain ⟨F1,F2,a1,a2,a3,a,F3,F4,b1,b2,b3,b,_⟩:=hF
  exact Cr.perm hp.symm ⟨F1,F2,a1,a2,a3,a,Cr.mono b b1⟩
theorem SH {kvs:List (Int×Nat)} {n:Int} {c:Nat} (H:Hd w0 F0 w (EK n c t::DX t kvs::As) Rs):Hd w0 F0 w (DX t (kvs++[(n,c)])::As) Rs:=by
 have hp:((kvs++[(n,c)]).map fun p=>EK p.1 p.2 t).Perm (EK n c t::(kvs.map fun p=>EK p.1 p.2 t)):=by
  rw [List.map_append,List.map_cons,List.map_nil]
  exact List.perm_append_singleton ..
 refine Hd.shut (Bs:=[EK n c t,DX t kvs]) H fun F hF=>?_
 obtain ⟨F1,F2,a1,a2,a3,a,F3,F4,b1,b2,b3,b,_⟩:=hF
 exact Cr.perm hp.symm ⟨F1,F2,a1,a2,a3,a,Cr.mono b b1⟩
end
section
variable {P:Program} {n:Nat} {l:BF} {w w0:World} {F0:AJ} {o:Oper} {x y:Operand} {t kt et:TypeId} {As Rs:List SP} {b:Nat} {kvs:List (Int×Value)} {v:Value}
theorem Kv (ho:o.op=.lookup t x y false) (hm:P.underlying t=some (.map kt et)) (hk:P.underlying kt=some (.int .i64)) {z:Value} (hz:CY P et=some z) (hx:ev l x=some (.map (some b))) {k:Int} (hy:ev l y=some (.int .i64 k))
  (H:Hd w0 F0 w As Rs) (j:Nat) (hj:As[j]?=some (D8 b kvs)) (hv:(Ev k kvs).getD z=v):Bz P n l w o v w:=hv▸XW ho hm hk hz hx hy H j hj
end
def gl:SP:=NR (LN Tryz.prog "internal/strconv.uint64pow10" (fun cs=>cs=(Lib.pow10Tab.map fun z=>Value.int .u64 z).toArray)) (NR (LN Tryz.prog "strconv.ErrSyntax" (fun cs=>∃ tp p,cs=#[.iface tp p])) (LN Tryz.prog "strconv.ErrRange" (fun cs=>∃ tp p,cs=#[.iface tp p])))
def Gv (s:ByteArray):Int:=match Lib.parseIntB 64 s.data.toList with
 |.ok v=>if HJ v=s then v else 0
 |_=>0
def dg:AV:=⟨HJ,Gv⟩
abbrev BS (b:Nat):SP:=JH 234 b
theorem Ie (s:ByteArray):AA (dg.num s):=by
 show AA (Gv s)
 unfold Gv
 split
 ·rename_i v h
  have:=Lib.parseIntB_bounds h
  split
  ·unfold AA;omega
  ·exact IR
 ·exact IR
theorem TZ (n:Int) (hn:AA n):Cn Tryz.prog 326 [.int .i64 n,.int .i64 10] [] [gl] (fun v Bs=>v=.string (dg.dig n)∧Bs=[]):=by
 intro w F H
 have htab:Lib.TabIs Tryz.prog w "internal/strconv.uint64pow10" .u64 Lib.pow10Tab:=H.factR (List.mem_cons_self ..) fun F h=>by
  obtain ⟨⟨g,h1,h2,cs,h3,rfl⟩,_⟩:=h
  exact h3
 refine (Go.Proofs.Tryz.strconv_FormatInt_10 n hn.1 hn.2 w htab).mono ?_
 rintro e w' ⟨rfl,k,os,rfl⟩
 exact ⟨_,rfl,[],⟨rfl,rfl⟩,H.after (Z3 w k os)⟩
theorem Xu (s:ByteArray) (hs:s.size≤64) (v:Int) (h:Lib.parseIntB 64 s.data.toList=.ok v):Cn Tryz.prog 305 [.string s,.int .i64 10,.int .i64 64] [] [gl] (fun r Bs=>r=.tuple #[.int .i64 v,.nilIface]∧Bs=[]):=by
 intro w F H
 refine (Go.Proofs.Tryz.strconv_ParseInt_10_at64_ok s (by omega) v h w).mono ?_
 rintro e w' ⟨rfl,hw⟩
 refine ⟨_,rfl,[],⟨rfl,rfl⟩,?_⟩
 rcases hw with rfl|⟨t,rfl⟩
 ·exact H
 ·exact H.after (M3 (Lib.bytesWorld_below ..))
theorem Xt (s:ByteArray) (hs:s.size≤64) (h:∀ v,Lib.parseIntB 64 s.data.toList≠.ok v):Cn Tryz.prog 305 [.string s,.int .i64 10,.int .i64 64] [] [gl] (fun r Bs=>∃ x te pe,r=.tuple #[.int .i64 x,.iface te pe]∧Bs=[]):=by
 intro w F H
 obtain ⟨tp,p,hS⟩:∃ tp p,w.var? Tryz.prog "strconv.ErrSyntax" =some #[.iface tp p]:=H.factR (List.mem_cons_self ..) fun F h=>by
  obtain ⟨_,⟨g,h1,h2,cs,h3,tp,p,rfl⟩,_⟩:=h
  exact ⟨tp,p,h3⟩
 obtain ⟨tq,q,hR⟩:∃ tp p,w.var? Tryz.prog "strconv.ErrRange" =some #[.iface tp p]:=H.factR (List.mem_cons_self ..) fun F h=>by
  obtain ⟨_,_,⟨g,h1,h2,cs,h3,tp,p,rfl⟩⟩:=h
  exact ⟨tp,p,h3⟩
 rcases hh:Lib.parseIntB 64 s.data.toList with v|_|_
 ·exact absurd hh (h v)
 ·refine (Go.Proofs.Tryz.strconv_ParseInt_10_at64_syntax_var s (by omega) (fun e he=>by rw [hh] at he;subst he;exact ⟨fun v=>nofun,nofun⟩) tp p w hS).mono ?_
  rintro e w' ⟨N,rfl,_,_,hb⟩
  exact ⟨_,rfl,[],⟨_,_,_,rfl,rfl⟩,H.after (M3 hb)⟩
 ·refine (Go.Proofs.Tryz.strconv_ParseInt_10_at64_range_var s (by omega) hh tq q w hR).mono ?_
  rintro e w' ⟨N,rfl,_,_,hb⟩
  exact ⟨_,rfl,[],⟨_,_,_,rfl,rfl⟩,H.after (M3 hb)⟩
theorem N6 (n:Int) (hn:AA n):
    Cn Tryz.prog 304 [.int .i64 n] [] [gl] (fun v Bs=>v=.string (dg.dig n)∧Bs=[]):=by
 intro w0 F0 H
 refine enter Tryz.func304 U U (Nat.le_of_ble_eq_true U) (Ab (Ae (Ad U (Ac (Aa (Ab (Ae (Ad U (sc (TZ n (by assumption)) H (lR 0 U l0) U U (At VD U U) ?_)))))))))
 rintro _ _ w ⟨rfl,rfl⟩ H
 exact Ad U (Ac (Aa (An (Aq U U (Al ⟨rfl,rfl⟩ H)))))
theorem WR {s:ByteArray} (h:∀ v,Lib.parseIntB 64 s.data.toList≠.ok v):dg.num s=0:=by
 show Gv s=0
 unfold Gv
 split
 ·rename_i v hh
  exact absurd hh (h v)
 ·rfl
theorem WS (s:ByteArray) (hs:s.size≤64):
    Cn Tryz.prog 275 [.string s] [] [gl] (fun v Bs=>v=.int .i64 (dg.num s)∧Bs=[]):=by
 intro w0 F0 H
 refine enter Tryz.func275 U U (Nat.le_of_ble_eq_true U) (Ab (Ae (Ad U (Ac (Aa (Ab ?_))))))
 by_cases hok:∃ v,Lib.parseIntB 64 s.data.toList=.ok v
 ·refine Ae (Ad U ?_)
  obtain ⟨x0,hx0⟩:=hok
  have hxb:=Lib.parseIntB_bounds hx0
  have hx64:AA x0:=by unfold AA;omega
  refine sc (Xu s hs x0 hx0) H (lR 0 U l0) U U (At Pw U U) ?_
  rintro _ _ w ⟨rfl,rfl⟩ H
  refine Ah 5 U (Ac (Aa (Ab (Ab (Ae (Ad U (V U U (QG U Rx U (.inl ⟨rfl,rfl⟩)) (Ah 2 U (sc (N6 x0 (by assumption)) H (lR 0 U l0) U U (At Pv U U) ?_)))))))))
  rintro _ _ w ⟨rfl,rfl⟩ H
  refine Ad U (V U U (MD U U U) (Ad U (Ac (Aa ?_))))
  refine Ax U (fun h1=>?_) (fun h1=>?_)
  ·refine Ab (Ae (Ad U (Ac (Aa (An (Az (Aq U U ?_)))))))
   have e:dg.num s=0:=by show Gv s=_;unfold Gv;rw [hx0];exact if_neg h1
   exact Al ⟨by rw [e]<;>rfl,rfl⟩ H
  refine Av (Aa (Ab (Ae (Ah 2 U (Ac (Aa (An (Aq U U ?_))))))))
  have e:dg.num s=x0:=by show Gv s=_;unfold Gv;rw [hx0];exact if_pos (Classical.not_not.1 h1)
  exact Al ⟨by rw [e]<;>rfl,rfl⟩ H
 refine Ae (Ad U (sc (Xt s hs (fun v h=>hok ⟨v,h⟩)) H (lR 0 U l0) U U (At Pw U U) ?_))
 rintro _ _ w ⟨x0,te,pe,rfl,rfl⟩ H
 refine Ah 5 U (Ac (Aa (Ab (Ab (Ae (Ad U (V U U (QG U Rx U (.inr ⟨_,_,rfl,rfl⟩)) (Ah 6 U (Ac (Aa (Cw U (Ab (Ae (Ad U (Ac (Aa (An (Az (Aq U U ?_)))))))))))))))))))
 have e:dg.num s=0:=WR (fun v h=>hok ⟨v,h⟩)
 exact Al ⟨by rw [e]<;>rfl,rfl⟩ H
theorem Lb (b:Bool):
    Cn Tryz.prog 187 [.bool b] [] [] (fun v Bs=>v=.int .u32 (if b=true then 1 else 0)∧Bs=[]):=by
 intro w0 F0 H
 refine enter Tryz.func187 U U (Nat.le_of_ble_eq_true U) (Ab (Ae (Ad U (Ac (Aa (Ab (Ab (Ae (Ad U (Ac (Aa ?_)))))))))))
 refine DN (b:=b) U (fun h1=>?_) (fun h1=>?_)
 ·exact Ab (Ae (Ad U (Ac (Aa (An (Az (Aq U U (Al ⟨by simp [h1],rfl⟩ H))))))))
 exact Av (Aa (Ab (Ae (Ad U (Ac (Aa (An (Aq U U (Al ⟨by simp [h1],rfl⟩ H)))))))))
theorem MV (c:Nat) (d m:Int) (sm:Value) (md:Int) (fv:Value) (tx:ByteArray):
    Cn Tryz.prog 142 [.pointer (some ⟨c,3,none⟩),.bool true] [blk c [.int .u32 d,.int .i32 m,sm,.int .u32 md,fv,.string tx] 234] [] (fun v Bs=>v=.tuple #[]∧Bs=[blk c [.int .u32 d,.int .i32 m,sm,.int .u32 1,fv,.string tx] 234]):=by
 intro w0 F0 H
 refine enter Tryz.func142 U U (Nat.le_of_ble_eq_true U) (BY (.e 0 (.e 1 (.e 2 (.e 3 (.m 4 (.m 5 .z)))))) (fun w=>∃ Ar,Hd w0 F0 w (Ar) []) mo (by kernel_rfl) (fun w H=>⟨_,H⟩) H (fun w H=>(Au U (Ao U U U (fun w ⟨Ar,H⟩=>AH U U) (Ao U U U (fun w ⟨Ar,H⟩=>Aj U HO U) (Au U (AO U (sc (Lb true) H l0 U U (At L0 U U) ?_))))))))
 rintro _ _ w ⟨rfl,rfl⟩ H
 refine AE ⟨_,H⟩ (AO U (MM Lo U U U U H U (fun w H=>?_)))
 replace H:Hd _ _ _ [blk c [.int .u32 d,.int .i32 m,sm,.int .u32 1,fv,.string tx] 234] []:=H
 exact AE ⟨_,H⟩ (BP (DC U (Al ⟨rfl,rfl⟩ H)))
theorem Rl (c:Nat) (d m:Int) (sm:Value) (md:Int) (fv:Value) (tx:ByteArray):
    K_ Tryz.prog 142 [.pointer (some ⟨c,0,none⟩),.bool true] [blk c [.int .u32 d,.int .i32 m,sm,.int .u32 md,fv,.string tx] 234] [] (fun v Bs=>v=.tuple #[]∧Bs=[blk c [.int .u32 1,.int .i32 m,sm,.int .u32 md,fv,.string tx] 234]):=by
 intro w0 F0 ufm H
 refine Of Tryz.func142 U U (Nat.le_of_ble_eq_true U) (BY (.e 0 (.e 1 (.e 2 (.e 3 (.m 4 (.m 5 .z)))))) (fun w=>∃ Ar,Hd w0 F0 w (Ar) []) mo (by kernel_rfl) (fun w H=>⟨_,H⟩) H (fun w H=>(Au U (Ao U U U (fun w ⟨Ar,H⟩=>AH U U) (Ao U U U (fun w ⟨Ar,H⟩=>Aj U HO U) (Au U (AO U (sc (Lb true) H l0 U U (At L0 U U) ?_))))))))
 rintro _ _ w ⟨rfl,rfl⟩ H
 refine AE ⟨_,H⟩ (AO U (MM Lo U U U U H U (fun w H=>?_)))
 replace H:Hd _ _ _ [blk c [.int .u32 1,.int .i32 m,sm,.int .u32 md,fv,.string tx] 234] []:=H
 exact AE ⟨_,H⟩ (BP (DC U (Al ⟨rfl,rfl⟩ H)))
theorem Ke (c:Nat) (m:Int) (sm:Value) (md:Int) (fv:Value) (tx:ByteArray):
    Cn Tryz.prog 144 [.pointer (some ⟨c,0,none⟩)] [] [blk c [.int .u32 0,.int .i32 m,sm,.int .u32 md,fv,.string tx] 234] (fun v Bs=>v=.bool false∧Bs=[]):=by
 intro w0 F0 H
 refine enter Tryz.func144 U U (Nat.le_of_ble_eq_true U) (Ab (Ae (Ad U (Ac (Aa (Ab (Ae (Ad U (V U U (AH U U) (V U U (Aj U HO U) (V U U (Kt Lp U U (H.cellRI 0 U U)) (V U U (CX U U U) (Ad U (Ac (Aa (An (Aq U U ?_)))))))))))))))))
 replace H:Hd _ _ _ [] [blk c [.int .u32 0,.int .i32 m,sm,.int .u32 md,fv,.string tx] 234]:=H
 exact Al ⟨rfl,rfl⟩ H
theorem VZ (c:Nat) (m:Int) (sm:Value) (md:Int) (fv:Value) (tx:ByteArray):
    Cn Tryz.prog 144 [.pointer (some ⟨c,0,none⟩)] [] [blk c [.int .u32 1,.int .i32 m,sm,.int .u32 md,fv,.string tx] 234] (fun v Bs=>v=.bool true∧Bs=[]):=by
 intro w0 F0 H
 refine enter Tryz.func144 U U (Nat.le_of_ble_eq_true U) (Ab (Ae (Ad U (Ac (Aa (Ab (Ae (Ad U (V U U (AH U U) (V U U (Aj U HO U) (V U U (Kt Lp U U (H.cellRI 0 U U)) (V U U (CX U U U) (Ad U (Ac (Aa (An (Aq U U ?_)))))))))))))))))
 replace H:Hd _ _ _ [] [blk c [.int .u32 1,.int .i32 m,sm,.int .u32 md,fv,.string tx] 234]:=H
 exact Al ⟨rfl,rfl⟩ H
theorem Us (c:Nat) (d:Int) (sm:Value) (md:Int) (fv:Value) (tx:ByteArray):
    Cn Tryz.prog 262 [.pointer (some ⟨c,1,none⟩)] [blk c [.int .u32 d,.int .i32 0,sm,.int .u32 md,fv,.string tx] 234] [] (fun v Bs=>v=.tuple #[]∧Bs=[blk c [.int .u32 d,.int .i32 1,sm,.int .u32 md,fv,.string tx] 234]):=by
 intro w0 F0 H
 refine enter Tryz.func262 U U (Nat.le_of_ble_eq_true U) (Ab (Ae (V U U (Kw Oj U U) (Ac (Aa (Ab (Ab (Ae (Ad U (V U U (AH U U) (V U U (Aj U LD U) (Ra Ty U U U U H U (fun w H=>?_)))))))))))))
 replace H:Hd _ _ _ [blk c [.int .u32 d,.int .i32 1,sm,.int .u32 md,fv,.string tx] 234] []:=H
 exact Ac (Aa (Cw U (Ab (Cw U (Ab (Ae (V U U (Kw Ok U U) (Ac (Aa (Ae (Ad U (V U U (QM U RG RJ Qa U (H.cellI 0 U U)) (V U U (QJ Tz U U) (Ac (Aa (An (Az (I6 U (Al ⟨rfl,rfl⟩ H)))))))))))))))))))
theorem PH (c:Nat) (d:Int) (sm:Value) (md:Int) (fv:Value) (tx:ByteArray):
    Cn Tryz.prog 241 [.pointer (some ⟨c,1,none⟩)] [blk c [.int .u32 d,.int .i32 0,sm,.int .u32 md,fv,.string tx] 234] [] (fun v Bs=>v=.tuple #[]∧Bs=[blk c [.int .u32 d,.int .i32 1,sm,.int .u32 md,fv,.string tx] 234]):=by
 intro w0 F0 H
 refine enter Tryz.func241 U U (Nat.le_of_ble_eq_true U) (Ae (Ad U (V U U (AH U U) (V U U (Aj U Oy U) (sc (Us c d sm md fv tx) H l0 U U (At Vp U U) ?_)))))
 rintro _ _ w ⟨rfl,rfl⟩ H
 refine Ac (DC U ?_)
 replace H:Hd _ _ _ [blk c [.int .u32 d,.int .i32 1,sm,.int .u32 md,fv,.string tx] 234] []:=H
 exact Al ⟨rfl,rfl⟩ H
theorem UC (c:Nat) (d:Int) (sm:Value) (md:Int) (fv:Value) (tx:ByteArray):
    Cn Tryz.prog 263 [.pointer (some ⟨c,1,none⟩)] [blk c [.int .u32 d,.int .i32 1,sm,.int .u32 md,fv,.string tx] 234] [] (fun v Bs=>v=.tuple #[]∧Bs=[blk c [.int .u32 d,.int .i32 0,sm,.int .u32 md,fv,.string tx] 234]):=by
 intro w0 F0 H
 refine enter Tryz.func263 U U (Nat.le_of_ble_eq_true U) (Ab (Cw U (Ab (Ae (Ad U (V U U (AH U U) (V U U (Aj U LD U) (V U U (Ak U ZS U (H.cellI 0 U U)) (Ac (Aa (Ab (Ae (Ad U (V U U (QM U RG RJ Qa U (H.cellI 0 U U)) (V U U (QJ TA U U) (Ac (Aa (Ae (V U U (Kw Oj U U) (Ac (Aa (Ab (Ae (Ad U (V U U (AH U U) (V U U (Aj U LD U) (YR TB U U U U H U U (fun w H=>?_))))))))))))))))))))))))))))
 replace H:Hd _ _ _ [blk c [.int .u32 d,.int .i32 0,sm,.int .u32 md,fv,.string tx] 234] []:=H
 exact Ad U (Ac (Aa (Ab (Ab (Ae (Ad U (V U U (CX U U U) (Ac (Aa (B7 U (Av (Aa (Ae (V U U (Kw Ok U U) (Ac (DC U (Al ⟨rfl,rfl⟩ H)))))))))))))))))
theorem RI (c:Nat) (d:Int) (sm:Value) (md:Int) (fv:Value) (tx:ByteArray):
    K_ Tryz.prog 242 [.pointer (some ⟨c,1,none⟩)] [blk c [.int .u32 d,.int .i32 1,sm,.int .u32 md,fv,.string tx] 234] [] (fun v Bs=>v=.tuple #[]∧Bs=[blk c [.int .u32 d,.int .i32 0,sm,.int .u32 md,fv,.string tx] 234]):=by
 intro w0 F0 ufm H
 refine Of Tryz.func242 U U (Nat.le_of_ble_eq_true U) (Ae (Ad U (V U U (AH U U) (V U U (Aj U Oy U) (sc (UC c d sm md fv tx) H l0 U U (At Vq U U) ?_)))))
 rintro _ _ w ⟨rfl,rfl⟩ H
 refine Ac (DC U ?_)
 replace H:Hd _ _ _ [blk c [.int .u32 d,.int .i32 0,sm,.int .u32 md,fv,.string tx] 234] []:=H
 exact Al ⟨rfl,rfl⟩ H
end Go.Proofs.YthgehekecfpikaaGreatDoor.X
