/- ReducerRight: texts XF, XL, XL3, XU, XProg, XV, XV2, F1, XH, XT, XT2, XT3, XT4, XPair, XMer, XMer2, XProg2, XRec, XV3, V1, V2, V3, XV4, XV5, XG, V4, O1, joined by a program of ours; what nothing names is left out. -/
import Derived.Test.YthgehekecfpikaaGreatDoorReducerRightQ1
import Derived.Test.YthgehekecfpikaaGreatDoorProg
import Derived.KernelRfl
import Derived.Sort.Row
import Derived.Sort.Grow
import Derived.Sort.EncStr
import Derived.Lib.SlicesCompact
import Derived.WideLaws
import Derived.Sort.Walk0
import Derived.Defers
import Derived.Lib.LaidTab
import Derived.Lib.ItoaNum
import Derived.Lib.AppendIntMem
import Derived.Test.YthgehekecfpikaaGreatDoorShelf
set_option linter.unusedVariables false
set_option linter.unusedSimpArgs false
set_option maxHeartbeats 8000000
namespace Go.Proofs.YthgehekecfpikaaGreatDoor.X
open Go
theorem JN:Eg Tryz.prog 106=some (#[.string ⟨#[]⟩,.string ⟨#[]⟩],#[(0,1),(1,1)]):=by kernel_rfl
theorem Sg:Eg Tryz.prog 164=some (#[.slice none 0 0,.int .i64 0,.slice none 0 0,.slice none 0 0,.slice none 0 0,.int .i64 0,.int .i64 0,.int .i64 0,.slice none 0 0,.int .i64 0,.int .i64 0,.int .i64 0,.int .i64 0,.int .i64 0,.int .i64 0,.pointer none,.slice none 0 0],#[(0,12),(12,1),(13,1),(14,1),(15,1),(16,1)]):=by kernel_rfl
theorem Sh:Eg Tryz.prog 185=some (#[.slice none 0 0,.int .i64 0,.slice none 0 0,.slice none 0 0,.slice none 0 0,.int .i64 0,.int .i64 0,.int .i64 0,.slice none 0 0,.int .i64 0,.int .i64 0,.int .i64 0,.int .i64 0,.int .i64 0,.bool false,.slice none 0 0,.bool false,.int .i64 0,.int .i64 0,.bool false,.slice none 0 0,.bool false,.int .i64 0,.int .i64 0,.bool false,.slice none 0 0,.bool false,.int .i64 0,.int .i64 0,.bool false,.slice none 0 0,.bool false,.int .i64 0,.int .i64 0,.bool false,.slice none 0 0,.bool false,.int .i64 0,.int .i64 0,.bool false,.slice none 0 0,.bool false,.int .i64 0,.int .i64 0,.pointer none,.slice none 0 0],#[(0,12),(12,1),(13,1),(14,30),(44,1),(45,1)]):=by kernel_rfl
theorem Si:Eg Tryz.prog 195=some (#[.slice none 0 0,.int .i64 0,.slice none 0 0],#[(0,1),(1,1),(2,1)]):=by kernel_rfl
theorem JO:Eg Tryz.prog 223=some (#[.int .i64 0,.int .i64 0,.string ⟨#[]⟩],#[(0,1),(1,1),(2,1)]):=by kernel_rfl
theorem NE:Eg Tryz.prog 234=some (#[.int .u32 0,.int .i32 0,.int .u32 0,.int .u32 0,.nilFunc,.string ⟨#[]⟩],#[(0,3),(3,1),(4,1),(5,1)]):=by kernel_rfl
theorem Sj:Eg Tryz.prog 239=some (#[.int .i64 0,.int .i64 0,.int .i64 0,.int .i64 0],#[(0,1),(1,1),(2,1),(3,1)]):=by kernel_rfl
theorem Lc:Eg Tryz.prog 250=some (#[.int .i64 0,.int .i64 0],#[(0,1),(1,1)]):=by kernel_rfl
theorem Sk:Eg Tryz.prog 253=some (#[.map none],#[(0,1)]):=by kernel_rfl
theorem Sl:Eg Tryz.prog 26=some (#[.slice none 0 0,.int .i64 0,.slice none 0 0,.slice none 0 0,.slice none 0 0,.int .i64 0,.int .i64 0,.int .i64 0,.slice none 0 0],#[(0,1),(1,1),(2,1),(3,1),(4,1),(5,1),(6,1),(7,1),(8,1)]):=by kernel_rfl
theorem Sm:Eg Tryz.prog 28=some (#[.slice none 0 0,.int .i64 0,.slice none 0 0,.slice none 0 0,.slice none 0 0,.int .i64 0,.int .i64 0,.int .i64 0,.slice none 0 0,.int .i64 0,.int .i64 0,.int .i64 0],#[(0,9),(9,1),(10,1),(11,1)]):=by kernel_rfl
theorem NF:Eg Tryz.prog 284=some (#[.bool false,.int .i64 0,.string ⟨#[]⟩],#[(0,1),(1,1),(2,1)]):=by kernel_rfl
theorem Sn:Eg Tryz.prog 288=some (#[.slice none 0 0,.string ⟨#[]⟩,.slice none 0 0,.int .i64 0,.int .i64 0,.int .i64 0,.bool false,.slice none 0 0,.bool false,.int .i64 0,.string ⟨#[]⟩,.bool false,.int .i64 0,.string ⟨#[]⟩,.bool false,.int .i64 0,.string ⟨#[]⟩,.bool false,.int .i64 0,.string ⟨#[]⟩,.bool false,.int .i64 0,.string ⟨#[]⟩,.bool false,.int .i64 0,.string ⟨#[]⟩,.bool false,.int .i64 0,.string ⟨#[]⟩,.bool false,.int .i64 0,.string ⟨#[]⟩,.slice none 0 0,.map none],#[(0,1),(1,1),(2,1),(3,1),(4,1),(5,1),(6,1),(7,1),(8,24),(32,1),(33,1)]):=by kernel_rfl
theorem So:Eg Tryz.prog 322=some (#[.int .i64 0,.int .i64 0,.int .i64 0,.int .i64 0,.int .i64 0,.int .i64 0,.int .i64 0,.int .i64 0],#[(0,8)]):=by kernel_rfl
theorem JP:Eg Tryz.prog 37=some (#[.int .i64 0,.int .i64 0,.int .i64 0,.int .i64 0,.int .i64 0,.slice none 0 0,.slice none 0 0],#[(0,1),(1,1),(2,1),(3,1),(4,1),(5,1),(6,1)]):=by kernel_rfl
theorem H_:Eg Tryz.prog 64=some (#[.int .i64 0,.int .i64 0,.int .i64 0,.int .i64 0,.int .i64 0,.int .i64 0,.int .i64 0,.int .i64 0,.slice none 0 0,.slice none 0 0],#[(0,1),(1,1),(2,1),(3,1),(4,1),(5,1),(6,1),(7,1),(8,1),(9,1)]):=by kernel_rfl
theorem SG:Tryz.prog.cellsOf 106=2:=by kernel_rfl
theorem SH:Tryz.prog.cellsOf 223=3:=by kernel_rfl
theorem SI:Tryz.prog.cellsOf 26=9:=by kernel_rfl
theorem SJ:Tryz.prog.cellsOf 28=12:=by kernel_rfl
theorem TG:GM Tryz.prog 106 [⟨ "Key",9,0,false, "", "",0⟩,⟨ "Value",9,1,false, "", "",16⟩]:=⟨by kernel_rfl,by kernel_rfl,by kernel_rfl⟩
theorem TH:GM Tryz.prog 250 [⟨ "split",3,0,false, "", "staithe/stage",0⟩,⟨ "attempt",3,1,false, "", "staithe/stage",8⟩]:=⟨by kernel_rfl,by kernel_rfl,by kernel_rfl⟩
theorem Oj:Ew Tryz.prog 186 (Extern.Atomic.storeT):=⟨_,Tryz.func186,by kernel_rfl,by kernel_rfl,by kernel_rfl,by kernel_rfl⟩
theorem Ok:Ew Tryz.prog 188 (Extern.Atomic.loadT (.int .u32)):=⟨_,Tryz.func188,by kernel_rfl,by kernel_rfl,by kernel_rfl,by kernel_rfl⟩
theorem Ol:Ew Tryz.prog 294 (fun _=>do mark .disable;pure Extern.Race.none_):=⟨_,Tryz.func294,by kernel_rfl,by kernel_rfl,by kernel_rfl,by kernel_rfl⟩
theorem TP:Ew Tryz.prog 295 (Extern.Atomic.casT (.int .i32)):=⟨_,Tryz.func295,by kernel_rfl,by kernel_rfl,by kernel_rfl,by kernel_rfl⟩
theorem Om:Ew Tryz.prog 296 (fun _=>do mark .enable;pure Extern.Race.none_):=⟨_,Tryz.func296,by kernel_rfl,by kernel_rfl,by kernel_rfl,by kernel_rfl⟩
theorem TQ:Ew Tryz.prog 297 (Extern.Race.marked .acquire):=⟨_,Tryz.func297,by kernel_rfl,by kernel_rfl,by kernel_rfl,by kernel_rfl⟩
theorem TR:Ew Tryz.prog 299 (Extern.Race.marked .releaseMerge):=⟨_,Tryz.func299,by kernel_rfl,by kernel_rfl,by kernel_rfl,by kernel_rfl⟩
theorem TT:Ew Tryz.prog 300 (Extern.Atomic.update (Op.intArith .add) .i32 true):=⟨_,Tryz.func300,by kernel_rfl,by kernel_rfl,by kernel_rfl,by kernel_rfl⟩
theorem TU:Ew Tryz.prog 316 (Extern.Atomic.loadT (.int .i64)):=⟨_,Tryz.func316,by kernel_rfl,by kernel_rfl,by kernel_rfl,by kernel_rfl⟩
theorem TV:Ew Tryz.prog 317 (Extern.Atomic.casT (.int .i64)):=⟨_,Tryz.func317,by kernel_rfl,by kernel_rfl,by kernel_rfl,by kernel_rfl⟩
theorem Fh:By Tryz.prog 106 0=some 0:=by kernel_rfl
theorem Ih:By Tryz.prog 106 1=some 1:=by kernel_rfl
theorem J5:By Tryz.prog 164 0=some 0:=by kernel_rfl
theorem T0:By Tryz.prog 164 2=some 13:=by kernel_rfl
theorem LA:By Tryz.prog 164 3=some 14:=by kernel_rfl
theorem J6:By Tryz.prog 164 4=some 15:=by kernel_rfl
theorem LB:By Tryz.prog 164 5=some 16:=by kernel_rfl
theorem FL:By Tryz.prog 181 0=some 0:=by kernel_rfl
theorem J7:By Tryz.prog 181 1=some 1:=by kernel_rfl
theorem LC:By Tryz.prog 181 2=some 2:=by kernel_rfl
theorem LD:By Tryz.prog 181 3=some 3:=by kernel_rfl
theorem Ou:By Tryz.prog 181 4=some 4:=by kernel_rfl
theorem Gs:By Tryz.prog 185 0=some 0:=by kernel_rfl
theorem Ii:By Tryz.prog 185 1=some 12:=by kernel_rfl
theorem T1:By Tryz.prog 185 2=some 13:=by kernel_rfl
theorem I9:By Tryz.prog 185 3=some 14:=by kernel_rfl
theorem HB:By Tryz.prog 185 4=some 44:=by kernel_rfl
theorem Fi:By Tryz.prog 185 5=some 45:=by kernel_rfl
theorem J8:By Tryz.prog 195 0=some 0:=by kernel_rfl
theorem T2:By Tryz.prog 195 1=some 1:=by kernel_rfl
theorem T3:By Tryz.prog 195 2=some 2:=by kernel_rfl
theorem J9:By Tryz.prog 208 1=some 0:=by kernel_rfl
theorem C7:By Tryz.prog 223 0=some 0:=by kernel_rfl
theorem Dg:By Tryz.prog 223 1=some 1:=by kernel_rfl
theorem E5:By Tryz.prog 223 2=some 2:=by kernel_rfl
theorem LE:By Tryz.prog 228 0=some 0:=by kernel_rfl
theorem Ov:By Tryz.prog 230 1=some 0:=by kernel_rfl
theorem LF:By Tryz.prog 232 1=some 0:=by kernel_rfl
theorem LG:By Tryz.prog 234 0=some 0:=by kernel_rfl
theorem LH:By Tryz.prog 234 1=some 3:=by kernel_rfl
theorem J_:By Tryz.prog 234 2=some 4:=by kernel_rfl
theorem I_:By Tryz.prog 234 3=some 5:=by kernel_rfl
theorem T4:By Tryz.prog 250 0=some 0:=by kernel_rfl
theorem HC:By Tryz.prog 253 0=some 0:=by kernel_rfl
theorem Dw:By Tryz.prog 26 0=some 0:=by kernel_rfl
theorem GX:By Tryz.prog 26 1=some 1:=by kernel_rfl
theorem Ij:By Tryz.prog 26 2=some 2:=by kernel_rfl
theorem Ik:By Tryz.prog 26 3=some 3:=by kernel_rfl
theorem HD:By Tryz.prog 26 4=some 4:=by kernel_rfl
theorem Ow:By Tryz.prog 26 5=some 5:=by kernel_rfl
theorem Ox:By Tryz.prog 26 6=some 6:=by kernel_rfl
theorem Ja:By Tryz.prog 26 7=some 7:=by kernel_rfl
theorem GY:By Tryz.prog 26 8=some 8:=by kernel_rfl
theorem HE:By Tryz.prog 284 0=some 0:=by kernel_rfl
theorem EP:By Tryz.prog 284 1=some 1:=by kernel_rfl
theorem FM:By Tryz.prog 284 2=some 2:=by kernel_rfl
theorem T5:By Tryz.prog 288 1=some 1:=by kernel_rfl
theorem Jb:By Tryz.prog 288 10=some 33:=by kernel_rfl
theorem Ka:By Tryz.prog 288 2=some 2:=by kernel_rfl
theorem T6:By Tryz.prog 288 3=some 3:=by kernel_rfl
theorem Il:By Tryz.prog 288 4=some 4:=by kernel_rfl
theorem LI:By Tryz.prog 288 5=some 5:=by kernel_rfl
theorem Oy:By Tryz.prog 288 6=some 6:=by kernel_rfl
theorem Gt:By Tryz.prog 288 7=some 7:=by kernel_rfl
theorem Oz:By Tryz.prog 288 8=some 8:=by kernel_rfl
theorem Kb:By Tryz.prog 288 9=some 32:=by kernel_rfl
theorem Cu:By Tryz.prog 28 0=some 0:=by kernel_rfl
theorem OA:By Tryz.prog 28 1=some 9:=by kernel_rfl
theorem Jc:By Tryz.prog 28 2=some 10:=by kernel_rfl
theorem T7:By Tryz.prog 28 3=some 11:=by kernel_rfl
theorem OB:By Tryz.prog 319 2=some 0:=by kernel_rfl
theorem T8:By Tryz.prog 322 0=some 0:=by kernel_rfl
theorem HF:By Tryz.prog 37 0=some 0:=by kernel_rfl
theorem T9:By Tryz.prog 37 1=some 1:=by kernel_rfl
theorem OC:By Tryz.prog 37 2=some 2:=by kernel_rfl
theorem OD:By Tryz.prog 37 5=some 5:=by kernel_rfl
theorem T_:By Tryz.prog 37 6=some 6:=by kernel_rfl
theorem OE:By Tryz.prog 64 0=some 0:=by kernel_rfl
theorem F_:By Tryz.prog 64 1=some 1:=by kernel_rfl
theorem HG:By Tryz.prog 64 2=some 2:=by kernel_rfl
theorem Ua:By Tryz.prog 64 3=some 3:=by kernel_rfl
theorem Ub:By Tryz.prog 64 4=some 4:=by kernel_rfl
theorem Gu:By Tryz.prog 64 5=some 5:=by kernel_rfl
theorem Uc:By Tryz.prog 64 6=some 6:=by kernel_rfl
theorem LJ:By Tryz.prog 64 9=some 9:=by kernel_rfl
theorem Jg:(Tryz.prog.info? 181).map (·.size)=some 5:=by kernel_rfl
theorem OX:(Tryz.prog.info? 284).map (·.size)=some 3:=by kernel_rfl
theorem UN:(Tryz.prog.info? 319).map (·.size)=some 1:=by kernel_rfl
theorem LU:AL Tryz.prog 105:=AM Tryz.func105 rfl rfl
theorem LV:AL Tryz.prog 106:=AM Tryz.func106 rfl rfl
theorem LW:AL Tryz.prog 107:=AM Tryz.func107 rfl rfl
theorem Jh:AL Tryz.prog 109:=AM Tryz.func109 rfl rfl
theorem UX:AL Tryz.prog 113:=AM Tryz.func113 rfl rfl
theorem UY:AL Tryz.prog 117:=AM Tryz.func117 rfl rfl
theorem G3:AL Tryz.prog 118:=AM Tryz.func118 rfl rfl
theorem O1:AL Tryz.prog 119:=AM Tryz.func119 rfl rfl
theorem O2:AL Tryz.prog 120:=AM Tryz.func120 rfl rfl
theorem UZ:AL Tryz.prog 121:=AM Tryz.func121 rfl rfl
theorem Ip:AL Tryz.prog 122:=AM Tryz.func122 rfl rfl
theorem HJ:AL Tryz.prog 123:=AM Tryz.func123 rfl rfl
theorem U0:AL Tryz.prog 124:=AM Tryz.func124 rfl rfl
theorem U1:AL Tryz.prog 125:=AM Tryz.func125 rfl rfl
theorem O3:AL Tryz.prog 126:=AM Tryz.func126 rfl rfl
theorem U2:AL Tryz.prog 127:=AM Tryz.func127 rfl rfl
theorem U3:AL Tryz.prog 128:=AM Tryz.func128 rfl rfl
theorem G4:AL Tryz.prog 129:=AM Tryz.func129 rfl rfl
theorem O4:AL Tryz.prog 131:=AM Tryz.func131 rfl rfl
theorem O5:AL Tryz.prog 134:=AM Tryz.func134 rfl rfl
theorem Kc:AL Tryz.prog 136:=AM Tryz.func136 rfl rfl
theorem O6:AL Tryz.prog 137:=AM Tryz.func137 rfl rfl
theorem O7:AL Tryz.prog 138:=AM Tryz.func138 rfl rfl
theorem LX:AL Tryz.prog 142:=AM Tryz.func142 rfl rfl
theorem LY:AL Tryz.prog 144:=AM Tryz.func144 rfl rfl
theorem O8:AL Tryz.prog 153:=AM Tryz.func153 rfl rfl
theorem LZ:AL Tryz.prog 154:=AM Tryz.func154 rfl rfl
theorem U5:AL Tryz.prog 157:=AM Tryz.func157 rfl rfl
theorem L0:AL Tryz.prog 158:=AM Tryz.func158 rfl rfl
theorem O9:AL Tryz.prog 159:=AM Tryz.func159 rfl rfl
theorem O_:AL Tryz.prog 160:=AM Tryz.func160 rfl rfl
theorem U6:AL Tryz.prog 167:=AM Tryz.func167 rfl rfl
theorem U7:AL Tryz.prog 168:=AM Tryz.func168 rfl rfl
theorem L1:AL Tryz.prog 169:=AM Tryz.func169 rfl rfl
theorem U8:AL Tryz.prog 171:=AM Tryz.func171 rfl rfl
theorem U9:AL Tryz.prog 172:=AM Tryz.func172 rfl rfl
theorem Pa:AL Tryz.prog 173:=AM Tryz.func173 rfl rfl
theorem U_:AL Tryz.prog 174:=AM Tryz.func174 rfl rfl
theorem Pb:AL Tryz.prog 175:=AM Tryz.func175 rfl rfl
theorem L2:AL Tryz.prog 176:=AM Tryz.func176 rfl rfl
theorem Pc:AL Tryz.prog 177:=AM Tryz.func177 rfl rfl
theorem Va:AL Tryz.prog 178:=AM Tryz.func178 rfl rfl
theorem Vb:AL Tryz.prog 179:=AM Tryz.func179 rfl rfl
theorem Vc:AL Tryz.prog 18:=AM Tryz.func18 rfl rfl
theorem Vd:AL Tryz.prog 180:=AM Tryz.func180 rfl rfl
theorem Vg:AL Tryz.prog 184:=AM Tryz.func184 rfl rfl
theorem Vh:AL Tryz.prog 185:=AM Tryz.func185 rfl rfl
theorem Pd:AL Tryz.prog 187:=AM Tryz.func187 rfl rfl
theorem L3:AL Tryz.prog 19:=AM Tryz.func19 rfl rfl
theorem Vi:AL Tryz.prog 195:=AM Tryz.func195 rfl rfl
theorem Pe:AL Tryz.prog 203:=AM Tryz.func203 rfl rfl
theorem Pf:AL Tryz.prog 204:=AM Tryz.func204 rfl rfl
theorem Pg:AL Tryz.prog 205:=AM Tryz.func205 rfl rfl
theorem Vj:AL Tryz.prog 206:=AM Tryz.func206 rfl rfl
theorem Ph:AL Tryz.prog 207:=AM Tryz.func207 rfl rfl
theorem Vk:AL Tryz.prog 208:=AM Tryz.func208 rfl rfl
theorem Iq:AL Tryz.prog 209:=AM Tryz.func209 rfl rfl
theorem Vl:AL Tryz.prog 210:=AM Tryz.func210 rfl rfl
theorem Vm:AL Tryz.prog 211:=AM Tryz.func211 rfl rfl
theorem Vn:AL Tryz.prog 212:=AM Tryz.func212 rfl rfl
theorem Vo:AL Tryz.prog 213:=AM Tryz.func213 rfl rfl
theorem Pi:AL Tryz.prog 214:=AM Tryz.func214 rfl rfl
theorem Vp:AL Tryz.prog 215:=AM Tryz.func215 rfl rfl
theorem Vq:AL Tryz.prog 216:=AM Tryz.func216 rfl rfl
theorem Pj:AL Tryz.prog 218:=AM Tryz.func218 rfl rfl
theorem L4:AL Tryz.prog 22:=AM Tryz.func22 rfl rfl
theorem Vs:AL Tryz.prog 224:=AM Tryz.func224 rfl rfl
theorem Vt:AL Tryz.prog 23:=AM Tryz.func23 rfl rfl
theorem Vu:AL Tryz.prog 243:=AM Tryz.func243 rfl rfl
theorem Vv:AL Tryz.prog 244:=AM Tryz.func244 rfl rfl
theorem Vw:AL Tryz.prog 245:=AM Tryz.func245 rfl rfl
theorem Vx:AL Tryz.prog 246:=AM Tryz.func246 rfl rfl
theorem Vy:AL Tryz.prog 247:=AM Tryz.func247 rfl rfl
theorem Vz:AL Tryz.prog 248:=AM Tryz.func248 rfl rfl
theorem VA:AL Tryz.prog 249:=AM Tryz.func249 rfl rfl
theorem Ke:AL Tryz.prog 25:=AM Tryz.func25 rfl rfl
theorem VB:AL Tryz.prog 250:=AM Tryz.func250 rfl rfl
theorem VC:AL Tryz.prog 251:=AM Tryz.func251 rfl rfl
theorem VD:AL Tryz.prog 262:=AM Tryz.func262 rfl rfl
theorem VE:AL Tryz.prog 263:=AM Tryz.func263 rfl rfl
theorem VF:AL Tryz.prog 264:=AM Tryz.func264 rfl rfl
theorem D8:AL Tryz.prog 265:=AM Tryz.func265 rfl rfl
theorem FN:AL Tryz.prog 266:=AM Tryz.func266 rfl rfl
theorem Ir:AL Tryz.prog 267:=AM Tryz.func267 rfl rfl
theorem VG:AL Tryz.prog 268:=AM Tryz.func268 rfl rfl
theorem Kf:AL Tryz.prog 269:=AM Tryz.func269 rfl rfl
theorem Pk:AL Tryz.prog 27:=AM Tryz.func27 rfl rfl
theorem Pl:AL Tryz.prog 270:=AM Tryz.func270 rfl rfl
theorem VH:AL Tryz.prog 271:=AM Tryz.func271 rfl rfl
theorem VI:AL Tryz.prog 272:=AM Tryz.func272 rfl rfl
theorem VJ:AL Tryz.prog 273:=AM Tryz.func273 rfl rfl
theorem VK:AL Tryz.prog 274:=AM Tryz.func274 rfl rfl
theorem VL:AL Tryz.prog 275:=AM Tryz.func275 rfl rfl
theorem VN:AL Tryz.prog 276:=AM Tryz.func276 rfl rfl
theorem Pm:AL Tryz.prog 277:=AM Tryz.func277 rfl rfl
theorem Is:AL Tryz.prog 278:=AM Tryz.func278 rfl rfl
theorem Pn:AL Tryz.prog 279:=AM Tryz.func279 rfl rfl
theorem VO:AL Tryz.prog 281:=AM Tryz.func281 rfl rfl
theorem VP:AL Tryz.prog 282:=AM Tryz.func282 rfl rfl
theorem L5:AL Tryz.prog 30:=AM Tryz.func30 rfl rfl
theorem VQ:AL Tryz.prog 302:=AM Tryz.func302 rfl rfl
theorem VR:AL Tryz.prog 303:=AM Tryz.func303 rfl rfl
theorem Po:AL Tryz.prog 304:=AM Tryz.func304 rfl rfl
theorem Pp:AL Tryz.prog 305:=AM Tryz.func305 rfl rfl
theorem Pq:AL Tryz.prog 306:=AM Tryz.func306 rfl rfl
theorem Pr:AL Tryz.prog 32:=AM Tryz.func32 rfl rfl
theorem VS:AL Tryz.prog 326:=AM Tryz.func326 rfl rfl
theorem L6:AL Tryz.prog 329:=AM Tryz.func329 rfl rfl
theorem VT:AL Tryz.prog 33:=AM Tryz.func33 rfl rfl
theorem VU:AL Tryz.prog 41:=AM Tryz.func41 rfl rfl
theorem Ji:AL Tryz.prog 47:=AM Tryz.func47 rfl rfl
theorem VV:AL Tryz.prog 48:=AM Tryz.func48 rfl rfl
theorem L7:AL Tryz.prog 49:=AM Tryz.func49 rfl rfl
theorem Ps:AL Tryz.prog 50:=AM Tryz.func50 rfl rfl
theorem HK:AL Tryz.prog 51:=AM Tryz.func51 rfl rfl
theorem VW:AL Tryz.prog 52:=AM Tryz.func52 rfl rfl
theorem Pt:AL Tryz.prog 53:=AM Tryz.func53 rfl rfl
theorem Pu:AL Tryz.prog 54:=AM Tryz.func54 rfl rfl
theorem Pv:AL Tryz.prog 56:=AM Tryz.func56 rfl rfl
theorem Pw:AL Tryz.prog 59:=AM Tryz.func59 rfl rfl
theorem L8:AL Tryz.prog 60:=AM Tryz.func60 rfl rfl
theorem Px:AL Tryz.prog 67:=AM Tryz.func67 rfl rfl
theorem VY:AL Tryz.prog 71:=AM Tryz.func71 rfl rfl
theorem It:AL Tryz.prog 87:=AM Tryz.func87 rfl rfl
theorem L9:AL Tryz.prog 88:=AM Tryz.func88 rfl rfl
theorem Gc:AL Tryz.prog 89:=AM Tryz.func89 rfl rfl
theorem Py:AL Tryz.prog 94:=AM Tryz.func94 rfl rfl
theorem Pz:AL Tryz.prog 95:=AM Tryz.func95 rfl rfl
theorem VZ:AL Tryz.prog 96:=AM Tryz.func96 rfl rfl
theorem V0:AL Tryz.prog 97:=AM Tryz.func97 rfl rfl
theorem V1:AL Tryz.prog 98:=AM Tryz.func98 rfl rfl
theorem mo:Tryz.prog.follows .mixedOrders=true:=by kernel_rfl
theorem P1:(Tryz.prog.info? 228).map (fun i=>decide (i.size=0))=some false:=by kernel_rfl
theorem Ec:C6 Tryz.prog 144=some (24,1,24):=by kernel_rfl
theorem KK:C6 Tryz.prog 162=some (168,1,8):=by kernel_rfl
theorem Ej:C6 Tryz.prog 22=some (35,1,24):=by kernel_rfl
theorem Hh:C6 Tryz.prog 23=some (223,3,32):=by kernel_rfl
theorem Hi:C6 Tryz.prog 235=some (5,1,1):=by kernel_rfl
theorem Ds:C6 Tryz.prog 24=some (3,1,8):=by kernel_rfl
theorem Hj:C6 Tryz.prog 241=some (9,1,16):=by kernel_rfl
theorem BY:C6 Tryz.prog 282=some (284,3,32):=by kernel_rfl
theorem Hk:C6 Tryz.prog 29=some (37,7,88):=by kernel_rfl
theorem BA:C6 Tryz.prog 35=some (106,2,32):=by kernel_rfl
theorem Hl:C6 Tryz.prog 94=some (195,3,56):=by kernel_rfl
theorem ZA:Gh Tryz.prog 106=some [(9,0,1),(9,1,1)]:=by kernel_rfl
theorem ZB:Gh Tryz.prog 223=some [(3,0,1),(3,1,1),(9,2,1)]:=by kernel_rfl
theorem ZC:Gh Tryz.prog 26=some [(22,0,1),(3,1,1),(23,2,1),(23,3,1),(23,4,1),(3,5,1),(3,6,1),(3,7,1),(24,8,1)]:=by kernel_rfl
theorem ZD:Gh Tryz.prog 28=some [(26,0,9),(3,9,1),(3,10,1),(3,11,1)]:=by kernel_rfl
theorem Cb:B7 Tryz.prog 106=some (true,2):=by kernel_rfl
theorem Ed:B7 Tryz.prog 144=some (false,1):=by kernel_rfl
theorem DK:B7 Tryz.prog 161=some (false,1):=by kernel_rfl
theorem KS:B7 Tryz.prog 162=some (false,1):=by kernel_rfl
theorem KT:B7 Tryz.prog 167=some (false,1):=by kernel_rfl
theorem HS:B7 Tryz.prog 183=some (false,1):=by kernel_rfl
theorem DT:B7 Tryz.prog 2=some (false,1):=by kernel_rfl
theorem Z7:B7 Tryz.prog 21=some (false,1):=by kernel_rfl
theorem Dy:B7 Tryz.prog 22=some (false,1):=by kernel_rfl
theorem IQ:B7 Tryz.prog 223=some (true,3):=by kernel_rfl
theorem Ee:B7 Tryz.prog 23=some (false,1):=by kernel_rfl
theorem EH:B7 Tryz.prog 24=some (false,1):=by kernel_rfl
theorem KU:B7 Tryz.prog 241=some (false,1):=by kernel_rfl
theorem KV:B7 Tryz.prog 250=some (true,2):=by kernel_rfl
theorem HT:B7 Tryz.prog 251=some (false,1):=by kernel_rfl
theorem FW:B7 Tryz.prog 26=some (true,9):=by kernel_rfl
theorem Ek:B7 Tryz.prog 28=some (true,12):=by kernel_rfl
theorem GI:B7 Tryz.prog 282=some (false,1):=by kernel_rfl
theorem Da:B7 Tryz.prog 284=some (true,3):=by kernel_rfl
theorem JF:B7 Tryz.prog 286=some (false,1):=by kernel_rfl
theorem AE:B7 Tryz.prog 3=some (false,1):=by kernel_rfl
theorem DU:B7 Tryz.prog 35=some (false,1):=by kernel_rfl
theorem RE:B7 Tryz.prog 37=some (true,7):=by kernel_rfl
theorem DE:B7 Tryz.prog 4=some (false,1):=by kernel_rfl
theorem HU:B7 Tryz.prog 44=some (false,1):=by kernel_rfl
theorem Z8:B7 Tryz.prog 5=some (false,1):=by kernel_rfl
theorem CR:B7 Tryz.prog 64=some (true,10):=by kernel_rfl
theorem BV:B7 Tryz.prog 9=some (false,1):=by kernel_rfl
theorem RG:Tryz.prog.underlying 370=some (.interface (Tryz.prog.methodsAt 370)):=by kernel_rfl
theorem aB:Tryz.prog.underlying 144=some (.slice 24):=by kernel_rfl
theorem Fb:Tryz.prog.underlying 158=some (.int .u64):=by kernel_rfl
theorem JG:Tryz.prog.underlying 161=some (.pointer 234):=by kernel_rfl
theorem RH:Tryz.prog.underlying 167=some (.func #[] #[9] false):=by kernel_rfl
theorem Hn:Tryz.prog.underlying 178=some (.pointer 181):=by kernel_rfl
theorem JH:Tryz.prog.underlying 182=some (.array 6 181):=by kernel_rfl
theorem KW:Tryz.prog.underlying 183=some (.pointer 253):=by kernel_rfl
theorem IR:Tryz.prog.underlying 2=some (.int .i64):=by kernel_rfl
theorem RI:Tryz.prog.underlying 206=some (.int .u32):=by kernel_rfl
theorem Dz:Tryz.prog.underlying 22=some (.slice 35):=by kernel_rfl
theorem FF:Tryz.prog.underlying 23=some (.slice 223):=by kernel_rfl
theorem GJ:Tryz.prog.underlying 235=some (.slice 5):=by kernel_rfl
theorem DL:Tryz.prog.underlying 24=some (.slice 3):=by kernel_rfl
theorem RJ:Tryz.prog.underlying 241=some (.slice 9):=by kernel_rfl
theorem HV:Tryz.prog.underlying 251=some (.map 250 22):=by kernel_rfl
theorem HW:Tryz.prog.underlying 270=some (.int .u64):=by kernel_rfl
theorem HX:Tryz.prog.underlying 282=some (.slice 284):=by kernel_rfl
theorem RK:Tryz.prog.underlying 285=some (.array 8 284):=by kernel_rfl
theorem JI:Tryz.prog.underlying 286=some (.map 2 161):=by kernel_rfl
theorem KX:Tryz.prog.underlying 29=some (.slice 37):=by kernel_rfl
theorem aC:Tryz.prog.underlying 291=some (.pointer 322):=by kernel_rfl
theorem Dj:Tryz.prog.underlying 3=some (.int .i64):=by kernel_rfl
theorem aD:Tryz.prog.underlying 320=some (.array 8 319):=by kernel_rfl
theorem aE:Tryz.prog.underlying 326=some (.pointer 319):=by kernel_rfl
theorem CH:Tryz.prog.underlying 35=some (.slice 106):=by kernel_rfl
theorem RL:Tryz.prog.underlying 362=some (.pointer 228):=by kernel_rfl
theorem IS:Tryz.prog.underlying 44=some (.pointer 164):=by kernel_rfl
theorem HY:Tryz.prog.underlying 5=some (.int .u8):=by kernel_rfl
theorem HZ:Tryz.prog.underlying 75=some (.pointer 185):=by kernel_rfl
theorem Ct:Tryz.prog.underlying 9=some (.string):=by kernel_rfl
theorem RM:Tryz.prog.underlying 94=some (.slice 195):=by kernel_rfl
theorem RP:Tryz.prog.underlying 366=some .unsafePointer:=by kernel_rfl
theorem CT:CJ Tryz.prog 106=some (.agg #[.string ⟨#[]⟩,.string ⟨#[]⟩]):=by kernel_rfl
theorem K0:CJ Tryz.prog 161=some (.pointer none):=by kernel_rfl
theorem K5:CJ Tryz.prog 168=some (.pointer none):=by kernel_rfl
theorem RY:CJ Tryz.prog 195=some (.agg #[.slice none 0 0,.int .i64 0,.slice none 0 0]):=by kernel_rfl
theorem M9:CJ Tryz.prog 22=some (.slice none 0 0):=by kernel_rfl
theorem K6:CJ Tryz.prog 223=some (.agg #[.int .i64 0,.int .i64 0,.string ⟨#[]⟩]):=by kernel_rfl
theorem El:CJ Tryz.prog 24=some (.slice none 0 0):=by kernel_rfl
theorem RZ:CJ Tryz.prog 250=some (.agg #[.int .i64 0,.int .i64 0]):=by kernel_rfl
theorem R0:CJ Tryz.prog 28=some (.agg #[.slice none 0 0,.int .i64 0,.slice none 0 0,.slice none 0 0,.slice none 0 0,.int .i64 0,.int .i64 0,.int .i64 0,.slice none 0 0,.int .i64 0,.int .i64 0,.int .i64 0]):=by kernel_rfl
theorem Dk:CJ Tryz.prog 284=some (.agg #[.bool false,.int .i64 0,.string ⟨#[]⟩]):=by kernel_rfl
theorem GK:CJ Tryz.prog 3=some (.int .i64 0):=by kernel_rfl
theorem Hr:CJ Tryz.prog 35=some (.slice none 0 0):=by kernel_rfl
theorem Hs:CJ Tryz.prog 37=some (.agg #[.int .i64 0,.int .i64 0,.int .i64 0,.int .i64 0,.int .i64 0,.slice none 0 0,.slice none 0 0]):=by kernel_rfl
theorem bF:CJ Tryz.prog 44=some (.pointer none):=by kernel_rfl
theorem K7:CJ Tryz.prog 5=some (.int .u8 0):=by kernel_rfl
theorem K8:CJ Tryz.prog 64=some (.agg #[.int .i64 0,.int .i64 0,.int .i64 0,.int .i64 0,.int .i64 0,.int .i64 0,.int .i64 0,.int .i64 0,.slice none 0 0,.slice none 0 0]):=by kernel_rfl
theorem IW:CJ Tryz.prog 9=some (.string ⟨#[]⟩):=by kernel_rfl
theorem TN:M_ Tryz.prog 106 9:=⟨⟨_,_,TG,by decide,by decide,rfl,rfl,rfl,rfl⟩,Ct,BV⟩
theorem IV:GN Tryz.prog 250 BW:=US ⟨⟨_,_,TH,by decide,by decide,rfl,rfl,rfl,rfl⟩,Dj,AE⟩
def E3 {α:Type} (p:α→Bool) (xs:List α):Int:=match xs.findIdx? p with |some i=>(i:Int)|none=> -1
theorem J0 {α:Type} {p:α→Bool} {xs:List α} {k:Nat} {x:α} (h:∀ y∈xs.take k,p y=false) (hx:xs[k]?=some x) (hp:p x=true):E3 p xs=(k:Int):=by
 have:xs.findIdx? p=some k:=by
  rw [List.findIdx?_eq_some_iff_getElem]
  have hlt:k<xs.length:=by
   rcases Nat.lt_or_ge k xs.length with h'|h'
   ·exact h'
   ·simp [List.getElem?_eq_none h'] at hx
  refine ⟨hlt,by rw [List.getElem?_eq_getElem hlt] at hx;rw [Option.some.inj hx];exact hp,fun j hj=>?_⟩
  have:=h xs[j] (by rw [List.mem_take_iff_getElem];exact ⟨j,by omega,rfl⟩)
  simp [this]
 simp [E3,this]
theorem I8 {α:Type} {p:α→Bool} {xs:List α} (h:∀ y∈xs,p y=false):E3 p xs= -1:=by
 have:xs.findIdx? p=none:=by
  rw [List.findIdx?_eq_none_iff]
  exact h
 simp [E3,this]
theorem J1 {α:Type} (p:α→Bool) (xs:List α):decide (0≤E3 p xs)=xs.any p:=by
 by_cases h:∃ y∈xs,p y=true
 ·have h1:xs.any p=true:=by simpa using h
  rw [h1,decide_eq_true_eq]
  unfold E3
  cases hf:xs.findIdx? p with
  |none=>
   rw [List.findIdx?_eq_none_iff] at hf
   obtain ⟨y,hy,hp⟩:=h
   rw [hf y hy] at hp
   cases hp
  |some i=>simp
 ·have h':∀ y∈xs,p y=false:=fun y hy=>by
   cases hp:p y with
   |false=>rfl
   |true=>exact (h ⟨y,hy,hp⟩).elim
  rw [I8 h']
  have h1:xs.any p=false:=by
   rw [List.any_eq_false]
   intro y hy
   simp [h' y hy]
  rw [h1]
  decide
theorem KP {α:Type} {p:α→Bool} {xs:List α} {k:Nat} {x:α} (h:∀ y∈xs.take k,p y=false) (hx:xs[k]?=some x) (hp:p x=false):∀ y∈xs.take (k+1),p y=false:=by
 intro y hy
 rw [List.take_add_one,hx] at hy
 simp at hy
 exact hy.elim (h y) (fun e=>e▸hp)
def cnt {α:Type} (p:α→Bool) (xs:List α):Nat:=(xs.filter p).length
section
variable {w w0:World} {F0:AN} {As Rs:List SP} {α:Type} [Inhabited α] {e1:α→Value}
theorem OQ {b t:Nat} {xs:List α} {rest:List Value} (H:Hd w0 F0 w (blk b (xs.map e1++rest) t::As) Rs):Sort.Holds e1 w b 0 xs.toArray:=by
 intro j hj
 simp only [List.size_toArray] at hj
 rw [Nat.zero_add]
 refine ⟨H.cell (List.mem_cons_self ..) ?_,H.free (List.mem_cons_self ..) j⟩
 rw [List.getElem?_append_left (by simpa using hj),List.getElem?_map,List.getElem?_eq_getElem hj]
 simp [hj]
theorem XX {xs ys:List α} {rest:List Value} (hl:ys.length=xs.length):Sort.putCells e1 0 ys.toArray (xs.map e1++rest).toArray=(ys.map e1++rest).toArray:=by
 apply Array.toList_inj.1
 apply List.ext_getElem?
 intro i
 unfold Sort.putCells
 rw [Array.toList_mapIdx,List.getElem?_mapIdx]
 simp only [List.size_toArray,Nat.zero_le,true_and,Nat.zero_add,Nat.sub_zero,List.getElem!_toArray]
 rcases Nat.lt_or_ge i ys.length with h|h
 ·rw [List.getElem?_append_left (by simpa using (hl▸h)),List.getElem?_append_left (by simpa using h),List.getElem?_map,List.getElem?_map,List.getElem?_eq_getElem h,List.getElem?_eq_getElem (by omega)]
  simp [h]
 ·rw [List.getElem?_append_right (by simp;omega),List.getElem?_append_right (by simpa using h)]
  simp only [List.length_map,hl]
  cases rest[i - xs.length]? with
  |none=>rfl
  |some v=>simp;omega
theorem NK {b t n:Nat} {xs ys:List α} {rest:List Value} {os:Array Obj} (H:Hd w0 F0 w (blk b (xs.map e1++rest) t::As) Rs) (hl:ys.length=xs.length):
  Hd w0 F0 (Sort.grow (Sort.putRow e1 (Sort.ahead w n) b 0 ys.toArray) os) (blk b (ys.map e1++rest) t::As) Rs:=by
 refine H.write fun F hF=>?_
 have hb:b<w.heap.size:=by
  rcases Nat.lt_or_ge b w.heap.size with h|h
  ·exact h
  ·have:=hF.2
   rw [Array.getElem?_eq_none h] at this
   cases this
 have hh:∀ k,k<w.heap.size→(Sort.grow (Sort.putRow e1 (Sort.ahead w n) b 0 ys.toArray) os).heap[k]?=(w.heap.modify b (Sort.onCells (Sort.putCells e1 0 ys.toArray)))[k]?:=by
  intro k hk
  show ((w.heap.modify b (Sort.onCells (Sort.putCells e1 0 ys.toArray)))++os)[k]?=_
  rw [Array.getElem?_append_left (by simpa using hk)]
 refine ⟨⟨hF.1,?_⟩,rfl,rfl,rfl,?_,fun k hk hn=>?_⟩
 ·rw [hh b hb,Array.getElem?_modify,if_pos rfl,hF.2]
  simp only [Option.map_some,Sort.onCells,XX hl]
 ·show w.heap.size≤((w.heap.modify b (Sort.onCells (Sort.putCells e1 0 ys.toArray)))++os).size
  simp
 ·rw [hh k hk,Array.getElem?_modify,if_neg (by rintro rfl;exact hn hF.1)]
theorem Ut (w:World):Sort.grow w #[]=w:=by
 unfold Sort.grow
 simp
end
theorem Ko {α:Type} {e1:α→Value} (xs:List α):xs.flatMap (fun x=>[e1 x])=xs.map e1:=by
 induction xs with
 |nil=>rfl
 |cons x xs ih=>simp [ih]
section
variable {P:Program} {α:Type} [Inhabited α] {e1:α→Value} {h1:∀ x,∀ c∈[e1 x],c.oneCell'=true} {f:FuncId}
theorem S3 {s:List α→List α} (hlen:∀ xs,(s xs).length=xs.length) (hnil:s []=[])
  (h0:∀ (p:Option Addr) (c:Nat) (w:World),Calls P f #[.slice p 0 c] w fun e w'=>e=.returned (.tuple #[])∧w'=w)
  (hc:∀ (b c:Nat) (xs:List α) (w:World),Sort.Holds e1 w b 0 xs.toArray→b<w.heap.size→xs.length≤1000000→Calls P f #[.slice (some ⟨b,0,none⟩) xs.length c] w fun e w'=>e=.returned (.tuple #[])∧∃ n os,w'=Sort.grow (Sort.putRow e1 (Sort.ahead w n) b 0 (s xs).toArray) os)
  (v:Value) (xs:List α) (hb:xs.length≤1000000):Cn P f [v] [Y (flat (fun x=>[e1 x]) 1 (by omega) (fun _=>rfl) h1) v xs] [] (fun _ Bs=>Bs=[Y (flat (fun x=>[e1 x]) 1 (by omega) (fun _=>rfl) h1) v (s xs)]):=by
 intro w F H
 obtain ⟨A,c,rfl,hle,hmax,hp⟩:=H.fA 0 rfl
 rcases Nat.eq_zero_or_pos xs.length with hx|hx
 ·obtain rfl:=List.eq_nil_of_length_eq_zero hx
  refine (h0 A c w).mono ?_
  rintro e w' ⟨rfl,rfl⟩
  exact ⟨_,rfl,_,rfl,by rw [hnil];exact H⟩
 ·obtain ⟨b,t,rest,rfl,hm,hle',hmax',hr,H'⟩:=H.toBlk hx
  rw [Ko] at H'
  have hbl:b<w.heap.size:=H'.fact (List.mem_cons_self ..) fun F hF=>by
   rcases Nat.lt_or_ge b w.heap.size with h|h
   ·exact h
   ·have:=hF.2
    rw [Array.getElem?_eq_none h] at this
    cases this
  refine (hc b c xs w (OQ H') hbl hb).mono ?_
  rintro e w' ⟨rfl,n,os,rfl⟩
  refine ⟨_,rfl,_,rfl,?_⟩
  have H2:=NK (n:=n) (os:=os) H' (hlen xs)
  rw [←Ko] at H2
  exact H2.ofBlk (hlen xs) hle' hmax' hr
theorem S0 {s:List α→List α} {z:α} (hlen:∀ xs,(s xs).length≤xs.length) (hnil:s []=[])
  (h0:∀ (p:Option Addr) (c:Nat) (w:World),Calls P f #[.slice p 0 c] w fun e w'=>e=.returned (.slice p 0 c)∧w'=w)
  (hc:∀ (b c:Nat) (xs:List α) (w:World),Sort.Holds e1 w b 0 xs.toArray→xs.length≤1000000→xs.length≤c→Calls P f #[.slice (some ⟨b,0,none⟩) xs.length c] w fun e w'=>e=.returned (.slice (some ⟨b,0,none⟩) (s xs).length c)∧∃ n,w'=Sort.putRow e1 (Sort.ahead w n) b 0 (s xs++List.replicate (xs.length - (s xs).length) z).toArray)
  (v:Value) (xs:List α) (hb:xs.length≤1000000):Cn P f [v] [Y (flat (fun x=>[e1 x]) 1 (by omega) (fun _=>rfl) h1) v xs] [] (fun u Bs=>Bs=[Y (flat (fun x=>[e1 x]) 1 (by omega) (fun _=>rfl) h1) u (s xs)]):=by
 intro w F H
 obtain ⟨A,c,rfl,hle,hmax,hp⟩:=H.fA 0 rfl
 rcases Nat.eq_zero_or_pos xs.length with hx|hx
 ·obtain rfl:=List.eq_nil_of_length_eq_zero hx
  refine (h0 A c w).mono ?_
  rintro e w' ⟨rfl,rfl⟩
  exact ⟨_,rfl,_,rfl,by rw [hnil];exact H⟩
 ·obtain ⟨b,t,rest,rfl,hm,hle',hmax',hr,H'⟩:=H.toBlk hx
  rw [Ko] at H'
  refine (hc b c xs w (OQ H') hb hle).mono ?_
  rintro e w' ⟨rfl,n,rfl⟩
  refine ⟨_,rfl,_,rfl,?_⟩
  have hl:=hlen xs
  have H2:=NK (n:=n) (os:=#[]) H' (ys:=s xs++List.replicate (xs.length - (s xs).length) z) (by simp;omega)
  rw [Ut,List.map_append,List.append_assoc,←Ko (s xs)] at H2
  exact H2.ofBlk U (by omega) hmax' (by simp;omega)
end
theorem NW {α:Type} [Inhabited α] [DecidableEq α] (xs:List α):(Lib.compact xs).length≤xs.length:=by
 unfold Lib.compact Lib.compactUpTo
 rw [List.length_map]
 exact Nat.le_trans (List.length_filter_le _ _) (by simp)
def En (x:ByteArray):List UInt8:=x.data.toList
def E0 (x:List UInt8):ByteArray:=⟨x.toArray⟩
theorem RC (x:ByteArray):E0 (En x)=x:=by simp [E0,En]
theorem Mp (x:List UInt8):En (E0 x)=x:=by simp [E0,En]
def EZ (xs:List ByteArray):List ByteArray:=((xs.map En).mergeSort fun x y=>decide (x≤y)).map E0
def Ff (xs:List ByteArray):List ByteArray:=(Lib.compact (xs.map En)).map E0
theorem OP {w:World} {b:Nat} {xs:List ByteArray} (h:Sort.Holds Value.string w b 0 xs.toArray):Sort.Holds Go.Proofs.encStr w b 0 (xs.map En).toArray:=by
 intro j hj
 have hj':j<xs.length:=by simpa using hj
 have:=h j (by simpa using hj')
 simp only [List.getElem!_toArray] at this ⊢
 rw [getElem!_pos _ j (by simpa using hj')]
 rw [getElem!_pos _ j hj'] at this
 rw [List.getElem_map]
 have e:Go.Proofs.encStr (En xs[j])=Value.string xs[j]:=by simp [Go.Proofs.encStr,En]
 rw [e]
 exact this
theorem Qp {w:World} {b:Nat} {zs:List (List UInt8)}:Sort.putRow Go.Proofs.encStr w b 0 zs.toArray=Sort.putRow Value.string w b 0 (zs.map E0).toArray:=by
 unfold Sort.putRow
 congr 1
 funext c
 unfold Sort.putCells
 congr 1
 funext k x
 simp only [List.size_toArray,List.length_map,List.getElem!_toArray]
 split
 ·rename_i h
  have h':k - 0<zs.length:=by omega
  rw [getElem!_pos (zs.map E0) _ (by simpa using h'),getElem!_pos zs _ h',List.getElem_map]
  rfl
 ·rfl
theorem WX {s:ByteArray}:s=(⟨#[]⟩:ByteArray)↔s.size=0:=by
 constructor
 ·rintro rfl;rfl
 ·intro h
  have:s.data=#[]:=Array.eq_empty_of_size_eq_zero h
  cases s
  simp at this
  subst this
  rfl
def BL (p:BG) (n:Int):Prop:=0≤p.op∧p.op≤23∧(p.op=1→p.s.size=0)∧(p.op=2→p.a=0∧p.s.size≤64)∧(p.op=19∨p.op=20→0≤p.a∧p.a≤n∧p.s.size=0)∧
 (p.op=21∨p.op=22→0≤p.a∧p.a≤7∧p.s.size=0)∧(¬ (p.op=1∨p.op=2∨p.op=19∨p.op=20∨p.op=21∨p.op=22)→p.a=0∧p.s.size=0)
instance (p:BG) (n:Int):Decidable (BL p n):=by unfold BL;infer_instance
def EB (n:Int):BG→Bool:=fun p=>!decide (BL p n)
def Du (xs:List BG):Int:=if 0≤E3 (EB xs.length) (xs.take 40) then E3 (EB xs.length) (xs.take 40) else if (40:Int)<xs.length then 40 else -1
theorem Se {xs:List BG} {k:Nat} {x:BG} (hk:k<40) (hn:∀ y∈xs.take k,EB xs.length y=false) (hx:xs[k]?=some x) (hb:¬ BL x xs.length):Du xs=(k:Int):=by
 have:E3 (EB xs.length) (xs.take 40)=(k:Int):=J0 (k:=k) (by rw [List.take_take,Nat.min_eq_left (by omega)];exact hn) (by rw [List.getElem?_take,if_pos hk];exact hx) (by simp [EB,hb])
 unfold Du
 rw [this,if_pos (by omega)]
theorem ND {xs:List BG} {k:Nat} (hk:k=min xs.length 40) (hn:∀ y∈xs.take k,EB xs.length y=false):Du xs=if (40:Int)<xs.length then 40 else -1:=by
 have:E3 (EB xs.length) (xs.take 40)= -1:=I8 (by
  intro y hy
  refine hn y ?_
  rw [hk]
  rcases Nat.le_total xs.length 40 with h|h
  ·rw [Nat.min_eq_left h,List.take_of_length_le (Nat.le_refl _)]
   rwa [List.take_of_length_le h] at hy
  ·rwa [Nat.min_eq_right h])
 unfold Du
 rw [this,if_neg (by omega)]
theorem Sf {xs:List BG} {k:Nat} {x:BG} (hn:∀ y∈xs.take k,EB xs.length y=false) (hx:xs[k]?=some x) (hb:BL x xs.length):∀ y∈xs.take (k+1),EB xs.length y=false:=
 KP hn hx (by simp [EB,hb])
def ER (xs:List BG):Bool:=decide (¬ (xs.length≤60∧∀ p∈xs,p.s.size≤100))
theorem Ur {xs:List BG} {k:Nat} {x:BG} (hx:xs[k]?=some x) (h:100<x.s.size):true=ER xs:=by
 have h3:¬ (xs.length≤60∧∀ p∈xs,p.s.size≤100):=fun h2=>absurd (h2.2 x (List.mem_of_getElem? hx)) (by omega)
 exact (decide_eq_true h3).symm
theorem OM {xs:List BG} {k:Nat} (hn:∀ y∈xs.take k,y.s.size≤100) (h:xs.length≤k∨60<xs.length):decide ((60:Int)<(xs.length:Int))=ER xs:=by
 refine decide_eq_decide.2 ⟨fun h1 h2=>by omega,fun h1=>?_⟩
 apply Classical.byContradiction
 intro h2
 refine h1 ⟨by omega,?_⟩
 rwa [List.take_of_length_le (by omega)] at hn
theorem ZR {xs:List BG} {k:Nat} {x:BG} (hn:∀ y∈xs.take k,y.s.size≤100) (hx:xs[k]?=some x) (h:x.s.size≤100):∀ y∈xs.take (k+1),y.s.size≤100:=by
 intro y hy
 rw [List.take_add_one,hx] at hy
 simp at hy
 rcases hy with hy|rfl
 ·exact hn y hy
 ·exact h
structure AP where
 t:Bool
 n:Int
 b:ByteArray
def JX (v:AP):List Value:=[.bool v.t,.int .i64 v.n,.string v.b]
def AY:Kd AP:=flat JX 3 (by omega) (fun _=>rfl) (fun _ c h=>by
 simp only [JX,List.mem_cons,List.not_mem_nil,or_false] at h
 rcases h with rfl|rfl|rfl<;>rfl)
def Db (n:Int):AP:=⟨false,n,⟨#[]⟩⟩
def EI (s:ByteArray):AP:=⟨true,0,s⟩
def Cz:AP:=⟨false,0,⟨#[]⟩⟩
def E1 (v:AP):Prop:=Ax v.n∧v.b.size≤64
def Be (op:Int):ByteArray:=
 if op=3∨op=4∨op=22 then ⟨#[101]⟩ else if op=5∨op=12 then ⟨#[101,101]⟩ else if op=8∨op=9∨op=10∨op=11 then ⟨#[110,110]⟩
 else if op=13∨op=23 then ⟨#[98,98]⟩ else if op=14∨op=18 then ⟨#[98]⟩ else if op=15 then ⟨#[98,110]⟩ else if op=16 then ⟨#[98,110,110]⟩ else if op=17∨op=20 then ⟨#[110]⟩ else ⟨#[]⟩
def Fz (c:UInt8) (v:AP):Bool:=!((c==110 && v.t)||(c==98 && !v.t))
def E4:List UInt8→List AP→Bool
 |c::cs,v::vs=>Fz c v && E4 cs vs
 |_,_=>true
def Ay (op:Int) (stk:List AP):Int×List AP×List AP:=
 if stk.length<(Be op).size then (1,stk,[])
 else if E4 (Be op).data.toList (stk.drop (stk.length - (Be op).size)) then (0,stk.take (stk.length - (Be op).size),stk.drop (stk.length - (Be op).size)) else (2,stk,[])
def EM (v:AP):Bool:=v.t && decide (64<v.b.size)
def Bj (stk vs:List AP):Int×List AP:=
 if vs.any EM then (4,stk) else if 16<stk.length+vs.length then (1,stk) else (0,stk++vs)
def DP (told:List Al) (k v:ByteArray):Int×List Al:=
 if 16<k.size then (4,told) else if 40≤told.length then (5,told) else (0,told++[⟨k,v⟩])
def BD (op a b:Int):AP:=if op=8 then Db (IntKind.i64.wrap (a+b)) else if op=9 then Db (IntKind.i64.wrap (a - b)) else if op=10 then Db (IntKind.i64.wrap (a*b)) else Db (if a<b then 1 else 0)
def P4 (b:Bool):AP:=Db (if b then 1 else 0)
def EG (a b:AP):Bool:=if a.t then b.t && decide (a.b=b.b) else !b.t && decide (a.n=b.n)
def EL (s:ByteArray) (i:Int):Int:=if i<0∨(s.size:Int)≤i then -1 else ((s[i.toNat]?.getD 0).toNat:Int)
def Fy (s:ByteArray) (f t:Int):ByteArray:=
 if min (max t 0) (s.size:Int)≤min (max f 0) (s.size:Int) then ⟨#[]⟩ else s.extract (min (max f 0) (s.size:Int)).toNat (min (max t 0) (s.size:Int)).toNat
structure VM where
 pos:Int
 halted:Bool
 stk:List AP
 g:Nat→AP
 told:List Al
 vals:List ByteArray
structure Bg where
 dig:Int→ByteArray
 num:ByteArray→Int
def IK (g:Nat→AP) (k:Nat) (v:AP):Nat→AP:=fun j=>if j=k then v else g j
def C1 (m:VM) (vs:List AP):VM×Int:=({m with stk:=(Bj m.stk vs).2},(Bj m.stk vs).1)
def G7 (m:VM):VM×Int:=
 match m.vals with
 |[]=>C1 m [Db 0]
 |v::vs=>C1 {m with vals:=vs} [EI v,Db 1]
def B4 (D:Bg) (key:ByteArray) (m:VM) (i:BG) (v:List AP):VM×Int:=
 let v0:=v.getD 0 Cz;let v1:=v.getD 1 Cz;let v2:=v.getD 2 Cz
 if i.op=0 then ({m with halted:=true},0)
 else if i.op=1 then C1 m [Db i.a]
 else if i.op=2 then C1 m [EI i.s]
 else if i.op=3 then C1 m [v0,v0]
 else if i.op=5 then C1 m [v1,v0]
 else if i.op=6 then C1 m [EI key]
 else if i.op=7 then G7 m
 else if i.op=8∨i.op=9∨i.op=10∨i.op=11 then C1 m [BD i.op v0.n v1.n]
 else if i.op=12 then C1 m [P4 (EG v0 v1)]
 else if i.op=13 then C1 m [EI (v0.b++v1.b)]
 else if i.op=14 then C1 m [Db v0.b.size]
 else if i.op=15 then C1 m [Db (EL v0.b v1.n)]
 else if i.op=16 then C1 m [EI (Fy v0.b v1.n v2.n)]
 else if i.op=17 then C1 m [EI (D.dig v0.n)]
 else if i.op=18 then C1 m [Db (D.num v0.b)]
 else if i.op=19 then ({m with pos:=i.a},0)
 else if i.op=20 then (if v0.n≠0 then {m with pos:=i.a} else m,0)
 else if i.op=21 then C1 m [m.g i.a.toNat]
 else if i.op=22 then ({m with g:=IK m.g i.a.toNat v0},0)
 else if i.op=23 then ({m with told:=(DP m.told v0.b v1.b).2},(DP m.told v0.b v1.b).1)
 else (m,0)
def BJ (D:Bg) (key:ByteArray) (m:VM) (i:BG):VM×Int:=
 if (Ay i.op m.stk).1≠0 then (m,(Ay i.op m.stk).1) else B4 D key {m with stk:=(Ay i.op m.stk).2.1} i (Ay i.op m.stk).2.2
def CC (D:Bg) (p:List BG) (key:ByteArray):Nat→VM→VM×Int
 |0,m=>if m.pos<p.length∧m.halted=false then (m,3) else (m,0)
 |n+1,m=>
  if m.pos<p.length∧m.halted=false then
   match p[m.pos.toNat]? with
   |some i=>if (BJ D key {m with pos:=m.pos+1} i).2≠0 then BJ D key {m with pos:=m.pos+1} i else CC D p key n (BJ D key {m with pos:=m.pos+1} i).1
   |none=>(m,0)
  else (m,0)
def Dt (vals:List ByteArray):VM:=⟨0,false,[],fun _=>Cz,[],vals⟩
def Bz (D:Bg) (p:List BG) (key:ByteArray) (vals:List ByteArray) (fuel:Int):List Al×Int:=
 if ¬ Du p<0∨fuel<0 then ([],2)
 else if (CC D p key (min fuel 2000).toNat (Dt vals)).2≠0 then ([],(CC D p key (min fuel 2000).toNat (Dt vals)).2) else ((CC D p key (min fuel 2000).toNat (Dt vals)).1.told,0)
/-! ### Facts -/
theorem M8 (x:Int):Ax (IntKind.i64.wrap x):=by
 unfold Ax
 simp only [IntKind.wrap,IntKind.bits,IntKind.signed]
 simp
 omega
theorem Xc (op a b:Int):E1 (BD op a b):=by
 unfold BD
 split
 ·exact ⟨M8 _,(by decide:(⟨#[]⟩:ByteArray).size≤64)⟩
 ·split
  ·exact ⟨M8 _,(by decide:(⟨#[]⟩:ByteArray).size≤64)⟩
  ·split
   ·exact ⟨M8 _,(by decide:(⟨#[]⟩:ByteArray).size≤64)⟩
   ·refine ⟨?_,(by decide:(⟨#[]⟩:ByteArray).size≤64)⟩
    show Ax (if a<b then 1 else 0)
    split<;>(unfold Ax;omega)
def Bc (pv:Value) (key:ByteArray) (vv:Value) (fuel pos steps:Int) (halted:Bool) (sv:Value) (g:Nat→AP) (tv mv:Value):List Value:=
 [pv,.string key,vv,.int .i64 fuel,.int .i64 pos,.int .i64 steps,.bool halted,sv,
  .bool (g 0).t,.int .i64 (g 0).n,.string (g 0).b,.bool (g 1).t,.int .i64 (g 1).n,.string (g 1).b,.bool (g 2).t,.int .i64 (g 2).n,.string (g 2).b,.bool (g 3).t,.int .i64 (g 3).n,.string (g 3).b,
  .bool (g 4).t,.int .i64 (g 4).n,.string (g 4).b,.bool (g 5).t,.int .i64 (g 5).n,.string (g 5).b,.bool (g 6).t,.int .i64 (g 6).n,.string (g 6).b,.bool (g 7).t,.int .i64 (g 7).n,.string (g 7).b,tv,mv]
section
variable {P:Program} {fn:Func} {R:Ending→World→Prop} {n:Nat} {l:BF} {w w':World} {v:Value} {t:TypeId}
theorem YD {s:Tmp} {sz:Nat} {p:Addr} {cs:List Value} {a:Act} (hr:fn.results=#[.cell s t]) (ha:Cp n l a) (hs:lk l s=some (.pointer (some p))) (ht:B7 P t=some (true,sz)) (hz:cs.length=sz) (hc:∀ j v,cs[j]?=some v→w.cell? (p.add j)=some v):(results fn a.tmps).run P w=.ok (.agg cs.toArray) w:=by
 have hl:=run_loadCells_list (P:=P) w p cs hc
 have hg:=(ha.get s _ hs).1
 simp [results,hr]
 rw [←Array.getD_eq_getD_getElem?,hg]
 simp [asAddr,loadVar,II ht,KE ht,←hz,hl]
theorem Gf {s:Tmp} {sz:Nat} {p:Addr} {cs:List Value} (hr:fn.results=#[.cell s t]) (hs:lk l s=some (.pointer (some p))) (ht:B7 P t=some (true,sz)) (hz:cs.length=sz) (hc:∀ j v,cs[j]?=some v→w.cell? (p.add j)=some v) (h:R (.returned (.agg cs.toArray)) w):WQ (bodyPost P fn R) .ret n l w:=
 fun a ha=>bodyPost_ret (YD hr ha hs ht hz hc) ha.defers h
end
section
variable {P:Program} {n:Nat} {l:BF} {w w0:World} {F0:AN} {o:Oper} {x y z:Operand} {t:TypeId} {As Rs:List SP}
theorem X3 {tt:TypeId} {s:ByteArray} {k k':IntKind} {i j:Int} {r:ByteArray} (ho:o.op=.slice tt x (some y) (some z) none) (ht:P.underlying tt=some .string) (hx:ev l x=some (.string s)) (hy:ev l y=some (.int k i)) (hz:ev l z=some (.int k' j))
  (h0:0≤i) (h1:i≤j) (h2:j≤(s.size:Int)) (hr:s.extract i.toNat j.toNat=r):Bx P n l w o (.string r) w:=by
 intro a ha
 have hb:(Instr.sliceBounds false s.size s.size (some (.int k i)) (some (.int k' j)) none).run P w=.ok (i.toNat,j.toNat,s.size) w:=by
  have g0:0≤j:=by omega
  simp [Instr.sliceBounds,Instr.sliceBound,asIntOf,h0,h2,g0]
  intro hh
  omega
 simp [execOp,ho,ha.eval hx,ha.eval hy,ha.eval hz,Instr.sliceAt,Instr.slice,hb,run_underlying ht,←hr]
theorem Hc {tt e:TypeId} {size len:Nat} {b off:Nat} {k:IntKind} {i:Int} {p:Nat} (ho:o.op=.indexAddr tt x y) (hu:P.underlying tt=some (.array len e)) (hi:(P.info? e).map (·.size)=some size)
  (hx:ev l x=some (.pointer (some ⟨b,off,none⟩))) (hy:ev l y=some (.int k i)) (h0:0≤i) (h1:i<(len:Int)) (hp:off+i.toNat*size=p):Bx P n l w o (.pointer (some ⟨b,p,none⟩)) w:=by
 obtain ⟨inf,h2,h3⟩:=Option.map_eq_some_iff.1 hi
 exact X8 ho hu h2 h3 hx hy h0 h1 hp
theorem Qv {t':TypeId} {u:Value} {b:Bool} (ho:o.op=.binOp .neq t x (.const .nilIface) t') (ht:P.underlying t=some (.interface (P.methodsAt t))) (hx:ev l x=some u) (hu:(u=.nilIface∧b=false)∨(∃ te pe,u=.iface te pe∧b=true)):Bx P n l w o (.bool b) w:=by
 intro a ha
 have hc:a.eval (.const .nilIface)=.nilIface:=rfl
 rcases hu with ⟨rfl,rfl⟩|⟨te,pe,rfl,rfl⟩
 ·have h:=run_equal_nil_nil (P:=P) w t ht
  simp [execOp,ho,ha.eval hx,hc,eqGuard,binOp,h]
 ·have h:=run_equal_held_nil (P:=P) w t te pe ht
  simp [execOp,ho,ha.eval hx,hc,eqGuard,binOp,h]
theorem QD {src dst e:TypeId} {p:Addr} {v:Value} (ho:o.op=.convert src dst x) (hs:P.underlying src=some (.pointer e)) (hd:P.underlying dst=some .unsafePointer) (hz:(P.info? e).map (fun i=>decide (i.size=0))=some false) (hx:ev l x=some (.pointer (some p))) (hc:w.cell? p=some v):Bx P n l w o (.pointer (some p)) w:=by
 intro a ha
 simp [execOp,ho,ha.eval hx,run_convert_to_unsafe hs hd hz hc]
theorem Xl {α:Type} {d:Kd α} {F:AN} {A:Option Addr} {m c:Nat} {xs:List α} (h:(Y d (.slice A m c) xs).P w F) {i:Nat} (hi:i≤m):(Y d (.slice A i c) (xs.take i)).P w F:=by
 obtain ⟨A',m',c',e,hl,cs,F1,F2,s1,s2,dj,⟨r1,r2,r3,r4⟩,hrep⟩:=h
 simp only [List.cons.injEq,Value.slice.injEq,and_true] at e
 obtain ⟨rfl,rfl,rfl⟩:=e
 refine ⟨A,i,c,rfl,by rw [List.length_take];omega,cs.take (i*d.sz),F1,F2,s1,s2,dj,⟨by omega,r2,?_,?_⟩,hrep.take i⟩
 ·rw [List.length_take,r3]
  exact Nat.min_eq_left (Nat.mul_le_mul_right _ hi)
 ·rcases r4 with h0|⟨b,C,t,e,hb,hh,hs,ht⟩
  ·exact .inl h0
  ·refine .inr ⟨b,C,t,e,hb,hh,hs,?_⟩
   rw [←ht,List.take_take,Nat.min_eq_left (Nat.mul_le_mul_right _ hi)]
theorem Hd.preO {α:Type} {d:Kd α} {A:Option Addr} {m c:Nat} {xs:List α} (H:Hd w0 F0 w (Y d (.slice A m c) xs::As) Rs) (i:Nat) (hi:i≤m):Hd w0 F0 w (Y d (.slice A i c) (xs.take i)::As) Rs:=H.turn fun _ h=>Xl h hi
end
section
variable {w w0:World} {F0:AN} {As Rs:List SP} {α:Type} {enc:α→List Value} {sz:Nat} {hp:0<sz} {hl:∀ x,(enc x).length=sz} {h1:∀ x,∀ c∈enc x,c.oneCell'=true} {xs:List α} {A:Option Addr} {m c:Nat}
theorem Hd.thX (H:Hd w0 F0 w As Rs) (hS:∀ F,(∀ A∈As,A.P w F)→(∀ R∈Rs,R.P w F)→(Aa (flat enc sz hp hl h1) (.slice A m c) xs).P w F) {i:Nat} {x:α} (hx:xs[i]?=some x):Fw A:=H.read fun F hA hR=>Lz (hS F hA hR) hx
theorem Hd.elX (H:Hd w0 F0 w As Rs) (hS:∀ F,(∀ A∈As,A.P w F)→(∀ R∈Rs,R.P w F)→(Aa (flat enc sz hp hl h1) (.slice A m c) xs).P w F) {i:Nat} {x:α} (hx:xs[i]?=some x) {q p:Nat} {u:Value} (hu:(enc x)[q]?=some u) (hpj:AT A+i*sz+q=p):w.cell? ⟨Ef A,p,none⟩=some u:=
 H.read fun F hA hR=>Lx (hS F hA hR) hx hu hpj
theorem Hd.elsX (H:Hd w0 F0 w As Rs) (hS:∀ F,(∀ A∈As,A.P w F)→(∀ R∈Rs,R.P w F)→(Aa (flat enc sz hp hl h1) (.slice A m c) xs).P w F) {i:Nat} {x:α} (hx:xs[i]?=some x) {p:Nat} (hpj:AT A+i*sz=p):∀ q v,(enc x)[q]?=some v→w.cell? ((⟨Ef A,p,none⟩:Addr).add q)=some v:=by
 intro q v hq
 rw [Ez]
 exact H.elX hS hx hq (by rw [hpj])
end
section
variable {pv:Value} {key:ByteArray} {vv:Value} {fuel pos steps:Int} {halted:Bool} {sv:Value} {g:Nat→AP} {tv mv:Value}
theorem PG {k:Nat} (h:k<8):k=0∨k=1∨k=2∨k=3∨k=4∨k=5∨k=6∨k=7:=by omega
theorem YM {k:Nat} (h:k<8):(((Bc pv key vv fuel pos steps halted sv g tv mv).drop (8+k*3)).take 3)=JX (g k):=by
 rcases PG h with rfl|rfl|rfl|rfl|rfl|rfl|rfl|rfl<;>rfl
theorem YN {k:Nat} (h:k<8) (v:AP):Ea (Bc pv key vv fuel pos steps halted sv g tv mv) (8+k*3) (JX v)=Bc pv key vv fuel pos steps halted sv (IK g k v) tv mv:=by
 rcases PG h with rfl|rfl|rfl|rfl|rfl|rfl|rfl|rfl<;>rfl
end
theorem ZT  :
    Cn Tryz.prog 210 [] [] [] (fun v Bs=>∃ b,v=.pointer (some ⟨b,0,none⟩)∧Bs=[blk b [.int .i64 0,.int .i64 0,.int .i64 0,.int .i64 0,.int .i64 0,.int .i64 0,.int .i64 0,.int .i64 0] 322]):=by
 intro w0 F0 H
 refine enter Tryz.func210 U U (Nat.le_of_ble_eq_true U) (Ab (Ae (Ad U (Ac (Z (Ab (Ae (V U U (CM (parts:=[]) (vs:=[]) (cs:=[.int .i64 0,.int .i64 0,.int .i64 0,.int .i64 0,.int .i64 0,.int .i64 0,.int .i64 0,.int .i64 0]) U So U U) (Cy U U U U H (fun b1 w H=>(Ad U (Ac (Z ?_)))))))))))))
 replace H:Hd _ _ _ [blk b1 [.int .i64 0,.int .i64 0,.int .i64 0,.int .i64 0,.int .i64 0,.int .i64 0,.int .i64 0,.int .i64 0] 322] []:=H
 exact Ap (Aq U U (Am ⟨_,rfl,rfl⟩ H))
theorem ZS (t:Nat):
    Cn Tryz.prog 249 [.pointer (some ⟨t,0,none⟩),.int .i64 0] [] [] (fun v Bs=>v=.pointer (some ⟨t,0,none⟩)∧Bs=[]):=by
 intro w0 F0 H
 refine enter Tryz.func249 U U (Nat.le_of_ble_eq_true U) (Ab (Ae (Ad U (Ac (Z (Ab (Ab (Ae (Ad U (V U U (C5 U aC U U) (Ah 2 U (V U U (Bd U U U) (Ah 3 U (V U U (Cw U U U) (Ad U (Ac (Z (B9 U (Aw (Z (Ab (Ae (Ah 2 U (V U U (AI U U) (V U U (Aj U T8 U) (V U U (Hc (p:=0) U aD UN U U (by omega) (by omega) U) (Ad U (Ac (Z (Ap (Aq U U ?_)))))))))))))))))))))))))))))))
 replace H:Hd _ _ _ [] []:=H
 exact Am ⟨rfl,rfl⟩ H
theorem R5 (nb:Nat) (n o:Int) (hn:0≤n∧n≤1099511627776) (ho:0≤o∧o≤1099511627776):
    Cn Tryz.prog 250 [.int .i64 o,.pointer (some ⟨nb,0,none⟩)] [] [blk nb [.int .i64 n] 3] (fun v Bs=>v=.int .i64 (min (o+n) 1099511627776)∧Bs=[]):=by
 intro w0 F0 H
 refine enter Tryz.func250 U U (Nat.le_of_ble_eq_true U) (Ab (Ae (Ad U (Ac (Z (Ab (Ae (Ad U (V U U (Ao U AE U (H.cellRI 0 U U)) (V U U (A0 (z:=o+n) U U U (AF (by omega) (by omega))) (V U U (IB (z:=min (o+n) 1099511627776) U U U U) (Ad U (Ac (Z (Ap (Aq U U ?_))))))))))))))))
 replace H:Hd _ _ _ [] [blk nb [.int .i64 n] 3]:=H
 exact Am ⟨rfl,rfl⟩ H
theorem V7 (t:Nat) (c0 c1 c2 c3 c4 c5 c6 c7:Int):
    Cn Tryz.prog 281 [.pointer (some ⟨t,0,none⟩)] [] [blk t [.int .i64 c0,.int .i64 c1,.int .i64 c2,.int .i64 c3,.int .i64 c4,.int .i64 c5,.int .i64 c6,.int .i64 c7] 322] (fun v Bs=>v=.int .i64 c0∧Bs=[]):=by
 intro w0 F0 H
 refine enter Tryz.func281 U U (Nat.le_of_ble_eq_true U) (Ab (Ae (Ad U (Ac (Z (Ab (Ae (Ad U (V U U (AI U U) (V U U (Aj U OB U) (V U U (MF TU U U (H.cellRI 0 U U)) (Ad U (Ac (Z (Ap (Aq U U ?_))))))))))))))))
 replace H:Hd _ _ _ [] [blk t [.int .i64 c0,.int .i64 c1,.int .i64 c2,.int .i64 c3,.int .i64 c4,.int .i64 c5,.int .i64 c6,.int .i64 c7] 322]:=H
 exact Am ⟨rfl,rfl⟩ H
theorem SF (t:Nat) (c0 c1 c2 c3 c4 c5 c6 c7:Int) (n:Int):
    Cn Tryz.prog 282 [.pointer (some ⟨t,0,none⟩),.int .i64 c0,.int .i64 n] [blk t [.int .i64 c0,.int .i64 c1,.int .i64 c2,.int .i64 c3,.int .i64 c4,.int .i64 c5,.int .i64 c6,.int .i64 c7] 322] [] (fun v Bs=>v=.bool true∧Bs=[blk t [.int .i64 n,.int .i64 c1,.int .i64 c2,.int .i64 c3,.int .i64 c4,.int .i64 c5,.int .i64 c6,.int .i64 c7] 322]):=by
 intro w0 F0 H
 refine enter Tryz.func282 U U (Nat.le_of_ble_eq_true U) (Ab (Ae (Ad U (Ac (Z (Ab (Ae (Ad U (V U U (AI U U) (V U U (Aj U OB U) (Ah 2 U (Rb TV U U U U H U (fun w H=>?_)))))))))))))
 replace H:Hd _ _ _ [blk t [.int .i64 n,.int .i64 c1,.int .i64 c2,.int .i64 c3,.int .i64 c4,.int .i64 c5,.int .i64 c6,.int .i64 c7] 322] []:=H
 exact Ad U (Ac (Z (Ap (Aq U U (Am ⟨rfl,rfl⟩ H)))))
theorem SO (t:Nat) (c0 c1 c2 c3 c4 c5 c6 c7:Int) (nb:Nat) (n:Int) (hn:0≤n∧n≤1099511627776) (ho:0≤c0∧c0≤1099511627776):
    Cn Tryz.prog 248 [.pointer (some ⟨t,0,none⟩),.func (.func 250) #[] #[.pointer (some ⟨nb,0,none⟩)]] [blk t [.int .i64 c0,.int .i64 c1,.int .i64 c2,.int .i64 c3,.int .i64 c4,.int .i64 c5,.int .i64 c6,.int .i64 c7] 322] [blk nb [.int .i64 n] 3] (fun v Bs=>v=.int .i64 (min (c0+n) 1099511627776)∧Bs=[blk t [.int .i64 (min (c0+n) 1099511627776),.int .i64 c1,.int .i64 c2,.int .i64 c3,.int .i64 c4,.int .i64 c5,.int .i64 c6,.int .i64 c7] 322]):=by
 intro w0 F0 H
 refine enter Tryz.func248 U U (Nat.le_of_ble_eq_true U) (Ab (Ae (Ad U (Ac (Z (Ab (Ab (Ae (Ad U (V U U (C5 U aE U U) (Ac (Z (B9 U (Aw (Z (AW (BT (σ:=Unit) (fun u=>[(0,.pointer (some ⟨t,0,none⟩)),(1,.func (.func 250) #[] #[.pointer (some ⟨nb,0,none⟩)])]) (fun u w=>(Hd w0 F0 w [blk t [.int .i64 c0,.int .i64 c1,.int .i64 c2,.int .i64 c3,.int .i64 c4,.int .i64 c5,.int .i64 c6,.int .i64 c7] 322] [blk nb [.int .i64 n] 3])) (fun u=>0) () ⟨rfl,rfl,trivial⟩ H ?_)))))))))))))))))
 rintro u w H
 refine AW (Ab (Ae (Ad U (sc (V7 t c0 c1 c2 c3 c4 c5 c6 c7) H (lA 0 U (fun _ h=>h) l0) U U (At VO U U) ?_))))
 rintro _ _ w ⟨rfl,rfl⟩ H
 refine Ad U (Ac (Z (Ab (Ae (Ah 2 U (sc (R5 nb n c0 hn ho) H (lR 0 U l0) U U (FJ (vs:=[.int .i64 c0]) (fs:=#[]) (cs:=#[.pointer (some ⟨nb,0,none⟩)]) VB U U U) ?_))))))
 rintro _ _ w ⟨rfl,rfl⟩ H
 refine Ad U (Ac (Z (Ab (Ae (Ah 2 U (V U U (Bv U U U) (Ad U ?_)))))))
 refine AU (d:=17) U (fun h1=>?_) (fun h1=>?_)
 ·refine Ah 5 U (Ac (Z (B8 U (Ab (Ae (Ah 2 U (Ac (Z (Ap (Bb (AA (Bb (Aq U U ?_)))))))))))))
  replace H:Hd w0 F0 w [blk t [.int .i64 (min (c0+n) 1099511627776),.int .i64 c1,.int .i64 c2,.int .i64 c3,.int .i64 c4,.int .i64 c5,.int .i64 c6,.int .i64 c7] 322] [blk nb [.int .i64 n] 3]:=by rw [h1];exact H
  exact Am ⟨rfl,rfl⟩ H
 refine Ah 3 U (sc (SF t c0 c1 c2 c3 c4 c5 c6 c7 (min (c0+n) 1099511627776)) H l0 U U (At VP U U) ?_)
 rintro _ _ w ⟨rfl,rfl⟩ H
 refine Ad U (Ac (Z ?_))
 replace H:Hd _ _ _ [blk t [.int .i64 (min (c0+n) 1099511627776),.int .i64 c1,.int .i64 c2,.int .i64 c3,.int .i64 c4,.int .i64 c5,.int .i64 c6,.int .i64 c7] 322] [blk nb [.int .i64 n] 3]:=H
 exact B8 U (Ab (Ae (Ah 2 U (Ac (Z (Ap (Bb (AA (Bb (Aq U U (Am ⟨rfl,rfl⟩ H)))))))))))
theorem RB (t:Nat) (c0 c1 c2 c3 c4 c5 c6 c7:Int) (n:Int) (hn:0≤n∧n≤1099511627776) (ho:0≤c0∧c0≤1099511627776):
    Cn Tryz.prog 214 [.pointer (some ⟨t,0,none⟩),.int .i64 0,.int .i64 n] [blk t [.int .i64 c0,.int .i64 c1,.int .i64 c2,.int .i64 c3,.int .i64 c4,.int .i64 c5,.int .i64 c6,.int .i64 c7] 322] [] (fun v Bs=>v=.int .i64 (min (c0+n) 1099511627776)∧Bs=[blk t [.int .i64 (min (c0+n) 1099511627776),.int .i64 c1,.int .i64 c2,.int .i64 c3,.int .i64 c4,.int .i64 c5,.int .i64 c6,.int .i64 c7] 322]):=by
 intro w0 F0 H
 refine enter Tryz.func214 U U (Nat.le_of_ble_eq_true U) (Ab (Ae (Cy U U U U H (fun b1 w H=>(Ad U (Ac (Z ?_)))))))
 replace H:Hd _ _ _ [blk b1 [.int .i64 n] 3,blk t [.int .i64 c0,.int .i64 c1,.int .i64 c2,.int .i64 c3,.int .i64 c4,.int .i64 c5,.int .i64 c6,.int .i64 c7] 322] []:=H
 refine Ab (Ab (Ae (V U U (Ao U AE U (H.cellI 0 U U)) (V U U (Bd U U U) (Ad U ?_)))))
 refine AU (d:=9) U (fun h2=>?_) (fun h2=>?_)
 ·exfalso;omega
 refine V U U (Ao U AE U (H.cellI 0 U U)) (V U U (Ca U U U) (Ad U (Ac (Z ?_))))
 refine Az U (fun h3=>?_) (fun h3=>?_)
 ·exfalso;omega
 refine Aw (Z (Ab (Ae (Ah 2 U (sc (ZS t) H l0 U U (At VA U U) ?_)))))
 rintro _ _ w ⟨rfl,rfl⟩ H
 refine V U U (Hb (fs:=#[]) (cs:=#[.pointer (some ⟨b1,0,none⟩)]) U U U) ?_
 replace H:=H.p1
 refine sc (SO t c0 c1 c2 c3 c4 c5 c6 c7 b1 n hn ho) H (lA 0 U (fun _ h=>h) l0) U U (At Vz U U) ?_
 rintro _ _ w ⟨rfl,rfl⟩ H
 replace H:=H.h1 (A:=blk t [.int .i64 (min (c0+n) 1099511627776),.int .i64 c1,.int .i64 c2,.int .i64 c3,.int .i64 c4,.int .i64 c5,.int .i64 c6,.int .i64 c7] 322)
 refine Ad U (Ac (Z (Ap (Aq U U ?_))))
 replace H:=H.k1
 exact Am ⟨rfl,rfl⟩ H
def Ak {α:Type} (d:Kd α):Kd (Value×List α) where
 sz:=1
 O w F x cs:=cs=[x.1]∧(BB d).O w F x.2 [x.1]
 R w F x cs:=cs=[x.1]∧(BB d).R w F x.2 [x.1]
 O_loc h hk:=⟨h.1,(BB d).O_loc h.2 hk⟩
 O_mono h hk:=⟨h.1,(BB d).O_mono h.2 hk⟩
 R_loc h hk:=⟨h.1,(BB d).R_loc h.2 hk⟩
 R_mono h hk:=⟨h.1,(BB d).R_mono h.2 hk⟩
 O_R h:=⟨h.1,(BB d).O_R h.2⟩
 len h:=by rw [h.1];rfl
 one h:=fun c hc=>(BB d).one h.2 c (h.1▸hc)
 pos:=Nat.one_pos
section
variable {w w0:World} {F F0:AN} {As Rs:List SP} {α:Type} {d:Kd α} {A:Option Addr} {m c:Nat} {us:List (Value×List α)}
theorem LR (h:(Aa (Ak d) (.slice A m c) us).P w F) {i:Nat} {x:Value×List α} (hx:us[i]?=some x):
  Fw A∧w.cell? ⟨Ef A,AT A+i*1,none⟩=some x.1∧(Aa d x.1 x.2).P w F:=by
 obtain ⟨b,off,cs,e,hl,hc,h1,h2⟩:=Jy h hx
 subst h1 e
 exact ⟨rfl,hc 0 x.1 rfl,h2⟩
theorem Gy (h:(Aa (Ak d) (.slice A m c) us).P w F) {i:Nat} {u:Value} {x:List α} (hx:us[i]?=some (u,x)):(Aa d u x).P w F:=(LR h hx).2.2
theorem Hd.thRd (H:Hd w0 F0 w As Rs) (j:Nat) (hj:Rs[j]?=some (Aa (Ak d) (.slice A m c) us)) {i:Nat} {x:Value×List α} (hx:us[i]?=some x):Fw A:=H.factR (List.mem_of_getElem? hj) fun _ h=>(LR h hx).1
theorem Hd.elRd (H:Hd w0 F0 w As Rs) (j:Nat) (hj:Rs[j]?=some (Aa (Ak d) (.slice A m c) us)) {i:Nat} {u:Value} {x:List α} (hx:us[i]?=some (u,x)) {p:Nat} (hp:AT A+i*1=p):w.cell? ⟨Ef A,p,none⟩=some u:=by
 subst hp
 exact H.factR (List.mem_of_getElem? hj) fun _ h=>(LR h hx).2.1
theorem Hd.nestR (H:Hd w0 F0 w As Rs) (j:Nat) (hj:Rs[j]?=some (Aa (Ak d) (.slice A m c) us)) {i:Nat} {u:Value} {x:List α} (hx:us[i]?=some (u,x)):∃ A' c',u=.slice A' x.length c'∧x.length≤c'∧c'≤9223372036854775807:=by
 refine H.factR (List.mem_of_getElem? hj) fun _ h=>?_
 obtain ⟨A',c',e,h1,h2,_⟩:=Er (Gy h hx)
 exact ⟨A',c',e,h1,h2⟩
theorem Hd.pickR (is:List Nat) (H:Hd w0 F0 w As Rs):Hd w0 F0 w As (is.filterMap fun i=>Rs[i]?):=H.subR fun R hR=>by
 obtain ⟨i,_,hi⟩:=List.mem_filterMap.1 hR
 exact List.mem_of_getElem? hi
theorem Hd.dropR {R:SP} (H:Hd w0 F0 w As (R::Rs)):Hd w0 F0 w As Rs:=H.subR fun _ hR=>List.mem_cons_of_mem _ hR
theorem Hd.dupR {R:SP} (H:Hd w0 F0 w As Rs) (j:Nat) (hj:Rs[j]?=some R):Hd w0 F0 w As (R::Rs):=H.addR fun _ h=>h _ (List.mem_of_getElem? hj)
theorem Hd.sufR {xs:List α} (H:Hd w0 F0 w As Rs) (j:Nat) (hj:Rs[j]?=some (Aa d (.slice A m c) xs)) {n:Nat} (hn:n≤m):Hd w0 F0 w As (Aa d (.slice (DG A c n d.sz) (m - n) (c - n)) (xs.drop n)::Rs):=
 H.addR fun _ h=>IH (h _ (List.mem_of_getElem? hj)) hn
theorem QT:∀ {xs:List (List α)} {cs:List Value},AZ (BB d) w F xs cs→∃ us:List (Value×List α),us.map (·.2)=xs∧AZ (Ak d) w F us cs
 |[],_,h=>⟨[],rfl,h⟩
 |x::xs,_,⟨c,cs',e,h1,h2⟩=>by
  obtain ⟨us,rfl,hu⟩:=QT h2
  obtain ⟨A',n',c',rfl,h3⟩:=h1
  exact ⟨(.slice A' n' c',x)::us,rfl,_,_,e,⟨rfl,_,_,_,rfl,h3⟩,hu⟩
theorem Hd.heads {v:Value} {xs:List (List α)} (H:Hd w0 F0 w As Rs) (j:Nat) (hj:Rs[j]?=some (Aa (BB d) v xs)):∃ us:List (Value×List α),us.map (·.2)=xs∧Hd w0 F0 w As (Aa (Ak d) v us::Rs):=by
 obtain ⟨F,G,s,r,dj,f,g,u⟩:=H
 obtain ⟨A',n',c',e,h1,h2,h3,cs,h4,h5⟩:=r _ (List.mem_of_getElem? hj)
 obtain ⟨us,rfl,hu⟩:=QT h5
 refine ⟨us,rfl,F,G,s,?_,dj,f,g,u⟩
 intro R hR
 cases hR with
 |head=>exact ⟨A',n',c',e,by rw [←h1,List.length_map],h2,h3,cs,h4,hu⟩
 |tail _ hm=>exact r R hm
theorem QS:∀ {us:List (Value×List α)},(∀ p∈us,(Aa d p.1 p.2).P w F)→AZ (Ak d) w F us (us.map (·.1))
 |[],_=>rfl
 |p::us,h=>⟨[p.1],us.map (·.1),rfl,⟨rfl,h p (List.mem_cons_self ..)⟩,QS fun q hq=>h q (List.mem_cons_of_mem _ hq)⟩
end
section
variable {P:Program} {ops:Array Oper} {Q:Exit→Act→World→Prop} {rest:List Oper} {n:Nat} {l:BF} {w0 w:World} {F0:AN} {o:Oper} {As Rs:List SP} {x y:Operand} {t:TypeId}
theorem FS {α:Type} {d:Kd α} {e bytes et b:Nat} {z u v':Value} {us:List (Value×List α)} {ys:List α}
  (hg:gd ops l o=some true) (hd:Cl n o.dst=true) (ho:o.op=.call { callee:=.builtin .append,args:=#[x,y],argTypes:=#[t,t] }) (hs:C6 P t=some (e,1,bytes)) (hz:CJ P e=some z) (hzs:z.cells.size=1) (hb0:0<bytes)
  (hx:ev l x=some u) (hy:ev l y=some (.slice (some ⟨b,0,none⟩) 1 1)) (H:Hd w0 F0 w (Y (Ak d) u us::blk b [v'] et::Y d v' ys::As) Rs) (hb:(us.length+1)*bytes≤140737488355328)
  (h:∀ u' w',Hd w0 F0 w' (Y (Ak d) u' (us++[(v',ys)])::As) Rs→WL P ops Q rest n (Cc l o.dst u') w'):WL P ops Q (o::rest) n l w:=by
 have H1:Hd w0 F0 w ([blk b [v'] et,Y d v' ys]++(Y (Ak d) u us::As)) Rs:=H.perm ((List.Perm.swap _ _ _).trans ((List.Perm.swap _ _ _).cons _))
 have H2:=H1.shut (A:=CO [blk b [v'] et,Y d v' ys]) (fun F hF=>hF)
 have H3:=H2.perm (List.Perm.swap _ _ _)
 refine YU (d:=Ak d) (ys:=[(v',ys)]) hg hd ho hs hz hzs hb0 hx hy H3 hb U ?_ h
 rintro F ⟨F1,F2,h1,h2,h3,hbk,G1,G2,g1,g2,g3,hos,_⟩
 refine ⟨[v'],⟨trivial,.inr ⟨b,0,_,_,_,rfl,h1 b hbk.1,hbk.2,by simp⟩⟩,?_⟩
 exact ⟨F2,none_,[v'],[],h2,fun _ q=>q.elim,fun _ _ q=>q,rfl,⟨rfl,(BB d).O_mono hos g1⟩,rfl⟩
end
theorem Kn (a b:ByteArray):Bh a b=decide (a.data.toList<b.data.toList):=Proofs.bytesLess_eq _ _
theorem Gw (a:ByteArray):Bh a a=false:=by
 rw [Kn]
 exact decide_eq_false (List.lt_irrefl _)
theorem Mc {a b c:ByteArray} (h1:Bh a b=true) (h2:Bh b c=true):Bh a c=true:=by
 rw [Kn] at *
 exact decide_eq_true (List.lt_trans (of_decide_eq_true h1) (of_decide_eq_true h2))
theorem Jk {a b:ByteArray} (h1:Bh a b=true):Bh b a=false:=by
 cases h:Bh b a with
 |false=>rfl
 |true=>have:=Mc h1 h;rw [Gw] at this;cases this
theorem Km {a b:ByteArray} (h1:Bh a b=false) (h2:Bh b a=false):a=b:=by
 rw [Kn] at *
 have h1:=of_decide_eq_false h1
 have h2:=of_decide_eq_false h2
 exact toList_inj (List.le_antisymm h2 h1)
theorem Gd {a b c:ByteArray} (h1:Bh b a=false) (h2:Bh c b=false):Bh c a=false:=by
 cases h:Bh c a with
 |false=>rfl
 |true=>
  cases h3:Bh a b with
  |true=>have:=Mc h h3;rw [this] at h2;cases h2
  |false=>
   have:=Km h3 h1
   subst this
   rw [h] at h2
   cases h2
theorem PH {a b c:ByteArray} (h1:Bh a b=true) (h2:Bh c b=false):Bh a c=true:=by
 cases h:Bh a c with
 |true=>rfl
 |false=>have:=Gd h2 h;rw [this] at h1;cases h1
theorem V6 {a b c:ByteArray} (h1:Bh b a=false) (h2:Bh b c=true):Bh a c=true:=by
 cases h:Bh a c with
 |true=>rfl
 |false=>have:=Gd h h1;rw [this] at h2;cases h2
def BZ (xs ys:List Al):Prop:=xs.length=ys.length∧∀ k:ByteArray,xs.filter (fun p=>decide (p.key=k))=ys.filter (fun p=>decide (p.key=k))
theorem BZ.refl (xs:List Al):BZ xs xs:=⟨rfl,fun _=>rfl⟩
theorem BZ.trans {xs ys zs:List Al} (h1:BZ xs ys) (h2:BZ ys zs):BZ xs zs:=⟨h1.1.trans h2.1,fun k=>(h1.2 k).trans (h2.2 k)⟩
theorem BZ.symm {xs ys:List Al} (h1:BZ xs ys):BZ ys xs:=⟨h1.1.symm,fun k=>(h1.2 k).symm⟩
theorem BZ.append {a b c d:List Al} (h1:BZ a b) (h2:BZ c d):BZ (a++c) (b++d):=
 ⟨by rw [List.length_append,List.length_append,h1.1,h2.1],fun k=>by rw [List.filter_append,List.filter_append,h1.2,h2.2]⟩
theorem BZ.mem {xs ys:List Al} (h:BZ xs ys) {p:Al} (hp:p∈xs):p∈ys:=by
 have:p∈xs.filter (fun q=>decide (q.key=p.key)):=List.mem_filter.2 ⟨hp,by simp⟩
 rw [h.2] at this
 exact (List.mem_filter.1 this).1
def CU (xs:List Al):Prop:=xs.Pairwise fun p q=>Bh q.key p.key=false
instance (xs:List Al):Decidable (CU xs):=by unfold CU;infer_instance
def ins (p:Al):List Al→List Al
 |[]=>[p]
 |q::l=>if Bh q.key p.key=true then q::ins p l else p::q::l
def srt:List Al→List Al
 |[]=>[]
 |p::l=>ins p (srt l)
theorem OT {p q:Al}:∀ {l:List Al},q∈ins p l↔q=p∨q∈l
 |[]=>by simp [ins]
 |r::l=>by
  unfold ins
  split
  ·rw [List.mem_cons,OT,List.mem_cons]
   constructor<;>(rintro (h|h|h)<;>simp [h])
  ·simp
theorem OU {p:Al}:∀ {l:List Al},CU l→CU (ins p l)
 |[],_=>by simp [ins,CU]
 |q::l,h=>by
  have h':=List.pairwise_cons.1 h
  unfold ins
  split
  ·rename_i hlt
   refine List.pairwise_cons.2 ⟨fun r hr=>?_,OU h'.2⟩
   rcases OT.1 hr with rfl|hr
   ·exact Jk hlt
   ·exact h'.1 r hr
  ·rename_i hlt
   have hlt:Bh q.key p.key=false:=by simpa using hlt
   refine List.pairwise_cons.2 ⟨fun r hr=>?_,h⟩
   rcases List.mem_cons.1 hr with rfl|hr
   ·exact hlt
   ·exact Gd hlt (h'.1 r hr)
theorem OV {p:Al}:∀ {l:List Al},BZ (p::l) (ins p l)
 |[]=>BZ.refl _
 |q::l=>by
  unfold ins
  split
  ·rename_i hlt
   have hne:p.key≠q.key:=fun e=>by rw [e,Gw] at hlt;cases hlt
   have h1:BZ (p::q::l) (q::p::l):=by
    refine ⟨by simp,fun k=>?_⟩
    by_cases hp:p.key=k
    ·have:¬ q.key=k:=fun e=>hne (hp.trans e.symm)
     simp [hp,this]
    ·simp [List.filter_cons,hp]
   exact h1.trans (BZ.append (BZ.refl [q]) (OV (p:=p) (l:=l)))
  ·exact BZ.refl _
theorem JB:∀ l:List Al,CU (srt l)
 |[]=>List.Pairwise.nil
 |_::l=>OU (JB l)
theorem Gg:∀ l:List Al,BZ l (srt l)
 |[]=>BZ.refl _
 |p::l=>(BZ.append (BZ.refl [p]) (Gg l)).trans OV
theorem P9:∀ {xs ys:List Al},CU xs→CU ys→BZ xs ys→xs=ys
 |[],ys,_,_,h=>(List.eq_nil_of_length_eq_zero h.1.symm).symm
 |x::xs,[],_,_,h=>by cases h.1
 |x::xs,y::ys,hx,hy,h=>by
  have hx':=List.pairwise_cons.1 hx
  have hy':=List.pairwise_cons.1 hy
  have hk:x.key=y.key:=by
   refine Km ?_ ?_
   ·rcases List.mem_cons.1 (h.mem (List.mem_cons_self ..):x∈y::ys) with e|hm
    ·rw [e,Gw]
    ·exact hy'.1 x hm
   ·rcases List.mem_cons.1 (h.symm.mem (List.mem_cons_self ..):y∈x::xs) with e|hm
    ·rw [e,Gw]
    ·exact hx'.1 y hm
  have he:=h.2 x.key
  rw [List.filter_cons_of_pos (by simp),List.filter_cons_of_pos (by simp [hk])] at he
  obtain ⟨rfl,_⟩:=List.cons.inj he
  rw [P9 hx'.2 hy'.2 ⟨by simpa using h.1,fun k=>?_⟩]
  have hk2:=h.2 k
  by_cases hxk:x.key=k
  ·rw [List.filter_cons_of_pos (by simp [hxk]),List.filter_cons_of_pos (by simp [hxk])] at hk2
   exact (List.cons.inj hk2).2
  ·rw [List.filter_cons_of_neg (by simp [hxk]),List.filter_cons_of_neg (by simp [hxk])] at hk2
   exact hk2
theorem JA {xs ys:List Al} (h:BZ xs ys) (ho:CU ys):ys=srt xs:=P9 ho (JB xs) (h.symm.trans (Gg xs))
theorem Ru {xs:List Al} (ho:CU xs):srt xs=xs:=(JA (BZ.refl xs) ho).symm
theorem Zy {xs ys:List Al} (h:BZ xs ys):srt xs=srt ys:=(JA (h.trans (Gg ys)) (JB ys)).symm
theorem Fq (xs:List Al):(srt xs).length=xs.length:=(Gg xs).1.symm
def CQ (xs ys:List Al) (f:Nat→Nat):Prop:=ys.length=xs.length∧∀ t,ys[t]?=xs[f t]?
def Fa (a b n t:Nat):Nat:=if a≤t∧t<a+n then t+(b - a) else if b≤t∧t<b+n then t - (b - a) else t
def Bq (a m b t:Nat):Nat:=if a≤t∧t<a+(b - m) then t+(m - a) else if a+(b - m)≤t∧t<b then t - (b - m) else t
theorem KZ (xs:List Al) {f:Nat→Nat} (h:∀ t,f t=t):CQ xs xs f:=⟨rfl,fun t=>by rw [h]⟩
theorem aQ {xs ys:List Al} {a b k:Nat} {x y:Al} (hab:a+k<b) (h:CQ xs ys (Fa a b k)) (hx:ys[a+k]?=some x) (hy:ys[b+k]?=some y):
  CQ xs ((ys.set (a+k) y).set (b+k) x) (Fa a b (k+1)):=by
 have l1:a+k<ys.length:=(List.getElem?_eq_some_iff.1 hx).1
 have l2:b+k<ys.length:=(List.getElem?_eq_some_iff.1 hy).1
 refine ⟨by simpa using h.1,fun t=>?_⟩
 rw [List.getElem?_set,List.getElem?_set]
 have hx':=h.2 (a+k)
 have hy':=h.2 (b+k)
 rw [hx] at hx'
 rw [hy] at hy'
 by_cases h1:b+k=t
 ·subst h1
  rw [if_pos rfl,if_pos (by simpa using l2),hx']
  congr 1
  unfold Fa
  rw [if_neg (by omega),if_neg (by omega),if_neg (by omega),if_pos (by omega)]
  omega
 ·rw [if_neg h1]
  by_cases h2:a+k=t
  ·subst h2
   rw [if_pos rfl,if_pos l1,hy']
   congr 1
   unfold Fa
   rw [if_neg (by omega),if_neg (by omega),if_pos (by omega)]
   omega
  ·rw [if_neg h2,h.2]
   congr 1
   unfold Fa
   repeat' split
   all_goals omega
theorem YG {xs ys:List Al} {m i j:Nat} (him:i≤m) (hj:j<i) (h:CQ xs ys (Fa (m - i) m j)):∀ t,xs[Bq (m - i) m (m+j) t]?=ys[Bq (m - (i - j)) m (m+j) t]?:=by
 intro t
 rw [h.2]
 congr 1
 unfold Bq Fa
 repeat' split
 all_goals omega
theorem YH {xs ys:List Al} {m i j:Nat} (him:i≤m) (hj:i<j) (h:CQ xs ys (Fa (m - i) (m+j - i) i)):∀ t,xs[Bq (m - i) m (m+j) t]?=ys[Bq (m - i) m (m+(j - i)) t]?:=by
 intro t
 rw [h.2]
 congr 1
 unfold Bq Fa
 repeat' split
 all_goals omega
theorem YF {m i t:Nat} (him:i≤m):Bq (m - i) m (m+i) t=Fa (m - i) m i t:=by
 unfold Bq Fa
 repeat' split
 all_goals omega
theorem aN {xs ys:List Al} {a m b:Nat} (h:CQ xs ys (Bq a m b)) (h1:a≤m) (h2:m≤b) (h3:b≤xs.length):
  ys=xs.take a++((xs.drop m).take (b - m)++((xs.drop a).take (m - a)++xs.drop b)):=by
 apply List.ext_getElem?
 intro t
 rw [h.2]
 unfold Bq
 by_cases c1:t<a
 ·rw [if_neg (by omega),if_neg (by omega),List.getElem?_append_left (by simp;omega),List.getElem?_take,if_pos c1]
 rw [List.getElem?_append_right (by simp;omega)]
 have e1:(xs.take a).length=a:=by simp;omega
 rw [e1]
 by_cases c2:t<a+(b - m)
 ·rw [if_pos (by omega),List.getElem?_append_left (by simp;omega),List.getElem?_take,if_pos (by omega),List.getElem?_drop]
  congr 1
  omega
 rw [List.getElem?_append_right (by simp;omega),if_neg (by omega)]
 have e2:((xs.drop m).take (b - m)).length=b - m:=by simp;omega
 rw [e2]
 by_cases c3:t<b
 ·rw [if_pos (by omega),List.getElem?_append_left (by simp;omega),List.getElem?_take,if_pos (by omega),List.getElem?_drop]
  congr 1
  omega
 rw [List.getElem?_append_right (by simp;omega),if_neg (by omega)]
 have e3:((xs.drop a).take (m - a)).length=m - a:=by simp;omega
 rw [e3,List.getElem?_drop]
 congr 1
 omega
theorem Tf {xs:List Al} {a m b:Nat} (h1:a≤m) (h2:m≤b):xs=xs.take a++((xs.drop a).take (m - a)++((xs.drop m).take (b - m)++xs.drop b)):=by
 have e1:(xs.drop m).take (b - m)++xs.drop b=xs.drop m:=by
  have:=List.take_append_drop (b - m) (xs.drop m)
  rwa [List.drop_drop,show m+(b - m)=b by omega] at this
 have e2:(xs.drop a).take (m - a)++xs.drop m=xs.drop a:=by
  have:=List.take_append_drop (m - a) (xs.drop a)
  rwa [List.drop_drop,show a+(m - a)=m by omega] at this
 rw [e1,e2,List.take_append_drop]
theorem Q0 {xs ys:List Al} {a m b:Nat} (h:CQ xs ys (Bq a m b)) (h1:a≤m) (h2:m≤b) (h3:b≤xs.length)
  (hne:∀ p q x y,a≤p→p<m→m≤q→q<b→xs[p]?=some x→xs[q]?=some y→x.key≠y.key):BZ xs ys:=by
 refine ⟨h.1.symm,fun k=>?_⟩
 rw [aN h h1 h2 h3]
 conv=>lhs;rw [Tf (xs:=xs) h1 h2]
 simp only [List.filter_append]
 congr 1
 rw [←List.append_assoc,←List.append_assoc]
 congr 1
 by_cases hk:∃ x∈(xs.drop a).take (m - a),x.key=k
 ·obtain ⟨x,hx,hxk⟩:=hk
  obtain ⟨p,hp⟩:=List.getElem?_of_mem hx
  have hpl:p<m - a:=by
   have:=(List.getElem?_eq_some_iff.1 hp).1
   simp at this
   omega
  rw [List.getElem?_take,if_pos hpl,List.getElem?_drop] at hp
  have:(((xs.drop m).take (b - m)).filter fun p=>decide (p.key=k))=[]:=by
   rw [List.filter_eq_nil_iff]
   intro y hy
   obtain ⟨q,hq⟩:=List.getElem?_of_mem hy
   have hql:q<b - m:=by
    have:=(List.getElem?_eq_some_iff.1 hq).1
    simp at this
    omega
   rw [List.getElem?_take,if_pos hql,List.getElem?_drop] at hq
   have:=hne (a+p) (m+q) x y (by omega) (by omega) (by omega) (by omega) hp hq
   simp only [decide_eq_true_eq]
   exact fun e=>this (hxk.trans e.symm)
  rw [this,List.append_nil,List.nil_append]
 ·have:(((xs.drop a).take (m - a)).filter fun p=>decide (p.key=k))=[]:=by
   rw [List.filter_eq_nil_iff]
   intro x hx
   simp only [decide_eq_true_eq]
   exact fun e=>hk ⟨x,hx,e⟩
  rw [this,List.append_nil,List.nil_append]
def BS (xs:List Al) (a b:Nat):Prop:=∀ p q x y,a≤p→p<q→q<b→xs[p]?=some x→xs[q]?=some y→Bh y.key x.key=false
def D5 (xs ys:List Al) (a b:Nat):Prop:=ys.length=xs.length∧(∀ t,t<a∨b≤t→ys[t]?=xs[t]?)∧∀ t,a≤t→t<b→∃ u,a≤u∧u<b∧ys[t]?=xs[u]?
theorem D5.refl (xs:List Al) (a b:Nat):D5 xs xs a b:=⟨rfl,fun _ _=>rfl,fun t h1 h2=>⟨t,h1,h2,rfl⟩⟩
theorem D5.trans {xs ys zs:List Al} {a b:Nat} (h1:D5 xs ys a b) (h2:D5 ys zs a b):D5 xs zs a b:=by
 refine ⟨h2.1.trans h1.1,fun t ht=>(h2.2.1 t ht).trans (h1.2.1 t ht),fun t ha hb=>?_⟩
 obtain ⟨u,u1,u2,e⟩:=h2.2.2 t ha hb
 obtain ⟨u',u1',u2',e'⟩:=h1.2.2 u u1 u2
 exact ⟨u',u1',u2',e.trans e'⟩
theorem D5.wider {xs ys:List Al} {a b a' b':Nat} (h:D5 xs ys a b) (ha:a'≤a) (hb:b≤b'):D5 xs ys a' b':=by
 refine ⟨h.1,fun t ht=>h.2.1 t (by omega),fun t h1 h2=>?_⟩
 by_cases c:a≤t∧t<b
 ·obtain ⟨u,u1,u2,e⟩:=h.2.2 t c.1 c.2
  exact ⟨u,by omega,by omega,e⟩
 ·exact ⟨t,h1,h2,h.2.1 t (by omega)⟩
theorem QZ {xs ys:List Al} {a m b:Nat} (h:CQ xs ys (Bq a m b)) (h1:a≤m) (h2:m≤b):D5 xs ys a b:=by
 refine ⟨h.1,fun t ht=>?_,fun t ha hb=>⟨Bq a m b t,?_,?_,h.2 t⟩⟩
 ·rw [h.2,show Bq a m b t=t by unfold Bq;rw [if_neg (by omega),if_neg (by omega)]]
 ·unfold Bq;split<;>(try split)<;>omega
 ·unfold Bq;split<;>(try split)<;>omega
theorem BS.same {xs ys:List Al} {a b:Nat} (h:BS xs a b) (he:∀ t,a≤t→t<b→ys[t]?=xs[t]?):BS ys a b:=
 fun p q x y h1 h2 h3 hx hy=>h p q x y h1 h2 h3 ((he p h1 (by omega)).symm.trans hx) ((he q (by omega) h3).symm.trans hy)
theorem BS.sub {xs:List Al} {a b a' b':Nat} (h:BS xs a b) (ha:a≤a') (hb:b'≤b):BS xs a' b':=
 fun p q x y h1 h2 h3=>h p q x y (by omega) h2 (by omega)
theorem BS.one (xs:List Al) {a b:Nat} (h:b≤a+1):BS xs a b:=fun p q x y h1 h2 h3=>by omega
theorem BS.ord {xs:List Al} (h:BS xs 0 xs.length):CU xs:=by
 unfold CU
 rw [List.pairwise_iff_getElem]
 intro i j hi hj hij
 exact h i j _ _ (by omega) hij hj (List.getElem?_eq_getElem hi) (List.getElem?_eq_getElem hj)
structure CP (xs ys:List Al) (a b:Nat):Prop where
 stab:BZ xs ys
 ins:D5 xs ys a b
 srt:BS ys a b
theorem ZO {xs:List Al} {j:Nat} {x y:Al} (hx:xs[j]?=some x) (hy:xs[j+1]?=some y) (hlt:Bh y.key x.key=true):BZ xs ((xs.set (j+1) x).set j y)∧D5 xs ((xs.set (j+1) x).set j y) j (j+2):=by
 have l1:j+1<xs.length:=(List.getElem?_eq_some_iff.1 hy).1
 have hv:CQ xs ((xs.set (j+1) x).set j y) (Bq j (j+1) (j+2)):=by
  refine ⟨by simp,fun t=>?_⟩
  rw [List.getElem?_set,List.getElem?_set]
  unfold Bq
  by_cases c1:j=t
  ·subst c1
   rw [if_pos rfl,if_pos (by simp;omega),if_pos (by omega),show j+(j+1 - j)=j+1 by omega,hy]
  ·rw [if_neg c1]
   by_cases c2:j+1=t
   ·subst c2
    rw [if_pos rfl,if_pos l1,if_neg (by omega),if_pos (by omega),show j+1 - (j+2 - (j+1))=j by omega,hx]
   ·rw [if_neg c2,if_neg (by omega),if_neg (by omega)]
 refine ⟨Q0 hv (by omega) (by omega) (by omega) fun p q u v h1 h2 h3 h4 hu hw=>?_,QZ hv (by omega) (by omega)⟩
 obtain rfl:p=j:=by omega
 obtain rfl:q=p+1:=by omega
 rw [hx] at hu
 rw [hy] at hw
 obtain rfl:=Option.some.inj hu
 obtain rfl:=Option.some.inj hw
 intro e
 rw [e,Gw] at hlt
 cases hlt
def Gl (xs:List Al) (a b j:Nat):Prop:=∀ p q x y,a≤p→p<q→q<b→q≠j→xs[p]?=some x→xs[q]?=some y→Bh y.key x.key=false
theorem Sy {xs:List Al} {a i:Nat} (h:BS xs a i):Gl xs a (i+1) i:=fun p q x y h1 h2 h3 h4=>h p q x y h1 h2 (by omega)
theorem Sx {xs:List Al} {a b:Nat} (h:Gl xs a b a):BS xs a b:=fun p q x y h1 h2 h3=>h p q x y h1 h2 h3 (by omega)
theorem SB {xs:List Al} {a b j:Nat} {x y:Al} (h:Gl xs a b (j+1)) (ha:a≤j) (hx:xs[j]?=some x) (hy:xs[j+1]?=some y) (hlt:Bh y.key x.key=false):BS xs a b:=by
 intro p q u v h1 h2 h3 hu hv
 by_cases c:q=j+1
 ·subst c
  rw [hy] at hv
  obtain rfl:=Option.some.inj hv
  by_cases c2:p=j
  ·subst c2
   rw [hx] at hu
   obtain rfl:=Option.some.inj hu
   exact hlt
  ·exact Gd (h p j u x h1 (by omega) (by omega) (by omega) hu hx) hlt
 ·exact h p q u v h1 h2 h3 c hu hv
theorem Sz {xs:List Al} {a b j:Nat} {x y:Al} (h:Gl xs a b (j+1)) (ha:a≤j) (hx:xs[j]?=some x) (hy:xs[j+1]?=some y) (hlt:Bh y.key x.key=true) (hb:j+1<b):Gl ((xs.set (j+1) x).set j y) a b j:=by
 have l1:j+1<xs.length:=(List.getElem?_eq_some_iff.1 hy).1
 have g:∀ t u,((xs.set (j+1) x).set j y)[t]?=some u→(t=j∧u=y)∨(t=j+1∧u=x)∨(t≠j∧t≠j+1∧xs[t]?=some u):=by
  intro t u ht
  rw [List.getElem?_set,List.getElem?_set] at ht
  by_cases c1:j=t
  ·rw [if_pos c1,if_pos (by simp;omega)] at ht
   exact .inl ⟨c1.symm,(Option.some.inj ht).symm⟩
  ·rw [if_neg c1] at ht
   by_cases c2:j+1=t
   ·rw [if_pos c2,if_pos l1] at ht
    exact .inr (.inl ⟨c2.symm,(Option.some.inj ht).symm⟩)
   ·rw [if_neg c2] at ht
    exact .inr (.inr ⟨Ne.symm c1,Ne.symm c2,ht⟩)
 intro p q u v h1 h2 h3 h4 hu hv
 rcases g q v hv with ⟨rfl,_⟩|⟨rfl,rfl⟩|⟨q1,q2,hq⟩
 ·exact absurd U h4
 ·rcases g p u hu with ⟨rfl,rfl⟩|⟨rfl,_⟩|⟨p1,p2,hp⟩
  ·exact Jk hlt
  ·omega
  ·exact h p j u v h1 (by omega) (by omega) (by omega) hp hx
 ·rcases g p u hu with ⟨rfl,rfl⟩|⟨rfl,rfl⟩|⟨p1,p2,hp⟩
  ·exact h (p+1) q u v (by omega) (by omega) h3 q2 hy hq
  ·exact h j q u v (by omega) (by omega) h3 q2 hx hq
  ·exact h p q u v h1 h2 h3 q2 hp hq
theorem BS.le {xs:List Al} {a b p q:Nat} {x y:Al} (h:BS xs a b) (h1:a≤p) (h2:p≤q) (h3:q<b) (hx:xs[p]?=some x) (hy:xs[q]?=some y):Bh y.key x.key=false:=by
 rcases Nat.lt_or_ge p q with h'|h'
 ·exact h p q x y h1 h' h3 hx hy
 ·obtain rfl:p=q:=by omega
  rw [hx] at hy
  obtain rfl:=Option.some.inj hy
  exact Gw _
theorem KC {xs ys:List Al} {a m b s mid e:Nat} (hv:CQ xs ys (Bq s m e)) (h1:a≤s) (h2:s≤m) (h3:m≤e) (h4:e≤b) (hmid:mid=s+(e - m)) (hl:BS xs a m) (hr:BS xs m b):
  BS ys a s∧BS ys s mid∧BS ys mid e∧BS ys e b:=by
 subst hmid
 refine ⟨?_,?_,?_,?_⟩
 ·refine (hl.sub (Nat.le_refl _) h2).same fun t ht1 ht2=>?_
  rw [hv.2,show Bq s m e t=t by unfold Bq;rw [if_neg (by omega),if_neg (by omega)]]
 ·intro p q x y p1 p2 p3 hx hy
  rw [hv.2,show Bq s m e p=p+(m - s) by unfold Bq;rw [if_pos (by omega)]] at hx
  rw [hv.2,show Bq s m e q=q+(m - s) by unfold Bq;rw [if_pos (by omega)]] at hy
  exact hr _ _ x y (by omega) (by omega) (by omega) hx hy
 ·intro p q x y p1 p2 p3 hx hy
  rw [hv.2,show Bq s m e p=p - (e - m) by unfold Bq;rw [if_neg (by omega),if_pos (by omega)]] at hx
  rw [hv.2,show Bq s m e q=q - (e - m) by unfold Bq;rw [if_neg (by omega),if_pos (by omega)]] at hy
  exact hl _ _ x y (by omega) (by omega) (by omega) hx hy
 ·refine (hr.sub h3 (Nat.le_refl _)).same fun t ht1 ht2=>?_
  rw [hv.2,show Bq s m e t=t by unfold Bq;rw [if_neg (by omega),if_neg (by omega)]]
theorem CP.refl {xs:List Al} {a b:Nat} (h:BS xs a b):CP xs xs a b:=⟨BZ.refl _,D5.refl _ _ _,h⟩
theorem Hg {xs:List Al} {a s mid:Nat} (h1:BS xs a s) (h2:BS xs s mid) (h:¬ (a<s∧s<mid)) (hs:a≤s):BS xs a mid:=by
 rcases Nat.lt_or_ge a s with c|c
 ·exact h1.sub (Nat.le_refl _) (by omega)
 ·exact h2.sub (by omega) (Nat.le_refl _)
theorem G6 {xs ys zs ws:List Al} {a m b s mid e:Nat} (hv:CQ xs ys (Bq s m e)) (h1:a≤s) (h2:s≤m) (h3:m≤e) (h4:e≤b) (hb:b≤xs.length) (hmid:mid=s+(e - m)) (hl:BS xs a m) (hr:BS xs m b)
  (hlow:s=a∨e=b∨∃ u v,xs[s - 1]?=some u∧xs[e]?=some v∧Bh v.key u.key=false)
  (hup:s=m∨e=m∨∃ u v,xs[e - 1]?=some u∧xs[s]?=some v∧Bh u.key v.key=true)
  (hz:CP ys zs a mid) (hw:CP zs ws mid b):CP xs ws a b:=by
 have hkey:∀ p q x y,s≤p→p<m→m≤q→q<e→xs[p]?=some x→xs[q]?=some y→Bh y.key x.key=true:=by
  intro p q x y p1 p2 q1 q2 hx hy
  rcases hup with c|c|⟨u,v,hu,hv',hlt⟩
  ·omega
  ·omega
  ·exact PH (V6 (hr.le (p:=q) (q:=e - 1) q1 (by omega) (by omega) hy hu) hlt) (hl.le (p:=s) (q:=p) h1 p1 p2 hv' hx)
 have s1:BZ xs ys:=Q0 hv h2 h3 (by omega) fun p q x y p1 p2 q1 q2 hx hy e=>by
  have:=hkey p q x y p1 p2 q1 q2 hx hy
  rw [e,Gw] at this
  cases this
 have i1:D5 xs ys a b:=(QZ hv h2 h3).wider h1 h4
 have hm1:s≤mid:=by omega
 have hm2:mid≤e:=by omega
 refine ⟨s1.trans (hz.stab.trans hw.stab),i1.trans ((hz.ins.wider (Nat.le_refl _) (by omega)).trans (hw.ins.wider (by omega) (Nat.le_refl _))),fun p q x y p1 p2 p3 hx hy=>?_⟩
 rcases Nat.lt_or_ge q mid with c|c
 ·rw [hw.ins.2.1 p (by omega)] at hx
  rw [hw.ins.2.1 q (by omega)] at hy
  exact hz.srt p q x y p1 p2 c hx hy
 rcases Nat.lt_or_ge p mid with c'|c'
 ·rw [hw.ins.2.1 p (by omega)] at hx
  obtain ⟨u,u1,u2,hu⟩:=hz.ins.2.2 p p1 c'
  rw [hx] at hu
  obtain ⟨t,t1,t2,ht⟩:=hw.ins.2.2 q c p3
  rw [hy,hz.ins.2.1 t (by omega)] at ht
  -- the pair at u of ys is x, the pair at t of ys is y
  have hxu:=hv.2 u
  have hyt:=hv.2 t
  rw [←hu] at hxu
  rw [←ht] at hyt
  rcases Nat.lt_or_ge u s with cu|cu
  ·rw [show Bq s m e u=u by unfold Bq;rw [if_neg (by omega),if_neg (by omega)]] at hxu
   rcases Nat.lt_or_ge t e with ct|ct
   ·rw [show Bq s m e t=t - (e - m) by unfold Bq;rw [if_neg (by omega),if_pos (by omega)]] at hyt
    exact hl u _ x y u1 (by omega) (by omega) hxu.symm hyt.symm
   ·rw [show Bq s m e t=t by unfold Bq;rw [if_neg (by omega),if_neg (by omega)]] at hyt
    rcases hlow with d|d|⟨u',v',hu',hv',hlt⟩
    ·omega
    ·omega
    ·exact Gd (hl.le (p:=u) (q:=s - 1) u1 (by omega) (by omega) hxu.symm hu') (Gd hlt (hr.le (p:=e) (q:=t) h3 ct t2 hv' hyt.symm))
  ·rw [show Bq s m e u=u+(m - s) by unfold Bq;rw [if_pos (by omega)]] at hxu
   rcases Nat.lt_or_ge t e with ct|ct
   ·rw [show Bq s m e t=t - (e - m) by unfold Bq;rw [if_neg (by omega),if_pos (by omega)]] at hyt
    exact Jk (hkey _ _ y x (by omega) (by omega) (by omega) (by omega) hyt.symm hxu.symm)
   ·rw [show Bq s m e t=t by unfold Bq;rw [if_neg (by omega),if_neg (by omega)]] at hyt
    exact hr _ t x y (by omega) (by omega) t2 hxu.symm hyt.symm
 ·exact hw.srt p q x y c' p2 p3 hx hy
theorem WA {xs ys:List Al} {a b i:Nat} {x:Al} (hv:CQ xs ys (Bq a (a+1) i)) (h1:a+1≤i) (h2:i≤b) (hb:b≤xs.length) (hr:BS xs (a+1) b) (hx:xs[a]?=some x)
  (hlow:i=a+1∨∃ u,xs[i - 1]?=some u∧Bh u.key x.key=true) (hup:i=b∨∃ u,xs[i]?=some u∧Bh u.key x.key=false):CP xs ys a b:=by
 have hruns:=KC hv (Nat.le_refl a) (by omega) h1 h2 rfl (BS.one xs (Nat.le_refl _)) hr
 have e1:a+(i - (a+1))=i - 1:=by omega
 rw [e1] at hruns
 -- low: nothing stands below a; up: what stands below i is below x
 have hs:CP ys ys a (i - 1):=CP.refl hruns.2.1
 have hyx:ys[i - 1]?=some x:=by rw [hv.2,show Bq a (a+1) i (i - 1)=a by unfold Bq;rw [if_neg (by omega),if_pos (by omega)];omega,hx]
 have hw:CP ys ys (i - 1) b:=by
  refine CP.refl fun p q u v p1 p2 p3 hu hw=>?_
  rcases Nat.lt_or_ge p i with c|c
  ·obtain rfl:p=i - 1:=by omega
   rw [hyx] at hu
   obtain rfl:=Option.some.inj hu
   rw [hv.2,show Bq a (a+1) i q=q by unfold Bq;rw [if_neg (by omega),if_neg (by omega)]] at hw
   rcases hup with d|⟨u',hu',hlt⟩
   ·omega
   ·exact Gd hlt (hr.le (p:=i) (q:=q) h1 (by omega) p3 hu' hw)
  ·exact hruns.2.2.2 p q u v c p2 p3 hu hw
 refine G6 hv (Nat.le_refl _) (by omega) h1 h2 hb e1.symm (BS.one xs (Nat.le_refl _)) hr (.inl U) ?_ hs hw
 rcases hlow with d|⟨u,hu,hlt⟩
 ·exact .inr (.inl d)
 ·exact .inr (.inr ⟨u,x,hu,hx,hlt⟩)
theorem WE {xs ys:List Al} {a m i:Nat} {x:Al} (hv:CQ xs ys (Bq i m (m+1))) (h1:a≤i) (h2:i≤m) (hb:m+1≤xs.length) (hl:BS xs a m) (hx:xs[m]?=some x)
  (hlow:i=a∨∃ u,xs[i - 1]?=some u∧Bh x.key u.key=false) (hup:i=m∨∃ u,xs[i]?=some u∧Bh x.key u.key=true):CP xs ys a (m+1):=by
 have hruns:=KC hv h1 h2 (by omega) (Nat.le_refl _) rfl hl (BS.one xs (by omega))
 have e1:i+(m+1 - m)=i+1:=by omega
 rw [e1] at hruns
 have hyx:ys[i]?=some x:=by rw [hv.2,show Bq i m (m+1) i=m by unfold Bq;rw [if_pos (by omega)];omega,hx]
 have hs:CP ys ys a (i+1):=by
  refine CP.refl fun p q u v p1 p2 p3 hu hw=>?_
  rcases Nat.lt_or_ge q i with c|c
  ·exact hruns.1 p q u v p1 p2 c hu hw
  ·obtain rfl:q=i:=by omega
   rw [hyx] at hw
   obtain rfl:=Option.some.inj hw
   rw [hv.2,show Bq q m (m+1) p=p by unfold Bq;rw [if_neg (by omega),if_neg (by omega)]] at hu
   rcases hlow with d|⟨u',hu',hlt⟩
   ·omega
   ·exact Gd (hl.le (p:=p) (q:=q - 1) p1 (by omega) (by omega) hu hu') hlt
 have hw:CP ys ys (i+1) (m+1):=CP.refl hruns.2.2.1
 refine G6 hv h1 h2 (by omega) (Nat.le_refl _) hb e1.symm hl (BS.one xs (by omega)) (.inr (.inl U)) ?_ hs hw
 rcases hup with d|⟨u,hu,hlt⟩
 ·exact .inl d
 ·exact .inr (.inr ⟨x,u,by rw [show m+1 - 1=m by omega];exact hx,hu,hlt⟩)
theorem Jd (n:Nat):((n:Nat):Int).fdiv (2^(min (1:Int).toNat IntKind.u64.bits))=((n / 2:Nat):Int):=by
 have:(2:Int)^(min (1:Int).toNat IntKind.u64.bits)=2:=by decide
 rw [this,Int.fdiv_eq_ediv_of_nonneg _ (by omega)]
 omega
def F9 (a b:ByteArray):Int:=if Bh a b=true then -1 else if Bh b a=true then 1 else 0
theorem SY {a b:ByteArray} (h:Bh a b=true):F9 a b= -1:=if_pos h
theorem SX {a b:ByteArray} (h:¬ Bh a b=true) (h2:(!(Bh a b||decide (a=b)))=true):F9 a b=1:=by
 unfold F9
 rw [if_neg h,if_pos]
 cases h3:Bh b a with
 |true=>rfl
 |false=>
  have:=Km (by simpa using h) h3
  subst this
  simp at h2
theorem SW {a b:ByteArray} (h:¬ Bh a b=true) (h2:(!(Bh a b||decide (a=b)))=false):F9 a b=0:=by
 have h':Bh a b=false:=by simpa using h
 have:a=b:=by simpa [h'] using h2
 subst this
 unfold F9
 rw [if_neg h,if_neg h]
theorem GT {a b:ByteArray}:F9 a b<0↔Bh a b=true:=by
 unfold F9
 by_cases h:Bh a b=true
 ·simp [h]
 ·rw [if_neg h]
  by_cases h2:Bh b a=true
  ·rw [if_pos h2];simp [h]
  ·rw [if_neg h2];simp [h]
theorem Ia {a b:ByteArray} (h:¬ F9 a b<0):Bh a b=false:=by
 cases h2:Bh a b with
 |false=>rfl
 |true=>exact absurd (GT.2 h2) h
theorem ZP {xs:List Al} {j:Nat} {x y:Al} (hj:0<j) (hx:xs[j - 1]?=some x) (hy:xs[j]?=some y) (hlt:Bh y.key x.key=true):BZ xs ((xs.set j x).set (j - 1) y)∧D5 xs ((xs.set j x).set (j - 1) y) (j - 1) (j+1):=by
 obtain ⟨i,rfl⟩:∃ i,j=i+1:=⟨j - 1,by omega⟩
 exact ZO hx hy hlt
theorem SC {xs:List Al} {a b j:Nat} {x y:Al} (h:Gl xs a b j) (hj:a<j) (hx:xs[j - 1]?=some x) (hy:xs[j]?=some y) (hlt:Bh y.key x.key=false):BS xs a b:=by
 obtain ⟨i,rfl⟩:∃ i,j=i+1:=⟨j - 1,by omega⟩
 exact SB h (by omega) hx hy hlt
theorem SA {xs:List Al} {a b j:Nat} {x y:Al} (h:Gl xs a b j) (hj:a<j) (hx:xs[j - 1]?=some x) (hy:xs[j]?=some y) (hlt:Bh y.key x.key=true) (hb:j<b):Gl ((xs.set j x).set (j - 1) y) a b (j - 1):=by
 obtain ⟨i,rfl⟩:∃ i,j=i+1:=⟨j - 1,by omega⟩
 exact Sz h (by omega) hx hy hlt (by omega)
theorem aR {xs ys:List Al} {a k:Nat} {x y:Al} (hk:a≤k) (h:CQ xs ys (Bq a (a+1) (k+1))) (hx:ys[k]?=some x) (hy:ys[k+1]?=some y):CQ xs ((ys.set k y).set (k+1) x) (Bq a (a+1) (k+1+1)):=by
 have l1:k<ys.length:=(List.getElem?_eq_some_iff.1 hx).1
 have l2:k+1<ys.length:=(List.getElem?_eq_some_iff.1 hy).1
 refine ⟨by simpa using h.1,fun t=>?_⟩
 rw [List.getElem?_set,List.getElem?_set]
 have hx':=h.2 k
 have hy':=h.2 (k+1)
 rw [hx] at hx'
 rw [hy] at hy'
 by_cases c1:k+1=t
 ·subst c1
  rw [if_pos rfl,if_pos (by simpa using l2),hx']
  congr 1
  unfold Bq
  repeat' split
  all_goals omega
 ·rw [if_neg c1]
  by_cases c2:k=t
  ·subst c2
   rw [if_pos rfl,if_pos l1,hy']
   congr 1
   unfold Bq
   repeat' split
   all_goals omega
  ·rw [if_neg c2,h.2]
   congr 1
   unfold Bq
   repeat' split
   all_goals omega
theorem aL {xs ys:List Al} {m k:Nat} {x y:Al} (hk:k≤m) (h0:0<k) (h:CQ xs ys (Bq k m (m+1))) (hx:ys[k]?=some x) (hy:ys[k - 1]?=some y):CQ xs ((ys.set k y).set (k - 1) x) (Bq (k - 1) m (m+1)):=by
 have l1:k<ys.length:=(List.getElem?_eq_some_iff.1 hx).1
 have l2:k - 1<ys.length:=(List.getElem?_eq_some_iff.1 hy).1
 refine ⟨by simpa using h.1,fun t=>?_⟩
 rw [List.getElem?_set,List.getElem?_set]
 have hx':=h.2 k
 have hy':=h.2 (k - 1)
 rw [hx] at hx'
 rw [hy] at hy'
 by_cases c1:k - 1=t
 ·subst c1
  rw [if_pos rfl,if_pos (by simpa using l2),hx']
  congr 1
  unfold Bq
  repeat' split
  all_goals omega
 ·rw [if_neg c1]
  by_cases c2:k=t
  ·subst c2
   rw [if_pos rfl,if_pos l1,hy']
   congr 1
   unfold Bq
   repeat' split
   all_goals omega
  ·rw [if_neg c2,h.2]
   congr 1
   unfold Bq
   repeat' split
   all_goals omega
theorem aO (xs:List Al) (a:Nat):CQ xs xs (Bq a (a+1) (a+1)):=KZ xs fun t=>by
 unfold Bq
 repeat' split
 all_goals omega
theorem aP (xs:List Al) (m:Nat):CQ xs xs (Bq m m (m+1)):=KZ xs fun t=>by
 unfold Bq
 repeat' split
 all_goals omega
theorem KY (xs:List Al) {s m e:Nat} (h:¬ (s<m∧m<e)) (h1:s≤m) (h2:m≤e):CQ xs xs (Bq s m e):=KZ xs fun t=>by
 unfold Bq
 repeat' split
 all_goals omega
theorem aS {xs ys:List Al} {a m k:Nat} {x y:Al} (hm:m=a+1) (hk:a≤k) (h:CQ xs ys (Bq a m (k+1))) (hx:ys[k]?=some x) (hy:ys[k+1]?=some y):CQ xs ((ys.set k y).set (k+1) x) (Bq a m (k+1+1)):=by
 subst hm
 exact aR hk h hx hy
theorem aM {xs ys:List Al} {m b k:Nat} {x y:Al} (hb:b=m+1) (hk:k≤m) (h0:0<k) (h:CQ xs ys (Bq k m b)) (hx:ys[k]?=some x) (hy:ys[k - 1]?=some y):CQ xs ((ys.set k y).set (k - 1) x) (Bq (k - 1) m b):=by
 subst hb
 exact aL hk h0 h hx hy
theorem WB {xs ys:List Al} {a m b i:Nat} {x:Al} (hm:m=a+1) (hv:CQ xs ys (Bq a m i)) (h1:m≤i) (h2:i≤b) (hb:b≤xs.length) (hr:BS xs m b) (hx:xs[a]?=some x)
  (hlow:i=m∨∃ u,xs[i - 1]?=some u∧Bh u.key x.key=true) (hup:i=b∨∃ u,xs[i]?=some u∧Bh u.key x.key=false):CP xs ys a b:=by
 subst hm
 exact WA hv h1 h2 hb hr hx hlow hup
theorem WF {xs ys:List Al} {a m b i:Nat} {x:Al} (hm:b=m+1) (hv:CQ xs ys (Bq i m b)) (h1:a≤i) (h2:i≤m) (hb:b≤xs.length) (hl:BS xs a m) (hx:xs[m]?=some x)
  (hlow:i=a∨∃ u,xs[i - 1]?=some u∧Bh x.key u.key=false) (hup:i=m∨∃ u,xs[i]?=some u∧Bh x.key u.key=true):CP xs ys a b:=by
 subst hm
 exact WE hv h1 h2 hb hl hx hlow hup
def DF (xs:List Al) (lo hi bs:Nat):Prop:=∀ p q x y,lo≤p→p<q→q<hi→p / bs=q / bs→xs[p]?=some x→xs[q]?=some y→Bh y.key x.key=false
theorem Ln {c bs p:Nat} (h1:c*bs≤p) (h2:p<(c+1)*bs):p / bs=c:=Nat.div_eq_of_lt_le h1 h2
theorem DF.at {xs:List Al} {lo hi bs c a b:Nat} (h:DF xs lo hi bs) (ha:a=c*bs) (hlo:lo≤a) (hb:b≤a+bs) (hh:b≤hi):BS xs a b:=by
 intro p q x y p1 p2 p3 hx hy
 refine h p q x y (by omega) p2 (by omega) ?_ hx hy
 have:(c+1)*bs=c*bs+bs:=Nat.succ_mul c bs
 rw [Ln (c:=c) (by omega) (by omega),Ln (c:=c) (by omega) (by omega)]
theorem DF.more {xs ys:List Al} {bs c a b:Nat} (h:DF xs 0 a bs) (ha:a=c*bs) (hb:b≤a+bs) (hi:D5 xs ys a b) (hs:BS ys a b):DF ys 0 b bs:=by
 intro p q x y p1 p2 p3 hd hx hy
 have e1:(c+1)*bs=c*bs+bs:=Nat.succ_mul c bs
 rcases Nat.lt_or_ge p a with c1|c1
 ·rcases Nat.lt_or_ge q a with c2|c2
  ·rw [hi.2.1 p (by omega)] at hx
   rw [hi.2.1 q (by omega)] at hy
   exact h p q x y p1 p2 c2 hd hx hy
  ·exfalso
   have hq:q / bs=c:=Ln (by omega) (by omega)
   have hbs:0<bs:=by omega
   have:p / bs<c:=(Nat.div_lt_iff_lt_mul hbs).2 (by omega)
   omega
 ·exact hs p q x y c1 p2 p3 hx hy
theorem DF.same {xs ys:List Al} {lo hi bs lo':Nat} (h:DF xs lo hi bs) (hl:lo≤lo') (he:∀ t,lo'≤t→ys[t]?=xs[t]?):DF ys lo' hi bs:=by
 intro p q x y p1 p2 p3 hd hx hy
 rw [he p (by omega)] at hx
 rw [he q (by omega)] at hy
 exact h p q x y (by omega) p2 p3 hd hx hy
theorem DF.nil (xs:List Al) (bs:Nat):DF xs 0 0 bs:=fun p q x y p1 p2 p3=>by omega
theorem DF.all {xs:List Al} {n bs:Nat} (h:DF xs 0 n bs) (hn:n≤bs):BS xs 0 n:=by
 intro p q x y p1 p2 p3 hx hy
 refine h p q x y p1 p2 p3 ?_ hx hy
 rw [Nat.div_eq_of_lt (by omega),Nat.div_eq_of_lt (by omega)]
theorem JR {zs:List Al} {a n bs:Nat} (h:DF zs a n bs) (hc:∃ c,a=c*(2*bs)) (hn:a+bs≤n):BS zs a (a+bs)∧∀ b,b≤a+2*bs→b≤n→BS zs (a+bs) b:=by
 obtain ⟨c,rfl⟩:=hc
 have e:c*(2*bs)=(2*c)*bs:=by rw [←Nat.mul_assoc,Nat.mul_comm c 2]
 have e2:(2*c+1)*bs=(2*c)*bs+bs:=Nat.succ_mul _ _
 refine ⟨h.at (c:=2*c) e (Nat.le_refl _) (Nat.le_refl _) hn,fun b h1 h2=>h.at (c:=2*c+1) (by omega) (by omega) (by omega) h2⟩
theorem Sw {zs:List Al} {a n bs:Nat} (h:DF zs a n bs) (hc:∃ c,a=c*(2*bs)) (hn:n≤a+bs):BS zs a n:=by
 obtain ⟨c,rfl⟩:=hc
 exact h.at (c:=2*c) (by rw [←Nat.mul_assoc,Nat.mul_comm c 2]) (Nat.le_refl _) hn (Nat.le_refl _)
theorem Lf {zs ws:List Al} {a b bs:Nat} (h:DF zs 0 a (2*bs)) (hc:∃ c,a=c*(2*bs)) (hb:b≤a+2*bs) (hs:CP zs ws a b):DF ws 0 b (2*bs):=by
 obtain ⟨c,hc⟩:=hc
 exact h.more hc hb hs.ins hs.srt
theorem WJ {a bs:Nat} (hc:∃ c,a=c*(2*bs)):∃ c,a+2*bs=c*(2*bs):=by
 obtain ⟨c,rfl⟩:=hc
 exact ⟨c+1,(Nat.succ_mul c (2*bs)).symm⟩
def IX (xs:List Al) (i:Nat):Prop:=∀ t x y,i≤t→xs[t]?=some x→xs[t+1]?=some y→Bh y.key x.key=false
theorem R8 {xs:List Al} (h:IX xs 0):CU xs:=by
 refine BS.ord ?_
 have key:∀ d p x y,xs[p]?=some x→xs[p+d+1]?=some y→Bh y.key x.key=false:=by
  intro d
  induction d with
  |zero=>intro p x y hx hy;exact h p x y (Nat.zero_le _) hx hy
  |succ d ih=>
   intro p x y hx hy
   have hl:p+d+1<xs.length:=by have:=(List.getElem?_eq_some_iff.1 hy).1;omega
   have hz:=List.getElem?_eq_getElem hl
   exact Gd (ih p x _ hx hz) (h (p+d+1) _ y (Nat.zero_le _) hz hy)
 intro p q x y _ h2 _ hx hy
 exact key (q - p - 1) p x y hx (by rw [show p+(q - p - 1)+1=q by omega];exact hy)
theorem Xk {xs:List Al} {j:Nat} {x y:Al} (ho:CU xs) (hj:0<j) (hx:xs[j]?=some x) (hy:xs[j - 1]?=some y):Bh x.key y.key=false:=by
 unfold CU at ho
 rw [List.pairwise_iff_getElem] at ho
 have l1:=List.getElem?_eq_some_iff.1 hx
 have l2:=List.getElem?_eq_some_iff.1 hy
 have:=ho (j - 1) j l2.1 l1.1 (by omega)
 rwa [l1.2,l2.2] at this
theorem R7 {xs:List Al} {j:Nat} {x y:Al} (h:IX xs j) (hj:0<j) (hx:xs[j]?=some x) (hy:xs[j - 1]?=some y) (hlt:Bh x.key y.key=false):IX xs (j - 1):=by
 intro t u v ht hu hv
 rcases Nat.lt_or_ge t j with c|c
 ·obtain rfl:t=j - 1:=by omega
  rw [hy] at hu
  rw [show j - 1+1=j by omega,hx] at hv
  obtain rfl:=Option.some.inj hu
  obtain rfl:=Option.some.inj hv
  exact hlt
 ·exact h t u v c hu hv
theorem R6 (xs:List Al):IX xs (xs.length - 1):=fun t x y ht hx hy=>by
 have:=(List.getElem?_eq_some_iff.1 hy).1
 omega
def BR (ps:List Al) (k:ByteArray):List ByteArray:=(ps.filter fun p=>decide (p.key=k)).map (·.val)
def Gm (ks:List ByteArray):Prop:=ks.Pairwise fun a b=>Bh a b=true
theorem QY:∀ {xs ys:List ByteArray},Gm xs→Gm ys→(∀ x,x∈xs↔x∈ys)→xs=ys
 |[],[],_,_,_=>rfl
 |[],y::ys,_,_,h=>by have:=(h y).2 (List.mem_cons_self ..);cases this
 |x::xs,[],_,_,h=>by have:=(h x).1 (List.mem_cons_self ..);cases this
 |x::xs,y::ys,hx,hy,h=>by
  have hx':=List.pairwise_cons.1 hx
  have hy':=List.pairwise_cons.1 hy
  have irr:∀ a b:ByteArray,Bh a b=true→Bh b a=true→False:=fun a b h1 h2=>by
   rw [Jk h1] at h2
   cases h2
  have irr1:∀ a:ByteArray,Bh a a=true→False:=fun a h1=>by rw [Gw] at h1;cases h1
  have e:x=y:=by
   rcases List.mem_cons.1 ((h x).1 (List.mem_cons_self ..)) with e|h1
   ·exact e
   ·rcases List.mem_cons.1 ((h y).2 (List.mem_cons_self ..)) with e|h2
    ·exact e.symm
    ·exact (irr _ _ (hx'.1 y h2) (hy'.1 x h1)).elim
  subst e
  rw [QY hx'.2 hy'.2]
  intro z
  constructor
  ·intro hz
   rcases List.mem_cons.1 ((h z).1 (List.mem_cons_of_mem _ hz)) with e|h1
   ·exact (irr1 _ (e▸hx'.1 z hz)).elim
   ·exact h1
  ·intro hz
   rcases List.mem_cons.1 ((h z).2 (List.mem_cons_of_mem _ hz)) with e|h1
   ·exact (irr1 _ (e▸hy'.1 z hz)).elim
   ·exact h1
def Gv (x:ByteArray):List ByteArray→List ByteArray
 |[]=>[x]
 |k::ks=>if Bh k x=true then k::Gv x ks else if k=x then k::ks else x::k::ks
def IE:List ByteArray→List ByteArray→List ByteArray
 |out,[]=>out
 |out,x::xs=>IE (Gv x out) xs
theorem LS {x y:ByteArray}:∀ {ks:List ByteArray},y∈Gv x ks↔y=x∨y∈ks
 |[]=>by simp [Gv]
 |k::ks=>by
  unfold Gv
  split
  ·rw [List.mem_cons,LS,List.mem_cons]
   constructor<;>(rintro (h|h|h)<;>simp [h])
  ·split
   ·rename_i h
    subst h
    simp
   ·simp
theorem OR {x:ByteArray}:∀ {ks:List ByteArray},Gm ks→Gm (Gv x ks)
 |[],_=>by simp [Gv,Gm]
 |k::ks,h=>by
  have h':=List.pairwise_cons.1 h
  unfold Gv
  split
  ·rename_i hlt
   refine List.pairwise_cons.2 ⟨fun y hy=>?_,OR h'.2⟩
   rcases LS.1 hy with rfl|hy
   ·exact hlt
   ·exact h'.1 y hy
  ·rename_i hlt
   split
   ·exact h
   ·rename_i hne
    have hxk:Bh x k=true:=by
     cases hc:Bh x k with
     |true=>rfl
     |false=>exact absurd (Km (by simpa using hlt) hc) hne
    refine List.pairwise_cons.2 ⟨fun y hy=>?_,h⟩
    rcases List.mem_cons.1 hy with rfl|hy
    ·exact hxk
    ·exact Mc hxk (h'.1 y hy)
theorem QR:∀ (xs out:List ByteArray),Gm out→Gm (IE out xs)∧∀ y,y∈IE out xs↔y∈out∨y∈xs
 |[],out,h=>⟨h,fun y=>by simp [IE]⟩
 |x::xs,out,h=>by
  have:=QR xs (Gv x out) (OR h)
  refine ⟨this.1,fun y=>?_⟩
  rw [IE,this.2,LS,List.mem_cons]
  constructor
  ·rintro ((h|h)|h)<;>simp [h]
  ·rintro (h|h|h)<;>simp [h]
theorem NX {α:Type} [Inhabited α] [DecidableEq α] (xs:List α) (x:α):x∈Lib.compact xs↔x∈xs:=by
 unfold Lib.compact Lib.compactUpTo
 simp only [List.mem_map,List.mem_filter,List.mem_range]
 constructor
 ·rintro ⟨i,⟨hi,_⟩,rfl⟩
  simp only [List.getElem!_toArray]
  rw [getElem!_pos xs i hi]
  exact List.getElem_mem hi
 ·intro hx
  have key:∀ (n i:Nat),i≤n→xs[i]?=some x→∃ j,(j<xs.length∧Lib.keeps xs.toArray j=true)∧xs.toArray[j]! =x:=by
   intro n
   induction n with
   |zero=>
    intro i hi he
    obtain rfl:i=0:=by omega
    have hl:=(List.getElem?_eq_some_iff.1 he).1
    refine ⟨0,⟨hl,by simp [Lib.keeps]⟩,?_⟩
    simp only [List.getElem!_toArray]
    rw [getElem!_pos xs 0 hl]
    exact (List.getElem?_eq_some_iff.1 he).2
   |succ n ih=>
    intro i hi he
    have hl:=(List.getElem?_eq_some_iff.1 he).1
    have hv:xs.toArray[i]! =x:=by
     simp only [List.getElem!_toArray]
     rw [getElem!_pos xs i hl]
     exact (List.getElem?_eq_some_iff.1 he).2
    by_cases hk:Lib.keeps xs.toArray i=true
    ·exact ⟨i,⟨hl,hk⟩,hv⟩
    ·have:¬ (i=0∨xs.toArray[i]! ≠xs.toArray[i - 1]!):=by simpa [Lib.keeps] using hk
     have h0:i≠0:=fun e=>this (.inl e)
     have he2:xs.toArray[i]! =xs.toArray[i - 1]! :=Classical.not_not.1 fun e=>this (.inr e)
     refine ih (i - 1) (by omega) ?_
     rw [List.getElem?_eq_getElem (by omega),←hv,he2]
     simp only [List.getElem!_toArray]
     rw [getElem!_pos xs (i - 1) (by omega)]
  obtain ⟨i,hi⟩:=List.getElem?_of_mem hx
  exact key i i (Nat.le_refl _) hi
theorem S_ {α:Type} [Inhabited α] [DecidableEq α] {R:α→α→Prop} {xs:List α} (anti:∀ a b,R a b→R b a→a=b) (refl:∀ a,R a a) (h:xs.Pairwise R):(Lib.compact xs).Pairwise fun a b=>R a b∧a≠b:=by
 unfold Lib.compact Lib.compactUpTo
 rw [List.pairwise_map]
 have h1:((List.range xs.length).filter (Lib.keeps xs.toArray)).Pairwise (·<·):=List.Pairwise.filter _ List.pairwise_lt_range
 refine (List.Pairwise.and_mem.1 h1).imp ?_
 rintro i j ⟨hi,hj,hij⟩
 have hj':=List.mem_filter.1 hj
 have hjl:j<xs.length:=List.mem_range.1 hj'.1
 have hk:j=0∨xs.toArray[j]! ≠xs.toArray[j - 1]! :=by simpa [Lib.keeps] using hj'.2
 simp only [List.getElem!_toArray] at hk ⊢
 rw [getElem!_pos xs i (by omega),getElem!_pos xs j hjl]
 rw [getElem!_pos xs j hjl,getElem!_pos xs (j - 1) (by omega)] at hk
 rw [List.pairwise_iff_getElem] at h
 refine ⟨h i j (by omega) hjl hij,fun e=>?_⟩
 have hne:xs[j]≠xs[j - 1]:=hk.resolve_left (by omega)
 rcases Nat.lt_or_ge i (j - 1) with c|c
 ·have a1:=h i (j - 1) (by omega) (by omega) c
  have a2:=h (j - 1) j (by omega) hjl (by omega)
  rw [e] at a1
  exact hne (anti _ _ a1 a2)
 ·have:i=j - 1:=by omega
  subst this
  exact hne e.symm
def Dm (ps:List Al):List ByteArray:=Ff (EZ (ps.map (·.key)))
theorem NV (xs:List ByteArray):Ff (EZ xs)=(Lib.compact ((xs.map En).mergeSort fun x y=>decide (x≤y))).map E0:=by
 unfold Ff EZ
 rw [List.map_map,show En∘E0=id from funext Mp,List.map_id]
theorem S8 (xs:List ByteArray) (x:ByteArray):x∈Ff (EZ xs)↔x∈xs:=by
 rw [NV,List.mem_map]
 constructor
 ·rintro ⟨z,hz,rfl⟩
  rw [NX,List.mem_mergeSort,List.mem_map] at hz
  obtain ⟨y,hy,rfl⟩:=hz
  rwa [RC]
 ·intro hx
  exact ⟨En x,by rw [NX,List.mem_mergeSort];exact List.mem_map_of_mem hx,RC x⟩
theorem S9 (xs:List ByteArray):Gm (Ff (EZ xs)):=by
 rw [NV]
 unfold Gm
 rw [List.pairwise_map]
 have h1:=List.pairwise_mergeSort (le:=fun x y:List UInt8=>decide (x≤y)) (fun a b c h1 h2=>by simp only [decide_eq_true_eq] at *;exact List.le_trans h1 h2) (fun a b=>by simp only [Bool.or_eq_true,decide_eq_true_eq];exact List.le_total a b) (xs.map En)
 have h2:=S_ (R:=fun x y:List UInt8=>x≤y) (fun a b=>List.le_antisymm) (fun a=>List.le_refl a) (h1.imp fun h=>by simpa using h)
 refine h2.imp ?_
 rintro a b ⟨hab,hne⟩
 cases hc:Bh (E0 a) (E0 b) with
 |true=>rfl
 |false=>
  exfalso
  rw [Kn] at hc
  have hc:=of_decide_eq_false hc
  have e1:(E0 a).data.toList=a:=Mp a
  have e2:(E0 b).data.toList=b:=Mp b
  rw [e1,e2] at hc
  exact hne (List.le_antisymm hab hc)
theorem UV (ps:List Al):Dm ps=IE [] (ps.map (·.key)):=by
 have h:=QR (ps.map (·.key)) [] List.Pairwise.nil
 refine QY (S9 _) h.1 fun x=>?_
 unfold Dm
 rw [S8,h.2]
 simp
theorem ZJ {xs ys:List Al} (h:∀ k:ByteArray,xs.filter (fun p=>decide (p.key=k))=ys.filter (fun p=>decide (p.key=k))):BZ xs ys:=by
 refine ⟨List.Perm.length_eq (List.perm_iff_count.2 fun p=>?_),h⟩
 have e:∀ l:List Al,l.count p=(l.filter fun q=>decide (q.key=p.key)).count p:=fun l=>(List.count_filter (by simp)).symm
 rw [e xs,e ys,h]
def Fj (xs:List Al) (n:Int):Bool:=decide (¬ ((xs.length:Int)≤n∧∀ p∈xs,p.key.size≤100∧p.val.size≤100))
theorem OL {xs:List Al} {n:Int} {k:Nat} {x:Al} (hx:xs[k]?=some x) (h:100<x.key.size∨100<x.val.size):true=Fj xs n:=by
 have h3:¬ ((xs.length:Int)≤n∧∀ p∈xs,p.key.size≤100∧p.val.size≤100):=fun h2=>absurd (h2.2 x (List.mem_of_getElem? hx)) (by omega)
 exact (decide_eq_true h3).symm
theorem OK {xs:List Al} {n:Int} {k:Nat} (hn:∀ y∈xs.take k,y.key.size≤100∧y.val.size≤100) (h:xs.length≤k∨n<(xs.length:Int)):decide (n<(xs.length:Int))=Fj xs n:=by
 refine decide_eq_decide.2 ⟨fun h1 h2=>by omega,fun h1=>?_⟩
 apply Classical.byContradiction
 intro h2
 refine h1 ⟨by omega,?_⟩
 rwa [List.take_of_length_le (by omega)] at hn
theorem W7 (ps:List Al) (k:ByteArray):(BR ps k).length≤ps.length:=by
 unfold BR
 rw [List.length_map]
 exact List.length_filter_le _ _
theorem Xb {xs:List Al} {key:ByteArray} {k:Nat} {x:Al} (hx:xs[k]?=some x) (h:x.key=key):BR (xs.take (k+1)) key=BR (xs.take k) key++[x.val]:=by
 unfold BR
 rw [List.take_add_one,hx]
 simp [h]
theorem Xa {xs:List Al} {key:ByteArray} {k:Nat} {x:Al} (hx:xs[k]?=some x) (h:¬ x.key=key):BR (xs.take (k+1)) key=BR (xs.take k) key:=by
 unfold BR
 rw [List.take_add_one,hx]
 simp [h]
theorem UT {xs:List Al} {k:Nat} {x:Al} (hx:xs[k]?=some x):(xs.take (k+1)).map (·.key)=(xs.take k).map (·.key)++[x.key]:=by
 rw [List.take_add_one,hx]
 simp
theorem MT (xs:List ByteArray):(EZ xs).length=xs.length:=by simp [EZ]
theorem S6 (xs:List ByteArray):(Ff xs).length≤xs.length:=by
 have:=NW (xs.map En)
 simpa [Ff] using this
theorem UU (ps:List Al):(Dm ps).length≤ps.length:=by
 unfold Dm
 have:=S6 (EZ (ps.map (·.key)))
 rw [MT,List.length_map] at this
 exact this
def C9 (p:Al):Prop:=p.key.size≤16∧p.val.size≤64
instance (p:Al):Decidable (C9 p):=by unfold C9;infer_instance
def G5 (xs:List Al):Prop:=∀ p∈xs,C9 p
instance (xs:List Al):Decidable (G5 xs):=by unfold G5;infer_instance
theorem Wx (xs:List Al):(!(xs.any fun p=>!decide (C9 p)))=decide (G5 xs):=by
 rw [Bool.eq_iff_iff,decide_eq_true_iff]
 unfold G5
 simp
theorem JW {α:Type} {l:List α} {x:α} (h:l[0]?=some x):l=x::l.drop 1:=by
 cases l with
 |nil=>simp at h
 |cons y l=>simp at h;subst h;rfl
theorem Wy {al bl:List Al} {x y:Al} (hx:al[0]?=some x) (hy:bl[0]?=some y) (ha:CU al) (hb:CU bl) (h:¬ Bh y.key x.key=true):srt (al++bl)=x::srt (al.drop 1++bl):=by
 have h':Bh y.key x.key=false:=by simpa using h
 have ea:=JW hx
 have eb:=JW hy
 rw [ea] at ha
 rw [eb] at hb
 obtain ⟨ha1,ha2⟩:=List.pairwise_cons.1 ha
 obtain ⟨hb1,hb2⟩:=List.pairwise_cons.1 hb
 refine (JA ?_ ?_).symm
 ·have:BZ (x::(al.drop 1++bl)) (x::srt (al.drop 1++bl)):=BZ.append (a:=[x]) (b:=[x]) (BZ.refl _) (Gg _)
  rwa [←List.cons_append,←ea] at this
 ·refine List.pairwise_cons.2 ⟨fun q hq=>?_,JB _⟩
  have hq':=(Gg (al.drop 1++bl)).symm.mem hq
  rcases List.mem_append.1 hq' with h1|h1
  ·exact ha1 q h1
  ·rw [eb] at h1
   rcases List.mem_cons.1 h1 with rfl|h2
   ·exact h'
   ·exact Gd h' (hb1 q h2)
theorem Wz {al bl:List Al} {x y:Al} (hx:al[0]?=some x) (hy:bl[0]?=some y) (ha:CU al) (hb:CU bl) (h:Bh y.key x.key=true):srt (al++bl)=y::srt (al++bl.drop 1):=by
 have ea:=JW hx
 have eb:=JW hy
 have ha0:=ha
 rw [ea] at ha0
 rw [eb] at hb
 obtain ⟨ha1,ha2⟩:=List.pairwise_cons.1 ha0
 obtain ⟨hb1,hb2⟩:=List.pairwise_cons.1 hb
 have hal:∀ q∈al,Bh y.key q.key=true:=by
  intro q hq
  rw [ea] at hq
  rcases List.mem_cons.1 hq with rfl|h2
  ·exact h
  ·exact PH h (ha1 q h2)
 refine (JA ?_ ?_).symm
 ·have h1:BZ (al++bl) (y::(al++bl.drop 1)):=by
   refine ZJ fun k=>?_
   rw [eb,List.drop_succ_cons,List.drop_zero,List.filter_append,List.filter_cons,List.filter_cons,List.filter_append]
   by_cases hk:y.key=k
   ·have:al.filter (fun p=>decide (p.key=k))=[]:=List.filter_eq_nil_iff.2 fun q hq=>by
     have:=hal q hq
     rw [hk] at this
     simp only [decide_eq_true_eq]
     intro e
     rw [e,Gw] at this
     cases this
    simp [this,hk]
   ·simp [hk]
  exact h1.trans (BZ.append (a:=[y]) (b:=[y]) (BZ.refl _) (Gg _))
 ·refine List.pairwise_cons.2 ⟨fun q hq=>?_,JB _⟩
  have hq':=(Gg (al++bl.drop 1)).symm.mem hq
  rcases List.mem_append.1 hq' with h1|h1
  ·exact Jk (hal q h1)
  ·exact hb1 q h1
theorem PQ {al bl:List Al} (ha:CU al) (hb:CU bl) (h:al.length=0∨bl.length=0):srt (al++bl)=al++bl:=by
 rcases h with h|h
 ·rw [List.eq_nil_of_length_eq_zero h];exact Ru hb
 ·rw [List.eq_nil_of_length_eq_zero h,List.append_nil];exact Ru ha
theorem P8 {al:List Al} (ha:CU al) (k:Nat):CU (al.drop k):=List.Pairwise.sublist (List.drop_sublist k al) ha
def BK (us:List (Value×List Al)):List Al:=us.flatMap (·.2)
theorem Ig {us:List (Value×List Al)} {k:Nat} {u:Value} {x:List Al} (hx:us[k]?=some (u,x)):BK (us.take (k+1))=BK (us.take k)++x:=by
 unfold BK
 rw [Fr hx,List.flatMap_append]
 simp
theorem Oo (a b:List (Value×List Al)):BK (a++b)=BK a++BK b:=by simp [BK]
theorem GW (us:List (Value×List Al)) (k:Nat):(BK (us.take k)).length≤(BK us).length:=by
 have:(BK us).length=(BK (us.take k)).length+(BK (us.drop k)).length:=by rw [←List.length_append,←Oo,List.take_append_drop]
 omega
theorem Oq (us:List (Value×List Al)) (k:Nat):(BK (us.drop k)).length≤(BK us).length:=by
 have:(BK us).length=(BK (us.take k)).length+(BK (us.drop k)).length:=by rw [←List.length_append,←Oo,List.take_append_drop]
 omega
theorem Zx (a b:List Al):srt (srt a++b)=srt (a++b):=Zy (BZ.append (Gg a).symm (BZ.refl b))
theorem B6 {α:Type} {xs:List α} {k:Nat} {x:α} (h:xs[k]?=some x):x∈xs:=List.mem_of_getElem? h
structure EJ where
 A:Option Addr
 n:Nat
 c:Nat
def I7 (h:EJ):List Value:=[.slice h.A h.n h.c]
def Dq:Kd EJ:=flat I7 1 (by omega) (fun _=>rfl) (fun _ c h=>by simp [I7] at h;subst h;rfl)
def FB:Value→EJ
 |.slice A n c=>⟨A,n,c⟩
 |_=>⟨none,0,0⟩
section
variable {w w0:World} {F F0:AN} {As Rs:List SP} {α:Type} {d:Kd α}
theorem ON:∀ {us:List (Value×List α)} {cs:List Value},AZ (Ak d) w F us cs→∀ p∈us,(Aa d p.1 p.2).P w F
 |[],_,_,p,hp=>by cases hp
 |q::us,_,⟨c,cs',e,h1,h2⟩,p,hp=>by
  cases hp with
  |head=>exact h1.2
  |tail _ hm=>exact ON h2 p hm
end
/-! ### Parts -/
def Eh (key:ByteArray):Nat→Int
 |0=>7
 |k+1=>IntKind.u32.wrap (IntKind.u32.wrap (31*Eh key k)+((key[k]?.getD 0).toNat:Int))
theorem bA (x:Int):0≤IntKind.u32.wrap x∧IntKind.u32.wrap x<4294967296:=by
 simp only [IntKind.wrap,IntKind.bits,IntKind.signed]
 simp
 omega
theorem Mo (key:ByteArray) (k:Nat):0≤Eh key k∧Eh key k<4294967296:=by
 cases k with
 |zero=>exact ⟨by simp [Eh],by simp [Eh]⟩
 |succ k=>exact bA _
def Kv (key:ByteArray) (n:Int):Int:=if n<1 then -1 else Eh key key.size%n
def E8 (xs:List Al) (n p:Int):List Al:=xs.filter fun x=>decide (Kv x.key n=p)
theorem Xe {xs:List Al} {n p:Int} {k:Nat} {x:Al} (hx:xs[k]?=some x) (h:Kv x.key n=p):E8 (xs.take (k+1)) n p=E8 (xs.take k) n p++[x]:=by
 unfold E8
 rw [Fr hx,List.filter_append]
 simp [h]
theorem Xd {xs:List Al} {n p:Int} {k:Nat} {x:Al} (hx:xs[k]?=some x) (h:¬ Kv x.key n=p):E8 (xs.take (k+1)) n p=E8 (xs.take k) n p:=by
 unfold E8
 rw [Fr hx,List.filter_append]
 simp [h]
theorem P6 (xs:List Al) (n p:Int):(E8 xs n p).length≤xs.length:=List.length_filter_le ..
theorem W0 {key:ByteArray} {k:Nat} {b:UInt8} (hb:key[k]?=some b):Eh key (k+1)=IntKind.u32.wrap (IntKind.u32.wrap (31*Eh key k)+(b.toNat:Int)):=by
 rw [Eh,hb]
 rfl
theorem bD (b:UInt8):IntKind.u32.wrap (b.toNat:Int)=(b.toNat:Int):=by
 have:=UInt8.toNat_lt b
 simp only [IntKind.wrap,IntKind.bits,IntKind.signed]
 simp
 omega
theorem NC {xs:List BG} (h:xs.length≤40):Du xs<0↔∀ p∈xs,BL p xs.length:=by
 have e:xs.take 40=xs:=List.take_of_length_le h
 have h2:=J1 (EB xs.length) xs
 unfold Du
 rw [e]
 constructor
 ·intro hb p hp
  apply Classical.byContradiction
  intro hg
  have h3:xs.any (EB xs.length)=true:=List.any_eq_true.2 ⟨p,hp,by simp [EB,hg]⟩
  rw [h3] at h2
  rw [if_pos (of_decide_eq_true h2)] at hb
  have:=of_decide_eq_true h2
  omega
 ·intro hg
  have h3:xs.any (EB xs.length)=false:=List.any_eq_false.2 (fun p hp=>by simp [EB,hg p hp])
  rw [h3] at h2
  rw [if_neg (of_decide_eq_false h2),if_neg (by omega)]
  omega
theorem JD {α:Type} {Q:α→Prop} {xs:List α} {k:Nat} {x:α} (hn:∀ y∈xs.take k,Q y) (hx:xs[k]?=some x) (h:Q x):∀ y∈xs.take (k+1),Q y:=by
 intro y hy
 rw [List.take_add_one,hx] at hy
 rcases List.mem_append.1 hy with hy|hy
 ·exact hn y hy
 ·obtain rfl:y=x:=by simpa using hy
  exact h
structure AX where
 kind:Int
 part:Int
 sp:Int
 att:Int
 why:Int
 sv:Value
 set:List Int
 pv:Value
 pairs:List Al
def GV (r:AX):List Value:=[.int .i64 r.kind,.int .i64 r.part,.int .i64 r.sp,.int .i64 r.att,.int .i64 r.why,r.sv,r.pv]
def Bp:Kd AX where
 sz:=7
 O w F x cs:=cs=GV x∧∃ F1 F2:AN,(∀ k,F1 k→F k)∧(∀ k,F2 k→F k)∧(∀ k,F1 k→¬ F2 k)∧(BB (Ai .i64)).O w F1 x.set [x.sv]∧(BB Ag).O w F2 x.pairs [x.pv]
 R w F x cs:=cs=GV x∧(BB (Ai .i64)).R w F x.set [x.sv]∧(BB Ag).R w F x.pairs [x.pv]
 O_loc:=fun ⟨e,F1,F2,s1,s2,dj,h1,h2⟩ hk=>⟨e,F1,F2,s1,s2,dj,(BB _).O_loc h1 (fun k x=>hk k (s1 k x)),(BB _).O_loc h2 (fun k x=>hk k (s2 k x))⟩
 O_mono:=fun ⟨e,F1,F2,s1,s2,dj,h1,h2⟩ hk=>⟨e,F1,F2,fun k x=>hk k (s1 k x),fun k x=>hk k (s2 k x),dj,h1,h2⟩
 R_loc:=fun ⟨e,h1,h2⟩ hk=>⟨e,(BB _).R_loc h1 hk,(BB _).R_loc h2 hk⟩
 R_mono:=fun ⟨e,h1,h2⟩ hk=>⟨e,(BB _).R_mono h1 hk,(BB _).R_mono h2 hk⟩
 O_R:=fun ⟨e,F1,F2,s1,s2,dj,h1,h2⟩=>⟨e,(BB _).R_mono ((BB _).O_R h1) s1,(BB _).R_mono ((BB _).O_R h2) s2⟩
 len h:=by rw [h.1];rfl
 one:=fun ⟨e,h1,h2⟩ c hc=>by
  have g1:=(BB _).one h1
  have g2:=(BB _).one h2
  subst e
  simp only [GV,List.mem_cons,List.not_mem_nil,or_false] at hc
  rcases hc with rfl|rfl|rfl|rfl|rfl|rfl|rfl
  ·rfl
  ·rfl
  ·rfl
  ·rfl
  ·rfl
  ·exact g1 _ (List.mem_cons_self ..)
  ·exact g2 _ (List.mem_cons_self ..)
 pos:=by omega
structure DW where
 kind:Int
 part:Int
 sp:Int
 att:Int
 why:Int
 hs:EJ
 hp:EJ
def FK (r:DW):List Value:=[.int .i64 r.kind,.int .i64 r.part,.int .i64 r.sp,.int .i64 r.att,.int .i64 r.why,.slice r.hs.A r.hs.n r.hs.c,.slice r.hp.A r.hp.n r.hp.c]
def ES:Kd DW:=flat FK 7 (by omega) (fun _=>rfl) (fun _ c h=>by
 simp only [FK,List.mem_cons,List.not_mem_nil,or_false] at h
 rcases h with rfl|rfl|rfl|rfl|rfl|rfl|rfl<;>rfl)
def Eu (r:AX):DW:=⟨r.kind,r.part,r.sp,r.att,r.why,FB r.sv,FB r.pv⟩
section
variable {w w0:World} {F F0:AN} {As Rs:List SP} {A:Option Addr} {m c:Nat}
theorem KB {us:List AX} (h:(Aa Bp (.slice A m c) us).P w F) {i:Nat} {x:AX} (hx:us[i]?=some x):
  Fw A∧(∀ q u,(GV x)[q]?=some u→w.cell? ⟨Ef A,AT A+i*7+q,none⟩=some u)∧(Aa (Ai .i64) x.sv x.set).P w F∧(Aa Ag x.pv x.pairs).P w F:=by
 obtain ⟨b,off,cs,e,hl,hc,h1,h2,h3⟩:=Jy h hx
 subst h1 e
 exact ⟨rfl,hc,h2,h3⟩
theorem Jx {us:List AX} (h:(Aa Bp (.slice A m c) us).P w F) {i:Nat} {a1 a2 a3 a4 a5:Int} {sv pv:Value} {set:List Int} {pairs:List Al} (hx:us[i]?=some ⟨a1,a2,a3,a4,a5,sv,set,pv,pairs⟩):(Aa (Ai .i64) sv set).P w F:=(KB h hx).2.2.1
theorem QJ {us:List AX} (h:(Aa Bp (.slice A m c) us).P w F) {i:Nat} {a1 a2 a3 a4 a5:Int} {sv pv:Value} {set:List Int} {pairs:List Al} (hx:us[i]?=some ⟨a1,a2,a3,a4,a5,sv,set,pv,pairs⟩):(Aa Ag pv pairs).P w F:=(KB h hx).2.2.2
theorem Hd.thRr {us:List AX} (H:Hd w0 F0 w As Rs) (j:Nat) (hj:Rs[j]?=some (Aa Bp (.slice A m c) us)) {i:Nat} {x:AX} (hx:us[i]?=some x):Fw A:=H.factR (List.mem_of_getElem? hj) fun _ h=>(KB h hx).1
theorem Hd.nestRr {us:List AX} (H:Hd w0 F0 w As Rs) (j:Nat) (hj:Rs[j]?=some (Aa Bp (.slice A m c) us)) {i:Nat} {a1 a2 a3 a4 a5:Int} {sv pv:Value} {set:List Int} {pairs:List Al} (hx:us[i]?=some ⟨a1,a2,a3,a4,a5,sv,set,pv,pairs⟩):
  ∃ A1 c1 A2 c2,sv=.slice A1 set.length c1∧pv=.slice A2 pairs.length c2∧set.length≤c1∧c1≤9223372036854775807∧pairs.length≤c2∧c2≤9223372036854775807:=by
 refine H.factR (List.mem_of_getElem? hj) fun _ h=>?_
 obtain ⟨A1,c1,e1,g1,g2,_⟩:=Er (Jx h hx)
 obtain ⟨A2,c2,e2,g3,g4,_⟩:=Er (QJ h hx)
 exact ⟨A1,c1,A2,c2,e1,e2,g1,g2,g3,g4⟩
theorem QV:∀ {us:List AX} {cs:List Value},AZ Bp w F us cs→AZ ES w F (us.map Eu) cs
 |[],_,h=>h
 |x::us,_,⟨c,cs',e,⟨h1,h2,h3⟩,h4⟩=>by
  obtain ⟨A1,c1,e1,_⟩:=Er (d:=Ai .i64) (w:=w) (F:=F) h2
  obtain ⟨A2,c2,e2,_⟩:=Er (d:=Ag) (w:=w) (F:=F) h3
  exact ⟨c,cs',e,show c=FK (Eu x) by rw [h1];simp [GV,FK,Eu,FB,e1,e2],QV h4⟩
theorem Yu {v:Value} {us:List AX} (h:(Aa Bp v us).P w F):(Aa ES v (us.map Eu)).P w F:=by
 obtain ⟨A',n',c',e,h1,h2,h3,cs,h4,h5⟩:=h
 exact ⟨A',n',c',e,by rw [List.length_map,h1],h2,h3,cs,h4,QV h5⟩
theorem Hd.recs {v:Value} {us:List AX} (H:Hd w0 F0 w As Rs) (j:Nat) (hj:Rs[j]?=some (Aa Bp v us)):∃ fs:List DW,fs.length=us.length∧Hd w0 F0 w As (Aa ES v fs::Rs):=
 ⟨us.map Eu,List.length_map ..,H.addR fun _ h=>Yu (h _ (List.mem_of_getElem? hj))⟩
theorem Hd.elsRr {us:List AX} (H:Hd w0 F0 w As Rs) (j:Nat) (hj:Rs[j]?=some (Aa Bp (.slice A m c) us)) {i:Nat} {x:AX} (hx:us[i]?=some x) {p:Nat} (hpj:AT A+i*7=p):∀ q v,(GV x)[q]?=some v→w.cell? ((⟨Ef A,p,none⟩:Addr).add q)=some v:=by
 intro q v hq
 rw [Ez,←hpj]
 exact H.factR (List.mem_of_getElem? hj) fun F h=>(KB h hx).2.1 q v hq
end
section
variable {P:Program} {t:TypeId}
end
/-! ### What records say -/
theorem Fg {α:Type} {xs:List α} {k:Nat} {x:α} (hx:xs[k]?=some x):xs.drop k=x::xs.drop (k+1):=by
 have hlt:k<xs.length:=by
  rcases Nat.lt_or_ge k xs.length with h|h
  ·exact h
  ·simp [List.getElem?_eq_none h] at hx
 rw [List.drop_eq_getElem_cons hlt]
 rw [List.getElem?_eq_getElem hlt] at hx
 rw [Option.some.inj hx]
theorem Hv {s:ByteArray} {i:Nat} {c:UInt8} (h:s[i]?=some c):s.data.toList[i]?=some c:=by
 rw [getElem?_def] at h
 split at h
 ·rename_i hi
  have e:s[i]=c:=Option.some.inj h
  rw [←e,Array.getElem?_toList,Array.getElem?_eq_getElem (show i<s.data.size from hi)]
  rfl
 ·cases h
theorem HA (c:UInt8) (v:AP):Fz c v=!((decide ((c.toNat:Int)=110) && v.t)||(decide ((c.toNat:Int)=98) && !v.t)):=by
 have h:∀ d:UInt8,(c==d)=decide ((c.toNat:Int)=(d.toNat:Int)):=by
  intro d
  rw [Bool.eq_iff_iff,beq_iff_eq,decide_eq_true_eq]
  constructor
  ·rintro rfl;rfl
  ·intro h
   exact UInt8.toNat_inj.1 (by omega)
 unfold Fz
 rw [h,h]
 rfl
theorem J3 {ks:List UInt8} {xs:List AP} {i:Nat} {c:UInt8} {x:AP} (hk:ks[i]?=some c) (hx:xs[i]?=some x) (hb:Fz c x=true):E4 (ks.drop (i+1)) (xs.drop (i+1))=E4 (ks.drop i) (xs.drop i):=by
 rw [Fg hk,Fg hx]
 simp [E4,hb]
theorem Lw {ks:List UInt8} {xs:List AP} {i:Nat} {c:UInt8} {x:AP} (hk:ks[i]?=some c) (hx:xs[i]?=some x) (hb:Fz c x=false):E4 (ks.drop i) (xs.drop i)=false:=by
 rw [Fg hk,Fg hx]
 simp [E4,hb]
theorem TY {ks:List UInt8} {xs:List AP} {i:Nat} (h:xs.length≤i):E4 (ks.drop i) (xs.drop i)=true:=by
 rw [List.drop_eq_nil_of_le h]
 cases ks.drop i<;>rfl
theorem Ml {op:Int} {stk:List AP} (h:stk.length<(Be op).size):Ay op stk=(1,stk,[]):=if_pos h
theorem Jn {op:Int} {stk:List AP} (h:¬ stk.length<(Be op).size) (h2:E4 (Be op).data.toList (stk.drop (stk.length - (Be op).size))=false):Ay op stk=(2,stk,[]):=by
 unfold Ay
 rw [if_neg h,if_neg (by rw [h2];decide)]
theorem Mj {op:Int} {stk:List AP} (h:¬ stk.length<(Be op).size) (h2:E4 (Be op).data.toList (stk.drop (stk.length - (Be op).size))=true):Ay op stk=(0,stk.take (stk.length - (Be op).size),stk.drop (stk.length - (Be op).size)):=by
 unfold Ay
 rw [if_neg h,if_pos h2]
theorem Mk {op:Int} {stk:List AP} (h:(Ay op stk).1=0):(Ay op stk).2.2.length=(Be op).size∧(Ay op stk).2.1.length≤stk.length∧(∀ v∈(Ay op stk).2.2,v∈stk)∧(∀ v∈(Ay op stk).2.1,v∈stk):=by
 by_cases h1:stk.length<(Be op).size
 ·rw [Ml h1] at h;cases h
 ·cases h2:E4 (Be op).data.toList (stk.drop (stk.length - (Be op).size)) with
  |false=>rw [Jn h1 h2] at h;cases h
  |true=>
   rw [Mj h1 h2]
   refine ⟨by simp only [List.length_drop];omega,by simp only [List.length_take];omega,fun v hv=>List.mem_of_mem_drop hv,fun v hv=>List.mem_of_mem_take hv⟩
theorem XQ {stk vs:List AP} {k:Nat} {x:AP} (hx:vs[k]?=some x) (h:EM x=true):Bj stk vs=(4,stk):=by
 unfold Bj
 rw [if_pos (List.any_eq_true.2 ⟨x,B6 hx,h⟩)]
theorem Ny {vs:List AP} (hn:∀ y∈vs,EM y=false):¬ vs.any EM=true:=by
 intro h
 obtain ⟨x,h1,h2⟩:=List.any_eq_true.1 h
 rw [hn x h1] at h2
 cases h2
theorem XT {stk vs:List AP} (hn:∀ y∈vs,EM y=false) (h:16<stk.length+vs.length):Bj stk vs=(1,stk):=by
 unfold Bj
 rw [if_neg (Ny hn),if_pos h]
theorem XS {stk vs:List AP} (hn:∀ y∈vs,EM y=false) (h:¬ 16<stk.length+vs.length):Bj stk vs=(0,stk++vs):=by
 unfold Bj
 rw [if_neg (Ny hn),if_neg h]
theorem XU (stk vs:List AP) (h:stk.length≤16):(Bj stk vs).2.length≤16:=by
 unfold Bj
 split
 ·exact h
 ·split
  ·exact h
  ·simp only [List.length_append];omega
theorem Sv {v:AP} (h1:v.t=true) (h2:(64:Int)<(v.b.size:Int)):EM v=true:=by
 unfold EM
 rw [h1,decide_eq_true (by omega)]
 rfl
theorem NH {v:AP} (h:v.t=false∨¬ (64:Int)<(v.b.size:Int)):EM v=false:=by
 unfold EM
 rcases h with h|h
 ·rw [h];rfl
 ·rw [decide_eq_false (by omega),Bool.and_false]
theorem Tw {told:List Al} {k v:ByteArray} (h:(16:Int)<(k.size:Int)):DP told k v=(4,told):=if_pos (by omega)
theorem Tz {told:List Al} {k v:ByteArray} (h:¬ (16:Int)<(k.size:Int)) (h2:40≤told.length):DP told k v=(5,told):=by
 unfold DP
 rw [if_neg (by omega),if_pos h2]
theorem Tx {told:List Al} {k v:ByteArray} (h:¬ (16:Int)<(k.size:Int)) (h2:¬ 40≤told.length):DP told k v=(0,told++[⟨k,v⟩]):=by
 unfold DP
 rw [if_neg (by omega),if_neg h2]
def C4 {α:Type} (d:Kd α) (v:Value) (xs:List α) (v2:Value) (ys:List α):Prop:=∀ (w:World) (F:AN),(Aa d v xs).P w F→(Aa d v2 ys).P w F
theorem C4.refl {α:Type} (d:Kd α) (v:Value) (xs:List α):C4 d v xs v xs:=fun _ _ h=>h
def Fk (stk:List AP):List ByteArray→Int×List AP×List ByteArray
 |[]=>((Bj stk [Db 0]).1,(Bj stk [Db 0]).2,[])
 |v::vs=>((Bj stk [EI v,Db 1]).1,(Bj stk [EI v,Db 1]).2,vs)
theorem WT {stk:List AP} {vals:List ByteArray} {x:ByteArray} (hx:vals[0]?=some x):Fk stk vals=((Bj stk [EI x,Db 1]).1,(Bj stk [EI x,Db 1]).2,vals.drop 1):=by
 cases vals with
 |nil=>simp at hx
 |cons y vs=>simp at hx;subst hx;rfl
theorem UW (op:Int):
    Cn Tryz.prog 302 [.int .i64 op] [] [] (fun v Bs=>v=.string (Be op)∧Bs=[]):=by
 intro w0 F0 H
 refine enter Tryz.func302 U U (Nat.le_of_ble_eq_true U) (Ab (Ae (Ad U (Ac (Z (Ab (Ab (Ae (Ad U (Ac (Z (AW (Ab (Ab (Ae (V U U (Bv U U U) (Ad U (Ac (Z ?_)))))))))))))))))))
 refine Az U (fun h1=>?_) (fun h1=>?_)
 ·refine Aw (Z ?_)
  refine Az U (fun h2=>?_) (fun h2=>?_)
  ·exact Ab (Ae (Ad U (Ac (Z (Ap (Bb (AA (Aq U U (Am ⟨congrArg Value.string (by unfold Be;repeat (first |rw [if_pos (by omega)]|rw [if_neg (by omega)])),rfl⟩ H)))))))))
  exact absurd h1 h2
 refine Ab (Ae (V U U (Bv U U U) (Ad U (Ac (Z ?_)))))
 refine Az U (fun h3=>?_) (fun h3=>?_)
 ·refine Aw (Z ?_)
  refine Az U (fun h4=>?_) (fun h4=>?_)
  ·exact Ab (Ae (Ad U (Ac (Z (Ap (Bb (AA (Aq U U (Am ⟨congrArg Value.string (by unfold Be;repeat (first |rw [if_pos (by omega)]|rw [if_neg (by omega)])),rfl⟩ H)))))))))
  exact absurd h3 h4
 refine Ae (V U U (Bv U U U) (Ad U (Ac (Z ?_))))
 refine Az U (fun h5=>?_) (fun h5=>?_)
 ·exact Ab (Ae (Ad U (Ac (Z (Ap (Bb (AA (Aq U U (Am ⟨congrArg Value.string (by unfold Be;repeat (first |rw [if_pos (by omega)]|rw [if_neg (by omega)])),rfl⟩ H)))))))))
 refine Ab (Ab (Ae (V U U (Bv U U U) (Ad U (Ac (Z ?_))))))
 refine Az U (fun h6=>?_) (fun h6=>?_)
 ·refine Aw (Z ?_)
  refine Az U (fun h7=>?_) (fun h7=>?_)
  ·exact Ab (Ae (Ad U (Ac (Z (Ap (Bb (AA (Aq U U (Am ⟨congrArg Value.string (by unfold Be;repeat (first |rw [if_pos (by omega)]|rw [if_neg (by omega)])),rfl⟩ H)))))))))
  exact absurd h6 h7
 refine Ae (V U U (Bv U U U) (Ad U (Ac (Z ?_))))
 refine Az U (fun h8=>?_) (fun h8=>?_)
 ·exact Ab (Ae (Ad U (Ac (Z (Ap (Bb (AA (Aq U U (Am ⟨congrArg Value.string (by unfold Be;repeat (first |rw [if_pos (by omega)]|rw [if_neg (by omega)])),rfl⟩ H)))))))))
 refine Ab (Ab (Ae (V U U (Bv U U U) (Ad U (Ac (Z ?_))))))
 refine Az U (fun h9=>?_) (fun h9=>?_)
 ·refine Aw (Z ?_)
  refine Az U (fun h10=>?_) (fun h10=>?_)
  ·exact Ab (Ae (Ad U (Ac (Z (Ap (Bb (AA (Aq U U (Am ⟨congrArg Value.string (by unfold Be;repeat (first |rw [if_pos (by omega)]|rw [if_neg (by omega)])),rfl⟩ H)))))))))
  exact absurd h9 h10
 refine Ab (Ae (V U U (Bv U U U) (Ad U (Ac (Z ?_)))))
 refine Az U (fun h11=>?_) (fun h11=>?_)
 ·refine Aw (Z ?_)
  refine Az U (fun h12=>?_) (fun h12=>?_)
  ·exact Ab (Ae (Ad U (Ac (Z (Ap (Bb (AA (Aq U U (Am ⟨congrArg Value.string (by unfold Be;repeat (first |rw [if_pos (by omega)]|rw [if_neg (by omega)])),rfl⟩ H)))))))))
  exact absurd h11 h12
 refine Ab (Ae (V U U (Bv U U U) (Ad U (Ac (Z ?_)))))
 refine Az U (fun h13=>?_) (fun h13=>?_)
 ·refine Aw (Z ?_)
  refine Az U (fun h14=>?_) (fun h14=>?_)
  ·exact Ab (Ae (Ad U (Ac (Z (Ap (Bb (AA (Aq U U (Am ⟨congrArg Value.string (by unfold Be;repeat (first |rw [if_pos (by omega)]|rw [if_neg (by omega)])),rfl⟩ H)))))))))
  exact absurd h13 h14
 refine Ae (V U U (Bv U U U) (Ad U (Ac (Z ?_))))
 refine Az U (fun h15=>?_) (fun h15=>?_)
 ·exact Ab (Ae (Ad U (Ac (Z (Ap (Bb (AA (Aq U U (Am ⟨congrArg Value.string (by unfold Be;repeat (first |rw [if_pos (by omega)]|rw [if_neg (by omega)])),rfl⟩ H)))))))))
 refine Ab (Ab (Ae (V U U (Bv U U U) (Ad U (Ac (Z ?_))))))
 refine Az U (fun h16=>?_) (fun h16=>?_)
 ·refine Aw (Z ?_)
  refine Az U (fun h17=>?_) (fun h17=>?_)
  ·exact Ab (Ae (Ad U (Ac (Z (Ap (Bb (AA (Aq U U (Am ⟨congrArg Value.string (by unfold Be;repeat (first |rw [if_pos (by omega)]|rw [if_neg (by omega)])),rfl⟩ H)))))))))
  exact absurd h16 h17
 refine Ae (V U U (Bv U U U) (Ad U (Ac (Z ?_))))
 refine Az U (fun h18=>?_) (fun h18=>?_)
 ·exact Ab (Ae (Ad U (Ac (Z (Ap (Bb (AA (Aq U U (Am ⟨congrArg Value.string (by unfold Be;repeat (first |rw [if_pos (by omega)]|rw [if_neg (by omega)])),rfl⟩ H)))))))))
 refine Ab (Ab (Ae (V U U (Bv U U U) (Ad U (Ac (Z ?_))))))
 refine Az U (fun h19=>?_) (fun h19=>?_)
 ·refine Aw (Z ?_)
  refine Az U (fun h20=>?_) (fun h20=>?_)
  ·exact Ab (Ae (Ad U (Ac (Z (Ap (Bb (AA (Aq U U (Am ⟨congrArg Value.string (by unfold Be;repeat (first |rw [if_pos (by omega)]|rw [if_neg (by omega)])),rfl⟩ H)))))))))
  exact absurd h19 h20
 refine Ae (V U U (Bv U U U) (Ad U (Ac (Z ?_))))
 refine Az U (fun h21=>?_) (fun h21=>?_)
 ·exact Ab (Ae (Ad U (Ac (Z (Ap (Bb (AA (Aq U U (Am ⟨congrArg Value.string (by unfold Be;repeat (first |rw [if_pos (by omega)]|rw [if_neg (by omega)])),rfl⟩ H)))))))))
 refine Ab (Ae (V U U (Bv U U U) (Ad U (Ac (Z ?_)))))
 refine Az U (fun h22=>?_) (fun h22=>?_)
 ·exact Ab (Ae (Ad U (Ac (Z (Ap (Bb (AA (Aq U U (Am ⟨congrArg Value.string (by unfold Be;repeat (first |rw [if_pos (by omega)]|rw [if_neg (by omega)])),rfl⟩ H)))))))))
 refine Ab (Ae (V U U (Bv U U U) (Ad U (Ac (Z ?_)))))
 refine Az U (fun h23=>?_) (fun h23=>?_)
 ·exact Ab (Ae (Ad U (Ac (Z (Ap (Bb (AA (Aq U U (Am ⟨congrArg Value.string (by unfold Be;repeat (first |rw [if_pos (by omega)]|rw [if_neg (by omega)])),rfl⟩ H)))))))))
 refine Ab (Ab (Ae (V U U (Bv U U U) (Ad U (Ac (Z ?_))))))
 refine Az U (fun h24=>?_) (fun h24=>?_)
 ·refine Aw (Z ?_)
  refine Az U (fun h25=>?_) (fun h25=>?_)
  ·exact Ab (Ae (Ad U (Ac (Z (Ap (Bb (AA (Aq U U (Am ⟨congrArg Value.string (by unfold Be;repeat (first |rw [if_pos (by omega)]|rw [if_neg (by omega)])),rfl⟩ H)))))))))
  exact absurd h24 h25
 refine Ae (V U U (Bv U U U) (Ad U (Ac (Z ?_))))
 refine Az U (fun h26=>?_) (fun h26=>?_)
 ·exact Ab (Ae (Ad U (Ac (Z (Ap (Bb (AA (Aq U U (Am ⟨congrArg Value.string (by unfold Be;repeat (first |rw [if_pos (by omega)]|rw [if_neg (by omega)])),rfl⟩ H)))))))))
 exact Aw (A_ (Z (Ab (Ae (Ad U (Ac (Z (Ap (Aq U U (Am ⟨congrArg Value.string (by unfold Be;repeat (first |rw [if_pos (by omega)]|rw [if_neg (by omega)])),rfl⟩ H))))))))))
theorem FY (n:Int):
    Cn Tryz.prog 266 [.int .i64 n] [] [] (fun v Bs=>v=.agg #[.bool false,.int .i64 n,.string ⟨#[]⟩]∧Bs=[]):=by
 intro w0 F0 H
 refine enter Tryz.func266 U U (Nat.le_of_ble_eq_true U) (Ab (Ae (Dr U U U Dk H (fun b1 w H=>(Ac (Z ?_))))))
 replace H:Hd _ _ _ [blk b1 [.bool false,.int .i64 0,.string ⟨#[]⟩] 284] []:=H
 refine Ab (Ae (Ad U (V U U (CM (parts:=[(1,.tmp 3)]) (vs:=[.int .i64 n]) (cs:=[.bool false,.int .i64 n,.string ⟨#[]⟩]) U NF U U) (Bo U U U Da U U H U (Nat.le_of_ble_eq_true U) (fun u hu=>by simp [Value.cells] at hu;rcases hu with rfl|rfl|rfl<;>rfl) (fun w H=>?_)))))
 replace H:=H.h1 (A:=blk b1 [.bool false,.int .i64 n,.string ⟨#[]⟩] 284)
 refine Ac (Z (Ap (Gf (cs:=[.bool false,.int .i64 n,.string ⟨#[]⟩]) U U Da U (H.cellsI 0 U U) ?_)))
 replace H:=H.nil
 exact Am ⟨rfl,rfl⟩ H
theorem IT (s:ByteArray):
    Cn Tryz.prog 267 [.string s] [] [] (fun v Bs=>v=.agg #[.bool true,.int .i64 0,.string s]∧Bs=[]):=by
 intro w0 F0 H
 refine enter Tryz.func267 U U (Nat.le_of_ble_eq_true U) (Ab (Ae (Dr U U U Dk H (fun b1 w H=>(Ac (Z ?_))))))
 replace H:Hd _ _ _ [blk b1 [.bool false,.int .i64 0,.string ⟨#[]⟩] 284] []:=H
 refine Ab (Ae (Ad U (V U U (CM (parts:=[(0,.const (.bool true)),(2,.tmp 3)]) (vs:=[.bool true,.string s]) (cs:=[.bool true,.int .i64 0,.string s]) U NF U U) (Bo U U U Da U U H U (Nat.le_of_ble_eq_true U) (fun u hu=>by simp [Value.cells] at hu;rcases hu with rfl|rfl|rfl<;>rfl) (fun w H=>?_)))))
 replace H:=H.h1 (A:=blk b1 [.bool true,.int .i64 0,.string s] 284)
 refine Ac (Z (Ap (Gf (cs:=[.bool true,.int .i64 0,.string s]) U U Da U (H.cellsI 0 U U) ?_)))
 replace H:=H.nil
 exact Am ⟨rfl,rfl⟩ H
theorem P5 (b:Bool):
    Cn Tryz.prog 270 [.bool b] [] [] (fun v Bs=>v=.agg #[.bool false,.int .i64 (if b=true then 1 else 0),.string ⟨#[]⟩]∧Bs=[]):=by
 intro w0 F0 H
 refine enter Tryz.func270 U U (Nat.le_of_ble_eq_true U) (Ab (Ae (Dr U U U Dk H (fun b1 w H=>(Ac (Z ?_))))))
 replace H:Hd _ _ _ [blk b1 [.bool false,.int .i64 0,.string ⟨#[]⟩] 284] []:=H
 refine Ab (Ab (Ae (Ad U (Ac (Z ?_)))))
 refine Dv (b:=b) U (fun h2=>?_) (fun h2=>?_)
 ·refine Ab (Ae (sc (FY 1) H l0 U U (At FN U U) ?_))
  rintro _ _ w ⟨rfl,rfl⟩ H
  refine Bo U U U Da U U H U (Nat.le_of_ble_eq_true U) (fun u hu=>by simp [Value.cells] at hu;rcases hu with rfl|rfl|rfl<;>rfl) (fun w H=>?_)
  replace H:=H.h1 (A:=blk b1 [.bool false,.int .i64 1,.string ⟨#[]⟩] 284)
  refine Ac (Z (Ap (AA (Gf (cs:=[.bool false,.int .i64 1,.string ⟨#[]⟩]) U U Da U (H.cellsI 0 U U) ?_))))
  replace H:=H.nil
  exact Am ⟨by simp only [h2];rfl,rfl⟩ H
 refine Aw (Z (Ab (Ae (sc (FY 0) H l0 U U (At FN U U) ?_))))
 rintro _ _ w ⟨rfl,rfl⟩ H
 refine Bo U U U Da U U H U (Nat.le_of_ble_eq_true U) (fun u hu=>by simp [Value.cells] at hu;rcases hu with rfl|rfl|rfl<;>rfl) (fun w H=>(Ac (Z (Ap (Gf (cs:=[.bool false,.int .i64 0,.string ⟨#[]⟩]) U U Da U (H.cellsI 0 U U) ?_)))))
 replace H:=H.nil
 exact Am ⟨by simp only [h2];rfl,rfl⟩ H
theorem Kt (op:Int) (a:Int) (b:Int):
    Cn Tryz.prog 269 [.int .i64 op,.int .i64 a,.int .i64 b] [] [] (fun v Bs=>v=.agg #[.bool ((BD op a b).t),.int .i64 ((BD op a b).n),.string ((BD op a b).b)]∧Bs=[]):=by
 intro w0 F0 H
 refine enter Tryz.func269 U U (Nat.le_of_ble_eq_true U) (Ab (Ae (Dr U U U Dk H (fun b1 w H=>(Ac (Z ?_))))))
 replace H:Hd _ _ _ [blk b1 [.bool false,.int .i64 0,.string ⟨#[]⟩] 284] []:=H
 refine Ab (Ab (Ae (Ad U (Ac (Z (AW (Ab (Ae (V U U (Bv U U U) (Ad U (Ac (Z ?_))))))))))))
 refine Az U (fun h2=>?_) (fun h2=>?_)
 ·refine Ab (Ae (Ah 2 U (V U U (A0 (z:=IntKind.i64.wrap (a+b)) U U U U) (sc (FY (IntKind.i64.wrap (a+b))) H l0 U U (At FN U U) ?_))))
  rintro _ _ w ⟨rfl,rfl⟩ H
  refine Bo U U U Da U U H U (Nat.le_of_ble_eq_true U) (fun u hu=>by simp [Value.cells] at hu;rcases hu with rfl|rfl|rfl<;>rfl) (fun w H=>?_)
  replace H:=H.h1 (A:=blk b1 [.bool false,.int .i64 (IntKind.i64.wrap (a+b)),.string ⟨#[]⟩] 284)
  refine Ac (Z (Ap (Bb (AA (Gf (cs:=[.bool false,.int .i64 (IntKind.i64.wrap (a+b)),.string ⟨#[]⟩]) U U Da U (H.cellsI 0 U U) ?_)))))
  have e:BD op a b=Db (IntKind.i64.wrap (a+b)):=by unfold BD;rw [if_pos h2]
  replace H:=H.nil
  exact Am ⟨by rw [e];rfl,rfl⟩ H
 refine Ab (Ae (V U U (Bv U U U) (Ad U (Ac (Z ?_)))))
 refine Az U (fun h3=>?_) (fun h3=>?_)
 ·refine Ab (Ae (Ah 2 U (V U U (Cj (z:=IntKind.i64.wrap (a - b)) U U U U) (sc (FY (IntKind.i64.wrap (a - b))) H l0 U U (At FN U U) ?_))))
  rintro _ _ w ⟨rfl,rfl⟩ H
  refine Bo U U U Da U U H U (Nat.le_of_ble_eq_true U) (fun u hu=>by simp [Value.cells] at hu;rcases hu with rfl|rfl|rfl<;>rfl) (fun w H=>?_)
  replace H:=H.h1 (A:=blk b1 [.bool false,.int .i64 (IntKind.i64.wrap (a - b)),.string ⟨#[]⟩] 284)
  refine Ac (Z (Ap (Bb (AA (Gf (cs:=[.bool false,.int .i64 (IntKind.i64.wrap (a - b)),.string ⟨#[]⟩]) U U Da U (H.cellsI 0 U U) ?_)))))
  have e:BD op a b=Db (IntKind.i64.wrap (a - b)):=by unfold BD;rw [if_neg h2,if_pos h3]
  replace H:=H.nil
  exact Am ⟨by rw [e];rfl,rfl⟩ H
 refine Ab (Ae (V U U (Bv U U U) (Ad U (Ac (Z ?_)))))
 refine Az U (fun h4=>?_) (fun h4=>?_)
 ·refine Ab (Ae (Ah 2 U (V U U (He (z:=IntKind.i64.wrap (a*b)) U U U U) (sc (FY (IntKind.i64.wrap (a*b))) H l0 U U (At FN U U) ?_))))
  rintro _ _ w ⟨rfl,rfl⟩ H
  refine Bo U U U Da U U H U (Nat.le_of_ble_eq_true U) (fun u hu=>by simp [Value.cells] at hu;rcases hu with rfl|rfl|rfl<;>rfl) (fun w H=>?_)
  replace H:=H.h1 (A:=blk b1 [.bool false,.int .i64 (IntKind.i64.wrap (a*b)),.string ⟨#[]⟩] 284)
  refine Ac (Z (Ap (Bb (AA (Gf (cs:=[.bool false,.int .i64 (IntKind.i64.wrap (a*b)),.string ⟨#[]⟩]) U U Da U (H.cellsI 0 U U) ?_)))))
  have e:BD op a b=Db (IntKind.i64.wrap (a*b)):=by unfold BD;rw [if_neg h2,if_neg h3,if_pos h4]
  replace H:=H.nil
  exact Am ⟨by rw [e];rfl,rfl⟩ H
 refine Aw (A_ (Z (Ab (Ae (Ah 2 U (V U U (Bd U U U) (sc (P5 (decide (a<b))) H l0 U U (At Pl U U) ?_)))))))
 rintro _ _ w ⟨rfl,rfl⟩ H
 refine Bo U U U Da U U H U (Nat.le_of_ble_eq_true U) (fun u hu=>by simp [Value.cells] at hu;rcases hu with rfl|rfl|rfl<;>rfl) (fun w H=>?_)
 replace H:=H.h1 (A:=blk b1 [.bool false,.int .i64 (if (decide (a<b))=true then 1 else 0),.string ⟨#[]⟩] 284)
 refine Ac (Z (Ap (Gf (cs:=[.bool false,.int .i64 (if (decide (a<b))=true then 1 else 0),.string ⟨#[]⟩]) U U Da U (H.cellsI 0 U U) ?_)))
 have e:BD op a b=Db (if a<b then 1 else 0):=by unfold BD;rw [if_neg h2,if_neg h3,if_neg h4]
 replace H:=H.nil
 exact Am ⟨by rw [e];simp [Db],rfl⟩ H
theorem aK (a:AP) (b:AP):
    Cn Tryz.prog 271 [.agg #[.bool a.t,.int .i64 a.n,.string a.b],.agg #[.bool b.t,.int .i64 b.n,.string b.b]] [] [] (fun v Bs=>v=.bool (EG a b)∧Bs=[]):=by
 intro w0 F0 H
 refine enter Tryz.func271 U U (Nat.le_of_ble_eq_true U) (Ab (Ae (Cy U U U U H (fun b1 w H=>(Cy U U U U H (fun b2 w H=>(Ad U (Ac (Z ?_)))))))))
 replace H:Hd _ _ _ [blk b2 [.bool b.t,.int .i64 b.n,.string b.b] 284,blk b1 [.bool a.t,.int .i64 a.n,.string a.b] 284] []:=H
 refine Ab (Ab (Ae (V U U (Aj U HE U) (V U U (Ao U DE U (H.cellI 1 U U)) (Ac (Z ?_))))))
 refine Dv (b:=a.t) U (fun h3=>?_) (fun h3=>?_)
 ·refine Ab (Ae (V U U (Aj U HE U) (V U U (Ao U DE U (H.cellI 0 U U)) (Ad U ?_))))
  refine Es (d:=9) (b:=b.t) U (fun h4=>?_) (fun h4=>?_)
  ·refine V U U (Aj U FM U) (V U U (Ao U BV U (H.cellI 1 U U)) (V U U (Aj U FM U) (V U U (Ao U BV U (H.cellI 0 U U)) (V U U (MG U U U) (Ah 2 U (Ac (Z (Ap (AA (Aq U U ?_))))))))))
   replace H:=H.nil
   exact Am ⟨congrArg Value.bool (by unfold EG;simp [h3,h4]),rfl⟩ H
  refine Ah 7 U (Ac (Z (Ap (AA (Aq U U ?_)))))
  replace H:=H.nil
  exact Am ⟨congrArg Value.bool (by unfold EG;simp [h3,h4]),rfl⟩ H
 refine Aw (Z (Ab (Ae (V U U (Aj U HE U) (V U U (Ao U DE U (H.cellI 0 U U)) (V U U (Ep U U U) (Ad U ?_)))))))
 refine Es (d:=19) (b:=!b.t) U (fun h5=>?_) (fun h5=>?_)
 ·refine V U U (Aj U EP U) (V U U (Ao U DT U (H.cellI 1 U U)) (V U U (Aj U EP U) (V U U (Ao U DT U (H.cellI 0 U U)) (V U U (Bv U U U) (Ah 2 U (Ac (Z (Ap (Aq U U ?_)))))))))
  replace H:=H.nil
  exact Am ⟨congrArg Value.bool (by unfold EG;simp [h3,h5]),rfl⟩ H
 refine Ah 7 U (Ac (Z (Ap (Aq U U ?_))))
 replace H:=H.nil
 exact Am ⟨congrArg Value.bool (by unfold EG;simp [h3,h5]),rfl⟩ H
theorem aH (s:ByteArray) (i:Int):
    Cn Tryz.prog 272 [.string s,.int .i64 i] [] [] (fun v Bs=>v=.int .i64 (EL s i)∧Bs=[]):=by
 intro w0 F0 H
 refine enter Tryz.func272 U U (Nat.le_of_ble_eq_true U) (Ab (Ae (Ad U (Ac (Z (Ab (Ab (Ae (Ad U (V U U (Bd U U U) (Ad U ?_)))))))))))
 refine AU (d:=7) U (fun h1=>?_) (fun h1=>?_)
 ·exact Ah 5 U (Ac (Z (B8 U (Ab (Ae (Ad U (Ac (Z (Ap (AA (Aq U U (Am ⟨congrArg (Value.int .i64) (if_pos (by omega)).symm,rfl⟩ H))))))))))))
 refine Ah 2 U (V U U (Dn U Ct U) (V U U (Cw U U U) (Ad U (Ac (Z ?_)))))
 refine Az U (fun h2=>?_) (fun h2=>?_)
 ·exact Ab (Ae (Ad U (Ac (Z (Ap (AA (Aq U U (Am ⟨congrArg (Value.int .i64) (if_pos (by omega)).symm,rfl⟩ H))))))))
 refine Aw (Z (Ab (Ae (Ah 2 U ?_))))
 obtain ⟨c0,hc0⟩:∃ c0,s[i.toNat]?=some c0:=⟨_,getElem?_pos s i.toNat (by omega)⟩
 exact V U U (Jt U Ct U U (by omega) hc0) (V U U (DC (z:=((c0).toNat:Int)) U U HY IR (AF (by omega) (by have:=UInt8.toNat_lt c0;omega))) (Ad U (Ac (Z (Ap (Aq U U (Am ⟨congrArg (Value.int .i64) (by unfold EL;rw [if_neg (by omega),hc0];rfl),rfl⟩ H)))))))
theorem aJ (s:ByteArray) (f:Int) (t:Int):
    Cn Tryz.prog 273 [.string s,.int .i64 f,.int .i64 t] [] [] (fun v Bs=>v=.string (Fy s f t)∧Bs=[]):=by
 intro w0 F0 H
 refine enter Tryz.func273 U U (Nat.le_of_ble_eq_true U) (Ab (Ae (Ad U (Ac (Z (Ab (Ae (Ad U (V U U (Dn U Ct U) (Ad U (Ac (Z (Ab (Ae (Ad U (V U U (QA (z:=max f 0) U U U U) (Ad U (V U U (IB (z:=min (max f 0) ((s.size:Nat):Int)) U U U U) (Ad U (V U U (QA (z:=max t 0) U U U U) (Ad U (V U U (IB (z:=min (max t 0) ((s.size:Nat):Int)) U U U U) (Ah 2 U (Ac (Z (Ab (Ab (Ae (Ah 2 U (V U U (Ci U U U) (Ac (Z ?_))))))))))))))))))))))))))))))))
 refine Az U (fun h1=>?_) (fun h1=>?_)
 ·exact Ab (Ae (Ad U (Ac (Z (Ap (AA (Aq U U (Am ⟨congrArg Value.string (if_pos h1).symm,rfl⟩ H))))))))
 exact Aw (Z (Ab (Ae (Ah 3 U (V U U (X3 (r:=s.extract (min (max f 0) ((s.size:Nat):Int)).toNat (min (max t 0) ((s.size:Nat):Int)).toNat) U Ct U U U (by omega) (by omega) (by omega) U) (Ad U (Ac (Z (Ap (Aq U U (Am ⟨congrArg Value.string (if_neg h1).symm,rfl⟩ H)))))))))))
theorem WK (r:Nat) (pv:Value) (key:ByteArray) (vv:Value) (fuel pos steps:Int) (halted:Bool) (sv:Value) (g:Nat→AP) (tv mv:Value) (stk:List AP) (op:Int) (hst:stk.length≤16):
    Cn Tryz.prog 264 [.pointer (some ⟨r,0,none⟩),.int .i64 op] [blk r (Bc pv key vv fuel pos steps halted sv g tv mv) 288,Y AY sv stk] [] (fun v Bs=>∃ u sv2,v=.tuple #[u,.int .i64 (Ay op stk).1]∧Bs=[blk r (Bc pv key vv fuel pos steps halted sv2 g tv mv) 288,Y AY sv2 (Ay op stk).2.1,Y AY u (Ay op stk).2.2]):=by
 intro w0 F0 H
 obtain ⟨A1,c2,rfl,hc3,hm4,hp5⟩:=H.fA 1 rfl
 refine enter Tryz.func264 U U (Nat.le_of_ble_eq_true U) (Ab (Ae (Ah 2 U (Ac (Z ?_)))))
 replace H:Hd _ _ _ [blk r (Bc pv key vv fuel pos steps halted (.slice A1 stk.length c2) g tv mv) 288,Y AY (.slice A1 stk.length c2) stk] []:=H
 refine Ab (Ae (Ad U (sc (UW op) H l0 U U (At VQ U U) ?_)))
 rintro _ _ w ⟨rfl,rfl⟩ H
 refine Ad U (Ac (Z (Ab (Ab (Ae (Ad U (V U U (Dn U Ct U) (Ad U (V U U (AI U U) (V U U (Aj U Gt U) (V U U (Ao U GI U (H.cellI 0 U U)) (V U U (A8 U HX U) (V U U (Ca U U U) (Ac (Z ?_)))))))))))))))
 refine Az U (fun h6=>?_) (fun h6=>?_)
 ·refine Ab (Ae (Ah 2 U (Ac (Z (Ap (AA (Cm U U U ?_)))))))
  have e:=Ml (op:=op) (stk:=stk) (by omega)
  replace H:=H.newnil AY|>.sel 3 [1,2,0] [] rfl (by kernel_rfl)
  replace H:Hd _ _ _ [blk r (Bc pv key vv fuel pos steps halted (.slice A1 stk.length c2) g tv mv) 288,Y AY (.slice A1 stk.length c2) stk,Y AY (.slice none 0 0) []] []:=H
  exact Am ⟨_,_,by rw [e]<;>rfl,by rw [e]<;>rfl⟩ H
 refine Aw (Z (Ab (F8 mo (by kernel_rfl) H (DV U (Bw U U (fun w H=>AI U U) (Bw U U (fun w H=>Aj U Gt U) (Bw U U (fun w H=>Ao U GI U (H.cellI 0 U U)) (DV U (Bw U U (fun w H=>AI U U) (Bw U U (fun w H=>Aj U Gt U) (Bw U U (fun w H=>Ao U GI U (H.cellI 0 U U)) (Bw U U (fun w H=>A8 U HX U) (DV U (Bw U U (fun w H=>Dn U Ct U) (Bw U U (fun w H=>Cj (z:=((stk.length - ((Be op).size):Nat):Int)) U U U (by rw [AF (by omega) (by omega)];omega)) (Bw U U (fun w H=>Jr U BY U U (by omega) (by omega) U) (DV U (Bw U U (fun w H=>AI U U) (Bw U U (fun w H=>Aj U Gt U) (Bw U U (fun w H=>Ao U GI U (H.cellI 0 U U)) ?_))))))))))))))))))))
 refine DV U (Bw U U (fun w H=>AI U U) (Bw U U (fun w H=>Aj U Gt U) (Bw U U (fun w H=>Ao U GI U (H.cellI 0 U U)) (Bw U U (fun w H=>A8 U HX U) (DV U (Bw U U (fun w H=>Dn U Ct U) (Bw U U (fun w H=>Cj (z:=((stk.length - ((Be op).size):Nat):Int)) U U U (by rw [AF (by omega) (by omega)];omega)) (Bw U U (fun w H=>Js U BY U U (by omega) (by omega) U) (Gi 2 U (FX (fun w H=>(Z (Ab (Ab (Ae (Ad U (V U U (A8 U HX U) (Ad U (Ac (Z (AW (BT (σ:=Nat) (fun i=>[(0,.pointer (some ⟨r,0,none⟩)),(6,.string (Be op)),(7,.slice A1 (stk.length - ((Be op).size)) c2),(8,.slice (DG A1 c2 (stk.length - ((Be op).size)) 3) (stk.length - (stk.length - ((Be op).size))) (c2 - (stk.length - ((Be op).size)))),(48,.slice (DG A1 c2 (stk.length - ((Be op).size)) 3) (stk.length - (stk.length - ((Be op).size))) (c2 - (stk.length - ((Be op).size)))),(49,.int .i64 ((stk.length - (stk.length - ((Be op).size)):Nat):Int)),(50,.int .i64 ((i:Nat):Int))]) (fun i w=>(Hd w0 F0 w [blk r (Bc pv key vv fuel pos steps halted (.slice A1 stk.length c2) g tv mv) 288,Y AY (.slice A1 stk.length c2) stk] [])∧(i≤(Be op).size)∧(E4 ((Be op).data.toList.drop i) ((stk.drop (stk.length - (Be op).size)).drop i)=E4 (Be op).data.toList (stk.drop (stk.length - (Be op).size)))) (fun i=>(Be op).size - i) 0 ⟨rfl,rfl,rfl,rfl,rfl,rfl,rfl,trivial⟩ ⟨H,Nat.zero_le _,rfl⟩ ?_))))))))))))))))))))))
 rintro i w ⟨H,hi,hf⟩
 refine Ab (Ae (V U U (Bd U U U) (Ac (Z (Ab ?_)))))
 refine Az U (fun h7=>?_) (fun h7=>?_)
 ·refine Aw (Z (Ab (AW (Ab (Ae (Ad U ?_))))))
  obtain ⟨x8,hx9⟩:∃ z9,(stk.drop (stk.length - ((Be op).size)))[i]?=some z9:=⟨_,List.getElem?_eq_getElem (show i<(stk.drop (stk.length - ((Be op).size))).length by simp only [List.length_take,List.length_drop];omega)⟩
  have th10:=H.thX (fun F hA hR=>IH (BE F (hA _ (List.mem_of_getElem? (i:=1) rfl))) (i:=stk.length - ((Be op).size)) (by omega)) hx9
  refine V U U (Ba (p:=AT (DG A1 c2 (stk.length - ((Be op).size)) 3)+i*3) U BY U U (by omega) (by omega) th10 U) (V U U (Bu (cs:=[.bool x8.t,.int .i64 x8.n,.string x8.b]) U Da U U (H.elsX (fun F hA hR=>IH (BE F (hA _ (List.mem_of_getElem? (i:=1) U))) (i:=stk.length - ((Be op).size)) (by omega)) hx9 U)) (Dr U U U Dk H (fun b11 w H=>(Ad U (Bo U U U Da U U H U (Nat.le_of_ble_eq_true U) (fun u hu=>by simp [Value.cells] at hu;rcases hu with rfl|rfl|rfl<;>rfl) (fun w H=>?_))))))
  replace H:Hd _ _ _ [blk b11 [.bool x8.t,.int .i64 x8.n,.string x8.b] 284,blk r (Bc pv key vv fuel pos steps halted (.slice A1 stk.length c2) g tv mv) 288,Y AY (.slice A1 stk.length c2) stk] []:=H
  refine Ac (Z (Ab (Ae (Ah 2 U ?_))))
  obtain ⟨c12,hb13⟩:∃ c0,(Be op)[i]?=some c0:=⟨_,getElem?_pos (Be op) i (by omega)⟩
  refine V U U (Jt U Ct U U (by omega) hb13) (V U U (Bv U U U) (Ad U ?_))
  refine AU (d:=59) U (fun h14=>?_) (fun h14=>?_)
  ·refine V U U (Aj U HE U) (V U U (Ao U DE U (H.cellI 0 U U)) (Ah 2 U ?_))
   refine Es (d:=63) (b:=x8.t) U (fun h15=>?_) (fun h15=>?_)
   ·refine Ah 10 U (Ac (Z (B8 U (Ab (Ae (Ah 2 U (Ac (Z (Ap (Bb (AA (AA (Bb (AA (Cm U U U ?_)))))))))))))))
    have hfit:Fz c12 x8=false:=by rw [HA];simp_all
    have e:=Jn (op:=op) (stk:=stk) (by omega) (hf.symm.trans (Lw (Hv hb13) hx9 hfit))
    replace H:=H.p2.p2.k2.newnil AY|>.p2|>.p2
    exact Am ⟨_,_,by rw [e]<;>rfl,by rw [e]<;>rfl⟩ H
   refine Ah 2 U (V U U (Jt U Ct U U (by omega) hb13) (V U U (Bv U U U) (Ad U ?_)))
   refine AU (d:=68) U (fun h16=>?_) (fun h16=>?_)
   ·refine V U U (Aj U HE U) (V U U (Ao U DE U (H.cellI 0 U U)) (V U U (Ep U U U) (Ah 2 U (Ac (Z ?_)))))
    refine Dv (b:=!x8.t) U (fun h17=>?_) (fun h17=>?_)
    ·refine Ab (Ae (Ah 2 U (Ac (Z (Ap (Bb (AA (AA (Bb (AA (Cm U U U ?_)))))))))))
     have hfit:Fz c12 x8=false:=by rw [HA];simp_all
     have e:=Jn (op:=op) (stk:=stk) (by omega) (hf.symm.trans (Lw (Hv hb13) hx9 hfit))
     replace H:=H.p2.p2.k2.newnil AY|>.p2|>.p2
     exact Am ⟨_,_,by rw [e]<;>rfl,by rw [e]<;>rfl⟩ H
    refine Aw (A_ (Z (Ae (V U U (A0 (z:=((i+1:Nat):Int)) U U U (by rw [AF (by omega) (by omega)];omega)) (Ad U (Ac ?_))))))
    have hfit:Fz c12 x8=true:=by rw [HA];simp_all
    have hf2:=(J3 (Hv hb13) hx9 hfit).trans hf
    replace H:=H.p2.p2.k2
    exact Bl (s:=i) (i+1) ⟨rfl,rfl,rfl,rfl,rfl,rfl,rfl,trivial⟩ ⟨H,by (try dsimp only);omega,hf2⟩ (by (try dsimp only);omega)
   refine Ah 5 U (Ac (Z (B9 U (Aw (A_ (Z (Ae (V U U (A0 (z:=((i+1:Nat):Int)) U U U (by rw [AF (by omega) (by omega)];omega)) (Ad U (Ac ?_))))))))))
   have hfit:Fz c12 x8=true:=by rw [HA];simp_all
   have hf2:=(J3 (Hv hb13) hx9 hfit).trans hf
   replace H:=H.p2.p2.k2
   exact Bl (s:=i) (i+1) ⟨rfl,rfl,rfl,rfl,rfl,rfl,rfl,trivial⟩ ⟨H,by (try dsimp only);omega,hf2⟩ (by (try dsimp only);omega)
  refine Ah 6 U (V U U (Jt U Ct U U (by omega) hb13) (V U U (Bv U U U) (Ad U ?_)))
  refine AU (d:=68) U (fun h18=>?_) (fun h18=>?_)
  ·refine V U U (Aj U HE U) (V U U (Ao U DE U (H.cellI 0 U U)) (V U U (Ep U U U) (Ah 2 U (Ac (Z ?_)))))
   refine Dv (b:=!x8.t) U (fun h19=>?_) (fun h19=>?_)
   ·refine Ab (Ae (Ah 2 U (Ac (Z (Ap (Bb (AA (AA (Bb (AA (Cm U U U ?_)))))))))))
    have hfit:Fz c12 x8=false:=by rw [HA];simp_all
    have e:=Jn (op:=op) (stk:=stk) (by omega) (hf.symm.trans (Lw (Hv hb13) hx9 hfit))
    replace H:=H.p2.p2.k2.newnil AY|>.p2|>.p2
    exact Am ⟨_,_,by rw [e]<;>rfl,by rw [e]<;>rfl⟩ H
   refine Aw (A_ (Z (Ae (V U U (A0 (z:=((i+1:Nat):Int)) U U U (by rw [AF (by omega) (by omega)];omega)) (Ad U (Ac ?_))))))
   have hfit:Fz c12 x8=true:=by rw [HA];simp_all
   have hf2:=(J3 (Hv hb13) hx9 hfit).trans hf
   replace H:=H.p2.p2.k2
   exact Bl (s:=i) (i+1) ⟨rfl,rfl,rfl,rfl,rfl,rfl,rfl,trivial⟩ ⟨H,by (try dsimp only);omega,hf2⟩ (by (try dsimp only);omega)
  refine Ah 5 U (Ac (Z (B9 U (Aw (A_ (Z (Ae (V U U (A0 (z:=((i+1:Nat):Int)) U U U (by rw [AF (by omega) (by omega)];omega)) (Ad U (Ac ?_))))))))))
  have hfit:Fz c12 x8=true:=by rw [HA];simp_all
  have hf2:=(J3 (Hv hb13) hx9 hfit).trans hf
  replace H:=H.p2.p2.k2
  exact Bl (s:=i) (i+1) ⟨rfl,rfl,rfl,rfl,rfl,rfl,rfl,trivial⟩ ⟨H,by (try dsimp only);omega,hf2⟩ (by (try dsimp only);omega)
 refine BM (AR (AR (BN (Z (Ab (Ae (Ad U ?_)))))))
 replace H:=H.newnil AY
 refine CG (xs:=[]) (ys:=stk.drop (stk.length - ((Be op).size))) U U U BY Dk U (by decide) U U H (by simp only [List.length_nil];omega) (fun F hA hR=>IH (BE F (hA _ (List.mem_of_getElem? (i:=1) U))) (i:=stk.length - ((Be op).size)) (by omega)) (fun v20 w H=>(Ad U (Ac (Z ?_))))
 replace H:Hd _ _ _ [Y AY v20 ([]++(stk.drop (stk.length - ((Be op).size)))),blk r (Bc pv key vv fuel pos steps halted (.slice A1 stk.length c2) g tv mv) 288,Y AY (.slice A1 stk.length c2) stk] []:=H
 refine Ab (Ae (Ah 2 U (V U U (AI U U) (V U U (Aj U Gt U) ?_))))
 replace H:=H.p1
 refine Bo U U U GI U U H U (Nat.le_of_ble_eq_true U) (fun u hu=>by simp [Value.cells] at hu;subst hu;rfl) (fun w H=>?_)
 replace H:=H.h1 (A:=blk r (Bc pv key vv fuel pos steps halted (.slice A1 (stk.length - ((Be op).size)) c2) g tv mv) 288)
 refine Ac (Z (Ab ?_))
 replace H:=H.p2.preO (stk.length - (Be op).size) (by omega)|>.h1 (A:=Y AY (.slice A1 (stk.length - ((Be op).size)) c2) (stk.take (stk.length - (Be op).size)))
 refine Ae (Ah 3 U (Ac (Z (Ap (Cm U U U ?_)))))
 replace H:=H.p1.h3 (C:=Y AY v20 (stk.drop (stk.length - (Be op).size)))
 have e:=Mj (op:=op) (stk:=stk) (by omega) (hf.symm.trans (TY (by simp only [List.length_drop];omega)))
 exact Am ⟨_,_,by rw [e]<;>rfl,by rw [e]<;>rfl⟩ H
theorem D_ (r:Nat) (pv:Value) (key:ByteArray) (vv:Value) (fuel pos steps:Int) (halted:Bool) (sv:Value) (g:Nat→AP) (tv mv:Value) (stk:List AP) (vvs:Value) (vs:List AP) (hst:stk.length≤16) (hvs:vs.length≤16):
    Cn Tryz.prog 265 [.pointer (some ⟨r,0,none⟩),vvs] [blk r (Bc pv key vv fuel pos steps halted sv g tv mv) 288,Y AY sv stk] [Aa AY vvs vs] (fun v Bs=>∃ sv2,v=.int .i64 (Bj stk vs).1∧Bs=[blk r (Bc pv key vv fuel pos steps halted sv2 g tv mv) 288,Y AY sv2 (Bj stk vs).2]):=by
 intro w0 F0 H
 obtain ⟨A1,c2,rfl,hc3,hm4,hp5⟩:=H.fR 0 rfl
 refine enter Tryz.func265 U U (Nat.le_of_ble_eq_true U) (Ab (Ae (Ad U (Ac (Z ?_)))))
 replace H:Hd _ _ _ [blk r (Bc pv key vv fuel pos steps halted sv g tv mv) 288,Y AY sv stk] [Aa AY (.slice A1 vs.length c2) vs]:=H
 refine Ab (Ab (Ae (Ad U (V U U (A8 U HX U) (Ad U (Ac (Z (AW (BT (σ:=Nat) (fun k=>[(0,.pointer (some ⟨r,0,none⟩)),(1,.slice A1 vs.length c2),(7,.slice A1 vs.length c2),(8,.int .i64 ((vs.length:Nat):Int)),(9,.int .i64 ((k:Nat):Int))]) (fun k w=>(Hd w0 F0 w [blk r (Bc pv key vv fuel pos steps halted sv g tv mv) 288,Y AY sv stk] [Aa AY (.slice A1 vs.length c2) vs])∧(k≤vs.length)∧(∀ y∈vs.take k,EM y=false)) (fun k=>vs.length - k) 0 ⟨rfl,rfl,rfl,rfl,rfl,trivial⟩ ⟨H,Nat.zero_le _,by (try dsimp only);simp⟩ ?_)))))))))
 rintro k w ⟨H,hk,hn⟩
 refine Ab (Ae (V U U (Bd U U U) (Ac (Z (Ab ?_)))))
 refine Az U (fun h6=>?_) (fun h6=>?_)
 ·refine Aw (Z (Ab (AW (Ab (Ae ?_)))))
  obtain ⟨x7,hx8⟩:∃ z9,vs[k]?=some z9:=⟨_,List.getElem?_eq_getElem (show k<vs.length by omega)⟩
  have th9:=H.thR 0 rfl hx8
  refine V U U (Ba (p:=AT A1+k*3) U BY U U (by omega) (by omega) th9 U) (V U U (Bu (cs:=[.bool x7.t,.int .i64 x7.n,.string x7.b]) U Da U U (H.elsR 0 U hx8 U)) (Dr U U U Dk H (fun b10 w H=>(Bo U U U Da U U H U (Nat.le_of_ble_eq_true U) (fun u hu=>by simp [Value.cells] at hu;rcases hu with rfl|rfl|rfl<;>rfl) (fun w H=>?_)))))
  replace H:=H.h1 (A:=blk b10 [.bool x7.t,.int .i64 x7.n,.string x7.b] 284)
  refine Ac (Z (Ab (Ae (V U U (Aj U HE U) (V U U (Ao U DE U (H.cellI 0 U U)) (Ad U ?_))))))
  refine Es (d:=15) (b:=x7.t) U (fun h11=>?_) (fun h11=>?_)
  ·refine V U U (Aj U FM U) (V U U (Ao U BV U (H.cellI 0 U U)) (V U U (Dn U Ct U) (V U U (Ca U U U) (Ad U (Ac (Z ?_))))))
   refine Az U (fun h12=>?_) (fun h12=>?_)
   ·refine Ab (Ae (Ad U (Ac (Z (Ap (Bb (AA (AA (Bb (AA (Aq U U ?_)))))))))))
    have e:=XQ (stk:=stk) hx8 (Sv h11 h12)
    replace H:=H.p2.p2.k2
    exact Am ⟨_,by rw [e]<;>rfl,by rw [e]<;>rfl⟩ H
   refine Aw (A_ (Z (Ae (V U U (A0 (z:=((k+1:Nat):Int)) U U U (by rw [AF (by omega) (by omega)];omega)) (Ad U (Ac ?_))))))
   replace H:=H.p2.p2.k2
   exact Bl (s:=k) (k+1) ⟨rfl,rfl,rfl,rfl,rfl,trivial⟩ ⟨H,by (try dsimp only);omega,JD hn hx8 (NH (.inr h12))⟩ (by (try dsimp only);omega)
  refine Ah 5 U (Ac (Z (B9 U (Aw (A_ (Z (Ae (V U U (A0 (z:=((k+1:Nat):Int)) U U U (by rw [AF (by omega) (by omega)];omega)) (Ad U (Ac ?_))))))))))
  replace H:=H.p2.p2.k2
  exact Bl (s:=k) (k+1) ⟨rfl,rfl,rfl,rfl,rfl,trivial⟩ ⟨H,by (try dsimp only);omega,JD hn hx8 (NH (.inl h11))⟩ (by (try dsimp only);omega)
 refine BM (AR (AR (BN (Z (Ab (Ab (Ae (Ad U (V U U (AI U U) (V U U (Aj U Gt U) (V U U (Ao U GI U (H.cellI 0 U U)) ?_)))))))))))
 obtain ⟨A13,c14,rfl,hc15,hm16,hp17⟩:=H.fA 1 rfl
 refine V U U (A8 U HX U) (Ad U (V U U (A8 U HX U) (V U U (A0 (z:=((stk.length+vs.length:Nat):Int)) U U U (by rw [AF (by omega) (by omega)];omega)) (V U U (Ca U U U) (Ac (Z ?_))))))
 refine Az U (fun h18=>?_) (fun h18=>?_)
 ·refine Ab (Ae (Ad U (Ac (Z (Ap (AA (Aq U U ?_)))))))
  have e:=XT (stk:=stk) (vs:=vs) (by rw [List.take_of_length_le (by omega)] at hn;exact hn) (by omega)
  exact Am ⟨_,by rw [e]<;>rfl,by rw [e]<;>rfl⟩ H
 refine Aw (Z (Ab (Ae (Ah 2 U (V U U (AI U U) (V U U (Aj U Gt U) (V U U (Ao U GI U (H.cellI 0 U U)) (Ad U ?_))))))))
 replace H:=H.p1
 refine CG (xs:=stk) (ys:=vs) U U U BY Dk U (by decide) U U H (by omega) (fun F hA hR=>hR _ (List.mem_of_getElem? (i:=0) U)) (fun v19 w H=>(V U U (AI U U) (V U U (Aj U Gt U) ?_)))
 obtain ⟨A20,c21,rfl,hc22,hm23,hp24⟩:=H.fA 0 rfl
 replace H:=H.p1
 refine Bo U U U GI U U H U (Nat.le_of_ble_eq_true U) (fun u hu=>by simp [Value.cells] at hu;subst hu;rfl) (fun w H=>?_)
 replace H:Hd _ _ _ [blk r (Bc pv key vv fuel pos steps halted (.slice A20 ((stk++vs).length) c21) g tv mv) 288,Y AY (.slice A20 ((stk++vs).length) c21) (stk++vs)] [Aa AY (.slice A1 vs.length c2) vs]:=H
 refine Ac (Z (Ab (Ae (Ad U (Ac (Z (Ap (Aq U U ?_))))))))
 have e:=XS (stk:=stk) (vs:=vs) (by rw [List.take_of_length_le (by omega)] at hn;exact hn) (by omega)
 exact Am ⟨_,by rw [e]<;>rfl,by rw [e]<;>rfl⟩ H
theorem WV (r:Nat) (pv:Value) (key:ByteArray) (vv:Value) (fuel pos steps:Int) (halted:Bool) (sv:Value) (g:Nat→AP) (tv mv:Value) (stk:List AP) (vals:List ByteArray) (hst:stk.length≤16):
    Cn Tryz.prog 268 [.pointer (some ⟨r,0,none⟩)] [blk r (Bc pv key vv fuel pos steps halted sv g tv mv) 288,Y AY sv stk] [Aa Bk vv vals] (fun v Bs=>∃ sv2 vv2,v=.int .i64 (Fk stk vals).1∧C4 Bk vv vals vv2 (Fk stk vals).2.2∧Bs=[blk r (Bc pv key vv2 fuel pos steps halted sv2 g tv mv) 288,Y AY sv2 (Fk stk vals).2.1]):=by
 intro w0 F0 H
 obtain ⟨A1,c2,rfl,hc3,hm4,hp5⟩:=H.fR 0 rfl
 refine enter Tryz.func268 U U (Nat.le_of_ble_eq_true U) (Ab (Ae (Ad U (Ac (Z ?_)))))
 replace H:Hd _ _ _ [blk r (Bc pv key (.slice A1 vals.length c2) fuel pos steps halted sv g tv mv) 288,Y AY sv stk] [Aa Bk (.slice A1 vals.length c2) vals]:=H
 refine Ab (Ab (Ae (Ad U (V U U (AI U U) (V U U (Aj U Ka U) (V U U (Ao U KU U (H.cellI 0 U U)) (V U U (A8 U RJ U) (V U U (Bv U U U) (Ac (Z ?_))))))))))
 refine Az U (fun h6=>?_) (fun h6=>?_)
 ·refine Ab ?_
  have hv0:vals=[]:=List.eq_nil_of_length_eq_zero (by omega)
  refine Ae (Ad U (sc (FY 0) H l0 U U (At FN U U) ?_))
  rintro _ _ w ⟨rfl,rfl⟩ H
  refine BU (parts:=[(0,.tmp 11)]) (vs:=[.agg #[.bool false,.int .i64 0,.string ⟨#[]⟩]]) (cs:=[.bool false,.int .i64 0,.string ⟨#[]⟩]) U U U BY Dk U (by decide) (by decide) U U H (fun b7 w H=>?_)
  replace H:=H.h1 (A:=blk b7 [.bool false,.int .i64 0,.string ⟨#[]⟩] 284)|>.p2|>.p2
  refine sc (D_ r pv key (.slice A1 vals.length c2) fuel pos steps halted sv g tv mv stk (.slice (some ⟨b7,0,none⟩) 1 1) [(⟨false,0,⟨#[]⟩⟩:AP)] (by omega) (Nat.le_of_ble_eq_true U)) H (lA 0 U (fun F h=>Ch h rfl (by decide) (AZ.flat_eq.2 U)) l0) U U (At D8 U U) ?_
  rintro _ _ w ⟨s8,rfl,rfl⟩ H
  replace H:=H.h2 (A:=blk r (Bc pv key (.slice A1 vals.length c2) fuel pos steps halted s8 g tv mv) 288) (B:=Y AY s8 ((Bj stk [(⟨false,0,⟨#[]⟩⟩:AP)]).2))
  refine Ad U (Ac (Z (Ap (AA (Aq U U ?_)))))
  replace H:=H.k2
  have e:Fk stk vals=((Bj stk [Db 0]).1,(Bj stk [Db 0]).2,[]):=by rw [hv0];rfl
  exact Am ⟨s8,.slice A1 vals.length c2,by rw [e]<;>rfl,by rw [e,hv0]<;>exact C4.refl _ _ _,by rw [e]<;>rfl⟩ H
 refine Aw (Z (Ab (Ae (Ad U (V U U (AI U U) (V U U (Aj U Ka U) (V U U (Ao U KU U (H.cellI 0 U U)) ?_)))))))
 obtain ⟨x9,hx10⟩:∃ z9,vals[0]?=some z9:=⟨_,List.getElem?_eq_getElem (show 0<vals.length by omega)⟩
 have th11:=H.thR 0 rfl hx10
 refine V U U (Ba (p:=AT A1+0*1) U Hj U U (by omega) (by omega) th11 (by omega)) (V U U (Ao U BV U (H.elR 0 U hx10 (q:=0) U U)) (Ad U (Ac (Z (Ab (Ae (Ah 2 U (V U U (AI U U) (V U U (Aj U Ka U) (V U U (Ao U KU U (H.cellI 0 U U)) (V U U (Js U Hj U U (by omega) (by omega) U) (V U U (AI U U) (V U U (Aj U Ka U) (Bo U U U KU U U H U (Nat.le_of_ble_eq_true U) (fun u hu=>by simp [Value.cells] at hu;subst hu;rfl) (fun w H=>?_)))))))))))))))
 replace H:=H.h1 (A:=blk r (Bc pv key (.slice (DG A1 c2 1 1) (vals.length - 1) (c2 - 1)) fuel pos steps halted sv g tv mv) 288)
 refine Ac (Z (Ab (Ae (Ah 2 U (sc (IT x9) H l0 U U (At Ir U U) ?_)))))
 rintro _ _ w ⟨rfl,rfl⟩ H
 refine sc (FY 1) H l0 U U (At FN U U) ?_
 rintro _ _ w ⟨rfl,rfl⟩ H
 refine BU (parts:=[(0,.tmp 30),(1,.tmp 31)]) (vs:=[.agg #[.bool true,.int .i64 0,.string x9],.agg #[.bool false,.int .i64 1,.string ⟨#[]⟩]]) (cs:=[.bool true,.int .i64 0,.string x9,.bool false,.int .i64 1,.string ⟨#[]⟩]) U U U BY Dk U (by decide) (by decide) U U H (fun b12 w H=>?_)
 replace H:=H.h1 (A:=blk b12 [.bool true,.int .i64 0,.string x9,.bool false,.int .i64 1,.string ⟨#[]⟩] 284)|>.p2|>.p2
 refine sc (D_ r pv key (.slice (DG A1 c2 1 1) (vals.length - 1) (c2 - 1)) fuel pos steps halted sv g tv mv stk (.slice (some ⟨b12,0,none⟩) 2 2) [(⟨true,0,x9⟩:AP),(⟨false,1,⟨#[]⟩⟩:AP)] (by omega) (Nat.le_of_ble_eq_true U)) H (lA 0 U (fun F h=>Ch h rfl (by decide) (AZ.flat_eq.2 U)) l0) U U (At D8 U U) ?_
 rintro _ _ w ⟨s13,rfl,rfl⟩ H
 replace H:=H.h2 (A:=blk r (Bc pv key (.slice (DG A1 c2 1 1) (vals.length - 1) (c2 - 1)) fuel pos steps halted s13 g tv mv) 288) (B:=Y AY s13 ((Bj stk [(⟨true,0,x9⟩:AP),(⟨false,1,⟨#[]⟩⟩:AP)]).2))
 refine Ad U (Ac (Z (Ap (Aq U U ?_))))
 replace H:=H.k2
 have e:=WT (stk:=stk) hx10
 exact Am ⟨s13,.slice (DG A1 c2 1 1) (vals.length - 1) (c2 - 1),by rw [e]<;>rfl,by rw [e];exact fun w F h=>IH h (by omega),by rw [e]<;>rfl⟩ H
theorem TA (r:Nat) (pv:Value) (key:ByteArray) (vv:Value) (fuel pos steps:Int) (halted:Bool) (sv:Value) (g:Nat→AP) (tv mv:Value) (told:List Al) (ek ew:ByteArray) (hto:told.length≤40):
    Cn Tryz.prog 276 [.pointer (some ⟨r,0,none⟩),.string ek,.string ew] [blk r (Bc pv key vv fuel pos steps halted sv g tv mv) 288,Y Ag tv told] [] (fun v Bs=>∃ tv2,v=.int .i64 (DP told ek ew).1∧Bs=[blk r (Bc pv key vv fuel pos steps halted sv g tv2 mv) 288,Y Ag tv2 (DP told ek ew).2]):=by
 intro w0 F0 H
 obtain ⟨A1,c2,rfl,hc3,hm4,hp5⟩:=H.fA 1 rfl
 refine enter Tryz.func276 U U (Nat.le_of_ble_eq_true U) (Ab (Ae (Ad U (Ac (Z ?_)))))
 replace H:Hd _ _ _ [blk r (Bc pv key vv fuel pos steps halted sv g (.slice A1 told.length c2) mv) 288,Y Ag (.slice A1 told.length c2) told] []:=H
 refine Ab (AW (Ab (Ae (Ad U (V U U (Dn U Ct U) (V U U (Ca U U U) (Ad U (Ac (Z ?_)))))))))
 refine Az U (fun h6=>?_) (fun h6=>?_)
 ·refine Ab (Ae (Ad U (Ac (Z (Ap (Bb (AA (Aq U U ?_))))))))
  have e:=Tw (told:=told) (k:=ek) (v:=ew) h6
  exact Am ⟨_,by rw [e]<;>rfl,by rw [e]<;>rfl⟩ H
 refine Ab (Ae (Ad U (V U U (AI U U) (V U U (Aj U Kb U) (V U U (Ao U DU U (H.cellI 0 U U)) (V U U (A8 U CH U) (V U U (Cw U U U) (Ad U (Ac (Z ?_))))))))))
 refine Az U (fun h7=>?_) (fun h7=>?_)
 ·refine Ab (Ae (Ad U (Ac (Z (Ap (Bb (AA (Aq U U ?_))))))))
  have e:=Tz (told:=told) (k:=ek) (v:=ew) h6 (by omega)
  exact Am ⟨_,by rw [e]<;>rfl,by rw [e]<;>rfl⟩ H
 refine Aw (A_ (Z (Ab (Ae (Ah 2 U (V U U (AI U U) (V U U (Aj U Kb U) (V U U (Ao U DU U (H.cellI 0 U U)) (Ah 2 U (V U U (CM (parts:=[(0,.tmp 23),(1,.tmp 24)]) (vs:=[.string ek,.string ew]) (cs:=[.string ek,.string ew]) U JN U U) (BU (parts:=[(0,.tmp 25)]) (vs:=[.agg #[.string ek,.string ew]]) (cs:=[.string ek,.string ew]) U U U BA CT U (by decide) (by decide) U U H (fun b8 w H=>?_))))))))))))
 replace H:=H.p2
 refine CG (xs:=told) (ys:=[(⟨ek,ew⟩:Al)]) U U U BA CT U (by decide) U U H (by first |omega|(simp only [List.length_cons,List.length_nil];omega)) (fun F hA hR=>Ch (hA _ (List.mem_of_getElem? (i:=0) U)) U (by decide) (AZ.flat_eq.2 U)) (fun v9 w H=>(V U U (AI U U) (V U U (Aj U Kb U) ?_)))
 obtain ⟨A10,c11,rfl,hc12,hm13,hp14⟩:=H.fA 0 rfl
 replace H:=H.p2
 refine Bo U U U DU U U H U (Nat.le_of_ble_eq_true U) (fun u hu=>by simp [Value.cells] at hu;subst hu;rfl) (fun w H=>?_)
 replace H:Hd _ _ _ [blk r (Bc pv key vv fuel pos steps halted sv g (.slice A10 ((told++[(⟨ek,ew⟩:Al)]).length) c11) mv) 288,Y Ag (.slice A10 ((told++[(⟨ek,ew⟩:Al)]).length) c11) (told++[(⟨ek,ew⟩:Al)]),blk b8 [.string ek,.string ew] 106] []:=H
 refine Ac (Z (Ab (Ae (Ad U (Ac (Z (Ap (Aq U U ?_))))))))
 replace H:=H.k2
 have e:=Tx (told:=told) (k:=ek) (v:=ew) h6 (by omega)
 exact Am ⟨_,by rw [e]<;>rfl,by rw [e]<;>rfl⟩ H
section
variable {D:Bg} {key:ByteArray} {m:VM} {i:BG} {v:List AP}
theorem Lo (h:(Ay i.op m.stk).1≠0):BJ D key m i=(m,(Ay i.op m.stk).1):=if_pos h
theorem Df (h:¬ (Ay i.op m.stk).1≠0):BJ D key m i=B4 D key {m with stk:=(Ay i.op m.stk).2.1} i (Ay i.op m.stk).2.2:=if_neg h
theorem Nc (h:i.op=0):B4 D key m i v=({m with halted:=true},0):=by unfold B4;rw [h];rfl
theorem Nd (h:i.op=1):B4 D key m i v=C1 m [Db i.a]:=by unfold B4;rw [h];rfl
theorem Nn (h:i.op=2):B4 D key m i v=C1 m [EI i.s]:=by unfold B4;rw [h];rfl
theorem Nr (h:i.op=3):B4 D key m i v=C1 m [v.getD 0 Cz,v.getD 0 Cz]:=by unfold B4;rw [h];rfl
theorem Ns (h:i.op=4):B4 D key m i v=(m,0):=by unfold B4;rw [h];rfl
theorem Nt (h:i.op=5):B4 D key m i v=C1 m [v.getD 1 Cz,v.getD 0 Cz]:=by unfold B4;rw [h];rfl
theorem Nu (h:i.op=6):B4 D key m i v=C1 m [EI key]:=by unfold B4;rw [h];rfl
theorem Nv (h:i.op=7):B4 D key m i v=G7 m:=by unfold B4;rw [h];rfl
theorem I1 (h:i.op=8∨i.op=9∨i.op=10∨i.op=11):B4 D key m i v=C1 m [BD i.op (v.getD 0 Cz).n (v.getD 1 Cz).n]:=by
 unfold B4
 rcases h with h|h|h|h<;>(rw [h];rfl)
theorem Nf (h:i.op=12):B4 D key m i v=C1 m [P4 (EG (v.getD 0 Cz) (v.getD 1 Cz))]:=by unfold B4;rw [h];rfl
theorem Ng (h:i.op=13):B4 D key m i v=C1 m [EI ((v.getD 0 Cz).b++(v.getD 1 Cz).b)]:=by unfold B4;rw [h];rfl
theorem Nh (h:i.op=14):B4 D key m i v=C1 m [Db (v.getD 0 Cz).b.size]:=by unfold B4;rw [h];rfl
theorem Ni (h:i.op=15):B4 D key m i v=C1 m [Db (EL (v.getD 0 Cz).b (v.getD 1 Cz).n)]:=by unfold B4;rw [h];rfl
theorem Nj (h:i.op=16):B4 D key m i v=C1 m [EI (Fy (v.getD 0 Cz).b (v.getD 1 Cz).n (v.getD 2 Cz).n)]:=by unfold B4;rw [h];rfl
theorem Nk (h:i.op=17):B4 D key m i v=C1 m [EI (D.dig (v.getD 0 Cz).n)]:=by unfold B4;rw [h];rfl
theorem Nl (h:i.op=18):B4 D key m i v=C1 m [Db (D.num (v.getD 0 Cz).b)]:=by unfold B4;rw [h];rfl
theorem Nm (h:i.op=19):B4 D key m i v=({m with pos:=i.a},0):=by unfold B4;rw [h];rfl
theorem Lb (h:i.op=20):B4 D key m i v=(if (v.getD 0 Cz).n≠0 then {m with pos:=i.a} else m,0):=by unfold B4;rw [h];rfl
theorem No (h:i.op=21):B4 D key m i v=C1 m [m.g i.a.toNat]:=by unfold B4;rw [h];rfl
theorem Np (h:i.op=22):B4 D key m i v=({m with g:=IK m.g i.a.toNat (v.getD 0 Cz)},0):=by unfold B4;rw [h];rfl
theorem Nq (h:i.op=23):B4 D key m i v=({m with told:=(DP m.told (v.getD 0 Cz).b (v.getD 1 Cz).b).2},(DP m.told (v.getD 0 Cz).b (v.getD 1 Cz).b).1):=by unfold B4;rw [h];rfl
theorem WM {op:Int} {stk:List AP} (h:(Ay op stk).1≠0):(Ay op stk).2.1=stk:=by
 by_cases h1:stk.length<(Be op).size
 ·rw [Ml h1]
 ·cases h2:E4 (Be op).data.toList (stk.drop (stk.length - (Be op).size)) with
  |false=>rw [Jn h1 h2]
  |true=>rw [Mj h1 h2] at h;exact absurd rfl h
theorem Dc {k:Nat} {x:AP} (h:v[k]?=some x):v.getD k Cz=x:=by rw [List.getD_eq_getElem?_getD,h];rfl
theorem PX:G7 m=({m with stk:=(Fk m.stk m.vals).2.1,vals:=(Fk m.stk m.vals).2.2},(Fk m.stk m.vals).1):=by
 unfold G7
 split
 ·rename_i h
  rw [h]
  cases m
  simp only at h
  subst h
  rfl
 ·rename_i x xs h
  rw [h]
  rfl
end
structure Ey (n:Int) (m:VM):Prop where
 ok:(∀ v∈m.stk,E1 v)∧∀ k,E1 (m.g k)
 len:m.stk.length≤16
 told:m.told.length≤40
 pos:0≤m.pos∧m.pos≤n
theorem XV {stk vs:List AP} (h:(Bj stk vs).1=0):(Bj stk vs).2=stk++vs∧∀ v∈vs,EM v=false:=by
 unfold Bj at h ⊢
 split at h
 ·cases h
 ·rename_i h1
  rw [if_neg h1]
  split at h
  ·cases h
  ·rename_i h2
   rw [if_neg h2]
   refine ⟨rfl,fun v hv=>?_⟩
   cases hb:EM v with
   |false=>rfl
   |true=>exact absurd (List.any_eq_true.2 ⟨v,hv,hb⟩) h1
theorem Su {v:AP} (h:EM v=false) (ht:v.t=true):v.b.size≤64:=by
 unfold EM at h
 rw [ht,Bool.true_and] at h
 have:=of_decide_eq_false h
 omega
theorem ED {n:Int} {m:VM} {vs:List AP} (hm:Ey n m) (h:(C1 m vs).2=0) (hv:∀ v∈vs,Ax v.n∧(v.t=false→v.b.size≤64)):Ey n (C1 m vs).1:=by
 obtain ⟨h1,h2⟩:=XV (stk:=m.stk) (vs:=vs) h
 refine ⟨⟨fun v hv'=>?_,hm.ok.2⟩,?_,hm.told,hm.pos⟩
 ·have hv2:v∈(Bj m.stk vs).2:=hv'
  rw [h1] at hv2
  rcases List.mem_append.1 hv2 with h3|h3
  ·exact hm.ok.1 v h3
  ·refine ⟨(hv v h3).1,?_⟩
   cases ht:v.t with
   |false=>exact (hv v h3).2 ht
   |true=>exact Su (h2 v h3) ht
 ·exact XU _ _ hm.len
theorem PY:(⟨#[]⟩:ByteArray).size≤64:=by decide
theorem Jf:Ax 0:=by unfold Ax;decide
theorem Ms:E1 Cz:=⟨Jf,PY⟩
theorem HM {n:Int} (h:Ax n):∀ v∈[Db n],Ax v.n∧(v.t=false→v.b.size≤64):=by
 intro v hv
 rw [List.mem_singleton.1 hv]
 exact ⟨h,fun _=>PY⟩
theorem Iv (s:ByteArray):∀ v∈[EI s],Ax v.n∧(v.t=false→v.b.size≤64):=by
 intro v hv
 rw [List.mem_singleton.1 hv]
 exact ⟨Jf,fun h=>by cases h⟩
theorem Mr {v:AP} (h:E1 v):Ax v.n∧(v.t=false→v.b.size≤64):=⟨h.1,fun _=>h.2⟩
theorem Mq {v:List AP} (h:∀ x∈v,E1 x) (k:Nat):E1 (v.getD k Cz):=by
 rw [List.getD_eq_getElem?_getD]
 cases hk:v[k]? with
 |none=>exact Ms
 |some x=>exact h x (B6 hk)
theorem R_ (s:ByteArray) (i:Int):Ax (EL s i):=by
 unfold EL
 split
 ·unfold Ax;omega
 ·have:=UInt8.toNat_lt (s[i.toNat]?.getD 0)
  unfold Ax
  omega
theorem UK {D:Bg} (hD:∀ s:ByteArray,Ax (D.num s)) {key:ByteArray} {n:Int} {m:VM} {i:BG} {v:List AP} (hm:Ey n m) (hi:BL i n) (ha:Ax i.a) (hv:∀ x∈v,E1 x) (h:(B4 D key m i v).2=0):Ey n (B4 D key m i v).1:=by
 have h0:=Mq hv 0
 have h1:=Mq hv 1
 have g1:=hi.1
 have g2:=hi.2.1
 have two:∀ {a b:AP},E1 a→E1 b→∀ x∈[a,b],Ax x.n∧(x.t=false→x.b.size≤64):=by
  intro a b pa pb x hx
  rcases List.mem_cons.1 hx with rfl|hx
  ·exact Mr pa
  ·rw [List.mem_singleton.1 hx];exact Mr pb
 have one:∀ {a:AP},E1 a→∀ x∈[a],Ax x.n∧(x.t=false→x.b.size≤64):=by
  intro a pa x hx
  rw [List.mem_singleton.1 hx];exact Mr pa
 have bit:∀ b:Bool,Ax (if b then 1 else 0):=by intro b;cases b<;>(unfold Ax;decide)
 rcases (show i.op=0∨i.op=1∨i.op=2∨i.op=3∨i.op=4∨i.op=5∨i.op=6∨i.op=7∨(i.op=8∨i.op=9∨i.op=10∨i.op=11)∨i.op=12∨i.op=13∨i.op=14∨i.op=15∨i.op=16∨i.op=17∨i.op=18∨i.op=19∨i.op=20∨i.op=21∨i.op=22∨i.op=23 by omega) with
  e|e|e|e|e|e|e|e|e|e|e|e|e|e|e|e|e|e|e|e|e
 ·rw [Nc e] at h ⊢;exact ⟨hm.ok,hm.len,hm.told,hm.pos⟩
 ·rw [Nd e] at h ⊢;exact ED hm h (HM ha)
 ·rw [Nn e] at h ⊢;exact ED hm h (Iv _)
 ·rw [Nr e] at h ⊢;exact ED hm h (two h0 h0)
 ·rw [Ns e] at h ⊢;exact hm
 ·rw [Nt e] at h ⊢;exact ED hm h (two h1 h0)
 ·rw [Nu e] at h ⊢;exact ED hm h (Iv _)
 ·rw [Nv e] at h ⊢
  unfold G7 at h ⊢
  split at h
  ·exact ED hm h (HM (by unfold Ax;omega))
  ·rename_i x xs hx
   have hm2:Ey n {m with vals:=xs}:=⟨hm.ok,hm.len,hm.told,hm.pos⟩
   refine ED hm2 h fun y hy=>?_
   rcases List.mem_cons.1 hy with rfl|hy
   ·exact Iv x _ (List.mem_singleton.2 U)
   ·exact HM (n:=1) (by unfold Ax;omega) y hy
 ·rw [I1 e] at h ⊢;exact ED hm h (one (Xc _ _ _))
 ·rw [Nf e] at h ⊢;exact ED hm h (HM (bit _))
 ·rw [Ng e] at h ⊢;exact ED hm h (Iv _)
 ·rw [Nh e] at h ⊢;exact ED hm h (HM (by have:=h0.2;unfold Ax;omega))
 ·rw [Ni e] at h ⊢;exact ED hm h (HM (R_ _ _))
 ·rw [Nj e] at h ⊢;exact ED hm h (Iv _)
 ·rw [Nk e] at h ⊢;exact ED hm h (Iv _)
 ·rw [Nl e] at h ⊢;exact ED hm h (HM (hD _))
 ·rw [Nm e] at h ⊢
  have:=hi.2.2.2.2.1 (.inl e)
  exact ⟨hm.ok,hm.len,hm.told,⟨this.1,this.2.1⟩⟩
 ·rw [Lb e] at h ⊢
  have:=hi.2.2.2.2.1 (.inr e)
  split
  ·exact ⟨hm.ok,hm.len,hm.told,⟨this.1,this.2.1⟩⟩
  ·exact hm
 ·rw [No e] at h ⊢;exact ED hm h (one (hm.ok.2 _))
 ·rw [Np e] at h ⊢
  refine ⟨⟨hm.ok.1,fun k=>?_⟩,hm.len,hm.told,hm.pos⟩
  show E1 (if k=i.a.toNat then v.getD 0 Cz else m.g k)
  split
  ·exact h0
  ·exact hm.ok.2 k
 ·rw [Nq e] at h ⊢
  refine ⟨hm.ok,hm.len,?_,hm.pos⟩
  show (DP m.told (v.getD 0 Cz).b (v.getD 1 Cz).b).2.length≤40
  have:=hm.told
  unfold DP
  split
  ·exact this
  ·split
   ·exact this
   ·simp only [List.length_append,List.length_cons,List.length_nil];omega
theorem OW {D:Bg} (hD:∀ s:ByteArray,Ax (D.num s)) {key:ByteArray} {n:Int} {m:VM} {i:BG} (hm:Ey n m) (hi:BL i n) (ha:Ax i.a) (h:(BJ D key m i).2=0):Ey n (BJ D key m i).1:=by
 by_cases hN:(Ay i.op m.stk).1≠0
 ·rw [Lo hN] at h;exact absurd h hN
 ·rw [Df hN] at h ⊢
  obtain ⟨l1,l2,l3,l4⟩:=Mk (Classical.not_not.1 hN)
  exact UK hD ⟨⟨fun v hv=>hm.ok.1 v (l4 v hv),hm.ok.2⟩,Nat.le_trans l2 hm.len,hm.told,hm.pos⟩ hi ha (fun x hx=>hm.ok.1 x (l3 x hx)) h
section
variable {D:Bg} {p:List BG} {key:ByteArray} {m:VM} {i:BG}
theorem MA (k:Nat) (h:¬ (m.pos<p.length∧m.halted=false)):CC D p key k m=(m,0):=by
 cases k<;>exact if_neg h
theorem XM (h:m.pos<p.length∧m.halted=false):CC D p key 0 m=(m,3):=if_pos h
theorem Qi {k:Nat} (h:m.pos<p.length∧m.halted=false) (hi:p[m.pos.toNat]?=some i) (hw:(BJ D key {m with pos:=m.pos+1} i).2≠0):CC D p key (k+1) m=BJ D key {m with pos:=m.pos+1} i:=by
 unfold CC
 rw [if_pos h,hi]
 exact if_pos hw
theorem Qj {k:Nat} (h:m.pos<p.length∧m.halted=false) (hi:p[m.pos.toNat]?=some i) (hw:¬ (BJ D key {m with pos:=m.pos+1} i).2≠0):CC D p key (k+1) m=CC D p key k (BJ D key {m with pos:=m.pos+1} i).1:=by
 conv=>lhs;unfold CC
 rw [if_pos h,hi]
 exact if_neg hw
end
theorem UJ (n:Nat) (vals:List ByteArray):Ey n (Dt vals) where
 ok:=⟨fun v hv=>(by cases hv),fun _=>Ms⟩
 len:=Nat.zero_le _
 told:=Nat.zero_le _
 pos:=⟨Int.le_refl 0,Int.natCast_nonneg n⟩
theorem Ww {xs:List BG} (h:Du xs<0):∀ x∈xs,BL x xs.length:=by
 by_cases hl:xs.length≤40
 ·exact (NC hl).1 h
 ·exfalso
  unfold Du at h
  split at h
  ·omega
  ·rw [if_pos (by omega)] at h
   omega
theorem UL {n:Int} {m:VM} (h:Ey n m) (hp:m.pos<n):Ey n {m with pos:=m.pos+1}:=⟨h.ok,h.len,h.told,⟨by have:=h.pos;show 0≤m.pos+1;omega,by show m.pos+1≤n;omega⟩⟩
def LN (P:Program) (name:String) (Q:Array Value→Prop):SP where
 P w F:=∃ g,P.globalNamed name=some g∧F g∧∃ cs,w.var? P name=some cs∧Q cs
 loc:=fun ⟨g,h1,h2,cs,h3,h4⟩ hk=>⟨g,h1,h2,cs,by
  unfold World.var? at h3 ⊢
  rw [h1] at h3 ⊢
  simp only [Option.bind_some] at h3 ⊢
  rw [hk g h2]
  exact h3,h4⟩
 mono:=fun ⟨g,h1,h2,h3⟩ hs=>⟨g,h1,hs g h2,h3⟩
def NL (A B:SP):SP where
 P w F:=A.P w F∧B.P w F
 loc:=fun ⟨a,b⟩ hk=>⟨SP.loc _ a hk,SP.loc _ b hk⟩
 mono:=fun ⟨a,b⟩ hs=>⟨SP.mono _ a hs,SP.mono _ b hs⟩
section
variable {w0 w w':World} {F0:AN} {As Rs:List SP}
theorem Hd.after (H:Hd w0 F0 w As Rs) (ub:B1 none_ w w'):Hd w0 F0 w' As Rs:=by
 have h:Hd w0 F0 w' (C0 True::As) Rs:=H.new ub (F':=none_) trivial (fun _ h=>h.elim)
 exact h.drop
theorem MZ (h:Go.RowKit.Below w.heap.size w w'):B1 none_ w w':=⟨h.os,h.tape,h.output,h.size,fun k hk _=>h.block k hk⟩
theorem aG (w:World) (k:Nat) (os:Array Obj):B1 none_ w (Sort.grow (w.drewN k) os):=⟨rfl,rfl,rfl,by simp [Sort.grow],fun i hi _=>by
 show (w.heap++os)[i]?=_
 rw [Array.getElem?_append_left hi]⟩
end
/-! ### Calls that were put off -/
def K9 (P:Program) (f:FuncId) (args:List Value) (As Rs:List SP) (T:Value→List SP→Prop):Prop:=
 ∀ w F u,Hd w F w As Rs→CallsD P f args.toArray u w fun e u' w'=>u'=u∧H7 (fun v w'=>∃ Bs,T v Bs∧Hd w F w' Bs Rs) e w'
theorem Oe {P:Program} {n:Nat} {w:World} {f:FuncId} {fn:Func} {c:Code} {args:List Value} {u:FrameMode} {R:Ending→World→Prop} (hf:P.funcs[f]?=some fn) (hb:fn.body=some c) (hn:fn.ntmps=n) (hl:args.length≤n)
  (h:WC P c (bodyPost P fn R) n (Ie 0 args) w):CallsD P f args.toArray u w fun e u' w'=>u'=u∧R e w':=by
 refine callsD_of_wp hf hb (h _ ⟨rfl,?_,?_⟩)
 ·simp only [Array.size_append,List.size_toArray,Array.size_replicate,hn]
  omega
 ·intro s v hs
  obtain ⟨_,h2⟩:=L_ args 0 s v hs
  have hlt:s<args.length:=by
   rcases Nat.lt_or_ge s args.length with h'|h'
   ·exact h'
   ·simp [List.getElem?_eq_none h'] at h2
  refine ⟨?_,by omega⟩
  have h3:args[s]?=some v:=by simpa using h2
  simp [Array.getD_eq_getD_getElem?,Array.getElem?_append,hlt]
  simpa [List.getElem?_eq_getElem hlt] using h3
theorem JS {P:Program} {w0 w:World} {F0:AN} {As Rs Cs Ss:List SP} {f:FuncId} {args:List Value} {u:FrameMode} {T:Value→List SP→Prop} (hc:K9 P f args Cs Ss T) (H:Hd w0 F0 w (Cs++As) Rs) (hl:Ft w As Rs Ss):
  CallsD P f args.toArray u w fun e u' w'=>u'=u∧H7 (fun v w'=>∃ Bs,T v Bs∧Hd w0 F0 w' (Bs++As) Rs) e w':=by
 obtain ⟨Fc,h1,h2⟩:=H.frame hl
 refine (hc w Fc u h1).mono ?_
 rintro e u' w' ⟨hu,v,rfl,Bs,hT,hB⟩
 exact ⟨hu,v,rfl,Bs,hT,h2 w' Bs hB⟩
/-! ### Digits that are made once -/
def Ib (n:Int):ByteArray:=⟨(Lib.itoa n).toArray⟩
def EN (n:Int) (c t:Nat):SP:=ex fun f:Value=>blk c [.int .u32 1,.int .i32 0,.int .u32 0,.int .u32 1,f,.string (Ib n)] t
def Eo (p:Int×Nat):Int×Value:=(p.1,.pointer (some ⟨p.2,0,none⟩))
def DO (t:Nat) (kvs:List (Int×Nat)):SP:=CO (kvs.map fun p=>EN p.1 p.2 t)
def JV (t b:Nat):SP:=ex fun kvs:List (Int×Nat)=>CO [D0 b (kvs.map Eo),DO t kvs]
section
variable {w0 w w':World} {F0:AN} {As Rs:List SP} {t b:Nat}
theorem Hd.ex_out {α:Sort _} {A:α→SP} (H:Hd w0 F0 w (ex A::As) Rs):∃ a,Hd w0 F0 w (A a::As) Rs:=by
 obtain ⟨F,G,⟨F1,F2,h1,h2,h3,⟨a,ha⟩,s⟩,r,d,f,g,u⟩:=H
 exact ⟨a,F,G,⟨F1,F2,h1,h2,h3,ha,s⟩,r,d,f,g,u⟩
theorem Hd.ex_in {α:Sort _} {A:α→SP} (a:α) (H:Hd w0 F0 w (A a::As) Rs):Hd w0 F0 w (ex A::As) Rs:=H.turn fun _ h=>⟨a,h⟩
theorem Tp (H:Hd w0 F0 w (JV t b::As) Rs):∃ kvs:List (Int×Nat),Hd w0 F0 w (D0 b (kvs.map Eo)::DO t kvs::As) Rs:=by
 obtain ⟨kvs,h⟩:=H.ex_out
 exact ⟨kvs,h.open_ (Bs:=[D0 b (kvs.map Eo),DO t kvs]) fun F hF=>hF⟩
theorem Lm (kvs:List (Int×Nat)) (H:Hd w0 F0 w (D0 b (kvs.map Eo)::DO t kvs::As) Rs):Hd w0 F0 w (JV t b::As) Rs:=
 (Hd.shut (Bs:=[D0 b (kvs.map Eo),DO t kvs]) H fun F hF=>hF).ex_in kvs
theorem SL (H:Hd w0 F0 w As Rs):Hd w0 F0 w (DO t []::As) Rs:=Hd.shut (Bs:=[]) H fun F hF=>hF
theorem To {A:SP} (H:Hd w0 F0 w (A::D0 b []::As) Rs):Hd w0 F0 w (A::JV t b::As) Rs:=by
 have h1:Hd w0 F0 w (D0 b []::A::As) Rs:=H.perm (List.Perm.swap _ _ _)
 have h2:=(SL (t:=t) h1).perm (List.Perm.swap _ _ _)
 exact (Lm [] h2).perm (List.Perm.swap _ _ _)
theorem ZL {A B C:SP} (H:Hd w0 F0 w (A::B::C::As) Rs):Hd w0 F0 w (C::A::B::As) Rs:=H.perm (((List.Perm.swap C B As).cons A).trans (List.Perm.swap C A _))
theorem Nw {n:Int}:∀ {kvs:List (Int×Nat)} {v:Value},EA n (kvs.map Eo)=some v→∃ c,v=.pointer (some ⟨c,0,none⟩)∧(n,c)∈kvs
 |[],_,h=>by simp [EA] at h
 |p::kvs,v,h=>by
  simp only [List.map_cons,EA,Eo] at h
  split at h
  ·rename_i e
   refine ⟨p.2,(Option.some.inj h).symm,?_⟩
   rw [e]
   exact List.mem_cons_self ..
  ·obtain ⟨c,h1,h2⟩:=Nw h
   exact ⟨c,h1,List.mem_cons_of_mem _ h2⟩
theorem Nx {n:Int} {v:Value}:∀ {kvs:List (Int×Value)},EA n kvs=none→EA n (kvs++[(n,v)])=some v
 |[],_=>by simp [EA]
 |p::kvs,h=>by
  simp only [List.cons_append,EA] at h ⊢
  split at h
  ·cases h
  ·rename_i e
   rw [if_neg e]
   exact Nx h
theorem Ws (kvs:List (Int×Nat)) (n:Int) (b:Nat):(kvs++[(n,b)]).map Eo=kvs.map Eo++[(n,.pointer (some ⟨b,0,none⟩))]:=by simp [Eo]
theorem SN {kvs:List (Int×Nat)} {n:Int} {c:Nat} (hm:(n,c)∈kvs) (H:Hd w0 F0 w (DO t kvs::As) Rs):∃ rest:List (Int×Nat),Hd w0 F0 w (EN n c t::DO t rest::As) Rs∧∀ {w1:World} {F1:AN} {w2:World} {Bs Rs':List SP},Hd w1 F1 w2 (EN n c t::DO t rest::Bs) Rs'→Hd w1 F1 w2 (DO t kvs::Bs) Rs':=by
 obtain ⟨s,u,rfl⟩:=List.append_of_mem hm
 have hp:((s++(n,c)::u).map fun p=>EN p.1 p.2 t).Perm (EN n c t::((s++u).map fun p=>EN p.1 p.2 t)):=by
  rw [List.map_append,List.map_cons,List.map_append]
  exact List.perm_middle
 refine ⟨s++u,?_,?_⟩
 ·have h1:Hd w0 F0 w (CO (EN n c t::((s++u).map fun p=>EN p.1 p.2 t))::As) Rs:=H.turn fun F hF=>Cg.perm hp hF
  refine h1.open_ (Bs:=[EN n c t,DO t (s++u)]) fun F hF=>?_
  obtain ⟨F1,F2,a1,a2,a3,a,b⟩:=hF
  exact ⟨F1,F2,a1,a2,a3,a,F2,none_,fun _ h=>h,fun _ h=>h.elim,fun _ _ h=>h,b,trivial⟩
 ·intro w1 F1 w2 Bs Rs' H2
  refine Hd.shut (Bs:=[EN n c t,DO t (s++u)]) H2 fun F hF=>?_
  obtain ⟨F1,F2,a1,a2,a3,a,F3,F4,b1,b2,b3,b,_⟩:=hF
  exact Cg.perm hp.symm ⟨F1,F2,a1,a2,a3,a,Cg.mono b b1⟩
theorem SM {kvs:List (Int×Nat)} {n:Int} {c:Nat} (H:Hd w0 F0 w (EN n c t::DO t kvs::As) Rs):Hd w0 F0 w (DO t (kvs++[(n,c)])::As) Rs:=by
 have hp:((kvs++[(n,c)]).map fun p=>EN p.1 p.2 t).Perm (EN n c t::(kvs.map fun p=>EN p.1 p.2 t)):=by
  rw [List.map_append,List.map_cons,List.map_nil]
  exact List.perm_append_singleton ..
 refine Hd.shut (Bs:=[EN n c t,DO t kvs]) H fun F hF=>?_
 obtain ⟨F1,F2,a1,a2,a3,a,F3,F4,b1,b2,b3,b,_⟩:=hF
 exact Cg.perm hp.symm ⟨F1,F2,a1,a2,a3,a,Cg.mono b b1⟩
end
section
variable {P:Program} {n:Nat} {l:BF} {w w0:World} {F0:AN} {o:Oper} {x y:Operand} {t kt et:TypeId} {As Rs:List SP} {b:Nat} {kvs:List (Int×Value)} {v:Value}
theorem Kw (ho:o.op=.lookup t x y false) (hm:P.underlying t=some (.map kt et)) (hk:P.underlying kt=some (.int .i64)) {z:Value} (hz:CJ P et=some z) (hx:ev l x=some (.map (some b))) {k:Int} (hy:ev l y=some (.int .i64 k))
  (H:Hd w0 F0 w As Rs) (j:Nat) (hj:As[j]?=some (D0 b kvs)) (hv:(EA k kvs).getD z=v):Bx P n l w o v w:=hv▸X9 ho hm hk hz hx hy H j hj
end
def gl:SP:=NL (LN Tryz.prog "internal/strconv.uint64pow10" (fun cs=>cs=(Lib.pow10Tab.map fun z=>Value.int .u64 z).toArray)) (NL (LN Tryz.prog "strconv.ErrSyntax" (fun cs=>∃ tp p,cs=#[.iface tp p])) (LN Tryz.prog "strconv.ErrRange" (fun cs=>∃ tp p,cs=#[.iface tp p])))
def GA (s:ByteArray):Int:=match Lib.parseIntB 64 s.data.toList with
 |.ok v=>if Ib v=s then v else 0
 |_=>0
def dg:Bg:=⟨Ib,GA⟩
abbrev BQ (b:Nat):SP:=JV 234 b
theorem G8 (s:ByteArray):Ax (dg.num s):=by
 show Ax (GA s)
 unfold GA
 split
 ·rename_i v h
  have:=Lib.parseIntB_bounds h
  split
  ·unfold Ax;omega
  ·exact Jf
 ·exact Jf
theorem Ue (n:Int) (hn:Ax n):Cn Tryz.prog 326 [.int .i64 n,.int .i64 10] [] [gl] (fun v Bs=>v=.string (dg.dig n)∧Bs=[]):=by
 intro w F H
 have htab:Lib.TabIs Tryz.prog w "internal/strconv.uint64pow10" .u64 Lib.pow10Tab:=H.factR (List.mem_cons_self ..) fun F h=>by
  obtain ⟨⟨g,h1,h2,cs,h3,rfl⟩,_⟩:=h
  exact h3
 refine (Go.Proofs.Tryz.strconv_FormatInt_10 n hn.1 hn.2 w htab).mono ?_
 rintro e w' ⟨rfl,k,os,rfl⟩
 exact ⟨_,rfl,[],⟨rfl,rfl⟩,H.after (aG w k os)⟩
theorem XC (s:ByteArray) (hs:s.size≤64) (v:Int) (h:Lib.parseIntB 64 s.data.toList=.ok v):Cn Tryz.prog 305 [.string s,.int .i64 10,.int .i64 64] [] [gl] (fun r Bs=>r=.tuple #[.int .i64 v,.nilIface]∧Bs=[]):=by
 intro w F H
 refine (Go.Proofs.Tryz.strconv_ParseInt_10_at64_ok s (by omega) v h w).mono ?_
 rintro e w' ⟨rfl,hw⟩
 refine ⟨_,rfl,[],⟨rfl,rfl⟩,?_⟩
 rcases hw with rfl|⟨t,rfl⟩
 ·exact H
 ·exact H.after (MZ (Lib.bytesWorld_below ..))
theorem XB (s:ByteArray) (hs:s.size≤64) (h:∀ v,Lib.parseIntB 64 s.data.toList≠.ok v):Cn Tryz.prog 305 [.string s,.int .i64 10,.int .i64 64] [] [gl] (fun r Bs=>∃ x te pe,r=.tuple #[.int .i64 x,.iface te pe]∧Bs=[]):=by
 intro w F H
 obtain ⟨tp,p,hS⟩:∃ tp p,w.var? Tryz.prog "strconv.ErrSyntax" =some #[.iface tp p]:=H.factR (List.mem_cons_self ..) fun F h=>by
  obtain ⟨_,⟨g,h1,h2,cs,h3,tp,p,rfl⟩,_⟩:=h
  exact ⟨tp,p,h3⟩
 obtain ⟨tq,q,hR⟩:∃ tp p,w.var? Tryz.prog "strconv.ErrRange" =some #[.iface tp p]:=H.factR (List.mem_cons_self ..) fun F h=>by
  obtain ⟨_,_,⟨g,h1,h2,cs,h3,tp,p,rfl⟩⟩:=h
  exact ⟨tp,p,h3⟩
 rcases hh:Lib.parseIntB 64 s.data.toList with v|_|_
 ·exact absurd hh (h v)
 ·refine (Go.Proofs.Tryz.strconv_ParseInt_10_at64_syntax_var s (by omega) (fun e he=>by rw [hh] at he;subst he;exact ⟨fun v=>nofun,nofun⟩) tp p w hS).mono ?_
  rintro e w' ⟨N,rfl,_,_,hb⟩
  exact ⟨_,rfl,[],⟨_,_,_,rfl,rfl⟩,H.after (MZ hb)⟩
 ·refine (Go.Proofs.Tryz.strconv_ParseInt_10_at64_range_var s (by omega) hh tq q w hR).mono ?_
  rintro e w' ⟨N,rfl,_,_,hb⟩
  exact ⟨_,rfl,[],⟨_,_,_,rfl,rfl⟩,H.after (MZ hb)⟩
theorem N6 (n:Int) (hn:Ax n):
    Cn Tryz.prog 304 [.int .i64 n] [] [gl] (fun v Bs=>v=.string (dg.dig n)∧Bs=[]):=by
 intro w0 F0 H
 refine enter Tryz.func304 U U (Nat.le_of_ble_eq_true U) (Ab (Ae (Ad U (Ac (Z (Ab (Ae (Ad U (sc (Ue n (by assumption)) H (lR 0 U l0) U U (At VS U U) ?_)))))))))
 rintro _ _ w ⟨rfl,rfl⟩ H
 exact Ad U (Ac (Z (Ap (Aq U U (Am ⟨rfl,rfl⟩ H)))))
theorem W4 {s:ByteArray} (h:∀ v,Lib.parseIntB 64 s.data.toList≠.ok v):dg.num s=0:=by
 show GA s=0
 unfold GA
 split
 ·rename_i v hh
  exact absurd hh (h v)
 ·rfl
theorem W5 (s:ByteArray) (hs:s.size≤64):
    Cn Tryz.prog 275 [.string s] [] [gl] (fun v Bs=>v=.int .i64 (dg.num s)∧Bs=[]):=by
 intro w0 F0 H
 refine enter Tryz.func275 U U (Nat.le_of_ble_eq_true U) (Ab (Ae (Ad U (Ac (Z (Ab ?_))))))
 by_cases hok:∃ v,Lib.parseIntB 64 s.data.toList=.ok v
 ·refine Ae (Ad U ?_)
  obtain ⟨x0,hx0⟩:=hok
  have hxb:=Lib.parseIntB_bounds hx0
  have hx64:Ax x0:=by unfold Ax;omega
  refine sc (XC s hs x0 hx0) H (lR 0 U l0) U U (At Pp U U) ?_
  rintro _ _ w ⟨rfl,rfl⟩ H
  refine Ah 5 U (Ac (Z (Ab (Ab (Ae (Ad U (V U U (Qv U RG U (.inl ⟨rfl,rfl⟩)) (Ah 2 U (sc (N6 x0 (by assumption)) H (lR 0 U l0) U U (At Po U U) ?_)))))))))
  rintro _ _ w ⟨rfl,rfl⟩ H
  refine Ad U (V U U (MH U U U) (Ad U (Ac (Z ?_))))
  refine Az U (fun h1=>?_) (fun h1=>?_)
  ·refine Ab (Ae (Ad U (Ac (Z (Ap (AA (Aq U U ?_)))))))
   have e:dg.num s=0:=by show GA s=_;unfold GA;rw [hx0];exact if_neg h1
   exact Am ⟨by rw [e]<;>rfl,rfl⟩ H
  refine Aw (Z (Ab (Ae (Ah 2 U (Ac (Z (Ap (Aq U U ?_))))))))
  have e:dg.num s=x0:=by show GA s=_;unfold GA;rw [hx0];exact if_pos (Classical.not_not.1 h1)
  exact Am ⟨by rw [e]<;>rfl,rfl⟩ H
 refine Ae (Ad U (sc (XB s hs (fun v h=>hok ⟨v,h⟩)) H (lR 0 U l0) U U (At Pp U U) ?_))
 rintro _ _ w ⟨x0,te,pe,rfl,rfl⟩ H
 refine Ah 5 U (Ac (Z (Ab (Ab (Ae (Ad U (V U U (Qv U RG U (.inr ⟨_,_,rfl,rfl⟩)) (Ah 6 U (Ac (Z (B8 U (Ab (Ae (Ad U (Ac (Z (Ap (AA (Aq U U ?_)))))))))))))))))))
 have e:dg.num s=0:=W4 (fun v h=>hok ⟨v,h⟩)
 exact Am ⟨by rw [e]<;>rfl,rfl⟩ H
theorem NB (b:Bool):
    Cn Tryz.prog 187 [.bool b] [] [] (fun v Bs=>v=.int .u32 (if b=true then 1 else 0)∧Bs=[]):=by
 intro w0 F0 H
 refine enter Tryz.func187 U U (Nat.le_of_ble_eq_true U) (Ab (Ae (Ad U (Ac (Z (Ab (Ab (Ae (Ad U (Ac (Z ?_)))))))))))
 refine Dv (b:=b) U (fun h1=>?_) (fun h1=>?_)
 ·exact Ab (Ae (Ad U (Ac (Z (Ap (AA (Aq U U (Am ⟨by simp [h1],rfl⟩ H))))))))
 exact Aw (Z (Ab (Ae (Ad U (Ac (Z (Ap (Aq U U (Am ⟨by simp [h1],rfl⟩ H)))))))))
theorem MV (c:Nat) (d m:Int) (sm:Value) (md:Int) (fv:Value) (tx:ByteArray):
    Cn Tryz.prog 142 [.pointer (some ⟨c,3,none⟩),.bool true] [blk c [.int .u32 d,.int .i32 m,sm,.int .u32 md,fv,.string tx] 234] [] (fun v Bs=>v=.tuple #[]∧Bs=[blk c [.int .u32 d,.int .i32 m,sm,.int .u32 1,fv,.string tx] 234]):=by
 intro w0 F0 H
 refine enter Tryz.func142 U U (Nat.le_of_ble_eq_true U) (BP (.e 0 (.e 1 (.e 2 (.e 3 (.m 4 (.m 5 .z)))))) (fun w=>∃ Ar,Hd w0 F0 w (Ar) []) mo (by kernel_rfl) (fun w H=>⟨_,H⟩) H (fun w H=>(Au U (An U U U (fun w ⟨Ar,H⟩=>AI U U) (An U U U (fun w ⟨Ar,H⟩=>Aj U J9 U) (Au U (AK U (sc (NB true) H l0 U U (At Pd U U) ?_))))))))
 rintro _ _ w ⟨rfl,rfl⟩ H
 refine AH ⟨_,H⟩ (AK U (Rc Oj U U U U H U (fun w H=>?_)))
 replace H:Hd _ _ _ [blk c [.int .u32 d,.int .i32 m,sm,.int .u32 1,fv,.string tx] 234] []:=H
 exact AH ⟨_,H⟩ (BH (DQ U (Am ⟨rfl,rfl⟩ H)))
theorem Rz (c:Nat) (d m:Int) (sm:Value) (md:Int) (fv:Value) (tx:ByteArray):
    K9 Tryz.prog 142 [.pointer (some ⟨c,0,none⟩),.bool true] [blk c [.int .u32 d,.int .i32 m,sm,.int .u32 md,fv,.string tx] 234] [] (fun v Bs=>v=.tuple #[]∧Bs=[blk c [.int .u32 1,.int .i32 m,sm,.int .u32 md,fv,.string tx] 234]):=by
 intro w0 F0 ufm H
 refine Oe Tryz.func142 U U (Nat.le_of_ble_eq_true U) (BP (.e 0 (.e 1 (.e 2 (.e 3 (.m 4 (.m 5 .z)))))) (fun w=>∃ Ar,Hd w0 F0 w (Ar) []) mo (by kernel_rfl) (fun w H=>⟨_,H⟩) H (fun w H=>(Au U (An U U U (fun w ⟨Ar,H⟩=>AI U U) (An U U U (fun w ⟨Ar,H⟩=>Aj U J9 U) (Au U (AK U (sc (NB true) H l0 U U (At Pd U U) ?_))))))))
 rintro _ _ w ⟨rfl,rfl⟩ H
 refine AH ⟨_,H⟩ (AK U (Rc Oj U U U U H U (fun w H=>?_)))
 replace H:Hd _ _ _ [blk c [.int .u32 1,.int .i32 m,sm,.int .u32 md,fv,.string tx] 234] []:=H
 exact AH ⟨_,H⟩ (BH (DQ U (Am ⟨rfl,rfl⟩ H)))
theorem Ki (c:Nat) (m:Int) (sm:Value) (md:Int) (fv:Value) (tx:ByteArray):
    Cn Tryz.prog 144 [.pointer (some ⟨c,0,none⟩)] [] [blk c [.int .u32 0,.int .i32 m,sm,.int .u32 md,fv,.string tx] 234] (fun v Bs=>v=.bool false∧Bs=[]):=by
 intro w0 F0 H
 refine enter Tryz.func144 U U (Nat.le_of_ble_eq_true U) (Ab (Ae (Ad U (Ac (Z (Ab (Ae (Ad U (V U U (AI U U) (V U U (Aj U J9 U) (V U U (MF Ok U U (H.cellRI 0 U U)) (V U U (CN U U U) (Ad U (Ac (Z (Ap (Aq U U ?_)))))))))))))))))
 replace H:Hd _ _ _ [] [blk c [.int .u32 0,.int .i32 m,sm,.int .u32 md,fv,.string tx] 234]:=H
 exact Am ⟨rfl,rfl⟩ H
theorem V8 (c:Nat) (m:Int) (sm:Value) (md:Int) (fv:Value) (tx:ByteArray):
    Cn Tryz.prog 144 [.pointer (some ⟨c,0,none⟩)] [] [blk c [.int .u32 1,.int .i32 m,sm,.int .u32 md,fv,.string tx] 234] (fun v Bs=>v=.bool true∧Bs=[]):=by
 intro w0 F0 H
 refine enter Tryz.func144 U U (Nat.le_of_ble_eq_true U) (Ab (Ae (Ad U (Ac (Z (Ab (Ae (Ad U (V U U (AI U U) (V U U (Aj U J9 U) (V U U (MF Ok U U (H.cellRI 0 U U)) (V U U (CN U U U) (Ad U (Ac (Z (Ap (Aq U U ?_)))))))))))))))))
 replace H:Hd _ _ _ [] [blk c [.int .u32 1,.int .i32 m,sm,.int .u32 md,fv,.string tx] 234]:=H
 exact Am ⟨rfl,rfl⟩ H
theorem UE (c:Nat) (d:Int) (sm:Value) (md:Int) (fv:Value) (tx:ByteArray):
    Cn Tryz.prog 262 [.pointer (some ⟨c,1,none⟩)] [blk c [.int .u32 d,.int .i32 0,sm,.int .u32 md,fv,.string tx] 234] [] (fun v Bs=>v=.tuple #[]∧Bs=[blk c [.int .u32 d,.int .i32 1,sm,.int .u32 md,fv,.string tx] 234]):=by
 intro w0 F0 H
 refine enter Tryz.func262 U U (Nat.le_of_ble_eq_true U) (Ab (Ae (V U U (Kx Ol U U) (Ac (Z (Ab (Ab (Ae (Ad U (V U U (AI U U) (V U U (Aj U LE U) (Rb TP U U U U H U (fun w H=>?_)))))))))))))
 replace H:Hd _ _ _ [blk c [.int .u32 d,.int .i32 1,sm,.int .u32 md,fv,.string tx] 234] []:=H
 exact Ac (Z (B8 U (Ab (B8 U (Ab (Ae (V U U (Kx Om U U) (Ac (Z (Ae (Ad U (V U U (QD U RL RP P1 U (H.cellI 0 U U)) (V U U (Qz TQ U U) (Ac (Z (Ap (AA (ME U (Am ⟨rfl,rfl⟩ H)))))))))))))))))))
theorem PD (c:Nat) (d:Int) (sm:Value) (md:Int) (fv:Value) (tx:ByteArray):
    Cn Tryz.prog 241 [.pointer (some ⟨c,1,none⟩)] [blk c [.int .u32 d,.int .i32 0,sm,.int .u32 md,fv,.string tx] 234] [] (fun v Bs=>v=.tuple #[]∧Bs=[blk c [.int .u32 d,.int .i32 1,sm,.int .u32 md,fv,.string tx] 234]):=by
 intro w0 F0 H
 refine enter Tryz.func241 U U (Nat.le_of_ble_eq_true U) (Ae (Ad U (V U U (AI U U) (V U U (Aj U Ov U) (sc (UE c d sm md fv tx) H l0 U U (At VD U U) ?_)))))
 rintro _ _ w ⟨rfl,rfl⟩ H
 refine Ac (DQ U ?_)
 replace H:Hd _ _ _ [blk c [.int .u32 d,.int .i32 1,sm,.int .u32 md,fv,.string tx] 234] []:=H
 exact Am ⟨rfl,rfl⟩ H
theorem UP (c:Nat) (d:Int) (sm:Value) (md:Int) (fv:Value) (tx:ByteArray):
    Cn Tryz.prog 263 [.pointer (some ⟨c,1,none⟩)] [blk c [.int .u32 d,.int .i32 1,sm,.int .u32 md,fv,.string tx] 234] [] (fun v Bs=>v=.tuple #[]∧Bs=[blk c [.int .u32 d,.int .i32 0,sm,.int .u32 md,fv,.string tx] 234]):=by
 intro w0 F0 H
 refine enter Tryz.func263 U U (Nat.le_of_ble_eq_true U) (Ab (B8 U (Ab (Ae (Ad U (V U U (AI U U) (V U U (Aj U LE U) (V U U (Ao U Z7 U (H.cellI 0 U U)) (Ac (Z (Ab (Ae (Ad U (V U U (QD U RL RP P1 U (H.cellI 0 U U)) (V U U (Qz TR U U) (Ac (Z (Ae (V U U (Kx Ol U U) (Ac (Z (Ab (Ae (Ad U (V U U (AI U U) (V U U (Aj U LE U) (YT TT U U U U H U U (fun w H=>?_))))))))))))))))))))))))))))
 replace H:Hd _ _ _ [blk c [.int .u32 d,.int .i32 0,sm,.int .u32 md,fv,.string tx] 234] []:=H
 exact Ad U (Ac (Z (Ab (Ab (Ae (Ad U (V U U (CN U U U) (Ac (Z (B9 U (Aw (Z (Ae (V U U (Kx Om U U) (Ac (DQ U (Am ⟨rfl,rfl⟩ H)))))))))))))))))
theorem RO (c:Nat) (d:Int) (sm:Value) (md:Int) (fv:Value) (tx:ByteArray):
    K9 Tryz.prog 242 [.pointer (some ⟨c,1,none⟩)] [blk c [.int .u32 d,.int .i32 1,sm,.int .u32 md,fv,.string tx] 234] [] (fun v Bs=>v=.tuple #[]∧Bs=[blk c [.int .u32 d,.int .i32 0,sm,.int .u32 md,fv,.string tx] 234]):=by
 intro w0 F0 ufm H
 refine Oe Tryz.func242 U U (Nat.le_of_ble_eq_true U) (Ae (Ad U (V U U (AI U U) (V U U (Aj U Ov U) (sc (UP c d sm md fv tx) H l0 U U (At VE U U) ?_)))))
 rintro _ _ w ⟨rfl,rfl⟩ H
 refine Ac (DQ U ?_)
 replace H:Hd _ _ _ [blk c [.int .u32 d,.int .i32 0,sm,.int .u32 md,fv,.string tx] 234] []:=H
 exact Am ⟨rfl,rfl⟩ H
end Go.Proofs.YthgehekecfpikaaGreatDoor.X
