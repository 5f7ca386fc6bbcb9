/- NodeNone: texts XF2, XL, XL3, XU, XProg, XV, XV2, XH, XT, XT2, XT3, XT4, XPair, XMer, XMer2, XProg2, XRec, XV3, XV4, XV5, XG, XE, XJob, XJob2, XCfg, XWin, XCode, XMpr, XByte, XOb, XMprI, joined by a program of ours; what nothing names is left out. -/
import Derived.Test.YthhajcnbjiiclaaGreatDoorNodeNoneQ1
import Derived.Sort.Row
import Derived.Sort.Grow
import Derived.Sort.EncStr
import Derived.Lib.SlicesCompact
import Derived.WideLaws
import Derived.Sort.Walk0
import Derived.Defers
import Derived.Lib.LaidTab
import Derived.Lib.ItoaNum
import Derived.Lib.AppendIntMem
import Derived.KernelRfl
set_option linter.unusedVariables false
set_option linter.unusedSimpArgs false
set_option maxHeartbeats 8000000
namespace Go.Proofs.YthhajcnbjiiclaaGreatDoor.X
open Go
theorem S6:Ed Tryz.prog 103=some (#[.slice none 0 0,.int .i64 0,.slice none 0 0,.slice none 0 0,.slice none 0 0,.int .i64 0,.int .i64 0,.int .i64 0,.slice none 0 0,.int .i64 0,.int .i64 0,.int .i64 0,.int .i64 0,.slice none 0 0,.map none,.slice none 0 0,.int .u32 0],#[(0,12),(12,1),(13,1),(14,1),(15,1),(16,1)]):=by kernel_rfl
theorem S7:Ed Tryz.prog 109=some (#[.slice none 0 0,.int .i64 0],#[(0,1),(1,1)]):=by kernel_rfl
theorem S8:Ed Tryz.prog 115=some (#[.slice none 0 0,.int .i64 0,.bool false],#[(0,1),(1,1),(2,1)]):=by kernel_rfl
theorem LK:Ed Tryz.prog 122=some (#[.string ⟨#[]⟩,.string ⟨#[]⟩],#[(0,1),(1,1)]):=by kernel_rfl
theorem S9:Ed Tryz.prog 124=some (#[.int .i64 0,.int .i64 0,.string ⟨#[]⟩],#[(0,1),(1,1),(2,1)]):=by kernel_rfl
theorem S_:Ed Tryz.prog 197=some (#[.slice none 0 0,.int .i64 0,.slice none 0 0,.slice none 0 0,.slice none 0 0,.int .i64 0,.int .i64 0,.int .i64 0,.slice none 0 0,.int .i64 0,.int .i64 0,.int .i64 0,.int .i64 0,.int .i64 0,.bool false,.slice none 0 0,.bool false,.int .i64 0,.int .i64 0,.bool false,.slice none 0 0,.bool false,.int .i64 0,.int .i64 0,.bool false,.slice none 0 0,.bool false,.int .i64 0,.int .i64 0,.bool false,.slice none 0 0,.bool false,.int .i64 0,.int .i64 0,.bool false,.slice none 0 0,.bool false,.int .i64 0,.int .i64 0,.bool false,.slice none 0 0,.bool false,.int .i64 0,.int .i64 0,.pointer none,.slice none 0 0],#[(0,12),(12,1),(13,1),(14,30),(44,1),(45,1)]):=by kernel_rfl
theorem Ta:Ed Tryz.prog 254=some (#[.int .i64 0,.int .i64 0,.int .i64 0,.int .i64 0,.int .i64 0,.int .i64 0,.int .i64 0,.int .i64 0],#[(0,8)]):=by kernel_rfl
theorem Tb:Ed Tryz.prog 26=some (#[.slice none 0 0,.int .i64 0,.slice none 0 0,.slice none 0 0,.slice none 0 0,.int .i64 0,.int .i64 0,.int .i64 0,.slice none 0 0],#[(0,1),(1,1),(2,1),(3,1),(4,1),(5,1),(6,1),(7,1),(8,1)]):=by kernel_rfl
theorem Tc:Ed Tryz.prog 275=some (#[.map none],#[(0,1)]):=by kernel_rfl
theorem Td:Ed Tryz.prog 28=some (#[.slice none 0 0,.int .i64 0,.slice none 0 0,.slice none 0 0,.slice none 0 0,.int .i64 0,.int .i64 0,.int .i64 0,.slice none 0 0,.int .i64 0,.int .i64 0,.int .i64 0],#[(0,9),(9,1),(10,1),(11,1)]):=by kernel_rfl
theorem Te:Ed Tryz.prog 305=some (#[.int .u32 0,.int .i32 0,.int .u32 0,.int .u32 0,.nilFunc,.string ⟨#[]⟩],#[(0,3),(3,1),(4,1),(5,1)]):=by kernel_rfl
theorem Ol:Ed Tryz.prog 330=some (#[.bool false,.int .i64 0,.string ⟨#[]⟩],#[(0,1),(1,1),(2,1)]):=by kernel_rfl
theorem Tf:Ed Tryz.prog 334=some (#[.slice none 0 0,.string ⟨#[]⟩,.slice none 0 0,.int .i64 0,.int .i64 0,.int .i64 0,.bool false,.slice none 0 0,.bool false,.int .i64 0,.string ⟨#[]⟩,.bool false,.int .i64 0,.string ⟨#[]⟩,.bool false,.int .i64 0,.string ⟨#[]⟩,.bool false,.int .i64 0,.string ⟨#[]⟩,.bool false,.int .i64 0,.string ⟨#[]⟩,.bool false,.int .i64 0,.string ⟨#[]⟩,.bool false,.int .i64 0,.string ⟨#[]⟩,.bool false,.int .i64 0,.string ⟨#[]⟩,.slice none 0 0,.map none],#[(0,1),(1,1),(2,1),(3,1),(4,1),(5,1),(6,1),(7,1),(8,24),(32,1),(33,1)]):=by kernel_rfl
theorem HK:Ed Tryz.prog 49=some (#[.int .i64 0,.int .i64 0,.int .i64 0,.int .i64 0,.int .i64 0,.int .i64 0,.int .i64 0,.int .i64 0,.slice none 0 0,.slice none 0 0],#[(0,1),(1,1),(2,1),(3,1),(4,1),(5,1),(6,1),(7,1),(8,1),(9,1)]):=by kernel_rfl
theorem J3:Ed Tryz.prog 51=some (#[.int .i64 0,.int .i64 0,.int .i64 0,.int .i64 0,.int .i64 0,.int .i64 0,.int .i64 0,.int .i64 0,.int .i64 0,.int .i64 0,.slice none 0 0,.slice none 0 0],#[(0,1),(1,1),(2,10)]):=by kernel_rfl
theorem Om:Ed Tryz.prog 69=some (#[.int .i64 0,.int .i64 0,.int .i64 0,.int .i64 0,.int .i64 0,.slice none 0 0,.slice none 0 0],#[(0,1),(1,1),(2,1),(3,1),(4,1),(5,1),(6,1)]):=by kernel_rfl
theorem Tg:Ed Tryz.prog 91=some (#[.slice none 0 0,.int .i64 0,.slice none 0 0,.slice none 0 0,.slice none 0 0,.int .i64 0,.int .i64 0,.int .i64 0,.slice none 0 0,.int .i64 0,.int .i64 0,.int .i64 0,.int .i64 0,.bool false,.pointer none,.slice none 0 0],#[(0,12),(12,1),(13,1),(14,1),(15,1)]):=by kernel_rfl
theorem Th:Ed Tryz.prog 93=some (#[.slice none 0 0,.int .i64 0,.slice none 0 0,.slice none 0 0,.slice none 0 0,.int .i64 0,.int .i64 0,.int .i64 0,.slice none 0 0,.int .i64 0,.int .i64 0,.int .i64 0,.int .i64 0,.bool false,.pointer none,.slice none 0 0,.pointer none,.pointer none],#[(0,16),(16,1),(17,1)]):=by kernel_rfl
theorem Ty:Tryz.prog.cellsOf 122=2:=by kernel_rfl
theorem Tz:Tryz.prog.cellsOf 49=10:=by kernel_rfl
theorem TA:Tryz.prog.cellsOf 51=12:=by kernel_rfl
theorem TB:Tryz.prog.cellsOf 53=14:=by kernel_rfl
theorem Uy:HH Tryz.prog 122 [⟨ "Key",9,0,false, "", "",0⟩,⟨ "Value",9,1,false, "", "",16⟩]:=⟨by kernel_rfl,by kernel_rfl,by kernel_rfl⟩
theorem OY:EO Tryz.prog 155 (Extern.Atomic.storeT):=⟨_,Tryz.func155,by kernel_rfl,by kernel_rfl,by kernel_rfl,by kernel_rfl⟩
theorem LV:EO Tryz.prog 187 (Extern.Atomic.loadT (.int .u32)):=⟨_,Tryz.func187,by kernel_rfl,by kernel_rfl,by kernel_rfl,by kernel_rfl⟩
theorem UE:EO Tryz.prog 236 (Extern.Atomic.loadT (.int .i64)):=⟨_,Tryz.func236,by kernel_rfl,by kernel_rfl,by kernel_rfl,by kernel_rfl⟩
theorem UF:EO Tryz.prog 237 (Extern.Atomic.casT (.int .i64)):=⟨_,Tryz.func237,by kernel_rfl,by kernel_rfl,by kernel_rfl,by kernel_rfl⟩
theorem OZ:EO Tryz.prog 291 (fun _=>do mark .disable;pure Extern.Race.none_):=⟨_,Tryz.func291,by kernel_rfl,by kernel_rfl,by kernel_rfl,by kernel_rfl⟩
theorem UG:EO Tryz.prog 292 (Extern.Atomic.casT (.int .i32)):=⟨_,Tryz.func292,by kernel_rfl,by kernel_rfl,by kernel_rfl,by kernel_rfl⟩
theorem O0:EO Tryz.prog 293 (fun _=>do mark .enable;pure Extern.Race.none_):=⟨_,Tryz.func293,by kernel_rfl,by kernel_rfl,by kernel_rfl,by kernel_rfl⟩
theorem UH:EO Tryz.prog 294 (Extern.Race.marked .acquire):=⟨_,Tryz.func294,by kernel_rfl,by kernel_rfl,by kernel_rfl,by kernel_rfl⟩
theorem UI:EO Tryz.prog 296 (Extern.Race.marked .releaseMerge):=⟨_,Tryz.func296,by kernel_rfl,by kernel_rfl,by kernel_rfl,by kernel_rfl⟩
theorem UJ:EO Tryz.prog 297 (Extern.Atomic.update (Op.intArith .add) .i32 true):=⟨_,Tryz.func297,by kernel_rfl,by kernel_rfl,by kernel_rfl,by kernel_rfl⟩
theorem Jf:Bh Tryz.prog 101 1=some 0:=by kernel_rfl
theorem O7:Bh Tryz.prog 103 0=some 0:=by kernel_rfl
theorem L3:Bh Tryz.prog 103 1=some 12:=by kernel_rfl
theorem L4:Bh Tryz.prog 103 2=some 13:=by kernel_rfl
theorem O8:Bh Tryz.prog 103 3=some 14:=by kernel_rfl
theorem UR:Bh Tryz.prog 103 4=some 15:=by kernel_rfl
theorem US:Bh Tryz.prog 103 5=some 16:=by kernel_rfl
theorem Hm:Bh Tryz.prog 109 0=some 0:=by kernel_rfl
theorem Kl:Bh Tryz.prog 109 1=some 1:=by kernel_rfl
theorem L5:Bh Tryz.prog 115 0=some 0:=by kernel_rfl
theorem HO:Bh Tryz.prog 115 1=some 1:=by kernel_rfl
theorem Hn:Bh Tryz.prog 115 2=some 2:=by kernel_rfl
theorem FN:Bh Tryz.prog 122 0=some 0:=by kernel_rfl
theorem Jg:Bh Tryz.prog 122 1=some 1:=by kernel_rfl
theorem Dr:Bh Tryz.prog 124 0=some 0:=by kernel_rfl
theorem DD:Bh Tryz.prog 124 1=some 1:=by kernel_rfl
theorem Fw:Bh Tryz.prog 124 2=some 2:=by kernel_rfl
theorem O9:Bh Tryz.prog 151 0=some 0:=by kernel_rfl
theorem O_:Bh Tryz.prog 151 1=some 1:=by kernel_rfl
theorem Km:Bh Tryz.prog 151 2=some 2:=by kernel_rfl
theorem Kn:Bh Tryz.prog 192 0=some 0:=by kernel_rfl
theorem Pa:Bh Tryz.prog 192 1=some 1:=by kernel_rfl
theorem HP:Bh Tryz.prog 197 0=some 0:=by kernel_rfl
theorem Pb:Bh Tryz.prog 197 1=some 12:=by kernel_rfl
theorem Pc:Bh Tryz.prog 197 2=some 13:=by kernel_rfl
theorem Jh:Bh Tryz.prog 197 3=some 14:=by kernel_rfl
theorem Ho:Bh Tryz.prog 197 5=some 45:=by kernel_rfl
theorem L6:Bh Tryz.prog 215 0=some 0:=by kernel_rfl
theorem UT:Bh Tryz.prog 215 1=some 12:=by kernel_rfl
theorem Pd:Bh Tryz.prog 215 2=some 13:=by kernel_rfl
theorem UU:Bh Tryz.prog 215 3=some 14:=by kernel_rfl
theorem Pe:Bh Tryz.prog 215 4=some 15:=by kernel_rfl
theorem UV:Bh Tryz.prog 215 5=some 16:=by kernel_rfl
theorem Pf:Bh Tryz.prog 251 2=some 0:=by kernel_rfl
theorem UW:Bh Tryz.prog 254 0=some 0:=by kernel_rfl
theorem FO:Bh Tryz.prog 26 0=some 0:=by kernel_rfl
theorem Ji:Bh Tryz.prog 26 1=some 1:=by kernel_rfl
theorem L7:Bh Tryz.prog 26 2=some 2:=by kernel_rfl
theorem L8:Bh Tryz.prog 26 3=some 3:=by kernel_rfl
theorem Ko:Bh Tryz.prog 26 4=some 4:=by kernel_rfl
theorem Pg:Bh Tryz.prog 26 5=some 5:=by kernel_rfl
theorem UX:Bh Tryz.prog 26 6=some 6:=by kernel_rfl
theorem Ph:Bh Tryz.prog 26 7=some 7:=by kernel_rfl
theorem Kp:Bh Tryz.prog 26 8=some 8:=by kernel_rfl
theorem UY:Bh Tryz.prog 279 0=some 0:=by kernel_rfl
theorem UZ:Bh Tryz.prog 279 1=some 1:=by kernel_rfl
theorem Pi:Bh Tryz.prog 279 3=some 3:=by kernel_rfl
theorem DL:Bh Tryz.prog 28 0=some 0:=by kernel_rfl
theorem Kq:Bh Tryz.prog 28 1=some 9:=by kernel_rfl
theorem U0:Bh Tryz.prog 28 2=some 10:=by kernel_rfl
theorem U1:Bh Tryz.prog 28 3=some 11:=by kernel_rfl
theorem L9:Bh Tryz.prog 299 0=some 0:=by kernel_rfl
theorem Pj:Bh Tryz.prog 301 1=some 0:=by kernel_rfl
theorem Pk:Bh Tryz.prog 303 1=some 0:=by kernel_rfl
theorem Pl:Bh Tryz.prog 305 0=some 0:=by kernel_rfl
theorem Pm:Bh Tryz.prog 305 1=some 3:=by kernel_rfl
theorem Pn:Bh Tryz.prog 305 2=some 4:=by kernel_rfl
theorem L_:Bh Tryz.prog 305 3=some 5:=by kernel_rfl
theorem HQ:Bh Tryz.prog 330 0=some 0:=by kernel_rfl
theorem E_:Bh Tryz.prog 330 1=some 1:=by kernel_rfl
theorem Gb:Bh Tryz.prog 330 2=some 2:=by kernel_rfl
theorem U2:Bh Tryz.prog 334 1=some 1:=by kernel_rfl
theorem Jj:Bh Tryz.prog 334 10=some 33:=by kernel_rfl
theorem Kr:Bh Tryz.prog 334 2=some 2:=by kernel_rfl
theorem U3:Bh Tryz.prog 334 3=some 3:=by kernel_rfl
theorem Iv:Bh Tryz.prog 334 4=some 4:=by kernel_rfl
theorem Ma:Bh Tryz.prog 334 5=some 5:=by kernel_rfl
theorem Po:Bh Tryz.prog 334 6=some 6:=by kernel_rfl
theorem GV:Bh Tryz.prog 334 7=some 7:=by kernel_rfl
theorem Pp:Bh Tryz.prog 334 8=some 8:=by kernel_rfl
theorem Ks:Bh Tryz.prog 334 9=some 32:=by kernel_rfl
theorem Pq:Bh Tryz.prog 49 0=some 0:=by kernel_rfl
theorem Pr:Bh Tryz.prog 49 1=some 1:=by kernel_rfl
theorem Ps:Bh Tryz.prog 49 2=some 2:=by kernel_rfl
theorem Mb:Bh Tryz.prog 49 3=some 3:=by kernel_rfl
theorem Pt:Bh Tryz.prog 49 4=some 4:=by kernel_rfl
theorem Pu:Bh Tryz.prog 49 5=some 5:=by kernel_rfl
theorem Pv:Bh Tryz.prog 49 6=some 6:=by kernel_rfl
theorem Pw:Bh Tryz.prog 49 7=some 7:=by kernel_rfl
theorem Mc:Bh Tryz.prog 49 8=some 8:=by kernel_rfl
theorem Md:Bh Tryz.prog 49 9=some 9:=by kernel_rfl
theorem Me:Bh Tryz.prog 51 0=some 0:=by kernel_rfl
theorem Px:Bh Tryz.prog 51 1=some 1:=by kernel_rfl
theorem Mf:Bh Tryz.prog 51 2=some 2:=by kernel_rfl
theorem U4:Bh Tryz.prog 53 1=some 1:=by kernel_rfl
theorem Py:Bh Tryz.prog 53 2=some 2:=by kernel_rfl
theorem D8:Bh Tryz.prog 69 0=some 0:=by kernel_rfl
theorem Gw:Bh Tryz.prog 69 1=some 1:=by kernel_rfl
theorem Gc:Bh Tryz.prog 69 2=some 2:=by kernel_rfl
theorem GW:Bh Tryz.prog 69 3=some 3:=by kernel_rfl
theorem Hp:Bh Tryz.prog 69 4=some 4:=by kernel_rfl
theorem Gd:Bh Tryz.prog 69 5=some 5:=by kernel_rfl
theorem FP:Bh Tryz.prog 69 6=some 6:=by kernel_rfl
theorem U5:Bh Tryz.prog 91 0=some 0:=by kernel_rfl
theorem Mg:Bh Tryz.prog 91 1=some 12:=by kernel_rfl
theorem U6:Bh Tryz.prog 91 2=some 13:=by kernel_rfl
theorem Iw:Bh Tryz.prog 91 3=some 14:=by kernel_rfl
theorem Ix:Bh Tryz.prog 91 4=some 15:=by kernel_rfl
theorem FQ:Bh Tryz.prog 93 0=some 0:=by kernel_rfl
theorem Pz:Bh Tryz.prog 93 1=some 16:=by kernel_rfl
theorem PA:Bh Tryz.prog 93 2=some 17:=by kernel_rfl
theorem Jl:(Tryz.prog.info? 192).map (·.size)=some 5:=by kernel_rfl
theorem VI:(Tryz.prog.info? 251).map (·.size)=some 1:=by kernel_rfl
theorem PV:(Tryz.prog.info? 330).map (·.size)=some 3:=by kernel_rfl
theorem PX:AK Tryz.prog 10:=AN Tryz.func10 rfl rfl
theorem Mq:AK Tryz.prog 100:=AN Tryz.func100 rfl rfl
theorem Kv:AK Tryz.prog 101:=AN Tryz.func101 rfl rfl
theorem PY:AK Tryz.prog 102:=AN Tryz.func102 rfl rfl
theorem VT:AK Tryz.prog 103:=AN Tryz.func103 rfl rfl
theorem VU:AK Tryz.prog 104:=AN Tryz.func104 rfl rfl
theorem Jn:AK Tryz.prog 105:=AN Tryz.func105 rfl rfl
theorem VV:AK Tryz.prog 106:=AN Tryz.func106 rfl rfl
theorem VW:AK Tryz.prog 11:=AN Tryz.func11 rfl rfl
theorem VX:AK Tryz.prog 123:=AN Tryz.func123 rfl rfl
theorem VY:AK Tryz.prog 124:=AN Tryz.func124 rfl rfl
theorem PZ:AK Tryz.prog 125:=AN Tryz.func125 rfl rfl
theorem VZ:AK Tryz.prog 126:=AN Tryz.func126 rfl rfl
theorem V0:AK Tryz.prog 127:=AN Tryz.func127 rfl rfl
theorem V1:AK Tryz.prog 128:=AN Tryz.func128 rfl rfl
theorem V2:AK Tryz.prog 13:=AN Tryz.func13 rfl rfl
theorem Mr:AK Tryz.prog 130:=AN Tryz.func130 rfl rfl
theorem V3:AK Tryz.prog 131:=AN Tryz.func131 rfl rfl
theorem Ms:AK Tryz.prog 132:=AN Tryz.func132 rfl rfl
theorem V4:AK Tryz.prog 133:=AN Tryz.func133 rfl rfl
theorem Mt:AK Tryz.prog 135:=AN Tryz.func135 rfl rfl
theorem P0:AK Tryz.prog 136:=AN Tryz.func136 rfl rfl
theorem Mu:AK Tryz.prog 137:=AN Tryz.func137 rfl rfl
theorem V5:AK Tryz.prog 138:=AN Tryz.func138 rfl rfl
theorem V6:AK Tryz.prog 139:=AN Tryz.func139 rfl rfl
theorem P1:AK Tryz.prog 140:=AN Tryz.func140 rfl rfl
theorem V7:AK Tryz.prog 141:=AN Tryz.func141 rfl rfl
theorem V8:AK Tryz.prog 142:=AN Tryz.func142 rfl rfl
theorem V9:AK Tryz.prog 143:=AN Tryz.func143 rfl rfl
theorem V_:AK Tryz.prog 144:=AN Tryz.func144 rfl rfl
theorem Wa:AK Tryz.prog 147:=AN Tryz.func147 rfl rfl
theorem P2:AK Tryz.prog 15:=AN Tryz.func15 rfl rfl
theorem P3:AK Tryz.prog 150:=AN Tryz.func150 rfl rfl
theorem P4:AK Tryz.prog 156:=AN Tryz.func156 rfl rfl
theorem IA:AK Tryz.prog 157:=AN Tryz.func157 rfl rfl
theorem Wb:AK Tryz.prog 158:=AN Tryz.func158 rfl rfl
theorem Wc:AK Tryz.prog 16:=AN Tryz.func16 rfl rfl
theorem Wd:AK Tryz.prog 17:=AN Tryz.func17 rfl rfl
theorem We:AK Tryz.prog 183:=AN Tryz.func183 rfl rfl
theorem Wf:AK Tryz.prog 184:=AN Tryz.func184 rfl rfl
theorem Wg:AK Tryz.prog 185:=AN Tryz.func185 rfl rfl
theorem Kw:AK Tryz.prog 186:=AN Tryz.func186 rfl rfl
theorem P5:AK Tryz.prog 188:=AN Tryz.func188 rfl rfl
theorem P6:AK Tryz.prog 189:=AN Tryz.func189 rfl rfl
theorem Wh:AK Tryz.prog 19:=AN Tryz.func19 rfl rfl
theorem P7:AK Tryz.prog 190:=AN Tryz.func190 rfl rfl
theorem Kx:AK Tryz.prog 191:=AN Tryz.func191 rfl rfl
theorem Wi:AK Tryz.prog 192:=AN Tryz.func192 rfl rfl
theorem Wj:AK Tryz.prog 193:=AN Tryz.func193 rfl rfl
theorem Wk:AK Tryz.prog 194:=AN Tryz.func194 rfl rfl
theorem Wl:AK Tryz.prog 195:=AN Tryz.func195 rfl rfl
theorem Wm:AK Tryz.prog 196:=AN Tryz.func196 rfl rfl
theorem Wn:AK Tryz.prog 197:=AN Tryz.func197 rfl rfl
theorem Wo:AK Tryz.prog 198:=AN Tryz.func198 rfl rfl
theorem P8:AK Tryz.prog 20:=AN Tryz.func20 rfl rfl
theorem Wp:AK Tryz.prog 200:=AN Tryz.func200 rfl rfl
theorem Wq:AK Tryz.prog 21:=AN Tryz.func21 rfl rfl
theorem HT:AK Tryz.prog 22:=AN Tryz.func22 rfl rfl
theorem Wr:AK Tryz.prog 229:=AN Tryz.func229 rfl rfl
theorem P9:AK Tryz.prog 23:=AN Tryz.func23 rfl rfl
theorem Ws:AK Tryz.prog 230:=AN Tryz.func230 rfl rfl
theorem Wt:AK Tryz.prog 231:=AN Tryz.func231 rfl rfl
theorem P_:AK Tryz.prog 232:=AN Tryz.func232 rfl rfl
theorem Wu:AK Tryz.prog 234:=AN Tryz.func234 rfl rfl
theorem Wv:AK Tryz.prog 235:=AN Tryz.func235 rfl rfl
theorem Ww:AK Tryz.prog 24:=AN Tryz.func24 rfl rfl
theorem Qa:AK Tryz.prog 25:=AN Tryz.func25 rfl rfl
theorem Wx:AK Tryz.prog 251:=AN Tryz.func251 rfl rfl
theorem Wy:AK Tryz.prog 252:=AN Tryz.func252 rfl rfl
theorem Wz:AK Tryz.prog 253:=AN Tryz.func253 rfl rfl
theorem WA:AK Tryz.prog 254:=AN Tryz.func254 rfl rfl
theorem WB:AK Tryz.prog 255:=AN Tryz.func255 rfl rfl
theorem Qb:AK Tryz.prog 256:=AN Tryz.func256 rfl rfl
theorem WE:AK Tryz.prog 257:=AN Tryz.func257 rfl rfl
theorem WF:AK Tryz.prog 26:=AN Tryz.func26 rfl rfl
theorem WH:AK Tryz.prog 264:=AN Tryz.func264 rfl rfl
theorem WI:AK Tryz.prog 267:=AN Tryz.func267 rfl rfl
theorem Qc:AK Tryz.prog 268:=AN Tryz.func268 rfl rfl
theorem WJ:AK Tryz.prog 269:=AN Tryz.func269 rfl rfl
theorem WK:AK Tryz.prog 27:=AN Tryz.func27 rfl rfl
theorem IB:AK Tryz.prog 270:=AN Tryz.func270 rfl rfl
theorem WM:AK Tryz.prog 271:=AN Tryz.func271 rfl rfl
theorem WN:AK Tryz.prog 272:=AN Tryz.func272 rfl rfl
theorem WO:AK Tryz.prog 273:=AN Tryz.func273 rfl rfl
theorem WP:AK Tryz.prog 281:=AN Tryz.func281 rfl rfl
theorem WR:AK Tryz.prog 282:=AN Tryz.func282 rfl rfl
theorem Qd:AK Tryz.prog 283:=AN Tryz.func283 rfl rfl
theorem WS:AK Tryz.prog 284:=AN Tryz.func284 rfl rfl
theorem WT:AK Tryz.prog 285:=AN Tryz.func285 rfl rfl
theorem WV:AK Tryz.prog 286:=AN Tryz.func286 rfl rfl
theorem WW:AK Tryz.prog 287:=AN Tryz.func287 rfl rfl
theorem WX:AK Tryz.prog 288:=AN Tryz.func288 rfl rfl
theorem WY:AK Tryz.prog 299:=AN Tryz.func299 rfl rfl
theorem WZ:AK Tryz.prog 30:=AN Tryz.func30 rfl rfl
theorem W0:AK Tryz.prog 300:=AN Tryz.func300 rfl rfl
theorem Er:AK Tryz.prog 301:=AN Tryz.func301 rfl rfl
theorem Gf:AK Tryz.prog 302:=AN Tryz.func302 rfl rfl
theorem IC:AK Tryz.prog 303:=AN Tryz.func303 rfl rfl
theorem W1:AK Tryz.prog 304:=AN Tryz.func304 rfl rfl
theorem Ky:AK Tryz.prog 305:=AN Tryz.func305 rfl rfl
theorem Qe:AK Tryz.prog 306:=AN Tryz.func306 rfl rfl
theorem W3:AK Tryz.prog 307:=AN Tryz.func307 rfl rfl
theorem W4:AK Tryz.prog 308:=AN Tryz.func308 rfl rfl
theorem W5:AK Tryz.prog 309:=AN Tryz.func309 rfl rfl
theorem W6:AK Tryz.prog 310:=AN Tryz.func310 rfl rfl
theorem W7:AK Tryz.prog 311:=AN Tryz.func311 rfl rfl
theorem W8:AK Tryz.prog 312:=AN Tryz.func312 rfl rfl
theorem Qf:AK Tryz.prog 313:=AN Tryz.func313 rfl rfl
theorem ID:AK Tryz.prog 314:=AN Tryz.func314 rfl rfl
theorem Qg:AK Tryz.prog 315:=AN Tryz.func315 rfl rfl
theorem W9:AK Tryz.prog 333:=AN Tryz.func333 rfl rfl
theorem W_:AK Tryz.prog 334:=AN Tryz.func334 rfl rfl
theorem Qh:AK Tryz.prog 335:=AN Tryz.func335 rfl rfl
theorem Qi:AK Tryz.prog 336:=AN Tryz.func336 rfl rfl
theorem Qj:AK Tryz.prog 337:=AN Tryz.func337 rfl rfl
theorem Qk:AK Tryz.prog 34:=AN Tryz.func34 rfl rfl
theorem Xa:AK Tryz.prog 35:=AN Tryz.func35 rfl rfl
theorem Xb:AK Tryz.prog 350:=AN Tryz.func350 rfl rfl
theorem Mv:AK Tryz.prog 353:=AN Tryz.func353 rfl rfl
theorem Xc:AK Tryz.prog 36:=AN Tryz.func36 rfl rfl
theorem Xd:AK Tryz.prog 38:=AN Tryz.func38 rfl rfl
theorem Gz:AK Tryz.prog 39:=AN Tryz.func39 rfl rfl
theorem Xe:AK Tryz.prog 40:=AN Tryz.func40 rfl rfl
theorem Xf:AK Tryz.prog 41:=AN Tryz.func41 rfl rfl
theorem Mw:AK Tryz.prog 42:=AN Tryz.func42 rfl rfl
theorem Xg:AK Tryz.prog 43:=AN Tryz.func43 rfl rfl
theorem Xh:AK Tryz.prog 44:=AN Tryz.func44 rfl rfl
theorem Xi:AK Tryz.prog 45:=AN Tryz.func45 rfl rfl
theorem Ql:AK Tryz.prog 46:=AN Tryz.func46 rfl rfl
theorem Xj:AK Tryz.prog 50:=AN Tryz.func50 rfl rfl
theorem Xk:AK Tryz.prog 53:=AN Tryz.func53 rfl rfl
theorem Kz:AK Tryz.prog 54:=AN Tryz.func54 rfl rfl
theorem Xl:AK Tryz.prog 55:=AN Tryz.func55 rfl rfl
theorem Qm:AK Tryz.prog 56:=AN Tryz.func56 rfl rfl
theorem Qn:AK Tryz.prog 67:=AN Tryz.func67 rfl rfl
theorem Qo:AK Tryz.prog 68:=AN Tryz.func68 rfl rfl
theorem Mx:AK Tryz.prog 69:=AN Tryz.func69 rfl rfl
theorem Xm:AK Tryz.prog 70:=AN Tryz.func70 rfl rfl
theorem Xn:AK Tryz.prog 71:=AN Tryz.func71 rfl rfl
theorem KA:AK Tryz.prog 72:=AN Tryz.func72 rfl rfl
theorem My:AK Tryz.prog 73:=AN Tryz.func73 rfl rfl
theorem Jo:AK Tryz.prog 74:=AN Tryz.func74 rfl rfl
theorem Xo:AK Tryz.prog 75:=AN Tryz.func75 rfl rfl
theorem Xp:AK Tryz.prog 77:=AN Tryz.func77 rfl rfl
theorem Xq:AK Tryz.prog 78:=AN Tryz.func78 rfl rfl
theorem Xr:AK Tryz.prog 79:=AN Tryz.func79 rfl rfl
theorem Xs:AK Tryz.prog 82:=AN Tryz.func82 rfl rfl
theorem Xt:AK Tryz.prog 83:=AN Tryz.func83 rfl rfl
theorem Xu:AK Tryz.prog 84:=AN Tryz.func84 rfl rfl
theorem Qp:AK Tryz.prog 85:=AN Tryz.func85 rfl rfl
theorem Mz:AK Tryz.prog 9:=AN Tryz.func9 rfl rfl
theorem Qq:AK Tryz.prog 96:=AN Tryz.func96 rfl rfl
theorem MA:AK Tryz.prog 97:=AN Tryz.func97 rfl rfl
theorem Hq:AK Tryz.prog 98:=AN Tryz.func98 rfl rfl
theorem Qr:AK Tryz.prog 99:=AN Tryz.func99 rfl rfl
theorem mo:Tryz.prog.follows .mixedOrders=true:=by kernel_rfl
theorem Q9:(Tryz.prog.info? 299).map (fun i=>decide (i.size=0))=some false:=by kernel_rfl
theorem Nt:Dn Tryz.prog 187=some (49,10,112):=by kernel_rfl
theorem FX:Dn Tryz.prog 195=some (24,1,24):=by kernel_rfl
theorem cF:Dn Tryz.prog 213=some (216,1,8):=by kernel_rfl
theorem G8:Dn Tryz.prog 22=some (47,1,24):=by kernel_rfl
theorem IV:Dn Tryz.prog 23=some (124,3,32):=by kernel_rfl
theorem DA:Dn Tryz.prog 24=some (3,1,8):=by kernel_rfl
theorem H7:Dn Tryz.prog 314=some (9,1,16):=by kernel_rfl
theorem Cd:Dn Tryz.prog 328=some (330,3,32):=by kernel_rfl
theorem EB:Dn Tryz.prog 40=some (51,12,128):=by kernel_rfl
theorem BJ:Dn Tryz.prog 47=some (122,2,32):=by kernel_rfl
theorem FY:Dn Tryz.prog 57=some (5,1,1):=by kernel_rfl
theorem IW:Dn Tryz.prog 59=some (69,7,88):=by kernel_rfl
theorem cG:Dn Tryz.prog 96=some (151,3,24):=by kernel_rfl
theorem cR:GI Tryz.prog 122=some [(9,0,1),(9,1,1)]:=by kernel_rfl
theorem cS:GI Tryz.prog 49=some [(3,0,1),(3,1,1),(3,2,1),(3,3,1),(3,4,1),(3,5,1),(3,6,1),(3,7,1),(24,8,1),(47,9,1)]:=by kernel_rfl
theorem cT:GI Tryz.prog 51=some [(3,0,1),(3,1,1),(49,2,10)]:=by kernel_rfl
theorem cU:GI Tryz.prog 53=some [(3,0,1),(3,1,1),(51,2,12)]:=by kernel_rfl
theorem CB:Cj Tryz.prog 122=some (true,2):=by kernel_rfl
theorem IZ:Cj Tryz.prog 124=some (true,3):=by kernel_rfl
theorem Lw:Cj Tryz.prog 149=some (false,1):=by kernel_rfl
theorem ND:Cj Tryz.prog 151=some (true,3):=by kernel_rfl
theorem St:Cj Tryz.prog 166=some (false,1):=by kernel_rfl
theorem F5:Cj Tryz.prog 195=some (false,1):=by kernel_rfl
theorem Eb:Cj Tryz.prog 2=some (false,1):=by kernel_rfl
theorem dR:Cj Tryz.prog 21=some (false,1):=by kernel_rfl
theorem FF:Cj Tryz.prog 212=some (false,1):=by kernel_rfl
theorem dS:Cj Tryz.prog 213=some (false,1):=by kernel_rfl
theorem dT:Cj Tryz.prog 216=some (false,1):=by kernel_rfl
theorem F6:Cj Tryz.prog 22=some (false,1):=by kernel_rfl
theorem GL:Cj Tryz.prog 23=some (false,1):=by kernel_rfl
theorem DY:Cj Tryz.prog 24=some (false,1):=by kernel_rfl
theorem dU:Cj Tryz.prog 26=some (true,9):=by kernel_rfl
theorem EY:Cj Tryz.prog 28=some (true,12):=by kernel_rfl
theorem AE:Cj Tryz.prog 3=some (false,1):=by kernel_rfl
theorem Lx:Cj Tryz.prog 314=some (false,1):=by kernel_rfl
theorem G_:Cj Tryz.prog 328=some (false,1):=by kernel_rfl
theorem Dv:Cj Tryz.prog 330=some (true,3):=by kernel_rfl
theorem JT:Cj Tryz.prog 332=some (false,1):=by kernel_rfl
theorem Su:Cj Tryz.prog 37=some (false,1):=by kernel_rfl
theorem D4:Cj Tryz.prog 4=some (false,1):=by kernel_rfl
theorem H_:Cj Tryz.prog 40=some (false,1):=by kernel_rfl
theorem DG:Cj Tryz.prog 47=some (false,1):=by kernel_rfl
theorem Fq:Cj Tryz.prog 49=some (true,10):=by kernel_rfl
theorem dV:Cj Tryz.prog 5=some (false,1):=by kernel_rfl
theorem Ly:Cj Tryz.prog 51=some (true,12):=by kernel_rfl
theorem I0:Cj Tryz.prog 55=some (false,1):=by kernel_rfl
theorem Gl:Cj Tryz.prog 57=some (false,1):=by kernel_rfl
theorem EZ:Cj Tryz.prog 69=some (true,7):=by kernel_rfl
theorem Sv:Cj Tryz.prog 80=some (false,1):=by kernel_rfl
theorem Cg:Cj Tryz.prog 9=some (false,1):=by kernel_rfl
theorem Sw:Cj Tryz.prog 95=some (false,1):=by kernel_rfl
theorem dW:Cj Tryz.prog 96=some (false,1):=by kernel_rfl
theorem Sy:Tryz.prog.underlying 382=some (.interface (Tryz.prog.methodsAt 382)):=by kernel_rfl
theorem dZ:Tryz.prog.underlying 141=some (.pointer 254):=by kernel_rfl
theorem Lz:Tryz.prog.underlying 149=some (.pointer 215):=by kernel_rfl
theorem JV:Tryz.prog.underlying 153=some (.pointer 197):=by kernel_rfl
theorem d5:Tryz.prog.underlying 166=some (.func #[] #[9] false):=by kernel_rfl
theorem d6:Tryz.prog.underlying 187=some (.slice 49):=by kernel_rfl
theorem JW:Tryz.prog.underlying 193=some (.array 6 192):=by kernel_rfl
theorem d8:Tryz.prog.underlying 199=some (.pointer 251):=by kernel_rfl
theorem I1:Tryz.prog.underlying 2=some (.int .i64):=by kernel_rfl
theorem Sz:Tryz.prog.underlying 208=some (.pointer 192):=by kernel_rfl
theorem LA:Tryz.prog.underlying 212=some (.pointer 305):=by kernel_rfl
theorem d9:Tryz.prog.underlying 213=some (.slice 216):=by kernel_rfl
theorem d_:Tryz.prog.underlying 216=some (.pointer 279):=by kernel_rfl
theorem Gm:Tryz.prog.underlying 22=some (.slice 47):=by kernel_rfl
theorem Ia:Tryz.prog.underlying 222=some (.int .u64):=by kernel_rfl
theorem Ib:Tryz.prog.underlying 23=some (.slice 124):=by kernel_rfl
theorem EC:Tryz.prog.underlying 24=some (.slice 3):=by kernel_rfl
theorem eA:Tryz.prog.underlying 252=some (.array 8 251):=by kernel_rfl
theorem En:Tryz.prog.underlying 3=some (.int .i64):=by kernel_rfl
theorem SA:Tryz.prog.underlying 314=some (.slice 9):=by kernel_rfl
theorem F7:Tryz.prog.underlying 32=some (.pointer 93):=by kernel_rfl
theorem Ic:Tryz.prog.underlying 328=some (.slice 330):=by kernel_rfl
theorem SB:Tryz.prog.underlying 331=some (.array 8 330):=by kernel_rfl
theorem JX:Tryz.prog.underlying 332=some (.map 2 212):=by kernel_rfl
theorem SC:Tryz.prog.underlying 355=some (.pointer 299):=by kernel_rfl
theorem NE:Tryz.prog.underlying 37=some (.pointer 103):=by kernel_rfl
theorem Hb:Tryz.prog.underlying 40=some (.slice 51):=by kernel_rfl
theorem Do:Tryz.prog.underlying 47=some (.slice 122):=by kernel_rfl
theorem HE:Tryz.prog.underlying 5=some (.int .u8):=by kernel_rfl
theorem Id:Tryz.prog.underlying 55=some (.pointer 109):=by kernel_rfl
theorem Fe:Tryz.prog.underlying 57=some (.slice 5):=by kernel_rfl
theorem LB:Tryz.prog.underlying 59=some (.slice 69):=by kernel_rfl
theorem NF:Tryz.prog.underlying 80=some (.pointer 143):=by kernel_rfl
theorem CP:Tryz.prog.underlying 9=some (.string):=by kernel_rfl
theorem Gn:Tryz.prog.underlying 94=some (.int .u64):=by kernel_rfl
theorem SD:Tryz.prog.underlying 95=some (.map 3 153):=by kernel_rfl
theorem eB:Tryz.prog.underlying 96=some (.slice 151):=by kernel_rfl
theorem SE:Tryz.prog.underlying 99=some (.int .u32):=by kernel_rfl
theorem SF:Tryz.prog.underlying 359=some .unsafePointer:=by kernel_rfl
theorem De:Dp Tryz.prog 122=some (.agg #[.string ⟨#[]⟩,.string ⟨#[]⟩]):=by kernel_rfl
theorem LE:Dp Tryz.prog 124=some (.agg #[.int .i64 0,.int .i64 0,.string ⟨#[]⟩]):=by kernel_rfl
theorem fK:Dp Tryz.prog 151=some (.agg #[.int .i64 0,.int .i64 0,.pointer none]):=by kernel_rfl
theorem fL:Dp Tryz.prog 153=some (.pointer none):=by kernel_rfl
theorem LF:Dp Tryz.prog 212=some (.pointer none):=by kernel_rfl
theorem F9:Dp Tryz.prog 24=some (.slice none 0 0):=by kernel_rfl
theorem SR:Dp Tryz.prog 28=some (.agg #[.slice none 0 0,.int .i64 0,.slice none 0 0,.slice none 0 0,.slice none 0 0,.int .i64 0,.int .i64 0,.int .i64 0,.slice none 0 0,.int .i64 0,.int .i64 0,.int .i64 0]):=by kernel_rfl
theorem E2:Dp Tryz.prog 3=some (.int .i64 0):=by kernel_rfl
theorem DH:Dp Tryz.prog 330=some (.agg #[.bool false,.int .i64 0,.string ⟨#[]⟩]):=by kernel_rfl
theorem LG:Dp Tryz.prog 47=some (.slice none 0 0):=by kernel_rfl
theorem I4:Dp Tryz.prog 49=some (.agg #[.int .i64 0,.int .i64 0,.int .i64 0,.int .i64 0,.int .i64 0,.int .i64 0,.int .i64 0,.int .i64 0,.slice none 0 0,.slice none 0 0]):=by kernel_rfl
theorem I5:Dp Tryz.prog 5=some (.int .u8 0):=by kernel_rfl
theorem F_:Dp Tryz.prog 51=some (.agg #[.int .i64 0,.int .i64 0,.int .i64 0,.int .i64 0,.int .i64 0,.int .i64 0,.int .i64 0,.int .i64 0,.int .i64 0,.int .i64 0,.slice none 0 0,.slice none 0 0]):=by kernel_rfl
theorem He:Dp Tryz.prog 69=some (.agg #[.int .i64 0,.int .i64 0,.int .i64 0,.int .i64 0,.int .i64 0,.slice none 0 0,.slice none 0 0]):=by kernel_rfl
theorem JY:Dp Tryz.prog 9=some (.string ⟨#[]⟩):=by kernel_rfl
theorem UC:NQ Tryz.prog 122 9:=⟨⟨_,_,Uy,by decide,by decide,rfl,rfl,rfl,rfl⟩,CP,Cg⟩
theorem SQ:HI Tryz.prog 3 Co:=VP En
def Fj {α:Type} (p:α→Bool) (xs:List α):Int:=match xs.findIdx? p with |some i=>(i:Int)|none=> -1
theorem Kh {α:Type} {p:α→Bool} {xs:List α} {k:Nat} {x:α} (h:∀ y∈xs.take k,p y=false) (hx:xs[k]?=some x) (hp:p x=true):Fj p xs=(k:Int):=by
 have:xs.findIdx? p=some k:=by
  rw [List.findIdx?_eq_some_iff_getElem]
  have hlt:k<xs.length:=by
   rcases Nat.lt_or_ge k xs.length with h'|h'
   ·exact h'
   ·simp [List.getElem?_eq_none h'] at hx
  refine ⟨hlt,by rw [List.getElem?_eq_getElem hlt] at hx;rw [Option.some.inj hx];exact hp,fun j hj=>?_⟩
  have:=h xs[j] (by rw [List.mem_take_iff_getElem];exact ⟨j,by omega,rfl⟩)
  simp [this]
 simp [Fj,this]
theorem Je {α:Type} {p:α→Bool} {xs:List α} (h:∀ y∈xs,p y=false):Fj p xs= -1:=by
 have:xs.findIdx? p=none:=by
  rw [List.findIdx?_eq_none_iff]
  exact h
 simp [Fj,this]
theorem Ki {α:Type} (p:α→Bool) (xs:List α):decide (0≤Fj p xs)=xs.any p:=by
 by_cases h:∃ y∈xs,p y=true
 ·have h1:xs.any p=true:=by simpa using h
  rw [h1,decide_eq_true_eq]
  unfold Fj
  cases hf:xs.findIdx? p with
  |none=>
   rw [List.findIdx?_eq_none_iff] at hf
   obtain ⟨y,hy,hp⟩:=h
   rw [hf y hy] at hp
   cases hp
  |some i=>simp
 ·have h':∀ y∈xs,p y=false:=fun y hy=>by
   cases hp:p y with
   |false=>rfl
   |true=>exact (h ⟨y,hy,hp⟩).elim
  rw [Je h']
  have h1:xs.any p=false:=by
   rw [List.any_eq_false]
   intro y hy
   simp [h' y hy]
  rw [h1]
  decide
theorem Lu {α:Type} {p:α→Bool} {xs:List α} {k:Nat} {x:α} (h:∀ y∈xs.take k,p y=false) (hx:xs[k]?=some x) (hp:p x=false):∀ y∈xs.take (k+1),p y=false:=by
 intro y hy
 rw [List.take_add_one,hx] at hy
 simp at hy
 exact hy.elim (h y) (fun e=>e▸hp)
def cnt {α:Type} (p:α→Bool) (xs:List α):Nat:=(xs.filter p).length
theorem TU {α:Type} (p:α→Bool) (xs:List α) (x:α):cnt p (xs++[x])=cnt p xs+if p x then 1 else 0:=by
 unfold cnt
 rw [List.filter_append]
 by_cases h:p x<;>simp [h]
theorem OC {α:Type} (p:α→Bool) (xs:List α):cnt p xs≤xs.length:=List.length_filter_le p xs
theorem OE {α:Type} {p:α→Bool} {xs:List α} {k:Nat} {x:α} (hx:xs[k]?=some x):cnt p (xs.take (k+1))=cnt p (xs.take k)+if p x then 1 else 0:=by
 rw [List.take_add_one,hx,←TU]
 rfl
section
variable {w w0:World} {F0:AU} {As Rs:List SP} {α:Type} [Inhabited α] {e1:α→Value}
theorem PN {b t:Nat} {xs:List α} {rest:List Value} (H:Hd w0 F0 w (blk b (xs.map e1++rest) t::As) Rs):Sort.Holds e1 w b 0 xs.toArray:=by
 intro j hj
 simp only [List.size_toArray] at hj
 rw [Nat.zero_add]
 refine ⟨H.cell (List.mem_cons_self ..) ?_,H.free (List.mem_cons_self ..) j⟩
 rw [List.getElem?_append_left (by simpa using hj),List.getElem?_map,List.getElem?_eq_getElem hj]
 simp [hj]
theorem Zv {xs ys:List α} {rest:List Value} (hl:ys.length=xs.length):Sort.putCells e1 0 ys.toArray (xs.map e1++rest).toArray=(ys.map e1++rest).toArray:=by
 apply Array.toList_inj.1
 apply List.ext_getElem?
 intro i
 unfold Sort.putCells
 rw [Array.toList_mapIdx,List.getElem?_mapIdx]
 simp only [List.size_toArray,Nat.zero_le,true_and,Nat.zero_add,Nat.sub_zero,List.getElem!_toArray]
 rcases Nat.lt_or_ge i ys.length with h|h
 ·rw [List.getElem?_append_left (by simpa using (hl▸h)),List.getElem?_append_left (by simpa using h),List.getElem?_map,List.getElem?_map,List.getElem?_eq_getElem h,List.getElem?_eq_getElem (by omega)]
  simp [h]
 ·rw [List.getElem?_append_right (by simp;omega),List.getElem?_append_right (by simpa using h)]
  simp only [List.length_map,hl]
  cases rest[i - xs.length]? with
  |none=>rfl
  |some v=>simp;omega
theorem Ou {b t n:Nat} {xs ys:List α} {rest:List Value} {os:Array Obj} (H:Hd w0 F0 w (blk b (xs.map e1++rest) t::As) Rs) (hl:ys.length=xs.length):
  Hd w0 F0 (Sort.grow (Sort.putRow e1 (Sort.ahead w n) b 0 ys.toArray) os) (blk b (ys.map e1++rest) t::As) Rs:=by
 refine H.write fun F hF=>?_
 have hb:b<w.heap.size:=by
  rcases Nat.lt_or_ge b w.heap.size with h|h
  ·exact h
  ·have:=hF.2
   rw [Array.getElem?_eq_none h] at this
   cases this
 have hh:∀ k,k<w.heap.size→(Sort.grow (Sort.putRow e1 (Sort.ahead w n) b 0 ys.toArray) os).heap[k]?=(w.heap.modify b (Sort.onCells (Sort.putCells e1 0 ys.toArray)))[k]?:=by
  intro k hk
  show ((w.heap.modify b (Sort.onCells (Sort.putCells e1 0 ys.toArray)))++os)[k]?=_
  rw [Array.getElem?_append_left (by simpa using hk)]
 refine ⟨⟨hF.1,?_⟩,rfl,rfl,rfl,?_,fun k hk hn=>?_⟩
 ·rw [hh b hb,Array.getElem?_modify,if_pos rfl,hF.2]
  simp only [Option.map_some,Sort.onCells,Zv hl]
 ·show w.heap.size≤((w.heap.modify b (Sort.onCells (Sort.putCells e1 0 ys.toArray)))++os).size
  simp
 ·rw [hh k hk,Array.getElem?_modify,if_neg (by rintro rfl;exact hn hF.1)]
theorem Vj (w:World):Sort.grow w #[]=w:=by
 unfold Sort.grow
 simp
end
theorem KG {α:Type} {e1:α→Value} (xs:List α):xs.flatMap (fun x=>[e1 x])=xs.map e1:=by
 induction xs with
 |nil=>rfl
 |cons x xs ih=>simp [ih]
section
variable {P:Program} {α:Type} [Inhabited α] {e1:α→Value} {h1:∀ x,∀ c∈[e1 x],c.oneCell'=true} {f:FuncId}
theorem TQ {s:List α→List α} (hlen:∀ xs,(s xs).length=xs.length) (hnil:s []=[])
  (h0:∀ (p:Option Addr) (c:Nat) (w:World),Calls P f #[.slice p 0 c] w fun e w'=>e=.returned (.tuple #[])∧w'=w)
  (hc:∀ (b c:Nat) (xs:List α) (w:World),Sort.Holds e1 w b 0 xs.toArray→b<w.heap.size→xs.length≤1000000→Calls P f #[.slice (some ⟨b,0,none⟩) xs.length c] w fun e w'=>e=.returned (.tuple #[])∧∃ n os,w'=Sort.grow (Sort.putRow e1 (Sort.ahead w n) b 0 (s xs).toArray) os)
  (v:Value) (xs:List α) (hb:xs.length≤1000000):Cn P f [v] [Y (flat (fun x=>[e1 x]) 1 (by omega) (fun _=>rfl) h1) v xs] [] (fun _ Bs=>Bs=[Y (flat (fun x=>[e1 x]) 1 (by omega) (fun _=>rfl) h1) v (s xs)]):=by
 intro w F H
 obtain ⟨A,c,rfl,hle,hmax,hp⟩:=H.fA 0 rfl
 rcases Nat.eq_zero_or_pos xs.length with hx|hx
 ·obtain rfl:=List.eq_nil_of_length_eq_zero hx
  refine (h0 A c w).mono ?_
  rintro e w' ⟨rfl,rfl⟩
  exact ⟨_,rfl,_,rfl,by rw [hnil];exact H⟩
 ·obtain ⟨b,t,rest,rfl,hm,hle',hmax',hr,H'⟩:=H.toBlk hx
  rw [KG] at H'
  have hbl:b<w.heap.size:=H'.fact (List.mem_cons_self ..) fun F hF=>by
   rcases Nat.lt_or_ge b w.heap.size with h|h
   ·exact h
   ·have:=hF.2
    rw [Array.getElem?_eq_none h] at this
    cases this
  refine (hc b c xs w (PN H') hbl hb).mono ?_
  rintro e w' ⟨rfl,n,os,rfl⟩
  refine ⟨_,rfl,_,rfl,?_⟩
  have H2:=Ou (n:=n) (os:=os) H' (hlen xs)
  rw [←KG] at H2
  exact H2.ofBlk (hlen xs) hle' hmax' hr
theorem TP {s:List α→List α} {z:α} (hlen:∀ xs,(s xs).length≤xs.length) (hnil:s []=[])
  (h0:∀ (p:Option Addr) (c:Nat) (w:World),Calls P f #[.slice p 0 c] w fun e w'=>e=.returned (.slice p 0 c)∧w'=w)
  (hc:∀ (b c:Nat) (xs:List α) (w:World),Sort.Holds e1 w b 0 xs.toArray→xs.length≤1000000→xs.length≤c→Calls P f #[.slice (some ⟨b,0,none⟩) xs.length c] w fun e w'=>e=.returned (.slice (some ⟨b,0,none⟩) (s xs).length c)∧∃ n,w'=Sort.putRow e1 (Sort.ahead w n) b 0 (s xs++List.replicate (xs.length - (s xs).length) z).toArray)
  (v:Value) (xs:List α) (hb:xs.length≤1000000):Cn P f [v] [Y (flat (fun x=>[e1 x]) 1 (by omega) (fun _=>rfl) h1) v xs] [] (fun u Bs=>Bs=[Y (flat (fun x=>[e1 x]) 1 (by omega) (fun _=>rfl) h1) u (s xs)]):=by
 intro w F H
 obtain ⟨A,c,rfl,hle,hmax,hp⟩:=H.fA 0 rfl
 rcases Nat.eq_zero_or_pos xs.length with hx|hx
 ·obtain rfl:=List.eq_nil_of_length_eq_zero hx
  refine (h0 A c w).mono ?_
  rintro e w' ⟨rfl,rfl⟩
  exact ⟨_,rfl,_,rfl,by rw [hnil];exact H⟩
 ·obtain ⟨b,t,rest,rfl,hm,hle',hmax',hr,H'⟩:=H.toBlk hx
  rw [KG] at H'
  refine (hc b c xs w (PN H') hb hle).mono ?_
  rintro e w' ⟨rfl,n,rfl⟩
  refine ⟨_,rfl,_,rfl,?_⟩
  have hl:=hlen xs
  have H2:=Ou (n:=n) (os:=#[]) H' (ys:=s xs++List.replicate (xs.length - (s xs).length) z) (by simp;omega)
  rw [Vj,List.map_append,List.append_assoc,←KG (s xs)] at H2
  exact H2.ofBlk U (by omega) hmax' (by simp;omega)
end
theorem OF {α:Type} [Inhabited α] [DecidableEq α] (xs:List α):(Lib.compact xs).length≤xs.length:=by
 unfold Lib.compact Lib.compactUpTo
 rw [List.length_map]
 exact Nat.le_trans (List.length_filter_le _ _) (by simp)
def G0 (x:ByteArray):List UInt8:=x.data.toList
def JQ (x:List UInt8):ByteArray:=⟨x.toArray⟩
def Gj (xs:List ByteArray):List ByteArray:=((xs.map G0).mergeSort fun x y=>decide (x≤y)).map JQ
def GR (xs:List ByteArray):List ByteArray:=(Lib.compact (xs.map G0)).map JQ
theorem PM {w:World} {b:Nat} {xs:List ByteArray} (h:Sort.Holds Value.string w b 0 xs.toArray):Sort.Holds Go.Proofs.encStr w b 0 (xs.map G0).toArray:=by
 intro j hj
 have hj':j<xs.length:=by simpa using hj
 have:=h j (by simpa using hj')
 simp only [List.getElem!_toArray] at this ⊢
 rw [getElem!_pos _ j (by simpa using hj')]
 rw [getElem!_pos _ j hj'] at this
 rw [List.getElem_map]
 have e:Go.Proofs.encStr (G0 xs[j])=Value.string xs[j]:=by simp [Go.Proofs.encStr,G0]
 rw [e]
 exact this
theorem RC {w:World} {b:Nat} {zs:List (List UInt8)}:Sort.putRow Go.Proofs.encStr w b 0 zs.toArray=Sort.putRow Value.string w b 0 (zs.map JQ).toArray:=by
 unfold Sort.putRow
 congr 1
 funext c
 unfold Sort.putCells
 congr 1
 funext k x
 simp only [List.size_toArray,List.length_map,List.getElem!_toArray]
 split
 ·rename_i h
  have h':k - 0<zs.length:=by omega
  rw [getElem!_pos (zs.map JQ) _ (by simpa using h'),getElem!_pos zs _ h',List.getElem_map]
  rfl
 ·rfl
theorem Yz {s:ByteArray}:s=(⟨#[]⟩:ByteArray)↔s.size=0:=by
 constructor
 ·rintro rfl;rfl
 ·intro h
  have:s.data=#[]:=Array.eq_empty_of_size_eq_zero h
  cases s
  simp at this
  subst this
  rfl
def BS (p:B7) (n:Int):Prop:=0≤p.op∧p.op≤23∧(p.op=1→p.s.size=0)∧(p.op=2→p.a=0∧p.s.size≤64)∧(p.op=19∨p.op=20→0≤p.a∧p.a≤n∧p.s.size=0)∧
 (p.op=21∨p.op=22→0≤p.a∧p.a≤7∧p.s.size=0)∧(¬ (p.op=1∨p.op=2∨p.op=19∨p.op=20∨p.op=21∨p.op=22)→p.a=0∧p.s.size=0)
instance (p:B7) (n:Int):Decidable (BS p n):=by unfold BS;infer_instance
def ES (n:Int):B7→Bool:=fun p=>!decide (BS p n)
def DQ (xs:List B7):Int:=if 0≤Fj (ES xs.length) (xs.take 40) then Fj (ES xs.length) (xs.take 40) else if (40:Int)<xs.length then 40 else -1
theorem S4 {xs:List B7} {k:Nat} {x:B7} (hk:k<40) (hn:∀ y∈xs.take k,ES xs.length y=false) (hx:xs[k]?=some x) (hb:¬ BS x xs.length):DQ xs=(k:Int):=by
 have:Fj (ES xs.length) (xs.take 40)=(k:Int):=Kh (k:=k) (by rw [List.take_take,Nat.min_eq_left (by omega)];exact hn) (by rw [List.getElem?_take,if_pos hk];exact hx) (by simp [ES,hb])
 unfold DQ
 rw [this,if_pos (by omega)]
theorem Ok {xs:List B7} {k:Nat} (hk:k=min xs.length 40) (hn:∀ y∈xs.take k,ES xs.length y=false):DQ xs=if (40:Int)<xs.length then 40 else -1:=by
 have:Fj (ES xs.length) (xs.take 40)= -1:=Je (by
  intro y hy
  refine hn y ?_
  rw [hk]
  rcases Nat.le_total xs.length 40 with h|h
  ·rw [Nat.min_eq_left h,List.take_of_length_le (Nat.le_refl _)]
   rwa [List.take_of_length_le h] at hy
  ·rwa [Nat.min_eq_right h])
 unfold DQ
 rw [this,if_neg (by omega)]
theorem S5 {xs:List B7} {k:Nat} {x:B7} (hn:∀ y∈xs.take k,ES xs.length y=false) (hx:xs[k]?=some x) (hb:BS x xs.length):∀ y∈xs.take (k+1),ES xs.length y=false:=
 Lu hn hx (by simp [ES,hb])
structure A0 where
 t:Bool
 n:Int
 b:ByteArray
def Ke (v:A0):List Value:=[.bool v.t,.int .i64 v.n,.string v.b]
def Bd:Kd A0:=flat Ke 3 (by omega) (fun _=>rfl) (fun _ c h=>by
 simp only [Ke,List.mem_cons,List.not_mem_nil,or_false] at h
 rcases h with rfl|rfl|rfl<;>rfl)
def Dw (n:Int):A0:=⟨false,n,⟨#[]⟩⟩
def E0 (s:ByteArray):A0:=⟨true,0,s⟩
def CQ:A0:=⟨false,0,⟨#[]⟩⟩
def Ff (v:A0):Prop:=AL v.n∧v.b.size≤64
def Bm (op:Int):ByteArray:=
 if op=3∨op=4∨op=22 then ⟨#[101]⟩ else if op=5∨op=12 then ⟨#[101,101]⟩ else if op=8∨op=9∨op=10∨op=11 then ⟨#[110,110]⟩
 else if op=13∨op=23 then ⟨#[98,98]⟩ else if op=14∨op=18 then ⟨#[98]⟩ else if op=15 then ⟨#[98,110]⟩ else if op=16 then ⟨#[98,110,110]⟩ else if op=17∨op=20 then ⟨#[110]⟩ else ⟨#[]⟩
def FM (c:UInt8) (v:A0):Bool:=!((c==110 && v.t)||(c==98 && !v.t))
def Fk:List UInt8→List A0→Bool
 |c::cs,v::vs=>FM c v && Fk cs vs
 |_,_=>true
def AD (op:Int) (stk:List A0):Int×List A0×List A0:=
 if stk.length<(Bm op).size then (1,stk,[])
 else if Fk (Bm op).data.toList (stk.drop (stk.length - (Bm op).size)) then (0,stk.take (stk.length - (Bm op).size),stk.drop (stk.length - (Bm op).size)) else (2,stk,[])
def E6 (v:A0):Bool:=v.t && decide (64<v.b.size)
def Bp (stk vs:List A0):Int×List A0:=
 if vs.any E6 then (4,stk) else if 16<stk.length+vs.length then (1,stk) else (0,stk++vs)
def D7 (told:List Ap) (k v:ByteArray):Int×List Ap:=
 if 16<k.size then (4,told) else if 40≤told.length then (5,told) else (0,told++[⟨k,v⟩])
def BM (op a b:Int):A0:=if op=8 then Dw (IntKind.i64.wrap (a+b)) else if op=9 then Dw (IntKind.i64.wrap (a - b)) else if op=10 then Dw (IntKind.i64.wrap (a*b)) else Dw (if a<b then 1 else 0)
def Rb (b:Bool):A0:=Dw (if b then 1 else 0)
def EW (a b:A0):Bool:=if a.t then b.t && decide (a.b=b.b) else !b.t && decide (a.n=b.n)
def E5 (s:ByteArray) (i:Int):Int:=if i<0∨(s.size:Int)≤i then -1 else ((s[i.toNat]?.getD 0).toNat:Int)
def FL (s:ByteArray) (f t:Int):ByteArray:=
 if min (max t 0) (s.size:Int)≤min (max f 0) (s.size:Int) then ⟨#[]⟩ else s.extract (min (max f 0) (s.size:Int)).toNat (min (max t 0) (s.size:Int)).toNat
structure VM where
 pos:Int
 halted:Bool
 stk:List A0
 g:Nat→A0
 told:List Ap
 vals:List ByteArray
structure By where
 dig:Int→ByteArray
 num:ByteArray→Int
def IU (g:Nat→A0) (k:Nat) (v:A0):Nat→A0:=fun j=>if j=k then v else g j
def Dd (m:VM) (vs:List A0):VM×Int:=({m with stk:=(Bp m.stk vs).2},(Bp m.stk vs).1)
def Hu (m:VM):VM×Int:=
 match m.vals with
 |[]=>Dd m [Dw 0]
 |v::vs=>Dd {m with vals:=vs} [E0 v,Dw 1]
def Cl (D:By) (key:ByteArray) (m:VM) (i:B7) (v:List A0):VM×Int:=
 let v0:=v.getD 0 CQ;let v1:=v.getD 1 CQ;let v2:=v.getD 2 CQ
 if i.op=0 then ({m with halted:=true},0)
 else if i.op=1 then Dd m [Dw i.a]
 else if i.op=2 then Dd m [E0 i.s]
 else if i.op=3 then Dd m [v0,v0]
 else if i.op=5 then Dd m [v1,v0]
 else if i.op=6 then Dd m [E0 key]
 else if i.op=7 then Hu m
 else if i.op=8∨i.op=9∨i.op=10∨i.op=11 then Dd m [BM i.op v0.n v1.n]
 else if i.op=12 then Dd m [Rb (EW v0 v1)]
 else if i.op=13 then Dd m [E0 (v0.b++v1.b)]
 else if i.op=14 then Dd m [Dw v0.b.size]
 else if i.op=15 then Dd m [Dw (E5 v0.b v1.n)]
 else if i.op=16 then Dd m [E0 (FL v0.b v1.n v2.n)]
 else if i.op=17 then Dd m [E0 (D.dig v0.n)]
 else if i.op=18 then Dd m [Dw (D.num v0.b)]
 else if i.op=19 then ({m with pos:=i.a},0)
 else if i.op=20 then (if v0.n≠0 then {m with pos:=i.a} else m,0)
 else if i.op=21 then Dd m [m.g i.a.toNat]
 else if i.op=22 then ({m with g:=IU m.g i.a.toNat v0},0)
 else if i.op=23 then ({m with told:=(D7 m.told v0.b v1.b).2},(D7 m.told v0.b v1.b).1)
 else (m,0)
def BR (D:By) (key:ByteArray) (m:VM) (i:B7):VM×Int:=
 if (AD i.op m.stk).1≠0 then (m,(AD i.op m.stk).1) else Cl D key {m with stk:=(AD i.op m.stk).2.1} i (AD i.op m.stk).2.2
def CR (D:By) (p:List B7) (key:ByteArray):Nat→VM→VM×Int
 |0,m=>if m.pos<p.length∧m.halted=false then (m,3) else (m,0)
 |n+1,m=>
  if m.pos<p.length∧m.halted=false then
   match p[m.pos.toNat]? with
   |some i=>if (BR D key {m with pos:=m.pos+1} i).2≠0 then BR D key {m with pos:=m.pos+1} i else CR D p key n (BR D key {m with pos:=m.pos+1} i).1
   |none=>(m,0)
  else (m,0)
def DP (vals:List ByteArray):VM:=⟨0,false,[],fun _=>CQ,[],vals⟩
def Ca (D:By) (p:List B7) (key:ByteArray) (vals:List ByteArray) (fuel:Int):List Ap×Int:=
 if ¬ DQ p<0∨fuel<0 then ([],2)
 else if (CR D p key (min fuel 2000).toNat (DP vals)).2≠0 then ([],(CR D p key (min fuel 2000).toNat (DP vals)).2) else ((CR D p key (min fuel 2000).toNat (DP vals)).1.told,0)
/-! ### Facts -/
theorem NN (x:Int):AL (IntKind.i64.wrap x):=by
 unfold AL
 simp only [IntKind.wrap,IntKind.bits,IntKind.signed]
 simp
 omega
theorem YM (op a b:Int):Ff (BM op a b):=by
 unfold BM
 split
 ·exact ⟨NN _,(by decide:(⟨#[]⟩:ByteArray).size≤64)⟩
 ·split
  ·exact ⟨NN _,(by decide:(⟨#[]⟩:ByteArray).size≤64)⟩
  ·split
   ·exact ⟨NN _,(by decide:(⟨#[]⟩:ByteArray).size≤64)⟩
   ·refine ⟨?_,(by decide:(⟨#[]⟩:ByteArray).size≤64)⟩
    show AL (if a<b then 1 else 0)
    split<;>(unfold AL;omega)
def Bl (pv:Value) (key:ByteArray) (vv:Value) (fuel pos steps:Int) (halted:Bool) (sv:Value) (g:Nat→A0) (tv mv:Value):List Value:=
 [pv,.string key,vv,.int .i64 fuel,.int .i64 pos,.int .i64 steps,.bool halted,sv,
  .bool (g 0).t,.int .i64 (g 0).n,.string (g 0).b,.bool (g 1).t,.int .i64 (g 1).n,.string (g 1).b,.bool (g 2).t,.int .i64 (g 2).n,.string (g 2).b,.bool (g 3).t,.int .i64 (g 3).n,.string (g 3).b,
  .bool (g 4).t,.int .i64 (g 4).n,.string (g 4).b,.bool (g 5).t,.int .i64 (g 5).n,.string (g 5).b,.bool (g 6).t,.int .i64 (g 6).n,.string (g 6).b,.bool (g 7).t,.int .i64 (g 7).n,.string (g 7).b,tv,mv]
section
variable {P:Program} {fn:Func} {R:Ending→World→Prop} {n:Nat} {l:BQ} {w w':World} {v:Value} {t:TypeId}
theorem aV {s:Tmp} {sz:Nat} {p:Addr} {cs:List Value} {a:Act} (hr:fn.results=#[.cell s t]) (ha:CL n l a) (hs:lk l s=some (.pointer (some p))) (ht:Cj P t=some (true,sz)) (hz:cs.length=sz) (hc:∀ j v,cs[j]?=some v→w.cell? (p.add j)=some v):(results fn a.tmps).run P w=.ok (.agg cs.toArray) w:=by
 have hl:=run_loadCells_list (P:=P) w p cs hc
 have hg:=(ha.get s _ hs).1
 simp [results,hr]
 rw [←Array.getD_eq_getD_getElem?,hg]
 simp [asAddr,loadVar,Lg ht,No ht,←hz,hl]
theorem FB {s:Tmp} {sz:Nat} {p:Addr} {cs:List Value} (hr:fn.results=#[.cell s t]) (hs:lk l s=some (.pointer (some p))) (ht:Cj P t=some (true,sz)) (hz:cs.length=sz) (hc:∀ j v,cs[j]?=some v→w.cell? (p.add j)=some v) (h:R (.returned (.agg cs.toArray)) w):WQ (bodyPost P fn R) .ret n l w:=
 fun a ha=>bodyPost_ret (aV hr ha hs ht hz hc) ha.defers h
end
section
variable {P:Program} {n:Nat} {l:BQ} {w w0:World} {F0:AU} {o:Oper} {x y z:Operand} {t:TypeId} {As Rs:List SP}
theorem ZA {tt:TypeId} {s:ByteArray} {k k':IntKind} {i j:Int} {r:ByteArray} (ho:o.op=.slice tt x (some y) (some z) none) (ht:P.underlying tt=some .string) (hx:ev l x=some (.string s)) (hy:ev l y=some (.int k i)) (hz:ev l z=some (.int k' j))
  (h0:0≤i) (h1:i≤j) (h2:j≤(s.size:Int)) (hr:s.extract i.toNat j.toNat=r):BL P n l w o (.string r) w:=by
 intro a ha
 have hb:(Instr.sliceBounds false s.size s.size (some (.int k i)) (some (.int k' j)) none).run P w=.ok (i.toNat,j.toNat,s.size) w:=by
  have g0:0≤j:=by omega
  simp [Instr.sliceBounds,Instr.sliceBound,asIntOf,h0,h2,g0]
  intro hh
  omega
 simp [execOp,ho,ha.eval hx,ha.eval hy,ha.eval hz,Instr.sliceAt,Instr.slice,hb,run_underlying ht,←hr]
theorem Hx {tt e:TypeId} {size len:Nat} {b off:Nat} {k:IntKind} {i:Int} {p:Nat} (ho:o.op=.indexAddr tt x y) (hu:P.underlying tt=some (.array len e)) (hi:(P.info? e).map (·.size)=some size)
  (hx:ev l x=some (.pointer (some ⟨b,off,none⟩))) (hy:ev l y=some (.int k i)) (h0:0≤i) (h1:i<(len:Int)) (hp:off+i.toNat*size=p):BL P n l w o (.pointer (some ⟨b,p,none⟩)) w:=by
 obtain ⟨inf,h2,h3⟩:=Option.map_eq_some_iff.1 hi
 exact ZF ho hu h2 h3 hx hy h0 h1 hp
theorem RG {t':TypeId} {u:Value} {b:Bool} (ho:o.op=.binOp .neq t x (.const .nilIface) t') (ht:P.underlying t=some (.interface (P.methodsAt t))) (hx:ev l x=some u) (hu:(u=.nilIface∧b=false)∨(∃ te pe,u=.iface te pe∧b=true)):BL P n l w o (.bool b) w:=by
 intro a ha
 have hc:a.eval (.const .nilIface)=.nilIface:=rfl
 rcases hu with ⟨rfl,rfl⟩|⟨te,pe,rfl,rfl⟩
 ·have h:=run_equal_nil_nil (P:=P) w t ht
  simp [execOp,ho,ha.eval hx,hc,eqGuard,binOp,h]
 ·have h:=run_equal_held_nil (P:=P) w t te pe ht
  simp [execOp,ho,ha.eval hx,hc,eqGuard,binOp,h]
theorem RL {src dst e:TypeId} {p:Addr} {v:Value} (ho:o.op=.convert src dst x) (hs:P.underlying src=some (.pointer e)) (hd:P.underlying dst=some .unsafePointer) (hz:(P.info? e).map (fun i=>decide (i.size=0))=some false) (hx:ev l x=some (.pointer (some p))) (hc:w.cell? p=some v):BL P n l w o (.pointer (some p)) w:=by
 intro a ha
 simp [execOp,ho,ha.eval hx,run_convert_to_unsafe hs hd hz hc]
theorem Ri {α:Type} {d:Kd α} {F:AU} {A:Option Addr} {m c:Nat} {xs:List α} (h:(Y d (.slice A m c) xs).P w F) {i:Nat} (hi:i≤m):(Y d (.slice A i c) (xs.take i)).P w F:=by
 obtain ⟨A',m',c',e,hl,cs,F1,F2,s1,s2,dj,⟨r1,r2,r3,r4⟩,hrep⟩:=h
 simp only [List.cons.injEq,Value.slice.injEq,and_true] at e
 obtain ⟨rfl,rfl,rfl⟩:=e
 refine ⟨A,i,c,rfl,by rw [List.length_take];omega,cs.take (i*d.sz),F1,F2,s1,s2,dj,⟨by omega,r2,?_,?_⟩,hrep.take i⟩
 ·rw [List.length_take,r3]
  exact Nat.min_eq_left (Nat.mul_le_mul_right _ hi)
 ·rcases r4 with h0|⟨b,C,t,e,hb,hh,hs,ht⟩
  ·exact .inl h0
  ·refine .inr ⟨b,C,t,e,hb,hh,hs,?_⟩
   rw [←ht,List.take_take,Nat.min_eq_left (Nat.mul_le_mul_right _ hi)]
theorem Hd.preO {α:Type} {d:Kd α} {A:Option Addr} {m c:Nat} {xs:List α} (H:Hd w0 F0 w (Y d (.slice A m c) xs::As) Rs) (i:Nat) (hi:i≤m):Hd w0 F0 w (Y d (.slice A i c) (xs.take i)::As) Rs:=H.turn fun _ h=>Ri h hi
end
section
variable {w w0:World} {F0:AU} {As Rs:List SP} {α:Type} {enc:α→List Value} {sz:Nat} {hp:0<sz} {hl:∀ x,(enc x).length=sz} {h1:∀ x,∀ c∈enc x,c.oneCell'=true} {xs:List α} {A:Option Addr} {m c:Nat}
theorem Hd.thX (H:Hd w0 F0 w As Rs) (hS:∀ F,(∀ A∈As,A.P w F)→(∀ R∈Rs,R.P w F)→(Ae (flat enc sz hp hl h1) (.slice A m c) xs).P w F) {i:Nat} {x:α} (hx:xs[i]?=some x):FK A:=H.read fun F hA hR=>L2 (hS F hA hR) hx
theorem Hd.elX (H:Hd w0 F0 w As Rs) (hS:∀ F,(∀ A∈As,A.P w F)→(∀ R∈Rs,R.P w F)→(Ae (flat enc sz hp hl h1) (.slice A m c) xs).P w F) {i:Nat} {x:α} (hx:xs[i]?=some x) {q p:Nat} {u:Value} (hu:(enc x)[q]?=some u) (hpj:A_ A+i*sz+q=p):w.cell? ⟨Ep A,p,none⟩=some u:=
 H.read fun F hA hR=>L0 (hS F hA hR) hx hu hpj
theorem Hd.elsX (H:Hd w0 F0 w As Rs) (hS:∀ F,(∀ A∈As,A.P w F)→(∀ R∈Rs,R.P w F)→(Ae (flat enc sz hp hl h1) (.slice A m c) xs).P w F) {i:Nat} {x:α} (hx:xs[i]?=some x) {p:Nat} (hpj:A_ A+i*sz=p):∀ q v,(enc x)[q]?=some v→w.cell? ((⟨Ep A,p,none⟩:Addr).add q)=some v:=by
 intro q v hq
 rw [EE]
 exact H.elX hS hx hq (by rw [hpj])
end
section
variable {pv:Value} {key:ByteArray} {vv:Value} {fuel pos steps:Int} {halted:Bool} {sv:Value} {g:Nat→A0} {tv mv:Value}
theorem QD {k:Nat} (h:k<8):k=0∨k=1∨k=2∨k=3∨k=4∨k=5∨k=6∨k=7:=by omega
theorem bB {k:Nat} (h:k<8):(((Bl pv key vv fuel pos steps halted sv g tv mv).drop (8+k*3)).take 3)=Ke (g k):=by
 rcases QD h with rfl|rfl|rfl|rfl|rfl|rfl|rfl|rfl<;>rfl
theorem bC {k:Nat} (h:k<8) (v:A0):EV (Bl pv key vv fuel pos steps halted sv g tv mv) (8+k*3) (Ke v)=Bl pv key vv fuel pos steps halted sv (IU g k v) tv mv:=by
 rcases QD h with rfl|rfl|rfl|rfl|rfl|rfl|rfl|rfl<;>rfl
end
def At {α:Type} (d:Kd α):Kd (Value×List α) where
 sz:=1
 O w F x cs:=cs=[x.1]∧(Cm d).O w F x.2 [x.1]
 R w F x cs:=cs=[x.1]∧(Cm d).R w F x.2 [x.1]
 O_loc h hk:=⟨h.1,(Cm d).O_loc h.2 hk⟩
 O_mono h hk:=⟨h.1,(Cm d).O_mono h.2 hk⟩
 R_loc h hk:=⟨h.1,(Cm d).R_loc h.2 hk⟩
 R_mono h hk:=⟨h.1,(Cm d).R_mono h.2 hk⟩
 O_R h:=⟨h.1,(Cm d).O_R h.2⟩
 len h:=by rw [h.1];rfl
 one h:=fun c hc=>(Cm d).one h.2 c (h.1▸hc)
 pos:=Nat.one_pos
section
variable {w w0:World} {F F0:AU} {As Rs:List SP} {α:Type} {d:Kd α} {A:Option Addr} {m c:Nat} {us:List (Value×List α)}
theorem Mo (h:(Ae (At d) (.slice A m c) us).P w F) {i:Nat} {x:Value×List α} (hx:us[i]?=some x):
  FK A∧w.cell? ⟨Ep A,A_ A+i*1,none⟩=some x.1∧(Ae d x.1 x.2).P w F:=by
 obtain ⟨b,off,cs,e,hl,hc,h1,h2⟩:=JG h hx
 subst h1 e
 exact ⟨rfl,hc 0 x.1 rfl,h2⟩
theorem KN (h:(Ae (At d) (.slice A m c) us).P w F) {i:Nat} {u:Value} {x:List α} (hx:us[i]?=some (u,x)):(Ae d u x).P w F:=(Mo h hx).2.2
theorem Hd.thRd (H:Hd w0 F0 w As Rs) (j:Nat) (hj:Rs[j]?=some (Ae (At d) (.slice A m c) us)) {i:Nat} {x:Value×List α} (hx:us[i]?=some x):FK A:=H.factR (List.mem_of_getElem? hj) fun _ h=>(Mo h hx).1
theorem Hd.elRd (H:Hd w0 F0 w As Rs) (j:Nat) (hj:Rs[j]?=some (Ae (At d) (.slice A m c) us)) {i:Nat} {u:Value} {x:List α} (hx:us[i]?=some (u,x)) {p:Nat} (hp:A_ A+i*1=p):w.cell? ⟨Ep A,p,none⟩=some u:=by
 subst hp
 exact H.factR (List.mem_of_getElem? hj) fun _ h=>(Mo h hx).2.1
theorem Hd.nestR (H:Hd w0 F0 w As Rs) (j:Nat) (hj:Rs[j]?=some (Ae (At d) (.slice A m c) us)) {i:Nat} {u:Value} {x:List α} (hx:us[i]?=some (u,x)):∃ A' c',u=.slice A' x.length c'∧x.length≤c'∧c'≤9223372036854775807:=by
 refine H.factR (List.mem_of_getElem? hj) fun _ h=>?_
 obtain ⟨A',c',e,h1,h2,_⟩:=D_ (KN h hx)
 exact ⟨A',c',e,h1,h2⟩
theorem Hd.pickR (is:List Nat) (H:Hd w0 F0 w As Rs):Hd w0 F0 w As (is.filterMap fun i=>Rs[i]?):=H.subR fun R hR=>by
 obtain ⟨i,_,hi⟩:=List.mem_filterMap.1 hR
 exact List.mem_of_getElem? hi
theorem Hd.dropR {R:SP} (H:Hd w0 F0 w As (R::Rs)):Hd w0 F0 w As Rs:=H.subR fun _ hR=>List.mem_cons_of_mem _ hR
theorem Hd.dupR {R:SP} (H:Hd w0 F0 w As Rs) (j:Nat) (hj:Rs[j]?=some R):Hd w0 F0 w As (R::Rs):=H.addR fun _ h=>h _ (List.mem_of_getElem? hj)
theorem Hd.sufR {xs:List α} (H:Hd w0 F0 w As Rs) (j:Nat) (hj:Rs[j]?=some (Ae d (.slice A m c) xs)) {n:Nat} (hn:n≤m):Hd w0 F0 w As (Ae d (.slice (D1 A c n d.sz) (m - n) (c - n)) (xs.drop n)::Rs):=
 H.addR fun _ h=>IS (h _ (List.mem_of_getElem? hj)) hn
theorem RU:∀ {us:List (Value×List α)},(∀ p∈us,(Ae d p.1 p.2).P w F)→Bc (At d) w F us (us.map (·.1))
 |[],_=>rfl
 |p::us,h=>⟨[p.1],us.map (·.1),rfl,⟨rfl,h p (List.mem_cons_self ..)⟩,RU fun q hq=>h q (List.mem_cons_of_mem _ hq)⟩
end
section
variable {P:Program} {ops:Array Oper} {Q:Exit→Act→World→Prop} {rest:List Oper} {n:Nat} {l:BQ} {w0 w:World} {F0:AU} {o:Oper} {As Rs:List SP} {x y:Operand} {t:TypeId}
theorem IT {α:Type} {d:Kd α} {e bytes et b:Nat} {z u v':Value} {us:List (Value×List α)} {ys:List α}
  (hg:gd ops l o=some true) (hd:C0 n o.dst=true) (ho:o.op=.call { callee:=.builtin .append,args:=#[x,y],argTypes:=#[t,t] }) (hs:Dn P t=some (e,1,bytes)) (hz:Dp P e=some z) (hzs:z.cells.size=1) (hb0:0<bytes)
  (hx:ev l x=some u) (hy:ev l y=some (.slice (some ⟨b,0,none⟩) 1 1)) (H:Hd w0 F0 w (Y (At d) u us::blk b [v'] et::Y d v' ys::As) Rs) (hb:(us.length+1)*bytes≤140737488355328)
  (h:∀ u' w',Hd w0 F0 w' (Y (At d) u' (us++[(v',ys)])::As) Rs→WL P ops Q rest n (CH l o.dst u') w'):WL P ops Q (o::rest) n l w:=by
 have H1:Hd w0 F0 w ([blk b [v'] et,Y d v' ys]++(Y (At d) u us::As)) Rs:=H.perm ((List.Perm.swap _ _ _).trans ((List.Perm.swap _ _ _).cons _))
 have H2:=H1.shut (A:=BV [blk b [v'] et,Y d v' ys]) (fun F hF=>hF)
 have H3:=H2.perm (List.Perm.swap _ _ _)
 refine bO (d:=At d) (ys:=[(v',ys)]) hg hd ho hs hz hzs hb0 hx hy H3 hb U ?_ h
 rintro F ⟨F1,F2,h1,h2,h3,hbk,G1,G2,g1,g2,g3,hos,_⟩
 refine ⟨[v'],⟨trivial,.inr ⟨b,0,_,_,_,rfl,h1 b hbk.1,hbk.2,by simp⟩⟩,?_⟩
 exact ⟨F2,none_,[v'],[],h2,fun _ q=>q.elim,fun _ _ q=>q,rfl,⟨rfl,(Cm d).O_mono hos g1⟩,rfl⟩
end
theorem MG (a b:ByteArray):Bv a b=decide (a.data.toList<b.data.toList):=Proofs.bytesLess_eq _ _
theorem Hr (a:ByteArray):Bv a a=false:=by
 rw [MG]
 exact decide_eq_false (List.lt_irrefl _)
theorem QF {a b c:ByteArray} (h1:Bv a b=true) (h2:Bv b c=true):Bv a c=true:=by
 rw [MG] at *
 exact decide_eq_true (List.lt_trans (of_decide_eq_true h1) (of_decide_eq_true h2))
theorem KE {a b:ByteArray} (h1:Bv a b=true):Bv b a=false:=by
 cases h:Bv b a with
 |false=>rfl
 |true=>have:=QF h1 h;rw [Hr] at this;cases this
theorem MF {a b:ByteArray} (h1:Bv a b=false) (h2:Bv b a=false):a=b:=by
 rw [MG] at *
 have h1:=of_decide_eq_false h1
 have h2:=of_decide_eq_false h2
 exact toList_inj (List.le_antisymm h2 h1)
theorem GA {a b c:ByteArray} (h1:Bv b a=false) (h2:Bv c b=false):Bv c a=false:=by
 cases h:Bv c a with
 |false=>rfl
 |true=>
  cases h3:Bv a b with
  |true=>have:=QF h h3;rw [this] at h2;cases h2
  |false=>
   have:=MF h3 h1
   subst this
   rw [h] at h2
   cases h2
theorem QE {a b c:ByteArray} (h1:Bv a b=true) (h2:Bv c b=false):Bv a c=true:=by
 cases h:Bv a c with
 |true=>rfl
 |false=>have:=GA h2 h;rw [this] at h1;cases h1
theorem XE {a b c:ByteArray} (h1:Bv b a=false) (h2:Bv b c=true):Bv a c=true:=by
 cases h:Bv a c with
 |true=>rfl
 |false=>have:=GA h h1;rw [this] at h2;cases h2
def Ci (xs ys:List Ap):Prop:=xs.length=ys.length∧∀ k:ByteArray,xs.filter (fun p=>decide (p.key=k))=ys.filter (fun p=>decide (p.key=k))
theorem Ci.refl (xs:List Ap):Ci xs xs:=⟨rfl,fun _=>rfl⟩
theorem Ci.trans {xs ys zs:List Ap} (h1:Ci xs ys) (h2:Ci ys zs):Ci xs zs:=⟨h1.1.trans h2.1,fun k=>(h1.2 k).trans (h2.2 k)⟩
theorem Ci.symm {xs ys:List Ap} (h1:Ci xs ys):Ci ys xs:=⟨h1.1.symm,fun k=>(h1.2 k).symm⟩
theorem Ci.append {a b c d:List Ap} (h1:Ci a b) (h2:Ci c d):Ci (a++c) (b++d):=
 ⟨by rw [List.length_append,List.length_append,h1.1,h2.1],fun k=>by rw [List.filter_append,List.filter_append,h1.2,h2.2]⟩
theorem Ci.mem {xs ys:List Ap} (h:Ci xs ys) {p:Ap} (hp:p∈xs):p∈ys:=by
 have:p∈xs.filter (fun q=>decide (q.key=p.key)):=List.mem_filter.2 ⟨hp,by simp⟩
 rw [h.2] at this
 exact (List.mem_filter.1 this).1
def Db (xs:List Ap):Prop:=xs.Pairwise fun p q=>Bv q.key p.key=false
instance (xs:List Ap):Decidable (Db xs):=by unfold Db;infer_instance
def ins (p:Ap):List Ap→List Ap
 |[]=>[p]
 |q::l=>if Bv q.key p.key=true then q::ins p l else p::q::l
def srt:List Ap→List Ap
 |[]=>[]
 |p::l=>ins p (srt l)
theorem PR {p q:Ap}:∀ {l:List Ap},q∈ins p l↔q=p∨q∈l
 |[]=>by simp [ins]
 |r::l=>by
  unfold ins
  split
  ·rw [List.mem_cons,PR,List.mem_cons]
   constructor<;>(rintro (h|h|h)<;>simp [h])
  ·simp
theorem PS {p:Ap}:∀ {l:List Ap},Db l→Db (ins p l)
 |[],_=>by simp [ins,Db]
 |q::l,h=>by
  have h':=List.pairwise_cons.1 h
  unfold ins
  split
  ·rename_i hlt
   refine List.pairwise_cons.2 ⟨fun r hr=>?_,PS h'.2⟩
   rcases PR.1 hr with rfl|hr
   ·exact KE hlt
   ·exact h'.1 r hr
  ·rename_i hlt
   have hlt:Bv q.key p.key=false:=by simpa using hlt
   refine List.pairwise_cons.2 ⟨fun r hr=>?_,h⟩
   rcases List.mem_cons.1 hr with rfl|hr
   ·exact hlt
   ·exact GA hlt (h'.1 r hr)
theorem PT {p:Ap}:∀ {l:List Ap},Ci (p::l) (ins p l)
 |[]=>Ci.refl _
 |q::l=>by
  unfold ins
  split
  ·rename_i hlt
   have hne:p.key≠q.key:=fun e=>by rw [e,Hr] at hlt;cases hlt
   have h1:Ci (p::q::l) (q::p::l):=by
    refine ⟨by simp,fun k=>?_⟩
    by_cases hp:p.key=k
    ·have:¬ q.key=k:=fun e=>hne (hp.trans e.symm)
     simp [hp,this]
    ·simp [List.filter_cons,hp]
   exact h1.trans (Ci.append (Ci.refl [q]) (PT (p:=p) (l:=l)))
  ·exact Ci.refl _
theorem JN:∀ l:List Ap,Db (srt l)
 |[]=>List.Pairwise.nil
 |_::l=>PS (JN l)
theorem GH:∀ l:List Ap,Ci l (srt l)
 |[]=>Ci.refl _
 |p::l=>(Ci.append (Ci.refl [p]) (GH l)).trans PT
theorem Rh:∀ {xs ys:List Ap},Db xs→Db ys→Ci xs ys→xs=ys
 |[],ys,_,_,h=>(List.eq_nil_of_length_eq_zero h.1.symm).symm
 |x::xs,[],_,_,h=>by cases h.1
 |x::xs,y::ys,hx,hy,h=>by
  have hx':=List.pairwise_cons.1 hx
  have hy':=List.pairwise_cons.1 hy
  have hk:x.key=y.key:=by
   refine MF ?_ ?_
   ·rcases List.mem_cons.1 (h.mem (List.mem_cons_self ..):x∈y::ys) with e|hm
    ·rw [e,Hr]
    ·exact hy'.1 x hm
   ·rcases List.mem_cons.1 (h.symm.mem (List.mem_cons_self ..):y∈x::xs) with e|hm
    ·rw [e,Hr]
    ·exact hx'.1 y hm
  have he:=h.2 x.key
  rw [List.filter_cons_of_pos (by simp),List.filter_cons_of_pos (by simp [hk])] at he
  obtain ⟨rfl,_⟩:=List.cons.inj he
  rw [Rh hx'.2 hy'.2 ⟨by simpa using h.1,fun k=>?_⟩]
  have hk2:=h.2 k
  by_cases hxk:x.key=k
  ·rw [List.filter_cons_of_pos (by simp [hxk]),List.filter_cons_of_pos (by simp [hxk])] at hk2
   exact (List.cons.inj hk2).2
  ·rw [List.filter_cons_of_neg (by simp [hxk]),List.filter_cons_of_neg (by simp [hxk])] at hk2
   exact hk2
theorem JM {xs ys:List Ap} (h:Ci xs ys) (ho:Db ys):ys=srt xs:=Rh ho (JN xs) (h.symm.trans (GH xs))
theorem Si {xs:List Ap} (ho:Db xs):srt xs=xs:=(JM (Ci.refl xs) ho).symm
theorem cP {xs ys:List Ap} (h:Ci xs ys):srt xs=srt ys:=(JM (h.trans (GH ys)) (JN ys)).symm
theorem GG (xs:List Ap):(srt xs).length=xs.length:=(GH xs).1.symm
def C7 (xs ys:List Ap) (f:Nat→Nat):Prop:=ys.length=xs.length∧∀ t,ys[t]?=xs[f t]?
def Fp (a b n t:Nat):Nat:=if a≤t∧t<a+n then t+(b - a) else if b≤t∧t<b+n then t - (b - a) else t
def Bz (a m b t:Nat):Nat:=if a≤t∧t<a+(b - m) then t+(m - a) else if a+(b - m)≤t∧t<b then t - (b - m) else t
theorem LD (xs:List Ap) {f:Nat→Nat} (h:∀ t,f t=t):C7 xs xs f:=⟨rfl,fun t=>by rw [h]⟩
theorem eO {xs ys:List Ap} {a b k:Nat} {x y:Ap} (hab:a+k<b) (h:C7 xs ys (Fp a b k)) (hx:ys[a+k]?=some x) (hy:ys[b+k]?=some y):
  C7 xs ((ys.set (a+k) y).set (b+k) x) (Fp a b (k+1)):=by
 have l1:a+k<ys.length:=(List.getElem?_eq_some_iff.1 hx).1
 have l2:b+k<ys.length:=(List.getElem?_eq_some_iff.1 hy).1
 refine ⟨by simpa using h.1,fun t=>?_⟩
 rw [List.getElem?_set,List.getElem?_set]
 have hx':=h.2 (a+k)
 have hy':=h.2 (b+k)
 rw [hx] at hx'
 rw [hy] at hy'
 by_cases h1:b+k=t
 ·subst h1
  rw [if_pos rfl,if_pos (by simpa using l2),hx']
  congr 1
  unfold Fp
  rw [if_neg (by omega),if_neg (by omega),if_neg (by omega),if_pos (by omega)]
  omega
 ·rw [if_neg h1]
  by_cases h2:a+k=t
  ·subst h2
   rw [if_pos rfl,if_pos l1,hy']
   congr 1
   unfold Fp
   rw [if_neg (by omega),if_neg (by omega),if_pos (by omega)]
   omega
  ·rw [if_neg h2,h.2]
   congr 1
   unfold Fp
   repeat' split
   all_goals omega
theorem aX {xs ys:List Ap} {m i j:Nat} (him:i≤m) (hj:j<i) (h:C7 xs ys (Fp (m - i) m j)):∀ t,xs[Bz (m - i) m (m+j) t]?=ys[Bz (m - (i - j)) m (m+j) t]?:=by
 intro t
 rw [h.2]
 congr 1
 unfold Bz Fp
 repeat' split
 all_goals omega
theorem aY {xs ys:List Ap} {m i j:Nat} (him:i≤m) (hj:i<j) (h:C7 xs ys (Fp (m - i) (m+j - i) i)):∀ t,xs[Bz (m - i) m (m+j) t]?=ys[Bz (m - i) m (m+(j - i)) t]?:=by
 intro t
 rw [h.2]
 congr 1
 unfold Bz Fp
 repeat' split
 all_goals omega
theorem aW {m i t:Nat} (him:i≤m):Bz (m - i) m (m+i) t=Fp (m - i) m i t:=by
 unfold Bz Fp
 repeat' split
 all_goals omega
theorem eL {xs ys:List Ap} {a m b:Nat} (h:C7 xs ys (Bz a m b)) (h1:a≤m) (h2:m≤b) (h3:b≤xs.length):
  ys=xs.take a++((xs.drop m).take (b - m)++((xs.drop a).take (m - a)++xs.drop b)):=by
 apply List.ext_getElem?
 intro t
 rw [h.2]
 unfold Bz
 by_cases c1:t<a
 ·rw [if_neg (by omega),if_neg (by omega),List.getElem?_append_left (by simp;omega),List.getElem?_take,if_pos c1]
 rw [List.getElem?_append_right (by simp;omega)]
 have e1:(xs.take a).length=a:=by simp;omega
 rw [e1]
 by_cases c2:t<a+(b - m)
 ·rw [if_pos (by omega),List.getElem?_append_left (by simp;omega),List.getElem?_take,if_pos (by omega),List.getElem?_drop]
  congr 1
  omega
 rw [List.getElem?_append_right (by simp;omega),if_neg (by omega)]
 have e2:((xs.drop m).take (b - m)).length=b - m:=by simp;omega
 rw [e2]
 by_cases c3:t<b
 ·rw [if_pos (by omega),List.getElem?_append_left (by simp;omega),List.getElem?_take,if_pos (by omega),List.getElem?_drop]
  congr 1
  omega
 rw [List.getElem?_append_right (by simp;omega),if_neg (by omega)]
 have e3:((xs.drop a).take (m - a)).length=m - a:=by simp;omega
 rw [e3,List.getElem?_drop]
 congr 1
 omega
theorem T4 {xs:List Ap} {a m b:Nat} (h1:a≤m) (h2:m≤b):xs=xs.take a++((xs.drop a).take (m - a)++((xs.drop m).take (b - m)++xs.drop b)):=by
 have e1:(xs.drop m).take (b - m)++xs.drop b=xs.drop m:=by
  have:=List.take_append_drop (b - m) (xs.drop m)
  rwa [List.drop_drop,show m+(b - m)=b by omega] at this
 have e2:(xs.drop a).take (m - a)++xs.drop m=xs.drop a:=by
  have:=List.take_append_drop (m - a) (xs.drop a)
  rwa [List.drop_drop,show a+(m - a)=m by omega] at this
 rw [e1,e2,List.take_append_drop]
theorem R3 {xs ys:List Ap} {a m b:Nat} (h:C7 xs ys (Bz a m b)) (h1:a≤m) (h2:m≤b) (h3:b≤xs.length)
  (hne:∀ p q x y,a≤p→p<m→m≤q→q<b→xs[p]?=some x→xs[q]?=some y→x.key≠y.key):Ci xs ys:=by
 refine ⟨h.1.symm,fun k=>?_⟩
 rw [eL h h1 h2 h3]
 conv=>lhs;rw [T4 (xs:=xs) h1 h2]
 simp only [List.filter_append]
 congr 1
 rw [←List.append_assoc,←List.append_assoc]
 congr 1
 by_cases hk:∃ x∈(xs.drop a).take (m - a),x.key=k
 ·obtain ⟨x,hx,hxk⟩:=hk
  obtain ⟨p,hp⟩:=List.getElem?_of_mem hx
  have hpl:p<m - a:=by
   have:=(List.getElem?_eq_some_iff.1 hp).1
   simp at this
   omega
  rw [List.getElem?_take,if_pos hpl,List.getElem?_drop] at hp
  have:(((xs.drop m).take (b - m)).filter fun p=>decide (p.key=k))=[]:=by
   rw [List.filter_eq_nil_iff]
   intro y hy
   obtain ⟨q,hq⟩:=List.getElem?_of_mem hy
   have hql:q<b - m:=by
    have:=(List.getElem?_eq_some_iff.1 hq).1
    simp at this
    omega
   rw [List.getElem?_take,if_pos hql,List.getElem?_drop] at hq
   have:=hne (a+p) (m+q) x y (by omega) (by omega) (by omega) (by omega) hp hq
   simp only [decide_eq_true_eq]
   exact fun e=>this (hxk.trans e.symm)
  rw [this,List.append_nil,List.nil_append]
 ·have:(((xs.drop a).take (m - a)).filter fun p=>decide (p.key=k))=[]:=by
   rw [List.filter_eq_nil_iff]
   intro x hx
   simp only [decide_eq_true_eq]
   exact fun e=>hk ⟨x,hx,e⟩
  rw [this,List.append_nil,List.nil_append]
def B_ (xs:List Ap) (a b:Nat):Prop:=∀ p q x y,a≤p→p<q→q<b→xs[p]?=some x→xs[q]?=some y→Bv y.key x.key=false
def Eo (xs ys:List Ap) (a b:Nat):Prop:=ys.length=xs.length∧(∀ t,t<a∨b≤t→ys[t]?=xs[t]?)∧∀ t,a≤t→t<b→∃ u,a≤u∧u<b∧ys[t]?=xs[u]?
theorem Eo.refl (xs:List Ap) (a b:Nat):Eo xs xs a b:=⟨rfl,fun _ _=>rfl,fun t h1 h2=>⟨t,h1,h2,rfl⟩⟩
theorem Eo.trans {xs ys zs:List Ap} {a b:Nat} (h1:Eo xs ys a b) (h2:Eo ys zs a b):Eo xs zs a b:=by
 refine ⟨h2.1.trans h1.1,fun t ht=>(h2.2.1 t ht).trans (h1.2.1 t ht),fun t ha hb=>?_⟩
 obtain ⟨u,u1,u2,e⟩:=h2.2.2 t ha hb
 obtain ⟨u',u1',u2',e'⟩:=h1.2.2 u u1 u2
 exact ⟨u',u1',u2',e.trans e'⟩
theorem Eo.wider {xs ys:List Ap} {a b a' b':Nat} (h:Eo xs ys a b) (ha:a'≤a) (hb:b≤b'):Eo xs ys a' b':=by
 refine ⟨h.1,fun t ht=>h.2.1 t (by omega),fun t h1 h2=>?_⟩
 by_cases c:a≤t∧t<b
 ·obtain ⟨u,u1,u2,e⟩:=h.2.2 t c.1 c.2
  exact ⟨u,by omega,by omega,e⟩
 ·exact ⟨t,h1,h2,h.2.1 t (by omega)⟩
theorem R0 {xs ys:List Ap} {a m b:Nat} (h:C7 xs ys (Bz a m b)) (h1:a≤m) (h2:m≤b):Eo xs ys a b:=by
 refine ⟨h.1,fun t ht=>?_,fun t ha hb=>⟨Bz a m b t,?_,?_,h.2 t⟩⟩
 ·rw [h.2,show Bz a m b t=t by unfold Bz;rw [if_neg (by omega),if_neg (by omega)]]
 ·unfold Bz;split<;>(try split)<;>omega
 ·unfold Bz;split<;>(try split)<;>omega
theorem B_.same {xs ys:List Ap} {a b:Nat} (h:B_ xs a b) (he:∀ t,a≤t→t<b→ys[t]?=xs[t]?):B_ ys a b:=
 fun p q x y h1 h2 h3 hx hy=>h p q x y h1 h2 h3 ((he p h1 (by omega)).symm.trans hx) ((he q (by omega) h3).symm.trans hy)
theorem B_.sub {xs:List Ap} {a b a' b':Nat} (h:B_ xs a b) (ha:a≤a') (hb:b'≤b):B_ xs a' b':=
 fun p q x y h1 h2 h3=>h p q x y (by omega) h2 (by omega)
theorem B_.one (xs:List Ap) {a b:Nat} (h:b≤a+1):B_ xs a b:=fun p q x y h1 h2 h3=>by omega
theorem B_.ord {xs:List Ap} (h:B_ xs 0 xs.length):Db xs:=by
 unfold Db
 rw [List.pairwise_iff_getElem]
 intro i j hi hj hij
 exact h i j _ _ (by omega) hij hj (List.getElem?_eq_getElem hi) (List.getElem?_eq_getElem hj)
structure C6 (xs ys:List Ap) (a b:Nat):Prop where
 stab:Ci xs ys
 ins:Eo xs ys a b
 srt:B_ ys a b
theorem dA {xs:List Ap} {j:Nat} {x y:Ap} (hx:xs[j]?=some x) (hy:xs[j+1]?=some y) (hlt:Bv y.key x.key=true):Ci xs ((xs.set (j+1) x).set j y)∧Eo xs ((xs.set (j+1) x).set j y) j (j+2):=by
 have l1:j+1<xs.length:=(List.getElem?_eq_some_iff.1 hy).1
 have hv:C7 xs ((xs.set (j+1) x).set j y) (Bz j (j+1) (j+2)):=by
  refine ⟨by simp,fun t=>?_⟩
  rw [List.getElem?_set,List.getElem?_set]
  unfold Bz
  by_cases c1:j=t
  ·subst c1
   rw [if_pos rfl,if_pos (by simp;omega),if_pos (by omega),show j+(j+1 - j)=j+1 by omega,hy]
  ·rw [if_neg c1]
   by_cases c2:j+1=t
   ·subst c2
    rw [if_pos rfl,if_pos l1,if_neg (by omega),if_pos (by omega),show j+1 - (j+2 - (j+1))=j by omega,hx]
   ·rw [if_neg c2,if_neg (by omega),if_neg (by omega)]
 refine ⟨R3 hv (by omega) (by omega) (by omega) fun p q u v h1 h2 h3 h4 hu hw=>?_,R0 hv (by omega) (by omega)⟩
 obtain rfl:p=j:=by omega
 obtain rfl:q=p+1:=by omega
 rw [hx] at hu
 rw [hy] at hw
 obtain rfl:=Option.some.inj hu
 obtain rfl:=Option.some.inj hw
 intro e
 rw [e,Hr] at hlt
 cases hlt
def GO (xs:List Ap) (a b j:Nat):Prop:=∀ p q x y,a≤p→p<q→q<b→q≠j→xs[p]?=some x→xs[q]?=some y→Bv y.key x.key=false
theorem Tr {xs:List Ap} {a i:Nat} (h:B_ xs a i):GO xs a (i+1) i:=fun p q x y h1 h2 h3 h4=>h p q x y h1 h2 (by omega)
theorem Tq {xs:List Ap} {a b:Nat} (h:GO xs a b a):B_ xs a b:=fun p q x y h1 h2 h3=>h p q x y h1 h2 h3 (by omega)
theorem Tu {xs:List Ap} {a b j:Nat} {x y:Ap} (h:GO xs a b (j+1)) (ha:a≤j) (hx:xs[j]?=some x) (hy:xs[j+1]?=some y) (hlt:Bv y.key x.key=false):B_ xs a b:=by
 intro p q u v h1 h2 h3 hu hv
 by_cases c:q=j+1
 ·subst c
  rw [hy] at hv
  obtain rfl:=Option.some.inj hv
  by_cases c2:p=j
  ·subst c2
   rw [hx] at hu
   obtain rfl:=Option.some.inj hu
   exact hlt
  ·exact GA (h p j u x h1 (by omega) (by omega) (by omega) hu hx) hlt
 ·exact h p q u v h1 h2 h3 c hu hv
theorem Ts {xs:List Ap} {a b j:Nat} {x y:Ap} (h:GO xs a b (j+1)) (ha:a≤j) (hx:xs[j]?=some x) (hy:xs[j+1]?=some y) (hlt:Bv y.key x.key=true) (hb:j+1<b):GO ((xs.set (j+1) x).set j y) a b j:=by
 have l1:j+1<xs.length:=(List.getElem?_eq_some_iff.1 hy).1
 have g:∀ t u,((xs.set (j+1) x).set j y)[t]?=some u→(t=j∧u=y)∨(t=j+1∧u=x)∨(t≠j∧t≠j+1∧xs[t]?=some u):=by
  intro t u ht
  rw [List.getElem?_set,List.getElem?_set] at ht
  by_cases c1:j=t
  ·rw [if_pos c1,if_pos (by simp;omega)] at ht
   exact .inl ⟨c1.symm,(Option.some.inj ht).symm⟩
  ·rw [if_neg c1] at ht
   by_cases c2:j+1=t
   ·rw [if_pos c2,if_pos l1] at ht
    exact .inr (.inl ⟨c2.symm,(Option.some.inj ht).symm⟩)
   ·rw [if_neg c2] at ht
    exact .inr (.inr ⟨Ne.symm c1,Ne.symm c2,ht⟩)
 intro p q u v h1 h2 h3 h4 hu hv
 rcases g q v hv with ⟨rfl,_⟩|⟨rfl,rfl⟩|⟨q1,q2,hq⟩
 ·exact absurd U h4
 ·rcases g p u hu with ⟨rfl,rfl⟩|⟨rfl,_⟩|⟨p1,p2,hp⟩
  ·exact KE hlt
  ·omega
  ·exact h p j u v h1 (by omega) (by omega) (by omega) hp hx
 ·rcases g p u hu with ⟨rfl,rfl⟩|⟨rfl,rfl⟩|⟨p1,p2,hp⟩
  ·exact h (p+1) q u v (by omega) (by omega) h3 q2 hy hq
  ·exact h j q u v (by omega) (by omega) h3 q2 hx hq
  ·exact h p q u v h1 h2 h3 q2 hp hq
theorem B_.le {xs:List Ap} {a b p q:Nat} {x y:Ap} (h:B_ xs a b) (h1:a≤p) (h2:p≤q) (h3:q<b) (hx:xs[p]?=some x) (hy:xs[q]?=some y):Bv y.key x.key=false:=by
 rcases Nat.lt_or_ge p q with h'|h'
 ·exact h p q x y h1 h' h3 hx hy
 ·obtain rfl:p=q:=by omega
  rw [hx] at hy
  obtain rfl:=Option.some.inj hy
  exact Hr _
theorem Le {xs ys:List Ap} {a m b s mid e:Nat} (hv:C7 xs ys (Bz s m e)) (h1:a≤s) (h2:s≤m) (h3:m≤e) (h4:e≤b) (hmid:mid=s+(e - m)) (hl:B_ xs a m) (hr:B_ xs m b):
  B_ ys a s∧B_ ys s mid∧B_ ys mid e∧B_ ys e b:=by
 subst hmid
 refine ⟨?_,?_,?_,?_⟩
 ·refine (hl.sub (Nat.le_refl _) h2).same fun t ht1 ht2=>?_
  rw [hv.2,show Bz s m e t=t by unfold Bz;rw [if_neg (by omega),if_neg (by omega)]]
 ·intro p q x y p1 p2 p3 hx hy
  rw [hv.2,show Bz s m e p=p+(m - s) by unfold Bz;rw [if_pos (by omega)]] at hx
  rw [hv.2,show Bz s m e q=q+(m - s) by unfold Bz;rw [if_pos (by omega)]] at hy
  exact hr _ _ x y (by omega) (by omega) (by omega) hx hy
 ·intro p q x y p1 p2 p3 hx hy
  rw [hv.2,show Bz s m e p=p - (e - m) by unfold Bz;rw [if_neg (by omega),if_pos (by omega)]] at hx
  rw [hv.2,show Bz s m e q=q - (e - m) by unfold Bz;rw [if_neg (by omega),if_pos (by omega)]] at hy
  exact hl _ _ x y (by omega) (by omega) (by omega) hx hy
 ·refine (hr.sub h3 (Nat.le_refl _)).same fun t ht1 ht2=>?_
  rw [hv.2,show Bz s m e t=t by unfold Bz;rw [if_neg (by omega),if_neg (by omega)]]
theorem C6.refl {xs:List Ap} {a b:Nat} (h:B_ xs a b):C6 xs xs a b:=⟨Ci.refl _,Eo.refl _ _ _,h⟩
theorem HC {xs:List Ap} {a s mid:Nat} (h1:B_ xs a s) (h2:B_ xs s mid) (h:¬ (a<s∧s<mid)) (hs:a≤s):B_ xs a mid:=by
 rcases Nat.lt_or_ge a s with c|c
 ·exact h1.sub (Nat.le_refl _) (by omega)
 ·exact h2.sub (by omega) (Nat.le_refl _)
theorem Ht {xs ys zs ws:List Ap} {a m b s mid e:Nat} (hv:C7 xs ys (Bz s m e)) (h1:a≤s) (h2:s≤m) (h3:m≤e) (h4:e≤b) (hb:b≤xs.length) (hmid:mid=s+(e - m)) (hl:B_ xs a m) (hr:B_ xs m b)
  (hlow:s=a∨e=b∨∃ u v,xs[s - 1]?=some u∧xs[e]?=some v∧Bv v.key u.key=false)
  (hup:s=m∨e=m∨∃ u v,xs[e - 1]?=some u∧xs[s]?=some v∧Bv u.key v.key=true)
  (hz:C6 ys zs a mid) (hw:C6 zs ws mid b):C6 xs ws a b:=by
 have hkey:∀ p q x y,s≤p→p<m→m≤q→q<e→xs[p]?=some x→xs[q]?=some y→Bv y.key x.key=true:=by
  intro p q x y p1 p2 q1 q2 hx hy
  rcases hup with c|c|⟨u,v,hu,hv',hlt⟩
  ·omega
  ·omega
  ·exact QE (XE (hr.le (p:=q) (q:=e - 1) q1 (by omega) (by omega) hy hu) hlt) (hl.le (p:=s) (q:=p) h1 p1 p2 hv' hx)
 have s1:Ci xs ys:=R3 hv h2 h3 (by omega) fun p q x y p1 p2 q1 q2 hx hy e=>by
  have:=hkey p q x y p1 p2 q1 q2 hx hy
  rw [e,Hr] at this
  cases this
 have i1:Eo xs ys a b:=(R0 hv h2 h3).wider h1 h4
 have hm1:s≤mid:=by omega
 have hm2:mid≤e:=by omega
 refine ⟨s1.trans (hz.stab.trans hw.stab),i1.trans ((hz.ins.wider (Nat.le_refl _) (by omega)).trans (hw.ins.wider (by omega) (Nat.le_refl _))),fun p q x y p1 p2 p3 hx hy=>?_⟩
 rcases Nat.lt_or_ge q mid with c|c
 ·rw [hw.ins.2.1 p (by omega)] at hx
  rw [hw.ins.2.1 q (by omega)] at hy
  exact hz.srt p q x y p1 p2 c hx hy
 rcases Nat.lt_or_ge p mid with c'|c'
 ·rw [hw.ins.2.1 p (by omega)] at hx
  obtain ⟨u,u1,u2,hu⟩:=hz.ins.2.2 p p1 c'
  rw [hx] at hu
  obtain ⟨t,t1,t2,ht⟩:=hw.ins.2.2 q c p3
  rw [hy,hz.ins.2.1 t (by omega)] at ht
  -- the pair at u of ys is x, the pair at t of ys is y
  have hxu:=hv.2 u
  have hyt:=hv.2 t
  rw [←hu] at hxu
  rw [←ht] at hyt
  rcases Nat.lt_or_ge u s with cu|cu
  ·rw [show Bz s m e u=u by unfold Bz;rw [if_neg (by omega),if_neg (by omega)]] at hxu
   rcases Nat.lt_or_ge t e with ct|ct
   ·rw [show Bz s m e t=t - (e - m) by unfold Bz;rw [if_neg (by omega),if_pos (by omega)]] at hyt
    exact hl u _ x y u1 (by omega) (by omega) hxu.symm hyt.symm
   ·rw [show Bz s m e t=t by unfold Bz;rw [if_neg (by omega),if_neg (by omega)]] at hyt
    rcases hlow with d|d|⟨u',v',hu',hv',hlt⟩
    ·omega
    ·omega
    ·exact GA (hl.le (p:=u) (q:=s - 1) u1 (by omega) (by omega) hxu.symm hu') (GA hlt (hr.le (p:=e) (q:=t) h3 ct t2 hv' hyt.symm))
  ·rw [show Bz s m e u=u+(m - s) by unfold Bz;rw [if_pos (by omega)]] at hxu
   rcases Nat.lt_or_ge t e with ct|ct
   ·rw [show Bz s m e t=t - (e - m) by unfold Bz;rw [if_neg (by omega),if_pos (by omega)]] at hyt
    exact KE (hkey _ _ y x (by omega) (by omega) (by omega) (by omega) hyt.symm hxu.symm)
   ·rw [show Bz s m e t=t by unfold Bz;rw [if_neg (by omega),if_neg (by omega)]] at hyt
    exact hr _ t x y (by omega) (by omega) t2 hxu.symm hyt.symm
 ·exact hw.srt p q x y c' p2 p3 hx hy
theorem X1 {xs ys:List Ap} {a b i:Nat} {x:Ap} (hv:C7 xs ys (Bz a (a+1) i)) (h1:a+1≤i) (h2:i≤b) (hb:b≤xs.length) (hr:B_ xs (a+1) b) (hx:xs[a]?=some x)
  (hlow:i=a+1∨∃ u,xs[i - 1]?=some u∧Bv u.key x.key=true) (hup:i=b∨∃ u,xs[i]?=some u∧Bv u.key x.key=false):C6 xs ys a b:=by
 have hruns:=Le hv (Nat.le_refl a) (by omega) h1 h2 rfl (B_.one xs (Nat.le_refl _)) hr
 have e1:a+(i - (a+1))=i - 1:=by omega
 rw [e1] at hruns
 -- low: nothing stands below a; up: what stands below i is below x
 have hs:C6 ys ys a (i - 1):=C6.refl hruns.2.1
 have hyx:ys[i - 1]?=some x:=by rw [hv.2,show Bz a (a+1) i (i - 1)=a by unfold Bz;rw [if_neg (by omega),if_pos (by omega)];omega,hx]
 have hw:C6 ys ys (i - 1) b:=by
  refine C6.refl fun p q u v p1 p2 p3 hu hw=>?_
  rcases Nat.lt_or_ge p i with c|c
  ·obtain rfl:p=i - 1:=by omega
   rw [hyx] at hu
   obtain rfl:=Option.some.inj hu
   rw [hv.2,show Bz a (a+1) i q=q by unfold Bz;rw [if_neg (by omega),if_neg (by omega)]] at hw
   rcases hup with d|⟨u',hu',hlt⟩
   ·omega
   ·exact GA hlt (hr.le (p:=i) (q:=q) h1 (by omega) p3 hu' hw)
  ·exact hruns.2.2.2 p q u v c p2 p3 hu hw
 refine Ht hv (Nat.le_refl _) (by omega) h1 h2 hb e1.symm (B_.one xs (Nat.le_refl _)) hr (.inl U) ?_ hs hw
 rcases hlow with d|⟨u,hu,hlt⟩
 ·exact .inr (.inl d)
 ·exact .inr (.inr ⟨u,x,hu,hx,hlt⟩)
theorem X3 {xs ys:List Ap} {a m i:Nat} {x:Ap} (hv:C7 xs ys (Bz i m (m+1))) (h1:a≤i) (h2:i≤m) (hb:m+1≤xs.length) (hl:B_ xs a m) (hx:xs[m]?=some x)
  (hlow:i=a∨∃ u,xs[i - 1]?=some u∧Bv x.key u.key=false) (hup:i=m∨∃ u,xs[i]?=some u∧Bv x.key u.key=true):C6 xs ys a (m+1):=by
 have hruns:=Le hv h1 h2 (by omega) (Nat.le_refl _) rfl hl (B_.one xs (by omega))
 have e1:i+(m+1 - m)=i+1:=by omega
 rw [e1] at hruns
 have hyx:ys[i]?=some x:=by rw [hv.2,show Bz i m (m+1) i=m by unfold Bz;rw [if_pos (by omega)];omega,hx]
 have hs:C6 ys ys a (i+1):=by
  refine C6.refl fun p q u v p1 p2 p3 hu hw=>?_
  rcases Nat.lt_or_ge q i with c|c
  ·exact hruns.1 p q u v p1 p2 c hu hw
  ·obtain rfl:q=i:=by omega
   rw [hyx] at hw
   obtain rfl:=Option.some.inj hw
   rw [hv.2,show Bz q m (m+1) p=p by unfold Bz;rw [if_neg (by omega),if_neg (by omega)]] at hu
   rcases hlow with d|⟨u',hu',hlt⟩
   ·omega
   ·exact GA (hl.le (p:=p) (q:=q - 1) p1 (by omega) (by omega) hu hu') hlt
 have hw:C6 ys ys (i+1) (m+1):=C6.refl hruns.2.2.1
 refine Ht hv h1 h2 (by omega) (Nat.le_refl _) hb e1.symm hl (B_.one xs (by omega)) (.inr (.inl U)) ?_ hs hw
 rcases hup with d|⟨u,hu,hlt⟩
 ·exact .inl d
 ·exact .inr (.inr ⟨x,u,by rw [show m+1 - 1=m by omega];exact hx,hu,hlt⟩)
theorem Jk (n:Nat):((n:Nat):Int).fdiv (2^(min (1:Int).toNat IntKind.u64.bits))=((n / 2:Nat):Int):=by
 have:(2:Int)^(min (1:Int).toNat IntKind.u64.bits)=2:=by decide
 rw [this,Int.fdiv_eq_ediv_of_nonneg _ (by omega)]
 omega
def Gt (a b:ByteArray):Int:=if Bv a b=true then -1 else if Bv b a=true then 1 else 0
theorem TN {a b:ByteArray} (h:Bv a b=true):Gt a b= -1:=if_pos h
theorem TM {a b:ByteArray} (h:¬ Bv a b=true) (h2:(!(Bv a b||decide (a=b)))=true):Gt a b=1:=by
 unfold Gt
 rw [if_neg h,if_pos]
 cases h3:Bv b a with
 |true=>rfl
 |false=>
  have:=MF (by simpa using h) h3
  subst this
  simp at h2
theorem TK {a b:ByteArray} (h:¬ Bv a b=true) (h2:(!(Bv a b||decide (a=b)))=false):Gt a b=0:=by
 have h':Bv a b=false:=by simpa using h
 have:a=b:=by simpa [h'] using h2
 subst this
 unfold Gt
 rw [if_neg h,if_neg h]
theorem Hk {a b:ByteArray}:Gt a b<0↔Bv a b=true:=by
 unfold Gt
 by_cases h:Bv a b=true
 ·simp [h]
 ·rw [if_neg h]
  by_cases h2:Bv b a=true
  ·rw [if_pos h2];simp [h]
  ·rw [if_neg h2];simp [h]
theorem Io {a b:ByteArray} (h:¬ Gt a b<0):Bv a b=false:=by
 cases h2:Bv a b with
 |false=>rfl
 |true=>exact absurd (Hk.2 h2) h
theorem dB {xs:List Ap} {j:Nat} {x y:Ap} (hj:0<j) (hx:xs[j - 1]?=some x) (hy:xs[j]?=some y) (hlt:Bv y.key x.key=true):Ci xs ((xs.set j x).set (j - 1) y)∧Eo xs ((xs.set j x).set (j - 1) y) (j - 1) (j+1):=by
 obtain ⟨i,rfl⟩:∃ i,j=i+1:=⟨j - 1,by omega⟩
 exact dA hx hy hlt
theorem Tv {xs:List Ap} {a b j:Nat} {x y:Ap} (h:GO xs a b j) (hj:a<j) (hx:xs[j - 1]?=some x) (hy:xs[j]?=some y) (hlt:Bv y.key x.key=false):B_ xs a b:=by
 obtain ⟨i,rfl⟩:∃ i,j=i+1:=⟨j - 1,by omega⟩
 exact Tu h (by omega) hx hy hlt
theorem Tt {xs:List Ap} {a b j:Nat} {x y:Ap} (h:GO xs a b j) (hj:a<j) (hx:xs[j - 1]?=some x) (hy:xs[j]?=some y) (hlt:Bv y.key x.key=true) (hb:j<b):GO ((xs.set j x).set (j - 1) y) a b (j - 1):=by
 obtain ⟨i,rfl⟩:∃ i,j=i+1:=⟨j - 1,by omega⟩
 exact Ts h (by omega) hx hy hlt (by omega)
theorem eP {xs ys:List Ap} {a k:Nat} {x y:Ap} (hk:a≤k) (h:C7 xs ys (Bz a (a+1) (k+1))) (hx:ys[k]?=some x) (hy:ys[k+1]?=some y):C7 xs ((ys.set k y).set (k+1) x) (Bz a (a+1) (k+1+1)):=by
 have l1:k<ys.length:=(List.getElem?_eq_some_iff.1 hx).1
 have l2:k+1<ys.length:=(List.getElem?_eq_some_iff.1 hy).1
 refine ⟨by simpa using h.1,fun t=>?_⟩
 rw [List.getElem?_set,List.getElem?_set]
 have hx':=h.2 k
 have hy':=h.2 (k+1)
 rw [hx] at hx'
 rw [hy] at hy'
 by_cases c1:k+1=t
 ·subst c1
  rw [if_pos rfl,if_pos (by simpa using l2),hx']
  congr 1
  unfold Bz
  repeat' split
  all_goals omega
 ·rw [if_neg c1]
  by_cases c2:k=t
  ·subst c2
   rw [if_pos rfl,if_pos l1,hy']
   congr 1
   unfold Bz
   repeat' split
   all_goals omega
  ·rw [if_neg c2,h.2]
   congr 1
   unfold Bz
   repeat' split
   all_goals omega
theorem eJ {xs ys:List Ap} {m k:Nat} {x y:Ap} (hk:k≤m) (h0:0<k) (h:C7 xs ys (Bz k m (m+1))) (hx:ys[k]?=some x) (hy:ys[k - 1]?=some y):C7 xs ((ys.set k y).set (k - 1) x) (Bz (k - 1) m (m+1)):=by
 have l1:k<ys.length:=(List.getElem?_eq_some_iff.1 hx).1
 have l2:k - 1<ys.length:=(List.getElem?_eq_some_iff.1 hy).1
 refine ⟨by simpa using h.1,fun t=>?_⟩
 rw [List.getElem?_set,List.getElem?_set]
 have hx':=h.2 k
 have hy':=h.2 (k - 1)
 rw [hx] at hx'
 rw [hy] at hy'
 by_cases c1:k - 1=t
 ·subst c1
  rw [if_pos rfl,if_pos (by simpa using l2),hx']
  congr 1
  unfold Bz
  repeat' split
  all_goals omega
 ·rw [if_neg c1]
  by_cases c2:k=t
  ·subst c2
   rw [if_pos rfl,if_pos l1,hy']
   congr 1
   unfold Bz
   repeat' split
   all_goals omega
  ·rw [if_neg c2,h.2]
   congr 1
   unfold Bz
   repeat' split
   all_goals omega
theorem eM (xs:List Ap) (a:Nat):C7 xs xs (Bz a (a+1) (a+1)):=LD xs fun t=>by
 unfold Bz
 repeat' split
 all_goals omega
theorem eN (xs:List Ap) (m:Nat):C7 xs xs (Bz m m (m+1)):=LD xs fun t=>by
 unfold Bz
 repeat' split
 all_goals omega
theorem LC (xs:List Ap) {s m e:Nat} (h:¬ (s<m∧m<e)) (h1:s≤m) (h2:m≤e):C7 xs xs (Bz s m e):=LD xs fun t=>by
 unfold Bz
 repeat' split
 all_goals omega
theorem eQ {xs ys:List Ap} {a m k:Nat} {x y:Ap} (hm:m=a+1) (hk:a≤k) (h:C7 xs ys (Bz a m (k+1))) (hx:ys[k]?=some x) (hy:ys[k+1]?=some y):C7 xs ((ys.set k y).set (k+1) x) (Bz a m (k+1+1)):=by
 subst hm
 exact eP hk h hx hy
theorem eK {xs ys:List Ap} {m b k:Nat} {x y:Ap} (hb:b=m+1) (hk:k≤m) (h0:0<k) (h:C7 xs ys (Bz k m b)) (hx:ys[k]?=some x) (hy:ys[k - 1]?=some y):C7 xs ((ys.set k y).set (k - 1) x) (Bz (k - 1) m b):=by
 subst hb
 exact eJ hk h0 h hx hy
theorem X2 {xs ys:List Ap} {a m b i:Nat} {x:Ap} (hm:m=a+1) (hv:C7 xs ys (Bz a m i)) (h1:m≤i) (h2:i≤b) (hb:b≤xs.length) (hr:B_ xs m b) (hx:xs[a]?=some x)
  (hlow:i=m∨∃ u,xs[i - 1]?=some u∧Bv u.key x.key=true) (hup:i=b∨∃ u,xs[i]?=some u∧Bv u.key x.key=false):C6 xs ys a b:=by
 subst hm
 exact X1 hv h1 h2 hb hr hx hlow hup
theorem X4 {xs ys:List Ap} {a m b i:Nat} {x:Ap} (hm:b=m+1) (hv:C7 xs ys (Bz i m b)) (h1:a≤i) (h2:i≤m) (hb:b≤xs.length) (hl:B_ xs a m) (hx:xs[m]?=some x)
  (hlow:i=a∨∃ u,xs[i - 1]?=some u∧Bv x.key u.key=false) (hup:i=m∨∃ u,xs[i]?=some u∧Bv x.key u.key=true):C6 xs ys a b:=by
 subst hm
 exact X3 hv h1 h2 hb hl hx hlow hup
def DZ (xs:List Ap) (lo hi bs:Nat):Prop:=∀ p q x y,lo≤p→p<q→q<hi→p / bs=q / bs→xs[p]?=some x→xs[q]?=some y→Bv y.key x.key=false
theorem LS {c bs p:Nat} (h1:c*bs≤p) (h2:p<(c+1)*bs):p / bs=c:=Nat.div_eq_of_lt_le h1 h2
theorem DZ.at {xs:List Ap} {lo hi bs c a b:Nat} (h:DZ xs lo hi bs) (ha:a=c*bs) (hlo:lo≤a) (hb:b≤a+bs) (hh:b≤hi):B_ xs a b:=by
 intro p q x y p1 p2 p3 hx hy
 refine h p q x y (by omega) p2 (by omega) ?_ hx hy
 have:(c+1)*bs=c*bs+bs:=Nat.succ_mul c bs
 rw [LS (c:=c) (by omega) (by omega),LS (c:=c) (by omega) (by omega)]
theorem DZ.more {xs ys:List Ap} {bs c a b:Nat} (h:DZ xs 0 a bs) (ha:a=c*bs) (hb:b≤a+bs) (hi:Eo xs ys a b) (hs:B_ ys a b):DZ ys 0 b bs:=by
 intro p q x y p1 p2 p3 hd hx hy
 have e1:(c+1)*bs=c*bs+bs:=Nat.succ_mul c bs
 rcases Nat.lt_or_ge p a with c1|c1
 ·rcases Nat.lt_or_ge q a with c2|c2
  ·rw [hi.2.1 p (by omega)] at hx
   rw [hi.2.1 q (by omega)] at hy
   exact h p q x y p1 p2 c2 hd hx hy
  ·exfalso
   have hq:q / bs=c:=LS (by omega) (by omega)
   have hbs:0<bs:=by omega
   have:p / bs<c:=(Nat.div_lt_iff_lt_mul hbs).2 (by omega)
   omega
 ·exact hs p q x y c1 p2 p3 hx hy
theorem DZ.same {xs ys:List Ap} {lo hi bs lo':Nat} (h:DZ xs lo hi bs) (hl:lo≤lo') (he:∀ t,lo'≤t→ys[t]?=xs[t]?):DZ ys lo' hi bs:=by
 intro p q x y p1 p2 p3 hd hx hy
 rw [he p (by omega)] at hx
 rw [he q (by omega)] at hy
 exact h p q x y (by omega) p2 p3 hd hx hy
theorem DZ.nil (xs:List Ap) (bs:Nat):DZ xs 0 0 bs:=fun p q x y p1 p2 p3=>by omega
theorem DZ.all {xs:List Ap} {n bs:Nat} (h:DZ xs 0 n bs) (hn:n≤bs):B_ xs 0 n:=by
 intro p q x y p1 p2 p3 hx hy
 refine h p q x y p1 p2 p3 ?_ hx hy
 rw [Nat.div_eq_of_lt (by omega),Nat.div_eq_of_lt (by omega)]
theorem J5 {zs:List Ap} {a n bs:Nat} (h:DZ zs a n bs) (hc:∃ c,a=c*(2*bs)) (hn:a+bs≤n):B_ zs a (a+bs)∧∀ b,b≤a+2*bs→b≤n→B_ zs (a+bs) b:=by
 obtain ⟨c,rfl⟩:=hc
 have e:c*(2*bs)=(2*c)*bs:=by rw [←Nat.mul_assoc,Nat.mul_comm c 2]
 have e2:(2*c+1)*bs=(2*c)*bs+bs:=Nat.succ_mul _ _
 refine ⟨h.at (c:=2*c) e (Nat.le_refl _) (Nat.le_refl _) hn,fun b h1 h2=>h.at (c:=2*c+1) (by omega) (by omega) (by omega) h2⟩
theorem To {zs:List Ap} {a n bs:Nat} (h:DZ zs a n bs) (hc:∃ c,a=c*(2*bs)) (hn:n≤a+bs):B_ zs a n:=by
 obtain ⟨c,rfl⟩:=hc
 exact h.at (c:=2*c) (by rw [←Nat.mul_assoc,Nat.mul_comm c 2]) (Nat.le_refl _) hn (Nat.le_refl _)
theorem LM {zs ws:List Ap} {a b bs:Nat} (h:DZ zs 0 a (2*bs)) (hc:∃ c,a=c*(2*bs)) (hb:b≤a+2*bs) (hs:C6 zs ws a b):DZ ws 0 b (2*bs):=by
 obtain ⟨c,hc⟩:=hc
 exact h.more hc hb hs.ins hs.srt
theorem X9 {a bs:Nat} (hc:∃ c,a=c*(2*bs)):∃ c,a+2*bs=c*(2*bs):=by
 obtain ⟨c,rfl⟩:=hc
 exact ⟨c+1,(Nat.succ_mul c (2*bs)).symm⟩
def I6 (xs:List Ap) (i:Nat):Prop:=∀ t x y,i≤t→xs[t]?=some x→xs[t+1]?=some y→Bv y.key x.key=false
theorem SY {xs:List Ap} (h:I6 xs 0):Db xs:=by
 refine B_.ord ?_
 have key:∀ d p x y,xs[p]?=some x→xs[p+d+1]?=some y→Bv y.key x.key=false:=by
  intro d
  induction d with
  |zero=>intro p x y hx hy;exact h p x y (Nat.zero_le _) hx hy
  |succ d ih=>
   intro p x y hx hy
   have hl:p+d+1<xs.length:=by have:=(List.getElem?_eq_some_iff.1 hy).1;omega
   have hz:=List.getElem?_eq_getElem hl
   exact GA (ih p x _ hx hz) (h (p+d+1) _ y (Nat.zero_le _) hz hy)
 intro p q x y _ h2 _ hx hy
 exact key (q - p - 1) p x y hx (by rw [show p+(q - p - 1)+1=q by omega];exact hy)
theorem YW {xs:List Ap} {j:Nat} {x y:Ap} (ho:Db xs) (hj:0<j) (hx:xs[j]?=some x) (hy:xs[j - 1]?=some y):Bv x.key y.key=false:=by
 unfold Db at ho
 rw [List.pairwise_iff_getElem] at ho
 have l1:=List.getElem?_eq_some_iff.1 hx
 have l2:=List.getElem?_eq_some_iff.1 hy
 have:=ho (j - 1) j l2.1 l1.1 (by omega)
 rwa [l1.2,l2.2] at this
theorem SX {xs:List Ap} {j:Nat} {x y:Ap} (h:I6 xs j) (hj:0<j) (hx:xs[j]?=some x) (hy:xs[j - 1]?=some y) (hlt:Bv x.key y.key=false):I6 xs (j - 1):=by
 intro t u v ht hu hv
 rcases Nat.lt_or_ge t j with c|c
 ·obtain rfl:t=j - 1:=by omega
  rw [hy] at hu
  rw [show j - 1+1=j by omega,hx] at hv
  obtain rfl:=Option.some.inj hu
  obtain rfl:=Option.some.inj hv
  exact hlt
 ·exact h t u v c hu hv
theorem SW (xs:List Ap):I6 xs (xs.length - 1):=fun t x y ht hx hy=>by
 have:=(List.getElem?_eq_some_iff.1 hy).1
 omega
def B6 (ps:List Ap) (k:ByteArray):List ByteArray:=(ps.filter fun p=>decide (p.key=k)).map (·.val)
def DU (ps:List Ap):List ByteArray:=GR (Gj (ps.map (·.key)))
theorem cW {xs ys:List Ap} (h:∀ k:ByteArray,xs.filter (fun p=>decide (p.key=k))=ys.filter (fun p=>decide (p.key=k))):Ci xs ys:=by
 refine ⟨List.Perm.length_eq (List.perm_iff_count.2 fun p=>?_),h⟩
 have e:∀ l:List Ap,l.count p=(l.filter fun q=>decide (q.key=p.key)).count p:=fun l=>(List.count_filter (by simp)).symm
 rw [e xs,e ys,h]
def Kt (xs:List Ap) (n:Int):Bool:=decide (¬ ((xs.length:Int)≤n∧∀ p∈xs,p.key.size≤100∧p.val.size≤100))
theorem PG {xs:List Ap} {n:Int} {k:Nat} {x:Ap} (hx:xs[k]?=some x) (h:100<x.key.size∨100<x.val.size):true=Kt xs n:=by
 have h3:¬ ((xs.length:Int)≤n∧∀ p∈xs,p.key.size≤100∧p.val.size≤100):=fun h2=>absurd (h2.2 x (List.mem_of_getElem? hx)) (by omega)
 exact (decide_eq_true h3).symm
theorem PF {xs:List Ap} {n:Int} {k:Nat} (hn:∀ y∈xs.take k,y.key.size≤100∧y.val.size≤100) (h:xs.length≤k∨n<(xs.length:Int)):decide (n<(xs.length:Int))=Kt xs n:=by
 refine decide_eq_decide.2 ⟨fun h1 h2=>by omega,fun h1=>?_⟩
 apply Classical.byContradiction
 intro h2
 refine h1 ⟨by omega,?_⟩
 rwa [List.take_of_length_le (by omega)] at hn
theorem YI (ps:List Ap) (k:ByteArray):(B6 ps k).length≤ps.length:=by
 unfold B6
 rw [List.length_map]
 exact List.length_filter_le _ _
theorem YL {xs:List Ap} {key:ByteArray} {k:Nat} {x:Ap} (hx:xs[k]?=some x) (h:x.key=key):B6 (xs.take (k+1)) key=B6 (xs.take k) key++[x.val]:=by
 unfold B6
 rw [List.take_add_one,hx]
 simp [h]
theorem YK {xs:List Ap} {key:ByteArray} {k:Nat} {x:Ap} (hx:xs[k]?=some x) (h:¬ x.key=key):B6 (xs.take (k+1)) key=B6 (xs.take k) key:=by
 unfold B6
 rw [List.take_add_one,hx]
 simp [h]
theorem VQ {xs:List Ap} {k:Nat} {x:Ap} (hx:xs[k]?=some x):(xs.take (k+1)).map (·.key)=(xs.take k).map (·.key)++[x.key]:=by
 rw [List.take_add_one,hx]
 simp
theorem Nw (xs:List ByteArray):(Gj xs).length=xs.length:=by simp [Gj]
theorem TY (xs:List ByteArray):(GR xs).length≤xs.length:=by
 have:=OF (xs.map G0)
 simpa [GR] using this
theorem VR (ps:List Ap):(DU ps).length≤ps.length:=by
 unfold DU
 have:=TY (Gj (ps.map (·.key)))
 rw [Nw,List.length_map] at this
 exact this
def C2 (p:Ap):Prop:=p.key.size≤16∧p.val.size≤64
instance (p:Ap):Decidable (C2 p):=by unfold C2;infer_instance
def Hs (xs:List Ap):Prop:=∀ p∈xs,C2 p
instance (xs:List Ap):Decidable (Hs xs):=by unfold Hs;infer_instance
theorem XX (xs:List Ap):(!(xs.any fun p=>!decide (C2 p)))=decide (Hs xs):=by
 rw [Bool.eq_iff_iff,decide_eq_true_iff]
 unfold Hs
 simp
theorem Kc {α:Type} {l:List α} {x:α} (h:l[0]?=some x):l=x::l.drop 1:=by
 cases l with
 |nil=>simp at h
 |cons y l=>simp at h;subst h;rfl
theorem XZ {al bl:List Ap} {x y:Ap} (hx:al[0]?=some x) (hy:bl[0]?=some y) (ha:Db al) (hb:Db bl) (h:¬ Bv y.key x.key=true):srt (al++bl)=x::srt (al.drop 1++bl):=by
 have h':Bv y.key x.key=false:=by simpa using h
 have ea:=Kc hx
 have eb:=Kc hy
 rw [ea] at ha
 rw [eb] at hb
 obtain ⟨ha1,ha2⟩:=List.pairwise_cons.1 ha
 obtain ⟨hb1,hb2⟩:=List.pairwise_cons.1 hb
 refine (JM ?_ ?_).symm
 ·have:Ci (x::(al.drop 1++bl)) (x::srt (al.drop 1++bl)):=Ci.append (a:=[x]) (b:=[x]) (Ci.refl _) (GH _)
  rwa [←List.cons_append,←ea] at this
 ·refine List.pairwise_cons.2 ⟨fun q hq=>?_,JN _⟩
  have hq':=(GH (al.drop 1++bl)).symm.mem hq
  rcases List.mem_append.1 hq' with h1|h1
  ·exact ha1 q h1
  ·rw [eb] at h1
   rcases List.mem_cons.1 h1 with rfl|h2
   ·exact h'
   ·exact GA h' (hb1 q h2)
theorem X0 {al bl:List Ap} {x y:Ap} (hx:al[0]?=some x) (hy:bl[0]?=some y) (ha:Db al) (hb:Db bl) (h:Bv y.key x.key=true):srt (al++bl)=y::srt (al++bl.drop 1):=by
 have ea:=Kc hx
 have eb:=Kc hy
 have ha0:=ha
 rw [ea] at ha0
 rw [eb] at hb
 obtain ⟨ha1,ha2⟩:=List.pairwise_cons.1 ha0
 obtain ⟨hb1,hb2⟩:=List.pairwise_cons.1 hb
 have hal:∀ q∈al,Bv y.key q.key=true:=by
  intro q hq
  rw [ea] at hq
  rcases List.mem_cons.1 hq with rfl|h2
  ·exact h
  ·exact QE h (ha1 q h2)
 refine (JM ?_ ?_).symm
 ·have h1:Ci (al++bl) (y::(al++bl.drop 1)):=by
   refine cW fun k=>?_
   rw [eb,List.drop_succ_cons,List.drop_zero,List.filter_append,List.filter_cons,List.filter_cons,List.filter_append]
   by_cases hk:y.key=k
   ·have:al.filter (fun p=>decide (p.key=k))=[]:=List.filter_eq_nil_iff.2 fun q hq=>by
     have:=hal q hq
     rw [hk] at this
     simp only [decide_eq_true_eq]
     intro e
     rw [e,Hr] at this
     cases this
    simp [this,hk]
   ·simp [hk]
  exact h1.trans (Ci.append (a:=[y]) (b:=[y]) (Ci.refl _) (GH _))
 ·refine List.pairwise_cons.2 ⟨fun q hq=>?_,JN _⟩
  have hq':=(GH (al++bl.drop 1)).symm.mem hq
  rcases List.mem_append.1 hq' with h1|h1
  ·exact KE (hal q h1)
  ·exact hb1 q h1
theorem QR {al bl:List Ap} (ha:Db al) (hb:Db bl) (h:al.length=0∨bl.length=0):srt (al++bl)=al++bl:=by
 rcases h with h|h
 ·rw [List.eq_nil_of_length_eq_zero h];exact Si hb
 ·rw [List.eq_nil_of_length_eq_zero h,List.append_nil];exact Si ha
theorem Rg {al:List Ap} (ha:Db al) (k:Nat):Db (al.drop k):=List.Pairwise.sublist (List.drop_sublist k al) ha
def CV (us:List (Value×List Ap)):List Ap:=us.flatMap (·.2)
theorem O5 {us:List (Value×List Ap)} {k:Nat} {u:Value} {x:List Ap} (hx:us[k]?=some (u,x)):CV (us.take (k+1))=CV (us.take k)++x:=by
 unfold CV
 rw [El hx,List.flatMap_append]
 simp
theorem O3 (a b:List (Value×List Ap)):CV (a++b)=CV a++CV b:=by simp [CV]
theorem O4 (us:List (Value×List Ap)) (k:Nat):(CV (us.take k)).length≤(CV us).length:=by
 have:(CV us).length=(CV (us.take k)).length+(CV (us.drop k)).length:=by rw [←List.length_append,←O3,List.take_append_drop]
 omega
theorem UM (us:List (Value×List Ap)) (k:Nat):(CV (us.drop k)).length≤(CV us).length:=by
 have:(CV us).length=(CV (us.take k)).length+(CV (us.drop k)).length:=by rw [←List.length_append,←O3,List.take_append_drop]
 omega
theorem cO (a b:List Ap):srt (srt a++b)=srt (a++b):=cP (Ci.append (GH a).symm (Ci.refl b))
theorem Cx {α:Type} {xs:List α} {k:Nat} {x:α} (h:xs[k]?=some x):x∈xs:=List.mem_of_getElem? h
structure E3 where
 A:Option Addr
 n:Nat
 c:Nat
def Jd (h:E3):List Value:=[.slice h.A h.n h.c]
def DM:Kd E3:=flat Jd 1 (by omega) (fun _=>rfl) (fun _ c h=>by simp [Jd] at h;subst h;rfl)
def Fx:Value→E3
 |.slice A n c=>⟨A,n,c⟩
 |_=>⟨none,0,0⟩
section
variable {w w0:World} {F F0:AU} {As Rs:List SP} {α:Type} {d:Kd α}
theorem PH:∀ {us:List (Value×List α)} {cs:List Value},Bc (At d) w F us cs→∀ p∈us,(Ae d p.1 p.2).P w F
 |[],_,_,p,hp=>by cases hp
 |q::us,_,⟨c,cs',e,h1,h2⟩,p,hp=>by
  cases hp with
  |head=>exact h1.2
  |tail _ hm=>exact PH h2 p hm
end
/-! ### Parts -/
def Ez (key:ByteArray):Nat→Int
 |0=>7
 |k+1=>IntKind.u32.wrap (IntKind.u32.wrap (31*Ez key k)+((key[k]?.getD 0).toNat:Int))
theorem fG (x:Int):0≤IntKind.u32.wrap x∧IntKind.u32.wrap x<4294967296:=by
 simp only [IntKind.wrap,IntKind.bits,IntKind.signed]
 simp
 omega
theorem MO (key:ByteArray) (k:Nat):0≤Ez key k∧Ez key k<4294967296:=by
 cases k with
 |zero=>exact ⟨by simp [Ez],by simp [Ez]⟩
 |succ k=>exact fG _
def KW (key:ByteArray) (n:Int):Int:=if n<1 then -1 else Ez key key.size%n
def Fo (xs:List Ap) (n p:Int):List Ap:=xs.filter fun x=>decide (KW x.key n=p)
theorem YP {xs:List Ap} {n p:Int} {k:Nat} {x:Ap} (hx:xs[k]?=some x) (h:KW x.key n=p):Fo (xs.take (k+1)) n p=Fo (xs.take k) n p++[x]:=by
 unfold Fo
 rw [El hx,List.filter_append]
 simp [h]
theorem YN {xs:List Ap} {n p:Int} {k:Nat} {x:Ap} (hx:xs[k]?=some x) (h:¬ KW x.key n=p):Fo (xs.take (k+1)) n p=Fo (xs.take k) n p:=by
 unfold Fo
 rw [El hx,List.filter_append]
 simp [h]
theorem Rd (xs:List Ap) (n p:Int):(Fo xs n p).length≤xs.length:=List.length_filter_le ..
theorem YC {key:ByteArray} {k:Nat} {b:UInt8} (hb:key[k]?=some b):Ez key (k+1)=IntKind.u32.wrap (IntKind.u32.wrap (31*Ez key k)+(b.toNat:Int)):=by
 rw [Ez,hb]
 rfl
theorem fI (b:UInt8):IntKind.u32.wrap (b.toNat:Int)=(b.toNat:Int):=by
 have:=UInt8.toNat_lt b
 simp only [IntKind.wrap,IntKind.bits,IntKind.signed]
 simp
 omega
theorem Oj {xs:List B7} (h:xs.length≤40):DQ xs<0↔∀ p∈xs,BS p xs.length:=by
 have e:xs.take 40=xs:=List.take_of_length_le h
 have h2:=Ki (ES xs.length) xs
 unfold DQ
 rw [e]
 constructor
 ·intro hb p hp
  apply Classical.byContradiction
  intro hg
  have h3:xs.any (ES xs.length)=true:=List.any_eq_true.2 ⟨p,hp,by simp [ES,hg]⟩
  rw [h3] at h2
  rw [if_pos (of_decide_eq_true h2)] at hb
  have:=of_decide_eq_true h2
  omega
 ·intro hg
  have h3:xs.any (ES xs.length)=false:=List.any_eq_false.2 (fun p hp=>by simp [ES,hg p hp])
  rw [h3] at h2
  rw [if_neg (of_decide_eq_false h2),if_neg (by omega)]
  omega
theorem Lv {α:Type} {Q:α→Prop} {xs:List α} {k:Nat} {x:α} (hn:∀ y∈xs.take k,Q y) (hx:xs[k]?=some x) (h:Q x):∀ y∈xs.take (k+1),Q y:=by
 intro y hy
 rw [List.take_add_one,hx] at hy
 rcases List.mem_append.1 hy with hy|hy
 ·exact hn y hy
 ·obtain rfl:y=x:=by simpa using hy
  exact h
structure AW where
 kind:Int
 part:Int
 sp:Int
 att:Int
 why:Int
 sv:Value
 set:List Int
 pv:Value
 pairs:List Ap
def GS (r:AW):List Value:=[.int .i64 r.kind,.int .i64 r.part,.int .i64 r.sp,.int .i64 r.att,.int .i64 r.why,r.sv,r.pv]
def BI:Kd AW where
 sz:=7
 O w F x cs:=cs=GS x∧∃ F1 F2:AU,(∀ k,F1 k→F k)∧(∀ k,F2 k→F k)∧(∀ k,F1 k→¬ F2 k)∧(Cm (Ai .i64)).O w F1 x.set [x.sv]∧(Cm Ag).O w F2 x.pairs [x.pv]
 R w F x cs:=cs=GS x∧(Cm (Ai .i64)).R w F x.set [x.sv]∧(Cm Ag).R w F x.pairs [x.pv]
 O_loc:=fun ⟨e,F1,F2,s1,s2,dj,h1,h2⟩ hk=>⟨e,F1,F2,s1,s2,dj,(Cm _).O_loc h1 (fun k x=>hk k (s1 k x)),(Cm _).O_loc h2 (fun k x=>hk k (s2 k x))⟩
 O_mono:=fun ⟨e,F1,F2,s1,s2,dj,h1,h2⟩ hk=>⟨e,F1,F2,fun k x=>hk k (s1 k x),fun k x=>hk k (s2 k x),dj,h1,h2⟩
 R_loc:=fun ⟨e,h1,h2⟩ hk=>⟨e,(Cm _).R_loc h1 hk,(Cm _).R_loc h2 hk⟩
 R_mono:=fun ⟨e,h1,h2⟩ hk=>⟨e,(Cm _).R_mono h1 hk,(Cm _).R_mono h2 hk⟩
 O_R:=fun ⟨e,F1,F2,s1,s2,dj,h1,h2⟩=>⟨e,(Cm _).R_mono ((Cm _).O_R h1) s1,(Cm _).R_mono ((Cm _).O_R h2) s2⟩
 len h:=by rw [h.1];rfl
 one:=fun ⟨e,h1,h2⟩ c hc=>by
  have g1:=(Cm _).one h1
  have g2:=(Cm _).one h2
  subst e
  simp only [GS,List.mem_cons,List.not_mem_nil,or_false] at hc
  rcases hc with rfl|rfl|rfl|rfl|rfl|rfl|rfl
  ·rfl
  ·rfl
  ·rfl
  ·rfl
  ·rfl
  ·exact g1 _ (List.mem_cons_self ..)
  ·exact g2 _ (List.mem_cons_self ..)
 pos:=by omega
structure Hg where
 kind:Int
 part:Int
 sp:Int
 att:Int
 why:Int
 hs:E3
 hp:E3
def E9 (r:Hg):List Value:=[.int .i64 r.kind,.int .i64 r.part,.int .i64 r.sp,.int .i64 r.att,.int .i64 r.why,.slice r.hs.A r.hs.n r.hs.c,.slice r.hp.A r.hp.n r.hp.c]
def Eg:Kd Hg:=flat E9 7 (by omega) (fun _=>rfl) (fun _ c h=>by
 simp only [E9,List.mem_cons,List.not_mem_nil,or_false] at h
 rcases h with rfl|rfl|rfl|rfl|rfl|rfl|rfl<;>rfl)
def C_ (r:AW):Hg:=⟨r.kind,r.part,r.sp,r.att,r.why,Fx r.sv,Fx r.pv⟩
section
variable {w w0:World} {F F0:AU} {As Rs:List SP} {A:Option Addr} {m c:Nat}
theorem Lc {us:List AW} (h:(Ae BI (.slice A m c) us).P w F) {i:Nat} {x:AW} (hx:us[i]?=some x):
  FK A∧(∀ q u,(GS x)[q]?=some u→w.cell? ⟨Ep A,A_ A+i*7+q,none⟩=some u)∧(Ae (Ai .i64) x.sv x.set).P w F∧(Ae Ag x.pv x.pairs).P w F:=by
 obtain ⟨b,off,cs,e,hl,hc,h1,h2,h3⟩:=JG h hx
 subst h1 e
 exact ⟨rfl,hc,h2,h3⟩
theorem HX {us:List AW} (h:(Ae BI (.slice A m c) us).P w F) {i:Nat} {a1 a2 a3 a4 a5:Int} {sv pv:Value} {set:List Int} {pairs:List Ap} (hx:us[i]?=some ⟨a1,a2,a3,a4,a5,sv,set,pv,pairs⟩):(Ae (Ai .i64) sv set).P w F:=(Lc h hx).2.2.1
theorem Ld {us:List AW} (h:(Ae BI (.slice A m c) us).P w F) {i:Nat} {a1 a2 a3 a4 a5:Int} {sv pv:Value} {set:List Int} {pairs:List Ap} (hx:us[i]?=some ⟨a1,a2,a3,a4,a5,sv,set,pv,pairs⟩):(Ae Ag pv pairs).P w F:=(Lc h hx).2.2.2
theorem Hd.thRr {us:List AW} (H:Hd w0 F0 w As Rs) (j:Nat) (hj:Rs[j]?=some (Ae BI (.slice A m c) us)) {i:Nat} {x:AW} (hx:us[i]?=some x):FK A:=H.factR (List.mem_of_getElem? hj) fun _ h=>(Lc h hx).1
theorem Hd.nestRr {us:List AW} (H:Hd w0 F0 w As Rs) (j:Nat) (hj:Rs[j]?=some (Ae BI (.slice A m c) us)) {i:Nat} {a1 a2 a3 a4 a5:Int} {sv pv:Value} {set:List Int} {pairs:List Ap} (hx:us[i]?=some ⟨a1,a2,a3,a4,a5,sv,set,pv,pairs⟩):
  ∃ A1 c1 A2 c2,sv=.slice A1 set.length c1∧pv=.slice A2 pairs.length c2∧set.length≤c1∧c1≤9223372036854775807∧pairs.length≤c2∧c2≤9223372036854775807:=by
 refine H.factR (List.mem_of_getElem? hj) fun _ h=>?_
 obtain ⟨A1,c1,e1,g1,g2,_⟩:=D_ (HX h hx)
 obtain ⟨A2,c2,e2,g3,g4,_⟩:=D_ (Ld h hx)
 exact ⟨A1,c1,A2,c2,e1,e2,g1,g2,g3,g4⟩
theorem RW:∀ {us:List AW} {cs:List Value},Bc BI w F us cs→Bc Eg w F (us.map C_) cs
 |[],_,h=>h
 |x::us,_,⟨c,cs',e,⟨h1,h2,h3⟩,h4⟩=>by
  obtain ⟨A1,c1,e1,_⟩:=D_ (d:=Ai .i64) (w:=w) (F:=F) h2
  obtain ⟨A2,c2,e2,_⟩:=D_ (d:=Ag) (w:=w) (F:=F) h3
  exact ⟨c,cs',e,show c=E9 (C_ x) by rw [h1];simp [GS,E9,C_,Fx,e1,e2],RW h4⟩
theorem aF {v:Value} {us:List AW} (h:(Ae BI v us).P w F):(Ae Eg v (us.map C_)).P w F:=by
 obtain ⟨A',n',c',e,h1,h2,h3,cs,h4,h5⟩:=h
 exact ⟨A',n',c',e,by rw [List.length_map,h1],h2,h3,cs,h4,RW h5⟩
theorem Hd.recs {v:Value} {us:List AW} (H:Hd w0 F0 w As Rs) (j:Nat) (hj:Rs[j]?=some (Ae BI v us)):∃ fs:List Hg,fs.length=us.length∧Hd w0 F0 w As (Ae Eg v fs::Rs):=
 ⟨us.map C_,List.length_map ..,H.addR fun _ h=>aF (h _ (List.mem_of_getElem? hj))⟩
theorem Hd.elsRr {us:List AW} (H:Hd w0 F0 w As Rs) (j:Nat) (hj:Rs[j]?=some (Ae BI (.slice A m c) us)) {i:Nat} {x:AW} (hx:us[i]?=some x) {p:Nat} (hpj:A_ A+i*7=p):∀ q v,(GS x)[q]?=some v→w.cell? ((⟨Ep A,p,none⟩:Addr).add q)=some v:=by
 intro q v hq
 rw [EE,←hpj]
 exact H.factR (List.mem_of_getElem? hj) fun F h=>(Lc h hx).2.1 q v hq
end
section
variable {P:Program} {t:TypeId}
end
/-! ### What records say -/
theorem Fv {α:Type} {xs:List α} {k:Nat} {x:α} (hx:xs[k]?=some x):xs.drop k=x::xs.drop (k+1):=by
 have hlt:k<xs.length:=by
  rcases Nat.lt_or_ge k xs.length with h|h
  ·exact h
  ·simp [List.getElem?_eq_none h] at hx
 rw [List.drop_eq_getElem_cons hlt]
 rw [List.getElem?_eq_getElem hlt] at hx
 rw [Option.some.inj hx]
theorem HL {s:ByteArray} {i:Nat} {c:UInt8} (h:s[i]?=some c):s.data.toList[i]?=some c:=by
 rw [getElem?_def] at h
 split at h
 ·rename_i hi
  have e:s[i]=c:=Option.some.inj h
  rw [←e,Array.getElem?_toList,Array.getElem?_eq_getElem (show i<s.data.size from hi)]
  rfl
 ·cases h
theorem HN (c:UInt8) (v:A0):FM c v=!((decide ((c.toNat:Int)=110) && v.t)||(decide ((c.toNat:Int)=98) && !v.t)):=by
 have h:∀ d:UInt8,(c==d)=decide ((c.toNat:Int)=(d.toNat:Int)):=by
  intro d
  rw [Bool.eq_iff_iff,beq_iff_eq,decide_eq_true_eq]
  constructor
  ·rintro rfl;rfl
  ·intro h
   exact UInt8.toNat_inj.1 (by omega)
 unfold FM
 rw [h,h]
 rfl
theorem Kj {ks:List UInt8} {xs:List A0} {i:Nat} {c:UInt8} {x:A0} (hk:ks[i]?=some c) (hx:xs[i]?=some x) (hb:FM c x=true):Fk (ks.drop (i+1)) (xs.drop (i+1))=Fk (ks.drop i) (xs.drop i):=by
 rw [Fv hk,Fv hx]
 simp [Fk,hb]
theorem LZ {ks:List UInt8} {xs:List A0} {i:Nat} {c:UInt8} {x:A0} (hk:ks[i]?=some c) (hx:xs[i]?=some x) (hb:FM c x=false):Fk (ks.drop i) (xs.drop i)=false:=by
 rw [Fv hk,Fv hx]
 simp [Fk,hb]
theorem UL {ks:List UInt8} {xs:List A0} {i:Nat} (h:xs.length≤i):Fk (ks.drop i) (xs.drop i)=true:=by
 rw [List.drop_eq_nil_of_le h]
 cases ks.drop i<;>rfl
theorem MN {op:Int} {stk:List A0} (h:stk.length<(Bm op).size):AD op stk=(1,stk,[]):=if_pos h
theorem Jt {op:Int} {stk:List A0} (h:¬ stk.length<(Bm op).size) (h2:Fk (Bm op).data.toList (stk.drop (stk.length - (Bm op).size))=false):AD op stk=(2,stk,[]):=by
 unfold AD
 rw [if_neg h,if_neg (by rw [h2];decide)]
theorem ML {op:Int} {stk:List A0} (h:¬ stk.length<(Bm op).size) (h2:Fk (Bm op).data.toList (stk.drop (stk.length - (Bm op).size))=true):AD op stk=(0,stk.take (stk.length - (Bm op).size),stk.drop (stk.length - (Bm op).size)):=by
 unfold AD
 rw [if_neg h,if_pos h2]
theorem MM {op:Int} {stk:List A0} (h:(AD op stk).1=0):(AD op stk).2.2.length=(Bm op).size∧(AD op stk).2.1.length≤stk.length∧(∀ v∈(AD op stk).2.2,v∈stk)∧(∀ v∈(AD op stk).2.1,v∈stk):=by
 by_cases h1:stk.length<(Bm op).size
 ·rw [MN h1] at h;cases h
 ·cases h2:Fk (Bm op).data.toList (stk.drop (stk.length - (Bm op).size)) with
  |false=>rw [Jt h1 h2] at h;cases h
  |true=>
   rw [ML h1 h2]
   refine ⟨by simp only [List.length_drop];omega,by simp only [List.length_take];omega,fun v hv=>List.mem_of_mem_drop hv,fun v hv=>List.mem_of_mem_take hv⟩
theorem Zp {stk vs:List A0} {k:Nat} {x:A0} (hx:vs[k]?=some x) (h:E6 x=true):Bp stk vs=(4,stk):=by
 unfold Bp
 rw [if_pos (List.any_eq_true.2 ⟨x,Cx hx,h⟩)]
theorem Og {vs:List A0} (hn:∀ y∈vs,E6 y=false):¬ vs.any E6=true:=by
 intro h
 obtain ⟨x,h1,h2⟩:=List.any_eq_true.1 h
 rw [hn x h1] at h2
 cases h2
theorem Zr {stk vs:List A0} (hn:∀ y∈vs,E6 y=false) (h:16<stk.length+vs.length):Bp stk vs=(1,stk):=by
 unfold Bp
 rw [if_neg (Og hn),if_pos h]
theorem Zq {stk vs:List A0} (hn:∀ y∈vs,E6 y=false) (h:¬ 16<stk.length+vs.length):Bp stk vs=(0,stk++vs):=by
 unfold Bp
 rw [if_neg (Og hn),if_neg h]
theorem Zt (stk vs:List A0) (h:stk.length≤16):(Bp stk vs).2.length≤16:=by
 unfold Bp
 split
 ·exact h
 ·split
  ·exact h
  ·simp only [List.length_append];omega
theorem Tn {v:A0} (h1:v.t=true) (h2:(64:Int)<(v.b.size:Int)):E6 v=true:=by
 unfold E6
 rw [h1,decide_eq_true (by omega)]
 rfl
theorem Oo {v:A0} (h:v.t=false∨¬ (64:Int)<(v.b.size:Int)):E6 v=false:=by
 unfold E6
 rcases h with h|h
 ·rw [h];rfl
 ·rw [decide_eq_false (by omega),Bool.and_false]
theorem Uo {told:List Ap} {k v:ByteArray} (h:(16:Int)<(k.size:Int)):D7 told k v=(4,told):=if_pos (by omega)
theorem Ur {told:List Ap} {k v:ByteArray} (h:¬ (16:Int)<(k.size:Int)) (h2:40≤told.length):D7 told k v=(5,told):=by
 unfold D7
 rw [if_neg (by omega),if_pos h2]
theorem Up {told:List Ap} {k v:ByteArray} (h:¬ (16:Int)<(k.size:Int)) (h2:¬ 40≤told.length):D7 told k v=(0,told++[⟨k,v⟩]):=by
 unfold D7
 rw [if_neg (by omega),if_neg h2]
def Dk {α:Type} (d:Kd α) (v:Value) (xs:List α) (v2:Value) (ys:List α):Prop:=∀ (w:World) (F:AU),(Ae d v xs).P w F→(Ae d v2 ys).P w F
theorem Dk.refl {α:Type} (d:Kd α) (v:Value) (xs:List α):Dk d v xs v xs:=fun _ _ h=>h
def Fy (stk:List A0):List ByteArray→Int×List A0×List ByteArray
 |[]=>((Bp stk [Dw 0]).1,(Bp stk [Dw 0]).2,[])
 |v::vs=>((Bp stk [E0 v,Dw 1]).1,(Bp stk [E0 v,Dw 1]).2,vs)
theorem Yx {stk:List A0} {vals:List ByteArray} {x:ByteArray} (hx:vals[0]?=some x):Fy stk vals=((Bp stk [E0 x,Dw 1]).1,(Bp stk [E0 x,Dw 1]).2,vals.drop 1):=by
 cases vals with
 |nil=>simp at hx
 |cons y vs=>simp at hx;subst hx;rfl
section
variable {D:By} {key:ByteArray} {m:VM} {i:B7} {v:List A0}
theorem LT (h:(AD i.op m.stk).1≠0):BR D key m i=(m,(AD i.op m.stk).1):=if_pos h
theorem DC (h:¬ (AD i.op m.stk).1≠0):BR D key m i=Cl D key {m with stk:=(AD i.op m.stk).2.1} i (AD i.op m.stk).2.2:=if_neg h
theorem NT (h:i.op=0):Cl D key m i v=({m with halted:=true},0):=by unfold Cl;rw [h];rfl
theorem NU (h:i.op=1):Cl D key m i v=Dd m [Dw i.a]:=by unfold Cl;rw [h];rfl
theorem N6 (h:i.op=2):Cl D key m i v=Dd m [E0 i.s]:=by unfold Cl;rw [h];rfl
theorem N_ (h:i.op=3):Cl D key m i v=Dd m [v.getD 0 CQ,v.getD 0 CQ]:=by unfold Cl;rw [h];rfl
theorem Oa (h:i.op=4):Cl D key m i v=(m,0):=by unfold Cl;rw [h];rfl
theorem Ob (h:i.op=5):Cl D key m i v=Dd m [v.getD 1 CQ,v.getD 0 CQ]:=by unfold Cl;rw [h];rfl
theorem Oc (h:i.op=6):Cl D key m i v=Dd m [E0 key]:=by unfold Cl;rw [h];rfl
theorem Od (h:i.op=7):Cl D key m i v=Hu m:=by unfold Cl;rw [h];rfl
theorem I8 (h:i.op=8∨i.op=9∨i.op=10∨i.op=11):Cl D key m i v=Dd m [BM i.op (v.getD 0 CQ).n (v.getD 1 CQ).n]:=by
 unfold Cl
 rcases h with h|h|h|h<;>(rw [h];rfl)
theorem NV (h:i.op=12):Cl D key m i v=Dd m [Rb (EW (v.getD 0 CQ) (v.getD 1 CQ))]:=by unfold Cl;rw [h];rfl
theorem NW (h:i.op=13):Cl D key m i v=Dd m [E0 ((v.getD 0 CQ).b++(v.getD 1 CQ).b)]:=by unfold Cl;rw [h];rfl
theorem NX (h:i.op=14):Cl D key m i v=Dd m [Dw (v.getD 0 CQ).b.size]:=by unfold Cl;rw [h];rfl
theorem NY (h:i.op=15):Cl D key m i v=Dd m [Dw (E5 (v.getD 0 CQ).b (v.getD 1 CQ).n)]:=by unfold Cl;rw [h];rfl
theorem NZ (h:i.op=16):Cl D key m i v=Dd m [E0 (FL (v.getD 0 CQ).b (v.getD 1 CQ).n (v.getD 2 CQ).n)]:=by unfold Cl;rw [h];rfl
theorem N3 (h:i.op=17):Cl D key m i v=Dd m [E0 (D.dig (v.getD 0 CQ).n)]:=by unfold Cl;rw [h];rfl
theorem N4 (h:i.op=18):Cl D key m i v=Dd m [Dw (D.num (v.getD 0 CQ).b)]:=by unfold Cl;rw [h];rfl
theorem N5 (h:i.op=19):Cl D key m i v=({m with pos:=i.a},0):=by unfold Cl;rw [h];rfl
theorem LJ (h:i.op=20):Cl D key m i v=(if (v.getD 0 CQ).n≠0 then {m with pos:=i.a} else m,0):=by unfold Cl;rw [h];rfl
theorem N7 (h:i.op=21):Cl D key m i v=Dd m [m.g i.a.toNat]:=by unfold Cl;rw [h];rfl
theorem N8 (h:i.op=22):Cl D key m i v=({m with g:=IU m.g i.a.toNat (v.getD 0 CQ)},0):=by unfold Cl;rw [h];rfl
theorem N9 (h:i.op=23):Cl D key m i v=({m with told:=(D7 m.told (v.getD 0 CQ).b (v.getD 1 CQ).b).2},(D7 m.told (v.getD 0 CQ).b (v.getD 1 CQ).b).1):=by unfold Cl;rw [h];rfl
theorem Yr {op:Int} {stk:List A0} (h:(AD op stk).1≠0):(AD op stk).2.1=stk:=by
 by_cases h1:stk.length<(Bm op).size
 ·rw [MN h1]
 ·cases h2:Fk (Bm op).data.toList (stk.drop (stk.length - (Bm op).size)) with
  |false=>rw [Jt h1 h2]
  |true=>rw [ML h1 h2] at h;exact absurd rfl h
theorem Dy {k:Nat} {x:A0} (h:v[k]?=some x):v.getD k CQ=x:=by rw [List.getD_eq_getElem?_getD,h];rfl
theorem Q1:Hu m=({m with stk:=(Fy m.stk m.vals).2.1,vals:=(Fy m.stk m.vals).2.2},(Fy m.stk m.vals).1):=by
 unfold Hu
 split
 ·rename_i h
  rw [h]
  cases m
  simp only at h
  subst h
  rfl
 ·rename_i x xs h
  rw [h]
  rfl
end
structure EP (n:Int) (m:VM):Prop where
 ok:(∀ v∈m.stk,Ff v)∧∀ k,Ff (m.g k)
 len:m.stk.length≤16
 told:m.told.length≤40
 pos:0≤m.pos∧m.pos≤n
theorem Zu {stk vs:List A0} (h:(Bp stk vs).1=0):(Bp stk vs).2=stk++vs∧∀ v∈vs,E6 v=false:=by
 unfold Bp at h ⊢
 split at h
 ·cases h
 ·rename_i h1
  rw [if_neg h1]
  split at h
  ·cases h
  ·rename_i h2
   rw [if_neg h2]
   refine ⟨rfl,fun v hv=>?_⟩
   cases hb:E6 v with
   |false=>rfl
   |true=>exact absurd (List.any_eq_true.2 ⟨v,hv,hb⟩) h1
theorem Tm {v:A0} (h:E6 v=false) (ht:v.t=true):v.b.size≤64:=by
 unfold E6 at h
 rw [ht,Bool.true_and] at h
 have:=of_decide_eq_false h
 omega
theorem EU {n:Int} {m:VM} {vs:List A0} (hm:EP n m) (h:(Dd m vs).2=0) (hv:∀ v∈vs,AL v.n∧(v.t=false→v.b.size≤64)):EP n (Dd m vs).1:=by
 obtain ⟨h1,h2⟩:=Zu (stk:=m.stk) (vs:=vs) h
 refine ⟨⟨fun v hv'=>?_,hm.ok.2⟩,?_,hm.told,hm.pos⟩
 ·have hv2:v∈(Bp m.stk vs).2:=hv'
  rw [h1] at hv2
  rcases List.mem_append.1 hv2 with h3|h3
  ·exact hm.ok.1 v h3
  ·refine ⟨(hv v h3).1,?_⟩
   cases ht:v.t with
   |false=>exact (hv v h3).2 ht
   |true=>exact Tm (h2 v h3) ht
 ·exact Zt _ _ hm.len
theorem Q2:(⟨#[]⟩:ByteArray).size≤64:=by decide
theorem Iy:AL 0:=by unfold AL;decide
theorem MS:Ff CQ:=⟨Iy,Q2⟩
theorem HU {n:Int} (h:AL n):∀ v∈[Dw n],AL v.n∧(v.t=false→v.b.size≤64):=by
 intro v hv
 rw [List.mem_singleton.1 hv]
 exact ⟨h,fun _=>Q2⟩
theorem II (s:ByteArray):∀ v∈[E0 s],AL v.n∧(v.t=false→v.b.size≤64):=by
 intro v hv
 rw [List.mem_singleton.1 hv]
 exact ⟨Iy,fun h=>by cases h⟩
theorem MR {v:A0} (h:Ff v):AL v.n∧(v.t=false→v.b.size≤64):=⟨h.1,fun _=>h.2⟩
theorem MQ {v:List A0} (h:∀ x∈v,Ff x) (k:Nat):Ff (v.getD k CQ):=by
 rw [List.getD_eq_getElem?_getD]
 cases hk:v[k]? with
 |none=>exact MS
 |some x=>exact h x (Cx hk)
theorem SZ (s:ByteArray) (i:Int):AL (E5 s i):=by
 unfold E5
 split
 ·unfold AL;omega
 ·have:=UInt8.toNat_lt (s[i.toNat]?.getD 0)
  unfold AL
  omega
theorem VF {D:By} (hD:∀ s:ByteArray,AL (D.num s)) {key:ByteArray} {n:Int} {m:VM} {i:B7} {v:List A0} (hm:EP n m) (hi:BS i n) (ha:AL i.a) (hv:∀ x∈v,Ff x) (h:(Cl D key m i v).2=0):EP n (Cl D key m i v).1:=by
 have h0:=MQ hv 0
 have h1:=MQ hv 1
 have g1:=hi.1
 have g2:=hi.2.1
 have two:∀ {a b:A0},Ff a→Ff b→∀ x∈[a,b],AL x.n∧(x.t=false→x.b.size≤64):=by
  intro a b pa pb x hx
  rcases List.mem_cons.1 hx with rfl|hx
  ·exact MR pa
  ·rw [List.mem_singleton.1 hx];exact MR pb
 have one:∀ {a:A0},Ff a→∀ x∈[a],AL x.n∧(x.t=false→x.b.size≤64):=by
  intro a pa x hx
  rw [List.mem_singleton.1 hx];exact MR pa
 have bit:∀ b:Bool,AL (if b then 1 else 0):=by intro b;cases b<;>(unfold AL;decide)
 rcases (show i.op=0∨i.op=1∨i.op=2∨i.op=3∨i.op=4∨i.op=5∨i.op=6∨i.op=7∨(i.op=8∨i.op=9∨i.op=10∨i.op=11)∨i.op=12∨i.op=13∨i.op=14∨i.op=15∨i.op=16∨i.op=17∨i.op=18∨i.op=19∨i.op=20∨i.op=21∨i.op=22∨i.op=23 by omega) with
  e|e|e|e|e|e|e|e|e|e|e|e|e|e|e|e|e|e|e|e|e
 ·rw [NT e] at h ⊢;exact ⟨hm.ok,hm.len,hm.told,hm.pos⟩
 ·rw [NU e] at h ⊢;exact EU hm h (HU ha)
 ·rw [N6 e] at h ⊢;exact EU hm h (II _)
 ·rw [N_ e] at h ⊢;exact EU hm h (two h0 h0)
 ·rw [Oa e] at h ⊢;exact hm
 ·rw [Ob e] at h ⊢;exact EU hm h (two h1 h0)
 ·rw [Oc e] at h ⊢;exact EU hm h (II _)
 ·rw [Od e] at h ⊢
  unfold Hu at h ⊢
  split at h
  ·exact EU hm h (HU (by unfold AL;omega))
  ·rename_i x xs hx
   have hm2:EP n {m with vals:=xs}:=⟨hm.ok,hm.len,hm.told,hm.pos⟩
   refine EU hm2 h fun y hy=>?_
   rcases List.mem_cons.1 hy with rfl|hy
   ·exact II x _ (List.mem_singleton.2 U)
   ·exact HU (n:=1) (by unfold AL;omega) y hy
 ·rw [I8 e] at h ⊢;exact EU hm h (one (YM _ _ _))
 ·rw [NV e] at h ⊢;exact EU hm h (HU (bit _))
 ·rw [NW e] at h ⊢;exact EU hm h (II _)
 ·rw [NX e] at h ⊢;exact EU hm h (HU (by have:=h0.2;unfold AL;omega))
 ·rw [NY e] at h ⊢;exact EU hm h (HU (SZ _ _))
 ·rw [NZ e] at h ⊢;exact EU hm h (II _)
 ·rw [N3 e] at h ⊢;exact EU hm h (II _)
 ·rw [N4 e] at h ⊢;exact EU hm h (HU (hD _))
 ·rw [N5 e] at h ⊢
  have:=hi.2.2.2.2.1 (.inl e)
  exact ⟨hm.ok,hm.len,hm.told,⟨this.1,this.2.1⟩⟩
 ·rw [LJ e] at h ⊢
  have:=hi.2.2.2.2.1 (.inr e)
  split
  ·exact ⟨hm.ok,hm.len,hm.told,⟨this.1,this.2.1⟩⟩
  ·exact hm
 ·rw [N7 e] at h ⊢;exact EU hm h (one (hm.ok.2 _))
 ·rw [N8 e] at h ⊢
  refine ⟨⟨hm.ok.1,fun k=>?_⟩,hm.len,hm.told,hm.pos⟩
  show Ff (if k=i.a.toNat then v.getD 0 CQ else m.g k)
  split
  ·exact h0
  ·exact hm.ok.2 k
 ·rw [N9 e] at h ⊢
  refine ⟨hm.ok,hm.len,?_,hm.pos⟩
  show (D7 m.told (v.getD 0 CQ).b (v.getD 1 CQ).b).2.length≤40
  have:=hm.told
  unfold D7
  split
  ·exact this
  ·split
   ·exact this
   ·simp only [List.length_append,List.length_cons,List.length_nil];omega
theorem PU {D:By} (hD:∀ s:ByteArray,AL (D.num s)) {key:ByteArray} {n:Int} {m:VM} {i:B7} (hm:EP n m) (hi:BS i n) (ha:AL i.a) (h:(BR D key m i).2=0):EP n (BR D key m i).1:=by
 by_cases hN:(AD i.op m.stk).1≠0
 ·rw [LT hN] at h;exact absurd h hN
 ·rw [DC hN] at h ⊢
  obtain ⟨l1,l2,l3,l4⟩:=MM (Classical.not_not.1 hN)
  exact VF hD ⟨⟨fun v hv=>hm.ok.1 v (l4 v hv),hm.ok.2⟩,Nat.le_trans l2 hm.len,hm.told,hm.pos⟩ hi ha (fun x hx=>hm.ok.1 x (l3 x hx)) h
section
variable {D:By} {p:List B7} {key:ByteArray} {m:VM} {i:B7}
theorem M1 (k:Nat) (h:¬ (m.pos<p.length∧m.halted=false)):CR D p key k m=(m,0):=by
 cases k<;>exact if_neg h
theorem Zj (h:m.pos<p.length∧m.halted=false):CR D p key 0 m=(m,3):=if_pos h
theorem Rp {k:Nat} (h:m.pos<p.length∧m.halted=false) (hi:p[m.pos.toNat]?=some i) (hw:(BR D key {m with pos:=m.pos+1} i).2≠0):CR D p key (k+1) m=BR D key {m with pos:=m.pos+1} i:=by
 unfold CR
 rw [if_pos h,hi]
 exact if_pos hw
theorem Rq {k:Nat} (h:m.pos<p.length∧m.halted=false) (hi:p[m.pos.toNat]?=some i) (hw:¬ (BR D key {m with pos:=m.pos+1} i).2≠0):CR D p key (k+1) m=CR D p key k (BR D key {m with pos:=m.pos+1} i).1:=by
 conv=>lhs;unfold CR
 rw [if_pos h,hi]
 exact if_neg hw
end
theorem VE (n:Nat) (vals:List ByteArray):EP n (DP vals) where
 ok:=⟨fun v hv=>(by cases hv),fun _=>MS⟩
 len:=Nat.zero_le _
 told:=Nat.zero_le _
 pos:=⟨Int.le_refl 0,Int.natCast_nonneg n⟩
theorem XW {xs:List B7} (h:DQ xs<0):∀ x∈xs,BS x xs.length:=by
 by_cases hl:xs.length≤40
 ·exact (Oj hl).1 h
 ·exfalso
  unfold DQ at h
  split at h
  ·omega
  ·rw [if_pos (by omega)] at h
   omega
theorem VG {n:Int} {m:VM} (h:EP n m) (hp:m.pos<n):EP n {m with pos:=m.pos+1}:=⟨h.ok,h.len,h.told,⟨by have:=h.pos;show 0≤m.pos+1;omega,by show m.pos+1≤n;omega⟩⟩
def Mk (P:Program) (name:String) (Q:Array Value→Prop):SP where
 P w F:=∃ g,P.globalNamed name=some g∧F g∧∃ cs,w.var? P name=some cs∧Q cs
 loc:=fun ⟨g,h1,h2,cs,h3,h4⟩ hk=>⟨g,h1,h2,cs,by
  unfold World.var? at h3 ⊢
  rw [h1] at h3 ⊢
  simp only [Option.bind_some] at h3 ⊢
  rw [hk g h2]
  exact h3,h4⟩
 mono:=fun ⟨g,h1,h2,h3⟩ hs=>⟨g,h1,hs g h2,h3⟩
def Ow (A B:SP):SP where
 P w F:=A.P w F∧B.P w F
 loc:=fun ⟨a,b⟩ hk=>⟨SP.loc _ a hk,SP.loc _ b hk⟩
 mono:=fun ⟨a,b⟩ hs=>⟨SP.mono _ a hs,SP.mono _ b hs⟩
section
variable {w0 w w':World} {F0:AU} {As Rs:List SP}
theorem Hd.after (H:Hd w0 F0 w As Rs) (ub:Cv none_ w w'):Hd w0 F0 w' As Rs:=by
 have h:Hd w0 F0 w' (BT True::As) Rs:=H.new ub (F':=none_) trivial (fun _ h=>h.elim)
 exact h.drop
theorem NH (h:Go.RowKit.Below w.heap.size w w'):Cv none_ w w':=⟨h.os,h.tape,h.output,h.size,fun k hk _=>h.block k hk⟩
theorem eF (w:World) (k:Nat) (os:Array Obj):Cv none_ w (Sort.grow (w.drewN k) os):=⟨rfl,rfl,rfl,by simp [Sort.grow],fun i hi _=>by
 show (w.heap++os)[i]?=_
 rw [Array.getElem?_append_left hi]⟩
end
/-! ### Calls that were put off -/
def LI (P:Program) (f:FuncId) (args:List Value) (As Rs:List SP) (T:Value→List SP→Prop):Prop:=
 ∀ w F u,Hd w F w As Rs→CallsD P f args.toArray u w fun e u' w'=>u'=u∧Ij (fun v w'=>∃ Bs,T v Bs∧Hd w F w' Bs Rs) e w'
theorem OU {P:Program} {n:Nat} {w:World} {f:FuncId} {fn:Func} {c:Code} {args:List Value} {u:FrameMode} {R:Ending→World→Prop} (hf:P.funcs[f]?=some fn) (hb:fn.body=some c) (hn:fn.ntmps=n) (hl:args.length≤n)
  (h:WC P c (bodyPost P fn R) n (Is 0 args) w):CallsD P f args.toArray u w fun e u' w'=>u'=u∧R e w':=by
 refine callsD_of_wp hf hb (h _ ⟨rfl,?_,?_⟩)
 ·simp only [Array.size_append,List.size_toArray,Array.size_replicate,hn]
  omega
 ·intro s v hs
  obtain ⟨_,h2⟩:=MC args 0 s v hs
  have hlt:s<args.length:=by
   rcases Nat.lt_or_ge s args.length with h'|h'
   ·exact h'
   ·simp [List.getElem?_eq_none h'] at h2
  refine ⟨?_,by omega⟩
  have h3:args[s]?=some v:=by simpa using h2
  simp [Array.getD_eq_getD_getElem?,Array.getElem?_append,hlt]
  simpa [List.getElem?_eq_getElem hlt] using h3
theorem Oy {P:Program} {w0 w:World} {F0:AU} {As Rs Cs Ss:List SP} {f:FuncId} {args:List Value} {u:FrameMode} {T:Value→List SP→Prop} (hc:LI P f args Cs Ss T) (H:Hd w0 F0 w (Cs++As) Rs) (hl:FH w As Rs Ss):
  CallsD P f args.toArray u w fun e u' w'=>u'=u∧Ij (fun v w'=>∃ Bs,T v Bs∧Hd w0 F0 w' (Bs++As) Rs) e w':=by
 obtain ⟨Fc,h1,h2⟩:=H.frame hl
 refine (hc w Fc u h1).mono ?_
 rintro e u' w' ⟨hu,v,rfl,Bs,hT,hB⟩
 exact ⟨hu,v,rfl,Bs,hT,h2 w' Bs hB⟩
/-! ### Digits that are made once -/
def Ip (n:Int):ByteArray:=⟨(Lib.itoa n).toArray⟩
def E7 (n:Int) (c t:Nat):SP:=ex fun f:Value=>blk c [.int .u32 1,.int .i32 0,.int .u32 0,.int .u32 1,f,.string (Ip n)] t
def EK (p:Int×Nat):Int×Value:=(p.1,.pointer (some ⟨p.2,0,none⟩))
def D6 (t:Nat) (kvs:List (Int×Nat)):SP:=BV (kvs.map fun p=>E7 p.1 p.2 t)
def Kb (t b:Nat):SP:=ex fun kvs:List (Int×Nat)=>BV [Eh b (kvs.map EK),D6 t kvs]
section
variable {w0 w w':World} {F0:AU} {As Rs:List SP} {t b:Nat}
theorem Hd.ex_out {α:Sort _} {A:α→SP} (H:Hd w0 F0 w (ex A::As) Rs):∃ a,Hd w0 F0 w (A a::As) Rs:=by
 obtain ⟨F,G,⟨F1,F2,h1,h2,h3,⟨a,ha⟩,s⟩,r,d,f,g,u⟩:=H
 exact ⟨a,F,G,⟨F1,F2,h1,h2,h3,ha,s⟩,r,d,f,g,u⟩
theorem Hd.ex_in {α:Sort _} {A:α→SP} (a:α) (H:Hd w0 F0 w (A a::As) Rs):Hd w0 F0 w (ex A::As) Rs:=H.turn fun _ h=>⟨a,h⟩
theorem Ua (H:Hd w0 F0 w (Kb t b::As) Rs):∃ kvs:List (Int×Nat),Hd w0 F0 w (Eh b (kvs.map EK)::D6 t kvs::As) Rs:=by
 obtain ⟨kvs,h⟩:=H.ex_out
 exact ⟨kvs,h.open_ (Bs:=[Eh b (kvs.map EK),D6 t kvs]) fun F hF=>hF⟩
theorem LR (kvs:List (Int×Nat)) (H:Hd w0 F0 w (Eh b (kvs.map EK)::D6 t kvs::As) Rs):Hd w0 F0 w (Kb t b::As) Rs:=
 (Hd.shut (Bs:=[Eh b (kvs.map EK),D6 t kvs]) H fun F hF=>hF).ex_in kvs
theorem TD (H:Hd w0 F0 w As Rs):Hd w0 F0 w (D6 t []::As) Rs:=Hd.shut (Bs:=[]) H fun F hF=>hF
theorem T_ {A:SP} (H:Hd w0 F0 w (A::Eh b []::As) Rs):Hd w0 F0 w (A::Kb t b::As) Rs:=by
 have h1:Hd w0 F0 w (Eh b []::A::As) Rs:=H.perm (List.Perm.swap _ _ _)
 have h2:=(TD (t:=t) h1).perm (List.Perm.swap _ _ _)
 exact (LR [] h2).perm (List.Perm.swap _ _ _)
theorem cY {A B C:SP} (H:Hd w0 F0 w (A::B::C::As) Rs):Hd w0 F0 w (C::A::B::As) Rs:=H.perm (((List.Perm.swap C B As).cons A).trans (List.Perm.swap C A _))
theorem Oe {n:Int}:∀ {kvs:List (Int×Nat)} {v:Value},ER n (kvs.map EK)=some v→∃ c,v=.pointer (some ⟨c,0,none⟩)∧(n,c)∈kvs
 |[],_,h=>by simp [ER] at h
 |p::kvs,v,h=>by
  simp only [List.map_cons,ER,EK] at h
  split at h
  ·rename_i e
   refine ⟨p.2,(Option.some.inj h).symm,?_⟩
   rw [e]
   exact List.mem_cons_self ..
  ·obtain ⟨c,h1,h2⟩:=Oe h
   exact ⟨c,h1,List.mem_cons_of_mem _ h2⟩
theorem Of {n:Int} {v:Value}:∀ {kvs:List (Int×Value)},ER n kvs=none→ER n (kvs++[(n,v)])=some v
 |[],_=>by simp [ER]
 |p::kvs,h=>by
  simp only [List.cons_append,ER] at h ⊢
  split at h
  ·cases h
  ·rename_i e
   rw [if_neg e]
   exact Of h
theorem XT (kvs:List (Int×Nat)) (n:Int) (b:Nat):(kvs++[(n,b)]).map EK=kvs.map EK++[(n,.pointer (some ⟨b,0,none⟩))]:=by simp [EK]
theorem TF {kvs:List (Int×Nat)} {n:Int} {c:Nat} (hm:(n,c)∈kvs) (H:Hd w0 F0 w (D6 t kvs::As) Rs):∃ rest:List (Int×Nat),Hd w0 F0 w (E7 n c t::D6 t rest::As) Rs∧∀ {w1:World} {F1:AU} {w2:World} {Bs Rs':List SP},Hd w1 F1 w2 (E7 n c t::D6 t rest::Bs) Rs'→Hd w1 F1 w2 (D6 t kvs::Bs) Rs':=by
 obtain ⟨s,u,rfl⟩:=List.append_of_mem hm
 have hp:((s++(n,c)::u).map fun p=>E7 p.1 p.2 t).Perm (E7 n c t::((s++u).map fun p=>E7 p.1 p.2 t)):=by
  rw [List.map_append,List.map_cons,List.map_append]
  exact List.perm_middle
 refine ⟨s++u,?_,?_⟩
 ·have h1:Hd w0 F0 w (BV (E7 n c t::((s++u).map fun p=>E7 p.1 p.2 t))::As) Rs:=H.turn fun F hF=>CF.perm hp hF
  refine h1.open_ (Bs:=[E7 n c t,D6 t (s++u)]) fun F hF=>?_
  obtain ⟨F1,F2,a1,a2,a3,a,b⟩:=hF
  exact ⟨F1,F2,a1,a2,a3,a,F2,none_,fun _ h=>h,fun _ h=>h.elim,fun _ _ h=>h,b,trivial⟩
 ·intro w1 F1 w2 Bs Rs' H2
  refine Hd.shut (Bs:=[E7 n c t,D6 t (s++u)]) H2 fun F hF=>?_
  obtain ⟨F1,F2,a1,a2,a3,a,F3,F4,b1,b2,b3,b,_⟩:=hF
  exact CF.perm hp.symm ⟨F1,F2,a1,a2,a3,a,CF.mono b b1⟩
theorem TE {kvs:List (Int×Nat)} {n:Int} {c:Nat} (H:Hd w0 F0 w (E7 n c t::D6 t kvs::As) Rs):Hd w0 F0 w (D6 t (kvs++[(n,c)])::As) Rs:=by
 have hp:((kvs++[(n,c)]).map fun p=>E7 p.1 p.2 t).Perm (E7 n c t::(kvs.map fun p=>E7 p.1 p.2 t)):=by
  rw [List.map_append,List.map_cons,List.map_nil]
  exact List.perm_append_singleton ..
 refine Hd.shut (Bs:=[E7 n c t,D6 t kvs]) H fun F hF=>?_
 obtain ⟨F1,F2,a1,a2,a3,a,F3,F4,b1,b2,b3,b,_⟩:=hF
 exact CF.perm hp.symm ⟨F1,F2,a1,a2,a3,a,CF.mono b b1⟩
end
section
variable {P:Program} {n:Nat} {l:BQ} {w w0:World} {F0:AU} {o:Oper} {x y:Operand} {t kt et:TypeId} {As Rs:List SP} {b:Nat} {kvs:List (Int×Value)} {v:Value}
theorem K0 (ho:o.op=.lookup t x y false) (hm:P.underlying t=some (.map kt et)) (hk:P.underlying kt=some (.int .i64)) {z:Value} (hz:Dp P et=some z) (hx:ev l x=some (.map (some b))) {k:Int} (hy:ev l y=some (.int .i64 k))
  (H:Hd w0 F0 w As Rs) (j:Nat) (hj:As[j]?=some (Eh b kvs)) (hv:(ER k kvs).getD z=v):BL P n l w o v w:=hv▸ZG ho hm hk hz hx hy H j hj
end
theorem Uq {told:List Ap} {k v:ByteArray} (h:told.length≤40):(D7 told k v).2.length≤40:=by
 unfold D7
 split
 ·exact h
 ·split
  ·exact h
  ·simp only [List.length_append,List.length_cons,List.length_nil];omega
theorem Q0 (m:VM):(Hu m).1.told=m.told:=by
 rw [Q1]
def TL (r:VM×Int):Prop:=r.1.told.length≤40
theorem Ee {c:Prop} [Decidable c] {x y:VM×Int} (hx:TL x) (hy:TL y):TL (if c then x else y):=by
 split
 ·exact hx
 ·exact hy
theorem SU {D:By} {key:ByteArray} {m:VM} {i:B7} {v:List A0} (h:m.told.length≤40):(Cl D key m i v).1.told.length≤40:=by
 have hn:TL (Hu m):=by unfold TL;rw [Q0];exact h
 have h20:TL (if (v.getD 0 CQ).n≠0 then {m with pos:=i.a} else m,0):=by
  unfold TL
  dsimp only
  split<;>exact h
 exact Ee h (Ee h (Ee h (Ee h (Ee h (Ee h (Ee hn (Ee h (Ee h (Ee h (Ee h (Ee h (Ee h (Ee h (Ee h (Ee h (Ee h20 (Ee h (Ee h (Ee (Uq h) h)))))))))))))))))))
theorem ON {D:By} {key:ByteArray} {m:VM} {i:B7} (h:m.told.length≤40):(BR D key m i).1.told.length≤40:=by
 unfold BR
 split
 ·exact h
 ·exact SU h
theorem Ru {D:By} {p:List B7} {key:ByteArray}:∀ (k:Nat) {m:VM},m.told.length≤40→(CR D p key k m).1.told.length≤40
 |0,m,h=>by
  unfold CR
  split<;>exact h
 |k+1,m,h=>by
  unfold CR
  split
  ·split
   ·split
    ·exact ON h
    ·exact Ru k (ON h)
   ·exact h
  ·exact h
theorem bG (D:By) (p:List B7) (key:ByteArray) (vals:List ByteArray) (fuel:Int):(Ca D p key vals fuel).1.length≤40:=by
 unfold Ca
 split
 ·exact Nat.zero_le _
 ·split
  ·exact Nat.zero_le _
  ·exact Ru _ (Nat.zero_le _)
def Jw (k:ByteArray) (l:List Ap):Bool:=l.any fun x=>decide (x.key≠k)
def ET (D:By) (p:List B7) (ps:List Ap) (fuel:Int) (own:Bool):List ByteArray→List Ap→List Ap×Int
 |[],out=>(out,0)
 |k::ks,out=>
  if (Ca D p k (B6 ps k) fuel).2≠0 then ([],(Ca D p k (B6 ps k) fuel).2)
  else if own=true∧Jw k (Ca D p k (B6 ps k) fuel).1=true then ([],6)
  else if 40<out.length+(Ca D p k (B6 ps k) fuel).1.length then ([],5)
  else ET D p ps fuel own ks (out++(Ca D p k (B6 ps k) fuel).1)
def DT (D:By) (p:List B7) (ps:List Ap) (fuel:Int) (own:Bool):List Ap×Int:=ET D p ps fuel own (DU ps) []
def Ja (D:By) (p:List B7) (ps:List Ap) (fuel:Int):List Ap×Int:=if p.length=0 then (srt ps,0) else DT D p ps fuel true
section
variable {D:By} {p:List B7} {ps:List Ap} {fuel:Int} {own:Bool} {ks:List ByteArray} {k:ByteArray} {out:List Ap} {i:Nat}
theorem Ve (h:ks.length≤i):ET D p ps fuel own (ks.drop i) out=(out,0):=by
 rw [List.drop_eq_nil_of_le h];rfl
theorem Vg (hk:ks[i]?=some k) (h:(Ca D p k (B6 ps k) fuel).2≠0):ET D p ps fuel own (ks.drop i) out=([],(Ca D p k (B6 ps k) fuel).2):=by
 rw [Fv hk];exact if_pos h
theorem Vf (hk:ks[i]?=some k) (h:¬ (Ca D p k (B6 ps k) fuel).2≠0) (h2:own=true) (h3:Jw k (Ca D p k (B6 ps k) fuel).1=true):ET D p ps fuel own (ks.drop i) out=([],6):=by
 rw [Fv hk];unfold ET;rw [if_neg h,if_pos ⟨h2,h3⟩]
theorem PD (hk:ks[i]?=some k) (h:¬ (Ca D p k (B6 ps k) fuel).2≠0) (h2:¬ (own=true∧Jw k (Ca D p k (B6 ps k) fuel).1=true)) (h3:40<out.length+(Ca D p k (B6 ps k) fuel).1.length):ET D p ps fuel own (ks.drop i) out=([],5):=by
 rw [Fv hk];unfold ET;rw [if_neg h,if_neg h2,if_pos h3]
theorem PE (hk:ks[i]?=some k) (h:¬ (Ca D p k (B6 ps k) fuel).2≠0) (h2:¬ (own=true∧Jw k (Ca D p k (B6 ps k) fuel).1=true)) (h3:¬ 40<out.length+(Ca D p k (B6 ps k) fuel).1.length):
  ET D p ps fuel own (ks.drop (i+1)) (out++(Ca D p k (B6 ps k) fuel).1)=ET D p ps fuel own (ks.drop i) out:=by
 rw [Fv hk];conv=>rhs;unfold ET
 rw [if_neg h,if_neg h2,if_neg h3]
end
theorem OP (D:By) (p:List B7) (ps:List Ap) (fuel:Int) (own:Bool):∀ (ks:List ByteArray) (out:List Ap),out.length≤40→(ET D p ps fuel own ks out).1.length≤40
 |[],out,h=>h
 |k::ks,out,h=>by
  unfold ET
  split
  ·exact Nat.zero_le _
  ·split
   ·exact Nat.zero_le _
   ·split
    ·exact Nat.zero_le _
    ·exact OP D p ps fuel own ks _ (by simp only [List.length_append];omega)
def O1:List B7:=[⟨6,0,⟨#[]⟩⟩,⟨7,0,⟨#[]⟩⟩,⟨4,0,⟨#[]⟩⟩,⟨23,0,⟨#[]⟩⟩]
theorem Vy:∀ i∈O1,AL i.a:=by
 intro i hi
 simp only [O1,List.mem_cons,List.not_mem_nil,or_false] at hi
 rcases hi with rfl|rfl|rfl|rfl<;>exact Iy
theorem Vz:∀ i∈[(⟨0,0,⟨#[]⟩⟩:B7)],AL i.a:=by
 intro i hi
 rw [List.mem_singleton.1 hi]
 exact Iy
/-! ### What is told is small -/
def TS (r:VM×Int):Prop:=∀ q∈r.1.told,C2 q
theorem Ef {c:Prop} [Decidable c] {x y:VM×Int} (hx:TS x) (hy:TS y):TS (if c then x else y):=by
 split
 ·exact hx
 ·exact hy
theorem Ut {told:List Ap} {k v:ByteArray} (h:∀ q∈told,C2 q) (hv:v.size≤64):∀ q∈(D7 told k v).2,C2 q:=by
 unfold D7
 split
 ·exact h
 ·split
  ·exact h
  ·intro q hq
   rcases List.mem_append.1 hq with h1|h1
   ·exact h q h1
   ·rw [List.mem_singleton.1 h1]
    exact ⟨by (try dsimp only);omega,hv⟩
theorem ST {D:By} {key:ByteArray} {m:VM} {i:B7} {v:List A0} (h:∀ q∈m.told,C2 q) (hv:(v.getD 1 CQ).b.size≤64):TS (Cl D key m i v):=by
 have hn:TS (Hu m):=by unfold TS;rw [Q0];exact h
 have h20:TS (if (v.getD 0 CQ).n≠0 then {m with pos:=i.a} else m,0):=by
  unfold TS
  dsimp only
  split<;>exact h
 exact Ef h (Ef h (Ef h (Ef h (Ef h (Ef h (Ef hn (Ef h (Ef h (Ef h (Ef h (Ef h (Ef h (Ef h (Ef h (Ef h (Ef h20 (Ef h (Ef h (Ef (Ut h hv) h)))))))))))))))))))
theorem OM {D:By} {key:ByteArray} {n:Int} {m:VM} {i:B7} (hm:EP n m) (h:∀ q∈m.told,C2 q):TS (BR D key m i):=by
 by_cases hN:(AD i.op m.stk).1≠0
 ·rw [LT hN];exact h
 ·rw [DC hN]
  obtain ⟨l1,l2,l3,l4⟩:=MM (Classical.not_not.1 hN)
  exact ST h (MQ (fun x hx=>hm.ok.1 x (l3 x hx)) 1).2
theorem J1 {p:List B7} (h:DQ p<0):p.length≤40∧∀ i∈p,BS i p.length:=by
 have hl:p.length≤40:=by
  apply Classical.byContradiction
  intro hn
  unfold DQ at h
  split at h
  ·omega
  ·rw [if_pos (by omega)] at h;omega
 exact ⟨hl,(Oj hl).1 h⟩
theorem Rt {D:By} (hD:∀ s:ByteArray,AL (D.num s)) {p:List B7} {key:ByteArray} (hp:DQ p<0) (ha:∀ i∈p,AL i.a):∀ (k:Nat) {m:VM},EP p.length m→(∀ q∈m.told,C2 q)→TS (CR D p key k m)
 |0,m,hm,h=>by
  unfold CR
  split<;>exact h
 |k+1,m,hm,h=>by
  by_cases hc:m.pos<p.length∧m.halted=false
  ·obtain ⟨i,hi⟩:∃ i,p[m.pos.toNat]?=some i:=⟨_,List.getElem?_eq_getElem (by have:=hm.pos;omega)⟩
   have him:=Cx hi
   have hm1:EP p.length {m with pos:=m.pos+1}:=⟨hm.ok,hm.len,hm.told,(by have h9:=hm.pos;constructor<;>(try dsimp only)<;>omega)⟩
   by_cases hw:(BR D key {m with pos:=m.pos+1} i).2≠0
   ·rw [Rp hc hi hw]
    exact OM hm1 h
   ·rw [Rq hc hi hw]
    exact Rt hD hp ha k (PU hD hm1 ((J1 hp).2 i him) (ha i him) (Classical.not_not.1 hw)) (OM hm1 h)
  ·rw [M1 _ hc];exact h
theorem VH (n:Int) (hn:0≤n) (vals:List ByteArray):EP n (DP vals):=⟨⟨(fun v hv=>by cases hv),fun _=>MS⟩,Nat.zero_le _,Nat.zero_le _,⟨Int.le_refl 0,hn⟩⟩
theorem R7 {D:By} (hD:∀ s:ByteArray,AL (D.num s)) {p:List B7} (ha:∀ i∈p,AL i.a) (key:ByteArray) (vals:List ByteArray) (fuel:Int):∀ q∈(Ca D p key vals fuel).1,C2 q:=by
 unfold Ca
 split
 ·intro q hq;cases hq
 ·rename_i hn
  split
  ·intro q hq;cases hq
  ·exact Rt hD (by omega) ha _ (VH _ (by omega) _) (fun q hq=>by cases hq)
theorem cQ {xs:List Ap} (h:∀ q∈xs,C2 q):∀ q∈srt xs,C2 q:=fun q hq=>h q ((GH xs).symm.mem hq)
theorem OO {D:By} (hD:∀ s:ByteArray,AL (D.num s)) {p:List B7} (ha:∀ i∈p,AL i.a) {ps:List Ap} {fuel:Int} {own:Bool}:∀ (ks:List ByteArray) (out:List Ap),(∀ q∈out,C2 q)→∀ q∈(ET D p ps fuel own ks out).1,C2 q
 |[],out,h=>h
 |k::ks,out,h=>by
  unfold ET
  split
  ·intro q hq;cases hq
  ·split
   ·intro q hq;cases hq
   ·split
    ·intro q hq;cases hq
    ·refine OO hD ha ks _ fun q hq=>?_
     rcases List.mem_append.1 hq with h1|h1
     ·exact h q h1
     ·exact R7 hD ha _ _ _ q h1
/-! ### In order -/
theorem TX {D:By} (hD:∀ s:ByteArray,AL (D.num s)) {p:List B7} (ha:∀ i∈p,AL i.a) {ps:List Ap} {fuel:Int} (h:∀ q∈ps,C2 q):∀ q∈(Ja D p ps fuel).1,C2 q:=by
 unfold Ja
 split
 ·exact cQ h
 ·exact OO hD ha _ _ fun q hq=>by cases hq
theorem TW (D:By) (p:List B7) (ps:List Ap) (fuel:Int) (h:ps.length≤40):(Ja D p ps fuel).1.length≤40:=by
 unfold Ja
 split
 ·show (srt ps).length≤40
  rw [GG];exact h
 ·exact OP D p ps fuel true _ _ (Nat.zero_le _)
/-! ### Jobs -/
structure AS where
 us:List (Value×List Ap)
 parts:Int
 map:List B7
 comb:List B7
 red:List B7
 chunk:Int
 window:Int
 fuel:Int
 marks:List Int
def Hw (x:List Ap):Prop:=x.length≤8∧Hs x
instance (x:List Ap):Decidable (Hw x):=inferInstanceAs (Decidable (_∧_))
def GY (n:Int):Int→List Int→Prop
 |_,[]=>True
 |l,m::ms=>(l+1≤m∧m≤n)∧GY n m ms
instance marksUpD (n:Int):∀ (l:Int) (ms:List Int),Decidable (GY n l ms)
 |_,[]=>isTrue trivial
 |_,m::ms=>haveI:=marksUpD n m ms;inferInstanceAs (Decidable (_∧_))
def Es (J:AS):Prop:=
 (1≤(J.us.length:Int)∧(J.us.length:Int)≤6)∧(1≤J.parts∧J.parts≤4)∧J.marks.length≤4∧(∀ u∈J.us,Hw u.2)∧GY J.us.length 0 J.marks∧
 (0<J.map.length∧DQ J.map<0)∧(0<J.red.length∧DQ J.red<0)∧DQ J.comb<0∧(1≤J.chunk∧J.chunk≤7)∧(1≤J.window∧J.window≤4)∧1≤J.fuel∧J.fuel≤2000
instance mayJD (J:AS):Decidable (Es J):=by unfold Es;infer_instance
structure Df (J:AS):Prop where
 may:Es J
 map:∀ i∈J.map,AL i.a
 comb:∀ i∈J.comb,AL i.a
 red:∀ i∈J.red,AL i.a
theorem Df.us {J:AS} (h:Df J):1≤J.us.length∧J.us.length≤6:=by have:=h.may.1;omega
theorem Df.parts {J:AS} (h:Df J):1≤J.parts∧J.parts≤4:=h.may.2.1
theorem Df.fuel {J:AS} (h:Df J):1≤J.fuel∧J.fuel≤2000:=h.may.2.2.2.2.2.2.2.2.2.2
theorem Df.split {J:AS} (h:Df J):∀ u∈J.us,Hw u.2:=h.may.2.2.2.1
def IF (D:By) (p:List B7) (fuel:Int):List Ap→List Ap→List Ap×Int
 |[],out=>(out,0)
 |r::rs,out=>
  if (Ca D p r.key [r.val] fuel).2≠0 then ([],(Ca D p r.key [r.val] fuel).2)
  else if 40<out.length+(Ca D p r.key [r.val] fuel).1.length then ([],5)
  else IF D p fuel rs (out++(Ca D p r.key [r.val] fuel).1)
section
variable {D:By} {p:List B7} {fuel:Int} {rs:List Ap} {r:Ap} {out:List Ap} {i:Nat}
theorem QP (hD:∀ s:ByteArray,AL (D.num s)) (ha:∀ i∈p,AL i.a):∀ (rs out:List Ap),(∀ q∈out,C2 q)→∀ q∈(IF D p fuel rs out).1,C2 q
 |[],out,h=>h
 |r::rs,out,h=>by
  unfold IF
  split
  ·intro q hq;cases hq
  ·split
   ·intro q hq;cases hq
   ·refine QP hD ha rs _ fun q hq=>?_
    rcases List.mem_append.1 hq with h1|h1
    ·exact h q h1
    ·exact R7 hD ha _ _ _ q h1
theorem QO:∀ (rs out:List Ap),out.length≤40→(IF D p fuel rs out).1.length≤40
 |[],out,h=>h
 |r::rs,out,h=>by
  unfold IF
  split
  ·exact Nat.zero_le _
  ·split
   ·exact Nat.zero_le _
   ·exact QO rs _ (by simp only [List.length_append];omega)
end
def recs (J:AS) (s:Nat):List Ap:=match J.us[s]? with
 |some u=>u.2
 |none=>[]
def mapM (D:By) (J:AS) (s:Nat):List Ap×Int:=IF D J.map J.fuel (recs J s) []
def AZ (D:By) (J:AS) (s:Nat):List Ap×Int:=if (mapM D J s).2≠0 then ([],(mapM D J s).2) else Ja D J.comb (mapM D J s).1 J.fuel
theorem XQ (D:By) (J:AS) (s:Nat):(mapM D J s).1.length≤40:=QO _ _ (Nat.zero_le _)
theorem Lp (D:By) (J:AS) (s:Nat):(AZ D J s).1.length≤40:=by
 unfold AZ
 split
 ·exact Nat.zero_le _
 ·exact TW _ _ _ _ (XQ _ _ _)
theorem Nx {D:By} (hD:∀ s:ByteArray,AL (D.num s)) {J:AS} (h:Df J) (s:Nat):∀ q∈(AZ D J s).1,C2 q:=by
 unfold AZ
 split
 ·intro q hq;cases hq
 ·exact TX hD h.comb (QP hD h.map _ _ fun q hq=>by cases hq)
def DI (D:By) (J:AS) (s:Nat) (p:Int):List Ap:=Fo (AZ D J s).1 J.parts p
def I9 (D:By) (J:AS) (p:Int):Nat→List Ap
 |0=>[]
 |k+1=>I9 D J p k++DI D J k p
theorem MT (D:By) (J:AS) (s:Nat) (p:Int):(DI D J s p).length≤40:=Nat.le_trans (Rd _ _ _) (Lp _ _ _)
def MZ (D:By) (J:AS) (p:Int):List Ap×Int:=DT D J.red (srt (I9 D J p J.us.length)) J.fuel false
section
variable {D:By} {J:AS} {s p:Nat} {out:List (List Ap)}
end
def Nm (D:By) (J:AS) (s:Nat) (p:Int):List Ap×Int:=if (AZ D J s).2≠0 then ([],(AZ D J s).2) else (DI D J s p,0)
structure Bj (A B:AS):Prop where
 us:A.us.map (·.2)=B.us.map (·.2)
 rest:A={ B with us:=A.us }
theorem Bj.refl (A:AS):Bj A A:=⟨rfl,rfl⟩
theorem Bj.symm {A B:AS} (h:Bj A B):Bj B A:=by
 obtain ⟨h1,h2⟩:=h
 refine ⟨h1.symm,?_⟩
 rw [h2]
theorem Bj.trans {A B C:AS} (h:Bj A B) (k:Bj B C):Bj A C:=by
 obtain ⟨h1,h2⟩:=h
 obtain ⟨k1,k2⟩:=k
 refine ⟨h1.trans k1,?_⟩
 rw [h2,k2]
section
variable {A B:AS} (h:Bj A B)
include h
theorem Bj.parts:A.parts=B.parts:=by rw [h.rest]
theorem Bj.map:A.map=B.map:=by rw [h.rest]
theorem Bj.comb:A.comb=B.comb:=by rw [h.rest]
theorem Bj.red:A.red=B.red:=by rw [h.rest]
theorem Bj.chunk:A.chunk=B.chunk:=by rw [h.rest]
theorem Bj.window:A.window=B.window:=by rw [h.rest]
theorem Bj.fuel:A.fuel=B.fuel:=by rw [h.rest]
theorem Bj.marks:A.marks=B.marks:=by rw [h.rest]
theorem Bj.len:A.us.length=B.us.length:=by have:=congrArg List.length h.us;simpa using this
theorem Bj.recs (s:Nat):recs A s=recs B s:=by
 have e:∀ J:AS,X.recs J s=((J.us.map (·.2))[s]?).getD []:=by
  intro J
  unfold X.recs
  rw [List.getElem?_map]
  cases J.us[s]?<;>rfl
 rw [e,e,h.us]
theorem Bj.split (D:By) (s:Nat):AZ D A s=AZ D B s:=by
 unfold AZ mapM
 rw [h.recs,h.map,h.comb,h.fuel]
theorem Bj.only (D:By) (s:Nat) (p:Int):DI D A s p=DI D B s p:=by
 unfold DI
 rw [h.split,h.parts]
theorem Bj.all (D:By) (p:Int):∀ k,I9 D A p k=I9 D B p k
 |0=>rfl
 |k+1=>by unfold I9;rw [Bj.all D p k,h.only]
theorem Bj.part (D:By) (p:Int):MZ D A p=MZ D B p:=by
 unfold MZ
 rw [h.all,h.red,h.fuel,h.len]
theorem Bj.run (D:By) (s:Nat) (p:Int):Nm D A s p=Nm D B s p:=by
 unfold Nm
 rw [h.split,h.only]
theorem Bj.may (m:Es A):Es B:=by
 obtain ⟨m1,m2,m3,m4,m5,m6,m7,m8,m9,m10,m11⟩:=m
 have hs:∀ u∈B.us,Hw u.2:=by
  intro u hu
  have:u.2∈B.us.map (·.2):=List.mem_map_of_mem hu
  rw [←h.us] at this
  obtain ⟨v,hv,e⟩:=List.mem_map.1 this
  rw [←e];exact m4 v hv
 rw [h.len,h.marks] at m5
 rw [h.parts] at m2;rw [h.marks] at m3;rw [h.map] at m6;rw [h.red] at m7;rw [h.comb] at m8;rw [h.chunk] at m9;rw [h.window] at m10;rw [h.fuel] at m11
 exact ⟨by rw [←h.len];exact m1,m2,m3,hs,m5,m6,m7,m8,m9,m10,m11⟩
theorem Bj.ok (k:Df A):Df B:=⟨h.may k.may,by have:=k.map;rwa [h.map] at this,by have:=k.comb;rwa [h.comb] at this,by have:=k.red;rwa [h.red] at this⟩
end
theorem Df.chunk1 {J:AS} (h:Df J):1≤J.chunk∧J.chunk≤7:=h.may.2.2.2.2.2.2.2.2.1
structure Cf where
 J:AS
 w:Int
 t:Int
 o:Int
def DE (C:Cf):Prop:=Es C.J∧(1≤C.w∧C.w≤4)∧(1≤C.t∧C.t≤3)∧1≤C.o∧C.o≤50
instance mayCD (C:Cf):Decidable (DE C):=by unfold DE;infer_instance
structure D0 (A B:Cf):Prop where
 J:Bj A.J B.J
 w:A.w=B.w
 t:A.t=B.t
 o:A.o=B.o
theorem D0.refl (A:Cf):D0 A A:=⟨Bj.refl _,rfl,rfl,rfl⟩
theorem D0.symm {A B:Cf} (h:D0 A B):D0 B A:=⟨h.J.symm,h.w.symm,h.t.symm,h.o.symm⟩
theorem D0.trans {A B C:Cf} (h:D0 A B) (k:D0 B C):D0 A C:=⟨h.J.trans k.J,h.w.trans k.w,h.t.trans k.t,h.o.trans k.o⟩
structure Ii (C:Cf):Prop where
 may:DE C
 ok:Df C.J
theorem D0.may {A B:Cf} (h:D0 A B) (m:DE A):DE B:=⟨h.J.may m.1,by rw [←h.w];exact m.2.1,by rw [←h.t];exact m.2.2.1,by rw [←h.o];exact m.2.2.2⟩
theorem Ii.w {C:Cf} (h:Ii C):1≤C.w∧C.w≤4:=h.may.2.1
theorem Ii.t {C:Cf} (h:Ii C):1≤C.t∧C.t≤3:=h.may.2.2.1
theorem Ii.o {C:Cf} (h:Ii C):1≤C.o∧C.o≤50:=h.may.2.2.2
def DR (C:Cf) (p:Int):Int:=if ¬ DE C∨¬ (0≤p∧p≤C.J.parts - 1) then 0 else 1+p.tmod C.w
/-! ### Records and messages in plain words -/
structure Ba where
 kind:Int
 part:Int
 sp:Int
 att:Int
 why:Int
 set:List Int
 pairs:List Ap
def AW.p (r:AW):Ba:=⟨r.kind,r.part,r.sp,r.att,r.why,r.set,r.pairs⟩
structure DK where
 kind:Int
 sp:Int
 att:Int
 part:Int
 seq:Int
 next:Int
 ep:Int
 why:Int
 set:List Int
 pairs:List Ap
def X7:DK:=⟨0,0,0,0,0,0,0,0,[],[]⟩
def Hc (x:Int) (k:Nat):List Int:=(List.range k).map fun (i:Nat)=>x+(i:Int)
theorem SG (x:Int) (k:Nat):(Hc x k).length=k:=by simp [Hc]
theorem eE (x:Int) (k:Nat):Hc x (k+1)=Hc x k++[x+(k:Int)]:=by simp [Hc,List.range_succ]
def DN (c s x:Int):List Int:=Hc x (min s (c - x)).toNat
theorem YQ (c s x:Int):(DN c s x).length=(min s (c - x)).toNat:=SG _ _
def B2 (n:Nat):List UInt8:=(List.range 8).map fun i=>UInt8.ofNat (n / 256^(7 - i))
def Fd (l:List UInt8):Nat:=l.foldl (fun n x=>n*256+x.toNat) 0
theorem EF (n:Nat):(B2 n).length=8:=by simp [B2]
theorem Tj (n:Nat):B2 n=[UInt8.ofNat (n / 72057594037927936),UInt8.ofNat (n / 281474976710656),UInt8.ofNat (n / 1099511627776),UInt8.ofNat (n / 4294967296),UInt8.ofNat (n / 16777216),UInt8.ofNat (n / 65536),UInt8.ofNat (n / 256),UInt8.ofNat (n / 1)]:=rfl
theorem ZX {n:Nat} (h:n<18446744073709551616):Fd (B2 n)=n:=by
 rw [Tj]
 simp only [Fd,List.foldl_cons,List.foldl_nil,UInt8.toNat_ofNat']
 omega
theorem ZY:∀ (l:List UInt8) (k:Nat),Fd l<256^l.length:=by
 intro l _
 have:∀ (l:List UInt8) (n m:Nat),n<256^m→l.foldl (fun n x=>n*256+x.toNat) n<256^(m+l.length):=by
  intro l
  induction l with
  |nil=>intro n m h;exact h
  |cons x l ih=>
   intro n m h
   have hx:=UInt8.toNat_lt x
   have:=ih (n*256+x.toNat) (m+1) (by rw [Nat.pow_succ];omega)
   rw [List.foldl_cons,List.length_cons,show m+(l.length+1)=m+1+l.length by omega]
   exact this
 have:=this l 0 0 (by decide)
 rwa [Nat.zero_add] at this
theorem ZZ (l:List UInt8) (x:UInt8):Fd (l++[x])=Fd l*256+x.toNat:=by
 unfold Fd;rw [List.foldl_append];rfl
def AA (s:ByteArray):List UInt8:=s.data.toList
def Cr (s:ByteArray):List UInt8:=B2 s.size++AA s
theorem Gs (s:ByteArray):(AA s).length=s.size:=by unfold AA;exact Array.length_toList
theorem GK (s:ByteArray):(Cr s).length=8+s.size:=by unfold Cr;rw [List.length_append,EF,Gs]
def DF (l:List UInt8):ByteArray:=⟨l.toArray⟩
theorem c_ (s:ByteArray):DF (AA s)=s:=by cases s;simp [DF,AA]
theorem Ox (l:List UInt8):AA (DF l)=l:=by simp [DF,AA]
def G4 (b:List UInt8) (at_:Int):Option (Int×Int):=
 if at_<0∨(b.length:Int)<at_∨(b.length:Int) - at_<8 then none else some (IntKind.i64.wrap (Fd ((b.drop at_.toNat).take 8):Nat),at_+8)
def JE (b:List UInt8) (at_:Int):Option (ByteArray×Int):=
 match G4 b at_ with
 |none=>none
 |some (n,next)=>if n<0∨(b.length:Int) - next<n then none else some (DF ((b.drop next.toNat).take n.toNat),next+n)
theorem Nd {a c:List UInt8} {n k:Nat} (hn:n<9223372036854775808) (hk:a.length=k):G4 (a++(B2 n++c)) (k:Int)=some ((n:Int),((k+8:Nat):Int)):=by
 subst hk
 unfold G4
 rw [if_neg (by rw [List.length_append,List.length_append,EF];omega)]
 have h1:((a++(B2 n++c)).drop ((a.length:Nat):Int).toNat).take 8=B2 n:=by
  rw [Int.toNat_natCast,List.drop_left,←EF n,List.take_left]
 rw [h1,ZX (by omega),AI (by omega) (by omega)]
 rfl
theorem K9 {a c:List UInt8} {s:ByteArray} {k:Nat} (hs:s.size<9223372036854775808) (hk:a.length=k):JE (a++(Cr s++c)) (k:Int)=some (s,((k+8+s.size:Nat):Int)):=by
 unfold JE
 have h:a++(Cr s++c)=a++(B2 s.size++(AA s++c)):=by unfold Cr;rw [List.append_assoc]
 rw [h,Nd hs hk]
 dsimp only
 rw [if_neg (by rw [List.length_append,List.length_append,List.length_append,EF,Gs];omega)]
 have h2:(a++(B2 s.size++(AA s++c))).drop ((k+8:Nat):Int).toNat=AA s++c:=by
  rw [Int.toNat_natCast,←List.append_assoc,show k+8=(a++B2 s.size).length by rw [List.length_append,EF,hk],List.drop_left]
 rw [h2,Int.toNat_natCast,←Gs s,List.take_left,c_,Gs]
 rfl
def B9 (ps:List Ap):List UInt8:=ps.flatMap fun p=>Cr p.key++Cr p.val
def D9 (ps:List Ap):List UInt8:=B2 ps.length++B9 ps
theorem MX (ps:List Ap) (p:Ap):B9 (ps++[p])=B9 ps++(Cr p.key++Cr p.val):=by unfold B9;rw [List.flatMap_append];simp
theorem Rk {ps:List Ap} {k:Nat} {p:Ap} (h:ps[k]?=some p):B9 ps=B9 (ps.take k)++(Cr p.key++(Cr p.val++B9 (ps.drop (k+1)))):=by
 obtain ⟨hl,e⟩:=List.getElem?_eq_some_iff.1 h
 have:ps=ps.take k++p::ps.drop (k+1):=by rw [←e,←List.drop_eq_getElem_cons hl,List.take_append_drop]
 conv=>lhs;rw [this]
 unfold B9
 rw [List.flatMap_append,List.flatMap_cons,List.append_assoc]
def E8 (x:UInt8):List Value:=[.int .u8 x.toNat]
def AP:Kd UInt8:=flat E8 1 (by omega) (fun _=>rfl) (fun _ c h=>by simp [E8] at h;subst h;rfl)
structure CZ where
 c:Int
 s:Int
 e:Int
 x:Int
def KT (w:CZ):Prop:=(0≤w.c∧w.c≤40∧1≤w.s∧w.s≤4)∧(0≤w.x∧w.x≤w.c)∧0≤w.e∧w.e≤9223372036854775807
def Ew (chunk att:Int):Int:=if att.tmod 2≠0 then chunk+1 else chunk
def Fi (n size:Int):Int:=if n<1∨size<1 then 0 else (n - 1).tdiv size+1
def Fu (ps:List Ap) (size q:Int):List Ap:=if q<0∨Fi ps.length size≤q then [] else (ps.drop (q*size).toNat).take size.toNat
def CU (D:By) (J:AS) (s:Nat) (att:Int):List Int:=
 if (AZ D J s).2≠0 then [] else (List.range J.parts.toNat).map fun (p:Nat)=>Fi ((DI D J s p).length:Nat) (Ew J.chunk att)
structure Cu where
 sp:Nat
 att:Int
 ws:List CZ
def Dq (D:By) (J:AS) (s:Nat) (att p q:Int):List Ap:=if p<0 then [] else Fu (DI D J s p) (Ew J.chunk att) q
def Et (D:By) (J:AS) (s:Nat) (att:Int) (w:CZ) (p:Nat):List DK:=
 (DN w.c w.s w.x).map fun q=>⟨2,s,att,p,q,0,0,0,[],Dq D J s att p q⟩
def DS (D:By) (J:AS) (s:Nat) (att:Int):List CZ→Nat→List DK
 |[],_=>[]
 |w::ws,p=>Et D J s att w p++DS D J s att ws (p+1)
def G3 (D:By) (J:AS) (m:Cu):List DK:=DS D J m.sp m.att m.ws 0
def NS (m:Cu) (p:Int):Prop:=0≤p∧p<m.ws.length
instance (m:Cu) (p:Int):Decidable (NS m p):=by unfold NS;infer_instance
theorem T8 {chunk att:Int} (h:1≤chunk∧chunk≤7):1≤Ew chunk att∧Ew chunk att≤8:=by
 unfold Ew;split<;>omega
theorem Hl:∀ l:List UInt8,l.flatMap E8=l.map fun b=>Value.int .u8 b.toNat
 |[]=>rfl
 |x::l=>by rw [List.flatMap_cons,Hl l];rfl
section
variable {P:Program} {ops:Array Oper} {Q:Exit→Act→World→Prop} {rest:List Oper} {n:Nat} {l:BQ} {w0 w:World} {F F0:AU} {o:Oper} {v:Value} {As Rs:List SP} {x y z:Operand} {t:TypeId}
section
variable {α:Type} {enc:α→List Value} {sz:Nat} {hp:0<sz} {hl:∀ x,(enc x).length=sz} {h1:∀ x,∀ c∈enc x,c.oneCell'=true}
theorem bS {e bytes:Nat} {b bt:Nat} {xs ys:List α} {B:Option Addr} {m c c2:Nat} (hg:gd ops l o=some true) (hd:C0 n o.dst=true) (ho:o.op=.call { callee:=.builtin .copy,args:=#[x,y],argTypes:=#[t,t] }) (hs:Dn P t=some (e,sz,bytes))
  (hx:ev l x=some (.slice (some ⟨b,0,none⟩) m c)) (hy:ev l y=some (.slice B m c2)) (H:Hd w0 F0 w (IQ enc b bt xs::As) Rs) (hc:xs.length=c) (hmc:m≤c)
  (hn:∀ F,(∀ A∈As,A.P w F)→(∀ R∈Rs,R.P w F)→(Ae (flat enc sz hp hl h1) (.slice B m c2) ys).P w F)
  (h:∀ w',Hd w0 F0 w' (IQ enc b bt (ys++xs.drop m)::As) Rs→WL P ops Q rest n (CH l o.dst (.int .i64 (m:Int))) w'):WL P ops Q (o::rest) n l w:=by
 obtain ⟨F,hF1,hF2⟩:∃ F,(∀ A∈As,A.P w F)∧(∀ R∈Rs,R.P w F):=H.read fun F a r=>⟨F,fun A hA=>a A (List.mem_cons_of_mem _ hA),r⟩
 obtain ⟨hyl,_,_,news,hnr,hnR⟩:Nu (flat enc sz hp hl h1) w F ys B m c2:=by
  obtain ⟨A',n',c',e',h'⟩:=hn F hF1 hF2
  cases e'
  exact h'
 have hnl:news.length=m*sz:=by rw [hnR.len,hyl];rfl
 have hm0:B=none→m=0:=by
  intro hB
  rcases hnr.2 with rfl|⟨b,off,C,t',fr,e',_⟩
  ·have:m*sz=0:=by rw [←hnl];rfl
   exact (Nat.mul_eq_zero.1 this).resolve_right (by omega)
  ·rw [hB] at e';cases e'
 obtain ⟨hu,i,hi,hi1,hi2⟩:=FE hs
 have hfc:=LY (P:=P) (c:=c2) hnr hnl hm0
 have hnews:news=ys.flatMap enc:=Bc.flat_eq.1 hnR
 obtain ⟨F1,hb⟩:∃ F,(IQ enc b bt xs).P w F:=H.fact (List.mem_cons_self ..) fun F hb=>⟨F,hb⟩
 have hfit:0+0+news.length≤(xs.flatMap enc).length:=by rw [hnl,GU hl,Nat.add_zero,Nat.zero_add];exact Nat.mul_le_mul_right _ (by omega)
 obtain ⟨w',hr,_,_⟩:=JH (P:=P) news (xs.flatMap enc) 0 0 w hb hfit hnR.one
 have hnew:EV (xs.flatMap enc) (0+0) news=(ys++xs.drop m).flatMap enc:=by
  rw [Nat.add_zero,Jy _ _ _ (by rw [Nat.zero_add] at hfit ⊢;simpa using hfit),hnews,List.take_zero,GU hl,hyl,Nat.zero_add,Kk hl]
  simp
 refine V hg hd (v:=.int .i64 (m:Int)) (w':=w') (fun a ha=>?_) (h w' (H.write fun F' hb'=>?_))
 ·simp [execOp,ho,resolve,ha.eval hx,ha.eval hy,invoke,builtin,Builtin.copy_,run_underlying hu,sizeOf,typeInfo,hi,hi1,Builtin.lenOf,hfc w rfl,hr,goInt]
 ·obtain ⟨w'',hr',h2,h3⟩:=JH (P:=P) news (xs.flatMap enc) 0 0 w hb' hfit hnR.one
  rw [hr] at hr'
  cases hr'
  refine ⟨?_,h3⟩
  show (blk b _ bt).P w' F'
  rw [←hnew]
  exact h2
end
theorem bP {e bytes:Nat} {zv u:Value} {xs:List UInt8} {s:ByteArray} {ts:TypeId}
  (hg:gd ops l o=some true) (hd:C0 n o.dst=true) (ho:o.op=.call { callee:=.builtin .append,args:=#[x,y],argTypes:=#[t,ts] }) (hs:Dn P t=some (e,1,bytes)) (hz:Dp P e=some zv) (hzs:zv.cells.size=1) (hb0:0<bytes) (hts:P.underlying ts=some .string)
  (hx:ev l x=some u) (hy:ev l y=some (.string s)) (H:Hd w0 F0 w (Y AP u xs::As) Rs) (hb:(xs.length+s.size)*bytes≤140737488355328)
  (h:∀ u' w',Hd w0 F0 w' (Y AP u' (xs++AA s)::As) Rs→WL P ops Q rest n (CH l o.dst u') w'):WL P ops Q (o::rest) n l w:=by
 obtain ⟨hu,i,hi,hi1,hi2⟩:=FE hs
 have hfc:∀ w':World,w'.heap=w.heap→(Builtin.firstCells 1 s.size (.string s)).run P w'=.ok ((AA s).flatMap E8).toArray w':=by
  intro w' _
  have e1:s.extract 0 s.size=s:=by simp
  simp only [Builtin.firstCells,e1,Sem.run_pure]
  rw [Hl]
  congr 1
  apply Array.ext'
  simp [AA]
 have hnl:((AA s).flatMap E8).length=s.size*1:=by rw [Hl,List.length_map,Gs,Nat.mul_one]
 have h1:∀ c∈(AA s).flatMap E8,c.oneCell'=true:=by
  rw [Hl]
  intro c hc
  obtain ⟨b,_,rfl⟩:=List.mem_map.1 hc
  rfl
 have key:∀ F1,(Y AP u xs).P w F1→(∀ k,F1 k→k<w.heap.size)→∃ A c A' c' w' F',u=.slice A xs.length c∧(Builtin.append_ #[t,ts] o.type #[u,.string s]).run P w=.ok (.slice A' (xs.length+s.size) c') w'∧(Y AP (.slice A' (xs.length+s.size) c') (xs++AA s)).P w' F'∧Cv F1 w w'∧(∀ k,F' k→k<w'.heap.size∧(F1 k∨w.heap.size≤k)):=by
  rintro F1 ⟨A,n',c,e',hxl,cs,G1,G2,g1,g2,gd,hr,hR⟩ hlt
  cases e'
  subst hxl
  obtain ⟨A',c',w',F',hrun,hrow,hupd,hF'⟩:=Nn (P:=P) (tx:=ts) (ty:=o.type) (x:=.string s) (m:=s.size) (news:=(AA s).flatMap E8) hs hz hzs hts (.inr rfl) hr (fun k hk=>hlt k (g1 k hk)) (by simp [Builtin.lenOf]) hfc hnl h1 hb0 hb
  refine ⟨A,c,A',c',w',F',rfl,hrun,?_,⟨hupd.os,hupd.tape,hupd.output,hupd.size,fun k hk hn'=>hupd.block k hk (fun q=>hn' (g1 k q))⟩,fun k hk=>⟨(hF' k hk).1,(hF' k hk).2.imp (g1 k) id⟩⟩
  exact ⟨A',_,c',rfl,by rw [List.length_append,Gs],cs++(AA s).flatMap E8,F',none_,fun _ q=>q,fun _ q=>q.elim,fun _ _ q=>q,hrow,CI.flatR (F:=none_) (Bc.flat_eq.2 (by rw [Bc.flat_eq.1 hR.toR];simp))⟩
 have hall:∃ F1,(Y AP u xs).P w F1∧∀ k,F1 k→k<w.heap.size:=by
  obtain ⟨F,G,⟨F1,F2,a1,a2,a3,a,s⟩,r,d,f,g,u⟩:=H
  exact ⟨F1,a,fun k hk=>(f k (a1 k hk)).1⟩
 obtain ⟨F1,hO,hlt⟩:=hall
 obtain ⟨A,c,A',c',w',F',hue,hrun,_,_,_⟩:=key F1 hO hlt
 refine V hg hd (v:=.slice A' (xs.length+s.size) c') (w':=w') (fun a ha=>?_) (h _ _ (H.grow fun F2 hO2 hlt2=>?_))
 ·simp [execOp,ho,resolve,ha.eval hx,ha.eval hy,invoke,builtin,hrun]
 ·obtain ⟨A3,c3,A4,c4,w4,F4,_,hrun4,h4,h5,h6⟩:=key F2 hO2 hlt2
  rw [hrun] at hrun4
  cases hrun4
  exact ⟨F4,h4,h5,h6⟩
theorem Sc {src dst e:TypeId} {s:ByteArray} (hg:gd ops l o=some true) (hd:C0 n o.dst=true) (ho:o.op=.convert src dst x) (hs:P.underlying src=some .string) (hd':P.underlying dst=some (.slice e)) (he:P.underlying e=some (.int .u8)) (hx:ev l x=some (.string s))
  (hb:s.size≤140737488355328) (H:Hd w0 F0 w As Rs)
  (h:∀ b c w',s.size≤c→c≤9223372036854775807→Hd w0 F0 w' As (Ae AP (.slice (some ⟨b,0,none⟩) s.size c) (AA s)::Rs)→WL P ops Q rest n (CH l o.dst (.slice (some ⟨b,0,none⟩) s.size c)) w'):WL P ops Q (o::rest) n l w:=by
 have hr:=run_bytes_of_string w src dst e s hs hd' he
 have hge:=grownCap_ge w s.size 0 e
 have hle:grownCap w s.size 0 e≤9223372036854775807:=by
  have:=grownCap_le_maxLen w s.size 0 e (by simp only [maxLen];omega)
  simpa [maxLen] using this
 generalize hc:grownCap w s.size 0 e=c at hr hge hle
 generalize hC:bytesRow s c=C at hr
 have hCl:C.toList.take s.size=(AA s).flatMap E8:=by
  rw [←hC,Hl]
  unfold bytesRow
  rw [Array.toList_append,List.take_append_of_le_length (by simp)]
  rw [List.take_of_length_le (by simp)]
  simp [AA]
 refine V hg hd (v:=.slice (some ⟨w.heap.size,0,none⟩) s.size c) (w':=w.drew.alloc (.cells C e (C.size,C.size+1))) (fun a ha=>?_) (h _ c _ hge hle (Hd.lend (A:=Ae AP (.slice (some ⟨w.heap.size,0,none⟩) s.size c) (AA s)) (H.new (F':=fun k=>k=w.heap.size) ?_ ?_ ?_) fun _ h=>h))
 ·simp [execOp,ho,ha.eval hx,hr]
 ·exact (Cv.alloc none_ w.drew _).trans (Cv.refl none_ _) (fun _ _ x=>x)|>fun u=>⟨u.os,u.tape,u.output,u.size,u.block⟩
 ·refine ⟨_,_,_,rfl,Gs s,hge,hle,(AA s).flatMap E8,⟨trivial,.inr ⟨w.heap.size,0,C,e,(C.size,C.size+1),rfl,rfl,?_,?_⟩⟩,Bc.flat_eq.2 rfl⟩
  ·show (w.heap.push _)[w.heap.size]?=_
   simp
  ·rw [List.drop_zero,show ((AA s).flatMap E8).length=s.size by rw [Hl,List.length_map,Gs]]
   exact hCl
 ·intro k hk
  subst hk
  simp
theorem RD {src dst e:TypeId} {A:Option Addr} {m c:Nat} {bs:List UInt8} (ho:o.op=.convert src dst x) (hs:P.underlying src=some (.slice e)) (he:P.underlying e=some (.int .u8)) (hd:P.underlying dst=some .string) (hx:ev l x=some (.slice A m c)) {r:ByteArray} (hr:DF bs=r) (h:(Ae AP (.slice A m c) bs).P w F):BL P n l w o (.string r) w:=by
 subst hr
 obtain ⟨A',c',e',_,_,_,cs,h4,h5⟩:=Nl h
 cases e'
 have hcs:cs=bs.flatMap E8:=Bc.flat_eq.1 h5
 intro a ha
 cases A with
 |none=>
  have:bs=[]:=by
   rcases h4.2 with h6|⟨b,off,C,t',fr,e',_⟩
   ·rw [hcs,Hl] at h6;simpa using h6
   ·cases e'
  subst this
  have:=run_convert_bytes_nil (P:=P) w src e hs he 0 c dst hd
  simp [execOp,ho,ha.eval hx,this]
  rfl
 |some ad=>
  have:=run_convert_bytes_back (P:=P) w src dst e ad c bs hs he hd (fun j hj=>by
   have hv:cs[j]?=some (.int .u8 (bs[j].toNat:Int)):=by rw [hcs,Hl,List.getElem?_map,List.getElem?_eq_getElem hj];rfl
   obtain ⟨b,off,e1,h6⟩:=h4.cell hv
   cases e1
   rw [EE]
   exact h6)
  simp [execOp,ho,ha.eval hx,this,DF]
theorem Hd.rd {p:Prop} (H:Hd w0 F0 w As Rs) {S:SP} (hS:∀ F,(∀ A∈As,A.P w F)→(∀ R∈Rs,R.P w F)→S.P w F) (h:∀ F,S.P w F→p):p:=H.read fun F a r=>h F (hS F a r)
theorem RE {tt e size bytes:TypeId} {A:Option Addr} {m c i' j' m':Nat} {k k':IntKind} {i j:Int} (ho:o.op=.slice tt x (some y) (some z) none) (hs:Dn P tt=some (e,size,bytes)) (hx:ev l x=some (.slice A m c)) (hy:ev l y=some (.int k i)) (hz:ev l z=some (.int k' j))
  (h0:0≤i) (h1:i≤j) (h2:j≤(c:Int)) (hi':i.toNat=i') (hj':j.toNat=j') (hm':j' - i'=m'):BL P n l w o (.slice (D1 A c i' size) m' (c - i')) w:=by
 intro a ha
 obtain ⟨hu,inf,hi,hzz,_⟩:=FE hs
 subst hi' hj' hm'
 have h3:0≤j:=by omega
 have h4:i≤max j 0:=by omega
 have hb:(Instr.sliceBounds true m c (some (.int k i)) (some (.int k' j)) none).run P w=.ok (i.toNat,j.toNat,c) w:=by
  simp [Instr.sliceBounds,Instr.sliceBound,asIntOf,h0,h2,h3,h4]
 unfold D1
 by_cases e1:c=i.toNat
 ·rw [e1] at hb
  cases A<;>simp [execOp,ho,ha.eval hx,ha.eval hy,ha.eval hz,Instr.sliceAt,Instr.slice,hb,run_underlying hu,sizeOf,typeInfo,hi,hzz,e1]
 ·cases A<;>simp [execOp,ho,ha.eval hx,ha.eval hy,ha.eval hz,Instr.sliceAt,Instr.slice,hb,run_underlying hu,sizeOf,typeInfo,hi,hzz,e1]
end
theorem Lf {α:Type} {d:Kd α} {w:World} {F:AU} {A:Option Addr} {m c:Nat} {xs:List α} (h:(Ae d (.slice A m c) xs).P w F) {i m':Nat} (hi:i+m'≤m):(Ae d (.slice (D1 A c i d.sz) m' (c - i)) ((xs.drop i).take m')).P w F:=bA (IS h (i:=i) (by omega)) (by omega)
theorem Vt:∀ x,(E8 x).length=1:=fun _=>rfl
/-! ### Numbers, byte by byte -/
theorem cD (n:Nat) {i:Nat} (h:i<8):((n:Nat):Int).fdiv (2^(min ((8:Int)*(7 - ((i:Nat):Int))).toNat IntKind.u64.bits))=((n / 256^(7 - i):Nat):Int):=by
 have e:(2:Int)^(min ((8:Int)*(7 - ((i:Nat):Int))).toNat IntKind.u64.bits)=((256^(7 - i):Nat):Int):=by
  match i,h with
  |0,_=>decide
  |1,_=>decide
  |2,_=>decide
  |3,_=>decide
  |4,_=>decide
  |5,_=>decide
  |6,_=>decide
  |7,_=>decide
 rw [e,Int.fdiv_eq_ediv_of_nonneg _ (Int.natCast_nonneg _),Int.natCast_ediv]
theorem fH (m:Nat):IntKind.u8.wrap ((m:Nat):Int)=((UInt8.ofNat m).toNat:Int):=by
 unfold IntKind.wrap
 simp [IntKind.bits,IntKind.signed,UInt8.toNat_ofNat']
theorem cC {m:Nat} (h:m<72057594037927936):IntKind.u64.wrap (((m:Nat):Int)*2^(min (8:Int).toNat IntKind.u64.bits))=((m*256:Nat):Int):=by
 have e:(2:Int)^(min (8:Int).toNat IntKind.u64.bits)=256:=by decide
 rw [e,F8 (by omega) (by omega)]
 omega
theorem YV {P:Program} {w:World} {m:Nat} (h:m<72057594037927936) (x:UInt8):(Op.intBits .or .u64 ((m*256:Nat):Int) ((x.toNat:Nat):Int)).run P w=.ok (.int .u64 ((m*256+x.toNat:Nat):Int)) w:=by
 have hx:=UInt8.toNat_lt x
 have h1:m*256|||x.toNat=m*256+x.toNat:=by
  have:=Nat.shiftLeft_add_eq_or_of_lt (b:=x.toNat) (i:=8) (by omega) m
  rw [Nat.shiftLeft_eq] at this
  exact this.symm
 have h2:(BitVec.ofInt 64 ((m*256:Nat):Int)|||BitVec.ofInt 64 ((x.toNat:Nat):Int)).toNat=m*256+x.toNat:=by
  rw [BitVec.toNat_or]
  simp only [BitVec.ofInt_natCast,BitVec.toNat_ofNat]
  rw [Nat.mod_eq_of_lt (by omega),Nat.mod_eq_of_lt (by omega),h1]
 unfold Op.intBits
 show (pure (Value.int .u64 (IntKind.u64.wrap ((BitVec.ofInt 64 ((m*256:Nat):Int)|||BitVec.ofInt 64 ((x.toNat:Nat):Int)).toNat:Nat))):Sem Value).run P w=_
 rw [h2,F8 (by omega) (by omega)]
 rfl
/-! ### What the program tells of bytes -/
def BU (b:List UInt8) (at_:Int):Int×Int×Bool:=match G4 b at_ with
 |some x=>(x.1,x.2,true)
 |none=>(0,0,false)
def Ax (b:List UInt8) (at_:Int):ByteArray×Int×Bool:=match JE b at_ with
 |some x=>(x.1,x.2,true)
 |none=>(⟨#[]⟩,0,false)
theorem IN {b:List UInt8} {at_:Int} (h:at_<0∨(b.length:Int)<at_∨(b.length:Int) - at_<8):BU b at_=(0,0,false):=by
 unfold BU G4;rw [if_pos h]
theorem Nc {b:List UInt8} {at_:Int} (h:¬ (at_<0∨(b.length:Int)<at_∨(b.length:Int) - at_<8)):BU b at_=(IntKind.i64.wrap (Fd ((b.drop at_.toNat).take 8):Nat),at_+8,true):=by
 unfold BU G4;rw [if_neg h]
theorem Ng {b:List UInt8} {at_:Int} (h:(BU b at_).2.2=false):Ax b at_=(⟨#[]⟩,0,false):=by
 unfold BU at h
 unfold Ax JE
 cases e:G4 b at_ with
 |none=>rfl
 |some x=>rw [e] at h;cases h
theorem K8 {b:List UInt8} {at_:Int} (h:(BU b at_).2.2=true):Ax b at_=if (BU b at_).1<0∨(b.length:Int) - (BU b at_).2.1<(BU b at_).1 then (⟨#[]⟩,0,false) else (DF ((b.drop (BU b at_).2.1.toNat).take (BU b at_).1.toNat),(BU b at_).2.1+(BU b at_).1,true):=by
 unfold BU at h ⊢
 unfold Ax JE
 cases e:G4 b at_ with
 |none=>rw [e] at h;cases h
 |some x=>
  dsimp only
  by_cases g:x.1<0∨(b.length:Int) - x.2<x.1
  ·rw [if_pos g,if_pos g]
  ·rw [if_neg g,if_neg g]
theorem Nb {b:List UInt8} {at_:Int} (h:(BU b at_).2.2=true):8≤(BU b at_).2.1∧(BU b at_).2.1≤(b.length:Int)∧(BU b at_).2.1=at_+8∧0≤at_:=by
 by_cases g:at_<0∨(b.length:Int)<at_∨(b.length:Int) - at_<8
 ·rw [IN g] at h;cases h
 ·rw [Nc g];dsimp only;omega
theorem Z1 {b:List UInt8} {at_:Int}: -9223372036854775808≤(BU b at_).1∧(BU b at_).1≤9223372036854775807:=by
 by_cases g:at_<0∨(b.length:Int)<at_∨(b.length:Int) - at_<8
 ·rw [IN g];decide
 ·rw [Nc g]
  dsimp only
  unfold IntKind.wrap
  simp [IntKind.bits,IntKind.signed]
  omega
theorem Ti (n:Nat) {i:Nat} (h:i<8):(B2 n)[i]?=some (UInt8.ofNat (n / 256^(7 - i))):=by
 unfold B2;rw [List.getElem?_map,List.getElem?_range h];rfl
theorem Tk (n:Nat) {i:Nat} (h:i<8):(B2 n).take (i+1)=(B2 n).take i++[UInt8.ofNat (n / 256^(7 - i))]:=El (Ti n h)
theorem Z0 {l:List UInt8} {i:Nat} {x:UInt8} (h:l[i]?=some x):Fd (l.take (i+1))=Fd (l.take i)*256+x.toNat:=by rw [El h,ZZ]
section
variable {w0 w:World} {F0:AU} {As Bs Rs:List SP} {A B:SP}
theorem Hd.exA {α:Sort _} {A:α→SP} (h:Hd w0 F0 w (ex A::As) Rs):∃ a,Hd w0 F0 w (A a::As) Rs:=by
 obtain ⟨F,G,⟨F1,F2,h1,h2,h3,⟨a,ha⟩,s⟩,r⟩:=h
 exact ⟨a,F,G,⟨F1,F2,h1,h2,h3,ha,s⟩,r⟩
theorem Hd.exI {α:Sort _} {A:α→SP} (a:α) (h:Hd w0 F0 w (A a::As) Rs):Hd w0 F0 w (ex A::As) Rs:=h.turn fun _ ha=>⟨a,ha⟩
theorem Hd.stA (h:Hd w0 F0 w (BV Bs::As) Rs):Hd w0 F0 w (Bs++As) Rs:=h.open_ fun _ h=>h
theorem Hd.stI (h:Hd w0 F0 w (Bs++As) Rs):Hd w0 F0 w (BV Bs::As) Rs:=h.shut fun _ h=>h
theorem Hd.puA {p:Prop} (h:Hd w0 F0 w (BT p::As) Rs):p∧Hd w0 F0 w As Rs:=⟨h.fact (List.mem_cons_self ..) fun _ h=>h,h.drop⟩
theorem Hd.puI {p:Prop} (hp:p) (h:Hd w0 F0 w As Rs):Hd w0 F0 w (BT p::As) Rs:=h.shut (Bs:=[]) fun _ _=>hp
def BK {α:Type} (f:α→SP) (l:List α):SP:=BV (l.map f)
theorem Hd.big0 {α:Type} (f:α→SP) (h:Hd w0 F0 w As Rs):Hd w0 F0 w (BK f []::As) Rs:=h.shut (Bs:=[]) fun _ _=>trivial
theorem Kg {α:Type}:∀ (l:List α) (i:Nat) {x:α},l[i]?=some x→l.Perm (x::l.eraseIdx i)
 |[],_,_,h=>by simp at h
 |y::l,0,x,h=>by
  obtain rfl:y=x:=by simpa using h
  exact List.Perm.refl _
 |y::l,i+1,x,h=>((Kg l i (by simpa using h)).cons y).trans (List.Perm.swap _ _ _)
theorem Hd.bigO {α:Type} {f:α→SP} {l:List α} {x:α} (i:Nat) (hx:l[i]?=some x) (h:Hd w0 F0 w (BK f l::As) Rs):Hd w0 F0 w (f x::BK f (l.eraseIdx i)::As) Rs:=by
 have h1:=h.stA.perm (((Kg l i hx).map f).append_right As)
 have h2:Hd w0 F0 w (((l.eraseIdx i).map f++As)++[f x]) Rs:=h1.perm (by rw [List.map_cons,List.cons_append];exact (List.perm_append_comm (l₁:=[f x])))
 have h3:Hd w0 F0 w ((l.eraseIdx i).map f++(As++[f x])) Rs:=by rw [←List.append_assoc];exact h2
 exact (show Hd w0 F0 w (BK f (l.eraseIdx i)::(As++[f x])) Rs from h3.stI).perm (List.perm_append_comm (l₁:=BK f (l.eraseIdx i)::As) (l₂:=[f x]))
theorem Hd.bigI {α:Type} {f:α→SP} {l:List α} {x:α} (i:Nat) (hi:i<l.length) (h:Hd w0 F0 w (f x::BK f (l.eraseIdx i)::As) Rs):Hd w0 F0 w (BK f (l.set i x)::As) Rs:=by
 have h1:Hd w0 F0 w (BK f (l.eraseIdx i)::(As++[f x])) Rs:=h.perm (List.perm_append_comm (l₁:=[f x]) (l₂:=BK f (l.eraseIdx i)::As))
 have h2:Hd w0 F0 w ((l.eraseIdx i).map f++As++[f x]) Rs:=by rw [List.append_assoc];exact h1.stA
 have h3:Hd w0 F0 w ((x::l.eraseIdx i).map f++As) Rs:=h2.perm (List.perm_append_comm (l₁:=(l.eraseIdx i).map f++As) (l₂:=[f x]))
 have hp:(l.set i x).Perm (x::l.eraseIdx i):=by
  have:=Kg (l.set i x) i (x:=x) (by rw [List.getElem?_set_self hi])
  rwa [List.eraseIdx_set_eq] at this
 exact (h3.perm ((hp.symm.map f).append_right As)).stI
theorem Hd.bigN {α:Type} {f:α→SP} {l:List α} {x:α} (h:Hd w0 F0 w (f x::BK f l::As) Rs):Hd w0 F0 w (BK f (l++[x])::As) Rs:=by
 have h1:Hd w0 F0 w (BK f l::(As++[f x])) Rs:=h.perm (List.perm_append_comm (l₁:=[f x]) (l₂:=BK f l::As))
 have h2:Hd w0 F0 w (l.map f++As++[f x]) Rs:=by rw [List.append_assoc];exact h1.stA
 have h3:Hd w0 F0 w ((x::l).map f++As) Rs:=h2.perm (List.perm_append_comm (l₁:=l.map f++As) (l₂:=[f x]))
 exact (h3.perm (((List.perm_append_comm (l₁:=[x]) (l₂:=l)).map f).append_right As)).stI
end
def OR (b:Nat):List Value:=[.pointer (some ⟨b,0,none⟩)]
def Ds:Kd Nat:=flat OR 1 (by omega) (fun _=>rfl) (fun _ c h=>by simp [OR] at h;subst h;rfl)
def Dj (t:Nat) (e:Nat×CZ):SP:=blk e.1 [.int .i64 e.2.c,.int .i64 e.2.s,.int .i64 e.2.e,.int .i64 e.2.x] t
def BE (ps:List Ap):ByteArray:=DF (D9 ps)
theorem IY (l:List UInt8):(DF l).size=l.length:=by simp [DF,ByteArray.size]
theorem KV {ps:List Ap} (h:∀ p∈ps,p.key.size≤100∧p.val.size≤100):(B9 ps).length≤ps.length*216:=by
 induction ps with
 |nil=>exact Nat.zero_le _
 |cons p ps ih=>
  have h1:=h p (List.mem_cons_self ..)
  have h2:=ih fun q hq=>h q (List.mem_cons_of_mem _ hq)
  have e:B9 (p::ps)=(Cr p.key++Cr p.val)++B9 ps:=by unfold B9;rw [List.flatMap_cons]
  rw [e,List.length_append,List.length_append,GK,GK,List.length_cons,Nat.succ_mul]
  omega
theorem Y6 {ps:List Ap} (h:∀ p∈ps,p.key.size≤100∧p.val.size≤100) (hl:ps.length≤1000):(BE ps).size≤300000:=by
 have:=KV h
 unfold BE
 rw [IY]
 unfold D9
 rw [List.length_append,EF]
 omega
theorem MY (ps:List Ap):AA (BE ps)=D9 ps:=Ox _
def D2 (ps:List Ap) (k:Nat):Nat:=8+(B9 (ps.take k)).length
theorem Y5 {ps:List Ap} {k:Nat} {p:Ap} (h:ps[k]?=some p):D2 ps (k+1)=D2 ps k+8+p.key.size+8+p.val.size:=by
 unfold D2
 rw [El h,MX,List.length_append,List.length_append,GK,GK]
 omega
theorem Y8 {ps:List Ap} (hl:ps.length<9223372036854775808):BU (D9 ps) 0=(((ps.length:Nat):Int),8,true):=by
 have h:=Nd (a:=[]) (c:=B9 ps) (n:=ps.length) (k:=0) hl rfl
 unfold BU D9
 have h2:G4 (B2 ps.length++B9 ps) 0=some (((ps.length:Nat):Int),((0+8:Nat):Int)):=h
 rw [h2]
 rfl
theorem Y7 {ps:List Ap} {k:Nat} {p:Ap} (h:ps[k]?=some p) (hk:p.key.size<9223372036854775808):Ax (D9 ps) (D2 ps k:Nat)=(p.key,((D2 ps k+8+p.key.size:Nat):Int),true):=by
 have e:D9 ps=(B2 ps.length++B9 (ps.take k))++(Cr p.key++(Cr p.val++B9 (ps.drop (k+1)))):=by unfold D9;rw [Rk h,List.append_assoc]
 have h1:=K9 (a:=B2 ps.length++B9 (ps.take k)) (c:=Cr p.val++B9 (ps.drop (k+1))) (s:=p.key) (k:=D2 ps k) hk (by rw [List.length_append,EF];rfl)
 unfold Ax
 rw [e,h1]
theorem Y9 {ps:List Ap} {k:Nat} {p:Ap} (h:ps[k]?=some p) (hk:p.val.size<9223372036854775808):Ax (D9 ps) ((D2 ps k+8+p.key.size:Nat):Int)=(p.val,((D2 ps (k+1):Nat):Int),true):=by
 have e:D9 ps=(B2 ps.length++B9 (ps.take k)++Cr p.key)++(Cr p.val++B9 (ps.drop (k+1))):=by unfold D9;rw [Rk h];simp only [List.append_assoc]
 have h1:=K9 (a:=B2 ps.length++B9 (ps.take k)++Cr p.key) (c:=B9 (ps.drop (k+1))) (s:=p.val) (k:=D2 ps k+8+p.key.size) hk (by rw [List.length_append,List.length_append,EF,GK];unfold D2;omega)
 unfold Ax
 rw [e,h1,Y5 h]
theorem Y4 {ps:List Ap} (h:∀ p∈ps,p.key.size≤100∧p.val.size≤100) (hl:ps.length≤1000) (i:Nat):D2 ps i≤300000:=by
 have h1:=KV (ps:=ps.take i) fun p hp=>h p (List.mem_of_mem_take hp)
 have h2:(ps.take i).length≤ps.length:=by rw [List.length_take];omega
 unfold D2
 omega
def Ft (D:By) (J:AS) (s:Nat) (att:Int) (k:Nat):List Int:=(List.range k).map fun (p:Nat)=>Fi ((DI D J s p).length:Nat) (Ew J.chunk att)
theorem TT (D:By) (J:AS) (s:Nat) (att:Int) (k:Nat):Ft D J s att (k+1)=Ft D J s att k++[Fi ((DI D J s k).length:Nat) (Ew J.chunk att)]:=by
 unfold Ft;rw [List.range_succ,List.map_append];rfl
theorem TR (D:By) (J:AS) (s:Nat) (att:Int) (k:Nat):(Ft D J s att k).length=k:=by simp [Ft]
theorem T3 {D:By} {J:AS} {s:Nat} {att:Int} (h:(AZ D J s).2=0):CU D J s att=Ft D J s att J.parts.toNat:=by
 unfold CU;rw [if_neg (fun g=>g h)];rfl
theorem T2 {D:By} {J:AS} {s:Nat} {att:Int} (h:(AZ D J s).2≠0):CU D J s att=[]:=by
 unfold CU;rw [if_pos h]
/-! ### Windows, in a row of pointers -/
theorem fC {ws:List (Nat×CZ)} {k:Nat} {e:Nat×CZ} (h:ws[k]?=some e):(ws.map Prod.snd)[k]?=some e.2:=by rw [List.getElem?_map,h];rfl
theorem fB {ws:List (Nat×CZ)} {k:Nat} {e:Nat×CZ} (h:ws[k]?=some e):ws.set k e=ws:=Lj h
theorem TH {n size q:Int} (h0:0≤q) (h1:q<Fi n size) (hs:1≤size):0≤q*size∧q*size≤n - 1:=by
 unfold Fi at h1
 by_cases h:n<1∨size<1
 ·rw [if_pos h] at h1;omega
 ·rw [if_neg h,Int.tdiv_eq_ediv_of_nonneg (by omega)] at h1
  exact ⟨Int.mul_nonneg h0 (by omega),(Int.le_ediv_iff_mul_le (by omega)).1 (by omega)⟩
theorem T6 {ps:List Ap} {size q:Int} {m k:Nat} (h0:0≤q) (h1:q<Fi ps.length size) (hs:1≤size) (hm:q*size=(m:Int)) (hk:min size (((ps.length - m:Nat):Int))=(k:Int)):Fu ps size q=(ps.drop m).take k:=by
 unfold Fu
 rw [if_neg (by omega),hm,Int.toNat_natCast]
 refine (List.take_eq_take_iff).2 ?_
 rw [List.length_drop]
 omega
theorem OJ {ps:List Ap} {size q:Int} (h:q<0∨Fi ps.length size≤q):Fu ps size q=[]:=if_pos h
theorem dG {n size:Int} (h:0≤n) (hs:1≤size):0≤n.tdiv size∧n.tdiv size≤n:=by
 rw [Int.tdiv_eq_ediv_of_nonneg h]
 exact ⟨Int.ediv_nonneg h (by omega),Int.ediv_le_self _ h⟩
/-! ### What is pushed, window by window -/
theorem Rz (D:By) (J:AS) (s:Nat) (att:Int):∀ (a b:List CZ) (p:Nat),DS D J s att (a++b) p=DS D J s att a p++DS D J s att b (p+a.length)
 |[],b,p=>rfl
 |w::a,b,p=>by
  show Et D J s att w p++DS D J s att (a++b) (p+1)=Et D J s att w p++DS D J s att a (p+1)++_
  rw [Rz D J s att a b (p+1),List.append_assoc,List.length_cons,show p+1+a.length=p+(a.length+1) by omega]
theorem Zo {D:By} {J:AS} {s:Nat} {att:Int} {ws:List CZ} {k:Nat} {w:CZ} (h:ws[k]?=some w):DS D J s att (ws.take (k+1)) 0=DS D J s att (ws.take k) 0++Et D J s att w k:=by
 rw [El h,Rz,List.length_take,Nat.zero_add,Nat.min_eq_left (Nat.le_of_lt (KF h))]
 show _++(Et D J s att w k++[])=_
 rw [List.append_nil]
theorem M3 (D:By) (J:AS) (s:Nat) (att:Int) (w:CZ) (p:Nat):(Et D J s att w p).length=(DN w.c w.s w.x).length:=by unfold Et;rw [List.length_map]
theorem Zn {D:By} {J:AS} {s:Nat} {att:Int} {w:CZ} {p j:Nat} {q:Int} (h:(DN w.c w.s w.x)[j]?=some q):(Et D J s att w p).take (j+1)=(Et D J s att w p).take j++[⟨2,s,att,p,q,0,0,0,[],Dq D J s att p q⟩]:=
 El (by unfold Et;rw [List.getElem?_map,h];rfl)
theorem Re {w:CZ} (h:KT w):(DN w.c w.s w.x).length≤4:=by
 rw [YQ]
 have:=h.1
 have:=h.2.1
 omega
theorem KX {D:By} {J:AS} {s:Nat} {att:Int}:∀ {ws:List CZ} (p:Nat),(∀ w∈ws,KT w)→(DS D J s att ws p).length≤4*ws.length
 |[],_,_=>Nat.zero_le _
 |w::ws,p,h=>by
  have h1:=Re (h w (List.mem_cons_self ..))
  have h2:=KX (D:=D) (J:=J) (s:=s) (att:=att) (p+1) fun x hx=>h x (List.mem_cons_of_mem _ hx)
  show (Et D J s att w p++DS D J s att ws (p+1)).length≤_
  rw [List.length_append,M3,List.length_cons]
  omega
theorem OH {A B:AS} (h:Bj A B) (D:By) (s:Nat) (att:Int):CU D A s att=CU D B s att:=by
 unfold CU
 rw [h.split,h.parts,h.chunk]
 simp only [h.only]
theorem M6 {A B:AS} (h:Bj A B) (D:By) (s:Nat) (att:Int):∀ (ws:List CZ) (p:Nat),DS D A s att ws p=DS D B s att ws p
 |[],_=>rfl
 |w::ws,p=>by
  show Et D A s att w p++DS D A s att ws (p+1)=Et D B s att w p++DS D B s att ws (p+1)
  rw [M6 h D s att ws]
  unfold Et Dq
  rw [h.chunk]
  simp only [h.only]
theorem e_ {ws:List (Nat×CZ)} {k x:Nat} (h:(ws.map Prod.fst)[k]?=some x):∃ wd,ws[k]?=some (x,wd):=by
 rw [List.getElem?_map] at h
 obtain ⟨e,he,rfl⟩:=Option.map_eq_some_iff.1 h
 exact ⟨e.2,he⟩
def GE (M:Cu):Prop:=(∀ w∈M.ws,KT w)∧M.ws.length≤1000
theorem Hd.tellK {α:Type} {w0 w:World} {F0:AU} {K:Kd α} {v:Value} {xs ys:List α} {As Rs:List SP} (H:Hd w0 F0 w (Y K v xs::As) Rs) (e:ys=xs):Hd w0 F0 w (Y K v ys::As) Rs:=by rw [e];exact H
end Go.Proofs.YthhajcnbjiiclaaGreatDoor.X
