/- NodeLives: texts XF2, XL, XL3, XU, XProg, XV, XV2, XH, XT, XT2, XT3, XT4, XPair, XMer, XMer2, XProg2, XRec, XV3, XV4, XV5, XG, XE, XJob, XJob2, XCfg, XWin, XCode, XMpr, XByte, XOb, XMprI, joined by a program of ours; what nothing names is left out. -/
import Derived.Test.YthhajcnbjiiclaaGreatDoorNodeLivesQ1
import Derived.Sort.Row
import Derived.Sort.Grow
import Derived.Sort.EncStr
import Derived.Lib.SlicesCompact
import Derived.WideLaws
import Derived.Sort.Walk0
import Derived.Defers
import Derived.Lib.LaidTab
import Derived.Lib.ItoaNum
import Derived.Lib.AppendIntMem
import Derived.KernelRfl
set_option linter.unusedVariables false
set_option linter.unusedSimpArgs false
set_option maxHeartbeats 8000000
namespace Go.Proofs.YthhajcnbjiiclaaGreatDoor.X
open Go
theorem TE:Ei Tryz.prog 103=some (#[.slice none 0 0,.int .i64 0,.slice none 0 0,.slice none 0 0,.slice none 0 0,.int .i64 0,.int .i64 0,.int .i64 0,.slice none 0 0,.int .i64 0,.int .i64 0,.int .i64 0,.int .i64 0,.slice none 0 0,.map none,.slice none 0 0,.int .u32 0],#[(0,12),(12,1),(13,1),(14,1),(15,1),(16,1)]):=by kernel_rfl
theorem TF:Ei Tryz.prog 109=some (#[.slice none 0 0,.int .i64 0],#[(0,1),(1,1)]):=by kernel_rfl
theorem TG:Ei Tryz.prog 115=some (#[.slice none 0 0,.int .i64 0,.bool false],#[(0,1),(1,1),(2,1)]):=by kernel_rfl
theorem LV:Ei Tryz.prog 122=some (#[.string ⟨#[]⟩,.string ⟨#[]⟩],#[(0,1),(1,1)]):=by kernel_rfl
theorem TH:Ei Tryz.prog 124=some (#[.int .i64 0,.int .i64 0,.string ⟨#[]⟩],#[(0,1),(1,1),(2,1)]):=by kernel_rfl
theorem TI:Ei Tryz.prog 197=some (#[.slice none 0 0,.int .i64 0,.slice none 0 0,.slice none 0 0,.slice none 0 0,.int .i64 0,.int .i64 0,.int .i64 0,.slice none 0 0,.int .i64 0,.int .i64 0,.int .i64 0,.int .i64 0,.int .i64 0,.bool false,.slice none 0 0,.bool false,.int .i64 0,.int .i64 0,.bool false,.slice none 0 0,.bool false,.int .i64 0,.int .i64 0,.bool false,.slice none 0 0,.bool false,.int .i64 0,.int .i64 0,.bool false,.slice none 0 0,.bool false,.int .i64 0,.int .i64 0,.bool false,.slice none 0 0,.bool false,.int .i64 0,.int .i64 0,.bool false,.slice none 0 0,.bool false,.int .i64 0,.int .i64 0,.pointer none,.slice none 0 0],#[(0,12),(12,1),(13,1),(14,30),(44,1),(45,1)]):=by kernel_rfl
theorem TJ:Ei Tryz.prog 254=some (#[.int .i64 0,.int .i64 0,.int .i64 0,.int .i64 0,.int .i64 0,.int .i64 0,.int .i64 0,.int .i64 0],#[(0,8)]):=by kernel_rfl
theorem TK:Ei Tryz.prog 26=some (#[.slice none 0 0,.int .i64 0,.slice none 0 0,.slice none 0 0,.slice none 0 0,.int .i64 0,.int .i64 0,.int .i64 0,.slice none 0 0],#[(0,1),(1,1),(2,1),(3,1),(4,1),(5,1),(6,1),(7,1),(8,1)]):=by kernel_rfl
theorem TM:Ei Tryz.prog 275=some (#[.map none],#[(0,1)]):=by kernel_rfl
theorem TN:Ei Tryz.prog 28=some (#[.slice none 0 0,.int .i64 0,.slice none 0 0,.slice none 0 0,.slice none 0 0,.int .i64 0,.int .i64 0,.int .i64 0,.slice none 0 0,.int .i64 0,.int .i64 0,.int .i64 0],#[(0,9),(9,1),(10,1),(11,1)]):=by kernel_rfl
theorem TO:Ei Tryz.prog 305=some (#[.int .u32 0,.int .i32 0,.int .u32 0,.int .u32 0,.nilFunc,.string ⟨#[]⟩],#[(0,3),(3,1),(4,1),(5,1)]):=by kernel_rfl
theorem OD:Ei Tryz.prog 330=some (#[.bool false,.int .i64 0,.string ⟨#[]⟩],#[(0,1),(1,1),(2,1)]):=by kernel_rfl
theorem TP:Ei Tryz.prog 334=some (#[.slice none 0 0,.string ⟨#[]⟩,.slice none 0 0,.int .i64 0,.int .i64 0,.int .i64 0,.bool false,.slice none 0 0,.bool false,.int .i64 0,.string ⟨#[]⟩,.bool false,.int .i64 0,.string ⟨#[]⟩,.bool false,.int .i64 0,.string ⟨#[]⟩,.bool false,.int .i64 0,.string ⟨#[]⟩,.bool false,.int .i64 0,.string ⟨#[]⟩,.bool false,.int .i64 0,.string ⟨#[]⟩,.bool false,.int .i64 0,.string ⟨#[]⟩,.bool false,.int .i64 0,.string ⟨#[]⟩,.slice none 0 0,.map none],#[(0,1),(1,1),(2,1),(3,1),(4,1),(5,1),(6,1),(7,1),(8,24),(32,1),(33,1)]):=by kernel_rfl
theorem H0:Ei Tryz.prog 49=some (#[.int .i64 0,.int .i64 0,.int .i64 0,.int .i64 0,.int .i64 0,.int .i64 0,.int .i64 0,.int .i64 0,.slice none 0 0,.slice none 0 0],#[(0,1),(1,1),(2,1),(3,1),(4,1),(5,1),(6,1),(7,1),(8,1),(9,1)]):=by kernel_rfl
theorem Kl:Ei Tryz.prog 51=some (#[.int .i64 0,.int .i64 0,.int .i64 0,.int .i64 0,.int .i64 0,.int .i64 0,.int .i64 0,.int .i64 0,.int .i64 0,.int .i64 0,.slice none 0 0,.slice none 0 0],#[(0,1),(1,1),(2,10)]):=by kernel_rfl
theorem OE:Ei Tryz.prog 69=some (#[.int .i64 0,.int .i64 0,.int .i64 0,.int .i64 0,.int .i64 0,.slice none 0 0,.slice none 0 0],#[(0,1),(1,1),(2,1),(3,1),(4,1),(5,1),(6,1)]):=by kernel_rfl
theorem TQ:Ei Tryz.prog 91=some (#[.slice none 0 0,.int .i64 0,.slice none 0 0,.slice none 0 0,.slice none 0 0,.int .i64 0,.int .i64 0,.int .i64 0,.slice none 0 0,.int .i64 0,.int .i64 0,.int .i64 0,.int .i64 0,.bool false,.pointer none,.slice none 0 0],#[(0,12),(12,1),(13,1),(14,1),(15,1)]):=by kernel_rfl
theorem TR:Ei Tryz.prog 93=some (#[.slice none 0 0,.int .i64 0,.slice none 0 0,.slice none 0 0,.slice none 0 0,.int .i64 0,.int .i64 0,.int .i64 0,.slice none 0 0,.int .i64 0,.int .i64 0,.int .i64 0,.int .i64 0,.bool false,.pointer none,.slice none 0 0,.pointer none,.pointer none],#[(0,16),(16,1),(17,1)]):=by kernel_rfl
theorem T_:Tryz.prog.cellsOf 122=2:=by kernel_rfl
theorem Ua:Tryz.prog.cellsOf 124=3:=by kernel_rfl
theorem Ub:Tryz.prog.cellsOf 26=9:=by kernel_rfl
theorem Uc:Tryz.prog.cellsOf 28=12:=by kernel_rfl
theorem U8:HY Tryz.prog 122 [⟨ "Key",9,0,false, "", "",0⟩,⟨ "Value",9,1,false, "", "",16⟩]:=⟨by kernel_rfl,by kernel_rfl,by kernel_rfl⟩
theorem Pf:EX Tryz.prog 155 (Extern.Atomic.storeT):=⟨_,Tryz.func155,by kernel_rfl,by kernel_rfl,by kernel_rfl,by kernel_rfl⟩
theorem L8:EX Tryz.prog 187 (Extern.Atomic.loadT (.int .u32)):=⟨_,Tryz.func187,by kernel_rfl,by kernel_rfl,by kernel_rfl,by kernel_rfl⟩
theorem Vd:EX Tryz.prog 236 (Extern.Atomic.loadT (.int .i64)):=⟨_,Tryz.func236,by kernel_rfl,by kernel_rfl,by kernel_rfl,by kernel_rfl⟩
theorem Ve:EX Tryz.prog 237 (Extern.Atomic.casT (.int .i64)):=⟨_,Tryz.func237,by kernel_rfl,by kernel_rfl,by kernel_rfl,by kernel_rfl⟩
theorem Pg:EX Tryz.prog 291 (fun _=>do mark .disable;pure Extern.Race.none_):=⟨_,Tryz.func291,by kernel_rfl,by kernel_rfl,by kernel_rfl,by kernel_rfl⟩
theorem Vf:EX Tryz.prog 292 (Extern.Atomic.casT (.int .i32)):=⟨_,Tryz.func292,by kernel_rfl,by kernel_rfl,by kernel_rfl,by kernel_rfl⟩
theorem Ph:EX Tryz.prog 293 (fun _=>do mark .enable;pure Extern.Race.none_):=⟨_,Tryz.func293,by kernel_rfl,by kernel_rfl,by kernel_rfl,by kernel_rfl⟩
theorem Vg:EX Tryz.prog 294 (Extern.Race.marked .acquire):=⟨_,Tryz.func294,by kernel_rfl,by kernel_rfl,by kernel_rfl,by kernel_rfl⟩
theorem Vh:EX Tryz.prog 296 (Extern.Race.marked .releaseMerge):=⟨_,Tryz.func296,by kernel_rfl,by kernel_rfl,by kernel_rfl,by kernel_rfl⟩
theorem Vi:EX Tryz.prog 297 (Extern.Atomic.update (Op.intArith .add) .i32 true):=⟨_,Tryz.func297,by kernel_rfl,by kernel_rfl,by kernel_rfl,by kernel_rfl⟩
theorem Jr:Bm Tryz.prog 101 1=some 0:=by kernel_rfl
theorem Pq:Bm Tryz.prog 103 0=some 0:=by kernel_rfl
theorem KB:Bm Tryz.prog 103 1=some 12:=by kernel_rfl
theorem Mf:Bm Tryz.prog 103 2=some 13:=by kernel_rfl
theorem Pr:Bm Tryz.prog 103 3=some 14:=by kernel_rfl
theorem Vs:Bm Tryz.prog 103 4=some 15:=by kernel_rfl
theorem Vt:Bm Tryz.prog 103 5=some 16:=by kernel_rfl
theorem Hz:Bm Tryz.prog 109 0=some 0:=by kernel_rfl
theorem Js:Bm Tryz.prog 109 1=some 1:=by kernel_rfl
theorem Mg:Bm Tryz.prog 115 0=some 0:=by kernel_rfl
theorem H8:Bm Tryz.prog 115 1=some 1:=by kernel_rfl
theorem HA:Bm Tryz.prog 115 2=some 2:=by kernel_rfl
theorem F8:Bm Tryz.prog 122 0=some 0:=by kernel_rfl
theorem Jt:Bm Tryz.prog 122 1=some 1:=by kernel_rfl
theorem Dw:Bm Tryz.prog 124 0=some 0:=by kernel_rfl
theorem DH:Bm Tryz.prog 124 1=some 1:=by kernel_rfl
theorem Fy:Bm Tryz.prog 124 2=some 2:=by kernel_rfl
theorem Ps:Bm Tryz.prog 151 0=some 0:=by kernel_rfl
theorem Pt:Bm Tryz.prog 151 1=some 1:=by kernel_rfl
theorem KC:Bm Tryz.prog 151 2=some 2:=by kernel_rfl
theorem KD:Bm Tryz.prog 192 0=some 0:=by kernel_rfl
theorem Pu:Bm Tryz.prog 192 1=some 1:=by kernel_rfl
theorem H9:Bm Tryz.prog 197 0=some 0:=by kernel_rfl
theorem Pv:Bm Tryz.prog 197 1=some 12:=by kernel_rfl
theorem Pw:Bm Tryz.prog 197 2=some 13:=by kernel_rfl
theorem Ju:Bm Tryz.prog 197 3=some 14:=by kernel_rfl
theorem HB:Bm Tryz.prog 197 5=some 45:=by kernel_rfl
theorem Mh:Bm Tryz.prog 215 0=some 0:=by kernel_rfl
theorem Vu:Bm Tryz.prog 215 1=some 12:=by kernel_rfl
theorem Px:Bm Tryz.prog 215 2=some 13:=by kernel_rfl
theorem Vv:Bm Tryz.prog 215 3=some 14:=by kernel_rfl
theorem Py:Bm Tryz.prog 215 4=some 15:=by kernel_rfl
theorem Vw:Bm Tryz.prog 215 5=some 16:=by kernel_rfl
theorem Pz:Bm Tryz.prog 251 2=some 0:=by kernel_rfl
theorem Vx:Bm Tryz.prog 254 0=some 0:=by kernel_rfl
theorem EM:Bm Tryz.prog 26 0=some 0:=by kernel_rfl
theorem Jv:Bm Tryz.prog 26 1=some 1:=by kernel_rfl
theorem Jw:Bm Tryz.prog 26 2=some 2:=by kernel_rfl
theorem Jx:Bm Tryz.prog 26 3=some 3:=by kernel_rfl
theorem IH:Bm Tryz.prog 26 4=some 4:=by kernel_rfl
theorem PA:Bm Tryz.prog 26 5=some 5:=by kernel_rfl
theorem Vy:Bm Tryz.prog 26 6=some 6:=by kernel_rfl
theorem PB:Bm Tryz.prog 26 7=some 7:=by kernel_rfl
theorem II:Bm Tryz.prog 26 8=some 8:=by kernel_rfl
theorem Vz:Bm Tryz.prog 279 0=some 0:=by kernel_rfl
theorem VA:Bm Tryz.prog 279 1=some 1:=by kernel_rfl
theorem PC:Bm Tryz.prog 279 3=some 3:=by kernel_rfl
theorem DL:Bm Tryz.prog 28 0=some 0:=by kernel_rfl
theorem Jy:Bm Tryz.prog 28 1=some 9:=by kernel_rfl
theorem VB:Bm Tryz.prog 28 2=some 10:=by kernel_rfl
theorem VC:Bm Tryz.prog 28 3=some 11:=by kernel_rfl
theorem Mi:Bm Tryz.prog 299 0=some 0:=by kernel_rfl
theorem PD:Bm Tryz.prog 301 1=some 0:=by kernel_rfl
theorem PE:Bm Tryz.prog 303 1=some 0:=by kernel_rfl
theorem PF:Bm Tryz.prog 305 0=some 0:=by kernel_rfl
theorem PG:Bm Tryz.prog 305 1=some 3:=by kernel_rfl
theorem PH:Bm Tryz.prog 305 2=some 4:=by kernel_rfl
theorem Mj:Bm Tryz.prog 305 3=some 5:=by kernel_rfl
theorem H_:Bm Tryz.prog 330 0=some 0:=by kernel_rfl
theorem Fk:Bm Tryz.prog 330 1=some 1:=by kernel_rfl
theorem Gp:Bm Tryz.prog 330 2=some 2:=by kernel_rfl
theorem VD:Bm Tryz.prog 334 1=some 1:=by kernel_rfl
theorem Jz:Bm Tryz.prog 334 10=some 33:=by kernel_rfl
theorem KE:Bm Tryz.prog 334 2=some 2:=by kernel_rfl
theorem VE:Bm Tryz.prog 334 3=some 3:=by kernel_rfl
theorem IJ:Bm Tryz.prog 334 4=some 4:=by kernel_rfl
theorem Mk:Bm Tryz.prog 334 5=some 5:=by kernel_rfl
theorem PI:Bm Tryz.prog 334 6=some 6:=by kernel_rfl
theorem Ha:Bm Tryz.prog 334 7=some 7:=by kernel_rfl
theorem PJ:Bm Tryz.prog 334 8=some 8:=by kernel_rfl
theorem KF:Bm Tryz.prog 334 9=some 32:=by kernel_rfl
theorem PK:Bm Tryz.prog 49 0=some 0:=by kernel_rfl
theorem PL:Bm Tryz.prog 49 1=some 1:=by kernel_rfl
theorem PM:Bm Tryz.prog 49 2=some 2:=by kernel_rfl
theorem Ml:Bm Tryz.prog 49 3=some 3:=by kernel_rfl
theorem PN:Bm Tryz.prog 49 4=some 4:=by kernel_rfl
theorem PO:Bm Tryz.prog 49 5=some 5:=by kernel_rfl
theorem PP:Bm Tryz.prog 49 6=some 6:=by kernel_rfl
theorem PQ:Bm Tryz.prog 49 7=some 7:=by kernel_rfl
theorem PR:Bm Tryz.prog 49 8=some 8:=by kernel_rfl
theorem PS:Bm Tryz.prog 49 9=some 9:=by kernel_rfl
theorem Mm:Bm Tryz.prog 51 0=some 0:=by kernel_rfl
theorem PT:Bm Tryz.prog 51 1=some 1:=by kernel_rfl
theorem PU:Bm Tryz.prog 51 2=some 2:=by kernel_rfl
theorem Ec:Bm Tryz.prog 69 0=some 0:=by kernel_rfl
theorem GJ:Bm Tryz.prog 69 1=some 1:=by kernel_rfl
theorem Gq:Bm Tryz.prog 69 2=some 2:=by kernel_rfl
theorem Hb:Bm Tryz.prog 69 3=some 3:=by kernel_rfl
theorem HC:Bm Tryz.prog 69 4=some 4:=by kernel_rfl
theorem Gr:Bm Tryz.prog 69 5=some 5:=by kernel_rfl
theorem F9:Bm Tryz.prog 69 6=some 6:=by kernel_rfl
theorem VF:Bm Tryz.prog 91 0=some 0:=by kernel_rfl
theorem Mn:Bm Tryz.prog 91 1=some 12:=by kernel_rfl
theorem JA:Bm Tryz.prog 91 2=some 13:=by kernel_rfl
theorem Ia:Bm Tryz.prog 91 3=some 14:=by kernel_rfl
theorem Ib:Bm Tryz.prog 91 4=some 15:=by kernel_rfl
theorem ED:Bm Tryz.prog 93 0=some 0:=by kernel_rfl
theorem PV:Bm Tryz.prog 93 1=some 16:=by kernel_rfl
theorem Mo:Bm Tryz.prog 93 2=some 17:=by kernel_rfl
theorem JC:(Tryz.prog.info? 192).map (·.size)=some 5:=by kernel_rfl
theorem Wk:(Tryz.prog.info? 251).map (·.size)=some 1:=by kernel_rfl
theorem Qh:(Tryz.prog.info? 330).map (·.size)=some 3:=by kernel_rfl
theorem MA:AK Tryz.prog 10:=AM Tryz.func10 rfl rfl
theorem MB:AK Tryz.prog 100:=AM Tryz.func100 rfl rfl
theorem KG:AK Tryz.prog 101:=AM Tryz.func101 rfl rfl
theorem Qj:AK Tryz.prog 102:=AM Tryz.func102 rfl rfl
theorem Wt:AK Tryz.prog 103:=AM Tryz.func103 rfl rfl
theorem Wu:AK Tryz.prog 104:=AM Tryz.func104 rfl rfl
theorem JD:AK Tryz.prog 105:=AM Tryz.func105 rfl rfl
theorem Wv:AK Tryz.prog 106:=AM Tryz.func106 rfl rfl
theorem Qk:AK Tryz.prog 11:=AM Tryz.func11 rfl rfl
theorem Ql:AK Tryz.prog 12:=AM Tryz.func12 rfl rfl
theorem Ww:AK Tryz.prog 123:=AM Tryz.func123 rfl rfl
theorem Wx:AK Tryz.prog 124:=AM Tryz.func124 rfl rfl
theorem Qm:AK Tryz.prog 125:=AM Tryz.func125 rfl rfl
theorem Wy:AK Tryz.prog 126:=AM Tryz.func126 rfl rfl
theorem Wz:AK Tryz.prog 127:=AM Tryz.func127 rfl rfl
theorem WA:AK Tryz.prog 128:=AM Tryz.func128 rfl rfl
theorem MC:AK Tryz.prog 13:=AM Tryz.func13 rfl rfl
theorem MD:AK Tryz.prog 130:=AM Tryz.func130 rfl rfl
theorem WB:AK Tryz.prog 131:=AM Tryz.func131 rfl rfl
theorem ME:AK Tryz.prog 132:=AM Tryz.func132 rfl rfl
theorem WE:AK Tryz.prog 133:=AM Tryz.func133 rfl rfl
theorem MF:AK Tryz.prog 135:=AM Tryz.func135 rfl rfl
theorem Qn:AK Tryz.prog 136:=AM Tryz.func136 rfl rfl
theorem MG:AK Tryz.prog 137:=AM Tryz.func137 rfl rfl
theorem WF:AK Tryz.prog 138:=AM Tryz.func138 rfl rfl
theorem WH:AK Tryz.prog 139:=AM Tryz.func139 rfl rfl
theorem Qo:AK Tryz.prog 14:=AM Tryz.func14 rfl rfl
theorem Qp:AK Tryz.prog 140:=AM Tryz.func140 rfl rfl
theorem WI:AK Tryz.prog 141:=AM Tryz.func141 rfl rfl
theorem WJ:AK Tryz.prog 142:=AM Tryz.func142 rfl rfl
theorem WK:AK Tryz.prog 143:=AM Tryz.func143 rfl rfl
theorem WM:AK Tryz.prog 144:=AM Tryz.func144 rfl rfl
theorem WN:AK Tryz.prog 147:=AM Tryz.func147 rfl rfl
theorem Qq:AK Tryz.prog 15:=AM Tryz.func15 rfl rfl
theorem Qr:AK Tryz.prog 150:=AM Tryz.func150 rfl rfl
theorem Qs:AK Tryz.prog 156:=AM Tryz.func156 rfl rfl
theorem IN:AK Tryz.prog 157:=AM Tryz.func157 rfl rfl
theorem WO:AK Tryz.prog 158:=AM Tryz.func158 rfl rfl
theorem Qt:AK Tryz.prog 16:=AM Tryz.func16 rfl rfl
theorem Qu:AK Tryz.prog 17:=AM Tryz.func17 rfl rfl
theorem WP:AK Tryz.prog 183:=AM Tryz.func183 rfl rfl
theorem WR:AK Tryz.prog 184:=AM Tryz.func184 rfl rfl
theorem WS:AK Tryz.prog 185:=AM Tryz.func185 rfl rfl
theorem KH:AK Tryz.prog 186:=AM Tryz.func186 rfl rfl
theorem Qv:AK Tryz.prog 188:=AM Tryz.func188 rfl rfl
theorem Qw:AK Tryz.prog 189:=AM Tryz.func189 rfl rfl
theorem Qx:AK Tryz.prog 190:=AM Tryz.func190 rfl rfl
theorem KI:AK Tryz.prog 191:=AM Tryz.func191 rfl rfl
theorem WT:AK Tryz.prog 192:=AM Tryz.func192 rfl rfl
theorem WV:AK Tryz.prog 193:=AM Tryz.func193 rfl rfl
theorem WW:AK Tryz.prog 194:=AM Tryz.func194 rfl rfl
theorem WX:AK Tryz.prog 195:=AM Tryz.func195 rfl rfl
theorem WY:AK Tryz.prog 196:=AM Tryz.func196 rfl rfl
theorem WZ:AK Tryz.prog 197:=AM Tryz.func197 rfl rfl
theorem W0:AK Tryz.prog 198:=AM Tryz.func198 rfl rfl
theorem W4:AK Tryz.prog 20:=AM Tryz.func20 rfl rfl
theorem W5:AK Tryz.prog 200:=AM Tryz.func200 rfl rfl
theorem Qy:AK Tryz.prog 22:=AM Tryz.func22 rfl rfl
theorem W6:AK Tryz.prog 229:=AM Tryz.func229 rfl rfl
theorem W7:AK Tryz.prog 23:=AM Tryz.func23 rfl rfl
theorem W8:AK Tryz.prog 230:=AM Tryz.func230 rfl rfl
theorem W9:AK Tryz.prog 231:=AM Tryz.func231 rfl rfl
theorem Qz:AK Tryz.prog 232:=AM Tryz.func232 rfl rfl
theorem W_:AK Tryz.prog 234:=AM Tryz.func234 rfl rfl
theorem Xa:AK Tryz.prog 235:=AM Tryz.func235 rfl rfl
theorem MH:AK Tryz.prog 24:=AM Tryz.func24 rfl rfl
theorem Xb:AK Tryz.prog 25:=AM Tryz.func25 rfl rfl
theorem Xc:AK Tryz.prog 251:=AM Tryz.func251 rfl rfl
theorem Xd:AK Tryz.prog 252:=AM Tryz.func252 rfl rfl
theorem Xe:AK Tryz.prog 253:=AM Tryz.func253 rfl rfl
theorem Xf:AK Tryz.prog 254:=AM Tryz.func254 rfl rfl
theorem Xg:AK Tryz.prog 255:=AM Tryz.func255 rfl rfl
theorem QA:AK Tryz.prog 256:=AM Tryz.func256 rfl rfl
theorem Xh:AK Tryz.prog 257:=AM Tryz.func257 rfl rfl
theorem Xi:AK Tryz.prog 26:=AM Tryz.func26 rfl rfl
theorem Xj:AK Tryz.prog 264:=AM Tryz.func264 rfl rfl
theorem Xk:AK Tryz.prog 267:=AM Tryz.func267 rfl rfl
theorem QB:AK Tryz.prog 268:=AM Tryz.func268 rfl rfl
theorem Xl:AK Tryz.prog 269:=AM Tryz.func269 rfl rfl
theorem Xm:AK Tryz.prog 27:=AM Tryz.func27 rfl rfl
theorem Iq9:AK Tryz.prog 270:=AM Tryz.func270 rfl rfl
theorem Xn:AK Tryz.prog 271:=AM Tryz.func271 rfl rfl
theorem Xo:AK Tryz.prog 272:=AM Tryz.func272 rfl rfl
theorem Xp:AK Tryz.prog 273:=AM Tryz.func273 rfl rfl
theorem Xq:AK Tryz.prog 281:=AM Tryz.func281 rfl rfl
theorem Xr:AK Tryz.prog 282:=AM Tryz.func282 rfl rfl
theorem QC:AK Tryz.prog 283:=AM Tryz.func283 rfl rfl
theorem Xs:AK Tryz.prog 284:=AM Tryz.func284 rfl rfl
theorem Xt:AK Tryz.prog 285:=AM Tryz.func285 rfl rfl
theorem Xu:AK Tryz.prog 286:=AM Tryz.func286 rfl rfl
theorem Xv:AK Tryz.prog 287:=AM Tryz.func287 rfl rfl
theorem Xw:AK Tryz.prog 288:=AM Tryz.func288 rfl rfl
theorem Xx:AK Tryz.prog 299:=AM Tryz.func299 rfl rfl
theorem Xy:AK Tryz.prog 30:=AM Tryz.func30 rfl rfl
theorem Xz:AK Tryz.prog 300:=AM Tryz.func300 rfl rfl
theorem Eu:AK Tryz.prog 301:=AM Tryz.func301 rfl rfl
theorem Gt:AK Tryz.prog 302:=AM Tryz.func302 rfl rfl
theorem IP:AK Tryz.prog 303:=AM Tryz.func303 rfl rfl
theorem XA:AK Tryz.prog 304:=AM Tryz.func304 rfl rfl
theorem KJ:AK Tryz.prog 305:=AM Tryz.func305 rfl rfl
theorem QD:AK Tryz.prog 306:=AM Tryz.func306 rfl rfl
theorem XB:AK Tryz.prog 307:=AM Tryz.func307 rfl rfl
theorem XC:AK Tryz.prog 308:=AM Tryz.func308 rfl rfl
theorem XD:AK Tryz.prog 309:=AM Tryz.func309 rfl rfl
theorem XE:AK Tryz.prog 310:=AM Tryz.func310 rfl rfl
theorem XF:AK Tryz.prog 311:=AM Tryz.func311 rfl rfl
theorem XG:AK Tryz.prog 312:=AM Tryz.func312 rfl rfl
theorem QE:AK Tryz.prog 313:=AM Tryz.func313 rfl rfl
theorem IQ:AK Tryz.prog 314:=AM Tryz.func314 rfl rfl
theorem QF:AK Tryz.prog 315:=AM Tryz.func315 rfl rfl
theorem XH:AK Tryz.prog 333:=AM Tryz.func333 rfl rfl
theorem XI:AK Tryz.prog 334:=AM Tryz.func334 rfl rfl
theorem QG:AK Tryz.prog 335:=AM Tryz.func335 rfl rfl
theorem QH:AK Tryz.prog 336:=AM Tryz.func336 rfl rfl
theorem QI:AK Tryz.prog 337:=AM Tryz.func337 rfl rfl
theorem XJ:AK Tryz.prog 34:=AM Tryz.func34 rfl rfl
theorem XK:AK Tryz.prog 350:=AM Tryz.func350 rfl rfl
theorem MI:AK Tryz.prog 353:=AM Tryz.func353 rfl rfl
theorem XL:AK Tryz.prog 36:=AM Tryz.func36 rfl rfl
theorem IR:AK Tryz.prog 37:=AM Tryz.func37 rfl rfl
theorem XM:AK Tryz.prog 38:=AM Tryz.func38 rfl rfl
theorem GM:AK Tryz.prog 39:=AM Tryz.func39 rfl rfl
theorem XN:AK Tryz.prog 40:=AM Tryz.func40 rfl rfl
theorem XO:AK Tryz.prog 41:=AM Tryz.func41 rfl rfl
theorem MJ:AK Tryz.prog 42:=AM Tryz.func42 rfl rfl
theorem XP:AK Tryz.prog 43:=AM Tryz.func43 rfl rfl
theorem QJ:AK Tryz.prog 44:=AM Tryz.func44 rfl rfl
theorem XQ:AK Tryz.prog 45:=AM Tryz.func45 rfl rfl
theorem QK:AK Tryz.prog 46:=AM Tryz.func46 rfl rfl
theorem XR:AK Tryz.prog 47:=AM Tryz.func47 rfl rfl
theorem XS:AK Tryz.prog 50:=AM Tryz.func50 rfl rfl
theorem XT:AK Tryz.prog 53:=AM Tryz.func53 rfl rfl
theorem KK:AK Tryz.prog 54:=AM Tryz.func54 rfl rfl
theorem XU:AK Tryz.prog 55:=AM Tryz.func55 rfl rfl
theorem QL:AK Tryz.prog 56:=AM Tryz.func56 rfl rfl
theorem QM:AK Tryz.prog 67:=AM Tryz.func67 rfl rfl
theorem QN:AK Tryz.prog 68:=AM Tryz.func68 rfl rfl
theorem MK:AK Tryz.prog 69:=AM Tryz.func69 rfl rfl
theorem XV:AK Tryz.prog 70:=AM Tryz.func70 rfl rfl
theorem XW:AK Tryz.prog 71:=AM Tryz.func71 rfl rfl
theorem KL:AK Tryz.prog 72:=AM Tryz.func72 rfl rfl
theorem ML:AK Tryz.prog 73:=AM Tryz.func73 rfl rfl
theorem JE:AK Tryz.prog 74:=AM Tryz.func74 rfl rfl
theorem MM:AK Tryz.prog 75:=AM Tryz.func75 rfl rfl
theorem XX:AK Tryz.prog 77:=AM Tryz.func77 rfl rfl
theorem XY:AK Tryz.prog 78:=AM Tryz.func78 rfl rfl
theorem XZ:AK Tryz.prog 79:=AM Tryz.func79 rfl rfl
theorem X0:AK Tryz.prog 8:=AM Tryz.func8 rfl rfl
theorem X1:AK Tryz.prog 82:=AM Tryz.func82 rfl rfl
theorem X2:AK Tryz.prog 83:=AM Tryz.func83 rfl rfl
theorem X3:AK Tryz.prog 84:=AM Tryz.func84 rfl rfl
theorem QO:AK Tryz.prog 85:=AM Tryz.func85 rfl rfl
theorem KM:AK Tryz.prog 9:=AM Tryz.func9 rfl rfl
theorem QP:AK Tryz.prog 96:=AM Tryz.func96 rfl rfl
theorem MN:AK Tryz.prog 97:=AM Tryz.func97 rfl rfl
theorem HF:AK Tryz.prog 98:=AM Tryz.func98 rfl rfl
theorem QQ:AK Tryz.prog 99:=AM Tryz.func99 rfl rfl
theorem mo:Tryz.prog.follows .mixedOrders=true:=by kernel_rfl
theorem RD:(Tryz.prog.info? 299).map (fun i=>decide (i.size=0))=some false:=by kernel_rfl
theorem NI:Ds Tryz.prog 187=some (49,10,112):=by kernel_rfl
theorem Gf:Ds Tryz.prog 195=some (24,1,24):=by kernel_rfl
theorem dA:Ds Tryz.prog 213=some (216,1,8):=by kernel_rfl
theorem Gy:Ds Tryz.prog 22=some (47,1,24):=by kernel_rfl
theorem HS:Ds Tryz.prog 23=some (124,3,32):=by kernel_rfl
theorem DE:Ds Tryz.prog 24=some (3,1,8):=by kernel_rfl
theorem Io:Ds Tryz.prog 314=some (9,1,16):=by kernel_rfl
theorem Ck:Ds Tryz.prog 328=some (330,3,32):=by kernel_rfl
theorem EG:Ds Tryz.prog 40=some (51,12,128):=by kernel_rfl
theorem BM:Ds Tryz.prog 47=some (122,2,32):=by kernel_rfl
theorem Gg:Ds Tryz.prog 57=some (5,1,1):=by kernel_rfl
theorem I8:Ds Tryz.prog 59=some (69,7,88):=by kernel_rfl
theorem dB:Ds Tryz.prog 96=some (151,3,24):=by kernel_rfl
theorem dM:GW Tryz.prog 122=some [(9,0,1),(9,1,1)]:=by kernel_rfl
theorem dN:GW Tryz.prog 124=some [(3,0,1),(3,1,1),(9,2,1)]:=by kernel_rfl
theorem dO:GW Tryz.prog 26=some [(22,0,1),(3,1,1),(23,2,1),(23,3,1),(23,4,1),(3,5,1),(3,6,1),(3,7,1),(24,8,1)]:=by kernel_rfl
theorem dP:GW Tryz.prog 28=some [(26,0,9),(3,9,1),(3,10,1),(3,11,1)]:=by kernel_rfl
theorem CF:Cp Tryz.prog 122=some (true,2):=by kernel_rfl
theorem Ja:Cp Tryz.prog 124=some (true,3):=by kernel_rfl
theorem LF:Cp Tryz.prog 149=some (false,1):=by kernel_rfl
theorem NS:Cp Tryz.prog 151=some (true,3):=by kernel_rfl
theorem S3:Cp Tryz.prog 166=some (false,1):=by kernel_rfl
theorem Gi:Cp Tryz.prog 195=some (false,1):=by kernel_rfl
theorem Eg:Cp Tryz.prog 2=some (false,1):=by kernel_rfl
theorem eJ:Cp Tryz.prog 21=some (false,1):=by kernel_rfl
theorem FT:Cp Tryz.prog 212=some (false,1):=by kernel_rfl
theorem eK:Cp Tryz.prog 213=some (false,1):=by kernel_rfl
theorem eL:Cp Tryz.prog 216=some (false,1):=by kernel_rfl
theorem EW:Cp Tryz.prog 22=some (false,1):=by kernel_rfl
theorem E8:Cp Tryz.prog 23=some (false,1):=by kernel_rfl
theorem DY:Cp Tryz.prog 24=some (false,1):=by kernel_rfl
theorem S4:Cp Tryz.prog 26=some (true,9):=by kernel_rfl
theorem EH:Cp Tryz.prog 28=some (true,12):=by kernel_rfl
theorem AE:Cp Tryz.prog 3=some (false,1):=by kernel_rfl
theorem LG:Cp Tryz.prog 314=some (false,1):=by kernel_rfl
theorem Hn:Cp Tryz.prog 328=some (false,1):=by kernel_rfl
theorem Dz:Cp Tryz.prog 330=some (true,3):=by kernel_rfl
theorem Kb:Cp Tryz.prog 332=some (false,1):=by kernel_rfl
theorem NT:Cp Tryz.prog 37=some (false,1):=by kernel_rfl
theorem DP:Cp Tryz.prog 4=some (false,1):=by kernel_rfl
theorem HU:Cp Tryz.prog 40=some (false,1):=by kernel_rfl
theorem DJ:Cp Tryz.prog 47=some (false,1):=by kernel_rfl
theorem FU:Cp Tryz.prog 49=some (true,10):=by kernel_rfl
theorem eM:Cp Tryz.prog 5=some (false,1):=by kernel_rfl
theorem NU:Cp Tryz.prog 51=some (true,12):=by kernel_rfl
theorem Ir:Cp Tryz.prog 55=some (false,1):=by kernel_rfl
theorem GB:Cp Tryz.prog 57=some (false,1):=by kernel_rfl
theorem E9:Cp Tryz.prog 69=some (true,7):=by kernel_rfl
theorem S5:Cp Tryz.prog 80=some (false,1):=by kernel_rfl
theorem Cl:Cp Tryz.prog 9=some (false,1):=by kernel_rfl
theorem S6:Cp Tryz.prog 95=some (false,1):=by kernel_rfl
theorem eN:Cp Tryz.prog 96=some (false,1):=by kernel_rfl
theorem S8:Tryz.prog.underlying 382=some (.interface (Tryz.prog.methodsAt 382)):=by kernel_rfl
theorem eQ:Tryz.prog.underlying 141=some (.pointer 254):=by kernel_rfl
theorem LH:Tryz.prog.underlying 149=some (.pointer 215):=by kernel_rfl
theorem Ke:Tryz.prog.underlying 153=some (.pointer 197):=by kernel_rfl
theorem eR:Tryz.prog.underlying 166=some (.func #[] #[9] false):=by kernel_rfl
theorem eS:Tryz.prog.underlying 187=some (.slice 49):=by kernel_rfl
theorem Kf:Tryz.prog.underlying 193=some (.array 6 192):=by kernel_rfl
theorem eT:Tryz.prog.underlying 199=some (.pointer 251):=by kernel_rfl
theorem Jb:Tryz.prog.underlying 2=some (.int .i64):=by kernel_rfl
theorem S9:Tryz.prog.underlying 208=some (.pointer 192):=by kernel_rfl
theorem LI:Tryz.prog.underlying 212=some (.pointer 305):=by kernel_rfl
theorem eU:Tryz.prog.underlying 213=some (.slice 216):=by kernel_rfl
theorem eV:Tryz.prog.underlying 216=some (.pointer 279):=by kernel_rfl
theorem Fp:Tryz.prog.underlying 22=some (.slice 47):=by kernel_rfl
theorem Is:Tryz.prog.underlying 222=some (.int .u64):=by kernel_rfl
theorem GC:Tryz.prog.underlying 23=some (.slice 124):=by kernel_rfl
theorem EA:Tryz.prog.underlying 24=some (.slice 3):=by kernel_rfl
theorem eW:Tryz.prog.underlying 252=some (.array 8 251):=by kernel_rfl
theorem Dm:Tryz.prog.underlying 3=some (.int .i64):=by kernel_rfl
theorem S_:Tryz.prog.underlying 314=some (.slice 9):=by kernel_rfl
theorem Hp:Tryz.prog.underlying 32=some (.pointer 93):=by kernel_rfl
theorem It:Tryz.prog.underlying 328=some (.slice 330):=by kernel_rfl
theorem Ta:Tryz.prog.underlying 331=some (.array 8 330):=by kernel_rfl
theorem Kg:Tryz.prog.underlying 332=some (.map 2 212):=by kernel_rfl
theorem Tb:Tryz.prog.underlying 355=some (.pointer 299):=by kernel_rfl
theorem LJ:Tryz.prog.underlying 37=some (.pointer 103):=by kernel_rfl
theorem Jc:Tryz.prog.underlying 40=some (.slice 51):=by kernel_rfl
theorem Dt:Tryz.prog.underlying 47=some (.slice 122):=by kernel_rfl
theorem HV:Tryz.prog.underlying 5=some (.int .u8):=by kernel_rfl
theorem Iu:Tryz.prog.underlying 55=some (.pointer 109):=by kernel_rfl
theorem Fq:Tryz.prog.underlying 57=some (.slice 5):=by kernel_rfl
theorem LK:Tryz.prog.underlying 59=some (.slice 69):=by kernel_rfl
theorem Tc:Tryz.prog.underlying 80=some (.pointer 143):=by kernel_rfl
theorem CK:Tryz.prog.underlying 9=some (.string):=by kernel_rfl
theorem EB:Tryz.prog.underlying 94=some (.int .u64):=by kernel_rfl
theorem Td:Tryz.prog.underlying 95=some (.map 3 153):=by kernel_rfl
theorem eX:Tryz.prog.underlying 96=some (.slice 151):=by kernel_rfl
theorem Te:Tryz.prog.underlying 99=some (.int .u32):=by kernel_rfl
theorem Tf:Tryz.prog.underlying 359=some .unsafePointer:=by kernel_rfl
theorem Dh:Du Tryz.prog 122=some (.agg #[.string ⟨#[]⟩,.string ⟨#[]⟩]):=by kernel_rfl
theorem LP:Du Tryz.prog 124=some (.agg #[.int .i64 0,.int .i64 0,.string ⟨#[]⟩]):=by kernel_rfl
theorem f7:Du Tryz.prog 151=some (.agg #[.int .i64 0,.int .i64 0,.pointer none]):=by kernel_rfl
theorem f8:Du Tryz.prog 153=some (.pointer none):=by kernel_rfl
theorem LQ:Du Tryz.prog 212=some (.pointer none):=by kernel_rfl
theorem Gj:Du Tryz.prog 24=some (.slice none 0 0):=by kernel_rfl
theorem Tr:Du Tryz.prog 28=some (.agg #[.slice none 0 0,.int .i64 0,.slice none 0 0,.slice none 0 0,.slice none 0 0,.int .i64 0,.int .i64 0,.int .i64 0,.slice none 0 0,.int .i64 0,.int .i64 0,.int .i64 0]):=by kernel_rfl
theorem Fa:Du Tryz.prog 3=some (.int .i64 0):=by kernel_rfl
theorem DK:Du Tryz.prog 330=some (.agg #[.bool false,.int .i64 0,.string ⟨#[]⟩]):=by kernel_rfl
theorem LR:Du Tryz.prog 47=some (.slice none 0 0):=by kernel_rfl
theorem Jf:Du Tryz.prog 49=some (.agg #[.int .i64 0,.int .i64 0,.int .i64 0,.int .i64 0,.int .i64 0,.int .i64 0,.int .i64 0,.int .i64 0,.slice none 0 0,.slice none 0 0]):=by kernel_rfl
theorem Jg:Du Tryz.prog 5=some (.int .u8 0):=by kernel_rfl
theorem Gk:Du Tryz.prog 51=some (.agg #[.int .i64 0,.int .i64 0,.int .i64 0,.int .i64 0,.int .i64 0,.int .i64 0,.int .i64 0,.int .i64 0,.int .i64 0,.int .i64 0,.slice none 0 0,.slice none 0 0]):=by kernel_rfl
theorem Hr:Du Tryz.prog 69=some (.agg #[.int .i64 0,.int .i64 0,.int .i64 0,.int .i64 0,.int .i64 0,.slice none 0 0,.slice none 0 0]):=by kernel_rfl
theorem Kh:Du Tryz.prog 9=some (.string ⟨#[]⟩):=by kernel_rfl
theorem Vb:N9 Tryz.prog 122 9:=⟨⟨_,_,U8,by decide,by decide,rfl,rfl,rfl,rfl⟩,CK,Cl⟩
theorem Tq:HZ Tryz.prog 3 Cr:=Wp Dm
def Fw {α:Type} (p:α→Bool) (xs:List α):Int:=match xs.findIdx? p with |some i=>(i:Int)|none=> -1
theorem Kx {α:Type} {p:α→Bool} {xs:List α} {k:Nat} {x:α} (h:∀ y∈xs.take k,p y=false) (hx:xs[k]?=some x) (hp:p x=true):Fw p xs=(k:Int):=by
 have:xs.findIdx? p=some k:=by
  rw [List.findIdx?_eq_some_iff_getElem]
  have hlt:k<xs.length:=by
   rcases Nat.lt_or_ge k xs.length with h'|h'
   ·exact h'
   ·simp [List.getElem?_eq_none h'] at hx
  refine ⟨hlt,by rw [List.getElem?_eq_getElem hlt] at hx;rw [Option.some.inj hx];exact hp,fun j hj=>?_⟩
  have:=h xs[j] (by rw [List.mem_take_iff_getElem];exact ⟨j,by omega,rfl⟩)
  simp [this]
 simp [Fw,this]
theorem Jq {α:Type} {p:α→Bool} {xs:List α} (h:∀ y∈xs,p y=false):Fw p xs= -1:=by
 have:xs.findIdx? p=none:=by
  rw [List.findIdx?_eq_none_iff]
  exact h
 simp [Fw,this]
theorem Ky {α:Type} (p:α→Bool) (xs:List α):decide (0≤Fw p xs)=xs.any p:=by
 by_cases h:∃ y∈xs,p y=true
 ·have h1:xs.any p=true:=by simpa using h
  rw [h1,decide_eq_true_eq]
  unfold Fw
  cases hf:xs.findIdx? p with
  |none=>
   rw [List.findIdx?_eq_none_iff] at hf
   obtain ⟨y,hy,hp⟩:=h
   rw [hf y hy] at hp
   cases hp
  |some i=>simp
 ·have h':∀ y∈xs,p y=false:=fun y hy=>by
   cases hp:p y with
   |false=>rfl
   |true=>exact (h ⟨y,hy,hp⟩).elim
  rw [Jq h']
  have h1:xs.any p=false:=by
   rw [List.any_eq_false]
   intro y hy
   simp [h' y hy]
  rw [h1]
  decide
theorem LE {α:Type} {p:α→Bool} {xs:List α} {k:Nat} {x:α} (h:∀ y∈xs.take k,p y=false) (hx:xs[k]?=some x) (hp:p x=false):∀ y∈xs.take (k+1),p y=false:=by
 intro y hy
 rw [List.take_add_one,hx] at hy
 simp at hy
 exact hy.elim (h y) (fun e=>e▸hp)
def cnt {α:Type} (p:α→Bool) (xs:List α):Nat:=(xs.filter p).length
theorem Ut {α:Type} (p:α→Bool) (xs:List α) (x:α):cnt p (xs++[x])=cnt p xs+if p x then 1 else 0:=by
 unfold cnt
 rw [List.filter_append]
 by_cases h:p x<;>simp [h]
theorem OR {α:Type} (p:α→Bool) (xs:List α):cnt p xs≤xs.length:=List.length_filter_le p xs
theorem OT {α:Type} {p:α→Bool} {xs:List α} {k:Nat} {x:α} (hx:xs[k]?=some x):cnt p (xs.take (k+1))=cnt p (xs.take k)+if p x then 1 else 0:=by
 rw [List.take_add_one,hx,←Ut]
 rfl
section
variable {w w0:World} {F0:AU} {As Rs:List SP} {α:Type} [Inhabited α] {e1:α→Value}
theorem P_ {b t:Nat} {xs:List α} {rest:List Value} (H:Hd w0 F0 w (blk b (xs.map e1++rest) t::As) Rs):Sort.Holds e1 w b 0 xs.toArray:=by
 intro j hj
 simp only [List.size_toArray] at hj
 rw [Nat.zero_add]
 refine ⟨H.cell (List.mem_cons_self ..) ?_,H.free (List.mem_cons_self ..) j⟩
 rw [List.getElem?_append_left (by simpa using hj),List.getElem?_map,List.getElem?_eq_getElem hj]
 simp [hj]
theorem ZT {xs ys:List α} {rest:List Value} (hl:ys.length=xs.length):Sort.putCells e1 0 ys.toArray (xs.map e1++rest).toArray=(ys.map e1++rest).toArray:=by
 apply Array.toList_inj.1
 apply List.ext_getElem?
 intro i
 unfold Sort.putCells
 rw [Array.toList_mapIdx,List.getElem?_mapIdx]
 simp only [List.size_toArray,Nat.zero_le,true_and,Nat.zero_add,Nat.sub_zero,List.getElem!_toArray]
 rcases Nat.lt_or_ge i ys.length with h|h
 ·rw [List.getElem?_append_left (by simpa using (hl▸h)),List.getElem?_append_left (by simpa using h),List.getElem?_map,List.getElem?_map,List.getElem?_eq_getElem h,List.getElem?_eq_getElem (by omega)]
  simp [h]
 ·rw [List.getElem?_append_right (by simp;omega),List.getElem?_append_right (by simpa using h)]
  simp only [List.length_map,hl]
  cases rest[i - xs.length]? with
  |none=>rfl
  |some v=>simp;omega
theorem OK {b t n:Nat} {xs ys:List α} {rest:List Value} {os:Array Obj} (H:Hd w0 F0 w (blk b (xs.map e1++rest) t::As) Rs) (hl:ys.length=xs.length):
  Hd w0 F0 (Sort.grow (Sort.putRow e1 (Sort.ahead w n) b 0 ys.toArray) os) (blk b (ys.map e1++rest) t::As) Rs:=by
 refine H.write fun F hF=>?_
 have hb:b<w.heap.size:=by
  rcases Nat.lt_or_ge b w.heap.size with h|h
  ·exact h
  ·have:=hF.2
   rw [Array.getElem?_eq_none h] at this
   cases this
 have hh:∀ k,k<w.heap.size→(Sort.grow (Sort.putRow e1 (Sort.ahead w n) b 0 ys.toArray) os).heap[k]?=(w.heap.modify b (Sort.onCells (Sort.putCells e1 0 ys.toArray)))[k]?:=by
  intro k hk
  show ((w.heap.modify b (Sort.onCells (Sort.putCells e1 0 ys.toArray)))++os)[k]?=_
  rw [Array.getElem?_append_left (by simpa using hk)]
 refine ⟨⟨hF.1,?_⟩,rfl,rfl,rfl,?_,fun k hk hn=>?_⟩
 ·rw [hh b hb,Array.getElem?_modify,if_pos rfl,hF.2]
  simp only [Option.map_some,Sort.onCells,ZT hl]
 ·show w.heap.size≤((w.heap.modify b (Sort.onCells (Sort.putCells e1 0 ys.toArray)))++os).size
  simp
 ·rw [hh k hk,Array.getElem?_modify,if_neg (by rintro rfl;exact hn hF.1)]
theorem VW (w:World):Sort.grow w #[]=w:=by
 unfold Sort.grow
 simp
end
theorem KR {α:Type} {e1:α→Value} (xs:List α):xs.flatMap (fun x=>[e1 x])=xs.map e1:=by
 induction xs with
 |nil=>rfl
 |cons x xs ih=>simp [ih]
section
variable {P:Program} {α:Type} [Inhabited α] {e1:α→Value} {h1:∀ x,∀ c∈[e1 x],c.oneCell'=true} {f:FuncId}
theorem Uq {s:List α→List α} (hlen:∀ xs,(s xs).length=xs.length) (hnil:s []=[])
  (h0:∀ (p:Option Addr) (c:Nat) (w:World),Calls P f #[.slice p 0 c] w fun e w'=>e=.returned (.tuple #[])∧w'=w)
  (hc:∀ (b c:Nat) (xs:List α) (w:World),Sort.Holds e1 w b 0 xs.toArray→b<w.heap.size→xs.length≤1000000→Calls P f #[.slice (some ⟨b,0,none⟩) xs.length c] w fun e w'=>e=.returned (.tuple #[])∧∃ n os,w'=Sort.grow (Sort.putRow e1 (Sort.ahead w n) b 0 (s xs).toArray) os)
  (v:Value) (xs:List α) (hb:xs.length≤1000000):Cn P f [v] [Y (flat (fun x=>[e1 x]) 1 (by omega) (fun _=>rfl) h1) v xs] [] (fun _ Bs=>Bs=[Y (flat (fun x=>[e1 x]) 1 (by omega) (fun _=>rfl) h1) v (s xs)]):=by
 intro w F H
 obtain ⟨A,c,rfl,hle,hmax,hp⟩:=H.fA 0 rfl
 rcases Nat.eq_zero_or_pos xs.length with hx|hx
 ·obtain rfl:=List.eq_nil_of_length_eq_zero hx
  refine (h0 A c w).mono ?_
  rintro e w' ⟨rfl,rfl⟩
  exact ⟨_,rfl,_,rfl,by rw [hnil];exact H⟩
 ·obtain ⟨b,t,rest,rfl,hm,hle',hmax',hr,H'⟩:=H.toBlk hx
  rw [KR] at H'
  have hbl:b<w.heap.size:=H'.fact (List.mem_cons_self ..) fun F hF=>by
   rcases Nat.lt_or_ge b w.heap.size with h|h
   ·exact h
   ·have:=hF.2
    rw [Array.getElem?_eq_none h] at this
    cases this
  refine (hc b c xs w (P_ H') hbl hb).mono ?_
  rintro e w' ⟨rfl,n,os,rfl⟩
  refine ⟨_,rfl,_,rfl,?_⟩
  have H2:=OK (n:=n) (os:=os) H' (hlen xs)
  rw [←KR] at H2
  exact H2.ofBlk (hlen xs) hle' hmax' hr
theorem Up {s:List α→List α} {z:α} (hlen:∀ xs,(s xs).length≤xs.length) (hnil:s []=[])
  (h0:∀ (p:Option Addr) (c:Nat) (w:World),Calls P f #[.slice p 0 c] w fun e w'=>e=.returned (.slice p 0 c)∧w'=w)
  (hc:∀ (b c:Nat) (xs:List α) (w:World),Sort.Holds e1 w b 0 xs.toArray→xs.length≤1000000→xs.length≤c→Calls P f #[.slice (some ⟨b,0,none⟩) xs.length c] w fun e w'=>e=.returned (.slice (some ⟨b,0,none⟩) (s xs).length c)∧∃ n,w'=Sort.putRow e1 (Sort.ahead w n) b 0 (s xs++List.replicate (xs.length - (s xs).length) z).toArray)
  (v:Value) (xs:List α) (hb:xs.length≤1000000):Cn P f [v] [Y (flat (fun x=>[e1 x]) 1 (by omega) (fun _=>rfl) h1) v xs] [] (fun u Bs=>Bs=[Y (flat (fun x=>[e1 x]) 1 (by omega) (fun _=>rfl) h1) u (s xs)]):=by
 intro w F H
 obtain ⟨A,c,rfl,hle,hmax,hp⟩:=H.fA 0 rfl
 rcases Nat.eq_zero_or_pos xs.length with hx|hx
 ·obtain rfl:=List.eq_nil_of_length_eq_zero hx
  refine (h0 A c w).mono ?_
  rintro e w' ⟨rfl,rfl⟩
  exact ⟨_,rfl,_,rfl,by rw [hnil];exact H⟩
 ·obtain ⟨b,t,rest,rfl,hm,hle',hmax',hr,H'⟩:=H.toBlk hx
  rw [KR] at H'
  refine (hc b c xs w (P_ H') hb hle).mono ?_
  rintro e w' ⟨rfl,n,rfl⟩
  refine ⟨_,rfl,_,rfl,?_⟩
  have hl:=hlen xs
  have H2:=OK (n:=n) (os:=#[]) H' (ys:=s xs++List.replicate (xs.length - (s xs).length) z) (by simp;omega)
  rw [VW,List.map_append,List.append_assoc,←KR (s xs)] at H2
  exact H2.ofBlk U (by omega) hmax' (by simp;omega)
end
theorem OU {α:Type} [Inhabited α] [DecidableEq α] (xs:List α):(Lib.compact xs).length≤xs.length:=by
 unfold Lib.compact Lib.compactUpTo
 rw [List.length_map]
 exact Nat.le_trans (List.length_filter_le _ _) (by simp)
def Hg (x:ByteArray):List UInt8:=x.data.toList
def J9 (x:List UInt8):ByteArray:=⟨x.toArray⟩
def Gz (xs:List ByteArray):List ByteArray:=((xs.map Hg).mergeSort fun x y=>decide (x≤y)).map J9
def G6 (xs:List ByteArray):List ByteArray:=(Lib.compact (xs.map Hg)).map J9
theorem P9 {w:World} {b:Nat} {xs:List ByteArray} (h:Sort.Holds Value.string w b 0 xs.toArray):Sort.Holds Go.Proofs.encStr w b 0 (xs.map Hg).toArray:=by
 intro j hj
 have hj':j<xs.length:=by simpa using hj
 have:=h j (by simpa using hj')
 simp only [List.getElem!_toArray] at this ⊢
 rw [getElem!_pos _ j (by simpa using hj')]
 rw [getElem!_pos _ j hj'] at this
 rw [List.getElem_map]
 have e:Go.Proofs.encStr (Hg xs[j])=Value.string xs[j]:=by simp [Go.Proofs.encStr,Hg]
 rw [e]
 exact this
theorem R7 {w:World} {b:Nat} {zs:List (List UInt8)}:Sort.putRow Go.Proofs.encStr w b 0 zs.toArray=Sort.putRow Value.string w b 0 (zs.map J9).toArray:=by
 unfold Sort.putRow
 congr 1
 funext c
 unfold Sort.putCells
 congr 1
 funext k x
 simp only [List.size_toArray,List.length_map,List.getElem!_toArray]
 split
 ·rename_i h
  have h':k - 0<zs.length:=by omega
  rw [getElem!_pos (zs.map J9) _ (by simpa using h'),getElem!_pos zs _ h',List.getElem_map]
  rfl
 ·rfl
theorem YW {s:ByteArray}:s=(⟨#[]⟩:ByteArray)↔s.size=0:=by
 constructor
 ·rintro rfl;rfl
 ·intro h
  have:s.data=#[]:=Array.eq_empty_of_size_eq_zero h
  cases s
  simp at this
  subst this
  rfl
def BX (p:BT) (n:Int):Prop:=0≤p.op∧p.op≤23∧(p.op=1→p.s.size=0)∧(p.op=2→p.a=0∧p.s.size≤64)∧(p.op=19∨p.op=20→0≤p.a∧p.a≤n∧p.s.size=0)∧
 (p.op=21∨p.op=22→0≤p.a∧p.a≤7∧p.s.size=0)∧(¬ (p.op=1∨p.op=2∨p.op=19∨p.op=20∨p.op=21∨p.op=22)→p.a=0∧p.s.size=0)
instance (p:BT) (n:Int):Decidable (BX p n):=by unfold BX;infer_instance
def E1 (n:Int):BT→Bool:=fun p=>!decide (BX p n)
def DU (xs:List BT):Int:=if 0≤Fw (E1 xs.length) (xs.take 40) then Fw (E1 xs.length) (xs.take 40) else if (40:Int)<xs.length then 40 else -1
theorem TC {xs:List BT} {k:Nat} {x:BT} (hk:k<40) (hn:∀ y∈xs.take k,E1 xs.length y=false) (hx:xs[k]?=some x) (hb:¬ BX x xs.length):DU xs=(k:Int):=by
 have:Fw (E1 xs.length) (xs.take 40)=(k:Int):=Kx (k:=k) (by rw [List.take_take,Nat.min_eq_left (by omega)];exact hn) (by rw [List.getElem?_take,if_pos hk];exact hx) (by simp [E1,hb])
 unfold DU
 rw [this,if_pos (by omega)]
theorem OC {xs:List BT} {k:Nat} (hk:k=min xs.length 40) (hn:∀ y∈xs.take k,E1 xs.length y=false):DU xs=if (40:Int)<xs.length then 40 else -1:=by
 have:Fw (E1 xs.length) (xs.take 40)= -1:=Jq (by
  intro y hy
  refine hn y ?_
  rw [hk]
  rcases Nat.le_total xs.length 40 with h|h
  ·rw [Nat.min_eq_left h,List.take_of_length_le (Nat.le_refl _)]
   rwa [List.take_of_length_le h] at hy
  ·rwa [Nat.min_eq_right h])
 unfold DU
 rw [this,if_neg (by omega)]
theorem TD {xs:List BT} {k:Nat} {x:BT} (hn:∀ y∈xs.take k,E1 xs.length y=false) (hx:xs[k]?=some x) (hb:BX x xs.length):∀ y∈xs.take (k+1),E1 xs.length y=false:=
 LE hn hx (by simp [E1,hb])
def Fm (xs:List BT):Bool:=decide (¬ (xs.length≤60∧∀ p∈xs,p.s.size≤100))
theorem VV {xs:List BT} {k:Nat} {x:BT} (hx:xs[k]?=some x) (h:100<x.s.size):true=Fm xs:=by
 have h3:¬ (xs.length≤60∧∀ p∈xs,p.s.size≤100):=fun h2=>absurd (h2.2 x (List.mem_of_getElem? hx)) (by omega)
 exact (decide_eq_true h3).symm
theorem P3 {xs:List BT} {k:Nat} (hn:∀ y∈xs.take k,y.s.size≤100) (h:xs.length≤k∨60<xs.length):decide ((60:Int)<(xs.length:Int))=Fm xs:=by
 refine decide_eq_decide.2 ⟨fun h1 h2=>by omega,fun h1=>?_⟩
 apply Classical.byContradiction
 intro h2
 refine h1 ⟨by omega,?_⟩
 rwa [List.take_of_length_le (by omega)] at hn
theorem dZ {xs:List BT} {k:Nat} {x:BT} (hn:∀ y∈xs.take k,y.s.size≤100) (hx:xs[k]?=some x) (h:x.s.size≤100):∀ y∈xs.take (k+1),y.s.size≤100:=by
 intro y hy
 rw [List.take_add_one,hx] at hy
 simp at hy
 rcases hy with hy|rfl
 ·exact hn y hy
 ·exact h
structure A9 where
 t:Bool
 n:Int
 b:ByteArray
def Ku (v:A9):List Value:=[.bool v.t,.int .i64 v.n,.string v.b]
def Bf:Kd A9:=flat Ku 3 (by omega) (fun _=>rfl) (fun _ c h=>by
 simp only [Ku,List.mem_cons,List.not_mem_nil,or_false] at h
 rcases h with rfl|rfl|rfl<;>rfl)
def DA (n:Int):A9:=⟨false,n,⟨#[]⟩⟩
def E_ (s:ByteArray):A9:=⟨true,0,s⟩
def CU:A9:=⟨false,0,⟨#[]⟩⟩
def Fs (v:A9):Prop:=AG v.n∧v.b.size≤64
def Bq (op:Int):ByteArray:=
 if op=3∨op=4∨op=22 then ⟨#[101]⟩ else if op=5∨op=12 then ⟨#[101,101]⟩ else if op=8∨op=9∨op=10∨op=11 then ⟨#[110,110]⟩
 else if op=13∨op=23 then ⟨#[98,98]⟩ else if op=14∨op=18 then ⟨#[98]⟩ else if op=15 then ⟨#[98,110]⟩ else if op=16 then ⟨#[98,110,110]⟩ else if op=17∨op=20 then ⟨#[110]⟩ else ⟨#[]⟩
def F6 (c:UInt8) (v:A9):Bool:=!((c==110 && v.t)||(c==98 && !v.t))
def Fx:List UInt8→List A9→Bool
 |c::cs,v::vs=>F6 c v && Fx cs vs
 |_,_=>true
def AD (op:Int) (stk:List A9):Int×List A9×List A9:=
 if stk.length<(Bq op).size then (1,stk,[])
 else if Fx (Bq op).data.toList (stk.drop (stk.length - (Bq op).size)) then (0,stk.take (stk.length - (Bq op).size),stk.drop (stk.length - (Bq op).size)) else (2,stk,[])
def Ff (v:A9):Bool:=v.t && decide (64<v.b.size)
def Bu (stk vs:List A9):Int×List A9:=
 if vs.any Ff then (4,stk) else if 16<stk.length+vs.length then (1,stk) else (0,stk++vs)
def Eb (told:List Aq) (k v:ByteArray):Int×List Aq:=
 if 16<k.size then (4,told) else if 40≤told.length then (5,told) else (0,told++[⟨k,v⟩])
def BR (op a b:Int):A9:=if op=8 then DA (IntKind.i64.wrap (a+b)) else if op=9 then DA (IntKind.i64.wrap (a - b)) else if op=10 then DA (IntKind.i64.wrap (a*b)) else DA (if a<b then 1 else 0)
def RG (b:Bool):A9:=DA (if b then 1 else 0)
def E6 (a b:A9):Bool:=if a.t then b.t && decide (a.b=b.b) else !b.t && decide (a.n=b.n)
def Fe (s:ByteArray) (i:Int):Int:=if i<0∨(s.size:Int)≤i then -1 else ((s[i.toNat]?.getD 0).toNat:Int)
def F5 (s:ByteArray) (f t:Int):ByteArray:=
 if min (max t 0) (s.size:Int)≤min (max f 0) (s.size:Int) then ⟨#[]⟩ else s.extract (min (max f 0) (s.size:Int)).toNat (min (max t 0) (s.size:Int)).toNat
structure VM where
 pos:Int
 halted:Bool
 stk:List A9
 g:Nat→A9
 told:List Aq
 vals:List ByteArray
structure BA where
 dig:Int→ByteArray
 num:ByteArray→Int
def I7 (g:Nat→A9) (k:Nat) (v:A9):Nat→A9:=fun j=>if j=k then v else g j
def Df (m:VM) (vs:List A9):VM×Int:=({m with stk:=(Bu m.stk vs).2},(Bu m.stk vs).1)
def HJ (m:VM):VM×Int:=
 match m.vals with
 |[]=>Df m [DA 0]
 |v::vs=>Df {m with vals:=vs} [E_ v,DA 1]
def Cv (D:BA) (key:ByteArray) (m:VM) (i:BT) (v:List A9):VM×Int:=
 let v0:=v.getD 0 CU;let v1:=v.getD 1 CU;let v2:=v.getD 2 CU
 if i.op=0 then ({m with halted:=true},0)
 else if i.op=1 then Df m [DA i.a]
 else if i.op=2 then Df m [E_ i.s]
 else if i.op=3 then Df m [v0,v0]
 else if i.op=5 then Df m [v1,v0]
 else if i.op=6 then Df m [E_ key]
 else if i.op=7 then HJ m
 else if i.op=8∨i.op=9∨i.op=10∨i.op=11 then Df m [BR i.op v0.n v1.n]
 else if i.op=12 then Df m [RG (E6 v0 v1)]
 else if i.op=13 then Df m [E_ (v0.b++v1.b)]
 else if i.op=14 then Df m [DA v0.b.size]
 else if i.op=15 then Df m [DA (Fe v0.b v1.n)]
 else if i.op=16 then Df m [E_ (F5 v0.b v1.n v2.n)]
 else if i.op=17 then Df m [E_ (D.dig v0.n)]
 else if i.op=18 then Df m [DA (D.num v0.b)]
 else if i.op=19 then ({m with pos:=i.a},0)
 else if i.op=20 then (if v0.n≠0 then {m with pos:=i.a} else m,0)
 else if i.op=21 then Df m [m.g i.a.toNat]
 else if i.op=22 then ({m with g:=I7 m.g i.a.toNat v0},0)
 else if i.op=23 then ({m with told:=(Eb m.told v0.b v1.b).2},(Eb m.told v0.b v1.b).1)
 else (m,0)
def BW (D:BA) (key:ByteArray) (m:VM) (i:BT):VM×Int:=
 if (AD i.op m.stk).1≠0 then (m,(AD i.op m.stk).1) else Cv D key {m with stk:=(AD i.op m.stk).2.1} i (AD i.op m.stk).2.2
def CW (D:BA) (p:List BT) (key:ByteArray):Nat→VM→VM×Int
 |0,m=>if m.pos<p.length∧m.halted=false then (m,3) else (m,0)
 |n+1,m=>
  if m.pos<p.length∧m.halted=false then
   match p[m.pos.toNat]? with
   |some i=>if (BW D key {m with pos:=m.pos+1} i).2≠0 then BW D key {m with pos:=m.pos+1} i else CW D p key n (BW D key {m with pos:=m.pos+1} i).1
   |none=>(m,0)
  else (m,0)
def DT (vals:List ByteArray):VM:=⟨0,false,[],fun _=>CU,[],vals⟩
def Cd (D:BA) (p:List BT) (key:ByteArray) (vals:List ByteArray) (fuel:Int):List Aq×Int:=
 if ¬ DU p<0∨fuel<0 then ([],2)
 else if (CW D p key (min fuel 2000).toNat (DT vals)).2≠0 then ([],(CW D p key (min fuel 2000).toNat (DT vals)).2) else ((CW D p key (min fuel 2000).toNat (DT vals)).1.told,0)
/-! ### Facts -/
theorem N6 (x:Int):AG (IntKind.i64.wrap x):=by
 unfold AG
 simp only [IntKind.wrap,IntKind.bits,IntKind.signed]
 simp
 omega
theorem Y_ (op a b:Int):Fs (BR op a b):=by
 unfold BR
 split
 ·exact ⟨N6 _,(by decide:(⟨#[]⟩:ByteArray).size≤64)⟩
 ·split
  ·exact ⟨N6 _,(by decide:(⟨#[]⟩:ByteArray).size≤64)⟩
  ·split
   ·exact ⟨N6 _,(by decide:(⟨#[]⟩:ByteArray).size≤64)⟩
   ·refine ⟨?_,(by decide:(⟨#[]⟩:ByteArray).size≤64)⟩
    show AG (if a<b then 1 else 0)
    split<;>(unfold AG;omega)
def Bn (pv:Value) (key:ByteArray) (vv:Value) (fuel pos steps:Int) (halted:Bool) (sv:Value) (g:Nat→A9) (tv mv:Value):List Value:=
 [pv,.string key,vv,.int .i64 fuel,.int .i64 pos,.int .i64 steps,.bool halted,sv,
  .bool (g 0).t,.int .i64 (g 0).n,.string (g 0).b,.bool (g 1).t,.int .i64 (g 1).n,.string (g 1).b,.bool (g 2).t,.int .i64 (g 2).n,.string (g 2).b,.bool (g 3).t,.int .i64 (g 3).n,.string (g 3).b,
  .bool (g 4).t,.int .i64 (g 4).n,.string (g 4).b,.bool (g 5).t,.int .i64 (g 5).n,.string (g 5).b,.bool (g 6).t,.int .i64 (g 6).n,.string (g 6).b,.bool (g 7).t,.int .i64 (g 7).n,.string (g 7).b,tv,mv]
section
variable {P:Program} {fn:Func} {R:Ending→World→Prop} {n:Nat} {l:BV} {w w':World} {v:Value} {t:TypeId}
theorem bR {s:Tmp} {sz:Nat} {p:Addr} {cs:List Value} {a:Act} (hr:fn.results=#[.cell s t]) (ha:CQ n l a) (hs:lk l s=some (.pointer (some p))) (ht:Cp P t=some (true,sz)) (hz:cs.length=sz) (hc:∀ j v,cs[j]?=some v→w.cell? (p.add j)=some v):(results fn a.tmps).run P w=.ok (.agg cs.toArray) w:=by
 have hl:=run_loadCells_list (P:=P) w p cs hc
 have hg:=(ha.get s _ hs).1
 simp [results,hr]
 rw [←Array.getD_eq_getD_getElem?,hg]
 simp [asAddr,loadVar,Ls ht,ND ht,←hz,hl]
theorem FP {s:Tmp} {sz:Nat} {p:Addr} {cs:List Value} (hr:fn.results=#[.cell s t]) (hs:lk l s=some (.pointer (some p))) (ht:Cp P t=some (true,sz)) (hz:cs.length=sz) (hc:∀ j v,cs[j]?=some v→w.cell? (p.add j)=some v) (h:R (.returned (.agg cs.toArray)) w):WQ (bodyPost P fn R) .ret n l w:=
 fun a ha=>bodyPost_ret (bR hr ha hs ht hz hc) ha.defers h
end
section
variable {P:Program} {n:Nat} {l:BV} {w w0:World} {F0:AU} {o:Oper} {x y z:Operand} {t:TypeId} {As Rs:List SP}
theorem ZX {tt:TypeId} {s:ByteArray} {k k':IntKind} {i j:Int} {r:ByteArray} (ho:o.op=.slice tt x (some y) (some z) none) (ht:P.underlying tt=some .string) (hx:ev l x=some (.string s)) (hy:ev l y=some (.int k i)) (hz:ev l z=some (.int k' j))
  (h0:0≤i) (h1:i≤j) (h2:j≤(s.size:Int)) (hr:s.extract i.toNat j.toNat=r):BP P n l w o (.string r) w:=by
 intro a ha
 have hb:(Instr.sliceBounds false s.size s.size (some (.int k i)) (some (.int k' j)) none).run P w=.ok (i.toNat,j.toNat,s.size) w:=by
  have g0:0≤j:=by omega
  simp [Instr.sliceBounds,Instr.sliceBound,asIntOf,h0,h2,g0]
  intro hh
  omega
 simp [execOp,ho,ha.eval hx,ha.eval hy,ha.eval hz,Instr.sliceAt,Instr.slice,hb,run_underlying ht,←hr]
theorem HM {tt e:TypeId} {size len:Nat} {b off:Nat} {k:IntKind} {i:Int} {p:Nat} (ho:o.op=.indexAddr tt x y) (hu:P.underlying tt=some (.array len e)) (hi:(P.info? e).map (·.size)=some size)
  (hx:ev l x=some (.pointer (some ⟨b,off,none⟩))) (hy:ev l y=some (.int k i)) (h0:0≤i) (h1:i<(len:Int)) (hp:off+i.toNat*size=p):BP P n l w o (.pointer (some ⟨b,p,none⟩)) w:=by
 obtain ⟨inf,h2,h3⟩:=Option.map_eq_some_iff.1 hi
 exact Z2 ho hu h2 h3 hx hy h0 h1 hp
theorem Sb {t':TypeId} {u:Value} {b:Bool} (ho:o.op=.binOp .neq t x (.const .nilIface) t') (ht:P.underlying t=some (.interface (P.methodsAt t))) (hx:ev l x=some u) (hu:(u=.nilIface∧b=false)∨(∃ te pe,u=.iface te pe∧b=true)):BP P n l w o (.bool b) w:=by
 intro a ha
 have hc:a.eval (.const .nilIface)=.nilIface:=rfl
 rcases hu with ⟨rfl,rfl⟩|⟨te,pe,rfl,rfl⟩
 ·have h:=run_equal_nil_nil (P:=P) w t ht
  simp [execOp,ho,ha.eval hx,hc,eqGuard,binOp,h]
 ·have h:=run_equal_held_nil (P:=P) w t te pe ht
  simp [execOp,ho,ha.eval hx,hc,eqGuard,binOp,h]
theorem Sg {src dst e:TypeId} {p:Addr} {v:Value} (ho:o.op=.convert src dst x) (hs:P.underlying src=some (.pointer e)) (hd:P.underlying dst=some .unsafePointer) (hz:(P.info? e).map (fun i=>decide (i.size=0))=some false) (hx:ev l x=some (.pointer (some p))) (hc:w.cell? p=some v):BP P n l w o (.pointer (some p)) w:=by
 intro a ha
 simp [execOp,ho,ha.eval hx,run_convert_to_unsafe hs hd hz hc]
theorem RM {α:Type} {d:Kd α} {F:AU} {A:Option Addr} {m c:Nat} {xs:List α} (h:(Y d (.slice A m c) xs).P w F) {i:Nat} (hi:i≤m):(Y d (.slice A i c) (xs.take i)).P w F:=by
 obtain ⟨A',m',c',e,hl,cs,F1,F2,s1,s2,dj,⟨r1,r2,r3,r4⟩,hrep⟩:=h
 simp only [List.cons.injEq,Value.slice.injEq,and_true] at e
 obtain ⟨rfl,rfl,rfl⟩:=e
 refine ⟨A,i,c,rfl,by rw [List.length_take];omega,cs.take (i*d.sz),F1,F2,s1,s2,dj,⟨by omega,r2,?_,?_⟩,hrep.take i⟩
 ·rw [List.length_take,r3]
  exact Nat.min_eq_left (Nat.mul_le_mul_right _ hi)
 ·rcases r4 with h0|⟨b,C,t,e,hb,hh,hs,ht⟩
  ·exact .inl h0
  ·refine .inr ⟨b,C,t,e,hb,hh,hs,?_⟩
   rw [←ht,List.take_take,Nat.min_eq_left (Nat.mul_le_mul_right _ hi)]
theorem Hd.preO {α:Type} {d:Kd α} {A:Option Addr} {m c:Nat} {xs:List α} (H:Hd w0 F0 w (Y d (.slice A m c) xs::As) Rs) (i:Nat) (hi:i≤m):Hd w0 F0 w (Y d (.slice A i c) (xs.take i)::As) Rs:=H.turn fun _ h=>RM h hi
end
section
variable {w w0:World} {F0:AU} {As Rs:List SP} {α:Type} {enc:α→List Value} {sz:Nat} {hp:0<sz} {hl:∀ x,(enc x).length=sz} {h1:∀ x,∀ c∈enc x,c.oneCell'=true} {xs:List α} {A:Option Addr} {m c:Nat}
theorem Hd.thX (H:Hd w0 F0 w As Rs) (hS:∀ F,(∀ A∈As,A.P w F)→(∀ R∈Rs,R.P w F)→(Ac (flat enc sz hp hl h1) (.slice A m c) xs).P w F) {i:Nat} {x:α} (hx:xs[i]?=some x):FZ A:=H.read fun F hA hR=>Me (hS F hA hR) hx
theorem Hd.elX (H:Hd w0 F0 w As Rs) (hS:∀ F,(∀ A∈As,A.P w F)→(∀ R∈Rs,R.P w F)→(Ac (flat enc sz hp hl h1) (.slice A m c) xs).P w F) {i:Nat} {x:α} (hx:xs[i]?=some x) {q p:Nat} {u:Value} (hu:(enc x)[q]?=some u) (hpj:Ba A+i*sz+q=p):w.cell? ⟨Et A,p,none⟩=some u:=
 H.read fun F hA hR=>Mc (hS F hA hR) hx hu hpj
theorem Hd.elsX (H:Hd w0 F0 w As Rs) (hS:∀ F,(∀ A∈As,A.P w F)→(∀ R∈Rs,R.P w F)→(Ac (flat enc sz hp hl h1) (.slice A m c) xs).P w F) {i:Nat} {x:α} (hx:xs[i]?=some x) {p:Nat} (hpj:Ba A+i*sz=p):∀ q v,(enc x)[q]?=some v→w.cell? ((⟨Et A,p,none⟩:Addr).add q)=some v:=by
 intro q v hq
 rw [EK]
 exact H.elX hS hx hq (by rw [hpj])
end
section
variable {pv:Value} {key:ByteArray} {vv:Value} {fuel pos steps:Int} {halted:Bool} {sv:Value} {g:Nat→A9} {tv mv:Value}
theorem Q2 {k:Nat} (h:k<8):k=0∨k=1∨k=2∨k=3∨k=4∨k=5∨k=6∨k=7:=by omega
theorem bY {k:Nat} (h:k<8):(((Bn pv key vv fuel pos steps halted sv g tv mv).drop (8+k*3)).take 3)=Ku (g k):=by
 rcases Q2 h with rfl|rfl|rfl|rfl|rfl|rfl|rfl|rfl<;>rfl
theorem bZ {k:Nat} (h:k<8) (v:A9):E5 (Bn pv key vv fuel pos steps halted sv g tv mv) (8+k*3) (Ku v)=Bn pv key vv fuel pos steps halted sv (I7 g k v) tv mv:=by
 rcases Q2 h with rfl|rfl|rfl|rfl|rfl|rfl|rfl|rfl<;>rfl
end
def At {α:Type} (d:Kd α):Kd (Value×List α) where
 sz:=1
 O w F x cs:=cs=[x.1]∧(BU d).O w F x.2 [x.1]
 R w F x cs:=cs=[x.1]∧(BU d).R w F x.2 [x.1]
 O_loc h hk:=⟨h.1,(BU d).O_loc h.2 hk⟩
 O_mono h hk:=⟨h.1,(BU d).O_mono h.2 hk⟩
 R_loc h hk:=⟨h.1,(BU d).R_loc h.2 hk⟩
 R_mono h hk:=⟨h.1,(BU d).R_mono h.2 hk⟩
 O_R h:=⟨h.1,(BU d).O_R h.2⟩
 len h:=by rw [h.1];rfl
 one h:=fun c hc=>(BU d).one h.2 c (h.1▸hc)
 pos:=Nat.one_pos
section
variable {w w0:World} {F F0:AU} {As Rs:List SP} {α:Type} {d:Kd α} {A:Option Addr} {m c:Nat} {us:List (Value×List α)}
theorem Mw (h:(Ac (At d) (.slice A m c) us).P w F) {i:Nat} {x:Value×List α} (hx:us[i]?=some x):
  FZ A∧w.cell? ⟨Et A,Ba A+i*1,none⟩=some x.1∧(Ac d x.1 x.2).P w F:=by
 obtain ⟨b,off,cs,e,hl,hc,h1,h2⟩:=JV h hx
 subst h1 e
 exact ⟨rfl,hc 0 x.1 rfl,h2⟩
theorem JJ (h:(Ac (At d) (.slice A m c) us).P w F) {i:Nat} {u:Value} {x:List α} (hx:us[i]?=some (u,x)):(Ac d u x).P w F:=(Mw h hx).2.2
theorem Hd.thRd (H:Hd w0 F0 w As Rs) (j:Nat) (hj:Rs[j]?=some (Ac (At d) (.slice A m c) us)) {i:Nat} {x:Value×List α} (hx:us[i]?=some x):FZ A:=H.factR (List.mem_of_getElem? hj) fun _ h=>(Mw h hx).1
theorem Hd.elRd (H:Hd w0 F0 w As Rs) (j:Nat) (hj:Rs[j]?=some (Ac (At d) (.slice A m c) us)) {i:Nat} {u:Value} {x:List α} (hx:us[i]?=some (u,x)) {p:Nat} (hp:Ba A+i*1=p):w.cell? ⟨Et A,p,none⟩=some u:=by
 subst hp
 exact H.factR (List.mem_of_getElem? hj) fun _ h=>(Mw h hx).2.1
theorem Hd.nestR (H:Hd w0 F0 w As Rs) (j:Nat) (hj:Rs[j]?=some (Ac (At d) (.slice A m c) us)) {i:Nat} {u:Value} {x:List α} (hx:us[i]?=some (u,x)):∃ A' c',u=.slice A' x.length c'∧x.length≤c'∧c'≤9223372036854775807:=by
 refine H.factR (List.mem_of_getElem? hj) fun _ h=>?_
 obtain ⟨A',c',e,h1,h2,_⟩:=Ee (JJ h hx)
 exact ⟨A',c',e,h1,h2⟩
theorem Hd.pickR (is:List Nat) (H:Hd w0 F0 w As Rs):Hd w0 F0 w As (is.filterMap fun i=>Rs[i]?):=H.subR fun R hR=>by
 obtain ⟨i,_,hi⟩:=List.mem_filterMap.1 hR
 exact List.mem_of_getElem? hi
theorem Hd.dropR {R:SP} (H:Hd w0 F0 w As (R::Rs)):Hd w0 F0 w As Rs:=H.subR fun _ hR=>List.mem_cons_of_mem _ hR
theorem Hd.dupR {R:SP} (H:Hd w0 F0 w As Rs) (j:Nat) (hj:Rs[j]?=some R):Hd w0 F0 w As (R::Rs):=H.addR fun _ h=>h _ (List.mem_of_getElem? hj)
theorem Hd.sufR {xs:List α} (H:Hd w0 F0 w As Rs) (j:Nat) (hj:Rs[j]?=some (Ac d (.slice A m c) xs)) {n:Nat} (hn:n≤m):Hd w0 F0 w As (Ac d (.slice (D7 A c n d.sz) (m - n) (c - n)) (xs.drop n)::Rs):=
 H.addR fun _ h=>I5 (h _ (List.mem_of_getElem? hj)) hn
theorem Sq:∀ {xs:List (List α)} {cs:List Value},Be (BU d) w F xs cs→∃ us:List (Value×List α),us.map (·.2)=xs∧Be (At d) w F us cs
 |[],_,h=>⟨[],rfl,h⟩
 |x::xs,_,⟨c,cs',e,h1,h2⟩=>by
  obtain ⟨us,rfl,hu⟩:=Sq h2
  obtain ⟨A',n',c',rfl,h3⟩:=h1
  exact ⟨(.slice A' n' c',x)::us,rfl,_,_,e,⟨rfl,_,_,_,rfl,h3⟩,hu⟩
theorem Hd.heads {v:Value} {xs:List (List α)} (H:Hd w0 F0 w As Rs) (j:Nat) (hj:Rs[j]?=some (Ac (BU d) v xs)):∃ us:List (Value×List α),us.map (·.2)=xs∧Hd w0 F0 w As (Ac (At d) v us::Rs):=by
 obtain ⟨F,G,s,r,dj,f,g,u⟩:=H
 obtain ⟨A',n',c',e,h1,h2,h3,cs,h4,h5⟩:=r _ (List.mem_of_getElem? hj)
 obtain ⟨us,rfl,hu⟩:=Sq h5
 refine ⟨us,rfl,F,G,s,?_,dj,f,g,u⟩
 intro R hR
 cases hR with
 |head=>exact ⟨A',n',c',e,by rw [←h1,List.length_map],h2,h3,cs,h4,hu⟩
 |tail _ hm=>exact r R hm
theorem Sp:∀ {us:List (Value×List α)},(∀ p∈us,(Ac d p.1 p.2).P w F)→Be (At d) w F us (us.map (·.1))
 |[],_=>rfl
 |p::us,h=>⟨[p.1],us.map (·.1),rfl,⟨rfl,h p (List.mem_cons_self ..)⟩,Sp fun q hq=>h q (List.mem_cons_of_mem _ hq)⟩
end
section
variable {P:Program} {ops:Array Oper} {Q:Exit→Act→World→Prop} {rest:List Oper} {n:Nat} {l:BV} {w0 w:World} {F0:AU} {o:Oper} {As Rs:List SP} {x y:Operand} {t:TypeId}
theorem I6 {α:Type} {d:Kd α} {e bytes et b:Nat} {z u v':Value} {us:List (Value×List α)} {ys:List α}
  (hg:gd ops l o=some true) (hd:C3 n o.dst=true) (ho:o.op=.call { callee:=.builtin .append,args:=#[x,y],argTypes:=#[t,t] }) (hs:Ds P t=some (e,1,bytes)) (hz:Du P e=some z) (hzs:z.cells.size=1) (hb0:0<bytes)
  (hx:ev l x=some u) (hy:ev l y=some (.slice (some ⟨b,0,none⟩) 1 1)) (H:Hd w0 F0 w (Y (At d) u us::blk b [v'] et::Y d v' ys::As) Rs) (hb:(us.length+1)*bytes≤140737488355328)
  (h:∀ u' w',Hd w0 F0 w' (Y (At d) u' (us++[(v',ys)])::As) Rs→WL P ops Q rest n (CL l o.dst u') w'):WL P ops Q (o::rest) n l w:=by
 have H1:Hd w0 F0 w ([blk b [v'] et,Y d v' ys]++(Y (At d) u us::As)) Rs:=H.perm ((List.Perm.swap _ _ _).trans ((List.Perm.swap _ _ _).cons _))
 have H2:=H1.shut (A:=B0 [blk b [v'] et,Y d v' ys]) (fun F hF=>hF)
 have H3:=H2.perm (List.Perm.swap _ _ _)
 refine cJ (d:=At d) (ys:=[(v',ys)]) hg hd ho hs hz hzs hb0 hx hy H3 hb U ?_ h
 rintro F ⟨F1,F2,h1,h2,h3,hbk,G1,G2,g1,g2,g3,hos,_⟩
 refine ⟨[v'],⟨trivial,.inr ⟨b,0,_,_,_,rfl,h1 b hbk.1,hbk.2,by simp⟩⟩,?_⟩
 exact ⟨F2,none_,[v'],[],h2,fun _ q=>q.elim,fun _ _ q=>q,rfl,⟨rfl,(BU d).O_mono hos g1⟩,rfl⟩
end
theorem MW (a b:ByteArray):By a b=decide (a.data.toList<b.data.toList):=Proofs.bytesLess_eq _ _
theorem HG (a:ByteArray):By a a=false:=by
 rw [MW]
 exact decide_eq_false (List.lt_irrefl _)
theorem Q4 {a b c:ByteArray} (h1:By a b=true) (h2:By b c=true):By a c=true:=by
 rw [MW] at *
 exact decide_eq_true (List.lt_trans (of_decide_eq_true h1) (of_decide_eq_true h2))
theorem KP {a b:ByteArray} (h1:By a b=true):By b a=false:=by
 cases h:By b a with
 |false=>rfl
 |true=>have:=Q4 h1 h;rw [HG] at this;cases this
theorem MV {a b:ByteArray} (h1:By a b=false) (h2:By b a=false):a=b:=by
 rw [MW] at *
 have h1:=of_decide_eq_false h1
 have h2:=of_decide_eq_false h2
 exact toList_inj (List.le_antisymm h2 h1)
theorem GN {a b c:ByteArray} (h1:By b a=false) (h2:By c b=false):By c a=false:=by
 cases h:By c a with
 |false=>rfl
 |true=>
  cases h3:By a b with
  |true=>have:=Q4 h h3;rw [this] at h2;cases h2
  |false=>
   have:=MV h3 h1
   subst this
   rw [h] at h2
   cases h2
theorem Q3 {a b c:ByteArray} (h1:By a b=true) (h2:By c b=false):By a c=true:=by
 cases h:By a c with
 |true=>rfl
 |false=>have:=GN h2 h;rw [this] at h1;cases h1
theorem Yc {a b c:ByteArray} (h1:By b a=false) (h2:By b c=true):By a c=true:=by
 cases h:By a c with
 |true=>rfl
 |false=>have:=GN h h1;rw [this] at h2;cases h2
def Co (xs ys:List Aq):Prop:=xs.length=ys.length∧∀ k:ByteArray,xs.filter (fun p=>decide (p.key=k))=ys.filter (fun p=>decide (p.key=k))
theorem Co.refl (xs:List Aq):Co xs xs:=⟨rfl,fun _=>rfl⟩
theorem Co.trans {xs ys zs:List Aq} (h1:Co xs ys) (h2:Co ys zs):Co xs zs:=⟨h1.1.trans h2.1,fun k=>(h1.2 k).trans (h2.2 k)⟩
theorem Co.symm {xs ys:List Aq} (h1:Co xs ys):Co ys xs:=⟨h1.1.symm,fun k=>(h1.2 k).symm⟩
theorem Co.append {a b c d:List Aq} (h1:Co a b) (h2:Co c d):Co (a++c) (b++d):=
 ⟨by rw [List.length_append,List.length_append,h1.1,h2.1],fun k=>by rw [List.filter_append,List.filter_append,h1.2,h2.2]⟩
theorem Co.mem {xs ys:List Aq} (h:Co xs ys) {p:Aq} (hp:p∈xs):p∈ys:=by
 have:p∈xs.filter (fun q=>decide (q.key=p.key)):=List.mem_filter.2 ⟨hp,by simp⟩
 rw [h.2] at this
 exact (List.mem_filter.1 this).1
def Dd (xs:List Aq):Prop:=xs.Pairwise fun p q=>By q.key p.key=false
instance (xs:List Aq):Decidable (Dd xs):=by unfold Dd;infer_instance
def ins (p:Aq):List Aq→List Aq
 |[]=>[p]
 |q::l=>if By q.key p.key=true then q::ins p l else p::q::l
def srt:List Aq→List Aq
 |[]=>[]
 |p::l=>ins p (srt l)
theorem Qd {p q:Aq}:∀ {l:List Aq},q∈ins p l↔q=p∨q∈l
 |[]=>by simp [ins]
 |r::l=>by
  unfold ins
  split
  ·rw [List.mem_cons,Qd,List.mem_cons]
   constructor<;>(rintro (h|h|h)<;>simp [h])
  ·simp
theorem Qe {p:Aq}:∀ {l:List Aq},Dd l→Dd (ins p l)
 |[],_=>by simp [ins,Dd]
 |q::l,h=>by
  have h':=List.pairwise_cons.1 h
  unfold ins
  split
  ·rename_i hlt
   refine List.pairwise_cons.2 ⟨fun r hr=>?_,Qe h'.2⟩
   rcases Qd.1 hr with rfl|hr
   ·exact KP hlt
   ·exact h'.1 r hr
  ·rename_i hlt
   have hlt:By q.key p.key=false:=by simpa using hlt
   refine List.pairwise_cons.2 ⟨fun r hr=>?_,h⟩
   rcases List.mem_cons.1 hr with rfl|hr
   ·exact hlt
   ·exact GN hlt (h'.1 r hr)
theorem Qf {p:Aq}:∀ {l:List Aq},Co (p::l) (ins p l)
 |[]=>Co.refl _
 |q::l=>by
  unfold ins
  split
  ·rename_i hlt
   have hne:p.key≠q.key:=fun e=>by rw [e,HG] at hlt;cases hlt
   have h1:Co (p::q::l) (q::p::l):=by
    refine ⟨by simp,fun k=>?_⟩
    by_cases hp:p.key=k
    ·have:¬ q.key=k:=fun e=>hne (hp.trans e.symm)
     simp [hp,this]
    ·simp [List.filter_cons,hp]
   exact h1.trans (Co.append (Co.refl [q]) (Qf (p:=p) (l:=l)))
  ·exact Co.refl _
theorem J3:∀ l:List Aq,Dd (srt l)
 |[]=>List.Pairwise.nil
 |_::l=>Qe (J3 l)
theorem GV:∀ l:List Aq,Co l (srt l)
 |[]=>Co.refl _
 |p::l=>(Co.append (Co.refl [p]) (GV l)).trans Qf
theorem RL:∀ {xs ys:List Aq},Dd xs→Dd ys→Co xs ys→xs=ys
 |[],ys,_,_,h=>(List.eq_nil_of_length_eq_zero h.1.symm).symm
 |x::xs,[],_,_,h=>by cases h.1
 |x::xs,y::ys,hx,hy,h=>by
  have hx':=List.pairwise_cons.1 hx
  have hy':=List.pairwise_cons.1 hy
  have hk:x.key=y.key:=by
   refine MV ?_ ?_
   ·rcases List.mem_cons.1 (h.mem (List.mem_cons_self ..):x∈y::ys) with e|hm
    ·rw [e,HG]
    ·exact hy'.1 x hm
   ·rcases List.mem_cons.1 (h.symm.mem (List.mem_cons_self ..):y∈x::xs) with e|hm
    ·rw [e,HG]
    ·exact hx'.1 y hm
  have he:=h.2 x.key
  rw [List.filter_cons_of_pos (by simp),List.filter_cons_of_pos (by simp [hk])] at he
  obtain ⟨rfl,_⟩:=List.cons.inj he
  rw [RL hx'.2 hy'.2 ⟨by simpa using h.1,fun k=>?_⟩]
  have hk2:=h.2 k
  by_cases hxk:x.key=k
  ·rw [List.filter_cons_of_pos (by simp [hxk]),List.filter_cons_of_pos (by simp [hxk])] at hk2
   exact (List.cons.inj hk2).2
  ·rw [List.filter_cons_of_neg (by simp [hxk]),List.filter_cons_of_neg (by simp [hxk])] at hk2
   exact hk2
theorem J1 {xs ys:List Aq} (h:Co xs ys) (ho:Dd ys):ys=srt xs:=RL ho (J3 xs) (h.symm.trans (GV xs))
theorem SR {xs:List Aq} (ho:Dd xs):srt xs=xs:=(J1 (Co.refl xs) ho).symm
theorem dK {xs ys:List Aq} (h:Co xs ys):srt xs=srt ys:=(J1 (h.trans (GV ys)) (J3 ys)).symm
theorem GU (xs:List Aq):(srt xs).length=xs.length:=(GV xs).1.symm
def C_ (xs ys:List Aq) (f:Nat→Nat):Prop:=ys.length=xs.length∧∀ t,ys[t]?=xs[f t]?
def FD (a b n t:Nat):Nat:=if a≤t∧t<a+n then t+(b - a) else if b≤t∧t<b+n then t - (b - a) else t
def BB (a m b t:Nat):Nat:=if a≤t∧t<a+(b - m) then t+(m - a) else if a+(b - m)≤t∧t<b then t - (b - m) else t
theorem LM (xs:List Aq) {f:Nat→Nat} (h:∀ t,f t=t):C_ xs xs f:=⟨rfl,fun t=>by rw [h]⟩
theorem fH {xs ys:List Aq} {a b k:Nat} {x y:Aq} (hab:a+k<b) (h:C_ xs ys (FD a b k)) (hx:ys[a+k]?=some x) (hy:ys[b+k]?=some y):
  C_ xs ((ys.set (a+k) y).set (b+k) x) (FD a b (k+1)):=by
 have l1:a+k<ys.length:=(List.getElem?_eq_some_iff.1 hx).1
 have l2:b+k<ys.length:=(List.getElem?_eq_some_iff.1 hy).1
 refine ⟨by simpa using h.1,fun t=>?_⟩
 rw [List.getElem?_set,List.getElem?_set]
 have hx':=h.2 (a+k)
 have hy':=h.2 (b+k)
 rw [hx] at hx'
 rw [hy] at hy'
 by_cases h1:b+k=t
 ·subst h1
  rw [if_pos rfl,if_pos (by simpa using l2),hx']
  congr 1
  unfold FD
  rw [if_neg (by omega),if_neg (by omega),if_neg (by omega),if_pos (by omega)]
  omega
 ·rw [if_neg h1]
  by_cases h2:a+k=t
  ·subst h2
   rw [if_pos rfl,if_pos l1,hy']
   congr 1
   unfold FD
   rw [if_neg (by omega),if_neg (by omega),if_pos (by omega)]
   omega
  ·rw [if_neg h2,h.2]
   congr 1
   unfold FD
   repeat' split
   all_goals omega
theorem bT {xs ys:List Aq} {m i j:Nat} (him:i≤m) (hj:j<i) (h:C_ xs ys (FD (m - i) m j)):∀ t,xs[BB (m - i) m (m+j) t]?=ys[BB (m - (i - j)) m (m+j) t]?:=by
 intro t
 rw [h.2]
 congr 1
 unfold BB FD
 repeat' split
 all_goals omega
theorem bU {xs ys:List Aq} {m i j:Nat} (him:i≤m) (hj:i<j) (h:C_ xs ys (FD (m - i) (m+j - i) i)):∀ t,xs[BB (m - i) m (m+j) t]?=ys[BB (m - i) m (m+(j - i)) t]?:=by
 intro t
 rw [h.2]
 congr 1
 unfold BB FD
 repeat' split
 all_goals omega
theorem bS {m i t:Nat} (him:i≤m):BB (m - i) m (m+i) t=FD (m - i) m i t:=by
 unfold BB FD
 repeat' split
 all_goals omega
theorem fE {xs ys:List Aq} {a m b:Nat} (h:C_ xs ys (BB a m b)) (h1:a≤m) (h2:m≤b) (h3:b≤xs.length):
  ys=xs.take a++((xs.drop m).take (b - m)++((xs.drop a).take (m - a)++xs.drop b)):=by
 apply List.ext_getElem?
 intro t
 rw [h.2]
 unfold BB
 by_cases c1:t<a
 ·rw [if_neg (by omega),if_neg (by omega),List.getElem?_append_left (by simp;omega),List.getElem?_take,if_pos c1]
 rw [List.getElem?_append_right (by simp;omega)]
 have e1:(xs.take a).length=a:=by simp;omega
 rw [e1]
 by_cases c2:t<a+(b - m)
 ·rw [if_pos (by omega),List.getElem?_append_left (by simp;omega),List.getElem?_take,if_pos (by omega),List.getElem?_drop]
  congr 1
  omega
 rw [List.getElem?_append_right (by simp;omega),if_neg (by omega)]
 have e2:((xs.drop m).take (b - m)).length=b - m:=by simp;omega
 rw [e2]
 by_cases c3:t<b
 ·rw [if_pos (by omega),List.getElem?_append_left (by simp;omega),List.getElem?_take,if_pos (by omega),List.getElem?_drop]
  congr 1
  omega
 rw [List.getElem?_append_right (by simp;omega),if_neg (by omega)]
 have e3:((xs.drop a).take (m - a)).length=m - a:=by simp;omega
 rw [e3,List.getElem?_drop]
 congr 1
 omega
theorem UE {xs:List Aq} {a m b:Nat} (h1:a≤m) (h2:m≤b):xs=xs.take a++((xs.drop a).take (m - a)++((xs.drop m).take (b - m)++xs.drop b)):=by
 have e1:(xs.drop m).take (b - m)++xs.drop b=xs.drop m:=by
  have:=List.take_append_drop (b - m) (xs.drop m)
  rwa [List.drop_drop,show m+(b - m)=b by omega] at this
 have e2:(xs.drop a).take (m - a)++xs.drop m=xs.drop a:=by
  have:=List.take_append_drop (m - a) (xs.drop a)
  rwa [List.drop_drop,show a+(m - a)=m by omega] at this
 rw [e1,e2,List.take_append_drop]
theorem Sy {xs ys:List Aq} {a m b:Nat} (h:C_ xs ys (BB a m b)) (h1:a≤m) (h2:m≤b) (h3:b≤xs.length)
  (hne:∀ p q x y,a≤p→p<m→m≤q→q<b→xs[p]?=some x→xs[q]?=some y→x.key≠y.key):Co xs ys:=by
 refine ⟨h.1.symm,fun k=>?_⟩
 rw [fE h h1 h2 h3]
 conv=>lhs;rw [UE (xs:=xs) h1 h2]
 simp only [List.filter_append]
 congr 1
 rw [←List.append_assoc,←List.append_assoc]
 congr 1
 by_cases hk:∃ x∈(xs.drop a).take (m - a),x.key=k
 ·obtain ⟨x,hx,hxk⟩:=hk
  obtain ⟨p,hp⟩:=List.getElem?_of_mem hx
  have hpl:p<m - a:=by
   have:=(List.getElem?_eq_some_iff.1 hp).1
   simp at this
   omega
  rw [List.getElem?_take,if_pos hpl,List.getElem?_drop] at hp
  have:(((xs.drop m).take (b - m)).filter fun p=>decide (p.key=k))=[]:=by
   rw [List.filter_eq_nil_iff]
   intro y hy
   obtain ⟨q,hq⟩:=List.getElem?_of_mem hy
   have hql:q<b - m:=by
    have:=(List.getElem?_eq_some_iff.1 hq).1
    simp at this
    omega
   rw [List.getElem?_take,if_pos hql,List.getElem?_drop] at hq
   have:=hne (a+p) (m+q) x y (by omega) (by omega) (by omega) (by omega) hp hq
   simp only [decide_eq_true_eq]
   exact fun e=>this (hxk.trans e.symm)
  rw [this,List.append_nil,List.nil_append]
 ·have:(((xs.drop a).take (m - a)).filter fun p=>decide (p.key=k))=[]:=by
   rw [List.filter_eq_nil_iff]
   intro x hx
   simp only [decide_eq_true_eq]
   exact fun e=>hk ⟨x,hx,e⟩
  rw [this,List.append_nil,List.nil_append]
def Cc (xs:List Aq) (a b:Nat):Prop:=∀ p q x y,a≤p→p<q→q<b→xs[p]?=some x→xs[q]?=some y→By y.key x.key=false
def Er (xs ys:List Aq) (a b:Nat):Prop:=ys.length=xs.length∧(∀ t,t<a∨b≤t→ys[t]?=xs[t]?)∧∀ t,a≤t→t<b→∃ u,a≤u∧u<b∧ys[t]?=xs[u]?
theorem Er.refl (xs:List Aq) (a b:Nat):Er xs xs a b:=⟨rfl,fun _ _=>rfl,fun t h1 h2=>⟨t,h1,h2,rfl⟩⟩
theorem Er.trans {xs ys zs:List Aq} {a b:Nat} (h1:Er xs ys a b) (h2:Er ys zs a b):Er xs zs a b:=by
 refine ⟨h2.1.trans h1.1,fun t ht=>(h2.2.1 t ht).trans (h1.2.1 t ht),fun t ha hb=>?_⟩
 obtain ⟨u,u1,u2,e⟩:=h2.2.2 t ha hb
 obtain ⟨u',u1',u2',e'⟩:=h1.2.2 u u1 u2
 exact ⟨u',u1',u2',e.trans e'⟩
theorem Er.wider {xs ys:List Aq} {a b a' b':Nat} (h:Er xs ys a b) (ha:a'≤a) (hb:b≤b'):Er xs ys a' b':=by
 refine ⟨h.1,fun t ht=>h.2.1 t (by omega),fun t h1 h2=>?_⟩
 by_cases c:a≤t∧t<b
 ·obtain ⟨u,u1,u2,e⟩:=h.2.2 t c.1 c.2
  exact ⟨u,by omega,by omega,e⟩
 ·exact ⟨t,h1,h2,h.2.1 t (by omega)⟩
theorem Sx {xs ys:List Aq} {a m b:Nat} (h:C_ xs ys (BB a m b)) (h1:a≤m) (h2:m≤b):Er xs ys a b:=by
 refine ⟨h.1,fun t ht=>?_,fun t ha hb=>⟨BB a m b t,?_,?_,h.2 t⟩⟩
 ·rw [h.2,show BB a m b t=t by unfold BB;rw [if_neg (by omega),if_neg (by omega)]]
 ·unfold BB;split<;>(try split)<;>omega
 ·unfold BB;split<;>(try split)<;>omega
theorem Cc.same {xs ys:List Aq} {a b:Nat} (h:Cc xs a b) (he:∀ t,a≤t→t<b→ys[t]?=xs[t]?):Cc ys a b:=
 fun p q x y h1 h2 h3 hx hy=>h p q x y h1 h2 h3 ((he p h1 (by omega)).symm.trans hx) ((he q (by omega) h3).symm.trans hy)
theorem Cc.sub {xs:List Aq} {a b a' b':Nat} (h:Cc xs a b) (ha:a≤a') (hb:b'≤b):Cc xs a' b':=
 fun p q x y h1 h2 h3=>h p q x y (by omega) h2 (by omega)
theorem Cc.one (xs:List Aq) {a b:Nat} (h:b≤a+1):Cc xs a b:=fun p q x y h1 h2 h3=>by omega
theorem Cc.ord {xs:List Aq} (h:Cc xs 0 xs.length):Dd xs:=by
 unfold Dd
 rw [List.pairwise_iff_getElem]
 intro i j hi hj hij
 exact h i j _ _ (by omega) hij hj (List.getElem?_eq_getElem hi) (List.getElem?_eq_getElem hj)
structure C9 (xs ys:List Aq) (a b:Nat):Prop where
 stab:Co xs ys
 ins:Er xs ys a b
 srt:Cc ys a b
theorem dW {xs:List Aq} {j:Nat} {x y:Aq} (hx:xs[j]?=some x) (hy:xs[j+1]?=some y) (hlt:By y.key x.key=true):Co xs ((xs.set (j+1) x).set j y)∧Er xs ((xs.set (j+1) x).set j y) j (j+2):=by
 have l1:j+1<xs.length:=(List.getElem?_eq_some_iff.1 hy).1
 have hv:C_ xs ((xs.set (j+1) x).set j y) (BB j (j+1) (j+2)):=by
  refine ⟨by simp,fun t=>?_⟩
  rw [List.getElem?_set,List.getElem?_set]
  unfold BB
  by_cases c1:j=t
  ·subst c1
   rw [if_pos rfl,if_pos (by simp;omega),if_pos (by omega),show j+(j+1 - j)=j+1 by omega,hy]
  ·rw [if_neg c1]
   by_cases c2:j+1=t
   ·subst c2
    rw [if_pos rfl,if_pos l1,if_neg (by omega),if_pos (by omega),show j+1 - (j+2 - (j+1))=j by omega,hx]
   ·rw [if_neg c2,if_neg (by omega),if_neg (by omega)]
 refine ⟨Sy hv (by omega) (by omega) (by omega) fun p q u v h1 h2 h3 h4 hu hw=>?_,Sx hv (by omega) (by omega)⟩
 obtain rfl:p=j:=by omega
 obtain rfl:q=p+1:=by omega
 rw [hx] at hu
 rw [hy] at hw
 obtain rfl:=Option.some.inj hu
 obtain rfl:=Option.some.inj hw
 intro e
 rw [e,HG] at hlt
 cases hlt
def G3 (xs:List Aq) (a b j:Nat):Prop:=∀ p q x y,a≤p→p<q→q<b→q≠j→xs[p]?=some x→xs[q]?=some y→By y.key x.key=false
theorem T3 {xs:List Aq} {a i:Nat} (h:Cc xs a i):G3 xs a (i+1) i:=fun p q x y h1 h2 h3 h4=>h p q x y h1 h2 (by omega)
theorem T2 {xs:List Aq} {a b:Nat} (h:G3 xs a b a):Cc xs a b:=fun p q x y h1 h2 h3=>h p q x y h1 h2 h3 (by omega)
theorem T6 {xs:List Aq} {a b j:Nat} {x y:Aq} (h:G3 xs a b (j+1)) (ha:a≤j) (hx:xs[j]?=some x) (hy:xs[j+1]?=some y) (hlt:By y.key x.key=false):Cc xs a b:=by
 intro p q u v h1 h2 h3 hu hv
 by_cases c:q=j+1
 ·subst c
  rw [hy] at hv
  obtain rfl:=Option.some.inj hv
  by_cases c2:p=j
  ·subst c2
   rw [hx] at hu
   obtain rfl:=Option.some.inj hu
   exact hlt
  ·exact GN (h p j u x h1 (by omega) (by omega) (by omega) hu hx) hlt
 ·exact h p q u v h1 h2 h3 c hu hv
theorem T4 {xs:List Aq} {a b j:Nat} {x y:Aq} (h:G3 xs a b (j+1)) (ha:a≤j) (hx:xs[j]?=some x) (hy:xs[j+1]?=some y) (hlt:By y.key x.key=true) (hb:j+1<b):G3 ((xs.set (j+1) x).set j y) a b j:=by
 have l1:j+1<xs.length:=(List.getElem?_eq_some_iff.1 hy).1
 have g:∀ t u,((xs.set (j+1) x).set j y)[t]?=some u→(t=j∧u=y)∨(t=j+1∧u=x)∨(t≠j∧t≠j+1∧xs[t]?=some u):=by
  intro t u ht
  rw [List.getElem?_set,List.getElem?_set] at ht
  by_cases c1:j=t
  ·rw [if_pos c1,if_pos (by simp;omega)] at ht
   exact .inl ⟨c1.symm,(Option.some.inj ht).symm⟩
  ·rw [if_neg c1] at ht
   by_cases c2:j+1=t
   ·rw [if_pos c2,if_pos l1] at ht
    exact .inr (.inl ⟨c2.symm,(Option.some.inj ht).symm⟩)
   ·rw [if_neg c2] at ht
    exact .inr (.inr ⟨Ne.symm c1,Ne.symm c2,ht⟩)
 intro p q u v h1 h2 h3 h4 hu hv
 rcases g q v hv with ⟨rfl,_⟩|⟨rfl,rfl⟩|⟨q1,q2,hq⟩
 ·exact absurd U h4
 ·rcases g p u hu with ⟨rfl,rfl⟩|⟨rfl,_⟩|⟨p1,p2,hp⟩
  ·exact KP hlt
  ·omega
  ·exact h p j u v h1 (by omega) (by omega) (by omega) hp hx
 ·rcases g p u hu with ⟨rfl,rfl⟩|⟨rfl,rfl⟩|⟨p1,p2,hp⟩
  ·exact h (p+1) q u v (by omega) (by omega) h3 q2 hy hq
  ·exact h j q u v (by omega) (by omega) h3 q2 hx hq
  ·exact h p q u v h1 h2 h3 q2 hp hq
theorem Cc.le {xs:List Aq} {a b p q:Nat} {x y:Aq} (h:Cc xs a b) (h1:a≤p) (h2:p≤q) (h3:q<b) (hx:xs[p]?=some x) (hy:xs[q]?=some y):By y.key x.key=false:=by
 rcases Nat.lt_or_ge p q with h'|h'
 ·exact h p q x y h1 h' h3 hx hy
 ·obtain rfl:p=q:=by omega
  rw [hx] at hy
  obtain rfl:=Option.some.inj hy
  exact HG _
theorem Lq {xs ys:List Aq} {a m b s mid e:Nat} (hv:C_ xs ys (BB s m e)) (h1:a≤s) (h2:s≤m) (h3:m≤e) (h4:e≤b) (hmid:mid=s+(e - m)) (hl:Cc xs a m) (hr:Cc xs m b):
  Cc ys a s∧Cc ys s mid∧Cc ys mid e∧Cc ys e b:=by
 subst hmid
 refine ⟨?_,?_,?_,?_⟩
 ·refine (hl.sub (Nat.le_refl _) h2).same fun t ht1 ht2=>?_
  rw [hv.2,show BB s m e t=t by unfold BB;rw [if_neg (by omega),if_neg (by omega)]]
 ·intro p q x y p1 p2 p3 hx hy
  rw [hv.2,show BB s m e p=p+(m - s) by unfold BB;rw [if_pos (by omega)]] at hx
  rw [hv.2,show BB s m e q=q+(m - s) by unfold BB;rw [if_pos (by omega)]] at hy
  exact hr _ _ x y (by omega) (by omega) (by omega) hx hy
 ·intro p q x y p1 p2 p3 hx hy
  rw [hv.2,show BB s m e p=p - (e - m) by unfold BB;rw [if_neg (by omega),if_pos (by omega)]] at hx
  rw [hv.2,show BB s m e q=q - (e - m) by unfold BB;rw [if_neg (by omega),if_pos (by omega)]] at hy
  exact hl _ _ x y (by omega) (by omega) (by omega) hx hy
 ·refine (hr.sub h3 (Nat.le_refl _)).same fun t ht1 ht2=>?_
  rw [hv.2,show BB s m e t=t by unfold BB;rw [if_neg (by omega),if_neg (by omega)]]
theorem C9.refl {xs:List Aq} {a b:Nat} (h:Cc xs a b):C9 xs xs a b:=⟨Co.refl _,Er.refl _ _ _,h⟩
theorem HR {xs:List Aq} {a s mid:Nat} (h1:Cc xs a s) (h2:Cc xs s mid) (h:¬ (a<s∧s<mid)) (hs:a≤s):Cc xs a mid:=by
 rcases Nat.lt_or_ge a s with c|c
 ·exact h1.sub (Nat.le_refl _) (by omega)
 ·exact h2.sub (by omega) (Nat.le_refl _)
theorem HI {xs ys zs ws:List Aq} {a m b s mid e:Nat} (hv:C_ xs ys (BB s m e)) (h1:a≤s) (h2:s≤m) (h3:m≤e) (h4:e≤b) (hb:b≤xs.length) (hmid:mid=s+(e - m)) (hl:Cc xs a m) (hr:Cc xs m b)
  (hlow:s=a∨e=b∨∃ u v,xs[s - 1]?=some u∧xs[e]?=some v∧By v.key u.key=false)
  (hup:s=m∨e=m∨∃ u v,xs[e - 1]?=some u∧xs[s]?=some v∧By u.key v.key=true)
  (hz:C9 ys zs a mid) (hw:C9 zs ws mid b):C9 xs ws a b:=by
 have hkey:∀ p q x y,s≤p→p<m→m≤q→q<e→xs[p]?=some x→xs[q]?=some y→By y.key x.key=true:=by
  intro p q x y p1 p2 q1 q2 hx hy
  rcases hup with c|c|⟨u,v,hu,hv',hlt⟩
  ·omega
  ·omega
  ·exact Q3 (Yc (hr.le (p:=q) (q:=e - 1) q1 (by omega) (by omega) hy hu) hlt) (hl.le (p:=s) (q:=p) h1 p1 p2 hv' hx)
 have s1:Co xs ys:=Sy hv h2 h3 (by omega) fun p q x y p1 p2 q1 q2 hx hy e=>by
  have:=hkey p q x y p1 p2 q1 q2 hx hy
  rw [e,HG] at this
  cases this
 have i1:Er xs ys a b:=(Sx hv h2 h3).wider h1 h4
 have hm1:s≤mid:=by omega
 have hm2:mid≤e:=by omega
 refine ⟨s1.trans (hz.stab.trans hw.stab),i1.trans ((hz.ins.wider (Nat.le_refl _) (by omega)).trans (hw.ins.wider (by omega) (Nat.le_refl _))),fun p q x y p1 p2 p3 hx hy=>?_⟩
 rcases Nat.lt_or_ge q mid with c|c
 ·rw [hw.ins.2.1 p (by omega)] at hx
  rw [hw.ins.2.1 q (by omega)] at hy
  exact hz.srt p q x y p1 p2 c hx hy
 rcases Nat.lt_or_ge p mid with c'|c'
 ·rw [hw.ins.2.1 p (by omega)] at hx
  obtain ⟨u,u1,u2,hu⟩:=hz.ins.2.2 p p1 c'
  rw [hx] at hu
  obtain ⟨t,t1,t2,ht⟩:=hw.ins.2.2 q c p3
  rw [hy,hz.ins.2.1 t (by omega)] at ht
  -- the pair at u of ys is x, the pair at t of ys is y
  have hxu:=hv.2 u
  have hyt:=hv.2 t
  rw [←hu] at hxu
  rw [←ht] at hyt
  rcases Nat.lt_or_ge u s with cu|cu
  ·rw [show BB s m e u=u by unfold BB;rw [if_neg (by omega),if_neg (by omega)]] at hxu
   rcases Nat.lt_or_ge t e with ct|ct
   ·rw [show BB s m e t=t - (e - m) by unfold BB;rw [if_neg (by omega),if_pos (by omega)]] at hyt
    exact hl u _ x y u1 (by omega) (by omega) hxu.symm hyt.symm
   ·rw [show BB s m e t=t by unfold BB;rw [if_neg (by omega),if_neg (by omega)]] at hyt
    rcases hlow with d|d|⟨u',v',hu',hv',hlt⟩
    ·omega
    ·omega
    ·exact GN (hl.le (p:=u) (q:=s - 1) u1 (by omega) (by omega) hxu.symm hu') (GN hlt (hr.le (p:=e) (q:=t) h3 ct t2 hv' hyt.symm))
  ·rw [show BB s m e u=u+(m - s) by unfold BB;rw [if_pos (by omega)]] at hxu
   rcases Nat.lt_or_ge t e with ct|ct
   ·rw [show BB s m e t=t - (e - m) by unfold BB;rw [if_neg (by omega),if_pos (by omega)]] at hyt
    exact KP (hkey _ _ y x (by omega) (by omega) (by omega) (by omega) hyt.symm hxu.symm)
   ·rw [show BB s m e t=t by unfold BB;rw [if_neg (by omega),if_neg (by omega)]] at hyt
    exact hr _ t x y (by omega) (by omega) t2 hxu.symm hyt.symm
 ·exact hw.srt p q x y c' p2 p3 hx hy
theorem YA {xs ys:List Aq} {a b i:Nat} {x:Aq} (hv:C_ xs ys (BB a (a+1) i)) (h1:a+1≤i) (h2:i≤b) (hb:b≤xs.length) (hr:Cc xs (a+1) b) (hx:xs[a]?=some x)
  (hlow:i=a+1∨∃ u,xs[i - 1]?=some u∧By u.key x.key=true) (hup:i=b∨∃ u,xs[i]?=some u∧By u.key x.key=false):C9 xs ys a b:=by
 have hruns:=Lq hv (Nat.le_refl a) (by omega) h1 h2 rfl (Cc.one xs (Nat.le_refl _)) hr
 have e1:a+(i - (a+1))=i - 1:=by omega
 rw [e1] at hruns
 -- low: nothing stands below a; up: what stands below i is below x
 have hs:C9 ys ys a (i - 1):=C9.refl hruns.2.1
 have hyx:ys[i - 1]?=some x:=by rw [hv.2,show BB a (a+1) i (i - 1)=a by unfold BB;rw [if_neg (by omega),if_pos (by omega)];omega,hx]
 have hw:C9 ys ys (i - 1) b:=by
  refine C9.refl fun p q u v p1 p2 p3 hu hw=>?_
  rcases Nat.lt_or_ge p i with c|c
  ·obtain rfl:p=i - 1:=by omega
   rw [hyx] at hu
   obtain rfl:=Option.some.inj hu
   rw [hv.2,show BB a (a+1) i q=q by unfold BB;rw [if_neg (by omega),if_neg (by omega)]] at hw
   rcases hup with d|⟨u',hu',hlt⟩
   ·omega
   ·exact GN hlt (hr.le (p:=i) (q:=q) h1 (by omega) p3 hu' hw)
  ·exact hruns.2.2.2 p q u v c p2 p3 hu hw
 refine HI hv (Nat.le_refl _) (by omega) h1 h2 hb e1.symm (Cc.one xs (Nat.le_refl _)) hr (.inl U) ?_ hs hw
 rcases hlow with d|⟨u,hu,hlt⟩
 ·exact .inr (.inl d)
 ·exact .inr (.inr ⟨u,x,hu,hx,hlt⟩)
theorem YC {xs ys:List Aq} {a m i:Nat} {x:Aq} (hv:C_ xs ys (BB i m (m+1))) (h1:a≤i) (h2:i≤m) (hb:m+1≤xs.length) (hl:Cc xs a m) (hx:xs[m]?=some x)
  (hlow:i=a∨∃ u,xs[i - 1]?=some u∧By x.key u.key=false) (hup:i=m∨∃ u,xs[i]?=some u∧By x.key u.key=true):C9 xs ys a (m+1):=by
 have hruns:=Lq hv h1 h2 (by omega) (Nat.le_refl _) rfl hl (Cc.one xs (by omega))
 have e1:i+(m+1 - m)=i+1:=by omega
 rw [e1] at hruns
 have hyx:ys[i]?=some x:=by rw [hv.2,show BB i m (m+1) i=m by unfold BB;rw [if_pos (by omega)];omega,hx]
 have hs:C9 ys ys a (i+1):=by
  refine C9.refl fun p q u v p1 p2 p3 hu hw=>?_
  rcases Nat.lt_or_ge q i with c|c
  ·exact hruns.1 p q u v p1 p2 c hu hw
  ·obtain rfl:q=i:=by omega
   rw [hyx] at hw
   obtain rfl:=Option.some.inj hw
   rw [hv.2,show BB q m (m+1) p=p by unfold BB;rw [if_neg (by omega),if_neg (by omega)]] at hu
   rcases hlow with d|⟨u',hu',hlt⟩
   ·omega
   ·exact GN (hl.le (p:=p) (q:=q - 1) p1 (by omega) (by omega) hu hu') hlt
 have hw:C9 ys ys (i+1) (m+1):=C9.refl hruns.2.2.1
 refine HI hv h1 h2 (by omega) (Nat.le_refl _) hb e1.symm hl (Cc.one xs (by omega)) (.inr (.inl U)) ?_ hs hw
 rcases hup with d|⟨u,hu,hlt⟩
 ·exact .inl d
 ·exact .inr (.inr ⟨x,u,by rw [show m+1 - 1=m by omega];exact hx,hu,hlt⟩)
theorem JB (n:Nat):((n:Nat):Int).fdiv (2^(min (1:Int).toNat IntKind.u64.bits))=((n / 2:Nat):Int):=by
 have:(2:Int)^(min (1:Int).toNat IntKind.u64.bits)=2:=by decide
 rw [this,Int.fdiv_eq_ediv_of_nonneg _ (by omega)]
 omega
def GH (a b:ByteArray):Int:=if By a b=true then -1 else if By b a=true then 1 else 0
theorem Un {a b:ByteArray} (h:By a b=true):GH a b= -1:=if_pos h
theorem Um {a b:ByteArray} (h:¬ By a b=true) (h2:(!(By a b||decide (a=b)))=true):GH a b=1:=by
 unfold GH
 rw [if_neg h,if_pos]
 cases h3:By b a with
 |true=>rfl
 |false=>
  have:=MV (by simpa using h) h3
  subst this
  simp at h2
theorem Ul {a b:ByteArray} (h:¬ By a b=true) (h2:(!(By a b||decide (a=b)))=false):GH a b=0:=by
 have h':By a b=false:=by simpa using h
 have:a=b:=by simpa [h'] using h2
 subst this
 unfold GH
 rw [if_neg h,if_neg h]
theorem Hx {a b:ByteArray}:GH a b<0↔By a b=true:=by
 unfold GH
 by_cases h:By a b=true
 ·simp [h]
 ·rw [if_neg h]
  by_cases h2:By b a=true
  ·rw [if_pos h2];simp [h]
  ·rw [if_neg h2];simp [h]
theorem IC {a b:ByteArray} (h:¬ GH a b<0):By a b=false:=by
 cases h2:By a b with
 |false=>rfl
 |true=>exact absurd (Hx.2 h2) h
theorem dX {xs:List Aq} {j:Nat} {x y:Aq} (hj:0<j) (hx:xs[j - 1]?=some x) (hy:xs[j]?=some y) (hlt:By y.key x.key=true):Co xs ((xs.set j x).set (j - 1) y)∧Er xs ((xs.set j x).set (j - 1) y) (j - 1) (j+1):=by
 obtain ⟨i,rfl⟩:∃ i,j=i+1:=⟨j - 1,by omega⟩
 exact dW hx hy hlt
theorem T7 {xs:List Aq} {a b j:Nat} {x y:Aq} (h:G3 xs a b j) (hj:a<j) (hx:xs[j - 1]?=some x) (hy:xs[j]?=some y) (hlt:By y.key x.key=false):Cc xs a b:=by
 obtain ⟨i,rfl⟩:∃ i,j=i+1:=⟨j - 1,by omega⟩
 exact T6 h (by omega) hx hy hlt
theorem T5 {xs:List Aq} {a b j:Nat} {x y:Aq} (h:G3 xs a b j) (hj:a<j) (hx:xs[j - 1]?=some x) (hy:xs[j]?=some y) (hlt:By y.key x.key=true) (hb:j<b):G3 ((xs.set j x).set (j - 1) y) a b (j - 1):=by
 obtain ⟨i,rfl⟩:∃ i,j=i+1:=⟨j - 1,by omega⟩
 exact T4 h (by omega) hx hy hlt (by omega)
theorem fI {xs ys:List Aq} {a k:Nat} {x y:Aq} (hk:a≤k) (h:C_ xs ys (BB a (a+1) (k+1))) (hx:ys[k]?=some x) (hy:ys[k+1]?=some y):C_ xs ((ys.set k y).set (k+1) x) (BB a (a+1) (k+1+1)):=by
 have l1:k<ys.length:=(List.getElem?_eq_some_iff.1 hx).1
 have l2:k+1<ys.length:=(List.getElem?_eq_some_iff.1 hy).1
 refine ⟨by simpa using h.1,fun t=>?_⟩
 rw [List.getElem?_set,List.getElem?_set]
 have hx':=h.2 k
 have hy':=h.2 (k+1)
 rw [hx] at hx'
 rw [hy] at hy'
 by_cases c1:k+1=t
 ·subst c1
  rw [if_pos rfl,if_pos (by simpa using l2),hx']
  congr 1
  unfold BB
  repeat' split
  all_goals omega
 ·rw [if_neg c1]
  by_cases c2:k=t
  ·subst c2
   rw [if_pos rfl,if_pos l1,hy']
   congr 1
   unfold BB
   repeat' split
   all_goals omega
  ·rw [if_neg c2,h.2]
   congr 1
   unfold BB
   repeat' split
   all_goals omega
theorem fC {xs ys:List Aq} {m k:Nat} {x y:Aq} (hk:k≤m) (h0:0<k) (h:C_ xs ys (BB k m (m+1))) (hx:ys[k]?=some x) (hy:ys[k - 1]?=some y):C_ xs ((ys.set k y).set (k - 1) x) (BB (k - 1) m (m+1)):=by
 have l1:k<ys.length:=(List.getElem?_eq_some_iff.1 hx).1
 have l2:k - 1<ys.length:=(List.getElem?_eq_some_iff.1 hy).1
 refine ⟨by simpa using h.1,fun t=>?_⟩
 rw [List.getElem?_set,List.getElem?_set]
 have hx':=h.2 k
 have hy':=h.2 (k - 1)
 rw [hx] at hx'
 rw [hy] at hy'
 by_cases c1:k - 1=t
 ·subst c1
  rw [if_pos rfl,if_pos (by simpa using l2),hx']
  congr 1
  unfold BB
  repeat' split
  all_goals omega
 ·rw [if_neg c1]
  by_cases c2:k=t
  ·subst c2
   rw [if_pos rfl,if_pos l1,hy']
   congr 1
   unfold BB
   repeat' split
   all_goals omega
  ·rw [if_neg c2,h.2]
   congr 1
   unfold BB
   repeat' split
   all_goals omega
theorem fF (xs:List Aq) (a:Nat):C_ xs xs (BB a (a+1) (a+1)):=LM xs fun t=>by
 unfold BB
 repeat' split
 all_goals omega
theorem fG (xs:List Aq) (m:Nat):C_ xs xs (BB m m (m+1)):=LM xs fun t=>by
 unfold BB
 repeat' split
 all_goals omega
theorem LL (xs:List Aq) {s m e:Nat} (h:¬ (s<m∧m<e)) (h1:s≤m) (h2:m≤e):C_ xs xs (BB s m e):=LM xs fun t=>by
 unfold BB
 repeat' split
 all_goals omega
theorem fJ {xs ys:List Aq} {a m k:Nat} {x y:Aq} (hm:m=a+1) (hk:a≤k) (h:C_ xs ys (BB a m (k+1))) (hx:ys[k]?=some x) (hy:ys[k+1]?=some y):C_ xs ((ys.set k y).set (k+1) x) (BB a m (k+1+1)):=by
 subst hm
 exact fI hk h hx hy
theorem fD {xs ys:List Aq} {m b k:Nat} {x y:Aq} (hb:b=m+1) (hk:k≤m) (h0:0<k) (h:C_ xs ys (BB k m b)) (hx:ys[k]?=some x) (hy:ys[k - 1]?=some y):C_ xs ((ys.set k y).set (k - 1) x) (BB (k - 1) m b):=by
 subst hb
 exact fC hk h0 h hx hy
theorem YB {xs ys:List Aq} {a m b i:Nat} {x:Aq} (hm:m=a+1) (hv:C_ xs ys (BB a m i)) (h1:m≤i) (h2:i≤b) (hb:b≤xs.length) (hr:Cc xs m b) (hx:xs[a]?=some x)
  (hlow:i=m∨∃ u,xs[i - 1]?=some u∧By u.key x.key=true) (hup:i=b∨∃ u,xs[i]?=some u∧By u.key x.key=false):C9 xs ys a b:=by
 subst hm
 exact YA hv h1 h2 hb hr hx hlow hup
theorem YD {xs ys:List Aq} {a m b i:Nat} {x:Aq} (hm:b=m+1) (hv:C_ xs ys (BB i m b)) (h1:a≤i) (h2:i≤m) (hb:b≤xs.length) (hl:Cc xs a m) (hx:xs[m]?=some x)
  (hlow:i=a∨∃ u,xs[i - 1]?=some u∧By x.key u.key=false) (hup:i=m∨∃ u,xs[i]?=some u∧By x.key u.key=true):C9 xs ys a b:=by
 subst hm
 exact YC hv h1 h2 hb hl hx hlow hup
def D5 (xs:List Aq) (lo hi bs:Nat):Prop:=∀ p q x y,lo≤p→p<q→q<hi→p / bs=q / bs→xs[p]?=some x→xs[q]?=some y→By y.key x.key=false
theorem L3 {c bs p:Nat} (h1:c*bs≤p) (h2:p<(c+1)*bs):p / bs=c:=Nat.div_eq_of_lt_le h1 h2
theorem D5.at {xs:List Aq} {lo hi bs c a b:Nat} (h:D5 xs lo hi bs) (ha:a=c*bs) (hlo:lo≤a) (hb:b≤a+bs) (hh:b≤hi):Cc xs a b:=by
 intro p q x y p1 p2 p3 hx hy
 refine h p q x y (by omega) p2 (by omega) ?_ hx hy
 have:(c+1)*bs=c*bs+bs:=Nat.succ_mul c bs
 rw [L3 (c:=c) (by omega) (by omega),L3 (c:=c) (by omega) (by omega)]
theorem D5.more {xs ys:List Aq} {bs c a b:Nat} (h:D5 xs 0 a bs) (ha:a=c*bs) (hb:b≤a+bs) (hi:Er xs ys a b) (hs:Cc ys a b):D5 ys 0 b bs:=by
 intro p q x y p1 p2 p3 hd hx hy
 have e1:(c+1)*bs=c*bs+bs:=Nat.succ_mul c bs
 rcases Nat.lt_or_ge p a with c1|c1
 ·rcases Nat.lt_or_ge q a with c2|c2
  ·rw [hi.2.1 p (by omega)] at hx
   rw [hi.2.1 q (by omega)] at hy
   exact h p q x y p1 p2 c2 hd hx hy
  ·exfalso
   have hq:q / bs=c:=L3 (by omega) (by omega)
   have hbs:0<bs:=by omega
   have:p / bs<c:=(Nat.div_lt_iff_lt_mul hbs).2 (by omega)
   omega
 ·exact hs p q x y c1 p2 p3 hx hy
theorem D5.same {xs ys:List Aq} {lo hi bs lo':Nat} (h:D5 xs lo hi bs) (hl:lo≤lo') (he:∀ t,lo'≤t→ys[t]?=xs[t]?):D5 ys lo' hi bs:=by
 intro p q x y p1 p2 p3 hd hx hy
 rw [he p (by omega)] at hx
 rw [he q (by omega)] at hy
 exact h p q x y (by omega) p2 p3 hd hx hy
theorem D5.nil (xs:List Aq) (bs:Nat):D5 xs 0 0 bs:=fun p q x y p1 p2 p3=>by omega
theorem D5.all {xs:List Aq} {n bs:Nat} (h:D5 xs 0 n bs) (hn:n≤bs):Cc xs 0 n:=by
 intro p q x y p1 p2 p3 hx hy
 refine h p q x y p1 p2 p3 ?_ hx hy
 rw [Nat.div_eq_of_lt (by omega),Nat.div_eq_of_lt (by omega)]
theorem Kn {zs:List Aq} {a n bs:Nat} (h:D5 zs a n bs) (hc:∃ c,a=c*(2*bs)) (hn:a+bs≤n):Cc zs a (a+bs)∧∀ b,b≤a+2*bs→b≤n→Cc zs (a+bs) b:=by
 obtain ⟨c,rfl⟩:=hc
 have e:c*(2*bs)=(2*c)*bs:=by rw [←Nat.mul_assoc,Nat.mul_comm c 2]
 have e2:(2*c+1)*bs=(2*c)*bs+bs:=Nat.succ_mul _ _
 refine ⟨h.at (c:=2*c) e (Nat.le_refl _) (Nat.le_refl _) hn,fun b h1 h2=>h.at (c:=2*c+1) (by omega) (by omega) (by omega) h2⟩
theorem T0 {zs:List Aq} {a n bs:Nat} (h:D5 zs a n bs) (hc:∃ c,a=c*(2*bs)) (hn:n≤a+bs):Cc zs a n:=by
 obtain ⟨c,rfl⟩:=hc
 exact h.at (c:=2*c) (by rw [←Nat.mul_assoc,Nat.mul_comm c 2]) (Nat.le_refl _) hn (Nat.le_refl _)
theorem LX {zs ws:List Aq} {a b bs:Nat} (h:D5 zs 0 a (2*bs)) (hc:∃ c,a=c*(2*bs)) (hb:b≤a+2*bs) (hs:C9 zs ws a b):D5 ws 0 b (2*bs):=by
 obtain ⟨c,hc⟩:=hc
 exact h.more hc hb hs.ins hs.srt
theorem YI {a bs:Nat} (hc:∃ c,a=c*(2*bs)):∃ c,a+2*bs=c*(2*bs):=by
 obtain ⟨c,rfl⟩:=hc
 exact ⟨c+1,(Nat.succ_mul c (2*bs)).symm⟩
def Jh (xs:List Aq) (i:Nat):Prop:=∀ t x y,i≤t→xs[t]?=some x→xs[t+1]?=some y→By y.key x.key=false
theorem Ty {xs:List Aq} (h:Jh xs 0):Dd xs:=by
 refine Cc.ord ?_
 have key:∀ d p x y,xs[p]?=some x→xs[p+d+1]?=some y→By y.key x.key=false:=by
  intro d
  induction d with
  |zero=>intro p x y hx hy;exact h p x y (Nat.zero_le _) hx hy
  |succ d ih=>
   intro p x y hx hy
   have hl:p+d+1<xs.length:=by have:=(List.getElem?_eq_some_iff.1 hy).1;omega
   have hz:=List.getElem?_eq_getElem hl
   exact GN (ih p x _ hx hz) (h (p+d+1) _ y (Nat.zero_le _) hz hy)
 intro p q x y _ h2 _ hx hy
 exact key (q - p - 1) p x y hx (by rw [show p+(q - p - 1)+1=q by omega];exact hy)
theorem Zj {xs:List Aq} {j:Nat} {x y:Aq} (ho:Dd xs) (hj:0<j) (hx:xs[j]?=some x) (hy:xs[j - 1]?=some y):By x.key y.key=false:=by
 unfold Dd at ho
 rw [List.pairwise_iff_getElem] at ho
 have l1:=List.getElem?_eq_some_iff.1 hx
 have l2:=List.getElem?_eq_some_iff.1 hy
 have:=ho (j - 1) j l2.1 l1.1 (by omega)
 rwa [l1.2,l2.2] at this
theorem Tx {xs:List Aq} {j:Nat} {x y:Aq} (h:Jh xs j) (hj:0<j) (hx:xs[j]?=some x) (hy:xs[j - 1]?=some y) (hlt:By x.key y.key=false):Jh xs (j - 1):=by
 intro t u v ht hu hv
 rcases Nat.lt_or_ge t j with c|c
 ·obtain rfl:t=j - 1:=by omega
  rw [hy] at hu
  rw [show j - 1+1=j by omega,hx] at hv
  obtain rfl:=Option.some.inj hu
  obtain rfl:=Option.some.inj hv
  exact hlt
 ·exact h t u v c hu hv
theorem Tw (xs:List Aq):Jh xs (xs.length - 1):=fun t x y ht hx hy=>by
 have:=(List.getElem?_eq_some_iff.1 hy).1
 omega
def B_ (ps:List Aq) (k:ByteArray):List ByteArray:=(ps.filter fun p=>decide (p.key=k)).map (·.val)
def D1 (ps:List Aq):List ByteArray:=G6 (Gz (ps.map (·.key)))
theorem dR {xs ys:List Aq} (h:∀ k:ByteArray,xs.filter (fun p=>decide (p.key=k))=ys.filter (fun p=>decide (p.key=k))):Co xs ys:=by
 refine ⟨List.Perm.length_eq (List.perm_iff_count.2 fun p=>?_),h⟩
 have e:∀ l:List Aq,l.count p=(l.filter fun q=>decide (q.key=p.key)).count p:=fun l=>(List.count_filter (by simp)).symm
 rw [e xs,e ys,h]
def FK (xs:List Aq) (n:Int):Bool:=decide (¬ ((xs.length:Int)≤n∧∀ p∈xs,p.key.size≤100∧p.val.size≤100))
theorem P2 {xs:List Aq} {n:Int} {k:Nat} {x:Aq} (hx:xs[k]?=some x) (h:100<x.key.size∨100<x.val.size):true=FK xs n:=by
 have h3:¬ ((xs.length:Int)≤n∧∀ p∈xs,p.key.size≤100∧p.val.size≤100):=fun h2=>absurd (h2.2 x (List.mem_of_getElem? hx)) (by omega)
 exact (decide_eq_true h3).symm
theorem P1 {xs:List Aq} {n:Int} {k:Nat} (hn:∀ y∈xs.take k,y.key.size≤100∧y.val.size≤100) (h:xs.length≤k∨n<(xs.length:Int)):decide (n<(xs.length:Int))=FK xs n:=by
 refine decide_eq_decide.2 ⟨fun h1 h2=>by omega,fun h1=>?_⟩
 apply Classical.byContradiction
 intro h2
 refine h1 ⟨by omega,?_⟩
 rwa [List.take_of_length_le (by omega)] at hn
theorem Y6 (ps:List Aq) (k:ByteArray):(B_ ps k).length≤ps.length:=by
 unfold B_
 rw [List.length_map]
 exact List.length_filter_le _ _
theorem Y9 {xs:List Aq} {key:ByteArray} {k:Nat} {x:Aq} (hx:xs[k]?=some x) (h:x.key=key):B_ (xs.take (k+1)) key=B_ (xs.take k) key++[x.val]:=by
 unfold B_
 rw [List.take_add_one,hx]
 simp [h]
theorem Y8 {xs:List Aq} {key:ByteArray} {k:Nat} {x:Aq} (hx:xs[k]?=some x) (h:¬ x.key=key):B_ (xs.take (k+1)) key=B_ (xs.take k) key:=by
 unfold B_
 rw [List.take_add_one,hx]
 simp [h]
theorem Wq {xs:List Aq} {k:Nat} {x:Aq} (hx:xs[k]?=some x):(xs.take (k+1)).map (·.key)=(xs.take k).map (·.key)++[x.key]:=by
 rw [List.take_add_one,hx]
 simp
theorem NL (xs:List ByteArray):(Gz xs).length=xs.length:=by simp [Gz]
theorem Ux (xs:List ByteArray):(G6 xs).length≤xs.length:=by
 have:=OU (xs.map Hg)
 simpa [G6] using this
theorem Wr (ps:List Aq):(D1 ps).length≤ps.length:=by
 unfold D1
 have:=Ux (Gz (ps.map (·.key)))
 rw [NL,List.length_map] at this
 exact this
def C5 (p:Aq):Prop:=p.key.size≤16∧p.val.size≤64
instance (p:Aq):Decidable (C5 p):=by unfold C5;infer_instance
def HH (xs:List Aq):Prop:=∀ p∈xs,C5 p
instance (xs:List Aq):Decidable (HH xs):=by unfold HH;infer_instance
theorem Yw (xs:List Aq):(!(xs.any fun p=>!decide (C5 p)))=decide (HH xs):=by
 rw [Bool.eq_iff_iff,decide_eq_true_iff]
 unfold HH
 simp
theorem Kt {α:Type} {l:List α} {x:α} (h:l[0]?=some x):l=x::l.drop 1:=by
 cases l with
 |nil=>simp at h
 |cons y l=>simp at h;subst h;rfl
theorem Yy {al bl:List Aq} {x y:Aq} (hx:al[0]?=some x) (hy:bl[0]?=some y) (ha:Dd al) (hb:Dd bl) (h:¬ By y.key x.key=true):srt (al++bl)=x::srt (al.drop 1++bl):=by
 have h':By y.key x.key=false:=by simpa using h
 have ea:=Kt hx
 have eb:=Kt hy
 rw [ea] at ha
 rw [eb] at hb
 obtain ⟨ha1,ha2⟩:=List.pairwise_cons.1 ha
 obtain ⟨hb1,hb2⟩:=List.pairwise_cons.1 hb
 refine (J1 ?_ ?_).symm
 ·have:Co (x::(al.drop 1++bl)) (x::srt (al.drop 1++bl)):=Co.append (a:=[x]) (b:=[x]) (Co.refl _) (GV _)
  rwa [←List.cons_append,←ea] at this
 ·refine List.pairwise_cons.2 ⟨fun q hq=>?_,J3 _⟩
  have hq':=(GV (al.drop 1++bl)).symm.mem hq
  rcases List.mem_append.1 hq' with h1|h1
  ·exact ha1 q h1
  ·rw [eb] at h1
   rcases List.mem_cons.1 h1 with rfl|h2
   ·exact h'
   ·exact GN h' (hb1 q h2)
theorem Yz {al bl:List Aq} {x y:Aq} (hx:al[0]?=some x) (hy:bl[0]?=some y) (ha:Dd al) (hb:Dd bl) (h:By y.key x.key=true):srt (al++bl)=y::srt (al++bl.drop 1):=by
 have ea:=Kt hx
 have eb:=Kt hy
 have ha0:=ha
 rw [ea] at ha0
 rw [eb] at hb
 obtain ⟨ha1,ha2⟩:=List.pairwise_cons.1 ha0
 obtain ⟨hb1,hb2⟩:=List.pairwise_cons.1 hb
 have hal:∀ q∈al,By y.key q.key=true:=by
  intro q hq
  rw [ea] at hq
  rcases List.mem_cons.1 hq with rfl|h2
  ·exact h
  ·exact Q3 h (ha1 q h2)
 refine (J1 ?_ ?_).symm
 ·have h1:Co (al++bl) (y::(al++bl.drop 1)):=by
   refine dR fun k=>?_
   rw [eb,List.drop_succ_cons,List.drop_zero,List.filter_append,List.filter_cons,List.filter_cons,List.filter_append]
   by_cases hk:y.key=k
   ·have:al.filter (fun p=>decide (p.key=k))=[]:=List.filter_eq_nil_iff.2 fun q hq=>by
     have:=hal q hq
     rw [hk] at this
     simp only [decide_eq_true_eq]
     intro e
     rw [e,HG] at this
     cases this
    simp [this,hk]
   ·simp [hk]
  exact h1.trans (Co.append (a:=[y]) (b:=[y]) (Co.refl _) (GV _))
 ·refine List.pairwise_cons.2 ⟨fun q hq=>?_,J3 _⟩
  have hq':=(GV (al++bl.drop 1)).symm.mem hq
  rcases List.mem_append.1 hq' with h1|h1
  ·exact KP (hal q h1)
  ·exact hb1 q h1
theorem Rf {al bl:List Aq} (ha:Dd al) (hb:Dd bl) (h:al.length=0∨bl.length=0):srt (al++bl)=al++bl:=by
 rcases h with h|h
 ·rw [List.eq_nil_of_length_eq_zero h];exact SR hb
 ·rw [List.eq_nil_of_length_eq_zero h,List.append_nil];exact SR ha
theorem RK {al:List Aq} (ha:Dd al) (k:Nat):Dd (al.drop k):=List.Pairwise.sublist (List.drop_sublist k al) ha
def CY (us:List (Value×List Aq)):List Aq:=us.flatMap (·.2)
theorem Po {us:List (Value×List Aq)} {k:Nat} {u:Value} {x:List Aq} (hx:us[k]?=some (u,x)):CY (us.take (k+1))=CY (us.take k)++x:=by
 unfold CY
 rw [Eo hx,List.flatMap_append]
 simp
theorem Pm (a b:List (Value×List Aq)):CY (a++b)=CY a++CY b:=by simp [CY]
theorem Pn (us:List (Value×List Aq)) (k:Nat):(CY (us.take k)).length≤(CY us).length:=by
 have:(CY us).length=(CY (us.take k)).length+(CY (us.drop k)).length:=by rw [←List.length_append,←Pm,List.take_append_drop]
 omega
theorem Vn (us:List (Value×List Aq)) (k:Nat):(CY (us.drop k)).length≤(CY us).length:=by
 have:(CY us).length=(CY (us.take k)).length+(CY (us.drop k)).length:=by rw [←List.length_append,←Pm,List.take_append_drop]
 omega
theorem dJ (a b:List Aq):srt (srt a++b)=srt (a++b):=dK (Co.append (GV a).symm (Co.refl b))
theorem CA {α:Type} {xs:List α} {k:Nat} {x:α} (h:xs[k]?=some x):x∈xs:=List.mem_of_getElem? h
structure Fb where
 A:Option Addr
 n:Nat
 c:Nat
def Jp (h:Fb):List Value:=[.slice h.A h.n h.c]
def DR:Kd Fb:=flat Jp 1 (by omega) (fun _=>rfl) (fun _ c h=>by simp [Jp] at h;subst h;rfl)
def FL:Value→Fb
 |.slice A n c=>⟨A,n,c⟩
 |_=>⟨none,0,0⟩
section
variable {w w0:World} {F F0:AU} {As Rs:List SP} {α:Type} {d:Kd α}
theorem P4:∀ {us:List (Value×List α)} {cs:List Value},Be (At d) w F us cs→∀ p∈us,(Ac d p.1 p.2).P w F
 |[],_,_,p,hp=>by cases hp
 |q::us,_,⟨c,cs',e,h1,h2⟩,p,hp=>by
  cases hp with
  |head=>exact h1.2
  |tail _ hm=>exact P4 h2 p hm
end
/-! ### Parts -/
def EE (key:ByteArray):Nat→Int
 |0=>7
 |k+1=>IntKind.u32.wrap (IntKind.u32.wrap (31*EE key k)+((key[k]?.getD 0).toNat:Int))
theorem fZ (x:Int):0≤IntKind.u32.wrap x∧IntKind.u32.wrap x<4294967296:=by
 simp only [IntKind.wrap,IntKind.bits,IntKind.signed]
 simp
 omega
theorem M4 (key:ByteArray) (k:Nat):0≤EE key k∧EE key k<4294967296:=by
 cases k with
 |zero=>exact ⟨by simp [EE],by simp [EE]⟩
 |succ k=>exact fZ _
def Lb (key:ByteArray) (n:Int):Int:=if n<1 then -1 else EE key key.size%n
def FB (xs:List Aq) (n p:Int):List Aq:=xs.filter fun x=>decide (Lb x.key n=p)
theorem Zc {xs:List Aq} {n p:Int} {k:Nat} {x:Aq} (hx:xs[k]?=some x) (h:Lb x.key n=p):FB (xs.take (k+1)) n p=FB (xs.take k) n p++[x]:=by
 unfold FB
 rw [Eo hx,List.filter_append]
 simp [h]
theorem Za {xs:List Aq} {n p:Int} {k:Nat} {x:Aq} (hx:xs[k]?=some x) (h:¬ Lb x.key n=p):FB (xs.take (k+1)) n p=FB (xs.take k) n p:=by
 unfold FB
 rw [Eo hx,List.filter_append]
 simp [h]
theorem RI (xs:List Aq) (n p:Int):(FB xs n p).length≤xs.length:=List.length_filter_le ..
theorem Y0 {key:ByteArray} {k:Nat} {b:UInt8} (hb:key[k]?=some b):EE key (k+1)=IntKind.u32.wrap (IntKind.u32.wrap (31*EE key k)+(b.toNat:Int)):=by
 rw [EE,hb]
 rfl
theorem f5 (b:UInt8):IntKind.u32.wrap (b.toNat:Int)=(b.toNat:Int):=by
 have:=UInt8.toNat_lt b
 simp only [IntKind.wrap,IntKind.bits,IntKind.signed]
 simp
 omega
theorem OB {xs:List BT} (h:xs.length≤40):DU xs<0↔∀ p∈xs,BX p xs.length:=by
 have e:xs.take 40=xs:=List.take_of_length_le h
 have h2:=Ky (E1 xs.length) xs
 unfold DU
 rw [e]
 constructor
 ·intro hb p hp
  apply Classical.byContradiction
  intro hg
  have h3:xs.any (E1 xs.length)=true:=List.any_eq_true.2 ⟨p,hp,by simp [E1,hg]⟩
  rw [h3] at h2
  rw [if_pos (of_decide_eq_true h2)] at hb
  have:=of_decide_eq_true h2
  omega
 ·intro hg
  have h3:xs.any (E1 xs.length)=false:=List.any_eq_false.2 (fun p hp=>by simp [E1,hg p hp])
  rw [h3] at h2
  rw [if_neg (of_decide_eq_false h2),if_neg (by omega)]
  omega
theorem J8 {α:Type} {Q:α→Prop} {xs:List α} {k:Nat} {x:α} (hn:∀ y∈xs.take k,Q y) (hx:xs[k]?=some x) (h:Q x):∀ y∈xs.take (k+1),Q y:=by
 intro y hy
 rw [List.take_add_one,hx] at hy
 rcases List.mem_append.1 hy with hy|hy
 ·exact hn y hy
 ·obtain rfl:y=x:=by simpa using hy
  exact h
structure AY where
 kind:Int
 part:Int
 sp:Int
 att:Int
 why:Int
 sv:Value
 set:List Int
 pv:Value
 pairs:List Aq
def G8 (r:AY):List Value:=[.int .i64 r.kind,.int .i64 r.part,.int .i64 r.sp,.int .i64 r.att,.int .i64 r.why,r.sv,r.pv]
def BL:Kd AY where
 sz:=7
 O w F x cs:=cs=G8 x∧∃ F1 F2:AU,(∀ k,F1 k→F k)∧(∀ k,F2 k→F k)∧(∀ k,F1 k→¬ F2 k)∧(BU (Ai .i64)).O w F1 x.set [x.sv]∧(BU Ag).O w F2 x.pairs [x.pv]
 R w F x cs:=cs=G8 x∧(BU (Ai .i64)).R w F x.set [x.sv]∧(BU Ag).R w F x.pairs [x.pv]
 O_loc:=fun ⟨e,F1,F2,s1,s2,dj,h1,h2⟩ hk=>⟨e,F1,F2,s1,s2,dj,(BU _).O_loc h1 (fun k x=>hk k (s1 k x)),(BU _).O_loc h2 (fun k x=>hk k (s2 k x))⟩
 O_mono:=fun ⟨e,F1,F2,s1,s2,dj,h1,h2⟩ hk=>⟨e,F1,F2,fun k x=>hk k (s1 k x),fun k x=>hk k (s2 k x),dj,h1,h2⟩
 R_loc:=fun ⟨e,h1,h2⟩ hk=>⟨e,(BU _).R_loc h1 hk,(BU _).R_loc h2 hk⟩
 R_mono:=fun ⟨e,h1,h2⟩ hk=>⟨e,(BU _).R_mono h1 hk,(BU _).R_mono h2 hk⟩
 O_R:=fun ⟨e,F1,F2,s1,s2,dj,h1,h2⟩=>⟨e,(BU _).R_mono ((BU _).O_R h1) s1,(BU _).R_mono ((BU _).O_R h2) s2⟩
 len h:=by rw [h.1];rfl
 one:=fun ⟨e,h1,h2⟩ c hc=>by
  have g1:=(BU _).one h1
  have g2:=(BU _).one h2
  subst e
  simp only [G8,List.mem_cons,List.not_mem_nil,or_false] at hc
  rcases hc with rfl|rfl|rfl|rfl|rfl|rfl|rfl
  ·rfl
  ·rfl
  ·rfl
  ·rfl
  ·rfl
  ·exact g1 _ (List.mem_cons_self ..)
  ·exact g2 _ (List.mem_cons_self ..)
 pos:=by omega
structure Hu where
 kind:Int
 part:Int
 sp:Int
 att:Int
 why:Int
 hs:Fb
 hp:Fb
def Fi (r:Hu):List Value:=[.int .i64 r.kind,.int .i64 r.part,.int .i64 r.sp,.int .i64 r.att,.int .i64 r.why,.slice r.hs.A r.hs.n r.hs.c,.slice r.hp.A r.hp.n r.hp.c]
def El:Kd Hu:=flat Fi 7 (by omega) (fun _=>rfl) (fun _ c h=>by
 simp only [Fi,List.mem_cons,List.not_mem_nil,or_false] at h
 rcases h with rfl|rfl|rfl|rfl|rfl|rfl|rfl<;>rfl)
def Dc (r:AY):Hu:=⟨r.kind,r.part,r.sp,r.att,r.why,FL r.sv,FL r.pv⟩
section
variable {w w0:World} {F F0:AU} {As Rs:List SP} {A:Option Addr} {m c:Nat}
theorem Lo {us:List AY} (h:(Ac BL (.slice A m c) us).P w F) {i:Nat} {x:AY} (hx:us[i]?=some x):
  FZ A∧(∀ q u,(G8 x)[q]?=some u→w.cell? ⟨Et A,Ba A+i*7+q,none⟩=some u)∧(Ac (Ai .i64) x.sv x.set).P w F∧(Ac Ag x.pv x.pairs).P w F:=by
 obtain ⟨b,off,cs,e,hl,hc,h1,h2,h3⟩:=JV h hx
 subst h1 e
 exact ⟨rfl,hc,h2,h3⟩
theorem Ij {us:List AY} (h:(Ac BL (.slice A m c) us).P w F) {i:Nat} {a1 a2 a3 a4 a5:Int} {sv pv:Value} {set:List Int} {pairs:List Aq} (hx:us[i]?=some ⟨a1,a2,a3,a4,a5,sv,set,pv,pairs⟩):(Ac (Ai .i64) sv set).P w F:=(Lo h hx).2.2.1
theorem Lp {us:List AY} (h:(Ac BL (.slice A m c) us).P w F) {i:Nat} {a1 a2 a3 a4 a5:Int} {sv pv:Value} {set:List Int} {pairs:List Aq} (hx:us[i]?=some ⟨a1,a2,a3,a4,a5,sv,set,pv,pairs⟩):(Ac Ag pv pairs).P w F:=(Lo h hx).2.2.2
theorem Hd.thRr {us:List AY} (H:Hd w0 F0 w As Rs) (j:Nat) (hj:Rs[j]?=some (Ac BL (.slice A m c) us)) {i:Nat} {x:AY} (hx:us[i]?=some x):FZ A:=H.factR (List.mem_of_getElem? hj) fun _ h=>(Lo h hx).1
theorem Hd.nestRr {us:List AY} (H:Hd w0 F0 w As Rs) (j:Nat) (hj:Rs[j]?=some (Ac BL (.slice A m c) us)) {i:Nat} {a1 a2 a3 a4 a5:Int} {sv pv:Value} {set:List Int} {pairs:List Aq} (hx:us[i]?=some ⟨a1,a2,a3,a4,a5,sv,set,pv,pairs⟩):
  ∃ A1 c1 A2 c2,sv=.slice A1 set.length c1∧pv=.slice A2 pairs.length c2∧set.length≤c1∧c1≤9223372036854775807∧pairs.length≤c2∧c2≤9223372036854775807:=by
 refine H.factR (List.mem_of_getElem? hj) fun _ h=>?_
 obtain ⟨A1,c1,e1,g1,g2,_⟩:=Ee (Ij h hx)
 obtain ⟨A2,c2,e2,g3,g4,_⟩:=Ee (Lp h hx)
 exact ⟨A1,c1,A2,c2,e1,e2,g1,g2,g3,g4⟩
theorem St:∀ {us:List AY} {cs:List Value},Be BL w F us cs→Be El w F (us.map Dc) cs
 |[],_,h=>h
 |x::us,_,⟨c,cs',e,⟨h1,h2,h3⟩,h4⟩=>by
  obtain ⟨A1,c1,e1,_⟩:=Ee (d:=Ai .i64) (w:=w) (F:=F) h2
  obtain ⟨A2,c2,e2,_⟩:=Ee (d:=Ag) (w:=w) (F:=F) h3
  exact ⟨c,cs',e,show c=Fi (Dc x) by rw [h1];simp [G8,Fi,Dc,FL,e1,e2],St h4⟩
theorem bB {v:Value} {us:List AY} (h:(Ac BL v us).P w F):(Ac El v (us.map Dc)).P w F:=by
 obtain ⟨A',n',c',e,h1,h2,h3,cs,h4,h5⟩:=h
 exact ⟨A',n',c',e,by rw [List.length_map,h1],h2,h3,cs,h4,St h5⟩
theorem Hd.recs {v:Value} {us:List AY} (H:Hd w0 F0 w As Rs) (j:Nat) (hj:Rs[j]?=some (Ac BL v us)):∃ fs:List Hu,fs.length=us.length∧Hd w0 F0 w As (Ac El v fs::Rs):=
 ⟨us.map Dc,List.length_map ..,H.addR fun _ h=>bB (h _ (List.mem_of_getElem? hj))⟩
theorem Hd.elsRr {us:List AY} (H:Hd w0 F0 w As Rs) (j:Nat) (hj:Rs[j]?=some (Ac BL (.slice A m c) us)) {i:Nat} {x:AY} (hx:us[i]?=some x) {p:Nat} (hpj:Ba A+i*7=p):∀ q v,(G8 x)[q]?=some v→w.cell? ((⟨Et A,p,none⟩:Addr).add q)=some v:=by
 intro q v hq
 rw [EK,←hpj]
 exact H.factR (List.mem_of_getElem? hj) fun F h=>(Lo h hx).2.1 q v hq
end
section
variable {P:Program} {t:TypeId}
end
/-! ### What records say -/
theorem FJ {α:Type} {xs:List α} {k:Nat} {x:α} (hx:xs[k]?=some x):xs.drop k=x::xs.drop (k+1):=by
 have hlt:k<xs.length:=by
  rcases Nat.lt_or_ge k xs.length with h|h
  ·exact h
  ·simp [List.getElem?_eq_none h] at hx
 rw [List.drop_eq_getElem_cons hlt]
 rw [List.getElem?_eq_getElem hlt] at hx
 rw [Option.some.inj hx]
theorem H6 {s:ByteArray} {i:Nat} {c:UInt8} (h:s[i]?=some c):s.data.toList[i]?=some c:=by
 rw [getElem?_def] at h
 split at h
 ·rename_i hi
  have e:s[i]=c:=Option.some.inj h
  rw [←e,Array.getElem?_toList,Array.getElem?_eq_getElem (show i<s.data.size from hi)]
  rfl
 ·cases h
theorem H7 (c:UInt8) (v:A9):F6 c v=!((decide ((c.toNat:Int)=110) && v.t)||(decide ((c.toNat:Int)=98) && !v.t)):=by
 have h:∀ d:UInt8,(c==d)=decide ((c.toNat:Int)=(d.toNat:Int)):=by
  intro d
  rw [Bool.eq_iff_iff,beq_iff_eq,decide_eq_true_eq]
  constructor
  ·rintro rfl;rfl
  ·intro h
   exact UInt8.toNat_inj.1 (by omega)
 unfold F6
 rw [h,h]
 rfl
theorem Kz {ks:List UInt8} {xs:List A9} {i:Nat} {c:UInt8} {x:A9} (hk:ks[i]?=some c) (hx:xs[i]?=some x) (hb:F6 c x=true):Fx (ks.drop (i+1)) (xs.drop (i+1))=Fx (ks.drop i) (xs.drop i):=by
 rw [FJ hk,FJ hx]
 simp [Fx,hb]
theorem Mb {ks:List UInt8} {xs:List A9} {i:Nat} {c:UInt8} {x:A9} (hk:ks[i]?=some c) (hx:xs[i]?=some x) (hb:F6 c x=false):Fx (ks.drop i) (xs.drop i)=false:=by
 rw [FJ hk,FJ hx]
 simp [Fx,hb]
theorem Vm {ks:List UInt8} {xs:List A9} {i:Nat} (h:xs.length≤i):Fx (ks.drop i) (xs.drop i)=true:=by
 rw [List.drop_eq_nil_of_le h]
 cases ks.drop i<;>rfl
theorem M3 {op:Int} {stk:List A9} (h:stk.length<(Bq op).size):AD op stk=(1,stk,[]):=if_pos h
theorem JI {op:Int} {stk:List A9} (h:¬ stk.length<(Bq op).size) (h2:Fx (Bq op).data.toList (stk.drop (stk.length - (Bq op).size))=false):AD op stk=(2,stk,[]):=by
 unfold AD
 rw [if_neg h,if_neg (by rw [h2];decide)]
theorem M1 {op:Int} {stk:List A9} (h:¬ stk.length<(Bq op).size) (h2:Fx (Bq op).data.toList (stk.drop (stk.length - (Bq op).size))=true):AD op stk=(0,stk.take (stk.length - (Bq op).size),stk.drop (stk.length - (Bq op).size)):=by
 unfold AD
 rw [if_neg h,if_pos h2]
theorem M2 {op:Int} {stk:List A9} (h:(AD op stk).1=0):(AD op stk).2.2.length=(Bq op).size∧(AD op stk).2.1.length≤stk.length∧(∀ v∈(AD op stk).2.2,v∈stk)∧(∀ v∈(AD op stk).2.1,v∈stk):=by
 by_cases h1:stk.length<(Bq op).size
 ·rw [M3 h1] at h;cases h
 ·cases h2:Fx (Bq op).data.toList (stk.drop (stk.length - (Bq op).size)) with
  |false=>rw [JI h1 h2] at h;cases h
  |true=>
   rw [M1 h1 h2]
   refine ⟨by simp only [List.length_drop];omega,by simp only [List.length_take];omega,fun v hv=>List.mem_of_mem_drop hv,fun v hv=>List.mem_of_mem_take hv⟩
theorem ZN {stk vs:List A9} {k:Nat} {x:A9} (hx:vs[k]?=some x) (h:Ff x=true):Bu stk vs=(4,stk):=by
 unfold Bu
 rw [if_pos (List.any_eq_true.2 ⟨x,CA hx,h⟩)]
theorem Oz {vs:List A9} (hn:∀ y∈vs,Ff y=false):¬ vs.any Ff=true:=by
 intro h
 obtain ⟨x,h1,h2⟩:=List.any_eq_true.1 h
 rw [hn x h1] at h2
 cases h2
theorem ZP {stk vs:List A9} (hn:∀ y∈vs,Ff y=false) (h:16<stk.length+vs.length):Bu stk vs=(1,stk):=by
 unfold Bu
 rw [if_neg (Oz hn),if_pos h]
theorem ZO {stk vs:List A9} (hn:∀ y∈vs,Ff y=false) (h:¬ 16<stk.length+vs.length):Bu stk vs=(0,stk++vs):=by
 unfold Bu
 rw [if_neg (Oz hn),if_neg h]
theorem ZR (stk vs:List A9) (h:stk.length≤16):(Bu stk vs).2.length≤16:=by
 unfold Bu
 split
 ·exact h
 ·split
  ·exact h
  ·simp only [List.length_append];omega
theorem TY {v:A9} (h1:v.t=true) (h2:(64:Int)<(v.b.size:Int)):Ff v=true:=by
 unfold Ff
 rw [h1,decide_eq_true (by omega)]
 rfl
theorem OG {v:A9} (h:v.t=false∨¬ (64:Int)<(v.b.size:Int)):Ff v=false:=by
 unfold Ff
 rcases h with h|h
 ·rw [h];rfl
 ·rw [decide_eq_false (by omega),Bool.and_false]
theorem UY {told:List Aq} {k v:ByteArray} (h:(16:Int)<(k.size:Int)):Eb told k v=(4,told):=if_pos (by omega)
theorem U1 {told:List Aq} {k v:ByteArray} (h:¬ (16:Int)<(k.size:Int)) (h2:40≤told.length):Eb told k v=(5,told):=by
 unfold Eb
 rw [if_neg (by omega),if_pos h2]
theorem UZ {told:List Aq} {k v:ByteArray} (h:¬ (16:Int)<(k.size:Int)) (h2:¬ 40≤told.length):Eb told k v=(0,told++[⟨k,v⟩]):=by
 unfold Eb
 rw [if_neg (by omega),if_neg h2]
def Do {α:Type} (d:Kd α) (v:Value) (xs:List α) (v2:Value) (ys:List α):Prop:=∀ (w:World) (F:AU),(Ac d v xs).P w F→(Ac d v2 ys).P w F
theorem Do.refl {α:Type} (d:Kd α) (v:Value) (xs:List α):Do d v xs v xs:=fun _ _ h=>h
def FM (stk:List A9):List ByteArray→Int×List A9×List ByteArray
 |[]=>((Bu stk [DA 0]).1,(Bu stk [DA 0]).2,[])
 |v::vs=>((Bu stk [E_ v,DA 1]).1,(Bu stk [E_ v,DA 1]).2,vs)
theorem YU {stk:List A9} {vals:List ByteArray} {x:ByteArray} (hx:vals[0]?=some x):FM stk vals=((Bu stk [E_ x,DA 1]).1,(Bu stk [E_ x,DA 1]).2,vals.drop 1):=by
 cases vals with
 |nil=>simp at hx
 |cons y vs=>simp at hx;subst hx;rfl
section
variable {D:BA} {key:ByteArray} {m:VM} {i:BT} {v:List A9}
theorem L6 (h:(AD i.op m.stk).1≠0):BW D key m i=(m,(AD i.op m.stk).1):=if_pos h
theorem DG (h:¬ (AD i.op m.stk).1≠0):BW D key m i=Cv D key {m with stk:=(AD i.op m.stk).2.1} i (AD i.op m.stk).2.2:=if_neg h
theorem Ob (h:i.op=0):Cv D key m i v=({m with halted:=true},0):=by unfold Cv;rw [h];rfl
theorem Oc (h:i.op=1):Cv D key m i v=Df m [DA i.a]:=by unfold Cv;rw [h];rfl
theorem Ol (h:i.op=2):Cv D key m i v=Df m [E_ i.s]:=by unfold Cv;rw [h];rfl
theorem Oq (h:i.op=3):Cv D key m i v=Df m [v.getD 0 CU,v.getD 0 CU]:=by unfold Cv;rw [h];rfl
theorem Ot (h:i.op=4):Cv D key m i v=(m,0):=by unfold Cv;rw [h];rfl
theorem Ou (h:i.op=5):Cv D key m i v=Df m [v.getD 1 CU,v.getD 0 CU]:=by unfold Cv;rw [h];rfl
theorem Ov (h:i.op=6):Cv D key m i v=Df m [E_ key]:=by unfold Cv;rw [h];rfl
theorem Ow (h:i.op=7):Cv D key m i v=HJ m:=by unfold Cv;rw [h];rfl
theorem Jj (h:i.op=8∨i.op=9∨i.op=10∨i.op=11):Cv D key m i v=Df m [BR i.op (v.getD 0 CU).n (v.getD 1 CU).n]:=by
 unfold Cv
 rcases h with h|h|h|h<;>(rw [h];rfl)
theorem Od (h:i.op=12):Cv D key m i v=Df m [RG (E6 (v.getD 0 CU) (v.getD 1 CU))]:=by unfold Cv;rw [h];rfl
theorem Oe (h:i.op=13):Cv D key m i v=Df m [E_ ((v.getD 0 CU).b++(v.getD 1 CU).b)]:=by unfold Cv;rw [h];rfl
theorem Of (h:i.op=14):Cv D key m i v=Df m [DA (v.getD 0 CU).b.size]:=by unfold Cv;rw [h];rfl
theorem Og (h:i.op=15):Cv D key m i v=Df m [DA (Fe (v.getD 0 CU).b (v.getD 1 CU).n)]:=by unfold Cv;rw [h];rfl
theorem Oh (h:i.op=16):Cv D key m i v=Df m [E_ (F5 (v.getD 0 CU).b (v.getD 1 CU).n (v.getD 2 CU).n)]:=by unfold Cv;rw [h];rfl
theorem Oi (h:i.op=17):Cv D key m i v=Df m [E_ (D.dig (v.getD 0 CU).n)]:=by unfold Cv;rw [h];rfl
theorem Oj (h:i.op=18):Cv D key m i v=Df m [DA (D.num (v.getD 0 CU).b)]:=by unfold Cv;rw [h];rfl
theorem Ok (h:i.op=19):Cv D key m i v=({m with pos:=i.a},0):=by unfold Cv;rw [h];rfl
theorem LT (h:i.op=20):Cv D key m i v=(if (v.getD 0 CU).n≠0 then {m with pos:=i.a} else m,0):=by unfold Cv;rw [h];rfl
theorem Om (h:i.op=21):Cv D key m i v=Df m [m.g i.a.toNat]:=by unfold Cv;rw [h];rfl
theorem On (h:i.op=22):Cv D key m i v=({m with g:=I7 m.g i.a.toNat (v.getD 0 CU)},0):=by unfold Cv;rw [h];rfl
theorem Oo (h:i.op=23):Cv D key m i v=({m with told:=(Eb m.told (v.getD 0 CU).b (v.getD 1 CU).b).2},(Eb m.told (v.getD 0 CU).b (v.getD 1 CU).b).1):=by unfold Cv;rw [h];rfl
theorem YO {op:Int} {stk:List A9} (h:(AD op stk).1≠0):(AD op stk).2.1=stk:=by
 by_cases h1:stk.length<(Bq op).size
 ·rw [M3 h1]
 ·cases h2:Fx (Bq op).data.toList (stk.drop (stk.length - (Bq op).size)) with
  |false=>rw [JI h1 h2]
  |true=>rw [M1 h1 h2] at h;exact absurd rfl h
theorem DB {k:Nat} {x:A9} (h:v[k]?=some x):v.getD k CU=x:=by rw [List.getD_eq_getElem?_getD,h];rfl
theorem Rv:HJ m=({m with stk:=(FM m.stk m.vals).2.1,vals:=(FM m.stk m.vals).2.2},(FM m.stk m.vals).1):=by
 unfold HJ
 split
 ·rename_i h
  rw [h]
  cases m
  simp only at h
  subst h
  rfl
 ·rename_i x xs h
  rw [h]
  rfl
end
structure EY (n:Int) (m:VM):Prop where
 ok:(∀ v∈m.stk,Fs v)∧∀ k,Fs (m.g k)
 len:m.stk.length≤16
 told:m.told.length≤40
 pos:0≤m.pos∧m.pos≤n
theorem ZS {stk vs:List A9} (h:(Bu stk vs).1=0):(Bu stk vs).2=stk++vs∧∀ v∈vs,Ff v=false:=by
 unfold Bu at h ⊢
 split at h
 ·cases h
 ·rename_i h1
  rw [if_neg h1]
  split at h
  ·cases h
  ·rename_i h2
   rw [if_neg h2]
   refine ⟨rfl,fun v hv=>?_⟩
   cases hb:Ff v with
   |false=>rfl
   |true=>exact absurd (List.any_eq_true.2 ⟨v,hv,hb⟩) h1
theorem TX {v:A9} (h:Ff v=false) (ht:v.t=true):v.b.size≤64:=by
 unfold Ff at h
 rw [ht,Bool.true_and] at h
 have:=of_decide_eq_false h
 omega
theorem E3 {n:Int} {m:VM} {vs:List A9} (hm:EY n m) (h:(Df m vs).2=0) (hv:∀ v∈vs,AG v.n∧(v.t=false→v.b.size≤64)):EY n (Df m vs).1:=by
 obtain ⟨h1,h2⟩:=ZS (stk:=m.stk) (vs:=vs) h
 refine ⟨⟨fun v hv'=>?_,hm.ok.2⟩,?_,hm.told,hm.pos⟩
 ·have hv2:v∈(Bu m.stk vs).2:=hv'
  rw [h1] at hv2
  rcases List.mem_append.1 hv2 with h3|h3
  ·exact hm.ok.1 v h3
  ·refine ⟨(hv v h3).1,?_⟩
   cases ht:v.t with
   |false=>exact (hv v h3).2 ht
   |true=>exact TX (h2 v h3) ht
 ·exact ZR _ _ hm.len
theorem Rw:(⟨#[]⟩:ByteArray).size≤64:=by decide
theorem IL:AG 0:=by unfold AG;decide
theorem M8:Fs CU:=⟨IL,Rw⟩
theorem If {n:Int} (h:AG n):∀ v∈[DA n],AG v.n∧(v.t=false→v.b.size≤64):=by
 intro v hv
 rw [List.mem_singleton.1 hv]
 exact ⟨h,fun _=>Rw⟩
theorem IV (s:ByteArray):∀ v∈[E_ s],AG v.n∧(v.t=false→v.b.size≤64):=by
 intro v hv
 rw [List.mem_singleton.1 hv]
 exact ⟨IL,fun h=>by cases h⟩
theorem M7 {v:A9} (h:Fs v):AG v.n∧(v.t=false→v.b.size≤64):=⟨h.1,fun _=>h.2⟩
theorem M6 {v:List A9} (h:∀ x∈v,Fs x) (k:Nat):Fs (v.getD k CU):=by
 rw [List.getD_eq_getElem?_getD]
 cases hk:v[k]? with
 |none=>exact M8
 |some x=>exact h x (CA hk)
theorem Tz (s:ByteArray) (i:Int):AG (Fe s i):=by
 unfold Fe
 split
 ·unfold AG;omega
 ·have:=UInt8.toNat_lt (s[i.toNat]?.getD 0)
  unfold AG
  omega
theorem Wh {D:BA} (hD:∀ s:ByteArray,AG (D.num s)) {key:ByteArray} {n:Int} {m:VM} {i:BT} {v:List A9} (hm:EY n m) (hi:BX i n) (ha:AG i.a) (hv:∀ x∈v,Fs x) (h:(Cv D key m i v).2=0):EY n (Cv D key m i v).1:=by
 have h0:=M6 hv 0
 have h1:=M6 hv 1
 have g1:=hi.1
 have g2:=hi.2.1
 have two:∀ {a b:A9},Fs a→Fs b→∀ x∈[a,b],AG x.n∧(x.t=false→x.b.size≤64):=by
  intro a b pa pb x hx
  rcases List.mem_cons.1 hx with rfl|hx
  ·exact M7 pa
  ·rw [List.mem_singleton.1 hx];exact M7 pb
 have one:∀ {a:A9},Fs a→∀ x∈[a],AG x.n∧(x.t=false→x.b.size≤64):=by
  intro a pa x hx
  rw [List.mem_singleton.1 hx];exact M7 pa
 have bit:∀ b:Bool,AG (if b then 1 else 0):=by intro b;cases b<;>(unfold AG;decide)
 rcases (show i.op=0∨i.op=1∨i.op=2∨i.op=3∨i.op=4∨i.op=5∨i.op=6∨i.op=7∨(i.op=8∨i.op=9∨i.op=10∨i.op=11)∨i.op=12∨i.op=13∨i.op=14∨i.op=15∨i.op=16∨i.op=17∨i.op=18∨i.op=19∨i.op=20∨i.op=21∨i.op=22∨i.op=23 by omega) with
  e|e|e|e|e|e|e|e|e|e|e|e|e|e|e|e|e|e|e|e|e
 ·rw [Ob e] at h ⊢;exact ⟨hm.ok,hm.len,hm.told,hm.pos⟩
 ·rw [Oc e] at h ⊢;exact E3 hm h (If ha)
 ·rw [Ol e] at h ⊢;exact E3 hm h (IV _)
 ·rw [Oq e] at h ⊢;exact E3 hm h (two h0 h0)
 ·rw [Ot e] at h ⊢;exact hm
 ·rw [Ou e] at h ⊢;exact E3 hm h (two h1 h0)
 ·rw [Ov e] at h ⊢;exact E3 hm h (IV _)
 ·rw [Ow e] at h ⊢
  unfold HJ at h ⊢
  split at h
  ·exact E3 hm h (If (by unfold AG;omega))
  ·rename_i x xs hx
   have hm2:EY n {m with vals:=xs}:=⟨hm.ok,hm.len,hm.told,hm.pos⟩
   refine E3 hm2 h fun y hy=>?_
   rcases List.mem_cons.1 hy with rfl|hy
   ·exact IV x _ (List.mem_singleton.2 U)
   ·exact If (n:=1) (by unfold AG;omega) y hy
 ·rw [Jj e] at h ⊢;exact E3 hm h (one (Y_ _ _ _))
 ·rw [Od e] at h ⊢;exact E3 hm h (If (bit _))
 ·rw [Oe e] at h ⊢;exact E3 hm h (IV _)
 ·rw [Of e] at h ⊢;exact E3 hm h (If (by have:=h0.2;unfold AG;omega))
 ·rw [Og e] at h ⊢;exact E3 hm h (If (Tz _ _))
 ·rw [Oh e] at h ⊢;exact E3 hm h (IV _)
 ·rw [Oi e] at h ⊢;exact E3 hm h (IV _)
 ·rw [Oj e] at h ⊢;exact E3 hm h (If (hD _))
 ·rw [Ok e] at h ⊢
  have:=hi.2.2.2.2.1 (.inl e)
  exact ⟨hm.ok,hm.len,hm.told,⟨this.1,this.2.1⟩⟩
 ·rw [LT e] at h ⊢
  have:=hi.2.2.2.2.1 (.inr e)
  split
  ·exact ⟨hm.ok,hm.len,hm.told,⟨this.1,this.2.1⟩⟩
  ·exact hm
 ·rw [Om e] at h ⊢;exact E3 hm h (one (hm.ok.2 _))
 ·rw [On e] at h ⊢
  refine ⟨⟨hm.ok.1,fun k=>?_⟩,hm.len,hm.told,hm.pos⟩
  show Fs (if k=i.a.toNat then v.getD 0 CU else m.g k)
  split
  ·exact h0
  ·exact hm.ok.2 k
 ·rw [Oo e] at h ⊢
  refine ⟨hm.ok,hm.len,?_,hm.pos⟩
  show (Eb m.told (v.getD 0 CU).b (v.getD 1 CU).b).2.length≤40
  have:=hm.told
  unfold Eb
  split
  ·exact this
  ·split
   ·exact this
   ·simp only [List.length_append,List.length_cons,List.length_nil];omega
theorem Qg {D:BA} (hD:∀ s:ByteArray,AG (D.num s)) {key:ByteArray} {n:Int} {m:VM} {i:BT} (hm:EY n m) (hi:BX i n) (ha:AG i.a) (h:(BW D key m i).2=0):EY n (BW D key m i).1:=by
 by_cases hN:(AD i.op m.stk).1≠0
 ·rw [L6 hN] at h;exact absurd h hN
 ·rw [DG hN] at h ⊢
  obtain ⟨l1,l2,l3,l4⟩:=M2 (Classical.not_not.1 hN)
  exact Wh hD ⟨⟨fun v hv=>hm.ok.1 v (l4 v hv),hm.ok.2⟩,Nat.le_trans l2 hm.len,hm.told,hm.pos⟩ hi ha (fun x hx=>hm.ok.1 x (l3 x hx)) h
section
variable {D:BA} {p:List BT} {key:ByteArray} {m:VM} {i:BT}
theorem Ni (k:Nat) (h:¬ (m.pos<p.length∧m.halted=false)):CW D p key k m=(m,0):=by
 cases k<;>exact if_neg h
theorem ZH (h:m.pos<p.length∧m.halted=false):CW D p key 0 m=(m,3):=if_pos h
theorem RT {k:Nat} (h:m.pos<p.length∧m.halted=false) (hi:p[m.pos.toNat]?=some i) (hw:(BW D key {m with pos:=m.pos+1} i).2≠0):CW D p key (k+1) m=BW D key {m with pos:=m.pos+1} i:=by
 unfold CW
 rw [if_pos h,hi]
 exact if_pos hw
theorem RU {k:Nat} (h:m.pos<p.length∧m.halted=false) (hi:p[m.pos.toNat]?=some i) (hw:¬ (BW D key {m with pos:=m.pos+1} i).2≠0):CW D p key (k+1) m=CW D p key k (BW D key {m with pos:=m.pos+1} i).1:=by
 conv=>lhs;unfold CW
 rw [if_pos h,hi]
 exact if_neg hw
end
theorem Wg (n:Nat) (vals:List ByteArray):EY n (DT vals) where
 ok:=⟨fun v hv=>(by cases hv),fun _=>M8⟩
 len:=Nat.zero_le _
 told:=Nat.zero_le _
 pos:=⟨Int.le_refl 0,Int.natCast_nonneg n⟩
theorem Yv {xs:List BT} (h:DU xs<0):∀ x∈xs,BX x xs.length:=by
 by_cases hl:xs.length≤40
 ·exact (OB hl).1 h
 ·exfalso
  unfold DU at h
  split at h
  ·omega
  ·rw [if_pos (by omega)] at h
   omega
theorem Wi {n:Int} {m:VM} (h:EY n m) (hp:m.pos<n):EY n {m with pos:=m.pos+1}:=⟨h.ok,h.len,h.told,⟨by have:=h.pos;show 0≤m.pos+1;omega,by show m.pos+1≤n;omega⟩⟩
def Ms (P:Program) (name:String) (Q:Array Value→Prop):SP where
 P w F:=∃ g,P.globalNamed name=some g∧F g∧∃ cs,w.var? P name=some cs∧Q cs
 loc:=fun ⟨g,h1,h2,cs,h3,h4⟩ hk=>⟨g,h1,h2,cs,by
  unfold World.var? at h3 ⊢
  rw [h1] at h3 ⊢
  simp only [Option.bind_some] at h3 ⊢
  rw [hk g h2]
  exact h3,h4⟩
 mono:=fun ⟨g,h1,h2,h3⟩ hs=>⟨g,h1,hs g h2,h3⟩
def OL (A B:SP):SP where
 P w F:=A.P w F∧B.P w F
 loc:=fun ⟨a,b⟩ hk=>⟨SP.loc _ a hk,SP.loc _ b hk⟩
 mono:=fun ⟨a,b⟩ hs=>⟨SP.mono _ a hs,SP.mono _ b hs⟩
section
variable {w0 w w':World} {F0:AU} {As Rs:List SP}
theorem Hd.after (H:Hd w0 F0 w As Rs) (ub:Cz none_ w w'):Hd w0 F0 w' As Rs:=by
 have h:Hd w0 F0 w' (BY True::As) Rs:=H.new ub (F':=none_) trivial (fun _ h=>h.elim)
 exact h.drop
theorem NW (h:Go.RowKit.Below w.heap.size w w'):Cz none_ w w':=⟨h.os,h.tape,h.output,h.size,fun k hk _=>h.block k hk⟩
theorem e6 (w:World) (k:Nat) (os:Array Obj):Cz none_ w (Sort.grow (w.drewN k) os):=⟨rfl,rfl,rfl,by simp [Sort.grow],fun i hi _=>by
 show (w.heap++os)[i]?=_
 rw [Array.getElem?_append_left hi]⟩
end
/-! ### Calls that were put off -/
def LS (P:Program) (f:FuncId) (args:List Value) (As Rs:List SP) (T:Value→List SP→Prop):Prop:=
 ∀ w F u,Hd w F w As Rs→CallsD P f args.toArray u w fun e u' w'=>u'=u∧Iy (fun v w'=>∃ Bs,T v Bs∧Hd w F w' Bs Rs) e w'
theorem Pb {P:Program} {n:Nat} {w:World} {f:FuncId} {fn:Func} {c:Code} {args:List Value} {u:FrameMode} {R:Ending→World→Prop} (hf:P.funcs[f]?=some fn) (hb:fn.body=some c) (hn:fn.ntmps=n) (hl:args.length≤n)
  (h:WC P c (bodyPost P fn R) n (IF 0 args) w):CallsD P f args.toArray u w fun e u' w'=>u'=u∧R e w':=by
 refine callsD_of_wp hf hb (h _ ⟨rfl,?_,?_⟩)
 ·simp only [Array.size_append,List.size_toArray,Array.size_replicate,hn]
  omega
 ·intro s v hs
  obtain ⟨_,h2⟩:=MS args 0 s v hs
  have hlt:s<args.length:=by
   rcases Nat.lt_or_ge s args.length with h'|h'
   ·exact h'
   ·simp [List.getElem?_eq_none h'] at h2
  refine ⟨?_,by omega⟩
  have h3:args[s]?=some v:=by simpa using h2
  simp [Array.getD_eq_getD_getElem?,Array.getElem?_append,hlt]
  simpa [List.getElem?_eq_getElem hlt] using h3
theorem ON {P:Program} {w0 w:World} {F0:AU} {As Rs Cs Ss:List SP} {f:FuncId} {args:List Value} {u:FrameMode} {T:Value→List SP→Prop} (hc:LS P f args Cs Ss T) (H:Hd w0 F0 w (Cs++As) Rs) (hl:FW w As Rs Ss):
  CallsD P f args.toArray u w fun e u' w'=>u'=u∧Iy (fun v w'=>∃ Bs,T v Bs∧Hd w0 F0 w' (Bs++As) Rs) e w':=by
 obtain ⟨Fc,h1,h2⟩:=H.frame hl
 refine (hc w Fc u h1).mono ?_
 rintro e u' w' ⟨hu,v,rfl,Bs,hT,hB⟩
 exact ⟨hu,v,rfl,Bs,hT,h2 w' Bs hB⟩
/-! ### Digits that are made once -/
def ID (n:Int):ByteArray:=⟨(Lib.itoa n).toArray⟩
def Fg (n:Int) (c t:Nat):SP:=ex fun f:Value=>blk c [.int .u32 1,.int .i32 0,.int .u32 0,.int .u32 1,f,.string (ID n)] t
def ER (p:Int×Nat):Int×Value:=(p.1,.pointer (some ⟨p.2,0,none⟩))
def Ea (t:Nat) (kvs:List (Int×Nat)):SP:=B0 (kvs.map fun p=>Fg p.1 p.2 t)
def Ks (t b:Nat):SP:=ex fun kvs:List (Int×Nat)=>B0 [Em b (kvs.map ER),Ea t kvs]
section
variable {w0 w w':World} {F0:AU} {As Rs:List SP} {t b:Nat}
theorem Hd.ex_out {α:Sort _} {A:α→SP} (H:Hd w0 F0 w (ex A::As) Rs):∃ a,Hd w0 F0 w (A a::As) Rs:=by
 obtain ⟨F,G,⟨F1,F2,h1,h2,h3,⟨a,ha⟩,s⟩,r,d,f,g,u⟩:=H
 exact ⟨a,F,G,⟨F1,F2,h1,h2,h3,ha,s⟩,r,d,f,g,u⟩
theorem Hd.ex_in {α:Sort _} {A:α→SP} (a:α) (H:Hd w0 F0 w (A a::As) Rs):Hd w0 F0 w (ex A::As) Rs:=H.turn fun _ h=>⟨a,h⟩
theorem UL (H:Hd w0 F0 w (Ks t b::As) Rs):∃ kvs:List (Int×Nat),Hd w0 F0 w (Em b (kvs.map ER)::Ea t kvs::As) Rs:=by
 obtain ⟨kvs,h⟩:=H.ex_out
 exact ⟨kvs,h.open_ (Bs:=[Em b (kvs.map ER),Ea t kvs]) fun F hF=>hF⟩
theorem L2 (kvs:List (Int×Nat)) (H:Hd w0 F0 w (Em b (kvs.map ER)::Ea t kvs::As) Rs):Hd w0 F0 w (Ks t b::As) Rs:=
 (Hd.shut (Bs:=[Em b (kvs.map ER),Ea t kvs]) H fun F hF=>hF).ex_in kvs
theorem Ue (H:Hd w0 F0 w As Rs):Hd w0 F0 w (Ea t []::As) Rs:=Hd.shut (Bs:=[]) H fun F hF=>hF
theorem UK {A:SP} (H:Hd w0 F0 w (A::Em b []::As) Rs):Hd w0 F0 w (A::Ks t b::As) Rs:=by
 have h1:Hd w0 F0 w (Em b []::A::As) Rs:=H.perm (List.Perm.swap _ _ _)
 have h2:=(Ue (t:=t) h1).perm (List.Perm.swap _ _ _)
 exact (L2 [] h2).perm (List.Perm.swap _ _ _)
theorem dT {A B C:SP} (H:Hd w0 F0 w (A::B::C::As) Rs):Hd w0 F0 w (C::A::B::As) Rs:=H.perm (((List.Perm.swap C B As).cons A).trans (List.Perm.swap C A _))
theorem Ox {n:Int}:∀ {kvs:List (Int×Nat)} {v:Value},E0 n (kvs.map ER)=some v→∃ c,v=.pointer (some ⟨c,0,none⟩)∧(n,c)∈kvs
 |[],_,h=>by simp [E0] at h
 |p::kvs,v,h=>by
  simp only [List.map_cons,E0,ER] at h
  split at h
  ·rename_i e
   refine ⟨p.2,(Option.some.inj h).symm,?_⟩
   rw [e]
   exact List.mem_cons_self ..
  ·obtain ⟨c,h1,h2⟩:=Ox h
   exact ⟨c,h1,List.mem_cons_of_mem _ h2⟩
theorem Oy {n:Int} {v:Value}:∀ {kvs:List (Int×Value)},E0 n kvs=none→E0 n (kvs++[(n,v)])=some v
 |[],_=>by simp [E0]
 |p::kvs,h=>by
  simp only [List.cons_append,E0] at h ⊢
  split at h
  ·cases h
  ·rename_i e
   rw [if_neg e]
   exact Oy h
theorem Ys (kvs:List (Int×Nat)) (n:Int) (b:Nat):(kvs++[(n,b)]).map ER=kvs.map ER++[(n,.pointer (some ⟨b,0,none⟩))]:=by simp [ER]
theorem Ug {kvs:List (Int×Nat)} {n:Int} {c:Nat} (hm:(n,c)∈kvs) (H:Hd w0 F0 w (Ea t kvs::As) Rs):∃ rest:List (Int×Nat),Hd w0 F0 w (Fg n c t::Ea t rest::As) Rs∧∀ {w1:World} {F1:AU} {w2:World} {Bs Rs':List SP},Hd w1 F1 w2 (Fg n c t::Ea t rest::Bs) Rs'→Hd w1 F1 w2 (Ea t kvs::Bs) Rs':=by
 obtain ⟨s,u,rfl⟩:=List.append_of_mem hm
 have hp:((s++(n,c)::u).map fun p=>Fg p.1 p.2 t).Perm (Fg n c t::((s++u).map fun p=>Fg p.1 p.2 t)):=by
  rw [List.map_append,List.map_cons,List.map_append]
  exact List.perm_middle
 refine ⟨s++u,?_,?_⟩
 ·have h1:Hd w0 F0 w (B0 (Fg n c t::((s++u).map fun p=>Fg p.1 p.2 t))::As) Rs:=H.turn fun F hF=>CJ.perm hp hF
  refine h1.open_ (Bs:=[Fg n c t,Ea t (s++u)]) fun F hF=>?_
  obtain ⟨F1,F2,a1,a2,a3,a,b⟩:=hF
  exact ⟨F1,F2,a1,a2,a3,a,F2,none_,fun _ h=>h,fun _ h=>h.elim,fun _ _ h=>h,b,trivial⟩
 ·intro w1 F1 w2 Bs Rs' H2
  refine Hd.shut (Bs:=[Fg n c t,Ea t (s++u)]) H2 fun F hF=>?_
  obtain ⟨F1,F2,a1,a2,a3,a,F3,F4,b1,b2,b3,b,_⟩:=hF
  exact CJ.perm hp.symm ⟨F1,F2,a1,a2,a3,a,CJ.mono b b1⟩
theorem Uf {kvs:List (Int×Nat)} {n:Int} {c:Nat} (H:Hd w0 F0 w (Fg n c t::Ea t kvs::As) Rs):Hd w0 F0 w (Ea t (kvs++[(n,c)])::As) Rs:=by
 have hp:((kvs++[(n,c)]).map fun p=>Fg p.1 p.2 t).Perm (Fg n c t::(kvs.map fun p=>Fg p.1 p.2 t)):=by
  rw [List.map_append,List.map_cons,List.map_nil]
  exact List.perm_append_singleton ..
 refine Hd.shut (Bs:=[Fg n c t,Ea t kvs]) H fun F hF=>?_
 obtain ⟨F1,F2,a1,a2,a3,a,F3,F4,b1,b2,b3,b,_⟩:=hF
 exact CJ.perm hp.symm ⟨F1,F2,a1,a2,a3,a,CJ.mono b b1⟩
end
section
variable {P:Program} {n:Nat} {l:BV} {w w0:World} {F0:AU} {o:Oper} {x y:Operand} {t kt et:TypeId} {As Rs:List SP} {b:Nat} {kvs:List (Int×Value)} {v:Value}
theorem Lf (ho:o.op=.lookup t x y false) (hm:P.underlying t=some (.map kt et)) (hk:P.underlying kt=some (.int .i64)) {z:Value} (hz:Du P et=some z) (hx:ev l x=some (.map (some b))) {k:Int} (hy:ev l y=some (.int .i64 k))
  (H:Hd w0 F0 w As Rs) (j:Nat) (hj:As[j]?=some (Em b kvs)) (hv:(E0 k kvs).getD z=v):BP P n l w o v w:=hv▸Z3 ho hm hk hz hx hy H j hj
end
theorem U0 {told:List Aq} {k v:ByteArray} (h:told.length≤40):(Eb told k v).2.length≤40:=by
 unfold Eb
 split
 ·exact h
 ·split
  ·exact h
  ·simp only [List.length_append,List.length_cons,List.length_nil];omega
theorem Ru (m:VM):(HJ m).1.told=m.told:=by
 rw [Rv]
def TL (r:VM×Int):Prop:=r.1.told.length≤40
theorem Ej {c:Prop} [Decidable c] {x y:VM×Int} (hx:TL x) (hy:TL y):TL (if c then x else y):=by
 split
 ·exact hx
 ·exact hy
theorem Tu {D:BA} {key:ByteArray} {m:VM} {i:BT} {v:List A9} (h:m.told.length≤40):(Cv D key m i v).1.told.length≤40:=by
 have hn:TL (HJ m):=by unfold TL;rw [Ru];exact h
 have h20:TL (if (v.getD 0 CU).n≠0 then {m with pos:=i.a} else m,0):=by
  unfold TL
  dsimp only
  split<;>exact h
 exact Ej h (Ej h (Ej h (Ej h (Ej h (Ej h (Ej hn (Ej h (Ej h (Ej h (Ej h (Ej h (Ej h (Ej h (Ej h (Ej h (Ej h20 (Ej h (Ej h (Ej (U0 h) h)))))))))))))))))))
theorem O5 {D:BA} {key:ByteArray} {m:VM} {i:BT} (h:m.told.length≤40):(BW D key m i).1.told.length≤40:=by
 unfold BW
 split
 ·exact h
 ·exact Tu h
theorem RX {D:BA} {p:List BT} {key:ByteArray}:∀ (k:Nat) {m:VM},m.told.length≤40→(CW D p key k m).1.told.length≤40
 |0,m,h=>by
  unfold CW
  split<;>exact h
 |k+1,m,h=>by
  unfold CW
  split
  ·split
   ·split
    ·exact O5 h
    ·exact RX k (O5 h)
   ·exact h
  ·exact h
theorem cB (D:BA) (p:List BT) (key:ByteArray) (vals:List ByteArray) (fuel:Int):(Cd D p key vals fuel).1.length≤40:=by
 unfold Cd
 split
 ·exact Nat.zero_le _
 ·split
  ·exact Nat.zero_le _
  ·exact RX _ (Nat.zero_le _)
def JL (k:ByteArray) (l:List Aq):Bool:=l.any fun x=>decide (x.key≠k)
def E2 (D:BA) (p:List BT) (ps:List Aq) (fuel:Int) (own:Bool):List ByteArray→List Aq→List Aq×Int
 |[],out=>(out,0)
 |k::ks,out=>
  if (Cd D p k (B_ ps k) fuel).2≠0 then ([],(Cd D p k (B_ ps k) fuel).2)
  else if own=true∧JL k (Cd D p k (B_ ps k) fuel).1=true then ([],6)
  else if 40<out.length+(Cd D p k (B_ ps k) fuel).1.length then ([],5)
  else E2 D p ps fuel own ks (out++(Cd D p k (B_ ps k) fuel).1)
def D0 (D:BA) (p:List BT) (ps:List Aq) (fuel:Int) (own:Bool):List Aq×Int:=E2 D p ps fuel own (D1 ps) []
def Jm (D:BA) (p:List BT) (ps:List Aq) (fuel:Int):List Aq×Int:=if p.length=0 then (srt ps,0) else D0 D p ps fuel true
section
variable {D:BA} {p:List BT} {ps:List Aq} {fuel:Int} {own:Bool} {ks:List ByteArray} {k:ByteArray} {out:List Aq} {i:Nat}
theorem VP (h:ks.length≤i):E2 D p ps fuel own (ks.drop i) out=(out,0):=by
 rw [List.drop_eq_nil_of_le h];rfl
theorem VR (hk:ks[i]?=some k) (h:(Cd D p k (B_ ps k) fuel).2≠0):E2 D p ps fuel own (ks.drop i) out=([],(Cd D p k (B_ ps k) fuel).2):=by
 rw [FJ hk];exact if_pos h
theorem VQ (hk:ks[i]?=some k) (h:¬ (Cd D p k (B_ ps k) fuel).2≠0) (h2:own=true) (h3:JL k (Cd D p k (B_ ps k) fuel).1=true):E2 D p ps fuel own (ks.drop i) out=([],6):=by
 rw [FJ hk];unfold E2;rw [if_neg h,if_pos ⟨h2,h3⟩]
theorem PY (hk:ks[i]?=some k) (h:¬ (Cd D p k (B_ ps k) fuel).2≠0) (h2:¬ (own=true∧JL k (Cd D p k (B_ ps k) fuel).1=true)) (h3:40<out.length+(Cd D p k (B_ ps k) fuel).1.length):E2 D p ps fuel own (ks.drop i) out=([],5):=by
 rw [FJ hk];unfold E2;rw [if_neg h,if_neg h2,if_pos h3]
theorem PZ (hk:ks[i]?=some k) (h:¬ (Cd D p k (B_ ps k) fuel).2≠0) (h2:¬ (own=true∧JL k (Cd D p k (B_ ps k) fuel).1=true)) (h3:¬ 40<out.length+(Cd D p k (B_ ps k) fuel).1.length):
  E2 D p ps fuel own (ks.drop (i+1)) (out++(Cd D p k (B_ ps k) fuel).1)=E2 D p ps fuel own (ks.drop i) out:=by
 rw [FJ hk];conv=>rhs;unfold E2
 rw [if_neg h,if_neg h2,if_neg h3]
end
theorem O7 (D:BA) (p:List BT) (ps:List Aq) (fuel:Int) (own:Bool):∀ (ks:List ByteArray) (out:List Aq),out.length≤40→(E2 D p ps fuel own ks out).1.length≤40
 |[],out,h=>h
 |k::ks,out,h=>by
  unfold E2
  split
  ·exact Nat.zero_le _
  ·split
   ·exact Nat.zero_le _
   ·split
    ·exact Nat.zero_le _
    ·exact O7 D p ps fuel own ks _ (by simp only [List.length_append];omega)
def Pk:List BT:=[⟨6,0,⟨#[]⟩⟩,⟨7,0,⟨#[]⟩⟩,⟨4,0,⟨#[]⟩⟩,⟨23,0,⟨#[]⟩⟩]
theorem Wa:∀ i∈Pk,AG i.a:=by
 intro i hi
 simp only [Pk,List.mem_cons,List.not_mem_nil,or_false] at hi
 rcases hi with rfl|rfl|rfl|rfl<;>exact IL
theorem Wb:∀ i∈[(⟨0,0,⟨#[]⟩⟩:BT)],AG i.a:=by
 intro i hi
 rw [List.mem_singleton.1 hi]
 exact IL
/-! ### What is told is small -/
def TS (r:VM×Int):Prop:=∀ q∈r.1.told,C5 q
theorem Ek {c:Prop} [Decidable c] {x y:VM×Int} (hx:TS x) (hy:TS y):TS (if c then x else y):=by
 split
 ·exact hx
 ·exact hy
theorem U3 {told:List Aq} {k v:ByteArray} (h:∀ q∈told,C5 q) (hv:v.size≤64):∀ q∈(Eb told k v).2,C5 q:=by
 unfold Eb
 split
 ·exact h
 ·split
  ·exact h
  ·intro q hq
   rcases List.mem_append.1 hq with h1|h1
   ·exact h q h1
   ·rw [List.mem_singleton.1 h1]
    exact ⟨by (try dsimp only);omega,hv⟩
theorem Tt {D:BA} {key:ByteArray} {m:VM} {i:BT} {v:List A9} (h:∀ q∈m.told,C5 q) (hv:(v.getD 1 CU).b.size≤64):TS (Cv D key m i v):=by
 have hn:TS (HJ m):=by unfold TS;rw [Ru];exact h
 have h20:TS (if (v.getD 0 CU).n≠0 then {m with pos:=i.a} else m,0):=by
  unfold TS
  dsimp only
  split<;>exact h
 exact Ek h (Ek h (Ek h (Ek h (Ek h (Ek h (Ek hn (Ek h (Ek h (Ek h (Ek h (Ek h (Ek h (Ek h (Ek h (Ek h (Ek h20 (Ek h (Ek h (Ek (U3 h hv) h)))))))))))))))))))
theorem O4 {D:BA} {key:ByteArray} {n:Int} {m:VM} {i:BT} (hm:EY n m) (h:∀ q∈m.told,C5 q):TS (BW D key m i):=by
 by_cases hN:(AD i.op m.stk).1≠0
 ·rw [L6 hN];exact h
 ·rw [DG hN]
  obtain ⟨l1,l2,l3,l4⟩:=M2 (Classical.not_not.1 hN)
  exact Tt h (M6 (fun x hx=>hm.ok.1 x (l3 x hx)) 1).2
theorem Kk {p:List BT} (h:DU p<0):p.length≤40∧∀ i∈p,BX i p.length:=by
 have hl:p.length≤40:=by
  apply Classical.byContradiction
  intro hn
  unfold DU at h
  split at h
  ·omega
  ·rw [if_pos (by omega)] at h;omega
 exact ⟨hl,(OB hl).1 h⟩
theorem RW {D:BA} (hD:∀ s:ByteArray,AG (D.num s)) {p:List BT} {key:ByteArray} (hp:DU p<0) (ha:∀ i∈p,AG i.a):∀ (k:Nat) {m:VM},EY p.length m→(∀ q∈m.told,C5 q)→TS (CW D p key k m)
 |0,m,hm,h=>by
  unfold CW
  split<;>exact h
 |k+1,m,hm,h=>by
  by_cases hc:m.pos<p.length∧m.halted=false
  ·obtain ⟨i,hi⟩:∃ i,p[m.pos.toNat]?=some i:=⟨_,List.getElem?_eq_getElem (by have:=hm.pos;omega)⟩
   have him:=CA hi
   have hm1:EY p.length {m with pos:=m.pos+1}:=⟨hm.ok,hm.len,hm.told,(by have h9:=hm.pos;constructor<;>(try dsimp only)<;>omega)⟩
   by_cases hw:(BW D key {m with pos:=m.pos+1} i).2≠0
   ·rw [RT hc hi hw]
    exact O4 hm1 h
   ·rw [RU hc hi hw]
    exact RW hD hp ha k (Qg hD hm1 ((Kk hp).2 i him) (ha i him) (Classical.not_not.1 hw)) (O4 hm1 h)
  ·rw [Ni _ hc];exact h
theorem Wj (n:Int) (hn:0≤n) (vals:List ByteArray):EY n (DT vals):=⟨⟨(fun v hv=>by cases hv),fun _=>M8⟩,Nat.zero_le _,Nat.zero_le _,⟨Int.le_refl 0,hn⟩⟩
theorem SC {D:BA} (hD:∀ s:ByteArray,AG (D.num s)) {p:List BT} (ha:∀ i∈p,AG i.a) (key:ByteArray) (vals:List ByteArray) (fuel:Int):∀ q∈(Cd D p key vals fuel).1,C5 q:=by
 unfold Cd
 split
 ·intro q hq;cases hq
 ·rename_i hn
  split
  ·intro q hq;cases hq
  ·exact RW hD (by omega) ha _ (Wj _ (by omega) _) (fun q hq=>by cases hq)
theorem dL {xs:List Aq} (h:∀ q∈xs,C5 q):∀ q∈srt xs,C5 q:=fun q hq=>h q ((GV xs).symm.mem hq)
theorem O6 {D:BA} (hD:∀ s:ByteArray,AG (D.num s)) {p:List BT} (ha:∀ i∈p,AG i.a) {ps:List Aq} {fuel:Int} {own:Bool}:∀ (ks:List ByteArray) (out:List Aq),(∀ q∈out,C5 q)→∀ q∈(E2 D p ps fuel own ks out).1,C5 q
 |[],out,h=>h
 |k::ks,out,h=>by
  unfold E2
  split
  ·intro q hq;cases hq
  ·split
   ·intro q hq;cases hq
   ·split
    ·intro q hq;cases hq
    ·refine O6 hD ha ks _ fun q hq=>?_
     rcases List.mem_append.1 hq with h1|h1
     ·exact h q h1
     ·exact SC hD ha _ _ _ q h1
/-! ### In order -/
theorem Uw {D:BA} (hD:∀ s:ByteArray,AG (D.num s)) {p:List BT} (ha:∀ i∈p,AG i.a) {ps:List Aq} {fuel:Int} (h:∀ q∈ps,C5 q):∀ q∈(Jm D p ps fuel).1,C5 q:=by
 unfold Jm
 split
 ·exact dL h
 ·exact O6 hD ha _ _ fun q hq=>by cases hq
theorem Uv (D:BA) (p:List BT) (ps:List Aq) (fuel:Int) (h:ps.length≤40):(Jm D p ps fuel).1.length≤40:=by
 unfold Jm
 split
 ·show (srt ps).length≤40
  rw [GU];exact h
 ·exact O7 D p ps fuel true _ _ (Nat.zero_le _)
/-! ### Jobs -/
structure AR where
 us:List (Value×List Aq)
 parts:Int
 map:List BT
 comb:List BT
 red:List BT
 chunk:Int
 window:Int
 fuel:Int
 marks:List Int
def HL (x:List Aq):Prop:=x.length≤8∧HH x
instance (x:List Aq):Decidable (HL x):=inferInstanceAs (Decidable (_∧_))
def He (n:Int):Int→List Int→Prop
 |_,[]=>True
 |l,m::ms=>(l+1≤m∧m≤n)∧He n m ms
instance marksUpD (n:Int):∀ (l:Int) (ms:List Int),Decidable (He n l ms)
 |_,[]=>isTrue trivial
 |_,m::ms=>haveI:=marksUpD n m ms;inferInstanceAs (Decidable (_∧_))
def Ev (J:AR):Prop:=
 (1≤(J.us.length:Int)∧(J.us.length:Int)≤6)∧(1≤J.parts∧J.parts≤4)∧J.marks.length≤4∧(∀ u∈J.us,HL u.2)∧He J.us.length 0 J.marks∧
 (0<J.map.length∧DU J.map<0)∧(0<J.red.length∧DU J.red<0)∧DU J.comb<0∧(1≤J.chunk∧J.chunk≤7)∧(1≤J.window∧J.window≤4)∧1≤J.fuel∧J.fuel≤2000
instance mayJD (J:AR):Decidable (Ev J):=by unfold Ev;infer_instance
structure C4 (J:AR):Prop where
 may:Ev J
 map:∀ i∈J.map,AG i.a
 comb:∀ i∈J.comb,AG i.a
 red:∀ i∈J.red,AG i.a
theorem C4.us {J:AR} (h:C4 J):1≤J.us.length∧J.us.length≤6:=by have:=h.may.1;omega
theorem C4.parts {J:AR} (h:C4 J):1≤J.parts∧J.parts≤4:=h.may.2.1
theorem C4.fuel {J:AR} (h:C4 J):1≤J.fuel∧J.fuel≤2000:=h.may.2.2.2.2.2.2.2.2.2.2
theorem C4.split {J:AR} (h:C4 J):∀ u∈J.us,HL u.2:=h.may.2.2.2.1
def IT (D:BA) (p:List BT) (fuel:Int):List Aq→List Aq→List Aq×Int
 |[],out=>(out,0)
 |r::rs,out=>
  if (Cd D p r.key [r.val] fuel).2≠0 then ([],(Cd D p r.key [r.val] fuel).2)
  else if 40<out.length+(Cd D p r.key [r.val] fuel).1.length then ([],5)
  else IT D p fuel rs (out++(Cd D p r.key [r.val] fuel).1)
section
variable {D:BA} {p:List BT} {fuel:Int} {rs:List Aq} {r:Aq} {out:List Aq} {i:Nat}
theorem Rd (hD:∀ s:ByteArray,AG (D.num s)) (ha:∀ i∈p,AG i.a):∀ (rs out:List Aq),(∀ q∈out,C5 q)→∀ q∈(IT D p fuel rs out).1,C5 q
 |[],out,h=>h
 |r::rs,out,h=>by
  unfold IT
  split
  ·intro q hq;cases hq
  ·split
   ·intro q hq;cases hq
   ·refine Rd hD ha rs _ fun q hq=>?_
    rcases List.mem_append.1 hq with h1|h1
    ·exact h q h1
    ·exact SC hD ha _ _ _ q h1
theorem Rc:∀ (rs out:List Aq),out.length≤40→(IT D p fuel rs out).1.length≤40
 |[],out,h=>h
 |r::rs,out,h=>by
  unfold IT
  split
  ·exact Nat.zero_le _
  ·split
   ·exact Nat.zero_le _
   ·exact Rc rs _ (by simp only [List.length_append];omega)
end
def recs (J:AR) (s:Nat):List Aq:=match J.us[s]? with
 |some u=>u.2
 |none=>[]
def mapM (D:BA) (J:AR) (s:Nat):List Aq×Int:=IT D J.map J.fuel (recs J s) []
def A0 (D:BA) (J:AR) (s:Nat):List Aq×Int:=if (mapM D J s).2≠0 then ([],(mapM D J s).2) else Jm D J.comb (mapM D J s).1 J.fuel
theorem Yp (D:BA) (J:AR) (s:Nat):(mapM D J s).1.length≤40:=Rc _ _ (Nat.zero_le _)
theorem Lz (D:BA) (J:AR) (s:Nat):(A0 D J s).1.length≤40:=by
 unfold A0
 split
 ·exact Nat.zero_le _
 ·exact Uv _ _ _ _ (Yp _ _ _)
theorem NM {D:BA} (hD:∀ s:ByteArray,AG (D.num s)) {J:AR} (h:C4 J) (s:Nat):∀ q∈(A0 D J s).1,C5 q:=by
 unfold A0
 split
 ·intro q hq;cases hq
 ·exact Uw hD h.comb (Rd hD h.map _ _ fun q hq=>by cases hq)
def DM (D:BA) (J:AR) (s:Nat) (p:Int):List Aq:=FB (A0 D J s).1 J.parts p
def Jk (D:BA) (J:AR) (p:Int):Nat→List Aq
 |0=>[]
 |k+1=>Jk D J p k++DM D J k p
theorem M9 (D:BA) (J:AR) (s:Nat) (p:Int):(DM D J s p).length≤40:=Nat.le_trans (RI _ _ _) (Lz _ _ _)
def Ng (D:BA) (J:AR) (p:Int):List Aq×Int:=D0 D J.red (srt (Jk D J p J.us.length)) J.fuel false
section
variable {D:BA} {J:AR} {s p:Nat} {out:List (List Aq)}
end
def NB (D:BA) (J:AR) (s:Nat) (p:Int):List Aq×Int:=if (A0 D J s).2≠0 then ([],(A0 D J s).2) else (DM D J s p,0)
def HD (J:AR):Bool:=decide (¬ (J.us.length≤8∧∀ u∈J.us,FK u.2 10=false))||decide (10<(J.marks.length:Int))||Fm J.map||Fm J.comb||Fm J.red
theorem VS {J:AR} {k:Nat} {A:Value} {x:List Aq} (hx:J.us[k]?=some (A,x)) (h:FK x 10=true):true=HD J:=by
 unfold HD
 rw [decide_eq_true (show ¬ (J.us.length≤8∧∀ u∈J.us,FK u.2 10=false) from fun g=>by have:=g.2 _ (CA hx);rw [h] at this;cases this)]
 simp
theorem HE {J:AR} (h:8<J.us.length∨10<J.marks.length∨Fm J.map=true∨Fm J.comb=true):true=HD J:=by
 unfold HD
 rcases h with h|h|h|h
 ·rw [decide_eq_true (show ¬ (J.us.length≤8∧∀ u∈J.us,FK u.2 10=false) from fun g=>by omega)];simp
 ·rw [decide_eq_true (show 10<(J.marks.length:Int) by omega)];simp
 ·rw [h];simp
 ·rw [h];simp
theorem P0 {J:AR} {k:Nat} (hn:∀ u∈J.us.take k,FK u.2 10=false) (h1:J.us.length≤k) (h2:J.us.length≤8) (h3:J.marks.length≤10) (h4:Fm J.map=false) (h5:Fm J.comb=false):Fm J.red=HD J:=by
 unfold HD
 rw [List.take_of_length_le h1] at hn
 rw [decide_eq_false (show ¬ ¬ (J.us.length≤8∧∀ u∈J.us,FK u.2 10=false) from fun g=>g ⟨h2,hn⟩),decide_eq_false (show ¬ 10<(J.marks.length:Int) by omega),h4,h5]
 simp
theorem Cn.heads0 {α:Type} {d:Kd α} {P:Program} {f:FuncId} {args:List Value} {v:Value} {ss:List (List α)} {Rs:List SP} {T:Value→List SP→Prop}
  (h:∀ us:List (Value×List α),us.map (·.2)=ss→Cn P f args [] (Ac (At d) v us::Ac (BU d) v ss::Rs) T):Cn P f args [] (Ac (BU d) v ss::Rs) T:=by
 intro w F H
 obtain ⟨us,hus,H2⟩:=H.heads 0 rfl
 refine (h us hus w F H2).mono ?_
 rintro e W' ⟨v,rfl,Bs,t,H⟩
 exact ⟨v,rfl,Bs,t,H.dropR⟩
theorem Zg {P:Program} {t s i c m:TypeId} {W1:List (List Aq)→Prop} {W2:List BT→Prop} {W3:List Int→Prop}
  (hs:GW P t=some [(s,0,1),(i,1,1),(c,2,1),(c,3,1),(c,4,1),(i,5,1),(i,6,1),(i,7,1),(m,8,1)]) (hc:P.cellsOf t=9) (hi:P.underlying i=some (.int .i64))
  (h1:Ht P s (BU (BU Ag)) W1) (h2:Ht P c (BU Af) W2) (h3:Ht P m (BU (Ai .i64)) W3)
  {H:Type} (enc:TypeId×Value→H) (w:World) (fuel:Nat) (cs:List Value) (x:DataW H×List MemPlace) (h:DataW.trod enc P w 0 (fun _=>true) true fuel t cs=some x):
  ∃ (vS:Value) (ss:List (List Aq)) (n1:Int) (vM:Value) (map:List BT) (vC:Value) (comb:List BT) (vR:Value) (red:List BT) (n5 n6 n7:Int) (vK:Value) (marks:List Int),
   cs=[vS,.int .i64 n1,vM,vC,vR,.int .i64 n5,.int .i64 n6,.int .i64 n7,vK]∧((Ac (BU Ag) vS ss).P w (FF w)∧(Ac Af vM map).P w (FF w)∧(Ac Af vC comb).P w (FF w)∧(Ac Af vR red).P w (FF w)∧(Ac (Ai .i64) vK marks).P w (FF w))∧
   (W1 ss∧W2 map∧W2 comb∧W2 red∧W3 marks)∧(AG n1∧AG n5∧AG n6∧AG n7):=by
 obtain ⟨hl,n,hf⟩:=K9 hs h
 rw [hc] at hl
 match cs,hl with
 |[c0,c1,c2,c3,c4,c5,c6,c7,c8],_=>
  obtain ⟨y0,g0⟩:=hf 0 _ _ _ rfl
  obtain ⟨y1,g1⟩:=hf 1 _ _ _ rfl
  obtain ⟨y2,g2⟩:=hf 2 _ _ _ rfl
  obtain ⟨y3,g3⟩:=hf 3 _ _ _ rfl
  obtain ⟨y4,g4⟩:=hf 4 _ _ _ rfl
  obtain ⟨y5,g5⟩:=hf 5 _ _ _ rfl
  obtain ⟨y6,g6⟩:=hf 6 _ _ _ rfl
  obtain ⟨y7,g7⟩:=hf 7 _ _ _ rfl
  obtain ⟨y8,g8⟩:=hf 8 _ _ _ rfl
  obtain ⟨a0,r0,w0⟩:=h1 enc w n _ _ g0
  obtain ⟨a1,r1,w1⟩:=FN hi enc w n _ _ g1
  obtain ⟨a2,r2,w2⟩:=h2 enc w n _ _ g2
  obtain ⟨a3,r3,w3⟩:=h2 enc w n _ _ g3
  obtain ⟨a4,r4,w4⟩:=h2 enc w n _ _ g4
  obtain ⟨a5,r5,w5⟩:=FN hi enc w n _ _ g5
  obtain ⟨a6,r6,w6⟩:=FN hi enc w n _ _ g6
  obtain ⟨a7,r7,w7⟩:=FN hi enc w n _ _ g7
  obtain ⟨a8,r8,w8⟩:=h3 enc w n _ _ g8
  have q1:[c1]=[Value.int .i64 a1]:=r1
  have q5:[c5]=[Value.int .i64 a5]:=r5
  have q6:[c6]=[Value.int .i64 a6]:=r6
  have q7:[c7]=[Value.int .i64 a7]:=r7
  simp only [List.cons.injEq,and_true] at q1 q5 q6 q7
  subst q1 q5 q6 q7
  exact ⟨c0,a0,a1,c2,a2,c3,a3,c4,a4,a5,a6,a7,c8,a8,rfl,⟨r0,r2,r3,r4,r8⟩,⟨w0,w2,w3,w4,w8⟩,w1,w5,w6,w7⟩
structure Bk (A B:AR):Prop where
 us:A.us.map (·.2)=B.us.map (·.2)
 rest:A={ B with us:=A.us }
theorem Bk.refl (A:AR):Bk A A:=⟨rfl,rfl⟩
theorem Bk.symm {A B:AR} (h:Bk A B):Bk B A:=by
 obtain ⟨h1,h2⟩:=h
 refine ⟨h1.symm,?_⟩
 rw [h2]
theorem Bk.trans {A B C:AR} (h:Bk A B) (k:Bk B C):Bk A C:=by
 obtain ⟨h1,h2⟩:=h
 obtain ⟨k1,k2⟩:=k
 refine ⟨h1.trans k1,?_⟩
 rw [h2,k2]
section
variable {A B:AR} (h:Bk A B)
include h
theorem Bk.parts:A.parts=B.parts:=by rw [h.rest]
theorem Bk.map:A.map=B.map:=by rw [h.rest]
theorem Bk.comb:A.comb=B.comb:=by rw [h.rest]
theorem Bk.red:A.red=B.red:=by rw [h.rest]
theorem Bk.chunk:A.chunk=B.chunk:=by rw [h.rest]
theorem Bk.window:A.window=B.window:=by rw [h.rest]
theorem Bk.fuel:A.fuel=B.fuel:=by rw [h.rest]
theorem Bk.marks:A.marks=B.marks:=by rw [h.rest]
theorem Bk.len:A.us.length=B.us.length:=by have:=congrArg List.length h.us;simpa using this
theorem Bk.recs (s:Nat):recs A s=recs B s:=by
 have e:∀ J:AR,X.recs J s=((J.us.map (·.2))[s]?).getD []:=by
  intro J
  unfold X.recs
  rw [List.getElem?_map]
  cases J.us[s]?<;>rfl
 rw [e,e,h.us]
theorem Bk.split (D:BA) (s:Nat):A0 D A s=A0 D B s:=by
 unfold A0 mapM
 rw [h.recs,h.map,h.comb,h.fuel]
theorem Bk.only (D:BA) (s:Nat) (p:Int):DM D A s p=DM D B s p:=by
 unfold DM
 rw [h.split,h.parts]
theorem Bk.all (D:BA) (p:Int):∀ k,Jk D A p k=Jk D B p k
 |0=>rfl
 |k+1=>by unfold Jk;rw [Bk.all D p k,h.only]
theorem Bk.part (D:BA) (p:Int):Ng D A p=Ng D B p:=by
 unfold Ng
 rw [h.all,h.red,h.fuel,h.len]
theorem Bk.run (D:BA) (s:Nat) (p:Int):NB D A s p=NB D B s p:=by
 unfold NB
 rw [h.split,h.only]
theorem Bk.may (m:Ev A):Ev B:=by
 obtain ⟨m1,m2,m3,m4,m5,m6,m7,m8,m9,m10,m11⟩:=m
 have hs:∀ u∈B.us,HL u.2:=by
  intro u hu
  have:u.2∈B.us.map (·.2):=List.mem_map_of_mem hu
  rw [←h.us] at this
  obtain ⟨v,hv,e⟩:=List.mem_map.1 this
  rw [←e];exact m4 v hv
 rw [h.len,h.marks] at m5
 rw [h.parts] at m2;rw [h.marks] at m3;rw [h.map] at m6;rw [h.red] at m7;rw [h.comb] at m8;rw [h.chunk] at m9;rw [h.window] at m10;rw [h.fuel] at m11
 exact ⟨by rw [←h.len];exact m1,m2,m3,hs,m5,m6,m7,m8,m9,m10,m11⟩
theorem Bk.ok (k:C4 A):C4 B:=⟨h.may k.may,by have:=k.map;rwa [h.map] at this,by have:=k.comb;rwa [h.comb] at this,by have:=k.red;rwa [h.red] at this⟩
end
theorem C4.chunk1 {J:AR} (h:C4 J):1≤J.chunk∧J.chunk≤7:=h.may.2.2.2.2.2.2.2.2.1
structure Cf where
 J:AR
 w:Int
 t:Int
 o:Int
def Dq (C:Cf):Prop:=Ev C.J∧(1≤C.w∧C.w≤4)∧(1≤C.t∧C.t≤3)∧1≤C.o∧C.o≤50
instance mayCD (C:Cf):Decidable (Dq C):=by unfold Dq;infer_instance
structure D6 (A B:Cf):Prop where
 J:Bk A.J B.J
 w:A.w=B.w
 t:A.t=B.t
 o:A.o=B.o
theorem D6.refl (A:Cf):D6 A A:=⟨Bk.refl _,rfl,rfl,rfl⟩
theorem D6.symm {A B:Cf} (h:D6 A B):D6 B A:=⟨h.J.symm,h.w.symm,h.t.symm,h.o.symm⟩
theorem D6.trans {A B C:Cf} (h:D6 A B) (k:D6 B C):D6 A C:=⟨h.J.trans k.J,h.w.trans k.w,h.t.trans k.t,h.o.trans k.o⟩
structure Ix (C:Cf):Prop where
 may:Dq C
 ok:C4 C.J
theorem D6.may {A B:Cf} (h:D6 A B) (m:Dq A):Dq B:=⟨h.J.may m.1,by rw [←h.w];exact m.2.1,by rw [←h.t];exact m.2.2.1,by rw [←h.o];exact m.2.2.2⟩
theorem Ix.w {C:Cf} (h:Ix C):1≤C.w∧C.w≤4:=h.may.2.1
theorem Ix.t {C:Cf} (h:Ix C):1≤C.t∧C.t≤3:=h.may.2.2.1
theorem Ix.o {C:Cf} (h:Ix C):1≤C.o∧C.o≤50:=h.may.2.2.2
def DV (C:Cf) (p:Int):Int:=if ¬ Dq C∨¬ (0≤p∧p≤C.J.parts - 1) then 0 else 1+p.tmod C.w
/-! ### Records and messages in plain words -/
structure Bd where
 kind:Int
 part:Int
 sp:Int
 att:Int
 why:Int
 set:List Int
 pairs:List Aq
def AY.p (r:AY):Bd:=⟨r.kind,r.part,r.sp,r.att,r.why,r.set,r.pairs⟩
structure DQ where
 kind:Int
 sp:Int
 att:Int
 part:Int
 seq:Int
 next:Int
 ep:Int
 why:Int
 set:List Int
 pairs:List Aq
def YG:DQ:=⟨0,0,0,0,0,0,0,0,[],[]⟩
def Hq (x:Int) (k:Nat):List Int:=(List.range k).map fun (i:Nat)=>x+(i:Int)
theorem Tg (x:Int) (k:Nat):(Hq x k).length=k:=by simp [Hq]
theorem e5 (x:Int) (k:Nat):Hq x (k+1)=Hq x k++[x+(k:Int)]:=by simp [Hq,List.range_succ]
def DS (c s x:Int):List Int:=Hq x (min s (c - x)).toNat
theorem Zd (c s x:Int):(DS c s x).length=(min s (c - x)).toNat:=Tg _ _
def B7 (n:Nat):List UInt8:=(List.range 8).map fun i=>UInt8.ofNat (n / 256^(7 - i))
def Fo (l:List UInt8):Nat:=l.foldl (fun n x=>n*256+x.toNat) 0
theorem EL (n:Nat):(B7 n).length=8:=by simp [B7]
theorem TU (n:Nat):B7 n=[UInt8.ofNat (n / 72057594037927936),UInt8.ofNat (n / 281474976710656),UInt8.ofNat (n / 1099511627776),UInt8.ofNat (n / 4294967296),UInt8.ofNat (n / 16777216),UInt8.ofNat (n / 65536),UInt8.ofNat (n / 256),UInt8.ofNat (n / 1)]:=rfl
theorem aJ {n:Nat} (h:n<18446744073709551616):Fo (B7 n)=n:=by
 rw [TU]
 simp only [Fo,List.foldl_cons,List.foldl_nil,UInt8.toNat_ofNat']
 omega
theorem aK:∀ (l:List UInt8) (k:Nat),Fo l<256^l.length:=by
 intro l _
 have:∀ (l:List UInt8) (n m:Nat),n<256^m→l.foldl (fun n x=>n*256+x.toNat) n<256^(m+l.length):=by
  intro l
  induction l with
  |nil=>intro n m h;exact h
  |cons x l ih=>
   intro n m h
   have hx:=UInt8.toNat_lt x
   have:=ih (n*256+x.toNat) (m+1) (by rw [Nat.pow_succ];omega)
   rw [List.foldl_cons,List.length_cons,show m+(l.length+1)=m+1+l.length by omega]
   exact this
 have:=this l 0 0 (by decide)
 rwa [Nat.zero_add] at this
theorem aL (l:List UInt8) (x:UInt8):Fo (l++[x])=Fo l*256+x.toNat:=by
 unfold Fo;rw [List.foldl_append];rfl
def AB (s:ByteArray):List UInt8:=s.data.toList
def Cw (s:ByteArray):List UInt8:=B7 s.size++AB s
theorem GG (s:ByteArray):(AB s).length=s.size:=by unfold AB;exact Array.length_toList
theorem GY (s:ByteArray):(Cw s).length=8+s.size:=by unfold Cw;rw [List.length_append,EL,GG]
def DI (l:List UInt8):ByteArray:=⟨l.toArray⟩
theorem dV (s:ByteArray):DI (AB s)=s:=by cases s;simp [DI,AB]
theorem OM (l:List UInt8):AB (DI l)=l:=by simp [DI,AB]
def Hi (b:List UInt8) (at_:Int):Option (Int×Int):=
 if at_<0∨(b.length:Int)<at_∨(b.length:Int) - at_<8 then none else some (IntKind.i64.wrap (Fo ((b.drop at_.toNat).take 8):Nat),at_+8)
def JT (b:List UInt8) (at_:Int):Option (ByteArray×Int):=
 match Hi b at_ with
 |none=>none
 |some (n,next)=>if n<0∨(b.length:Int) - next<n then none else some (DI ((b.drop next.toNat).take n.toNat),next+n)
theorem Nt {a c:List UInt8} {n k:Nat} (hn:n<9223372036854775808) (hk:a.length=k):Hi (a++(B7 n++c)) (k:Int)=some ((n:Int),((k+8:Nat):Int)):=by
 subst hk
 unfold Hi
 rw [if_neg (by rw [List.length_append,List.length_append,EL];omega)]
 have h1:((a++(B7 n++c)).drop ((a.length:Nat):Int).toNat).take 8=B7 n:=by
  rw [Int.toNat_natCast,List.drop_left,←EL n,List.take_left]
 rw [h1,aJ (by omega),AI (by omega) (by omega)]
 rfl
theorem Lk {a c:List UInt8} {s:ByteArray} {k:Nat} (hs:s.size<9223372036854775808) (hk:a.length=k):JT (a++(Cw s++c)) (k:Int)=some (s,((k+8+s.size:Nat):Int)):=by
 unfold JT
 have h:a++(Cw s++c)=a++(B7 s.size++(AB s++c)):=by unfold Cw;rw [List.append_assoc]
 rw [h,Nt hs hk]
 dsimp only
 rw [if_neg (by rw [List.length_append,List.length_append,List.length_append,EL,GG];omega)]
 have h2:(a++(B7 s.size++(AB s++c))).drop ((k+8:Nat):Int).toNat=AB s++c:=by
  rw [Int.toNat_natCast,←List.append_assoc,show k+8=(a++B7 s.size).length by rw [List.length_append,EL,hk],List.drop_left]
 rw [h2,Int.toNat_natCast,←GG s,List.take_left,dV,GG]
 rfl
def Cb (ps:List Aq):List UInt8:=ps.flatMap fun p=>Cw p.key++Cw p.val
def Ed (ps:List Aq):List UInt8:=B7 ps.length++Cb ps
theorem Nd (ps:List Aq) (p:Aq):Cb (ps++[p])=Cb ps++(Cw p.key++Cw p.val):=by unfold Cb;rw [List.flatMap_append];simp
theorem RO {ps:List Aq} {k:Nat} {p:Aq} (h:ps[k]?=some p):Cb ps=Cb (ps.take k)++(Cw p.key++(Cw p.val++Cb (ps.drop (k+1)))):=by
 obtain ⟨hl,e⟩:=List.getElem?_eq_some_iff.1 h
 have:ps=ps.take k++p::ps.drop (k+1):=by rw [←e,←List.drop_eq_getElem_cons hl,List.take_append_drop]
 conv=>lhs;rw [this]
 unfold Cb
 rw [List.flatMap_append,List.flatMap_cons,List.append_assoc]
def Fh (x:UInt8):List Value:=[.int .u8 x.toNat]
def AP:Kd UInt8:=flat Fh 1 (by omega) (fun _=>rfl) (fun _ c h=>by simp [Fh] at h;subst h;rfl)
structure C2 where
 c:Int
 s:Int
 e:Int
 x:Int
def K8 (w:C2):Prop:=(0≤w.c∧w.c≤40∧1≤w.s∧w.s≤4)∧(0≤w.x∧w.x≤w.c)∧0≤w.e∧w.e≤9223372036854775807
def EC (chunk att:Int):Int:=if att.tmod 2≠0 then chunk+1 else chunk
def Fv (n size:Int):Int:=if n<1∨size<1 then 0 else (n - 1).tdiv size+1
def FI (ps:List Aq) (size q:Int):List Aq:=if q<0∨Fv ps.length size≤q then [] else (ps.drop (q*size).toNat).take size.toNat
def CX (D:BA) (J:AR) (s:Nat) (att:Int):List Int:=
 if (A0 D J s).2≠0 then [] else (List.range J.parts.toNat).map fun (p:Nat)=>Fv ((DM D J s p).length:Nat) (EC J.chunk att)
structure Cy where
 sp:Nat
 att:Int
 ws:List C2
def Dv (D:BA) (J:AR) (s:Nat) (att p q:Int):List Aq:=if p<0 then [] else FI (DM D J s p) (EC J.chunk att) q
def Ew (D:BA) (J:AR) (s:Nat) (att:Int) (w:C2) (p:Nat):List DQ:=
 (DS w.c w.s w.x).map fun q=>⟨2,s,att,p,q,0,0,0,[],Dv D J s att p q⟩
def DW (D:BA) (J:AR) (s:Nat) (att:Int):List C2→Nat→List DQ
 |[],_=>[]
 |w::ws,p=>Ew D J s att w p++DW D J s att ws (p+1)
def Hh (D:BA) (J:AR) (m:Cy):List DQ:=DW D J m.sp m.att m.ws 0
def Oa (m:Cy) (p:Int):Prop:=0≤p∧p<m.ws.length
instance (m:Cy) (p:Int):Decidable (Oa m p):=by unfold Oa;infer_instance
theorem UI {chunk att:Int} (h:1≤chunk∧chunk≤7):1≤EC chunk att∧EC chunk att≤8:=by
 unfold EC;split<;>omega
theorem Hy:∀ l:List UInt8,l.flatMap Fh=l.map fun b=>Value.int .u8 b.toNat
 |[]=>rfl
 |x::l=>by rw [List.flatMap_cons,Hy l];rfl
section
variable {P:Program} {ops:Array Oper} {Q:Exit→Act→World→Prop} {rest:List Oper} {n:Nat} {l:BV} {w0 w:World} {F F0:AU} {o:Oper} {v:Value} {As Rs:List SP} {x y z:Operand} {t:TypeId}
section
variable {α:Type} {enc:α→List Value} {sz:Nat} {hp:0<sz} {hl:∀ x,(enc x).length=sz} {h1:∀ x,∀ c∈enc x,c.oneCell'=true}
theorem cN {e bytes:Nat} {b bt:Nat} {xs ys:List α} {B:Option Addr} {m c c2:Nat} (hg:gd ops l o=some true) (hd:C3 n o.dst=true) (ho:o.op=.call { callee:=.builtin .copy,args:=#[x,y],argTypes:=#[t,t] }) (hs:Ds P t=some (e,sz,bytes))
  (hx:ev l x=some (.slice (some ⟨b,0,none⟩) m c)) (hy:ev l y=some (.slice B m c2)) (H:Hd w0 F0 w (I3 enc b bt xs::As) Rs) (hc:xs.length=c) (hmc:m≤c)
  (hn:∀ F,(∀ A∈As,A.P w F)→(∀ R∈Rs,R.P w F)→(Ac (flat enc sz hp hl h1) (.slice B m c2) ys).P w F)
  (h:∀ w',Hd w0 F0 w' (I3 enc b bt (ys++xs.drop m)::As) Rs→WL P ops Q rest n (CL l o.dst (.int .i64 (m:Int))) w'):WL P ops Q (o::rest) n l w:=by
 obtain ⟨F,hF1,hF2⟩:∃ F,(∀ A∈As,A.P w F)∧(∀ R∈Rs,R.P w F):=H.read fun F a r=>⟨F,fun A hA=>a A (List.mem_cons_of_mem _ hA),r⟩
 obtain ⟨hyl,_,_,news,hnr,hnR⟩:NJ (flat enc sz hp hl h1) w F ys B m c2:=by
  obtain ⟨A',n',c',e',h'⟩:=hn F hF1 hF2
  cases e'
  exact h'
 have hnl:news.length=m*sz:=by rw [hnR.len,hyl];rfl
 have hm0:B=none→m=0:=by
  intro hB
  rcases hnr.2 with rfl|⟨b,off,C,t',fr,e',_⟩
  ·have:m*sz=0:=by rw [←hnl];rfl
   exact (Nat.mul_eq_zero.1 this).resolve_right (by omega)
  ·rw [hB] at e';cases e'
 obtain ⟨hu,i,hi,hi1,hi2⟩:=FS hs
 have hfc:=Ma (P:=P) (c:=c2) hnr hnl hm0
 have hnews:news=ys.flatMap enc:=Be.flat_eq.1 hnR
 obtain ⟨F1,hb⟩:∃ F,(I3 enc b bt xs).P w F:=H.fact (List.mem_cons_self ..) fun F hb=>⟨F,hb⟩
 have hfit:0+0+news.length≤(xs.flatMap enc).length:=by rw [hnl,G_ hl,Nat.add_zero,Nat.zero_add];exact Nat.mul_le_mul_right _ (by omega)
 obtain ⟨w',hr,_,_⟩:=JW (P:=P) news (xs.flatMap enc) 0 0 w hb hfit hnR.one
 have hnew:E5 (xs.flatMap enc) (0+0) news=(ys++xs.drop m).flatMap enc:=by
  rw [Nat.add_zero,JN _ _ _ (by rw [Nat.zero_add] at hfit ⊢;simpa using hfit),hnews,List.take_zero,G_ hl,hyl,Nat.zero_add,KA hl]
  simp
 refine V hg hd (v:=.int .i64 (m:Int)) (w':=w') (fun a ha=>?_) (h w' (H.write fun F' hb'=>?_))
 ·simp [execOp,ho,resolve,ha.eval hx,ha.eval hy,invoke,builtin,Builtin.copy_,run_underlying hu,sizeOf,typeInfo,hi,hi1,Builtin.lenOf,hfc w rfl,hr,goInt]
 ·obtain ⟨w'',hr',h2,h3⟩:=JW (P:=P) news (xs.flatMap enc) 0 0 w hb' hfit hnR.one
  rw [hr] at hr'
  cases hr'
  refine ⟨?_,h3⟩
  show (blk b _ bt).P w' F'
  rw [←hnew]
  exact h2
end
theorem cK {e bytes:Nat} {zv u:Value} {xs:List UInt8} {s:ByteArray} {ts:TypeId}
  (hg:gd ops l o=some true) (hd:C3 n o.dst=true) (ho:o.op=.call { callee:=.builtin .append,args:=#[x,y],argTypes:=#[t,ts] }) (hs:Ds P t=some (e,1,bytes)) (hz:Du P e=some zv) (hzs:zv.cells.size=1) (hb0:0<bytes) (hts:P.underlying ts=some .string)
  (hx:ev l x=some u) (hy:ev l y=some (.string s)) (H:Hd w0 F0 w (Y AP u xs::As) Rs) (hb:(xs.length+s.size)*bytes≤140737488355328)
  (h:∀ u' w',Hd w0 F0 w' (Y AP u' (xs++AB s)::As) Rs→WL P ops Q rest n (CL l o.dst u') w'):WL P ops Q (o::rest) n l w:=by
 obtain ⟨hu,i,hi,hi1,hi2⟩:=FS hs
 have hfc:∀ w':World,w'.heap=w.heap→(Builtin.firstCells 1 s.size (.string s)).run P w'=.ok ((AB s).flatMap Fh).toArray w':=by
  intro w' _
  have e1:s.extract 0 s.size=s:=by simp
  simp only [Builtin.firstCells,e1,Sem.run_pure]
  rw [Hy]
  congr 1
  apply Array.ext'
  simp [AB]
 have hnl:((AB s).flatMap Fh).length=s.size*1:=by rw [Hy,List.length_map,GG,Nat.mul_one]
 have h1:∀ c∈(AB s).flatMap Fh,c.oneCell'=true:=by
  rw [Hy]
  intro c hc
  obtain ⟨b,_,rfl⟩:=List.mem_map.1 hc
  rfl
 have key:∀ F1,(Y AP u xs).P w F1→(∀ k,F1 k→k<w.heap.size)→∃ A c A' c' w' F',u=.slice A xs.length c∧(Builtin.append_ #[t,ts] o.type #[u,.string s]).run P w=.ok (.slice A' (xs.length+s.size) c') w'∧(Y AP (.slice A' (xs.length+s.size) c') (xs++AB s)).P w' F'∧Cz F1 w w'∧(∀ k,F' k→k<w'.heap.size∧(F1 k∨w.heap.size≤k)):=by
  rintro F1 ⟨A,n',c,e',hxl,cs,G1,G2,g1,g2,gd,hr,hR⟩ hlt
  cases e'
  subst hxl
  obtain ⟨A',c',w',F',hrun,hrow,hupd,hF'⟩:=NC (P:=P) (tx:=ts) (ty:=o.type) (x:=.string s) (m:=s.size) (news:=(AB s).flatMap Fh) hs hz hzs hts (.inr rfl) hr (fun k hk=>hlt k (g1 k hk)) (by simp [Builtin.lenOf]) hfc hnl h1 hb0 hb
  refine ⟨A,c,A',c',w',F',rfl,hrun,?_,⟨hupd.os,hupd.tape,hupd.output,hupd.size,fun k hk hn'=>hupd.block k hk (fun q=>hn' (g1 k q))⟩,fun k hk=>⟨(hF' k hk).1,(hF' k hk).2.imp (g1 k) id⟩⟩
  exact ⟨A',_,c',rfl,by rw [List.length_append,GG],cs++(AB s).flatMap Fh,F',none_,fun _ q=>q,fun _ q=>q.elim,fun _ _ q=>q,hrow,CM.flatR (F:=none_) (Be.flat_eq.2 (by rw [Be.flat_eq.1 hR.toR];simp))⟩
 have hall:∃ F1,(Y AP u xs).P w F1∧∀ k,F1 k→k<w.heap.size:=by
  obtain ⟨F,G,⟨F1,F2,a1,a2,a3,a,s⟩,r,d,f,g,u⟩:=H
  exact ⟨F1,a,fun k hk=>(f k (a1 k hk)).1⟩
 obtain ⟨F1,hO,hlt⟩:=hall
 obtain ⟨A,c,A',c',w',F',hue,hrun,_,_,_⟩:=key F1 hO hlt
 refine V hg hd (v:=.slice A' (xs.length+s.size) c') (w':=w') (fun a ha=>?_) (h _ _ (H.grow fun F2 hO2 hlt2=>?_))
 ·simp [execOp,ho,resolve,ha.eval hx,ha.eval hy,invoke,builtin,hrun]
 ·obtain ⟨A3,c3,A4,c4,w4,F4,_,hrun4,h4,h5,h6⟩:=key F2 hO2 hlt2
  rw [hrun] at hrun4
  cases hrun4
  exact ⟨F4,h4,h5,h6⟩
theorem SI {src dst e:TypeId} {s:ByteArray} (hg:gd ops l o=some true) (hd:C3 n o.dst=true) (ho:o.op=.convert src dst x) (hs:P.underlying src=some .string) (hd':P.underlying dst=some (.slice e)) (he:P.underlying e=some (.int .u8)) (hx:ev l x=some (.string s))
  (hb:s.size≤140737488355328) (H:Hd w0 F0 w As Rs)
  (h:∀ b c w',s.size≤c→c≤9223372036854775807→Hd w0 F0 w' As (Ac AP (.slice (some ⟨b,0,none⟩) s.size c) (AB s)::Rs)→WL P ops Q rest n (CL l o.dst (.slice (some ⟨b,0,none⟩) s.size c)) w'):WL P ops Q (o::rest) n l w:=by
 have hr:=run_bytes_of_string w src dst e s hs hd' he
 have hge:=grownCap_ge w s.size 0 e
 have hle:grownCap w s.size 0 e≤9223372036854775807:=by
  have:=grownCap_le_maxLen w s.size 0 e (by simp only [maxLen];omega)
  simpa [maxLen] using this
 generalize hc:grownCap w s.size 0 e=c at hr hge hle
 generalize hC:bytesRow s c=C at hr
 have hCl:C.toList.take s.size=(AB s).flatMap Fh:=by
  rw [←hC,Hy]
  unfold bytesRow
  rw [Array.toList_append,List.take_append_of_le_length (by simp)]
  rw [List.take_of_length_le (by simp)]
  simp [AB]
 refine V hg hd (v:=.slice (some ⟨w.heap.size,0,none⟩) s.size c) (w':=w.drew.alloc (.cells C e (C.size,C.size+1))) (fun a ha=>?_) (h _ c _ hge hle (Hd.lend (A:=Ac AP (.slice (some ⟨w.heap.size,0,none⟩) s.size c) (AB s)) (H.new (F':=fun k=>k=w.heap.size) ?_ ?_ ?_) fun _ h=>h))
 ·simp [execOp,ho,ha.eval hx,hr]
 ·exact (Cz.alloc none_ w.drew _).trans (Cz.refl none_ _) (fun _ _ x=>x)|>fun u=>⟨u.os,u.tape,u.output,u.size,u.block⟩
 ·refine ⟨_,_,_,rfl,GG s,hge,hle,(AB s).flatMap Fh,⟨trivial,.inr ⟨w.heap.size,0,C,e,(C.size,C.size+1),rfl,rfl,?_,?_⟩⟩,Be.flat_eq.2 rfl⟩
  ·show (w.heap.push _)[w.heap.size]?=_
   simp
  ·rw [List.drop_zero,show ((AB s).flatMap Fh).length=s.size by rw [Hy,List.length_map,GG]]
   exact hCl
 ·intro k hk
  subst hk
  simp
theorem R9 {src dst e:TypeId} {A:Option Addr} {m c:Nat} {bs:List UInt8} (ho:o.op=.convert src dst x) (hs:P.underlying src=some (.slice e)) (he:P.underlying e=some (.int .u8)) (hd:P.underlying dst=some .string) (hx:ev l x=some (.slice A m c)) {r:ByteArray} (hr:DI bs=r) (h:(Ac AP (.slice A m c) bs).P w F):BP P n l w o (.string r) w:=by
 subst hr
 obtain ⟨A',c',e',_,_,_,cs,h4,h5⟩:=NA h
 cases e'
 have hcs:cs=bs.flatMap Fh:=Be.flat_eq.1 h5
 intro a ha
 cases A with
 |none=>
  have:bs=[]:=by
   rcases h4.2 with h6|⟨b,off,C,t',fr,e',_⟩
   ·rw [hcs,Hy] at h6;simpa using h6
   ·cases e'
  subst this
  have:=run_convert_bytes_nil (P:=P) w src e hs he 0 c dst hd
  simp [execOp,ho,ha.eval hx,this]
  rfl
 |some ad=>
  have:=run_convert_bytes_back (P:=P) w src dst e ad c bs hs he hd (fun j hj=>by
   have hv:cs[j]?=some (.int .u8 (bs[j].toNat:Int)):=by rw [hcs,Hy,List.getElem?_map,List.getElem?_eq_getElem hj];rfl
   obtain ⟨b,off,e1,h6⟩:=h4.cell hv
   cases e1
   rw [EK]
   exact h6)
  simp [execOp,ho,ha.eval hx,this,DI]
theorem Hd.rd {p:Prop} (H:Hd w0 F0 w As Rs) {S:SP} (hS:∀ F,(∀ A∈As,A.P w F)→(∀ R∈Rs,R.P w F)→S.P w F) (h:∀ F,S.P w F→p):p:=H.read fun F a r=>h F (hS F a r)
theorem R_ {tt e size bytes:TypeId} {A:Option Addr} {m c i' j' m':Nat} {k k':IntKind} {i j:Int} (ho:o.op=.slice tt x (some y) (some z) none) (hs:Ds P tt=some (e,size,bytes)) (hx:ev l x=some (.slice A m c)) (hy:ev l y=some (.int k i)) (hz:ev l z=some (.int k' j))
  (h0:0≤i) (h1:i≤j) (h2:j≤(c:Int)) (hi':i.toNat=i') (hj':j.toNat=j') (hm':j' - i'=m'):BP P n l w o (.slice (D7 A c i' size) m' (c - i')) w:=by
 intro a ha
 obtain ⟨hu,inf,hi,hzz,_⟩:=FS hs
 subst hi' hj' hm'
 have h3:0≤j:=by omega
 have h4:i≤max j 0:=by omega
 have hb:(Instr.sliceBounds true m c (some (.int k i)) (some (.int k' j)) none).run P w=.ok (i.toNat,j.toNat,c) w:=by
  simp [Instr.sliceBounds,Instr.sliceBound,asIntOf,h0,h2,h3,h4]
 unfold D7
 by_cases e1:c=i.toNat
 ·rw [e1] at hb
  cases A<;>simp [execOp,ho,ha.eval hx,ha.eval hy,ha.eval hz,Instr.sliceAt,Instr.slice,hb,run_underlying hu,sizeOf,typeInfo,hi,hzz,e1]
 ·cases A<;>simp [execOp,ho,ha.eval hx,ha.eval hy,ha.eval hz,Instr.sliceAt,Instr.slice,hb,run_underlying hu,sizeOf,typeInfo,hi,hzz,e1]
end
theorem Lr {α:Type} {d:Kd α} {w:World} {F:AU} {A:Option Addr} {m c:Nat} {xs:List α} (h:(Ac d (.slice A m c) xs).P w F) {i m':Nat} (hi:i+m'≤m):(Ac d (.slice (D7 A c i d.sz) m' (c - i)) ((xs.drop i).take m')).P w F:=bX (I5 h (i:=i) (by omega)) (by omega)
theorem V6:∀ x,(Fh x).length=1:=fun _=>rfl
/-! ### Numbers, byte by byte -/
theorem cZ (n:Nat) {i:Nat} (h:i<8):((n:Nat):Int).fdiv (2^(min ((8:Int)*(7 - ((i:Nat):Int))).toNat IntKind.u64.bits))=((n / 256^(7 - i):Nat):Int):=by
 have e:(2:Int)^(min ((8:Int)*(7 - ((i:Nat):Int))).toNat IntKind.u64.bits)=((256^(7 - i):Nat):Int):=by
  match i,h with
  |0,_=>decide
  |1,_=>decide
  |2,_=>decide
  |3,_=>decide
  |4,_=>decide
  |5,_=>decide
  |6,_=>decide
  |7,_=>decide
 rw [e,Int.fdiv_eq_ediv_of_nonneg _ (Int.natCast_nonneg _),Int.natCast_ediv]
theorem f4 (m:Nat):IntKind.u8.wrap ((m:Nat):Int)=((UInt8.ofNat m).toNat:Int):=by
 unfold IntKind.wrap
 simp [IntKind.bits,IntKind.signed,UInt8.toNat_ofNat']
theorem cY {m:Nat} (h:m<72057594037927936):IntKind.u64.wrap (((m:Nat):Int)*2^(min (8:Int).toNat IntKind.u64.bits))=((m*256:Nat):Int):=by
 have e:(2:Int)^(min (8:Int).toNat IntKind.u64.bits)=256:=by decide
 rw [e,Fr (by omega) (by omega)]
 omega
theorem Zi {P:Program} {w:World} {m:Nat} (h:m<72057594037927936) (x:UInt8):(Op.intBits .or .u64 ((m*256:Nat):Int) ((x.toNat:Nat):Int)).run P w=.ok (.int .u64 ((m*256+x.toNat:Nat):Int)) w:=by
 have hx:=UInt8.toNat_lt x
 have h1:m*256|||x.toNat=m*256+x.toNat:=by
  have:=Nat.shiftLeft_add_eq_or_of_lt (b:=x.toNat) (i:=8) (by omega) m
  rw [Nat.shiftLeft_eq] at this
  exact this.symm
 have h2:(BitVec.ofInt 64 ((m*256:Nat):Int)|||BitVec.ofInt 64 ((x.toNat:Nat):Int)).toNat=m*256+x.toNat:=by
  rw [BitVec.toNat_or]
  simp only [BitVec.ofInt_natCast,BitVec.toNat_ofNat]
  rw [Nat.mod_eq_of_lt (by omega),Nat.mod_eq_of_lt (by omega),h1]
 unfold Op.intBits
 show (pure (Value.int .u64 (IntKind.u64.wrap ((BitVec.ofInt 64 ((m*256:Nat):Int)|||BitVec.ofInt 64 ((x.toNat:Nat):Int)).toNat:Nat))):Sem Value).run P w=_
 rw [h2,Fr (by omega) (by omega)]
 rfl
/-! ### What the program tells of bytes -/
def BZ (b:List UInt8) (at_:Int):Int×Int×Bool:=match Hi b at_ with
 |some x=>(x.1,x.2,true)
 |none=>(0,0,false)
def Ax (b:List UInt8) (at_:Int):ByteArray×Int×Bool:=match JT b at_ with
 |some x=>(x.1,x.2,true)
 |none=>(⟨#[]⟩,0,false)
theorem I0 {b:List UInt8} {at_:Int} (h:at_<0∨(b.length:Int)<at_∨(b.length:Int) - at_<8):BZ b at_=(0,0,false):=by
 unfold BZ Hi;rw [if_pos h]
theorem Ns {b:List UInt8} {at_:Int} (h:¬ (at_<0∨(b.length:Int)<at_∨(b.length:Int) - at_<8)):BZ b at_=(IntKind.i64.wrap (Fo ((b.drop at_.toNat).take 8):Nat),at_+8,true):=by
 unfold BZ Hi;rw [if_neg h]
theorem Nv {b:List UInt8} {at_:Int} (h:(BZ b at_).2.2=false):Ax b at_=(⟨#[]⟩,0,false):=by
 unfold BZ at h
 unfold Ax JT
 cases e:Hi b at_ with
 |none=>rfl
 |some x=>rw [e] at h;cases h
theorem Lj {b:List UInt8} {at_:Int} (h:(BZ b at_).2.2=true):Ax b at_=if (BZ b at_).1<0∨(b.length:Int) - (BZ b at_).2.1<(BZ b at_).1 then (⟨#[]⟩,0,false) else (DI ((b.drop (BZ b at_).2.1.toNat).take (BZ b at_).1.toNat),(BZ b at_).2.1+(BZ b at_).1,true):=by
 unfold BZ at h ⊢
 unfold Ax JT
 cases e:Hi b at_ with
 |none=>rw [e] at h;cases h
 |some x=>
  dsimp only
  by_cases g:x.1<0∨(b.length:Int) - x.2<x.1
  ·rw [if_pos g,if_pos g]
  ·rw [if_neg g,if_neg g]
theorem Nr {b:List UInt8} {at_:Int} (h:(BZ b at_).2.2=true):8≤(BZ b at_).2.1∧(BZ b at_).2.1≤(b.length:Int)∧(BZ b at_).2.1=at_+8∧0≤at_:=by
 by_cases g:at_<0∨(b.length:Int)<at_∨(b.length:Int) - at_<8
 ·rw [I0 g] at h;cases h
 ·rw [Ns g];dsimp only;omega
theorem aN {b:List UInt8} {at_:Int}: -9223372036854775808≤(BZ b at_).1∧(BZ b at_).1≤9223372036854775807:=by
 by_cases g:at_<0∨(b.length:Int)<at_∨(b.length:Int) - at_<8
 ·rw [I0 g];decide
 ·rw [Ns g]
  dsimp only
  unfold IntKind.wrap
  simp [IntKind.bits,IntKind.signed]
  omega
theorem TT (n:Nat) {i:Nat} (h:i<8):(B7 n)[i]?=some (UInt8.ofNat (n / 256^(7 - i))):=by
 unfold B7;rw [List.getElem?_map,List.getElem?_range h];rfl
theorem TV (n:Nat) {i:Nat} (h:i<8):(B7 n).take (i+1)=(B7 n).take i++[UInt8.ofNat (n / 256^(7 - i))]:=Eo (TT n h)
theorem aM {l:List UInt8} {i:Nat} {x:UInt8} (h:l[i]?=some x):Fo (l.take (i+1))=Fo (l.take i)*256+x.toNat:=by rw [Eo h,aL]
section
variable {w0 w:World} {F0:AU} {As Bs Rs:List SP} {A B:SP}
theorem Hd.exA {α:Sort _} {A:α→SP} (h:Hd w0 F0 w (ex A::As) Rs):∃ a,Hd w0 F0 w (A a::As) Rs:=by
 obtain ⟨F,G,⟨F1,F2,h1,h2,h3,⟨a,ha⟩,s⟩,r⟩:=h
 exact ⟨a,F,G,⟨F1,F2,h1,h2,h3,ha,s⟩,r⟩
theorem Hd.exI {α:Sort _} {A:α→SP} (a:α) (h:Hd w0 F0 w (A a::As) Rs):Hd w0 F0 w (ex A::As) Rs:=h.turn fun _ ha=>⟨a,ha⟩
theorem Hd.stA (h:Hd w0 F0 w (B0 Bs::As) Rs):Hd w0 F0 w (Bs++As) Rs:=h.open_ fun _ h=>h
theorem Hd.stI (h:Hd w0 F0 w (Bs++As) Rs):Hd w0 F0 w (B0 Bs::As) Rs:=h.shut fun _ h=>h
theorem Hd.puA {p:Prop} (h:Hd w0 F0 w (BY p::As) Rs):p∧Hd w0 F0 w As Rs:=⟨h.fact (List.mem_cons_self ..) fun _ h=>h,h.drop⟩
theorem Hd.puI {p:Prop} (hp:p) (h:Hd w0 F0 w As Rs):Hd w0 F0 w (BY p::As) Rs:=h.shut (Bs:=[]) fun _ _=>hp
def BN {α:Type} (f:α→SP) (l:List α):SP:=B0 (l.map f)
theorem Hd.big0 {α:Type} (f:α→SP) (h:Hd w0 F0 w As Rs):Hd w0 F0 w (BN f []::As) Rs:=h.shut (Bs:=[]) fun _ _=>trivial
theorem Kw {α:Type}:∀ (l:List α) (i:Nat) {x:α},l[i]?=some x→l.Perm (x::l.eraseIdx i)
 |[],_,_,h=>by simp at h
 |y::l,0,x,h=>by
  obtain rfl:y=x:=by simpa using h
  exact List.Perm.refl _
 |y::l,i+1,x,h=>((Kw l i (by simpa using h)).cons y).trans (List.Perm.swap _ _ _)
theorem Hd.bigO {α:Type} {f:α→SP} {l:List α} {x:α} (i:Nat) (hx:l[i]?=some x) (h:Hd w0 F0 w (BN f l::As) Rs):Hd w0 F0 w (f x::BN f (l.eraseIdx i)::As) Rs:=by
 have h1:=h.stA.perm (((Kw l i hx).map f).append_right As)
 have h2:Hd w0 F0 w (((l.eraseIdx i).map f++As)++[f x]) Rs:=h1.perm (by rw [List.map_cons,List.cons_append];exact (List.perm_append_comm (l₁:=[f x])))
 have h3:Hd w0 F0 w ((l.eraseIdx i).map f++(As++[f x])) Rs:=by rw [←List.append_assoc];exact h2
 exact (show Hd w0 F0 w (BN f (l.eraseIdx i)::(As++[f x])) Rs from h3.stI).perm (List.perm_append_comm (l₁:=BN f (l.eraseIdx i)::As) (l₂:=[f x]))
theorem Hd.bigI {α:Type} {f:α→SP} {l:List α} {x:α} (i:Nat) (hi:i<l.length) (h:Hd w0 F0 w (f x::BN f (l.eraseIdx i)::As) Rs):Hd w0 F0 w (BN f (l.set i x)::As) Rs:=by
 have h1:Hd w0 F0 w (BN f (l.eraseIdx i)::(As++[f x])) Rs:=h.perm (List.perm_append_comm (l₁:=[f x]) (l₂:=BN f (l.eraseIdx i)::As))
 have h2:Hd w0 F0 w ((l.eraseIdx i).map f++As++[f x]) Rs:=by rw [List.append_assoc];exact h1.stA
 have h3:Hd w0 F0 w ((x::l.eraseIdx i).map f++As) Rs:=h2.perm (List.perm_append_comm (l₁:=(l.eraseIdx i).map f++As) (l₂:=[f x]))
 have hp:(l.set i x).Perm (x::l.eraseIdx i):=by
  have:=Kw (l.set i x) i (x:=x) (by rw [List.getElem?_set_self hi])
  rwa [List.eraseIdx_set_eq] at this
 exact (h3.perm ((hp.symm.map f).append_right As)).stI
theorem Hd.bigN {α:Type} {f:α→SP} {l:List α} {x:α} (h:Hd w0 F0 w (f x::BN f l::As) Rs):Hd w0 F0 w (BN f (l++[x])::As) Rs:=by
 have h1:Hd w0 F0 w (BN f l::(As++[f x])) Rs:=h.perm (List.perm_append_comm (l₁:=[f x]) (l₂:=BN f l::As))
 have h2:Hd w0 F0 w (l.map f++As++[f x]) Rs:=by rw [List.append_assoc];exact h1.stA
 have h3:Hd w0 F0 w ((x::l).map f++As) Rs:=h2.perm (List.perm_append_comm (l₁:=l.map f++As) (l₂:=[f x]))
 exact (h3.perm (((List.perm_append_comm (l₁:=[x]) (l₂:=l)).map f).append_right As)).stI
end
def O9 (b:Nat):List Value:=[.pointer (some ⟨b,0,none⟩)]
def Dx:Kd Nat:=flat O9 1 (by omega) (fun _=>rfl) (fun _ c h=>by simp [O9] at h;subst h;rfl)
def Dn (t:Nat) (e:Nat×C2):SP:=blk e.1 [.int .i64 e.2.c,.int .i64 e.2.s,.int .i64 e.2.e,.int .i64 e.2.x] t
def BI (ps:List Aq):ByteArray:=DI (Ed ps)
theorem I_ (l:List UInt8):(DI l).size=l.length:=by simp [DI,ByteArray.size]
theorem La {ps:List Aq} (h:∀ p∈ps,p.key.size≤100∧p.val.size≤100):(Cb ps).length≤ps.length*216:=by
 induction ps with
 |nil=>exact Nat.zero_le _
 |cons p ps ih=>
  have h1:=h p (List.mem_cons_self ..)
  have h2:=ih fun q hq=>h q (List.mem_cons_of_mem _ hq)
  have e:Cb (p::ps)=(Cw p.key++Cw p.val)++Cb ps:=by unfold Cb;rw [List.flatMap_cons]
  rw [e,List.length_append,List.length_append,GY,GY,List.length_cons,Nat.succ_mul]
  omega
theorem Zt {ps:List Aq} (h:∀ p∈ps,p.key.size≤100∧p.val.size≤100) (hl:ps.length≤1000):(BI ps).size≤300000:=by
 have:=La h
 unfold BI
 rw [I_]
 unfold Ed
 rw [List.length_append,EL]
 omega
theorem Nf (ps:List Aq):AB (BI ps)=Ed ps:=OM _
def D9 (ps:List Aq) (k:Nat):Nat:=8+(Cb (ps.take k)).length
theorem Zs {ps:List Aq} {k:Nat} {p:Aq} (h:ps[k]?=some p):D9 ps (k+1)=D9 ps k+8+p.key.size+8+p.val.size:=by
 unfold D9
 rw [Eo h,Nd,List.length_append,List.length_append,GY,GY]
 omega
theorem Zv {ps:List Aq} (hl:ps.length<9223372036854775808):BZ (Ed ps) 0=(((ps.length:Nat):Int),8,true):=by
 have h:=Nt (a:=[]) (c:=Cb ps) (n:=ps.length) (k:=0) hl rfl
 unfold BZ Ed
 have h2:Hi (B7 ps.length++Cb ps) 0=some (((ps.length:Nat):Int),((0+8:Nat):Int)):=h
 rw [h2]
 rfl
theorem Zu {ps:List Aq} {k:Nat} {p:Aq} (h:ps[k]?=some p) (hk:p.key.size<9223372036854775808):Ax (Ed ps) (D9 ps k:Nat)=(p.key,((D9 ps k+8+p.key.size:Nat):Int),true):=by
 have e:Ed ps=(B7 ps.length++Cb (ps.take k))++(Cw p.key++(Cw p.val++Cb (ps.drop (k+1)))):=by unfold Ed;rw [RO h,List.append_assoc]
 have h1:=Lk (a:=B7 ps.length++Cb (ps.take k)) (c:=Cw p.val++Cb (ps.drop (k+1))) (s:=p.key) (k:=D9 ps k) hk (by rw [List.length_append,EL];rfl)
 unfold Ax
 rw [e,h1]
theorem Zw {ps:List Aq} {k:Nat} {p:Aq} (h:ps[k]?=some p) (hk:p.val.size<9223372036854775808):Ax (Ed ps) ((D9 ps k+8+p.key.size:Nat):Int)=(p.val,((D9 ps (k+1):Nat):Int),true):=by
 have e:Ed ps=(B7 ps.length++Cb (ps.take k)++Cw p.key)++(Cw p.val++Cb (ps.drop (k+1))):=by unfold Ed;rw [RO h];simp only [List.append_assoc]
 have h1:=Lk (a:=B7 ps.length++Cb (ps.take k)++Cw p.key) (c:=Cb (ps.drop (k+1))) (s:=p.val) (k:=D9 ps k+8+p.key.size) hk (by rw [List.length_append,List.length_append,EL,GY];unfold D9;omega)
 unfold Ax
 rw [e,h1,Zs h]
theorem Zr {ps:List Aq} (h:∀ p∈ps,p.key.size≤100∧p.val.size≤100) (hl:ps.length≤1000) (i:Nat):D9 ps i≤300000:=by
 have h1:=La (ps:=ps.take i) fun p hp=>h p (List.mem_of_mem_take hp)
 have h2:(ps.take i).length≤ps.length:=by rw [List.length_take];omega
 unfold D9
 omega
def FH (D:BA) (J:AR) (s:Nat) (att:Int) (k:Nat):List Int:=(List.range k).map fun (p:Nat)=>Fv ((DM D J s p).length:Nat) (EC J.chunk att)
theorem Us (D:BA) (J:AR) (s:Nat) (att:Int) (k:Nat):FH D J s att (k+1)=FH D J s att k++[Fv ((DM D J s k).length:Nat) (EC J.chunk att)]:=by
 unfold FH;rw [List.range_succ,List.map_append];rfl
theorem Ur (D:BA) (J:AR) (s:Nat) (att:Int) (k:Nat):(FH D J s att k).length=k:=by simp [FH]
theorem UC {D:BA} {J:AR} {s:Nat} {att:Int} (h:(A0 D J s).2=0):CX D J s att=FH D J s att J.parts.toNat:=by
 unfold CX;rw [if_neg (fun g=>g h)];rfl
theorem UB {D:BA} {J:AR} {s:Nat} {att:Int} (h:(A0 D J s).2≠0):CX D J s att=[]:=by
 unfold CX;rw [if_pos h]
/-! ### Windows, in a row of pointers -/
theorem fW {ws:List (Nat×C2)} {k:Nat} {e:Nat×C2} (h:ws[k]?=some e):(ws.map Prod.snd)[k]?=some e.2:=by rw [List.getElem?_map,h];rfl
theorem fV {ws:List (Nat×C2)} {k:Nat} {e:Nat×C2} (h:ws[k]?=some e):ws.set k e=ws:=Lv h
theorem Ui {n size q:Int} (h0:0≤q) (h1:q<Fv n size) (hs:1≤size):0≤q*size∧q*size≤n - 1:=by
 unfold Fv at h1
 by_cases h:n<1∨size<1
 ·rw [if_pos h] at h1;omega
 ·rw [if_neg h,Int.tdiv_eq_ediv_of_nonneg (by omega)] at h1
  exact ⟨Int.mul_nonneg h0 (by omega),(Int.le_ediv_iff_mul_le (by omega)).1 (by omega)⟩
theorem UG {ps:List Aq} {size q:Int} {m k:Nat} (h0:0≤q) (h1:q<Fv ps.length size) (hs:1≤size) (hm:q*size=(m:Int)) (hk:min size (((ps.length - m:Nat):Int))=(k:Int)):FI ps size q=(ps.drop m).take k:=by
 unfold FI
 rw [if_neg (by omega),hm,Int.toNat_natCast]
 refine (List.take_eq_take_iff).2 ?_
 rw [List.length_drop]
 omega
theorem O1 {ps:List Aq} {size q:Int} (h:q<0∨Fv ps.length size≤q):FI ps size q=[]:=if_pos h
theorem d9 {n size:Int} (h:0≤n) (hs:1≤size):0≤n.tdiv size∧n.tdiv size≤n:=by
 rw [Int.tdiv_eq_ediv_of_nonneg h]
 exact ⟨Int.ediv_nonneg h (by omega),Int.ediv_le_self _ h⟩
/-! ### What is pushed, window by window -/
theorem R4 (D:BA) (J:AR) (s:Nat) (att:Int):∀ (a b:List C2) (p:Nat),DW D J s att (a++b) p=DW D J s att a p++DW D J s att b (p+a.length)
 |[],b,p=>rfl
 |w::a,b,p=>by
  show Ew D J s att w p++DW D J s att (a++b) (p+1)=Ew D J s att w p++DW D J s att a (p+1)++_
  rw [R4 D J s att a b (p+1),List.append_assoc,List.length_cons,show p+1+a.length=p+(a.length+1) by omega]
theorem ZM {D:BA} {J:AR} {s:Nat} {att:Int} {ws:List C2} {k:Nat} {w:C2} (h:ws[k]?=some w):DW D J s att (ws.take (k+1)) 0=DW D J s att (ws.take k) 0++Ew D J s att w k:=by
 rw [Eo h,R4,List.length_take,Nat.zero_add,Nat.min_eq_left (Nat.le_of_lt (KQ h))]
 show _++(Ew D J s att w k++[])=_
 rw [List.append_nil]
theorem Nk (D:BA) (J:AR) (s:Nat) (att:Int) (w:C2) (p:Nat):(Ew D J s att w p).length=(DS w.c w.s w.x).length:=by unfold Ew;rw [List.length_map]
theorem ZL {D:BA} {J:AR} {s:Nat} {att:Int} {w:C2} {p j:Nat} {q:Int} (h:(DS w.c w.s w.x)[j]?=some q):(Ew D J s att w p).take (j+1)=(Ew D J s att w p).take j++[⟨2,s,att,p,q,0,0,0,[],Dv D J s att p q⟩]:=
 Eo (by unfold Ew;rw [List.getElem?_map,h];rfl)
theorem RJ {w:C2} (h:K8 w):(DS w.c w.s w.x).length≤4:=by
 rw [Zd]
 have:=h.1
 have:=h.2.1
 omega
theorem Lc {D:BA} {J:AR} {s:Nat} {att:Int}:∀ {ws:List C2} (p:Nat),(∀ w∈ws,K8 w)→(DW D J s att ws p).length≤4*ws.length
 |[],_,_=>Nat.zero_le _
 |w::ws,p,h=>by
  have h1:=RJ (h w (List.mem_cons_self ..))
  have h2:=Lc (D:=D) (J:=J) (s:=s) (att:=att) (p+1) fun x hx=>h x (List.mem_cons_of_mem _ hx)
  show (Ew D J s att w p++DW D J s att ws (p+1)).length≤_
  rw [List.length_append,Nk,List.length_cons]
  omega
theorem OW {A B:AR} (h:Bk A B) (D:BA) (s:Nat) (att:Int):CX D A s att=CX D B s att:=by
 unfold CX
 rw [h.split,h.parts,h.chunk]
 simp only [h.only]
theorem Nn {A B:AR} (h:Bk A B) (D:BA) (s:Nat) (att:Int):∀ (ws:List C2) (p:Nat),DW D A s att ws p=DW D B s att ws p
 |[],_=>rfl
 |w::ws,p=>by
  show Ew D A s att w p++DW D A s att ws (p+1)=Ew D B s att w p++DW D B s att ws (p+1)
  rw [Nn h D s att ws]
  unfold Ew Dv
  rw [h.chunk]
  simp only [h.only]
theorem fU {ws:List (Nat×C2)} {k x:Nat} (h:(ws.map Prod.fst)[k]?=some x):∃ wd,ws[k]?=some (x,wd):=by
 rw [List.getElem?_map] at h
 obtain ⟨e,he,rfl⟩:=Option.map_eq_some_iff.1 h
 exact ⟨e.2,he⟩
def GS (M:Cy):Prop:=(∀ w∈M.ws,K8 w)∧M.ws.length≤1000
theorem Hd.tellK {α:Type} {w0 w:World} {F0:AU} {K:Kd α} {v:Value} {xs ys:List α} {As Rs:List SP} (H:Hd w0 F0 w (Y K v xs::As) Rs) (e:ys=xs):Hd w0 F0 w (Y K v ys::As) Rs:=by rw [e];exact H
end Go.Proofs.YthhajcnbjiiclaaGreatDoor.X
