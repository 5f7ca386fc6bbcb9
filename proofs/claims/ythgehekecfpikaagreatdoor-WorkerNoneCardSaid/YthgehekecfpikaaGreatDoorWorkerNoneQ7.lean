/- WorkerNone: texts WK4, WK5, LW2, LW3, N8, L2, L3, L4, LW4, G1, joined by a program of ours; what nothing names is left out. -/
import Derived.Test.YthgehekecfpikaaGreatDoorWorkerNoneQ6
import Derived.Test.YthgehekecfpikaaGreatDoorRows
import Derived.LaidSub
import Derived.Lib.LaidTab
import Derived.Stop.LaidErr
set_option linter.unusedVariables false
set_option linter.unusedSimpArgs false
set_option maxHeartbeats 8000000
namespace Go.Proofs.YthgehekecfpikaaGreatDoor.X
open Go
theorem ZT  :
    Cn Tryz.prog 72 [.pointer none] [] [] (fun v Bs=>v=.slice none 0 0∧Bs=[]):=by
 intro w0 F0 H
 refine enter Tryz.func72 U U (Nat.le_of_ble_eq_true U) (Aa (Ae (Ad U (Ac (Z (Aa (Aa (Ae (Ad U (V U U (CW U E6 U U) (Ah 4 U (Ac (Z (Ck U (Aa (Ae (Ad U (Ac (Z (Am (Ay (Aq U U ?_))))))))))))))))))))))
 replace H:Hd _ _ _ [] []:=H
 exact Ak ⟨rfl,rfl⟩ H
theorem Q5 (b:Nat) (C:Cf) (W:Ds) (hC:C1 C) (hJ:B5 C.J) (hWt:∀ M∈W.ts,FW M) (hWr:∀ R∈W.rs,CG 99999 R) (hl:W.ts.length≤1000∧W.rs.length≤1000):
    Cn Tryz.prog 72 [.pointer (some ⟨b,0,none⟩)] [Ch b C W] [gl] (fun v Bs=>∃ zs:List (Bi Ci),Bs=[Y CZ v zs,Ch b C W]∧(zs.map C0=Hk dg C W)):=by
 intro w0 F0 H
 refine enter Tryz.func72 U U (Nat.le_of_ble_eq_true U) (Aa (Ae (Ad U (Ac (Z (Aa (Aa (Ae (Ad U (V U U (CW U E6 U U) (Ah 2 U (sc (Q4 b C W) H l0 U U (Au LL U U) ?_))))))))))))
 rintro _ _ w ⟨rfl,rfl⟩ H
 refine Ad U (Ac (Z ?_))
 replace H:Hd _ _ _ [Ch b C W] [gl]:=H
 refine DO (b:=W.over) U (fun h1=>?_) (fun h1=>?_)
 ·refine Aa (Ae (Ad U (Ac (Z (Am (Ay (Aq U U ?_)))))))
  replace H:=H.newnil CZ
  have e:([]:List (Bi Ci)).map C0=Hk dg C W:=by unfold Hk;rw [if_pos (by simpa using h1)];rfl
  exact Ak ⟨[],rfl,e⟩ H
 refine Ax (Z (Aa (Ae (Ad U (Ac (Z (Aa (Aa ?_))))))))
 have hov:W.over=false:=by simpa using h1
 obtain ⟨vS2,vM3,vC4,vR5,vK6,J7,pv8,kb9,tv10,rl11,tl12,⟨hsj13,hrl14,htl15⟩,H⟩:=Hm b C W H
 replace H:Hd _ _ _ [blk b [vS2,.int .i64 J7.parts,vM3,vC4,vR5,.int .i64 J7.chunk,.int .i64 J7.window,.int .i64 J7.fuel,vK6,.int .i64 C.w,.int .i64 C.t,.int .i64 C.o,.int .i64 W.ep,pv8,.map (some kb9),tv10,.int .u32 (BC W.over)] 210,Y (Ao Ag) vS2 J7.us,Y Af vM3 J7.map,Y Af vC4 J7.comb,Y Af vR5 J7.red,Y (Ai .i64) vK6 J7.marks,Y (Ai .i64) pv8 (rl11.map AE),Bt BG kb9 (rl11.map BM),BV C rl11,Y B6 tv10 (tl12.map AG),B8 C.J tl12] [gl]:=H
 obtain ⟨A16,c17,rfl,hc18,hm19,hp20⟩:=H.fA 6 rfl
 obtain ⟨A21,c22,rfl,hc23,hm24,hp25⟩:=H.fA 9 rfl
 replace H:=H.newnil Da
 replace H:=Hd.tw0 (α:=Ci) H
 replace H:=H.h1 (A:=BX ([]:List (Bi Ci)))|>.h2 (B:=Y Da (.slice none 0 0) (([]:List (Bi Ci)).map Bv))
 have hts:W.ts.length=tl12.length:=by rw [←htl15,List.length_map]
 have hrs:W.rs.length=rl11.length:=by rw [←hrl14,List.length_map]
 have htf:(tl12.map AG).length=tl12.length:=List.length_map ..
 have hrf:(rl11.map AE).length=rl11.length:=List.length_map ..
 refine Ae (Ad U (V U U (AF U U) (V U U (Aj U HB U) (V U U (Al U H0 U (H.cellI 2 U U)) (V U U (Bf U MH U) (Ad U (Ac (Z (AS ?_)))))))))
 replace H:=H.p1.pick 12 rfl|>.pick 12 rfl|>.pick 12 rfl|>.pick 12 rfl|>.pick 12 rfl|>.pick 12 rfl|>.pick 12 rfl|>.pick 12 rfl|>.pick 12 rfl|>.pick 12 rfl|>.pick 12 rfl
 refine BQ (σ:=Nat×Value×List (Bi Ci)) (fun (k,q,ls)=>[(0,.pointer (some ⟨b,0,none⟩)),(2,.slice none 0 0),(3,q),(17,.slice A21 ((tl12.map AG).length) c22),(18,.int .i64 (((tl12.map AG).length:Nat):Int)),(19,.int .i64 ((k:Nat):Int))]) (fun (k,q,ls) w=>(Hd w0 F0 w [blk b [vS2,.int .i64 J7.parts,vM3,vC4,vR5,.int .i64 J7.chunk,.int .i64 J7.window,.int .i64 J7.fuel,vK6,.int .i64 C.w,.int .i64 C.t,.int .i64 C.o,.int .i64 W.ep,.slice A16 ((rl11.map AE).length) c17,.map (some kb9),.slice A21 ((tl12.map AG).length) c22,.int .u32 (BC W.over)] 210,Y (Ao Ag) vS2 J7.us,Y Af vM3 J7.map,Y Af vC4 J7.comb,Y Af vR5 J7.red,Y (Ai .i64) vK6 J7.marks,Y (Ai .i64) (.slice A16 ((rl11.map AE).length) c17) (rl11.map AE),Bt BG kb9 (rl11.map BM),BV C rl11,Y B6 (.slice A21 ((tl12.map AG).length) c22) (tl12.map AG),B8 C.J tl12,Y Da q (ls.map Bv),BX ls] [gl])∧(k≤(tl12.map AG).length)∧(ls.map C0=(W.ts.take k).flatMap (F8 dg C))∧(ls.length≤4001*k)) (fun (k,q,ls)=>(tl12.map AG).length - k) (0,.slice none 0 0,[]) ⟨rfl,rfl,rfl,rfl,rfl,rfl,trivial⟩ ⟨H,Nat.zero_le _,rfl,Nat.zero_le _⟩ ?_
 rintro ⟨k,q,ls⟩ w ⟨H,hk,hz,hll⟩
 have hlf:(ls.map Bv).length=ls.length:=List.length_map ..
 refine Aa (Ae (V U U (Bd U U U) (Ac (Z (Aa ?_)))))
 refine Aw U (fun h26=>?_) (fun h26=>?_)
 ·refine Ax (Z (Aa (AS (Aa (Ae ?_)))))
  obtain ⟨x27,hx28⟩:∃ z9,(tl12.map AG)[k]?=some z9:=⟨_,List.getElem?_eq_getElem (show k<(tl12.map AG).length by omega)⟩
  have th29:=H.thA 9 rfl hx28
  refine V U U (A0 (p:=AQ A21+k*3) U Kk U U (by omega) (by omega) th29 U) (V U U (Bn (cs:=[.int .i64 x27.sp,.int .i64 x27.att,.pointer (some ⟨x27.b,0,none⟩)]) U I0 U U (H.elsA 9 U hx28 U)) (Dk U U U KA H (fun b30 w H=>(BD U U U I0 U U H U (Nat.le_of_ble_eq_true U) (fun u hu=>by simp [Value.cells] at hu;rcases hu with rfl|rfl|rfl<;>rfl) (fun w H=>?_)))))
  replace H:Hd _ _ _ [blk b30 [.int .i64 x27.sp,.int .i64 x27.att,.pointer (some ⟨x27.b,0,none⟩)] 215,blk b [vS2,.int .i64 J7.parts,vM3,vC4,vR5,.int .i64 J7.chunk,.int .i64 J7.window,.int .i64 J7.fuel,vK6,.int .i64 C.w,.int .i64 C.t,.int .i64 C.o,.int .i64 W.ep,.slice A16 ((rl11.map AE).length) c17,.map (some kb9),.slice A21 ((tl12.map AG).length) c22,.int .u32 (BC W.over)] 210,Y (Ao Ag) vS2 J7.us,Y Af vM3 J7.map,Y Af vC4 J7.comb,Y Af vR5 J7.red,Y (Ai .i64) vK6 J7.marks,Y (Ai .i64) (.slice A16 ((rl11.map AE).length) c17) (rl11.map AE),Bt BG kb9 (rl11.map BM),BV C rl11,Y B6 (.slice A21 ((tl12.map AG).length) c22) (tl12.map AG),B8 C.J tl12,Y Da q (ls.map Bv),BX ls] [gl]:=H
  refine Ac (Z ?_)
  obtain ⟨e9,he9,hw9,hxe9⟩:=Kp htl15 hx28
  subst hxe9
  have hM9:FW e9.2:=hWt _ (List.mem_of_getElem? hw9)
  replace H:=H.h1 (A:=blk b30 [.int .i64 ((AG e9).sp),.int .i64 ((AG e9).att),.pointer (some ⟨(AG e9).b,0,none⟩)] 215)
  refine Ae (Ah 2 U (V U U (Bn (cs:=[.int .i64 ((AG e9).sp),.int .i64 ((AG e9).att),.pointer (some ⟨(AG e9).b,0,none⟩)]) U I0 U U (H.cellsI 0 U U)) ?_))
  replace H:=H.pick 11 rfl
  replace H:=Hd.bigO (f:=(fun e:Nat×BJ=>Ce e.1 C.J e.2)) k he9 H
  replace H:=H.h2 (A:=Ce e9.1 C.J e9.2) (B:=Bm (fun e:Nat×BJ=>Ce e.1 C.J e.2) (tl12.eraseIdx k))
  refine sc (ZS b vS2 vM3 vC4 vR5 vK6 J7 C W.ep (.slice A16 ((rl11.map AE).length) c17) kb9 (.slice A21 ((tl12.map AG).length) c22) W.over e9.1 e9.2 (by first |assumption|omega|exact CG.pairs (by assumption)) (by first |assumption|omega|exact CG.pairs (by assumption)) (by first |assumption|omega|exact CG.pairs (by assumption)) (by first |assumption|omega|exact CG.pairs (by assumption))) H (lA 2 U (fun _ h=>h) (lA 3 U BE (lA 4 U BE (lA 5 U BE (lA 6 U BE (lA 7 U BE (lR 0 U l0))))))) U U (Au Ub U U) ?_
  rintro v33 _ w ⟨zs31,rfl,hf32⟩ H
  replace H:=H.h1 (A:=Y CZ v33 zs31)|>.p2|>.p2
  replace H:=Hd.bigI (f:=(fun e:Nat×BJ=>Ce e.1 C.J e.2)) (x:=e9) k (JQ he9) H
  rw [Kf he9] at H
  replace H:Hd _ _ _ [B8 C.J tl12,Y CZ v33 zs31,blk b30 [.int .i64 ((AG e9).sp),.int .i64 ((AG e9).att),.pointer (some ⟨(AG e9).b,0,none⟩)] 215,blk b [vS2,.int .i64 J7.parts,vM3,vC4,vR5,.int .i64 J7.chunk,.int .i64 J7.window,.int .i64 J7.fuel,vK6,.int .i64 C.w,.int .i64 C.t,.int .i64 C.o,.int .i64 W.ep,.slice A16 ((rl11.map AE).length) c17,.map (some kb9),.slice A21 ((tl12.map AG).length) c22,.int .u32 (BC W.over)] 210,Y (Ao Ag) vS2 J7.us,Y Af vM3 J7.map,Y Af vC4 J7.comb,Y Af vR5 J7.red,Y (Ai .i64) vK6 J7.marks,Y (Ai .i64) (.slice A16 ((rl11.map AE).length) c17) (rl11.map AE),Bt BG kb9 (rl11.map BM),BV C rl11,Y B6 (.slice A21 ((tl12.map AG).length) c22) (tl12.map AG),Y Da q (ls.map Bv),BX ls] [gl]:=H
  have hz3l:zs31.length≤4001:=by have h:=congrArg List.length hf32;rw [List.length_map] at h;have h9:=YZ (D:=dg) (C:=C) hM9;omega
  obtain ⟨A34,c35,rfl,hc36,hm37,hp38⟩:=H.fA 1 rfl
  replace H:=H.p1
  replace H:=Hd.twO H
  replace H:=H.h2 (A:=Y Da (.slice A34 zs31.length c35) (zs31.map Bv)) (B:=BX zs31)|>.pick 14 rfl
  have hf3l:(zs31.map Bv).length=zs31.length:=List.length_map ..
  refine CA (xs:=ls.map Bv) (ys:=zs31.map Bv) U U U EE Hn U (by decide) U U H (by omega) (fun F hA hR=>BE F (hA _ (List.mem_of_getElem? (i:=0) U))) (fun v39 w H=>?_)
  rw [←List.map_append] at H
  replace H:Hd _ _ _ [Y Da v39 ((ls++zs31).map Bv),Y Da (.slice A34 zs31.length c35) (zs31.map Bv),BX zs31,B8 C.J tl12,blk b30 [.int .i64 ((AG e9).sp),.int .i64 ((AG e9).att),.pointer (some ⟨(AG e9).b,0,none⟩)] 215,blk b [vS2,.int .i64 J7.parts,vM3,vC4,vR5,.int .i64 J7.chunk,.int .i64 J7.window,.int .i64 J7.fuel,vK6,.int .i64 C.w,.int .i64 C.t,.int .i64 C.o,.int .i64 W.ep,.slice A16 ((rl11.map AE).length) c17,.map (some kb9),.slice A21 ((tl12.map AG).length) c22,.int .u32 (BC W.over)] 210,Y (Ao Ag) vS2 J7.us,Y Af vM3 J7.map,Y Af vC4 J7.comb,Y Af vR5 J7.red,Y (Ai .i64) vK6 J7.marks,Y (Ai .i64) (.slice A16 ((rl11.map AE).length) c17) (rl11.map AE),Bt BG kb9 (rl11.map BM),BV C rl11,Y B6 (.slice A21 ((tl12.map AG).length) c22) (tl12.map AG),BX ls] [gl]:=H
  replace H:=H.p2.pick 15 rfl
  replace H:=Y7 H
  replace H:=H.h1 (A:=BX (ls++zs31))|>.pick 14 rfl|>.pick 14 rfl|>.pick 14 rfl|>.pick 14 rfl|>.pick 14 rfl|>.pick 14 rfl|>.pick 14 rfl|>.pick 14 rfl|>.pick 14 rfl|>.pick 14 rfl|>.pick 14 rfl|>.pick 14 rfl|>.pick 13 rfl|>.pick 13 rfl|>.keep 14
  refine Ad U (Ac (AU (Z (Ae (V U U (AX (z:=((k+1:Nat):Int)) U U U (by rw [AB (by omega) (by omega)];omega)) (Ad U (Ac ?_)))))))
  replace H:=H.p1.p2.pick 13 rfl|>.pick 13 rfl|>.pick 13 rfl|>.pick 13 rfl|>.pick 13 rfl|>.pick 13 rfl|>.pick 13 rfl|>.pick 13 rfl|>.pick 13 rfl|>.pick 13 rfl|>.keep 13
  exact Bj (s:=(k,undef,ls)) (k+1,v39,ls++zs31) ⟨rfl,rfl,rfl,rfl,rfl,rfl,trivial⟩ ⟨H,by (try dsimp only);omega,by rw [List.map_append,hz,hf32];exact (S0 hw9).symm,by (try dsimp only);rw [List.length_append];omega⟩ (by (try dsimp only);omega)
 refine BH (AR (AR (BI (Z (Aa (Aa (Ae (Ad U (V U U (AF U U) (V U U (Aj U Lb U) (V U U (Al U Fr U (H.cellI 0 U U)) (V U U (Bf U E7 U) (Ad U (Ac (Z (AS ?_))))))))))))))))
 have hzA:ls.map C0=W.ts.flatMap (F8 dg C)++(W.rs.take 0).map (JE dg C.J):=by rw [hz,List.take_of_length_le (by omega),List.take_zero,List.map_nil,List.append_nil]
 replace H:Hd _ _ _ [blk b [vS2,.int .i64 J7.parts,vM3,vC4,vR5,.int .i64 J7.chunk,.int .i64 J7.window,.int .i64 J7.fuel,vK6,.int .i64 C.w,.int .i64 C.t,.int .i64 C.o,.int .i64 W.ep,.slice A16 ((rl11.map AE).length) c17,.map (some kb9),.slice A21 ((tl12.map AG).length) c22,.int .u32 (BC W.over)] 210,Y (Ao Ag) vS2 J7.us,Y Af vM3 J7.map,Y Af vC4 J7.comb,Y Af vR5 J7.red,Y (Ai .i64) vK6 J7.marks,Y (Ai .i64) (.slice A16 ((rl11.map AE).length) c17) (rl11.map AE),Bt BG kb9 (rl11.map BM),BV C rl11,Y B6 (.slice A21 ((tl12.map AG).length) c22) (tl12.map AG),B8 C.J tl12,Y Da q (ls.map Bv),BX ls] [gl]:=H
 refine BQ (σ:=Nat×Value×List (Bi Ci)) (fun (j,q2,l2)=>[(0,.pointer (some ⟨b,0,none⟩)),(2,.slice none 0 0),(3,q2),(32,.slice A16 ((rl11.map AE).length) c17),(33,.int .i64 (((rl11.map AE).length:Nat):Int)),(34,.int .i64 ((j:Nat):Int))]) (fun (j,q2,l2) w=>(Hd w0 F0 w [blk b [vS2,.int .i64 J7.parts,vM3,vC4,vR5,.int .i64 J7.chunk,.int .i64 J7.window,.int .i64 J7.fuel,vK6,.int .i64 C.w,.int .i64 C.t,.int .i64 C.o,.int .i64 W.ep,.slice A16 ((rl11.map AE).length) c17,.map (some kb9),.slice A21 ((tl12.map AG).length) c22,.int .u32 (BC W.over)] 210,Y (Ao Ag) vS2 J7.us,Y Af vM3 J7.map,Y Af vC4 J7.comb,Y Af vR5 J7.red,Y (Ai .i64) vK6 J7.marks,Y (Ai .i64) (.slice A16 ((rl11.map AE).length) c17) (rl11.map AE),Bt BG kb9 (rl11.map BM),BV C rl11,Y B6 (.slice A21 ((tl12.map AG).length) c22) (tl12.map AG),B8 C.J tl12,Y Da q2 (l2.map Bv),BX l2] [gl])∧(j≤(rl11.map AE).length)∧(l2.map C0=W.ts.flatMap (F8 dg C)++(W.rs.take j).map (JE dg C.J))∧(l2.length≤4001000+j)) (fun (j,q2,l2)=>(rl11.map AE).length - j) (0,q,ls) ⟨rfl,rfl,rfl,rfl,rfl,rfl,trivial⟩ ⟨H,Nat.zero_le _,hzA,by (try dsimp only);omega⟩ ?_
 rintro ⟨j,q2,l2⟩ w ⟨H,hj,hz2,hl2⟩
 have hlf2:(l2.map Bv).length=l2.length:=List.length_map ..
 refine Aa (Ae (V U U (Bd U U U) (Ac (Z (Aa ?_)))))
 refine Aw U (fun h40=>?_) (fun h40=>?_)
 ·refine Ax (Z (Aa (AS (Aa (Ae ?_)))))
  obtain ⟨x41,hx42⟩:∃ z9,(rl11.map AE)[j]?=some z9:=⟨_,List.getElem?_eq_getElem (show j<(rl11.map AE).length by omega)⟩
  have th43:=H.thA 6 rfl hx42
  refine V U U (A0 (p:=AQ A16+j*1) U DW U U (by omega) (by omega) th43 U) (V U U (Al U AA U (H.elA 6 U hx42 (q:=0) U U)) (Ad U (Ac (Z ?_))))
  replace H:Hd _ _ _ [blk b [vS2,.int .i64 J7.parts,vM3,vC4,vR5,.int .i64 J7.chunk,.int .i64 J7.window,.int .i64 J7.fuel,vK6,.int .i64 C.w,.int .i64 C.t,.int .i64 C.o,.int .i64 W.ep,.slice A16 ((rl11.map AE).length) c17,.map (some kb9),.slice A21 ((tl12.map AG).length) c22,.int .u32 (BC W.over)] 210,Y (Ao Ag) vS2 J7.us,Y Af vM3 J7.map,Y Af vC4 J7.comb,Y Af vR5 J7.red,Y (Ai .i64) vK6 J7.marks,Y (Ai .i64) (.slice A16 ((rl11.map AE).length) c17) (rl11.map AE),Bt BG kb9 (rl11.map BM),BV C rl11,Y B6 (.slice A21 ((tl12.map AG).length) c22) (tl12.map AG),B8 C.J tl12,Y Da q2 (l2.map Bv),BX l2] [gl]:=H
  obtain ⟨e8,he8,hr8,rfl⟩:=WN hrl14 hx42
  obtain ⟨_,_,_,_,hnd,_⟩:=(H.pick 7 rfl).mapKf
  refine Ae (Ah 2 U (V U U (AF U U) (V U U (Aj U Lc U) (V U U (Al U MF U (H.cellI 0 U U)) (Ad U (V U U (Qb MR U MG Rc U (AE e8) U H 7 U ((JN _ _).trans (congrArg Value.pointer (XN hnd he8)))) ?_))))))
  replace H:=H.p8
  replace H:=Hd.bigO (f:=(fun e:Nat×AI=>FE e.1 C e.2)) j he8 H
  replace H:=H.h2 (A:=FE e8.1 C e8.2) (B:=Bm (fun e:Nat×AI=>FE e.1 C e.2) (rl11.eraseIdx j))
  obtain ⟨vS44,vM45,vC46,vR47,vK48,J49,sb50,hsj51,H⟩:=XK e8.1 C e8.2 H
  replace H:=H.h1 (A:=D8 e8.1 vS44 vM45 vC46 vR47 vK48 J49 C.w C.t C.o sb50 e8.2)
  have hB8:CG 99999 e8.2:=hWr _ (List.mem_of_getElem? hr8)
  have hbp8:∀ i,(e8.2.g i).pairs.length≤1000:=hB8.pairs
  have h6:J49.us.length≤6:=by have:=hC.1.1;have:=hsj51.len;omega
  have hmk:J49.marks.length≤1000:=by have:=hC.1.2.2.1;rw [hsj51.marks];omega
  have hred:∀ i∈J49.red,AP i.a:=by rw [hsj51.red];exact hJ.red
  have hf64:AP J49.fuel:=by rw [hsj51.fuel];have:=hC.1.2.2.2.2.2.2.2.2.2.2;unfold AP;omega
  have hus:=hJ.us
  obtain ⟨hv52,vs53,us54,hsets55,H⟩:=XL e8.1 vS44 vM45 vC46 vR47 vK48 J49 C.w C.t C.o sb50 e8.2 H
  replace H:=H.h9 (A:=blk e8.1 (Bq vS44 vM45 vC46 vR47 vK48 J49 C.w C.t C.o e8.2.part e8.2.ep e8.2.g hv52 sb50 vs53) 185) (B:=Y (Ao Ag) vS44 J49.us) (C:=Y Af vM45 J49.map) (D:=Y Af vC46 J49.comb) (E:=Y Af vR47 J49.red) (F:=Y (Ai .i64) vK48 J49.marks) (G:=BF (e8.2.g) hv52) (I:=Y (Ao (Ai .i64)) vs53 us54) (J:=CB 253 sb50 (e8.2.st))
  obtain ⟨A56,c57,rfl,hc58,hm59,hp60⟩:=H.fA 1 rfl
  refine sc (Ty e8.1 A56 c57 vM45 vC46 vR47 vK48 J49 C.w C.t C.o e8.2.part e8.2.ep e8.2 hv52 sb50 vs53 (by first |assumption|omega|exact CG.pairs (by assumption)) (by first |assumption|omega|exact CG.pairs (by assumption)) (by first |assumption|omega|exact CG.pairs (by assumption)) (by first |assumption|omega|exact CG.pairs (by assumption)) (by first |assumption|omega|exact CG.pairs (by assumption)) (by first |assumption|omega|exact CG.pairs (by assumption))) H (lA 0 U (fun _ h=>h) (lA 6 U (fun _ h=>h) (lA 4 U BE (lR 0 U l0)))) U U (Au UZ U U) ?_
  rintro _ _ w ⟨u61,rfl,rfl⟩ H
  replace H:=H.h1 (A:=Y (Ai .i64) u61 ((AD dg J49 e8.2).set))|>.p9|>.p9|>.p9|>.p9|>.p9|>.p9|>.p9|>.p9|>.p9
  replace H:=Qo e8.1 (.slice A56 J49.us.length c57) vM45 vC46 vR47 vK48 J49 C.w C.t C.o sb50 e8.2 hv52 vs53 us54 hsets55 H
  replace H:=H.h1 (A:=D8 e8.1 (.slice A56 J49.us.length c57) vM45 vC46 vR47 vK48 J49 C.w C.t C.o sb50 e8.2)
  rw [Bb.hello hsj51] at H ⊢
  replace H:Hd _ _ _ [D8 e8.1 (.slice A56 J49.us.length c57) vM45 vC46 vR47 vK48 J49 C.w C.t C.o sb50 e8.2,Y (Ai .i64) u61 ((AD dg C.J e8.2).set),Bm (fun e:Nat×AI=>FE e.1 C e.2) (rl11.eraseIdx j),blk b [vS2,.int .i64 J7.parts,vM3,vC4,vR5,.int .i64 J7.chunk,.int .i64 J7.window,.int .i64 J7.fuel,vK6,.int .i64 C.w,.int .i64 C.t,.int .i64 C.o,.int .i64 W.ep,.slice A16 ((rl11.map AE).length) c17,.map (some kb9),.slice A21 ((tl12.map AG).length) c22,.int .u32 (BC W.over)] 210,Y (Ao Ag) vS2 J7.us,Y Af vM3 J7.map,Y Af vC4 J7.comb,Y Af vR5 J7.red,Y (Ai .i64) vK6 J7.marks,Y (Ai .i64) (.slice A16 ((rl11.map AE).length) c17) (rl11.map AE),Bt BG kb9 (rl11.map BM),Y B6 (.slice A21 ((tl12.map AG).length) c22) (tl12.map AG),B8 C.J tl12,Y Da q2 (l2.map Bv),BX l2] [gl]:=H
  replace H:=H.p2.p1
  replace H:=Qn e8.1 C e8.2 (.slice A56 J49.us.length c57) vM45 vC46 vR47 vK48 J49 sb50 hsj51 H
  replace H:=H.h1 (A:=FE e8.1 C e8.2)
  replace H:=Hd.bigI (f:=(fun e:Nat×AI=>FE e.1 C e.2)) (x:=e8) j (JQ he8) H
  rw [Kf he8] at H
  replace H:Hd _ _ _ [BV C rl11,Y (Ai .i64) u61 ((AD dg C.J e8.2).set),blk b [vS2,.int .i64 J7.parts,vM3,vC4,vR5,.int .i64 J7.chunk,.int .i64 J7.window,.int .i64 J7.fuel,vK6,.int .i64 C.w,.int .i64 C.t,.int .i64 C.o,.int .i64 W.ep,.slice A16 ((rl11.map AE).length) c17,.map (some kb9),.slice A21 ((tl12.map AG).length) c22,.int .u32 (BC W.over)] 210,Y (Ao Ag) vS2 J7.us,Y Af vM3 J7.map,Y Af vC4 J7.comb,Y Af vR5 J7.red,Y (Ai .i64) vK6 J7.marks,Y (Ai .i64) (.slice A16 ((rl11.map AE).length) c17) (rl11.map AE),Bt BG kb9 (rl11.map BM),Y B6 (.slice A21 ((tl12.map AG).length) c22) (tl12.map AG),B8 C.J tl12,Y Da q2 (l2.map Bv),BX l2] [gl]:=H
  obtain ⟨A62,c63,rfl,hc64,hm65,hp66⟩:=H.fA 1 rfl
  refine V U U (CQ (parts:=[(2,.tmp 45)]) (vs:=[.agg #[.int .i64 ((AD dg C.J e8.2).kind),.int .i64 ((AD dg C.J e8.2).sp),.int .i64 ((AD dg C.J e8.2).att),.int .i64 ((AD dg C.J e8.2).part),.int .i64 ((AD dg C.J e8.2).seq),.int .i64 ((AD dg C.J e8.2).next),.int .i64 ((AD dg C.J e8.2).ep),.int .i64 ((AD dg C.J e8.2).why),.slice A62 (((AD dg C.J e8.2).set).length) c63,.slice none 0 0]]) (cs:=[.int .i64 0,.int .i64 0,.int .i64 ((AD dg C.J e8.2).kind),.int .i64 ((AD dg C.J e8.2).sp),.int .i64 ((AD dg C.J e8.2).att),.int .i64 ((AD dg C.J e8.2).part),.int .i64 ((AD dg C.J e8.2).seq),.int .i64 ((AD dg C.J e8.2).next),.int .i64 ((AD dg C.J e8.2).ep),.int .i64 ((AD dg C.J e8.2).why),.slice A62 (((AD dg C.J e8.2).set).length) c63,.slice none 0 0]) U I9 U U) (BW (parts:=[(0,.tmp 46)]) (vs:=[.agg #[.int .i64 0,.int .i64 0,.int .i64 ((AD dg C.J e8.2).kind),.int .i64 ((AD dg C.J e8.2).sp),.int .i64 ((AD dg C.J e8.2).att),.int .i64 ((AD dg C.J e8.2).part),.int .i64 ((AD dg C.J e8.2).seq),.int .i64 ((AD dg C.J e8.2).next),.int .i64 ((AD dg C.J e8.2).ep),.int .i64 ((AD dg C.J e8.2).why),.slice A62 (((AD dg C.J e8.2).set).length) c63,.slice none 0 0]]) (cs:=[.int .i64 0,.int .i64 0,.int .i64 ((AD dg C.J e8.2).kind),.int .i64 ((AD dg C.J e8.2).sp),.int .i64 ((AD dg C.J e8.2).att),.int .i64 ((AD dg C.J e8.2).part),.int .i64 ((AD dg C.J e8.2).seq),.int .i64 ((AD dg C.J e8.2).next),.int .i64 ((AD dg C.J e8.2).ep),.int .i64 ((AD dg C.J e8.2).why),.slice A62 (((AD dg C.J e8.2).set).length) c63,.slice none 0 0]) U U U EE Hn U (by decide) (by decide) U U H (fun b67 w H=>?_))
  replace H:=H.pick 13 rfl
  refine CA (xs:=l2.map Bv) (ys:=[(⟨⟨0,0,⟨(AD dg C.J e8.2).kind,(AD dg C.J e8.2).sp,(AD dg C.J e8.2).att,(AD dg C.J e8.2).part,(AD dg C.J e8.2).seq,(AD dg C.J e8.2).next,(AD dg C.J e8.2).ep,(AD dg C.J e8.2).why⟩⟩,⟨A62,((AD dg C.J e8.2).set).length,c63⟩,⟨none,0,0⟩⟩:EU Ci)]) U U U EE Hn U (by decide) U U H (by first |omega|(simp only [List.length_append,List.length_cons,List.length_nil,List.length_map];omega)) (fun F hA hR=>Cp (hA _ (List.mem_of_getElem? (i:=0) U)) U (by decide) (AV.flat_eq.2 U)) (fun v68 w H=>(Ad U (Ac (AU (Z ?_)))))
  replace H:Hd _ _ _ [Y Da v68 ((l2.map Bv)++[(⟨⟨0,0,⟨(AD dg C.J e8.2).kind,(AD dg C.J e8.2).sp,(AD dg C.J e8.2).att,(AD dg C.J e8.2).part,(AD dg C.J e8.2).seq,(AD dg C.J e8.2).next,(AD dg C.J e8.2).ep,(AD dg C.J e8.2).why⟩⟩,⟨A62,((AD dg C.J e8.2).set).length,c63⟩,⟨none,0,0⟩⟩:EU Ci)]),blk b67 [.int .i64 0,.int .i64 0,.int .i64 ((AD dg C.J e8.2).kind),.int .i64 ((AD dg C.J e8.2).sp),.int .i64 ((AD dg C.J e8.2).att),.int .i64 ((AD dg C.J e8.2).part),.int .i64 ((AD dg C.J e8.2).seq),.int .i64 ((AD dg C.J e8.2).next),.int .i64 ((AD dg C.J e8.2).ep),.int .i64 ((AD dg C.J e8.2).why),.slice A62 (((AD dg C.J e8.2).set).length) c63,.slice none 0 0] 121,BV C rl11,Y (Ai .i64) (.slice A62 (((AD dg C.J e8.2).set).length) c63) ((AD dg C.J e8.2).set),blk b [vS2,.int .i64 J7.parts,vM3,vC4,vR5,.int .i64 J7.chunk,.int .i64 J7.window,.int .i64 J7.fuel,vK6,.int .i64 C.w,.int .i64 C.t,.int .i64 C.o,.int .i64 W.ep,.slice A16 ((rl11.map AE).length) c17,.map (some kb9),.slice A21 ((tl12.map AG).length) c22,.int .u32 (BC W.over)] 210,Y (Ao Ag) vS2 J7.us,Y Af vM3 J7.map,Y Af vC4 J7.comb,Y Af vR5 J7.red,Y (Ai .i64) vK6 J7.marks,Y (Ai .i64) (.slice A16 ((rl11.map AE).length) c17) (rl11.map AE),Bt BG kb9 (rl11.map BM),Y B6 (.slice A21 ((tl12.map AG).length) c22) (tl12.map AG),B8 C.J tl12,BX l2] [gl]:=H
  refine Ae (V U U (AX (z:=((j+1:Nat):Int)) U U U (by rw [AB (by omega) (by omega)];omega)) (Ad U (Ac ?_)))
  replace H:=H.pick 13 rfl|>.pick 13 rfl|>.p4|>.pick 13 rfl|>.pick 13 rfl|>.pick 13 rfl|>.pick 13 rfl|>.pick 13 rfl|>.pick 13 rfl|>.pick 13 rfl|>.pick 13 rfl|>.pick 11 rfl|>.pick 14 rfl|>.pick 14 rfl|>.keep 14|>.newnil Ag|>.p1
  replace H:=Hd.twN (r:=(⟨⟨0,0,⟨(AD dg C.J e8.2).kind,(AD dg C.J e8.2).sp,(AD dg C.J e8.2).att,(AD dg C.J e8.2).part,(AD dg C.J e8.2).seq,(AD dg C.J e8.2).next,(AD dg C.J e8.2).ep,(AD dg C.J e8.2).why⟩⟩,.slice A62 (((AD dg C.J e8.2).set).length) c63,(AD dg C.J e8.2).set,.slice none 0 0,[]⟩:Bi Ci)) H
  replace H:=H.h1 (A:=BX (l2++[(⟨⟨0,0,⟨(AD dg C.J e8.2).kind,(AD dg C.J e8.2).sp,(AD dg C.J e8.2).att,(AD dg C.J e8.2).part,(AD dg C.J e8.2).seq,(AD dg C.J e8.2).next,(AD dg C.J e8.2).ep,(AD dg C.J e8.2).why⟩⟩,.slice A62 (((AD dg C.J e8.2).set).length) c63,(AD dg C.J e8.2).set,.slice none 0 0,[]⟩:Bi Ci)]))
  replace H:Hd w0 F0 w [BX (l2++[(⟨⟨0,0,⟨(AD dg C.J e8.2).kind,(AD dg C.J e8.2).sp,(AD dg C.J e8.2).att,(AD dg C.J e8.2).part,(AD dg C.J e8.2).seq,(AD dg C.J e8.2).next,(AD dg C.J e8.2).ep,(AD dg C.J e8.2).why⟩⟩,.slice A62 (((AD dg C.J e8.2).set).length) c63,(AD dg C.J e8.2).set,.slice none 0 0,[]⟩:Bi Ci)]),Y Da v68 ((l2++[(⟨⟨0,0,⟨(AD dg C.J e8.2).kind,(AD dg C.J e8.2).sp,(AD dg C.J e8.2).att,(AD dg C.J e8.2).part,(AD dg C.J e8.2).seq,(AD dg C.J e8.2).next,(AD dg C.J e8.2).ep,(AD dg C.J e8.2).why⟩⟩,.slice A62 (((AD dg C.J e8.2).set).length) c63,(AD dg C.J e8.2).set,.slice none 0 0,[]⟩:Bi Ci)]).map Bv),blk b [vS2,.int .i64 J7.parts,vM3,vC4,vR5,.int .i64 J7.chunk,.int .i64 J7.window,.int .i64 J7.fuel,vK6,.int .i64 C.w,.int .i64 C.t,.int .i64 C.o,.int .i64 W.ep,.slice A16 ((rl11.map AE).length) c17,.map (some kb9),.slice A21 ((tl12.map AG).length) c22,.int .u32 (BC W.over)] 210,Y (Ao Ag) vS2 J7.us,Y Af vM3 J7.map,Y Af vC4 J7.comb,Y Af vR5 J7.red,Y (Ai .i64) vK6 J7.marks,Y (Ai .i64) (.slice A16 ((rl11.map AE).length) c17) (rl11.map AE),Bt BG kb9 (rl11.map BM),BV C rl11,Y B6 (.slice A21 ((tl12.map AG).length) c22) (tl12.map AG),B8 C.J tl12] [gl]:=by rw [List.map_append];exact H
  replace H:=H.p1.pick 12 rfl|>.pick 12 rfl|>.pick 12 rfl|>.pick 12 rfl|>.pick 12 rfl|>.pick 12 rfl|>.pick 12 rfl|>.pick 12 rfl|>.pick 12 rfl|>.pick 12 rfl|>.pick 12 rfl
  have hzn:(l2++[(⟨⟨0,0,⟨(AD dg C.J e8.2).kind,(AD dg C.J e8.2).sp,(AD dg C.J e8.2).att,(AD dg C.J e8.2).part,(AD dg C.J e8.2).seq,(AD dg C.J e8.2).next,(AD dg C.J e8.2).ep,(AD dg C.J e8.2).why⟩⟩,.slice A62 (((AD dg C.J e8.2).set).length) c63,(AD dg C.J e8.2).set,.slice none 0 0,[]⟩:Bi Ci)]).map C0=W.ts.flatMap (F8 dg C)++(W.rs.take (j+1)).map (JE dg C.J):=by rw [List.map_append,hz2,Pr hr8,←List.append_assoc];exact congrArg (fun m:Dl=>_++[(⟨0,0,m⟩:Es)]) (VS Tz)
  exact Bj (s:=(j,undef,l2)) (j+1,v68,l2++[(⟨⟨0,0,⟨(AD dg C.J e8.2).kind,(AD dg C.J e8.2).sp,(AD dg C.J e8.2).att,(AD dg C.J e8.2).part,(AD dg C.J e8.2).seq,(AD dg C.J e8.2).next,(AD dg C.J e8.2).ep,(AD dg C.J e8.2).why⟩⟩,.slice A62 (((AD dg C.J e8.2).set).length) c63,(AD dg C.J e8.2).set,.slice none 0 0,[]⟩:Bi Ci)]) ⟨rfl,rfl,rfl,rfl,rfl,rfl,trivial⟩ ⟨H,by (try dsimp only);omega,hzn,by (try dsimp only);rw [List.length_append];simp only [List.length_cons,List.length_nil];omega⟩ (by (try dsimp only);omega)
 refine BH (AR (AR (BI (Z (Aa (Ae (Ah 2 U (Ac (Z (Am (Aq U U ?_)))))))))))
 replace H:=H.pick 12 rfl|>.pick 12 rfl|>.h2 (A:=Y Da q2 (l2.map Bv)) (B:=BX l2)
 replace H:=Hd.twI H
 replace H:=H.h1 (A:=Y CZ q2 l2)
 have e:l2.map C0=Hk dg C W:=by rw [hz2,List.take_of_length_le (l:=W.rs) (by omega)];unfold Hk;rw [if_neg (by rw [hov];decide)]
 replace H:=H.pick 11 rfl|>.pick 11 rfl|>.pick 11 rfl|>.pick 11 rfl|>.pick 11 rfl|>.pick 11 rfl|>.pick 11 rfl|>.pick 11 rfl|>.pick 11 rfl|>.pick 11 rfl|>.pick 11 rfl
 replace H:=EH b C W vS2 vM3 vC4 vR5 vK6 J7 (.slice A16 ((rl11.map AE).length) c17) kb9 (.slice A21 ((tl12.map AG).length) c22) rl11 tl12 ⟨hsj13,hrl14,htl15⟩ H
 replace H:=H.h1 (A:=Ch b C W)|>.p1
 exact Ak ⟨l2,rfl,e⟩ H
theorem ZY (vS:Value) (vM:Value) (vC:Value) (vR:Value) (vK:Value) (C:Cf) (id:Int) (vr:Value) (recs:List Bp) (hC:C1 C) (hJ:B5 C.J) (hid:1≤id∧id≤C.w) (hrs:∀ r∈recs,(AP r.sp∧r.set.length≤1000)∧r.pairs.length≤1000) (hrl:recs.length≤100000):
    Cn Tryz.prog 69 [.agg #[vS,.int .i64 C.J.parts,vM,vC,vR,.int .i64 C.J.chunk,.int .i64 C.J.window,.int .i64 C.J.fuel,vK,.int .i64 C.w,.int .i64 C.t,.int .i64 C.o],.int .i64 id,vr] [] [Ab (Ao Ag) vS C.J.us,Ab Af vM C.J.map,Ab Af vC C.J.comb,Ab Af vR C.J.red,Ab (Ai .i64) vK C.J.marks,Ab BZ vr recs] (fun v Bs=>∃ b:Nat,v=.tuple #[.pointer (some ⟨b,0,none⟩),.int .i64 0]∧Bs=[Ch b C (G5 C id recs)]):=by
 intro w0 F0 H
 obtain ⟨A1,c2,rfl,hc3,hm4,hp5⟩:=H.fR 0 rfl
 obtain ⟨A6,c7,rfl,hc8,hm9,hp10⟩:=H.fR 1 rfl
 obtain ⟨A11,c12,rfl,hc13,hm14,hp15⟩:=H.fR 2 rfl
 obtain ⟨A16,c17,rfl,hc18,hm19,hp20⟩:=H.fR 3 rfl
 obtain ⟨A21,c22,rfl,hc23,hm24,hp25⟩:=H.fR 4 rfl
 obtain ⟨A26,c27,rfl,hc28,hm29,hp30⟩:=H.fR 5 rfl
 have hus:=hJ.us
 have hpt:=hJ.parts
 refine enter Tryz.func69 U U (Nat.le_of_ble_eq_true U) (Aa (Ae (Cm U U U U H (fun b31 w H=>(Ah 2 U (Ac (Z ?_)))))))
 replace H:Hd _ _ _ [blk b31 [.slice A1 C.J.us.length c2,.int .i64 C.J.parts,.slice A6 C.J.map.length c7,.slice A11 C.J.comb.length c12,.slice A16 C.J.red.length c17,.int .i64 C.J.chunk,.int .i64 C.J.window,.int .i64 C.J.fuel,.slice A21 C.J.marks.length c22,.int .i64 C.w,.int .i64 C.t,.int .i64 C.o] 28] [Ab (Ao Ag) (.slice A1 C.J.us.length c2) C.J.us,Ab Af (.slice A6 C.J.map.length c7) C.J.map,Ab Af (.slice A11 C.J.comb.length c12) C.J.comb,Ab Af (.slice A16 C.J.red.length c17) C.J.red,Ab (Ai .i64) (.slice A21 C.J.marks.length c22) C.J.marks,Ab BZ (.slice A26 recs.length c27) recs]:=H
 refine Aa (Aa (Ae (V U U (Bn (cs:=[.slice A1 C.J.us.length c2,.int .i64 C.J.parts,.slice A6 C.J.map.length c7,.slice A11 C.J.comb.length c12,.slice A16 C.J.red.length c17,.int .i64 C.J.chunk,.int .i64 C.J.window,.int .i64 C.J.fuel,.slice A21 C.J.marks.length c22,.int .i64 C.w,.int .i64 C.t,.int .i64 C.o]) U DX U U (H.cellsI 0 U U)) (sc (JS (.slice A1 C.J.us.length c2) (.slice A6 C.J.map.length c7) (.slice A11 C.J.comb.length c12) (.slice A16 C.J.red.length c17) (.slice A21 C.J.marks.length c22) C) H (lR 0 U (lR 1 U (lR 2 U (lR 3 U (lR 4 U l0))))) U U (Au JI U U) ?_))))
 rintro _ _ w ⟨rfl,rfl⟩ H
 refine V U U (D7 U U) (Ad U ?_)
 refine AN (d:=15) U (fun h32=>?_) (fun h32=>?_)
 ·exact (h32 hC).elim
 refine Ad U (V U U (Bd U U U) (Ah 2 U ?_))
 refine AN (d:=19) U (fun h33=>?_) (fun h33=>?_)
 ·exfalso;omega
 refine Ad U (V U U (Aj U JA U) (V U U (Al U AA U (H.cellI 0 U U)) (V U U (CK U U U) (Ad U (Ac (Z ?_))))))
 replace H:Hd _ _ _ [blk b31 [.slice A1 C.J.us.length c2,.int .i64 C.J.parts,.slice A6 C.J.map.length c7,.slice A11 C.J.comb.length c12,.slice A16 C.J.red.length c17,.int .i64 C.J.chunk,.int .i64 C.J.window,.int .i64 C.J.fuel,.slice A21 C.J.marks.length c22,.int .i64 C.w,.int .i64 C.t,.int .i64 C.o] 28] [Ab (Ao Ag) (.slice A1 C.J.us.length c2) C.J.us,Ab Af (.slice A6 C.J.map.length c7) C.J.map,Ab Af (.slice A11 C.J.comb.length c12) C.J.comb,Ab Af (.slice A16 C.J.red.length c17) C.J.red,Ab (Ai .i64) (.slice A21 C.J.marks.length c22) C.J.marks,Ab BZ (.slice A26 recs.length c27) recs]:=H
 refine Aw U (fun h34=>?_) (fun h34=>?_)
 ·exfalso;omega
 refine Ax (Z (Aa (Ae (V U U (Bn (cs:=[.slice A1 C.J.us.length c2,.int .i64 C.J.parts,.slice A6 C.J.map.length c7,.slice A11 C.J.comb.length c12,.slice A16 C.J.red.length c17,.int .i64 C.J.chunk,.int .i64 C.J.window,.int .i64 C.J.fuel,.slice A21 C.J.marks.length c22,.int .i64 C.w,.int .i64 C.t,.int .i64 C.o]) U DX U U (H.cellsI 0 U U)) (sc (L5 (.slice A1 C.J.us.length c2) (.slice A6 C.J.map.length c7) (.slice A11 C.J.comb.length c12) (.slice A16 C.J.red.length c17) (.slice A21 C.J.marks.length c22) C (by first |assumption|omega|exact hO2|exact ⟨hhm,by omega⟩|(unfold AP;omega))) H (lR 0 U (lR 1 U (lR 2 U (lR 3 U (lR 4 U l0))))) U U (Au LM U U) ?_)))))
 rintro _ _ w ⟨J35,vS36,vM37,vC38,vR39,vK40,rfl,rfl,hf41⟩ H
 have hsj:=hf41
 have hlen2:=hsj.len
 have hO2:B5 J35:=hsj.symm.ok hJ
 have hC2:C1 (Co J35 C):=(IP hsj).symm.may hC
 refine QE BG U U U H (fun b42 w H=>?_)
 obtain ⟨A43,c44,rfl,hc45,hm46,hp47⟩:=H.fA 1 rfl
 obtain ⟨A48,c49,rfl,hc50,hm51,hp52⟩:=H.fA 2 rfl
 obtain ⟨A53,c54,rfl,hc55,hm56,hp57⟩:=H.fA 3 rfl
 obtain ⟨A58,c59,rfl,hc60,hm61,hp62⟩:=H.fA 4 rfl
 obtain ⟨A63,c64,rfl,hc65,hm66,hp67⟩:=H.fA 5 rfl
 refine V U U (CQ (parts:=[(0,.tmp 26),(1,.const (.int .i64 1)),(3,.tmp 27)]) (vs:=[.agg #[.slice A43 J35.us.length c44,.int .i64 J35.parts,.slice A48 J35.map.length c49,.slice A53 J35.comb.length c54,.slice A58 J35.red.length c59,.int .i64 J35.chunk,.int .i64 J35.window,.int .i64 J35.fuel,.slice A63 J35.marks.length c64,.int .i64 C.w,.int .i64 C.t,.int .i64 C.o],.int .i64 1,.map (some b42)]) (cs:=[.slice A43 J35.us.length c44,.int .i64 J35.parts,.slice A48 J35.map.length c49,.slice A53 J35.comb.length c54,.slice A58 J35.red.length c59,.int .i64 J35.chunk,.int .i64 J35.window,.int .i64 J35.fuel,.slice A63 J35.marks.length c64,.int .i64 C.w,.int .i64 C.t,.int .i64 C.o,.int .i64 1,.slice none 0 0,.map (some b42),.slice none 0 0,.int .u32 0]) U Rr U U) (Cm U U U U H (fun b68 w H=>(Ad U (Ac (Z ?_)))))
 replace H:Hd _ _ _ [blk b68 [.slice A43 J35.us.length c44,.int .i64 J35.parts,.slice A48 J35.map.length c49,.slice A53 J35.comb.length c54,.slice A58 J35.red.length c59,.int .i64 J35.chunk,.int .i64 J35.window,.int .i64 J35.fuel,.slice A63 J35.marks.length c64,.int .i64 C.w,.int .i64 C.t,.int .i64 C.o,.int .i64 1,.slice none 0 0,.map (some b42),.slice none 0 0,.int .u32 0] 210,Bt BG b42 [],Y (Ao Ag) (.slice A43 J35.us.length c44) J35.us,Y Af (.slice A48 J35.map.length c49) J35.map,Y Af (.slice A53 J35.comb.length c54) J35.comb,Y Af (.slice A58 J35.red.length c59) J35.red,Y (Ai .i64) (.slice A63 J35.marks.length c64) J35.marks,blk b31 [.slice A1 C.J.us.length c2,.int .i64 C.J.parts,.slice A6 C.J.map.length c7,.slice A11 C.J.comb.length c12,.slice A16 C.J.red.length c17,.int .i64 C.J.chunk,.int .i64 C.J.window,.int .i64 C.J.fuel,.slice A21 C.J.marks.length c22,.int .i64 C.w,.int .i64 C.t,.int .i64 C.o] 28] [Ab (Ao Ag) (.slice A1 C.J.us.length c2) C.J.us,Ab Af (.slice A6 C.J.map.length c7) C.J.map,Ab Af (.slice A11 C.J.comb.length c12) C.J.comb,Ab Af (.slice A16 C.J.red.length c17) C.J.red,Ab (Ai .i64) (.slice A21 C.J.marks.length c22) C.J.marks,Ab BZ (.slice A26 recs.length c27) recs]:=H
 refine Aa (Aa (Ae (Ad U (V U U (Bf U MI U) (Ad U (Ac (Z (AS ?_))))))))
 replace H:=H.p7
 refine BQ (σ:=Nat) (fun k=>[(1,.int .i64 id),(2,.slice A26 recs.length c27),(3,.pointer (some ⟨b31,0,none⟩)),(6,.pointer none),(7,.int .i64 0),(8,.pointer (some ⟨b68,0,none⟩)),(30,.slice A26 recs.length c27),(31,.int .i64 ((recs.length:Nat):Int)),(32,.int .i64 ((k:Nat):Int))]) (fun k w=>(Hd w0 F0 w [blk b31 [.slice A1 C.J.us.length c2,.int .i64 C.J.parts,.slice A6 C.J.map.length c7,.slice A11 C.J.comb.length c12,.slice A16 C.J.red.length c17,.int .i64 C.J.chunk,.int .i64 C.J.window,.int .i64 C.J.fuel,.slice A21 C.J.marks.length c22,.int .i64 C.w,.int .i64 C.t,.int .i64 C.o] 28,blk b68 [.slice A43 J35.us.length c44,.int .i64 J35.parts,.slice A48 J35.map.length c49,.slice A53 J35.comb.length c54,.slice A58 J35.red.length c59,.int .i64 J35.chunk,.int .i64 J35.window,.int .i64 J35.fuel,.slice A63 J35.marks.length c64,.int .i64 C.w,.int .i64 C.t,.int .i64 C.o,.int .i64 ((1+cnt CS (recs.take k):Nat):Int),.slice none 0 0,.map (some b42),.slice none 0 0,.int .u32 0] 210,Bt BG b42 [],Y (Ao Ag) (.slice A43 J35.us.length c44) J35.us,Y Af (.slice A48 J35.map.length c49) J35.map,Y Af (.slice A53 J35.comb.length c54) J35.comb,Y Af (.slice A58 J35.red.length c59) J35.red,Y (Ai .i64) (.slice A63 J35.marks.length c64) J35.marks] [Ab (Ao Ag) (.slice A1 C.J.us.length c2) C.J.us,Ab Af (.slice A6 C.J.map.length c7) C.J.map,Ab Af (.slice A11 C.J.comb.length c12) C.J.comb,Ab Af (.slice A16 C.J.red.length c17) C.J.red,Ab (Ai .i64) (.slice A21 C.J.marks.length c22) C.J.marks,Ab BZ (.slice A26 recs.length c27) recs])∧(k≤recs.length)) (fun k=>recs.length - k) 0 ⟨rfl,rfl,rfl,rfl,rfl,rfl,rfl,rfl,rfl,trivial⟩ ⟨H,Nat.zero_le _⟩ ?_
 rintro k w ⟨H,hk⟩
 have hcl9:=Nz CS (recs.take k)
 rw [List.length_take] at hcl9
 refine Aa (Ae (V U U (Bd U U U) (Ac (Z (Aa ?_)))))
 refine Aw U (fun h69=>?_) (fun h69=>?_)
 ·refine Ax (Z (Aa (AS (Aa (Ae ?_)))))
  obtain ⟨⟨a72,a73,a74,a75,a76,sv77,se78,pv79,pr80⟩,hx71⟩:∃ z9,recs[k]?=some z9:=⟨_,List.getElem?_eq_getElem (show k<recs.length by omega)⟩
  obtain ⟨A81,c82,A83,c84,rfl,rfl,m85,m86,m87,m88⟩:=H.nestRr 5 rfl hx71
  have th89:=H.thRr 5 rfl hx71
  refine V U U (A0 (p:=AQ A26+k*7) U Mw U U (by omega) (by omega) th89 U) (V U U (Bn (cs:=[.int .i64 a72,.int .i64 a73,.int .i64 a74,.int .i64 a75,.int .i64 a76,.slice A81 se78.length c82,.slice A83 pr80.length c84]) U Kv U U (H.elsRr 5 U hx71 U)) (Dk U U U MS H (fun b90 w H=>(BD U U U Kv U U H U (Nat.le_of_ble_eq_true U) (fun u hu=>by simp [Value.cells] at hu;rcases hu with rfl|rfl|rfl|rfl|rfl|rfl|rfl<;>rfl) (fun w H=>?_)))))
  replace H:Hd _ _ _ [blk b90 [.int .i64 a72,.int .i64 a73,.int .i64 a74,.int .i64 a75,.int .i64 a76,.slice A81 se78.length c82,.slice A83 pr80.length c84] 37,blk b31 [.slice A1 C.J.us.length c2,.int .i64 C.J.parts,.slice A6 C.J.map.length c7,.slice A11 C.J.comb.length c12,.slice A16 C.J.red.length c17,.int .i64 C.J.chunk,.int .i64 C.J.window,.int .i64 C.J.fuel,.slice A21 C.J.marks.length c22,.int .i64 C.w,.int .i64 C.t,.int .i64 C.o] 28,blk b68 [.slice A43 J35.us.length c44,.int .i64 J35.parts,.slice A48 J35.map.length c49,.slice A53 J35.comb.length c54,.slice A58 J35.red.length c59,.int .i64 J35.chunk,.int .i64 J35.window,.int .i64 J35.fuel,.slice A63 J35.marks.length c64,.int .i64 C.w,.int .i64 C.t,.int .i64 C.o,.int .i64 ((1+cnt CS (recs.take k):Nat):Int),.slice none 0 0,.map (some b42),.slice none 0 0,.int .u32 0] 210,Bt BG b42 [],Y (Ao Ag) (.slice A43 J35.us.length c44) J35.us,Y Af (.slice A48 J35.map.length c49) J35.map,Y Af (.slice A53 J35.comb.length c54) J35.comb,Y Af (.slice A58 J35.red.length c59) J35.red,Y (Ai .i64) (.slice A63 J35.marks.length c64) J35.marks] [Ab (Ao Ag) (.slice A1 C.J.us.length c2) C.J.us,Ab Af (.slice A6 C.J.map.length c7) C.J.map,Ab Af (.slice A11 C.J.comb.length c12) C.J.comb,Ab Af (.slice A16 C.J.red.length c17) C.J.red,Ab (Ai .i64) (.slice A21 C.J.marks.length c22) C.J.marks,Ab BZ (.slice A26 recs.length c27) recs]:=H
  refine Ac (Z (Aa (Ae (V U U (Aj U GC U) (V U U (Al U AA U (H.cellI 0 U U)) (V U U (AW U U U) (Ac (Z ?_))))))))
  refine Aw U (fun h91=>?_) (fun h91=>?_)
  ·refine Ae (Ad U (V U U (AF U U) (V U U (Aj U Jr U) (V U U (Al U AA U (H.cellI 2 U U)) (V U U (AX (z:=((1+cnt CS (recs.take k)+1:Nat):Int)) U U U (by rw [AB (by omega) (by omega)];omega)) (V U U (AF U U) (V U U (Aj U Jr U) ?_)))))))
   replace H:=H.p2
   refine BD U U U AA U U H U (Nat.le_of_ble_eq_true U) (fun u hu=>by simp [Value.cells] at hu;subst hu;rfl) (fun w H=>?_)
   replace H:=H.h1 (A:=blk b68 [.slice A43 J35.us.length c44,.int .i64 J35.parts,.slice A48 J35.map.length c49,.slice A53 J35.comb.length c54,.slice A58 J35.red.length c59,.int .i64 J35.chunk,.int .i64 J35.window,.int .i64 J35.fuel,.slice A63 J35.marks.length c64,.int .i64 C.w,.int .i64 C.t,.int .i64 C.o,.int .i64 ((1+cnt CS (recs.take k)+1:Nat):Int),.slice none 0 0,.map (some b42),.slice none 0 0,.int .u32 0] 210)
   refine Ac (AU (Z (Ae (V U U (AX (z:=((k+1:Nat):Int)) U U U (by rw [AB (by omega) (by omega)];omega)) (Ad U (Ac ?_))))))
   replace H:=H.p8.p8.p8.p8.p8.p8.p6.p8.k8
   have hc9:cnt CS (recs.take (k+1))=cnt CS (recs.take k)+1:=by rw [NA hx71,if_pos (show CS (⟨a72,a73,a74,a75,a76,.slice A81 se78.length c82,se78,.slice A83 pr80.length c84,pr80⟩:Bp)=true from decide_eq_true h91)]
   replace H:Hd w0 F0 w [blk b31 [.slice A1 C.J.us.length c2,.int .i64 C.J.parts,.slice A6 C.J.map.length c7,.slice A11 C.J.comb.length c12,.slice A16 C.J.red.length c17,.int .i64 C.J.chunk,.int .i64 C.J.window,.int .i64 C.J.fuel,.slice A21 C.J.marks.length c22,.int .i64 C.w,.int .i64 C.t,.int .i64 C.o] 28,blk b68 [.slice A43 J35.us.length c44,.int .i64 J35.parts,.slice A48 J35.map.length c49,.slice A53 J35.comb.length c54,.slice A58 J35.red.length c59,.int .i64 J35.chunk,.int .i64 J35.window,.int .i64 J35.fuel,.slice A63 J35.marks.length c64,.int .i64 C.w,.int .i64 C.t,.int .i64 C.o,.int .i64 ((1+cnt CS (recs.take (k+1)):Nat):Int),.slice none 0 0,.map (some b42),.slice none 0 0,.int .u32 0] 210,Bt BG b42 [],Y (Ao Ag) (.slice A43 J35.us.length c44) J35.us,Y Af (.slice A48 J35.map.length c49) J35.map,Y Af (.slice A53 J35.comb.length c54) J35.comb,Y Af (.slice A58 J35.red.length c59) J35.red,Y (Ai .i64) (.slice A63 J35.marks.length c64) J35.marks] [Ab (Ao Ag) (.slice A1 C.J.us.length c2) C.J.us,Ab Af (.slice A6 C.J.map.length c7) C.J.map,Ab Af (.slice A11 C.J.comb.length c12) C.J.comb,Ab Af (.slice A16 C.J.red.length c17) C.J.red,Ab (Ai .i64) (.slice A21 C.J.marks.length c22) C.J.marks,Ab BZ (.slice A26 recs.length c27) recs]:=by rw [hc9];exact H
   exact Bj (s:=k) (k+1) ⟨rfl,rfl,rfl,rfl,rfl,rfl,rfl,rfl,rfl,trivial⟩ ⟨H,by (try dsimp only);omega⟩ (by (try dsimp only);omega)
  refine Ax (AU (Z (Ae (V U U (AX (z:=((k+1:Nat):Int)) U U U (by rw [AB (by omega) (by omega)];omega)) (Ad U (Ac ?_))))))
  replace H:=H.p8.p8.p8.p8.p8.p8.p8.p8.k8
  have hc9:cnt CS (recs.take (k+1))=cnt CS (recs.take k)+0:=by rw [NA hx71,if_neg (by rw [show CS (⟨a72,a73,a74,a75,a76,.slice A81 se78.length c82,se78,.slice A83 pr80.length c84,pr80⟩:Bp)=false from decide_eq_false h91];decide)]
  replace H:Hd w0 F0 w [blk b31 [.slice A1 C.J.us.length c2,.int .i64 C.J.parts,.slice A6 C.J.map.length c7,.slice A11 C.J.comb.length c12,.slice A16 C.J.red.length c17,.int .i64 C.J.chunk,.int .i64 C.J.window,.int .i64 C.J.fuel,.slice A21 C.J.marks.length c22,.int .i64 C.w,.int .i64 C.t,.int .i64 C.o] 28,blk b68 [.slice A43 J35.us.length c44,.int .i64 J35.parts,.slice A48 J35.map.length c49,.slice A53 J35.comb.length c54,.slice A58 J35.red.length c59,.int .i64 J35.chunk,.int .i64 J35.window,.int .i64 J35.fuel,.slice A63 J35.marks.length c64,.int .i64 C.w,.int .i64 C.t,.int .i64 C.o,.int .i64 ((1+cnt CS (recs.take (k+1)):Nat):Int),.slice none 0 0,.map (some b42),.slice none 0 0,.int .u32 0] 210,Bt BG b42 [],Y (Ao Ag) (.slice A43 J35.us.length c44) J35.us,Y Af (.slice A48 J35.map.length c49) J35.map,Y Af (.slice A53 J35.comb.length c54) J35.comb,Y Af (.slice A58 J35.red.length c59) J35.red,Y (Ai .i64) (.slice A63 J35.marks.length c64) J35.marks] [Ab (Ao Ag) (.slice A1 C.J.us.length c2) C.J.us,Ab Af (.slice A6 C.J.map.length c7) C.J.map,Ab Af (.slice A11 C.J.comb.length c12) C.J.comb,Ab Af (.slice A16 C.J.red.length c17) C.J.red,Ab (Ai .i64) (.slice A21 C.J.marks.length c22) C.J.marks,Ab BZ (.slice A26 recs.length c27) recs]:=by rw [hc9];exact H
  exact Bj (s:=k) (k+1) ⟨rfl,rfl,rfl,rfl,rfl,rfl,rfl,rfl,rfl,trivial⟩ ⟨H,by (try dsimp only);omega⟩ (by (try dsimp only);omega)
 refine BH (AR (AR (BI (Z (Aa (Aa (Ae (V U U (Aj U CY U) (V U U (Aj U HC U) (V U U (Al U AA U (H.cellI 0 U U)) (Ad U (Ac (Z (AS ?_))))))))))))))
 replace H:Hd w0 F0 w [blk b31 [.slice A1 C.J.us.length c2,.int .i64 C.J.parts,.slice A6 C.J.map.length c7,.slice A11 C.J.comb.length c12,.slice A16 C.J.red.length c17,.int .i64 C.J.chunk,.int .i64 C.J.window,.int .i64 C.J.fuel,.slice A21 C.J.marks.length c22,.int .i64 C.w,.int .i64 C.t,.int .i64 C.o] 28,blk b68 [.slice A43 J35.us.length c44,.int .i64 J35.parts,.slice A48 J35.map.length c49,.slice A53 J35.comb.length c54,.slice A58 J35.red.length c59,.int .i64 J35.chunk,.int .i64 J35.window,.int .i64 J35.fuel,.slice A63 J35.marks.length c64,.int .i64 C.w,.int .i64 C.t,.int .i64 C.o,.int .i64 ((1+cnt CS recs:Nat):Int),.slice none 0 0,.map (some b42),.slice none 0 0,.int .u32 0] 210,Bt BG b42 [],Y (Ao Ag) (.slice A43 J35.us.length c44) J35.us,Y Af (.slice A48 J35.map.length c49) J35.map,Y Af (.slice A53 J35.comb.length c54) J35.comb,Y Af (.slice A58 J35.red.length c59) J35.red,Y (Ai .i64) (.slice A63 J35.marks.length c64) J35.marks] [Ab (Ao Ag) (.slice A1 C.J.us.length c2) C.J.us,Ab Af (.slice A6 C.J.map.length c7) C.J.map,Ab Af (.slice A11 C.J.comb.length c12) C.J.comb,Ab Af (.slice A16 C.J.red.length c17) C.J.red,Ab (Ai .i64) (.slice A21 C.J.marks.length c22) C.J.marks,Ab BZ (.slice A26 recs.length c27) recs]:=by rw [List.take_of_length_le (l:=recs) (by omega)] at H;exact H
 have hcl9:=Nz CS recs
 replace H:=H.newnil (Ai .i64)
 replace H:=Hd.big0 (fun e:Nat×AI=>FE e.1 C e.2) H
 replace H:=H.h5 (A:=BV C ([]:List (Nat×AI))) (B:=Y (Ai .i64) (.slice none 0 0) (([]:List (Nat×AI)).map AE)) (E:=Bt BG b42 (([]:List (Nat×AI)).map BM))|>.p9|>.p9|>.p9|>.p9|>.p9|>.p9|>.p9|>.p9
 refine BQ (σ:=Nat×Value×List (Nat×AI)) (fun (p,q,rl)=>[(1,.int .i64 id),(2,.slice A26 recs.length c27),(3,.pointer (some ⟨b31,0,none⟩)),(6,.pointer none),(7,.int .i64 0),(8,.pointer (some ⟨b68,0,none⟩)),(49,.int .i64 C.J.parts),(50,.int .i64 ((p:Nat):Int))]) (fun (p,q,rl) w=>(Hd w0 F0 w [blk b31 [.slice A1 C.J.us.length c2,.int .i64 C.J.parts,.slice A6 C.J.map.length c7,.slice A11 C.J.comb.length c12,.slice A16 C.J.red.length c17,.int .i64 C.J.chunk,.int .i64 C.J.window,.int .i64 C.J.fuel,.slice A21 C.J.marks.length c22,.int .i64 C.w,.int .i64 C.t,.int .i64 C.o] 28,blk b68 [.slice A43 J35.us.length c44,.int .i64 J35.parts,.slice A48 J35.map.length c49,.slice A53 J35.comb.length c54,.slice A58 J35.red.length c59,.int .i64 J35.chunk,.int .i64 J35.window,.int .i64 J35.fuel,.slice A63 J35.marks.length c64,.int .i64 C.w,.int .i64 C.t,.int .i64 C.o,.int .i64 ((1+cnt CS recs:Nat):Int),q,.map (some b42),.slice none 0 0,.int .u32 0] 210,Bt BG b42 (rl.map BM),Y (Ao Ag) (.slice A43 J35.us.length c44) J35.us,Y Af (.slice A48 J35.map.length c49) J35.map,Y Af (.slice A53 J35.comb.length c54) J35.comb,Y Af (.slice A58 J35.red.length c59) J35.red,Y (Ai .i64) (.slice A63 J35.marks.length c64) J35.marks,BV C rl,Y (Ai .i64) q (rl.map AE)] [Ab (Ao Ag) (.slice A1 C.J.us.length c2) C.J.us,Ab Af (.slice A6 C.J.map.length c7) C.J.map,Ab Af (.slice A11 C.J.comb.length c12) C.J.comb,Ab Af (.slice A16 C.J.red.length c17) C.J.red,Ab (Ai .i64) (.slice A21 C.J.marks.length c22) C.J.marks,Ab BZ (.slice A26 recs.length c27) recs])∧((p:Int)≤C.J.parts)∧(rl.map Prod.snd=El C id recs p)) (fun (p,q,rl)=>C.J.parts.toNat - p) (0,.slice none 0 0,[]) ⟨rfl,rfl,rfl,rfl,rfl,rfl,rfl,rfl,trivial⟩ ⟨H,by (try dsimp only);omega,rfl⟩ ?_
 rintro ⟨p,q,rl⟩ w ⟨H,hp,hrl2⟩
 have hpt4:=hJ.parts
 have hrn:rl.length≤p:=by rw [←List.length_map (f:=Prod.snd),hrl2];exact XO _ _ _ _
 have hrk:(rl.map AE).length=rl.length:=List.length_map ..
 refine Aa (Ae (V U U (Bd U U U) (Ac (Z (Aa ?_)))))
 refine Aw U (fun h92=>?_) (fun h92=>?_)
 ·refine Ax (Z (Aa (AS (Aa (Ae (Ah 2 U (Ac (Z (Aa ?_)))))))))
  have hp64:AP ((p:Nat):Int):=by unfold AP;omega
  refine Ae (V U U (Bn (cs:=[.slice A1 C.J.us.length c2,.int .i64 C.J.parts,.slice A6 C.J.map.length c7,.slice A11 C.J.comb.length c12,.slice A16 C.J.red.length c17,.int .i64 C.J.chunk,.int .i64 C.J.window,.int .i64 C.J.fuel,.slice A21 C.J.marks.length c22,.int .i64 C.w,.int .i64 C.t,.int .i64 C.o]) U DX U U (H.cellsI 0 U U)) (Ad U (sc (Lx (.slice A1 C.J.us.length c2) (.slice A6 C.J.map.length c7) (.slice A11 C.J.comb.length c12) (.slice A16 C.J.red.length c17) (.slice A21 C.J.marks.length c22) C ((p:Nat):Int) (by first |assumption|omega|exact hO2|exact ⟨hhm,by omega⟩|(unfold AP;omega))) H (lR 0 U (lR 1 U (lR 2 U (lR 3 U (lR 4 U l0))))) U U (Au LJ U U) ?_)))
  rintro _ _ w ⟨rfl,rfl⟩ H
  replace H:=H.h10 (B:=blk b68 [.slice A43 J35.us.length c44,.int .i64 J35.parts,.slice A48 J35.map.length c49,.slice A53 J35.comb.length c54,.slice A58 J35.red.length c59,.int .i64 J35.chunk,.int .i64 J35.window,.int .i64 J35.fuel,.slice A63 J35.marks.length c64,.int .i64 C.w,.int .i64 C.t,.int .i64 C.o,.int .i64 ((1+cnt CS recs:Nat):Int),q,.map (some b42),.slice none 0 0,.int .u32 0] 210) (C:=Bt BG b42 (rl.map BM)) (J:=BV C rl) (K:=Y (Ai .i64) q (rl.map AE))
  refine Ad U (V U U (AW U U U) (Ac (Z ?_)))
  refine Aw U (fun h93=>?_) (fun h93=>?_)
  ·refine Aa (Ae (Ah 2 U (V U U (AF U U) (V U U (Aj U Lb U) (V U U (Al U Fr U (H.cellI 1 U U)) (Ad U (BW (parts:=[(0,.tmp 63)]) (vs:=[.int .i64 ((p:Nat):Int)]) (cs:=[.int .i64 ((p:Nat):Int)]) U U U DW FK U (by decide) (by decide) U U H (fun b94 w H=>?_))))))))
   replace H:=H.pick 10 rfl
   refine CA (xs:=rl.map AE) (ys:=[((p:Nat):Int)]) U U U DW FK U (by decide) U U H (by first |omega|(simp only [List.length_append,List.length_cons,List.length_nil,List.length_map];omega)) (fun F hA hR=>Cp (hA _ (List.mem_of_getElem? (i:=0) U)) U (by decide) (AV.flat_eq.2 U)) (fun v95 w H=>(V U U (AF U U) (V U U (Aj U Lb U) ?_)))
   obtain ⟨A96,c97,rfl,hc98,hm99,hp100⟩:=H.fA 0 rfl
   replace H:=H.p3
   refine BD U U U Fr U U H U (Nat.le_of_ble_eq_true U) (fun u hu=>by simp [Value.cells] at hu;subst hu;rfl) (fun w H=>?_)
   replace H:Hd _ _ _ [blk b68 [.slice A43 J35.us.length c44,.int .i64 J35.parts,.slice A48 J35.map.length c49,.slice A53 J35.comb.length c54,.slice A58 J35.red.length c59,.int .i64 J35.chunk,.int .i64 J35.window,.int .i64 J35.fuel,.slice A63 J35.marks.length c64,.int .i64 C.w,.int .i64 C.t,.int .i64 C.o,.int .i64 ((1+cnt CS recs:Nat):Int),.slice A96 (((rl.map AE)++[((p:Nat):Int)]).length) c97,.map (some b42),.slice none 0 0,.int .u32 0] 210,Y (Ai .i64) (.slice A96 (((rl.map AE)++[((p:Nat):Int)]).length) c97) ((rl.map AE)++[((p:Nat):Int)]),blk b94 [.int .i64 ((p:Nat):Int)] 3,blk b31 [.slice A1 C.J.us.length c2,.int .i64 C.J.parts,.slice A6 C.J.map.length c7,.slice A11 C.J.comb.length c12,.slice A16 C.J.red.length c17,.int .i64 C.J.chunk,.int .i64 C.J.window,.int .i64 C.J.fuel,.slice A21 C.J.marks.length c22,.int .i64 C.w,.int .i64 C.t,.int .i64 C.o] 28,Bt BG b42 (rl.map BM),Y (Ao Ag) (.slice A43 J35.us.length c44) J35.us,Y Af (.slice A48 J35.map.length c49) J35.map,Y Af (.slice A53 J35.comb.length c54) J35.comb,Y Af (.slice A58 J35.red.length c59) J35.red,Y (Ai .i64) (.slice A63 J35.marks.length c64) J35.marks,BV C rl] [Ab (Ao Ag) (.slice A1 C.J.us.length c2) C.J.us,Ab Af (.slice A6 C.J.map.length c7) C.J.map,Ab Af (.slice A11 C.J.comb.length c12) C.J.comb,Ab Af (.slice A16 C.J.red.length c17) C.J.red,Ab (Ai .i64) (.slice A21 C.J.marks.length c22) C.J.marks,Ab BZ (.slice A26 recs.length c27) recs]:=H
   refine Ac (Z ?_)
   have hhm:Du (Co J35 C) ((p:Nat):Int)≠0:=by rw [(IP hsj).home,h93];omega
   have he64:AP ((1+cnt CS recs:Nat):Int):=by unfold AP;omega
   replace H:=H.pick 10 rfl|>.pick 10 rfl|>.pick 10 rfl|>.pick 10 rfl|>.pick 10 rfl|>.pick 10 rfl|>.p9|>.p9|>.p9|>.p9
   refine B1 (.e 0 (.e 1 (.e 2 (.e 3 (.e 4 (.e 5 (.e 6 (.e 7 (.e 8 (.e 9 (.e 10 (.e 11 (.e 12 (.e 13 (.e 14 (.m 15 (.e 16 (.e 17 (.e 18 (.m 19 .z)))))))))))))))))))) (fun w=>∃ Ar,Hd w0 F0 w (blk b68 [.slice A43 J35.us.length c44,.int .i64 J35.parts,.slice A48 J35.map.length c49,.slice A53 J35.comb.length c54,.slice A58 J35.red.length c59,.int .i64 J35.chunk,.int .i64 J35.window,.int .i64 J35.fuel,.slice A63 J35.marks.length c64,.int .i64 C.w,.int .i64 C.t,.int .i64 C.o,.int .i64 ((1+cnt CS recs:Nat):Int),.slice A96 (((rl.map AE)++[((p:Nat):Int)]).length) c97,.map (some b42),.slice none 0 0,.int .u32 0] 210::Y (Ai .i64) (.slice A96 (((rl.map AE)++[((p:Nat):Int)]).length) c97) ((rl.map AE)++[((p:Nat):Int)])::blk b94 [.int .i64 ((p:Nat):Int)] 3::blk b31 [.slice A1 C.J.us.length c2,.int .i64 C.J.parts,.slice A6 C.J.map.length c7,.slice A11 C.J.comb.length c12,.slice A16 C.J.red.length c17,.int .i64 C.J.chunk,.int .i64 C.J.window,.int .i64 C.J.fuel,.slice A21 C.J.marks.length c22,.int .i64 C.w,.int .i64 C.t,.int .i64 C.o] 28::Y (Ao Ag) (.slice A43 J35.us.length c44) J35.us::Y Af (.slice A48 J35.map.length c49) J35.map::Y Af (.slice A53 J35.comb.length c54) J35.comb::Y Af (.slice A58 J35.red.length c59) J35.red::Y (Ai .i64) (.slice A63 J35.marks.length c64) J35.marks::BV C rl::Ar) [Ab (Ao Ag) (.slice A1 C.J.us.length c2) C.J.us,Ab Af (.slice A6 C.J.map.length c7) C.J.map,Ab Af (.slice A11 C.J.comb.length c12) C.J.comb,Ab Af (.slice A16 C.J.red.length c17) C.J.red,Ab (Ai .i64) (.slice A21 C.J.marks.length c22) C.J.marks,Ab BZ (.slice A26 recs.length c27) recs]) mo (by kernel_rfl) (fun w H=>⟨_,H⟩) H (fun w H=>?_)
   refine At U (Ap U U U (fun w ⟨Ar,H⟩=>AF U U) (Ap U U U (fun w ⟨Ar,H⟩=>Aj U Lc U) (Ap U U U (fun w ⟨Ar,H⟩=>Al U MF U (H.cellI 0 U U)) (At U (At U (Ap U U U (fun w ⟨Ar,H⟩=>AF U U) (Ap U U U (fun w ⟨Ar,H⟩=>Aj U Ik U) (Ap U U U (fun w ⟨Ar,H⟩=>Bn (cs:=[.slice A43 J35.us.length c44,.int .i64 J35.parts,.slice A48 J35.map.length c49,.slice A53 J35.comb.length c54,.slice A58 J35.red.length c59,.int .i64 J35.chunk,.int .i64 J35.window,.int .i64 J35.fuel,.slice A63 J35.marks.length c64,.int .i64 C.w,.int .i64 C.t,.int .i64 C.o]) U DX U U (H.cellsI 0 U U)) (At U (At U (Ap U U U (fun w ⟨Ar,H⟩=>AF U U) (Ap U U U (fun w ⟨Ar,H⟩=>Aj U Jr U) (Ap U U U (fun w ⟨Ar,H⟩=>Al U AA U (H.cellI 0 U U)) ?_)))))))))))))
   refine At U (AO U (sc (XM (.slice A43 J35.us.length c44) (.slice A48 J35.map.length c49) (.slice A53 J35.comb.length c54) (.slice A58 J35.red.length c59) (.slice A63 J35.marks.length c64) (Co J35 C) ((p:Nat):Int) ((1+cnt CS recs:Nat):Int) (.slice A26 recs.length c27) recs (by first |assumption|omega|exact hO2|exact ⟨hhm,by omega⟩|(unfold AP;omega)) (by first |assumption|omega|exact hO2|exact ⟨hhm,by omega⟩|(unfold AP;omega)) (by first |assumption|omega|exact hO2|exact ⟨hhm,by omega⟩|(unfold AP;omega)) (by first |assumption|omega|exact hO2|exact ⟨hhm,by omega⟩|(unfold AP;omega)) (by first |assumption|omega|exact hO2|exact ⟨hhm,by omega⟩|(unfold AP;omega)) (by first |assumption|omega|exact hO2|exact ⟨hhm,by omega⟩|(unfold AP;omega))) H (lA 4 U BE (lA 5 U BE (lA 6 U BE (lA 7 U BE (lA 8 U BE (lR 5 U l0)))))) U U (Au UX U U) ?_))
   rintro _ _ w ⟨r101,vS102,vM103,vC104,vR105,vK106,J107,hv108,sb109,vs110,us111,rfl,rfl,hf112,hf113⟩ H
   replace H:=H.h9 (A:=blk r101 (Bq vS102 vM103 vC104 vR105 vK106 J107 ((Co J35 C).w) ((Co J35 C).t) ((Co J35 C).o) ((p:Nat):Int) ((1+cnt CS recs:Nat):Int) ((CM J107.us.length ((p:Nat):Int) ((1+cnt CS recs:Nat):Int) (recs.map Bp.p)).g) hv108 sb109 vs110) 185) (B:=Y (Ao Ag) vS102 J107.us) (C:=Y Af vM103 J107.map) (D:=Y Af vC104 J107.comb) (E:=Y Af vR105 J107.red) (F:=Y (Ai .i64) vK106 J107.marks) (G:=BF ((CM J107.us.length ((p:Nat):Int) ((1+cnt CS recs:Nat):Int) (recs.map Bp.p)).g) hv108) (I:=Y (Ao (Ai .i64)) vs110 us111) (J:=CB 253 sb109 ([]))
   obtain ⟨R114,hR115⟩:∃ z:AI,z=CM J107.us.length ((p:Nat):Int) ((1+cnt CS recs:Nat):Int) (recs.map Bp.p):=⟨_,rfl⟩
   rw [←hR115] at H hf113
   have hRp116:R114.part=((p:Nat):Int):=by rw [hR115];exact (IA _ _ _ _).1
   have hRe117:R114.ep=((1+cnt CS recs:Nat):Int):=by rw [hR115];exact (IA _ _ _ _).2.1
   have hRs118:R114.st=[]:=by rw [hR115];exact (IA _ _ _ _).2.2
   rw [show Bq vS102 vM103 vC104 vR105 vK106 J107 ((Co J35 C).w) ((Co J35 C).t) ((Co J35 C).o) ((p:Nat):Int) ((1+cnt CS recs:Nat):Int) R114.g hv108 sb109 vs110=Bq vS102 vM103 vC104 vR105 vK106 J107 ((Co J35 C).w) ((Co J35 C).t) ((Co J35 C).o) R114.part R114.ep R114.g hv108 sb109 vs110 from by rw [hRp116,hRe117],show CB 253 sb109 ([])=CB 253 sb109 (R114.st) from by rw [hRs118]] at H
   replace H:Hd _ _ _ [blk r101 (Bq vS102 vM103 vC104 vR105 vK106 J107 ((Co J35 C).w) ((Co J35 C).t) ((Co J35 C).o) R114.part R114.ep R114.g hv108 sb109 vs110) 185,Y (Ao Ag) vS102 J107.us,Y Af vM103 J107.map,Y Af vC104 J107.comb,Y Af vR105 J107.red,Y (Ai .i64) vK106 J107.marks,BF (R114.g) hv108,Y (Ao (Ai .i64)) vs110 us111,CB 253 sb109 (R114.st),blk b68 [.slice A43 J35.us.length c44,.int .i64 J35.parts,.slice A48 J35.map.length c49,.slice A53 J35.comb.length c54,.slice A58 J35.red.length c59,.int .i64 J35.chunk,.int .i64 J35.window,.int .i64 J35.fuel,.slice A63 J35.marks.length c64,.int .i64 C.w,.int .i64 C.t,.int .i64 C.o,.int .i64 ((1+cnt CS recs:Nat):Int),.slice A96 (((rl.map AE)++[((p:Nat):Int)]).length) c97,.map (some b42),.slice none 0 0,.int .u32 0] 210,Y (Ai .i64) (.slice A96 (((rl.map AE)++[((p:Nat):Int)]).length) c97) ((rl.map AE)++[((p:Nat):Int)]),blk b94 [.int .i64 ((p:Nat):Int)] 3,blk b31 [.slice A1 C.J.us.length c2,.int .i64 C.J.parts,.slice A6 C.J.map.length c7,.slice A11 C.J.comb.length c12,.slice A16 C.J.red.length c17,.int .i64 C.J.chunk,.int .i64 C.J.window,.int .i64 C.J.fuel,.slice A21 C.J.marks.length c22,.int .i64 C.w,.int .i64 C.t,.int .i64 C.o] 28,Y (Ao Ag) (.slice A43 J35.us.length c44) J35.us,Y Af (.slice A48 J35.map.length c49) J35.map,Y Af (.slice A53 J35.comb.length c54) J35.comb,Y Af (.slice A58 J35.red.length c59) J35.red,Y (Ai .i64) (.slice A63 J35.marks.length c64) J35.marks,BV C rl,Bt BG b42 (rl.map BM)] [Ab (Ao Ag) (.slice A1 C.J.us.length c2) C.J.us,Ab Af (.slice A6 C.J.map.length c7) C.J.map,Ab Af (.slice A11 C.J.comb.length c12) C.J.comb,Ab Af (.slice A16 C.J.red.length c17) C.J.red,Ab (Ai .i64) (.slice A21 C.J.marks.length c22) C.J.marks,Ab BZ (.slice A26 recs.length c27) recs]:=H
   replace H:=Qo r101 vS102 vM103 vC104 vR105 vK106 J107 ((Co J35 C).w) ((Co J35 C).t) ((Co J35 C).o) sb109 R114 hv108 vs110 us111 hf113 H
   replace H:=H.h1 (A:=D8 r101 vS102 vM103 vC104 vR105 vK106 J107 ((Co J35 C).w) ((Co J35 C).t) ((Co J35 C).o) sb109 R114)
   have hsj_R114:=hf112
   replace H:=H.pick 10 rfl|>.pick 10 rfl|>.pick 10 rfl|>.pick 10 rfl|>.pick 10 rfl|>.pick 10 rfl|>.pick 10 rfl|>.pick 10 rfl|>.pick 10 rfl|>.pick 10 rfl
   refine AJ ⟨_,H⟩ (At U (At U (At U (AO U ?_))))
   replace H:=H.pick 11 rfl
   refine Yk MR U U U MG U ((p:Nat):Int) U U H (fun w H=>?_)
   replace H:=H.h1 (A:=Bt BG b42 (Gn ((p:Nat):Int) (.pointer (some ⟨r101,0,none⟩)) (rl.map BM)))
   rw [U9 hRp116 (XP hrl2)] at H
   replace H:Hd _ _ _ [Bt BG b42 ((rl++[(r101,R114)]).map BM),blk b68 [.slice A43 J35.us.length c44,.int .i64 J35.parts,.slice A48 J35.map.length c49,.slice A53 J35.comb.length c54,.slice A58 J35.red.length c59,.int .i64 J35.chunk,.int .i64 J35.window,.int .i64 J35.fuel,.slice A63 J35.marks.length c64,.int .i64 C.w,.int .i64 C.t,.int .i64 C.o,.int .i64 ((1+cnt CS recs:Nat):Int),.slice A96 (((rl.map AE)++[((p:Nat):Int)]).length) c97,.map (some b42),.slice none 0 0,.int .u32 0] 210,Y (Ai .i64) (.slice A96 (((rl.map AE)++[((p:Nat):Int)]).length) c97) ((rl.map AE)++[((p:Nat):Int)]),blk b94 [.int .i64 ((p:Nat):Int)] 3,blk b31 [.slice A1 C.J.us.length c2,.int .i64 C.J.parts,.slice A6 C.J.map.length c7,.slice A11 C.J.comb.length c12,.slice A16 C.J.red.length c17,.int .i64 C.J.chunk,.int .i64 C.J.window,.int .i64 C.J.fuel,.slice A21 C.J.marks.length c22,.int .i64 C.w,.int .i64 C.t,.int .i64 C.o] 28,Y (Ao Ag) (.slice A43 J35.us.length c44) J35.us,Y Af (.slice A48 J35.map.length c49) J35.map,Y Af (.slice A53 J35.comb.length c54) J35.comb,Y Af (.slice A58 J35.red.length c59) J35.red,Y (Ai .i64) (.slice A63 J35.marks.length c64) J35.marks,BV C rl,D8 r101 vS102 vM103 vC104 vR105 vK106 J107 ((Co J35 C).w) ((Co J35 C).t) ((Co J35 C).o) sb109 R114] [Ab (Ao Ag) (.slice A1 C.J.us.length c2) C.J.us,Ab Af (.slice A6 C.J.map.length c7) C.J.map,Ab Af (.slice A11 C.J.comb.length c12) C.J.comb,Ab Af (.slice A16 C.J.red.length c17) C.J.red,Ab (Ai .i64) (.slice A21 C.J.marks.length c22) C.J.marks,Ab BZ (.slice A26 recs.length c27) recs]:=H
   replace H:=H.pick 10 rfl|>.pick 10 rfl|>.pick 10 rfl|>.pick 10 rfl|>.pick 10 rfl|>.pick 10 rfl|>.pick 10 rfl|>.pick 10 rfl|>.pick 10 rfl|>.pick 10 rfl
   refine AJ ⟨_,H⟩ (BK (AU (Z (Ae (V U U (AX (z:=((p+1:Nat):Int)) U U U (by rw [AB (by omega) (by omega)];omega)) (Ad U (Ac ?_)))))))
   replace H:=H.p8.p8.p8.p8.p8.pick 10 rfl|>.p6|>.p9|>.pick 10 rfl|>.pick 11 rfl|>.keep 11
   have h3t:Bb J107 C.J:=hf112.trans hsj
   replace H:=Qn r101 C R114 vS102 vM103 vC104 vR105 vK106 J107 sb109 h3t H
   replace H:=Hd.bigN (f:=(fun e:Nat×AI=>FE e.1 C e.2)) (x:=(r101,R114)) H
   replace H:=H.h1 (A:=BV C (rl++[(r101,R114)]))
   replace H:Hd w0 F0 w [BV C (rl++[(r101,R114)]),blk b31 [.slice A1 C.J.us.length c2,.int .i64 C.J.parts,.slice A6 C.J.map.length c7,.slice A11 C.J.comb.length c12,.slice A16 C.J.red.length c17,.int .i64 C.J.chunk,.int .i64 C.J.window,.int .i64 C.J.fuel,.slice A21 C.J.marks.length c22,.int .i64 C.w,.int .i64 C.t,.int .i64 C.o] 28,blk b68 [.slice A43 J35.us.length c44,.int .i64 J35.parts,.slice A48 J35.map.length c49,.slice A53 J35.comb.length c54,.slice A58 J35.red.length c59,.int .i64 J35.chunk,.int .i64 J35.window,.int .i64 J35.fuel,.slice A63 J35.marks.length c64,.int .i64 C.w,.int .i64 C.t,.int .i64 C.o,.int .i64 ((1+cnt CS recs:Nat):Int),.slice A96 (((rl.map AE)++[((p:Nat):Int)]).length) c97,.map (some b42),.slice none 0 0,.int .u32 0] 210,Bt BG b42 ((rl++[(r101,R114)]).map BM),Y (Ao Ag) (.slice A43 J35.us.length c44) J35.us,Y Af (.slice A48 J35.map.length c49) J35.map,Y Af (.slice A53 J35.comb.length c54) J35.comb,Y Af (.slice A58 J35.red.length c59) J35.red,Y (Ai .i64) (.slice A63 J35.marks.length c64) J35.marks,Y (Ai .i64) (.slice A96 (((rl.map AE)++[((p:Nat):Int)]).length) c97) ((rl++[(r101,R114)]).map AE)] [Ab (Ao Ag) (.slice A1 C.J.us.length c2) C.J.us,Ab Af (.slice A6 C.J.map.length c7) C.J.map,Ab Af (.slice A11 C.J.comb.length c12) C.J.comb,Ab Af (.slice A16 C.J.red.length c17) C.J.red,Ab (Ai .i64) (.slice A21 C.J.marks.length c22) C.J.marks,Ab BZ (.slice A26 recs.length c27) recs]:=by rw [List.map_append (f:=AE),show [(r101,R114)].map AE=[((p:Nat):Int)] from by show [R114.part]=_;rw [hRp116]];exact H
   have hrl3:(rl++[(r101,R114)]).map Prod.snd=El C id recs (p+1):=by rw [List.map_append,hrl2,XS h93];show _++[R114]=_;rw [hR115,h3t.len];rfl
   replace H:=H.p8.p8.p8.p8.p8.p8.p8.p8
   exact Bj (s:=(p,undef,rl)) (p+1,.slice A96 (((rl.map AE)++[((p:Nat):Int)]).length) c97,rl++[(r101,R114)]) ⟨rfl,rfl,rfl,rfl,rfl,rfl,rfl,rfl,trivial⟩ ⟨H,by (try dsimp only);omega,hrl3⟩ (by (try dsimp only);omega)
  exact Ax (AU (Z (Ae (V U U (AX (z:=((p+1:Nat):Int)) U U U (by rw [AB (by omega) (by omega)];omega)) (Ad U (Ac (Bj (s:=(p,undef,rl)) (p+1,q,rl) ⟨rfl,rfl,rfl,rfl,rfl,rfl,rfl,rfl,trivial⟩ ⟨H,by (try dsimp only);omega,by (try dsimp only);rw [XQ h93];exact hrl2⟩ (by (try dsimp only);omega))))))))
 refine BH (AR (AR (BI (Z (Aa (Ae (Ah 3 U (Ac (Z (Am (B_ U U U ?_)))))))))))
 replace H:=H.newnil B6
 replace H:=Hd.big0 (fun e:Nat×BJ=>Ce e.1 C.J e.2) H
 replace H:Hd _ _ _ [B8 C.J ([]:List (Nat×BJ)),Y B6 (.slice none 0 0) (([]:List (Nat×BJ)).map AG),blk b31 [.slice A1 C.J.us.length c2,.int .i64 C.J.parts,.slice A6 C.J.map.length c7,.slice A11 C.J.comb.length c12,.slice A16 C.J.red.length c17,.int .i64 C.J.chunk,.int .i64 C.J.window,.int .i64 C.J.fuel,.slice A21 C.J.marks.length c22,.int .i64 C.w,.int .i64 C.t,.int .i64 C.o] 28,blk b68 [.slice A43 J35.us.length c44,.int .i64 J35.parts,.slice A48 J35.map.length c49,.slice A53 J35.comb.length c54,.slice A58 J35.red.length c59,.int .i64 J35.chunk,.int .i64 J35.window,.int .i64 J35.fuel,.slice A63 J35.marks.length c64,.int .i64 C.w,.int .i64 C.t,.int .i64 C.o,.int .i64 ((1+cnt CS recs:Nat):Int),q,.map (some b42),.slice none 0 0,.int .u32 0] 210,Bt BG b42 (rl.map BM),Y (Ao Ag) (.slice A43 J35.us.length c44) J35.us,Y Af (.slice A48 J35.map.length c49) J35.map,Y Af (.slice A53 J35.comb.length c54) J35.comb,Y Af (.slice A58 J35.red.length c59) J35.red,Y (Ai .i64) (.slice A63 J35.marks.length c64) J35.marks,BV C rl,Y (Ai .i64) q (rl.map AE)] [Ab (Ao Ag) (.slice A1 C.J.us.length c2) C.J.us,Ab Af (.slice A6 C.J.map.length c7) C.J.map,Ab Af (.slice A11 C.J.comb.length c12) C.J.comb,Ab Af (.slice A16 C.J.red.length c17) C.J.red,Ab (Ai .i64) (.slice A21 C.J.marks.length c22) C.J.marks,Ab BZ (.slice A26 recs.length c27) recs]:=H
 replace H:=H.p1.pick 10 rfl|>.p5|>.pick 11 rfl|>.pick 11 rfl|>.pick 11 rfl|>.pick 11 rfl|>.pick 11 rfl|>.pick 11 rfl|>.pick 11 rfl|>.keep 11
 replace H:=EH b68 C (G5 C id recs) (.slice A43 J35.us.length c44) (.slice A48 J35.map.length c49) (.slice A53 J35.comb.length c54) (.slice A58 J35.red.length c59) (.slice A63 J35.marks.length c64) J35 q b42 (.slice none 0 0) rl [] ⟨hsj,(by show _=El C id recs C.J.parts.toNat;rw [show C.J.parts.toNat=p by omega];exact hrl2),rfl⟩ H
 replace H:=H.h1 (A:=Ch b68 C (G5 C id recs))
 exact Ak ⟨b68,rfl,rfl⟩ H
theorem Yz  :
    Cn Tryz.prog 139 [] [] [] (fun v Bs=>∃ vS:Value,∃ vP:Value,∃ u:Value,v=.agg #[vS,.int .i64 1,vP,.slice none 0 0,vP,.int .i64 1,.int .i64 1,.int .i64 9,.slice none 0 0,.int .i64 1,.int .i64 2,.int .i64 1]∧Bs=[Y (Ao Ag) vS [(u,Dv)],Y Af vP DD]):=by
 intro w0 F0 H
 refine enter Tryz.func139 U U (Nat.le_of_ble_eq_true U) (Aa (Ae (Dk U U U Rb H (fun b1 w H=>(Ac (Z ?_))))))
 replace H:Hd _ _ _ [blk b1 [.slice none 0 0,.int .i64 0,.slice none 0 0,.slice none 0 0,.slice none 0 0,.int .i64 0,.int .i64 0,.int .i64 0,.slice none 0 0,.int .i64 0,.int .i64 0,.int .i64 0] 28] []:=H
 refine Aa (Ae (V U U (CQ (parts:=[(0,.const (.int .i64 6))]) (vs:=[.int .i64 6]) (cs:=[.int .i64 6,.int .i64 0,.string ⟨#[]⟩]) U I_ U U) (V U U (CQ (parts:=[(0,.const (.int .i64 7))]) (vs:=[.int .i64 7]) (cs:=[.int .i64 7,.int .i64 0,.string ⟨#[]⟩]) U I_ U U) (V U U (CQ (parts:=[(0,.const (.int .i64 4))]) (vs:=[.int .i64 4]) (cs:=[.int .i64 4,.int .i64 0,.string ⟨#[]⟩]) U I_ U U) (V U U (CQ (parts:=[(0,.const (.int .i64 23))]) (vs:=[.int .i64 23]) (cs:=[.int .i64 23,.int .i64 0,.string ⟨#[]⟩]) U I_ U U) (BW (parts:=[(0,.tmp 2),(1,.tmp 3),(2,.tmp 4),(3,.tmp 5)]) (vs:=[.agg #[.int .i64 6,.int .i64 0,.string ⟨#[]⟩],.agg #[.int .i64 7,.int .i64 0,.string ⟨#[]⟩],.agg #[.int .i64 4,.int .i64 0,.string ⟨#[]⟩],.agg #[.int .i64 23,.int .i64 0,.string ⟨#[]⟩]]) (cs:=[.int .i64 6,.int .i64 0,.string ⟨#[]⟩,.int .i64 7,.int .i64 0,.string ⟨#[]⟩,.int .i64 4,.int .i64 0,.string ⟨#[]⟩,.int .i64 23,.int .i64 0,.string ⟨#[]⟩]) U U U HV KB U (by decide) (by decide) U U H (fun b2 w H=>?_)))))))
 replace H:=H.h1 (A:=blk b2 [.int .i64 6,.int .i64 0,.string ⟨#[]⟩,.int .i64 7,.int .i64 0,.string ⟨#[]⟩,.int .i64 4,.int .i64 0,.string ⟨#[]⟩,.int .i64 23,.int .i64 0,.string ⟨#[]⟩] 223)
 refine Ad U (Ac (Z (Aa (Ae (V U U (CQ (parts:=[(0,.const (.string ⟨#[98]⟩)),(1,.const (.string ⟨#[49]⟩))]) (vs:=[.string ⟨#[98]⟩,.string ⟨#[49]⟩]) (cs:=[.string ⟨#[98]⟩,.string ⟨#[49]⟩]) U Nn U U) (BW (parts:=[(0,.tmp 7)]) (vs:=[.agg #[.string ⟨#[98]⟩,.string ⟨#[49]⟩]]) (cs:=[.string ⟨#[98]⟩,.string ⟨#[49]⟩]) U U U By C9 U (by decide) (by decide) U U H (fun b3 w H=>(BW (parts:=[(0,.tmp 8)]) (vs:=[.slice (some ⟨b3,0,none⟩) 1 1]) (cs:=[.slice (some ⟨b3,0,none⟩) 1 1]) U U U F5 KC U (by decide) (by decide) U U H (fun b4 w H=>(Ah 2 U (V U U (CQ (parts:=[(0,.tmp 9),(1,.const (.int .i64 1)),(2,.tmp 10),(4,.tmp 11),(5,.const (.int .i64 1)),(6,.const (.int .i64 1)),(7,.const (.int .i64 9))]) (vs:=[.slice (some ⟨b4,0,none⟩) 1 1,.int .i64 1,.slice (some ⟨b2,0,none⟩) 4 4,.slice (some ⟨b2,0,none⟩) 4 4,.int .i64 1,.int .i64 1,.int .i64 9]) (cs:=[.slice (some ⟨b4,0,none⟩) 1 1,.int .i64 1,.slice (some ⟨b2,0,none⟩) 4 4,.slice none 0 0,.slice (some ⟨b2,0,none⟩) 4 4,.int .i64 1,.int .i64 1,.int .i64 9,.slice none 0 0]) U Rw U U) ?_)))))))))))
 refine V U U (CQ (parts:=[(0,.tmp 12),(1,.const (.int .i64 1)),(2,.const (.int .i64 2)),(3,.const (.int .i64 1))]) (vs:=[.agg #[.slice (some ⟨b4,0,none⟩) 1 1,.int .i64 1,.slice (some ⟨b2,0,none⟩) 4 4,.slice none 0 0,.slice (some ⟨b2,0,none⟩) 4 4,.int .i64 1,.int .i64 1,.int .i64 9,.slice none 0 0],.int .i64 1,.int .i64 2,.int .i64 1]) (cs:=[.slice (some ⟨b4,0,none⟩) 1 1,.int .i64 1,.slice (some ⟨b2,0,none⟩) 4 4,.slice none 0 0,.slice (some ⟨b2,0,none⟩) 4 4,.int .i64 1,.int .i64 1,.int .i64 9,.slice none 0 0,.int .i64 1,.int .i64 2,.int .i64 1]) U Rx U U) ?_
 replace H:=H.p3
 refine BD U U U DX U U H U (Nat.le_of_ble_eq_true U) (fun u hu=>by simp [Value.cells] at hu;rcases hu with rfl|rfl|rfl|rfl|rfl|rfl|rfl|rfl|rfl|rfl|rfl|rfl<;>rfl) (fun w H=>?_)
 replace H:Hd _ _ _ [blk b1 [.slice (some ⟨b4,0,none⟩) 1 1,.int .i64 1,.slice (some ⟨b2,0,none⟩) 4 4,.slice none 0 0,.slice (some ⟨b2,0,none⟩) 4 4,.int .i64 1,.int .i64 1,.int .i64 9,.slice none 0 0,.int .i64 1,.int .i64 2,.int .i64 1] 28,blk b4 [.slice (some ⟨b3,0,none⟩) 1 1] 35,blk b3 [.string ⟨#[98]⟩,.string ⟨#[49]⟩] 106,blk b2 [.int .i64 6,.int .i64 0,.string ⟨#[]⟩,.int .i64 7,.int .i64 0,.string ⟨#[]⟩,.int .i64 4,.int .i64 0,.string ⟨#[]⟩,.int .i64 23,.int .i64 0,.string ⟨#[]⟩] 223] []:=H
 refine Ac (Z (Am (Fk (cs:=[.slice (some ⟨b4,0,none⟩) 1 1,.int .i64 1,.slice (some ⟨b2,0,none⟩) 4 4,.slice none 0 0,.slice (some ⟨b2,0,none⟩) 4 4,.int .i64 1,.int .i64 1,.int .i64 9,.slice none 0 0,.int .i64 1,.int .i64 2,.int .i64 1]) U U DX U (H.cellsI 0 U U) ?_)))
 replace H:=H.p2
 replace H:Hd w0 F0 w [Y Ag (.slice (some ⟨b3,0,none⟩) 1 1) Dv,blk b1 [.slice (some ⟨b4,0,none⟩) 1 1,.int .i64 1,.slice (some ⟨b2,0,none⟩) 4 4,.slice none 0 0,.slice (some ⟨b2,0,none⟩) 4 4,.int .i64 1,.int .i64 1,.int .i64 9,.slice none 0 0,.int .i64 1,.int .i64 2,.int .i64 1] 28,blk b4 [.slice (some ⟨b3,0,none⟩) 1 1] 35,blk b2 [.int .i64 6,.int .i64 0,.string ⟨#[]⟩,.int .i64 7,.int .i64 0,.string ⟨#[]⟩,.int .i64 4,.int .i64 0,.string ⟨#[]⟩,.int .i64 23,.int .i64 0,.string ⟨#[]⟩] 223] []:=H.turn (fun F h=>Hr h rfl (by decide) rfl)
 replace H:=H.p3
 replace H:Hd w0 F0 w [Y Af (.slice (some ⟨b2,0,none⟩) 4 4) DD,Y Ag (.slice (some ⟨b3,0,none⟩) 1 1) Dv,blk b1 [.slice (some ⟨b4,0,none⟩) 1 1,.int .i64 1,.slice (some ⟨b2,0,none⟩) 4 4,.slice none 0 0,.slice (some ⟨b2,0,none⟩) 4 4,.int .i64 1,.int .i64 1,.int .i64 9,.slice none 0 0,.int .i64 1,.int .i64 2,.int .i64 1] 28,blk b4 [.slice (some ⟨b3,0,none⟩) 1 1] 35] []:=H.turn (fun F h=>Hr h rfl (by decide) rfl)
 replace H:=H.p1.p3.k3
 replace H:Hd w0 F0 w [Y Dn (.slice (some ⟨b4,0,none⟩) 1 1) (Bl ([(.slice (some ⟨b3,0,none⟩) 1 1,Dv)]:List (Value×List An))),Y Ag (.slice (some ⟨b3,0,none⟩) 1 1) Dv,Y Af (.slice (some ⟨b2,0,none⟩) 4 4) DD] []:=H.turn (fun F h=>Hr h rfl (by decide) rfl)
 replace H:=H.p1
 replace H:=Hd.stI (Bs:=[Y Ag (.slice (some ⟨b3,0,none⟩) 1 1) Dv]) H
 replace H:=H.h1 (A:=FQ Ag ([(.slice (some ⟨b3,0,none⟩) 1 1,Dv)]:List (Value×List An)))|>.p1|>.hdI|>.h1 (A:=Y (Ao Ag) (.slice (some ⟨b4,0,none⟩) 1 1) [(.slice (some ⟨b3,0,none⟩) 1 1,Dv)])
 exact Ak ⟨(.slice (some ⟨b4,0,none⟩) 1 1),(.slice (some ⟨b2,0,none⟩) 4 4),(.slice (some ⟨b3,0,none⟩) 1 1),rfl,rfl⟩ H
theorem Nk  :
    Cn Tryz.prog 68 [] [] [gl] (fun v Bs=>v=.bool true∧Bs=[]):=by
 intro w0 F0 H
 refine enter Tryz.func68 U U (Nat.le_of_ble_eq_true U) (Aa (Ae (Ad U (Ac (Z (Aa (Ae (sc (Yz) H l0 U U (Au T9 U U) ?_))))))))
 rintro _ _ w ⟨vS1,vP2,u3,rfl,rfl⟩ H
 refine V U U (CQ (parts:=[(0,.const (.int .i64 6))]) (vs:=[.int .i64 6]) (cs:=[.int .i64 6,.int .i64 0,.int .i64 0,.int .i64 0,.int .i64 0,.slice none 0 0,.slice none 0 0]) U RA U U) (BW (parts:=[(0,.tmp 7)]) (vs:=[.agg #[.int .i64 6,.int .i64 0,.int .i64 0,.int .i64 0,.int .i64 0,.slice none 0 0,.slice none 0 0]]) (cs:=[.int .i64 6,.int .i64 0,.int .i64 0,.int .i64 0,.int .i64 0,.slice none 0 0,.slice none 0 0]) U U U Mw MS U (by decide) (by decide) U U H (fun b4 w H=>?_))
 have hC:=Mz u3
 have hJ:=Yy u3
 replace H:Hd _ _ _ [blk b4 [.int .i64 6,.int .i64 0,.int .i64 0,.int .i64 0,.int .i64 0,.slice none 0 0,.slice none 0 0] 37,Y (Ao Ag) vS1 [(u3,Dv)],Y Af vP2 DD] [gl]:=H
 replace H:Hd w0 F0 w [Y FR (.slice (some ⟨b4,0,none⟩) 1 1) [(⟨6,0,0,0,0,⟨none,0,0⟩,⟨none,0,0⟩⟩:FN)],Y (Ao Ag) vS1 [(u3,Dv)],Y Af vP2 DD] [gl]:=H.turn (fun F h=>Hr h rfl (by decide) rfl)
 refine sc (ZY vS1 vP2 (.slice none 0 0) vP2 (.slice none 0 0) (CL u3) 1 (.slice (some ⟨b4,0,none⟩) 1 1) ([EB]) hC hJ ⟨by decide,show (1:Int)≤1 by decide⟩ (Vf (n:=1)) (by decide)) H (lA 1 U BE (lA 2 U BE (lX (fun F _ _=>G_ _ _ F trivial (by decide)) (lA 2 U BE (lX (fun F _ _=>G_ _ _ F trivial (by decide)) (lX (fun F hA hR=>XE (us:=[EB]) (BE F (hA _ (List.mem_of_getElem? (i:=0) U))) (Ve (n:=1))) l0)))))) U U (Au U2 U U) ?_
 rintro _ _ w ⟨b5,rfl,rfl⟩ H
 replace H:=H.h1 (A:=Ch b5 (CL u3) (G5 (CL u3) 1 ([EB])))
 obtain ⟨W0,hW0⟩:∃ z:Ds,z=G5 (CL u3) 1 ([EB]):=⟨_,rfl⟩
 rw [←hW0] at H
 replace H:Hd _ _ _ [Ch b5 (CL u3) W0,Y FR (.slice (some ⟨b4,0,none⟩) 1 1) [(⟨6,0,0,0,0,⟨none,0,0⟩,⟨none,0,0⟩⟩:FN)],Y (Ao Ag) vS1 [(u3,Dv)],Y Af vP2 DD] [gl]:=H
 have hW0e:W0=⟨2,[CM 1 0 2 [EB.p]],[],false⟩:=by rw [hW0];exact ZA _
 have hw0:=ZB dg u3
 rw [←hW0e] at hw0
 have hW0t:∀ M∈W0.ts,FW M:=by rw [hW0e];exact fun M h=>by cases h
 have hOr:CG 99999 (CM 1 0 2 [EB.p]):=(CG.new (rs:=[EB.p]) fun r hr=>by rw [List.mem_singleton.1 hr];exact ⟨Nat.zero_le _,Nat.zero_le _⟩).mono (by decide)
 have hW0r:∀ R∈W0.rs,CG 99999 R:=by rw [hW0e];exact fun R h=>by rw [List.mem_singleton.1 h];exact hOr
 have hW0l:W0.ts.length≤1000∧W0.rs.length≤1000:=by rw [hW0e];exact ⟨Nat.zero_le _,by decide⟩
 have hW0m:W0.ts.length≤1000:=hW0l.1
 have hk1:(1:Int)=1∨(1:Int)=9:=.inl rfl
 have hfr0:(0:Int)≤0∧(0:Int)≤(CL u3).w:=⟨by decide,show (0:Int)≤1 by decide⟩
 refine Ah 5 U (Ac (Z (Aa (Aa (Ae (Ad U (V U U (Dq U U U) (Ah 2 U (V U U (CW U E6 U U) (Ad U (Ac (Z (B7 U (Ax (Z (Aa (Ae (Ad U (sc (Q5 b5 (CL u3) W0 (by first |assumption|omega|exact hW0t|exact hW0r|exact hW1t|exact hW1r|exact hW0l|exact hW1l|decide) (by first |assumption|omega|exact hW0t|exact hW0r|exact hW1t|exact hW1r|exact hW0l|exact hW1l|decide) (by first |assumption|omega|exact hW0t|exact hW0r|exact hW1t|exact hW1r|exact hW0l|exact hW1l|decide) (by first |assumption|omega|exact hW0t|exact hW0r|exact hW1t|exact hW1r|exact hW0l|exact hW1l|decide) (by first |assumption|omega|exact hW0t|exact hW0r|exact hW1t|exact hW1r|exact hW0l|exact hW1l|decide)) H (lR 0 U l0) U U (Au LK U U) ?_)))))))))))))))))))
 rintro v8 _ w ⟨zs6,rfl,hf7⟩ H
 replace H:=H.h1 (A:=Y CZ v8 zs6)
 obtain ⟨A9,c10,rfl,hc11,hm12,hp13⟩:=H.fA 0 rfl
 have hz0:=hf7
 rw [hw0] at hz0
 refine Ad U (Ac (Z (Aa (Ae (Ad U (V U U (CQ (parts:=[(0,.const (.int .i64 1)),(2,.const (.int .i64 1))]) (vs:=[.int .i64 1,.int .i64 1]) (cs:=[.int .i64 1,.int .i64 0,.int .i64 1,.int .i64 0,.int .i64 0,.int .i64 0,.int .i64 0,.int .i64 0,.slice none 0 0,.slice none 0 0]) U Gx U U) ?_))))))
 replace H:=H.p1
 refine sc (ZI b5 (CL u3) W0 0 1 0 1 (by first |assumption|omega|exact hW0t|exact hW0r|exact hW1t|exact hW1r|exact hW0l|exact hW1l|decide) (by first |assumption|omega|exact hW0t|exact hW0r|exact hW1t|exact hW1r|exact hW0l|exact hW1l|decide) (by first |assumption|omega|exact hW0t|exact hW0r|exact hW1t|exact hW1r|exact hW0l|exact hW1l|decide) (by first |assumption|omega|exact hW0t|exact hW0r|exact hW1t|exact hW1r|exact hW0l|exact hW1l|decide) (by first |assumption|omega|exact hW0t|exact hW0r|exact hW1t|exact hW1r|exact hW0l|exact hW1l|decide)) H (lR 0 U l0) U U (Au O7 U U) ?_
 rintro _ _ w ⟨rfl,rfl⟩ H
 replace H:=H.h1 (A:=Ch b5 (CL u3) (Fh dg (CL u3) W0 0 1 0 1))
 obtain ⟨W1,hW1⟩:∃ z:Ds,z=Fh dg (CL u3) W0 0 1 0 1:=⟨_,rfl⟩
 rw [←hW1] at H
 replace H:Hd _ _ _ [Ch b5 (CL u3) W1,Y CZ (.slice A9 zs6.length c10) zs6,Y FR (.slice (some ⟨b4,0,none⟩) 1 1) [(⟨6,0,0,0,0,⟨none,0,0⟩,⟨none,0,0⟩⟩:FN)],Y (Ao Ag) vS1 [(u3,Dv)],Y Af vP2 DD] [gl]:=H
 have hW1e:W1=⟨2,[CM 1 0 2 [EB.p]],[Db dg (CL u3).J 0 1],false⟩:=by rw [hW1,hW0e];exact Zz _ _ _
 obtain ⟨la,ly,lc,hw1,hlt,hlk⟩:=ZC dg u3
 rw [←hW1e] at hw1
 have hW1t:∀ M∈W1.ts,FW M:=by rw [hW1e];exact fun M h=>by rw [List.mem_singleton.1 h];exact Wd hJ _ _
 have hW1r:∀ R∈W1.rs,CG 99999 R:=by rw [hW1e];exact fun R h=>by rw [List.mem_singleton.1 h];exact hOr
 have hW1l:W1.ts.length≤1000∧W1.rs.length≤1000:=by rw [hW1e];exact ⟨(show (1:Nat)≤1000 by decide),(show (1:Nat)≤1000 by decide)⟩
 have hWep:W1.ep=2:=by rw [hW1e]
 have hWts:W1.ts.length=1:=by rw [hW1e];rfl
 refine Ac (Z (Aa (Ae (Ad U (sc (Q5 b5 (CL u3) W1 (by first |assumption|omega|exact hW0t|exact hW0r|exact hW1t|exact hW1r|exact hW0l|exact hW1l|decide) (by first |assumption|omega|exact hW0t|exact hW0r|exact hW1t|exact hW1r|exact hW0l|exact hW1l|decide) (by first |assumption|omega|exact hW0t|exact hW0r|exact hW1t|exact hW1r|exact hW0l|exact hW1l|decide) (by first |assumption|omega|exact hW0t|exact hW0r|exact hW1t|exact hW1r|exact hW0l|exact hW1l|decide) (by first |assumption|omega|exact hW0t|exact hW0r|exact hW1t|exact hW1r|exact hW0l|exact hW1l|decide)) H (lR 0 U l0) U U (Au LK U U) ?_)))))
 rintro v16 _ w ⟨zs14,rfl,hf15⟩ H
 replace H:=H.h1 (A:=Y CZ v16 zs14)
 obtain ⟨A17,c18,rfl,hc19,hm20,hp21⟩:=H.fA 0 rfl
 have hz1:=hf15
 rw [hw1] at hz1
 have hz1l:=congrArg List.length hz1
 rw [List.length_map] at hz1l
 have hz1m:zs14.length=3:=hz1l
 refine Ad U (Ac (Z (Aa (Ae (Ad U ?_)))))
 replace H:=H.p1
 refine sc (ZF b5 (CL u3) W1) H l0 U U (Au O9 U U) ?_
 rintro _ _ w ⟨rfl,rfl⟩ H
 refine V U U (AW U U U) (Ad U ?_)
 refine AN (d:=28) U (fun h22=>?_) (fun h22=>?_)
 ·refine Ad U (V U U (CQ (parts:=[(0,.const (.int .i64 6)),(6,.const (.int .i64 2))]) (vs:=[.int .i64 6,.int .i64 2]) (cs:=[.int .i64 6,.int .i64 0,.int .i64 0,.int .i64 0,.int .i64 0,.int .i64 0,.int .i64 2,.int .i64 0,.slice none 0 0,.slice none 0 0]) U Gx U U) (V U U (CQ (parts:=[(2,.tmp 30)]) (vs:=[.agg #[.int .i64 6,.int .i64 0,.int .i64 0,.int .i64 0,.int .i64 0,.int .i64 0,.int .i64 2,.int .i64 0,.slice none 0 0,.slice none 0 0]]) (cs:=[.int .i64 0,.int .i64 0,.int .i64 6,.int .i64 0,.int .i64 0,.int .i64 0,.int .i64 0,.int .i64 0,.int .i64 2,.int .i64 0,.slice none 0 0,.slice none 0 0]) U I9 U U) (BW (parts:=[(0,.tmp 31)]) (vs:=[.agg #[.int .i64 0,.int .i64 0,.int .i64 6,.int .i64 0,.int .i64 0,.int .i64 0,.int .i64 0,.int .i64 0,.int .i64 2,.int .i64 0,.slice none 0 0,.slice none 0 0]]) (cs:=[.int .i64 0,.int .i64 0,.int .i64 6,.int .i64 0,.int .i64 0,.int .i64 0,.int .i64 0,.int .i64 0,.int .i64 2,.int .i64 0,.slice none 0 0,.slice none 0 0]) U U U EE Hn U (by decide) (by decide) U U H (fun b23 w H=>?_))))
  replace H:Hd _ _ _ [blk b23 [.int .i64 0,.int .i64 0,.int .i64 6,.int .i64 0,.int .i64 0,.int .i64 0,.int .i64 0,.int .i64 0,.int .i64 2,.int .i64 0,.slice none 0 0,.slice none 0 0] 121,Ch b5 (CL u3) W1,Y CZ (.slice A17 zs14.length c18) zs14,Y CZ (.slice A9 zs6.length c10) zs6,Y FR (.slice (some ⟨b4,0,none⟩) 1 1) [(⟨6,0,0,0,0,⟨none,0,0⟩,⟨none,0,0⟩⟩:FN)],Y (Ao Ag) vS1 [(u3,Dv)],Y Af vP2 DD] [gl]:=H
  replace H:Hd w0 F0 w [Y Da (.slice (some ⟨b23,0,none⟩) 1 1) [(⟨⟨0,0,⟨6,0,0,0,0,0,2,0⟩⟩,⟨none,0,0⟩,⟨none,0,0⟩⟩:EU Ci)],Ch b5 (CL u3) W1,Y CZ (.slice A17 zs14.length c18) zs14,Y CZ (.slice A9 zs6.length c10) zs6,Y FR (.slice (some ⟨b4,0,none⟩) 1 1) [(⟨6,0,0,0,0,⟨none,0,0⟩,⟨none,0,0⟩⟩:FN)],Y (Ao Ag) vS1 [(u3,Dv)],Y Af vP2 DD] [gl]:=H.turn (fun F h=>Hr h rfl (by decide) rfl)
  refine sc (Yo (.slice A9 zs6.length c10) zs6 (.slice (some ⟨b23,0,none⟩) 1 1) [(⟨⟨0,0,⟨6,0,0,0,0,0,2,0⟩⟩,.slice none 0 0,[],.slice none 0 0,[]⟩:Bi Ci)]) H (lA 3 U (fun F h=>BE F h) (lX (fun F hA hR=>Y8 (us:=[(⟨⟨0,0,⟨6,0,0,0,0,0,2,0⟩⟩,.slice none 0 0,[],.slice none 0 0,[]⟩:Bi Ci)]) (BE F (hA _ (List.mem_of_getElem? (i:=0) U))) (fun r hr=>by rw [List.mem_singleton.1 hr];exact ⟨G_ _ _ _ trivial (by decide),G_ _ _ _ trivial (by decide)⟩)) l0)) U U (Au U4 U U) ?_
  rintro _ _ w ⟨rfl,rfl⟩ H
  refine Ah 2 U ?_
  refine AN (d:=35) U (fun h24=>?_) (fun h24=>?_)
  ·refine Ad U (V U U (Bf U H7 U) (V U U (AW U U U) (Ah 2 U ?_)))
   refine AN (d:=40) U (fun h25=>?_) (fun h25=>?_)
   ·refine Ad U ?_
    obtain ⟨⟨⟨a28,a29,⟨a30,a31,a32,a33,a34,a35,a36,a37⟩⟩,sv38,se39,pv40,pr41⟩,hx27⟩:∃ z9,zs14[1]?=some z9:=⟨_,List.getElem?_eq_getElem (show 1<zs14.length by omega)⟩
    obtain ⟨A42,c43,A44,c45,rfl,rfl,m46,m47,m48,m49⟩:=H.nestAt 2 rfl hx27
    have th50:=H.thAt 2 rfl hx27
    refine V U U (A0 (p:=AQ A17+1*12) U EE U U (by omega) (by omega) th50 (by omega)) (V U U (Aj U K9 U) (V U U (Al U AA U (H.elAt 2 U hx27 (q:=1) U U)) (V U U (AW U U U) (Ah 2 U ?_))))
    refine AN (d:=47) U (fun h51=>?_) (fun h51=>?_)
    ·refine Ad U ?_
     have th52:=H.thAt 2 rfl hx27
     refine V U U (A0 (p:=AQ A17+1*12) U EE U U (by omega) (by omega) th52 (by omega)) (V U U (Aj U K_ U) (V U U (Aj U Fe U) (V U U (Al U AA U (H.elAt 2 U hx27 (q:=2) U U)) (V U U (AW U U U) (Ah 2 U ?_)))))
     refine AN (d:=55) U (fun h53=>?_) (fun h53=>?_)
     ·refine Ad U ?_
      replace H:=H.p1
      replace H:Hd _ _ _ [Ch b5 (CL u3) W1,Y Da (.slice (some ⟨b23,0,none⟩) 1 1) [(⟨⟨0,0,⟨6,0,0,0,0,0,2,0⟩⟩,⟨none,0,0⟩,⟨none,0,0⟩⟩:EU Ci)],Y CZ (.slice A17 zs14.length c18) zs14,Y CZ (.slice A9 zs6.length c10) zs6,Y FR (.slice (some ⟨b4,0,none⟩) 1 1) [(⟨6,0,0,0,0,⟨none,0,0⟩,⟨none,0,0⟩⟩:FN)],Y (Ao Ag) vS1 [(u3,Dv)],Y Af vP2 DD] [gl]:=H
      refine sc (ZR b5 (CL u3) W1) H l0 U U (Au O8 U U) ?_
      rintro _ _ w ⟨rfl,rfl⟩ H
      refine V U U (AW U U U) (Ah 2 U (Ac (Z (Am (Aq U U ?_)))))
      replace H:=H.nil
      exact Ak ⟨congrArg Value.bool (decide_eq_true (by omega)),rfl⟩ H
     exact (h53 (by have h9:=Pd hz1 hx27;have h8:ly=C0 (⟨⟨a28,a29,⟨a30,a31,a32,a33,a34,a35,a36,a37⟩⟩,.slice A42 se39.length c43,se39,.slice A44 pr41.length c45,pr41⟩:Bi Ci):=Option.some.inj h9;first |exact (congrArg Es.to h8).symm.trans hlt|exact (congrArg (fun z:Es=>z.m.kind) h8).symm.trans hlk)).elim
    exact (h51 (by have h9:=Pd hz1 hx27;have h8:ly=C0 (⟨⟨a28,a29,⟨a30,a31,a32,a33,a34,a35,a36,a37⟩⟩,.slice A42 se39.length c43,se39,.slice A44 pr41.length c45,pr41⟩:Bi Ci):=Option.some.inj h9;first |exact (congrArg Es.to h8).symm.trans hlt|exact (congrArg (fun z:Es=>z.m.kind) h8).symm.trans hlk)).elim
   exact (h25 (by omega)).elim
  exact (h24 hz0).elim
 exact (h22 hWep).elim
theorem ZH (fr:Int) (x:Cj) (xsv:Value) (xse:List Int) (xpv:Value) (xpr:List An):
    Cn Tryz.prog 70 [.pointer none,.int .i64 fr,.agg #[.int .i64 x.kind,.int .i64 x.sp,.int .i64 x.att,.int .i64 x.part,.int .i64 x.seq,.int .i64 x.next,.int .i64 x.ep,.int .i64 x.why,xsv,xpv]] [] [] (fun v Bs=>v=.tuple #[.slice none 0 0,.slice none 0 0]∧Bs=[]):=by
 intro w0 F0 H
 refine enter Tryz.func70 U U (Nat.le_of_ble_eq_true U) (Aa (Ae (Cm U U U U H (fun b1 w H=>(Ah 2 U (Ac (Z ?_)))))))
 replace H:Hd _ _ _ [blk b1 [.int .i64 x.kind,.int .i64 x.sp,.int .i64 x.att,.int .i64 x.part,.int .i64 x.seq,.int .i64 x.next,.int .i64 x.ep,.int .i64 x.why,xsv,xpv] 64] []:=H
 refine Aa (Aa (Ae (Ad U (V U U (CW U E6 U U) (Ah 12 U (Ad U (Ac (Z (Ck U (Aa (Ae (Ah 2 U (Ac (Z (Am (Ay (B_ U U U ?_)))))))))))))))))
 replace H:=H.nil
 exact Ak ⟨rfl,rfl⟩ H
theorem ZZ (x:KE) (xsv:Value) (xse:List Int) (xpv:Value) (xpr:List An) (wx:I7 (fun a:KE=>AP a.fr∧I6 a.m) (fun p:An=>p.key.size≤9223372036854775807∧p.val.size≤9223372036854775807) ⟨x,xsv,xse,xpv,xpr⟩):
    Cn Tryz.prog 16 [.agg #[.bool x.hear,.int .i64 x.fr,.int .i64 x.m.kind,.int .i64 x.m.sp,.int .i64 x.m.att,.int .i64 x.m.part,.int .i64 x.m.seq,.int .i64 x.m.next,.int .i64 x.m.ep,.int .i64 x.m.why,xsv,xpv]] [] [Ab (Ai .i64) xsv xse,Ab Ag xpv xpr,gl] (fun v Bs=>v=.bool true∧Bs=[]):=by
 intro w0 F0 H
 obtain ⟨A1,c2,rfl,hc3,hm4,hp5⟩:=H.fR 0 rfl
 obtain ⟨A6,c7,rfl,hc8,hm9,hp10⟩:=H.fR 1 rfl
 refine enter Tryz.func16 U U (Nat.le_of_ble_eq_true U) (Aa (Ae (Cm U U U U H (fun b11 w H=>(Ad U (Ac (Z ?_)))))))
 replace H:Hd _ _ _ [blk b11 [.bool x.hear,.int .i64 x.fr,.int .i64 x.m.kind,.int .i64 x.m.sp,.int .i64 x.m.att,.int .i64 x.m.part,.int .i64 x.m.seq,.int .i64 x.m.next,.int .i64 x.m.ep,.int .i64 x.m.why,.slice A1 xse.length c2,.slice A6 xpr.length c7] 128] [Ab (Ai .i64) (.slice A1 xse.length c2) xse,Ab Ag (.slice A6 xpr.length c7) xpr,gl]:=H
 refine Aa (Aa (Ae (V U U (Aj U N6 U) (V U U (Bn (cs:=[.int .i64 x.m.kind,.int .i64 x.m.sp,.int .i64 x.m.att,.int .i64 x.m.part,.int .i64 x.m.seq,.int .i64 x.m.next,.int .i64 x.m.ep,.int .i64 x.m.why,.slice A1 xse.length c2,.slice A6 xpr.length c7]) U EG U U (H.cellsI 0 U U)) (sc (To (⟨x.m.kind,x.m.sp,x.m.att,x.m.part,x.m.seq,x.m.next,x.m.ep,x.m.why⟩:Cj) (.slice A1 xse.length c2) xse (.slice A6 xpr.length c7) xpr) H (lR 0 U (lR 1 U l0)) U U (Au U0 U U) ?_)))))
 rintro _ _ w ⟨rfl,rfl⟩ H
 refine Ac (Z ?_)
 refine DO (b:=JD xse xpr) U (fun h12=>?_) (fun h12=>?_)
 ·refine Aa (Ae (sc (Nk) H (lR 2 U l0) U U (Au O6 U U) ?_))
  rintro _ _ w ⟨rfl,rfl⟩ H
  refine Ad U (Ac (Z (Am (Ay (Aq U U ?_)))))
  replace H:=H.nil
  exact Ak ⟨rfl,rfl⟩ H
 refine Ax (Z (Aa (Ae (Ad U (Ac (Z (Aa (Ae (Ad U (V U U (Aj U S3 U) (V U U (Al U AA U (H.cellI 0 U U)) (V U U (Aj U N6 U) (V U U (Bn (cs:=[.int .i64 x.m.kind,.int .i64 x.m.sp,.int .i64 x.m.att,.int .i64 x.m.part,.int .i64 x.m.seq,.int .i64 x.m.next,.int .i64 x.m.ep,.int .i64 x.m.why,.slice A1 xse.length c2,.slice A6 xpr.length c7]) U EG U U (H.cellsI 0 U U)) (sc (ZH x.fr (⟨x.m.kind,x.m.sp,x.m.att,x.m.part,x.m.seq,x.m.next,x.m.ep,x.m.why⟩:Cj) (.slice A1 xse.length c2) xse (.slice A6 xpr.length c7) xpr) H l0 U U (Au O7 U U) ?_))))))))))))))
 rintro _ _ w ⟨rfl,rfl⟩ H
 refine Ah 5 U (Ac (Z (Aa (Ae (Ad U (sc (ZT) H l0 U U (Au LK U U) ?_))))))
 rintro _ _ w ⟨rfl,rfl⟩ H
 refine V U U (Bf U H7 U) (V U U (AW U U U) (Ah 2 U (V U U (Bf U H7 U) (V U U (AW U U U) (Ah 3 U (V U U (Bf U MI U) (V U U (AW U U U) (Ah 3 U (sc (ZE) H l0 U U (Au O9 U U) ?_)))))))))
 rintro _ _ w ⟨rfl,rfl⟩ H
 refine V U U (AW U U U) (Ah 3 U (sc (ZM) H l0 U U (Au U3 U U) ?_))
 rintro _ _ w ⟨rfl,rfl⟩ H
 refine V U U (Bf U E7 U) (V U U (AW U U U) (Ah 3 U (sc (ZN 0) H l0 U U (Au U5 U U) ?_)))
 rintro _ _ w ⟨rfl,rfl⟩ H
 refine V U U (CW U H9 U U) (Ah 3 U (sc (ZQ) H l0 U U (Au O8 U U) ?_))
 rintro _ _ w ⟨rfl,rfl⟩ H
 refine V U U (AW U U U) (Ah 3 U (sc (ZD) H l0 U U (Au LL U U) ?_))
 rintro _ _ w ⟨rfl,rfl⟩ H
 refine V U U (Fl U U U) (Ah 2 U (sc (Nk) H (lR 2 U l0) U U (Au O6 U U) ?_))
 rintro _ _ w ⟨rfl,rfl⟩ H
 refine Ah 2 U (Ac (Z (Am (Aq U U ?_))))
 replace H:=H.nil
 exact Ak ⟨rfl,rfl⟩ H
theorem MK {P:Program} {W:World} {name:String} {g:Nat} {cs:Array Value} (hg:P.globalNamed name=some g) (h:W.var? P name=some cs):FL W g:=by
 unfold World.var? at h
 rw [hg] at h
 simp only [Option.bind_some] at h
 show g<W.heap.size
 rcases Nat.lt_or_ge g W.heap.size with h'|h'
 ·exact h'
 ·simp [Array.getElem?_eq_none h'] at h
theorem QL: "*" ++ "errors.errorString" = "*errors.errorString" :=by decide
theorem P1 (u:TypeId) (h:Tryz.prog.typeName? 3 u=some "*errors.errorString"):u=409:=typeName_ptr_named (nm:= "errors.errorString") (by rw [QL];kernel_rfl) (by kernel_rfl) (by decide) u (by rw [QL];exact h)
theorem Lt:Tryz.prog.globalNamed "internal/strconv.uint64pow10" =some 2:=by kernel_rfl
theorem Tr:(Tryz.prog.globals[2]?).map (·.type)=some 406:=by kernel_rfl
theorem Lu:Tryz.prog.globalNamed "strconv.ErrSyntax" =some 0:=by kernel_rfl
theorem Ts:(Tryz.prog.globals[0]?).map (·.type)=some 370:=by kernel_rfl
theorem Lv:Tryz.prog.globalNamed "strconv.ErrRange" =some 1:=by kernel_rfl
theorem Tt:(Tryz.prog.globals[1]?).map (·.type)=some 370:=by kernel_rfl
theorem Pk:Tryz.prog.underlying 370=some (.interface (Tryz.prog.methodsAt 370)):=by kernel_rfl
theorem Vj:Tryz.prog.underlying 406=some (.array 20 270):=by kernel_rfl
theorem Vi:Tryz.prog.underlying 270=some (.int .u64):=by kernel_rfl
theorem Pl:Tryz.prog.underlying 409=some (.pointer 411):=by kernel_rfl
theorem Pm:Tryz.prog.underlying 411=some (.struct #[⟨ "s",9,0,false, "", "errors",0⟩]):=by kernel_rfl
theorem Pn:Tryz.prog.underlying 9=some (.string):=by kernel_rfl
theorem Vb:Tryz.prog.cellsOf 270=1:=by kernel_rfl
theorem Vc:Tryz.prog.cellsOf 406=20:=by kernel_rfl
theorem Pb:Tryz.prog.cellsOf 411=1:=by kernel_rfl
theorem Pc:Tryz.prog.cellsOf 9=1:=by kernel_rfl
theorem Tk {W:World} (h:laidMet Tryz.prog Rows.checkOrdersRow.laid W):gl.P W (FL W):=by
 refine ⟨?_,?_,?_⟩
 ·have h0:laidMet Tryz.prog [("internal/strconv.uint64pow10",Lib.tabData .u64 Lib.pow10Tab)] W:=by
   have e:Rows.checkOrdersRow.laid.filter (fun x=>x.1== "internal/strconv.uint64pow10")=[("internal/strconv.uint64pow10",Lib.tabData .u64 Lib.pow10Tab)]:=by kernel_rfl
   have:=h.filter (fun x=>x.1== "internal/strconv.uint64pow10");rw [e] at this;exact this
  have hv:=Lib.tabIs_of_head Lt Tr Vj Vi Vb Vc h0
  exact ⟨_,Lt,MK Lt hv,_,hv,rfl⟩
 ·have h0:laidMet Tryz.prog [("strconv.ErrSyntax",Rows.laid_strconv_ErrSyntax)] W:=by
   have e:Rows.checkOrdersRow.laid.filter (fun x=>x.1== "strconv.ErrSyntax")=[("strconv.ErrSyntax",Rows.laid_strconv_ErrSyntax)]:=by kernel_rfl
   have:=h.filter (fun x=>x.1== "strconv.ErrSyntax");rw [e] at this;exact this
  obtain ⟨a0,s0,hv, -⟩:=laid_sentinel h0 Lu Ts Pk P1 Pl Pm rfl rfl Pn Pb Pc
  exact ⟨_,Lu,MK Lu hv,_,hv,_,_,rfl⟩
 ·have h0:laidMet Tryz.prog [("strconv.ErrRange",Rows.laid_strconv_ErrRange)] W:=by
   have e:Rows.checkOrdersRow.laid.filter (fun x=>x.1== "strconv.ErrRange")=[("strconv.ErrRange",Rows.laid_strconv_ErrRange)]:=by kernel_rfl
   have:=h.filter (fun x=>x.1== "strconv.ErrRange");rw [e] at this;exact this
  obtain ⟨a0,s0,hv, -⟩:=laid_sentinel h0 Lv Tt Pk P1 Pl Pm rfl rfl Pn Pb Pc
  exact ⟨_,Lv,MK Lv hv,_,hv,_,_,rfl⟩
end Go.Proofs.YthgehekecfpikaaGreatDoor.X
