/- WorkerParts: texts M7, WK3, WK4, WK5, LW2, LW3, LW5, G1, joined by a program of ours; what nothing names is left out. -/
import Derived.Test.YthgehekecfpikaaGreatDoorWorkerPartsQ6
import Derived.Test.YthgehekecfpikaaGreatDoorRows
import Derived.LaidSub
import Derived.Lib.LaidTab
import Derived.Stop.LaidErr
set_option linter.unusedVariables false
set_option linter.unusedSimpArgs false
set_option maxHeartbeats 8000000
namespace Go.Proofs.YthgehekecfpikaaGreatDoor.X
open Go
theorem Wv (b:Nat) (J:AC) (M:BO) (hJ:B8 J) (hM:F8 M):
    Cn Tryz.prog 31 [.pointer (some ⟨b,0,none⟩)] [Cg b J M] [] (fun v Bs=>∃ zs:List (Bi CF),Bs=[Y LK v zs,Cg b J M]∧(zs.map F7=GT dg J M)):=by
 intro w0 F0 H
 obtain ⟨vS1,vM2,vC3,vR4,vK5,J6,cw7,ct8,co9,cb10,fv11,vw12,ws13,⟨hsj14,hws15⟩,H⟩:=J8 b J M H
 replace H:Hd _ _ _ [blk b [vS1,.int .i64 J6.parts,vM2,vC3,vR4,.int .i64 J6.chunk,.int .i64 J6.window,.int .i64 J6.fuel,vK5,.int .i64 cw7,.int .i64 ct8,.int .i64 co9,.int .i64 ((M.sp:Nat):Int),.int .i64 M.att,.int .i64 ((Az dg J6 M.sp).2),.pointer (some ⟨cb10,0,none⟩),vw12] 164,blk cb10 [.int .u32 1,.int .i32 0,.int .u32 0,.int .u32 1,fv11,.string (AZ (Az dg J6 M.sp).1)] 234,Y (Am Ag) vS1 J6.us,Y Af vM2 J6.map,Y Af vC3 J6.comb,Y Af vR4 J6.red,Y (Ai .i64) vK5 J6.marks,Y Cq vw12 (ws13.map Prod.fst),Bn (Ci 239) ws13] []:=H
 have hwf:(ws13.map Prod.fst).length=ws13.length:=List.length_map ..
 have hwl:M.ws.length=ws13.length:=by rw [←hws15];exact List.length_map ..
 obtain ⟨A16,c17,rfl,hc18,hm19,hp20⟩:=H.fA 7 rfl
 have hJ2:B8 J6:=hsj14.symm.ok hJ
 have hml:=hM.2
 refine enter Tryz.func31 U U (Nat.le_of_ble_eq_true U) (Ab (Ae (Ad U (Ac (Z (Ab (Ab (Ae (Ad U (V U U (Dn U Hs U U) (Ac (Z (B2 U (Av (Z (Ab (Ae (Ad U (Ac (Z (Ab (Ab (Ae (Ad U (V U U (AH U U) (V U U (Aj U JJ U) (V U U (Al U Ji U (H.cellI 0 U U)) (V U U (Bc U ZC U) (Ad U (Ac (Z (AQ ?_))))))))))))))))))))))))))))))))
 replace H:=H.newnil Ek
 replace H:=Hd.tw0 (α:=CF) H
 replace H:=H.h1 (A:=B0 ([]:List (Bi CF)))|>.h2 (B:=Y Ek (.slice none 0 0) (([]:List (Bi CF)).map Bw))|>.p1
 refine BL (σ:=Nat×Value×List (Bi CF)) (fun (k,q,zs)=>[(0,.pointer (some ⟨b,0,none⟩)),(2,.slice none 0 0),(3,q),(13,.slice A16 ((ws13.map Prod.fst).length) c17),(14,.int .i64 (((ws13.map Prod.fst).length:Nat):Int)),(15,.int .i64 ((k:Nat):Int))]) (fun (k,q,zs) w=>(Hd w0 F0 w [Y Ek q (zs.map Bw),B0 zs,blk b [vS1,.int .i64 J6.parts,vM2,vC3,vR4,.int .i64 J6.chunk,.int .i64 J6.window,.int .i64 J6.fuel,vK5,.int .i64 cw7,.int .i64 ct8,.int .i64 co9,.int .i64 ((M.sp:Nat):Int),.int .i64 M.att,.int .i64 ((Az dg J6 M.sp).2),.pointer (some ⟨cb10,0,none⟩),.slice A16 ((ws13.map Prod.fst).length) c17] 164,blk cb10 [.int .u32 1,.int .i32 0,.int .u32 0,.int .u32 1,fv11,.string (AZ (Az dg J6 M.sp).1)] 234,Y (Am Ag) vS1 J6.us,Y Af vM2 J6.map,Y Af vC3 J6.comb,Y Af vR4 J6.red,Y (Ai .i64) vK5 J6.marks,Y Cq (.slice A16 ((ws13.map Prod.fst).length) c17) (ws13.map Prod.fst),Bn (Ci 239) ws13] [])∧(k≤ws13.length)∧(zs.map F7=DA dg J6 M.sp M.att (M.ws.take k) 0)) (fun (k,q,zs)=>ws13.length - k) (0,.slice none 0 0,[]) ⟨rfl,rfl,rfl,rfl,rfl,rfl,trivial⟩ ⟨H,Nat.zero_le _,rfl⟩ ?_
 rintro ⟨k,q,zs⟩ w ⟨H,hk,hz⟩
 have hzl:=congrArg List.length hz
 rw [List.length_map] at hzl
 have hpl:=Kg (D:=dg) (J:=J6) (s:=M.sp) (att:=M.att) (ws:=M.ws.take k) 0 (fun x hx=>hM.1 x (List.mem_of_mem_take hx))
 rw [List.length_take] at hpl
 refine Ab (Ae (V U U (Bb U U U) (Ac (Z (Ab ?_)))))
 refine Ax U (fun h21=>?_) (fun h21=>?_)
 ·refine Av (Z (Ab (AQ (Ab (Ae (Ad U ?_))))))
  obtain ⟨x22,hx23⟩:∃ z9,(ws13.map Prod.fst)[k]?=some z9:=⟨_,List.getElem?_eq_getElem (show k<(ws13.map Prod.fst).length by omega)⟩
  have th24:=H.thA 9 rfl hx23
  refine V U U (AY (p:=AS A16+k*1) U Ja U U (by omega) (by omega) th24 U) (V U U (Al U Zx U (H.elA 9 U hx23 (q:=0) U U)) (Ah 2 U (Ac (Z (Ab (Ae (Ad U ?_)))))))
  obtain ⟨wd25,he26⟩:=aF hx23
  have hm27:M.ws[k]?=some wd25:=by rw [←hws15];exact aH he26
  have hok_wd25:=hM.1 _ (Cb hm27)
  unfold IU at hok_wd25
  replace H:=H.pick 10 rfl|>.h3 (B:=Y Ek q (zs.map Bw)) (C:=B0 zs)
  replace H:=Hd.bigO k he26 H
  replace H:=H.h2 (A:=blk x22 [.int .i64 wd25.c,.int .i64 wd25.s,.int .i64 wd25.e,.int .i64 wd25.x] 239) (B:=Bn (Ci 239) (ws13.eraseIdx k))
  refine sc (Z9 x22 wd25.c wd25.s wd25.e wd25.x (by first |omega|decide) (by first |omega|decide)) H (lA 0 U (fun _ h=>h) l0) U U (Au Ug U U) ?_
  rintro v28 _ w rfl H
  replace H:=H.h1 (A:=Y (Ai .i64) v28 (Dv wd25.c wd25.s wd25.x))|>.p2|>.p2
  replace H:=Hd.bigI (f:=Ci 239) (x:=(x22,wd25)) k (J4 he26) H
  rw [aG he26] at H
  obtain ⟨A29,c30,rfl,hc31,hm32,hp33⟩:=H.fA 1 rfl
  refine V U U (Bc U EP U) (Ad U (Ac (Z ?_)))
  replace H:Hd _ _ _ [Bn (Ci 239) ws13,Y (Ai .i64) (.slice A29 ((Dv wd25.c wd25.s wd25.x).length) c30) (Dv wd25.c wd25.s wd25.x),Y Ek q (zs.map Bw),B0 zs,blk b [vS1,.int .i64 J6.parts,vM2,vC3,vR4,.int .i64 J6.chunk,.int .i64 J6.window,.int .i64 J6.fuel,vK5,.int .i64 cw7,.int .i64 ct8,.int .i64 co9,.int .i64 ((M.sp:Nat):Int),.int .i64 M.att,.int .i64 ((Az dg J6 M.sp).2),.pointer (some ⟨cb10,0,none⟩),.slice A16 ((ws13.map Prod.fst).length) c17] 164,blk cb10 [.int .u32 1,.int .i32 0,.int .u32 0,.int .u32 1,fv11,.string (AZ (Az dg J6 M.sp).1)] 234,Y (Am Ag) vS1 J6.us,Y Af vM2 J6.map,Y Af vC3 J6.comb,Y Af vR4 J6.red,Y (Ai .i64) vK5 J6.marks,Y Cq (.slice A16 ((ws13.map Prod.fst).length) c17) (ws13.map Prod.fst)] []:=H
  refine AQ ?_
  replace H:=H.pick 11 rfl|>.pick 11 rfl|>.pick 11 rfl|>.pick 11 rfl|>.pick 11 rfl|>.pick 11 rfl|>.pick 11 rfl|>.pick 11 rfl|>.p9|>.pick 11 rfl|>.pick 11 rfl
  have hz0:zs.map F7=DA dg J6 M.sp M.att (M.ws.take k) 0++(D9 dg J6 M.sp M.att wd25 k).take 0:=by rw [List.take_zero,List.append_nil];exact hz
  refine BL (σ:=Nat×Value×List (Bi CF)) (fun (j,q2,zs2)=>[(0,.pointer (some ⟨b,0,none⟩)),(2,.slice none 0 0),(3,q2),(4,.int .i64 ((k:Nat):Int)),(13,.slice A16 ((ws13.map Prod.fst).length) c17),(14,.int .i64 (((ws13.map Prod.fst).length:Nat):Int)),(15,.int .i64 ((k:Nat):Int)),(21,.slice A29 ((Dv wd25.c wd25.s wd25.x).length) c30),(22,.int .i64 (((Dv wd25.c wd25.s wd25.x).length:Nat):Int)),(23,.int .i64 ((j:Nat):Int))]) (fun (j,q2,zs2) w=>(Hd w0 F0 w [Y Ek q2 (zs2.map Bw),B0 zs2,Y (Ai .i64) (.slice A29 ((Dv wd25.c wd25.s wd25.x).length) c30) (Dv wd25.c wd25.s wd25.x),blk b [vS1,.int .i64 J6.parts,vM2,vC3,vR4,.int .i64 J6.chunk,.int .i64 J6.window,.int .i64 J6.fuel,vK5,.int .i64 cw7,.int .i64 ct8,.int .i64 co9,.int .i64 ((M.sp:Nat):Int),.int .i64 M.att,.int .i64 ((Az dg J6 M.sp).2),.pointer (some ⟨cb10,0,none⟩),.slice A16 ((ws13.map Prod.fst).length) c17] 164,blk cb10 [.int .u32 1,.int .i32 0,.int .u32 0,.int .u32 1,fv11,.string (AZ (Az dg J6 M.sp).1)] 234,Y (Am Ag) vS1 J6.us,Y Af vM2 J6.map,Y Af vC3 J6.comb,Y Af vR4 J6.red,Y (Ai .i64) vK5 J6.marks,Y Cq (.slice A16 ((ws13.map Prod.fst).length) c17) (ws13.map Prod.fst),Bn (Ci 239) ws13] [])∧(j≤(Dv wd25.c wd25.s wd25.x).length)∧(zs2.map F7=DA dg J6 M.sp M.att (M.ws.take k) 0++(D9 dg J6 M.sp M.att wd25 k).take j)) (fun (j,q2,zs2)=>(Dv wd25.c wd25.s wd25.x).length - j) (0,q,zs) ⟨rfl,rfl,rfl,rfl,rfl,rfl,rfl,rfl,rfl,rfl,trivial⟩ ⟨H,Nat.zero_le _,hz0⟩ ?_
  rintro ⟨j,q2,zs2⟩ w ⟨H,hj,hz2⟩
  have hzl2:=congrArg List.length hz2
  rw [List.length_map,List.length_append,List.length_take,Mo] at hzl2
  have hwl2:=P4 hok_wd25
  have htf:(zs2.map Bw).length=zs2.length:=List.length_map ..
  refine Ab (Ae (V U U (Bb U U U) (Ac (Z (Ab ?_)))))
  refine Ax U (fun h34=>?_) (fun h34=>?_)
  ·refine Av (Z (Ab (AQ (Ab (Ae ?_)))))
   obtain ⟨x35,hx36⟩:∃ z9,(Dv wd25.c wd25.s wd25.x)[j]?=some z9:=⟨_,List.getElem?_eq_getElem (show j<(Dv wd25.c wd25.s wd25.x).length by omega)⟩
   have th37:=H.thA 2 rfl hx36
   refine V U U (AY (p:=AS A29+j*1) U DI U U (by omega) (by omega) th37 U) (V U U (Al U AA U (H.elA 2 U hx36 (q:=0) U U)) (Ad U (Ac (Z ?_))))
   replace H:=H.pick 11 rfl|>.pick 11 rfl|>.pick 11 rfl|>.pick 11 rfl|>.pick 11 rfl|>.pick 11 rfl|>.pick 11 rfl|>.pick 11 rfl|>.pick 11 rfl|>.pick 11 rfl|>.pick 11 rfl
   replace H:Hd _ _ _ [B0 zs2,Y (Ai .i64) (.slice A29 ((Dv wd25.c wd25.s wd25.x).length) c30) (Dv wd25.c wd25.s wd25.x),blk b [vS1,.int .i64 J6.parts,vM2,vC3,vR4,.int .i64 J6.chunk,.int .i64 J6.window,.int .i64 J6.fuel,vK5,.int .i64 cw7,.int .i64 ct8,.int .i64 co9,.int .i64 ((M.sp:Nat):Int),.int .i64 M.att,.int .i64 ((Az dg J6 M.sp).2),.pointer (some ⟨cb10,0,none⟩),.slice A16 ((ws13.map Prod.fst).length) c17] 164,blk cb10 [.int .u32 1,.int .i32 0,.int .u32 0,.int .u32 1,fv11,.string (AZ (Az dg J6 M.sp).1)] 234,Y (Am Ag) vS1 J6.us,Y Af vM2 J6.map,Y Af vC3 J6.comb,Y Af vR4 J6.red,Y (Ai .i64) vK5 J6.marks,Y Cq (.slice A16 ((ws13.map Prod.fst).length) c17) (ws13.map Prod.fst),Bn (Ci 239) ws13,Y Ek q2 (zs2.map Bw)] []:=H
   refine B3 (.e 0 (.e 1 (.e 2 (.e 3 (.e 4 (.e 5 (.e 6 (.e 7 (.e 8 (.e 9 (.e 10 (.e 11 (.e 12 (.e 13 (.m 14 (.e 15 (.m 16 (.m 17 (.e 18 .z))))))))))))))))))) (fun w=>∃ Ar,Hd w0 F0 w (B0 zs2::Y (Ai .i64) (.slice A29 ((Dv wd25.c wd25.s wd25.x).length) c30) (Dv wd25.c wd25.s wd25.x)::blk b [vS1,.int .i64 J6.parts,vM2,vC3,vR4,.int .i64 J6.chunk,.int .i64 J6.window,.int .i64 J6.fuel,vK5,.int .i64 cw7,.int .i64 ct8,.int .i64 co9,.int .i64 ((M.sp:Nat):Int),.int .i64 M.att,.int .i64 ((Az dg J6 M.sp).2),.pointer (some ⟨cb10,0,none⟩),.slice A16 ((ws13.map Prod.fst).length) c17] 164::blk cb10 [.int .u32 1,.int .i32 0,.int .u32 0,.int .u32 1,fv11,.string (AZ (Az dg J6 M.sp).1)] 234::Y (Am Ag) vS1 J6.us::Y Af vM2 J6.map::Y Af vC3 J6.comb::Y Af vR4 J6.red::Y (Ai .i64) vK5 J6.marks::Y Cq (.slice A16 ((ws13.map Prod.fst).length) c17) (ws13.map Prod.fst)::Bn (Ci 239) ws13::Ar) []) mo (by kernel_rfl) (fun w H=>⟨_,H⟩) H (fun w H=>?_)
   refine At U (At U (Ao U U U (fun w ⟨Ar,H⟩=>AH U U) (Ao U U U (fun w ⟨Ar,H⟩=>Aj U Tm U) (Ao U U U (fun w ⟨Ar,H⟩=>Al U AA U (H.cellI 2 U U)) (At U (Ao U U U (fun w ⟨Ar,H⟩=>AH U U) (Ao U U U (fun w ⟨Ar,H⟩=>Aj U Oe U) (Ao U U U (fun w ⟨Ar,H⟩=>Al U AA U (H.cellI 2 U U)) (At U (At U (At U (At U (At U (AR U ?_))))))))))))))
   replace H:=H.p3
   refine sc (VE b vS1 vM2 vC3 vR4 vK5 J6 cw7 ct8 co9 M.sp M.att cb10 fv11 (.slice A16 ((ws13.map Prod.fst).length) c17) ((k:Nat):Int) x35 (by first |assumption|omega)) H (lA 2 U (fun _ h=>h) l0) U U (Au Vf U U) ?_
   rintro v38 _ w rfl H
   obtain ⟨A39,c40,rfl,hc41,hm42,hp43⟩:=H.fA 0 rfl
   replace H:Hd _ _ _ [Y Ag (.slice A39 ((C6 dg J6 M.sp M.att ((k:Nat):Int) x35).length) c40) (C6 dg J6 M.sp M.att ((k:Nat):Int) x35),blk cb10 [.int .u32 1,.int .i32 0,.int .u32 0,.int .u32 1,fv11,.string (AZ (Az dg J6 M.sp).1)] 234,B0 zs2,Y (Ai .i64) (.slice A29 ((Dv wd25.c wd25.s wd25.x).length) c30) (Dv wd25.c wd25.s wd25.x),blk b [vS1,.int .i64 J6.parts,vM2,vC3,vR4,.int .i64 J6.chunk,.int .i64 J6.window,.int .i64 J6.fuel,vK5,.int .i64 cw7,.int .i64 ct8,.int .i64 co9,.int .i64 ((M.sp:Nat):Int),.int .i64 M.att,.int .i64 ((Az dg J6 M.sp).2),.pointer (some ⟨cb10,0,none⟩),.slice A16 ((ws13.map Prod.fst).length) c17] 164,Y (Am Ag) vS1 J6.us,Y Af vM2 J6.map,Y Af vC3 J6.comb,Y Af vR4 J6.red,Y (Ai .i64) vK5 J6.marks,Y Cq (.slice A16 ((ws13.map Prod.fst).length) c17) (ws13.map Prod.fst),Bn (Ci 239) ws13,Y Ek q2 (zs2.map Bw)] []:=H
   replace H:=H.pick 11 rfl|>.pick 11 rfl|>.pick 11 rfl|>.pick 11 rfl|>.pick 11 rfl|>.pick 11 rfl|>.pick 11 rfl|>.p8|>.pick 11 rfl|>.pick 11 rfl|>.pick 11 rfl
   refine AI ⟨_,H⟩ (Ao U U U (fun w ⟨Ar,H⟩=>CR (parts:=[(0,.const (.int .i64 2)),(1,.tmp 31),(2,.tmp 35),(3,.tmp 36),(4,.tmp 37),(9,.tmp 41)]) (vs:=[.int .i64 2,.int .i64 ((M.sp:Nat):Int),.int .i64 M.att,.int .i64 ((k:Nat):Int),.int .i64 x35,.slice A39 ((C6 dg J6 M.sp M.att ((k:Nat):Int) x35).length) c40]) (cs:=[.int .i64 2,.int .i64 ((M.sp:Nat):Int),.int .i64 M.att,.int .i64 ((k:Nat):Int),.int .i64 x35,.int .i64 0,.int .i64 0,.int .i64 0,.slice none 0 0,.slice A39 ((C6 dg J6 M.sp M.att ((k:Nat):Int) x35).length) c40]) U GG U U) (AR U (BX (parts:=[(0,.tmp 42)]) (vs:=[.agg #[.int .i64 2,.int .i64 ((M.sp:Nat):Int),.int .i64 M.att,.int .i64 ((k:Nat):Int),.int .i64 x35,.int .i64 0,.int .i64 0,.int .i64 0,.slice none 0 0,.slice A39 ((C6 dg J6 M.sp M.att ((k:Nat):Int) x35).length) c40]]) (cs:=[.int .i64 2,.int .i64 ((M.sp:Nat):Int),.int .i64 M.att,.int .i64 ((k:Nat):Int),.int .i64 x35,.int .i64 0,.int .i64 0,.int .i64 0,.slice none 0 0,.slice A39 ((C6 dg J6 M.sp M.att ((k:Nat):Int) x35).length) c40]) U U U MI Ir U (by decide) (by decide) U U H (fun b44 w H=>?_))))
   replace H:=H.h1 (A:=blk b44 [.int .i64 2,.int .i64 ((M.sp:Nat):Int),.int .i64 M.att,.int .i64 ((k:Nat):Int),.int .i64 x35,.int .i64 0,.int .i64 0,.int .i64 0,.slice none 0 0,.slice A39 ((C6 dg J6 M.sp M.att ((k:Nat):Int) x35).length) c40] 64)|>.pick 11 rfl|>.pick 11 rfl|>.pick 11 rfl|>.pick 11 rfl|>.pick 11 rfl|>.pick 11 rfl|>.pick 11 rfl|>.pick 11 rfl|>.pick 11 rfl|>.pick 11 rfl|>.pick 11 rfl
   refine AI ⟨_,H⟩ (AR U ?_)
   replace H:=H.pick 13 rfl
   refine Cy (xs:=zs2.map Bw) (ys:=[(⟨⟨2,((M.sp:Nat):Int),M.att,((k:Nat):Int),x35,0,0,0⟩,⟨none,0,0⟩,⟨A39,(C6 dg J6 M.sp M.att ((k:Nat):Int) x35).length,c40⟩⟩:E4 CF)]) U U U MI Ir U (by decide) U U H (by first |omega|(simp only [List.length_append,List.length_cons,List.length_nil,List.length_map];omega)) (fun F hA hR=>Cm (hA _ (List.mem_of_getElem? (i:=11) U)) U (by decide) (AV.flat_eq.2 U)) (fun v45 w H=>?_)
   replace H:=H.h1 (A:=Y Ek v45 ((zs2.map Bw)++[(⟨⟨2,((M.sp:Nat):Int),M.att,((k:Nat):Int),x35,0,0,0⟩,⟨none,0,0⟩,⟨A39,(C6 dg J6 M.sp M.att ((k:Nat):Int) x35).length,c40⟩⟩:E4 CF)]))|>.pick 11 rfl|>.pick 11 rfl|>.pick 11 rfl|>.pick 11 rfl|>.pick 11 rfl|>.pick 11 rfl|>.pick 11 rfl|>.pick 11 rfl|>.pick 11 rfl|>.pick 11 rfl|>.pick 11 rfl
   refine AI ⟨_,H⟩ (At U (BM (AT (Z (Ae (V U U (AU (z:=((j+1:Nat):Int)) U U U (by rw [AB (by omega) (by omega)];omega)) (Ad U (Ac ?_))))))))
   replace H:=H.newnil (Ai .i64)|>.pick 12 rfl|>.p2|>.pick 14 rfl|>.p3|>.keep 14
   replace H:=Hd.twN (r:=(⟨(⟨2,M.sp,M.att,(k:Nat),x35,0,0,0⟩:CF),.slice none 0 0,[],.slice A39 ((C6 dg J6 M.sp M.att ((k:Nat):Int) x35).length) c40,C6 dg J6 M.sp M.att (k:Nat) x35⟩:Bi CF)) H
   replace H:Hd w0 F0 w [B0 (zs2++[(⟨(⟨2,M.sp,M.att,(k:Nat),x35,0,0,0⟩:CF),.slice none 0 0,[],.slice A39 ((C6 dg J6 M.sp M.att ((k:Nat):Int) x35).length) c40,C6 dg J6 M.sp M.att (k:Nat) x35⟩:Bi CF)]),Y Ek v45 ((zs2++[(⟨(⟨2,M.sp,M.att,(k:Nat),x35,0,0,0⟩:CF),.slice none 0 0,[],.slice A39 ((C6 dg J6 M.sp M.att ((k:Nat):Int) x35).length) c40,C6 dg J6 M.sp M.att (k:Nat) x35⟩:Bi CF)]).map Bw),Y (Ai .i64) (.slice A29 ((Dv wd25.c wd25.s wd25.x).length) c30) (Dv wd25.c wd25.s wd25.x),blk b [vS1,.int .i64 J6.parts,vM2,vC3,vR4,.int .i64 J6.chunk,.int .i64 J6.window,.int .i64 J6.fuel,vK5,.int .i64 cw7,.int .i64 ct8,.int .i64 co9,.int .i64 ((M.sp:Nat):Int),.int .i64 M.att,.int .i64 ((Az dg J6 M.sp).2),.pointer (some ⟨cb10,0,none⟩),.slice A16 ((ws13.map Prod.fst).length) c17] 164,blk cb10 [.int .u32 1,.int .i32 0,.int .u32 0,.int .u32 1,fv11,.string (AZ (Az dg J6 M.sp).1)] 234,Y (Am Ag) vS1 J6.us,Y Af vM2 J6.map,Y Af vC3 J6.comb,Y Af vR4 J6.red,Y (Ai .i64) vK5 J6.marks,Y Cq (.slice A16 ((ws13.map Prod.fst).length) c17) (ws13.map Prod.fst),Bn (Ci 239) ws13] []:=by rw [List.map_append];exact H
   replace H:=H.p1
   have hz3:(zs2++[(⟨(⟨2,M.sp,M.att,(k:Nat),x35,0,0,0⟩:CF),.slice none 0 0,[],.slice A39 ((C6 dg J6 M.sp M.att ((k:Nat):Int) x35).length) c40,C6 dg J6 M.sp M.att (k:Nat) x35⟩:Bi CF)]).map F7=DA dg J6 M.sp M.att (M.ws.take k) 0++(D9 dg J6 M.sp M.att wd25 k).take (j+1):=by rw [List.map_append,hz2,Xn hx36,←List.append_assoc];rfl
   exact Bf (s:=(j,undef,zs2)) (j+1,v45,zs2++[(⟨(⟨2,M.sp,M.att,(k:Nat),x35,0,0,0⟩:CF),.slice none 0 0,[],.slice A39 ((C6 dg J6 M.sp M.att ((k:Nat):Int) x35).length) c40,C6 dg J6 M.sp M.att (k:Nat) x35⟩:Bi CF)]) ⟨rfl,rfl,rfl,rfl,rfl,rfl,rfl,rfl,rfl,rfl,trivial⟩ ⟨H,by (try dsimp only);omega,hz3⟩ (by (try dsimp only);omega)
  refine BD (AM (AM (BE (AT (Z (Ae (V U U (AU (z:=((k+1:Nat):Int)) U U U (by rw [AB (by omega) (by omega)];omega)) (Ad U (Ac ?_)))))))))
  replace H:=H.pick 11 rfl|>.pick 11 rfl|>.pick 11 rfl|>.pick 11 rfl|>.pick 11 rfl|>.pick 11 rfl|>.pick 11 rfl|>.pick 11 rfl|>.pick 11 rfl|>.pick 10 rfl|>.pick 10 rfl|>.keep 11|>.h2 (A:=Y Ek q2 (zs2.map Bw)) (B:=B0 zs2)
  have hzk:zs2.map F7=DA dg J6 M.sp M.att (M.ws.take (k+1)) 0:=by rw [hz2,List.take_of_length_le (l:=D9 dg J6 M.sp M.att wd25 k) (by rw [Mo];omega),Xo hm27]
  exact Bf (s:=(k,undef,zs)) (k+1,q2,zs2) ⟨rfl,rfl,rfl,rfl,rfl,rfl,trivial⟩ ⟨H,by (try dsimp only);omega,hzk⟩ (by (try dsimp only);omega)
 refine BD (AM (AM (BE (Z (Ab (Ae (Ah 2 U (Ac (Z (An (Aq U U ?_)))))))))))
 replace H:=H.h2 (A:=Y Ek q (zs.map Bw)) (B:=B0 zs)
 replace H:=Hd.twI H
 replace H:=H.h1 (A:=Y LK q zs)|>.p9|>.p9|>.p9|>.p9|>.p9|>.p9|>.p9|>.p9|>.p9
 replace H:=IR b J M vS1 vM2 vC3 vR4 vK5 J6 cw7 ct8 co9 cb10 fv11 (.slice A16 ((ws13.map Prod.fst).length) c17) ws13 ⟨hsj14,hws15⟩ H
 replace H:=H.h1 (A:=Cg b J M)|>.p1
 exact Ak ⟨zs,rfl,by rw [hz,List.take_of_length_le (by omega)];exact Qk hsj14 dg M.sp M.att M.ws 0⟩ H
theorem aD (b:Nat) (vS:Value) (vM:Value) (vC:Value) (vR:Value) (vK:Value) (J2:AC) (C:Cf) (ep:Int) (pv:Value) (kb:Nat) (tv:Value) (ov:Bool) (mb:Nat) (M:BO) (hC:CP C) (hJ:B8 C.J) (hsj:Bd J2 C.J) (hM:F8 M):
    Cn Tryz.prog 143 [.pointer (some ⟨b,0,none⟩),.agg #[.int .i64 ((M.sp:Nat):Int),.int .i64 M.att,.pointer (some ⟨mb,0,none⟩)]] [Cg mb C.J M] [blk b [vS,.int .i64 J2.parts,vM,vC,vR,.int .i64 J2.chunk,.int .i64 J2.window,.int .i64 J2.fuel,vK,.int .i64 C.w,.int .i64 C.t,.int .i64 C.o,.int .i64 ep,pv,.map (some kb),tv,.int .u32 (BA ov)] 210,Aa (Am Ag) vS J2.us,Aa Af vM J2.map,Aa Af vC J2.comb,Aa Af vR J2.red,Aa (Ai .i64) vK J2.marks,gl] (fun v Bs=>∃ zs:List (Bi Cj),Bs=[Y C3 v zs,Cg mb C.J M]∧(zs.map C4=Gd dg C M)):=by
 intro w0 F0 H
 refine enter Tryz.func143 U U (Nat.le_of_ble_eq_true U) (Ab (Ae (Ct U U U U H (fun b1 w H=>(Ad U (Ac (Z ?_)))))))
 replace H:Hd _ _ _ [blk b1 [.int .i64 ((M.sp:Nat):Int),.int .i64 M.att,.pointer (some ⟨mb,0,none⟩)] 215,Cg mb C.J M] [blk b [vS,.int .i64 J2.parts,vM,vC,vR,.int .i64 J2.chunk,.int .i64 J2.window,.int .i64 J2.fuel,vK,.int .i64 C.w,.int .i64 C.t,.int .i64 C.o,.int .i64 ep,pv,.map (some kb),tv,.int .u32 (BA ov)] 210,Aa (Am Ag) vS J2.us,Aa Af vM J2.map,Aa Af vC J2.comb,Aa Af vR J2.red,Aa (Ai .i64) vK J2.marks,gl]:=H
 refine HB (σ:=Nat×Value) (fun (bb,uv)=>[(0,.pointer (some ⟨b,0,none⟩)),(3,.pointer (some ⟨b1,0,none⟩)),(5,.pointer (some ⟨bb,0,none⟩))]) (fun (bb,uv) w=>(Hd w0 F0 w [blk bb [.int .i64 4,.int .i64 ((M.sp:Nat):Int),.int .i64 M.att,.int .i64 0,.int .i64 0,.int .i64 0,.int .i64 0,.int .i64 0,uv,.slice none 0 0] 64,Y (Ai .i64) uv (Bt dg C.J M.sp M.att),blk b1 [.int .i64 ((M.sp:Nat):Int),.int .i64 M.att,.pointer (some ⟨mb,0,none⟩)] 215,Cg mb C.J M] [blk b [vS,.int .i64 J2.parts,vM,vC,vR,.int .i64 J2.chunk,.int .i64 J2.window,.int .i64 J2.fuel,vK,.int .i64 C.w,.int .i64 C.t,.int .i64 C.o,.int .i64 ep,pv,.map (some kb),tv,.int .u32 (BA ov)] 210,Aa (Am Ag) vS J2.us,Aa Af vM J2.map,Aa Af vC J2.comb,Aa Af vR J2.red,Aa (Ai .i64) vK J2.marks,gl])) ?_ ?_
 ·refine B3 (.e 0 (.e 1 (.e 2 (.e 3 (.e 4 (.e 5 (.b 6 8 (.e 7 (.m 8 (.m 9 .z))) (.m 6 (.e 7 (.m 9 .z)))))))))) (fun w=>∃ Ar,Hd w0 F0 w (blk b1 [.int .i64 ((M.sp:Nat):Int),.int .i64 M.att,.pointer (some ⟨mb,0,none⟩)] 215::Cg mb C.J M::Ar) [blk b [vS,.int .i64 J2.parts,vM,vC,vR,.int .i64 J2.chunk,.int .i64 J2.window,.int .i64 J2.fuel,vK,.int .i64 C.w,.int .i64 C.t,.int .i64 C.o,.int .i64 ep,pv,.map (some kb),tv,.int .u32 (BA ov)] 210,Aa (Am Ag) vS J2.us,Aa Af vM J2.map,Aa Af vC J2.comb,Aa Af vR J2.red,Aa (Ai .i64) vK J2.marks,gl]) mo (by kernel_rfl) (fun w H=>⟨_,H⟩) H (fun w H=>(Ao U U U (fun w ⟨Ar,H⟩=>Aj U Lq U) (Ao U U U (fun w ⟨Ar,H⟩=>Al U AA U (H.cellI 0 U U)) (Ao U U U (fun w ⟨Ar,H⟩=>Aj U Lr U) (Ao U U U (fun w ⟨Ar,H⟩=>Al U AA U (H.cellI 0 U U)) ?_)))))
  refine Ao U U U (fun w ⟨Ar,H⟩=>Aj U IC U) (Ao U U U (fun w ⟨Ar,H⟩=>Al U FC U (H.cellI 0 U U)) ?_)
  refine HE U U ?_ ?_
  ·replace H:=H.p1
   refine sc (PZ mb C.J M (by first |assumption|omega)) H l0 U U (Au LT U U) ?_
   rintro v2 _ w rfl H
   obtain ⟨A3,c4,rfl,hc5,hm6,hp7⟩:=H.fA 0 rfl
   replace H:Hd _ _ _ [Y (Ai .i64) (.slice A3 ((Bt dg C.J M.sp M.att).length) c4) (Bt dg C.J M.sp M.att),Cg mb C.J M,blk b1 [.int .i64 ((M.sp:Nat):Int),.int .i64 M.att,.pointer (some ⟨mb,0,none⟩)] 215] [blk b [vS,.int .i64 J2.parts,vM,vC,vR,.int .i64 J2.chunk,.int .i64 J2.window,.int .i64 J2.fuel,vK,.int .i64 C.w,.int .i64 C.t,.int .i64 C.o,.int .i64 ep,pv,.map (some kb),tv,.int .u32 (BA ov)] 210,Aa (Am Ag) vS J2.us,Aa Af vM J2.map,Aa Af vC J2.comb,Aa Af vR J2.red,Aa (Ai .i64) vK J2.marks,gl]:=H
   replace H:=H.p1.p2
   refine AI ⟨_,H⟩ (Ao U U U (fun w ⟨Ar,H⟩=>CR (parts:=[(0,.const (.int .i64 4)),(1,.tmp 10),(2,.tmp 12),(8,.tmp 15)]) (vs:=[.int .i64 4,.int .i64 ((M.sp:Nat):Int),.int .i64 M.att,.slice A3 ((Bt dg C.J M.sp M.att).length) c4]) (cs:=[.int .i64 4,.int .i64 ((M.sp:Nat):Int),.int .i64 M.att,.int .i64 0,.int .i64 0,.int .i64 0,.int .i64 0,.int .i64 0,.slice A3 ((Bt dg C.J M.sp M.att).length) c4,.slice none 0 0]) U GG U U) (AR U (Dr U U U Ir H (fun b8 w H=>?_))))
   replace H:=H.h1 (A:=blk b8 [.int .i64 0,.int .i64 0,.int .i64 0,.int .i64 0,.int .i64 0,.int .i64 0,.int .i64 0,.int .i64 0,.slice none 0 0,.slice none 0 0] 64)|>.p2|>.p2
   refine AI ⟨_,H⟩ (AR U ?_)
   replace H:=H.p2
   refine BH U U U Fh U U H U (Nat.le_of_ble_eq_true U) (fun u hu=>by simp [Value.cells] at hu;rcases hu with rfl|rfl|rfl|rfl|rfl|rfl|rfl|rfl|rfl|rfl<;>rfl) (fun w H=>?_)
   replace H:=H.h1 (A:=blk b8 [.int .i64 4,.int .i64 ((M.sp:Nat):Int),.int .i64 M.att,.int .i64 0,.int .i64 0,.int .i64 0,.int .i64 0,.int .i64 0,.slice A3 ((Bt dg C.J M.sp M.att).length) c4,.slice none 0 0] 64)|>.p2|>.p2
   refine AI ⟨_,H⟩ (BM ?_)
   replace H:=H.p3.p3
   exact Ev (b8,.slice A3 ((Bt dg C.J M.sp M.att).length) c4) ⟨rfl,rfl,rfl,trivial⟩ H
  refine Dr U U U Ir H (fun b9 w H=>?_)
  replace H:=H.h1 (A:=blk b9 [.int .i64 0,.int .i64 0,.int .i64 0,.int .i64 0,.int .i64 0,.int .i64 0,.int .i64 0,.int .i64 0,.slice none 0 0,.slice none 0 0] 64)|>.p2|>.p2
  refine AI ⟨_,H⟩ (AR U ?_)
  replace H:=H.p1
  refine sc (PZ mb C.J M (by first |assumption|omega)) H l0 U U (Au LT U U) ?_
  rintro v10 _ w rfl H
  obtain ⟨A11,c12,rfl,hc13,hm14,hp15⟩:=H.fA 0 rfl
  replace H:Hd _ _ _ [Y (Ai .i64) (.slice A11 ((Bt dg C.J M.sp M.att).length) c12) (Bt dg C.J M.sp M.att),Cg mb C.J M,blk b1 [.int .i64 ((M.sp:Nat):Int),.int .i64 M.att,.pointer (some ⟨mb,0,none⟩)] 215,blk b9 [.int .i64 0,.int .i64 0,.int .i64 0,.int .i64 0,.int .i64 0,.int .i64 0,.int .i64 0,.int .i64 0,.slice none 0 0,.slice none 0 0] 64] [blk b [vS,.int .i64 J2.parts,vM,vC,vR,.int .i64 J2.chunk,.int .i64 J2.window,.int .i64 J2.fuel,vK,.int .i64 C.w,.int .i64 C.t,.int .i64 C.o,.int .i64 ep,pv,.map (some kb),tv,.int .u32 (BA ov)] 210,Aa (Am Ag) vS J2.us,Aa Af vM J2.map,Aa Af vC J2.comb,Aa Af vR J2.red,Aa (Ai .i64) vK J2.marks,gl]:=H
  replace H:=H.p1.p2
  refine AI ⟨_,H⟩ (Ao U U U (fun w ⟨Ar,H⟩=>CR (parts:=[(0,.const (.int .i64 4)),(1,.tmp 10),(2,.tmp 12),(8,.tmp 15)]) (vs:=[.int .i64 4,.int .i64 ((M.sp:Nat):Int),.int .i64 M.att,.slice A11 ((Bt dg C.J M.sp M.att).length) c12]) (cs:=[.int .i64 4,.int .i64 ((M.sp:Nat):Int),.int .i64 M.att,.int .i64 0,.int .i64 0,.int .i64 0,.int .i64 0,.int .i64 0,.slice A11 ((Bt dg C.J M.sp M.att).length) c12,.slice none 0 0]) U GG U U) (AR U ?_))
  replace H:=H.p3
  refine BH U U U Fh U U H U (Nat.le_of_ble_eq_true U) (fun u hu=>by simp [Value.cells] at hu;rcases hu with rfl|rfl|rfl|rfl|rfl|rfl|rfl|rfl|rfl|rfl<;>rfl) (fun w H=>?_)
  replace H:=H.h1 (A:=blk b9 [.int .i64 4,.int .i64 ((M.sp:Nat):Int),.int .i64 M.att,.int .i64 0,.int .i64 0,.int .i64 0,.int .i64 0,.int .i64 0,.slice A11 ((Bt dg C.J M.sp M.att).length) c12,.slice none 0 0] 64)|>.p2|>.p2
  refine AI ⟨_,H⟩ (BM ?_)
  replace H:=H.p3.p3
  exact Ev (b9,.slice A11 ((Bt dg C.J M.sp M.att).length) c12) ⟨rfl,rfl,rfl,trivial⟩ H
 rintro ⟨bb,uv⟩ w H
 refine HB (σ:=Int×Int×Value×List Int) (fun (kd,wy,sv,se)=>[(0,.pointer (some ⟨b,0,none⟩)),(3,.pointer (some ⟨b1,0,none⟩)),(5,.pointer (some ⟨bb,0,none⟩))]) (fun (kd,wy,sv,se) w=>(Hd w0 F0 w [blk bb [.int .i64 kd,.int .i64 ((M.sp:Nat):Int),.int .i64 M.att,.int .i64 0,.int .i64 0,.int .i64 0,.int .i64 0,.int .i64 wy,sv,.slice none 0 0] 64,Y (Ai .i64) sv se,blk b1 [.int .i64 ((M.sp:Nat):Int),.int .i64 M.att,.pointer (some ⟨mb,0,none⟩)] 215,Cg mb C.J M] [blk b [vS,.int .i64 J2.parts,vM,vC,vR,.int .i64 J2.chunk,.int .i64 J2.window,.int .i64 J2.fuel,vK,.int .i64 C.w,.int .i64 C.t,.int .i64 C.o,.int .i64 ep,pv,.map (some kb),tv,.int .u32 (BA ov)] 210,Aa (Am Ag) vS J2.us,Aa Af vM J2.map,Aa Af vC J2.comb,Aa Af vR J2.red,Aa (Ai .i64) vK J2.marks,gl])∧((⟨0,0,⟨kd,M.sp,M.att,0,0,0,0,wy,se,[]⟩⟩:EB)=doneL dg C.J M)) ?_ ?_
 ·refine Ab ?_
  obtain ⟨A16,c17,rfl,hc18,hm19,hp20⟩:=H.fA 1 rfl
  replace H:Hd _ _ _ [blk bb [.int .i64 4,.int .i64 ((M.sp:Nat):Int),.int .i64 M.att,.int .i64 0,.int .i64 0,.int .i64 0,.int .i64 0,.int .i64 0,.slice A16 ((Bt dg C.J M.sp M.att).length) c17,.slice none 0 0] 64,Y (Ai .i64) (.slice A16 ((Bt dg C.J M.sp M.att).length) c17) (Bt dg C.J M.sp M.att),blk b1 [.int .i64 ((M.sp:Nat):Int),.int .i64 M.att,.pointer (some ⟨mb,0,none⟩)] 215,Cg mb C.J M] [blk b [vS,.int .i64 J2.parts,vM,vC,vR,.int .i64 J2.chunk,.int .i64 J2.window,.int .i64 J2.fuel,vK,.int .i64 C.w,.int .i64 C.t,.int .i64 C.o,.int .i64 ep,pv,.map (some kb),tv,.int .u32 (BA ov)] 210,Aa (Am Ag) vS J2.us,Aa Af vM J2.map,Aa Af vC J2.comb,Aa Af vR J2.red,Aa (Ai .i64) vK J2.marks,gl]:=H
  refine Ae (V U U (Aj U IC U) (V U U (Al U FC U (H.cellI 2 U U)) ?_))
  replace H:=H.p3
  refine sc (P0 mb C.J M) H l0 U U (Au JY U U) ?_
  rintro _ _ w ⟨rfl,rfl⟩ H
  refine V U U (C9 U U U) (Ac (Z ?_))
  refine Ax U (fun h21=>?_) (fun h21=>?_)
  ·replace H:=H.p3.p3.p2
   refine B3 (.e 0 (.e 1 (.e 2 (.e 3 (.e 4 (.e 5 (.m 6 (.e 7 (.m 8 .z))))))))) (fun w=>∃ Ar,Hd w0 F0 w (Cg mb C.J M::Y (Ai .i64) (.slice A16 ((Bt dg C.J M.sp M.att).length) c17) (Bt dg C.J M.sp M.att)::blk b1 [.int .i64 ((M.sp:Nat):Int),.int .i64 M.att,.pointer (some ⟨mb,0,none⟩)] 215::Ar) [blk b [vS,.int .i64 J2.parts,vM,vC,vR,.int .i64 J2.chunk,.int .i64 J2.window,.int .i64 J2.fuel,vK,.int .i64 C.w,.int .i64 C.t,.int .i64 C.o,.int .i64 ep,pv,.map (some kb),tv,.int .u32 (BA ov)] 210,Aa (Am Ag) vS J2.us,Aa Af vM J2.map,Aa Af vC J2.comb,Aa Af vR J2.red,Aa (Ai .i64) vK J2.marks,gl]) mo (by kernel_rfl) (fun w H=>⟨_,H⟩) H (fun w H=>(Ao U U U (fun w ⟨Ar,H⟩=>Aj U Lq U) (Ao U U U (fun w ⟨Ar,H⟩=>Al U AA U (H.cellI 2 U U)) (Ao U U U (fun w ⟨Ar,H⟩=>Aj U Lr U) ?_))))
   refine Ao U U U (fun w ⟨Ar,H⟩=>Al U AA U (H.cellI 2 U U)) (Ao U U U (fun w ⟨Ar,H⟩=>Aj U IC U) (Ao U U U (fun w ⟨Ar,H⟩=>Al U FC U (H.cellI 2 U U)) (AR U (sc (P0 mb C.J M) H l0 U U (Au JY U U) ?_))))
   rintro _ _ w ⟨rfl,rfl⟩ H
   refine AI ⟨_,H⟩ (Ao U U U (fun w ⟨Ar,H⟩=>CR (parts:=[(0,.const (.int .i64 5)),(1,.tmp 22),(2,.tmp 24),(7,.tmp 27)]) (vs:=[.int .i64 5,.int .i64 ((M.sp:Nat):Int),.int .i64 M.att,.int .i64 ((Az dg C.J M.sp).2)]) (cs:=[.int .i64 5,.int .i64 ((M.sp:Nat):Int),.int .i64 M.att,.int .i64 0,.int .i64 0,.int .i64 0,.int .i64 0,.int .i64 ((Az dg C.J M.sp).2),.slice none 0 0,.slice none 0 0]) U GG U U) (AR U ?_))
   replace H:=H.p3
   refine BH U U U Fh U U H U (Nat.le_of_ble_eq_true U) (fun u hu=>by simp [Value.cells] at hu;rcases hu with rfl|rfl|rfl|rfl|rfl|rfl|rfl|rfl|rfl|rfl<;>rfl) (fun w H=>?_)
   replace H:=H.h1 (A:=blk bb [.int .i64 5,.int .i64 ((M.sp:Nat):Int),.int .i64 M.att,.int .i64 0,.int .i64 0,.int .i64 0,.int .i64 0,.int .i64 ((Az dg C.J M.sp).2),.slice none 0 0,.slice none 0 0] 64)|>.p3|>.p3|>.p3
   refine AI ⟨_,H⟩ (BM ?_)
   replace H:=H.newnil (Ai .i64)|>.p3|>.p1|>.p4|>.k4
   exact Ev (5,(Az dg C.J M.sp).2,.slice none 0 0,[]) ⟨rfl,rfl,rfl,trivial⟩ ⟨H,by unfold doneL;rw [if_pos h21]⟩
  refine Av ?_
  replace H:=H.p3.p3.p3
  exact Ev (4,0,.slice A16 ((Bt dg C.J M.sp M.att).length) c17,Bt dg C.J M.sp M.att) ⟨rfl,rfl,rfl,trivial⟩ ⟨H,by unfold doneL;rw [if_neg h21]⟩
 rintro ⟨kd,wy,sv,se⟩ w ⟨H,hd⟩
 refine Ab ?_
 obtain ⟨A22,c23,rfl,hc24,hm25,hp26⟩:=H.fA 1 rfl
 replace H:Hd _ _ _ [blk bb [.int .i64 kd,.int .i64 ((M.sp:Nat):Int),.int .i64 M.att,.int .i64 0,.int .i64 0,.int .i64 0,.int .i64 0,.int .i64 wy,.slice A22 se.length c23,.slice none 0 0] 64,Y (Ai .i64) (.slice A22 se.length c23) se,blk b1 [.int .i64 ((M.sp:Nat):Int),.int .i64 M.att,.pointer (some ⟨mb,0,none⟩)] 215,Cg mb C.J M] [blk b [vS,.int .i64 J2.parts,vM,vC,vR,.int .i64 J2.chunk,.int .i64 J2.window,.int .i64 J2.fuel,vK,.int .i64 C.w,.int .i64 C.t,.int .i64 C.o,.int .i64 ep,pv,.map (some kb),tv,.int .u32 (BA ov)] 210,Aa (Am Ag) vS J2.us,Aa Af vM J2.map,Aa Af vC J2.comb,Aa Af vR J2.red,Aa (Ai .i64) vK J2.marks,gl]:=H
 refine Ae (V U U (Bo (cs:=[.int .i64 kd,.int .i64 ((M.sp:Nat):Int),.int .i64 M.att,.int .i64 0,.int .i64 0,.int .i64 0,.int .i64 0,.int .i64 wy,.slice A22 se.length c23,.slice none 0 0]) U Fh U U (H.cellsI 0 U U)) (V U U (CR (parts:=[(2,.tmp 29)]) (vs:=[.agg #[.int .i64 kd,.int .i64 ((M.sp:Nat):Int),.int .i64 M.att,.int .i64 0,.int .i64 0,.int .i64 0,.int .i64 0,.int .i64 wy,.slice A22 se.length c23,.slice none 0 0]]) (cs:=[.int .i64 0,.int .i64 0,.int .i64 kd,.int .i64 ((M.sp:Nat):Int),.int .i64 M.att,.int .i64 0,.int .i64 0,.int .i64 0,.int .i64 0,.int .i64 wy,.slice A22 se.length c23,.slice none 0 0]) U Js U U) (BX (parts:=[(0,.tmp 30)]) (vs:=[.agg #[.int .i64 0,.int .i64 0,.int .i64 kd,.int .i64 ((M.sp:Nat):Int),.int .i64 M.att,.int .i64 0,.int .i64 0,.int .i64 0,.int .i64 0,.int .i64 wy,.slice A22 se.length c23,.slice none 0 0]]) (cs:=[.int .i64 0,.int .i64 0,.int .i64 kd,.int .i64 ((M.sp:Nat):Int),.int .i64 M.att,.int .i64 0,.int .i64 0,.int .i64 0,.int .i64 0,.int .i64 wy,.slice A22 se.length c23,.slice none 0 0]) U U U EN Hw U (by decide) (by decide) U U H (fun b27 w H=>?_))))
 replace H:=H.h1 (A:=blk b27 [.int .i64 0,.int .i64 0,.int .i64 kd,.int .i64 ((M.sp:Nat):Int),.int .i64 M.att,.int .i64 0,.int .i64 0,.int .i64 0,.int .i64 0,.int .i64 wy,.slice A22 se.length c23,.slice none 0 0] 121)
 refine Ad U (Ac (Z (Ab (Ab ?_))))
 replace H:Hd w0 F0 w [Y De (.slice (some ⟨b27,0,none⟩) 1 1) [(⟨⟨0,0,⟨kd,((M.sp:Nat):Int),M.att,0,0,0,0,wy⟩⟩,⟨A22,se.length,c23⟩,⟨none,0,0⟩⟩:E4 Cj)],blk bb [.int .i64 kd,.int .i64 ((M.sp:Nat):Int),.int .i64 M.att,.int .i64 0,.int .i64 0,.int .i64 0,.int .i64 0,.int .i64 wy,.slice A22 se.length c23,.slice none 0 0] 64,Y (Ai .i64) (.slice A22 se.length c23) se,blk b1 [.int .i64 ((M.sp:Nat):Int),.int .i64 M.att,.pointer (some ⟨mb,0,none⟩)] 215,Cg mb C.J M] [blk b [vS,.int .i64 J2.parts,vM,vC,vR,.int .i64 J2.chunk,.int .i64 J2.window,.int .i64 J2.fuel,vK,.int .i64 C.w,.int .i64 C.t,.int .i64 C.o,.int .i64 ep,pv,.map (some kb),tv,.int .u32 (BA ov)] 210,Aa (Am Ag) vS J2.us,Aa Af vM J2.map,Aa Af vC J2.comb,Aa Af vR J2.red,Aa (Ai .i64) vK J2.marks,gl]:=H.turn (fun F h=>HA h rfl (by decide) rfl)
 obtain ⟨z0,hz0⟩:∃ z:Bi Cj,z=(⟨⟨0,0,⟨kd,M.sp,M.att,0,0,0,0,wy⟩⟩,.slice A22 se.length c23,se,.slice none 0 0,[]⟩:Bi Cj):=⟨_,rfl⟩
 replace H:Hd w0 F0 w [Y De (.slice (some ⟨b27,0,none⟩) 1 1) ([z0].map Bw),blk bb [.int .i64 kd,.int .i64 ((M.sp:Nat):Int),.int .i64 M.att,.int .i64 0,.int .i64 0,.int .i64 0,.int .i64 0,.int .i64 wy,.slice A22 se.length c23,.slice none 0 0] 64,Y (Ai .i64) (.slice A22 se.length c23) se,blk b1 [.int .i64 ((M.sp:Nat):Int),.int .i64 M.att,.pointer (some ⟨mb,0,none⟩)] 215,Cg mb C.J M] [blk b [vS,.int .i64 J2.parts,vM,vC,vR,.int .i64 J2.chunk,.int .i64 J2.window,.int .i64 J2.fuel,vK,.int .i64 C.w,.int .i64 C.t,.int .i64 C.o,.int .i64 ep,pv,.map (some kb),tv,.int .u32 (BA ov)] 210,Aa (Am Ag) vS J2.us,Aa Af vM J2.map,Aa Af vC J2.comb,Aa Af vR J2.red,Aa (Ai .i64) vK J2.marks,gl]:=by rw [hz0];exact H
 refine Ae (V U U (Aj U IC U) (V U U (Al U FC U (H.cellI 3 U U)) ?_))
 replace H:=H.p4
 refine sc (Wv mb C.J M (by first |assumption|omega) (by first |assumption|omega)) H l0 U U (Au Vc U U) ?_
 rintro v30 _ w ⟨zs28,rfl,hf29⟩ H
 replace H:=H.h1 (A:=Y LK v30 zs28)
 obtain ⟨A31,c32,rfl,hc33,hm34,hp35⟩:=H.fA 0 rfl
 replace H:=Hd.twO H
 replace H:=H.h2 (A:=Y Ek (.slice A31 zs28.length c32) (zs28.map Bw)) (B:=B0 zs28)
 have hzl4:=V9 hM hf29
 have hzf:(zs28.map Bw).length=zs28.length:=List.length_map ..
 refine V U U (Bc U ZI U) (Ad U (Ac (Z (AQ ?_))))
 replace H:=H.h4 (D:=Y De (.slice (some ⟨b27,0,none⟩) 1 1) (([z0]++(zs28.take 0).map (lf C)).map Bw))|>.p5|>.p2|>.p4|>.p3|>.k5
 refine BL (σ:=Nat×Value) (fun (k,q)=>[(0,.pointer (some ⟨b,0,none⟩)),(6,q),(34,.slice A31 zs28.length c32),(35,.int .i64 ((zs28.length:Nat):Int)),(36,.int .i64 ((k:Nat):Int))]) (fun (k,q) w=>(Hd w0 F0 w [Y Ek (.slice A31 zs28.length c32) (zs28.map Bw),Y De q (([z0]++(zs28.take k).map (lf C)).map Bw),B0 zs28,Y (Ai .i64) (.slice A22 se.length c23) se,Cg mb C.J M] [blk b [vS,.int .i64 J2.parts,vM,vC,vR,.int .i64 J2.chunk,.int .i64 J2.window,.int .i64 J2.fuel,vK,.int .i64 C.w,.int .i64 C.t,.int .i64 C.o,.int .i64 ep,pv,.map (some kb),tv,.int .u32 (BA ov)] 210,Aa (Am Ag) vS J2.us,Aa Af vM J2.map,Aa Af vC J2.comb,Aa Af vR J2.red,Aa (Ai .i64) vK J2.marks,gl])∧(k≤(zs28.map Bw).length)) (fun (k,q)=>(zs28.map Bw).length - k) (0,.slice (some ⟨b27,0,none⟩) 1 1) ⟨rfl,rfl,rfl,rfl,rfl,trivial⟩ ⟨H,Nat.zero_le _⟩ ?_
 rintro ⟨k,q⟩ w ⟨H,hk⟩
 have hlt9:(([z0]++(zs28.take k).map (lf C)).map Bw).length≤k+1:=by simp only [List.length_map,List.length_append,List.length_cons,List.length_nil,List.length_take];omega
 refine Ab (Ae (V U U (Bb U U U) (Ac (Z (Ab ?_)))))
 refine Ax U (fun h36=>?_) (fun h36=>?_)
 ·refine Av (Z (Ab (AQ (Ab (Ae ?_)))))
  obtain ⟨x37,hx38⟩:∃ z9,(zs28.map Bw)[k]?=some z9:=⟨_,List.getElem?_eq_getElem (show k<(zs28.map Bw).length by omega)⟩
  have th39:=H.thA 0 rfl hx38
  refine V U U (AY (p:=AS A31+k*10) U MI U U (by omega) (by omega) th39 U) (V U U (Bo (cs:=[.int .i64 x37.h.kind,.int .i64 x37.h.sp,.int .i64 x37.h.att,.int .i64 x37.h.part,.int .i64 x37.h.seq,.int .i64 x37.h.next,.int .i64 x37.h.ep,.int .i64 x37.h.why,.slice x37.hs.A x37.hs.n x37.hs.c,.slice x37.hp.A x37.hp.n x37.hp.c]) U Fh U U (H.elsA 0 U hx38 U)) (Dr U U U Ir H (fun b40 w H=>(BH U U U Fh U U H U (Nat.le_of_ble_eq_true U) (fun u hu=>by simp [Value.cells] at hu;rcases hu with rfl|rfl|rfl|rfl|rfl|rfl|rfl|rfl|rfl|rfl<;>rfl) (fun w H=>?_)))))
  replace H:=H.h3 (A:=blk b40 [.int .i64 x37.h.kind,.int .i64 x37.h.sp,.int .i64 x37.h.att,.int .i64 x37.h.part,.int .i64 x37.h.seq,.int .i64 x37.h.next,.int .i64 x37.h.ep,.int .i64 x37.h.why,.slice x37.hs.A x37.hs.n x37.hs.c,.slice x37.hp.A x37.hp.n x37.hp.c] 64) (C:=Y De q (([z0]++(zs28.take k).map (lf C)).map Bw))
  refine Ac (Z ?_)
  obtain ⟨m9,hm9,hxe9⟩:=V8 hx38
  have hp64:AE x37.h.part:=by rw [hxe9];exact Xu hM hf29 hm9
  replace H:=H.p5.p5.p5.p4.p4
  refine B3 (.e 0 (.e 1 (.e 2 (.e 3 (.e 4 (.e 5 (.e 6 (.e 8 (.m 7 (.e 9 (.m 10 (.m 11 (.e 12 .z))))))))))))) (fun w=>∃ Ar,Hd w0 F0 w (blk b40 [.int .i64 x37.h.kind,.int .i64 x37.h.sp,.int .i64 x37.h.att,.int .i64 x37.h.part,.int .i64 x37.h.seq,.int .i64 x37.h.next,.int .i64 x37.h.ep,.int .i64 x37.h.why,.slice x37.hs.A x37.hs.n x37.hs.c,.slice x37.hp.A x37.hp.n x37.hp.c] 64::Y Ek (.slice A31 zs28.length c32) (zs28.map Bw)::B0 zs28::Y (Ai .i64) (.slice A22 se.length c23) se::Cg mb C.J M::Ar) [blk b [vS,.int .i64 J2.parts,vM,vC,vR,.int .i64 J2.chunk,.int .i64 J2.window,.int .i64 J2.fuel,vK,.int .i64 C.w,.int .i64 C.t,.int .i64 C.o,.int .i64 ep,pv,.map (some kb),tv,.int .u32 (BA ov)] 210,Aa (Am Ag) vS J2.us,Aa Af vM J2.map,Aa Af vC J2.comb,Aa Af vR J2.red,Aa (Ai .i64) vK J2.marks,gl]) mo (by kernel_rfl) (fun w H=>⟨_,H⟩) H (fun w H=>?_)
  refine At U (At U (Ao U U U (fun w ⟨Ar,H⟩=>AH U U) (Ao U U U (fun w ⟨Ar,H⟩=>Aj U IB U) (Ao U U U (fun w ⟨Ar,H⟩=>Bo (cs:=[vS,.int .i64 J2.parts,vM,vC,vR,.int .i64 J2.chunk,.int .i64 J2.window,.int .i64 J2.fuel,vK,.int .i64 C.w,.int .i64 C.t,.int .i64 C.o]) U DC U U (H.cellsRI 0 U U)) (Ao U U U (fun w ⟨Ar,H⟩=>Aj U JS U) (Ao U U U (fun w ⟨Ar,H⟩=>Al U AA U (H.cellI 0 U U)) (Ao U U U (fun w ⟨Ar,H⟩=>Bo (cs:=[.int .i64 x37.h.kind,.int .i64 x37.h.sp,.int .i64 x37.h.att,.int .i64 x37.h.part,.int .i64 x37.h.seq,.int .i64 x37.h.next,.int .i64 x37.h.ep,.int .i64 x37.h.why,.slice x37.hs.A x37.hs.n x37.hs.c,.slice x37.hp.A x37.hp.n x37.hp.c]) U Fh U U (H.cellsI 0 U U)) (AR U (sc (IH vS vM vC vR vK (Cp J2 C) x37.h.part (by first |assumption|omega)) H (lR 1 U (lR 2 U (lR 3 U (lR 4 U (lR 5 U l0))))) U U (Au IM U U) ?_)))))))))
  rintro _ _ w ⟨rfl,rfl⟩ H
  refine AI ⟨_,H⟩ (Ao U U U (fun w ⟨Ar,H⟩=>CR (parts:=[(1,.tmp 47),(2,.tmp 48)]) (vs:=[.int .i64 (CY (Cp J2 C) x37.h.part),.agg #[.int .i64 x37.h.kind,.int .i64 x37.h.sp,.int .i64 x37.h.att,.int .i64 x37.h.part,.int .i64 x37.h.seq,.int .i64 x37.h.next,.int .i64 x37.h.ep,.int .i64 x37.h.why,.slice x37.hs.A x37.hs.n x37.hs.c,.slice x37.hp.A x37.hp.n x37.hp.c]]) (cs:=[.int .i64 0,.int .i64 (CY (Cp J2 C) x37.h.part),.int .i64 x37.h.kind,.int .i64 x37.h.sp,.int .i64 x37.h.att,.int .i64 x37.h.part,.int .i64 x37.h.seq,.int .i64 x37.h.next,.int .i64 x37.h.ep,.int .i64 x37.h.why,.slice x37.hs.A x37.hs.n x37.hs.c,.slice x37.hp.A x37.hp.n x37.hp.c]) U Js U U) (AR U (BX (parts:=[(0,.tmp 49)]) (vs:=[.agg #[.int .i64 0,.int .i64 (CY (Cp J2 C) x37.h.part),.int .i64 x37.h.kind,.int .i64 x37.h.sp,.int .i64 x37.h.att,.int .i64 x37.h.part,.int .i64 x37.h.seq,.int .i64 x37.h.next,.int .i64 x37.h.ep,.int .i64 x37.h.why,.slice x37.hs.A x37.hs.n x37.hs.c,.slice x37.hp.A x37.hp.n x37.hp.c]]) (cs:=[.int .i64 0,.int .i64 (CY (Cp J2 C) x37.h.part),.int .i64 x37.h.kind,.int .i64 x37.h.sp,.int .i64 x37.h.att,.int .i64 x37.h.part,.int .i64 x37.h.seq,.int .i64 x37.h.next,.int .i64 x37.h.ep,.int .i64 x37.h.why,.slice x37.hs.A x37.hs.n x37.hs.c,.slice x37.hp.A x37.hp.n x37.hp.c]) U U U EN Hw U (by decide) (by decide) U U H (fun b41 w H=>?_))))
  replace H:=H.h1 (A:=blk b41 [.int .i64 0,.int .i64 (CY (Cp J2 C) x37.h.part),.int .i64 x37.h.kind,.int .i64 x37.h.sp,.int .i64 x37.h.att,.int .i64 x37.h.part,.int .i64 x37.h.seq,.int .i64 x37.h.next,.int .i64 x37.h.ep,.int .i64 x37.h.why,.slice x37.hs.A x37.hs.n x37.hs.c,.slice x37.hp.A x37.hp.n x37.hp.c] 121)|>.p5|>.p5|>.p5|>.p5|>.p5
  refine AI ⟨_,H⟩ (AR U ?_)
  replace H:=H.p6
  refine Cy (xs:=([z0]++(zs28.take k).map (lf C)).map Bw) (ys:=[(⟨⟨0,CY (Cp J2 C) x37.h.part,⟨x37.h.kind,x37.h.sp,x37.h.att,x37.h.part,x37.h.seq,x37.h.next,x37.h.ep,x37.h.why⟩⟩,⟨x37.hs.A,x37.hs.n,x37.hs.c⟩,⟨x37.hp.A,x37.hp.n,x37.hp.c⟩⟩:E4 Cj)]) U U U EN Hw U (by decide) U U H (by first |omega|(simp only [List.length_append,List.length_cons,List.length_nil,List.length_map];omega)) (fun F hA hR=>Cm (hA _ (List.mem_of_getElem? (i:=5) U)) U (by decide) (AV.flat_eq.2 U)) (fun v42 w H=>?_)
  replace H:=H.h1 (A:=Y De v42 ((([z0]++(zs28.take k).map (lf C)).map Bw)++[(⟨⟨0,CY (Cp J2 C) x37.h.part,⟨x37.h.kind,x37.h.sp,x37.h.att,x37.h.part,x37.h.seq,x37.h.next,x37.h.ep,x37.h.why⟩⟩,⟨x37.hs.A,x37.hs.n,x37.hs.c⟩,⟨x37.hp.A,x37.hp.n,x37.hp.c⟩⟩:E4 Cj)]))|>.p5|>.p5|>.p5|>.p5|>.p5
  refine AI ⟨_,H⟩ (At U (BM (AT (Z (Ae (V U U (AU (z:=((k+1:Nat):Int)) U U U (by rw [AB (by omega) (by omega)];omega)) (Ad U (Ac ?_))))))))
  replace H:=H.p4.p4.p4.p5.p5.k5
  replace H:Hd w0 F0 w [Y Ek (.slice A31 zs28.length c32) (zs28.map Bw),Y De v42 (([z0]++(zs28.take (k+1)).map (lf C)).map Bw),B0 zs28,Y (Ai .i64) (.slice A22 se.length c23) se,Cg mb C.J M] [blk b [vS,.int .i64 J2.parts,vM,vC,vR,.int .i64 J2.chunk,.int .i64 J2.window,.int .i64 J2.fuel,vK,.int .i64 C.w,.int .i64 C.t,.int .i64 C.o,.int .i64 ep,pv,.map (some kb),tv,.int .u32 (BA ov)] 210,Aa (Am Ag) vS J2.us,Aa Af vM J2.map,Aa Af vC J2.comb,Aa Af vR J2.red,Aa (Ai .i64) vK J2.marks,gl]:=by rw [(I8 hsj).home,hxe9] at H;rw [PI hm9,←List.append_assoc,List.map_append];exact H
  exact Bf (s:=(k,undef)) (k+1,v42) ⟨rfl,rfl,rfl,rfl,rfl,trivial⟩ ⟨H,by (try dsimp only);omega⟩ (by (try dsimp only);omega)
 refine BD (AM (AM (BE (Z (Ab (Ae (Ah 2 U (Ac (Z (An (Aq U U ?_)))))))))))
 replace H:=H.h2 (B:=Y De q (([z0]++(zs28.take k).map (lf C)).map Bw))
 replace H:Hd w0 F0 w [Y Ek (.slice A31 zs28.length c32) (zs28.map Bw),Y De q ((z0::zs28.map (lf C)).map Bw),B0 zs28,Y (Ai .i64) (.slice A22 se.length c23) se,Cg mb C.J M] [blk b [vS,.int .i64 J2.parts,vM,vC,vR,.int .i64 J2.chunk,.int .i64 J2.window,.int .i64 J2.fuel,vK,.int .i64 C.w,.int .i64 C.t,.int .i64 C.o,.int .i64 ep,pv,.map (some kb),tv,.int .u32 (BA ov)] 210,Aa (Am Ag) vS J2.us,Aa Af vM J2.map,Aa Af vC J2.comb,Aa Af vR J2.red,Aa (Ai .i64) vK J2.marks,gl]:=by rw [List.take_of_length_le (l:=zs28) (by omega)] at H;exact H
 replace H:=H.p4.p2.p3.p4.k4
 rw [←Zr C] at H
 subst hz0
 replace H:=H.newnil Ag|>.p1
 replace H:=Hd.twC (r:=(⟨⟨0,0,⟨kd,M.sp,M.att,0,0,0,0,wy⟩⟩,.slice A22 se.length c23,se,.slice none 0 0,[]⟩:Bi Cj)) H
 replace H:Hd _ _ _ [B0 ((⟨⟨0,0,⟨kd,M.sp,M.att,0,0,0,0,wy⟩⟩,.slice A22 se.length c23,se,.slice none 0 0,[]⟩:Bi Cj)::zs28.map (lf C)),Y De q (((⟨⟨0,0,⟨kd,M.sp,M.att,0,0,0,0,wy⟩⟩,.slice A22 se.length c23,se,.slice none 0 0,[]⟩:Bi Cj)::zs28.map (lf C)).map Bw),Cg mb C.J M] [blk b [vS,.int .i64 J2.parts,vM,vC,vR,.int .i64 J2.chunk,.int .i64 J2.window,.int .i64 J2.fuel,vK,.int .i64 C.w,.int .i64 C.t,.int .i64 C.o,.int .i64 ep,pv,.map (some kb),tv,.int .u32 (BA ov)] 210,Aa (Am Ag) vS J2.us,Aa Af vM J2.map,Aa Af vC J2.comb,Aa Af vR J2.red,Aa (Ai .i64) vK J2.marks,gl]:=H
 replace H:=H.p1
 replace H:=Hd.twI H
 replace H:=H.h1 (A:=Y C3 q ((⟨⟨0,0,⟨kd,M.sp,M.att,0,0,0,0,wy⟩⟩,.slice A22 se.length c23,se,.slice none 0 0,[]⟩:Bi Cj)::zs28.map (lf C)))
 exact Ak ⟨((⟨⟨0,0,⟨kd,M.sp,M.att,0,0,0,0,wy⟩⟩,.slice A22 se.length c23,se,.slice none 0 0,[]⟩:Bi Cj)::zs28.map (lf C)),rfl,Zl hd hf29⟩ H
theorem Rn (b:Nat) (C:Cf) (W:Di) (hC:CP C) (hJ:B8 C.J) (hWt:∀ M∈W.ts,F8 M) (hWr:∀ R∈W.rs,CJ 99999 R) (hl:W.ts.length≤1000∧W.rs.length≤1000):
    Cn Tryz.prog 72 [.pointer (some ⟨b,0,none⟩)] [BT b C W] [gl] (fun v Bs=>∃ zs:List (Bi Cj),Bs=[Y C3 v zs,BT b C W]∧(zs.map C4=Hu dg C W)):=by
 intro w0 F0 H
 refine enter Tryz.func72 U U (Nat.le_of_ble_eq_true U) (Ab (Ae (Ad U (Ac (Z (Ab (Ab (Ae (Ad U (V U U (Dn U Gz U U) (Ah 2 U (sc (MU b C W) H l0 U U (Au LW U U) ?_))))))))))))
 rintro _ _ w ⟨rfl,rfl⟩ H
 refine Ad U (Ac (Z ?_))
 replace H:Hd _ _ _ [BT b C W] [gl]:=H
 refine DQ (b:=W.over) U (fun h1=>?_) (fun h1=>?_)
 ·refine Ab (Ae (Ad U (Ac (Z (An (Ay (Aq U U ?_)))))))
  replace H:=H.newnil C3
  have e:([]:List (Bi Cj)).map C4=Hu dg C W:=by unfold Hu;rw [if_pos (by simpa using h1)];rfl
  exact Ak ⟨[],rfl,e⟩ H
 refine Av (Z (Ab (Ae (Ad U (Ac (Z (Ab (Ab ?_))))))))
 have hov:W.over=false:=by simpa using h1
 obtain ⟨vS2,vM3,vC4,vR5,vK6,J7,pv8,kb9,tv10,rl11,tl12,⟨hsj13,hrl14,htl15⟩,H⟩:=GC b C W H
 replace H:Hd _ _ _ [blk b [vS2,.int .i64 J7.parts,vM3,vC4,vR5,.int .i64 J7.chunk,.int .i64 J7.window,.int .i64 J7.fuel,vK6,.int .i64 C.w,.int .i64 C.t,.int .i64 C.o,.int .i64 W.ep,pv8,.map (some kb9),tv10,.int .u32 (BA W.over)] 210,Y (Am Ag) vS2 J7.us,Y Af vM3 J7.map,Y Af vC4 J7.comb,Y Af vR5 J7.red,Y (Ai .i64) vK6 J7.marks,Y (Ai .i64) pv8 (rl11.map AD),Bq BJ kb9 (rl11.map BN),BU C rl11,Y B7 tv10 (tl12.map AG),B_ C.J tl12] [gl]:=H
 obtain ⟨A16,c17,rfl,hc18,hm19,hp20⟩:=H.fA 6 rfl
 obtain ⟨A21,c22,rfl,hc23,hm24,hp25⟩:=H.fA 9 rfl
 replace H:=H.newnil De
 replace H:=Hd.tw0 (α:=Cj) H
 replace H:=H.h1 (A:=B0 ([]:List (Bi Cj)))|>.h2 (B:=Y De (.slice none 0 0) (([]:List (Bi Cj)).map Bw))
 have hts:W.ts.length=tl12.length:=by rw [←htl15,List.length_map]
 have hrs:W.rs.length=rl11.length:=by rw [←hrl14,List.length_map]
 have htf:(tl12.map AG).length=tl12.length:=List.length_map ..
 have hrf:(rl11.map AD).length=rl11.length:=List.length_map ..
 refine Ae (Ad U (V U U (AH U U) (V U U (Aj U HL U) (V U U (Al U Ik U (H.cellI 2 U U)) (V U U (Bc U MQ U) (Ad U (Ac (Z (AQ ?_)))))))))
 replace H:=H.p1.pick 12 rfl|>.pick 12 rfl|>.pick 12 rfl|>.pick 12 rfl|>.pick 12 rfl|>.pick 12 rfl|>.pick 12 rfl|>.pick 12 rfl|>.pick 12 rfl|>.pick 12 rfl|>.pick 12 rfl
 refine BL (σ:=Nat×Value×List (Bi Cj)) (fun (k,q,ls)=>[(0,.pointer (some ⟨b,0,none⟩)),(2,.slice none 0 0),(3,q),(17,.slice A21 ((tl12.map AG).length) c22),(18,.int .i64 (((tl12.map AG).length:Nat):Int)),(19,.int .i64 ((k:Nat):Int))]) (fun (k,q,ls) w=>(Hd w0 F0 w [blk b [vS2,.int .i64 J7.parts,vM3,vC4,vR5,.int .i64 J7.chunk,.int .i64 J7.window,.int .i64 J7.fuel,vK6,.int .i64 C.w,.int .i64 C.t,.int .i64 C.o,.int .i64 W.ep,.slice A16 ((rl11.map AD).length) c17,.map (some kb9),.slice A21 ((tl12.map AG).length) c22,.int .u32 (BA W.over)] 210,Y (Am Ag) vS2 J7.us,Y Af vM3 J7.map,Y Af vC4 J7.comb,Y Af vR5 J7.red,Y (Ai .i64) vK6 J7.marks,Y (Ai .i64) (.slice A16 ((rl11.map AD).length) c17) (rl11.map AD),Bq BJ kb9 (rl11.map BN),BU C rl11,Y B7 (.slice A21 ((tl12.map AG).length) c22) (tl12.map AG),B_ C.J tl12,Y De q (ls.map Bw),B0 ls] [gl])∧(k≤(tl12.map AG).length)∧(ls.map C4=(W.ts.take k).flatMap (Gd dg C))∧(ls.length≤4001*k)) (fun (k,q,ls)=>(tl12.map AG).length - k) (0,.slice none 0 0,[]) ⟨rfl,rfl,rfl,rfl,rfl,rfl,trivial⟩ ⟨H,Nat.zero_le _,rfl,Nat.zero_le _⟩ ?_
 rintro ⟨k,q,ls⟩ w ⟨H,hk,hz,hll⟩
 have hlf:(ls.map Bw).length=ls.length:=List.length_map ..
 refine Ab (Ae (V U U (Bb U U U) (Ac (Z (Ab ?_)))))
 refine Ax U (fun h26=>?_) (fun h26=>?_)
 ·refine Av (Z (Ab (AQ (Ab (Ae ?_)))))
  obtain ⟨x27,hx28⟩:∃ z9,(tl12.map AG)[k]?=some z9:=⟨_,List.getElem?_eq_getElem (show k<(tl12.map AG).length by omega)⟩
  have th29:=H.thA 9 rfl hx28
  refine V U U (AY (p:=AS A21+k*3) U Ky U U (by omega) (by omega) th29 U) (V U U (Bo (cs:=[.int .i64 x27.sp,.int .i64 x27.att,.pointer (some ⟨x27.b,0,none⟩)]) U Jj U U (H.elsA 9 U hx28 U)) (Dr U U U KR H (fun b30 w H=>(BH U U U Jj U U H U (Nat.le_of_ble_eq_true U) (fun u hu=>by simp [Value.cells] at hu;rcases hu with rfl|rfl|rfl<;>rfl) (fun w H=>?_)))))
  replace H:Hd _ _ _ [blk b30 [.int .i64 x27.sp,.int .i64 x27.att,.pointer (some ⟨x27.b,0,none⟩)] 215,blk b [vS2,.int .i64 J7.parts,vM3,vC4,vR5,.int .i64 J7.chunk,.int .i64 J7.window,.int .i64 J7.fuel,vK6,.int .i64 C.w,.int .i64 C.t,.int .i64 C.o,.int .i64 W.ep,.slice A16 ((rl11.map AD).length) c17,.map (some kb9),.slice A21 ((tl12.map AG).length) c22,.int .u32 (BA W.over)] 210,Y (Am Ag) vS2 J7.us,Y Af vM3 J7.map,Y Af vC4 J7.comb,Y Af vR5 J7.red,Y (Ai .i64) vK6 J7.marks,Y (Ai .i64) (.slice A16 ((rl11.map AD).length) c17) (rl11.map AD),Bq BJ kb9 (rl11.map BN),BU C rl11,Y B7 (.slice A21 ((tl12.map AG).length) c22) (tl12.map AG),B_ C.J tl12,Y De q (ls.map Bw),B0 ls] [gl]:=H
  refine Ac (Z ?_)
  obtain ⟨e9,he9,hw9,hxe9⟩:=KD htl15 hx28
  subst hxe9
  have hM9:F8 e9.2:=hWt _ (List.mem_of_getElem? hw9)
  replace H:=H.h1 (A:=blk b30 [.int .i64 ((AG e9).sp),.int .i64 ((AG e9).att),.pointer (some ⟨(AG e9).b,0,none⟩)] 215)
  refine Ae (Ah 2 U (V U U (Bo (cs:=[.int .i64 ((AG e9).sp),.int .i64 ((AG e9).att),.pointer (some ⟨(AG e9).b,0,none⟩)]) U Jj U U (H.cellsI 0 U U)) ?_))
  replace H:=H.pick 11 rfl
  replace H:=Hd.bigO (f:=(fun e:Nat×BO=>Cg e.1 C.J e.2)) k he9 H
  replace H:=H.h2 (A:=Cg e9.1 C.J e9.2) (B:=Bn (fun e:Nat×BO=>Cg e.1 C.J e.2) (tl12.eraseIdx k))
  refine sc (aD b vS2 vM3 vC4 vR5 vK6 J7 C W.ep (.slice A16 ((rl11.map AD).length) c17) kb9 (.slice A21 ((tl12.map AG).length) c22) W.over e9.1 e9.2 (by first |assumption|omega|exact CJ.pairs (by assumption)) (by first |assumption|omega|exact CJ.pairs (by assumption)) (by first |assumption|omega|exact CJ.pairs (by assumption)) (by first |assumption|omega|exact CJ.pairs (by assumption))) H (lA 2 U (fun _ h=>h) (lA 3 U BI (lA 4 U BI (lA 5 U BI (lA 6 U BI (lA 7 U BI (lR 0 U l0))))))) U U (Au Uu U U) ?_
  rintro v33 _ w ⟨zs31,rfl,hf32⟩ H
  replace H:=H.h1 (A:=Y C3 v33 zs31)|>.p2|>.p2
  replace H:=Hd.bigI (f:=(fun e:Nat×BO=>Cg e.1 C.J e.2)) (x:=e9) k (J4 he9) H
  rw [Ku he9] at H
  replace H:Hd _ _ _ [B_ C.J tl12,Y C3 v33 zs31,blk b30 [.int .i64 ((AG e9).sp),.int .i64 ((AG e9).att),.pointer (some ⟨(AG e9).b,0,none⟩)] 215,blk b [vS2,.int .i64 J7.parts,vM3,vC4,vR5,.int .i64 J7.chunk,.int .i64 J7.window,.int .i64 J7.fuel,vK6,.int .i64 C.w,.int .i64 C.t,.int .i64 C.o,.int .i64 W.ep,.slice A16 ((rl11.map AD).length) c17,.map (some kb9),.slice A21 ((tl12.map AG).length) c22,.int .u32 (BA W.over)] 210,Y (Am Ag) vS2 J7.us,Y Af vM3 J7.map,Y Af vC4 J7.comb,Y Af vR5 J7.red,Y (Ai .i64) vK6 J7.marks,Y (Ai .i64) (.slice A16 ((rl11.map AD).length) c17) (rl11.map AD),Bq BJ kb9 (rl11.map BN),BU C rl11,Y B7 (.slice A21 ((tl12.map AG).length) c22) (tl12.map AG),Y De q (ls.map Bw),B0 ls] [gl]:=H
  have hz3l:zs31.length≤4001:=by have h:=congrArg List.length hf32;rw [List.length_map] at h;have h9:=Zm (D:=dg) (C:=C) hM9;omega
  obtain ⟨A34,c35,rfl,hc36,hm37,hp38⟩:=H.fA 1 rfl
  replace H:=H.p1
  replace H:=Hd.twO H
  replace H:=H.h2 (A:=Y De (.slice A34 zs31.length c35) (zs31.map Bw)) (B:=B0 zs31)|>.pick 14 rfl
  have hf3l:(zs31.map Bw).length=zs31.length:=List.length_map ..
  refine Cy (xs:=ls.map Bw) (ys:=zs31.map Bw) U U U EN Hw U (by decide) U U H (by omega) (fun F hA hR=>BI F (hA _ (List.mem_of_getElem? (i:=0) U))) (fun v39 w H=>?_)
  rw [←List.map_append] at H
  replace H:Hd _ _ _ [Y De v39 ((ls++zs31).map Bw),Y De (.slice A34 zs31.length c35) (zs31.map Bw),B0 zs31,B_ C.J tl12,blk b30 [.int .i64 ((AG e9).sp),.int .i64 ((AG e9).att),.pointer (some ⟨(AG e9).b,0,none⟩)] 215,blk b [vS2,.int .i64 J7.parts,vM3,vC4,vR5,.int .i64 J7.chunk,.int .i64 J7.window,.int .i64 J7.fuel,vK6,.int .i64 C.w,.int .i64 C.t,.int .i64 C.o,.int .i64 W.ep,.slice A16 ((rl11.map AD).length) c17,.map (some kb9),.slice A21 ((tl12.map AG).length) c22,.int .u32 (BA W.over)] 210,Y (Am Ag) vS2 J7.us,Y Af vM3 J7.map,Y Af vC4 J7.comb,Y Af vR5 J7.red,Y (Ai .i64) vK6 J7.marks,Y (Ai .i64) (.slice A16 ((rl11.map AD).length) c17) (rl11.map AD),Bq BJ kb9 (rl11.map BN),BU C rl11,Y B7 (.slice A21 ((tl12.map AG).length) c22) (tl12.map AG),B0 ls] [gl]:=H
  replace H:=H.p2.pick 15 rfl
  replace H:=Zu H
  replace H:=H.h1 (A:=B0 (ls++zs31))|>.pick 14 rfl|>.pick 14 rfl|>.pick 14 rfl|>.pick 14 rfl|>.pick 14 rfl|>.pick 14 rfl|>.pick 14 rfl|>.pick 14 rfl|>.pick 14 rfl|>.pick 14 rfl|>.pick 14 rfl|>.pick 14 rfl|>.pick 13 rfl|>.pick 13 rfl|>.keep 14
  refine Ad U (Ac (AT (Z (Ae (V U U (AU (z:=((k+1:Nat):Int)) U U U (by rw [AB (by omega) (by omega)];omega)) (Ad U (Ac ?_)))))))
  replace H:=H.p1.p2.pick 13 rfl|>.pick 13 rfl|>.pick 13 rfl|>.pick 13 rfl|>.pick 13 rfl|>.pick 13 rfl|>.pick 13 rfl|>.pick 13 rfl|>.pick 13 rfl|>.pick 13 rfl|>.keep 13
  exact Bf (s:=(k,undef,ls)) (k+1,v39,ls++zs31) ⟨rfl,rfl,rfl,rfl,rfl,rfl,trivial⟩ ⟨H,by (try dsimp only);omega,by rw [List.map_append,hz,hf32];exact (Tl hw9).symm,by (try dsimp only);rw [List.length_append];omega⟩ (by (try dsimp only);omega)
 refine BD (AM (AM (BE (Z (Ab (Ab (Ae (Ad U (V U U (AH U U) (V U U (Aj U JM U) (V U U (Al U EY U (H.cellI 0 U U)) (V U U (Bc U EP U) (Ad U (Ac (Z (AQ ?_))))))))))))))))
 have hzA:ls.map C4=W.ts.flatMap (Gd dg C)++(W.rs.take 0).map (JT dg C.J):=by rw [hz,List.take_of_length_le (by omega),List.take_zero,List.map_nil,List.append_nil]
 replace H:Hd _ _ _ [blk b [vS2,.int .i64 J7.parts,vM3,vC4,vR5,.int .i64 J7.chunk,.int .i64 J7.window,.int .i64 J7.fuel,vK6,.int .i64 C.w,.int .i64 C.t,.int .i64 C.o,.int .i64 W.ep,.slice A16 ((rl11.map AD).length) c17,.map (some kb9),.slice A21 ((tl12.map AG).length) c22,.int .u32 (BA W.over)] 210,Y (Am Ag) vS2 J7.us,Y Af vM3 J7.map,Y Af vC4 J7.comb,Y Af vR5 J7.red,Y (Ai .i64) vK6 J7.marks,Y (Ai .i64) (.slice A16 ((rl11.map AD).length) c17) (rl11.map AD),Bq BJ kb9 (rl11.map BN),BU C rl11,Y B7 (.slice A21 ((tl12.map AG).length) c22) (tl12.map AG),B_ C.J tl12,Y De q (ls.map Bw),B0 ls] [gl]:=H
 refine BL (σ:=Nat×Value×List (Bi Cj)) (fun (j,q2,l2)=>[(0,.pointer (some ⟨b,0,none⟩)),(2,.slice none 0 0),(3,q2),(32,.slice A16 ((rl11.map AD).length) c17),(33,.int .i64 (((rl11.map AD).length:Nat):Int)),(34,.int .i64 ((j:Nat):Int))]) (fun (j,q2,l2) w=>(Hd w0 F0 w [blk b [vS2,.int .i64 J7.parts,vM3,vC4,vR5,.int .i64 J7.chunk,.int .i64 J7.window,.int .i64 J7.fuel,vK6,.int .i64 C.w,.int .i64 C.t,.int .i64 C.o,.int .i64 W.ep,.slice A16 ((rl11.map AD).length) c17,.map (some kb9),.slice A21 ((tl12.map AG).length) c22,.int .u32 (BA W.over)] 210,Y (Am Ag) vS2 J7.us,Y Af vM3 J7.map,Y Af vC4 J7.comb,Y Af vR5 J7.red,Y (Ai .i64) vK6 J7.marks,Y (Ai .i64) (.slice A16 ((rl11.map AD).length) c17) (rl11.map AD),Bq BJ kb9 (rl11.map BN),BU C rl11,Y B7 (.slice A21 ((tl12.map AG).length) c22) (tl12.map AG),B_ C.J tl12,Y De q2 (l2.map Bw),B0 l2] [gl])∧(j≤(rl11.map AD).length)∧(l2.map C4=W.ts.flatMap (Gd dg C)++(W.rs.take j).map (JT dg C.J))∧(l2.length≤4001000+j)) (fun (j,q2,l2)=>(rl11.map AD).length - j) (0,q,ls) ⟨rfl,rfl,rfl,rfl,rfl,rfl,trivial⟩ ⟨H,Nat.zero_le _,hzA,by (try dsimp only);omega⟩ ?_
 rintro ⟨j,q2,l2⟩ w ⟨H,hj,hz2,hl2⟩
 have hlf2:(l2.map Bw).length=l2.length:=List.length_map ..
 refine Ab (Ae (V U U (Bb U U U) (Ac (Z (Ab ?_)))))
 refine Ax U (fun h40=>?_) (fun h40=>?_)
 ·refine Av (Z (Ab (AQ (Ab (Ae ?_)))))
  obtain ⟨x41,hx42⟩:∃ z9,(rl11.map AD)[j]?=some z9:=⟨_,List.getElem?_eq_getElem (show j<(rl11.map AD).length by omega)⟩
  have th43:=H.thA 6 rfl hx42
  refine V U U (AY (p:=AS A16+j*1) U DI U U (by omega) (by omega) th43 U) (V U U (Al U AA U (H.elA 6 U hx42 (q:=0) U U)) (Ad U (Ac (Z ?_))))
  replace H:Hd _ _ _ [blk b [vS2,.int .i64 J7.parts,vM3,vC4,vR5,.int .i64 J7.chunk,.int .i64 J7.window,.int .i64 J7.fuel,vK6,.int .i64 C.w,.int .i64 C.t,.int .i64 C.o,.int .i64 W.ep,.slice A16 ((rl11.map AD).length) c17,.map (some kb9),.slice A21 ((tl12.map AG).length) c22,.int .u32 (BA W.over)] 210,Y (Am Ag) vS2 J7.us,Y Af vM3 J7.map,Y Af vC4 J7.comb,Y Af vR5 J7.red,Y (Ai .i64) vK6 J7.marks,Y (Ai .i64) (.slice A16 ((rl11.map AD).length) c17) (rl11.map AD),Bq BJ kb9 (rl11.map BN),BU C rl11,Y B7 (.slice A21 ((tl12.map AG).length) c22) (tl12.map AG),B_ C.J tl12,Y De q2 (l2.map Bw),B0 l2] [gl]:=H
  obtain ⟨e8,he8,hr8,rfl⟩:=Xf hrl14 hx42
  obtain ⟨_,_,_,_,hnd,_⟩:=(H.pick 7 rfl).mapKf
  refine Ae (Ah 2 U (V U U (AH U U) (V U U (Aj U JN U) (V U U (Al U KH U (H.cellI 0 U U)) (Ad U (V U U (Mt KO U KL M1 U (AD e8) U H 7 U ((IP _ _).trans (congrArg Value.pointer (X_ hnd he8)))) ?_))))))
  replace H:=H.p8
  replace H:=Hd.bigO (f:=(fun e:Nat×AK=>FQ e.1 C e.2)) j he8 H
  replace H:=H.h2 (A:=FQ e8.1 C e8.2) (B:=Bn (fun e:Nat×AK=>FQ e.1 C e.2) (rl11.eraseIdx j))
  obtain ⟨vS44,vM45,vC46,vR47,vK48,J49,sb50,hsj51,H⟩:=X7 e8.1 C e8.2 H
  replace H:=H.h1 (A:=Ee e8.1 vS44 vM45 vC46 vR47 vK48 J49 C.w C.t C.o sb50 e8.2)
  have hB8:CJ 99999 e8.2:=hWr _ (List.mem_of_getElem? hr8)
  have hbp8:∀ i,(e8.2.g i).pairs.length≤1000:=hB8.pairs
  have h6:J49.us.length≤6:=by have:=hC.1.1;have:=hsj51.len;omega
  have hmk:J49.marks.length≤1000:=by have:=hC.1.2.2.1;rw [hsj51.marks];omega
  have hred:∀ i∈J49.red,AE i.a:=by rw [hsj51.red];exact hJ.red
  have hf64:AE J49.fuel:=by rw [hsj51.fuel];have:=hC.1.2.2.2.2.2.2.2.2.2.2;unfold AE;omega
  have hus:=hJ.us
  obtain ⟨hv52,vs53,us54,hsets55,H⟩:=X8 e8.1 vS44 vM45 vC46 vR47 vK48 J49 C.w C.t C.o sb50 e8.2 H
  replace H:=H.h9 (A:=blk e8.1 (Br vS44 vM45 vC46 vR47 vK48 J49 C.w C.t C.o e8.2.part e8.2.ep e8.2.g hv52 sb50 vs53) 185) (B:=Y (Am Ag) vS44 J49.us) (C:=Y Af vM45 J49.map) (D:=Y Af vC46 J49.comb) (E:=Y Af vR47 J49.red) (F:=Y (Ai .i64) vK48 J49.marks) (G:=BK (e8.2.g) hv52) (I:=Y (Am (Ai .i64)) vs53 us54) (J:=CD 253 sb50 (e8.2.st))
  obtain ⟨A56,c57,rfl,hc58,hm59,hp60⟩:=H.fA 1 rfl
  refine sc (TV e8.1 A56 c57 vM45 vC46 vR47 vK48 J49 C.w C.t C.o e8.2.part e8.2.ep e8.2 hv52 sb50 vs53 (by first |assumption|omega|exact CJ.pairs (by assumption)) (by first |assumption|omega|exact CJ.pairs (by assumption)) (by first |assumption|omega|exact CJ.pairs (by assumption)) (by first |assumption|omega|exact CJ.pairs (by assumption)) (by first |assumption|omega|exact CJ.pairs (by assumption)) (by first |assumption|omega|exact CJ.pairs (by assumption))) H (lA 0 U (fun _ h=>h) (lA 6 U (fun _ h=>h) (lA 4 U BI (lR 0 U l0)))) U U (Au Vj U U) ?_
  rintro _ _ w ⟨u61,rfl,rfl⟩ H
  replace H:=H.h1 (A:=Y (Ai .i64) u61 ((AF dg J49 e8.2).set))|>.p9|>.p9|>.p9|>.p9|>.p9|>.p9|>.p9|>.p9|>.p9
  replace H:=QD e8.1 (.slice A56 J49.us.length c57) vM45 vC46 vR47 vK48 J49 C.w C.t C.o sb50 e8.2 hv52 vs53 us54 hsets55 H
  replace H:=H.h1 (A:=Ee e8.1 (.slice A56 J49.us.length c57) vM45 vC46 vR47 vK48 J49 C.w C.t C.o sb50 e8.2)
  rw [Bd.hello hsj51] at H ⊢
  replace H:Hd _ _ _ [Ee e8.1 (.slice A56 J49.us.length c57) vM45 vC46 vR47 vK48 J49 C.w C.t C.o sb50 e8.2,Y (Ai .i64) u61 ((AF dg C.J e8.2).set),Bn (fun e:Nat×AK=>FQ e.1 C e.2) (rl11.eraseIdx j),blk b [vS2,.int .i64 J7.parts,vM3,vC4,vR5,.int .i64 J7.chunk,.int .i64 J7.window,.int .i64 J7.fuel,vK6,.int .i64 C.w,.int .i64 C.t,.int .i64 C.o,.int .i64 W.ep,.slice A16 ((rl11.map AD).length) c17,.map (some kb9),.slice A21 ((tl12.map AG).length) c22,.int .u32 (BA W.over)] 210,Y (Am Ag) vS2 J7.us,Y Af vM3 J7.map,Y Af vC4 J7.comb,Y Af vR5 J7.red,Y (Ai .i64) vK6 J7.marks,Y (Ai .i64) (.slice A16 ((rl11.map AD).length) c17) (rl11.map AD),Bq BJ kb9 (rl11.map BN),Y B7 (.slice A21 ((tl12.map AG).length) c22) (tl12.map AG),B_ C.J tl12,Y De q2 (l2.map Bw),B0 l2] [gl]:=H
  replace H:=H.p2.p1
  replace H:=QC e8.1 C e8.2 (.slice A56 J49.us.length c57) vM45 vC46 vR47 vK48 J49 sb50 hsj51 H
  replace H:=H.h1 (A:=FQ e8.1 C e8.2)
  replace H:=Hd.bigI (f:=(fun e:Nat×AK=>FQ e.1 C e.2)) (x:=e8) j (J4 he8) H
  rw [Ku he8] at H
  replace H:Hd _ _ _ [BU C rl11,Y (Ai .i64) u61 ((AF dg C.J e8.2).set),blk b [vS2,.int .i64 J7.parts,vM3,vC4,vR5,.int .i64 J7.chunk,.int .i64 J7.window,.int .i64 J7.fuel,vK6,.int .i64 C.w,.int .i64 C.t,.int .i64 C.o,.int .i64 W.ep,.slice A16 ((rl11.map AD).length) c17,.map (some kb9),.slice A21 ((tl12.map AG).length) c22,.int .u32 (BA W.over)] 210,Y (Am Ag) vS2 J7.us,Y Af vM3 J7.map,Y Af vC4 J7.comb,Y Af vR5 J7.red,Y (Ai .i64) vK6 J7.marks,Y (Ai .i64) (.slice A16 ((rl11.map AD).length) c17) (rl11.map AD),Bq BJ kb9 (rl11.map BN),Y B7 (.slice A21 ((tl12.map AG).length) c22) (tl12.map AG),B_ C.J tl12,Y De q2 (l2.map Bw),B0 l2] [gl]:=H
  obtain ⟨A62,c63,rfl,hc64,hm65,hp66⟩:=H.fA 1 rfl
  refine V U U (CR (parts:=[(2,.tmp 45)]) (vs:=[.agg #[.int .i64 ((AF dg C.J e8.2).kind),.int .i64 ((AF dg C.J e8.2).sp),.int .i64 ((AF dg C.J e8.2).att),.int .i64 ((AF dg C.J e8.2).part),.int .i64 ((AF dg C.J e8.2).seq),.int .i64 ((AF dg C.J e8.2).next),.int .i64 ((AF dg C.J e8.2).ep),.int .i64 ((AF dg C.J e8.2).why),.slice A62 (((AF dg C.J e8.2).set).length) c63,.slice none 0 0]]) (cs:=[.int .i64 0,.int .i64 0,.int .i64 ((AF dg C.J e8.2).kind),.int .i64 ((AF dg C.J e8.2).sp),.int .i64 ((AF dg C.J e8.2).att),.int .i64 ((AF dg C.J e8.2).part),.int .i64 ((AF dg C.J e8.2).seq),.int .i64 ((AF dg C.J e8.2).next),.int .i64 ((AF dg C.J e8.2).ep),.int .i64 ((AF dg C.J e8.2).why),.slice A62 (((AF dg C.J e8.2).set).length) c63,.slice none 0 0]) U Js U U) (BX (parts:=[(0,.tmp 46)]) (vs:=[.agg #[.int .i64 0,.int .i64 0,.int .i64 ((AF dg C.J e8.2).kind),.int .i64 ((AF dg C.J e8.2).sp),.int .i64 ((AF dg C.J e8.2).att),.int .i64 ((AF dg C.J e8.2).part),.int .i64 ((AF dg C.J e8.2).seq),.int .i64 ((AF dg C.J e8.2).next),.int .i64 ((AF dg C.J e8.2).ep),.int .i64 ((AF dg C.J e8.2).why),.slice A62 (((AF dg C.J e8.2).set).length) c63,.slice none 0 0]]) (cs:=[.int .i64 0,.int .i64 0,.int .i64 ((AF dg C.J e8.2).kind),.int .i64 ((AF dg C.J e8.2).sp),.int .i64 ((AF dg C.J e8.2).att),.int .i64 ((AF dg C.J e8.2).part),.int .i64 ((AF dg C.J e8.2).seq),.int .i64 ((AF dg C.J e8.2).next),.int .i64 ((AF dg C.J e8.2).ep),.int .i64 ((AF dg C.J e8.2).why),.slice A62 (((AF dg C.J e8.2).set).length) c63,.slice none 0 0]) U U U EN Hw U (by decide) (by decide) U U H (fun b67 w H=>?_))
  replace H:=H.pick 13 rfl
  refine Cy (xs:=l2.map Bw) (ys:=[(⟨⟨0,0,⟨(AF dg C.J e8.2).kind,(AF dg C.J e8.2).sp,(AF dg C.J e8.2).att,(AF dg C.J e8.2).part,(AF dg C.J e8.2).seq,(AF dg C.J e8.2).next,(AF dg C.J e8.2).ep,(AF dg C.J e8.2).why⟩⟩,⟨A62,((AF dg C.J e8.2).set).length,c63⟩,⟨none,0,0⟩⟩:E4 Cj)]) U U U EN Hw U (by decide) U U H (by first |omega|(simp only [List.length_append,List.length_cons,List.length_nil,List.length_map];omega)) (fun F hA hR=>Cm (hA _ (List.mem_of_getElem? (i:=0) U)) U (by decide) (AV.flat_eq.2 U)) (fun v68 w H=>(Ad U (Ac (AT (Z ?_)))))
  replace H:Hd _ _ _ [Y De v68 ((l2.map Bw)++[(⟨⟨0,0,⟨(AF dg C.J e8.2).kind,(AF dg C.J e8.2).sp,(AF dg C.J e8.2).att,(AF dg C.J e8.2).part,(AF dg C.J e8.2).seq,(AF dg C.J e8.2).next,(AF dg C.J e8.2).ep,(AF dg C.J e8.2).why⟩⟩,⟨A62,((AF dg C.J e8.2).set).length,c63⟩,⟨none,0,0⟩⟩:E4 Cj)]),blk b67 [.int .i64 0,.int .i64 0,.int .i64 ((AF dg C.J e8.2).kind),.int .i64 ((AF dg C.J e8.2).sp),.int .i64 ((AF dg C.J e8.2).att),.int .i64 ((AF dg C.J e8.2).part),.int .i64 ((AF dg C.J e8.2).seq),.int .i64 ((AF dg C.J e8.2).next),.int .i64 ((AF dg C.J e8.2).ep),.int .i64 ((AF dg C.J e8.2).why),.slice A62 (((AF dg C.J e8.2).set).length) c63,.slice none 0 0] 121,BU C rl11,Y (Ai .i64) (.slice A62 (((AF dg C.J e8.2).set).length) c63) ((AF dg C.J e8.2).set),blk b [vS2,.int .i64 J7.parts,vM3,vC4,vR5,.int .i64 J7.chunk,.int .i64 J7.window,.int .i64 J7.fuel,vK6,.int .i64 C.w,.int .i64 C.t,.int .i64 C.o,.int .i64 W.ep,.slice A16 ((rl11.map AD).length) c17,.map (some kb9),.slice A21 ((tl12.map AG).length) c22,.int .u32 (BA W.over)] 210,Y (Am Ag) vS2 J7.us,Y Af vM3 J7.map,Y Af vC4 J7.comb,Y Af vR5 J7.red,Y (Ai .i64) vK6 J7.marks,Y (Ai .i64) (.slice A16 ((rl11.map AD).length) c17) (rl11.map AD),Bq BJ kb9 (rl11.map BN),Y B7 (.slice A21 ((tl12.map AG).length) c22) (tl12.map AG),B_ C.J tl12,B0 l2] [gl]:=H
  refine Ae (V U U (AU (z:=((j+1:Nat):Int)) U U U (by rw [AB (by omega) (by omega)];omega)) (Ad U (Ac ?_)))
  replace H:=H.pick 13 rfl|>.pick 13 rfl|>.p4|>.pick 13 rfl|>.pick 13 rfl|>.pick 13 rfl|>.pick 13 rfl|>.pick 13 rfl|>.pick 13 rfl|>.pick 13 rfl|>.pick 13 rfl|>.pick 11 rfl|>.pick 14 rfl|>.pick 14 rfl|>.keep 14|>.newnil Ag|>.p1
  replace H:=Hd.twN (r:=(⟨⟨0,0,⟨(AF dg C.J e8.2).kind,(AF dg C.J e8.2).sp,(AF dg C.J e8.2).att,(AF dg C.J e8.2).part,(AF dg C.J e8.2).seq,(AF dg C.J e8.2).next,(AF dg C.J e8.2).ep,(AF dg C.J e8.2).why⟩⟩,.slice A62 (((AF dg C.J e8.2).set).length) c63,(AF dg C.J e8.2).set,.slice none 0 0,[]⟩:Bi Cj)) H
  replace H:=H.h1 (A:=B0 (l2++[(⟨⟨0,0,⟨(AF dg C.J e8.2).kind,(AF dg C.J e8.2).sp,(AF dg C.J e8.2).att,(AF dg C.J e8.2).part,(AF dg C.J e8.2).seq,(AF dg C.J e8.2).next,(AF dg C.J e8.2).ep,(AF dg C.J e8.2).why⟩⟩,.slice A62 (((AF dg C.J e8.2).set).length) c63,(AF dg C.J e8.2).set,.slice none 0 0,[]⟩:Bi Cj)]))
  replace H:Hd w0 F0 w [B0 (l2++[(⟨⟨0,0,⟨(AF dg C.J e8.2).kind,(AF dg C.J e8.2).sp,(AF dg C.J e8.2).att,(AF dg C.J e8.2).part,(AF dg C.J e8.2).seq,(AF dg C.J e8.2).next,(AF dg C.J e8.2).ep,(AF dg C.J e8.2).why⟩⟩,.slice A62 (((AF dg C.J e8.2).set).length) c63,(AF dg C.J e8.2).set,.slice none 0 0,[]⟩:Bi Cj)]),Y De v68 ((l2++[(⟨⟨0,0,⟨(AF dg C.J e8.2).kind,(AF dg C.J e8.2).sp,(AF dg C.J e8.2).att,(AF dg C.J e8.2).part,(AF dg C.J e8.2).seq,(AF dg C.J e8.2).next,(AF dg C.J e8.2).ep,(AF dg C.J e8.2).why⟩⟩,.slice A62 (((AF dg C.J e8.2).set).length) c63,(AF dg C.J e8.2).set,.slice none 0 0,[]⟩:Bi Cj)]).map Bw),blk b [vS2,.int .i64 J7.parts,vM3,vC4,vR5,.int .i64 J7.chunk,.int .i64 J7.window,.int .i64 J7.fuel,vK6,.int .i64 C.w,.int .i64 C.t,.int .i64 C.o,.int .i64 W.ep,.slice A16 ((rl11.map AD).length) c17,.map (some kb9),.slice A21 ((tl12.map AG).length) c22,.int .u32 (BA W.over)] 210,Y (Am Ag) vS2 J7.us,Y Af vM3 J7.map,Y Af vC4 J7.comb,Y Af vR5 J7.red,Y (Ai .i64) vK6 J7.marks,Y (Ai .i64) (.slice A16 ((rl11.map AD).length) c17) (rl11.map AD),Bq BJ kb9 (rl11.map BN),BU C rl11,Y B7 (.slice A21 ((tl12.map AG).length) c22) (tl12.map AG),B_ C.J tl12] [gl]:=by rw [List.map_append];exact H
  replace H:=H.p1.pick 12 rfl|>.pick 12 rfl|>.pick 12 rfl|>.pick 12 rfl|>.pick 12 rfl|>.pick 12 rfl|>.pick 12 rfl|>.pick 12 rfl|>.pick 12 rfl|>.pick 12 rfl|>.pick 12 rfl
  have hzn:(l2++[(⟨⟨0,0,⟨(AF dg C.J e8.2).kind,(AF dg C.J e8.2).sp,(AF dg C.J e8.2).att,(AF dg C.J e8.2).part,(AF dg C.J e8.2).seq,(AF dg C.J e8.2).next,(AF dg C.J e8.2).ep,(AF dg C.J e8.2).why⟩⟩,.slice A62 (((AF dg C.J e8.2).set).length) c63,(AF dg C.J e8.2).set,.slice none 0 0,[]⟩:Bi Cj)]).map C4=W.ts.flatMap (Gd dg C)++(W.rs.take (j+1)).map (JT dg C.J):=by rw [List.map_append,hz2,PI hr8,←List.append_assoc];exact congrArg (fun m:Ds=>_++[(⟨0,0,m⟩:EB)]) (Wb TW)
  exact Bf (s:=(j,undef,l2)) (j+1,v68,l2++[(⟨⟨0,0,⟨(AF dg C.J e8.2).kind,(AF dg C.J e8.2).sp,(AF dg C.J e8.2).att,(AF dg C.J e8.2).part,(AF dg C.J e8.2).seq,(AF dg C.J e8.2).next,(AF dg C.J e8.2).ep,(AF dg C.J e8.2).why⟩⟩,.slice A62 (((AF dg C.J e8.2).set).length) c63,(AF dg C.J e8.2).set,.slice none 0 0,[]⟩:Bi Cj)]) ⟨rfl,rfl,rfl,rfl,rfl,rfl,trivial⟩ ⟨H,by (try dsimp only);omega,hzn,by (try dsimp only);rw [List.length_append];simp only [List.length_cons,List.length_nil];omega⟩ (by (try dsimp only);omega)
 refine BD (AM (AM (BE (Z (Ab (Ae (Ah 2 U (Ac (Z (An (Aq U U ?_)))))))))))
 replace H:=H.pick 12 rfl|>.pick 12 rfl|>.h2 (A:=Y De q2 (l2.map Bw)) (B:=B0 l2)
 replace H:=Hd.twI H
 replace H:=H.h1 (A:=Y C3 q2 l2)
 have e:l2.map C4=Hu dg C W:=by rw [hz2,List.take_of_length_le (l:=W.rs) (by omega)];unfold Hu;rw [if_neg (by rw [hov];decide)]
 replace H:=H.pick 11 rfl|>.pick 11 rfl|>.pick 11 rfl|>.pick 11 rfl|>.pick 11 rfl|>.pick 11 rfl|>.pick 11 rfl|>.pick 11 rfl|>.pick 11 rfl|>.pick 11 rfl|>.pick 11 rfl
 replace H:=Em b C W vS2 vM3 vC4 vR5 vK6 J7 (.slice A16 ((rl11.map AD).length) c17) kb9 (.slice A21 ((tl12.map AG).length) c22) rl11 tl12 ⟨hsj13,hrl14,htl15⟩ H
 replace H:=H.h1 (A:=BT b C W)|>.p1
 exact Ak ⟨l2,rfl,e⟩ H
theorem Rq (vS:Value) (vM:Value) (vC:Value) (vR:Value) (vK:Value) (C:Cf) (id:Int) (vr:Value) (recs:List Bm) (hC:CP C) (hJ:B8 C.J) (hid:1≤id∧id≤C.w) (hrs:∀ r∈recs,(AE r.sp∧r.set.length≤1000)∧r.pairs.length≤1000) (hrl:recs.length≤100000):
    Cn Tryz.prog 69 [.agg #[vS,.int .i64 C.J.parts,vM,vC,vR,.int .i64 C.J.chunk,.int .i64 C.J.window,.int .i64 C.J.fuel,vK,.int .i64 C.w,.int .i64 C.t,.int .i64 C.o],.int .i64 id,vr] [] [Aa (Am Ag) vS C.J.us,Aa Af vM C.J.map,Aa Af vC C.J.comb,Aa Af vR C.J.red,Aa (Ai .i64) vK C.J.marks,Aa B4 vr recs] (fun v Bs=>∃ b:Nat,v=.tuple #[.pointer (some ⟨b,0,none⟩),.int .i64 0]∧Bs=[BT b C (EL C id recs)]):=by
 intro w0 F0 H
 obtain ⟨A1,c2,rfl,hc3,hm4,hp5⟩:=H.fR 0 rfl
 obtain ⟨A6,c7,rfl,hc8,hm9,hp10⟩:=H.fR 1 rfl
 obtain ⟨A11,c12,rfl,hc13,hm14,hp15⟩:=H.fR 2 rfl
 obtain ⟨A16,c17,rfl,hc18,hm19,hp20⟩:=H.fR 3 rfl
 obtain ⟨A21,c22,rfl,hc23,hm24,hp25⟩:=H.fR 4 rfl
 obtain ⟨A26,c27,rfl,hc28,hm29,hp30⟩:=H.fR 5 rfl
 have hus:=hJ.us
 have hpt:=hJ.parts
 refine enter Tryz.func69 U U (Nat.le_of_ble_eq_true U) (Ab (Ae (Ct U U U U H (fun b31 w H=>(Ah 2 U (Ac (Z ?_)))))))
 replace H:Hd _ _ _ [blk b31 [.slice A1 C.J.us.length c2,.int .i64 C.J.parts,.slice A6 C.J.map.length c7,.slice A11 C.J.comb.length c12,.slice A16 C.J.red.length c17,.int .i64 C.J.chunk,.int .i64 C.J.window,.int .i64 C.J.fuel,.slice A21 C.J.marks.length c22,.int .i64 C.w,.int .i64 C.t,.int .i64 C.o] 28] [Aa (Am Ag) (.slice A1 C.J.us.length c2) C.J.us,Aa Af (.slice A6 C.J.map.length c7) C.J.map,Aa Af (.slice A11 C.J.comb.length c12) C.J.comb,Aa Af (.slice A16 C.J.red.length c17) C.J.red,Aa (Ai .i64) (.slice A21 C.J.marks.length c22) C.J.marks,Aa B4 (.slice A26 recs.length c27) recs]:=H
 refine Ab (Ab (Ae (V U U (Bo (cs:=[.slice A1 C.J.us.length c2,.int .i64 C.J.parts,.slice A6 C.J.map.length c7,.slice A11 C.J.comb.length c12,.slice A16 C.J.red.length c17,.int .i64 C.J.chunk,.int .i64 C.J.window,.int .i64 C.J.fuel,.slice A21 C.J.marks.length c22,.int .i64 C.w,.int .i64 C.t,.int .i64 C.o]) U DC U U (H.cellsI 0 U U)) (sc (IQ (.slice A1 C.J.us.length c2) (.slice A6 C.J.map.length c7) (.slice A11 C.J.comb.length c12) (.slice A16 C.J.red.length c17) (.slice A21 C.J.marks.length c22) C) H (lR 0 U (lR 1 U (lR 2 U (lR 3 U (lR 4 U l0))))) U U (Au IL U U) ?_))))
 rintro _ _ w ⟨rfl,rfl⟩ H
 refine V U U (Ea U U) (Ad U ?_)
 refine AN (d:=15) U (fun h32=>?_) (fun h32=>?_)
 ·exact (h32 hC).elim
 refine Ad U (V U U (Bb U U U) (Ah 2 U ?_))
 refine AN (d:=19) U (fun h33=>?_) (fun h33=>?_)
 ·exfalso;omega
 refine Ad U (V U U (Aj U IF U) (V U U (Al U AA U (H.cellI 0 U U)) (V U U (Ck U U U) (Ad U (Ac (Z ?_))))))
 replace H:Hd _ _ _ [blk b31 [.slice A1 C.J.us.length c2,.int .i64 C.J.parts,.slice A6 C.J.map.length c7,.slice A11 C.J.comb.length c12,.slice A16 C.J.red.length c17,.int .i64 C.J.chunk,.int .i64 C.J.window,.int .i64 C.J.fuel,.slice A21 C.J.marks.length c22,.int .i64 C.w,.int .i64 C.t,.int .i64 C.o] 28] [Aa (Am Ag) (.slice A1 C.J.us.length c2) C.J.us,Aa Af (.slice A6 C.J.map.length c7) C.J.map,Aa Af (.slice A11 C.J.comb.length c12) C.J.comb,Aa Af (.slice A16 C.J.red.length c17) C.J.red,Aa (Ai .i64) (.slice A21 C.J.marks.length c22) C.J.marks,Aa B4 (.slice A26 recs.length c27) recs]:=H
 refine Ax U (fun h34=>?_) (fun h34=>?_)
 ·exfalso;omega
 refine Av (Z (Ab (Ae (V U U (Bo (cs:=[.slice A1 C.J.us.length c2,.int .i64 C.J.parts,.slice A6 C.J.map.length c7,.slice A11 C.J.comb.length c12,.slice A16 C.J.red.length c17,.int .i64 C.J.chunk,.int .i64 C.J.window,.int .i64 C.J.fuel,.slice A21 C.J.marks.length c22,.int .i64 C.w,.int .i64 C.t,.int .i64 C.o]) U DC U U (H.cellsI 0 U U)) (sc (Mf (.slice A1 C.J.us.length c2) (.slice A6 C.J.map.length c7) (.slice A11 C.J.comb.length c12) (.slice A16 C.J.red.length c17) (.slice A21 C.J.marks.length c22) C (by first |assumption|omega|exact hO2|exact ⟨hhm,by omega⟩|(unfold AE;omega))) H (lR 0 U (lR 1 U (lR 2 U (lR 3 U (lR 4 U l0))))) U U (Au LX U U) ?_)))))
 rintro _ _ w ⟨J35,vS36,vM37,vC38,vR39,vK40,rfl,rfl,hf41⟩ H
 have hsj:=hf41
 have hlen2:=hsj.len
 have hO2:B8 J35:=hsj.symm.ok hJ
 have hC2:CP (Cp J35 C):=(I8 hsj).symm.may hC
 refine QV BJ U U U H (fun b42 w H=>?_)
 obtain ⟨A43,c44,rfl,hc45,hm46,hp47⟩:=H.fA 1 rfl
 obtain ⟨A48,c49,rfl,hc50,hm51,hp52⟩:=H.fA 2 rfl
 obtain ⟨A53,c54,rfl,hc55,hm56,hp57⟩:=H.fA 3 rfl
 obtain ⟨A58,c59,rfl,hc60,hm61,hp62⟩:=H.fA 4 rfl
 obtain ⟨A63,c64,rfl,hc65,hm66,hp67⟩:=H.fA 5 rfl
 refine V U U (CR (parts:=[(0,.tmp 26),(1,.const (.int .i64 1)),(3,.tmp 27)]) (vs:=[.agg #[.slice A43 J35.us.length c44,.int .i64 J35.parts,.slice A48 J35.map.length c49,.slice A53 J35.comb.length c54,.slice A58 J35.red.length c59,.int .i64 J35.chunk,.int .i64 J35.window,.int .i64 J35.fuel,.slice A63 J35.marks.length c64,.int .i64 C.w,.int .i64 C.t,.int .i64 C.o],.int .i64 1,.map (some b42)]) (cs:=[.slice A43 J35.us.length c44,.int .i64 J35.parts,.slice A48 J35.map.length c49,.slice A53 J35.comb.length c54,.slice A58 J35.red.length c59,.int .i64 J35.chunk,.int .i64 J35.window,.int .i64 J35.fuel,.slice A63 J35.marks.length c64,.int .i64 C.w,.int .i64 C.t,.int .i64 C.o,.int .i64 1,.slice none 0 0,.map (some b42),.slice none 0 0,.int .u32 0]) U RL U U) (Ct U U U U H (fun b68 w H=>(Ad U (Ac (Z ?_)))))
 replace H:Hd _ _ _ [blk b68 [.slice A43 J35.us.length c44,.int .i64 J35.parts,.slice A48 J35.map.length c49,.slice A53 J35.comb.length c54,.slice A58 J35.red.length c59,.int .i64 J35.chunk,.int .i64 J35.window,.int .i64 J35.fuel,.slice A63 J35.marks.length c64,.int .i64 C.w,.int .i64 C.t,.int .i64 C.o,.int .i64 1,.slice none 0 0,.map (some b42),.slice none 0 0,.int .u32 0] 210,Bq BJ b42 [],Y (Am Ag) (.slice A43 J35.us.length c44) J35.us,Y Af (.slice A48 J35.map.length c49) J35.map,Y Af (.slice A53 J35.comb.length c54) J35.comb,Y Af (.slice A58 J35.red.length c59) J35.red,Y (Ai .i64) (.slice A63 J35.marks.length c64) J35.marks,blk b31 [.slice A1 C.J.us.length c2,.int .i64 C.J.parts,.slice A6 C.J.map.length c7,.slice A11 C.J.comb.length c12,.slice A16 C.J.red.length c17,.int .i64 C.J.chunk,.int .i64 C.J.window,.int .i64 C.J.fuel,.slice A21 C.J.marks.length c22,.int .i64 C.w,.int .i64 C.t,.int .i64 C.o] 28] [Aa (Am Ag) (.slice A1 C.J.us.length c2) C.J.us,Aa Af (.slice A6 C.J.map.length c7) C.J.map,Aa Af (.slice A11 C.J.comb.length c12) C.J.comb,Aa Af (.slice A16 C.J.red.length c17) C.J.red,Aa (Ai .i64) (.slice A21 C.J.marks.length c22) C.J.marks,Aa B4 (.slice A26 recs.length c27) recs]:=H
 refine Ab (Ab (Ae (Ad U (V U U (Bc U MR U) (Ad U (Ac (Z (AQ ?_))))))))
 replace H:=H.p7
 refine BL (σ:=Nat) (fun k=>[(1,.int .i64 id),(2,.slice A26 recs.length c27),(3,.pointer (some ⟨b31,0,none⟩)),(6,.pointer none),(7,.int .i64 0),(8,.pointer (some ⟨b68,0,none⟩)),(30,.slice A26 recs.length c27),(31,.int .i64 ((recs.length:Nat):Int)),(32,.int .i64 ((k:Nat):Int))]) (fun k w=>(Hd w0 F0 w [blk b31 [.slice A1 C.J.us.length c2,.int .i64 C.J.parts,.slice A6 C.J.map.length c7,.slice A11 C.J.comb.length c12,.slice A16 C.J.red.length c17,.int .i64 C.J.chunk,.int .i64 C.J.window,.int .i64 C.J.fuel,.slice A21 C.J.marks.length c22,.int .i64 C.w,.int .i64 C.t,.int .i64 C.o] 28,blk b68 [.slice A43 J35.us.length c44,.int .i64 J35.parts,.slice A48 J35.map.length c49,.slice A53 J35.comb.length c54,.slice A58 J35.red.length c59,.int .i64 J35.chunk,.int .i64 J35.window,.int .i64 J35.fuel,.slice A63 J35.marks.length c64,.int .i64 C.w,.int .i64 C.t,.int .i64 C.o,.int .i64 ((1+cnt CO (recs.take k):Nat):Int),.slice none 0 0,.map (some b42),.slice none 0 0,.int .u32 0] 210,Bq BJ b42 [],Y (Am Ag) (.slice A43 J35.us.length c44) J35.us,Y Af (.slice A48 J35.map.length c49) J35.map,Y Af (.slice A53 J35.comb.length c54) J35.comb,Y Af (.slice A58 J35.red.length c59) J35.red,Y (Ai .i64) (.slice A63 J35.marks.length c64) J35.marks] [Aa (Am Ag) (.slice A1 C.J.us.length c2) C.J.us,Aa Af (.slice A6 C.J.map.length c7) C.J.map,Aa Af (.slice A11 C.J.comb.length c12) C.J.comb,Aa Af (.slice A16 C.J.red.length c17) C.J.red,Aa (Ai .i64) (.slice A21 C.J.marks.length c22) C.J.marks,Aa B4 (.slice A26 recs.length c27) recs])∧(k≤recs.length)) (fun k=>recs.length - k) 0 ⟨rfl,rfl,rfl,rfl,rfl,rfl,rfl,rfl,rfl,trivial⟩ ⟨H,Nat.zero_le _⟩ ?_
 rintro k w ⟨H,hk⟩
 have hcl9:=NI CO (recs.take k)
 rw [List.length_take] at hcl9
 refine Ab (Ae (V U U (Bb U U U) (Ac (Z (Ab ?_)))))
 refine Ax U (fun h69=>?_) (fun h69=>?_)
 ·refine Av (Z (Ab (AQ (Ab (Ae ?_)))))
  obtain ⟨⟨a72,a73,a74,a75,a76,sv77,se78,pv79,pr80⟩,hx71⟩:∃ z9,recs[k]?=some z9:=⟨_,List.getElem?_eq_getElem (show k<recs.length by omega)⟩
  obtain ⟨A81,c82,A83,c84,rfl,rfl,m85,m86,m87,m88⟩:=H.nestRr 5 rfl hx71
  have th89:=H.thRr 5 rfl hx71
  refine V U U (AY (p:=AS A26+k*7) U Jb U U (by omega) (by omega) th89 U) (V U U (Bo (cs:=[.int .i64 a72,.int .i64 a73,.int .i64 a74,.int .i64 a75,.int .i64 a76,.slice A81 se78.length c82,.slice A83 pr80.length c84]) U KJ U U (H.elsRr 5 U hx71 U)) (Dr U U U Jq H (fun b90 w H=>(BH U U U KJ U U H U (Nat.le_of_ble_eq_true U) (fun u hu=>by simp [Value.cells] at hu;rcases hu with rfl|rfl|rfl|rfl|rfl|rfl|rfl<;>rfl) (fun w H=>?_)))))
  replace H:Hd _ _ _ [blk b90 [.int .i64 a72,.int .i64 a73,.int .i64 a74,.int .i64 a75,.int .i64 a76,.slice A81 se78.length c82,.slice A83 pr80.length c84] 37,blk b31 [.slice A1 C.J.us.length c2,.int .i64 C.J.parts,.slice A6 C.J.map.length c7,.slice A11 C.J.comb.length c12,.slice A16 C.J.red.length c17,.int .i64 C.J.chunk,.int .i64 C.J.window,.int .i64 C.J.fuel,.slice A21 C.J.marks.length c22,.int .i64 C.w,.int .i64 C.t,.int .i64 C.o] 28,blk b68 [.slice A43 J35.us.length c44,.int .i64 J35.parts,.slice A48 J35.map.length c49,.slice A53 J35.comb.length c54,.slice A58 J35.red.length c59,.int .i64 J35.chunk,.int .i64 J35.window,.int .i64 J35.fuel,.slice A63 J35.marks.length c64,.int .i64 C.w,.int .i64 C.t,.int .i64 C.o,.int .i64 ((1+cnt CO (recs.take k):Nat):Int),.slice none 0 0,.map (some b42),.slice none 0 0,.int .u32 0] 210,Bq BJ b42 [],Y (Am Ag) (.slice A43 J35.us.length c44) J35.us,Y Af (.slice A48 J35.map.length c49) J35.map,Y Af (.slice A53 J35.comb.length c54) J35.comb,Y Af (.slice A58 J35.red.length c59) J35.red,Y (Ai .i64) (.slice A63 J35.marks.length c64) J35.marks] [Aa (Am Ag) (.slice A1 C.J.us.length c2) C.J.us,Aa Af (.slice A6 C.J.map.length c7) C.J.map,Aa Af (.slice A11 C.J.comb.length c12) C.J.comb,Aa Af (.slice A16 C.J.red.length c17) C.J.red,Aa (Ai .i64) (.slice A21 C.J.marks.length c22) C.J.marks,Aa B4 (.slice A26 recs.length c27) recs]:=H
  refine Ac (Z (Ab (Ae (V U U (Aj U GM U) (V U U (Al U AA U (H.cellI 0 U U)) (V U U (A0 U U U) (Ac (Z ?_))))))))
  refine Ax U (fun h91=>?_) (fun h91=>?_)
  ·refine Ae (Ad U (V U U (AH U U) (V U U (Aj U JL U) (V U U (Al U AA U (H.cellI 2 U U)) (V U U (AU (z:=((1+cnt CO (recs.take k)+1:Nat):Int)) U U U (by rw [AB (by omega) (by omega)];omega)) (V U U (AH U U) (V U U (Aj U JL U) ?_)))))))
   replace H:=H.p2
   refine BH U U U AA U U H U (Nat.le_of_ble_eq_true U) (fun u hu=>by simp [Value.cells] at hu;subst hu;rfl) (fun w H=>?_)
   replace H:=H.h1 (A:=blk b68 [.slice A43 J35.us.length c44,.int .i64 J35.parts,.slice A48 J35.map.length c49,.slice A53 J35.comb.length c54,.slice A58 J35.red.length c59,.int .i64 J35.chunk,.int .i64 J35.window,.int .i64 J35.fuel,.slice A63 J35.marks.length c64,.int .i64 C.w,.int .i64 C.t,.int .i64 C.o,.int .i64 ((1+cnt CO (recs.take k)+1:Nat):Int),.slice none 0 0,.map (some b42),.slice none 0 0,.int .u32 0] 210)
   refine Ac (AT (Z (Ae (V U U (AU (z:=((k+1:Nat):Int)) U U U (by rw [AB (by omega) (by omega)];omega)) (Ad U (Ac ?_))))))
   replace H:=H.p8.p8.p8.p8.p8.p8.p6.p8.k8
   have hc9:cnt CO (recs.take (k+1))=cnt CO (recs.take k)+1:=by rw [NJ hx71,if_pos (show CO (⟨a72,a73,a74,a75,a76,.slice A81 se78.length c82,se78,.slice A83 pr80.length c84,pr80⟩:Bm)=true from decide_eq_true h91)]
   replace H:Hd w0 F0 w [blk b31 [.slice A1 C.J.us.length c2,.int .i64 C.J.parts,.slice A6 C.J.map.length c7,.slice A11 C.J.comb.length c12,.slice A16 C.J.red.length c17,.int .i64 C.J.chunk,.int .i64 C.J.window,.int .i64 C.J.fuel,.slice A21 C.J.marks.length c22,.int .i64 C.w,.int .i64 C.t,.int .i64 C.o] 28,blk b68 [.slice A43 J35.us.length c44,.int .i64 J35.parts,.slice A48 J35.map.length c49,.slice A53 J35.comb.length c54,.slice A58 J35.red.length c59,.int .i64 J35.chunk,.int .i64 J35.window,.int .i64 J35.fuel,.slice A63 J35.marks.length c64,.int .i64 C.w,.int .i64 C.t,.int .i64 C.o,.int .i64 ((1+cnt CO (recs.take (k+1)):Nat):Int),.slice none 0 0,.map (some b42),.slice none 0 0,.int .u32 0] 210,Bq BJ b42 [],Y (Am Ag) (.slice A43 J35.us.length c44) J35.us,Y Af (.slice A48 J35.map.length c49) J35.map,Y Af (.slice A53 J35.comb.length c54) J35.comb,Y Af (.slice A58 J35.red.length c59) J35.red,Y (Ai .i64) (.slice A63 J35.marks.length c64) J35.marks] [Aa (Am Ag) (.slice A1 C.J.us.length c2) C.J.us,Aa Af (.slice A6 C.J.map.length c7) C.J.map,Aa Af (.slice A11 C.J.comb.length c12) C.J.comb,Aa Af (.slice A16 C.J.red.length c17) C.J.red,Aa (Ai .i64) (.slice A21 C.J.marks.length c22) C.J.marks,Aa B4 (.slice A26 recs.length c27) recs]:=by rw [hc9];exact H
   exact Bf (s:=k) (k+1) ⟨rfl,rfl,rfl,rfl,rfl,rfl,rfl,rfl,rfl,trivial⟩ ⟨H,by (try dsimp only);omega⟩ (by (try dsimp only);omega)
  refine Av (AT (Z (Ae (V U U (AU (z:=((k+1:Nat):Int)) U U U (by rw [AB (by omega) (by omega)];omega)) (Ad U (Ac ?_))))))
  replace H:=H.p8.p8.p8.p8.p8.p8.p8.p8.k8
  have hc9:cnt CO (recs.take (k+1))=cnt CO (recs.take k)+0:=by rw [NJ hx71,if_neg (by rw [show CO (⟨a72,a73,a74,a75,a76,.slice A81 se78.length c82,se78,.slice A83 pr80.length c84,pr80⟩:Bm)=false from decide_eq_false h91];decide)]
  replace H:Hd w0 F0 w [blk b31 [.slice A1 C.J.us.length c2,.int .i64 C.J.parts,.slice A6 C.J.map.length c7,.slice A11 C.J.comb.length c12,.slice A16 C.J.red.length c17,.int .i64 C.J.chunk,.int .i64 C.J.window,.int .i64 C.J.fuel,.slice A21 C.J.marks.length c22,.int .i64 C.w,.int .i64 C.t,.int .i64 C.o] 28,blk b68 [.slice A43 J35.us.length c44,.int .i64 J35.parts,.slice A48 J35.map.length c49,.slice A53 J35.comb.length c54,.slice A58 J35.red.length c59,.int .i64 J35.chunk,.int .i64 J35.window,.int .i64 J35.fuel,.slice A63 J35.marks.length c64,.int .i64 C.w,.int .i64 C.t,.int .i64 C.o,.int .i64 ((1+cnt CO (recs.take (k+1)):Nat):Int),.slice none 0 0,.map (some b42),.slice none 0 0,.int .u32 0] 210,Bq BJ b42 [],Y (Am Ag) (.slice A43 J35.us.length c44) J35.us,Y Af (.slice A48 J35.map.length c49) J35.map,Y Af (.slice A53 J35.comb.length c54) J35.comb,Y Af (.slice A58 J35.red.length c59) J35.red,Y (Ai .i64) (.slice A63 J35.marks.length c64) J35.marks] [Aa (Am Ag) (.slice A1 C.J.us.length c2) C.J.us,Aa Af (.slice A6 C.J.map.length c7) C.J.map,Aa Af (.slice A11 C.J.comb.length c12) C.J.comb,Aa Af (.slice A16 C.J.red.length c17) C.J.red,Aa (Ai .i64) (.slice A21 C.J.marks.length c22) C.J.marks,Aa B4 (.slice A26 recs.length c27) recs]:=by rw [hc9];exact H
  exact Bf (s:=k) (k+1) ⟨rfl,rfl,rfl,rfl,rfl,rfl,rfl,rfl,rfl,trivial⟩ ⟨H,by (try dsimp only);omega⟩ (by (try dsimp only);omega)
 refine BD (AM (AM (BE (Z (Ab (Ab (Ae (V U U (Aj U CV U) (V U U (Aj U GL U) (V U U (Al U AA U (H.cellI 0 U U)) (Ad U (Ac (Z (AQ ?_))))))))))))))
 replace H:Hd w0 F0 w [blk b31 [.slice A1 C.J.us.length c2,.int .i64 C.J.parts,.slice A6 C.J.map.length c7,.slice A11 C.J.comb.length c12,.slice A16 C.J.red.length c17,.int .i64 C.J.chunk,.int .i64 C.J.window,.int .i64 C.J.fuel,.slice A21 C.J.marks.length c22,.int .i64 C.w,.int .i64 C.t,.int .i64 C.o] 28,blk b68 [.slice A43 J35.us.length c44,.int .i64 J35.parts,.slice A48 J35.map.length c49,.slice A53 J35.comb.length c54,.slice A58 J35.red.length c59,.int .i64 J35.chunk,.int .i64 J35.window,.int .i64 J35.fuel,.slice A63 J35.marks.length c64,.int .i64 C.w,.int .i64 C.t,.int .i64 C.o,.int .i64 ((1+cnt CO recs:Nat):Int),.slice none 0 0,.map (some b42),.slice none 0 0,.int .u32 0] 210,Bq BJ b42 [],Y (Am Ag) (.slice A43 J35.us.length c44) J35.us,Y Af (.slice A48 J35.map.length c49) J35.map,Y Af (.slice A53 J35.comb.length c54) J35.comb,Y Af (.slice A58 J35.red.length c59) J35.red,Y (Ai .i64) (.slice A63 J35.marks.length c64) J35.marks] [Aa (Am Ag) (.slice A1 C.J.us.length c2) C.J.us,Aa Af (.slice A6 C.J.map.length c7) C.J.map,Aa Af (.slice A11 C.J.comb.length c12) C.J.comb,Aa Af (.slice A16 C.J.red.length c17) C.J.red,Aa (Ai .i64) (.slice A21 C.J.marks.length c22) C.J.marks,Aa B4 (.slice A26 recs.length c27) recs]:=by rw [List.take_of_length_le (l:=recs) (by omega)] at H;exact H
 have hcl9:=NI CO recs
 replace H:=H.newnil (Ai .i64)
 replace H:=Hd.big0 (fun e:Nat×AK=>FQ e.1 C e.2) H
 replace H:=H.h5 (A:=BU C ([]:List (Nat×AK))) (B:=Y (Ai .i64) (.slice none 0 0) (([]:List (Nat×AK)).map AD)) (E:=Bq BJ b42 (([]:List (Nat×AK)).map BN))|>.p9|>.p9|>.p9|>.p9|>.p9|>.p9|>.p9|>.p9
 refine BL (σ:=Nat×Value×List (Nat×AK)) (fun (p,q,rl)=>[(1,.int .i64 id),(2,.slice A26 recs.length c27),(3,.pointer (some ⟨b31,0,none⟩)),(6,.pointer none),(7,.int .i64 0),(8,.pointer (some ⟨b68,0,none⟩)),(49,.int .i64 C.J.parts),(50,.int .i64 ((p:Nat):Int))]) (fun (p,q,rl) w=>(Hd w0 F0 w [blk b31 [.slice A1 C.J.us.length c2,.int .i64 C.J.parts,.slice A6 C.J.map.length c7,.slice A11 C.J.comb.length c12,.slice A16 C.J.red.length c17,.int .i64 C.J.chunk,.int .i64 C.J.window,.int .i64 C.J.fuel,.slice A21 C.J.marks.length c22,.int .i64 C.w,.int .i64 C.t,.int .i64 C.o] 28,blk b68 [.slice A43 J35.us.length c44,.int .i64 J35.parts,.slice A48 J35.map.length c49,.slice A53 J35.comb.length c54,.slice A58 J35.red.length c59,.int .i64 J35.chunk,.int .i64 J35.window,.int .i64 J35.fuel,.slice A63 J35.marks.length c64,.int .i64 C.w,.int .i64 C.t,.int .i64 C.o,.int .i64 ((1+cnt CO recs:Nat):Int),q,.map (some b42),.slice none 0 0,.int .u32 0] 210,Bq BJ b42 (rl.map BN),Y (Am Ag) (.slice A43 J35.us.length c44) J35.us,Y Af (.slice A48 J35.map.length c49) J35.map,Y Af (.slice A53 J35.comb.length c54) J35.comb,Y Af (.slice A58 J35.red.length c59) J35.red,Y (Ai .i64) (.slice A63 J35.marks.length c64) J35.marks,BU C rl,Y (Ai .i64) q (rl.map AD)] [Aa (Am Ag) (.slice A1 C.J.us.length c2) C.J.us,Aa Af (.slice A6 C.J.map.length c7) C.J.map,Aa Af (.slice A11 C.J.comb.length c12) C.J.comb,Aa Af (.slice A16 C.J.red.length c17) C.J.red,Aa (Ai .i64) (.slice A21 C.J.marks.length c22) C.J.marks,Aa B4 (.slice A26 recs.length c27) recs])∧((p:Int)≤C.J.parts)∧(rl.map Prod.snd=Ef C id recs p)) (fun (p,q,rl)=>C.J.parts.toNat - p) (0,.slice none 0 0,[]) ⟨rfl,rfl,rfl,rfl,rfl,rfl,rfl,rfl,trivial⟩ ⟨H,by (try dsimp only);omega,rfl⟩ ?_
 rintro ⟨p,q,rl⟩ w ⟨H,hp,hrl2⟩
 have hpt4:=hJ.parts
 have hrn:rl.length≤p:=by rw [←List.length_map (f:=Prod.snd),hrl2];exact Yb _ _ _ _
 have hrk:(rl.map AD).length=rl.length:=List.length_map ..
 refine Ab (Ae (V U U (Bb U U U) (Ac (Z (Ab ?_)))))
 refine Ax U (fun h92=>?_) (fun h92=>?_)
 ·refine Av (Z (Ab (AQ (Ab (Ae (Ah 2 U (Ac (Z (Ab ?_)))))))))
  have hp64:AE ((p:Nat):Int):=by unfold AE;omega
  refine Ae (V U U (Bo (cs:=[.slice A1 C.J.us.length c2,.int .i64 C.J.parts,.slice A6 C.J.map.length c7,.slice A11 C.J.comb.length c12,.slice A16 C.J.red.length c17,.int .i64 C.J.chunk,.int .i64 C.J.window,.int .i64 C.J.fuel,.slice A21 C.J.marks.length c22,.int .i64 C.w,.int .i64 C.t,.int .i64 C.o]) U DC U U (H.cellsI 0 U U)) (Ad U (sc (IH (.slice A1 C.J.us.length c2) (.slice A6 C.J.map.length c7) (.slice A11 C.J.comb.length c12) (.slice A16 C.J.red.length c17) (.slice A21 C.J.marks.length c22) C ((p:Nat):Int) (by first |assumption|omega|exact hO2|exact ⟨hhm,by omega⟩|(unfold AE;omega))) H (lR 0 U (lR 1 U (lR 2 U (lR 3 U (lR 4 U l0))))) U U (Au IM U U) ?_)))
  rintro _ _ w ⟨rfl,rfl⟩ H
  replace H:=H.h10 (B:=blk b68 [.slice A43 J35.us.length c44,.int .i64 J35.parts,.slice A48 J35.map.length c49,.slice A53 J35.comb.length c54,.slice A58 J35.red.length c59,.int .i64 J35.chunk,.int .i64 J35.window,.int .i64 J35.fuel,.slice A63 J35.marks.length c64,.int .i64 C.w,.int .i64 C.t,.int .i64 C.o,.int .i64 ((1+cnt CO recs:Nat):Int),q,.map (some b42),.slice none 0 0,.int .u32 0] 210) (C:=Bq BJ b42 (rl.map BN)) (J:=BU C rl) (K:=Y (Ai .i64) q (rl.map AD))
  refine Ad U (V U U (A0 U U U) (Ac (Z ?_)))
  refine Ax U (fun h93=>?_) (fun h93=>?_)
  ·refine Ab (Ae (Ah 2 U (V U U (AH U U) (V U U (Aj U JM U) (V U U (Al U EY U (H.cellI 1 U U)) (Ad U (BX (parts:=[(0,.tmp 63)]) (vs:=[.int .i64 ((p:Nat):Int)]) (cs:=[.int .i64 ((p:Nat):Int)]) U U U DI FV U (by decide) (by decide) U U H (fun b94 w H=>?_))))))))
   replace H:=H.pick 10 rfl
   refine Cy (xs:=rl.map AD) (ys:=[((p:Nat):Int)]) U U U DI FV U (by decide) U U H (by first |omega|(simp only [List.length_append,List.length_cons,List.length_nil,List.length_map];omega)) (fun F hA hR=>Cm (hA _ (List.mem_of_getElem? (i:=0) U)) U (by decide) (AV.flat_eq.2 U)) (fun v95 w H=>(V U U (AH U U) (V U U (Aj U JM U) ?_)))
   obtain ⟨A96,c97,rfl,hc98,hm99,hp100⟩:=H.fA 0 rfl
   replace H:=H.p3
   refine BH U U U EY U U H U (Nat.le_of_ble_eq_true U) (fun u hu=>by simp [Value.cells] at hu;subst hu;rfl) (fun w H=>?_)
   replace H:Hd _ _ _ [blk b68 [.slice A43 J35.us.length c44,.int .i64 J35.parts,.slice A48 J35.map.length c49,.slice A53 J35.comb.length c54,.slice A58 J35.red.length c59,.int .i64 J35.chunk,.int .i64 J35.window,.int .i64 J35.fuel,.slice A63 J35.marks.length c64,.int .i64 C.w,.int .i64 C.t,.int .i64 C.o,.int .i64 ((1+cnt CO recs:Nat):Int),.slice A96 (((rl.map AD)++[((p:Nat):Int)]).length) c97,.map (some b42),.slice none 0 0,.int .u32 0] 210,Y (Ai .i64) (.slice A96 (((rl.map AD)++[((p:Nat):Int)]).length) c97) ((rl.map AD)++[((p:Nat):Int)]),blk b94 [.int .i64 ((p:Nat):Int)] 3,blk b31 [.slice A1 C.J.us.length c2,.int .i64 C.J.parts,.slice A6 C.J.map.length c7,.slice A11 C.J.comb.length c12,.slice A16 C.J.red.length c17,.int .i64 C.J.chunk,.int .i64 C.J.window,.int .i64 C.J.fuel,.slice A21 C.J.marks.length c22,.int .i64 C.w,.int .i64 C.t,.int .i64 C.o] 28,Bq BJ b42 (rl.map BN),Y (Am Ag) (.slice A43 J35.us.length c44) J35.us,Y Af (.slice A48 J35.map.length c49) J35.map,Y Af (.slice A53 J35.comb.length c54) J35.comb,Y Af (.slice A58 J35.red.length c59) J35.red,Y (Ai .i64) (.slice A63 J35.marks.length c64) J35.marks,BU C rl] [Aa (Am Ag) (.slice A1 C.J.us.length c2) C.J.us,Aa Af (.slice A6 C.J.map.length c7) C.J.map,Aa Af (.slice A11 C.J.comb.length c12) C.J.comb,Aa Af (.slice A16 C.J.red.length c17) C.J.red,Aa (Ai .i64) (.slice A21 C.J.marks.length c22) C.J.marks,Aa B4 (.slice A26 recs.length c27) recs]:=H
   refine Ac (Z ?_)
   have hhm:CY (Cp J35 C) ((p:Nat):Int)≠0:=by rw [(I8 hsj).home,h93];omega
   have he64:AE ((1+cnt CO recs:Nat):Int):=by unfold AE;omega
   replace H:=H.pick 10 rfl|>.pick 10 rfl|>.pick 10 rfl|>.pick 10 rfl|>.pick 10 rfl|>.pick 10 rfl|>.p9|>.p9|>.p9|>.p9
   refine B3 (.e 0 (.e 1 (.e 2 (.e 3 (.e 4 (.e 5 (.e 6 (.e 7 (.e 8 (.e 9 (.e 10 (.e 11 (.e 12 (.e 13 (.e 14 (.m 15 (.e 16 (.e 17 (.e 18 (.m 19 .z)))))))))))))))))))) (fun w=>∃ Ar,Hd w0 F0 w (blk b68 [.slice A43 J35.us.length c44,.int .i64 J35.parts,.slice A48 J35.map.length c49,.slice A53 J35.comb.length c54,.slice A58 J35.red.length c59,.int .i64 J35.chunk,.int .i64 J35.window,.int .i64 J35.fuel,.slice A63 J35.marks.length c64,.int .i64 C.w,.int .i64 C.t,.int .i64 C.o,.int .i64 ((1+cnt CO recs:Nat):Int),.slice A96 (((rl.map AD)++[((p:Nat):Int)]).length) c97,.map (some b42),.slice none 0 0,.int .u32 0] 210::Y (Ai .i64) (.slice A96 (((rl.map AD)++[((p:Nat):Int)]).length) c97) ((rl.map AD)++[((p:Nat):Int)])::blk b94 [.int .i64 ((p:Nat):Int)] 3::blk b31 [.slice A1 C.J.us.length c2,.int .i64 C.J.parts,.slice A6 C.J.map.length c7,.slice A11 C.J.comb.length c12,.slice A16 C.J.red.length c17,.int .i64 C.J.chunk,.int .i64 C.J.window,.int .i64 C.J.fuel,.slice A21 C.J.marks.length c22,.int .i64 C.w,.int .i64 C.t,.int .i64 C.o] 28::Y (Am Ag) (.slice A43 J35.us.length c44) J35.us::Y Af (.slice A48 J35.map.length c49) J35.map::Y Af (.slice A53 J35.comb.length c54) J35.comb::Y Af (.slice A58 J35.red.length c59) J35.red::Y (Ai .i64) (.slice A63 J35.marks.length c64) J35.marks::BU C rl::Ar) [Aa (Am Ag) (.slice A1 C.J.us.length c2) C.J.us,Aa Af (.slice A6 C.J.map.length c7) C.J.map,Aa Af (.slice A11 C.J.comb.length c12) C.J.comb,Aa Af (.slice A16 C.J.red.length c17) C.J.red,Aa (Ai .i64) (.slice A21 C.J.marks.length c22) C.J.marks,Aa B4 (.slice A26 recs.length c27) recs]) mo (by kernel_rfl) (fun w H=>⟨_,H⟩) H (fun w H=>?_)
   refine At U (Ao U U U (fun w ⟨Ar,H⟩=>AH U U) (Ao U U U (fun w ⟨Ar,H⟩=>Aj U JN U) (Ao U U U (fun w ⟨Ar,H⟩=>Al U KH U (H.cellI 0 U U)) (At U (At U (Ao U U U (fun w ⟨Ar,H⟩=>AH U U) (Ao U U U (fun w ⟨Ar,H⟩=>Aj U IB U) (Ao U U U (fun w ⟨Ar,H⟩=>Bo (cs:=[.slice A43 J35.us.length c44,.int .i64 J35.parts,.slice A48 J35.map.length c49,.slice A53 J35.comb.length c54,.slice A58 J35.red.length c59,.int .i64 J35.chunk,.int .i64 J35.window,.int .i64 J35.fuel,.slice A63 J35.marks.length c64,.int .i64 C.w,.int .i64 C.t,.int .i64 C.o]) U DC U U (H.cellsI 0 U U)) (At U (At U (Ao U U U (fun w ⟨Ar,H⟩=>AH U U) (Ao U U U (fun w ⟨Ar,H⟩=>Aj U JL U) (Ao U U U (fun w ⟨Ar,H⟩=>Al U AA U (H.cellI 0 U U)) ?_)))))))))))))
   refine At U (AR U (sc (X9 (.slice A43 J35.us.length c44) (.slice A48 J35.map.length c49) (.slice A53 J35.comb.length c54) (.slice A58 J35.red.length c59) (.slice A63 J35.marks.length c64) (Cp J35 C) ((p:Nat):Int) ((1+cnt CO recs:Nat):Int) (.slice A26 recs.length c27) recs (by first |assumption|omega|exact hO2|exact ⟨hhm,by omega⟩|(unfold AE;omega)) (by first |assumption|omega|exact hO2|exact ⟨hhm,by omega⟩|(unfold AE;omega)) (by first |assumption|omega|exact hO2|exact ⟨hhm,by omega⟩|(unfold AE;omega)) (by first |assumption|omega|exact hO2|exact ⟨hhm,by omega⟩|(unfold AE;omega)) (by first |assumption|omega|exact hO2|exact ⟨hhm,by omega⟩|(unfold AE;omega)) (by first |assumption|omega|exact hO2|exact ⟨hhm,by omega⟩|(unfold AE;omega))) H (lA 4 U BI (lA 5 U BI (lA 6 U BI (lA 7 U BI (lA 8 U BI (lR 5 U l0)))))) U U (Au Vh U U) ?_))
   rintro _ _ w ⟨r101,vS102,vM103,vC104,vR105,vK106,J107,hv108,sb109,vs110,us111,rfl,rfl,hf112,hf113⟩ H
   replace H:=H.h9 (A:=blk r101 (Br vS102 vM103 vC104 vR105 vK106 J107 ((Cp J35 C).w) ((Cp J35 C).t) ((Cp J35 C).o) ((p:Nat):Int) ((1+cnt CO recs:Nat):Int) ((CQ J107.us.length ((p:Nat):Int) ((1+cnt CO recs:Nat):Int) (recs.map Bm.p)).g) hv108 sb109 vs110) 185) (B:=Y (Am Ag) vS102 J107.us) (C:=Y Af vM103 J107.map) (D:=Y Af vC104 J107.comb) (E:=Y Af vR105 J107.red) (F:=Y (Ai .i64) vK106 J107.marks) (G:=BK ((CQ J107.us.length ((p:Nat):Int) ((1+cnt CO recs:Nat):Int) (recs.map Bm.p)).g) hv108) (I:=Y (Am (Ai .i64)) vs110 us111) (J:=CD 253 sb109 ([]))
   obtain ⟨R114,hR115⟩:∃ z:AK,z=CQ J107.us.length ((p:Nat):Int) ((1+cnt CO recs:Nat):Int) (recs.map Bm.p):=⟨_,rfl⟩
   rw [←hR115] at H hf113
   have hRp116:R114.part=((p:Nat):Int):=by rw [hR115];exact (IT _ _ _ _).1
   have hRe117:R114.ep=((1+cnt CO recs:Nat):Int):=by rw [hR115];exact (IT _ _ _ _).2.1
   have hRs118:R114.st=[]:=by rw [hR115];exact (IT _ _ _ _).2.2
   rw [show Br vS102 vM103 vC104 vR105 vK106 J107 ((Cp J35 C).w) ((Cp J35 C).t) ((Cp J35 C).o) ((p:Nat):Int) ((1+cnt CO recs:Nat):Int) R114.g hv108 sb109 vs110=Br vS102 vM103 vC104 vR105 vK106 J107 ((Cp J35 C).w) ((Cp J35 C).t) ((Cp J35 C).o) R114.part R114.ep R114.g hv108 sb109 vs110 from by rw [hRp116,hRe117],show CD 253 sb109 ([])=CD 253 sb109 (R114.st) from by rw [hRs118]] at H
   replace H:Hd _ _ _ [blk r101 (Br vS102 vM103 vC104 vR105 vK106 J107 ((Cp J35 C).w) ((Cp J35 C).t) ((Cp J35 C).o) R114.part R114.ep R114.g hv108 sb109 vs110) 185,Y (Am Ag) vS102 J107.us,Y Af vM103 J107.map,Y Af vC104 J107.comb,Y Af vR105 J107.red,Y (Ai .i64) vK106 J107.marks,BK (R114.g) hv108,Y (Am (Ai .i64)) vs110 us111,CD 253 sb109 (R114.st),blk b68 [.slice A43 J35.us.length c44,.int .i64 J35.parts,.slice A48 J35.map.length c49,.slice A53 J35.comb.length c54,.slice A58 J35.red.length c59,.int .i64 J35.chunk,.int .i64 J35.window,.int .i64 J35.fuel,.slice A63 J35.marks.length c64,.int .i64 C.w,.int .i64 C.t,.int .i64 C.o,.int .i64 ((1+cnt CO recs:Nat):Int),.slice A96 (((rl.map AD)++[((p:Nat):Int)]).length) c97,.map (some b42),.slice none 0 0,.int .u32 0] 210,Y (Ai .i64) (.slice A96 (((rl.map AD)++[((p:Nat):Int)]).length) c97) ((rl.map AD)++[((p:Nat):Int)]),blk b94 [.int .i64 ((p:Nat):Int)] 3,blk b31 [.slice A1 C.J.us.length c2,.int .i64 C.J.parts,.slice A6 C.J.map.length c7,.slice A11 C.J.comb.length c12,.slice A16 C.J.red.length c17,.int .i64 C.J.chunk,.int .i64 C.J.window,.int .i64 C.J.fuel,.slice A21 C.J.marks.length c22,.int .i64 C.w,.int .i64 C.t,.int .i64 C.o] 28,Y (Am Ag) (.slice A43 J35.us.length c44) J35.us,Y Af (.slice A48 J35.map.length c49) J35.map,Y Af (.slice A53 J35.comb.length c54) J35.comb,Y Af (.slice A58 J35.red.length c59) J35.red,Y (Ai .i64) (.slice A63 J35.marks.length c64) J35.marks,BU C rl,Bq BJ b42 (rl.map BN)] [Aa (Am Ag) (.slice A1 C.J.us.length c2) C.J.us,Aa Af (.slice A6 C.J.map.length c7) C.J.map,Aa Af (.slice A11 C.J.comb.length c12) C.J.comb,Aa Af (.slice A16 C.J.red.length c17) C.J.red,Aa (Ai .i64) (.slice A21 C.J.marks.length c22) C.J.marks,Aa B4 (.slice A26 recs.length c27) recs]:=H
   replace H:=QD r101 vS102 vM103 vC104 vR105 vK106 J107 ((Cp J35 C).w) ((Cp J35 C).t) ((Cp J35 C).o) sb109 R114 hv108 vs110 us111 hf113 H
   replace H:=H.h1 (A:=Ee r101 vS102 vM103 vC104 vR105 vK106 J107 ((Cp J35 C).w) ((Cp J35 C).t) ((Cp J35 C).o) sb109 R114)
   have hsj_R114:=hf112
   replace H:=H.pick 10 rfl|>.pick 10 rfl|>.pick 10 rfl|>.pick 10 rfl|>.pick 10 rfl|>.pick 10 rfl|>.pick 10 rfl|>.pick 10 rfl|>.pick 10 rfl|>.pick 10 rfl
   refine AI ⟨_,H⟩ (At U (At U (At U (AR U ?_))))
   replace H:=H.pick 11 rfl
   refine YI KO U U U KL U ((p:Nat):Int) U U H (fun w H=>?_)
   replace H:=H.h1 (A:=Bq BJ b42 (Gu ((p:Nat):Int) (.pointer (some ⟨r101,0,none⟩)) (rl.map BN)))
   rw [Vs hRp116 (Yc hrl2)] at H
   replace H:Hd _ _ _ [Bq BJ b42 ((rl++[(r101,R114)]).map BN),blk b68 [.slice A43 J35.us.length c44,.int .i64 J35.parts,.slice A48 J35.map.length c49,.slice A53 J35.comb.length c54,.slice A58 J35.red.length c59,.int .i64 J35.chunk,.int .i64 J35.window,.int .i64 J35.fuel,.slice A63 J35.marks.length c64,.int .i64 C.w,.int .i64 C.t,.int .i64 C.o,.int .i64 ((1+cnt CO recs:Nat):Int),.slice A96 (((rl.map AD)++[((p:Nat):Int)]).length) c97,.map (some b42),.slice none 0 0,.int .u32 0] 210,Y (Ai .i64) (.slice A96 (((rl.map AD)++[((p:Nat):Int)]).length) c97) ((rl.map AD)++[((p:Nat):Int)]),blk b94 [.int .i64 ((p:Nat):Int)] 3,blk b31 [.slice A1 C.J.us.length c2,.int .i64 C.J.parts,.slice A6 C.J.map.length c7,.slice A11 C.J.comb.length c12,.slice A16 C.J.red.length c17,.int .i64 C.J.chunk,.int .i64 C.J.window,.int .i64 C.J.fuel,.slice A21 C.J.marks.length c22,.int .i64 C.w,.int .i64 C.t,.int .i64 C.o] 28,Y (Am Ag) (.slice A43 J35.us.length c44) J35.us,Y Af (.slice A48 J35.map.length c49) J35.map,Y Af (.slice A53 J35.comb.length c54) J35.comb,Y Af (.slice A58 J35.red.length c59) J35.red,Y (Ai .i64) (.slice A63 J35.marks.length c64) J35.marks,BU C rl,Ee r101 vS102 vM103 vC104 vR105 vK106 J107 ((Cp J35 C).w) ((Cp J35 C).t) ((Cp J35 C).o) sb109 R114] [Aa (Am Ag) (.slice A1 C.J.us.length c2) C.J.us,Aa Af (.slice A6 C.J.map.length c7) C.J.map,Aa Af (.slice A11 C.J.comb.length c12) C.J.comb,Aa Af (.slice A16 C.J.red.length c17) C.J.red,Aa (Ai .i64) (.slice A21 C.J.marks.length c22) C.J.marks,Aa B4 (.slice A26 recs.length c27) recs]:=H
   replace H:=H.pick 10 rfl|>.pick 10 rfl|>.pick 10 rfl|>.pick 10 rfl|>.pick 10 rfl|>.pick 10 rfl|>.pick 10 rfl|>.pick 10 rfl|>.pick 10 rfl|>.pick 10 rfl
   refine AI ⟨_,H⟩ (BM (AT (Z (Ae (V U U (AU (z:=((p+1:Nat):Int)) U U U (by rw [AB (by omega) (by omega)];omega)) (Ad U (Ac ?_)))))))
   replace H:=H.p8.p8.p8.p8.p8.pick 10 rfl|>.p6|>.p9|>.pick 10 rfl|>.pick 11 rfl|>.keep 11
   have h3t:Bd J107 C.J:=hf112.trans hsj
   replace H:=QC r101 C R114 vS102 vM103 vC104 vR105 vK106 J107 sb109 h3t H
   replace H:=Hd.bigN (f:=(fun e:Nat×AK=>FQ e.1 C e.2)) (x:=(r101,R114)) H
   replace H:=H.h1 (A:=BU C (rl++[(r101,R114)]))
   replace H:Hd w0 F0 w [BU C (rl++[(r101,R114)]),blk b31 [.slice A1 C.J.us.length c2,.int .i64 C.J.parts,.slice A6 C.J.map.length c7,.slice A11 C.J.comb.length c12,.slice A16 C.J.red.length c17,.int .i64 C.J.chunk,.int .i64 C.J.window,.int .i64 C.J.fuel,.slice A21 C.J.marks.length c22,.int .i64 C.w,.int .i64 C.t,.int .i64 C.o] 28,blk b68 [.slice A43 J35.us.length c44,.int .i64 J35.parts,.slice A48 J35.map.length c49,.slice A53 J35.comb.length c54,.slice A58 J35.red.length c59,.int .i64 J35.chunk,.int .i64 J35.window,.int .i64 J35.fuel,.slice A63 J35.marks.length c64,.int .i64 C.w,.int .i64 C.t,.int .i64 C.o,.int .i64 ((1+cnt CO recs:Nat):Int),.slice A96 (((rl.map AD)++[((p:Nat):Int)]).length) c97,.map (some b42),.slice none 0 0,.int .u32 0] 210,Bq BJ b42 ((rl++[(r101,R114)]).map BN),Y (Am Ag) (.slice A43 J35.us.length c44) J35.us,Y Af (.slice A48 J35.map.length c49) J35.map,Y Af (.slice A53 J35.comb.length c54) J35.comb,Y Af (.slice A58 J35.red.length c59) J35.red,Y (Ai .i64) (.slice A63 J35.marks.length c64) J35.marks,Y (Ai .i64) (.slice A96 (((rl.map AD)++[((p:Nat):Int)]).length) c97) ((rl++[(r101,R114)]).map AD)] [Aa (Am Ag) (.slice A1 C.J.us.length c2) C.J.us,Aa Af (.slice A6 C.J.map.length c7) C.J.map,Aa Af (.slice A11 C.J.comb.length c12) C.J.comb,Aa Af (.slice A16 C.J.red.length c17) C.J.red,Aa (Ai .i64) (.slice A21 C.J.marks.length c22) C.J.marks,Aa B4 (.slice A26 recs.length c27) recs]:=by rw [List.map_append (f:=AD),show [(r101,R114)].map AD=[((p:Nat):Int)] from by show [R114.part]=_;rw [hRp116]];exact H
   have hrl3:(rl++[(r101,R114)]).map Prod.snd=Ef C id recs (p+1):=by rw [List.map_append,hrl2,Ye h93];show _++[R114]=_;rw [hR115,h3t.len];rfl
   replace H:=H.p8.p8.p8.p8.p8.p8.p8.p8
   exact Bf (s:=(p,undef,rl)) (p+1,.slice A96 (((rl.map AD)++[((p:Nat):Int)]).length) c97,rl++[(r101,R114)]) ⟨rfl,rfl,rfl,rfl,rfl,rfl,rfl,rfl,trivial⟩ ⟨H,by (try dsimp only);omega,hrl3⟩ (by (try dsimp only);omega)
  exact Av (AT (Z (Ae (V U U (AU (z:=((p+1:Nat):Int)) U U U (by rw [AB (by omega) (by omega)];omega)) (Ad U (Ac (Bf (s:=(p,undef,rl)) (p+1,q,rl) ⟨rfl,rfl,rfl,rfl,rfl,rfl,rfl,rfl,trivial⟩ ⟨H,by (try dsimp only);omega,by (try dsimp only);rw [Yd h93];exact hrl2⟩ (by (try dsimp only);omega))))))))
 refine BD (AM (AM (BE (Z (Ab (Ae (Ah 3 U (Ac (Z (An (Ch U U U ?_)))))))))))
 replace H:=H.newnil B7
 replace H:=Hd.big0 (fun e:Nat×BO=>Cg e.1 C.J e.2) H
 replace H:Hd _ _ _ [B_ C.J ([]:List (Nat×BO)),Y B7 (.slice none 0 0) (([]:List (Nat×BO)).map AG),blk b31 [.slice A1 C.J.us.length c2,.int .i64 C.J.parts,.slice A6 C.J.map.length c7,.slice A11 C.J.comb.length c12,.slice A16 C.J.red.length c17,.int .i64 C.J.chunk,.int .i64 C.J.window,.int .i64 C.J.fuel,.slice A21 C.J.marks.length c22,.int .i64 C.w,.int .i64 C.t,.int .i64 C.o] 28,blk b68 [.slice A43 J35.us.length c44,.int .i64 J35.parts,.slice A48 J35.map.length c49,.slice A53 J35.comb.length c54,.slice A58 J35.red.length c59,.int .i64 J35.chunk,.int .i64 J35.window,.int .i64 J35.fuel,.slice A63 J35.marks.length c64,.int .i64 C.w,.int .i64 C.t,.int .i64 C.o,.int .i64 ((1+cnt CO recs:Nat):Int),q,.map (some b42),.slice none 0 0,.int .u32 0] 210,Bq BJ b42 (rl.map BN),Y (Am Ag) (.slice A43 J35.us.length c44) J35.us,Y Af (.slice A48 J35.map.length c49) J35.map,Y Af (.slice A53 J35.comb.length c54) J35.comb,Y Af (.slice A58 J35.red.length c59) J35.red,Y (Ai .i64) (.slice A63 J35.marks.length c64) J35.marks,BU C rl,Y (Ai .i64) q (rl.map AD)] [Aa (Am Ag) (.slice A1 C.J.us.length c2) C.J.us,Aa Af (.slice A6 C.J.map.length c7) C.J.map,Aa Af (.slice A11 C.J.comb.length c12) C.J.comb,Aa Af (.slice A16 C.J.red.length c17) C.J.red,Aa (Ai .i64) (.slice A21 C.J.marks.length c22) C.J.marks,Aa B4 (.slice A26 recs.length c27) recs]:=H
 replace H:=H.p1.pick 10 rfl|>.p5|>.pick 11 rfl|>.pick 11 rfl|>.pick 11 rfl|>.pick 11 rfl|>.pick 11 rfl|>.pick 11 rfl|>.pick 11 rfl|>.keep 11
 replace H:=Em b68 C (EL C id recs) (.slice A43 J35.us.length c44) (.slice A48 J35.map.length c49) (.slice A53 J35.comb.length c54) (.slice A58 J35.red.length c59) (.slice A63 J35.marks.length c64) J35 q b42 (.slice none 0 0) rl [] ⟨hsj,(by show _=Ef C id recs C.J.parts.toNat;rw [show C.J.parts.toNat=p by omega];exact hrl2),rfl⟩ H
 replace H:=H.h1 (A:=BT b68 C (EL C id recs))
 exact Ak ⟨b68,rfl,rfl⟩ H
theorem YV  :
    Cn Tryz.prog 139 [] [] [] (fun v Bs=>∃ vS:Value,∃ vP:Value,∃ u:Value,v=.agg #[vS,.int .i64 1,vP,.slice none 0 0,vP,.int .i64 1,.int .i64 1,.int .i64 9,.slice none 0 0,.int .i64 1,.int .i64 2,.int .i64 1]∧Bs=[Y (Am Ag) vS [(u,Dz)],Y Af vP DL]):=by
 intro w0 F0 H
 refine enter Tryz.func139 U U (Nat.le_of_ble_eq_true U) (Ab (Ae (Dr U U U Rw H (fun b1 w H=>(Ac (Z ?_))))))
 replace H:Hd _ _ _ [blk b1 [.slice none 0 0,.int .i64 0,.slice none 0 0,.slice none 0 0,.slice none 0 0,.int .i64 0,.int .i64 0,.int .i64 0,.slice none 0 0,.int .i64 0,.int .i64 0,.int .i64 0] 28] []:=H
 refine Ab (Ae (V U U (CR (parts:=[(0,.const (.int .i64 6))]) (vs:=[.int .i64 6]) (cs:=[.int .i64 6,.int .i64 0,.string ⟨#[]⟩]) U Jt U U) (V U U (CR (parts:=[(0,.const (.int .i64 7))]) (vs:=[.int .i64 7]) (cs:=[.int .i64 7,.int .i64 0,.string ⟨#[]⟩]) U Jt U U) (V U U (CR (parts:=[(0,.const (.int .i64 4))]) (vs:=[.int .i64 4]) (cs:=[.int .i64 4,.int .i64 0,.string ⟨#[]⟩]) U Jt U U) (V U U (CR (parts:=[(0,.const (.int .i64 23))]) (vs:=[.int .i64 23]) (cs:=[.int .i64 23,.int .i64 0,.string ⟨#[]⟩]) U Jt U U) (BX (parts:=[(0,.tmp 2),(1,.tmp 3),(2,.tmp 4),(3,.tmp 5)]) (vs:=[.agg #[.int .i64 6,.int .i64 0,.string ⟨#[]⟩],.agg #[.int .i64 7,.int .i64 0,.string ⟨#[]⟩],.agg #[.int .i64 4,.int .i64 0,.string ⟨#[]⟩],.agg #[.int .i64 23,.int .i64 0,.string ⟨#[]⟩]]) (cs:=[.int .i64 6,.int .i64 0,.string ⟨#[]⟩,.int .i64 7,.int .i64 0,.string ⟨#[]⟩,.int .i64 4,.int .i64 0,.string ⟨#[]⟩,.int .i64 23,.int .i64 0,.string ⟨#[]⟩]) U U U GY KS U (by decide) (by decide) U U H (fun b2 w H=>?_)))))))
 replace H:=H.h1 (A:=blk b2 [.int .i64 6,.int .i64 0,.string ⟨#[]⟩,.int .i64 7,.int .i64 0,.string ⟨#[]⟩,.int .i64 4,.int .i64 0,.string ⟨#[]⟩,.int .i64 23,.int .i64 0,.string ⟨#[]⟩] 223)
 refine Ad U (Ac (Z (Ab (Ae (V U U (CR (parts:=[(0,.const (.string ⟨#[98]⟩)),(1,.const (.string ⟨#[49]⟩))]) (vs:=[.string ⟨#[98]⟩,.string ⟨#[49]⟩]) (cs:=[.string ⟨#[98]⟩,.string ⟨#[49]⟩]) U Nv U U) (BX (parts:=[(0,.tmp 7)]) (vs:=[.agg #[.string ⟨#[98]⟩,.string ⟨#[49]⟩]]) (cs:=[.string ⟨#[98]⟩,.string ⟨#[49]⟩]) U U U By Dc U (by decide) (by decide) U U H (fun b3 w H=>(BX (parts:=[(0,.tmp 8)]) (vs:=[.slice (some ⟨b3,0,none⟩) 1 1]) (cs:=[.slice (some ⟨b3,0,none⟩) 1 1]) U U U Fz KT U (by decide) (by decide) U U H (fun b4 w H=>(Ah 2 U (V U U (CR (parts:=[(0,.tmp 9),(1,.const (.int .i64 1)),(2,.tmp 10),(4,.tmp 11),(5,.const (.int .i64 1)),(6,.const (.int .i64 1)),(7,.const (.int .i64 9))]) (vs:=[.slice (some ⟨b4,0,none⟩) 1 1,.int .i64 1,.slice (some ⟨b2,0,none⟩) 4 4,.slice (some ⟨b2,0,none⟩) 4 4,.int .i64 1,.int .i64 1,.int .i64 9]) (cs:=[.slice (some ⟨b4,0,none⟩) 1 1,.int .i64 1,.slice (some ⟨b2,0,none⟩) 4 4,.slice none 0 0,.slice (some ⟨b2,0,none⟩) 4 4,.int .i64 1,.int .i64 1,.int .i64 9,.slice none 0 0]) U RP U U) ?_)))))))))))
 refine V U U (CR (parts:=[(0,.tmp 12),(1,.const (.int .i64 1)),(2,.const (.int .i64 2)),(3,.const (.int .i64 1))]) (vs:=[.agg #[.slice (some ⟨b4,0,none⟩) 1 1,.int .i64 1,.slice (some ⟨b2,0,none⟩) 4 4,.slice none 0 0,.slice (some ⟨b2,0,none⟩) 4 4,.int .i64 1,.int .i64 1,.int .i64 9,.slice none 0 0],.int .i64 1,.int .i64 2,.int .i64 1]) (cs:=[.slice (some ⟨b4,0,none⟩) 1 1,.int .i64 1,.slice (some ⟨b2,0,none⟩) 4 4,.slice none 0 0,.slice (some ⟨b2,0,none⟩) 4 4,.int .i64 1,.int .i64 1,.int .i64 9,.slice none 0 0,.int .i64 1,.int .i64 2,.int .i64 1]) U RQ U U) ?_
 replace H:=H.p3
 refine BH U U U DC U U H U (Nat.le_of_ble_eq_true U) (fun u hu=>by simp [Value.cells] at hu;rcases hu with rfl|rfl|rfl|rfl|rfl|rfl|rfl|rfl|rfl|rfl|rfl|rfl<;>rfl) (fun w H=>?_)
 replace H:Hd _ _ _ [blk b1 [.slice (some ⟨b4,0,none⟩) 1 1,.int .i64 1,.slice (some ⟨b2,0,none⟩) 4 4,.slice none 0 0,.slice (some ⟨b2,0,none⟩) 4 4,.int .i64 1,.int .i64 1,.int .i64 9,.slice none 0 0,.int .i64 1,.int .i64 2,.int .i64 1] 28,blk b4 [.slice (some ⟨b3,0,none⟩) 1 1] 35,blk b3 [.string ⟨#[98]⟩,.string ⟨#[49]⟩] 106,blk b2 [.int .i64 6,.int .i64 0,.string ⟨#[]⟩,.int .i64 7,.int .i64 0,.string ⟨#[]⟩,.int .i64 4,.int .i64 0,.string ⟨#[]⟩,.int .i64 23,.int .i64 0,.string ⟨#[]⟩] 223] []:=H
 refine Ac (Z (An (Fx (cs:=[.slice (some ⟨b4,0,none⟩) 1 1,.int .i64 1,.slice (some ⟨b2,0,none⟩) 4 4,.slice none 0 0,.slice (some ⟨b2,0,none⟩) 4 4,.int .i64 1,.int .i64 1,.int .i64 9,.slice none 0 0,.int .i64 1,.int .i64 2,.int .i64 1]) U U DC U (H.cellsI 0 U U) ?_)))
 replace H:=H.p2
 replace H:Hd w0 F0 w [Y Ag (.slice (some ⟨b3,0,none⟩) 1 1) Dz,blk b1 [.slice (some ⟨b4,0,none⟩) 1 1,.int .i64 1,.slice (some ⟨b2,0,none⟩) 4 4,.slice none 0 0,.slice (some ⟨b2,0,none⟩) 4 4,.int .i64 1,.int .i64 1,.int .i64 9,.slice none 0 0,.int .i64 1,.int .i64 2,.int .i64 1] 28,blk b4 [.slice (some ⟨b3,0,none⟩) 1 1] 35,blk b2 [.int .i64 6,.int .i64 0,.string ⟨#[]⟩,.int .i64 7,.int .i64 0,.string ⟨#[]⟩,.int .i64 4,.int .i64 0,.string ⟨#[]⟩,.int .i64 23,.int .i64 0,.string ⟨#[]⟩] 223] []:=H.turn (fun F h=>HA h rfl (by decide) rfl)
 replace H:=H.p3
 replace H:Hd w0 F0 w [Y Af (.slice (some ⟨b2,0,none⟩) 4 4) DL,Y Ag (.slice (some ⟨b3,0,none⟩) 1 1) Dz,blk b1 [.slice (some ⟨b4,0,none⟩) 1 1,.int .i64 1,.slice (some ⟨b2,0,none⟩) 4 4,.slice none 0 0,.slice (some ⟨b2,0,none⟩) 4 4,.int .i64 1,.int .i64 1,.int .i64 9,.slice none 0 0,.int .i64 1,.int .i64 2,.int .i64 1] 28,blk b4 [.slice (some ⟨b3,0,none⟩) 1 1] 35] []:=H.turn (fun F h=>HA h rfl (by decide) rfl)
 replace H:=H.p1.p3.k3
 replace H:Hd w0 F0 w [Y Du (.slice (some ⟨b4,0,none⟩) 1 1) (Bl ([(.slice (some ⟨b3,0,none⟩) 1 1,Dz)]:List (Value×List Ap))),Y Ag (.slice (some ⟨b3,0,none⟩) 1 1) Dz,Y Af (.slice (some ⟨b2,0,none⟩) 4 4) DL] []:=H.turn (fun F h=>HA h rfl (by decide) rfl)
 replace H:=H.p1
 replace H:=Hd.stI (Bs:=[Y Ag (.slice (some ⟨b3,0,none⟩) 1 1) Dz]) H
 replace H:=H.h1 (A:=FY Ag ([(.slice (some ⟨b3,0,none⟩) 1 1,Dz)]:List (Value×List Ap)))|>.p1|>.hdI|>.h1 (A:=Y (Am Ag) (.slice (some ⟨b4,0,none⟩) 1 1) [(.slice (some ⟨b3,0,none⟩) 1 1,Dz)])
 exact Ak ⟨(.slice (some ⟨b4,0,none⟩) 1 1),(.slice (some ⟨b2,0,none⟩) 4 4),(.slice (some ⟨b3,0,none⟩) 1 1),rfl,rfl⟩ H
theorem KX  :
    Cn Tryz.prog 68 [] [] [gl] (fun v Bs=>v=.bool true∧Bs=[]):=by
 intro w0 F0 H
 refine enter Tryz.func68 U U (Nat.le_of_ble_eq_true U) (Ab (Ae (Ad U (Ac (Z (Ab (Ae (sc (YV) H l0 U U (Au Ur U U) ?_))))))))
 rintro _ _ w ⟨vS1,vP2,u3,rfl,rfl⟩ H
 refine V U U (CR (parts:=[(0,.const (.int .i64 6))]) (vs:=[.int .i64 6]) (cs:=[.int .i64 6,.int .i64 0,.int .i64 0,.int .i64 0,.int .i64 0,.slice none 0 0,.slice none 0 0]) U Ny U U) (BX (parts:=[(0,.tmp 7)]) (vs:=[.agg #[.int .i64 6,.int .i64 0,.int .i64 0,.int .i64 0,.int .i64 0,.slice none 0 0,.slice none 0 0]]) (cs:=[.int .i64 6,.int .i64 0,.int .i64 0,.int .i64 0,.int .i64 0,.slice none 0 0,.slice none 0 0]) U U U Jb Jq U (by decide) (by decide) U U H (fun b4 w H=>?_))
 have hC:=MK u3
 have hJ:=YU u3
 replace H:Hd _ _ _ [blk b4 [.int .i64 6,.int .i64 0,.int .i64 0,.int .i64 0,.int .i64 0,.slice none 0 0,.slice none 0 0] 37,Y (Am Ag) vS1 [(u3,Dz)],Y Af vP2 DL] [gl]:=H
 replace H:Hd w0 F0 w [Y Dy (.slice (some ⟨b4,0,none⟩) 1 1) [(⟨6,0,0,0,0,⟨none,0,0⟩,⟨none,0,0⟩⟩:Fl)],Y (Am Ag) vS1 [(u3,Dz)],Y Af vP2 DL] [gl]:=H.turn (fun F h=>HA h rfl (by decide) rfl)
 refine sc (Rq vS1 vP2 (.slice none 0 0) vP2 (.slice none 0 0) (CN u3) 1 (.slice (some ⟨b4,0,none⟩) 1 1) ([BV]) hC hJ ⟨by decide,show (1:Int)≤1 by decide⟩ (Pu (n:=1)) (by decide)) H (lA 1 U BI (lA 2 U BI (lX (fun F _ _=>Hj _ _ F trivial (by decide)) (lA 2 U BI (lX (fun F _ _=>Hj _ _ F trivial (by decide)) (lX (fun F hA hR=>QA (us:=[BV]) (BI F (hA _ (List.mem_of_getElem? (i:=0) U))) (Pt (n:=1))) l0)))))) U U (Au Pj U U) ?_
 rintro _ _ w ⟨b5,rfl,rfl⟩ H
 replace H:=H.h1 (A:=BT b5 (CN u3) (EL (CN u3) 1 ([BV])))
 obtain ⟨W0,hW0⟩:∃ z:Di,z=EL (CN u3) 1 ([BV]):=⟨_,rfl⟩
 rw [←hW0] at H
 replace H:Hd _ _ _ [BT b5 (CN u3) W0,Y Dy (.slice (some ⟨b4,0,none⟩) 1 1) [(⟨6,0,0,0,0,⟨none,0,0⟩,⟨none,0,0⟩⟩:Fl)],Y (Am Ag) vS1 [(u3,Dz)],Y Af vP2 DL] [gl]:=H
 have hW0e:W0=⟨2,[CQ 1 0 2 [BV.p]],[],false⟩:=by rw [hW0];exact Z2 _
 have hw0:=Z3 dg u3
 rw [←hW0e] at hw0
 have hW0t:∀ M∈W0.ts,F8 M:=by rw [hW0e];exact fun M h=>by cases h
 have hOr:CJ 99999 (CQ 1 0 2 [BV.p]):=(CJ.new (rs:=[BV.p]) fun r hr=>by rw [List.mem_singleton.1 hr];exact ⟨Nat.zero_le _,Nat.zero_le _⟩).mono (by decide)
 have hW0r:∀ R∈W0.rs,CJ 99999 R:=by rw [hW0e];exact fun R h=>by rw [List.mem_singleton.1 h];exact hOr
 have hW0l:W0.ts.length≤1000∧W0.rs.length≤1000:=by rw [hW0e];exact ⟨Nat.zero_le _,by decide⟩
 have hW0m:W0.ts.length≤1000:=hW0l.1
 have hk1:(1:Int)=1∨(1:Int)=9:=.inl rfl
 have hfr0:(0:Int)≤0∧(0:Int)≤(CN u3).w:=⟨by decide,show (0:Int)≤1 by decide⟩
 refine Ah 5 U (Ac (Z (Ab (Ab (Ae (Ad U (V U U (C9 U U U) (Ah 2 U (V U U (Dn U Gz U U) (Ad U (Ac (Z (B2 U (Av (Z (Ab (Ae (Ad U (sc (Rn b5 (CN u3) W0 (by first |assumption|omega|exact hW0t|exact hW0r|exact hW1t|exact hW1r|exact hW0l|exact hW1l|decide) (by first |assumption|omega|exact hW0t|exact hW0r|exact hW1t|exact hW1r|exact hW0l|exact hW1l|decide) (by first |assumption|omega|exact hW0t|exact hW0r|exact hW1t|exact hW1r|exact hW0l|exact hW1l|decide) (by first |assumption|omega|exact hW0t|exact hW0r|exact hW1t|exact hW1r|exact hW0l|exact hW1l|decide) (by first |assumption|omega|exact hW0t|exact hW0r|exact hW1t|exact hW1r|exact hW0l|exact hW1l|decide)) H (lR 0 U l0) U U (Au Pk U U) ?_)))))))))))))))))))
 rintro v8 _ w ⟨zs6,rfl,hf7⟩ H
 replace H:=H.h1 (A:=Y C3 v8 zs6)
 obtain ⟨A9,c10,rfl,hc11,hm12,hp13⟩:=H.fA 0 rfl
 have hz0:=hf7
 rw [hw0] at hz0
 refine Ad U (Ac (Z (Ab (Ae (Ad U (V U U (CR (parts:=[(0,.const (.int .i64 1)),(2,.const (.int .i64 1))]) (vs:=[.int .i64 1,.int .i64 1]) (cs:=[.int .i64 1,.int .i64 0,.int .i64 1,.int .i64 0,.int .i64 0,.int .i64 0,.int .i64 0,.int .i64 0,.slice none 0 0,.slice none 0 0]) U GG U U) ?_))))))
 replace H:=H.p1
 refine sc (Z6 b5 (CN u3) W0 0 1 0 1 (by first |assumption|omega|exact hW0t|exact hW0r|exact hW1t|exact hW1r|exact hW0l|exact hW1l|decide) (by first |assumption|omega|exact hW0t|exact hW0r|exact hW1t|exact hW1r|exact hW0l|exact hW1l|decide) (by first |assumption|omega|exact hW0t|exact hW0r|exact hW1t|exact hW1r|exact hW0l|exact hW1l|decide) (by first |assumption|omega|exact hW0t|exact hW0r|exact hW1t|exact hW1r|exact hW0l|exact hW1l|decide) (by first |assumption|omega|exact hW0t|exact hW0r|exact hW1t|exact hW1r|exact hW0l|exact hW1l|decide)) H (lR 0 U l0) U U (Au Vl U U) ?_
 rintro _ _ w ⟨rfl,rfl⟩ H
 replace H:=H.h1 (A:=BT b5 (CN u3) (Fu dg (CN u3) W0 0 1 0 1))
 obtain ⟨W1,hW1⟩:∃ z:Di,z=Fu dg (CN u3) W0 0 1 0 1:=⟨_,rfl⟩
 rw [←hW1] at H
 replace H:Hd _ _ _ [BT b5 (CN u3) W1,Y C3 (.slice A9 zs6.length c10) zs6,Y Dy (.slice (some ⟨b4,0,none⟩) 1 1) [(⟨6,0,0,0,0,⟨none,0,0⟩,⟨none,0,0⟩⟩:Fl)],Y (Am Ag) vS1 [(u3,Dz)],Y Af vP2 DL] [gl]:=H
 have hW1e:W1=⟨2,[CQ 1 0 2 [BV.p]],[Df dg (CN u3).J 0 1],false⟩:=by rw [hW1,hW0e];exact Z1 _ _ _
 obtain ⟨la,ly,lc,hw1,hlt,hlk⟩:=Z4 dg u3
 rw [←hW1e] at hw1
 have hW1t:∀ M∈W1.ts,F8 M:=by rw [hW1e];exact fun M h=>by rw [List.mem_singleton.1 h];exact WA hJ _ _
 have hW1r:∀ R∈W1.rs,CJ 99999 R:=by rw [hW1e];exact fun R h=>by rw [List.mem_singleton.1 h];exact hOr
 have hW1l:W1.ts.length≤1000∧W1.rs.length≤1000:=by rw [hW1e];exact ⟨(show (1:Nat)≤1000 by decide),(show (1:Nat)≤1000 by decide)⟩
 have hWep:W1.ep=2:=by rw [hW1e]
 have hWts:W1.ts.length=1:=by rw [hW1e];rfl
 refine Ac (Z (Ab (Ae (Ad U (sc (Rn b5 (CN u3) W1 (by first |assumption|omega|exact hW0t|exact hW0r|exact hW1t|exact hW1r|exact hW0l|exact hW1l|decide) (by first |assumption|omega|exact hW0t|exact hW0r|exact hW1t|exact hW1r|exact hW0l|exact hW1l|decide) (by first |assumption|omega|exact hW0t|exact hW0r|exact hW1t|exact hW1r|exact hW0l|exact hW1l|decide) (by first |assumption|omega|exact hW0t|exact hW0r|exact hW1t|exact hW1r|exact hW0l|exact hW1l|decide) (by first |assumption|omega|exact hW0t|exact hW0r|exact hW1t|exact hW1r|exact hW0l|exact hW1l|decide)) H (lR 0 U l0) U U (Au Pk U U) ?_)))))
 rintro v16 _ w ⟨zs14,rfl,hf15⟩ H
 replace H:=H.h1 (A:=Y C3 v16 zs14)
 obtain ⟨A17,c18,rfl,hc19,hm20,hp21⟩:=H.fA 0 rfl
 have hz1:=hf15
 rw [hw1] at hz1
 have hz1l:=congrArg List.length hz1
 rw [List.length_map] at hz1l
 have hz1m:zs14.length=3:=hz1l
 refine Ad U (Ac (Z (Ab (Ae (Ad U ?_)))))
 replace H:=H.p1
 refine sc (Rl b5 (CN u3) W1) H l0 U U (Au Pm U U) ?_
 rintro _ _ w ⟨rfl,rfl⟩ H
 refine V U U (A0 U U U) (Ad U ?_)
 refine AN (d:=28) U (fun h22=>?_) (fun h22=>?_)
 ·refine Ad U (V U U (CR (parts:=[(0,.const (.int .i64 6)),(6,.const (.int .i64 2))]) (vs:=[.int .i64 6,.int .i64 2]) (cs:=[.int .i64 6,.int .i64 0,.int .i64 0,.int .i64 0,.int .i64 0,.int .i64 0,.int .i64 2,.int .i64 0,.slice none 0 0,.slice none 0 0]) U GG U U) (V U U (CR (parts:=[(2,.tmp 30)]) (vs:=[.agg #[.int .i64 6,.int .i64 0,.int .i64 0,.int .i64 0,.int .i64 0,.int .i64 0,.int .i64 2,.int .i64 0,.slice none 0 0,.slice none 0 0]]) (cs:=[.int .i64 0,.int .i64 0,.int .i64 6,.int .i64 0,.int .i64 0,.int .i64 0,.int .i64 0,.int .i64 0,.int .i64 2,.int .i64 0,.slice none 0 0,.slice none 0 0]) U Js U U) (BX (parts:=[(0,.tmp 31)]) (vs:=[.agg #[.int .i64 0,.int .i64 0,.int .i64 6,.int .i64 0,.int .i64 0,.int .i64 0,.int .i64 0,.int .i64 0,.int .i64 2,.int .i64 0,.slice none 0 0,.slice none 0 0]]) (cs:=[.int .i64 0,.int .i64 0,.int .i64 6,.int .i64 0,.int .i64 0,.int .i64 0,.int .i64 0,.int .i64 0,.int .i64 2,.int .i64 0,.slice none 0 0,.slice none 0 0]) U U U EN Hw U (by decide) (by decide) U U H (fun b23 w H=>?_))))
  replace H:Hd _ _ _ [blk b23 [.int .i64 0,.int .i64 0,.int .i64 6,.int .i64 0,.int .i64 0,.int .i64 0,.int .i64 0,.int .i64 0,.int .i64 2,.int .i64 0,.slice none 0 0,.slice none 0 0] 121,BT b5 (CN u3) W1,Y C3 (.slice A17 zs14.length c18) zs14,Y C3 (.slice A9 zs6.length c10) zs6,Y Dy (.slice (some ⟨b4,0,none⟩) 1 1) [(⟨6,0,0,0,0,⟨none,0,0⟩,⟨none,0,0⟩⟩:Fl)],Y (Am Ag) vS1 [(u3,Dz)],Y Af vP2 DL] [gl]:=H
  replace H:Hd w0 F0 w [Y De (.slice (some ⟨b23,0,none⟩) 1 1) [(⟨⟨0,0,⟨6,0,0,0,0,0,2,0⟩⟩,⟨none,0,0⟩,⟨none,0,0⟩⟩:E4 Cj)],BT b5 (CN u3) W1,Y C3 (.slice A17 zs14.length c18) zs14,Y C3 (.slice A9 zs6.length c10) zs6,Y Dy (.slice (some ⟨b4,0,none⟩) 1 1) [(⟨6,0,0,0,0,⟨none,0,0⟩,⟨none,0,0⟩⟩:Fl)],Y (Am Ag) vS1 [(u3,Dz)],Y Af vP2 DL] [gl]:=H.turn (fun F h=>HA h rfl (by decide) rfl)
  refine sc (YM (.slice A9 zs6.length c10) zs6 (.slice (some ⟨b23,0,none⟩) 1 1) [(⟨⟨0,0,⟨6,0,0,0,0,0,2,0⟩⟩,.slice none 0 0,[],.slice none 0 0,[]⟩:Bi Cj)]) H (lA 3 U (fun F h=>BI F h) (lX (fun F hA hR=>Zv (us:=[(⟨⟨0,0,⟨6,0,0,0,0,0,2,0⟩⟩,.slice none 0 0,[],.slice none 0 0,[]⟩:Bi Cj)]) (BI F (hA _ (List.mem_of_getElem? (i:=0) U))) (fun r hr=>by rw [List.mem_singleton.1 hr];exact ⟨Hj _ _ _ trivial (by decide),Hj _ _ _ trivial (by decide)⟩)) l0)) U U (Au Vn U U) ?_
  rintro _ _ w ⟨rfl,rfl⟩ H
  refine Ah 2 U ?_
  refine AN (d:=35) U (fun h24=>?_) (fun h24=>?_)
  ·refine Ad U (V U U (Bc U KK U) (V U U (A0 U U U) (Ah 2 U ?_)))
   refine AN (d:=40) U (fun h25=>?_) (fun h25=>?_)
   ·refine Ad U ?_
    obtain ⟨⟨⟨a28,a29,⟨a30,a31,a32,a33,a34,a35,a36,a37⟩⟩,sv38,se39,pv40,pr41⟩,hx27⟩:∃ z9,zs14[1]?=some z9:=⟨_,List.getElem?_eq_getElem (show 1<zs14.length by omega)⟩
    obtain ⟨A42,c43,A44,c45,rfl,rfl,m46,m47,m48,m49⟩:=H.nestAt 2 rfl hx27
    have th50:=H.thAt 2 rfl hx27
    refine V U U (AY (p:=AS A17+1*12) U EN U U (by omega) (by omega) th50 (by omega)) (V U U (Aj U Ln U) (V U U (Al U AA U (H.elAt 2 U hx27 (q:=1) U U)) (V U U (A0 U U U) (Ah 2 U ?_))))
    refine AN (d:=47) U (fun h51=>?_) (fun h51=>?_)
    ·refine Ad U ?_
     have th52:=H.thAt 2 rfl hx27
     refine V U U (AY (p:=AS A17+1*12) U EN U U (by omega) (by omega) th52 (by omega)) (V U U (Aj U Lo U) (V U U (Aj U Fr U) (V U U (Al U AA U (H.elAt 2 U hx27 (q:=2) U U)) (V U U (A0 U U U) (Ah 2 U ?_)))))
     refine AN (d:=55) U (fun h53=>?_) (fun h53=>?_)
     ·refine Ad U ?_
      replace H:=H.p1
      replace H:Hd _ _ _ [BT b5 (CN u3) W1,Y De (.slice (some ⟨b23,0,none⟩) 1 1) [(⟨⟨0,0,⟨6,0,0,0,0,0,2,0⟩⟩,⟨none,0,0⟩,⟨none,0,0⟩⟩:E4 Cj)],Y C3 (.slice A17 zs14.length c18) zs14,Y C3 (.slice A9 zs6.length c10) zs6,Y Dy (.slice (some ⟨b4,0,none⟩) 1 1) [(⟨6,0,0,0,0,⟨none,0,0⟩,⟨none,0,0⟩⟩:Fl)],Y (Am Ag) vS1 [(u3,Dz)],Y Af vP2 DL] [gl]:=H
      refine sc (Rm b5 (CN u3) W1) H l0 U U (Au Pl U U) ?_
      rintro _ _ w ⟨rfl,rfl⟩ H
      refine V U U (A0 U U U) (Ah 2 U (Ac (Z (An (Aq U U ?_)))))
      replace H:=H.nil
      exact Ak ⟨congrArg Value.bool (decide_eq_true (by omega)),rfl⟩ H
     exact (h53 (by have h9:=Pr hz1 hx27;have h8:ly=C4 (⟨⟨a28,a29,⟨a30,a31,a32,a33,a34,a35,a36,a37⟩⟩,.slice A42 se39.length c43,se39,.slice A44 pr41.length c45,pr41⟩:Bi Cj):=Option.some.inj h9;first |exact (congrArg EB.to h8).symm.trans hlt|exact (congrArg (fun z:EB=>z.m.kind) h8).symm.trans hlk)).elim
    exact (h51 (by have h9:=Pr hz1 hx27;have h8:ly=C4 (⟨⟨a28,a29,⟨a30,a31,a32,a33,a34,a35,a36,a37⟩⟩,.slice A42 se39.length c43,se39,.slice A44 pr41.length c45,pr41⟩:Bi Cj):=Option.some.inj h9;first |exact (congrArg EB.to h8).symm.trans hlt|exact (congrArg (fun z:EB=>z.m.kind) h8).symm.trans hlk)).elim
   exact (h25 (by omega)).elim
  exact (h24 hz0).elim
 exact (h22 hWep).elim
theorem aI (vS vM vC vR vK:Value) (C:Cf) (ss:List (List Ap)) (gm:∀ i∈C.J.map,AE i.a) (gc:∀ i∈C.J.comb,AE i.a) (gr:∀ i∈C.J.red,AE i.a) (lives:Int) (wl:AE lives):
    Cn Tryz.prog 15 [.agg #[vS,.int .i64 C.J.parts,vM,vC,vR,.int .i64 C.J.chunk,.int .i64 C.J.window,.int .i64 C.J.fuel,vK,.int .i64 C.w,.int .i64 C.t,.int .i64 C.o],.int .i64 lives] [] [Aa (Am Ag) vS C.J.us,Aa (Bz Ag) vS ss,Aa Af vM C.J.map,Aa Af vC C.J.comb,Aa Af vR C.J.red,Aa (Ai .i64) vK C.J.marks,gl] (fun v Bs=>v=.bool true∧Bs=[]):=by
 intro w0 F0 H
 obtain ⟨A1,c2,rfl,hc3,hm4,hp5⟩:=H.fR 0 rfl
 obtain ⟨A6,c7,rfl,hc8,hm9,hp10⟩:=H.fR 2 rfl
 obtain ⟨A11,c12,rfl,hc13,hm14,hp15⟩:=H.fR 3 rfl
 obtain ⟨A16,c17,rfl,hc18,hm19,hp20⟩:=H.fR 4 rfl
 obtain ⟨A21,c22,rfl,hc23,hm24,hp25⟩:=H.fR 5 rfl
 refine enter Tryz.func15 U U (Nat.le_of_ble_eq_true U) (Ab (Ae (Ct U U U U H (fun b26 w H=>(Ad U (Ac (Z ?_)))))))
 replace H:Hd _ _ _ [blk b26 [.slice A1 C.J.us.length c2,.int .i64 C.J.parts,.slice A6 C.J.map.length c7,.slice A11 C.J.comb.length c12,.slice A16 C.J.red.length c17,.int .i64 C.J.chunk,.int .i64 C.J.window,.int .i64 C.J.fuel,.slice A21 C.J.marks.length c22,.int .i64 C.w,.int .i64 C.t,.int .i64 C.o] 28] [Aa (Am Ag) (.slice A1 C.J.us.length c2) C.J.us,Aa (Bz Ag) (.slice A1 C.J.us.length c2) ss,Aa Af (.slice A6 C.J.map.length c7) C.J.map,Aa Af (.slice A11 C.J.comb.length c12) C.J.comb,Aa Af (.slice A16 C.J.red.length c17) C.J.red,Aa (Ai .i64) (.slice A21 C.J.marks.length c22) C.J.marks,gl]:=H
 refine Ab (Ab (Ae (V U U (Aj U CV U) (V U U (Bo (cs:=[.slice A1 C.J.us.length c2,.int .i64 C.J.parts,.slice A6 C.J.map.length c7,.slice A11 C.J.comb.length c12,.slice A16 C.J.red.length c17,.int .i64 C.J.chunk,.int .i64 C.J.window,.int .i64 C.J.fuel,.slice A21 C.J.marks.length c22]) U Jk U U (H.cellsI 0 U U)) (sc (TI (.slice A1 C.J.us.length c2) (.slice A6 C.J.map.length c7) (.slice A11 C.J.comb.length c12) (.slice A16 C.J.red.length c17) (.slice A21 C.J.marks.length c22) C.J) H (lR 0 U (lR 2 U (lR 3 U (lR 4 U (lR 5 U l0))))) U U (Au UA U U) ?_)))))
 rintro _ _ w ⟨rfl,rfl⟩ H
 refine Ad U ?_
 refine Fe (d:=17) (b:=GN C.J) U (fun h27=>?_) (fun h27=>?_)
 ·refine Ah 4 U (Ac (Z ?_))
  replace H:Hd _ _ _ [blk b26 [.slice A1 C.J.us.length c2,.int .i64 C.J.parts,.slice A6 C.J.map.length c7,.slice A11 C.J.comb.length c12,.slice A16 C.J.red.length c17,.int .i64 C.J.chunk,.int .i64 C.J.window,.int .i64 C.J.fuel,.slice A21 C.J.marks.length c22,.int .i64 C.w,.int .i64 C.t,.int .i64 C.o] 28] [Aa (Am Ag) (.slice A1 C.J.us.length c2) C.J.us,Aa (Bz Ag) (.slice A1 C.J.us.length c2) ss,Aa Af (.slice A6 C.J.map.length c7) C.J.map,Aa Af (.slice A11 C.J.comb.length c12) C.J.comb,Aa Af (.slice A16 C.J.red.length c17) C.J.red,Aa (Ai .i64) (.slice A21 C.J.marks.length c22) C.J.marks,gl]:=H
  refine CG U (Ab (Ae (sc (KX) H (lR 6 U l0) U U (Au LV U U) ?_)))
  rintro _ _ w ⟨rfl,rfl⟩ H
  refine Ad U (Ac (Z (An (Ay (Aq U U ?_)))))
  replace H:=H.nil
  exact Ak ⟨rfl,rfl⟩ H
 refine V U U (Bo (cs:=[.slice A1 C.J.us.length c2,.int .i64 C.J.parts,.slice A6 C.J.map.length c7,.slice A11 C.J.comb.length c12,.slice A16 C.J.red.length c17,.int .i64 C.J.chunk,.int .i64 C.J.window,.int .i64 C.J.fuel,.slice A21 C.J.marks.length c22,.int .i64 C.w,.int .i64 C.t,.int .i64 C.o]) U DC U U (H.cellsI 0 U U)) ?_
 replace H:Hd _ _ _ [blk b26 [.slice A1 C.J.us.length c2,.int .i64 C.J.parts,.slice A6 C.J.map.length c7,.slice A11 C.J.comb.length c12,.slice A16 C.J.red.length c17,.int .i64 C.J.chunk,.int .i64 C.J.window,.int .i64 C.J.fuel,.slice A21 C.J.marks.length c22,.int .i64 C.w,.int .i64 C.t,.int .i64 C.o] 28] [Aa (Am Ag) (.slice A1 C.J.us.length c2) C.J.us,Aa (Bz Ag) (.slice A1 C.J.us.length c2) ss,Aa Af (.slice A6 C.J.map.length c7) C.J.map,Aa Af (.slice A11 C.J.comb.length c12) C.J.comb,Aa Af (.slice A16 C.J.red.length c17) C.J.red,Aa (Ai .i64) (.slice A21 C.J.marks.length c22) C.J.marks,gl]:=H
 refine sc (IQ (.slice A1 C.J.us.length c2) (.slice A6 C.J.map.length c7) (.slice A11 C.J.comb.length c12) (.slice A16 C.J.red.length c17) (.slice A21 C.J.marks.length c22) C) H (lR 0 U (lR 2 U (lR 3 U (lR 4 U (lR 5 U l0))))) U U (Au IL U U) ?_
 rintro _ _ w ⟨rfl,rfl⟩ H
 refine V U U (Ea U U) (Ad U (Ac (Z ?_)))
 refine Ax U (fun h28=>?_) (fun h28=>?_)
 ·refine Ab (Ae (sc (KX) H (lR 6 U l0) U U (Au LV U U) ?_))
  rintro _ _ w ⟨rfl,rfl⟩ H
  refine Ad U (Ac (Z (An (Ay (Aq U U ?_)))))
  replace H:=H.nil
  exact Ak ⟨rfl,rfl⟩ H
 refine Av (Z (Ab ?_))
 have hC:CP C:=Classical.not_not.1 h28
 have hJ:B8 C.J:=⟨hC.1,gm,gc,gr⟩
 have hus:=hJ.us
 have hpt:=hJ.parts
 have hww:=hC.2.1
 refine Ae (Ad U (Ac (Z (Ab (Ab (Ae (Ad U (Ac (Z (AQ ?_))))))))))
 replace H:=H.newnil Dy|>.p1|>.h2 (B:=Y Dy (.slice none 0 0) ((List.replicate 0 BV).map Cz))
 refine BL (σ:=Nat×Value) (fun (i,q)=>[(1,.int .i64 lives),(2,.pointer (some ⟨b26,0,none⟩)),(4,.bool false),(5,q),(6,.int .i64 ((i:Nat):Int))]) (fun (i,q) w=>(Hd w0 F0 w [blk b26 [.slice A1 C.J.us.length c2,.int .i64 C.J.parts,.slice A6 C.J.map.length c7,.slice A11 C.J.comb.length c12,.slice A16 C.J.red.length c17,.int .i64 C.J.chunk,.int .i64 C.J.window,.int .i64 C.J.fuel,.slice A21 C.J.marks.length c22,.int .i64 C.w,.int .i64 C.t,.int .i64 C.o] 28,Y Dy q ((List.replicate i BV).map Cz)] [Aa (Am Ag) (.slice A1 C.J.us.length c2) C.J.us,Aa (Bz Ag) (.slice A1 C.J.us.length c2) ss,Aa Af (.slice A6 C.J.map.length c7) C.J.map,Aa Af (.slice A11 C.J.comb.length c12) C.J.comb,Aa Af (.slice A16 C.J.red.length c17) C.J.red,Aa (Ai .i64) (.slice A21 C.J.marks.length c22) C.J.marks,gl])∧(((i:Nat):Int)≤IntKind.u64.wrap lives%20)) (fun (i,q)=>20 - i) (0,.slice none 0 0) ⟨rfl,rfl,rfl,rfl,rfl,trivial⟩ ⟨H,by (try dsimp only);have:=Int.emod_nonneg (IntKind.u64.wrap lives) (show (20:Int)≠0 by decide);omega⟩ ?_
 rintro ⟨i,q⟩ w ⟨H,hi⟩
 have hlf:((List.replicate i BV).map Cz).length=i:=by rw [List.length_map,List.length_replicate]
 have hi20:i<20:=by have:=Int.emod_lt_of_pos (IntKind.u64.wrap lives) (show (0:Int)<20 by decide);omega
 refine Ab (Ab (Ae (Ah 2 U (sc (VB lives 20 (by first |assumption|(unfold AE;omega)) (by omega) (by omega)) H l0 U U (Au UM U U) ?_))))
 rintro _ _ w ⟨rfl,rfl⟩ H
 obtain ⟨lo29,hl30,hl31,hl32⟩:∃ z:Int,IntKind.u64.wrap lives%20=z∧0≤z∧z<20:=⟨_,rfl,Int.emod_nonneg _ (by omega),Int.emod_lt_of_pos _ (by omega)⟩
 rw [hl30]
 refine V U U (Bb U U U) (Ac (Z ?_))
 refine Ax U (fun h33=>?_) (fun h33=>?_)
 ·refine Av (Z (Ab (AQ (Ae (Ad U (V U U (CR (parts:=[(0,.const (.int .i64 6))]) (vs:=[.int .i64 6]) (cs:=[.int .i64 6,.int .i64 0,.int .i64 0,.int .i64 0,.int .i64 0,.slice none 0 0,.slice none 0 0]) U Ny U U) (BX (parts:=[(0,.tmp 30)]) (vs:=[.agg #[.int .i64 6,.int .i64 0,.int .i64 0,.int .i64 0,.int .i64 0,.slice none 0 0,.slice none 0 0]]) (cs:=[.int .i64 6,.int .i64 0,.int .i64 0,.int .i64 0,.int .i64 0,.slice none 0 0,.slice none 0 0]) U U U Jb Jq U (by decide) (by decide) U U H (fun b34 w H=>?_))))))))
  replace H:=H.p2
  refine Cy (xs:=(List.replicate i BV).map Cz) (ys:=[(⟨6,0,0,0,0,⟨none,0,0⟩,⟨none,0,0⟩⟩:Fl)]) U U U Jb Jq U (by decide) U U H (by first |omega|(simp only [List.length_append,List.length_cons,List.length_nil,List.length_map];omega)) (fun F hA hR=>Cm (hA _ (List.mem_of_getElem? (i:=0) U)) U (by decide) (AV.flat_eq.2 U)) (fun v35 w H=>(Ad U (Ac (AT (Z ?_)))))
  replace H:Hd _ _ _ [Y Dy v35 (((List.replicate i BV).map Cz)++[(⟨6,0,0,0,0,⟨none,0,0⟩,⟨none,0,0⟩⟩:Fl)]),blk b34 [.int .i64 6,.int .i64 0,.int .i64 0,.int .i64 0,.int .i64 0,.slice none 0 0,.slice none 0 0] 37,blk b26 [.slice A1 C.J.us.length c2,.int .i64 C.J.parts,.slice A6 C.J.map.length c7,.slice A11 C.J.comb.length c12,.slice A16 C.J.red.length c17,.int .i64 C.J.chunk,.int .i64 C.J.window,.int .i64 C.J.fuel,.slice A21 C.J.marks.length c22,.int .i64 C.w,.int .i64 C.t,.int .i64 C.o] 28] [Aa (Am Ag) (.slice A1 C.J.us.length c2) C.J.us,Aa (Bz Ag) (.slice A1 C.J.us.length c2) ss,Aa Af (.slice A6 C.J.map.length c7) C.J.map,Aa Af (.slice A11 C.J.comb.length c12) C.J.comb,Aa Af (.slice A16 C.J.red.length c17) C.J.red,Aa (Ai .i64) (.slice A21 C.J.marks.length c22) C.J.marks,gl]:=H
  refine Ae (Ad U (V U U (AU (z:=((i+1:Nat):Int)) U U U (by rw [AB (by omega) (by omega)];omega)) (Ad U (Ac ?_))))
  replace H:=H.p2.k2
  replace H:Hd w0 F0 w [blk b26 [.slice A1 C.J.us.length c2,.int .i64 C.J.parts,.slice A6 C.J.map.length c7,.slice A11 C.J.comb.length c12,.slice A16 C.J.red.length c17,.int .i64 C.J.chunk,.int .i64 C.J.window,.int .i64 C.J.fuel,.slice A21 C.J.marks.length c22,.int .i64 C.w,.int .i64 C.t,.int .i64 C.o] 28,Y Dy v35 ((List.replicate (i+1) BV).map Cz)] [Aa (Am Ag) (.slice A1 C.J.us.length c2) C.J.us,Aa (Bz Ag) (.slice A1 C.J.us.length c2) ss,Aa Af (.slice A6 C.J.map.length c7) C.J.map,Aa Af (.slice A11 C.J.comb.length c12) C.J.comb,Aa Af (.slice A16 C.J.red.length c17) C.J.red,Aa (Ai .i64) (.slice A21 C.J.marks.length c22) C.J.marks,gl]:=by rw [List.replicate_succ',List.map_append];exact H
  exact Bf (s:=(i,undef)) (i+1,v35) ⟨rfl,rfl,rfl,rfl,rfl,trivial⟩ ⟨H,by (try dsimp only);omega⟩ (by (try dsimp only);omega)
 refine BD (AM (AM (BE (Z (Ab (Ae (Ad U (Ac (Z (Ab (Ab (Ae (Ad U (Ac (Z (AQ ?_))))))))))))))))
 obtain ⟨A36,c37,rfl,hc38,hm39,hp40⟩:=H.fA 1 rfl
 replace H:Hd _ _ _ [blk b26 [.slice A1 C.J.us.length c2,.int .i64 C.J.parts,.slice A6 C.J.map.length c7,.slice A11 C.J.comb.length c12,.slice A16 C.J.red.length c17,.int .i64 C.J.chunk,.int .i64 C.J.window,.int .i64 C.J.fuel,.slice A21 C.J.marks.length c22,.int .i64 C.w,.int .i64 C.t,.int .i64 C.o] 28,Y Dy (.slice A36 (((List.replicate i BV).map Cz).length) c37) ((List.replicate i BV).map Cz)] [Aa (Am Ag) (.slice A1 C.J.us.length c2) C.J.us,Aa (Bz Ag) (.slice A1 C.J.us.length c2) ss,Aa Af (.slice A6 C.J.map.length c7) C.J.map,Aa Af (.slice A11 C.J.comb.length c12) C.J.comb,Aa Af (.slice A16 C.J.red.length c17) C.J.red,Aa (Ai .i64) (.slice A21 C.J.marks.length c22) C.J.marks,gl]:=H
 refine BL (σ:=Nat×Nat) (fun (m,n)=>[(2,.pointer (some ⟨b26,0,none⟩)),(5,.slice A36 (((List.replicate i BV).map Cz).length) c37),(7,.int .i64 ((n:Nat):Int)),(8,.int .i64 ((m+1:Nat):Int))]) (fun (m,n) w=>(Hd w0 F0 w [blk b26 [.slice A1 C.J.us.length c2,.int .i64 C.J.parts,.slice A6 C.J.map.length c7,.slice A11 C.J.comb.length c12,.slice A16 C.J.red.length c17,.int .i64 C.J.chunk,.int .i64 C.J.window,.int .i64 C.J.fuel,.slice A21 C.J.marks.length c22,.int .i64 C.w,.int .i64 C.t,.int .i64 C.o] 28,Y Dy (.slice A36 (((List.replicate i BV).map Cz).length) c37) ((List.replicate i BV).map Cz)] [Aa (Am Ag) (.slice A1 C.J.us.length c2) C.J.us,Aa (Bz Ag) (.slice A1 C.J.us.length c2) ss,Aa Af (.slice A6 C.J.map.length c7) C.J.map,Aa Af (.slice A11 C.J.comb.length c12) C.J.comb,Aa Af (.slice A16 C.J.red.length c17) C.J.red,Aa (Ai .i64) (.slice A21 C.J.marks.length c22) C.J.marks,gl])∧(((m:Nat):Int)≤C.w)∧(n=Ge C ((m:Nat):Int))) (fun (m,n)=>C.w.toNat - m) (0,0) ⟨rfl,rfl,rfl,rfl,trivial⟩ ⟨H,by (try dsimp only);omega,(ZK hC).symm⟩ ?_
 rintro ⟨m,n⟩ w ⟨H,hm,hn⟩
 have hup:=ZM C ((m:Nat):Int)
 refine Ab (Ab (Ae (Ad U (V U U (Aj U IF U) (V U U (Al U AA U (H.cellI 0 U U)) (V U U (Co U U U) (Ac (Z ?_))))))))
 refine Ax U (fun h41=>?_) (fun h41=>?_)
 ·refine Av (Z (Ab (AQ (Ab (Ae (V U U (Bo (cs:=[.slice A1 C.J.us.length c2,.int .i64 C.J.parts,.slice A6 C.J.map.length c7,.slice A11 C.J.comb.length c12,.slice A16 C.J.red.length c17,.int .i64 C.J.chunk,.int .i64 C.J.window,.int .i64 C.J.fuel,.slice A21 C.J.marks.length c22,.int .i64 C.w,.int .i64 C.t,.int .i64 C.o]) U DC U U (H.cellsI 0 U U)) (Ah 2 U (sc (Rq (.slice A1 C.J.us.length c2) (.slice A6 C.J.map.length c7) (.slice A11 C.J.comb.length c12) (.slice A16 C.J.red.length c17) (.slice A21 C.J.marks.length c22) C ((m+1:Nat):Int) (.slice A36 (((List.replicate i BV).map Cz).length) c37) ((List.replicate i BV)) hC hJ ⟨by omega,by omega⟩ Pu (by simp only [List.length_replicate];omega)) H (lR 0 U (lR 2 U (lR 3 U (lR 4 U (lR 5 U (lX (fun F hA hR=>QA (us:=(List.replicate i BV)) (BI F (hA _ (List.mem_of_getElem? (i:=1) U))) (Pt (n:=i))) l0)))))) U U (Au Pj U U) ?_))))))))
  rintro _ _ w ⟨b42,rfl,rfl⟩ H
  replace H:=H.h1 (A:=BT b42 C (EL C ((m+1:Nat):Int) ((List.replicate i BV))))
  obtain ⟨W0,hW0⟩:∃ z:Di,z=EL C ((m+1:Nat):Int) ((List.replicate i BV)):=⟨_,rfl⟩
  rw [←hW0] at H
  replace H:Hd _ _ _ [BT b42 C W0,blk b26 [.slice A1 C.J.us.length c2,.int .i64 C.J.parts,.slice A6 C.J.map.length c7,.slice A11 C.J.comb.length c12,.slice A16 C.J.red.length c17,.int .i64 C.J.chunk,.int .i64 C.J.window,.int .i64 C.J.fuel,.slice A21 C.J.marks.length c22,.int .i64 C.w,.int .i64 C.t,.int .i64 C.o] 28,Y Dy (.slice A36 (((List.replicate i BV).map Cz).length) c37) ((List.replicate i BV).map Cz)] [Aa (Am Ag) (.slice A1 C.J.us.length c2) C.J.us,Aa (Bz Ag) (.slice A1 C.J.us.length c2) ss,Aa Af (.slice A6 C.J.map.length c7) C.J.map,Aa Af (.slice A11 C.J.comb.length c12) C.J.comb,Aa Af (.slice A16 C.J.red.length c17) C.J.red,Aa (Ai .i64) (.slice A21 C.J.marks.length c22) C.J.marks,gl]:=H
  have hep:W0.ep=((i+1:Nat):Int):=by rw [hW0];exact Vy i
  have hts:W0.ts.length=0:=by rw [hW0];rfl
  have hov:W0.over=false:=by rw [hW0];rfl
  have hrl:W0.rs.length≤C.J.parts.toNat:=by rw [hW0,PR];exact OP _ _ _
  have hWl:W0.rs.length≤1000:=by omega
  have hpl0:(W0.rs.map CW).length=W0.rs.length:=List.length_map ..
  refine Ah 5 U (Ac (Z (Ab (Ab (Ae (Ad U (V U U (C9 U U U) (Ah 2 U (V U U (Dn U Gz U U) (Ah 3 U (sc (Rl b42 C W0) H l0 U U (Au Pm U U) ?_)))))))))))
  rintro _ _ w ⟨rfl,rfl⟩ H
  refine Ad U (V U U (Bc U MR U) (V U U (AU (z:=((((List.replicate i BV).map Cz).length+1:Nat):Int)) U U U (by rw [AB (by omega) (by omega)];omega)) (V U U (C9 U U U) (Ah 2 U ?_))))
  refine AN (d:=60) U (fun h43=>?_) (fun h43=>?_)
  ·exact (h43 (by omega)).elim
  refine Ad U ?_
  replace H:Hd _ _ _ [BT b42 C W0,blk b26 [.slice A1 C.J.us.length c2,.int .i64 C.J.parts,.slice A6 C.J.map.length c7,.slice A11 C.J.comb.length c12,.slice A16 C.J.red.length c17,.int .i64 C.J.chunk,.int .i64 C.J.window,.int .i64 C.J.fuel,.slice A21 C.J.marks.length c22,.int .i64 C.w,.int .i64 C.t,.int .i64 C.o] 28,Y Dy (.slice A36 (((List.replicate i BV).map Cz).length) c37) ((List.replicate i BV).map Cz)] [Aa (Am Ag) (.slice A1 C.J.us.length c2) C.J.us,Aa (Bz Ag) (.slice A1 C.J.us.length c2) ss,Aa Af (.slice A6 C.J.map.length c7) C.J.map,Aa Af (.slice A11 C.J.comb.length c12) C.J.comb,Aa Af (.slice A16 C.J.red.length c17) C.J.red,Aa (Ai .i64) (.slice A21 C.J.marks.length c22) C.J.marks,gl]:=H
  refine sc (Rm b42 C W0) H l0 U U (Au Pl U U) ?_
  rintro _ _ w ⟨rfl,rfl⟩ H
  refine V U U (C9 U U U) (Ah 2 U ?_)
  refine AN (d:=65) U (fun h44=>?_) (fun h44=>?_)
  ·exact (h44 (by omega)).elim
  refine Ad U ?_
  replace H:Hd _ _ _ [BT b42 C W0,blk b26 [.slice A1 C.J.us.length c2,.int .i64 C.J.parts,.slice A6 C.J.map.length c7,.slice A11 C.J.comb.length c12,.slice A16 C.J.red.length c17,.int .i64 C.J.chunk,.int .i64 C.J.window,.int .i64 C.J.fuel,.slice A21 C.J.marks.length c22,.int .i64 C.w,.int .i64 C.t,.int .i64 C.o] 28,Y Dy (.slice A36 (((List.replicate i BV).map Cz).length) c37) ((List.replicate i BV).map Cz)] [Aa (Am Ag) (.slice A1 C.J.us.length c2) C.J.us,Aa (Bz Ag) (.slice A1 C.J.us.length c2) ss,Aa Af (.slice A6 C.J.map.length c7) C.J.map,Aa Af (.slice A11 C.J.comb.length c12) C.J.comb,Aa Af (.slice A16 C.J.red.length c17) C.J.red,Aa (Ai .i64) (.slice A21 C.J.marks.length c22) C.J.marks,gl]:=H
  refine sc (MU b42 C W0) H l0 U U (Au LW U U) ?_
  rintro _ _ w ⟨rfl,rfl⟩ H
  refine Ad U (Ac (Z ?_))
  refine DQ (b:=W0.over) U (fun h45=>?_) (fun h45=>?_)
  ·exact absurd (hov.symm.trans h45) (by decide)
  refine Av (Z (Ab (Ae (Ad U (sc (Z_ b42 C W0 (by first |assumption|omega|(unfold AE;omega))) H l0 U U (Au Vm U U) ?_)))))
  rintro v46 _ w rfl H
  replace H:=H.h1 (A:=Y (Ai .i64) v46 (W0.rs.map CW))
  refine Ad U (Ac (Z (Ab (Ae (Ah 2 U ?_)))))
  obtain ⟨A47,c48,rfl,hc49,hm50,hp51⟩:=H.fA 0 rfl
  refine V U U (Bc U EP U) (V U U (AU (z:=((n+(W0.rs.map CW).length:Nat):Int)) U U U (by rw [AB (by omega) (by omega)];omega)) (Ad U (Ac (Z (Ab (Ab (Ae (Ad U (Ac (Z (AQ ?_)))))))))))
  replace H:=H.p1.p3.p3
  refine BL (σ:=Nat) (fun p=>[(2,.pointer (some ⟨b26,0,none⟩)),(5,.slice A36 (((List.replicate i BV).map Cz).length) c37),(7,.int .i64 ((n+(W0.rs.map CW).length:Nat):Int)),(8,.int .i64 ((m+1:Nat):Int)),(9,.pointer (some ⟨b42,0,none⟩)),(11,.slice A47 ((W0.rs.map CW).length) c48),(12,.int .i64 ((p:Nat):Int))]) (fun p w=>(Hd w0 F0 w [blk b26 [.slice A1 C.J.us.length c2,.int .i64 C.J.parts,.slice A6 C.J.map.length c7,.slice A11 C.J.comb.length c12,.slice A16 C.J.red.length c17,.int .i64 C.J.chunk,.int .i64 C.J.window,.int .i64 C.J.fuel,.slice A21 C.J.marks.length c22,.int .i64 C.w,.int .i64 C.t,.int .i64 C.o] 28,Y Dy (.slice A36 (((List.replicate i BV).map Cz).length) c37) ((List.replicate i BV).map Cz),BT b42 C W0,Y (Ai .i64) (.slice A47 ((W0.rs.map CW).length) c48) (W0.rs.map CW)] [Aa (Am Ag) (.slice A1 C.J.us.length c2) C.J.us,Aa (Bz Ag) (.slice A1 C.J.us.length c2) ss,Aa Af (.slice A6 C.J.map.length c7) C.J.map,Aa Af (.slice A11 C.J.comb.length c12) C.J.comb,Aa Af (.slice A16 C.J.red.length c17) C.J.red,Aa (Ai .i64) (.slice A21 C.J.marks.length c22) C.J.marks,gl])∧(((p:Nat):Int)≤C.J.parts)) (fun p=>C.J.parts.toNat - p) 0 ⟨rfl,rfl,rfl,rfl,rfl,rfl,rfl,trivial⟩ ⟨H,by (try dsimp only);omega⟩ ?_
  rintro p w ⟨H,hp⟩
  refine Ab (Ab (Ae (Ad U (V U U (Aj U CV U) (V U U (Aj U GL U) (V U U (Al U AA U (H.cellI 0 U U)) (V U U (Bb U U U) (Ac (Z ?_)))))))))
  refine Ax U (fun h52=>?_) (fun h52=>?_)
  ·refine Av (Z (Ab (AQ (Ab ?_))))
   have hp64:AE ((p:Nat):Int):=by unfold AE;omega
   have hhas:=Wi (C:=C) (id:=((m+1:Nat):Int)) (recs:=(List.replicate i BV)) (p:=p) (by omega)
   rw [←hW0] at hhas
   refine B3 (.e 0 (.e 1 (.e 4 (.e 5 (.e 7 (.m 2 (.e 3 (.m 6 (.e 8 (.e 9 .z)))))))))) (fun w=>∃ Ar,Hd w0 F0 w (blk b26 [.slice A1 C.J.us.length c2,.int .i64 C.J.parts,.slice A6 C.J.map.length c7,.slice A11 C.J.comb.length c12,.slice A16 C.J.red.length c17,.int .i64 C.J.chunk,.int .i64 C.J.window,.int .i64 C.J.fuel,.slice A21 C.J.marks.length c22,.int .i64 C.w,.int .i64 C.t,.int .i64 C.o] 28::Y Dy (.slice A36 (((List.replicate i BV).map Cz).length) c37) ((List.replicate i BV).map Cz)::BT b42 C W0::Y (Ai .i64) (.slice A47 ((W0.rs.map CW).length) c48) (W0.rs.map CW)::Ar) [Aa (Am Ag) (.slice A1 C.J.us.length c2) C.J.us,Aa (Bz Ag) (.slice A1 C.J.us.length c2) ss,Aa Af (.slice A6 C.J.map.length c7) C.J.map,Aa Af (.slice A11 C.J.comb.length c12) C.J.comb,Aa Af (.slice A16 C.J.red.length c17) C.J.red,Aa (Ai .i64) (.slice A21 C.J.marks.length c22) C.J.marks,gl]) mo (by kernel_rfl) (fun w H=>⟨_,H⟩) H (fun w H=>?_)
   refine At U (At U (Ao U U U (fun w ⟨Ar,H⟩=>Bo (cs:=[.slice A1 C.J.us.length c2,.int .i64 C.J.parts,.slice A6 C.J.map.length c7,.slice A11 C.J.comb.length c12,.slice A16 C.J.red.length c17,.int .i64 C.J.chunk,.int .i64 C.J.window,.int .i64 C.J.fuel,.slice A21 C.J.marks.length c22,.int .i64 C.w,.int .i64 C.t,.int .i64 C.o]) U DC U U (H.cellsI 0 U U)) (At U (At U (AR U ?_)))))
   replace H:=H.p2
   refine sc (aA b42 C W0 ((p:Nat):Int)) H l0 U U (Au Vo U U) ?_
   rintro _ _ w ⟨o53,rfl,rfl,hf54⟩ H
   have hno:=hf54
   rw [hhas] at hno
   replace H:=H.p2.p2
   refine AI ⟨_,H⟩ (Ao U U U (fun w ⟨Ar,H⟩=>I2 U Io U U) (AR U (sc (IH (.slice A1 C.J.us.length c2) (.slice A6 C.J.map.length c7) (.slice A11 C.J.comb.length c12) (.slice A16 C.J.red.length c17) (.slice A21 C.J.marks.length c22) C ((p:Nat):Int) (by first |assumption|omega|(unfold AE;omega))) H (lR 0 U (lR 2 U (lR 3 U (lR 4 U (lR 5 U l0))))) U U (Au IM U U) ?_)))
   rintro _ _ w ⟨rfl,rfl⟩ H
   refine AI ⟨_,H⟩ (Ao U U U (fun w ⟨Ar,H⟩=>A0 U U U) (Ao U U U (fun w ⟨Ar,H⟩=>XC U ZH U U) (BM (Z ?_))))
   refine Ax U (fun h55=>?_) (fun h55=>?_)
   ·exact (h55 (by rw [hno];cases decide (CY C ((p:Nat):Int)=((m+1:Nat):Int))<;>rfl)).elim
   exact Av (AT (Z (Ae (Ad U (V U U (AU (z:=((p+1:Nat):Int)) U U U (by rw [AB (by omega) (by omega)];omega)) (Ad U (Ac (Bf (s:=p) (p+1) ⟨rfl,rfl,rfl,rfl,rfl,rfl,rfl,trivial⟩ ⟨H,by (try dsimp only);omega⟩ (by (try dsimp only);omega)))))))))
  refine BD (AM (AM (BE (Z (Ab (Ae (Ad U (Ac (Z (AQ (BL (σ:=Nat) (fun k=>[(2,.pointer (some ⟨b26,0,none⟩)),(5,.slice A36 (((List.replicate i BV).map Cz).length) c37),(7,.int .i64 ((n+(W0.rs.map CW).length:Nat):Int)),(8,.int .i64 ((m+1:Nat):Int)),(11,.slice A47 ((W0.rs.map CW).length) c48),(13,.int .i64 ((k:Nat):Int))]) (fun k w=>(Hd w0 F0 w [blk b26 [.slice A1 C.J.us.length c2,.int .i64 C.J.parts,.slice A6 C.J.map.length c7,.slice A11 C.J.comb.length c12,.slice A16 C.J.red.length c17,.int .i64 C.J.chunk,.int .i64 C.J.window,.int .i64 C.J.fuel,.slice A21 C.J.marks.length c22,.int .i64 C.w,.int .i64 C.t,.int .i64 C.o] 28,Y Dy (.slice A36 (((List.replicate i BV).map Cz).length) c37) ((List.replicate i BV).map Cz),BT b42 C W0,Y (Ai .i64) (.slice A47 ((W0.rs.map CW).length) c48) (W0.rs.map CW)] [Aa (Am Ag) (.slice A1 C.J.us.length c2) C.J.us,Aa (Bz Ag) (.slice A1 C.J.us.length c2) ss,Aa Af (.slice A6 C.J.map.length c7) C.J.map,Aa Af (.slice A11 C.J.comb.length c12) C.J.comb,Aa Af (.slice A16 C.J.red.length c17) C.J.red,Aa (Ai .i64) (.slice A21 C.J.marks.length c22) C.J.marks,gl])∧(k≤(W0.rs.map CW).length)) (fun k=>(W0.rs.map CW).length - k) 0 ⟨rfl,rfl,rfl,rfl,rfl,rfl,trivial⟩ ⟨H,Nat.zero_le _⟩ ?_)))))))))))
  rintro k w ⟨H,hk⟩
  refine Ab (Ab (Ae (Ah 2 U (V U U (Bc U EP U) (V U U (Bb U U U) (Ac (Z ?_)))))))
  refine Ax U (fun h56=>?_) (fun h56=>?_)
  ·refine Av (Z (Ab (AQ (Ab ?_))))
   obtain ⟨x57,hx58⟩:∃ z9,(W0.rs.map CW)[k]?=some z9:=⟨_,List.getElem?_eq_getElem (show k<(W0.rs.map CW).length by omega)⟩
   have hxa:=Wh (by rw [←hW0];exact hx58)
   have hx64:AE x57:=by have:=hxa.2;unfold AE;omega
   refine B3 (.e 0 (.e 1 (.e 2 (.e 3 (.e 4 (.e 6 (.m 5 (.e 7 (.e 8 (.e 9 (.e 10 (.e 11 (.e 12 (.e 13 (.e 14 (.e 15 (.e 16 (.e 17 (.e 18 (.e 19 (.e 20 (.e 21 (.e 22 (.e 23 .z)))))))))))))))))))))))) (fun w=>∃ Ar,Hd w0 F0 w (blk b26 [.slice A1 C.J.us.length c2,.int .i64 C.J.parts,.slice A6 C.J.map.length c7,.slice A11 C.J.comb.length c12,.slice A16 C.J.red.length c17,.int .i64 C.J.chunk,.int .i64 C.J.window,.int .i64 C.J.fuel,.slice A21 C.J.marks.length c22,.int .i64 C.w,.int .i64 C.t,.int .i64 C.o] 28::Y Dy (.slice A36 (((List.replicate i BV).map Cz).length) c37) ((List.replicate i BV).map Cz)::BT b42 C W0::Y (Ai .i64) (.slice A47 ((W0.rs.map CW).length) c48) (W0.rs.map CW)::Ar) [Aa (Am Ag) (.slice A1 C.J.us.length c2) C.J.us,Aa (Bz Ag) (.slice A1 C.J.us.length c2) ss,Aa Af (.slice A6 C.J.map.length c7) C.J.map,Aa Af (.slice A11 C.J.comb.length c12) C.J.comb,Aa Af (.slice A16 C.J.red.length c17) C.J.red,Aa (Ai .i64) (.slice A21 C.J.marks.length c22) C.J.marks,gl]) mo (by kernel_rfl) (fun w H=>⟨_,H⟩) H (fun w H=>?_)
   refine Ao U U U (fun w ⟨Ar,H⟩=>Bo (cs:=[.slice A1 C.J.us.length c2,.int .i64 C.J.parts,.slice A6 C.J.map.length c7,.slice A11 C.J.comb.length c12,.slice A16 C.J.red.length c17,.int .i64 C.J.chunk,.int .i64 C.J.window,.int .i64 C.J.fuel,.slice A21 C.J.marks.length c22,.int .i64 C.w,.int .i64 C.t,.int .i64 C.o]) U DC U U (H.cellsI 0 U U)) (At U (At U ?_))
   have th59:=H.thA 3 rfl hx58
   refine Ao U U U (fun w ⟨Ar,H⟩=>AY (p:=AS A47+k*1) U DI U U (by omega) (by omega) th59 U) (Ao U U U (fun w ⟨Ar,H⟩=>Al U AA U (H.elA 3 U hx58 (q:=0) U U)) (At U (AR U (sc (IH (.slice A1 C.J.us.length c2) (.slice A6 C.J.map.length c7) (.slice A11 C.J.comb.length c12) (.slice A16 C.J.red.length c17) (.slice A21 C.J.marks.length c22) C x57 (by first |assumption|omega|(unfold AE;omega))) H (lR 0 U (lR 2 U (lR 3 U (lR 4 U (lR 5 U l0))))) U U (Au IM U U) ?_))))
   rintro _ _ w ⟨rfl,rfl⟩ H
   refine AI ⟨_,H⟩ (Ao U U U (fun w ⟨Ar,H⟩=>C9 U U U) (At U ?_))
   refine Ix (d:=106) U (fun h60=>?_) (fun h60=>?_)
   ·exact (h60 hxa.1).elim
   refine At U (Ao U U U (fun w ⟨Ar,H⟩=>Ck U U U) (At U ?_))
   refine Ix (d:=109) U (fun h61=>?_) (fun h61=>?_)
   ·refine At U (At U (Ao U U U (fun w ⟨Ar,H⟩=>Cw (z:=((k:Nat):Int) - 1) U U U (AB (by omega) (by omega))) ?_))
    obtain ⟨x62,hx63⟩:∃ z9,(W0.rs.map CW)[(((k:Nat):Int) - 1).toNat]?=some z9:=⟨_,List.getElem?_eq_getElem (show (((k:Nat):Int) - 1).toNat<(W0.rs.map CW).length by omega)⟩
    have th64:=H.thA 3 rfl hx63
    refine Ao U U U (fun w ⟨Ar,H⟩=>AY (p:=AS A47+((((k:Nat):Int) - 1).toNat)*1) U DI U U (by omega) (by omega) th64 (by omega)) (Ao U U U (fun w ⟨Ar,H⟩=>Al U AA U (H.elA 3 U hx63 (q:=0) U U)) (At U (At U ?_)))
    have th65:=H.thA 3 rfl hx58
    refine Ao U U U (fun w ⟨Ar,H⟩=>AY (p:=AS A47+k*1) U DI U U (by omega) (by omega) th65 U) (Ao U U U (fun w ⟨Ar,H⟩=>Al U AA U (H.elA 3 U hx58 (q:=0) U U)) (Ao U U U (fun w ⟨Ar,H⟩=>CL U U U) (At U (At U (BM (Z ?_))))))
    refine Ax U (fun h66=>?_) (fun h66=>?_)
    ·exact absurd (Wj (C:=C) (id:=((m+1:Nat):Int)) (recs:=(List.replicate i BV)) (i:=((((k:Nat):Int) - 1).toNat)) (j:=k) (by omega) (by rw [←hW0];exact hx63) (by rw [←hW0];exact hx58)) (by omega)
    exact Av (AT (Z (Ae (Ad U (V U U (AU (z:=((k+1:Nat):Int)) U U U (by rw [AB (by omega) (by omega)];omega)) (Ad U (Ac (Bf (s:=k) (k+1) ⟨rfl,rfl,rfl,rfl,rfl,rfl,trivial⟩ ⟨H,by (try dsimp only);omega⟩ (by (try dsimp only);omega)))))))))
   exact At U (At U (At U (At U (At U (At U (At U (At U (At U (At U (At U (At U (BM (Z (B2 U (Av (AT (Z (Ae (Ad U (V U U (AU (z:=((k+1:Nat):Int)) U U U (by rw [AB (by omega) (by omega)];omega)) (Ad U (Ac (Bf (s:=k) (k+1) ⟨rfl,rfl,rfl,rfl,rfl,rfl,trivial⟩ ⟨H,by (try dsimp only);omega⟩ (by (try dsimp only);omega))))))))))))))))))))))))
  refine BD (AM (AM (BE (AT (Z (Ae (Ad U (V U U (AU (z:=((m+1+1:Nat):Int)) U U U (by rw [AB (by omega) (by omega)];omega)) (Ad U (Ac ?_))))))))))
  replace H:=H.k2
  exact Bf (s:=(m,n)) (m+1,n+(W0.rs.map CW).length) ⟨rfl,rfl,rfl,rfl,trivial⟩ ⟨H,by (try dsimp only);omega,by (try dsimp only);rw [List.length_map,hW0,PR,hn];exact (ZN C m).symm⟩ (by (try dsimp only);omega)
 refine BD (AM (AM (BE (Z (Ab (Ae (Ad U (V U U (Aj U CV U) (V U U (Aj U GL U) (V U U (Al U AA U (H.cellI 0 U U)) (V U U (A0 U U U) (Ad U ?_))))))))))))
 refine AN (d:=127) U (fun h67=>?_) (fun h67=>?_)
 ·refine sc (KX) H (lR 6 U l0) U U (Au LV U U) ?_
  rintro _ _ w ⟨rfl,rfl⟩ H
  refine Ah 2 U (Ac (Z (An (Aq U U ?_))))
  replace H:=H.nil
  exact Ak ⟨rfl,rfl⟩ H
 exact (h67 (by have h9:=ZL hC;rw [show C.w=((m:Nat):Int) by omega] at h9;omega)).elim
theorem aJ (vS vM vC vR vK:Value) (ss:List (List Ap)) (map comb red:List BC) (marks:List Int) (parts chunk window fuel:Int) (wj:((∀ x∈ss,(∀ p∈x,p.key.size≤9223372036854775807∧p.val.size≤9223372036854775807)∧x.length≤9223372036854775807)∧ss.length≤9223372036854775807)∧((∀ p∈map,AE p.op∧AE p.a∧p.s.size≤9223372036854775807)∧map.length≤9223372036854775807)∧((∀ p∈comb,AE p.op∧AE p.a∧p.s.size≤9223372036854775807)∧comb.length≤9223372036854775807)∧((∀ p∈red,AE p.op∧AE p.a∧p.s.size≤9223372036854775807)∧red.length≤9223372036854775807)∧(∀ x∈marks,AE x)∧marks.length≤9223372036854775807) (wn:AE parts∧AE chunk∧AE window∧AE fuel) (cw ct co:Int) (wc:AE cw∧AE ct∧AE co) (k1:Int) (g1:AE k1):
  Cn Tryz.prog 15 [.agg #[vS,.int .i64 parts,vM,vC,vR,.int .i64 chunk,.int .i64 window,.int .i64 fuel,vK,.int .i64 cw,.int .i64 ct,.int .i64 co],.int .i64 k1] [] [Aa (Bz Ag) vS ss,Aa Af vM map,Aa Af vC comb,Aa Af vR red,Aa (Ai .i64) vK marks,gl] (fun v Bs=>v=.bool true∧Bs=[]):=
 Cn.heads0 fun us hus=>aI vS vM vC vR vK ⟨⟨us,parts,map,comb,red,chunk,window,fuel,marks⟩,cw,ct,co⟩ ss (fun i hi=>(wj.2.1.1 i hi).2.1) (fun i hi=>(wj.2.2.1.1 i hi).2.1) (fun i hi=>(wj.2.2.2.1.1 i hi).2.1) k1 g1
theorem MT {P:Program} {W:World} {name:String} {g:Nat} {cs:Array Value} (hg:P.globalNamed name=some g) (h:W.var? P name=some cs):E1 W g:=by
 unfold World.var? at h
 rw [hg] at h
 simp only [Option.bind_some] at h
 show g<W.heap.size
 rcases Nat.lt_or_ge g W.heap.size with h'|h'
 ·exact h'
 ·simp [Array.getElem?_eq_none h'] at h
theorem Q3: "*" ++ "errors.errorString" = "*errors.errorString" :=by decide
theorem Qg (u:TypeId) (h:Tryz.prog.typeName? 3 u=some "*errors.errorString"):u=409:=typeName_ptr_named (nm:= "errors.errorString") (by rw [Q3];kernel_rfl) (by kernel_rfl) (by decide) u (by rw [Q3];exact h)
theorem LE:Tryz.prog.globalNamed "internal/strconv.uint64pow10" =some 2:=by kernel_rfl
theorem TN:(Tryz.prog.globals[2]?).map (·.type)=some 406:=by kernel_rfl
theorem LF:Tryz.prog.globalNamed "strconv.ErrSyntax" =some 0:=by kernel_rfl
theorem TO:(Tryz.prog.globals[0]?).map (·.type)=some 370:=by kernel_rfl
theorem LG:Tryz.prog.globalNamed "strconv.ErrRange" =some 1:=by kernel_rfl
theorem TP:(Tryz.prog.globals[1]?).map (·.type)=some 370:=by kernel_rfl
theorem PB:Tryz.prog.underlying 370=some (.interface (Tryz.prog.methodsAt 370)):=by kernel_rfl
theorem VD:Tryz.prog.underlying 406=some (.array 20 270):=by kernel_rfl
theorem VC:Tryz.prog.underlying 270=some (.int .u64):=by kernel_rfl
theorem PC:Tryz.prog.underlying 409=some (.pointer 411):=by kernel_rfl
theorem PD:Tryz.prog.underlying 411=some (.struct #[⟨ "s",9,0,false, "", "errors",0⟩]):=by kernel_rfl
theorem PE:Tryz.prog.underlying 9=some (.string):=by kernel_rfl
theorem Vv:Tryz.prog.cellsOf 270=1:=by kernel_rfl
theorem Vw:Tryz.prog.cellsOf 406=20:=by kernel_rfl
theorem Pp:Tryz.prog.cellsOf 411=1:=by kernel_rfl
theorem Pq:Tryz.prog.cellsOf 9=1:=by kernel_rfl
theorem TD {W:World} (h:laidMet Tryz.prog Rows.checkOrdersRow.laid W):gl.P W (E1 W):=by
 refine ⟨?_,?_,?_⟩
 ·have h0:laidMet Tryz.prog [("internal/strconv.uint64pow10",Lib.tabData .u64 Lib.pow10Tab)] W:=by
   have e:Rows.checkOrdersRow.laid.filter (fun x=>x.1== "internal/strconv.uint64pow10")=[("internal/strconv.uint64pow10",Lib.tabData .u64 Lib.pow10Tab)]:=by kernel_rfl
   have:=h.filter (fun x=>x.1== "internal/strconv.uint64pow10");rw [e] at this;exact this
  have hv:=Lib.tabIs_of_head LE TN VD VC Vv Vw h0
  exact ⟨_,LE,MT LE hv,_,hv,rfl⟩
 ·have h0:laidMet Tryz.prog [("strconv.ErrSyntax",Rows.laid_strconv_ErrSyntax)] W:=by
   have e:Rows.checkOrdersRow.laid.filter (fun x=>x.1== "strconv.ErrSyntax")=[("strconv.ErrSyntax",Rows.laid_strconv_ErrSyntax)]:=by kernel_rfl
   have:=h.filter (fun x=>x.1== "strconv.ErrSyntax");rw [e] at this;exact this
  obtain ⟨a0,s0,hv, -⟩:=laid_sentinel h0 LF TO PB Qg PC PD rfl rfl PE Pp Pq
  exact ⟨_,LF,MT LF hv,_,hv,_,_,rfl⟩
 ·have h0:laidMet Tryz.prog [("strconv.ErrRange",Rows.laid_strconv_ErrRange)] W:=by
   have e:Rows.checkOrdersRow.laid.filter (fun x=>x.1== "strconv.ErrRange")=[("strconv.ErrRange",Rows.laid_strconv_ErrRange)]:=by kernel_rfl
   have:=h.filter (fun x=>x.1== "strconv.ErrRange");rw [e] at this;exact this
  obtain ⟨a0,s0,hv, -⟩:=laid_sentinel h0 LG TP PB Qg PC PD rfl rfl PE Pp Pq
  exact ⟨_,LG,MT LG hv,_,hv,_,_,rfl⟩
end Go.Proofs.YthgehekecfpikaaGreatDoor.X
