/- ReducerRight: texts N8, N9, N10, L2, L3, L5, XWin, XCode, XMpr, XRedR, XFeed, XTold, JS, XF2, SG, L9, XByte, XMprI, joined by a program of ours; what nothing names is left out. -/
import Derived.Test.YthgehekecfpikaaGreatDoorReducerRightQ5
set_option linter.unusedVariables false
set_option linter.unusedSimpArgs false
set_option maxHeartbeats 8000000
namespace Go.Proofs.YthgehekecfpikaaGreatDoor.X
open Go
theorem MM (r:Nat) (vS:Value) (vM:Value) (vC:Value) (vR:Value) (vK:Value) (J:AG) (cw:Int) (ct:Int) (co:Int) (sb:Nat) (R:AC) (sp:Int) (att:Int) (cnt:Int) (h6:J.us.length≤6) (hB:AS 100000 R) (hmk:J.marks.length≤1000):
    Cn Tryz.prog 49 [.pointer (some ⟨r,0,none⟩),.int .i64 sp,.int .i64 att,.int .i64 cnt] [Bn r vS vM vC vR vK J cw ct co sb R] [] (fun v Bs=>∃ rs:List AX,Bs=[Y Bp v rs,Bn r vS vM vC vR vK J cw ct co sb ((Dp J ct R sp att cnt).1)]∧(rs.map AX.p=(Dp J ct R sp att cnt).2)):=by
 intro w0 F0 H
 obtain ⟨hv1,vs2,us3,hsets4,H⟩:=EY r vS vM vC vR vK J cw ct co sb R H
 replace H:Hd _ _ _ [blk r (AJ vS vM vC vR vK J cw ct co R.part R.ep R.g hv1 sb vs2) 185,Y (Ak Ag) vS J.us,Y Af vM J.map,Y Af vC J.comb,Y Af vR J.red,Y (Ai .i64) vK J.marks,AO (R.g) hv1,Y (Ak (Ai .i64)) vs2 us3,AV 253 sb (R.st)] []:=H
 obtain ⟨A5,c6,rfl,hc7,hm8,hp9⟩:=H.fA 1 rfl
 refine enter Tryz.func49 U U (Nat.le_of_ble_eq_true U) (Ab (Ae (Ad U (Ac (Z (Ab ?_))))))
 by_cases hin10:0≤sp∧sp<((J.us.length:Nat):Int)
 ·refine Ae (Ah 2 U (sc (JK r A5 J.us.length c6 vM vC vR vK J cw ct co R.part R.ep R.g hv1 sb vs2 sp (by first |assumption|omega) (by first |assumption|omega)) H (lA 0 U (fun _ h=>h) l0) U U (At G3 U U) ?_))
  rintro _ _ w ⟨rfl,rfl⟩ H
  refine Ad U (Ac (Z (Ab (Ab (Ae (Ad U (V U U (C5 U Hn U U) (Ah 2 U (V U U (AI U U) (V U U (Aj U FL U) (V U U (Ao U DE U (H.cellI 0 U (GF (by omega)))) (Ah 2 U ?_))))))))))))
  refine Es (d:=21) (b:=(R.g ((sp).toNat)).merged) U (fun h11=>?_) (fun h11=>?_)
  ·refine Ah 12 U (Ah 6 U (Ac (Z (B8 U (Ab (Ae (Ad U (Ac (Z (Ap (AA (Aq U U ?_))))))))))))
   have e:Dp J ct R sp att cnt=(R,[]):=if_pos (.inr (.inl (by simpa using h11)))
   replace H:=H.newnil Bp|>.p9|>.p9|>.p9|>.p9|>.p9|>.p9|>.p9|>.p9|>.p9
   replace H:=Cx r (.slice A5 J.us.length c6) vM vC vR vK J cw ct co sb R hv1 vs2 us3 hsets4 H
   replace H:=H.h1 (A:=Bn r (.slice A5 J.us.length c6) vM vC vR vK J cw ct co sb R)|>.p1
   exact Am ⟨[],by rw [e]<;>rfl,by rw [e];rfl⟩ H
  refine Ad U (V U U (AI U U) (V U U (Aj U LC U) (V U U (Ao U DE U (H.cellI 0 U (QL (by omega)))) (Ah 2 U ?_))))
  refine Es (d:=27) (b:=(R.g ((sp).toNat)).told) U (fun h12=>?_) (fun h12=>?_)
  ·refine Ah 12 U (Ac (Z (B8 U (Ab (Ae (Ad U (Ac (Z (Ap (AA (Aq U U ?_)))))))))))
   have e:Dp J ct R sp att cnt=(R,[]):=if_pos (.inr (.inr (.inl (by simpa using h12))))
   replace H:=H.newnil Bp|>.p9|>.p9|>.p9|>.p9|>.p9|>.p9|>.p9|>.p9|>.p9
   replace H:=Cx r (.slice A5 J.us.length c6) vM vC vR vK J cw ct co sb R hv1 vs2 us3 hsets4 H
   replace H:=H.h1 (A:=Bn r (.slice A5 J.us.length c6) vM vC vR vK J cw ct co sb R)|>.p1
   exact Am ⟨[],by rw [e]<;>rfl,by rw [e];rfl⟩ H
  refine Ad U (V U U (Bd U U U) (Ah 2 U ?_))
  refine AU (d:=31) U (fun h13=>?_) (fun h13=>?_)
  ·refine Ah 8 U (Ac (Z (B8 U (Ab (Ae (Ad U (Ac (Z (Ap (AA (Aq U U ?_)))))))))))
   have e:Dp J ct R sp att cnt=(R,[]):=if_pos (.inr (.inr (.inr (.inl h13))))
   replace H:=H.newnil Bp|>.p9|>.p9|>.p9|>.p9|>.p9|>.p9|>.p9|>.p9|>.p9
   replace H:=Cx r (.slice A5 J.us.length c6) vM vC vR vK J cw ct co sb R hv1 vs2 us3 hsets4 H
   replace H:=H.h1 (A:=Bn r (.slice A5 J.us.length c6) vM vC vR vK J cw ct co sb R)|>.p1
   exact Am ⟨[],by rw [e]<;>rfl,by rw [e];rfl⟩ H
  refine Ah 2 U (V U U (AI U U) (V U U (Aj U Gs U) (V U U (Aj U Jc U) (V U U (Ao U AE U (H.cellI 0 U U)) (V U U (Ca U U U) (Ad U (Ac (Z ?_))))))))
  refine Az U (fun h14=>?_) (fun h14=>?_)
  ·refine Ab (Ae (Ad U (Ac (Z (Ap (AA (Aq U U ?_)))))))
   have e:Dp J ct R sp att cnt=(R,[]):=if_pos (.inr (.inr (.inr (.inr (by omega)))))
   replace H:=H.newnil Bp|>.p9|>.p9|>.p9|>.p9|>.p9|>.p9|>.p9|>.p9|>.p9
   replace H:=Cx r (.slice A5 J.us.length c6) vM vC vR vK J cw ct co sb R hv1 vs2 us3 hsets4 H
   replace H:=H.h1 (A:=Bn r (.slice A5 J.us.length c6) vM vC vR vK J cw ct co sb R)|>.p1
   exact Am ⟨[],by rw [e]<;>rfl,by rw [e];rfl⟩ H
  refine Aw (Z (Ab (Ae (Ah 5 U (V U U (AI U U) (V U U (Aj U LC U) (Bo U U U DE U U H U (by show 14+((sp).toNat)*5+2+1≤46;omega) (fun u hu=>by simp [Value.cells] at hu;subst hu;rfl) (fun w H=>?_))))))))
  replace H:Hd w0 F0 w [blk r (AJ (.slice A5 J.us.length c6) vM vC vR vK J cw ct co R.part R.ep (AQ R.g ((sp).toNat) { R.g ((sp).toNat) with told:=true }) hv1 sb vs2) 185,Y (Ak Ag) (.slice A5 J.us.length c6) J.us,Y Af vM J.map,Y Af vC J.comb,Y Af vR J.red,Y (Ai .i64) vK J.marks,AO (R.g) hv1,Y (Ak (Ai .i64)) vs2 us3,AV 253 sb (R.st)] []:=by rw [←Yx (show (sp).toNat<6 by omega) true];exact H
  refine V U U (AI U U) (V U U (Aj U LD U) (Bo U U U AE U U H U (by show 14+((sp).toNat)*5+3+1≤46;omega) (fun u hu=>by simp [Value.cells] at hu;subst hu;rfl) (fun w H=>?_)))
  replace H:Hd w0 F0 w [blk r (AJ (.slice A5 J.us.length c6) vM vC vR vK J cw ct co R.part R.ep (AQ (AQ R.g ((sp).toNat) { R.g ((sp).toNat) with told:=true }) ((sp).toNat) { (AQ R.g ((sp).toNat) { R.g ((sp).toNat) with told:=true }) ((sp).toNat) with att:=att }) hv1 sb vs2) 185,Y (Ak Ag) (.slice A5 J.us.length c6) J.us,Y Af vM J.map,Y Af vC J.comb,Y Af vR J.red,Y (Ai .i64) vK J.marks,AO (R.g) hv1,Y (Ak (Ai .i64)) vs2 us3,AV 253 sb (R.st)] []:=by rw [←Yy (show (sp).toNat<6 by omega) att];exact H
  refine V U U (AI U U) (V U U (Aj U Ou U) (Bo U U U AE U U H U (by show 14+((sp).toNat)*5+4+1≤46;omega) (fun u hu=>by simp [Value.cells] at hu;subst hu;rfl) (fun w H=>?_)))
  replace H:Hd w0 F0 w [blk r (AJ (.slice A5 J.us.length c6) vM vC vR vK J cw ct co R.part R.ep (AQ (AQ (AQ R.g ((sp).toNat) { R.g ((sp).toNat) with told:=true }) ((sp).toNat) { (AQ R.g ((sp).toNat) { R.g ((sp).toNat) with told:=true }) ((sp).toNat) with att:=att }) ((sp).toNat) { (AQ (AQ R.g ((sp).toNat) { R.g ((sp).toNat) with told:=true }) ((sp).toNat) { (AQ R.g ((sp).toNat) { R.g ((sp).toNat) with told:=true }) ((sp).toNat) with att:=att }) ((sp).toNat) with cnt:=cnt }) hv1 sb vs2) 185,Y (Ak Ag) (.slice A5 J.us.length c6) J.us,Y Af vM J.map,Y Af vC J.comb,Y Af vR J.red,Y (Ai .i64) vK J.marks,AO (R.g) hv1,Y (Ak (Ai .i64)) vs2 us3,AV 253 sb (R.st)] []:=by rw [←Yz (show (sp).toNat<6 by omega) cnt];exact H
  refine Ac (Z (Ab ?_))
  rw [show AQ (AQ (AQ R.g ((sp).toNat) { R.g ((sp).toNat) with told:=true }) ((sp).toNat) { (AQ R.g ((sp).toNat) { R.g ((sp).toNat) with told:=true }) ((sp).toNat) with att:=att }) ((sp).toNat) { (AQ (AQ R.g ((sp).toNat) { R.g ((sp).toNat) with told:=true }) ((sp).toNat) { (AQ R.g ((sp).toNat) { R.g ((sp).toNat) with told:=true }) ((sp).toNat) with att:=att }) ((sp).toNat) with cnt:=cnt }=AQ R.g (sp).toNat { R.g (sp).toNat with told:=true,att:=att,cnt:=cnt } from by simp only [Ze,DR]] at H
  replace H:Hd _ _ _ [blk r (AJ (.slice A5 J.us.length c6) vM vC vR vK J cw ct co R.part R.ep (AQ R.g (sp).toNat { R.g (sp).toNat with told:=true,att:=att,cnt:=cnt }) hv1 sb vs2) 185,Y (Ak Ag) (.slice A5 J.us.length c6) J.us,Y Af vM J.map,Y Af vC J.comb,Y Af vR J.red,Y (Ai .i64) vK J.marks,AO (R.g) hv1,Y (Ak (Ai .i64)) vs2 us3,AV 253 sb (R.st)] []:=H
  rw [XO (g:=R.g) (g':=AQ R.g (sp).toNat { R.g (sp).toNat with told:=true,att:=att,cnt:=cnt }) (Rd rfl)] at H
  replace H:Hd _ _ _ [blk r (AJ (.slice A5 J.us.length c6) vM vC vR vK J cw ct co R.part R.ep (AQ R.g (sp).toNat { R.g (sp).toNat with told:=true,att:=att,cnt:=cnt }) hv1 sb vs2) 185,Y (Ak Ag) (.slice A5 J.us.length c6) J.us,Y Af vM J.map,Y Af vC J.comb,Y Af vR J.red,Y (Ai .i64) vK J.marks,AO (AQ R.g (sp).toNat { R.g (sp).toNat with told:=true,att:=att,cnt:=cnt }) hv1,Y (Ak (Ai .i64)) vs2 us3,AV 253 sb (R.st)] []:=H
  have hB2:AS 100000 ({ R with g:=AQ R.g (sp).toNat { R.g (sp).toNat with told:=true,att:=att,cnt:=cnt } }:AC):=⟨fun i=>by show (AQ R.g (sp).toNat { R.g (sp).toNat with told:=true,att:=att,cnt:=cnt } i).pairs.length≤1000;rw [←Rd (k:=(sp).toNat) (x:={ R.g (sp).toNat with told:=true,att:=att,cnt:=cnt }) rfl];exact hB.pairs i,hB.st,hB.sets,hB.setl⟩
  replace H:=H.h9 (A:=blk r (AJ (.slice A5 J.us.length c6) vM vC vR vK J cw ct co (({ R with g:=AQ R.g (sp).toNat { R.g (sp).toNat with told:=true,att:=att,cnt:=cnt } }:AC).part) (({ R with g:=AQ R.g (sp).toNat { R.g (sp).toNat with told:=true,att:=att,cnt:=cnt } }:AC).ep) (({ R with g:=AQ R.g (sp).toNat { R.g (sp).toNat with told:=true,att:=att,cnt:=cnt } }:AC).g) hv1 sb vs2) 185) (G:=AO (({ R with g:=AQ R.g (sp).toNat { R.g (sp).toNat with told:=true,att:=att,cnt:=cnt } }:AC).g) hv1) (J:=AV 253 sb (({ R with g:=AQ R.g (sp).toNat { R.g (sp).toNat with told:=true,att:=att,cnt:=cnt } }:AC).st))
  replace H:=Cx r (.slice A5 J.us.length c6) vM vC vR vK J cw ct co sb ({ R with g:=AQ R.g (sp).toNat { R.g (sp).toNat with told:=true,att:=att,cnt:=cnt } }:AC) hv1 vs2 us3 hsets4 H
  replace H:=H.h1 (A:=Bn r (.slice A5 J.us.length c6) vM vC vR vK J cw ct co sb ({ R with g:=AQ R.g (sp).toNat { R.g (sp).toNat with told:=true,att:=att,cnt:=cnt } }:AC))
  refine Ae (Ah 3 U (sc (PF r (.slice A5 J.us.length c6) vM vC vR vK J cw ct co sb ({ R with g:=AQ R.g (sp).toNat { R.g (sp).toNat with told:=true,att:=att,cnt:=cnt } }:AC) sp (by first |assumption|omega) (by first |assumption|omega) (by first |assumption|omega) (by first |assumption|omega)) H l0 U U (At O1 U U) ?_))
  rintro v17 _ w ⟨rs15,rfl,hf16⟩ H
  replace H:=H.h2 (A:=Y Bp v17 rs15) (B:=Bn r (.slice A5 J.us.length c6) vM vC vR vK J cw ct co sb ((CZ J ({ R with g:=AQ R.g (sp).toNat { R.g (sp).toNat with told:=true,att:=att,cnt:=cnt } }:AC) (sp).toNat).1))
  refine Ad U (Ac (Z (Ap (Aq U U ?_))))
  have e:Dp J ct R sp att cnt=CZ J ({ R with g:=AQ R.g (sp).toNat { R.g (sp).toNat with told:=true,att:=att,cnt:=cnt } }:AC) (sp).toNat:=if_neg (fun h=>by rcases h with h|h|h|h|h;exact h hin10;exact absurd h (by rw [h11];decide);exact absurd h (by rw [h12];decide);omega;omega)
  exact Am ⟨rs15,by rw [e]<;>rfl,by rw [e];exact hf16⟩ H
 refine Ae (Ah 2 U (sc (JJ r A5 J.us.length c6 vM vC vR vK J cw ct co R.part R.ep R.g hv1 sb vs2 sp (by first |assumption|omega)) H (lA 0 U (fun _ h=>h) l0) U U (At G3 U U) ?_))
 rintro _ _ w ⟨rfl,rfl⟩ H
 refine Ad U (Ac (Z (Ab (Ab (Ae (Ad U (V U U (C5 U Hn U U) (Ah 12 U (Ah 12 U (Ad U (Ac (Z (B8 U (Ab (Ae (Ad U (Ac (Z (Ap (AA (Aq U U ?_)))))))))))))))))))))
 have e:Dp J ct R sp att cnt=(R,[]):=if_pos (.inl hin10)
 replace H:=H.newnil Bp|>.p9|>.p9|>.p9|>.p9|>.p9|>.p9|>.p9|>.p9|>.p9
 replace H:=Cx r (.slice A5 J.us.length c6) vM vC vR vK J cw ct co sb R hv1 vs2 us3 hsets4 H
 replace H:=H.h1 (A:=Bn r (.slice A5 J.us.length c6) vM vC vR vK J cw ct co sb R)|>.p1
 exact Am ⟨[],by rw [e]<;>rfl,by rw [e];rfl⟩ H
theorem Q2 (r:Nat) (vS:Value) (vM:Value) (vC:Value) (vR:Value) (vK:Value) (J:AG) (cw:Int) (ct:Int) (co:Int) (sb:Nat) (R:AC) (m:Bt) (vset:Value) (vps:Value) (h6:J.us.length≤6) (hB:AS 99999 R) (hmk:J.marks.length≤1000):
    Cn Tryz.prog 50 [.pointer (some ⟨r,0,none⟩),.agg #[.int .i64 m.kind,.int .i64 m.sp,.int .i64 m.att,.int .i64 m.part,.int .i64 m.seq,.int .i64 m.next,.int .i64 m.ep,.int .i64 m.why,vset,vps]] [Bn r vS vM vC vR vK J cw ct co sb R] [Aa (Ai .i64) vset m.set,Aa Ag vps m.pairs] (fun v Bs=>∃ u:Value,∃ rs:List AX,v=.tuple #[.agg #[.int .i64 (((Bm J R m).2.1).kind),.int .i64 (((Bm J R m).2.1).sp),.int .i64 (((Bm J R m).2.1).att),.int .i64 (((Bm J R m).2.1).part),.int .i64 (((Bm J R m).2.1).seq),.int .i64 (((Bm J R m).2.1).next),.int .i64 (((Bm J R m).2.1).ep),.int .i64 (((Bm J R m).2.1).why),.slice none 0 0,.slice none 0 0],u]∧Bs=[Y Bp u rs,Bn r vS vM vC vR vK J cw ct co sb ((Bm J R m).1)]∧(rs.map AX.p=(Bm J R m).2.2)):=by
 intro w0 F0 H
 obtain ⟨A1,c2,rfl,hc3,hm4,hp5⟩:=H.fR 0 rfl
 obtain ⟨A6,c7,rfl,hc8,hm9,hp10⟩:=H.fR 1 rfl
 replace H:Hd _ _ _ [Bn r vS vM vC vR vK J cw ct co sb R] [Aa (Ai .i64) (.slice A1 m.set.length c2) m.set,Aa Ag (.slice A6 m.pairs.length c7) m.pairs]:=H
 obtain ⟨hv11,vs12,us13,hsets14,H⟩:=EY r vS vM vC vR vK J cw ct co sb R H
 replace H:=H.h9 (A:=blk r (AJ vS vM vC vR vK J cw ct co R.part R.ep R.g hv11 sb vs12) 185) (B:=Y (Ak Ag) vS J.us) (C:=Y Af vM J.map) (D:=Y Af vC J.comb) (E:=Y Af vR J.red) (F:=Y (Ai .i64) vK J.marks) (G:=AO (R.g) hv11) (I:=Y (Ak (Ai .i64)) vs12 us13) (J:=AV 253 sb (R.st))
 obtain ⟨A15,c16,rfl,hc17,hm18,hp19⟩:=H.fA 1 rfl
 refine enter Tryz.func50 U U (Nat.le_of_ble_eq_true U) (Ab (Ae (Cy U U U U H (fun b20 w H=>(Dr U U U K8 H (fun b21 w H=>?_))))))
 replace H:=H.h2 (A:=blk b21 [.int .i64 0,.int .i64 0,.int .i64 0,.int .i64 0,.int .i64 0,.int .i64 0,.int .i64 0,.int .i64 0,.slice none 0 0,.slice none 0 0] 64) (B:=blk b20 [.int .i64 m.kind,.int .i64 m.sp,.int .i64 m.att,.int .i64 m.part,.int .i64 m.seq,.int .i64 m.next,.int .i64 m.ep,.int .i64 m.why,.slice A1 m.set.length c2,.slice A6 m.pairs.length c7] 64)
 refine Ad U (Ac (Z (Ab ?_)))
 by_cases hin22:0≤m.sp∧m.sp<((J.us.length:Nat):Int)
 ·refine Ae (Ad U (V U U (Aj U F_ U) (V U U (Ao U AE U (H.cellI 1 U U)) (sc (JK r A15 J.us.length c16 vM vC vR vK J cw ct co R.part R.ep R.g hv11 sb vs12 m.sp (by first |assumption|omega) (by first |assumption|omega)) H (lA 2 U (fun _ h=>h) l0) U U (At G3 U U) ?_))))
  rintro _ _ w ⟨rfl,rfl⟩ H
  refine Ad U (Ac (Z (Ab (Ab (F8 mo (by kernel_rfl) H (DV U (Bw U U (fun w H=>C5 U Hn U U) (DV U (Bw U U (fun w H=>Aj U OE U) (Bw U U (fun w H=>Ao U AE U (H.cellI 1 U U)) (Bw U U (fun w H=>CN U U U) (Gi 2 U ?_))))))))))))
  refine Z9 (d:=20) U (fun h23=>?_) (fun h23=>?_)
  ·refine Gi 8 U (FX (fun w H=>(Z (B8 U (Ab (Ae (V U U (CM (parts:=[]) (vs:=[]) (cs:=[.int .i64 0,.int .i64 0,.int .i64 0,.int .i64 0,.int .i64 0,.int .i64 0,.int .i64 0,.int .i64 0,.slice none 0 0,.slice none 0 0]) U H_ U U) (Bo U U U CR U U H U (Nat.le_of_ble_eq_true U) (fun u hu=>by simp [Value.cells] at hu;rcases hu with rfl|rfl|rfl|rfl|rfl|rfl|rfl|rfl|rfl|rfl<;>rfl) (fun w H=>(Ad U (Ac (Z (Ap (AA (FR (cs:=[.int .i64 0,.int .i64 0,.int .i64 0,.int .i64 0,.int .i64 0,.int .i64 0,.int .i64 0,.int .i64 0,.slice none 0 0,.slice none 0 0]) (v:=.slice none 0 0) U U U CR U (H.cellsI 0 U U) ?_)))))))))))))))
   have e:Bm J R m=(R,Jm,[]):=MD (.inr (.inl (by omega)))
   replace H:=H.newnil Bp|>.pick 11 rfl|>.pick 11 rfl|>.pick 11 rfl|>.pick 11 rfl|>.pick 11 rfl|>.pick 11 rfl|>.pick 11 rfl|>.pick 11 rfl|>.pick 11 rfl|>.k10
   replace H:=Cx r (.slice A15 J.us.length c16) vM vC vR vK J cw ct co sb R hv11 vs12 us13 hsets14 H
   replace H:=H.h1 (A:=Bn r (.slice A15 J.us.length c16) vM vC vR vK J cw ct co sb R)|>.p1
   exact Am ⟨(.slice none 0 0),[],by rw [e]<;>rfl,by rw [e]<;>rfl,by rw [e];rfl⟩ H
  refine Bw U U (fun w H=>Aj U Ua U) (Bw U U (fun w H=>Ao U AE U (H.cellI 1 U U)) (DV U (Bw U U (fun w H=>AI U U) (Bw U U (fun w H=>Aj U Ii U) (Bw U U (fun w H=>Ao U AE U (H.cellI 2 U U)) (Bw U U (fun w H=>CN U U U) (DV U (FX (fun w H=>(Z ?_))))))))))
  refine Az U (fun h24=>?_) (fun h24=>?_)
  ·refine Ab (Ae (V U U (CM (parts:=[]) (vs:=[]) (cs:=[.int .i64 0,.int .i64 0,.int .i64 0,.int .i64 0,.int .i64 0,.int .i64 0,.int .i64 0,.int .i64 0,.slice none 0 0,.slice none 0 0]) U H_ U U) (Bo U U U CR U U H U (Nat.le_of_ble_eq_true U) (fun u hu=>by simp [Value.cells] at hu;rcases hu with rfl|rfl|rfl|rfl|rfl|rfl|rfl|rfl|rfl|rfl<;>rfl) (fun w H=>?_))))
   replace H:Hd _ _ _ [blk b21 [.int .i64 0,.int .i64 0,.int .i64 0,.int .i64 0,.int .i64 0,.int .i64 0,.int .i64 0,.int .i64 0,.slice none 0 0,.slice none 0 0] 64,blk b20 [.int .i64 m.kind,.int .i64 m.sp,.int .i64 m.att,.int .i64 m.part,.int .i64 m.seq,.int .i64 m.next,.int .i64 m.ep,.int .i64 m.why,.slice A1 m.set.length c2,.slice A6 m.pairs.length c7] 64,blk r (AJ (.slice A15 J.us.length c16) vM vC vR vK J cw ct co R.part R.ep R.g hv11 sb vs12) 185,Y (Ak Ag) (.slice A15 J.us.length c16) J.us,Y Af vM J.map,Y Af vC J.comb,Y Af vR J.red,Y (Ai .i64) vK J.marks,AO (R.g) hv11,Y (Ak (Ai .i64)) vs12 us13,AV 253 sb (R.st)] [Aa (Ai .i64) (.slice A1 m.set.length c2) m.set,Aa Ag (.slice A6 m.pairs.length c7) m.pairs]:=H
   refine Ad U (Ac (Z (Ap (AA (FR (cs:=[.int .i64 0,.int .i64 0,.int .i64 0,.int .i64 0,.int .i64 0,.int .i64 0,.int .i64 0,.int .i64 0,.slice none 0 0,.slice none 0 0]) (v:=.slice none 0 0) U U U CR U (H.cellsI 0 U U) ?_)))))
   have e:Bm J R m=(R,Jm,[]):=MD (.inr (.inr (by omega)))
   replace H:=H.newnil Bp|>.pick 11 rfl|>.pick 11 rfl|>.pick 11 rfl|>.pick 11 rfl|>.pick 11 rfl|>.pick 11 rfl|>.pick 11 rfl|>.pick 11 rfl|>.pick 11 rfl|>.k10
   replace H:=Cx r (.slice A15 J.us.length c16) vM vC vR vK J cw ct co sb R hv11 vs12 us13 hsets14 H
   replace H:=H.h1 (A:=Bn r (.slice A15 J.us.length c16) vM vC vR vK J cw ct co sb R)|>.p1
   exact Am ⟨(.slice none 0 0),[],by rw [e]<;>rfl,by rw [e]<;>rfl,by rw [e];rfl⟩ H
  refine Aw (Z (Ab (BP (.e 0 (.e 1 (.e 2 (.e 3 (.e 4 (.e 5 (.e 6 (.e 7 (.e 8 (.e 9 (.e 10 (.e 11 (.e 12 (.m 13 (.m 14 .z))))))))))))))) (fun w=>∃ Ar,Hd w0 F0 w (blk b21 [.int .i64 0,.int .i64 0,.int .i64 0,.int .i64 0,.int .i64 0,.int .i64 0,.int .i64 0,.int .i64 0,.slice none 0 0,.slice none 0 0] 64::blk b20 [.int .i64 m.kind,.int .i64 m.sp,.int .i64 m.att,.int .i64 m.part,.int .i64 m.seq,.int .i64 m.next,.int .i64 m.ep,.int .i64 m.why,.slice A1 m.set.length c2,.slice A6 m.pairs.length c7] 64::blk r (AJ (.slice A15 J.us.length c16) vM vC vR vK J cw ct co R.part R.ep R.g hv11 sb vs12) 185::Y (Ak Ag) (.slice A15 J.us.length c16) J.us::Y Af vM J.map::Y Af vC J.comb::Y Af vR J.red::Y (Ai .i64) vK J.marks::AO (R.g) hv11::Y (Ak (Ai .i64)) vs12 us13::AV 253 sb (R.st)::Ar) [Aa (Ai .i64) (.slice A1 m.set.length c2) m.set,Aa Ag (.slice A6 m.pairs.length c7) m.pairs]) mo (by kernel_rfl) (fun w H=>⟨_,H⟩) H (fun w H=>?_))))
  refine An U U U (fun w ⟨Ar,H⟩=>Aj U F_ U) (An U U U (fun w ⟨Ar,H⟩=>Ao U AE U (H.cellI 1 U U)) (An U U U (fun w ⟨Ar,H⟩=>Aj U HG U) (An U U U (fun w ⟨Ar,H⟩=>Ao U AE U (H.cellI 1 U U)) (Au U (An U U U (fun w ⟨Ar,H⟩=>AI U U) (An U U U (fun w ⟨Ar,H⟩=>Aj U Ii U) (An U U U (fun w ⟨Ar,H⟩=>Ao U AE U (H.cellI 2 U U)) (Au U (An U U U (fun w ⟨Ar,H⟩=>AI U U) (An U U U (fun w ⟨Ar,H⟩=>Aj U T1 U) (An U U U (fun w ⟨Ar,H⟩=>Ao U AE U (H.cellI 2 U U)) (An U U U (fun w ⟨Ar,H⟩=>CM (parts:=[(0,.const (.int .i64 3)),(1,.tmp 31),(2,.tmp 33),(3,.tmp 37),(6,.tmp 41)]) (vs:=[.int .i64 3,.int .i64 m.sp,.int .i64 m.att,.int .i64 R.part,.int .i64 R.ep]) (cs:=[.int .i64 3,.int .i64 m.sp,.int .i64 m.att,.int .i64 R.part,.int .i64 0,.int .i64 0,.int .i64 R.ep,.int .i64 0,.slice none 0 0,.slice none 0 0]) U H_ U U) ?_))))))))))))
  refine AK U (Dr U U U K8 H (fun b25 w H=>?_))
  replace H:Hd _ _ _ [blk b25 [.int .i64 0,.int .i64 0,.int .i64 0,.int .i64 0,.int .i64 0,.int .i64 0,.int .i64 0,.int .i64 0,.slice none 0 0,.slice none 0 0] 64,blk b21 [.int .i64 0,.int .i64 0,.int .i64 0,.int .i64 0,.int .i64 0,.int .i64 0,.int .i64 0,.int .i64 0,.slice none 0 0,.slice none 0 0] 64,blk b20 [.int .i64 m.kind,.int .i64 m.sp,.int .i64 m.att,.int .i64 m.part,.int .i64 m.seq,.int .i64 m.next,.int .i64 m.ep,.int .i64 m.why,.slice A1 m.set.length c2,.slice A6 m.pairs.length c7] 64,blk r (AJ (.slice A15 J.us.length c16) vM vC vR vK J cw ct co R.part R.ep R.g hv11 sb vs12) 185,Y (Ak Ag) (.slice A15 J.us.length c16) J.us,Y Af vM J.map,Y Af vC J.comb,Y Af vR J.red,Y (Ai .i64) vK J.marks,AO (R.g) hv11,Y (Ak (Ai .i64)) vs12 us13,AV 253 sb (R.st)] [Aa (Ai .i64) (.slice A1 m.set.length c2) m.set,Aa Ag (.slice A6 m.pairs.length c7) m.pairs]:=H
  replace H:=H.pick 11 rfl|>.pick 11 rfl|>.pick 11 rfl|>.pick 11 rfl|>.pick 11 rfl|>.pick 11 rfl|>.pick 11 rfl|>.pick 11 rfl|>.pick 11 rfl|>.pick 11 rfl|>.pick 11 rfl
  refine AH ⟨_,H⟩ (AK U ?_)
  replace H:=H.pick 11 rfl
  refine Bo U U U CR U U H U (Nat.le_of_ble_eq_true U) (fun u hu=>by simp [Value.cells] at hu;rcases hu with rfl|rfl|rfl|rfl|rfl|rfl|rfl|rfl|rfl|rfl<;>rfl) (fun w H=>?_)
  replace H:=H.h1 (A:=blk b25 [.int .i64 3,.int .i64 m.sp,.int .i64 m.att,.int .i64 R.part,.int .i64 0,.int .i64 0,.int .i64 R.ep,.int .i64 0,.slice none 0 0,.slice none 0 0] 64)|>.pick 11 rfl|>.pick 11 rfl|>.pick 11 rfl|>.pick 11 rfl|>.pick 11 rfl|>.pick 11 rfl|>.pick 11 rfl|>.pick 11 rfl|>.pick 11 rfl|>.pick 11 rfl|>.pick 11 rfl
  refine AH ⟨_,H⟩ (BH (Z (Ab (Ae (Ad U (Ac (Z (Ab (Ab (Ae (Ad U (V U U (AI U U) (V U U (Aj U FL U) (V U U (Ao U DE U (H.cellI 2 U (GF (by omega)))) (V U U (Ep U U U) (Ad U ?_))))))))))))))))
  refine Es (d:=48) (b:=!((R.g ((m.sp).toNat)).merged)) U (fun h26=>?_) (fun h26=>?_)
  ·refine V U U (Aj U LJ U) (V U U (Ao U DU U (H.cellI 1 U U)) (V U U (A8 U CH U) (V U U (Ci U U U) (Ah 2 U ?_))))
   refine AU (d:=54) U (fun h27=>?_) (fun h27=>?_)
   ·refine V U U (Aj U LJ U) (V U U (Ao U DU U (H.cellI 1 U U)) (sc (Qa (.slice A6 m.pairs.length c7) m.pairs) H (lR 1 U l0) U U (At O2 U U) ?_))
    rintro _ _ w ⟨rfl,rfl⟩ H
    refine Ad U (Ac (Z ?_))
    refine Az U (fun h28=>?_) (fun h28=>?_)
    ·refine Ab ?_
     replace H:=H.sel 12 [0,1,2,3,4,5,6,7,8,9,11,10] [] rfl (by kernel_rfl)
     replace H:Hd _ _ _ [blk b21 [.int .i64 0,.int .i64 0,.int .i64 0,.int .i64 0,.int .i64 0,.int .i64 0,.int .i64 0,.int .i64 0,.slice none 0 0,.slice none 0 0] 64,blk b20 [.int .i64 m.kind,.int .i64 m.sp,.int .i64 m.att,.int .i64 m.part,.int .i64 m.seq,.int .i64 m.next,.int .i64 m.ep,.int .i64 m.why,.slice A1 m.set.length c2,.slice A6 m.pairs.length c7] 64,blk r (AJ (.slice A15 J.us.length c16) vM vC vR vK J cw ct co R.part R.ep R.g hv11 sb vs12) 185,Y (Ak Ag) (.slice A15 J.us.length c16) J.us,Y Af vM J.map,Y Af vC J.comb,Y Af vR J.red,Y (Ai .i64) vK J.marks,AO (R.g) hv11,Y (Ak (Ai .i64)) vs12 us13,blk b25 [.int .i64 3,.int .i64 m.sp,.int .i64 m.att,.int .i64 R.part,.int .i64 0,.int .i64 0,.int .i64 R.ep,.int .i64 0,.slice none 0 0,.slice none 0 0] 64,AV 253 sb (R.st)] [Aa (Ai .i64) (.slice A1 m.set.length c2) m.set,Aa Ag (.slice A6 m.pairs.length c7) m.pairs]:=H
     refine BP (.e 0 (.e 1 (.e 2 (.e 3 (.e 4 (.e 5 (.e 6 (.e 7 (.e 8 (.e 9 (.e 10 (.e 11 (.m 12 .z))))))))))))) (fun w=>∃ Ar,Hd w0 F0 w (blk b21 [.int .i64 0,.int .i64 0,.int .i64 0,.int .i64 0,.int .i64 0,.int .i64 0,.int .i64 0,.int .i64 0,.slice none 0 0,.slice none 0 0] 64::blk b20 [.int .i64 m.kind,.int .i64 m.sp,.int .i64 m.att,.int .i64 m.part,.int .i64 m.seq,.int .i64 m.next,.int .i64 m.ep,.int .i64 m.why,.slice A1 m.set.length c2,.slice A6 m.pairs.length c7] 64::blk r (AJ (.slice A15 J.us.length c16) vM vC vR vK J cw ct co R.part R.ep R.g hv11 sb vs12) 185::Y (Ak Ag) (.slice A15 J.us.length c16) J.us::Y Af vM J.map::Y Af vC J.comb::Y Af vR J.red::Y (Ai .i64) vK J.marks::AO (R.g) hv11::Y (Ak (Ai .i64)) vs12 us13::blk b25 [.int .i64 3,.int .i64 m.sp,.int .i64 m.att,.int .i64 R.part,.int .i64 0,.int .i64 0,.int .i64 R.ep,.int .i64 0,.slice none 0 0,.slice none 0 0] 64::Ar) [Aa (Ai .i64) (.slice A1 m.set.length c2) m.set,Aa Ag (.slice A6 m.pairs.length c7) m.pairs]) mo (by kernel_rfl) (fun w H=>⟨_,H⟩) H (fun w H=>?_)
     refine Au U (An U U U (fun w ⟨Ar,H⟩=>AI U U) (An U U U (fun w ⟨Ar,H⟩=>Aj U HB U) (An U U U (fun w ⟨Ar,H⟩=>Ao U HS U (H.cellI 2 U U)) (An U U U (fun w ⟨Ar,H⟩=>Aj U F_ U) (An U U U (fun w ⟨Ar,H⟩=>Ao U AE U (H.cellI 1 U U)) (An U U U (fun w ⟨Ar,H⟩=>Aj U HG U) (An U U U (fun w ⟨Ar,H⟩=>Ao U AE U (H.cellI 1 U U)) (An U U U (fun w ⟨Ar,H⟩=>Aj U Ub U) (An U U U (fun w ⟨Ar,H⟩=>Ao U AE U (H.cellI 1 U U)) (An U U U (fun w ⟨Ar,H⟩=>Aj U LJ U) (An U U U (fun w ⟨Ar,H⟩=>Ao U DU U (H.cellI 1 U U)) (AK U ?_))))))))))))
     replace H:=H.pick 11 rfl
     refine sc (ZG sb R.st m.sp m.att m.seq (.slice A6 m.pairs.length c7) m.pairs (by first |assumption|omega)) H (lR 1 U l0) U U (At UZ U U) ?_
     rintro _ _ w ⟨rfl,rfl⟩ H
     replace H:=H.h1 (A:=AV 253 sb (C3 R.st m.sp m.att m.seq m.pairs))|>.pick 11 rfl|>.pick 11 rfl|>.pick 11 rfl|>.pick 11 rfl|>.pick 11 rfl|>.pick 11 rfl|>.pick 11 rfl|>.pick 11 rfl|>.pick 11 rfl|>.pick 11 rfl|>.pick 11 rfl
     refine AH ⟨_,H⟩ (BH (Z (Ae (Ad U (V U U (Aj U F_ U) (V U U (Ao U AE U (H.cellI 1 U U)) (Ad U ?_)))))))
     have hB2:AS 100000 ({ R with st:=C3 R.st m.sp m.att m.seq m.pairs }:AC):=⟨hB.pairs,hB.st.put (by omega),Nat.le_succ_of_le hB.sets,hB.setl⟩
     replace H:=H.pick 11 rfl|>.pick 10 rfl|>.pick 10 rfl|>.pick 10 rfl|>.pick 10 rfl|>.pick 10 rfl|>.pick 10 rfl|>.pick 10 rfl|>.pick 10 rfl|>.h9 (A:=blk r (AJ (.slice A15 J.us.length c16) vM vC vR vK J cw ct co (({ R with st:=C3 R.st m.sp m.att m.seq m.pairs }:AC).part) (({ R with st:=C3 R.st m.sp m.att m.seq m.pairs }:AC).ep) (({ R with st:=C3 R.st m.sp m.att m.seq m.pairs }:AC).g) hv11 sb vs12) 185) (G:=AO (({ R with st:=C3 R.st m.sp m.att m.seq m.pairs }:AC).g) hv11) (J:=AV 253 sb (({ R with st:=C3 R.st m.sp m.att m.seq m.pairs }:AC).st))
     replace H:=Cx r (.slice A15 J.us.length c16) vM vC vR vK J cw ct co sb ({ R with st:=C3 R.st m.sp m.att m.seq m.pairs }:AC) hv11 vs12 us13 hsets14 H
     replace H:=H.h1 (A:=Bn r (.slice A15 J.us.length c16) vM vC vR vK J cw ct co sb ({ R with st:=C3 R.st m.sp m.att m.seq m.pairs }:AC))
     refine sc (PF r (.slice A15 J.us.length c16) vM vC vR vK J cw ct co sb ({ R with st:=C3 R.st m.sp m.att m.seq m.pairs }:AC) m.sp (by first |assumption|omega) (by first |assumption|omega) (by first |assumption|omega) (by first |assumption|omega)) H l0 U U (At O1 U U) ?_
     rintro v31 _ w ⟨rs29,rfl,hf30⟩ H
     obtain ⟨R32,hR33⟩:∃ z:AC,z=(CZ J ({ R with st:=C3 R.st m.sp m.att m.seq m.pairs }:AC) (m.sp).toNat).1:=⟨_,rfl⟩
     rw [←hR33] at H
     replace H:Hd _ _ _ [Y Bp v31 rs29,Bn r (.slice A15 J.us.length c16) vM vC vR vK J cw ct co sb R32,blk b21 [.int .i64 0,.int .i64 0,.int .i64 0,.int .i64 0,.int .i64 0,.int .i64 0,.int .i64 0,.int .i64 0,.slice none 0 0,.slice none 0 0] 64,blk b20 [.int .i64 m.kind,.int .i64 m.sp,.int .i64 m.att,.int .i64 m.part,.int .i64 m.seq,.int .i64 m.next,.int .i64 m.ep,.int .i64 m.why,.slice A1 m.set.length c2,.slice A6 m.pairs.length c7] 64,blk b25 [.int .i64 3,.int .i64 m.sp,.int .i64 m.att,.int .i64 R.part,.int .i64 0,.int .i64 0,.int .i64 R.ep,.int .i64 0,.slice none 0 0,.slice none 0 0] 64] [Aa (Ai .i64) (.slice A1 m.set.length c2) m.set,Aa Ag (.slice A6 m.pairs.length c7) m.pairs]:=H
     replace H:=H.p1
     obtain ⟨hv34,vs35,us36,hsets37,H⟩:=EY r (.slice A15 J.us.length c16) vM vC vR vK J cw ct co sb R32 H
     replace H:=H.h9 (A:=blk r (AJ (.slice A15 J.us.length c16) vM vC vR vK J cw ct co R32.part R32.ep R32.g hv34 sb vs35) 185) (B:=Y (Ak Ag) (.slice A15 J.us.length c16) J.us) (C:=Y Af vM J.map) (D:=Y Af vC J.comb) (E:=Y Af vR J.red) (F:=Y (Ai .i64) vK J.marks) (G:=AO (R32.g) hv34) (I:=Y (Ak (Ai .i64)) vs35 us36) (J:=AV 253 sb (R32.st))
     refine Ad U (Ac (Z (Ab (BP (.e 0 (.e 1 (.e 2 (.e 3 (.e 4 (.e 5 (.e 6 (.e 7 (.m 8 (.e 9 (.m 10 .z))))))))))) (fun w=>∃ Ar,Hd w0 F0 w (blk r (AJ (.slice A15 J.us.length c16) vM vC vR vK J cw ct co R32.part R32.ep R32.g hv34 sb vs35) 185::Y (Ak Ag) (.slice A15 J.us.length c16) J.us::Y Af vM J.map::Y Af vC J.comb::Y Af vR J.red::Y (Ai .i64) vK J.marks::AO (R32.g) hv34::Y (Ak (Ai .i64)) vs35 us36::AV 253 sb (R32.st)::Y Bp v31 rs29::blk b21 [.int .i64 0,.int .i64 0,.int .i64 0,.int .i64 0,.int .i64 0,.int .i64 0,.int .i64 0,.int .i64 0,.slice none 0 0,.slice none 0 0] 64::blk b20 [.int .i64 m.kind,.int .i64 m.sp,.int .i64 m.att,.int .i64 m.part,.int .i64 m.seq,.int .i64 m.next,.int .i64 m.ep,.int .i64 m.why,.slice A1 m.set.length c2,.slice A6 m.pairs.length c7] 64::Ar) [Aa (Ai .i64) (.slice A1 m.set.length c2) m.set,Aa Ag (.slice A6 m.pairs.length c7) m.pairs]) mo (by kernel_rfl) (fun w H=>⟨_,H⟩) H (fun w H=>?_)))))
     refine Au U (An U U U (fun w ⟨Ar,H⟩=>AI U U) (An U U U (fun w ⟨Ar,H⟩=>Aj U HB U) (An U U U (fun w ⟨Ar,H⟩=>Ao U HS U (H.cellI 0 U U)) (An U U U (fun w ⟨Ar,H⟩=>Aj U F_ U) (An U U U (fun w ⟨Ar,H⟩=>Ao U AE U (H.cellI 11 U U)) (An U U U (fun w ⟨Ar,H⟩=>Aj U HG U) (An U U U (fun w ⟨Ar,H⟩=>Ao U AE U (H.cellI 11 U U)) (AK U ?_))))))))
     replace H:=H.p8
     refine sc (IM sb R32.st m.sp m.att) H l0 U U (At Ip U U) ?_
     rintro _ _ w ⟨rfl,rfl⟩ H
     replace H:=H.p8.p8.p8.p8.p8.p8.p8.p8
     refine AH ⟨_,H⟩ (An U U U (fun w ⟨Ar,H⟩=>Aj U Gu U) (AK U ?_))
     replace H:=H.pick 12 rfl
     refine Bo U U U AE U U H U (Nat.le_of_ble_eq_true U) (fun u hu=>by simp [Value.cells] at hu;subst hu;rfl) (fun w H=>?_)
     replace H:=H.h1 (A:=blk b25 [.int .i64 3,.int .i64 m.sp,.int .i64 m.att,.int .i64 R.part,.int .i64 0,.int .i64 (Co R32.st m.sp m.att),.int .i64 R.ep,.int .i64 0,.slice none 0 0,.slice none 0 0] 64)|>.pick 12 rfl|>.pick 12 rfl|>.pick 12 rfl|>.pick 12 rfl|>.pick 12 rfl|>.pick 12 rfl|>.pick 12 rfl|>.pick 12 rfl|>.pick 12 rfl|>.pick 12 rfl|>.pick 12 rfl|>.pick 12 rfl
     refine AH ⟨_,H⟩ (BH (Z (Ab (Ab (Ae (Ad U (V U U (AI U U) (V U U (Aj U FL U) (V U U (Ao U DE U (H.cellI 0 U (GF (by omega)))) (Ac (Z ?_)))))))))))
     refine Dv (b:=(R32.g ((m.sp).toNat)).merged) U (fun h38=>?_) (fun h38=>?_)
     ·refine Ae (V U U (Aj U Gu U) ?_)
      replace H:=H.pick 12 rfl
      refine Bo U U U AE U U H U (Nat.le_of_ble_eq_true U) (fun u hu=>by simp [Value.cells] at hu;subst hu;rfl) (fun w H=>?_)
      replace H:=H.h1 (A:=blk b25 [.int .i64 3,.int .i64 m.sp,.int .i64 m.att,.int .i64 R.part,.int .i64 0,.int .i64 40,.int .i64 R.ep,.int .i64 0,.slice none 0 0,.slice none 0 0] 64)
      refine Ac (Z (Ab (Ae (V U U (Bu (cs:=[.int .i64 3,.int .i64 m.sp,.int .i64 m.att,.int .i64 R.part,.int .i64 0,.int .i64 40,.int .i64 R.ep,.int .i64 0,.slice none 0 0,.slice none 0 0]) U CR U U (H.cellsI 0 U U)) (Ad U ?_)))))
      replace H:=H.pick 11 rfl
      refine Bo U U U CR U U H U (Nat.le_of_ble_eq_true U) (fun u hu=>by simp [Value.cells] at hu;rcases hu with rfl|rfl|rfl|rfl|rfl|rfl|rfl|rfl|rfl|rfl<;>rfl) (fun w H=>?_)
      replace H:=H.h1 (A:=blk b21 [.int .i64 3,.int .i64 m.sp,.int .i64 m.att,.int .i64 R.part,.int .i64 0,.int .i64 40,.int .i64 R.ep,.int .i64 0,.slice none 0 0,.slice none 0 0] 64)
      refine Ad U (Ac (Z (Ap (FR (cs:=[.int .i64 3,.int .i64 m.sp,.int .i64 m.att,.int .i64 R.part,.int .i64 0,.int .i64 40,.int .i64 R.ep,.int .i64 0,.slice none 0 0,.slice none 0 0]) (v:=v31) U U U CR U (H.cellsI 0 U U) ?_))))
      have hno:¬ EV J R m:=fun h=>by rcases h with h|h|h;exact h hin22;omega;omega
      have ht:Fo R m:=⟨by simpa using h26,by omega,by simpa using h28⟩
      have hp:=Kl J ({ R with st:=C3 R.st m.sp m.att m.seq m.pairs }:AC) (m.sp).toNat
      rw [←hR33] at hp
      have e:Bm J R m=(R32,⟨3,m.sp,m.att,R.part,0,40,R.ep,0,[],[]⟩,(CZ J ({ R with st:=C3 R.st m.sp m.att m.seq m.pairs }:AC) (m.sp).toNat).2):=by rw [Ha hno,Qo ht,←hR33,GQ hp.1 hp.2 (if_pos (by simpa using h38))]
      replace H:=H.pick 11 rfl|>.pick 11 rfl|>.pick 11 rfl|>.pick 11 rfl|>.pick 11 rfl|>.pick 11 rfl|>.pick 11 rfl|>.pick 11 rfl|>.pick 11 rfl|>.pick 11 rfl|>.k10
      replace H:=Cx r (.slice A15 J.us.length c16) vM vC vR vK J cw ct co sb R32 hv34 vs35 us36 hsets37 H
      replace H:=H.h1 (A:=Bn r (.slice A15 J.us.length c16) vM vC vR vK J cw ct co sb R32)|>.p1
      exact Am ⟨v31,rs29,by rw [e]<;>rfl,by rw [e]<;>rfl,by rw [e];exact hf30⟩ H
     refine Aw (Z (Ab (Ae (V U U (Bu (cs:=[.int .i64 3,.int .i64 m.sp,.int .i64 m.att,.int .i64 R.part,.int .i64 0,.int .i64 (Co R32.st m.sp m.att),.int .i64 R.ep,.int .i64 0,.slice none 0 0,.slice none 0 0]) U CR U U (H.cellsI 12 U U)) (Ad U ?_)))))
     replace H:=H.pick 10 rfl
     refine Bo U U U CR U U H U (Nat.le_of_ble_eq_true U) (fun u hu=>by simp [Value.cells] at hu;rcases hu with rfl|rfl|rfl|rfl|rfl|rfl|rfl|rfl|rfl|rfl<;>rfl) (fun w H=>?_)
     replace H:=H.h1 (A:=blk b21 [.int .i64 3,.int .i64 m.sp,.int .i64 m.att,.int .i64 R.part,.int .i64 0,.int .i64 (Co R32.st m.sp m.att),.int .i64 R.ep,.int .i64 0,.slice none 0 0,.slice none 0 0] 64)
     refine Ad U (Ac (Z (Ap (FR (cs:=[.int .i64 3,.int .i64 m.sp,.int .i64 m.att,.int .i64 R.part,.int .i64 0,.int .i64 (Co R32.st m.sp m.att),.int .i64 R.ep,.int .i64 0,.slice none 0 0,.slice none 0 0]) (v:=v31) U U U CR U (H.cellsI 0 U U) ?_))))
     have hno:¬ EV J R m:=fun h=>by rcases h with h|h|h;exact h hin22;omega;omega
     have ht:Fo R m:=⟨by simpa using h26,by omega,by simpa using h28⟩
     have hp:=Kl J ({ R with st:=C3 R.st m.sp m.att m.seq m.pairs }:AC) (m.sp).toNat
     rw [←hR33] at hp
     have e:Bm J R m=(R32,⟨3,m.sp,m.att,R.part,0,Co R32.st m.sp m.att,R.ep,0,[],[]⟩,(CZ J ({ R with st:=C3 R.st m.sp m.att m.seq m.pairs }:AC) (m.sp).toNat).2):=by rw [Ha hno,Qo ht,←hR33,GQ hp.1 hp.2 (if_neg (by simpa using h38))]
     replace H:=H.pick 10 rfl|>.pick 10 rfl|>.pick 10 rfl|>.pick 10 rfl|>.pick 10 rfl|>.pick 10 rfl|>.pick 10 rfl|>.pick 10 rfl|>.pick 10 rfl|>.pick 10 rfl|>.k10
     replace H:=Cx r (.slice A15 J.us.length c16) vM vC vR vK J cw ct co sb R32 hv34 vs35 us36 hsets37 H
     replace H:=H.h1 (A:=Bn r (.slice A15 J.us.length c16) vM vC vR vK J cw ct co sb R32)|>.p1
     exact Am ⟨v31,rs29,by rw [e]<;>rfl,by rw [e]<;>rfl,by rw [e];exact hf30⟩ H
    refine Aw (Z (Ab (BP (.e 0 (.e 1 (.e 2 (.e 3 (.e 4 (.e 5 (.e 6 (.e 7 (.m 8 (.e 9 (.m 10 .z))))))))))) (fun w=>∃ Ar,Hd w0 F0 w (blk b21 [.int .i64 0,.int .i64 0,.int .i64 0,.int .i64 0,.int .i64 0,.int .i64 0,.int .i64 0,.int .i64 0,.slice none 0 0,.slice none 0 0] 64::blk b20 [.int .i64 m.kind,.int .i64 m.sp,.int .i64 m.att,.int .i64 m.part,.int .i64 m.seq,.int .i64 m.next,.int .i64 m.ep,.int .i64 m.why,.slice A1 m.set.length c2,.slice A6 m.pairs.length c7] 64::blk r (AJ (.slice A15 J.us.length c16) vM vC vR vK J cw ct co R.part R.ep R.g hv11 sb vs12) 185::Y (Ak Ag) (.slice A15 J.us.length c16) J.us::Y Af vM J.map::Y Af vC J.comb::Y Af vR J.red::Y (Ai .i64) vK J.marks::AO (R.g) hv11::Y (Ak (Ai .i64)) vs12 us13::AV 253 sb (R.st)::Ar) [Aa (Ai .i64) (.slice A1 m.set.length c2) m.set,Aa Ag (.slice A6 m.pairs.length c7) m.pairs]) mo (by kernel_rfl) (fun w H=>⟨_,H⟩) H (fun w H=>?_))))
    refine Au U (An U U U (fun w ⟨Ar,H⟩=>AI U U) (An U U U (fun w ⟨Ar,H⟩=>Aj U HB U) (An U U U (fun w ⟨Ar,H⟩=>Ao U HS U (H.cellI 2 U U)) (An U U U (fun w ⟨Ar,H⟩=>Aj U F_ U) (An U U U (fun w ⟨Ar,H⟩=>Ao U AE U (H.cellI 1 U U)) (An U U U (fun w ⟨Ar,H⟩=>Aj U HG U) (An U U U (fun w ⟨Ar,H⟩=>Ao U AE U (H.cellI 1 U U)) (AK U ?_))))))))
    replace H:=H.pick 10 rfl
    replace H:Hd _ _ _ [AV 253 sb (R.st),blk b21 [.int .i64 0,.int .i64 0,.int .i64 0,.int .i64 0,.int .i64 0,.int .i64 0,.int .i64 0,.int .i64 0,.slice none 0 0,.slice none 0 0] 64,blk b20 [.int .i64 m.kind,.int .i64 m.sp,.int .i64 m.att,.int .i64 m.part,.int .i64 m.seq,.int .i64 m.next,.int .i64 m.ep,.int .i64 m.why,.slice A1 m.set.length c2,.slice A6 m.pairs.length c7] 64,blk r (AJ (.slice A15 J.us.length c16) vM vC vR vK J cw ct co R.part R.ep R.g hv11 sb vs12) 185,Y (Ak Ag) (.slice A15 J.us.length c16) J.us,Y Af vM J.map,Y Af vC J.comb,Y Af vR J.red,Y (Ai .i64) vK J.marks,AO (R.g) hv11,Y (Ak (Ai .i64)) vs12 us13,blk b25 [.int .i64 3,.int .i64 m.sp,.int .i64 m.att,.int .i64 R.part,.int .i64 0,.int .i64 0,.int .i64 R.ep,.int .i64 0,.slice none 0 0,.slice none 0 0] 64] [Aa (Ai .i64) (.slice A1 m.set.length c2) m.set,Aa Ag (.slice A6 m.pairs.length c7) m.pairs]:=H
    refine sc (IM sb R.st m.sp m.att) H l0 U U (At Ip U U) ?_
    rintro _ _ w ⟨rfl,rfl⟩ H
    replace H:=H.pick 10 rfl|>.pick 10 rfl|>.pick 10 rfl|>.pick 10 rfl|>.pick 10 rfl|>.pick 10 rfl|>.pick 10 rfl|>.pick 10 rfl|>.pick 10 rfl|>.pick 10 rfl
    refine AH ⟨_,H⟩ (An U U U (fun w ⟨Ar,H⟩=>Aj U Gu U) (AK U ?_))
    replace H:=H.pick 11 rfl
    refine Bo U U U AE U U H U (Nat.le_of_ble_eq_true U) (fun u hu=>by simp [Value.cells] at hu;subst hu;rfl) (fun w H=>?_)
    replace H:=H.h1 (A:=blk b25 [.int .i64 3,.int .i64 m.sp,.int .i64 m.att,.int .i64 R.part,.int .i64 0,.int .i64 (Co R.st m.sp m.att),.int .i64 R.ep,.int .i64 0,.slice none 0 0,.slice none 0 0] 64)|>.pick 11 rfl|>.pick 11 rfl|>.pick 11 rfl|>.pick 11 rfl|>.pick 11 rfl|>.pick 11 rfl|>.pick 11 rfl|>.pick 11 rfl|>.pick 11 rfl|>.pick 11 rfl|>.pick 11 rfl
    refine AH ⟨_,H⟩ (BH (Z (Ab (Ab (Ae (Ad U (V U U (AI U U) (V U U (Aj U FL U) (V U U (Ao U DE U (H.cellI 2 U (GF (by omega)))) (Ac (Z ?_)))))))))))
    refine Dv (b:=(R.g ((m.sp).toNat)).merged) U (fun h39=>?_) (fun h39=>?_)
    ·refine Ae (V U U (Aj U Gu U) ?_)
     replace H:=H.pick 11 rfl
     refine Bo U U U AE U U H U (Nat.le_of_ble_eq_true U) (fun u hu=>by simp [Value.cells] at hu;subst hu;rfl) (fun w H=>?_)
     replace H:=H.h1 (A:=blk b25 [.int .i64 3,.int .i64 m.sp,.int .i64 m.att,.int .i64 R.part,.int .i64 0,.int .i64 40,.int .i64 R.ep,.int .i64 0,.slice none 0 0,.slice none 0 0] 64)
     refine Ac (Z (Ab (Ae (V U U (Bu (cs:=[.int .i64 3,.int .i64 m.sp,.int .i64 m.att,.int .i64 R.part,.int .i64 0,.int .i64 40,.int .i64 R.ep,.int .i64 0,.slice none 0 0,.slice none 0 0]) U CR U U (H.cellsI 0 U U)) (Ad U ?_)))))
     replace H:=H.p1
     refine Bo U U U CR U U H U (Nat.le_of_ble_eq_true U) (fun u hu=>by simp [Value.cells] at hu;rcases hu with rfl|rfl|rfl|rfl|rfl|rfl|rfl|rfl|rfl|rfl<;>rfl) (fun w H=>?_)
     replace H:=H.h1 (A:=blk b21 [.int .i64 3,.int .i64 m.sp,.int .i64 m.att,.int .i64 R.part,.int .i64 0,.int .i64 40,.int .i64 R.ep,.int .i64 0,.slice none 0 0,.slice none 0 0] 64)
     refine Ad U (Ac (Z (Ap (FR (cs:=[.int .i64 3,.int .i64 m.sp,.int .i64 m.att,.int .i64 R.part,.int .i64 0,.int .i64 40,.int .i64 R.ep,.int .i64 0,.slice none 0 0,.slice none 0 0]) (v:=.slice none 0 0) U U U CR U (H.cellsI 0 U U) ?_))))
     have hno:¬ EV J R m:=fun h=>by rcases h with h|h|h;exact h hin22;omega;omega
     have ht:¬ Fo R m:=fun h=>absurd h.2.2 (by simpa using h28)
     have e:Bm J R m=(R,⟨3,m.sp,m.att,R.part,0,40,R.ep,0,[],[]⟩,[]):=by rw [Ha hno,Iz ht,GQ rfl rfl (if_pos (by simpa using h39))]
     replace H:=H.newnil Bp|>.pick 12 rfl|>.pick 12 rfl|>.pick 12 rfl|>.pick 12 rfl|>.pick 12 rfl|>.pick 12 rfl|>.pick 12 rfl|>.pick 12 rfl|>.pick 12 rfl|>.k10
     replace H:=Cx r (.slice A15 J.us.length c16) vM vC vR vK J cw ct co sb R hv11 vs12 us13 hsets14 H
     replace H:=H.h1 (A:=Bn r (.slice A15 J.us.length c16) vM vC vR vK J cw ct co sb R)|>.p1
     exact Am ⟨(.slice none 0 0),[],by rw [e]<;>rfl,by rw [e]<;>rfl,by rw [e];rfl⟩ H
    refine Aw (Z (Ab (Ae (V U U (Bu (cs:=[.int .i64 3,.int .i64 m.sp,.int .i64 m.att,.int .i64 R.part,.int .i64 0,.int .i64 (Co R.st m.sp m.att),.int .i64 R.ep,.int .i64 0,.slice none 0 0,.slice none 0 0]) U CR U U (H.cellsI 11 U U)) (Ad U (Bo U U U CR U U H U (Nat.le_of_ble_eq_true U) (fun u hu=>by simp [Value.cells] at hu;rcases hu with rfl|rfl|rfl|rfl|rfl|rfl|rfl|rfl|rfl|rfl<;>rfl) (fun w H=>?_)))))))
    replace H:=H.h1 (A:=blk b21 [.int .i64 3,.int .i64 m.sp,.int .i64 m.att,.int .i64 R.part,.int .i64 0,.int .i64 (Co R.st m.sp m.att),.int .i64 R.ep,.int .i64 0,.slice none 0 0,.slice none 0 0] 64)
    refine Ad U (Ac (Z (Ap (FR (cs:=[.int .i64 3,.int .i64 m.sp,.int .i64 m.att,.int .i64 R.part,.int .i64 0,.int .i64 (Co R.st m.sp m.att),.int .i64 R.ep,.int .i64 0,.slice none 0 0,.slice none 0 0]) (v:=.slice none 0 0) U U U CR U (H.cellsI 0 U U) ?_))))
    have hno:¬ EV J R m:=fun h=>by rcases h with h|h|h;exact h hin22;omega;omega
    have ht:¬ Fo R m:=fun h=>absurd h.2.2 (by simpa using h28)
    have e:Bm J R m=(R,⟨3,m.sp,m.att,R.part,0,Co R.st m.sp m.att,R.ep,0,[],[]⟩,[]):=by rw [Ha hno,Iz ht,GQ rfl rfl (if_neg (by simpa using h39))]
    replace H:=H.newnil Bp|>.pick 11 rfl|>.pick 11 rfl|>.pick 11 rfl|>.pick 11 rfl|>.pick 11 rfl|>.pick 11 rfl|>.pick 11 rfl|>.pick 11 rfl|>.pick 11 rfl|>.k10
    replace H:=Cx r (.slice A15 J.us.length c16) vM vC vR vK J cw ct co sb R hv11 vs12 us13 hsets14 H
    replace H:=H.h1 (A:=Bn r (.slice A15 J.us.length c16) vM vC vR vK J cw ct co sb R)|>.p1
    exact Am ⟨(.slice none 0 0),[],by rw [e]<;>rfl,by rw [e]<;>rfl,by rw [e];rfl⟩ H
   refine Ah 4 U (Ac (Z (B9 U (Aw (Z (Ab (BP (.e 0 (.e 1 (.e 2 (.e 3 (.e 4 (.e 5 (.e 6 (.e 7 (.m 8 (.e 9 (.m 10 .z))))))))))) (fun w=>∃ Ar,Hd w0 F0 w (blk b21 [.int .i64 0,.int .i64 0,.int .i64 0,.int .i64 0,.int .i64 0,.int .i64 0,.int .i64 0,.int .i64 0,.slice none 0 0,.slice none 0 0] 64::blk b20 [.int .i64 m.kind,.int .i64 m.sp,.int .i64 m.att,.int .i64 m.part,.int .i64 m.seq,.int .i64 m.next,.int .i64 m.ep,.int .i64 m.why,.slice A1 m.set.length c2,.slice A6 m.pairs.length c7] 64::blk r (AJ (.slice A15 J.us.length c16) vM vC vR vK J cw ct co R.part R.ep R.g hv11 sb vs12) 185::Y (Ak Ag) (.slice A15 J.us.length c16) J.us::Y Af vM J.map::Y Af vC J.comb::Y Af vR J.red::Y (Ai .i64) vK J.marks::AO (R.g) hv11::Y (Ak (Ai .i64)) vs12 us13::AV 253 sb (R.st)::Ar) [Aa (Ai .i64) (.slice A1 m.set.length c2) m.set,Aa Ag (.slice A6 m.pairs.length c7) m.pairs]) mo (by kernel_rfl) (fun w H=>⟨_,H⟩) H (fun w H=>?_))))))))
   refine Au U (An U U U (fun w ⟨Ar,H⟩=>AI U U) (An U U U (fun w ⟨Ar,H⟩=>Aj U HB U) (An U U U (fun w ⟨Ar,H⟩=>Ao U HS U (H.cellI 2 U U)) (An U U U (fun w ⟨Ar,H⟩=>Aj U F_ U) (An U U U (fun w ⟨Ar,H⟩=>Ao U AE U (H.cellI 1 U U)) (An U U U (fun w ⟨Ar,H⟩=>Aj U HG U) (An U U U (fun w ⟨Ar,H⟩=>Ao U AE U (H.cellI 1 U U)) (AK U ?_))))))))
   replace H:=H.pick 10 rfl
   refine sc (IM sb R.st m.sp m.att) H l0 U U (At Ip U U) ?_
   rintro _ _ w ⟨rfl,rfl⟩ H
   replace H:=H.pick 10 rfl|>.pick 10 rfl|>.pick 10 rfl|>.pick 10 rfl|>.pick 10 rfl|>.pick 10 rfl|>.pick 10 rfl|>.pick 10 rfl|>.pick 10 rfl|>.pick 10 rfl
   refine AH ⟨_,H⟩ (An U U U (fun w ⟨Ar,H⟩=>Aj U Gu U) (AK U ?_))
   replace H:=H.pick 11 rfl
   refine Bo U U U AE U U H U (Nat.le_of_ble_eq_true U) (fun u hu=>by simp [Value.cells] at hu;subst hu;rfl) (fun w H=>?_)
   replace H:=H.h1 (A:=blk b25 [.int .i64 3,.int .i64 m.sp,.int .i64 m.att,.int .i64 R.part,.int .i64 0,.int .i64 (Co R.st m.sp m.att),.int .i64 R.ep,.int .i64 0,.slice none 0 0,.slice none 0 0] 64)|>.pick 11 rfl|>.pick 11 rfl|>.pick 11 rfl|>.pick 11 rfl|>.pick 11 rfl|>.pick 11 rfl|>.pick 11 rfl|>.pick 11 rfl|>.pick 11 rfl|>.pick 11 rfl|>.pick 11 rfl
   refine AH ⟨_,H⟩ (BH (Z (Ab (Ab (Ae (Ad U (V U U (AI U U) (V U U (Aj U FL U) (V U U (Ao U DE U (H.cellI 2 U (GF (by omega)))) (Ac (Z ?_)))))))))))
   refine Dv (b:=(R.g ((m.sp).toNat)).merged) U (fun h40=>?_) (fun h40=>?_)
   ·refine Ae (V U U (Aj U Gu U) ?_)
    replace H:=H.pick 11 rfl
    refine Bo U U U AE U U H U (Nat.le_of_ble_eq_true U) (fun u hu=>by simp [Value.cells] at hu;subst hu;rfl) (fun w H=>?_)
    replace H:=H.h1 (A:=blk b25 [.int .i64 3,.int .i64 m.sp,.int .i64 m.att,.int .i64 R.part,.int .i64 0,.int .i64 40,.int .i64 R.ep,.int .i64 0,.slice none 0 0,.slice none 0 0] 64)
    refine Ac (Z (Ab (Ae (V U U (Bu (cs:=[.int .i64 3,.int .i64 m.sp,.int .i64 m.att,.int .i64 R.part,.int .i64 0,.int .i64 40,.int .i64 R.ep,.int .i64 0,.slice none 0 0,.slice none 0 0]) U CR U U (H.cellsI 0 U U)) (Ad U ?_)))))
    replace H:=H.p1
    refine Bo U U U CR U U H U (Nat.le_of_ble_eq_true U) (fun u hu=>by simp [Value.cells] at hu;rcases hu with rfl|rfl|rfl|rfl|rfl|rfl|rfl|rfl|rfl|rfl<;>rfl) (fun w H=>?_)
    replace H:=H.h1 (A:=blk b21 [.int .i64 3,.int .i64 m.sp,.int .i64 m.att,.int .i64 R.part,.int .i64 0,.int .i64 40,.int .i64 R.ep,.int .i64 0,.slice none 0 0,.slice none 0 0] 64)
    refine Ad U (Ac (Z (Ap (FR (cs:=[.int .i64 3,.int .i64 m.sp,.int .i64 m.att,.int .i64 R.part,.int .i64 0,.int .i64 40,.int .i64 R.ep,.int .i64 0,.slice none 0 0,.slice none 0 0]) (v:=.slice none 0 0) U U U CR U (H.cellsI 0 U U) ?_))))
    have hno:¬ EV J R m:=fun h=>by rcases h with h|h|h;exact h hin22;omega;omega
    have ht:¬ Fo R m:=fun h=>by have h1:=h.1;have h2:=h.2.1;first |omega|(simp_all)
    have e:Bm J R m=(R,⟨3,m.sp,m.att,R.part,0,40,R.ep,0,[],[]⟩,[]):=by rw [Ha hno,Iz ht,GQ rfl rfl (if_pos (by simpa using h40))]
    replace H:=H.newnil Bp|>.pick 12 rfl|>.pick 12 rfl|>.pick 12 rfl|>.pick 12 rfl|>.pick 12 rfl|>.pick 12 rfl|>.pick 12 rfl|>.pick 12 rfl|>.pick 12 rfl|>.k10
    replace H:=Cx r (.slice A15 J.us.length c16) vM vC vR vK J cw ct co sb R hv11 vs12 us13 hsets14 H
    replace H:=H.h1 (A:=Bn r (.slice A15 J.us.length c16) vM vC vR vK J cw ct co sb R)|>.p1
    exact Am ⟨(.slice none 0 0),[],by rw [e]<;>rfl,by rw [e]<;>rfl,by rw [e];rfl⟩ H
   refine Aw (Z (Ab (Ae (V U U (Bu (cs:=[.int .i64 3,.int .i64 m.sp,.int .i64 m.att,.int .i64 R.part,.int .i64 0,.int .i64 (Co R.st m.sp m.att),.int .i64 R.ep,.int .i64 0,.slice none 0 0,.slice none 0 0]) U CR U U (H.cellsI 11 U U)) (Ad U (Bo U U U CR U U H U (Nat.le_of_ble_eq_true U) (fun u hu=>by simp [Value.cells] at hu;rcases hu with rfl|rfl|rfl|rfl|rfl|rfl|rfl|rfl|rfl|rfl<;>rfl) (fun w H=>?_)))))))
   replace H:=H.h1 (A:=blk b21 [.int .i64 3,.int .i64 m.sp,.int .i64 m.att,.int .i64 R.part,.int .i64 0,.int .i64 (Co R.st m.sp m.att),.int .i64 R.ep,.int .i64 0,.slice none 0 0,.slice none 0 0] 64)
   refine Ad U (Ac (Z (Ap (FR (cs:=[.int .i64 3,.int .i64 m.sp,.int .i64 m.att,.int .i64 R.part,.int .i64 0,.int .i64 (Co R.st m.sp m.att),.int .i64 R.ep,.int .i64 0,.slice none 0 0,.slice none 0 0]) (v:=.slice none 0 0) U U U CR U (H.cellsI 0 U U) ?_))))
   have hno:¬ EV J R m:=fun h=>by rcases h with h|h|h;exact h hin22;omega;omega
   have ht:¬ Fo R m:=fun h=>by have h1:=h.1;have h2:=h.2.1;first |omega|(simp_all)
   have e:Bm J R m=(R,⟨3,m.sp,m.att,R.part,0,Co R.st m.sp m.att,R.ep,0,[],[]⟩,[]):=by rw [Ha hno,Iz ht,GQ rfl rfl (if_neg (by simpa using h40))]
   replace H:=H.newnil Bp|>.pick 11 rfl|>.pick 11 rfl|>.pick 11 rfl|>.pick 11 rfl|>.pick 11 rfl|>.pick 11 rfl|>.pick 11 rfl|>.pick 11 rfl|>.pick 11 rfl|>.k10
   replace H:=Cx r (.slice A15 J.us.length c16) vM vC vR vK J cw ct co sb R hv11 vs12 us13 hsets14 H
   replace H:=H.h1 (A:=Bn r (.slice A15 J.us.length c16) vM vC vR vK J cw ct co sb R)|>.p1
   exact Am ⟨(.slice none 0 0),[],by rw [e]<;>rfl,by rw [e]<;>rfl,by rw [e];rfl⟩ H
  refine Ah 10 U (Ac (Z (B9 U (Aw (Z (Ab (BP (.e 0 (.e 1 (.e 2 (.e 3 (.e 4 (.e 5 (.e 6 (.e 7 (.m 8 (.e 9 (.m 10 .z))))))))))) (fun w=>∃ Ar,Hd w0 F0 w (blk b21 [.int .i64 0,.int .i64 0,.int .i64 0,.int .i64 0,.int .i64 0,.int .i64 0,.int .i64 0,.int .i64 0,.slice none 0 0,.slice none 0 0] 64::blk b20 [.int .i64 m.kind,.int .i64 m.sp,.int .i64 m.att,.int .i64 m.part,.int .i64 m.seq,.int .i64 m.next,.int .i64 m.ep,.int .i64 m.why,.slice A1 m.set.length c2,.slice A6 m.pairs.length c7] 64::blk r (AJ (.slice A15 J.us.length c16) vM vC vR vK J cw ct co R.part R.ep R.g hv11 sb vs12) 185::Y (Ak Ag) (.slice A15 J.us.length c16) J.us::Y Af vM J.map::Y Af vC J.comb::Y Af vR J.red::Y (Ai .i64) vK J.marks::AO (R.g) hv11::Y (Ak (Ai .i64)) vs12 us13::AV 253 sb (R.st)::Ar) [Aa (Ai .i64) (.slice A1 m.set.length c2) m.set,Aa Ag (.slice A6 m.pairs.length c7) m.pairs]) mo (by kernel_rfl) (fun w H=>⟨_,H⟩) H (fun w H=>?_))))))))
  refine Au U (An U U U (fun w ⟨Ar,H⟩=>AI U U) (An U U U (fun w ⟨Ar,H⟩=>Aj U HB U) (An U U U (fun w ⟨Ar,H⟩=>Ao U HS U (H.cellI 2 U U)) (An U U U (fun w ⟨Ar,H⟩=>Aj U F_ U) (An U U U (fun w ⟨Ar,H⟩=>Ao U AE U (H.cellI 1 U U)) (An U U U (fun w ⟨Ar,H⟩=>Aj U HG U) (An U U U (fun w ⟨Ar,H⟩=>Ao U AE U (H.cellI 1 U U)) (AK U ?_))))))))
  replace H:=H.pick 10 rfl
  refine sc (IM sb R.st m.sp m.att) H l0 U U (At Ip U U) ?_
  rintro _ _ w ⟨rfl,rfl⟩ H
  replace H:=H.pick 10 rfl|>.pick 10 rfl|>.pick 10 rfl|>.pick 10 rfl|>.pick 10 rfl|>.pick 10 rfl|>.pick 10 rfl|>.pick 10 rfl|>.pick 10 rfl|>.pick 10 rfl
  refine AH ⟨_,H⟩ (An U U U (fun w ⟨Ar,H⟩=>Aj U Gu U) (AK U ?_))
  replace H:=H.pick 11 rfl
  refine Bo U U U AE U U H U (Nat.le_of_ble_eq_true U) (fun u hu=>by simp [Value.cells] at hu;subst hu;rfl) (fun w H=>?_)
  replace H:=H.h1 (A:=blk b25 [.int .i64 3,.int .i64 m.sp,.int .i64 m.att,.int .i64 R.part,.int .i64 0,.int .i64 (Co R.st m.sp m.att),.int .i64 R.ep,.int .i64 0,.slice none 0 0,.slice none 0 0] 64)|>.pick 11 rfl|>.pick 11 rfl|>.pick 11 rfl|>.pick 11 rfl|>.pick 11 rfl|>.pick 11 rfl|>.pick 11 rfl|>.pick 11 rfl|>.pick 11 rfl|>.pick 11 rfl|>.pick 11 rfl
  refine AH ⟨_,H⟩ (BH (Z (Ab (Ab (Ae (Ad U (V U U (AI U U) (V U U (Aj U FL U) (V U U (Ao U DE U (H.cellI 2 U (GF (by omega)))) (Ac (Z ?_)))))))))))
  refine Dv (b:=(R.g ((m.sp).toNat)).merged) U (fun h41=>?_) (fun h41=>?_)
  ·refine Ae (V U U (Aj U Gu U) ?_)
   replace H:=H.pick 11 rfl
   refine Bo U U U AE U U H U (Nat.le_of_ble_eq_true U) (fun u hu=>by simp [Value.cells] at hu;subst hu;rfl) (fun w H=>?_)
   replace H:=H.h1 (A:=blk b25 [.int .i64 3,.int .i64 m.sp,.int .i64 m.att,.int .i64 R.part,.int .i64 0,.int .i64 40,.int .i64 R.ep,.int .i64 0,.slice none 0 0,.slice none 0 0] 64)
   refine Ac (Z (Ab (Ae (V U U (Bu (cs:=[.int .i64 3,.int .i64 m.sp,.int .i64 m.att,.int .i64 R.part,.int .i64 0,.int .i64 40,.int .i64 R.ep,.int .i64 0,.slice none 0 0,.slice none 0 0]) U CR U U (H.cellsI 0 U U)) (Ad U ?_)))))
   replace H:=H.p1
   refine Bo U U U CR U U H U (Nat.le_of_ble_eq_true U) (fun u hu=>by simp [Value.cells] at hu;rcases hu with rfl|rfl|rfl|rfl|rfl|rfl|rfl|rfl|rfl|rfl<;>rfl) (fun w H=>?_)
   replace H:=H.h1 (A:=blk b21 [.int .i64 3,.int .i64 m.sp,.int .i64 m.att,.int .i64 R.part,.int .i64 0,.int .i64 40,.int .i64 R.ep,.int .i64 0,.slice none 0 0,.slice none 0 0] 64)
   refine Ad U (Ac (Z (Ap (FR (cs:=[.int .i64 3,.int .i64 m.sp,.int .i64 m.att,.int .i64 R.part,.int .i64 0,.int .i64 40,.int .i64 R.ep,.int .i64 0,.slice none 0 0,.slice none 0 0]) (v:=.slice none 0 0) U U U CR U (H.cellsI 0 U U) ?_))))
   have hno:¬ EV J R m:=fun h=>by rcases h with h|h|h;exact h hin22;omega;omega
   have ht:¬ Fo R m:=fun h=>by have h1:=h.1;have h2:=h.2.1;first |omega|(simp_all)
   have e:Bm J R m=(R,⟨3,m.sp,m.att,R.part,0,40,R.ep,0,[],[]⟩,[]):=by rw [Ha hno,Iz ht,GQ rfl rfl (if_pos (by simpa using h41))]
   replace H:=H.newnil Bp|>.pick 12 rfl|>.pick 12 rfl|>.pick 12 rfl|>.pick 12 rfl|>.pick 12 rfl|>.pick 12 rfl|>.pick 12 rfl|>.pick 12 rfl|>.pick 12 rfl|>.k10
   replace H:=Cx r (.slice A15 J.us.length c16) vM vC vR vK J cw ct co sb R hv11 vs12 us13 hsets14 H
   replace H:=H.h1 (A:=Bn r (.slice A15 J.us.length c16) vM vC vR vK J cw ct co sb R)|>.p1
   exact Am ⟨(.slice none 0 0),[],by rw [e]<;>rfl,by rw [e]<;>rfl,by rw [e];rfl⟩ H
  refine Aw (Z (Ab (Ae (V U U (Bu (cs:=[.int .i64 3,.int .i64 m.sp,.int .i64 m.att,.int .i64 R.part,.int .i64 0,.int .i64 (Co R.st m.sp m.att),.int .i64 R.ep,.int .i64 0,.slice none 0 0,.slice none 0 0]) U CR U U (H.cellsI 11 U U)) (Ad U (Bo U U U CR U U H U (Nat.le_of_ble_eq_true U) (fun u hu=>by simp [Value.cells] at hu;rcases hu with rfl|rfl|rfl|rfl|rfl|rfl|rfl|rfl|rfl|rfl<;>rfl) (fun w H=>?_)))))))
  replace H:=H.h1 (A:=blk b21 [.int .i64 3,.int .i64 m.sp,.int .i64 m.att,.int .i64 R.part,.int .i64 0,.int .i64 (Co R.st m.sp m.att),.int .i64 R.ep,.int .i64 0,.slice none 0 0,.slice none 0 0] 64)
  refine Ad U (Ac (Z (Ap (FR (cs:=[.int .i64 3,.int .i64 m.sp,.int .i64 m.att,.int .i64 R.part,.int .i64 0,.int .i64 (Co R.st m.sp m.att),.int .i64 R.ep,.int .i64 0,.slice none 0 0,.slice none 0 0]) (v:=.slice none 0 0) U U U CR U (H.cellsI 0 U U) ?_))))
  have hno:¬ EV J R m:=fun h=>by rcases h with h|h|h;exact h hin22;omega;omega
  have ht:¬ Fo R m:=fun h=>by have h1:=h.1;have h2:=h.2.1;first |omega|(simp_all)
  have e:Bm J R m=(R,⟨3,m.sp,m.att,R.part,0,Co R.st m.sp m.att,R.ep,0,[],[]⟩,[]):=by rw [Ha hno,Iz ht,GQ rfl rfl (if_neg (by simpa using h41))]
  replace H:=H.newnil Bp|>.pick 11 rfl|>.pick 11 rfl|>.pick 11 rfl|>.pick 11 rfl|>.pick 11 rfl|>.pick 11 rfl|>.pick 11 rfl|>.pick 11 rfl|>.pick 11 rfl|>.k10
  replace H:=Cx r (.slice A15 J.us.length c16) vM vC vR vK J cw ct co sb R hv11 vs12 us13 hsets14 H
  replace H:=H.h1 (A:=Bn r (.slice A15 J.us.length c16) vM vC vR vK J cw ct co sb R)|>.p1
  exact Am ⟨(.slice none 0 0),[],by rw [e]<;>rfl,by rw [e]<;>rfl,by rw [e];rfl⟩ H
 refine Ae (Ad U (V U U (Aj U F_ U) (V U U (Ao U AE U (H.cellI 1 U U)) (sc (JJ r A15 J.us.length c16 vM vC vR vK J cw ct co R.part R.ep R.g hv11 sb vs12 m.sp (by first |assumption|omega)) H (lA 2 U (fun _ h=>h) l0) U U (At G3 U U) ?_))))
 rintro _ _ w ⟨rfl,rfl⟩ H
 refine Ad U (Ac (Z (Ab (Ab (F8 mo (by kernel_rfl) H (DV U (Bw U U (fun w H=>C5 U Hn U U) (Gi 12 U (Gi 2 U (FX (fun w H=>(Z (B8 U (Ab (Ae (V U U (CM (parts:=[]) (vs:=[]) (cs:=[.int .i64 0,.int .i64 0,.int .i64 0,.int .i64 0,.int .i64 0,.int .i64 0,.int .i64 0,.int .i64 0,.slice none 0 0,.slice none 0 0]) U H_ U U) (Bo U U U CR U U H U (Nat.le_of_ble_eq_true U) (fun u hu=>by simp [Value.cells] at hu;rcases hu with rfl|rfl|rfl|rfl|rfl|rfl|rfl|rfl|rfl|rfl<;>rfl) (fun w H=>(Ad U (Ac (Z (Ap (AA (FR (cs:=[.int .i64 0,.int .i64 0,.int .i64 0,.int .i64 0,.int .i64 0,.int .i64 0,.int .i64 0,.int .i64 0,.slice none 0 0,.slice none 0 0]) (v:=.slice none 0 0) U U U CR U (H.cellsI 0 U U) ?_))))))))))))))))))))))))
 have e:Bm J R m=(R,Jm,[]):=MD (.inl hin22)
 replace H:=H.newnil Bp|>.pick 11 rfl|>.pick 11 rfl|>.pick 11 rfl|>.pick 11 rfl|>.pick 11 rfl|>.pick 11 rfl|>.pick 11 rfl|>.pick 11 rfl|>.pick 11 rfl|>.k10
 replace H:=Cx r (.slice A15 J.us.length c16) vM vC vR vK J cw ct co sb R hv11 vs12 us13 hsets14 H
 replace H:=H.h1 (A:=Bn r (.slice A15 J.us.length c16) vM vC vR vK J cw ct co sb R)|>.p1
 exact Am ⟨(.slice none 0 0),[],by rw [e]<;>rfl,by rw [e]<;>rfl,by rw [e];rfl⟩ H
theorem YK (r:Nat) (A:Option Addr) (c:Nat) (vM2:Value) (vC2:Value) (vR2:Value) (vK2:Value) (J2:AG) (cw:Int) (ct:Int) (co:Int) (part:Int) (ep:Int) (R:AC) (hv:Nat→Value) (sb:Nat) (vs:Value) (s:Int) (hus6:J2.us.length≤6) (hbp:∀ i,(R.g i).pairs.length≤1000):
    Cn Tryz.prog 52 [.pointer (some ⟨r,0,none⟩),.int .i64 s] [] [blk r (AJ (.slice A J2.us.length c) vM2 vC2 vR2 vK2 J2 cw ct co part ep R.g hv sb vs) 185,AO (R.g) hv] (fun v Bs=>Bs=[Y Ag v (G9 J2.us.length R s)]):=by
 intro w0 F0 H
 refine enter Tryz.func52 U U (Nat.le_of_ble_eq_true U) (Ab (Ae (Ad U (Ac (Z (Ab ?_))))))
 by_cases hin1:0≤s∧s<((J2.us.length:Nat):Int)
 ·refine Ae (Ah 2 U (sc (JK r A J2.us.length c vM2 vC2 vR2 vK2 J2 cw ct co part ep R.g hv sb vs s (by first |assumption|omega) (by first |assumption|omega)) H (lR 0 U l0) U U (At G3 U U) ?_))
  rintro _ _ w ⟨rfl,rfl⟩ H
  refine Ad U (Ac (Z ?_))
  replace H:Hd _ _ _ [] [blk r (AJ (.slice A J2.us.length c) vM2 vC2 vR2 vK2 J2 cw ct co part ep R.g hv sb vs) 185,AO (R.g) hv]:=H
  refine Ab (Ab (Ae (Ad U (V U U (C5 U Hn U U) (Ac (Z (B9 U (Aw (Z (Ab (Ae (Ad U (V U U (AI U U) (V U U (Aj U J7 U) ?_))))))))))))))
  obtain ⟨A2,c3,e4,_,_,_⟩:=H.prsFormR (i:=(s).toNat) 1 rfl (by omega)
  refine V U U (Ao U DU U (H.cellRI 0 U ((QK (by omega)).trans (congrArg some e4)))) ?_
  have hbq:=hbp (s).toNat
  refine sc (Hx (.slice A2 ((R.g (s).toNat).pairs.length) c3) (R.g (s).toNat).pairs (by omega)) H (lX (fun F hA hR=>by rw [←e4];exact MC (by omega) (hR _ (List.mem_of_getElem? (i:=1) U))) l0) U U (At HJ U U) ?_
  rintro v5 _ w rfl H
  refine Ad U (Ac (Z ?_))
  replace H:Hd _ _ _ [Y Ag v5 ((R.g (s).toNat).pairs)] [blk r (AJ (.slice A J2.us.length c) vM2 vC2 vR2 vK2 J2 cw ct co part ep R.g hv sb vs) 185,AO (R.g) hv]:=H
  refine Ap (Aq U U ?_)
  replace H:Hd w0 F0 w [Y Ag v5 (G9 J2.us.length R s)] [blk r (AJ (.slice A J2.us.length c) vM2 vC2 vR2 vK2 J2 cw ct co part ep R.g hv sb vs) 185,AO (R.g) hv]:=by rw [Qd hin1];exact H
  exact Am U H
 refine Ae (Ah 2 U (sc (JJ r A J2.us.length c vM2 vC2 vR2 vK2 J2 cw ct co part ep R.g hv sb vs s (by first |assumption|omega)) H (lR 0 U l0) U U (At G3 U U) ?_))
 rintro _ _ w ⟨rfl,rfl⟩ H
 refine Ad U (Ac (Z ?_))
 replace H:Hd _ _ _ [] [blk r (AJ (.slice A J2.us.length c) vM2 vC2 vR2 vK2 J2 cw ct co part ep R.g hv sb vs) 185,AO (R.g) hv]:=H
 refine Ab (Ab (Ae (Ad U (V U U (C5 U Hn U U) (Ac (Z (B8 U (Ab (Ae (Ad U (Ac (Z (Ap (AA (Aq U U ?_)))))))))))))))
 replace H:=H.newnil Ag
 replace H:Hd w0 F0 w [Y Ag (.slice none 0 0) (G9 J2.us.length R s)] [blk r (AJ (.slice A J2.us.length c) vM2 vC2 vR2 vK2 J2 cw ct co part ep R.g hv sb vs) 185,AO (R.g) hv]:=by rw [XA hin1];exact H
 exact Am U H
theorem Rp (r:Nat) (A:Option Addr) (c:Nat) (vM2:Value) (vC2:Value) (vR2:Value) (vK2:Value) (J2:AG) (cw:Int) (ct:Int) (co:Int) (part:Int) (ep:Int) (R:AC) (hv:Nat→Value) (sb:Nat) (vs:Value) (us:List (Value×List Int)) (hred:∀ i∈J2.red,Ax i.a) (hf64:Ax J2.fuel) (hus6:J2.us.length≤6) (hbp:∀ i,(R.g i).pairs.length≤1000) (hsets:us.map (fun u=>u.2)=R.sets) (hul:us.length≤100000) (hsl:∀ u∈us,u.2.length≤1000):
    Cn Tryz.prog 59 [.pointer (some ⟨r,0,none⟩)] [] [blk r (AJ (.slice A J2.us.length c) vM2 vC2 vR2 vK2 J2 cw ct co part ep R.g hv sb vs) 185,AO (R.g) hv,Aa Af vR2 J2.red,Aa (Ak (Ai .i64)) vs us,gl] (fun v Bs=>∃ zs:List (CF Int),Bs=[Y E6 v zs]∧(zs.map HO=Et dg J2 R)):=by
 intro w0 F0 H
 obtain ⟨A1,c2,rfl,hc3,hm4,hp5⟩:=H.fR 3 rfl
 refine enter Tryz.func59 U U (Nat.le_of_ble_eq_true U) (Ab (Ae (Ad U (Ac (Z ?_)))))
 replace H:Hd _ _ _ [] [blk r (AJ (.slice A J2.us.length c) vM2 vC2 vR2 vK2 J2 cw ct co part ep R.g hv sb (.slice A1 us.length c2)) 185,AO (R.g) hv,Aa Af vR2 J2.red,Aa (Ak (Ai .i64)) (.slice A1 us.length c2) us,gl]:=H
 refine Ab (Ab (Ae (Ad U (V U U (C5 U HZ U U) (Ac (Z (B9 U (Aw (Z (Ab (Ae (Ad U (Ac (Z (Ab (Ab (Ae (Ad U (V U U (AI U U) (V U U (Aj U Fi U) (V U U (Ao U Ed U (H.cellRI 0 U U)) (V U U (A8 U aB U) (Ad U (Ac (Z (AW ?_))))))))))))))))))))))))))
 replace H:=H.newnil HI
 replace H:=Hd.tw0 (α:=Int) H
 replace H:=H.h1 (A:=FV ([]:List (CF Int)))|>.h2 (B:=Y HI (.slice none 0 0) (([]:List (CF Int)).map Ev))|>.p1
 refine BT (σ:=Nat×Value×List (CF Int)) (fun (k,q,zs)=>[(0,.pointer (some ⟨r,0,none⟩)),(2,.slice none 0 0),(3,q),(13,.slice A1 us.length c2),(14,.int .i64 ((us.length:Nat):Int)),(15,.int .i64 ((k:Nat):Int))]) (fun (k,q,zs) w=>(Hd w0 F0 w [Y HI q (zs.map Ev),FV zs] [blk r (AJ (.slice A J2.us.length c) vM2 vC2 vR2 vK2 J2 cw ct co part ep R.g hv sb (.slice A1 us.length c2)) 185,AO (R.g) hv,Aa Af vR2 J2.red,Aa (Ak (Ai .i64)) (.slice A1 us.length c2) us,gl])∧(k≤us.length)∧(zs.map HO=(Et dg J2 R).take k)) (fun (k,q,zs)=>us.length - k) (0,.slice none 0 0,[]) ⟨rfl,rfl,rfl,rfl,rfl,rfl,trivial⟩ ⟨H,Nat.zero_le _,rfl⟩ ?_
 rintro ⟨k,q,zs⟩ w ⟨H,hk,hz⟩
 have hzl:zs.length=k:=by have h1:=congrArg List.length hz;rw [List.length_map,List.length_take,Ro hsets] at h1;omega
 have hzl2:(zs.map Ev).length=zs.length:=List.length_map ..
 refine Ab (Ae (V U U (Bd U U U) (Ac (Z (Ab ?_)))))
 refine Az U (fun h6=>?_) (fun h6=>?_)
 ·refine Aw (Z (Ab (AW (Ab (Ae ?_)))))
  obtain ⟨⟨u9,x7⟩,hx8⟩:∃ z9,us[k]?=some z9:=⟨_,List.getElem?_eq_getElem (show k<us.length by omega)⟩
  obtain ⟨A10,c11,rfl,hc12,hm13⟩:=H.nestR 3 rfl hx8
  have hxl:x7.length≤1000:=hsl _ (B6 hx8)
  have th14:=H.thRd 3 rfl hx8
  refine V U U (Ba (p:=AT A1+k*1) U Ec U U (by omega) (by omega) th14 U) (V U U (Ao U EH U (H.elRd 3 U hx8 U)) (Ad U (Ac (Z (Ab (Ae (Ah 2 U (sc (P3 r A c vM2 vC2 vR2 vK2 J2 cw ct co part ep R hv sb (.slice A1 us.length c2) (.slice A10 x7.length c11) x7 (by first |assumption|omega) (by first |assumption|omega) (by first |assumption|omega) (by first |assumption|omega)) H (lR 0 U (lR 1 U (lX (fun F hA hR=>Gy (hR _ (List.mem_of_getElem? (i:=3) U)) hx8) (lR 2 U (lR 4 U l0))))) U U (At O4 U U) ?_))))))))
  rintro _ _ w ⟨u15,rfl,rfl⟩ H
  refine Ah 5 U (Ac (Z ?_))
  replace H:Hd _ _ _ [Y Ag u15 ((BX dg J2.red (srt (Ck J2.us.length R x7)) J2.fuel false).1),Y HI q (zs.map Ev),FV zs] [blk r (AJ (.slice A J2.us.length c) vM2 vC2 vR2 vK2 J2 cw ct co part ep R.g hv sb (.slice A1 us.length c2)) 185,AO (R.g) hv,Aa Af vR2 J2.red,Aa (Ak (Ai .i64)) (.slice A1 us.length c2) us,gl]:=H
  refine Ae (Ah 2 U (sc (GS (.slice A10 x7.length c11) x7 (by first |assumption|omega)) H (lX (fun F hA hR=>Gy (hR _ (List.mem_of_getElem? (i:=3) U)) hx8) l0) U U (At G4 U U) ?_))
  rintro v16 _ w rfl H
  refine Ah 2 U ?_
  obtain ⟨A17,c18,rfl,hc19,hm20,hp21⟩:=H.fA 0 rfl
  obtain ⟨A22,c23,rfl,hc24,hm25,hp26⟩:=H.fA 1 rfl
  refine V U U (CM (parts:=[(0,.tmp 27),(1,.tmp 28),(2,.tmp 29)]) (vs:=[.slice A17 x7.length c18,.int .i64 ((BX dg J2.red (srt (Ck J2.us.length R x7)) J2.fuel false).2),.slice A22 (((BX dg J2.red (srt (Ck J2.us.length R x7)) J2.fuel false).1).length) c23]) (cs:=[.slice A17 x7.length c18,.int .i64 ((BX dg J2.red (srt (Ck J2.us.length R x7)) J2.fuel false).2),.slice A22 (((BX dg J2.red (srt (Ck J2.us.length R x7)) J2.fuel false).1).length) c23]) U Si U U) (BU (parts:=[(0,.tmp 30)]) (vs:=[.agg #[.slice A17 x7.length c18,.int .i64 ((BX dg J2.red (srt (Ck J2.us.length R x7)) J2.fuel false).2),.slice A22 (((BX dg J2.red (srt (Ck J2.us.length R x7)) J2.fuel false).1).length) c23]]) (cs:=[.slice A17 x7.length c18,.int .i64 ((BX dg J2.red (srt (Ck J2.us.length R x7)) J2.fuel false).2),.slice A22 (((BX dg J2.red (srt (Ck J2.us.length R x7)) J2.fuel false).1).length) c23]) U U U Hl RY U (by decide) (by decide) U U H (fun b27 w H=>?_))
  replace H:=H.p3
  refine CG (xs:=zs.map Ev) (ys:=[(⟨(BX dg J2.red (srt (Ck J2.us.length R x7)) J2.fuel false).2,⟨A17,x7.length,c18⟩,⟨A22,((BX dg J2.red (srt (Ck J2.us.length R x7)) J2.fuel false).1).length,c23⟩⟩:I0 Int)]) U U U Hl RY U (by decide) U U H (by first |omega|(simp only [List.length_append,List.length_cons,List.length_nil];omega)) (fun F hA hR=>Ch (hA _ (List.mem_of_getElem? (i:=0) U)) U (by decide) (AZ.flat_eq.2 U)) (fun v28 w H=>(Ad U (Ac (A_ (Z ?_)))))
  replace H:Hd _ _ _ [Y HI v28 ((zs.map Ev)++[(⟨(BX dg J2.red (srt (Ck J2.us.length R x7)) J2.fuel false).2,⟨A17,x7.length,c18⟩,⟨A22,((BX dg J2.red (srt (Ck J2.us.length R x7)) J2.fuel false).1).length,c23⟩⟩:I0 Int)]),blk b27 [.slice A17 x7.length c18,.int .i64 ((BX dg J2.red (srt (Ck J2.us.length R x7)) J2.fuel false).2),.slice A22 (((BX dg J2.red (srt (Ck J2.us.length R x7)) J2.fuel false).1).length) c23] 195,Y (Ai .i64) (.slice A17 x7.length c18) x7,Y Ag (.slice A22 (((BX dg J2.red (srt (Ck J2.us.length R x7)) J2.fuel false).1).length) c23) ((BX dg J2.red (srt (Ck J2.us.length R x7)) J2.fuel false).1),FV zs] [blk r (AJ (.slice A J2.us.length c) vM2 vC2 vR2 vK2 J2 cw ct co part ep R.g hv sb (.slice A1 us.length c2)) 185,AO (R.g) hv,Aa Af vR2 J2.red,Aa (Ak (Ai .i64)) (.slice A1 us.length c2) us,gl]:=H
  refine Ae (V U U (A0 (z:=((k+1:Nat):Int)) U U U (by rw [AF (by omega) (by omega)];omega)) (Ad U (Ac ?_)))
  replace H:=H.p4.p4.p4.k4
  replace H:=Hd.twN (r:=(⟨(DH dg J2 R x7).2,.slice A17 x7.length c18,x7,.slice A22 (((BX dg J2.red (srt (Ck J2.us.length R x7)) J2.fuel false).1).length) c23,(DH dg J2 R x7).1⟩:CF Int)) H
  replace H:Hd w0 F0 w [FV (zs++[(⟨(DH dg J2 R x7).2,.slice A17 x7.length c18,x7,.slice A22 (((BX dg J2.red (srt (Ck J2.us.length R x7)) J2.fuel false).1).length) c23,(DH dg J2 R x7).1⟩:CF Int)]),Y HI v28 ((zs++[(⟨(DH dg J2 R x7).2,.slice A17 x7.length c18,x7,.slice A22 (((BX dg J2.red (srt (Ck J2.us.length R x7)) J2.fuel false).1).length) c23,(DH dg J2 R x7).1⟩:CF Int)]).map Ev)] [blk r (AJ (.slice A J2.us.length c) vM2 vC2 vR2 vK2 J2 cw ct co part ep R.g hv sb (.slice A1 us.length c2)) 185,AO (R.g) hv,Aa Af vR2 J2.red,Aa (Ak (Ai .i64)) (.slice A1 us.length c2) us,gl]:=by rw [List.map_append];exact H
  replace H:=H.p1
  have hz2:(zs++[(⟨(DH dg J2 R x7).2,.slice A17 x7.length c18,x7,.slice A22 (((BX dg J2.red (srt (Ck J2.us.length R x7)) J2.fuel false).1).length) c23,(DH dg J2 R x7).1⟩:CF Int)]).map HO=(Et dg J2 R).take (k+1):=by rw [List.map_append,hz,Zu hsets hx8];rfl
  exact Bl (s:=(k,undef,zs)) (k+1,v28,zs++[(⟨(DH dg J2 R x7).2,.slice A17 x7.length c18,x7,.slice A22 (((BX dg J2.red (srt (Ck J2.us.length R x7)) J2.fuel false).1).length) c23,(DH dg J2 R x7).1⟩:CF Int)]) ⟨rfl,rfl,rfl,rfl,rfl,rfl,trivial⟩ ⟨H,by (try dsimp only);omega,hz2⟩ (by (try dsimp only);omega)
 refine BM (AR (AR (BN (Z (Ab (Ae (Ah 2 U (Ac (Z (Ap (Aq U U ?_)))))))))))
 replace H:=H.h2 (A:=Y HI q (zs.map Ev)) (B:=FV zs)
 replace H:=Hd.twI H
 replace H:=H.h1 (A:=Y E6 q zs)
 exact Am ⟨zs,rfl,by rw [hz,List.take_of_length_le (by rw [Ro hsets];omega)]⟩ H
theorem Zr  :
    Cn Tryz.prog 117 [] [] [] (fun v Bs=>∃ vS:Value,∃ vP:Value,∃ vK:Value,∃ u:Value,v=.agg #[vS,.int .i64 1,vP,.slice none 0 0,vP,.int .i64 1,.int .i64 1,.int .i64 9,vK,.int .i64 1,.int .i64 2,.int .i64 1]∧Bs=[Y (Ak Ag) vS [(u,Dh),(FD,[])],Y Af vP DA,Y (Ai .i64) vK [1]]):=by
 intro w0 F0 H
 refine enter Tryz.func117 U U (Nat.le_of_ble_eq_true U) (Ab (Ae (Dr U U U R0 H (fun b1 w H=>(Ac (Z ?_))))))
 replace H:Hd _ _ _ [blk b1 [.slice none 0 0,.int .i64 0,.slice none 0 0,.slice none 0 0,.slice none 0 0,.int .i64 0,.int .i64 0,.int .i64 0,.slice none 0 0,.int .i64 0,.int .i64 0,.int .i64 0] 28] []:=H
 refine Ab (Ae (V U U (CM (parts:=[(0,.const (.int .i64 6))]) (vs:=[.int .i64 6]) (cs:=[.int .i64 6,.int .i64 0,.string ⟨#[]⟩]) U JO U U) (V U U (CM (parts:=[(0,.const (.int .i64 7))]) (vs:=[.int .i64 7]) (cs:=[.int .i64 7,.int .i64 0,.string ⟨#[]⟩]) U JO U U) (V U U (CM (parts:=[(0,.const (.int .i64 4))]) (vs:=[.int .i64 4]) (cs:=[.int .i64 4,.int .i64 0,.string ⟨#[]⟩]) U JO U U) (V U U (CM (parts:=[(0,.const (.int .i64 23))]) (vs:=[.int .i64 23]) (cs:=[.int .i64 23,.int .i64 0,.string ⟨#[]⟩]) U JO U U) (BU (parts:=[(0,.tmp 2),(1,.tmp 3),(2,.tmp 4),(3,.tmp 5)]) (vs:=[.agg #[.int .i64 6,.int .i64 0,.string ⟨#[]⟩],.agg #[.int .i64 7,.int .i64 0,.string ⟨#[]⟩],.agg #[.int .i64 4,.int .i64 0,.string ⟨#[]⟩],.agg #[.int .i64 23,.int .i64 0,.string ⟨#[]⟩]]) (cs:=[.int .i64 6,.int .i64 0,.string ⟨#[]⟩,.int .i64 7,.int .i64 0,.string ⟨#[]⟩,.int .i64 4,.int .i64 0,.string ⟨#[]⟩,.int .i64 23,.int .i64 0,.string ⟨#[]⟩]) U U U Hh K6 U (by decide) (by decide) U U H (fun b2 w H=>?_)))))))
 replace H:=H.h1 (A:=blk b2 [.int .i64 6,.int .i64 0,.string ⟨#[]⟩,.int .i64 7,.int .i64 0,.string ⟨#[]⟩,.int .i64 4,.int .i64 0,.string ⟨#[]⟩,.int .i64 23,.int .i64 0,.string ⟨#[]⟩] 223)
 refine Ad U (Ac (Z (Ab (Ae (V U U (CM (parts:=[(0,.const (.string ⟨#[98]⟩)),(1,.const (.string ⟨#[49]⟩))]) (vs:=[.string ⟨#[98]⟩,.string ⟨#[49]⟩]) (cs:=[.string ⟨#[98]⟩,.string ⟨#[49]⟩]) U JN U U) (BU (parts:=[(0,.tmp 7)]) (vs:=[.agg #[.string ⟨#[98]⟩,.string ⟨#[49]⟩]]) (cs:=[.string ⟨#[98]⟩,.string ⟨#[49]⟩]) U U U BA CT U (by decide) (by decide) U U H (fun b3 w H=>(BU (parts:=[(0,.tmp 8),(1,.const (.slice none 0 0))]) (vs:=[.slice (some ⟨b3,0,none⟩) 1 1,.slice none 0 0]) (cs:=[.slice (some ⟨b3,0,none⟩) 1 1,.slice none 0 0]) U U U Ej Hr U (by decide) (by decide) U U H (fun b4 w H=>(Ah 2 U (BU (parts:=[(0,.const (.int .i64 1))]) (vs:=[.int .i64 1]) (cs:=[.int .i64 1]) U U U Ds GK U (by decide) (by decide) U U H (fun b5 w H=>(V U U (CM (parts:=[(0,.tmp 9),(1,.const (.int .i64 1)),(2,.tmp 10),(4,.tmp 11),(5,.const (.int .i64 1)),(6,.const (.int .i64 1)),(7,.const (.int .i64 9)),(8,.tmp 12)]) (vs:=[.slice (some ⟨b4,0,none⟩) 2 2,.int .i64 1,.slice (some ⟨b2,0,none⟩) 4 4,.slice (some ⟨b2,0,none⟩) 4 4,.int .i64 1,.int .i64 1,.int .i64 9,.slice (some ⟨b5,0,none⟩) 1 1]) (cs:=[.slice (some ⟨b4,0,none⟩) 2 2,.int .i64 1,.slice (some ⟨b2,0,none⟩) 4 4,.slice none 0 0,.slice (some ⟨b2,0,none⟩) 4 4,.int .i64 1,.int .i64 1,.int .i64 9,.slice (some ⟨b5,0,none⟩) 1 1]) U Sl U U) ?_)))))))))))))
 refine V U U (CM (parts:=[(0,.tmp 13),(1,.const (.int .i64 1)),(2,.const (.int .i64 2)),(3,.const (.int .i64 1))]) (vs:=[.agg #[.slice (some ⟨b4,0,none⟩) 2 2,.int .i64 1,.slice (some ⟨b2,0,none⟩) 4 4,.slice none 0 0,.slice (some ⟨b2,0,none⟩) 4 4,.int .i64 1,.int .i64 1,.int .i64 9,.slice (some ⟨b5,0,none⟩) 1 1],.int .i64 1,.int .i64 2,.int .i64 1]) (cs:=[.slice (some ⟨b4,0,none⟩) 2 2,.int .i64 1,.slice (some ⟨b2,0,none⟩) 4 4,.slice none 0 0,.slice (some ⟨b2,0,none⟩) 4 4,.int .i64 1,.int .i64 1,.int .i64 9,.slice (some ⟨b5,0,none⟩) 1 1,.int .i64 1,.int .i64 2,.int .i64 1]) U Sm U U) ?_
 replace H:=H.p4
 refine Bo U U U Ek U U H U (Nat.le_of_ble_eq_true U) (fun u hu=>by simp [Value.cells] at hu;rcases hu with rfl|rfl|rfl|rfl|rfl|rfl|rfl|rfl|rfl|rfl|rfl|rfl<;>rfl) (fun w H=>?_)
 replace H:Hd _ _ _ [blk b1 [.slice (some ⟨b4,0,none⟩) 2 2,.int .i64 1,.slice (some ⟨b2,0,none⟩) 4 4,.slice none 0 0,.slice (some ⟨b2,0,none⟩) 4 4,.int .i64 1,.int .i64 1,.int .i64 9,.slice (some ⟨b5,0,none⟩) 1 1,.int .i64 1,.int .i64 2,.int .i64 1] 28,blk b5 [.int .i64 1] 3,blk b4 [.slice (some ⟨b3,0,none⟩) 1 1,.slice none 0 0] 35,blk b3 [.string ⟨#[98]⟩,.string ⟨#[49]⟩] 106,blk b2 [.int .i64 6,.int .i64 0,.string ⟨#[]⟩,.int .i64 7,.int .i64 0,.string ⟨#[]⟩,.int .i64 4,.int .i64 0,.string ⟨#[]⟩,.int .i64 23,.int .i64 0,.string ⟨#[]⟩] 223] []:=H
 refine Ac (Z (Ap (Gf (cs:=[.slice (some ⟨b4,0,none⟩) 2 2,.int .i64 1,.slice (some ⟨b2,0,none⟩) 4 4,.slice none 0 0,.slice (some ⟨b2,0,none⟩) 4 4,.int .i64 1,.int .i64 1,.int .i64 9,.slice (some ⟨b5,0,none⟩) 1 1,.int .i64 1,.int .i64 2,.int .i64 1]) U U Ek U (H.cellsI 0 U U) ?_)))
 replace H:=H.p3
 replace H:Hd w0 F0 w [Y Ag (.slice (some ⟨b3,0,none⟩) 1 1) Dh,blk b1 [.slice (some ⟨b4,0,none⟩) 2 2,.int .i64 1,.slice (some ⟨b2,0,none⟩) 4 4,.slice none 0 0,.slice (some ⟨b2,0,none⟩) 4 4,.int .i64 1,.int .i64 1,.int .i64 9,.slice (some ⟨b5,0,none⟩) 1 1,.int .i64 1,.int .i64 2,.int .i64 1] 28,blk b5 [.int .i64 1] 3,blk b4 [.slice (some ⟨b3,0,none⟩) 1 1,.slice none 0 0] 35,blk b2 [.int .i64 6,.int .i64 0,.string ⟨#[]⟩,.int .i64 7,.int .i64 0,.string ⟨#[]⟩,.int .i64 4,.int .i64 0,.string ⟨#[]⟩,.int .i64 23,.int .i64 0,.string ⟨#[]⟩] 223] []:=H.turn (fun F h=>GR h rfl (by decide) rfl)
 replace H:=H.p4
 replace H:Hd w0 F0 w [Y Af (.slice (some ⟨b2,0,none⟩) 4 4) DA,Y Ag (.slice (some ⟨b3,0,none⟩) 1 1) Dh,blk b1 [.slice (some ⟨b4,0,none⟩) 2 2,.int .i64 1,.slice (some ⟨b2,0,none⟩) 4 4,.slice none 0 0,.slice (some ⟨b2,0,none⟩) 4 4,.int .i64 1,.int .i64 1,.int .i64 9,.slice (some ⟨b5,0,none⟩) 1 1,.int .i64 1,.int .i64 2,.int .i64 1] 28,blk b5 [.int .i64 1] 3,blk b4 [.slice (some ⟨b3,0,none⟩) 1 1,.slice none 0 0] 35] []:=H.turn (fun F h=>GR h rfl (by decide) rfl)
 replace H:=H.p3
 replace H:Hd w0 F0 w [Y (Ai .i64) (.slice (some ⟨b5,0,none⟩) 1 1) [1],Y Af (.slice (some ⟨b2,0,none⟩) 4 4) DA,Y Ag (.slice (some ⟨b3,0,none⟩) 1 1) Dh,blk b1 [.slice (some ⟨b4,0,none⟩) 2 2,.int .i64 1,.slice (some ⟨b2,0,none⟩) 4 4,.slice none 0 0,.slice (some ⟨b2,0,none⟩) 4 4,.int .i64 1,.int .i64 1,.int .i64 9,.slice (some ⟨b5,0,none⟩) 1 1,.int .i64 1,.int .i64 2,.int .i64 1] 28,blk b4 [.slice (some ⟨b3,0,none⟩) 1 1,.slice none 0 0] 35] []:=H.turn (fun F h=>GR h rfl (by decide) rfl)
 replace H:=H.newnil Ag|>.p2|>.p1|>.p3|>.p5|>.k5
 replace H:Hd w0 F0 w [Y Dq (.slice (some ⟨b4,0,none⟩) 2 2) (Br ([(.slice (some ⟨b3,0,none⟩) 1 1,Dh),(FD,[])]:List (Value×List Al))),Y Ag (.slice (some ⟨b3,0,none⟩) 1 1) Dh,Y Ag (.slice none 0 0) [],Y Af (.slice (some ⟨b2,0,none⟩) 4 4) DA,Y (Ai .i64) (.slice (some ⟨b5,0,none⟩) 1 1) [1]] []:=H.turn (fun F h=>GR h rfl (by decide) rfl)
 replace H:=H.p2.p2
 replace H:=Hd.stI (Bs:=[Y Ag (.slice (some ⟨b3,0,none⟩) 1 1) Dh,Y Ag (.slice none 0 0) []]) H
 replace H:=H.h1 (A:=Ga Ag ([(.slice (some ⟨b3,0,none⟩) 1 1,Dh),(FD,[])]:List (Value×List Al)))|>.p1|>.hdI|>.h1 (A:=Y (Ak Ag) (.slice (some ⟨b4,0,none⟩) 2 2) [(.slice (some ⟨b3,0,none⟩) 1 1,Dh),(FD,[])])
 exact Am ⟨(.slice (some ⟨b4,0,none⟩) 2 2),(.slice (some ⟨b2,0,none⟩) 4 4),(.slice (some ⟨b5,0,none⟩) 1 1),(.slice (some ⟨b3,0,none⟩) 1 1),rfl,rfl⟩ H
theorem I3  :
    Cn Tryz.prog 47 [] [] [gl] (fun v Bs=>v=.bool true∧Bs=[]):=by
 intro w0 F0 H
 refine enter Tryz.func47 U U (Nat.le_of_ble_eq_true U) (Ab (Ae (Ad U (Ac (Z (Ab (Ae (sc (Zr) H l0 U U (At UY U U) ?_))))))))
 rintro _ _ w ⟨vS1,vP2,vK3,u4,rfl,rfl⟩ H
 replace H:Hd _ _ _ [Y (Ak Ag) vS1 [(u4,Dh),(FD,[])],Y Af vP2 DA,Y (Ai .i64) vK3 [1]] [gl]:=H
 refine sc (QQ vS1 vP2 (.slice none 0 0) vP2 vK3 (A9 u4) 0 1 (.slice none 0 0) [] (by first |assumption|omega|exact C_ _|exact ⟨Di _,by decide⟩|exact AS.pairs (by assumption)|(unfold Ax;omega)|exact (fun r h=>by cases h)|decide|(simp only [List.length_nil];omega)|exact C8) (by first |assumption|omega|exact C_ _|exact ⟨Di _,by decide⟩|exact AS.pairs (by assumption)|(unfold Ax;omega)|exact (fun r h=>by cases h)|decide|(simp only [List.length_nil];omega)|exact C8) (by first |assumption|omega|exact C_ _|exact ⟨Di _,by decide⟩|exact AS.pairs (by assumption)|(unfold Ax;omega)|exact (fun r h=>by cases h)|decide|(simp only [List.length_nil];omega)|exact C8) (by first |assumption|omega|exact C_ _|exact ⟨Di _,by decide⟩|exact AS.pairs (by assumption)|(unfold Ax;omega)|exact (fun r h=>by cases h)|decide|(simp only [List.length_nil];omega)|exact C8) (by first |assumption|omega|exact C_ _|exact ⟨Di _,by decide⟩|exact AS.pairs (by assumption)|(unfold Ax;omega)|exact (fun r h=>by cases h)|decide|(simp only [List.length_nil];omega)|exact C8) (by first |assumption|omega|exact C_ _|exact ⟨Di _,by decide⟩|exact AS.pairs (by assumption)|(unfold Ax;omega)|exact (fun r h=>by cases h)|decide|(simp only [List.length_nil];omega)|exact C8)) H (lA 0 U BE (lA 1 U BE (lX (fun F _ _=>IG _ _ F trivial (by decide)) (lA 1 U BE (lA 2 U BE (lX (fun F _ _=>IG _ _ F trivial (by decide)) l0)))))) U U (At Pv U U) ?_
 rintro _ _ w ⟨r5,vS6,vM7,vC8,vR9,vK10,J11,hv12,sb13,vs14,us15,rfl,rfl,hf16,hf17⟩ H
 replace H:=H.h9 (A:=blk r5 (AJ vS6 vM7 vC8 vR9 vK10 J11 ((A9 u4).w) ((A9 u4).t) ((A9 u4).o) 0 1 ((C2 J11.us.length 0 1 ([].map AX.p)).g) hv12 sb13 vs14) 185) (B:=Y (Ak Ag) vS6 J11.us) (C:=Y Af vM7 J11.map) (D:=Y Af vC8 J11.comb) (E:=Y Af vR9 J11.red) (F:=Y (Ai .i64) vK10 J11.marks) (G:=AO ((C2 J11.us.length 0 1 ([].map AX.p)).g) hv12) (I:=Y (Ak (Ai .i64)) vs14 us15) (J:=AV 253 sb13 ([]))
 have hsj:=hf16
 have hall:=Nz hsj
 have hout:=Sd (D:=dg) hsj
 have hC:=C_ u4
 have hlen:J11.us.length=2:=hsj.len
 have h6:J11.us.length≤6:=by have:=hC.1.1;have:=hsj.len;omega
 have hmk:J11.marks.length≤1000:=by have:=hC.1.2.2.1;rw [hsj.marks];omega
 have hred:∀ i∈J11.red,Ax i.a:=by rw [hsj.red];exact C8
 have hf64:Ax J11.fuel:=by rw [hsj.fuel];have:=hC.1.2.2.2.2.2.2.2.2.2.2;unfold Ax;omega
 have hoks:=Sb h6
 obtain ⟨R18,hR19⟩:∃ z:AC,z=C2 J11.us.length 0 1 ([].map AX.p):=⟨_,rfl⟩
 rw [←hR19] at H hf17
 have hRp20:R18.part=0:=by rw [hR19];exact (Gz _ _ _ _).1
 have hRe21:R18.ep=1:=by rw [hR19];exact (Gz _ _ _ _).2.1
 have hRs22:R18.st=[]:=by rw [hR19];exact (Gz _ _ _ _).2.2
 rw [show AJ vS6 vM7 vC8 vR9 vK10 J11 ((A9 u4).w) ((A9 u4).t) ((A9 u4).o) 0 1 R18.g hv12 sb13 vs14=AJ vS6 vM7 vC8 vR9 vK10 J11 ((A9 u4).w) ((A9 u4).t) ((A9 u4).o) R18.part R18.ep R18.g hv12 sb13 vs14 from by rw [hRp20,hRe21],show AV 253 sb13 ([])=AV 253 sb13 (R18.st) from by rw [hRs22]] at H
 replace H:Hd _ _ _ [blk r5 (AJ vS6 vM7 vC8 vR9 vK10 J11 ((A9 u4).w) ((A9 u4).t) ((A9 u4).o) R18.part R18.ep R18.g hv12 sb13 vs14) 185,Y (Ak Ag) vS6 J11.us,Y Af vM7 J11.map,Y Af vC8 J11.comb,Y Af vR9 J11.red,Y (Ai .i64) vK10 J11.marks,AO (R18.g) hv12,Y (Ak (Ai .i64)) vs14 us15,AV 253 sb13 (R18.st),Y (Ak Ag) vS1 [(u4,Dh),(FD,[])],Y Af vP2 DA,Y (Ai .i64) vK3 [1]] [gl]:=H
 replace H:=Cx r5 vS6 vM7 vC8 vR9 vK10 J11 ((A9 u4).w) ((A9 u4).t) ((A9 u4).o) sb13 R18 hv12 vs14 us15 hf17 H
 replace H:=H.h1 (A:=Bn r5 vS6 vM7 vC8 vR9 vK10 J11 ((A9 u4).w) ((A9 u4).t) ((A9 u4).o) sb13 R18)
 have hsj_R18:=hf16
 have hR0:R18=JL:=by rw [hR19];rfl
 obtain ⟨hk0,hk1,hk2,hk3⟩:=hoks
 rw [←hR0] at hk0
 have hB:=hk0.mono (show 99000≤99999 by omega)
 have hB1:=hk0.mono (show 99000≤100000 by omega)
 refine Ah 5 U (Ac (Z ?_))
 replace H:=H.k1
 refine Ab (Ab (Ae (Ad U (V U U (CN U U U) (Ah 2 U (V U U (C5 U HZ U U) (Ad U (Ac (Z (B9 U (Aw (Z (Ab (Ae (Ad U (sc (MM r5 vS6 vM7 vC8 vR9 vK10 J11 ((A9 u4).w) ((A9 u4).t) ((A9 u4).o) sb13 R18 1 1 0 (by first |assumption|omega|exact C_ _|exact ⟨Di _,by decide⟩|exact AS.pairs (by assumption)|(unfold Ax;omega)|exact (fun r h=>by cases h)|decide|(simp only [List.length_nil];omega)|exact C8) (by first |assumption|omega|exact C_ _|exact ⟨Di _,by decide⟩|exact AS.pairs (by assumption)|(unfold Ax;omega)|exact (fun r h=>by cases h)|decide|(simp only [List.length_nil];omega)|exact C8) (by first |assumption|omega|exact C_ _|exact ⟨Di _,by decide⟩|exact AS.pairs (by assumption)|(unfold Ax;omega)|exact (fun r h=>by cases h)|decide|(simp only [List.length_nil];omega)|exact C8)) H l0 U U (At L7 U U) ?_))))))))))))))))
 rintro v25 _ w ⟨rs23,rfl,hf24⟩ H
 replace H:=H.h2 (A:=Y Bp v25 rs23) (B:=Bn r5 vS6 vM7 vC8 vR9 vK10 J11 ((A9 u4).w) ((A9 u4).t) ((A9 u4).o) sb13 ((Dp J11 ((A9 u4).t) R18 1 1 0).1))
 have hq27:(Dp J11 ((A9 u4).t) R18 1 1 0).1=(H9 J11).1:=by rw [hR0];rfl
 obtain ⟨R26,hR1⟩:∃ z:AC,z=(H9 J11).1:=⟨_,rfl⟩
 rw [hq27,←hR1] at H
 replace H:Hd _ _ _ [Y Bp v25 rs23,Bn r5 vS6 vM7 vC8 vR9 vK10 J11 ((A9 u4).w) ((A9 u4).t) ((A9 u4).o) sb13 R26] [gl]:=H
 have hl1:=congrArg List.length hf24
 rw [List.length_map,hR0] at hl1
 rw [←hR1] at hk1
 have hB1a:=hk1.mono (show 99000≤99999 by omega)
 have hB1b:=hk1.mono (show 99000≤100000 by omega)
 obtain ⟨A28,c29,rfl,hc30,hm31,hp32⟩:=H.fA 0 rfl
 have hn1:=hl1.trans hall.1
 refine Ad U (Ac (Z (Ab (Ae (Ad U (V U U (CM (parts:=[(0,.const (.string ⟨#[98]⟩)),(1,.const (.string ⟨#[49]⟩))]) (vs:=[.string ⟨#[98]⟩,.string ⟨#[49]⟩]) (cs:=[.string ⟨#[98]⟩,.string ⟨#[49]⟩]) U JN U U) (BU (parts:=[(0,.tmp 25)]) (vs:=[.agg #[.string ⟨#[98]⟩,.string ⟨#[49]⟩]]) (cs:=[.string ⟨#[98]⟩,.string ⟨#[49]⟩]) U U U BA CT U (by decide) (by decide) U U H (fun b33 w H=>?_))))))))
 replace H:=H.h1 (A:=blk b33 [.string ⟨#[98]⟩,.string ⟨#[49]⟩] 106)
 refine V U U (CM (parts:=[(0,.const (.int .i64 2)),(2,.const (.int .i64 1)),(9,.tmp 26)]) (vs:=[.int .i64 2,.int .i64 1,.slice (some ⟨b33,0,none⟩) 1 1]) (cs:=[.int .i64 2,.int .i64 0,.int .i64 1,.int .i64 0,.int .i64 0,.int .i64 0,.int .i64 0,.int .i64 0,.slice none 0 0,.slice (some ⟨b33,0,none⟩) 1 1]) U H_ U U) ?_
 replace H:=H.p2
 refine sc (Q2 r5 vS6 vM7 vC8 vR9 vK10 J11 ((A9 u4).w) ((A9 u4).t) ((A9 u4).o) sb13 R26 (⟨2,0,1,0,0,0,0,0,[],[(⟨⟨#[98]⟩,⟨#[49]⟩⟩:Al)]⟩:Bt) (.slice none 0 0) (.slice (some ⟨b33,0,none⟩) 1 1) (by first |assumption|omega|exact C_ _|exact ⟨Di _,by decide⟩|exact AS.pairs (by assumption)|(unfold Ax;omega)|exact (fun r h=>by cases h)|decide|(simp only [List.length_nil];omega)|exact C8) (by first |assumption|omega|exact C_ _|exact ⟨Di _,by decide⟩|exact AS.pairs (by assumption)|(unfold Ax;omega)|exact (fun r h=>by cases h)|decide|(simp only [List.length_nil];omega)|exact C8) (by first |assumption|omega|exact C_ _|exact ⟨Di _,by decide⟩|exact AS.pairs (by assumption)|(unfold Ax;omega)|exact (fun r h=>by cases h)|decide|(simp only [List.length_nil];omega)|exact C8)) H (lX (fun F _ _=>IG _ _ F trivial (by decide)) (lA 0 U (fun F h=>Ch h rfl (by decide) (AZ.flat_eq.2 U)) l0)) U U (At Ps U U) ?_
 rintro _ _ w ⟨u34,rs35,rfl,rfl,hf36⟩ H
 replace H:=H.h2 (A:=Y Bp u34 rs35) (B:=Bn r5 vS6 vM7 vC8 vR9 vK10 J11 ((A9 u4).w) ((A9 u4).t) ((A9 u4).o) sb13 ((Bm J11 R26 (⟨2,0,1,0,0,0,0,0,[],[(⟨⟨#[98]⟩,⟨#[49]⟩⟩:Al)]⟩:Bt)).1))
 have hq38:(Bm J11 R26 (⟨2,0,1,0,0,0,0,0,[],[(⟨⟨#[98]⟩,⟨#[49]⟩⟩:Al)]⟩:Bt)).1=(Hu J11).1:=by rw [hR1];rfl
 obtain ⟨R37,hR2⟩:∃ z:AC,z=(Hu J11).1:=⟨_,rfl⟩
 rw [hq38,←hR2] at H
 replace H:Hd _ _ _ [Y Bp u34 rs35,Bn r5 vS6 vM7 vC8 vR9 vK10 J11 ((A9 u4).w) ((A9 u4).t) ((A9 u4).o) sb13 R37,blk b33 [.string ⟨#[98]⟩,.string ⟨#[49]⟩] 106,Y Bp (.slice A28 rs23.length c29) rs23] [gl]:=H
 have hl2:=congrArg List.length hf36
 rw [List.length_map,hR1] at hl2
 rw [←hR2] at hk2
 have hB2a:=hk2.mono (show 99000≤99999 by omega)
 have hB2b:=hk2.mono (show 99000≤100000 by omega)
 obtain ⟨A39,c40,rfl,hc41,hm42,hp43⟩:=H.fA 0 rfl
 have hn2:=hl2.trans hall.2.2.1
 refine Ah 3 U (Dr U U U K8 H (fun b44 w H=>(Bo U U U CR U U H U (Nat.le_of_ble_eq_true U) (fun u hu=>by simp [Value.cells] at hu;rcases hu with rfl|rfl|rfl|rfl|rfl|rfl|rfl|rfl|rfl|rfl<;>rfl) (fun w H=>?_))))
 replace H:=H.h1 (A:=blk b44 [.int .i64 (((Bm J11 R26 (⟨2,0,1,0,0,0,0,0,[],[(⟨⟨#[98]⟩,⟨#[49]⟩⟩:Al)]⟩:Bt)).2.1).kind),.int .i64 (((Bm J11 R26 (⟨2,0,1,0,0,0,0,0,[],[(⟨⟨#[98]⟩,⟨#[49]⟩⟩:Al)]⟩:Bt)).2.1).sp),.int .i64 (((Bm J11 R26 (⟨2,0,1,0,0,0,0,0,[],[(⟨⟨#[98]⟩,⟨#[49]⟩⟩:Al)]⟩:Bt)).2.1).att),.int .i64 (((Bm J11 R26 (⟨2,0,1,0,0,0,0,0,[],[(⟨⟨#[98]⟩,⟨#[49]⟩⟩:Al)]⟩:Bt)).2.1).part),.int .i64 (((Bm J11 R26 (⟨2,0,1,0,0,0,0,0,[],[(⟨⟨#[98]⟩,⟨#[49]⟩⟩:Al)]⟩:Bt)).2.1).seq),.int .i64 (((Bm J11 R26 (⟨2,0,1,0,0,0,0,0,[],[(⟨⟨#[98]⟩,⟨#[49]⟩⟩:Al)]⟩:Bt)).2.1).next),.int .i64 (((Bm J11 R26 (⟨2,0,1,0,0,0,0,0,[],[(⟨⟨#[98]⟩,⟨#[49]⟩⟩:Al)]⟩:Bt)).2.1).ep),.int .i64 (((Bm J11 R26 (⟨2,0,1,0,0,0,0,0,[],[(⟨⟨#[98]⟩,⟨#[49]⟩⟩:Al)]⟩:Bt)).2.1).why),.slice none 0 0,.slice none 0 0] 64)
 refine Ad U (Ac (Z ?_))
 replace H:=H.p4.p3.p3.p3.k4
 refine Ab (Ae (Ad U ?_))
 replace H:=H.p2
 refine sc (MM r5 vS6 vM7 vC8 vR9 vK10 J11 ((A9 u4).w) ((A9 u4).t) ((A9 u4).o) sb13 R37 0 1 1 (by first |assumption|omega|exact C_ _|exact ⟨Di _,by decide⟩|exact AS.pairs (by assumption)|(unfold Ax;omega)|exact (fun r h=>by cases h)|decide|(simp only [List.length_nil];omega)|exact C8) (by first |assumption|omega|exact C_ _|exact ⟨Di _,by decide⟩|exact AS.pairs (by assumption)|(unfold Ax;omega)|exact (fun r h=>by cases h)|decide|(simp only [List.length_nil];omega)|exact C8) (by first |assumption|omega|exact C_ _|exact ⟨Di _,by decide⟩|exact AS.pairs (by assumption)|(unfold Ax;omega)|exact (fun r h=>by cases h)|decide|(simp only [List.length_nil];omega)|exact C8)) H l0 U U (At L7 U U) ?_
 rintro v47 _ w ⟨rs45,rfl,hf46⟩ H
 replace H:=H.h2 (A:=Y Bp v47 rs45) (B:=Bn r5 vS6 vM7 vC8 vR9 vK10 J11 ((A9 u4).w) ((A9 u4).t) ((A9 u4).o) sb13 ((Dp J11 ((A9 u4).t) R37 0 1 1).1))
 have hq49:(Dp J11 ((A9 u4).t) R37 0 1 1).1=(Fx J11).1:=by rw [hR2];rfl
 obtain ⟨R48,hR3⟩:∃ z:AC,z=(Fx J11).1:=⟨_,rfl⟩
 rw [hq49,←hR3] at H
 replace H:Hd _ _ _ [Y Bp v47 rs45,Bn r5 vS6 vM7 vC8 vR9 vK10 J11 ((A9 u4).w) ((A9 u4).t) ((A9 u4).o) sb13 R48,blk b44 [.int .i64 (((Bm J11 R26 (⟨2,0,1,0,0,0,0,0,[],[(⟨⟨#[98]⟩,⟨#[49]⟩⟩:Al)]⟩:Bt)).2.1).kind),.int .i64 (((Bm J11 R26 (⟨2,0,1,0,0,0,0,0,[],[(⟨⟨#[98]⟩,⟨#[49]⟩⟩:Al)]⟩:Bt)).2.1).sp),.int .i64 (((Bm J11 R26 (⟨2,0,1,0,0,0,0,0,[],[(⟨⟨#[98]⟩,⟨#[49]⟩⟩:Al)]⟩:Bt)).2.1).att),.int .i64 (((Bm J11 R26 (⟨2,0,1,0,0,0,0,0,[],[(⟨⟨#[98]⟩,⟨#[49]⟩⟩:Al)]⟩:Bt)).2.1).part),.int .i64 (((Bm J11 R26 (⟨2,0,1,0,0,0,0,0,[],[(⟨⟨#[98]⟩,⟨#[49]⟩⟩:Al)]⟩:Bt)).2.1).seq),.int .i64 (((Bm J11 R26 (⟨2,0,1,0,0,0,0,0,[],[(⟨⟨#[98]⟩,⟨#[49]⟩⟩:Al)]⟩:Bt)).2.1).next),.int .i64 (((Bm J11 R26 (⟨2,0,1,0,0,0,0,0,[],[(⟨⟨#[98]⟩,⟨#[49]⟩⟩:Al)]⟩:Bt)).2.1).ep),.int .i64 (((Bm J11 R26 (⟨2,0,1,0,0,0,0,0,[],[(⟨⟨#[98]⟩,⟨#[49]⟩⟩:Al)]⟩:Bt)).2.1).why),.slice none 0 0,.slice none 0 0] 64,Y Bp (.slice A39 rs35.length c40) rs35,Y Bp (.slice A28 rs23.length c29) rs23] [gl]:=H
 have hl3:=congrArg List.length hf46
 rw [List.length_map,hR2] at hl3
 rw [←hR3] at hk3
 have hB3a:=hk3.mono (show 99000≤99999 by omega)
 have hB3b:=hk3.mono (show 99000≤100000 by omega)
 obtain ⟨A50,c51,rfl,hc52,hm53,hp54⟩:=H.fA 0 rfl
 have hn3:=hl3.trans hall.2.2.2.1
 have hm3:=hall.2.2.2.2.1
 have hs3:=hall.2.2.2.2.2
 rw [←hR3] at hm3 hs3 hout
 refine Ad U (Ac (Z (Ab (Ae (Ad U ?_)))))
 replace H:=H.p1
 obtain ⟨hv55,vs56,us57,hsets58,H⟩:=EY r5 vS6 vM7 vC8 vR9 vK10 J11 ((A9 u4).w) ((A9 u4).t) ((A9 u4).o) sb13 R48 H
 replace H:=H.h9 (A:=blk r5 (AJ vS6 vM7 vC8 vR9 vK10 J11 ((A9 u4).w) ((A9 u4).t) ((A9 u4).o) R48.part R48.ep R48.g hv55 sb13 vs56) 185) (B:=Y (Ak Ag) vS6 J11.us) (C:=Y Af vM7 J11.map) (D:=Y Af vC8 J11.comb) (E:=Y Af vR9 J11.red) (F:=Y (Ai .i64) vK10 J11.marks) (G:=AO (R48.g) hv55) (I:=Y (Ak (Ai .i64)) vs56 us57) (J:=AV 253 sb13 (R48.st))
 obtain ⟨A59,c60,rfl,hc61,hm62,hp63⟩:=H.fA 1 rfl
 refine sc (Mu r5 A59 c60 vM7 vC8 vR9 vK10 J11 ((A9 u4).w) ((A9 u4).t) ((A9 u4).o) R48.part R48.ep R48 hv55 sb13 vs56 (by first |assumption|omega|exact C_ _|exact ⟨Di _,by decide⟩|exact AS.pairs (by assumption)|(unfold Ax;omega)|exact (fun r h=>by cases h)|decide|(simp only [List.length_nil];omega)|exact C8) (by first |assumption|omega|exact C_ _|exact ⟨Di _,by decide⟩|exact AS.pairs (by assumption)|(unfold Ax;omega)|exact (fun r h=>by cases h)|decide|(simp only [List.length_nil];omega)|exact C8) (by first |assumption|omega|exact C_ _|exact ⟨Di _,by decide⟩|exact AS.pairs (by assumption)|(unfold Ax;omega)|exact (fun r h=>by cases h)|decide|(simp only [List.length_nil];omega)|exact C8) (by first |assumption|omega|exact C_ _|exact ⟨Di _,by decide⟩|exact AS.pairs (by assumption)|(unfold Ax;omega)|exact (fun r h=>by cases h)|decide|(simp only [List.length_nil];omega)|exact C8)) H (lA 0 U (fun _ h=>h) (lA 6 U (fun _ h=>h) (lA 4 U BE (lR 0 U l0)))) U U (At L8 U U) ?_
 rintro _ _ w ⟨u64,rfl,rfl⟩ H
 replace H:=H.h1 (A:=Y Ag u64 ((D3 dg J11 R48).1))|>.p9|>.p9|>.p9|>.p9|>.p9|>.p9|>.p9|>.p9|>.p9
 replace H:=Cx r5 (.slice A59 J11.us.length c60) vM7 vC8 vR9 vK10 J11 ((A9 u4).w) ((A9 u4).t) ((A9 u4).o) sb13 R48 hv55 vs56 us57 hsets58 H
 replace H:=H.h1 (A:=Bn r5 (.slice A59 J11.us.length c60) vM7 vC8 vR9 vK10 J11 ((A9 u4).w) ((A9 u4).t) ((A9 u4).o) sb13 R48)
 refine Ah 7 U (Ac (Z (Ab (Ae (Ad U (V U U (A8 U KX U) (V U U (Bv U U U) (Ad U ?_))))))))
 refine AU (d:=42) U (fun h65=>?_) (fun h65=>?_)
 ·refine V U U (Aj U Gu U) (V U U (Ao U AE U (H.cellI 3 U U)) (V U U (Bv U U U) (Ah 2 U ?_)))
  refine AU (d:=47) U (fun h66=>?_) (fun h66=>?_)
  ·refine Ad U (V U U (A8 U KX U) (V U U (Bv U U U) (Ah 2 U ?_)))
   refine AU (d:=52) U (fun h67=>?_) (fun h67=>?_)
   ·refine Ad U (V U U (A8 U KX U) (V U U (Bv U U U) (Ah 2 U ?_)))
    refine AU (d:=57) U (fun h68=>?_) (fun h68=>?_)
    ·refine Ad U (V U U (CM (parts:=[(0,.const (.string ⟨#[98]⟩)),(1,.const (.string ⟨#[49]⟩))]) (vs:=[.string ⟨#[98]⟩,.string ⟨#[49]⟩]) (cs:=[.string ⟨#[98]⟩,.string ⟨#[49]⟩]) U JN U U) (BU (parts:=[(0,.tmp 59)]) (vs:=[.agg #[.string ⟨#[98]⟩,.string ⟨#[49]⟩]]) (cs:=[.string ⟨#[98]⟩,.string ⟨#[49]⟩]) U U U BA CT U (by decide) (by decide) U U H (fun b69 w H=>(sc (KG u64 (.slice (some ⟨b69,0,none⟩) 1 1) ((D3 dg J11 R48).1) [(⟨⟨#[98]⟩,⟨#[49]⟩⟩:Al)]) H (lA 2 U BE (lA 0 U (fun F h=>Ch h rfl (by decide) (AZ.flat_eq.2 U)) l0)) U U (At Ke U U) ?_))))
     rintro _ _ w ⟨rfl,rfl⟩ H
     refine Ah 2 U ?_
     refine AU (d:=63) U (fun h70=>?_) (fun h70=>?_)
     ·refine Ah 3 U ?_
      refine Es (d:=66) (b:=(D3 dg J11 R48).2.2) U (fun h71=>?_) (fun h71=>?_)
      ·refine Ad U ?_
       replace H:=H.p1
       replace H:Hd _ _ _ [Bn r5 (.slice A59 J11.us.length c60) vM7 vC8 vR9 vK10 J11 ((A9 u4).w) ((A9 u4).t) ((A9 u4).o) sb13 R48,blk b69 [.string ⟨#[98]⟩,.string ⟨#[49]⟩] 106,Y Ag u64 ((D3 dg J11 R48).1),Y Bp (.slice A50 rs45.length c51) rs45,blk b44 [.int .i64 (((Bm J11 R26 (⟨2,0,1,0,0,0,0,0,[],[(⟨⟨#[98]⟩,⟨#[49]⟩⟩:Al)]⟩:Bt)).2.1).kind),.int .i64 (((Bm J11 R26 (⟨2,0,1,0,0,0,0,0,[],[(⟨⟨#[98]⟩,⟨#[49]⟩⟩:Al)]⟩:Bt)).2.1).sp),.int .i64 (((Bm J11 R26 (⟨2,0,1,0,0,0,0,0,[],[(⟨⟨#[98]⟩,⟨#[49]⟩⟩:Al)]⟩:Bt)).2.1).att),.int .i64 (((Bm J11 R26 (⟨2,0,1,0,0,0,0,0,[],[(⟨⟨#[98]⟩,⟨#[49]⟩⟩:Al)]⟩:Bt)).2.1).part),.int .i64 (((Bm J11 R26 (⟨2,0,1,0,0,0,0,0,[],[(⟨⟨#[98]⟩,⟨#[49]⟩⟩:Al)]⟩:Bt)).2.1).seq),.int .i64 (((Bm J11 R26 (⟨2,0,1,0,0,0,0,0,[],[(⟨⟨#[98]⟩,⟨#[49]⟩⟩:Al)]⟩:Bt)).2.1).next),.int .i64 (((Bm J11 R26 (⟨2,0,1,0,0,0,0,0,[],[(⟨⟨#[98]⟩,⟨#[49]⟩⟩:Al)]⟩:Bt)).2.1).ep),.int .i64 (((Bm J11 R26 (⟨2,0,1,0,0,0,0,0,[],[(⟨⟨#[98]⟩,⟨#[49]⟩⟩:Al)]⟩:Bt)).2.1).why),.slice none 0 0,.slice none 0 0] 64,Y Bp (.slice A39 rs35.length c40) rs35,Y Bp (.slice A28 rs23.length c29) rs23] [gl]:=H
       obtain ⟨hv72,vs73,us74,hsets75,H⟩:=EY r5 (.slice A59 J11.us.length c60) vM7 vC8 vR9 vK10 J11 ((A9 u4).w) ((A9 u4).t) ((A9 u4).o) sb13 R48 H
       replace H:=H.h9 (A:=blk r5 (AJ (.slice A59 J11.us.length c60) vM7 vC8 vR9 vK10 J11 ((A9 u4).w) ((A9 u4).t) ((A9 u4).o) R48.part R48.ep R48.g hv72 sb13 vs73) 185) (B:=Y (Ak Ag) (.slice A59 J11.us.length c60) J11.us) (C:=Y Af vM7 J11.map) (D:=Y Af vC8 J11.comb) (E:=Y Af vR9 J11.red) (F:=Y (Ai .i64) vK10 J11.marks) (G:=AO (R48.g) hv72) (I:=Y (Ak (Ai .i64)) vs73 us74) (J:=AV 253 sb13 (R48.st))
       refine sc (HL r5 A59 c60 vM7 vC8 vR9 vK10 J11 ((A9 u4).w) ((A9 u4).t) ((A9 u4).o) R48.part R48.ep R48 hv72 sb13 vs73 (by first |assumption|omega|exact C_ _|exact ⟨Di _,by decide⟩|exact AS.pairs (by assumption)|(unfold Ax;omega)|exact (fun r h=>by cases h)|decide|(simp only [List.length_nil];omega)|exact C8)) H (lA 0 U (fun _ h=>h) l0) U U (At HK U U) ?_
       rintro v76 _ w rfl H
       replace H:=H.h1 (A:=Y (Ai .i64) v76 (Av J11.us.length R48))|>.p9|>.p9|>.p9|>.p9|>.p9|>.p9|>.p9|>.p9|>.p9
       replace H:=Cx r5 (.slice A59 J11.us.length c60) vM7 vC8 vR9 vK10 J11 ((A9 u4).w) ((A9 u4).t) ((A9 u4).o) sb13 R48 hv72 vs73 us74 hsets75 H
       replace H:=H.h1 (A:=Bn r5 (.slice A59 J11.us.length c60) vM7 vC8 vR9 vK10 J11 ((A9 u4).w) ((A9 u4).t) ((A9 u4).o) sb13 R48)
       refine BU (parts:=[(0,.const (.int .i64 0)),(1,.const (.int .i64 1))]) (vs:=[.int .i64 0,.int .i64 1]) (cs:=[.int .i64 0,.int .i64 1]) U U U Ds GK U (by decide) (by decide) U U H (fun b77 w H=>(sc (Za v76 (.slice (some ⟨b77,0,none⟩) 2 2) (Av J11.us.length R48) [0,1]) H (lA 2 U BE (lA 0 U (fun F h=>Ch h rfl (by decide) (AZ.flat_eq.2 U)) l0)) U U (At VT U U) ?_))
       rintro _ _ w ⟨rfl,rfl⟩ H
       refine Ah 2 U ?_
       refine AU (d:=72) U (fun h78=>?_) (fun h78=>?_)
       ·refine Ad U ?_
        replace H:=H.p1
        replace H:Hd _ _ _ [Bn r5 (.slice A59 J11.us.length c60) vM7 vC8 vR9 vK10 J11 ((A9 u4).w) ((A9 u4).t) ((A9 u4).o) sb13 R48,blk b77 [.int .i64 0,.int .i64 1] 3,Y (Ai .i64) v76 (Av J11.us.length R48),blk b69 [.string ⟨#[98]⟩,.string ⟨#[49]⟩] 106,Y Ag u64 ((D3 dg J11 R48).1),Y Bp (.slice A50 rs45.length c51) rs45,blk b44 [.int .i64 (((Bm J11 R26 (⟨2,0,1,0,0,0,0,0,[],[(⟨⟨#[98]⟩,⟨#[49]⟩⟩:Al)]⟩:Bt)).2.1).kind),.int .i64 (((Bm J11 R26 (⟨2,0,1,0,0,0,0,0,[],[(⟨⟨#[98]⟩,⟨#[49]⟩⟩:Al)]⟩:Bt)).2.1).sp),.int .i64 (((Bm J11 R26 (⟨2,0,1,0,0,0,0,0,[],[(⟨⟨#[98]⟩,⟨#[49]⟩⟩:Al)]⟩:Bt)).2.1).att),.int .i64 (((Bm J11 R26 (⟨2,0,1,0,0,0,0,0,[],[(⟨⟨#[98]⟩,⟨#[49]⟩⟩:Al)]⟩:Bt)).2.1).part),.int .i64 (((Bm J11 R26 (⟨2,0,1,0,0,0,0,0,[],[(⟨⟨#[98]⟩,⟨#[49]⟩⟩:Al)]⟩:Bt)).2.1).seq),.int .i64 (((Bm J11 R26 (⟨2,0,1,0,0,0,0,0,[],[(⟨⟨#[98]⟩,⟨#[49]⟩⟩:Al)]⟩:Bt)).2.1).next),.int .i64 (((Bm J11 R26 (⟨2,0,1,0,0,0,0,0,[],[(⟨⟨#[98]⟩,⟨#[49]⟩⟩:Al)]⟩:Bt)).2.1).ep),.int .i64 (((Bm J11 R26 (⟨2,0,1,0,0,0,0,0,[],[(⟨⟨#[98]⟩,⟨#[49]⟩⟩:Al)]⟩:Bt)).2.1).why),.slice none 0 0,.slice none 0 0] 64,Y Bp (.slice A39 rs35.length c40) rs35,Y Bp (.slice A28 rs23.length c29) rs23] [gl]:=H
        obtain ⟨hv79,vs80,us81,hsets82,H⟩:=EY r5 (.slice A59 J11.us.length c60) vM7 vC8 vR9 vK10 J11 ((A9 u4).w) ((A9 u4).t) ((A9 u4).o) sb13 R48 H
        replace H:=H.h9 (A:=blk r5 (AJ (.slice A59 J11.us.length c60) vM7 vC8 vR9 vK10 J11 ((A9 u4).w) ((A9 u4).t) ((A9 u4).o) R48.part R48.ep R48.g hv79 sb13 vs80) 185) (B:=Y (Ak Ag) (.slice A59 J11.us.length c60) J11.us) (C:=Y Af vM7 J11.map) (D:=Y Af vC8 J11.comb) (E:=Y Af vR9 J11.red) (F:=Y (Ai .i64) vK10 J11.marks) (G:=AO (R48.g) hv79) (I:=Y (Ak (Ai .i64)) vs80 us81) (J:=AV 253 sb13 (R48.st))
        have hul_us81:=RQ hsets82 (show AS _ R48 by assumption) (by omega)
        have hsl_us81:=RR hsets82 (show AS _ R48 by assumption)
        refine sc (Rp r5 A59 c60 vM7 vC8 vR9 vK10 J11 ((A9 u4).w) ((A9 u4).t) ((A9 u4).o) R48.part R48.ep R48 hv79 sb13 vs80 us81 (by first |assumption|omega|exact C_ _|exact ⟨Di _,by decide⟩|exact AS.pairs (by assumption)|(unfold Ax;omega)|exact (fun r h=>by cases h)|decide|(simp only [List.length_nil];omega)|exact C8) (by first |assumption|omega|exact C_ _|exact ⟨Di _,by decide⟩|exact AS.pairs (by assumption)|(unfold Ax;omega)|exact (fun r h=>by cases h)|decide|(simp only [List.length_nil];omega)|exact C8) (by first |assumption|omega|exact C_ _|exact ⟨Di _,by decide⟩|exact AS.pairs (by assumption)|(unfold Ax;omega)|exact (fun r h=>by cases h)|decide|(simp only [List.length_nil];omega)|exact C8) (by first |assumption|omega|exact C_ _|exact ⟨Di _,by decide⟩|exact AS.pairs (by assumption)|(unfold Ax;omega)|exact (fun r h=>by cases h)|decide|(simp only [List.length_nil];omega)|exact C8) (by first |assumption|omega|exact C_ _|exact ⟨Di _,by decide⟩|exact AS.pairs (by assumption)|(unfold Ax;omega)|exact (fun r h=>by cases h)|decide|(simp only [List.length_nil];omega)|exact C8) (by first |assumption|omega|exact C_ _|exact ⟨Di _,by decide⟩|exact AS.pairs (by assumption)|(unfold Ax;omega)|exact (fun r h=>by cases h)|decide|(simp only [List.length_nil];omega)|exact C8) (by first |assumption|omega|exact C_ _|exact ⟨Di _,by decide⟩|exact AS.pairs (by assumption)|(unfold Ax;omega)|exact (fun r h=>by cases h)|decide|(simp only [List.length_nil];omega)|exact C8)) H (lA 0 U (fun _ h=>h) (lA 6 U (fun _ h=>h) (lA 4 U BE (lA 7 U BE (lR 0 U l0))))) U U (At Pw U U) ?_
        rintro v85 _ w ⟨zs83,rfl,hf84⟩ H
        have hsl:=congrArg List.length hf84
        rw [List.length_map] at hsl
        have hsl2:(Et dg J11 R48).length=1:=by unfold Et;rw [List.length_map];exact hs3
        obtain ⟨A86,c87,rfl,hc88,hm89,hp90⟩:=H.fA 0 rfl
        replace H:Hd _ _ _ [Y E6 (.slice A86 zs83.length c87) zs83,blk r5 (AJ (.slice A59 J11.us.length c60) vM7 vC8 vR9 vK10 J11 ((A9 u4).w) ((A9 u4).t) ((A9 u4).o) R48.part R48.ep R48.g hv79 sb13 vs80) 185,Y (Ak Ag) (.slice A59 J11.us.length c60) J11.us,Y Af vM7 J11.map,Y Af vC8 J11.comb,Y Af vR9 J11.red,Y (Ai .i64) vK10 J11.marks,AO (R48.g) hv79,Y (Ak (Ai .i64)) vs80 us81,AV 253 sb13 (R48.st),blk b77 [.int .i64 0,.int .i64 1] 3,Y (Ai .i64) v76 (Av J11.us.length R48),blk b69 [.string ⟨#[98]⟩,.string ⟨#[49]⟩] 106,Y Ag u64 ((D3 dg J11 R48).1),Y Bp (.slice A50 rs45.length c51) rs45,blk b44 [.int .i64 (((Bm J11 R26 (⟨2,0,1,0,0,0,0,0,[],[(⟨⟨#[98]⟩,⟨#[49]⟩⟩:Al)]⟩:Bt)).2.1).kind),.int .i64 (((Bm J11 R26 (⟨2,0,1,0,0,0,0,0,[],[(⟨⟨#[98]⟩,⟨#[49]⟩⟩:Al)]⟩:Bt)).2.1).sp),.int .i64 (((Bm J11 R26 (⟨2,0,1,0,0,0,0,0,[],[(⟨⟨#[98]⟩,⟨#[49]⟩⟩:Al)]⟩:Bt)).2.1).att),.int .i64 (((Bm J11 R26 (⟨2,0,1,0,0,0,0,0,[],[(⟨⟨#[98]⟩,⟨#[49]⟩⟩:Al)]⟩:Bt)).2.1).part),.int .i64 (((Bm J11 R26 (⟨2,0,1,0,0,0,0,0,[],[(⟨⟨#[98]⟩,⟨#[49]⟩⟩:Al)]⟩:Bt)).2.1).seq),.int .i64 (((Bm J11 R26 (⟨2,0,1,0,0,0,0,0,[],[(⟨⟨#[98]⟩,⟨#[49]⟩⟩:Al)]⟩:Bt)).2.1).next),.int .i64 (((Bm J11 R26 (⟨2,0,1,0,0,0,0,0,[],[(⟨⟨#[98]⟩,⟨#[49]⟩⟩:Al)]⟩:Bt)).2.1).ep),.int .i64 (((Bm J11 R26 (⟨2,0,1,0,0,0,0,0,[],[(⟨⟨#[98]⟩,⟨#[49]⟩⟩:Al)]⟩:Bt)).2.1).why),.slice none 0 0,.slice none 0 0] 64,Y Bp (.slice A39 rs35.length c40) rs35,Y Bp (.slice A28 rs23.length c29) rs23] [gl]:=H
        replace H:=H.p9.p9.p9.p9.p9.p9.p9.p9.p9
        replace H:=Cx r5 (.slice A59 J11.us.length c60) vM7 vC8 vR9 vK10 J11 ((A9 u4).w) ((A9 u4).t) ((A9 u4).o) sb13 R48 hv79 vs80 us81 hsets82 H
        replace H:=H.h1 (A:=Bn r5 (.slice A59 J11.us.length c60) vM7 vC8 vR9 vK10 J11 ((A9 u4).w) ((A9 u4).t) ((A9 u4).o) sb13 R48)
        refine V U U (A8 U RM U) (V U U (Bv U U U) (Ah 2 U (Ac (Z ?_))))
        replace H:=H.p1.k1
        refine Ap (Aq U U ?_)
        replace H:=H.nil
        exact Am ⟨congrArg Value.bool (decide_eq_true (by omega)),rfl⟩ H
       exact (h78 hm3).elim
      exact absurd hout.2 (by rw [h71];decide)
     exact (h70 hout.1).elim
    exact (h68 (by omega)).elim
   exact (h67 (by omega)).elim
  exact (h66 (by rw [hR1];exact hall.2.1)).elim
 exact (h65 (by omega)).elim
theorem St (vS:Value) (vM:Value) (vC:Value) (vR:Value) (vK:Value) (C:Cf) (k:Int) (hC:D1 C) (wk:Ax k):
    Cn Tryz.prog 48 [.agg #[vS,.int .i64 C.J.parts,vM,vC,vR,.int .i64 C.J.chunk,.int .i64 C.J.window,.int .i64 C.J.fuel,vK,.int .i64 C.w,.int .i64 C.t,.int .i64 C.o],.int .i64 k] [] [Aa (Ak Ag) vS C.J.us,Aa Af vM C.J.map,Aa Af vC C.J.comb,Aa Af vR C.J.red,Aa (Ai .i64) vK C.J.marks] (fun v Bs=>∃ r:Nat,∃ lo:Int,∃ vS2:Value,∃ vM2:Value,∃ vC2:Value,∃ vR2:Value,∃ vK2:Value,∃ J2:AG,∃ sb:Nat,∃ R:AC,v=.tuple #[.pointer (some ⟨r,0,none⟩),.int .i64 lo]∧Bs=[Bn r vS2 vM2 vC2 vR2 vK2 J2 C.w C.t C.o sb R]∧(BC J2 C.J)∧(R=C2 C.J.us.length lo 1 [])∧(0≤lo∧lo<C.J.parts)):=by
 intro w0 F0 H
 obtain ⟨A1,c2,rfl,hc3,hm4,hp5⟩:=H.fR 0 rfl
 obtain ⟨A6,c7,rfl,hc8,hm9,hp10⟩:=H.fR 1 rfl
 obtain ⟨A11,c12,rfl,hc13,hm14,hp15⟩:=H.fR 2 rfl
 obtain ⟨A16,c17,rfl,hc18,hm19,hp20⟩:=H.fR 3 rfl
 obtain ⟨A21,c22,rfl,hc23,hm24,hp25⟩:=H.fR 4 rfl
 have hpt:1≤C.J.parts∧C.J.parts≤4:=hC.1.2.1
 refine enter Tryz.func48 U U (Nat.le_of_ble_eq_true U) (Ab (Ae (Cy U U U U H (fun b26 w H=>(Ah 2 U (Ac (Z ?_)))))))
 replace H:Hd _ _ _ [blk b26 [.slice A1 C.J.us.length c2,.int .i64 C.J.parts,.slice A6 C.J.map.length c7,.slice A11 C.J.comb.length c12,.slice A16 C.J.red.length c17,.int .i64 C.J.chunk,.int .i64 C.J.window,.int .i64 C.J.fuel,.slice A21 C.J.marks.length c22,.int .i64 C.w,.int .i64 C.t,.int .i64 C.o] 28] [Aa (Ak Ag) (.slice A1 C.J.us.length c2) C.J.us,Aa Af (.slice A6 C.J.map.length c7) C.J.map,Aa Af (.slice A11 C.J.comb.length c12) C.J.comb,Aa Af (.slice A16 C.J.red.length c17) C.J.red,Aa (Ai .i64) (.slice A21 C.J.marks.length c22) C.J.marks]:=H
 refine Ab (Ae (Ad U (V U U (Aj U Cu U) (V U U (Aj U GX U) (V U U (Ao U AE U (H.cellI 0 U U)) (sc (Mb k C.J.parts (by first |assumption|(unfold Ax;omega)) (by omega) (by omega)) H l0 U U (At L4 U U) ?_))))))
 rintro _ _ w ⟨rfl,rfl⟩ H
 obtain ⟨lo27,hl28,hl29,hl30⟩:∃ z:Int,IntKind.u64.wrap k%C.J.parts=z∧0≤z∧z<C.J.parts:=⟨_,rfl,Int.emod_nonneg _ (by omega),Int.emod_lt_of_pos _ (by omega)⟩
 rw [hl28]
 refine Ad U (Ac (Z (Ab (Ae (V U U (Bu (cs:=[.slice A1 C.J.us.length c2,.int .i64 C.J.parts,.slice A6 C.J.map.length c7,.slice A11 C.J.comb.length c12,.slice A16 C.J.red.length c17,.int .i64 C.J.chunk,.int .i64 C.J.window,.int .i64 C.J.fuel,.slice A21 C.J.marks.length c22,.int .i64 C.w,.int .i64 C.t,.int .i64 C.o]) U Ek U U (H.cellsI 0 U U)) (Ad U ?_))))))
 have hlo1:Ax lo27:=by unfold Ax;omega
 refine sc (QQ (.slice A1 C.J.us.length c2) (.slice A6 C.J.map.length c7) (.slice A11 C.J.comb.length c12) (.slice A16 C.J.red.length c17) (.slice A21 C.J.marks.length c22) C lo27 1 (.slice none 0 0) [] (by first |assumption|omega|exact ⟨CL hC (by omega) (by omega),by decide⟩|(unfold Ax;omega)|exact (fun r h=>by cases h)|(simp only [List.length_nil];omega)) (by first |assumption|omega|exact ⟨CL hC (by omega) (by omega),by decide⟩|(unfold Ax;omega)|exact (fun r h=>by cases h)|(simp only [List.length_nil];omega)) (by first |assumption|omega|exact ⟨CL hC (by omega) (by omega),by decide⟩|(unfold Ax;omega)|exact (fun r h=>by cases h)|(simp only [List.length_nil];omega)) (by first |assumption|omega|exact ⟨CL hC (by omega) (by omega),by decide⟩|(unfold Ax;omega)|exact (fun r h=>by cases h)|(simp only [List.length_nil];omega)) (by first |assumption|omega|exact ⟨CL hC (by omega) (by omega),by decide⟩|(unfold Ax;omega)|exact (fun r h=>by cases h)|(simp only [List.length_nil];omega)) (by first |assumption|omega|exact ⟨CL hC (by omega) (by omega),by decide⟩|(unfold Ax;omega)|exact (fun r h=>by cases h)|(simp only [List.length_nil];omega))) H (lR 0 U (lR 1 U (lR 2 U (lR 3 U (lR 4 U (lX (fun F _ _=>IG _ _ F trivial (by decide)) l0)))))) U U (At Pv U U) ?_
 rintro _ _ w ⟨r31,vS32,vM33,vC34,vR35,vK36,J37,hv38,sb39,vs40,us41,rfl,rfl,hf42,hf43⟩ H
 replace H:Hd _ _ _ [blk r31 (AJ vS32 vM33 vC34 vR35 vK36 J37 C.w C.t C.o lo27 1 ((C2 J37.us.length lo27 1 ([].map AX.p)).g) hv38 sb39 vs40) 185,Y (Ak Ag) vS32 J37.us,Y Af vM33 J37.map,Y Af vC34 J37.comb,Y Af vR35 J37.red,Y (Ai .i64) vK36 J37.marks,AO ((C2 J37.us.length lo27 1 ([].map AX.p)).g) hv38,Y (Ak (Ai .i64)) vs40 us41,AV 253 sb39 ([]),blk b26 [.slice A1 C.J.us.length c2,.int .i64 C.J.parts,.slice A6 C.J.map.length c7,.slice A11 C.J.comb.length c12,.slice A16 C.J.red.length c17,.int .i64 C.J.chunk,.int .i64 C.J.window,.int .i64 C.J.fuel,.slice A21 C.J.marks.length c22,.int .i64 C.w,.int .i64 C.t,.int .i64 C.o] 28] [Aa (Ak Ag) (.slice A1 C.J.us.length c2) C.J.us,Aa Af (.slice A6 C.J.map.length c7) C.J.map,Aa Af (.slice A11 C.J.comb.length c12) C.J.comb,Aa Af (.slice A16 C.J.red.length c17) C.J.red,Aa (Ai .i64) (.slice A21 C.J.marks.length c22) C.J.marks]:=H
 obtain ⟨R44,hR45⟩:∃ z:AC,z=C2 J37.us.length lo27 1 ([].map AX.p):=⟨_,rfl⟩
 rw [←hR45] at H hf43
 have hRp46:R44.part=lo27:=by rw [hR45];exact (Gz _ _ _ _).1
 have hRe47:R44.ep=1:=by rw [hR45];exact (Gz _ _ _ _).2.1
 have hRs48:R44.st=[]:=by rw [hR45];exact (Gz _ _ _ _).2.2
 rw [show AJ vS32 vM33 vC34 vR35 vK36 J37 C.w C.t C.o lo27 1 R44.g hv38 sb39 vs40=AJ vS32 vM33 vC34 vR35 vK36 J37 C.w C.t C.o R44.part R44.ep R44.g hv38 sb39 vs40 from by rw [hRp46,hRe47],show AV 253 sb39 ([])=AV 253 sb39 (R44.st) from by rw [hRs48]] at H
 replace H:Hd _ _ _ [blk r31 (AJ vS32 vM33 vC34 vR35 vK36 J37 C.w C.t C.o R44.part R44.ep R44.g hv38 sb39 vs40) 185,Y (Ak Ag) vS32 J37.us,Y Af vM33 J37.map,Y Af vC34 J37.comb,Y Af vR35 J37.red,Y (Ai .i64) vK36 J37.marks,AO (R44.g) hv38,Y (Ak (Ai .i64)) vs40 us41,AV 253 sb39 (R44.st),blk b26 [.slice A1 C.J.us.length c2,.int .i64 C.J.parts,.slice A6 C.J.map.length c7,.slice A11 C.J.comb.length c12,.slice A16 C.J.red.length c17,.int .i64 C.J.chunk,.int .i64 C.J.window,.int .i64 C.J.fuel,.slice A21 C.J.marks.length c22,.int .i64 C.w,.int .i64 C.t,.int .i64 C.o] 28] [Aa (Ak Ag) (.slice A1 C.J.us.length c2) C.J.us,Aa Af (.slice A6 C.J.map.length c7) C.J.map,Aa Af (.slice A11 C.J.comb.length c12) C.J.comb,Aa Af (.slice A16 C.J.red.length c17) C.J.red,Aa (Ai .i64) (.slice A21 C.J.marks.length c22) C.J.marks]:=H
 replace H:=Cx r31 vS32 vM33 vC34 vR35 vK36 J37 C.w C.t C.o sb39 R44 hv38 vs40 us41 hf43 H
 replace H:=H.h1 (A:=Bn r31 vS32 vM33 vC34 vR35 vK36 J37 C.w C.t C.o sb39 R44)
 have hsj_R44:=hf42
 refine Ah 5 U (Ac (Z (Ab (Ab (Ae (Ad U (V U U (CN U U U) (Ac (Z (B9 U (Aw (Z (Ab (Ae (Ah 4 U (Ac (Z (Ap (Cm U U U ?_)))))))))))))))))))
 replace H:=H.k1
 exact Am ⟨r31,lo27,vS32,vM33,vC34,vR35,vK36,J37,sb39,R44,rfl,rfl,hf42,hR45,⟨by omega,by omega⟩⟩ H
def Cd (n:Nat):List UInt8:=(List.range 8).map fun i=>UInt8.ofNat (n / 256^(7 - i))
def EX (l:List UInt8):Nat:=l.foldl (fun n x=>n*256+x.toNat) 0
theorem FH (n:Nat):(Cd n).length=8:=by simp [Cd]
theorem Sq (n:Nat):Cd n=[UInt8.ofNat (n / 72057594037927936),UInt8.ofNat (n / 281474976710656),UInt8.ofNat (n / 1099511627776),UInt8.ofNat (n / 4294967296),UInt8.ofNat (n / 16777216),UInt8.ofNat (n / 65536),UInt8.ofNat (n / 256),UInt8.ofNat (n / 1)]:=rfl
theorem Yh {n:Nat} (h:n<18446744073709551616):EX (Cd n)=n:=by
 rw [Sq]
 simp only [EX,List.foldl_cons,List.foldl_nil,UInt8.toNat_ofNat']
 omega
theorem Yi:∀ (l:List UInt8) (k:Nat),EX l<256^l.length:=by
 intro l _
 have:∀ (l:List UInt8) (n m:Nat),n<256^m→l.foldl (fun n x=>n*256+x.toNat) n<256^(m+l.length):=by
  intro l
  induction l with
  |nil=>intro n m h;exact h
  |cons x l ih=>
   intro n m h
   have hx:=UInt8.toNat_lt x
   have:=ih (n*256+x.toNat) (m+1) (by rw [Nat.pow_succ];omega)
   rw [List.foldl_cons,List.length_cons,show m+(l.length+1)=m+1+l.length by omega]
   exact this
 have:=this l 0 0 (by decide)
 rwa [Nat.zero_add] at this
theorem Yj (l:List UInt8) (x:UInt8):EX (l++[x])=EX l*256+x.toNat:=by
 unfold EX;rw [List.foldl_append];rfl
def Cq (s:ByteArray):List UInt8:=s.data.toList
def Dd (s:ByteArray):List UInt8:=Cd s.size++Cq s
theorem Gn (s:ByteArray):(Cq s).length=s.size:=by unfold Cq;exact Array.length_toList
theorem IP (s:ByteArray):(Dd s).length=8+s.size:=by unfold Dd;rw [List.length_append,FH,Gn]
def FU (l:List UInt8):ByteArray:=⟨l.toArray⟩
theorem ZM (s:ByteArray):FU (Cq s)=s:=by cases s;simp [FU,Cq]
theorem SD (l:List UInt8):Cq (FU l)=l:=by simp [FU,Cq]
def GD (b:List UInt8) (at_:Int):Option (Int×Int):=
 if at_<0∨(b.length:Int)<at_∨(b.length:Int) - at_<8 then none else some (IntKind.i64.wrap (EX ((b.drop at_.toNat).take 8):Nat),at_+8)
def Jv (b:List UInt8) (at_:Int):Option (ByteArray×Int):=
 match GD b at_ with
 |none=>none
 |some (n,next)=>if n<0∨(b.length:Int) - next<n then none else some (FU ((b.drop next.toNat).take n.toNat),next+n)
theorem QF {a c:List UInt8} {n k:Nat} (hn:n<9223372036854775808) (hk:a.length=k):GD (a++(Cd n++c)) (k:Int)=some ((n:Int),((k+8:Nat):Int)):=by
 subst hk
 unfold GD
 rw [if_neg (by rw [List.length_append,List.length_append,FH];omega)]
 have h1:((a++(Cd n++c)).drop ((a.length:Nat):Int).toNat).take 8=Cd n:=by
  rw [Int.toNat_natCast,List.drop_left,←FH n,List.take_left]
 rw [h1,Yh (by omega),AF (by omega) (by omega)]
 rfl
theorem QG {a c:List UInt8} {s:ByteArray} {k:Nat} (hs:s.size<9223372036854775808) (hk:a.length=k):Jv (a++(Dd s++c)) (k:Int)=some (s,((k+8+s.size:Nat):Int)):=by
 unfold Jv
 have h:a++(Dd s++c)=a++(Cd s.size++(Cq s++c)):=by unfold Dd;rw [List.append_assoc]
 rw [h,QF hs hk]
 dsimp only
 rw [if_neg (by rw [List.length_append,List.length_append,List.length_append,FH,Gn];omega)]
 have h2:(a++(Cd s.size++(Cq s++c))).drop ((k+8:Nat):Int).toNat=Cq s++c:=by
  rw [Int.toNat_natCast,←List.append_assoc,show k+8=(a++Cd s.size).length by rw [List.length_append,FH,hk],List.drop_left]
 rw [h2,Int.toNat_natCast,←Gn s,List.take_left,ZM,Gn]
 rfl
def CB (ps:List Al):List UInt8:=ps.flatMap fun p=>Dd p.key++Dd p.val
def FQ (ps:List Al):List UInt8:=Cd ps.length++CB ps
theorem Qb (ps:List Al) (p:Al):CB (ps++[p])=CB ps++(Dd p.key++Dd p.val):=by unfold CB;rw [List.flatMap_append];simp
theorem Qc {ps:List Al} {k:Nat} {p:Al} (h:ps[k]?=some p):CB ps=CB (ps.take k)++(Dd p.key++(Dd p.val++CB (ps.drop (k+1)))):=by
 obtain ⟨hl,e⟩:=List.getElem?_eq_some_iff.1 h
 have:ps=ps.take k++p::ps.drop (k+1):=by rw [←e,←List.drop_eq_getElem_cons hl,List.take_append_drop]
 conv=>lhs;rw [this]
 unfold CB
 rw [List.flatMap_append,List.flatMap_cons,List.append_assoc]
def EO (x:UInt8):List Value:=[.int .u8 x.toNat]
def B2:Kd UInt8:=flat EO 1 (by omega) (fun _=>rfl) (fun _ c h=>by simp [EO] at h;subst h;rfl)
structure CX where
 c:Int
 s:Int
 e:Int
 x:Int
def CK (chunk att:Int):Int:=if att.tmod 2≠0 then chunk+1 else chunk
def De (n size:Int):Int:=if n<1∨size<1 then 0 else (n - 1).tdiv size+1
def D7 (ps:List Al) (size q:Int):List Al:=if q<0∨De ps.length size≤q then [] else (ps.drop (q*size).toNat).take size.toNat
def BI (D:Bg) (J:AG) (s:Nat) (att:Int):List Int:=
 if (AB D J s).2≠0 then [] else (List.range J.parts.toNat).map fun (p:Nat)=>De ((B0 D J s p).length:Nat) (CK J.chunk att)
structure F6 where
 sp:Nat
 att:Int
 ws:List CX
def FO (D:Bg) (J:AG) (s:Nat) (att:Int):F6:=⟨s,att,(BI D J s att).map fun n=>⟨n,J.window,0,0⟩⟩
def B_ (D:Bg) (J:AG) (s:Nat) (att p q:Int):List Al:=if p<0 then [] else D7 (B0 D J s p) (CK J.chunk att) q
def Nb (m:F6) (p:Int):Prop:=0≤p∧p<m.ws.length
instance (m:F6) (p:Int):Decidable (Nb m p):=by unfold Nb;infer_instance
theorem SU {n size:Int} (h1:1≤n) (h2:1≤size):1≤De n size∧De n size≤n:=by
 unfold De
 rw [if_neg (by omega)]
 have h3:(n - 1).tdiv size=(n - 1) / size:=Int.tdiv_eq_ediv_of_nonneg (by omega)
 rw [h3]
 have h4:0≤(n - 1) / size:=Int.ediv_nonneg (by omega) (by omega)
 have h5:(n - 1) / size≤n - 1:=Int.ediv_le_self _ (by omega)
 omega
theorem NP {n size:Int} (h:0≤n):0≤De n size∧De n size≤n:=by
 by_cases h1:n<1∨size<1
 ·unfold De;rw [if_pos h1];omega
 ·have:=SU (n:=n) (size:=size) (by omega) (by omega);omega
theorem I6 {chunk att:Int} (h:1≤chunk∧chunk≤7):1≤CK chunk att∧CK chunk att≤8:=by
 unfold CK;split<;>omega
theorem I5 (D:Bg) (J:AG) (s:Nat) (att:Int):(BI D J s att).length=if (AB D J s).2≠0 then 0 else J.parts.toNat:=by
 unfold BI
 split
 ·rfl
 ·simp
theorem Td {D:Bg} {J:AG} {s:Nat} {att n:Int} (h:n∈BI D J s att):0≤n∧n≤40:=by
 unfold BI at h
 split at h
 ·cases h
 ·obtain ⟨p,_,rfl⟩:=List.mem_map.1 h
  have h1:=NP (n:=((B0 D J s p).length:Nat)) (size:=CK J.chunk att) (by omega)
  have h2:=HN D J s p
  omega
theorem Lh {n size:Nat} (hs:1≤size):De (n:Int) (size:Int)=(((n+size - 1) / size:Nat):Int):=by
 unfold De
 by_cases h:n=0
 ·subst h
  rw [if_pos (by omega),Nat.zero_add,Nat.div_eq_of_lt (by omega)];rfl
 ·rw [if_neg (by omega),Int.tdiv_eq_ediv_of_nonneg (by omega)]
  have:(n:Int) - 1=((n - 1:Nat):Int):=by omega
  rw [this,←Int.natCast_ediv,show n+size - 1=(n - 1)+size by omega,Nat.add_div_right _ (by omega)]
  omega
theorem ST {n size:Nat} (hs:1≤size):n≤(n+size - 1) / size*size:=by
 have:=Nat.div_add_mod (n+size - 1) size
 have h2:=Nat.mod_lt (n+size - 1) (show size>0 by omega)
 rw [Nat.mul_comm] at this
 omega
theorem Tk {ps:List Al} {size q:Nat} (h:q<(ps.length+size - 1) / size) (hs:1≤size):D7 ps size q=(ps.drop (q*size)).take size:=by
 unfold D7
 rw [if_neg (by rw [Lh hs];omega)]
 rw [show ((q:Int)*(size:Int))=((q*size:Nat):Int) by simp,Int.toNat_natCast,Int.toNat_natCast]
theorem N3 {ps:List Al} {size:Nat} (hs:1≤size):∀ k:Nat,k≤(ps.length+size - 1) / size→((List.range k).map fun (q:Nat)=>D7 ps size q).flatten=ps.take (k*size)
 |0,_=>by simp
 |k+1,h=>by
  rw [List.range_succ,List.map_append,List.flatten_append,N3 hs k (by omega)]
  simp only [List.map_cons,List.map_nil,List.flatten_cons,List.flatten_nil,List.append_nil]
  rw [Tk (by omega) hs,Nat.succ_mul,List.take_add]
theorem Tj {ps:List Al} {size:Nat} (hs:1≤size):((List.range ((ps.length+size - 1) / size)).map fun (q:Nat)=>D7 ps size q).flatten=ps:=by
 rw [N3 hs _ (Nat.le_refl _)]
 exact List.take_of_length_le (ST hs)
def Em (D:Bg) (J:AG) (s:Nat) (att p:Int):Nat:=((B0 D J s p).length+(CK J.chunk att).toNat - 1) / (CK J.chunk att).toNat
def Hw (D:Bg) (J:AG) (s:Nat) (att p:Int) (k:Nat):List (List Al):=(List.range k).map fun (q:Nat)=>B_ D J s att p q
section
variable {D:Bg} {J:AG} (hJ:B5 J) {s:Nat} {att p:Int} (hp:0≤p)
include hJ hp
theorem SQ:(Hw D J s att p (Em D J s att p)).flatten=B0 D J s p:=by
 have h1:=I6 (att:=att) hJ.chunk1
 obtain ⟨z,hz⟩:∃ z:Nat,CK J.chunk att=(z:Int):=⟨(CK J.chunk att).toNat,by omega⟩
 have:Hw D J s att p (Em D J s att p)=(List.range (((B0 D J s p).length+z - 1) / z)).map fun (q:Nat)=>D7 (B0 D J s p) z q:=by
  unfold Hw Em B_
  rw [hz,Int.toNat_natCast]
  exact List.map_congr_left fun q _=>if_neg (by omega)
 rw [this]
 exact Tj (by omega)
end
theorem Tc {D:Bg} {J:AG} (hJ:B5 J) {s:Nat} {att p:Int} (h0:(AB D J s).2=0) {k:Nat} (hk:k<J.parts.toNat) (hkp:p=(k:Int)):(BI D J s att)[k]?=some ((Em D J s att p:Nat):Int):=by
 have h1:=I6 (att:=att) hJ.chunk1
 obtain ⟨z,hz⟩:∃ z:Nat,CK J.chunk att=(z:Int):=⟨(CK J.chunk att).toNat,by omega⟩
 unfold BI Em
 rw [if_neg (fun h=>h h0),List.getElem?_map,List.getElem?_range hk,Option.map_some,hz,Lh (by omega),hkp,Int.toNat_natCast]
/-! ### What waits -/
theorem Zl (st:CW) (a b:Int) (x:List Al) (a' b':Int):B3 (Ei st a b x) a' b'=if a'=a∧b'=b then B3 st a b++[x] else B3 st a' b':=by
 induction st with
 |nil=>
  unfold Ei B3
  by_cases h:a'=a∧b'=b
  ·rw [if_pos h,if_pos ⟨h.1.symm,h.2.symm⟩];rfl
  ·rw [if_neg h,if_neg (fun g=>h ⟨g.1.symm,g.2.symm⟩)];rfl
 |cons e st ih=>
  unfold Ei
  by_cases he:e.1.1=a∧e.1.2=b
  ·rw [if_pos he]
   unfold B3
   by_cases h:a'=a∧b'=b
   ·rw [if_pos h,if_pos (by rw [h.1,h.2];exact he),if_pos he]
   ·rw [if_neg h,if_neg (fun g=>h ⟨g.1.symm.trans he.1,g.2.symm.trans he.2⟩),if_neg (fun g=>h ⟨g.1.symm.trans he.1,g.2.symm.trans he.2⟩)]
  ·rw [if_neg he]
   unfold B3
   rw [ih]
   by_cases h:a'=a∧b'=b
   ·obtain ⟨rfl,rfl⟩:=h;simp [he]
   ·simp [h]
theorem Zm (st:CW) (a a' b':Int):B3 (D4 st a) a' b'=if a'=a then [] else B3 st a' b':=by
 induction st with
 |nil=>
  show ([]:List (List Al))=if a'=a then [] else []
  split<;>rfl
 |cons e st ih=>
  unfold D4 at ih ⊢
  rw [List.filter_cons]
  by_cases he:e.1.1=a
  ·rw [if_neg (by simpa using he),ih]
   by_cases h:a'=a
   ·rw [if_pos h,if_pos h]
   ·rw [if_neg h,if_neg h]
    conv=>rhs;unfold B3
    rw [if_neg (fun g=>h (g.1.symm.trans he))]
  ·rw [if_pos (by simpa using he)]
   unfold B3
   rw [ih]
   by_cases h:a'=a
   ·rw [if_pos h,if_pos h,if_neg (fun g=>he (g.1.trans h))]
   ·rw [if_neg h,if_neg h]
structure DN (D:Bg) (J:AG) (p:Int) (win:Nat→Int) (R:AC):Prop where
 part:R.part=p
 told:∀ s,s<J.us.length→(R.g s).told=true→(R.g s).att=win s∧(R.g s).cnt=Em D J s (win s) p∧(AB D J s).2=0
 st:∀ (s:Nat) (a:Int),s<J.us.length→∃ k,k≤Em D J s a p∧B3 R.st s a=Hw D J s a p k
 merged:∀ s,s<J.us.length→(R.g s).merged=true→(R.g s).pairs=B0 D J s p∧(AB D J s).2=0
 sets:∀ set∈R.sets,(∀ x∈set,x∈Av J.us.length R)∧(set.length:Int)∈J.marks
 grow:R.sets.Pairwise fun a b=>∀ x∈a,x∈b
theorem TW (D:Bg) (J:AG) (p ep:Int) (win:Nat→Int):DN D J p win (GE p ep) where
 part:=rfl
 told:=fun s _ h=>by cases h
 st:=fun s a _=>⟨0,Nat.zero_le _,rfl⟩
 merged:=fun s _ h=>by cases h
 sets:=fun set h=>by cases h
 grow:=List.Pairwise.nil
theorem PS {n:Nat} {R R':AC} (h:∀ s,s<n→(R.g s).merged=true→(R'.g s).merged=true) {x:Int} (hx:x∈Av n R):x∈Av n R':=by
 obtain ⟨i,h1,h2,h3⟩:=Kp.1 hx
 exact Kp.2 ⟨i,h1,h i h1 h2,h3⟩
theorem NN (D:Bg) (J:AG) (s:Nat) (a p:Int) (k:Nat):(Hw D J s a p k).length=k:=by simp [Hw]
theorem PE {D:Bg} {J:AG} (hJ:B5 J) {p:Int} (hp:0≤p) {win:Nat→Int} {R:AC} {k:Nat} (hk:k<J.us.length) (hm:(R.g k).merged=false) (h:DN D J p win R):DN D J p win (CZ J R k).1:=by
 unfold CZ
 split
 ·exact h
 ·rename_i ht
  obtain ⟨ha,hc,h0⟩:=h.told k hk (by simpa using ht)
  split
  ·exact h
  ·rename_i ps hps
   split
   ·exact h
   ·have hps':ps=B0 D J k p:=by
     unfold AD at hps
     split at hps
     ·cases hps
     ·rename_i hn
      have hn2:Co R.st k (R.g k).att=(R.g k).cnt:=Classical.not_not.1 fun g=>hn (.inr g)
      obtain ⟨j,hj,e⟩:=h.st k (R.g k).att hk
      unfold Co at hn2
      rw [e,NN,hc] at hn2
      obtain rfl:j=Em D J k (win k) p:=by omega
      injection hps with hps
      rw [←hps,e,ha]
      exact SQ hJ hp
    have key:DN D J p win { R with g:=AQ R.g k { R.g k with merged:=true,pairs:=ps },st:=D4 R.st k }:=by
     refine ⟨h.part,fun s hs hs2=>?_,fun s a hs=>?_,fun s hs hs2=>?_,fun set hset=>?_,h.grow⟩
     ·dsimp only at hs2 ⊢
      by_cases e:s=k
      ·subst e;rw [DR];exact ⟨ha,hc,h0⟩
      ·rw [Eb _ _ e] at hs2 ⊢;exact h.told s hs hs2
     ·dsimp only
      rw [Zm]
      split
      ·exact ⟨0,Nat.zero_le _,rfl⟩
      ·exact h.st s a hs
     ·dsimp only at hs2 ⊢
      by_cases e:s=k
      ·subst e;rw [DR];exact ⟨hps',h0⟩
      ·rw [Eb _ _ e] at hs2 ⊢;exact h.merged s hs hs2
     ·obtain ⟨h1,h2⟩:=h.sets set hset
      refine ⟨fun x hx=>PS (fun s hs hs2=>?_) (h1 x hx),h2⟩
      dsimp only
      by_cases e:s=k
      ·subst e;rw [DR]
      ·rw [Eb _ _ e];exact hs2
    dsimp only
    split
    ·rename_i hmk
     refine ⟨key.part,key.told,key.st,key.merged,fun set hset=>?_,?_⟩
     ·rcases List.mem_append.1 hset with h1|h1
      ·exact key.sets set h1
      ·rw [List.mem_singleton.1 h1];exact ⟨fun x hx=>hx,hmk⟩
     ·refine List.pairwise_append.2 ⟨key.grow,List.pairwise_singleton _ _,fun a ha b hb=>?_⟩
      rw [List.mem_singleton.1 hb]
      exact (key.sets a ha).1
    ·exact key
theorem XY {D:Bg} {J:AG} {p:Int} {win:Nat→Int} {R:AC} {s:Nat} {a:Int} {q:Nat} (hs:s<J.us.length) (hq:q<Em D J s a p) (h:DN D J p win R):DN D J p win { R with st:=C3 R.st s a q (B_ D J s a p q) }:=by
 refine ⟨h.part,h.told,fun s' a' hs'=>?_,h.merged,h.sets,h.grow⟩
 dsimp only
 unfold C3
 split
 ·rename_i hm
  rw [Zl]
  split
  ·rename_i he
   obtain ⟨e1,rfl⟩:=he
   obtain rfl:s'=s:=by omega
   obtain ⟨k,hk,e⟩:=h.st s' a' hs
   have hqk:(q:Int)=Co R.st s' a':=hm.1
   unfold Co at hqk
   rw [e,NN] at hqk
   obtain rfl:q=k:=by omega
   refine ⟨q+1,by omega,?_⟩
   rw [e]
   unfold Hw
   rw [List.range_succ,List.map_append]
   rfl
  ·exact h.st s' a' hs'
 ·exact h.st s' a' hs'
theorem XR {D:Bg} {J:AG} (hJ:B5 J) {p:Int} (hp:0≤p) {win:Nat→Int} {R:AC} {s:Nat} {a:Int} {q:Nat} {m:Bt} (hs:s<J.us.length) (hq:q<Em D J s a p) (h:DN D J p win R)
  (hm:m=⟨2,s,a,p,q,0,0,0,[],B_ D J s a p q⟩):DN D J p win (Bm J R m).1∧(Bm J R m).2.1.kind=3∧(Bm J R m).2.1.ep=R.ep∧(Bm J R m).2.1.sp=s∧(Bm J R m).2.1.att=a:=by
 subst hm
 have hn:¬ EV J R ⟨2,s,a,p,q,0,0,0,[],B_ D J s a p q⟩:=by
  unfold EV
  have:=h.part
  simp only
  omega
 have hst:((s:Int)).toNat=s:=Int.toNat_natCast s
 have hep:∀ R1:AC,(CZ J R1 s).1.ep=R1.ep:=by
  intro R1
  unfold CZ
  split
  ·rfl
  ·split
   ·rfl
   ·split
    ·rfl
    ·dsimp only;split<;>rfl
 have key:DN D J p win (EW J R ⟨2,s,a,p,q,0,0,0,[],B_ D J s a p q⟩).1∧(EW J R ⟨2,s,a,p,q,0,0,0,[],B_ D J s a p q⟩).1.ep=R.ep:=by
  unfold EW
  split
  ·rename_i ht
   have ht1:(R.g ((s:Int)).toNat).merged=false:=ht.1
   rw [hst] at ht1
   dsimp only
   rw [hst]
   exact ⟨PE hJ hp hs ht1 (XY hs hq h),hep _⟩
  ·exact ⟨h,rfl⟩
 unfold Bm
 rw [if_neg hn]
 exact ⟨key.1,rfl,key.2,rfl,rfl⟩
theorem aZ {D:Bg} {J:AG} (hJ:B5 J) {p:Int} (hp:0≤p) {win:Nat→Int} {R:AC} {s:Nat} {t:Int} (hs:s<J.us.length) (h0:(AB D J s).2=0) (h:DN D J p win R):DN D J p win (Dp J t R s (win s) (Em D J s (win s) p)).1:=by
 unfold Dp
 split
 ·exact h
 ·rename_i hn
  rw [Int.toNat_natCast]
  have hm:(R.g s).merged=false:=by
   cases hb:(R.g s).merged with
   |false=>rfl
   |true=>exact absurd (.inr (.inl (by rw [Int.toNat_natCast];exact hb))) hn
  refine PE hJ hp hs (by dsimp only;rw [DR];exact hm) ⟨h.part,fun s' hs' hs2=>?_,h.st,fun s' hs' hs2=>?_,fun set hset=>?_,h.grow⟩
  ·dsimp only at hs2 ⊢
   by_cases e:s'=s
   ·subst e;rw [DR];exact ⟨rfl,rfl,h0⟩
   ·rw [Eb _ _ e] at hs2 ⊢;exact h.told s' hs' hs2
  ·dsimp only at hs2 ⊢
   by_cases e:s'=s
   ·subst e;rw [DR] at hs2 ⊢;exact h.merged s' hs' hs2
   ·rw [Eb _ _ e] at hs2 ⊢;exact h.merged s' hs' hs2
  ·obtain ⟨h1,h2⟩:=h.sets set hset
   refine ⟨fun x hx=>PS (fun s' hs' hs2=>?_) (h1 x hx),h2⟩
   dsimp only
   by_cases e:s'=s
   ·subst e;rw [DR];exact hs2
   ·rw [Eb _ _ e];exact hs2
/-! ### What the model tells of some splits -/
def setGo (D:Bg) (J:AG) (p:Int) (set:List Int):Nat→Nat→List Al→List Al×Int
 |0,_,out=>(out,0)
 |k+1,s,out=>if (s:Int)∈set then (if (AB D J s).2≠0 then ([],(AB D J s).2) else setGo D J p set k (s+1) (out++B0 D J s p)) else setGo D J p set k (s+1) out
def partSet (D:Bg) (J:AG) (p:Int) (set:List Int):List Al×Int:=
 if (setGo D J p set J.us.length 0 []).2≠0 then ([],(setGo D J p set J.us.length 0 []).2) else BX D J.red (srt (setGo D J p set J.us.length 0 []).1) J.fuel false
theorem Rh {D:Bg} {J:AG} {p:Int} {win:Nat→Int} {R:AC} {set:List Int} (h:DN D J p win R) (hs:∀ x∈set,x∈Av J.us.length R):
  ∀ (k s:Nat),s+k=J.us.length→setGo D J p set k s (Ck s R set)=(Ck J.us.length R set,0)
 |0,s,e=>by rw [show J.us.length=s by omega];rfl
 |k+1,s,e=>by
  have ih:=Rh h hs k (s+1) (by omega)
  rw [Ra] at ih
  unfold setGo
  by_cases hx:(s:Int)∈set
  ·obtain ⟨i,h1,h2,h3⟩:=Kp.1 (hs _ hx)
   obtain rfl:s=i:=by omega
   obtain ⟨g1,g2⟩:=h.merged s h1 h2
   rw [if_pos hx,if_neg (fun g=>g g2),←g1]
   rwa [if_pos ⟨h2,hx⟩] at ih
  ·rw [if_neg hx]
   rw [if_neg (fun g=>hx g.2),List.append_nil] at ih
   exact ih
theorem Qf {D:Bg} {J:AG} {p:Int} {win:Nat→Int} {R:AC} {set:List Int} (h:DN D J p win R) (hs:∀ x∈set,x∈Av J.us.length R):partSet D J p set=DH D J R set:=by
 have:=Rh h hs J.us.length 0 (by omega)
 unfold partSet DH
 rw [show ([]:List Al)=Ck 0 R set from rfl,this]
 exact if_neg (fun h=>h rfl)
/-! ### Split by split -/
theorem SS {D:Bg} (hD:∀ s:ByteArray,Ax (D.num s)) {J:AG} (hJ:B5 J) (s:Nat) (a p q:Int):(B_ D J s a p q).length≤8∧G5 (B_ D J s a p q):=by
 have h1:=I6 (att:=a) hJ.chunk1
 unfold B_
 split
 ·exact ⟨Nat.zero_le _,fun x hx=>by cases hx⟩
 ·unfold D7
  split
  ·exact ⟨Nat.zero_le _,fun x hx=>by cases hx⟩
  ·refine ⟨Nat.le_trans (by rw [List.length_take];exact Nat.min_le_left _ _) (by omega),fun x hx=>?_⟩
   have:=List.mem_of_mem_drop (List.mem_of_mem_take hx)
   exact HQ hD hJ s x (List.mem_filter.1 this).1
theorem NS (D:Bg) {J:AG} (hJ:B5 J) (s:Nat) (a p:Int):Em D J s a p≤40:=by
 have h1:=I6 (att:=a) hJ.chunk1
 have h2:=HN D J s p
 have h3:=NP (n:=((B0 D J s p).length:Nat)) (size:=CK J.chunk a) (by omega)
 obtain ⟨z,hz⟩:∃ z:Nat,CK J.chunk a=(z:Int):=⟨(CK J.chunk a).toNat,by omega⟩
 rw [hz,Lh (by omega)] at h3
 unfold Em
 rw [hz,Int.toNat_natCast]
 omega
structure bL (D:Bg) (J:AG) (p:Int) (R:AC) (dn:Nat→Bool):Prop where
 part:R.part=p
 st:R.st=[]
 yes:∀ i,i<J.us.length→dn i=true→(R.g i).merged=true∧(R.g i).pairs=B0 D J i p∧(AB D J i).2=0
 no:∀ i,i<J.us.length→dn i=false→(R.g i).merged=false∧(R.g i).told=false
theorem NZ {D:Bg} {J:AG} (hJ:B5 J) {s:Nat} {a p:Int} {x:Int} (h0:(AB D J s).2=0) (hp:0≤p∧p<J.parts) (hx:(BI D J s a)[p.toNat]?=some x):x=((Em D J s a p:Nat):Int):=
 Option.some.inj (hx.symm.trans (Tc hJ h0 (by omega) (by omega)))
/-! ### Six truth values in a row -/
section
variable {D:Bg} {J:AG} {p:Int} {set:List Int}
theorem Zh {k n:Nat} {out:List Al} (hk:k<n) (h:¬ (k:Int)∈set):setGo D J p set (n - (k+1)) (k+1) out=setGo D J p set (n - k) k out:=by
 rw [show n - k=n - (k+1)+1 by omega]
 conv=>rhs;unfold setGo
 rw [if_neg h]
theorem Zi {k n:Nat} {out:List Al} (hk:k<n) (h:(k:Int)∈set) (h0:¬ (AB D J k).2≠0):setGo D J p set (n - (k+1)) (k+1) (out++B0 D J k p)=setGo D J p set (n - k) k out:=by
 rw [show n - k=n - (k+1)+1 by omega]
 conv=>rhs;unfold setGo
 rw [if_pos h,if_neg h0]
theorem Zg {k n:Nat} {out:List Al} (hk:k<n) (h:(k:Int)∈set) (h0:(AB D J k).2≠0):setGo D J p set (n - k) k out=([],(AB D J k).2):=by
 rw [show n - k=n - (k+1)+1 by omega]
 unfold setGo
 rw [if_pos h,if_pos h0]
theorem XG {k:Nat} {out:List Al} (hk:k<J.us.length) (h:(k:Int)∈set) (h0:(AB D J k).2≠0) (hg:setGo D J p set (J.us.length - k) k out=setGo D J p set J.us.length 0 []):partSet D J p set=([],(AB D J k).2):=by
 rw [Zg hk h h0] at hg
 unfold partSet
 rw [←hg,if_pos h0]
theorem XH {k:Nat} {out:List Al} (hk:k=J.us.length) (hg:setGo D J p set (J.us.length - k) k out=setGo D J p set J.us.length 0 []):partSet D J p set=BX D J.red (srt out) J.fuel false:=by
 subst hk
 rw [Nat.sub_self] at hg
 unfold partSet
 rw [←hg]
 exact if_neg (fun h=>h rfl)
theorem Q4 (D:Bg) (J:AG) (s:Nat) (p:Int):(CD D J s p).1.length≤40:=by
 unfold CD
 split
 ·exact Nat.zero_le _
 ·exact HN D J s p
theorem Q5 {s:Nat}:(CD D J s p).2=(AB D J s).2:=by
 unfold CD
 split
 ·rfl
 ·rename_i h;exact (Classical.not_not.1 h).symm
theorem Zf {k n:Nat} {out:List Al} (hk:k<n) (h:(k:Int)∈set) (h0:¬ (CD D J k p).2≠0):setGo D J p set (n - (k+1)) (k+1) (out++(CD D J k p).1)=setGo D J p set (n - k) k out:=by
 rw [Q5] at h0
 rw [show (CD D J k p).1=B0 D J k p by unfold CD;rw [if_neg h0]]
 exact Zi hk h h0
theorem XF {k:Nat} {out:List Al} (hk:k<J.us.length) (h:(k:Int)∈set) (h0:(CD D J k p).2≠0) (hg:setGo D J p set (J.us.length - k) k out=setGo D J p set J.us.length 0 []):partSet D J p set=([],(CD D J k p).2):=by
 rw [Q5] at h0 ⊢
 exact XG hk h h0 hg
theorem XI (D:Bg) (J:AG) (p:Int) (set:List Int):(partSet D J p set).1.length≤40:=by
 unfold partSet
 split
 ·exact Nat.zero_le _
 ·exact Lp _ _ _ _ _ _ _ (Nat.zero_le _)
end
theorem BC.setGo {A B:AG} (h:BC A B) (D:Bg) (p:Int) (set:List Int):∀ k s out,setGo D A p set k s out=setGo D B p set k s out
 |0,_,_=>rfl
 |k+1,s,out=>by unfold X.setGo;rw [h.split,h.only,BC.setGo h D p set k,BC.setGo h D p set k]
theorem BC.partSet {A B:AG} (h:BC A B) (D:Bg) (p:Int) (set:List Int):partSet D A p set=partSet D B p set:=by
 unfold X.partSet
 rw [h.setGo,h.len,h.red,h.fuel]
section
variable {D:Bg} {J C:AG} {p:Int} {win:Nat→Int} {R:AC} {zs:List (CF Int)}
theorem ZZ (hs:BC J C) (h:DN D J p win R) (hz:zs.map HO=Et D J R) {i:Nat} {x:CF Int} (hx:zs[i]?=some x):
  partSet D C p x.set=(x.pairs,x.h)∧(x.set.length:Int)∈C.marks:=by
 have h1:(Et D J R)[i]?=some (HO x):=by rw [←hz,List.getElem?_map,hx];rfl
 unfold Et at h1
 rw [List.getElem?_map] at h1
 cases hr:R.sets[i]? with
 |none=>rw [hr] at h1;cases h1
 |some set=>
  rw [hr] at h1
  have h2:=Option.some.inj h1
  have e1:x.set=set:=congrArg GP.set h2.symm
  have e2:x.h=(DH D J R set).2:=congrArg GP.why h2.symm
  have e3:x.pairs=(DH D J R set).1:=congrArg GP.pairs h2.symm
  obtain ⟨g1,g2⟩:=h.sets set (List.mem_of_getElem? hr)
  rw [e1,e2,e3,←hs.partSet,Qf h g1,←hs.marks]
  exact ⟨rfl,g2⟩
theorem Z0 (h:DN D J p win R) (hz:zs.map HO=Et D J R) {i j:Nat} {x y:CF Int} (hij:i<j) (hx:zs[i]?=some x) (hy:zs[j]?=some y):∀ n∈x.set,n∈y.set:=by
 have hs:∀ {i:Nat} {x:CF Int},zs[i]?=some x→R.sets[i]?=some x.set:=by
  intro i x hx
  have h1:(Et D J R)[i]?=some (HO x):=by rw [←hz,List.getElem?_map,hx];rfl
  unfold Et at h1
  rw [List.getElem?_map] at h1
  cases hr:R.sets[i]? with
  |none=>rw [hr] at h1;cases h1
  |some set=>
   rw [hr] at h1
   exact congrArg some (congrArg GP.set (Option.some.inj h1))
 have h1:=hs hx
 have h2:=hs hy
 obtain ⟨l1,e1⟩:=List.getElem?_eq_some_iff.1 h1
 obtain ⟨l2,e2⟩:=List.getElem?_eq_some_iff.1 h2
 have:=List.pairwise_iff_getElem.1 h.grow i j l1 l2 hij
 rw [e1,e2] at this
 exact this
theorem Z2 (hs:BC J C) (h:DN D J p win R):D3 D J R=if (Av J.us.length R).length<J.us.length then ([],0,false) else ((partSet D C p (Av J.us.length R)).1,(partSet D C p (Av J.us.length R)).2,true):=by
 rw [←hs.partSet,Qf h fun x hx=>hx]
 rfl
theorem WH (hs:BC J C) (h:DN D J p win R) {x:Int} (hx:x∈Av J.us.length R):∃ s:Nat,x=(s:Int)∧s<C.us.length∧s<J.us.length∧CD D C s p=((R.g s).pairs,0)∧(R.g s).merged=true:=by
 obtain ⟨i,h1,h2,h3⟩:=Kp.1 hx
 obtain ⟨g1,g2⟩:=h.merged i h1 h2
 refine ⟨i,h3,by rw [←hs.len];exact h1,h1,?_,h2⟩
 unfold CD
 rw [←hs.split,if_neg (fun g=>g g2),←hs.only,g1]
end
def F5 (ws:List Int) (t:Int) (s:Nat):Int:=if h:s<ws.length then 1+IntKind.u64.wrap ws[s]%t else 1
theorem aW (ws:List Int) {t:Int} (ht:1≤t) (s:Nat):1≤F5 ws t s∧F5 ws t s≤t:=by
 unfold F5
 split
 ·have h1:=Int.emod_nonneg (IntKind.u64.wrap ws[s]) (show t≠0 by omega)
  have h2:=Int.emod_lt_of_pos (IntKind.u64.wrap ws[s]) (show 0<t by omega)
  omega
 ·omega
theorem aY {ws:List Int} {t:Int} {s:Nat} {x:Int} (h:ws[s]?=some x):F5 ws t s=1+IntKind.u64.wrap x%t:=by
 obtain ⟨l,e⟩:=List.getElem?_eq_some_iff.1 h
 unfold F5
 rw [dif_pos l,e]
theorem aX {ws:List Int} {t:Int} {s:Nat} (h:¬ s<ws.length):F5 ws t s=1:=dif_neg h
theorem Te {D:Bg} {J:AG} {s:Nat} {a:Int} (h:(BI D J s a).length≠0):(AB D J s).2=0:=by
 unfold BI at h
 by_cases e:(AB D J s).2=0
 ·exact e
 ·rw [if_pos e] at h;exact absurd rfl h
theorem MY {m n:Nat} (h:m≤9223372036854775807):IntKind.i64.wrap (((m:Int)).tdiv ((n:Nat):Int))=((m / n:Nat):Int):=by
 have h1:m / n≤m:=Nat.div_le_self m n
 show IntKind.i64.wrap ((m / n:Nat):Int)=((m / n:Nat):Int)
 obtain ⟨q,hq⟩:∃ q,m / n=q:=⟨_,rfl⟩
 rw [hq] at h1 ⊢
 exact AF (by omega) (by omega)
theorem Xz {n:Nat} {R:AC} {s:Nat} (h:s<n):G9 n R (s:Int)=(R.g s).pairs:=by
 rw [Qd ⟨by omega,by omega⟩,Int.toNat_natCast]
theorem Qe (vS vM vC vR vK:Value) (J:AG) (hJ:B5 J) (p:Nat) (hp:(p:Int)<J.parts) (set:List Int) (vl:Value):
    Cn Tryz.prog 67 [.agg #[vS,.int .i64 J.parts,vM,vC,vR,.int .i64 J.chunk,.int .i64 J.window,.int .i64 J.fuel,vK],.int .i64 ((p:Nat):Int),vl] [] [Aa (Ak Ag) vS J.us,Aa Af vM J.map,Aa Af vC J.comb,Aa Af vR J.red,Aa (Ai .i64) vK J.marks,Aa (Ai .i64) vl set,gl] (fun v Bs=>∃ u,v=.tuple #[u,.int .i64 (partSet dg J p set).2]∧Bs=[Y Ag u (partSet dg J p set).1]):=by
 intro w0 F0 H
 obtain ⟨A1,c2,rfl,hc3,hm4,hp5⟩:=H.fR 0 rfl
 obtain ⟨A6,c7,rfl,hc8,hm9,hp10⟩:=H.fR 1 rfl
 obtain ⟨A11,c12,rfl,hc13,hm14,hp15⟩:=H.fR 2 rfl
 obtain ⟨A16,c17,rfl,hc18,hm19,hp20⟩:=H.fR 3 rfl
 obtain ⟨A21,c22,rfl,hc23,hm24,hp25⟩:=H.fR 4 rfl
 obtain ⟨A26,c27,rfl,hc28,hm29,hp30⟩:=H.fR 5 rfl
 have hus:=hJ.us
 have hpt:=hJ.parts
 have hfu:=hJ.fuel
 refine enter Tryz.func67 U U (Nat.le_of_ble_eq_true U) (Ab (Ae (Cy U U U U H (fun b31 w H=>(Ah 2 U (Ac (Z ?_)))))))
 replace H:Hd _ _ _ [blk b31 [.slice A1 J.us.length c2,.int .i64 J.parts,.slice A6 J.map.length c7,.slice A11 J.comb.length c12,.slice A16 J.red.length c17,.int .i64 J.chunk,.int .i64 J.window,.int .i64 J.fuel,.slice A21 J.marks.length c22] 26] [Aa (Ak Ag) (.slice A1 J.us.length c2) J.us,Aa Af (.slice A6 J.map.length c7) J.map,Aa Af (.slice A11 J.comb.length c12) J.comb,Aa Af (.slice A16 J.red.length c17) J.red,Aa (Ai .i64) (.slice A21 J.marks.length c22) J.marks,Aa (Ai .i64) (.slice A26 set.length c27) set,gl]:=H
 refine Ab (Ab (Ae (V U U (Bu (cs:=[.slice A1 J.us.length c2,.int .i64 J.parts,.slice A6 J.map.length c7,.slice A11 J.comb.length c12,.slice A16 J.red.length c17,.int .i64 J.chunk,.int .i64 J.window,.int .i64 J.fuel,.slice A21 J.marks.length c22]) U FW U U (H.cellsI 0 U U)) (sc (LT (.slice A1 J.us.length c2) (.slice A6 J.map.length c7) (.slice A11 J.comb.length c12) (.slice A16 J.red.length c17) (.slice A21 J.marks.length c22) J) H (lR 0 U (lR 1 U (lR 2 U (lR 3 U (lR 4 U l0))))) U U (At L9 U U) ?_))))
 rintro _ _ w ⟨rfl,rfl⟩ H
 refine V U U (DD U U) (Ad U ?_)
 refine AU (d:=15) U (fun h32=>?_) (fun h32=>?_)
 ·exact (h32 hJ.may).elim
 refine Ad U (V U U (Bd U U U) (Ah 2 U ?_))
 refine AU (d:=19) U (fun h33=>?_) (fun h33=>?_)
 ·exfalso;omega
 refine Ad U (V U U (Aj U GX U) (V U U (Ao U AE U (H.cellI 0 U U)) (V U U (Cw U U U) (Ad U (Ac (Z ?_))))))
 replace H:Hd _ _ _ [blk b31 [.slice A1 J.us.length c2,.int .i64 J.parts,.slice A6 J.map.length c7,.slice A11 J.comb.length c12,.slice A16 J.red.length c17,.int .i64 J.chunk,.int .i64 J.window,.int .i64 J.fuel,.slice A21 J.marks.length c22] 26] [Aa (Ak Ag) (.slice A1 J.us.length c2) J.us,Aa Af (.slice A6 J.map.length c7) J.map,Aa Af (.slice A11 J.comb.length c12) J.comb,Aa Af (.slice A16 J.red.length c17) J.red,Aa (Ai .i64) (.slice A21 J.marks.length c22) J.marks,Aa (Ai .i64) (.slice A26 set.length c27) set,gl]:=H
 refine Az U (fun h34=>?_) (fun h34=>?_)
 ·exfalso;omega
 refine Aw (Z (Ab (Ae (Ad U (Ac (Z (Ab (Ab (Ae (V U U (Aj U Dw U) (V U U (Ao U Dy U (H.cellI 0 U U)) (V U U (A8 U Dz U) (Ad U (Ac (Z (AW ?_))))))))))))))))
 replace H:=H.newnil (Ak Ag)
 refine BT (σ:=Nat×Value×List (Value×List Al)) (fun (k,q,zs)=>[(1,.int .i64 ((p:Nat):Int)),(2,.slice A26 set.length c27),(3,.pointer (some ⟨b31,0,none⟩)),(8,q),(27,.int .i64 ((J.us.length:Nat):Int)),(28,.int .i64 ((k:Nat):Int))]) (fun (k,q,zs) w=>(Hd w0 F0 w [Y (Ak Ag) q zs,blk b31 [.slice A1 J.us.length c2,.int .i64 J.parts,.slice A6 J.map.length c7,.slice A11 J.comb.length c12,.slice A16 J.red.length c17,.int .i64 J.chunk,.int .i64 J.window,.int .i64 J.fuel,.slice A21 J.marks.length c22] 26] [Aa (Ak Ag) (.slice A1 J.us.length c2) J.us,Aa Af (.slice A6 J.map.length c7) J.map,Aa Af (.slice A11 J.comb.length c12) J.comb,Aa Af (.slice A16 J.red.length c17) J.red,Aa (Ai .i64) (.slice A21 J.marks.length c22) J.marks,Aa (Ai .i64) (.slice A26 set.length c27) set,gl])∧(k≤J.us.length∧zs.length≤k)∧(setGo dg J p set (J.us.length - k) k (BK zs)=setGo dg J p set J.us.length 0 [])∧((BK zs).length≤40*k)) (fun (k,q,zs)=>J.us.length - k) (0,.slice none 0 0,[]) ⟨rfl,rfl,rfl,rfl,rfl,rfl,trivial⟩ ⟨H,⟨Nat.zero_le _,Nat.zero_le _⟩,rfl,Nat.zero_le _⟩ ?_
 rintro ⟨k,q,zs⟩ w ⟨H,hk,hz,hf⟩
 have hrl:=Q4 dg J k p
 refine Ab (Ae (V U U (Bd U U U) (Ac (Z (Ab ?_)))))
 refine Az U (fun h35=>?_) (fun h35=>?_)
 ·refine Aw (Z (Ab (AW (Ab (Ae (Ah 2 U (Ac (Z (Ab (Ab (Ae (Ah 2 U (sc (JT (.slice A26 set.length c27) set ((k:Nat):Int)) H (lR 5 U l0) U U (At Kc U U) ?_)))))))))))))
  rintro _ _ w ⟨rfl,rfl⟩ H
  refine V U U (DD U U) (Ac (Z ?_))
  refine Az U (fun h36=>?_) (fun h36=>?_)
  ·exact BM (AR (BN (Z (Ae (V U U (A0 (z:=((k+1:Nat):Int)) U U U (by rw [AF (by omega) (by omega)];omega)) (Ad U (Ac (Bl (s:=(k,undef,zs)) (k+1,q,zs) ⟨rfl,rfl,rfl,rfl,rfl,rfl,trivial⟩ ⟨H,⟨by (try dsimp only);omega,by (try dsimp only);omega⟩,(Zh (by omega) h36).trans hz,by (try dsimp only);omega⟩ (by (try dsimp only);omega)))))))))
  refine Aw (Z (Ab (Ae (V U U (Bu (cs:=[.slice A1 J.us.length c2,.int .i64 J.parts,.slice A6 J.map.length c7,.slice A11 J.comb.length c12,.slice A16 J.red.length c17,.int .i64 J.chunk,.int .i64 J.window,.int .i64 J.fuel,.slice A21 J.marks.length c22]) U FW U U (H.cellsI 1 U U)) (Ah 2 U (sc (OY (.slice A1 J.us.length c2) (.slice A6 J.map.length c7) (.slice A11 J.comb.length c12) (.slice A16 J.red.length c17) (.slice A21 J.marks.length c22) J (by first |assumption|exact hC.ok) k ((p:Nat):Int) (by first |omega|decide)) H (lR 0 U (lR 1 U (lR 2 U (lR 3 U (lR 4 U (lR 6 U l0)))))) U U (At Pu U U) ?_))))))
  rintro _ _ w ⟨u37,rfl,rfl⟩ H
  refine Ah 5 U (Ac (Z ?_))
  replace H:Hd _ _ _ [Y Ag u37 ((CD dg J k ((p:Nat):Int)).1),Y (Ak Ag) q zs,blk b31 [.slice A1 J.us.length c2,.int .i64 J.parts,.slice A6 J.map.length c7,.slice A11 J.comb.length c12,.slice A16 J.red.length c17,.int .i64 J.chunk,.int .i64 J.window,.int .i64 J.fuel,.slice A21 J.marks.length c22] 26] [Aa (Ak Ag) (.slice A1 J.us.length c2) J.us,Aa Af (.slice A6 J.map.length c7) J.map,Aa Af (.slice A11 J.comb.length c12) J.comb,Aa Af (.slice A16 J.red.length c17) J.red,Aa (Ai .i64) (.slice A21 J.marks.length c22) J.marks,Aa (Ai .i64) (.slice A26 set.length c27) set,gl]:=H
  refine Ab (Ab (Ae (Ad U (V U U (CN U U U) (Ac (Z ?_))))))
  refine Az U (fun h38=>?_) (fun h38=>?_)
  ·refine Ab (Ae (Ah 3 U (Ac (Z (Ap (AA (Bb (AA (AA (Bb (AA (Cm U U U ?_))))))))))))
   have e:partSet dg J p set=([],(CD dg J k p).2):=XF (by omega) (Classical.not_not.1 h36) h38 hz
   replace H:=H.nil|>.newnil Ag
   exact Am ⟨_,by rw [e]<;>rfl,by rw [e]<;>rfl⟩ H
  refine Aw (Z (Ae (Ah 2 U ?_)))
  obtain ⟨A40,c41,rfl,hc42,hm43,hp44⟩:=H.fA 0 rfl
  refine BU (parts:=[(0,.tmp 46)]) (vs:=[.slice A40 (((CD dg J k ((p:Nat):Int)).1).length) c41]) (cs:=[.slice A40 (((CD dg J k ((p:Nat):Int)).1).length) c41]) U U U Ej Hr U (by decide) (by decide) U U H (fun b39 w H=>?_)
  replace H:=H.p2
  replace H:Hd _ _ _ [Y (Ak Ag) q zs,blk b39 [.slice A40 (((CD dg J k ((p:Nat):Int)).1).length) c41] 35,Y Ag (.slice A40 (((CD dg J k ((p:Nat):Int)).1).length) c41) ((CD dg J k ((p:Nat):Int)).1),blk b31 [.slice A1 J.us.length c2,.int .i64 J.parts,.slice A6 J.map.length c7,.slice A11 J.comb.length c12,.slice A16 J.red.length c17,.int .i64 J.chunk,.int .i64 J.window,.int .i64 J.fuel,.slice A21 J.marks.length c22] 26] [Aa (Ak Ag) (.slice A1 J.us.length c2) J.us,Aa Af (.slice A6 J.map.length c7) J.map,Aa Af (.slice A11 J.comb.length c12) J.comb,Aa Af (.slice A16 J.red.length c17) J.red,Aa (Ai .i64) (.slice A21 J.marks.length c22) J.marks,Aa (Ai .i64) (.slice A26 set.length c27) set,gl]:=H
  refine FS U U U Ej Hr U (by decide) U U H (by first |omega|(simp only [List.length_append,List.length_cons,List.length_nil];omega)) (fun v45 w H=>?_)
  replace H:=H.h1 (A:=Y (Ak Ag) v45 (zs++[((.slice A40 (((CD dg J k ((p:Nat):Int)).1).length) c41:Value),(CD dg J k ((p:Nat):Int)).1)]))
  refine Ad U (Ac (A_ (Z (Ae (V U U (A0 (z:=((k+1:Nat):Int)) U U U (by rw [AF (by omega) (by omega)];omega)) (Ad U (Ac ?_)))))))
  have hz2:setGo dg J p set (J.us.length - (k+1)) (k+1) (BK (zs++[((.slice A40 (((CD dg J k ((p:Nat):Int)).1).length) c41:Value),(CD dg J k ((p:Nat):Int)).1)]))=setGo dg J p set J.us.length 0 []:=by rw [Ot];exact (Zf (by omega) (Classical.not_not.1 h36) h38).trans hz
  have hf2:(BK (zs++[((.slice A40 (((CD dg J k ((p:Nat):Int)).1).length) c41:Value),(CD dg J k ((p:Nat):Int)).1)])).length≤40*(k+1):=by rw [Ot,List.length_append];have:=Q4 dg J k p;omega
  have hl2:(zs++[((.slice A40 (((CD dg J k ((p:Nat):Int)).1).length) c41:Value),(CD dg J k ((p:Nat):Int)).1)]).length≤k+1:=by simp only [List.length_append,List.length_cons,List.length_nil];omega
  exact Bl (s:=(k,undef,zs)) (k+1,v45,zs++[((.slice A40 (((CD dg J k ((p:Nat):Int)).1).length) c41:Value),(CD dg J k ((p:Nat):Int)).1)]) ⟨rfl,rfl,rfl,rfl,rfl,rfl,trivial⟩ ⟨H,⟨by (try dsimp only);omega,hl2⟩,hz2,hf2⟩ (by (try dsimp only);omega)
 refine BM (AR (AR (BN (Z (Ab (BP (.e 0 (.e 1 (.e 2 (.e 4 (.e 5 (.m 3 (.m 6 (.e 7 (.e 8 (.e 9 (.e 10 .z))))))))))) (fun w=>∃ Ar,Hd w0 F0 w (Y (Ak Ag) q zs::blk b31 [.slice A1 J.us.length c2,.int .i64 J.parts,.slice A6 J.map.length c7,.slice A11 J.comb.length c12,.slice A16 J.red.length c17,.int .i64 J.chunk,.int .i64 J.window,.int .i64 J.fuel,.slice A21 J.marks.length c22] 26::Ar) [Aa (Ak Ag) (.slice A1 J.us.length c2) J.us,Aa Af (.slice A6 J.map.length c7) J.map,Aa Af (.slice A11 J.comb.length c12) J.comb,Aa Af (.slice A16 J.red.length c17) J.red,Aa (Ai .i64) (.slice A21 J.marks.length c22) J.marks,Aa (Ai .i64) (.slice A26 set.length c27) set,gl]) mo (by kernel_rfl) (fun w H=>⟨_,H⟩) H (fun w H=>(An U U U (fun w ⟨Ar,H⟩=>Aj U HD U) (An U U U (fun w ⟨Ar,H⟩=>Ao U Ee U (H.cellI 1 U U)) ?_)))))))))
 refine Au U (An U U U (fun w ⟨Ar,H⟩=>Aj U Ja U) (An U U U (fun w ⟨Ar,H⟩=>Ao U AE U (H.cellI 1 U U)) (AK U (sc (Q_ q zs (by first |omega|decide|exact Nat.le_trans (GW _ _) (by omega)|exact Nat.le_trans (Oq _ _) (by omega)|(simp only [BK,List.flatMap_cons,List.flatMap_nil,List.append_nil,Fq];omega))) H (lA 0 U BE l0) U U (At O7 U U) ?_))))
 rintro v46 _ w rfl H
 replace H:=H.h2 (A:=Y Ag v46 (srt (BK zs))) (B:=Y (Ak Ag) q zs)|>.p2|>.p2
 refine AH ⟨_,H⟩ (AK U ?_)
 have hsl:=Fq (BK zs)
 refine sc (OF (.slice A16 J.red.length c17) J.red v46 (srt (BK zs)) J.fuel hJ.red hJ.f64 (by rw [Fq];omega)) H (lR 3 U (lA 2 U BE (lR 6 U l0))) U U (At O6 U U) ?_
 rintro _ _ w ⟨u47,rfl,rfl⟩ H
 replace H:=H.h1 (A:=Y Ag u47 ((BX dg J.red (srt (BK zs)) J.fuel false).1))|>.p2|>.p2
 refine AH ⟨_,H⟩ (Au U (Au U (Au U (Au U (BH (Z (Ap (Cm U U U ?_))))))))
 have e:partSet dg J p set=BX dg J.red (srt (BK zs)) J.fuel false:=XH (by omega) hz
 replace H:=H.p2.k1
 exact Am ⟨_,by rw [e]<;>rfl,by rw [e]<;>rfl⟩ H
theorem U4:AL Tryz.prog 135:=AM Tryz.func135 rfl rfl
theorem Ve:AL Tryz.prog 182:=AM Tryz.func182 rfl rfl
theorem Vf:AL Tryz.prog 183:=AM Tryz.func183 rfl rfl
theorem Vr:AL Tryz.prog 217:=AM Tryz.func217 rfl rfl
theorem VX:AL Tryz.prog 66:=AM Tryz.func66 rfl rfl
theorem UG (f:FuncId) (cap:List Value) (Ex:List SP) (p:Int→Bool) (hkf:AL Tryz.prog f) (hp:∀ x,Cn Tryz.prog f ([.int .i64 x]++cap) [] Ex (fun v Bs=>v=.bool (p x)∧Bs=[])) (v:Value) (xs:List Int):
    Cn Tryz.prog 217 [v,.func (.func f) #[] (cap).toArray] [] (Aa (Ai .i64) v xs::Ex) (fun v Bs=>v=.int .i64 (E3 p xs)∧Bs=[]):=by
 intro w0 F0 H
 obtain ⟨A1,c2,rfl,hc3,hm4,hp5⟩:=H.fR 0 rfl
 refine enter Tryz.func217 U U (Nat.le_of_ble_eq_true U) (Ab (Ae (Ad U (Ac (Z ?_)))))
 replace H:Hd _ _ _ [] (Aa (Ai .i64) (.slice A1 xs.length c2) xs::Ex):=H
 refine Ab (Ab (Ae (Ad U (V U U (A8 U DL U) (Ad U (Ac (Z (AW (BT (σ:=Nat) (fun k=>[(0,.slice A1 xs.length c2),(1,.func (.func f) #[] (cap).toArray),(7,.int .i64 ((xs.length:Nat):Int)),(8,.int .i64 ((k:Nat):Int))]) (fun k w=>(Hd w0 F0 w [] (Aa (Ai .i64) (.slice A1 xs.length c2) xs::Ex))∧(k≤xs.length)∧(∀ y∈xs.take k,p y=false)) (fun k=>xs.length - k) 0 ⟨rfl,rfl,rfl,rfl,trivial⟩ ⟨H,by omega,by simp⟩ ?_)))))))))
 rintro k w ⟨H,hk,hn⟩
 refine Ab (Ae (V U U (Bd U U U) (Ac (Z (Ab ?_)))))
 refine Az U (fun h6=>?_) (fun h6=>?_)
 ·refine Aw (Z (Ab (AW (Ab (Ae (Ah 2 U (Ac (Z (Ab (Ae (Ah 3 U ?_)))))))))))
  obtain ⟨x7,hx8⟩:∃ z9,xs[k]?=some z9:=⟨_,List.getElem?_eq_getElem (show k<xs.length by omega)⟩
  have th9:=H.thR 0 rfl hx8
  refine V U U (Ba (p:=AT A1+k*1) U Ds U U (by omega) (by omega) th9 U) (V U U (Ao U AE U (H.elR 0 U hx8 (q:=0) U U)) (sc (hp x7) H (fun S hS F hA hR=>hR S (List.mem_cons_of_mem _ hS)) U U (FJ (vs:=[.int .i64 x7]) (fs:=#[]) (cs:=cap.toArray) hkf U U U) ?_))
  rintro _ _ w ⟨rfl,rfl⟩ H
  refine Ac (Z ?_)
  refine Dv (b:=p x7) U (fun h10=>?_) (fun h10=>?_)
  ·exact Ab (Ae (Ah 2 U (Ac (Z (Ap (Bb (AA (AA (Bb (AA (Aq U U (Am ⟨by rw [J0 hn hx8 h10]<;>rfl,rfl⟩ H))))))))))))
  exact Aw (A_ (Z (Ae (V U U (A0 (z:=((k+1:Nat):Int)) U U U (by rw [AF (by omega) (by omega)];omega)) (Ad U (Ac (Bl (s:=k) (k+1) ⟨rfl,rfl,rfl,rfl,trivial⟩ ⟨H,by omega,KP hn hx8 h10⟩ (by (try dsimp only);omega))))))))
 refine BM (AR (AR (BN (Z (Ab (Ae (Ad U (Ac (Z (Ap (Aq U U ?_)))))))))))
 have hn2:∀ y∈xs,p y=false:=by rw [←Hm (xs:=xs) (k:=k) (by omega)];exact hn
 exact Am ⟨by rw [I8 hn2]<;>rfl,rfl⟩ H
theorem Tb (f:FuncId) (cap:List Value) (Ex:List SP) (p:Int→Bool) (hkf:AL Tryz.prog f) (hp:∀ x,Cn Tryz.prog f ([.int .i64 x]++cap) [] Ex (fun v Bs=>v=.bool (p x)∧Bs=[])) (v:Value) (xs:List Int):
    Cn Tryz.prog 182 [v,.func (.func f) #[] (cap).toArray] [] (Aa (Ai .i64) v xs::Ex) (fun v Bs=>v=.bool (xs.any p)∧Bs=[]):=by
 intro w0 F0 H
 refine enter Tryz.func182 U U (Nat.le_of_ble_eq_true U) (Ab (Ae (Ad U (Ac (Z (Ab (Ae (Ah 2 U (sc (UG f cap Ex p hkf hp v xs) H Kg U U (At Vr U U) ?_)))))))))
 rintro _ _ w ⟨rfl,rfl⟩ H
 exact V U U (Cw U U U) (Ad U (Ac (Z (Ap (Aq U U (Am ⟨congrArg Value.bool (J1 p xs),rfl⟩ H))))))
theorem Uu (b:Nat) (vy:Value) (ys:List Int) (x:Int):
    Cn Tryz.prog 183 [.int .i64 x,.pointer (some ⟨b,0,none⟩)] [] [blk b [vy] 24,Aa (Ai .i64) vy ys] (fun v Bs=>v=.bool (!decide (x∈ys))∧Bs=[]):=by
 intro w0 F0 H
 refine enter Tryz.func183 U U (Nat.le_of_ble_eq_true U) (Ab (Ae (Ad U (Ac (Z (Ab (Ae (V U U (Ao U EH U (H.cellRI 0 U U)) (Ad U (sc (JT vy ys x) H (lR 1 U l0) U U (At Kc U U) ?_))))))))))
 rintro _ _ w ⟨rfl,rfl⟩ H
 exact V U U (DD U U) (Ad U (Ac (Z (Ap (Aq U U (Am ⟨by simp,rfl⟩ H))))))
theorem Uv (va:Value) (a:List Int) (vb:Value) (b:List Int):
    Cn Tryz.prog 135 [va,vb] [] [Aa (Ai .i64) va a,Aa (Ai .i64) vb b] (fun v Bs=>v=.bool (decide (∀ n∈a,n∈b))∧Bs=[]):=by
 intro w0 F0 H
 obtain ⟨A1,c2,rfl,hc3,hm4,hp5⟩:=H.fR 0 rfl
 obtain ⟨A6,c7,rfl,hc8,hm9,hp10⟩:=H.fR 1 rfl
 refine enter Tryz.func135 U U (Nat.le_of_ble_eq_true U) (Ab (Ae (Cy U U U U H (fun b11 w H=>(Ad U (Ac (Z ?_)))))))
 replace H:Hd _ _ _ [blk b11 [.slice A6 b.length c7] 24] [Aa (Ai .i64) (.slice A1 a.length c2) a,Aa (Ai .i64) (.slice A6 b.length c7) b]:=H
 refine Ab (Ae (Ad U (V U U (Hb (fs:=#[]) (cs:=#[.pointer (some ⟨b11,0,none⟩)]) U U U) (sc (Tb 183 [.pointer (some ⟨b11,0,none⟩)] [blk b11 [.slice A6 b.length c7] 24,Aa (Ai .i64) (.slice A6 b.length c7) b] (fun x=>!decide (x∈b)) Vf (fun x=>Uu b11 (.slice A6 b.length c7) b x) (.slice A1 a.length c2) a) H (lR 0 U (lA 0 U (fun _ h=>h) (lR 1 U l0))) U U (At Ve U U) ?_))))
 rintro _ _ w ⟨rfl,rfl⟩ H
 refine V U U (Ep U U U) (Ad U (Ac (Z (Ap (Aq U U ?_)))))
 have e:(!(a.any (fun x=>!decide (x∈b))))=decide (∀ n∈a,n∈b):=by rw [Bool.eq_iff_iff];simp
 replace H:=H.nil
 exact Am ⟨congrArg Value.bool e,rfl⟩ H
theorem Z1 (vS:Value) (vM:Value) (vC:Value) (vR:Value) (vK:Value) (C:Cf) (r:Nat) (vS2:Value) (vM2:Value) (vC2:Value) (vR2:Value) (vK2:Value) (J2:AG) (sb:Nat) (R:AC) (p:Nat) (win:Nat→Int) (hC:D1 C) (hJ:B5 C.J) (hsj:BC J2 C.J) (hF:DN dg J2 ((p:Nat):Int) win R) (hp:(p:Int)<C.J.parts) (hB:AS 99999 R):
    Cn Tryz.prog 66 [.agg #[vS,.int .i64 C.J.parts,vM,vC,vR,.int .i64 C.J.chunk,.int .i64 C.J.window,.int .i64 C.J.fuel,vK,.int .i64 C.w,.int .i64 C.t,.int .i64 C.o],.pointer (some ⟨r,0,none⟩),.int .i64 ((p:Nat):Int)] [Bn r vS2 vM2 vC2 vR2 vK2 J2 C.w C.t C.o sb R] [Aa (Ak Ag) vS C.J.us,Aa Af vM C.J.map,Aa Af vC C.J.comb,Aa Af vR C.J.red,Aa (Ai .i64) vK C.J.marks,gl] (fun v Bs=>v=.bool true∧Bs=[Bn r vS2 vM2 vC2 vR2 vK2 J2 C.w C.t C.o sb R]):=by
 intro w0 F0 H
 obtain ⟨A1,c2,rfl,hc3,hm4,hp5⟩:=H.fR 0 rfl
 obtain ⟨A6,c7,rfl,hc8,hm9,hp10⟩:=H.fR 1 rfl
 obtain ⟨A11,c12,rfl,hc13,hm14,hp15⟩:=H.fR 2 rfl
 obtain ⟨A16,c17,rfl,hc18,hm19,hp20⟩:=H.fR 3 rfl
 obtain ⟨A21,c22,rfl,hc23,hm24,hp25⟩:=H.fR 4 rfl
 have hB1:AS 100000 R:=hB.mono (by omega)
 have h6:J2.us.length≤6:=by have:=hC.1.1;have:=hsj.len;omega
 have hmk:J2.marks.length≤1000:=by have:=hC.1.2.2.1;rw [hsj.marks];omega
 have hred:∀ i∈J2.red,Ax i.a:=by rw [hsj.red];exact hJ.red
 have hf64:Ax J2.fuel:=by rw [hsj.fuel];have:=hC.1.2.2.2.2.2.2.2.2.2.2;unfold Ax;omega
 have hbp9:∀ i,(R.g i).pairs.length≤1000:=hB.pairs
 have hus:=hJ.us
 have hpt:=hJ.parts
 have hml:=Jl J2.us.length R
 have hsl:=hsj.len
 have hto:=Z2 hsj hF
 have hpl:=XI dg C.J ((p:Nat):Int) (Av J2.us.length R)
 refine enter Tryz.func66 U U (Nat.le_of_ble_eq_true U) (Ab (Ae (Cy U U U U H (fun b26 w H=>(Ad U (Ac (Z ?_)))))))
 replace H:Hd _ _ _ [blk b26 [.slice A1 C.J.us.length c2,.int .i64 C.J.parts,.slice A6 C.J.map.length c7,.slice A11 C.J.comb.length c12,.slice A16 C.J.red.length c17,.int .i64 C.J.chunk,.int .i64 C.J.window,.int .i64 C.J.fuel,.slice A21 C.J.marks.length c22,.int .i64 C.w,.int .i64 C.t,.int .i64 C.o] 28,Bn r vS2 vM2 vC2 vR2 vK2 J2 C.w C.t C.o sb R] [Aa (Ak Ag) (.slice A1 C.J.us.length c2) C.J.us,Aa Af (.slice A6 C.J.map.length c7) C.J.map,Aa Af (.slice A11 C.J.comb.length c12) C.J.comb,Aa Af (.slice A16 C.J.red.length c17) C.J.red,Aa (Ai .i64) (.slice A21 C.J.marks.length c22) C.J.marks,gl]:=H
 refine Ab (Ae (Ad U ?_))
 replace H:=H.p1
 obtain ⟨hv27,vs28,us29,hsets30,H⟩:=EY r vS2 vM2 vC2 vR2 vK2 J2 C.w C.t C.o sb R H
 replace H:=H.h9 (A:=blk r (AJ vS2 vM2 vC2 vR2 vK2 J2 C.w C.t C.o R.part R.ep R.g hv27 sb vs28) 185) (B:=Y (Ak Ag) vS2 J2.us) (C:=Y Af vM2 J2.map) (D:=Y Af vC2 J2.comb) (E:=Y Af vR2 J2.red) (F:=Y (Ai .i64) vK2 J2.marks) (G:=AO (R.g) hv27) (I:=Y (Ak (Ai .i64)) vs28 us29) (J:=AV 253 sb (R.st))
 obtain ⟨A31,c32,rfl,hc33,hm34,hp35⟩:=H.fA 1 rfl
 have hul_us29:=RQ hsets30 (show AS _ R by assumption) (by omega)
 have hsl_us29:=RR hsets30 (show AS _ R by assumption)
 refine sc (Rp r A31 c32 vM2 vC2 vR2 vK2 J2 C.w C.t C.o R.part R.ep R hv27 sb vs28 us29 (by first |assumption|omega|exact AS.pairs (by assumption)|(unfold Ax;omega)) (by first |assumption|omega|exact AS.pairs (by assumption)|(unfold Ax;omega)) (by first |assumption|omega|exact AS.pairs (by assumption)|(unfold Ax;omega)) (by first |assumption|omega|exact AS.pairs (by assumption)|(unfold Ax;omega)) (by first |assumption|omega|exact AS.pairs (by assumption)|(unfold Ax;omega)) (by first |assumption|omega|exact AS.pairs (by assumption)|(unfold Ax;omega)) (by first |assumption|omega|exact AS.pairs (by assumption)|(unfold Ax;omega))) H (lA 0 U (fun _ h=>h) (lA 6 U (fun _ h=>h) (lA 4 U BE (lA 7 U BE (lR 5 U l0))))) U U (At Pw U U) ?_
 rintro v38 _ w ⟨zs36,rfl,hf37⟩ H
 replace H:=H.h1 (A:=Y E6 v38 zs36)
 obtain ⟨A39,c40,rfl,hc41,hm42,hp43⟩:=H.fA 0 rfl
 have hzl:=congrArg List.length hf37
 rw [List.length_map] at hzl
 have hzl2:zs36.length≤100000:=by rw [hzl];unfold Et;rw [List.length_map];exact hB1.sets
 replace H:=H.p9.p9.p9.p9.p9.p9.p9.p9.p9
 replace H:=Cx r (.slice A31 J2.us.length c32) vM2 vC2 vR2 vK2 J2 C.w C.t C.o sb R hv27 vs28 us29 hsets30 H
 replace H:=H.h1 (A:=Bn r (.slice A31 J2.us.length c32) vM2 vC2 vR2 vK2 J2 C.w C.t C.o sb R)
 refine Ad U (Ac (Z (Ab (Ab (Ae (Ad U (Ac (Z (AW ?_)))))))))
 replace H:=H.p2
 refine BT (σ:=Nat) (fun i=>[(1,.pointer (some ⟨r,0,none⟩)),(2,.int .i64 ((p:Nat):Int)),(3,.pointer (some ⟨b26,0,none⟩)),(7,.slice A39 zs36.length c40),(8,.int .i64 ((i:Nat):Int))]) (fun i w=>(Hd w0 F0 w [blk b26 [.slice A1 C.J.us.length c2,.int .i64 C.J.parts,.slice A6 C.J.map.length c7,.slice A11 C.J.comb.length c12,.slice A16 C.J.red.length c17,.int .i64 C.J.chunk,.int .i64 C.J.window,.int .i64 C.J.fuel,.slice A21 C.J.marks.length c22,.int .i64 C.w,.int .i64 C.t,.int .i64 C.o] 28,Bn r (.slice A31 J2.us.length c32) vM2 vC2 vR2 vK2 J2 C.w C.t C.o sb R,Y E6 (.slice A39 zs36.length c40) zs36] [Aa (Ak Ag) (.slice A1 C.J.us.length c2) C.J.us,Aa Af (.slice A6 C.J.map.length c7) C.J.map,Aa Af (.slice A11 C.J.comb.length c12) C.J.comb,Aa Af (.slice A16 C.J.red.length c17) C.J.red,Aa (Ai .i64) (.slice A21 C.J.marks.length c22) C.J.marks,gl])∧(i≤zs36.length)) (fun i=>zs36.length - i) 0 ⟨rfl,rfl,rfl,rfl,rfl,trivial⟩ ⟨H,Nat.zero_le _⟩ ?_
 rintro i w ⟨H,hi⟩
 refine Ab (Ab (Ae (Ah 2 U (V U U (A8 U RM U) (V U U (Bd U U U) (Ac (Z ?_)))))))
 refine Az U (fun h44=>?_) (fun h44=>?_)
 ·refine Aw (Z (Ab (AW (Ab (BP (.e 0 (.e 1 (.e 2 (.e 3 (.e 4 (.e 5 (.e 6 (.e 7 (.m 8 (.e 9 (.e 10 (.e 11 (.e 12 (.e 13 .z)))))))))))))) (fun w=>∃ Ar,Hd w0 F0 w (blk b26 [.slice A1 C.J.us.length c2,.int .i64 C.J.parts,.slice A6 C.J.map.length c7,.slice A11 C.J.comb.length c12,.slice A16 C.J.red.length c17,.int .i64 C.J.chunk,.int .i64 C.J.window,.int .i64 C.J.fuel,.slice A21 C.J.marks.length c22,.int .i64 C.w,.int .i64 C.t,.int .i64 C.o] 28::Bn r (.slice A31 J2.us.length c32) vM2 vC2 vR2 vK2 J2 C.w C.t C.o sb R::Y E6 (.slice A39 zs36.length c40) zs36::Ar) [Aa (Ak Ag) (.slice A1 C.J.us.length c2) C.J.us,Aa Af (.slice A6 C.J.map.length c7) C.J.map,Aa Af (.slice A11 C.J.comb.length c12) C.J.comb,Aa Af (.slice A16 C.J.red.length c17) C.J.red,Aa (Ai .i64) (.slice A21 C.J.marks.length c22) C.J.marks,gl]) mo (by kernel_rfl) (fun w H=>⟨_,H⟩) H (fun w H=>?_))))))
  refine An U U U (fun w ⟨Ar,H⟩=>Aj U Cu U) (An U U U (fun w ⟨Ar,H⟩=>Bu (cs:=[.slice A1 C.J.us.length c2,.int .i64 C.J.parts,.slice A6 C.J.map.length c7,.slice A11 C.J.comb.length c12,.slice A16 C.J.red.length c17,.int .i64 C.J.chunk,.int .i64 C.J.window,.int .i64 C.J.fuel,.slice A21 C.J.marks.length c22]) U FW U U (H.cellsI 0 U U)) (Au U (Au U (Au U ?_))))
  obtain ⟨⟨a47,sv48,se49,pv50,pr51⟩,hx46⟩:∃ z9,zs36[i]?=some z9:=⟨_,List.getElem?_eq_getElem (show i<zs36.length by omega)⟩
  obtain ⟨A52,c53,A54,c55,rfl,rfl,m56,m57,m58,m59⟩:=H.nestAt 2 rfl hx46
  have th60:=H.thAt 2 rfl hx46
  refine An U U U (fun w ⟨Ar,H⟩=>Ba (p:=AT A39+i*3) U Hl U U (by omega) (by omega) th60 U) (An U U U (fun w ⟨Ar,H⟩=>Aj U J8 U) (An U U U (fun w ⟨Ar,H⟩=>Ao U EH U (H.elAt 2 U hx46 (q:=0) U U)) (AK U (sc (Qe (.slice A1 C.J.us.length c2) (.slice A6 C.J.map.length c7) (.slice A11 C.J.comb.length c12) (.slice A16 C.J.red.length c17) (.slice A21 C.J.marks.length c22) C.J (by first |assumption|exact hC.ok) p (by first |assumption|omega|exact AS.pairs (by assumption)|(unfold Ax;omega)) se49 (.slice A52 se49.length c53)) H (lR 0 U (lR 1 U (lR 2 U (lR 3 U (lR 4 U (lX (fun F hA hR=>KR (BE F (hA _ (List.mem_of_getElem? (i:=2) U))) hx46) (lR 5 U l0))))))) U U (At Px U U) ?_))))
  rintro _ _ w ⟨u61,rfl,rfl⟩ H
  replace H:Hd _ _ _ [Y Ag u61 ((partSet dg C.J p se49).1),blk b26 [.slice A1 C.J.us.length c2,.int .i64 C.J.parts,.slice A6 C.J.map.length c7,.slice A11 C.J.comb.length c12,.slice A16 C.J.red.length c17,.int .i64 C.J.chunk,.int .i64 C.J.window,.int .i64 C.J.fuel,.slice A21 C.J.marks.length c22,.int .i64 C.w,.int .i64 C.t,.int .i64 C.o] 28,Bn r (.slice A31 J2.us.length c32) vM2 vC2 vR2 vK2 J2 C.w C.t C.o sb R,Y E6 (.slice A39 zs36.length c40) zs36] [Aa (Ak Ag) (.slice A1 C.J.us.length c2) C.J.us,Aa Af (.slice A6 C.J.map.length c7) C.J.map,Aa Af (.slice A11 C.J.comb.length c12) C.J.comb,Aa Af (.slice A16 C.J.red.length c17) C.J.red,Aa (Ai .i64) (.slice A21 C.J.marks.length c22) C.J.marks,gl]:=H
  have ht:=ZZ hsj hF hf37 hx46
  dsimp only at ht
  replace H:=H.p3.p3.p3
  refine AH ⟨_,H⟩ (Au U (Au U (Au U (Au U (Au U (BH (Z (Ab (BP (.e 0 (.e 1 (.e 2 (.e 3 (.e 4 (.e 5 (.e 6 (.e 7 (.e 8 (.e 9 (.e 10 (.e 11 (.e 12 (.e 13 (.m 14 (.e 15 (.e 16 (.e 17 (.e 18 (.e 19 (.e 20 (.e 21 (.e 22 (.e 23 (.e 24 (.e 25 (.e 26 (.m 27 (.e 28 (.e 29 (.e 30 (.e 31 (.e 32 (.e 33 (.e 34 (.e 35 (.e 36 (.e 37 (.e 38 (.e 39 (.e 40 (.e 41 (.e 42 (.e 43 (.e 44 (.m 45 (.e 46 (.e 47 (.e 48 .z))))))))))))))))))))))))))))))))))))))))))))))))) (fun w=>∃ Ar,Hd w0 F0 w (blk b26 [.slice A1 C.J.us.length c2,.int .i64 C.J.parts,.slice A6 C.J.map.length c7,.slice A11 C.J.comb.length c12,.slice A16 C.J.red.length c17,.int .i64 C.J.chunk,.int .i64 C.J.window,.int .i64 C.J.fuel,.slice A21 C.J.marks.length c22,.int .i64 C.w,.int .i64 C.t,.int .i64 C.o] 28::Bn r (.slice A31 J2.us.length c32) vM2 vC2 vR2 vK2 J2 C.w C.t C.o sb R::Y E6 (.slice A39 zs36.length c40) zs36::Y Ag u61 ((partSet dg C.J p se49).1)::Ar) [Aa (Ak Ag) (.slice A1 C.J.us.length c2) C.J.us,Aa Af (.slice A6 C.J.map.length c7) C.J.map,Aa Af (.slice A11 C.J.comb.length c12) C.J.comb,Aa Af (.slice A16 C.J.red.length c17) C.J.red,Aa (Ai .i64) (.slice A21 C.J.marks.length c22) C.J.marks,gl]) mo (by kernel_rfl) (fun w H=>⟨_,H⟩) H (fun w H=>?_))))))))))
  refine Au U (Au U (Au U ?_))
  have th62:=H.thAt 2 rfl hx46
  refine An U U U (fun w ⟨Ar,H⟩=>Ba (p:=AT A39+i*3) U Hl U U (by omega) (by omega) th62 U) (An U U U (fun w ⟨Ar,H⟩=>Aj U T2 U) (An U U U (fun w ⟨Ar,H⟩=>Ao U AE U (H.elAt 2 U hx46 (q:=1) U U)) (An U U U (fun w ⟨Ar,H⟩=>CN U U U) (Au U ?_))))
  refine Hz (d:=43) U (fun h63=>?_) (fun h63=>?_)
  ·exact (h63 (by rw [ht.1])).elim
  refine Au U (Au U (Au U ?_))
  have th64:=H.thAt 2 rfl hx46
  refine An U U U (fun w ⟨Ar,H⟩=>Ba (p:=AT A39+i*3) U Hl U U (by omega) (by omega) th64 U) (An U U U (fun w ⟨Ar,H⟩=>Aj U T3 U) (An U U U (fun w ⟨Ar,H⟩=>Ao U DU U (H.elAt 2 U hx46 (q:=2) U U)) (AK U (sc (KG u61 (.slice A54 pr51.length c55) ((partSet dg C.J p se49).1) pr51) H (lA 3 U BE (lX (fun F hA hR=>RD (BE F (hA _ (List.mem_of_getElem? (i:=2) U))) hx46) l0)) U U (At Ke U U) ?_))))
  rintro _ _ w ⟨rfl,rfl⟩ H
  refine AH ⟨_,H⟩ (An U U U (fun w ⟨Ar,H⟩=>DD U U) (Au U (Au U ?_)))
  refine Hz (d:=53) U (fun h65=>?_) (fun h65=>?_)
  ·exact (h65 (by rw [ht.1])).elim
  refine An U U U (fun w ⟨Ar,H⟩=>Aj U Cu U) (An U U U (fun w ⟨Ar,H⟩=>Aj U GY U) (An U U U (fun w ⟨Ar,H⟩=>Ao U EH U (H.cellI 0 U U)) (Au U (Au U ?_))))
  have th66:=H.thAt 2 rfl hx46
  refine An U U U (fun w ⟨Ar,H⟩=>Ba (p:=AT A39+i*3) U Hl U U (by omega) (by omega) th66 U) (An U U U (fun w ⟨Ar,H⟩=>Aj U J8 U) (An U U U (fun w ⟨Ar,H⟩=>Ao U EH U (H.elAt 2 U hx46 (q:=0) U U)) (An U U U (fun w ⟨Ar,H⟩=>A8 U DL U) (AK U (sc (N9 (.slice A21 C.J.marks.length c22) C.J.marks ((se49.length:Nat):Int)) H (lR 4 U l0) U U (At O5 U U) ?_)))))
  rintro _ _ w ⟨rfl,rfl⟩ H
  refine AH ⟨_,H⟩ (An U U U (fun w ⟨Ar,H⟩=>DD U U) (Au U (Au U ?_)))
  refine Hz (d:=66) U (fun h67=>?_) (fun h67=>?_)
  ·exact (h67 ht.2).elim
  refine Au U (An U U U (fun w ⟨Ar,H⟩=>Ca U U U) (Au U ?_))
  refine Hz (d:=69) U (fun h68=>?_) (fun h68=>?_)
  ·refine Au U (Au U (An U U U (fun w ⟨Ar,H⟩=>Cj (z:=((i:Nat):Int) - 1) U U U (AF (by omega) (by omega))) ?_))
   obtain ⟨⟨a71,sv72,se73,pv74,pr75⟩,hx70⟩:∃ z9,zs36[(((i:Nat):Int) - 1).toNat]?=some z9:=⟨_,List.getElem?_eq_getElem (show (((i:Nat):Int) - 1).toNat<zs36.length by omega)⟩
   obtain ⟨A76,c77,A78,c79,rfl,rfl,m80,m81,m82,m83⟩:=H.nestAt 2 rfl hx70
   have th84:=H.thAt 2 rfl hx70
   refine An U U U (fun w ⟨Ar,H⟩=>Ba (p:=AT A39+((((i:Nat):Int) - 1).toNat)*3) U Hl U U (by omega) (by omega) th84 (by omega)) (An U U U (fun w ⟨Ar,H⟩=>Aj U J8 U) (An U U U (fun w ⟨Ar,H⟩=>Ao U EH U (H.elAt 2 U hx70 (q:=0) U U)) (Au U (Au U ?_))))
   have th85:=H.thAt 2 rfl hx46
   refine An U U U (fun w ⟨Ar,H⟩=>Ba (p:=AT A39+i*3) U Hl U U (by omega) (by omega) th85 U) (An U U U (fun w ⟨Ar,H⟩=>Aj U J8 U) (An U U U (fun w ⟨Ar,H⟩=>Ao U EH U (H.elAt 2 U hx46 (q:=0) U U)) (AK U (sc (Uv (.slice A76 se73.length c77) se73 (.slice A52 se49.length c53) se49) H (lX (fun F hA hR=>KR (BE F (hA _ (List.mem_of_getElem? (i:=2) U))) hx70) (lX (fun F hA hR=>KR (BE F (hA _ (List.mem_of_getElem? (i:=2) U))) hx46) l0)) U U (At U4 U U) ?_))))
   rintro _ _ w ⟨rfl,rfl⟩ H
   refine AH ⟨_,H⟩ (An U U U (fun w ⟨Ar,H⟩=>DD U U) (Au U (Au U (BH (Z ?_)))))
   refine Az U (fun h86=>?_) (fun h86=>?_)
   ·exact (h86 (Z0 hF hf37 (by omega) hx70 hx46)).elim
   refine Aw (A_ (Z (Ae (Ad U (V U U (A0 (z:=((i+1:Nat):Int)) U U U (by rw [AF (by omega) (by omega)];omega)) (Ad U (Ac ?_)))))))
   replace H:=H.k3
   exact Bl (s:=i) (i+1) ⟨rfl,rfl,rfl,rfl,rfl,trivial⟩ ⟨H,by (try dsimp only);omega⟩ (by (try dsimp only);omega)
  refine Au U (Au U (Au U (Au U (Au U (Au U (Au U (Au U (Au U (Au U (Au U (N4 U ⟨_,H⟩ U U (Au U (Au U (Au U (BH (Z (B9 U (Aw (A_ (Z (Ae (Ad U (V U U (A0 (z:=((i+1:Nat):Int)) U U U (by rw [AF (by omega) (by omega)];omega)) (Ad U (Ac ?_)))))))))))))))))))))))))
  replace H:=H.k3
  exact Bl (s:=i) (i+1) ⟨rfl,rfl,rfl,rfl,rfl,trivial⟩ ⟨H,by (try dsimp only);omega⟩ (by (try dsimp only);omega)
 refine BM (AR (AR (BN (Z (Ab ?_)))))
 by_cases hlt:(Av J2.us.length R).length<J2.us.length
 ·refine Ae (Ad U ?_)
  replace H:=H.p1
  obtain ⟨hv87,vs88,us89,hsets90,H⟩:=EY r (.slice A31 J2.us.length c32) vM2 vC2 vR2 vK2 J2 C.w C.t C.o sb R H
  replace H:=H.h9 (A:=blk r (AJ (.slice A31 J2.us.length c32) vM2 vC2 vR2 vK2 J2 C.w C.t C.o R.part R.ep R.g hv87 sb vs88) 185) (B:=Y (Ak Ag) (.slice A31 J2.us.length c32) J2.us) (C:=Y Af vM2 J2.map) (D:=Y Af vC2 J2.comb) (E:=Y Af vR2 J2.red) (F:=Y (Ai .i64) vK2 J2.marks) (G:=AO (R.g) hv87) (I:=Y (Ak (Ai .i64)) vs88 us89) (J:=AV 253 sb (R.st))
  refine sc (Mu r A31 c32 vM2 vC2 vR2 vK2 J2 C.w C.t C.o R.part R.ep R hv87 sb vs88 (by first |assumption|omega|exact AS.pairs (by assumption)|(unfold Ax;omega)) (by first |assumption|omega|exact AS.pairs (by assumption)|(unfold Ax;omega)) (by first |assumption|omega|exact AS.pairs (by assumption)|(unfold Ax;omega)) (by first |assumption|omega|exact AS.pairs (by assumption)|(unfold Ax;omega))) H (lA 0 U (fun _ h=>h) (lA 6 U (fun _ h=>h) (lA 4 U BE (lR 5 U l0)))) U U (At L8 U U) ?_
  rintro _ _ w ⟨u91,rfl,rfl⟩ H
  replace H:=H.h1 (A:=Y Ag u91 ((D3 dg J2 R).1))|>.p9|>.p9|>.p9|>.p9|>.p9|>.p9|>.p9|>.p9|>.p9
  replace H:=Cx r (.slice A31 J2.us.length c32) vM2 vC2 vR2 vK2 J2 C.w C.t C.o sb R hv87 vs88 us89 hsets90 H
  replace H:=H.h1 (A:=Bn r (.slice A31 J2.us.length c32) vM2 vC2 vR2 vK2 J2 C.w C.t C.o sb R)
  rw [hto,if_pos hlt] at H ⊢
  replace H:Hd _ _ _ [Bn r (.slice A31 J2.us.length c32) vM2 vC2 vR2 vK2 J2 C.w C.t C.o sb R,Y Ag u91 [],blk b26 [.slice A1 C.J.us.length c2,.int .i64 C.J.parts,.slice A6 C.J.map.length c7,.slice A11 C.J.comb.length c12,.slice A16 C.J.red.length c17,.int .i64 C.J.chunk,.int .i64 C.J.window,.int .i64 C.J.fuel,.slice A21 C.J.marks.length c22,.int .i64 C.w,.int .i64 C.t,.int .i64 C.o] 28,Y E6 (.slice A39 zs36.length c40) zs36] [Aa (Ak Ag) (.slice A1 C.J.us.length c2) C.J.us,Aa Af (.slice A6 C.J.map.length c7) C.J.map,Aa Af (.slice A11 C.J.comb.length c12) C.J.comb,Aa Af (.slice A16 C.J.red.length c17) C.J.red,Aa (Ai .i64) (.slice A21 C.J.marks.length c22) C.J.marks,gl]:=H
  refine Ah 7 U (Ac (Z (Ab (Ab (Ae (Ad U (V U U (Ep U U U) (Ac (Z (B8 U (Ab (BP (.e 0 (.e 3 (.e 4 (.e 5 (.e 6 (.m 1 (.e 2 (.e 7 (.e 8 .z))))))))) (fun w=>∃ Ar,Hd w0 F0 w (Bn r (.slice A31 J2.us.length c32) vM2 vC2 vR2 vK2 J2 C.w C.t C.o sb R::Y Ag u91 []::blk b26 [.slice A1 C.J.us.length c2,.int .i64 C.J.parts,.slice A6 C.J.map.length c7,.slice A11 C.J.comb.length c12,.slice A16 C.J.red.length c17,.int .i64 C.J.chunk,.int .i64 C.J.window,.int .i64 C.J.fuel,.slice A21 C.J.marks.length c22,.int .i64 C.w,.int .i64 C.t,.int .i64 C.o] 28::Y E6 (.slice A39 zs36.length c40) zs36::Ar) [Aa (Ak Ag) (.slice A1 C.J.us.length c2) C.J.us,Aa Af (.slice A6 C.J.map.length c7) C.J.map,Aa Af (.slice A11 C.J.comb.length c12) C.J.comb,Aa Af (.slice A16 C.J.red.length c17) C.J.red,Aa (Ai .i64) (.slice A21 C.J.marks.length c22) C.J.marks,gl]) mo (by kernel_rfl) (fun w H=>⟨_,H⟩) H (fun w H=>?_)))))))))))))
  refine Au U (An U U U (fun w ⟨Ar,H⟩=>Aj U Cu U) (An U U U (fun w ⟨Ar,H⟩=>Aj U Dw U) (An U U U (fun w ⟨Ar,H⟩=>Ao U Dy U (H.cellI 2 U U)) (An U U U (fun w ⟨Ar,H⟩=>A8 U Dz U) (AK U ?_)))))
  obtain ⟨hv92,vs93,us94,hsets95,H⟩:=EY r (.slice A31 J2.us.length c32) vM2 vC2 vR2 vK2 J2 C.w C.t C.o sb R H
  replace H:=H.h9 (A:=blk r (AJ (.slice A31 J2.us.length c32) vM2 vC2 vR2 vK2 J2 C.w C.t C.o R.part R.ep R.g hv92 sb vs93) 185) (B:=Y (Ak Ag) (.slice A31 J2.us.length c32) J2.us) (C:=Y Af vM2 J2.map) (D:=Y Af vC2 J2.comb) (E:=Y Af vR2 J2.red) (F:=Y (Ai .i64) vK2 J2.marks) (G:=AO (R.g) hv92) (I:=Y (Ak (Ai .i64)) vs93 us94) (J:=AV 253 sb (R.st))
  refine sc (HL r A31 c32 vM2 vC2 vR2 vK2 J2 C.w C.t C.o R.part R.ep R hv92 sb vs93 (by first |assumption|omega|exact AS.pairs (by assumption)|(unfold Ax;omega))) H (lA 0 U (fun _ h=>h) l0) U U (At HK U U) ?_
  rintro v96 _ w rfl H
  replace H:=H.h1 (A:=Y (Ai .i64) v96 (Av J2.us.length R))|>.p9|>.p9|>.p9|>.p9|>.p9|>.p9|>.p9|>.p9|>.p9
  replace H:=Cx r (.slice A31 J2.us.length c32) vM2 vC2 vR2 vK2 J2 C.w C.t C.o sb R hv92 vs93 us94 hsets95 H
  replace H:=H.h1 (A:=Bn r (.slice A31 J2.us.length c32) vM2 vC2 vR2 vK2 J2 C.w C.t C.o sb R)|>.p4|>.p4|>.p4|>.p3
  refine AH ⟨_,H⟩ ?_
  obtain ⟨A97,c98,rfl,hc99,hm100,hp101⟩:=H.fA 4 rfl
  refine An U U U (fun w ⟨Ar,H⟩=>A8 U DL U) (An U U U (fun w ⟨Ar,H⟩=>Bd U U U) (Au U (BH (Z (Ap (AA (Aq U U ?_)))))))
  replace H:=H.k1
  exact Am ⟨congrArg Value.bool (decide_eq_true (by omega)),rfl⟩ H
 refine Ae (Ad U ?_)
 replace H:=H.p1
 obtain ⟨hv102,vs103,us104,hsets105,H⟩:=EY r (.slice A31 J2.us.length c32) vM2 vC2 vR2 vK2 J2 C.w C.t C.o sb R H
 replace H:=H.h9 (A:=blk r (AJ (.slice A31 J2.us.length c32) vM2 vC2 vR2 vK2 J2 C.w C.t C.o R.part R.ep R.g hv102 sb vs103) 185) (B:=Y (Ak Ag) (.slice A31 J2.us.length c32) J2.us) (C:=Y Af vM2 J2.map) (D:=Y Af vC2 J2.comb) (E:=Y Af vR2 J2.red) (F:=Y (Ai .i64) vK2 J2.marks) (G:=AO (R.g) hv102) (I:=Y (Ak (Ai .i64)) vs103 us104) (J:=AV 253 sb (R.st))
 refine sc (Mu r A31 c32 vM2 vC2 vR2 vK2 J2 C.w C.t C.o R.part R.ep R hv102 sb vs103 (by first |assumption|omega|exact AS.pairs (by assumption)|(unfold Ax;omega)) (by first |assumption|omega|exact AS.pairs (by assumption)|(unfold Ax;omega)) (by first |assumption|omega|exact AS.pairs (by assumption)|(unfold Ax;omega)) (by first |assumption|omega|exact AS.pairs (by assumption)|(unfold Ax;omega))) H (lA 0 U (fun _ h=>h) (lA 6 U (fun _ h=>h) (lA 4 U BE (lR 5 U l0)))) U U (At L8 U U) ?_
 rintro _ _ w ⟨u106,rfl,rfl⟩ H
 replace H:=H.h1 (A:=Y Ag u106 ((D3 dg J2 R).1))|>.p9|>.p9|>.p9|>.p9|>.p9|>.p9|>.p9|>.p9|>.p9
 replace H:=Cx r (.slice A31 J2.us.length c32) vM2 vC2 vR2 vK2 J2 C.w C.t C.o sb R hv102 vs103 us104 hsets105 H
 replace H:=H.h1 (A:=Bn r (.slice A31 J2.us.length c32) vM2 vC2 vR2 vK2 J2 C.w C.t C.o sb R)
 rw [hto,if_neg hlt] at H ⊢
 replace H:Hd _ _ _ [Bn r (.slice A31 J2.us.length c32) vM2 vC2 vR2 vK2 J2 C.w C.t C.o sb R,Y Ag u106 ((partSet dg C.J ((p:Nat):Int) (Av J2.us.length R)).1),blk b26 [.slice A1 C.J.us.length c2,.int .i64 C.J.parts,.slice A6 C.J.map.length c7,.slice A11 C.J.comb.length c12,.slice A16 C.J.red.length c17,.int .i64 C.J.chunk,.int .i64 C.J.window,.int .i64 C.J.fuel,.slice A21 C.J.marks.length c22,.int .i64 C.w,.int .i64 C.t,.int .i64 C.o] 28,Y E6 (.slice A39 zs36.length c40) zs36] [Aa (Ak Ag) (.slice A1 C.J.us.length c2) C.J.us,Aa Af (.slice A6 C.J.map.length c7) C.J.map,Aa Af (.slice A11 C.J.comb.length c12) C.J.comb,Aa Af (.slice A16 C.J.red.length c17) C.J.red,Aa (Ai .i64) (.slice A21 C.J.marks.length c22) C.J.marks,gl]:=H
 refine Ah 7 U (Ac (Z (Ab (Ab (Ae (Ad U (V U U (Ep U U U) (Ac (Z (B9 U (Aw (Z (Ab (BP (.e 0 (.e 1 (.e 2 (.e 3 (.m 4 (.m 5 (.e 6 (.e 7 (.e 8 (.e 9 (.e 10 .z))))))))))) (fun w=>∃ Ar,Hd w0 F0 w (Bn r (.slice A31 J2.us.length c32) vM2 vC2 vR2 vK2 J2 C.w C.t C.o sb R::Y Ag u106 ((partSet dg C.J ((p:Nat):Int) (Av J2.us.length R)).1)::blk b26 [.slice A1 C.J.us.length c2,.int .i64 C.J.parts,.slice A6 C.J.map.length c7,.slice A11 C.J.comb.length c12,.slice A16 C.J.red.length c17,.int .i64 C.J.chunk,.int .i64 C.J.window,.int .i64 C.J.fuel,.slice A21 C.J.marks.length c22,.int .i64 C.w,.int .i64 C.t,.int .i64 C.o] 28::Y E6 (.slice A39 zs36.length c40) zs36::Ar) [Aa (Ak Ag) (.slice A1 C.J.us.length c2) C.J.us,Aa Af (.slice A6 C.J.map.length c7) C.J.map,Aa Af (.slice A11 C.J.comb.length c12) C.J.comb,Aa Af (.slice A16 C.J.red.length c17) C.J.red,Aa (Ai .i64) (.slice A21 C.J.marks.length c22) C.J.marks,gl]) mo (by kernel_rfl) (fun w H=>⟨_,H⟩) H (fun w H=>?_)))))))))))))))
 refine An U U U (fun w ⟨Ar,H⟩=>Aj U Cu U) (An U U U (fun w ⟨Ar,H⟩=>Bu (cs:=[.slice A1 C.J.us.length c2,.int .i64 C.J.parts,.slice A6 C.J.map.length c7,.slice A11 C.J.comb.length c12,.slice A16 C.J.red.length c17,.int .i64 C.J.chunk,.int .i64 C.J.window,.int .i64 C.J.fuel,.slice A21 C.J.marks.length c22]) U FW U U (H.cellsI 2 U U)) (Au U (Au U (AK U ?_))))
 obtain ⟨hv107,vs108,us109,hsets110,H⟩:=EY r (.slice A31 J2.us.length c32) vM2 vC2 vR2 vK2 J2 C.w C.t C.o sb R H
 replace H:=H.h9 (A:=blk r (AJ (.slice A31 J2.us.length c32) vM2 vC2 vR2 vK2 J2 C.w C.t C.o R.part R.ep R.g hv107 sb vs108) 185) (B:=Y (Ak Ag) (.slice A31 J2.us.length c32) J2.us) (C:=Y Af vM2 J2.map) (D:=Y Af vC2 J2.comb) (E:=Y Af vR2 J2.red) (F:=Y (Ai .i64) vK2 J2.marks) (G:=AO (R.g) hv107) (I:=Y (Ak (Ai .i64)) vs108 us109) (J:=AV 253 sb (R.st))
 refine sc (HL r A31 c32 vM2 vC2 vR2 vK2 J2 C.w C.t C.o R.part R.ep R hv107 sb vs108 (by first |assumption|omega|exact AS.pairs (by assumption)|(unfold Ax;omega))) H (lA 0 U (fun _ h=>h) l0) U U (At HK U U) ?_
 rintro v111 _ w rfl H
 replace H:=H.h1 (A:=Y (Ai .i64) v111 (Av J2.us.length R))|>.p9|>.p9|>.p9|>.p9|>.p9|>.p9|>.p9|>.p9|>.p9
 replace H:=Cx r (.slice A31 J2.us.length c32) vM2 vC2 vR2 vK2 J2 C.w C.t C.o sb R hv107 vs108 us109 hsets110 H
 replace H:=H.h1 (A:=Bn r (.slice A31 J2.us.length c32) vM2 vC2 vR2 vK2 J2 C.w C.t C.o sb R)|>.p4|>.p4|>.p4|>.p3
 refine AH ⟨_,H⟩ (AK U (sc (Qe (.slice A1 C.J.us.length c2) (.slice A6 C.J.map.length c7) (.slice A11 C.J.comb.length c12) (.slice A16 C.J.red.length c17) (.slice A21 C.J.marks.length c22) C.J (by first |assumption|exact hC.ok) p (by first |assumption|omega|exact AS.pairs (by assumption)|(unfold Ax;omega)) (Av J2.us.length R) v111) H (lR 0 U (lR 1 U (lR 2 U (lR 3 U (lR 4 U (lA 4 U BE (lR 5 U l0))))))) U U (At Px U U) ?_))
 rintro _ _ w ⟨u112,rfl,rfl⟩ H
 replace H:=H.h1 (A:=Y Ag u112 ((partSet dg C.J p (Av J2.us.length R)).1))|>.p4|>.p4|>.p4|>.p4
 refine AH ⟨_,H⟩ (Au U (Au U (Au U (Au U (Au U (BH (Z (Ab (BP (.e 0 (.e 1 (.m 2 (.e 3 (.e 4 (.e 5 (.e 6 (.e 7 (.e 8 (.e 9 (.e 12 (.e 13 (.e 14 (.e 15 (.m 10 (.e 11 (.e 16 (.e 17 (.e 18 .z))))))))))))))))))) (fun w=>∃ Ar,Hd w0 F0 w (Bn r (.slice A31 J2.us.length c32) vM2 vC2 vR2 vK2 J2 C.w C.t C.o sb R::Y Ag u106 ((partSet dg C.J ((p:Nat):Int) (Av J2.us.length R)).1)::blk b26 [.slice A1 C.J.us.length c2,.int .i64 C.J.parts,.slice A6 C.J.map.length c7,.slice A11 C.J.comb.length c12,.slice A16 C.J.red.length c17,.int .i64 C.J.chunk,.int .i64 C.J.window,.int .i64 C.J.fuel,.slice A21 C.J.marks.length c22,.int .i64 C.w,.int .i64 C.t,.int .i64 C.o] 28::Y E6 (.slice A39 zs36.length c40) zs36::Y Ag u112 ((partSet dg C.J p (Av J2.us.length R)).1)::Y (Ai .i64) v111 (Av J2.us.length R)::Ar) [Aa (Ak Ag) (.slice A1 C.J.us.length c2) C.J.us,Aa Af (.slice A6 C.J.map.length c7) C.J.map,Aa Af (.slice A11 C.J.comb.length c12) C.J.comb,Aa Af (.slice A16 C.J.red.length c17) C.J.red,Aa (Ai .i64) (.slice A21 C.J.marks.length c22) C.J.marks,gl]) mo (by kernel_rfl) (fun w H=>⟨_,H⟩) H (fun w H=>?_))))))))))
 refine Au U (Au U (AK U (sc (KG u106 u112 ((partSet dg C.J ((p:Nat):Int) (Av J2.us.length R)).1) ((partSet dg C.J p (Av J2.us.length R)).1)) H (lA 1 U BE (lA 4 U BE l0)) U U (At Ke U U) ?_)))
 rintro _ _ w ⟨rfl,rfl⟩ H
 refine AH ⟨_,H⟩ (Au U ?_)
 refine Hz (d:=113) U (fun h113=>?_) (fun h113=>?_)
 ·refine Au U (Au U (An U U U (fun w ⟨Ar,H⟩=>Bv U U U) (Au U (Au U ?_))))
  refine Hz (d:=118) U (fun h114=>?_) (fun h114=>?_)
  ·refine Au U (An U U U (fun w ⟨Ar,H⟩=>Aj U Cu U) (An U U U (fun w ⟨Ar,H⟩=>Aj U Dw U) (An U U U (fun w ⟨Ar,H⟩=>Ao U Dy U (H.cellI 2 U U)) (An U U U (fun w ⟨Ar,H⟩=>A8 U Dz U) (AK U ?_)))))
   obtain ⟨hv115,vs116,us117,hsets118,H⟩:=EY r (.slice A31 J2.us.length c32) vM2 vC2 vR2 vK2 J2 C.w C.t C.o sb R H
   replace H:Hd _ _ _ [blk r (AJ (.slice A31 J2.us.length c32) vM2 vC2 vR2 vK2 J2 C.w C.t C.o R.part R.ep R.g hv115 sb vs116) 185,Y (Ak Ag) (.slice A31 J2.us.length c32) J2.us,Y Af vM2 J2.map,Y Af vC2 J2.comb,Y Af vR2 J2.red,Y (Ai .i64) vK2 J2.marks,AO (R.g) hv115,Y (Ak (Ai .i64)) vs116 us117,AV 253 sb (R.st),Y Ag u106 ((partSet dg C.J ((p:Nat):Int) (Av J2.us.length R)).1),blk b26 [.slice A1 C.J.us.length c2,.int .i64 C.J.parts,.slice A6 C.J.map.length c7,.slice A11 C.J.comb.length c12,.slice A16 C.J.red.length c17,.int .i64 C.J.chunk,.int .i64 C.J.window,.int .i64 C.J.fuel,.slice A21 C.J.marks.length c22,.int .i64 C.w,.int .i64 C.t,.int .i64 C.o] 28,Y E6 (.slice A39 zs36.length c40) zs36,Y Ag u112 ((partSet dg C.J p (Av J2.us.length R)).1),Y (Ai .i64) v111 (Av J2.us.length R)] [Aa (Ak Ag) (.slice A1 C.J.us.length c2) C.J.us,Aa Af (.slice A6 C.J.map.length c7) C.J.map,Aa Af (.slice A11 C.J.comb.length c12) C.J.comb,Aa Af (.slice A16 C.J.red.length c17) C.J.red,Aa (Ai .i64) (.slice A21 C.J.marks.length c22) C.J.marks,gl]:=H
   refine sc (HL r A31 c32 vM2 vC2 vR2 vK2 J2 C.w C.t C.o R.part R.ep R hv115 sb vs116 (by first |assumption|omega|exact AS.pairs (by assumption)|(unfold Ax;omega))) H (lA 0 U (fun _ h=>h) l0) U U (At HK U U) ?_
   rintro v119 _ w rfl H
   replace H:=H.h1 (A:=Y (Ai .i64) v119 (Av J2.us.length R))|>.p9|>.p9|>.p9|>.p9|>.p9|>.p9|>.p9|>.p9|>.p9
   replace H:=Cx r (.slice A31 J2.us.length c32) vM2 vC2 vR2 vK2 J2 C.w C.t C.o sb R hv115 vs116 us117 hsets118 H
   replace H:=H.h1 (A:=Bn r (.slice A31 J2.us.length c32) vM2 vC2 vR2 vK2 J2 C.w C.t C.o sb R)|>.p6|>.p6|>.p6|>.p6|>.p6|>.p5
   refine AH ⟨_,H⟩ ?_
   obtain ⟨A120,c121,rfl,hc122,hm123,hp124⟩:=H.fA 6 rfl
   refine An U U U (fun w ⟨Ar,H⟩=>A8 U DL U) (An U U U (fun w ⟨Ar,H⟩=>Bv U U U) (Au U (Au U (BH (Z (Ap (Aq U U ?_)))))))
   replace H:=H.k1
   exact Am ⟨congrArg Value.bool (decide_eq_true (by omega)),rfl⟩ H
  exact (h114 U).elim
 exact (h113 U).elim
theorem GU:∀ l:List UInt8,l.flatMap EO=l.map fun b=>Value.int .u8 b.toNat
 |[]=>rfl
 |x::l=>by rw [List.flatMap_cons,GU l];rfl
section
variable {P:Program} {ops:Array Oper} {Q:Exit→Act→World→Prop} {rest:List Oper} {n:Nat} {l:BF} {w0 w:World} {F F0:AN} {o:Oper} {v:Value} {As Rs:List SP} {x y z:Operand} {t:TypeId}
section
variable {α:Type} {enc:α→List Value} {sz:Nat} {hp:0<sz} {hl:∀ x,(enc x).length=sz} {h1:∀ x,∀ c∈enc x,c.oneCell'=true}
theorem YZ {e bytes:Nat} {b bt:Nat} {xs ys:List α} {B:Option Addr} {m c c2:Nat} (hg:gd ops l o=some true) (hd:Cl n o.dst=true) (ho:o.op=.call { callee:=.builtin .copy,args:=#[x,y],argTypes:=#[t,t] }) (hs:C6 P t=some (e,sz,bytes))
  (hx:ev l x=some (.slice (some ⟨b,0,none⟩) m c)) (hy:ev l y=some (.slice B m c2)) (H:Hd w0 F0 w (IF enc b bt xs::As) Rs) (hc:xs.length=c) (hmc:m≤c)
  (hn:∀ F,(∀ A∈As,A.P w F)→(∀ R∈Rs,R.P w F)→(Aa (flat enc sz hp hl h1) (.slice B m c2) ys).P w F)
  (h:∀ w',Hd w0 F0 w' (IF enc b bt (ys++xs.drop m)::As) Rs→WL P ops Q rest n (Cc l o.dst (.int .i64 (m:Int))) w'):WL P ops Q (o::rest) n l w:=by
 obtain ⟨F,hF1,hF2⟩:∃ F,(∀ A∈As,A.P w F)∧(∀ R∈Rs,R.P w F):=H.read fun F a r=>⟨F,fun A hA=>a A (List.mem_cons_of_mem _ hA),r⟩
 obtain ⟨hyl,_,_,news,hnr,hnR⟩:MS (flat enc sz hp hl h1) w F ys B m c2:=by
  obtain ⟨A',n',c',e',h'⟩:=hn F hF1 hF2
  cases e'
  exact h'
 have hnl:news.length=m*sz:=by rw [hnR.len,hyl];rfl
 have hm0:B=none→m=0:=by
  intro hB
  rcases hnr.2 with rfl|⟨b,off,C,t',fr,e',_⟩
  ·have:m*sz=0:=by rw [←hnl];rfl
   exact (Nat.mul_eq_zero.1 this).resolve_right (by omega)
  ·rw [hB] at e';cases e'
 obtain ⟨hu,i,hi,hi1,hi2⟩:=E_ hs
 have hfc:=Lv (P:=P) (c:=c2) hnr hnl hm0
 have hnews:news=ys.flatMap enc:=AZ.flat_eq.1 hnR
 obtain ⟨F1,hb⟩:∃ F,(IF enc b bt xs).P w F:=H.fact (List.mem_cons_self ..) fun F hb=>⟨F,hb⟩
 have hfit:0+0+news.length≤(xs.flatMap enc).length:=by rw [hnl,Gr hl,Nat.add_zero,Nat.zero_add];exact Nat.mul_le_mul_right _ (by omega)
 obtain ⟨w',hr,_,_⟩:=Jz (P:=P) news (xs.flatMap enc) 0 0 w hb hfit hnR.one
 have hnew:Ea (xs.flatMap enc) (0+0) news=(ys++xs.drop m).flatMap enc:=by
  rw [Nat.add_zero,Jq _ _ _ (by rw [Nat.zero_add] at hfit ⊢;simpa using hfit),hnews,List.take_zero,Gr hl,hyl,Nat.zero_add,J4 hl]
  simp
 refine V hg hd (v:=.int .i64 (m:Int)) (w':=w') (fun a ha=>?_) (h w' (H.write fun F' hb'=>?_))
 ·simp [execOp,ho,resolve,ha.eval hx,ha.eval hy,invoke,builtin,Builtin.copy_,run_underlying hu,sizeOf,typeInfo,hi,hi1,Builtin.lenOf,hfc w rfl,hr,goInt]
 ·obtain ⟨w'',hr',h2,h3⟩:=Jz (P:=P) news (xs.flatMap enc) 0 0 w hb' hfit hnR.one
  rw [hr] at hr'
  cases hr'
  refine ⟨?_,h3⟩
  show (blk b _ bt).P w' F'
  rw [←hnew]
  exact h2
end
theorem YV {e bytes:Nat} {zv u:Value} {xs:List UInt8} {s:ByteArray} {ts:TypeId}
  (hg:gd ops l o=some true) (hd:Cl n o.dst=true) (ho:o.op=.call { callee:=.builtin .append,args:=#[x,y],argTypes:=#[t,ts] }) (hs:C6 P t=some (e,1,bytes)) (hz:CJ P e=some zv) (hzs:zv.cells.size=1) (hb0:0<bytes) (hts:P.underlying ts=some .string)
  (hx:ev l x=some u) (hy:ev l y=some (.string s)) (H:Hd w0 F0 w (Y B2 u xs::As) Rs) (hb:(xs.length+s.size)*bytes≤140737488355328)
  (h:∀ u' w',Hd w0 F0 w' (Y B2 u' (xs++Cq s)::As) Rs→WL P ops Q rest n (Cc l o.dst u') w'):WL P ops Q (o::rest) n l w:=by
 obtain ⟨hu,i,hi,hi1,hi2⟩:=E_ hs
 have hfc:∀ w':World,w'.heap=w.heap→(Builtin.firstCells 1 s.size (.string s)).run P w'=.ok ((Cq s).flatMap EO).toArray w':=by
  intro w' _
  have e1:s.extract 0 s.size=s:=by simp
  simp only [Builtin.firstCells,e1,Sem.run_pure]
  rw [GU]
  congr 1
  apply Array.ext'
  simp [Cq]
 have hnl:((Cq s).flatMap EO).length=s.size*1:=by rw [GU,List.length_map,Gn,Nat.mul_one]
 have h1:∀ c∈(Cq s).flatMap EO,c.oneCell'=true:=by
  rw [GU]
  intro c hc
  obtain ⟨b,_,rfl⟩:=List.mem_map.1 hc
  rfl
 have key:∀ F1,(Y B2 u xs).P w F1→(∀ k,F1 k→k<w.heap.size)→∃ A c A' c' w' F',u=.slice A xs.length c∧(Builtin.append_ #[t,ts] o.type #[u,.string s]).run P w=.ok (.slice A' (xs.length+s.size) c') w'∧(Y B2 (.slice A' (xs.length+s.size) c') (xs++Cq s)).P w' F'∧B1 F1 w w'∧(∀ k,F' k→k<w'.heap.size∧(F1 k∨w.heap.size≤k)):=by
  rintro F1 ⟨A,n',c,e',hxl,cs,G1,G2,g1,g2,gd,hr,hR⟩ hlt
  cases e'
  subst hxl
  obtain ⟨A',c',w',F',hrun,hrow,hupd,hF'⟩:=ML (P:=P) (tx:=ts) (ty:=o.type) (x:=.string s) (m:=s.size) (news:=(Cq s).flatMap EO) hs hz hzs hts (.inr rfl) hr (fun k hk=>hlt k (g1 k hk)) (by simp [Builtin.lenOf]) hfc hnl h1 hb0 hb
  refine ⟨A,c,A',c',w',F',rfl,hrun,?_,⟨hupd.os,hupd.tape,hupd.output,hupd.size,fun k hk hn'=>hupd.block k hk (fun q=>hn' (g1 k q))⟩,fun k hk=>⟨(hF' k hk).1,(hF' k hk).2.imp (g1 k) id⟩⟩
  exact ⟨A',_,c',rfl,by rw [List.length_append,Gn],cs++(Cq s).flatMap EO,F',none_,fun _ q=>q,fun _ q=>q.elim,fun _ _ q=>q,hrow,CA.flatR (F:=none_) (AZ.flat_eq.2 (by rw [AZ.flat_eq.1 hR.toR];simp))⟩
 have hall:∃ F1,(Y B2 u xs).P w F1∧∀ k,F1 k→k<w.heap.size:=by
  obtain ⟨F,G,⟨F1,F2,a1,a2,a3,a,s⟩,r,d,f,g,u⟩:=H
  exact ⟨F1,a,fun k hk=>(f k (a1 k hk)).1⟩
 obtain ⟨F1,hO,hlt⟩:=hall
 obtain ⟨A,c,A',c',w',F',hue,hrun,_,_,_⟩:=key F1 hO hlt
 refine V hg hd (v:=.slice A' (xs.length+s.size) c') (w':=w') (fun a ha=>?_) (h _ _ (H.grow fun F2 hO2 hlt2=>?_))
 ·simp [execOp,ho,resolve,ha.eval hx,ha.eval hy,invoke,builtin,hrun]
 ·obtain ⟨A3,c3,A4,c4,w4,F4,_,hrun4,h4,h5,h6⟩:=key F2 hO2 hlt2
  rw [hrun] at hrun4
  cases hrun4
  exact ⟨F4,h4,h5,h6⟩
theorem Y_ {src dst e:TypeId} {s:ByteArray} (hg:gd ops l o=some true) (hd:Cl n o.dst=true) (ho:o.op=.convert src dst x) (hs:P.underlying src=some .string) (hd':P.underlying dst=some (.slice e)) (he:P.underlying e=some (.int .u8)) (hx:ev l x=some (.string s))
  (hb:s.size≤140737488355328) (H:Hd w0 F0 w As Rs)
  (h:∀ b c w',s.size≤c→c≤9223372036854775807→Hd w0 F0 w' As (Aa B2 (.slice (some ⟨b,0,none⟩) s.size c) (Cq s)::Rs)→WL P ops Q rest n (Cc l o.dst (.slice (some ⟨b,0,none⟩) s.size c)) w'):WL P ops Q (o::rest) n l w:=by
 have hr:=run_bytes_of_string w src dst e s hs hd' he
 have hge:=grownCap_ge w s.size 0 e
 have hle:grownCap w s.size 0 e≤9223372036854775807:=by
  have:=grownCap_le_maxLen w s.size 0 e (by simp only [maxLen];omega)
  simpa [maxLen] using this
 generalize hc:grownCap w s.size 0 e=c at hr hge hle
 generalize hC:bytesRow s c=C at hr
 have hCl:C.toList.take s.size=(Cq s).flatMap EO:=by
  rw [←hC,GU]
  unfold bytesRow
  rw [Array.toList_append,List.take_append_of_le_length (by simp)]
  rw [List.take_of_length_le (by simp)]
  simp [Cq]
 refine V hg hd (v:=.slice (some ⟨w.heap.size,0,none⟩) s.size c) (w':=w.drew.alloc (.cells C e (C.size,C.size+1))) (fun a ha=>?_) (h _ c _ hge hle (Hd.lend (A:=Aa B2 (.slice (some ⟨w.heap.size,0,none⟩) s.size c) (Cq s)) (H.new (F':=fun k=>k=w.heap.size) ?_ ?_ ?_) fun _ h=>h))
 ·simp [execOp,ho,ha.eval hx,hr]
 ·exact (B1.alloc none_ w.drew _).trans (B1.refl none_ _) (fun _ _ x=>x)|>fun u=>⟨u.os,u.tape,u.output,u.size,u.block⟩
 ·refine ⟨_,_,_,rfl,Gn s,hge,hle,(Cq s).flatMap EO,⟨trivial,.inr ⟨w.heap.size,0,C,e,(C.size,C.size+1),rfl,rfl,?_,?_⟩⟩,AZ.flat_eq.2 rfl⟩
  ·show (w.heap.push _)[w.heap.size]?=_
   simp
  ·rw [List.drop_zero,show ((Cq s).flatMap EO).length=s.size by rw [GU,List.length_map,Gn]]
   exact hCl
 ·intro k hk
  subst hk
  simp
theorem Qq {src dst e:TypeId} {A:Option Addr} {m c:Nat} {bs:List UInt8} (ho:o.op=.convert src dst x) (hs:P.underlying src=some (.slice e)) (he:P.underlying e=some (.int .u8)) (hd:P.underlying dst=some .string) (hx:ev l x=some (.slice A m c)) {r:ByteArray} (hr:FU bs=r) (h:(Aa B2 (.slice A m c) bs).P w F):Bx P n l w o (.string r) w:=by
 subst hr
 obtain ⟨A',c',e',_,_,_,cs,h4,h5⟩:=MK h
 cases e'
 have hcs:cs=bs.flatMap EO:=AZ.flat_eq.1 h5
 intro a ha
 cases A with
 |none=>
  have:bs=[]:=by
   rcases h4.2 with h6|⟨b,off,C,t',fr,e',_⟩
   ·rw [hcs,GU] at h6;simpa using h6
   ·cases e'
  subst this
  have:=run_convert_bytes_nil (P:=P) w src e hs he 0 c dst hd
  simp [execOp,ho,ha.eval hx,this]
  rfl
 |some ad=>
  have:=run_convert_bytes_back (P:=P) w src dst e ad c bs hs he hd (fun j hj=>by
   have hv:cs[j]?=some (.int .u8 (bs[j].toNat:Int)):=by rw [hcs,GU,List.getElem?_map,List.getElem?_eq_getElem hj];rfl
   obtain ⟨b,off,e1,h6⟩:=h4.cell hv
   cases e1
   rw [Ez]
   exact h6)
  simp [execOp,ho,ha.eval hx,this,FU]
theorem Hd.rd {p:Prop} (H:Hd w0 F0 w As Rs) {S:SP} (hS:∀ F,(∀ A∈As,A.P w F)→(∀ R∈Rs,R.P w F)→S.P w F) (h:∀ F,S.P w F→p):p:=H.read fun F a r=>h F (hS F a r)
theorem Qs {tt e size bytes:TypeId} {A:Option Addr} {m c i' j' m':Nat} {k k':IntKind} {i j:Int} (ho:o.op=.slice tt x (some y) (some z) none) (hs:C6 P tt=some (e,size,bytes)) (hx:ev l x=some (.slice A m c)) (hy:ev l y=some (.int k i)) (hz:ev l z=some (.int k' j))
  (h0:0≤i) (h1:i≤j) (h2:j≤(c:Int)) (hi':i.toNat=i') (hj':j.toNat=j') (hm':j' - i'=m'):Bx P n l w o (.slice (DG A c i' size) m' (c - i')) w:=by
 intro a ha
 obtain ⟨hu,inf,hi,hzz,_⟩:=E_ hs
 subst hi' hj' hm'
 have h3:0≤j:=by omega
 have h4:i≤max j 0:=by omega
 have hb:(Instr.sliceBounds true m c (some (.int k i)) (some (.int k' j)) none).run P w=.ok (i.toNat,j.toNat,c) w:=by
  simp [Instr.sliceBounds,Instr.sliceBound,asIntOf,h0,h2,h3,h4]
 unfold DG
 by_cases e1:c=i.toNat
 ·rw [e1] at hb
  cases A<;>simp [execOp,ho,ha.eval hx,ha.eval hy,ha.eval hz,Instr.sliceAt,Instr.slice,hb,run_underlying hu,sizeOf,typeInfo,hi,hzz,e1]
 ·cases A<;>simp [execOp,ho,ha.eval hx,ha.eval hy,ha.eval hz,Instr.sliceAt,Instr.slice,hb,run_underlying hu,sizeOf,typeInfo,hi,hzz,e1]
end
theorem KD {α:Type} {d:Kd α} {w:World} {F:AN} {A:Option Addr} {m c:Nat} {xs:List α} (h:(Aa d (.slice A m c) xs).P w F) {i m':Nat} (hi:i+m'≤m):(Aa d (.slice (DG A c i d.sz) m' (c - i)) ((xs.drop i).take m')).P w F:=YL (IH h (i:=i) (by omega)) (by omega)
theorem UC:∀ x,(EO x).length=1:=fun _=>rfl
/-! ### Numbers, byte by byte -/
theorem Zo (n:Nat) {i:Nat} (h:i<8):((n:Nat):Int).fdiv (2^(min ((8:Int)*(7 - ((i:Nat):Int))).toNat IntKind.u64.bits))=((n / 256^(7 - i):Nat):Int):=by
 have e:(2:Int)^(min ((8:Int)*(7 - ((i:Nat):Int))).toNat IntKind.u64.bits)=((256^(7 - i):Nat):Int):=by
  match i,h with
  |0,_=>decide
  |1,_=>decide
  |2,_=>decide
  |3,_=>decide
  |4,_=>decide
  |5,_=>decide
  |6,_=>decide
  |7,_=>decide
 rw [e,Int.fdiv_eq_ediv_of_nonneg _ (Int.natCast_nonneg _),Int.natCast_ediv]
theorem bB (m:Nat):IntKind.u8.wrap ((m:Nat):Int)=((UInt8.ofNat m).toNat:Int):=by
 unfold IntKind.wrap
 simp [IntKind.bits,IntKind.signed,UInt8.toNat_ofNat']
theorem Zn {m:Nat} (h:m<72057594037927936):IntKind.u64.wrap (((m:Nat):Int)*2^(min (8:Int).toNat IntKind.u64.bits))=((m*256:Nat):Int):=by
 have e:(2:Int)^(min (8:Int).toNat IntKind.u64.bits)=256:=by decide
 rw [e,Fs (by omega) (by omega)]
 omega
theorem Xj {P:Program} {w:World} {m:Nat} (h:m<72057594037927936) (x:UInt8):(Op.intBits .or .u64 ((m*256:Nat):Int) ((x.toNat:Nat):Int)).run P w=.ok (.int .u64 ((m*256+x.toNat:Nat):Int)) w:=by
 have hx:=UInt8.toNat_lt x
 have h1:m*256|||x.toNat=m*256+x.toNat:=by
  have:=Nat.shiftLeft_add_eq_or_of_lt (b:=x.toNat) (i:=8) (by omega) m
  rw [Nat.shiftLeft_eq] at this
  exact this.symm
 have h2:(BitVec.ofInt 64 ((m*256:Nat):Int)|||BitVec.ofInt 64 ((x.toNat:Nat):Int)).toNat=m*256+x.toNat:=by
  rw [BitVec.toNat_or]
  simp only [BitVec.ofInt_natCast,BitVec.toNat_ofNat]
  rw [Nat.mod_eq_of_lt (by omega),Nat.mod_eq_of_lt (by omega),h1]
 unfold Op.intBits
 show (pure (Value.int .u64 (IntKind.u64.wrap ((BitVec.ofInt 64 ((m*256:Nat):Int)|||BitVec.ofInt 64 ((x.toNat:Nat):Int)).toNat:Nat))):Sem Value).run P w=_
 rw [h2,Fs (by omega) (by omega)]
 rfl
/-! ### What the program tells of bytes -/
def Cr (b:List UInt8) (at_:Int):Int×Int×Bool:=match GD b at_ with
 |some x=>(x.1,x.2,true)
 |none=>(0,0,false)
def Fp (b:List UInt8) (at_:Int):ByteArray×Int×Bool:=match Jv b at_ with
 |some x=>(x.1,x.2,true)
 |none=>(⟨#[]⟩,0,false)
theorem Ju {b:List UInt8} {at_:Int} (h:at_<0∨(b.length:Int)<at_∨(b.length:Int) - at_<8):Cr b at_=(0,0,false):=by
 unfold Cr GD;rw [if_pos h]
theorem MI {b:List UInt8} {at_:Int} (h:¬ (at_<0∨(b.length:Int)<at_∨(b.length:Int) - at_<8)):Cr b at_=(IntKind.i64.wrap (EX ((b.drop at_.toNat).take 8):Nat),at_+8,true):=by
 unfold Cr GD;rw [if_neg h]
theorem Yn {b:List UInt8} {at_:Int} (h:(Cr b at_).2.2=false):Fp b at_=(⟨#[]⟩,0,false):=by
 unfold Cr at h
 unfold Fp Jv
 cases e:GD b at_ with
 |none=>rfl
 |some x=>rw [e] at h;cases h
theorem MJ {b:List UInt8} {at_:Int} (h:(Cr b at_).2.2=true):Fp b at_=if (Cr b at_).1<0∨(b.length:Int) - (Cr b at_).2.1<(Cr b at_).1 then (⟨#[]⟩,0,false) else (FU ((b.drop (Cr b at_).2.1.toNat).take (Cr b at_).1.toNat),(Cr b at_).2.1+(Cr b at_).1,true):=by
 unfold Cr at h ⊢
 unfold Fp Jv
 cases e:GD b at_ with
 |none=>rw [e] at h;cases h
 |some x=>
  dsimp only
  by_cases g:x.1<0∨(b.length:Int) - x.2<x.1
  ·rw [if_pos g,if_pos g]
  ·rw [if_neg g,if_neg g]
theorem Ym {b:List UInt8} {at_:Int} (h:(Cr b at_).2.2=true):8≤(Cr b at_).2.1∧(Cr b at_).2.1≤(b.length:Int)∧(Cr b at_).2.1=at_+8∧0≤at_:=by
 by_cases g:at_<0∨(b.length:Int)<at_∨(b.length:Int) - at_<8
 ·rw [Ju g] at h;cases h
 ·rw [MI g];dsimp only;omega
theorem Yl {b:List UInt8} {at_:Int}: -9223372036854775808≤(Cr b at_).1∧(Cr b at_).1≤9223372036854775807:=by
 by_cases g:at_<0∨(b.length:Int)<at_∨(b.length:Int) - at_<8
 ·rw [Ju g];decide
 ·rw [MI g]
  dsimp only
  unfold IntKind.wrap
  simp [IntKind.bits,IntKind.signed]
  omega
theorem Sp (n:Nat) {i:Nat} (h:i<8):(Cd n)[i]?=some (UInt8.ofNat (n / 256^(7 - i))):=by
 unfold Cd;rw [List.getElem?_map,List.getElem?_range h];rfl
theorem Sr (n:Nat) {i:Nat} (h:i<8):(Cd n).take (i+1)=(Cd n).take i++[UInt8.ofNat (n / 256^(7 - i))]:=Fr (Sp n h)
theorem Yk {l:List UInt8} {i:Nat} {x:UInt8} (h:l[i]?=some x):EX (l.take (i+1))=EX (l.take i)*256+x.toNat:=by rw [Fr h,Yj]
def Oc (b:Nat):List Value:=[.pointer (some ⟨b,0,none⟩)]
def CY:Kd Nat:=flat Oc 1 (by omega) (fun _=>rfl) (fun _ c h=>by simp [Oc] at h;subst h;rfl)
def CS (t:Nat) (e:Nat×CX):SP:=blk e.1 [.int .i64 e.2.c,.int .i64 e.2.s,.int .i64 e.2.e,.int .i64 e.2.x] t
def Bi (ps:List Al):ByteArray:=FU (FQ ps)
theorem ZN (l:List UInt8):(FU l).size=l.length:=by simp [FU,ByteArray.size]
theorem Mw {ps:List Al} (h:∀ p∈ps,p.key.size≤100∧p.val.size≤100):(CB ps).length≤ps.length*216:=by
 induction ps with
 |nil=>exact Nat.zero_le _
 |cons p ps ih=>
  have h1:=h p (List.mem_cons_self ..)
  have h2:=ih fun q hq=>h q (List.mem_cons_of_mem _ hq)
  have e:CB (p::ps)=(Dd p.key++Dd p.val)++CB ps:=by unfold CB;rw [List.flatMap_cons]
  rw [e,List.length_append,List.length_append,IP,IP,List.length_cons,Nat.succ_mul]
  omega
theorem Xu {ps:List Al} (h:∀ p∈ps,p.key.size≤100∧p.val.size≤100) (hl:ps.length≤1000):(Bi ps).size≤300000:=by
 have:=Mw h
 unfold Bi
 rw [ZN]
 unfold FQ
 rw [List.length_append,FH]
 omega
theorem Mx (ps:List Al):Cq (Bi ps)=FQ ps:=SD _
def DI (ps:List Al) (k:Nat):Nat:=8+(CB (ps.take k)).length
theorem Xt {ps:List Al} {k:Nat} {p:Al} (h:ps[k]?=some p):DI ps (k+1)=DI ps k+8+p.key.size+8+p.val.size:=by
 unfold DI
 rw [Fr h,Qb,List.length_append,List.length_append,IP,IP]
 omega
theorem Xw {ps:List Al} (hl:ps.length<9223372036854775808):Cr (FQ ps) 0=(((ps.length:Nat):Int),8,true):=by
 have h:=QF (a:=[]) (c:=CB ps) (n:=ps.length) (k:=0) hl rfl
 unfold Cr FQ
 have h2:GD (Cd ps.length++CB ps) 0=some (((ps.length:Nat):Int),((0+8:Nat):Int)):=h
 rw [h2]
 rfl
theorem Xv {ps:List Al} {k:Nat} {p:Al} (h:ps[k]?=some p) (hk:p.key.size<9223372036854775808):Fp (FQ ps) (DI ps k:Nat)=(p.key,((DI ps k+8+p.key.size:Nat):Int),true):=by
 have e:FQ ps=(Cd ps.length++CB (ps.take k))++(Dd p.key++(Dd p.val++CB (ps.drop (k+1)))):=by unfold FQ;rw [Qc h,List.append_assoc]
 have h1:=QG (a:=Cd ps.length++CB (ps.take k)) (c:=Dd p.val++CB (ps.drop (k+1))) (s:=p.key) (k:=DI ps k) hk (by rw [List.length_append,FH];rfl)
 unfold Fp
 rw [e,h1]
theorem Xx {ps:List Al} {k:Nat} {p:Al} (h:ps[k]?=some p) (hk:p.val.size<9223372036854775808):Fp (FQ ps) ((DI ps k+8+p.key.size:Nat):Int)=(p.val,((DI ps (k+1):Nat):Int),true):=by
 have e:FQ ps=(Cd ps.length++CB (ps.take k)++Dd p.key)++(Dd p.val++CB (ps.drop (k+1))):=by unfold FQ;rw [Qc h];simp only [List.append_assoc]
 have h1:=QG (a:=Cd ps.length++CB (ps.take k)++Dd p.key) (c:=CB (ps.drop (k+1))) (s:=p.val) (k:=DI ps k+8+p.key.size) hk (by rw [List.length_append,List.length_append,FH,IP];unfold DI;omega)
 unfold Fp
 rw [e,h1,Xt h]
theorem Xr {ps:List Al} (h:∀ p∈ps,p.key.size≤100∧p.val.size≤100) (hl:ps.length≤1000) (i:Nat):DI ps i≤300000:=by
 have h1:=Mw (ps:=ps.take i) fun p hp=>h p (List.mem_of_mem_take hp)
 have h2:(ps.take i).length≤ps.length:=by rw [List.length_take];omega
 unfold DI
 omega
def DX (D:Bg) (J:AG) (s:Nat) (att:Int) (k:Nat):List Int:=(List.range k).map fun (p:Nat)=>De ((B0 D J s p).length:Nat) (CK J.chunk att)
theorem NR (D:Bg) (J:AG) (s:Nat) (att:Int) (k:Nat):DX D J s att (k+1)=DX D J s att k++[De ((B0 D J s k).length:Nat) (CK J.chunk att)]:=by
 unfold DX;rw [List.range_succ,List.map_append];rfl
theorem NQ (D:Bg) (J:AG) (s:Nat) (att:Int) (k:Nat):(DX D J s att k).length=k:=by simp [DX]
theorem N1 {D:Bg} {J:AG} {s:Nat} {att:Int} (h:(AB D J s).2=0):BI D J s att=DX D J s att J.parts.toNat:=by
 unfold BI;rw [if_neg (fun g=>g h)];rfl
theorem N0 {D:Bg} {J:AG} {s:Nat} {att:Int} (h:(AB D J s).2≠0):BI D J s att=[]:=by
 unfold BI;rw [if_pos h]
/-! ### Windows, in a row of pointers -/
def RU (J:AG) (n:Int):CX:=⟨n,J.window,0,0⟩
theorem SR {n size q:Int} (h0:0≤q) (h1:q<De n size) (hs:1≤size):0≤q*size∧q*size≤n - 1:=by
 unfold De at h1
 by_cases h:n<1∨size<1
 ·rw [if_pos h] at h1;omega
 ·rw [if_neg h,Int.tdiv_eq_ediv_of_nonneg (by omega)] at h1
  exact ⟨Int.mul_nonneg h0 (by omega),(Int.le_ediv_iff_mul_le (by omega)).1 (by omega)⟩
theorem Th {ps:List Al} {size q:Int} {m k:Nat} (h0:0≤q) (h1:q<De ps.length size) (hs:1≤size) (hm:q*size=(m:Int)) (hk:min size (((ps.length - m:Nat):Int))=(k:Int)):D7 ps size q=(ps.drop m).take k:=by
 unfold D7
 rw [if_neg (by omega),hm,Int.toNat_natCast]
 refine (List.take_eq_take_iff).2 ?_
 rw [List.length_drop]
 omega
theorem N2 {ps:List Al} {size q:Int} (h:q<0∨De ps.length size≤q):D7 ps size q=[]:=if_pos h
theorem ZU {n size:Int} (h:0≤n) (hs:1≤size):0≤n.tdiv size∧n.tdiv size≤n:=by
 rw [Int.tdiv_eq_ediv_of_nonneg h]
 exact ⟨Int.ediv_nonneg h (by omega),Int.ediv_le_self _ h⟩
/-! ### What is pushed, window by window -/
theorem Lj {A B:AG} (h:BC A B) (D:Bg) (s:Nat) (att:Int):BI D A s att=BI D B s att:=by
 unfold BI
 rw [h.split,h.parts,h.chunk]
 simp only [h.only]
theorem NO {A B:AG} (h:BC A B) (D:Bg) (s:Nat) (att p q:Int):B_ D A s att p q=B_ D B s att p q:=by
 unfold B_
 rw [h.chunk,h.only]
theorem WN {A B:AG} (h:BC A B) (D:Bg) (s:Nat) (att:Int):FO D A s att=FO D B s att:=by
 unfold FO BI
 rw [h.split,h.parts,h.chunk,h.window]
 simp only [h.only]
theorem WS {A B:AG} (h:BC A B) {D:Bg} {s:Nat} {att:Int} {ws:List (Nat×CX)} {k:Nat} (hw:ws.map Prod.snd=((BI D A s att).take k).map (RU A)) (hk:(BI D A s att).length≤k):ws.map Prod.snd=(FO D B s att).ws:=by
 rw [hw,List.take_of_length_le hk,←WN h];rfl
theorem Hd.tellK {α:Type} {w0 w:World} {F0:AN} {K:Kd α} {v:Value} {xs ys:List α} {As Rs:List SP} (H:Hd w0 F0 w (Y K v xs::As) Rs) (e:ys=xs):Hd w0 F0 w (Y K v ys::As) Rs:=by rw [e];exact H
end Go.Proofs.YthgehekecfpikaaGreatDoor.X
