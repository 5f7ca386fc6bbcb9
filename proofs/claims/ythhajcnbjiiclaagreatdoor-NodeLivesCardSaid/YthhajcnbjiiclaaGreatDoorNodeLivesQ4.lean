/- NodeLives: texts V5, P1, V6, V7, P2, P3, joined by a program of ours; what nothing names is left out. -/
import Derived.Test.YthhajcnbjiiclaaGreatDoorNodeLivesQ3
import Derived.Test.YthhajcnbjiiclaaGreatDoorShelf
set_option linter.unusedVariables false
set_option linter.unusedSimpArgs false
set_option maxHeartbeats 8000000
namespace Go.Proofs.YthhajcnbjiiclaaGreatDoor.X
open Go
theorem UV (r:Nat) (pv:Value) (key:ByteArray) (vv:Value) (fuel pos steps:Int) (halted:Bool) (sv:Value) (g:Nat→A9) (tv:Value) (mb:Nat) (stk:List A9) (told:List Aq) (vals:List ByteArray) (i:BT) (n:Int) (hst:stk.length≤16) (hto:told.length≤40) (hok:(∀ v∈stk,Fs v)∧∀ k,Fs (g k)) (hi:BX i n):
    Cn Tryz.prog 284 [.pointer (some ⟨r,0,none⟩),.agg #[.int .i64 i.op,.int .i64 i.a,.string i.s]] [blk r (Bn pv key vv fuel pos steps halted sv g tv (.map (some mb))) 334,Y Bf sv stk,Y Ag tv told,B9 mb] [Ac Bt vv vals,gl] (fun v Bs=>∃ sv2 tv2 vv2,v=.int .i64 (BW dg key ⟨pos,halted,stk,g,told,vals⟩ i).2∧Do Bt vv vals vv2 (BW dg key ⟨pos,halted,stk,g,told,vals⟩ i).1.vals∧Bs=[blk r (Bn pv key vv2 fuel (BW dg key ⟨pos,halted,stk,g,told,vals⟩ i).1.pos steps (BW dg key ⟨pos,halted,stk,g,told,vals⟩ i).1.halted sv2 (BW dg key ⟨pos,halted,stk,g,told,vals⟩ i).1.g tv2 (.map (some mb))) 334,Y Bf sv2 (BW dg key ⟨pos,halted,stk,g,told,vals⟩ i).1.stk,Y Ag tv2 (BW dg key ⟨pos,halted,stk,g,told,vals⟩ i).1.told,B9 mb]):=by
 intro w0 F0 H
 refine enter Tryz.func284 U U (Nat.le_of_ble_eq_true U) (Aa (Ae (CZ U U U U H (fun b1 w H=>(Ad U (Ab (Z ?_)))))))
 replace H:Hd _ _ _ [blk b1 [.int .i64 i.op,.int .i64 i.a,.string i.s] 124,blk r (Bn pv key vv fuel pos steps halted sv g tv (.map (some mb))) 334,Y Bf sv stk,Y Ag tv told,B9 mb] [Ac Bt vv vals,gl]:=H
 refine Aa (Ae (Ad U (V U U (Aj U Dw U) (V U U (Am U AE U (H.cellI 0 U U)) ?_))))
 replace H:=H.p2.p2
 refine sc (YN r pv key vv fuel pos steps halted sv g tv (.map (some mb)) stk i.op (by first |omega|exact Nat.le_trans hN.2.1 hst)) H l0 U U (Av Xz U U) ?_
 rintro _ _ w ⟨u2,s3,rfl,rfl⟩ H
 replace H:=H.h3 (A:=blk r (Bn pv key vv fuel pos steps halted s3 g tv (.map (some mb))) 334) (B:=Y Bf s3 ((AD i.op stk).2.1)) (C:=Y Bf u2 ((AD i.op stk).2.2))
 refine Ah 5 U (Ab (Z (Aa (Aa (Ae (Ad U (V U U (Cx U U U) (Ab (Z ?_)))))))))
 refine AC U (fun h4=>?_) (fun h4=>?_)
 ·refine Aa (Ae (Ah 2 U (Ab (Z (An (AA (Ap U U ?_)))))))
  replace H:=H.p5.p5.p3.p3.k4
  have e:BW dg key (⟨pos,halted,stk,g,told,vals⟩:VM) i=((⟨pos,halted,stk,g,told,vals⟩:VM),(AD i.op stk).1):=L6 (m:=(⟨pos,halted,stk,g,told,vals⟩:VM)) h4
  have e2:=YO h4
  rw [e2] at H
  replace H:Hd _ _ _ [blk r (Bn pv key vv fuel pos steps halted s3 g tv (.map (some mb))) 334,Y Bf s3 stk,Y Ag tv told,B9 mb] [Ac Bt vv vals,gl]:=H
  exact Al ⟨s3,tv,vv,by rw [e]<;>rfl,by rw [e]<;>exact Do.refl _ _ _,by rw [e]<;>rfl⟩ H
 refine Az (Z (Aa (Aa ?_)))
 have hN0:=Classical.not_not.1 h4
 have hN:=M2 hN0
 refine Ae (V U U (Aj U Dw U) (V U U (Am U AE U (H.cellI 3 U U)) (Ab (Z (AW (Aa (Ae (V U U (Bh U U U) (Ad U (Ab (Z ?_)))))))))))
 refine AC U (fun h5=>?_) (fun h5=>?_)
 ·have hks:(Bq i.op).size=0:=by rw [h5];rfl
  refine Ae (Ad U (V U U (AJ U U) (V U U (Aj U PI U) (Bx U U U DP U U H U (Nat.le_of_ble_eq_true U) (fun u hu=>by simp [Value.cells] at hu;subst hu;rfl) (fun w H=>?_)))))
  replace H:=H.h1 (A:=blk r (Bn pv key vv fuel pos steps true s3 g tv (.map (some mb))) 334)
  refine Ab (Bb (Z (Aa (Ae (Ad U (Ab (Z (An (Ap U U ?_)))))))))
  replace H:=H.p5.p5.p3.p3.k4
  have e:BW dg key (⟨pos,halted,stk,g,told,vals⟩:VM) i=((⟨pos,true,(AD i.op stk).2.1,g,told,vals⟩:VM),0):=by
    rw [DG (m:=(⟨pos,halted,stk,g,told,vals⟩:VM)) h4,Ob h5]
    all_goals rfl
  replace H:Hd _ _ _ [blk r (Bn pv key vv fuel pos steps true s3 g tv (.map (some mb))) 334,Y Bf s3 ((AD i.op stk).2.1),Y Ag tv told,B9 mb] [Ac Bt vv vals,gl]:=H
  exact Al ⟨s3,tv,vv,by rw [e]<;>rfl,by rw [e]<;>exact Do.refl _ _ _,by rw [e]<;>rfl⟩ H
 refine Aa (Ae (V U U (Bh U U U) (Ad U (Ab (Z ?_)))))
 refine AC U (fun h6=>?_) (fun h6=>?_)
 ·have hks:(Bq i.op).size=0:=by rw [h6];rfl
  refine Aa (Ae (Ad U (V U U (Aj U DH U) (V U U (Am U AE U (H.cellI 3 U U)) (sc (GD i.a) H l0 U U (Av Gt U U) ?_)))))
  rintro _ _ w ⟨rfl,rfl⟩ H
  refine Cg (parts:=[(0,.tmp 29)]) (vs:=[.agg #[.bool false,.int .i64 i.a,.string ⟨#[]⟩]]) (cs:=[.bool false,.int .i64 i.a,.string ⟨#[]⟩]) U U U Ck DK U (by decide) (by decide) U U H (fun b7 w H=>?_)
  replace H:=H.h1 (A:=blk b7 [.bool false,.int .i64 i.a,.string ⟨#[]⟩] 330)|>.p2|>.p2
  refine sc (Ey r pv key vv fuel pos steps halted s3 g tv (.map (some mb)) ((AD i.op stk).2.1) (.slice (some ⟨b7,0,none⟩) 1 1) [(⟨false,i.a,⟨#[]⟩⟩:A9)] (by first |omega|exact Nat.le_trans hN.2.1 hst) (Nat.le_of_ble_eq_true U)) H (lA 0 U (fun F h=>CC h rfl (by decide) (Be.flat_eq.2 U)) l0) U U (Av Eu U U) ?_
  rintro _ _ w ⟨s8,rfl,rfl⟩ H
  replace H:=H.h2 (A:=blk r (Bn pv key vv fuel pos steps halted s8 g tv (.map (some mb))) 334) (B:=Y Bf s8 ((Bu ((AD i.op stk).2.1) [(⟨false,i.a,⟨#[]⟩⟩:A9)]).2))
  refine Ad U (Ab (Z (An (AZ (AA (Ap U U ?_))))))
  replace H:=H.p6.p6.p3.p3.k4
  have e:BW dg key (⟨pos,halted,stk,g,told,vals⟩:VM) i=((⟨pos,halted,(Bu ((AD i.op stk).2.1) [(⟨false,i.a,⟨#[]⟩⟩:A9)]).2,g,told,vals⟩:VM),(Bu ((AD i.op stk).2.1) [(⟨false,i.a,⟨#[]⟩⟩:A9)]).1):=by
    rw [DG (m:=(⟨pos,halted,stk,g,told,vals⟩:VM)) h4,Oc h6]
    all_goals rfl
  replace H:Hd _ _ _ [blk r (Bn pv key vv fuel pos steps halted s8 g tv (.map (some mb))) 334,Y Bf s8 ((Bu ((AD i.op stk).2.1) [(⟨false,i.a,⟨#[]⟩⟩:A9)]).2),Y Ag tv told,B9 mb] [Ac Bt vv vals,gl]:=H
  exact Al ⟨s8,tv,vv,by rw [e]<;>rfl,by rw [e]<;>exact Do.refl _ _ _,by rw [e]<;>rfl⟩ H
 refine Aa (Ae (V U U (Bh U U U) (Ad U (Ab (Z ?_)))))
 refine AC U (fun h9=>?_) (fun h9=>?_)
 ·have hks:(Bq i.op).size=0:=by rw [h9];rfl
  refine Aa (Ae (Ad U (V U U (Aj U Fy U) (V U U (Am U Cl U (H.cellI 3 U U)) (sc (Jd i.s) H l0 U U (Av IP U U) ?_)))))
  rintro _ _ w ⟨rfl,rfl⟩ H
  refine Cg (parts:=[(0,.tmp 37)]) (vs:=[.agg #[.bool true,.int .i64 0,.string i.s]]) (cs:=[.bool true,.int .i64 0,.string i.s]) U U U Ck DK U (by decide) (by decide) U U H (fun b10 w H=>?_)
  replace H:=H.h1 (A:=blk b10 [.bool true,.int .i64 0,.string i.s] 330)|>.p2|>.p2
  refine sc (Ey r pv key vv fuel pos steps halted s3 g tv (.map (some mb)) ((AD i.op stk).2.1) (.slice (some ⟨b10,0,none⟩) 1 1) [(⟨true,0,i.s⟩:A9)] (by first |omega|exact Nat.le_trans hN.2.1 hst) (Nat.le_of_ble_eq_true U)) H (lA 0 U (fun F h=>CC h rfl (by decide) (Be.flat_eq.2 U)) l0) U U (Av Eu U U) ?_
  rintro _ _ w ⟨s11,rfl,rfl⟩ H
  replace H:=H.h2 (A:=blk r (Bn pv key vv fuel pos steps halted s11 g tv (.map (some mb))) 334) (B:=Y Bf s11 ((Bu ((AD i.op stk).2.1) [(⟨true,0,i.s⟩:A9)]).2))
  refine Ad U (Ab (Z (An (AZ (AA (Ap U U ?_))))))
  replace H:=H.p6.p6.p3.p3.k4
  have e:BW dg key (⟨pos,halted,stk,g,told,vals⟩:VM) i=((⟨pos,halted,(Bu ((AD i.op stk).2.1) [(⟨true,0,i.s⟩:A9)]).2,g,told,vals⟩:VM),(Bu ((AD i.op stk).2.1) [(⟨true,0,i.s⟩:A9)]).1):=by
    rw [DG (m:=(⟨pos,halted,stk,g,told,vals⟩:VM)) h4,Ol h9]
    all_goals rfl
  replace H:Hd _ _ _ [blk r (Bn pv key vv fuel pos steps halted s11 g tv (.map (some mb))) 334,Y Bf s11 ((Bu ((AD i.op stk).2.1) [(⟨true,0,i.s⟩:A9)]).2),Y Ag tv told,B9 mb] [Ac Bt vv vals,gl]:=H
  exact Al ⟨s11,tv,vv,by rw [e]<;>rfl,by rw [e]<;>exact Do.refl _ _ _,by rw [e]<;>rfl⟩ H
 refine Aa (Ae (V U U (Bh U U U) (Ad U (Ab (Z ?_)))))
 refine AC U (fun h12=>?_) (fun h12=>?_)
 ·have hks:(Bq i.op).size=1:=by rw [h12];rfl
  refine Aa ?_
  obtain ⟨A13,c14,rfl,hc15,hm16,hp17⟩:=H.fA 2 rfl
  obtain ⟨x18,hx19⟩:∃ z9,((AD i.op stk).2.2)[0]?=some z9:=⟨_,List.getElem?_eq_getElem (show 0<((AD i.op stk).2.2).length by omega)⟩
  have okx18:=hok.1 _ (hN.2.2.1 _ (CA hx19))
  have szx18:=okx18.2
  have inx18:=okx18.1
  replace H:=H.p5.p5.p5.p5
  refine Ce (.e 0 (.e 1 (.e 2 (.e 3 (.e 4 (.e 5 (.e 6 (.m 7 (.m 8 (.e 9 .z)))))))))) (fun w=>∃ Ar,Hd w0 F0 w (Y Bf (.slice A13 (((AD i.op stk).2.2).length) c14) ((AD i.op stk).2.2)::blk b1 [.int .i64 i.op,.int .i64 i.a,.string i.s] 124::Y Ag tv told::B9 mb::Ar) [Ac Bt vv vals,gl]) mo (by kernel_rfl) (fun w H=>⟨_,H⟩) H (fun w H=>(Au U (Au U ?_)))
  have th20:=H.thA 0 rfl hx19
  refine Ao U U U (fun w ⟨Ar,H⟩=>Bi (p:=Ba A13+0*3) U Ck U U (by omega) (by omega) th20 (by omega)) (Ao U U U (fun w ⟨Ar,H⟩=>BG (cs:=[.bool x18.t,.int .i64 x18.n,.string x18.b]) U Dz U U (H.elsA 0 U hx19 U)) (Au U ?_))
  have th21:=H.thA 0 rfl hx19
  refine Ao U U U (fun w ⟨Ar,H⟩=>Bi (p:=Ba A13+0*3) U Ck U U (by omega) (by omega) th21 (by omega)) (Ao U U U (fun w ⟨Ar,H⟩=>BG (cs:=[.bool x18.t,.int .i64 x18.n,.string x18.b]) U Dz U U (H.elsA 0 U hx19 U)) (AO U (Cg (parts:=[(0,.tmp 45),(1,.tmp 48)]) (vs:=[.agg #[.bool x18.t,.int .i64 x18.n,.string x18.b],.agg #[.bool x18.t,.int .i64 x18.n,.string x18.b]]) (cs:=[.bool x18.t,.int .i64 x18.n,.string x18.b,.bool x18.t,.int .i64 x18.n,.string x18.b]) U U U Ck DK U (by decide) (by decide) U U H (fun b22 w H=>?_))))
  replace H:=H.h1 (A:=blk b22 [.bool x18.t,.int .i64 x18.n,.string x18.b,.bool x18.t,.int .i64 x18.n,.string x18.b] 330)|>.p4|>.p4|>.p4|>.p4
  refine AH ⟨_,H⟩ (AO U ?_)
  replace H:=H.p6.p6
  refine sc (Ey r pv key vv fuel pos steps halted s3 g tv (.map (some mb)) ((AD i.op stk).2.1) (.slice (some ⟨b22,0,none⟩) 2 2) [x18,x18] (by first |omega|exact Nat.le_trans hN.2.1 hst) (Nat.le_of_ble_eq_true U)) H (lA 4 U (fun F h=>CC h rfl (by decide) (Be.flat_eq.2 U)) l0) U U (Av Eu U U) ?_
  rintro _ _ w ⟨s23,rfl,rfl⟩ H
  replace H:=H.h2 (A:=blk r (Bn pv key vv fuel pos steps halted s23 g tv (.map (some mb))) 334) (B:=Y Bf s23 ((Bu ((AD i.op stk).2.1) [x18,x18]).2))|>.p5|>.p5|>.p5|>.p5
  refine AH ⟨_,H⟩ (Au U (BO (Z (An (AZ (AA (Ap U U ?_)))))))
  replace H:=H.p3.p3.p5.p5.k4
  have e:BW dg key (⟨pos,halted,stk,g,told,vals⟩:VM) i=((⟨pos,halted,(Bu ((AD i.op stk).2.1) [x18,x18]).2,g,told,vals⟩:VM),(Bu ((AD i.op stk).2.1) [x18,x18]).1):=by
    rw [DG (m:=(⟨pos,halted,stk,g,told,vals⟩:VM)) h4,Oq h12]
    rw [DB hx19]<;>rfl
  replace H:Hd _ _ _ [blk r (Bn pv key vv fuel pos steps halted s23 g tv (.map (some mb))) 334,Y Bf s23 ((Bu ((AD i.op stk).2.1) [x18,x18]).2),Y Ag tv told,B9 mb] [Ac Bt vv vals,gl]:=H
  exact Al ⟨s23,tv,vv,by rw [e]<;>rfl,by rw [e]<;>exact Do.refl _ _ _,by rw [e]<;>rfl⟩ H
 refine Aa (Ae (V U U (Bh U U U) (Ad U (Ab (Z ?_)))))
 refine AC U (fun h24=>?_) (fun h24=>?_)
 ·have hks:(Bq i.op).size=2:=by rw [h24];rfl
  refine Aa ?_
  obtain ⟨A25,c26,rfl,hc27,hm28,hp29⟩:=H.fA 2 rfl
  obtain ⟨x30,hx31⟩:∃ z9,((AD i.op stk).2.2)[0]?=some z9:=⟨_,List.getElem?_eq_getElem (show 0<((AD i.op stk).2.2).length by omega)⟩
  have okx30:=hok.1 _ (hN.2.2.1 _ (CA hx31))
  have szx30:=okx30.2
  have inx30:=okx30.1
  obtain ⟨x32,hx33⟩:∃ z9,((AD i.op stk).2.2)[1]?=some z9:=⟨_,List.getElem?_eq_getElem (show 1<((AD i.op stk).2.2).length by omega)⟩
  have okx32:=hok.1 _ (hN.2.2.1 _ (CA hx33))
  have szx32:=okx32.2
  have inx32:=okx32.1
  replace H:=H.p5.p5.p5.p5
  refine Ce (.e 0 (.e 1 (.e 2 (.e 3 (.e 4 (.e 5 (.e 6 (.m 7 (.m 8 (.e 9 .z)))))))))) (fun w=>∃ Ar,Hd w0 F0 w (Y Bf (.slice A25 (((AD i.op stk).2.2).length) c26) ((AD i.op stk).2.2)::blk b1 [.int .i64 i.op,.int .i64 i.a,.string i.s] 124::Y Ag tv told::B9 mb::Ar) [Ac Bt vv vals,gl]) mo (by kernel_rfl) (fun w H=>⟨_,H⟩) H (fun w H=>(Au U (Au U ?_)))
  have th34:=H.thA 0 rfl hx33
  refine Ao U U U (fun w ⟨Ar,H⟩=>Bi (p:=Ba A25+1*3) U Ck U U (by omega) (by omega) th34 (by omega)) (Ao U U U (fun w ⟨Ar,H⟩=>BG (cs:=[.bool x32.t,.int .i64 x32.n,.string x32.b]) U Dz U U (H.elsA 0 U hx33 U)) (Au U ?_))
  have th35:=H.thA 0 rfl hx31
  refine Ao U U U (fun w ⟨Ar,H⟩=>Bi (p:=Ba A25+0*3) U Ck U U (by omega) (by omega) th35 (by omega)) (Ao U U U (fun w ⟨Ar,H⟩=>BG (cs:=[.bool x30.t,.int .i64 x30.n,.string x30.b]) U Dz U U (H.elsA 0 U hx31 U)) (AO U (Cg (parts:=[(0,.tmp 56),(1,.tmp 59)]) (vs:=[.agg #[.bool x32.t,.int .i64 x32.n,.string x32.b],.agg #[.bool x30.t,.int .i64 x30.n,.string x30.b]]) (cs:=[.bool x32.t,.int .i64 x32.n,.string x32.b,.bool x30.t,.int .i64 x30.n,.string x30.b]) U U U Ck DK U (by decide) (by decide) U U H (fun b36 w H=>?_))))
  replace H:=H.h1 (A:=blk b36 [.bool x32.t,.int .i64 x32.n,.string x32.b,.bool x30.t,.int .i64 x30.n,.string x30.b] 330)|>.p4|>.p4|>.p4|>.p4
  refine AH ⟨_,H⟩ (AO U ?_)
  replace H:=H.p6.p6
  refine sc (Ey r pv key vv fuel pos steps halted s3 g tv (.map (some mb)) ((AD i.op stk).2.1) (.slice (some ⟨b36,0,none⟩) 2 2) [x32,x30] (by first |omega|exact Nat.le_trans hN.2.1 hst) (Nat.le_of_ble_eq_true U)) H (lA 4 U (fun F h=>CC h rfl (by decide) (Be.flat_eq.2 U)) l0) U U (Av Eu U U) ?_
  rintro _ _ w ⟨s37,rfl,rfl⟩ H
  replace H:=H.h2 (A:=blk r (Bn pv key vv fuel pos steps halted s37 g tv (.map (some mb))) 334) (B:=Y Bf s37 ((Bu ((AD i.op stk).2.1) [x32,x30]).2))|>.p5|>.p5|>.p5|>.p5
  refine AH ⟨_,H⟩ (Au U (BO (Z (An (AZ (AA (Ap U U ?_)))))))
  replace H:=H.p3.p3.p5.p5.k4
  have e:BW dg key (⟨pos,halted,stk,g,told,vals⟩:VM) i=((⟨pos,halted,(Bu ((AD i.op stk).2.1) [x32,x30]).2,g,told,vals⟩:VM),(Bu ((AD i.op stk).2.1) [x32,x30]).1):=by
    rw [DG (m:=(⟨pos,halted,stk,g,told,vals⟩:VM)) h4,Ou h24]
    rw [DB hx31,DB hx33]<;>rfl
  replace H:Hd _ _ _ [blk r (Bn pv key vv fuel pos steps halted s37 g tv (.map (some mb))) 334,Y Bf s37 ((Bu ((AD i.op stk).2.1) [x32,x30]).2),Y Ag tv told,B9 mb] [Ac Bt vv vals,gl]:=H
  exact Al ⟨s37,tv,vv,by rw [e]<;>rfl,by rw [e]<;>exact Do.refl _ _ _,by rw [e]<;>rfl⟩ H
 refine Aa (Ae (V U U (Bh U U U) (Ad U (Ab (Z ?_)))))
 refine AC U (fun h38=>?_) (fun h38=>?_)
 ·have hks:(Bq i.op).size=0:=by rw [h38];rfl
  refine Aa (Ae (Ah 2 U (V U U (AJ U U) (V U U (Aj U VD U) (V U U (Am U Cl U (H.cellI 0 U U)) (sc (Jd key) H l0 U U (Av IP U U) ?_))))))
  rintro _ _ w ⟨rfl,rfl⟩ H
  refine Cg (parts:=[(0,.tmp 69)]) (vs:=[.agg #[.bool true,.int .i64 0,.string key]]) (cs:=[.bool true,.int .i64 0,.string key]) U U U Ck DK U (by decide) (by decide) U U H (fun b39 w H=>?_)
  replace H:=H.h1 (A:=blk b39 [.bool true,.int .i64 0,.string key] 330)|>.p2|>.p2
  refine sc (Ey r pv key vv fuel pos steps halted s3 g tv (.map (some mb)) ((AD i.op stk).2.1) (.slice (some ⟨b39,0,none⟩) 1 1) [(⟨true,0,key⟩:A9)] (by first |omega|exact Nat.le_trans hN.2.1 hst) (Nat.le_of_ble_eq_true U)) H (lA 0 U (fun F h=>CC h rfl (by decide) (Be.flat_eq.2 U)) l0) U U (Av Eu U U) ?_
  rintro _ _ w ⟨s40,rfl,rfl⟩ H
  replace H:=H.h2 (A:=blk r (Bn pv key vv fuel pos steps halted s40 g tv (.map (some mb))) 334) (B:=Y Bf s40 ((Bu ((AD i.op stk).2.1) [(⟨true,0,key⟩:A9)]).2))
  refine Ad U (Ab (Z (An (AZ (AA (Ap U U ?_))))))
  replace H:=H.p6.p6.p3.p3.k4
  have e:BW dg key (⟨pos,halted,stk,g,told,vals⟩:VM) i=((⟨pos,halted,(Bu ((AD i.op stk).2.1) [(⟨true,0,key⟩:A9)]).2,g,told,vals⟩:VM),(Bu ((AD i.op stk).2.1) [(⟨true,0,key⟩:A9)]).1):=by
    rw [DG (m:=(⟨pos,halted,stk,g,told,vals⟩:VM)) h4,Ov h38]
    all_goals rfl
  replace H:Hd _ _ _ [blk r (Bn pv key vv fuel pos steps halted s40 g tv (.map (some mb))) 334,Y Bf s40 ((Bu ((AD i.op stk).2.1) [(⟨true,0,key⟩:A9)]).2),Y Ag tv told,B9 mb] [Ac Bt vv vals,gl]:=H
  exact Al ⟨s40,tv,vv,by rw [e]<;>rfl,by rw [e]<;>exact Do.refl _ _ _,by rw [e]<;>rfl⟩ H
 refine Aa (Ae (V U U (Bh U U U) (Ad U (Ab (Z ?_)))))
 refine AC U (fun h41=>?_) (fun h41=>?_)
 ·have hks:(Bq i.op).size=0:=by rw [h41];rfl
  refine Aa (Ae (Ad U (sc (YV r pv key vv fuel pos steps halted s3 g tv (.map (some mb)) ((AD i.op stk).2.1) vals (by first |omega|exact Nat.le_trans hN.2.1 hst)) H (lR 0 U l0) U U (Av XA U U) ?_)))
  rintro _ _ w ⟨s42,vv43,rfl,hsuf44,rfl⟩ H
  replace H:=H.h2 (A:=blk r (Bn pv key vv43 fuel pos steps halted s42 g tv (.map (some mb))) 334) (B:=Y Bf s42 ((FM ((AD i.op stk).2.1) vals).2.1))
  refine Ad U (Ab (Z (An (AZ (AA (Ap U U ?_))))))
  replace H:=H.p5.p5.p3.p3.k4
  have e:BW dg key (⟨pos,halted,stk,g,told,vals⟩:VM) i=((⟨pos,halted,(FM ((AD i.op stk).2.1) vals).2.1,g,told,(FM (AD i.op stk).2.1 vals).2.2⟩:VM),(FM ((AD i.op stk).2.1) vals).1):=by
    rw [DG (m:=(⟨pos,halted,stk,g,told,vals⟩:VM)) h4,Ow h41]
    rw [Rv]
  replace H:Hd _ _ _ [blk r (Bn pv key vv43 fuel pos steps halted s42 g tv (.map (some mb))) 334,Y Bf s42 ((FM ((AD i.op stk).2.1) vals).2.1),Y Ag tv told,B9 mb] [Ac Bt vv vals,gl]:=H
  exact Al ⟨s42,tv,vv43,by rw [e]<;>rfl,by rw [e]<;>exact hsuf44,by rw [e]<;>rfl⟩ H
 refine Aa (Aa (Ae (V U U (Bh U U U) (Ad U (Ab (Z ?_))))))
 refine AC U (fun h45=>?_) (fun h45=>?_)
 ·have hks:(Bq i.op).size=2:=by rw [h45];rfl
  refine Az (Z ?_)
  refine AC U (fun h46=>?_) (fun h46=>?_)
  ·have hks:(Bq i.op).size=2:=by rw [h46];rfl
   refine Aa ?_
   obtain ⟨A47,c48,rfl,hc49,hm50,hp51⟩:=H.fA 2 rfl
   obtain ⟨x52,hx53⟩:∃ z9,((AD i.op stk).2.2)[0]?=some z9:=⟨_,List.getElem?_eq_getElem (show 0<((AD i.op stk).2.2).length by omega)⟩
   have okx52:=hok.1 _ (hN.2.2.1 _ (CA hx53))
   have szx52:=okx52.2
   have inx52:=okx52.1
   obtain ⟨x54,hx55⟩:∃ z9,((AD i.op stk).2.2)[1]?=some z9:=⟨_,List.getElem?_eq_getElem (show 1<((AD i.op stk).2.2).length by omega)⟩
   have okx54:=hok.1 _ (hN.2.2.1 _ (CA hx55))
   have szx54:=okx54.2
   have inx54:=okx54.1
   replace H:=H.p5.p5.p5.p5
   refine Ce (.e 0 (.e 1 (.e 2 (.e 3 (.e 4 (.e 5 (.e 6 (.e 7 (.e 8 (.e 9 (.e 10 (.m 11 (.m 12 (.m 13 (.e 14 .z))))))))))))))) (fun w=>∃ Ar,Hd w0 F0 w (Y Bf (.slice A47 (((AD i.op stk).2.2).length) c48) ((AD i.op stk).2.2)::blk b1 [.int .i64 i.op,.int .i64 i.a,.string i.s] 124::Y Ag tv told::B9 mb::Ar) [Ac Bt vv vals,gl]) mo (by kernel_rfl) (fun w H=>⟨_,H⟩) H (fun w H=>(Au U (Ao U U U (fun w ⟨Ar,H⟩=>Aj U Dw U) (Ao U U U (fun w ⟨Ar,H⟩=>Am U AE U (H.cellI 1 U U)) (Au U ?_)))))
   have th56:=H.thA 0 rfl hx53
   refine Ao U U U (fun w ⟨Ar,H⟩=>Bi (p:=Ba A47+0*3) U Ck U U (by omega) (by omega) th56 (by omega)) (Ao U U U (fun w ⟨Ar,H⟩=>Aj U Fk U) (Ao U U U (fun w ⟨Ar,H⟩=>Am U Eg U (H.elA 0 U hx53 (q:=1) U U)) (Au U ?_)))
   have th57:=H.thA 0 rfl hx55
   refine Ao U U U (fun w ⟨Ar,H⟩=>Bi (p:=Ba A47+1*3) U Ck U U (by omega) (by omega) th57 (by omega)) (Ao U U U (fun w ⟨Ar,H⟩=>Aj U Fk U) (Ao U U U (fun w ⟨Ar,H⟩=>Am U Eg U (H.elA 0 U hx55 (q:=1) U U)) (AO U (sc (K6 i.op x52.n x54.n) H l0 U U (Av KJ U U) ?_))))
   rintro _ _ w ⟨rfl,rfl⟩ H
   refine AH ⟨_,H⟩ (AO U (Cg (parts:=[(0,.tmp 92)]) (vs:=[.agg #[.bool ((BR i.op x52.n x54.n).t),.int .i64 ((BR i.op x52.n x54.n).n),.string ((BR i.op x52.n x54.n).b)]]) (cs:=[.bool ((BR i.op x52.n x54.n).t),.int .i64 ((BR i.op x52.n x54.n).n),.string ((BR i.op x52.n x54.n).b)]) U U U Ck DK U (by decide) (by decide) U U H (fun b58 w H=>?_)))
   replace H:=H.h1 (A:=blk b58 [.bool ((BR i.op x52.n x54.n).t),.int .i64 ((BR i.op x52.n x54.n).n),.string ((BR i.op x52.n x54.n).b)] 330)|>.p4|>.p4|>.p4|>.p4
   refine AH ⟨_,H⟩ (AO U ?_)
   replace H:=H.p6.p6
   refine sc (Ey r pv key vv fuel pos steps halted s3 g tv (.map (some mb)) ((AD i.op stk).2.1) (.slice (some ⟨b58,0,none⟩) 1 1) [(BR i.op x52.n x54.n)] (by first |omega|exact Nat.le_trans hN.2.1 hst) (Nat.le_of_ble_eq_true U)) H (lA 4 U (fun F h=>CC h rfl (by decide) (Be.flat_eq.2 U)) l0) U U (Av Eu U U) ?_
   rintro _ _ w ⟨s59,rfl,rfl⟩ H
   replace H:=H.h2 (A:=blk r (Bn pv key vv fuel pos steps halted s59 g tv (.map (some mb))) 334) (B:=Y Bf s59 ((Bu ((AD i.op stk).2.1) [(BR i.op x52.n x54.n)]).2))|>.p5|>.p5|>.p5|>.p5
   refine AH ⟨_,H⟩ (Au U (BO (Z (An (AZ (AA (Ap U U ?_)))))))
   replace H:=H.p3.p3.p5.p5.k4
   have e:BW dg key (⟨pos,halted,stk,g,told,vals⟩:VM) i=((⟨pos,halted,(Bu ((AD i.op stk).2.1) [(BR i.op x52.n x54.n)]).2,g,told,vals⟩:VM),(Bu ((AD i.op stk).2.1) [(BR i.op x52.n x54.n)]).1):=by
     rw [DG (m:=(⟨pos,halted,stk,g,told,vals⟩:VM)) h4,Jj (by omega)]
     rw [DB hx53,DB hx55]<;>rfl
   replace H:Hd _ _ _ [blk r (Bn pv key vv fuel pos steps halted s59 g tv (.map (some mb))) 334,Y Bf s59 ((Bu ((AD i.op stk).2.1) [(BR i.op x52.n x54.n)]).2),Y Ag tv told,B9 mb] [Ac Bt vv vals,gl]:=H
   exact Al ⟨s59,tv,vv,by rw [e]<;>rfl,by rw [e]<;>exact Do.refl _ _ _,by rw [e]<;>rfl⟩ H
  exact absurd h45 h46
 refine Aa (Ae (V U U (Bh U U U) (Ad U (Ab (Z ?_)))))
 refine AC U (fun h60=>?_) (fun h60=>?_)
 ·have hks:(Bq i.op).size=2:=by rw [h60];rfl
  refine Az (Z ?_)
  refine AC U (fun h61=>?_) (fun h61=>?_)
  ·have hks:(Bq i.op).size=2:=by rw [h61];rfl
   refine Aa ?_
   obtain ⟨A62,c63,rfl,hc64,hm65,hp66⟩:=H.fA 2 rfl
   obtain ⟨x67,hx68⟩:∃ z9,((AD i.op stk).2.2)[0]?=some z9:=⟨_,List.getElem?_eq_getElem (show 0<((AD i.op stk).2.2).length by omega)⟩
   have okx67:=hok.1 _ (hN.2.2.1 _ (CA hx68))
   have szx67:=okx67.2
   have inx67:=okx67.1
   obtain ⟨x69,hx70⟩:∃ z9,((AD i.op stk).2.2)[1]?=some z9:=⟨_,List.getElem?_eq_getElem (show 1<((AD i.op stk).2.2).length by omega)⟩
   have okx69:=hok.1 _ (hN.2.2.1 _ (CA hx70))
   have szx69:=okx69.2
   have inx69:=okx69.1
   replace H:=H.p5.p5.p5.p5
   refine Ce (.e 0 (.e 1 (.e 2 (.e 3 (.e 4 (.e 5 (.e 6 (.e 7 (.e 8 (.e 9 (.e 10 (.m 11 (.m 12 (.m 13 (.e 14 .z))))))))))))))) (fun w=>∃ Ar,Hd w0 F0 w (Y Bf (.slice A62 (((AD i.op stk).2.2).length) c63) ((AD i.op stk).2.2)::blk b1 [.int .i64 i.op,.int .i64 i.a,.string i.s] 124::Y Ag tv told::B9 mb::Ar) [Ac Bt vv vals,gl]) mo (by kernel_rfl) (fun w H=>⟨_,H⟩) H (fun w H=>(Au U (Ao U U U (fun w ⟨Ar,H⟩=>Aj U Dw U) (Ao U U U (fun w ⟨Ar,H⟩=>Am U AE U (H.cellI 1 U U)) (Au U ?_)))))
   have th71:=H.thA 0 rfl hx68
   refine Ao U U U (fun w ⟨Ar,H⟩=>Bi (p:=Ba A62+0*3) U Ck U U (by omega) (by omega) th71 (by omega)) (Ao U U U (fun w ⟨Ar,H⟩=>Aj U Fk U) (Ao U U U (fun w ⟨Ar,H⟩=>Am U Eg U (H.elA 0 U hx68 (q:=1) U U)) (Au U ?_)))
   have th72:=H.thA 0 rfl hx70
   refine Ao U U U (fun w ⟨Ar,H⟩=>Bi (p:=Ba A62+1*3) U Ck U U (by omega) (by omega) th72 (by omega)) (Ao U U U (fun w ⟨Ar,H⟩=>Aj U Fk U) (Ao U U U (fun w ⟨Ar,H⟩=>Am U Eg U (H.elA 0 U hx70 (q:=1) U U)) (AO U (sc (K6 i.op x67.n x69.n) H l0 U U (Av KJ U U) ?_))))
   rintro _ _ w ⟨rfl,rfl⟩ H
   refine AH ⟨_,H⟩ (AO U (Cg (parts:=[(0,.tmp 92)]) (vs:=[.agg #[.bool ((BR i.op x67.n x69.n).t),.int .i64 ((BR i.op x67.n x69.n).n),.string ((BR i.op x67.n x69.n).b)]]) (cs:=[.bool ((BR i.op x67.n x69.n).t),.int .i64 ((BR i.op x67.n x69.n).n),.string ((BR i.op x67.n x69.n).b)]) U U U Ck DK U (by decide) (by decide) U U H (fun b73 w H=>?_)))
   replace H:=H.h1 (A:=blk b73 [.bool ((BR i.op x67.n x69.n).t),.int .i64 ((BR i.op x67.n x69.n).n),.string ((BR i.op x67.n x69.n).b)] 330)|>.p4|>.p4|>.p4|>.p4
   refine AH ⟨_,H⟩ (AO U ?_)
   replace H:=H.p6.p6
   refine sc (Ey r pv key vv fuel pos steps halted s3 g tv (.map (some mb)) ((AD i.op stk).2.1) (.slice (some ⟨b73,0,none⟩) 1 1) [(BR i.op x67.n x69.n)] (by first |omega|exact Nat.le_trans hN.2.1 hst) (Nat.le_of_ble_eq_true U)) H (lA 4 U (fun F h=>CC h rfl (by decide) (Be.flat_eq.2 U)) l0) U U (Av Eu U U) ?_
   rintro _ _ w ⟨s74,rfl,rfl⟩ H
   replace H:=H.h2 (A:=blk r (Bn pv key vv fuel pos steps halted s74 g tv (.map (some mb))) 334) (B:=Y Bf s74 ((Bu ((AD i.op stk).2.1) [(BR i.op x67.n x69.n)]).2))|>.p5|>.p5|>.p5|>.p5
   refine AH ⟨_,H⟩ (Au U (BO (Z (An (AZ (AA (Ap U U ?_)))))))
   replace H:=H.p3.p3.p5.p5.k4
   have e:BW dg key (⟨pos,halted,stk,g,told,vals⟩:VM) i=((⟨pos,halted,(Bu ((AD i.op stk).2.1) [(BR i.op x67.n x69.n)]).2,g,told,vals⟩:VM),(Bu ((AD i.op stk).2.1) [(BR i.op x67.n x69.n)]).1):=by
     rw [DG (m:=(⟨pos,halted,stk,g,told,vals⟩:VM)) h4,Jj (by omega)]
     rw [DB hx68,DB hx70]<;>rfl
   replace H:Hd _ _ _ [blk r (Bn pv key vv fuel pos steps halted s74 g tv (.map (some mb))) 334,Y Bf s74 ((Bu ((AD i.op stk).2.1) [(BR i.op x67.n x69.n)]).2),Y Ag tv told,B9 mb] [Ac Bt vv vals,gl]:=H
   exact Al ⟨s74,tv,vv,by rw [e]<;>rfl,by rw [e]<;>exact Do.refl _ _ _,by rw [e]<;>rfl⟩ H
  exact absurd h60 h61
 refine Aa (Ae (V U U (Bh U U U) (Ad U (Ab (Z ?_)))))
 refine AC U (fun h75=>?_) (fun h75=>?_)
 ·have hks:(Bq i.op).size=2:=by rw [h75];rfl
  refine Az (Z ?_)
  refine AC U (fun h76=>?_) (fun h76=>?_)
  ·have hks:(Bq i.op).size=2:=by rw [h76];rfl
   refine Aa ?_
   obtain ⟨A77,c78,rfl,hc79,hm80,hp81⟩:=H.fA 2 rfl
   obtain ⟨x82,hx83⟩:∃ z9,((AD i.op stk).2.2)[0]?=some z9:=⟨_,List.getElem?_eq_getElem (show 0<((AD i.op stk).2.2).length by omega)⟩
   have okx82:=hok.1 _ (hN.2.2.1 _ (CA hx83))
   have szx82:=okx82.2
   have inx82:=okx82.1
   obtain ⟨x84,hx85⟩:∃ z9,((AD i.op stk).2.2)[1]?=some z9:=⟨_,List.getElem?_eq_getElem (show 1<((AD i.op stk).2.2).length by omega)⟩
   have okx84:=hok.1 _ (hN.2.2.1 _ (CA hx85))
   have szx84:=okx84.2
   have inx84:=okx84.1
   replace H:=H.p5.p5.p5.p5
   refine Ce (.e 0 (.e 1 (.e 2 (.e 3 (.e 4 (.e 5 (.e 6 (.e 7 (.e 8 (.e 9 (.e 10 (.m 11 (.m 12 (.m 13 (.e 14 .z))))))))))))))) (fun w=>∃ Ar,Hd w0 F0 w (Y Bf (.slice A77 (((AD i.op stk).2.2).length) c78) ((AD i.op stk).2.2)::blk b1 [.int .i64 i.op,.int .i64 i.a,.string i.s] 124::Y Ag tv told::B9 mb::Ar) [Ac Bt vv vals,gl]) mo (by kernel_rfl) (fun w H=>⟨_,H⟩) H (fun w H=>(Au U (Ao U U U (fun w ⟨Ar,H⟩=>Aj U Dw U) (Ao U U U (fun w ⟨Ar,H⟩=>Am U AE U (H.cellI 1 U U)) (Au U ?_)))))
   have th86:=H.thA 0 rfl hx83
   refine Ao U U U (fun w ⟨Ar,H⟩=>Bi (p:=Ba A77+0*3) U Ck U U (by omega) (by omega) th86 (by omega)) (Ao U U U (fun w ⟨Ar,H⟩=>Aj U Fk U) (Ao U U U (fun w ⟨Ar,H⟩=>Am U Eg U (H.elA 0 U hx83 (q:=1) U U)) (Au U ?_)))
   have th87:=H.thA 0 rfl hx85
   refine Ao U U U (fun w ⟨Ar,H⟩=>Bi (p:=Ba A77+1*3) U Ck U U (by omega) (by omega) th87 (by omega)) (Ao U U U (fun w ⟨Ar,H⟩=>Aj U Fk U) (Ao U U U (fun w ⟨Ar,H⟩=>Am U Eg U (H.elA 0 U hx85 (q:=1) U U)) (AO U (sc (K6 i.op x82.n x84.n) H l0 U U (Av KJ U U) ?_))))
   rintro _ _ w ⟨rfl,rfl⟩ H
   refine AH ⟨_,H⟩ (AO U (Cg (parts:=[(0,.tmp 92)]) (vs:=[.agg #[.bool ((BR i.op x82.n x84.n).t),.int .i64 ((BR i.op x82.n x84.n).n),.string ((BR i.op x82.n x84.n).b)]]) (cs:=[.bool ((BR i.op x82.n x84.n).t),.int .i64 ((BR i.op x82.n x84.n).n),.string ((BR i.op x82.n x84.n).b)]) U U U Ck DK U (by decide) (by decide) U U H (fun b88 w H=>?_)))
   replace H:=H.h1 (A:=blk b88 [.bool ((BR i.op x82.n x84.n).t),.int .i64 ((BR i.op x82.n x84.n).n),.string ((BR i.op x82.n x84.n).b)] 330)|>.p4|>.p4|>.p4|>.p4
   refine AH ⟨_,H⟩ (AO U ?_)
   replace H:=H.p6.p6
   refine sc (Ey r pv key vv fuel pos steps halted s3 g tv (.map (some mb)) ((AD i.op stk).2.1) (.slice (some ⟨b88,0,none⟩) 1 1) [(BR i.op x82.n x84.n)] (by first |omega|exact Nat.le_trans hN.2.1 hst) (Nat.le_of_ble_eq_true U)) H (lA 4 U (fun F h=>CC h rfl (by decide) (Be.flat_eq.2 U)) l0) U U (Av Eu U U) ?_
   rintro _ _ w ⟨s89,rfl,rfl⟩ H
   replace H:=H.h2 (A:=blk r (Bn pv key vv fuel pos steps halted s89 g tv (.map (some mb))) 334) (B:=Y Bf s89 ((Bu ((AD i.op stk).2.1) [(BR i.op x82.n x84.n)]).2))|>.p5|>.p5|>.p5|>.p5
   refine AH ⟨_,H⟩ (Au U (BO (Z (An (AZ (AA (Ap U U ?_)))))))
   replace H:=H.p3.p3.p5.p5.k4
   have e:BW dg key (⟨pos,halted,stk,g,told,vals⟩:VM) i=((⟨pos,halted,(Bu ((AD i.op stk).2.1) [(BR i.op x82.n x84.n)]).2,g,told,vals⟩:VM),(Bu ((AD i.op stk).2.1) [(BR i.op x82.n x84.n)]).1):=by
     rw [DG (m:=(⟨pos,halted,stk,g,told,vals⟩:VM)) h4,Jj (by omega)]
     rw [DB hx83,DB hx85]<;>rfl
   replace H:Hd _ _ _ [blk r (Bn pv key vv fuel pos steps halted s89 g tv (.map (some mb))) 334,Y Bf s89 ((Bu ((AD i.op stk).2.1) [(BR i.op x82.n x84.n)]).2),Y Ag tv told,B9 mb] [Ac Bt vv vals,gl]:=H
   exact Al ⟨s89,tv,vv,by rw [e]<;>rfl,by rw [e]<;>exact Do.refl _ _ _,by rw [e]<;>rfl⟩ H
  exact absurd h75 h76
 refine Ae (V U U (Bh U U U) (Ad U (Ab (Z ?_))))
 refine AC U (fun h90=>?_) (fun h90=>?_)
 ·have hks:(Bq i.op).size=2:=by rw [h90];rfl
  refine Aa ?_
  obtain ⟨A91,c92,rfl,hc93,hm94,hp95⟩:=H.fA 2 rfl
  obtain ⟨x96,hx97⟩:∃ z9,((AD i.op stk).2.2)[0]?=some z9:=⟨_,List.getElem?_eq_getElem (show 0<((AD i.op stk).2.2).length by omega)⟩
  have okx96:=hok.1 _ (hN.2.2.1 _ (CA hx97))
  have szx96:=okx96.2
  have inx96:=okx96.1
  obtain ⟨x98,hx99⟩:∃ z9,((AD i.op stk).2.2)[1]?=some z9:=⟨_,List.getElem?_eq_getElem (show 1<((AD i.op stk).2.2).length by omega)⟩
  have okx98:=hok.1 _ (hN.2.2.1 _ (CA hx99))
  have szx98:=okx98.2
  have inx98:=okx98.1
  replace H:=H.p5.p5.p5.p5
  refine Ce (.e 0 (.e 1 (.e 2 (.e 3 (.e 4 (.e 5 (.e 6 (.e 7 (.e 8 (.e 9 (.e 10 (.m 11 (.m 12 (.m 13 (.e 14 .z))))))))))))))) (fun w=>∃ Ar,Hd w0 F0 w (Y Bf (.slice A91 (((AD i.op stk).2.2).length) c92) ((AD i.op stk).2.2)::blk b1 [.int .i64 i.op,.int .i64 i.a,.string i.s] 124::Y Ag tv told::B9 mb::Ar) [Ac Bt vv vals,gl]) mo (by kernel_rfl) (fun w H=>⟨_,H⟩) H (fun w H=>(Au U (Ao U U U (fun w ⟨Ar,H⟩=>Aj U Dw U) (Ao U U U (fun w ⟨Ar,H⟩=>Am U AE U (H.cellI 1 U U)) (Au U ?_)))))
  have th100:=H.thA 0 rfl hx97
  refine Ao U U U (fun w ⟨Ar,H⟩=>Bi (p:=Ba A91+0*3) U Ck U U (by omega) (by omega) th100 (by omega)) (Ao U U U (fun w ⟨Ar,H⟩=>Aj U Fk U) (Ao U U U (fun w ⟨Ar,H⟩=>Am U Eg U (H.elA 0 U hx97 (q:=1) U U)) (Au U ?_)))
  have th101:=H.thA 0 rfl hx99
  refine Ao U U U (fun w ⟨Ar,H⟩=>Bi (p:=Ba A91+1*3) U Ck U U (by omega) (by omega) th101 (by omega)) (Ao U U U (fun w ⟨Ar,H⟩=>Aj U Fk U) (Ao U U U (fun w ⟨Ar,H⟩=>Am U Eg U (H.elA 0 U hx99 (q:=1) U U)) (AO U (sc (K6 i.op x96.n x98.n) H l0 U U (Av KJ U U) ?_))))
  rintro _ _ w ⟨rfl,rfl⟩ H
  refine AH ⟨_,H⟩ (AO U (Cg (parts:=[(0,.tmp 92)]) (vs:=[.agg #[.bool ((BR i.op x96.n x98.n).t),.int .i64 ((BR i.op x96.n x98.n).n),.string ((BR i.op x96.n x98.n).b)]]) (cs:=[.bool ((BR i.op x96.n x98.n).t),.int .i64 ((BR i.op x96.n x98.n).n),.string ((BR i.op x96.n x98.n).b)]) U U U Ck DK U (by decide) (by decide) U U H (fun b102 w H=>?_)))
  replace H:=H.h1 (A:=blk b102 [.bool ((BR i.op x96.n x98.n).t),.int .i64 ((BR i.op x96.n x98.n).n),.string ((BR i.op x96.n x98.n).b)] 330)|>.p4|>.p4|>.p4|>.p4
  refine AH ⟨_,H⟩ (AO U ?_)
  replace H:=H.p6.p6
  refine sc (Ey r pv key vv fuel pos steps halted s3 g tv (.map (some mb)) ((AD i.op stk).2.1) (.slice (some ⟨b102,0,none⟩) 1 1) [(BR i.op x96.n x98.n)] (by first |omega|exact Nat.le_trans hN.2.1 hst) (Nat.le_of_ble_eq_true U)) H (lA 4 U (fun F h=>CC h rfl (by decide) (Be.flat_eq.2 U)) l0) U U (Av Eu U U) ?_
  rintro _ _ w ⟨s103,rfl,rfl⟩ H
  replace H:=H.h2 (A:=blk r (Bn pv key vv fuel pos steps halted s103 g tv (.map (some mb))) 334) (B:=Y Bf s103 ((Bu ((AD i.op stk).2.1) [(BR i.op x96.n x98.n)]).2))|>.p5|>.p5|>.p5|>.p5
  refine AH ⟨_,H⟩ (Au U (BO (Z (An (AZ (AA (Ap U U ?_)))))))
  replace H:=H.p3.p3.p5.p5.k4
  have e:BW dg key (⟨pos,halted,stk,g,told,vals⟩:VM) i=((⟨pos,halted,(Bu ((AD i.op stk).2.1) [(BR i.op x96.n x98.n)]).2,g,told,vals⟩:VM),(Bu ((AD i.op stk).2.1) [(BR i.op x96.n x98.n)]).1):=by
    rw [DG (m:=(⟨pos,halted,stk,g,told,vals⟩:VM)) h4,Jj (by omega)]
    rw [DB hx97,DB hx99]<;>rfl
  replace H:Hd _ _ _ [blk r (Bn pv key vv fuel pos steps halted s103 g tv (.map (some mb))) 334,Y Bf s103 ((Bu ((AD i.op stk).2.1) [(BR i.op x96.n x98.n)]).2),Y Ag tv told,B9 mb] [Ac Bt vv vals,gl]:=H
  exact Al ⟨s103,tv,vv,by rw [e]<;>rfl,by rw [e]<;>exact Do.refl _ _ _,by rw [e]<;>rfl⟩ H
 refine Aa (Ae (V U U (Bh U U U) (Ad U (Ab (Z ?_)))))
 refine AC U (fun h104=>?_) (fun h104=>?_)
 ·have hks:(Bq i.op).size=2:=by rw [h104];rfl
  refine Aa ?_
  obtain ⟨A105,c106,rfl,hc107,hm108,hp109⟩:=H.fA 2 rfl
  obtain ⟨x110,hx111⟩:∃ z9,((AD i.op stk).2.2)[0]?=some z9:=⟨_,List.getElem?_eq_getElem (show 0<((AD i.op stk).2.2).length by omega)⟩
  have okx110:=hok.1 _ (hN.2.2.1 _ (CA hx111))
  have szx110:=okx110.2
  have inx110:=okx110.1
  obtain ⟨x112,hx113⟩:∃ z9,((AD i.op stk).2.2)[1]?=some z9:=⟨_,List.getElem?_eq_getElem (show 1<((AD i.op stk).2.2).length by omega)⟩
  have okx112:=hok.1 _ (hN.2.2.1 _ (CA hx113))
  have szx112:=okx112.2
  have inx112:=okx112.1
  replace H:=H.p5.p5.p5.p5
  refine Ce (.e 0 (.e 1 (.e 2 (.e 3 (.e 4 (.e 5 (.e 6 (.m 7 (.m 8 (.m 9 (.m 10 (.e 11 .z)))))))))))) (fun w=>∃ Ar,Hd w0 F0 w (Y Bf (.slice A105 (((AD i.op stk).2.2).length) c106) ((AD i.op stk).2.2)::blk b1 [.int .i64 i.op,.int .i64 i.a,.string i.s] 124::Y Ag tv told::B9 mb::Ar) [Ac Bt vv vals,gl]) mo (by kernel_rfl) (fun w H=>⟨_,H⟩) H (fun w H=>(Au U (Au U ?_)))
  have th114:=H.thA 0 rfl hx111
  refine Ao U U U (fun w ⟨Ar,H⟩=>Bi (p:=Ba A105+0*3) U Ck U U (by omega) (by omega) th114 (by omega)) (Ao U U U (fun w ⟨Ar,H⟩=>BG (cs:=[.bool x110.t,.int .i64 x110.n,.string x110.b]) U Dz U U (H.elsA 0 U hx111 U)) (Au U ?_))
  have th115:=H.thA 0 rfl hx113
  refine Ao U U U (fun w ⟨Ar,H⟩=>Bi (p:=Ba A105+1*3) U Ck U U (by omega) (by omega) th115 (by omega)) (Ao U U U (fun w ⟨Ar,H⟩=>BG (cs:=[.bool x112.t,.int .i64 x112.n,.string x112.b]) U Dz U U (H.elsA 0 U hx113 U)) (AO U (sc (fB x110 x112) H l0 U U (Av XB U U) ?_)))
  rintro _ _ w ⟨rfl,rfl⟩ H
  refine AH ⟨_,H⟩ (AO U (sc (RH (E6 x110 x112)) H l0 U U (Av QD U U) ?_))
  rintro _ _ w ⟨rfl,rfl⟩ H
  refine AH ⟨_,H⟩ (AO U (Cg (parts:=[(0,.tmp 105)]) (vs:=[.agg #[.bool false,.int .i64 (if (E6 x110 x112)=true then 1 else 0),.string ⟨#[]⟩]]) (cs:=[.bool false,.int .i64 (if (E6 x110 x112)=true then 1 else 0),.string ⟨#[]⟩]) U U U Ck DK U (by decide) (by decide) U U H (fun b116 w H=>?_)))
  replace H:=H.h1 (A:=blk b116 [.bool false,.int .i64 (if (E6 x110 x112)=true then 1 else 0),.string ⟨#[]⟩] 330)|>.p4|>.p4|>.p4|>.p4
  refine AH ⟨_,H⟩ (AO U ?_)
  replace H:=H.p6.p6
  refine sc (Ey r pv key vv fuel pos steps halted s3 g tv (.map (some mb)) ((AD i.op stk).2.1) (.slice (some ⟨b116,0,none⟩) 1 1) [(⟨false,if (E6 x110 x112)=true then 1 else 0,⟨#[]⟩⟩:A9)] (by first |omega|exact Nat.le_trans hN.2.1 hst) (Nat.le_of_ble_eq_true U)) H (lA 4 U (fun F h=>CC h rfl (by decide) (Be.flat_eq.2 U)) l0) U U (Av Eu U U) ?_
  rintro _ _ w ⟨s117,rfl,rfl⟩ H
  replace H:=H.h2 (A:=blk r (Bn pv key vv fuel pos steps halted s117 g tv (.map (some mb))) 334) (B:=Y Bf s117 ((Bu ((AD i.op stk).2.1) [(⟨false,if (E6 x110 x112)=true then 1 else 0,⟨#[]⟩⟩:A9)]).2))|>.p5|>.p5|>.p5|>.p5
  refine AH ⟨_,H⟩ (Au U (BO (Z (An (AZ (AA (Ap U U ?_)))))))
  replace H:=H.p3.p3.p5.p5.k4
  have e:BW dg key (⟨pos,halted,stk,g,told,vals⟩:VM) i=((⟨pos,halted,(Bu ((AD i.op stk).2.1) [(⟨false,if (E6 x110 x112)=true then 1 else 0,⟨#[]⟩⟩:A9)]).2,g,told,vals⟩:VM),(Bu ((AD i.op stk).2.1) [(⟨false,if (E6 x110 x112)=true then 1 else 0,⟨#[]⟩⟩:A9)]).1):=by
    rw [DG (m:=(⟨pos,halted,stk,g,told,vals⟩:VM)) h4,Od h104]
    rw [DB hx111,DB hx113]<;>rfl
  replace H:Hd _ _ _ [blk r (Bn pv key vv fuel pos steps halted s117 g tv (.map (some mb))) 334,Y Bf s117 ((Bu ((AD i.op stk).2.1) [(⟨false,if (E6 x110 x112)=true then 1 else 0,⟨#[]⟩⟩:A9)]).2),Y Ag tv told,B9 mb] [Ac Bt vv vals,gl]:=H
  exact Al ⟨s117,tv,vv,by rw [e]<;>rfl,by rw [e]<;>exact Do.refl _ _ _,by rw [e]<;>rfl⟩ H
 refine Aa (Ae (V U U (Bh U U U) (Ad U (Ab (Z ?_)))))
 refine AC U (fun h118=>?_) (fun h118=>?_)
 ·have hks:(Bq i.op).size=2:=by rw [h118];rfl
  refine Aa ?_
  obtain ⟨A119,c120,rfl,hc121,hm122,hp123⟩:=H.fA 2 rfl
  obtain ⟨x124,hx125⟩:∃ z9,((AD i.op stk).2.2)[0]?=some z9:=⟨_,List.getElem?_eq_getElem (show 0<((AD i.op stk).2.2).length by omega)⟩
  have okx124:=hok.1 _ (hN.2.2.1 _ (CA hx125))
  have szx124:=okx124.2
  have inx124:=okx124.1
  obtain ⟨x126,hx127⟩:∃ z9,((AD i.op stk).2.2)[1]?=some z9:=⟨_,List.getElem?_eq_getElem (show 1<((AD i.op stk).2.2).length by omega)⟩
  have okx126:=hok.1 _ (hN.2.2.1 _ (CA hx127))
  have szx126:=okx126.2
  have inx126:=okx126.1
  replace H:=H.p5.p5.p5.p5
  refine Ce (.e 0 (.e 1 (.e 2 (.e 3 (.e 4 (.e 5 (.e 6 (.e 7 (.e 8 (.e 9 (.m 10 (.m 11 (.m 12 (.e 13 .z)))))))))))))) (fun w=>∃ Ar,Hd w0 F0 w (Y Bf (.slice A119 (((AD i.op stk).2.2).length) c120) ((AD i.op stk).2.2)::blk b1 [.int .i64 i.op,.int .i64 i.a,.string i.s] 124::Y Ag tv told::B9 mb::Ar) [Ac Bt vv vals,gl]) mo (by kernel_rfl) (fun w H=>⟨_,H⟩) H (fun w H=>(Au U (Au U ?_)))
  have th128:=H.thA 0 rfl hx125
  refine Ao U U U (fun w ⟨Ar,H⟩=>Bi (p:=Ba A119+0*3) U Ck U U (by omega) (by omega) th128 (by omega)) (Ao U U U (fun w ⟨Ar,H⟩=>Aj U Gp U) (Ao U U U (fun w ⟨Ar,H⟩=>Am U Cl U (H.elA 0 U hx125 (q:=2) U U)) (Au U ?_)))
  have th129:=H.thA 0 rfl hx127
  refine Ao U U U (fun w ⟨Ar,H⟩=>Bi (p:=Ba A119+1*3) U Ck U U (by omega) (by omega) th129 (by omega)) (Ao U U U (fun w ⟨Ar,H⟩=>Aj U Gp U) (Ao U U U (fun w ⟨Ar,H⟩=>Am U Cl U (H.elA 0 U hx127 (q:=2) U U)) (Ao U U U (fun w ⟨Ar,H⟩=>ZV U U U (by omega)) (AO U (sc (Jd (x124.b++x126.b)) H l0 U U (Av IP U U) ?_)))))
  rintro _ _ w ⟨rfl,rfl⟩ H
  refine AH ⟨_,H⟩ (AO U (Cg (parts:=[(0,.tmp 120)]) (vs:=[.agg #[.bool true,.int .i64 0,.string (x124.b++x126.b)]]) (cs:=[.bool true,.int .i64 0,.string (x124.b++x126.b)]) U U U Ck DK U (by decide) (by decide) U U H (fun b130 w H=>?_)))
  replace H:=H.h1 (A:=blk b130 [.bool true,.int .i64 0,.string (x124.b++x126.b)] 330)|>.p4|>.p4|>.p4|>.p4
  refine AH ⟨_,H⟩ (AO U ?_)
  replace H:=H.p6.p6
  refine sc (Ey r pv key vv fuel pos steps halted s3 g tv (.map (some mb)) ((AD i.op stk).2.1) (.slice (some ⟨b130,0,none⟩) 1 1) [(⟨true,0,(x124.b++x126.b)⟩:A9)] (by first |omega|exact Nat.le_trans hN.2.1 hst) (Nat.le_of_ble_eq_true U)) H (lA 4 U (fun F h=>CC h rfl (by decide) (Be.flat_eq.2 U)) l0) U U (Av Eu U U) ?_
  rintro _ _ w ⟨s131,rfl,rfl⟩ H
  replace H:=H.h2 (A:=blk r (Bn pv key vv fuel pos steps halted s131 g tv (.map (some mb))) 334) (B:=Y Bf s131 ((Bu ((AD i.op stk).2.1) [(⟨true,0,(x124.b++x126.b)⟩:A9)]).2))|>.p5|>.p5|>.p5|>.p5
  refine AH ⟨_,H⟩ (Au U (BO (Z (An (AZ (AA (Ap U U ?_)))))))
  replace H:=H.p3.p3.p5.p5.k4
  have e:BW dg key (⟨pos,halted,stk,g,told,vals⟩:VM) i=((⟨pos,halted,(Bu ((AD i.op stk).2.1) [(⟨true,0,(x124.b++x126.b)⟩:A9)]).2,g,told,vals⟩:VM),(Bu ((AD i.op stk).2.1) [(⟨true,0,(x124.b++x126.b)⟩:A9)]).1):=by
    rw [DG (m:=(⟨pos,halted,stk,g,told,vals⟩:VM)) h4,Oe h118]
    rw [DB hx125,DB hx127]<;>rfl
  replace H:Hd _ _ _ [blk r (Bn pv key vv fuel pos steps halted s131 g tv (.map (some mb))) 334,Y Bf s131 ((Bu ((AD i.op stk).2.1) [(⟨true,0,(x124.b++x126.b)⟩:A9)]).2),Y Ag tv told,B9 mb] [Ac Bt vv vals,gl]:=H
  exact Al ⟨s131,tv,vv,by rw [e]<;>rfl,by rw [e]<;>exact Do.refl _ _ _,by rw [e]<;>rfl⟩ H
 refine Aa (Ae (V U U (Bh U U U) (Ad U (Ab (Z ?_)))))
 refine AC U (fun h132=>?_) (fun h132=>?_)
 ·have hks:(Bq i.op).size=1:=by rw [h132];rfl
  refine Aa ?_
  obtain ⟨A133,c134,rfl,hc135,hm136,hp137⟩:=H.fA 2 rfl
  obtain ⟨x138,hx139⟩:∃ z9,((AD i.op stk).2.2)[0]?=some z9:=⟨_,List.getElem?_eq_getElem (show 0<((AD i.op stk).2.2).length by omega)⟩
  have okx138:=hok.1 _ (hN.2.2.1 _ (CA hx139))
  have szx138:=okx138.2
  have inx138:=okx138.1
  refine Ae (Ah 2 U ?_)
  have th140:=H.thA 2 rfl hx139
  refine V U U (Bi (p:=Ba A133+0*3) U Ck U U (by omega) (by omega) th140 (by omega)) (V U U (Aj U Gp U) (V U U (Am U Cl U (H.elA 2 U hx139 (q:=2) U U)) (V U U (DN U CK U) (sc (GD ((x138.b.size:Nat):Int)) H l0 U U (Av Gt U U) ?_))))
  rintro _ _ w ⟨rfl,rfl⟩ H
  refine Cg (parts:=[(0,.tmp 131)]) (vs:=[.agg #[.bool false,.int .i64 ((x138.b.size:Nat):Int),.string ⟨#[]⟩]]) (cs:=[.bool false,.int .i64 ((x138.b.size:Nat):Int),.string ⟨#[]⟩]) U U U Ck DK U (by decide) (by decide) U U H (fun b141 w H=>?_)
  replace H:=H.p2.p2
  replace H:Hd _ _ _ [blk r (Bn pv key vv fuel pos steps halted s3 g tv (.map (some mb))) 334,Y Bf s3 ((AD i.op stk).2.1),blk b141 [.bool false,.int .i64 ((x138.b.size:Nat):Int),.string ⟨#[]⟩] 330,Y Bf (.slice A133 (((AD i.op stk).2.2).length) c134) ((AD i.op stk).2.2),blk b1 [.int .i64 i.op,.int .i64 i.a,.string i.s] 124,Y Ag tv told,B9 mb] [Ac Bt vv vals,gl]:=H
  refine sc (Ey r pv key vv fuel pos steps halted s3 g tv (.map (some mb)) ((AD i.op stk).2.1) (.slice (some ⟨b141,0,none⟩) 1 1) [(⟨false,((x138.b.size:Nat):Int),⟨#[]⟩⟩:A9)] (by first |omega|exact Nat.le_trans hN.2.1 hst) (Nat.le_of_ble_eq_true U)) H (lA 0 U (fun F h=>CC h rfl (by decide) (Be.flat_eq.2 U)) l0) U U (Av Eu U U) ?_
  rintro _ _ w ⟨s142,rfl,rfl⟩ H
  replace H:=H.h2 (A:=blk r (Bn pv key vv fuel pos steps halted s142 g tv (.map (some mb))) 334) (B:=Y Bf s142 ((Bu ((AD i.op stk).2.1) [(⟨false,((x138.b.size:Nat):Int),⟨#[]⟩⟩:A9)]).2))
  refine Ad U (Ab (Z (An (AZ (AA (Ap U U ?_))))))
  replace H:=H.p6.p6.p3.p3.k4
  have e:BW dg key (⟨pos,halted,stk,g,told,vals⟩:VM) i=((⟨pos,halted,(Bu ((AD i.op stk).2.1) [(⟨false,((x138.b.size:Nat):Int),⟨#[]⟩⟩:A9)]).2,g,told,vals⟩:VM),(Bu ((AD i.op stk).2.1) [(⟨false,((x138.b.size:Nat):Int),⟨#[]⟩⟩:A9)]).1):=by
    rw [DG (m:=(⟨pos,halted,stk,g,told,vals⟩:VM)) h4,Of h132]
    rw [DB hx139]<;>rfl
  replace H:Hd _ _ _ [blk r (Bn pv key vv fuel pos steps halted s142 g tv (.map (some mb))) 334,Y Bf s142 ((Bu ((AD i.op stk).2.1) [(⟨false,((x138.b.size:Nat):Int),⟨#[]⟩⟩:A9)]).2),Y Ag tv told,B9 mb] [Ac Bt vv vals,gl]:=H
  exact Al ⟨s142,tv,vv,by rw [e]<;>rfl,by rw [e]<;>exact Do.refl _ _ _,by rw [e]<;>rfl⟩ H
 refine Aa (Ae (V U U (Bh U U U) (Ad U (Ab (Z ?_)))))
 refine AC U (fun h143=>?_) (fun h143=>?_)
 ·have hks:(Bq i.op).size=2:=by rw [h143];rfl
  refine Aa ?_
  obtain ⟨A144,c145,rfl,hc146,hm147,hp148⟩:=H.fA 2 rfl
  obtain ⟨x149,hx150⟩:∃ z9,((AD i.op stk).2.2)[0]?=some z9:=⟨_,List.getElem?_eq_getElem (show 0<((AD i.op stk).2.2).length by omega)⟩
  have okx149:=hok.1 _ (hN.2.2.1 _ (CA hx150))
  have szx149:=okx149.2
  have inx149:=okx149.1
  obtain ⟨x151,hx152⟩:∃ z9,((AD i.op stk).2.2)[1]?=some z9:=⟨_,List.getElem?_eq_getElem (show 1<((AD i.op stk).2.2).length by omega)⟩
  have okx151:=hok.1 _ (hN.2.2.1 _ (CA hx152))
  have szx151:=okx151.2
  have inx151:=okx151.1
  replace H:=H.p5.p5.p5.p5
  refine Ce (.e 0 (.e 1 (.e 2 (.e 3 (.e 4 (.e 5 (.e 6 (.e 7 (.e 8 (.m 9 (.m 10 (.m 11 (.m 12 (.e 13 .z)))))))))))))) (fun w=>∃ Ar,Hd w0 F0 w (Y Bf (.slice A144 (((AD i.op stk).2.2).length) c145) ((AD i.op stk).2.2)::blk b1 [.int .i64 i.op,.int .i64 i.a,.string i.s] 124::Y Ag tv told::B9 mb::Ar) [Ac Bt vv vals,gl]) mo (by kernel_rfl) (fun w H=>⟨_,H⟩) H (fun w H=>(Au U (Au U ?_)))
  have th153:=H.thA 0 rfl hx150
  refine Ao U U U (fun w ⟨Ar,H⟩=>Bi (p:=Ba A144+0*3) U Ck U U (by omega) (by omega) th153 (by omega)) (Ao U U U (fun w ⟨Ar,H⟩=>Aj U Gp U) (Ao U U U (fun w ⟨Ar,H⟩=>Am U Cl U (H.elA 0 U hx150 (q:=2) U U)) (Au U ?_)))
  have th154:=H.thA 0 rfl hx152
  refine Ao U U U (fun w ⟨Ar,H⟩=>Bi (p:=Ba A144+1*3) U Ck U U (by omega) (by omega) th154 (by omega)) (Ao U U U (fun w ⟨Ar,H⟩=>Aj U Fk U) (Ao U U U (fun w ⟨Ar,H⟩=>Am U Eg U (H.elA 0 U hx152 (q:=1) U U)) (AO U (sc (e7 x149.b x151.n) H l0 U U (Av XC U U) ?_))))
  rintro _ _ w ⟨rfl,rfl⟩ H
  refine AH ⟨_,H⟩ (AO U (sc (GD (Fe x149.b x151.n)) H l0 U U (Av Gt U U) ?_))
  rintro _ _ w ⟨rfl,rfl⟩ H
  refine AH ⟨_,H⟩ (AO U (Cg (parts:=[(0,.tmp 146)]) (vs:=[.agg #[.bool false,.int .i64 (Fe x149.b x151.n),.string ⟨#[]⟩]]) (cs:=[.bool false,.int .i64 (Fe x149.b x151.n),.string ⟨#[]⟩]) U U U Ck DK U (by decide) (by decide) U U H (fun b155 w H=>?_)))
  replace H:=H.h1 (A:=blk b155 [.bool false,.int .i64 (Fe x149.b x151.n),.string ⟨#[]⟩] 330)|>.p4|>.p4|>.p4|>.p4
  refine AH ⟨_,H⟩ (AO U ?_)
  replace H:=H.p6.p6
  refine sc (Ey r pv key vv fuel pos steps halted s3 g tv (.map (some mb)) ((AD i.op stk).2.1) (.slice (some ⟨b155,0,none⟩) 1 1) [(⟨false,Fe x149.b x151.n,⟨#[]⟩⟩:A9)] (by first |omega|exact Nat.le_trans hN.2.1 hst) (Nat.le_of_ble_eq_true U)) H (lA 4 U (fun F h=>CC h rfl (by decide) (Be.flat_eq.2 U)) l0) U U (Av Eu U U) ?_
  rintro _ _ w ⟨s156,rfl,rfl⟩ H
  replace H:=H.h2 (A:=blk r (Bn pv key vv fuel pos steps halted s156 g tv (.map (some mb))) 334) (B:=Y Bf s156 ((Bu ((AD i.op stk).2.1) [(⟨false,Fe x149.b x151.n,⟨#[]⟩⟩:A9)]).2))|>.p5|>.p5|>.p5|>.p5
  refine AH ⟨_,H⟩ (Au U (BO (Z (An (AZ (AA (Ap U U ?_)))))))
  replace H:=H.p3.p3.p5.p5.k4
  have e:BW dg key (⟨pos,halted,stk,g,told,vals⟩:VM) i=((⟨pos,halted,(Bu ((AD i.op stk).2.1) [(⟨false,Fe x149.b x151.n,⟨#[]⟩⟩:A9)]).2,g,told,vals⟩:VM),(Bu ((AD i.op stk).2.1) [(⟨false,Fe x149.b x151.n,⟨#[]⟩⟩:A9)]).1):=by
    rw [DG (m:=(⟨pos,halted,stk,g,told,vals⟩:VM)) h4,Og h143]
    rw [DB hx150,DB hx152]<;>rfl
  replace H:Hd _ _ _ [blk r (Bn pv key vv fuel pos steps halted s156 g tv (.map (some mb))) 334,Y Bf s156 ((Bu ((AD i.op stk).2.1) [(⟨false,Fe x149.b x151.n,⟨#[]⟩⟩:A9)]).2),Y Ag tv told,B9 mb] [Ac Bt vv vals,gl]:=H
  exact Al ⟨s156,tv,vv,by rw [e]<;>rfl,by rw [e]<;>exact Do.refl _ _ _,by rw [e]<;>rfl⟩ H
 refine Aa (Ae (V U U (Bh U U U) (Ad U (Ab (Z ?_)))))
 refine AC U (fun h157=>?_) (fun h157=>?_)
 ·have hks:(Bq i.op).size=3:=by rw [h157];rfl
  refine Aa ?_
  obtain ⟨A158,c159,rfl,hc160,hm161,hp162⟩:=H.fA 2 rfl
  obtain ⟨x163,hx164⟩:∃ z9,((AD i.op stk).2.2)[0]?=some z9:=⟨_,List.getElem?_eq_getElem (show 0<((AD i.op stk).2.2).length by omega)⟩
  have okx163:=hok.1 _ (hN.2.2.1 _ (CA hx164))
  have szx163:=okx163.2
  have inx163:=okx163.1
  obtain ⟨x165,hx166⟩:∃ z9,((AD i.op stk).2.2)[1]?=some z9:=⟨_,List.getElem?_eq_getElem (show 1<((AD i.op stk).2.2).length by omega)⟩
  have okx165:=hok.1 _ (hN.2.2.1 _ (CA hx166))
  have szx165:=okx165.2
  have inx165:=okx165.1
  obtain ⟨x167,hx168⟩:∃ z9,((AD i.op stk).2.2)[2]?=some z9:=⟨_,List.getElem?_eq_getElem (show 2<((AD i.op stk).2.2).length by omega)⟩
  have okx167:=hok.1 _ (hN.2.2.1 _ (CA hx168))
  have szx167:=okx167.2
  have inx167:=okx167.1
  replace H:=H.p5.p5.p5.p5
  refine Ce (.e 0 (.e 1 (.e 2 (.e 3 (.e 4 (.e 5 (.e 6 (.e 7 (.e 8 (.e 9 (.e 10 (.e 11 (.e 12 (.m 13 (.m 14 (.m 15 (.m 16 (.e 17 .z)))))))))))))))))) (fun w=>∃ Ar,Hd w0 F0 w (Y Bf (.slice A158 (((AD i.op stk).2.2).length) c159) ((AD i.op stk).2.2)::blk b1 [.int .i64 i.op,.int .i64 i.a,.string i.s] 124::Y Ag tv told::B9 mb::Ar) [Ac Bt vv vals,gl]) mo (by kernel_rfl) (fun w H=>⟨_,H⟩) H (fun w H=>(Au U (Au U ?_)))
  have th169:=H.thA 0 rfl hx164
  refine Ao U U U (fun w ⟨Ar,H⟩=>Bi (p:=Ba A158+0*3) U Ck U U (by omega) (by omega) th169 (by omega)) (Ao U U U (fun w ⟨Ar,H⟩=>Aj U Gp U) (Ao U U U (fun w ⟨Ar,H⟩=>Am U Cl U (H.elA 0 U hx164 (q:=2) U U)) (Au U ?_)))
  have th170:=H.thA 0 rfl hx166
  refine Ao U U U (fun w ⟨Ar,H⟩=>Bi (p:=Ba A158+1*3) U Ck U U (by omega) (by omega) th170 (by omega)) (Ao U U U (fun w ⟨Ar,H⟩=>Aj U Fk U) (Ao U U U (fun w ⟨Ar,H⟩=>Am U Eg U (H.elA 0 U hx166 (q:=1) U U)) (Au U ?_)))
  have th171:=H.thA 0 rfl hx168
  refine Ao U U U (fun w ⟨Ar,H⟩=>Bi (p:=Ba A158+2*3) U Ck U U (by omega) (by omega) th171 (by omega)) (Ao U U U (fun w ⟨Ar,H⟩=>Aj U Fk U) (Ao U U U (fun w ⟨Ar,H⟩=>Am U Eg U (H.elA 0 U hx168 (q:=1) U U)) (AO U (sc (e_ x163.b x165.n x167.n) H l0 U U (Av XD U U) ?_))))
  rintro _ _ w ⟨rfl,rfl⟩ H
  refine AH ⟨_,H⟩ (AO U (sc (Jd (F5 x163.b x165.n x167.n)) H l0 U U (Av IP U U) ?_))
  rintro _ _ w ⟨rfl,rfl⟩ H
  refine AH ⟨_,H⟩ (AO U (Cg (parts:=[(0,.tmp 165)]) (vs:=[.agg #[.bool true,.int .i64 0,.string (F5 x163.b x165.n x167.n)]]) (cs:=[.bool true,.int .i64 0,.string (F5 x163.b x165.n x167.n)]) U U U Ck DK U (by decide) (by decide) U U H (fun b172 w H=>?_)))
  replace H:=H.h1 (A:=blk b172 [.bool true,.int .i64 0,.string (F5 x163.b x165.n x167.n)] 330)|>.p4|>.p4|>.p4|>.p4
  refine AH ⟨_,H⟩ (AO U ?_)
  replace H:=H.p6.p6
  refine sc (Ey r pv key vv fuel pos steps halted s3 g tv (.map (some mb)) ((AD i.op stk).2.1) (.slice (some ⟨b172,0,none⟩) 1 1) [(⟨true,0,(F5 x163.b x165.n x167.n)⟩:A9)] (by first |omega|exact Nat.le_trans hN.2.1 hst) (Nat.le_of_ble_eq_true U)) H (lA 4 U (fun F h=>CC h rfl (by decide) (Be.flat_eq.2 U)) l0) U U (Av Eu U U) ?_
  rintro _ _ w ⟨s173,rfl,rfl⟩ H
  replace H:=H.h2 (A:=blk r (Bn pv key vv fuel pos steps halted s173 g tv (.map (some mb))) 334) (B:=Y Bf s173 ((Bu ((AD i.op stk).2.1) [(⟨true,0,(F5 x163.b x165.n x167.n)⟩:A9)]).2))|>.p5|>.p5|>.p5|>.p5
  refine AH ⟨_,H⟩ (Au U (BO (Z (An (AZ (AA (Ap U U ?_)))))))
  replace H:=H.p3.p3.p5.p5.k4
  have e:BW dg key (⟨pos,halted,stk,g,told,vals⟩:VM) i=((⟨pos,halted,(Bu ((AD i.op stk).2.1) [(⟨true,0,(F5 x163.b x165.n x167.n)⟩:A9)]).2,g,told,vals⟩:VM),(Bu ((AD i.op stk).2.1) [(⟨true,0,(F5 x163.b x165.n x167.n)⟩:A9)]).1):=by
    rw [DG (m:=(⟨pos,halted,stk,g,told,vals⟩:VM)) h4,Oh h157]
    rw [DB hx164,DB hx166,DB hx168]<;>rfl
  replace H:Hd _ _ _ [blk r (Bn pv key vv fuel pos steps halted s173 g tv (.map (some mb))) 334,Y Bf s173 ((Bu ((AD i.op stk).2.1) [(⟨true,0,(F5 x163.b x165.n x167.n)⟩:A9)]).2),Y Ag tv told,B9 mb] [Ac Bt vv vals,gl]:=H
  exact Al ⟨s173,tv,vv,by rw [e]<;>rfl,by rw [e]<;>exact Do.refl _ _ _,by rw [e]<;>rfl⟩ H
 refine Aa (Ae (V U U (Bh U U U) (Ad U (Ab (Z ?_)))))
 refine AC U (fun h174=>?_) (fun h174=>?_)
 ·have hks:(Bq i.op).size=1:=by rw [h174];rfl
  refine Aa ?_
  obtain ⟨A175,c176,rfl,hc177,hm178,hp179⟩:=H.fA 2 rfl
  obtain ⟨x180,hx181⟩:∃ z9,((AD i.op stk).2.2)[0]?=some z9:=⟨_,List.getElem?_eq_getElem (show 0<((AD i.op stk).2.2).length by omega)⟩
  have okx180:=hok.1 _ (hN.2.2.1 _ (CA hx181))
  have szx180:=okx180.2
  have inx180:=okx180.1
  refine Ae (Ah 3 U ?_)
  have th182:=H.thA 2 rfl hx181
  refine V U U (Bi (p:=Ba A175+0*3) U Ck U U (by omega) (by omega) th182 (by omega)) (V U U (Aj U Fk U) (V U U (Am U Eg U (H.elA 2 U hx181 (q:=1) U U)) ?_))
  replace H:=H.p5
  refine sc (eB r pv key vv fuel pos steps halted s3 g tv mb x180.n (by assumption)) H (lA 0 U (fun _ h=>h) (lR 1 U l0)) U U (Av XE U U) ?_
  rintro _ _ w ⟨rfl,rfl⟩ H
  refine sc (Jd (dg.dig x180.n)) H l0 U U (Av IP U U) ?_
  rintro _ _ w ⟨rfl,rfl⟩ H
  refine Cg (parts:=[(0,.tmp 177)]) (vs:=[.agg #[.bool true,.int .i64 0,.string (dg.dig x180.n)]]) (cs:=[.bool true,.int .i64 0,.string (dg.dig x180.n)]) U U U Ck DK U (by decide) (by decide) U U H (fun b183 w H=>?_)
  replace H:=H.h1 (A:=blk b183 [.bool true,.int .i64 0,.string (dg.dig x180.n)] 330)|>.p3|>.p3
  refine sc (Ey r pv key vv fuel pos steps halted s3 g tv (.map (some mb)) ((AD i.op stk).2.1) (.slice (some ⟨b183,0,none⟩) 1 1) [(⟨true,0,(dg.dig x180.n)⟩:A9)] (by first |omega|exact Nat.le_trans hN.2.1 hst) (Nat.le_of_ble_eq_true U)) H (lA 0 U (fun F h=>CC h rfl (by decide) (Be.flat_eq.2 U)) l0) U U (Av Eu U U) ?_
  rintro _ _ w ⟨s184,rfl,rfl⟩ H
  replace H:=H.h2 (A:=blk r (Bn pv key vv fuel pos steps halted s184 g tv (.map (some mb))) 334) (B:=Y Bf s184 ((Bu ((AD i.op stk).2.1) [(⟨true,0,(dg.dig x180.n)⟩:A9)]).2))
  refine Ad U (Ab (Z (An (AZ (AA (Ap U U ?_))))))
  replace H:=H.p3.p6.p3.p3.k4
  have e:BW dg key (⟨pos,halted,stk,g,told,vals⟩:VM) i=((⟨pos,halted,(Bu ((AD i.op stk).2.1) [(⟨true,0,(dg.dig x180.n)⟩:A9)]).2,g,told,vals⟩:VM),(Bu ((AD i.op stk).2.1) [(⟨true,0,(dg.dig x180.n)⟩:A9)]).1):=by
    rw [DG (m:=(⟨pos,halted,stk,g,told,vals⟩:VM)) h4,Oi h174]
    rw [DB hx181]<;>rfl
  replace H:Hd _ _ _ [blk r (Bn pv key vv fuel pos steps halted s184 g tv (.map (some mb))) 334,Y Bf s184 ((Bu ((AD i.op stk).2.1) [(⟨true,0,(dg.dig x180.n)⟩:A9)]).2),Y Ag tv told,B9 mb] [Ac Bt vv vals,gl]:=H
  exact Al ⟨s184,tv,vv,by rw [e]<;>rfl,by rw [e]<;>exact Do.refl _ _ _,by rw [e]<;>rfl⟩ H
 refine Aa (Ae (V U U (Bh U U U) (Ad U (Ab (Z ?_)))))
 refine AC U (fun h185=>?_) (fun h185=>?_)
 ·have hks:(Bq i.op).size=1:=by rw [h185];rfl
  refine Aa ?_
  obtain ⟨A186,c187,rfl,hc188,hm189,hp190⟩:=H.fA 2 rfl
  obtain ⟨x191,hx192⟩:∃ z9,((AD i.op stk).2.2)[0]?=some z9:=⟨_,List.getElem?_eq_getElem (show 0<((AD i.op stk).2.2).length by omega)⟩
  have okx191:=hok.1 _ (hN.2.2.1 _ (CA hx192))
  have szx191:=okx191.2
  have inx191:=okx191.1
  refine Ae (Ah 2 U ?_)
  have th193:=H.thA 2 rfl hx192
  refine V U U (Bi (p:=Ba A186+0*3) U Ck U U (by omega) (by omega) th193 (by omega)) (V U U (Aj U Gp U) (V U U (Am U Cl U (H.elA 2 U hx192 (q:=2) U U)) (sc (Y2 x191.b (by omega)) H (lR 1 U l0) U U (Av XF U U) ?_)))
  rintro _ _ w ⟨rfl,rfl⟩ H
  refine sc (GD (dg.num x191.b)) H l0 U U (Av Gt U U) ?_
  rintro _ _ w ⟨rfl,rfl⟩ H
  refine Cg (parts:=[(0,.tmp 188)]) (vs:=[.agg #[.bool false,.int .i64 (dg.num x191.b),.string ⟨#[]⟩]]) (cs:=[.bool false,.int .i64 (dg.num x191.b),.string ⟨#[]⟩]) U U U Ck DK U (by decide) (by decide) U U H (fun b194 w H=>?_)
  replace H:=H.p2.p2
  replace H:Hd _ _ _ [blk r (Bn pv key vv fuel pos steps halted s3 g tv (.map (some mb))) 334,Y Bf s3 ((AD i.op stk).2.1),blk b194 [.bool false,.int .i64 (dg.num x191.b),.string ⟨#[]⟩] 330,Y Bf (.slice A186 (((AD i.op stk).2.2).length) c187) ((AD i.op stk).2.2),blk b1 [.int .i64 i.op,.int .i64 i.a,.string i.s] 124,Y Ag tv told,B9 mb] [Ac Bt vv vals,gl]:=H
  refine sc (Ey r pv key vv fuel pos steps halted s3 g tv (.map (some mb)) ((AD i.op stk).2.1) (.slice (some ⟨b194,0,none⟩) 1 1) [(⟨false,dg.num x191.b,⟨#[]⟩⟩:A9)] (by first |omega|exact Nat.le_trans hN.2.1 hst) (Nat.le_of_ble_eq_true U)) H (lA 0 U (fun F h=>CC h rfl (by decide) (Be.flat_eq.2 U)) l0) U U (Av Eu U U) ?_
  rintro _ _ w ⟨s195,rfl,rfl⟩ H
  replace H:=H.h2 (A:=blk r (Bn pv key vv fuel pos steps halted s195 g tv (.map (some mb))) 334) (B:=Y Bf s195 ((Bu ((AD i.op stk).2.1) [(⟨false,dg.num x191.b,⟨#[]⟩⟩:A9)]).2))
  refine Ad U (Ab (Z (An (AZ (AA (Ap U U ?_))))))
  replace H:=H.p6.p6.p3.p3.k4
  have e:BW dg key (⟨pos,halted,stk,g,told,vals⟩:VM) i=((⟨pos,halted,(Bu ((AD i.op stk).2.1) [(⟨false,dg.num x191.b,⟨#[]⟩⟩:A9)]).2,g,told,vals⟩:VM),(Bu ((AD i.op stk).2.1) [(⟨false,dg.num x191.b,⟨#[]⟩⟩:A9)]).1):=by
    rw [DG (m:=(⟨pos,halted,stk,g,told,vals⟩:VM)) h4,Oj h185]
    rw [DB hx192]<;>rfl
  replace H:Hd _ _ _ [blk r (Bn pv key vv fuel pos steps halted s195 g tv (.map (some mb))) 334,Y Bf s195 ((Bu ((AD i.op stk).2.1) [(⟨false,dg.num x191.b,⟨#[]⟩⟩:A9)]).2),Y Ag tv told,B9 mb] [Ac Bt vv vals,gl]:=H
  exact Al ⟨s195,tv,vv,by rw [e]<;>rfl,by rw [e]<;>exact Do.refl _ _ _,by rw [e]<;>rfl⟩ H
 refine Aa (Ae (V U U (Bh U U U) (Ad U (Ab (Z ?_)))))
 refine AC U (fun h196=>?_) (fun h196=>?_)
 ·have hks:(Bq i.op).size=0:=by rw [h196];rfl
  refine Ae (Ad U (V U U (Aj U DH U) (V U U (Am U AE U (H.cellI 3 U U)) (V U U (AJ U U) (V U U (Aj U IJ U) (Bx U U U AE U U H U (Nat.le_of_ble_eq_true U) (fun u hu=>by simp [Value.cells] at hu;subst hu;rfl) (fun w H=>?_)))))))
  replace H:=H.h1 (A:=blk r (Bn pv key vv fuel i.a steps halted s3 g tv (.map (some mb))) 334)
  refine Ab (Bb (Z (Aa (Ae (Ad U (Ab (Z (An (Ap U U ?_)))))))))
  replace H:=H.p5.p5.p3.p3.k4
  have e:BW dg key (⟨pos,halted,stk,g,told,vals⟩:VM) i=((⟨i.a,halted,(AD i.op stk).2.1,g,told,vals⟩:VM),0):=by
    rw [DG (m:=(⟨pos,halted,stk,g,told,vals⟩:VM)) h4,Ok h196]
    all_goals rfl
  replace H:Hd _ _ _ [blk r (Bn pv key vv fuel i.a steps halted s3 g tv (.map (some mb))) 334,Y Bf s3 ((AD i.op stk).2.1),Y Ag tv told,B9 mb] [Ac Bt vv vals,gl]:=H
  exact Al ⟨s3,tv,vv,by rw [e]<;>rfl,by rw [e]<;>exact Do.refl _ _ _,by rw [e]<;>rfl⟩ H
 refine Aa (Ae (V U U (Bh U U U) (Ad U (Ab (Z ?_)))))
 refine AC U (fun h197=>?_) (fun h197=>?_)
 ·have hks:(Bq i.op).size=1:=by rw [h197];rfl
  refine Aa ?_
  obtain ⟨A198,c199,rfl,hc200,hm201,hp202⟩:=H.fA 2 rfl
  obtain ⟨x203,hx204⟩:∃ z9,((AD i.op stk).2.2)[0]?=some z9:=⟨_,List.getElem?_eq_getElem (show 0<((AD i.op stk).2.2).length by omega)⟩
  have okx203:=hok.1 _ (hN.2.2.1 _ (CA hx204))
  have szx203:=okx203.2
  have inx203:=okx203.1
  refine Ae (Ad U ?_)
  have th205:=H.thA 2 rfl hx204
  refine V U U (Bi (p:=Ba A198+0*3) U Ck U U (by omega) (by omega) th205 (by omega)) (V U U (Aj U Fk U) (V U U (Am U Eg U (H.elA 2 U hx204 (q:=1) U U)) (V U U (Cx U U U) (Ab (Z ?_)))))
  refine AC U (fun h206=>?_) (fun h206=>?_)
  ·refine Ae (Ad U (V U U (Aj U DH U) (V U U (Am U AE U (H.cellI 3 U U)) (V U U (AJ U U) (V U U (Aj U IJ U) (Bx U U U AE U U H U (Nat.le_of_ble_eq_true U) (fun u hu=>by simp [Value.cells] at hu;subst hu;rfl) (fun w H=>?_)))))))
   replace H:=H.h1 (A:=blk r (Bn pv key vv fuel i.a steps halted s3 g tv (.map (some mb))) 334)
   refine Ab (Bb (Z (Aa (Ae (Ad U (Ab (Z (An (Ap U U ?_)))))))))
   replace H:=H.p5.p5.p3.p3.k4
   have e:BW dg key (⟨pos,halted,stk,g,told,vals⟩:VM) i=((⟨i.a,halted,(AD i.op stk).2.1,g,told,vals⟩:VM),0):=by
     rw [DG (m:=(⟨pos,halted,stk,g,told,vals⟩:VM)) h4,LT h197]
     rw [DB hx204,if_pos h206]
   replace H:Hd _ _ _ [blk r (Bn pv key vv fuel i.a steps halted s3 g tv (.map (some mb))) 334,Y Bf s3 ((AD i.op stk).2.1),Y Ag tv told,B9 mb] [Ac Bt vv vals,gl]:=H
   exact Al ⟨s3,tv,vv,by rw [e]<;>rfl,by rw [e]<;>exact Do.refl _ _ _,by rw [e]<;>rfl⟩ H
  refine Az (Bb (Z (Aa (Ae (Ad U (Ab (Z (An (Ap U U ?_)))))))))
  replace H:=H.p5.p5.p3.p3.k4
  have e:BW dg key (⟨pos,halted,stk,g,told,vals⟩:VM) i=((⟨pos,halted,(AD i.op stk).2.1,g,told,vals⟩:VM),0):=by
    rw [DG (m:=(⟨pos,halted,stk,g,told,vals⟩:VM)) h4,LT h197]
    rw [DB hx204,if_neg h206]
  replace H:Hd _ _ _ [blk r (Bn pv key vv fuel pos steps halted s3 g tv (.map (some mb))) 334,Y Bf s3 ((AD i.op stk).2.1),Y Ag tv told,B9 mb] [Ac Bt vv vals,gl]:=H
  exact Al ⟨s3,tv,vv,by rw [e]<;>rfl,by rw [e]<;>exact Do.refl _ _ _,by rw [e]<;>rfl⟩ H
 refine Aa (Ae (V U U (Bh U U U) (Ad U (Ab (Z ?_)))))
 refine AC U (fun h207=>?_) (fun h207=>?_)
 ·have hks:(Bq i.op).size=0:=by rw [h207];rfl
  refine Aa ?_
  have hia:=hi.2.2.2.2.2.1 (by omega)
  obtain ⟨gk,hgk⟩:∃ z,z=g (i.a).toNat:=⟨_,rfl⟩
  replace H:=H.p5.p5.p5.p5
  refine Ce (.e 0 (.e 1 (.e 2 (.e 3 (.e 4 (.e 5 (.e 6 (.m 7 (.m 8 (.m 9 (.e 10 .z))))))))))) (fun w=>∃ Ar,Hd w0 F0 w (Y Bf u2 ((AD i.op stk).2.2)::blk b1 [.int .i64 i.op,.int .i64 i.a,.string i.s] 124::Y Ag tv told::B9 mb::Ar) [Ac Bt vv vals,gl]) mo (by kernel_rfl) (fun w H=>⟨_,H⟩) H (fun w H=>(Au U (Au U (Ao U U U (fun w ⟨Ar,H⟩=>Aj U DH U) (Ao U U U (fun w ⟨Ar,H⟩=>Am U AE U (H.cellI 1 U U)) (Ao U U U (fun w ⟨Ar,H⟩=>AJ U U) (Ao U U U (fun w ⟨Ar,H⟩=>Aj U PJ U) (Ao U U U (fun w ⟨Ar,H⟩=>HM (p:=8+(i.a).toNat*3) U Ta Qh U U (by omega) (by omega) (by omega)) (AO U (V U U (BG (cs:=[.bool gk.t,.int .i64 gk.n,.string gk.b]) U Dz U U (H.cellsI 4 U (by rw [hgk];exact bY (by omega)))) ?_))))))))))
  refine AH ⟨_,H⟩ (AO U (Cg (parts:=[(0,.tmp 219)]) (vs:=[.agg #[.bool gk.t,.int .i64 gk.n,.string gk.b]]) (cs:=[.bool gk.t,.int .i64 gk.n,.string gk.b]) U U U Ck DK U (by decide) (by decide) U U H (fun b208 w H=>?_)))
  replace H:=H.h1 (A:=blk b208 [.bool gk.t,.int .i64 gk.n,.string gk.b] 330)|>.p4|>.p4|>.p4|>.p4
  refine AH ⟨_,H⟩ (AO U ?_)
  replace H:=H.p6.p6
  refine sc (Ey r pv key vv fuel pos steps halted s3 g tv (.map (some mb)) ((AD i.op stk).2.1) (.slice (some ⟨b208,0,none⟩) 1 1) [gk] (by first |omega|exact Nat.le_trans hN.2.1 hst) (Nat.le_of_ble_eq_true U)) H (lA 4 U (fun F h=>CC h rfl (by decide) (Be.flat_eq.2 U)) l0) U U (Av Eu U U) ?_
  rintro _ _ w ⟨s209,rfl,rfl⟩ H
  replace H:=H.h2 (A:=blk r (Bn pv key vv fuel pos steps halted s209 g tv (.map (some mb))) 334) (B:=Y Bf s209 ((Bu ((AD i.op stk).2.1) [gk]).2))|>.p5|>.p5|>.p5|>.p5
  refine AH ⟨_,H⟩ (Au U (BO (Z (An (AZ (AA (Ap U U ?_)))))))
  replace H:=H.p3.p3.p5.p5.k4
  have e:BW dg key (⟨pos,halted,stk,g,told,vals⟩:VM) i=((⟨pos,halted,(Bu ((AD i.op stk).2.1) [gk]).2,g,told,vals⟩:VM),(Bu ((AD i.op stk).2.1) [gk]).1):=by
    rw [DG (m:=(⟨pos,halted,stk,g,told,vals⟩:VM)) h4,Om h207]
    rw [show gk=g i.a.toNat from hgk]<;>rfl
  replace H:Hd _ _ _ [blk r (Bn pv key vv fuel pos steps halted s209 g tv (.map (some mb))) 334,Y Bf s209 ((Bu ((AD i.op stk).2.1) [gk]).2),Y Ag tv told,B9 mb] [Ac Bt vv vals,gl]:=H
  exact Al ⟨s209,tv,vv,by rw [e]<;>rfl,by rw [e]<;>exact Do.refl _ _ _,by rw [e]<;>rfl⟩ H
 refine Aa (Ae (V U U (Bh U U U) (Ad U (Ab (Z ?_)))))
 refine AC U (fun h210=>?_) (fun h210=>?_)
 ·have hks:(Bq i.op).size=1:=by rw [h210];rfl
  have hia:=hi.2.2.2.2.2.1 (by omega)
  obtain ⟨A211,c212,rfl,hc213,hm214,hp215⟩:=H.fA 2 rfl
  obtain ⟨x216,hx217⟩:∃ z9,((AD i.op stk).2.2)[0]?=some z9:=⟨_,List.getElem?_eq_getElem (show 0<((AD i.op stk).2.2).length by omega)⟩
  have okx216:=hok.1 _ (hN.2.2.1 _ (CA hx217))
  have szx216:=okx216.2
  have inx216:=okx216.1
  replace H:=H.p5.p5.p5.p5.p5
  refine Ce (.e 0 (.e 1 (.e 2 (.e 3 (.e 4 (.e 5 (.e 6 (.e 7 (.e 8 (.m 9 .z)))))))))) (fun w=>∃ Ar,Hd w0 F0 w (Y Bf s3 ((AD i.op stk).2.1)::Y Bf (.slice A211 (((AD i.op stk).2.2).length) c212) ((AD i.op stk).2.2)::blk b1 [.int .i64 i.op,.int .i64 i.a,.string i.s] 124::Y Ag tv told::B9 mb::Ar) [Ac Bt vv vals,gl]) mo (by kernel_rfl) (fun w H=>⟨_,H⟩) H (fun w H=>(Au U (Ao U U U (fun w ⟨Ar,H⟩=>Aj U DH U) (Ao U U U (fun w ⟨Ar,H⟩=>Am U AE U (H.cellI 2 U U)) (Au U ?_)))))
  have th218:=H.thA 1 rfl hx217
  refine Ao U U U (fun w ⟨Ar,H⟩=>Bi (p:=Ba A211+0*3) U Ck U U (by omega) (by omega) th218 (by omega)) (Ao U U U (fun w ⟨Ar,H⟩=>BG (cs:=[.bool x216.t,.int .i64 x216.n,.string x216.b]) U Dz U U (H.elsA 1 U hx217 U)) (Ao U U U (fun w ⟨Ar,H⟩=>AJ U U) (Ao U U U (fun w ⟨Ar,H⟩=>Aj U PJ U) (Ao U U U (fun w ⟨Ar,H⟩=>HM (p:=8+(i.a).toNat*3) U Ta Qh U U (by omega) (by omega) (by omega)) (AO U ?_)))))
  replace H:=H.p5
  refine Bx U U U Dz U U H U (by show 8+(i.a).toNat*3+3≤34;omega) (fun u hu=>by simp [Value.cells] at hu;rcases hu with rfl|rfl|rfl<;>rfl) (fun w H=>?_)
  replace H:Hd w0 F0 w [blk r (Bn pv key vv fuel pos steps halted s3 (I7 g i.a.toNat x216) tv (.map (some mb))) 334,Y Bf s3 ((AD i.op stk).2.1),Y Bf (.slice A211 (((AD i.op stk).2.2).length) c212) ((AD i.op stk).2.2),blk b1 [.int .i64 i.op,.int .i64 i.a,.string i.s] 124,Y Ag tv told,B9 mb] [Ac Bt vv vals,gl]:=by rw [←bZ (show i.a.toNat<8 by omega) x216];exact H
  replace H:=H.p5.p5.p5.p5.p5
  refine AH ⟨_,H⟩ (BO (Bb (Z (Aa (Ae (Ad U (Ab (Z (An (Ap U U ?_))))))))))
  replace H:=H.p4.p4.p2.p5.k4
  have e:BW dg key (⟨pos,halted,stk,g,told,vals⟩:VM) i=((⟨pos,halted,(AD i.op stk).2.1,I7 g i.a.toNat x216,told,vals⟩:VM),0):=by
    rw [DG (m:=(⟨pos,halted,stk,g,told,vals⟩:VM)) h4,On h210]
    rw [DB hx217]<;>rfl
  replace H:Hd _ _ _ [blk r (Bn pv key vv fuel pos steps halted s3 (I7 g i.a.toNat x216) tv (.map (some mb))) 334,Y Bf s3 ((AD i.op stk).2.1),Y Ag tv told,B9 mb] [Ac Bt vv vals,gl]:=H
  exact Al ⟨s3,tv,vv,by rw [e]<;>rfl,by rw [e]<;>exact Do.refl _ _ _,by rw [e]<;>rfl⟩ H
 refine Aa (Ae (V U U (Bh U U U) (Ad U (Ab (Z ?_)))))
 refine AC U (fun h219=>?_) (fun h219=>?_)
 ·have hks:(Bq i.op).size=2:=by rw [h219];rfl
  refine Aa ?_
  obtain ⟨A220,c221,rfl,hc222,hm223,hp224⟩:=H.fA 2 rfl
  obtain ⟨x225,hx226⟩:∃ z9,((AD i.op stk).2.2)[0]?=some z9:=⟨_,List.getElem?_eq_getElem (show 0<((AD i.op stk).2.2).length by omega)⟩
  have okx225:=hok.1 _ (hN.2.2.1 _ (CA hx226))
  have szx225:=okx225.2
  have inx225:=okx225.1
  obtain ⟨x227,hx228⟩:∃ z9,((AD i.op stk).2.2)[1]?=some z9:=⟨_,List.getElem?_eq_getElem (show 1<((AD i.op stk).2.2).length by omega)⟩
  have okx227:=hok.1 _ (hN.2.2.1 _ (CA hx228))
  have szx227:=okx227.2
  have inx227:=okx227.1
  replace H:=H.p5.p4.p4.p4
  refine Ce (.e 0 (.e 1 (.e 2 (.e 3 (.e 4 (.e 5 (.e 6 (.e 7 (.e 8 (.m 9 (.e 10 .z))))))))))) (fun w=>∃ Ar,Hd w0 F0 w (Y Bf s3 ((AD i.op stk).2.1)::Y Bf (.slice A220 (((AD i.op stk).2.2).length) c221) ((AD i.op stk).2.2)::blk b1 [.int .i64 i.op,.int .i64 i.a,.string i.s] 124::B9 mb::Ar) [Ac Bt vv vals,gl]) mo (by kernel_rfl) (fun w H=>⟨_,H⟩) H (fun w H=>(Au U (Au U ?_)))
  have th229:=H.thA 1 rfl hx226
  refine Ao U U U (fun w ⟨Ar,H⟩=>Bi (p:=Ba A220+0*3) U Ck U U (by omega) (by omega) th229 (by omega)) (Ao U U U (fun w ⟨Ar,H⟩=>Aj U Gp U) (Ao U U U (fun w ⟨Ar,H⟩=>Am U Cl U (H.elA 1 U hx226 (q:=2) U U)) (Au U ?_)))
  have th230:=H.thA 1 rfl hx228
  refine Ao U U U (fun w ⟨Ar,H⟩=>Bi (p:=Ba A220+1*3) U Ck U U (by omega) (by omega) th230 (by omega)) (Ao U U U (fun w ⟨Ar,H⟩=>Aj U Gp U) (Ao U U U (fun w ⟨Ar,H⟩=>Am U Cl U (H.elA 1 U hx228 (q:=2) U U)) (AO U ?_)))
  replace H:=H.p5.p5
  refine sc (U2 r pv key vv fuel pos steps halted s3 g tv (.map (some mb)) told x225.b x227.b (by omega)) H l0 U U (Av XG U U) ?_
  rintro _ _ w ⟨t231,rfl,rfl⟩ H
  replace H:=H.h2 (A:=blk r (Bn pv key vv fuel pos steps halted s3 g t231 (.map (some mb))) 334) (B:=Y Ag t231 ((Eb told x225.b x227.b).2))|>.p5|>.p5|>.p5|>.p5
  refine AH ⟨_,H⟩ (Au U (BO (Z (An (AZ (AA (Ap U U ?_)))))))
  replace H:=H.p3.p5.p2.p5.k4
  have e:BW dg key (⟨pos,halted,stk,g,told,vals⟩:VM) i=((⟨pos,halted,(AD i.op stk).2.1,g,(Eb told x225.b x227.b).2,vals⟩:VM),(Eb told x225.b x227.b).1):=by
    rw [DG (m:=(⟨pos,halted,stk,g,told,vals⟩:VM)) h4,Oo h219]
    rw [DB hx226,DB hx228]<;>rfl
  replace H:Hd _ _ _ [blk r (Bn pv key vv fuel pos steps halted s3 g t231 (.map (some mb))) 334,Y Bf s3 ((AD i.op stk).2.1),Y Ag t231 ((Eb told x225.b x227.b).2),B9 mb] [Ac Bt vv vals,gl]:=H
  exact Al ⟨s3,t231,vv,by rw [e]<;>rfl,by rw [e]<;>exact Do.refl _ _ _,by rw [e]<;>rfl⟩ H
 refine Az (Bb (Z (Aa (Ae (Ad U (Ab (Z (An (Ap U U ?_)))))))))
 replace H:=H.p5.p5.p3.p3.k4
 have hop:i.op=4:=by have:=hi.1;have:=hi.2.1;omega
 have e:BW dg key (⟨pos,halted,stk,g,told,vals⟩:VM) i=((⟨pos,halted,(AD i.op stk).2.1,g,told,vals⟩:VM),0):=by
   rw [DG (m:=(⟨pos,halted,stk,g,told,vals⟩:VM)) h4,Ot hop]
   all_goals rfl
 replace H:Hd _ _ _ [blk r (Bn pv key vv fuel pos steps halted s3 g tv (.map (some mb))) 334,Y Bf s3 ((AD i.op stk).2.1),Y Ag tv told,B9 mb] [Ac Bt vv vals,gl]:=H
 exact Al ⟨s3,tv,vv,by rw [e]<;>rfl,by rw [e]<;>exact Do.refl _ _ _,by rw [e]<;>rfl⟩ H
theorem ZI (p:BT) (n:Int):
    Cn Tryz.prog 184 [.agg #[.int .i64 p.op,.int .i64 p.a,.string p.s],.int .i64 n] [] [] (fun v Bs=>v=.bool (decide (BX p n))∧Bs=[]):=by
 intro w0 F0 H
 refine enter Tryz.func184 U U (Nat.le_of_ble_eq_true U) (Aa (Ae (CZ U U U U H (fun b1 w H=>(Ad U (Ab (Z ?_)))))))
 replace H:Hd _ _ _ [blk b1 [.int .i64 p.op,.int .i64 p.a,.string p.s] 124] []:=H
 refine Aa (Ae (Ah 3 U (Ab (Z (Aa (Aa (Ae (V U U (Aj U Dw U) (V U U (Am U AE U (H.cellI 0 U U)) (Ab (Z (AW (Aa (Ae (V U U (Bh U U U) (Ad U (Ab (Z ?_))))))))))))))))))
 refine AC U (fun h2=>?_) (fun h2=>?_)
 ·refine Aa (Ae (V U U (Aj U Fy U) (V U U (Am U Cl U (H.cellI 0 U U)) (V U U (Np U U U) (Ad U (Ab (Z (An (AZ (AA (Ap U U ?_)))))))))))
  replace H:=H.nil
  exact Al ⟨congrArg Value.bool (decide_eq_decide.2 (by rw [YW];unfold BX;omega)),rfl⟩ H
 refine Aa (Ae (V U U (Bh U U U) (Ad U (Ab (Z ?_)))))
 refine AC U (fun h3=>?_) (fun h3=>?_)
 ·refine Ae (Ad U (Ab (Bb (Z (Aa (Ae (V U U (Aj U Dw U) (V U U (Am U AE U (H.cellI 0 U U)) (V U U (C7 U U U) (Ad U ?_))))))))))
  refine AQ (d:=27) U (fun h4=>?_) (fun h4=>?_)
  ·refine V U U (Aj U Dw U) (V U U (Am U AE U (H.cellI 0 U U)) (V U U (CD U U U) (Ah 2 U ?_)))
   refine AQ (d:=32) U (fun h5=>?_) (fun h5=>?_)
   ·refine V U U (Aj U DH U) (V U U (Am U AE U (H.cellI 0 U U)) (Ad U (V U U (C7 U U U) (Ah 2 U ?_))))
    refine AQ (d:=38) U (fun h6=>?_) (fun h6=>?_)
    ·refine V U U (Aj U DH U) (V U U (Am U AE U (H.cellI 0 U U)) (Ad U (V U U (CD U U U) (Ah 2 U ?_))))
     refine AQ (d:=44) U (fun h7=>?_) (fun h7=>?_)
     ·refine V U U (Aj U Fy U) (V U U (Am U Cl U (H.cellI 0 U U)) (V U U (DN U CK U) (Ad U (V U U (CD U U U) (Ah 2 U (Ab (Z (An (Ap U U ?_)))))))))
      replace H:=H.nil
      exact Al ⟨congrArg Value.bool (decide_eq_decide.2 (by unfold BX;omega)),rfl⟩ H
     refine Ah 7 U (Ab (Z (An (Ap U U ?_))))
     replace H:=H.nil
     exact Al ⟨congrArg Value.bool (decide_eq_false (by unfold BX;omega)).symm,rfl⟩ H
    refine Ah 12 U (Ad U (Ab (Z (An (Ap U U ?_)))))
    replace H:=H.nil
    exact Al ⟨congrArg Value.bool (decide_eq_false (by unfold BX;omega)).symm,rfl⟩ H
   refine Ah 12 U (Ah 7 U (Ab (Z (An (Ap U U ?_)))))
   replace H:=H.nil
   exact Al ⟨congrArg Value.bool (decide_eq_false (by unfold BX;omega)).symm,rfl⟩ H
  refine Ah 12 U (Ah 12 U (Ab (Z (An (Ap U U ?_)))))
  replace H:=H.nil
  exact Al ⟨congrArg Value.bool (decide_eq_false (by unfold BX;omega)).symm,rfl⟩ H
 refine Aa (Aa (Ae (V U U (Bh U U U) (Ad U (Ab (Z ?_))))))
 refine AC U (fun h8=>?_) (fun h8=>?_)
 ·refine Az (Z ?_)
  refine AC U (fun h9=>?_) (fun h9=>?_)
  ·refine Ae (Ah 2 U (Ab (Bb (Z (Aa (Ae (V U U (Aj U Dw U) (V U U (Am U AE U (H.cellI 0 U U)) (V U U (C7 U U U) (Ad U ?_))))))))))
   refine AQ (d:=27) U (fun h10=>?_) (fun h10=>?_)
   ·refine V U U (Aj U Dw U) (V U U (Am U AE U (H.cellI 0 U U)) (V U U (CD U U U) (Ah 2 U ?_)))
    refine AQ (d:=32) U (fun h11=>?_) (fun h11=>?_)
    ·refine V U U (Aj U DH U) (V U U (Am U AE U (H.cellI 0 U U)) (Ad U (V U U (C7 U U U) (Ah 2 U ?_))))
     refine AQ (d:=38) U (fun h12=>?_) (fun h12=>?_)
     ·refine V U U (Aj U DH U) (V U U (Am U AE U (H.cellI 0 U U)) (Ad U (V U U (CD U U U) (Ah 2 U ?_))))
      refine AQ (d:=44) U (fun h13=>?_) (fun h13=>?_)
      ·refine V U U (Aj U Fy U) (V U U (Am U Cl U (H.cellI 0 U U)) (V U U (DN U CK U) (Ad U (V U U (CD U U U) (Ah 2 U (Ab (Z (An (Ap U U ?_)))))))))
       replace H:=H.nil
       exact Al ⟨congrArg Value.bool (decide_eq_decide.2 (by unfold BX;omega)),rfl⟩ H
      refine Ah 7 U (Ab (Z (An (Ap U U ?_))))
      replace H:=H.nil
      exact Al ⟨congrArg Value.bool (decide_eq_false (by unfold BX;omega)).symm,rfl⟩ H
     refine Ah 12 U (Ad U (Ab (Z (An (Ap U U ?_)))))
     replace H:=H.nil
     exact Al ⟨congrArg Value.bool (decide_eq_false (by unfold BX;omega)).symm,rfl⟩ H
    refine Ah 12 U (Ah 7 U (Ab (Z (An (Ap U U ?_)))))
    replace H:=H.nil
    exact Al ⟨congrArg Value.bool (decide_eq_false (by unfold BX;omega)).symm,rfl⟩ H
   refine Ah 12 U (Ah 12 U (Ab (Z (An (Ap U U ?_)))))
   replace H:=H.nil
   exact Al ⟨congrArg Value.bool (decide_eq_false (by unfold BX;omega)).symm,rfl⟩ H
  refine Aa (Aa (Ae (V U U (Bh U U U) (Ad U (Ab (Z ?_))))))
  refine AC U (fun h14=>?_) (fun h14=>?_)
  ·refine Az (Z ?_)
   refine AC U (fun h15=>?_) (fun h15=>?_)
   ·refine Ae (Ad U (Ab (Bb (Z (Aa (Ae (V U U (Aj U Dw U) (V U U (Am U AE U (H.cellI 0 U U)) (V U U (C7 U U U) (Ad U ?_))))))))))
    refine AQ (d:=27) U (fun h16=>?_) (fun h16=>?_)
    ·refine V U U (Aj U Dw U) (V U U (Am U AE U (H.cellI 0 U U)) (V U U (CD U U U) (Ah 2 U ?_)))
     refine AQ (d:=32) U (fun h17=>?_) (fun h17=>?_)
     ·refine V U U (Aj U DH U) (V U U (Am U AE U (H.cellI 0 U U)) (Ad U (V U U (C7 U U U) (Ah 2 U ?_))))
      refine AQ (d:=38) U (fun h18=>?_) (fun h18=>?_)
      ·refine V U U (Aj U DH U) (V U U (Am U AE U (H.cellI 0 U U)) (Ad U (V U U (CD U U U) (Ah 2 U ?_))))
       refine AQ (d:=44) U (fun h19=>?_) (fun h19=>?_)
       ·refine V U U (Aj U Fy U) (V U U (Am U Cl U (H.cellI 0 U U)) (V U U (DN U CK U) (Ad U (V U U (CD U U U) (Ah 2 U (Ab (Z (An (Ap U U ?_)))))))))
        replace H:=H.nil
        exact Al ⟨congrArg Value.bool (decide_eq_decide.2 (by unfold BX;omega)),rfl⟩ H
       refine Ah 7 U (Ab (Z (An (Ap U U ?_))))
       replace H:=H.nil
       exact Al ⟨congrArg Value.bool (decide_eq_false (by unfold BX;omega)).symm,rfl⟩ H
      refine Ah 12 U (Ad U (Ab (Z (An (Ap U U ?_)))))
      replace H:=H.nil
      exact Al ⟨congrArg Value.bool (decide_eq_false (by unfold BX;omega)).symm,rfl⟩ H
     refine Ah 12 U (Ah 7 U (Ab (Z (An (Ap U U ?_)))))
     replace H:=H.nil
     exact Al ⟨congrArg Value.bool (decide_eq_false (by unfold BX;omega)).symm,rfl⟩ H
    refine Ah 12 U (Ah 12 U (Ab (Z (An (Ap U U ?_)))))
    replace H:=H.nil
    exact Al ⟨congrArg Value.bool (decide_eq_false (by unfold BX;omega)).symm,rfl⟩ H
   refine Az (Bb (Z (Aa (Ae (V U U (Aj U Dw U) (V U U (Am U AE U (H.cellI 0 U U)) (V U U (C7 U U U) (Ad U ?_))))))))
   refine AQ (d:=27) U (fun h20=>?_) (fun h20=>?_)
   ·refine V U U (Aj U Dw U) (V U U (Am U AE U (H.cellI 0 U U)) (V U U (CD U U U) (Ah 2 U ?_)))
    refine AQ (d:=32) U (fun h21=>?_) (fun h21=>?_)
    ·refine V U U (Aj U DH U) (V U U (Am U AE U (H.cellI 0 U U)) (Ad U (V U U (C7 U U U) (Ah 2 U ?_))))
     refine AQ (d:=38) U (fun h22=>?_) (fun h22=>?_)
     ·refine V U U (Aj U DH U) (V U U (Am U AE U (H.cellI 0 U U)) (Ad U (V U U (CD U U U) (Ah 2 U ?_))))
      refine AQ (d:=44) U (fun h23=>?_) (fun h23=>?_)
      ·refine V U U (Aj U Fy U) (V U U (Am U Cl U (H.cellI 0 U U)) (V U U (DN U CK U) (Ad U (V U U (CD U U U) (Ah 2 U (Ab (Z (An (Ap U U ?_)))))))))
       replace H:=H.nil
       exact Al ⟨congrArg Value.bool (decide_eq_decide.2 (by unfold BX;omega)),rfl⟩ H
      refine Ah 7 U (Ab (Z (An (Ap U U ?_))))
      replace H:=H.nil
      exact Al ⟨congrArg Value.bool (decide_eq_false (by unfold BX;omega)).symm,rfl⟩ H
     refine Ah 12 U (Ad U (Ab (Z (An (Ap U U ?_)))))
     replace H:=H.nil
     exact Al ⟨congrArg Value.bool (decide_eq_false (by unfold BX;omega)).symm,rfl⟩ H
    refine Ah 12 U (Ah 7 U (Ab (Z (An (Ap U U ?_)))))
    replace H:=H.nil
    exact Al ⟨congrArg Value.bool (decide_eq_false (by unfold BX;omega)).symm,rfl⟩ H
   refine Ah 12 U (Ah 12 U (Ab (Z (An (Ap U U ?_)))))
   replace H:=H.nil
   exact Al ⟨congrArg Value.bool (decide_eq_false (by unfold BX;omega)).symm,rfl⟩ H
  refine Ae (V U U (Bh U U U) (Ad U (Ab (Z ?_))))
  refine AC U (fun h24=>?_) (fun h24=>?_)
  ·refine Ae (Ad U (Ab (Bb (Z (Aa (Ae (V U U (Aj U Dw U) (V U U (Am U AE U (H.cellI 0 U U)) (V U U (C7 U U U) (Ad U ?_))))))))))
   refine AQ (d:=27) U (fun h25=>?_) (fun h25=>?_)
   ·refine V U U (Aj U Dw U) (V U U (Am U AE U (H.cellI 0 U U)) (V U U (CD U U U) (Ah 2 U ?_)))
    refine AQ (d:=32) U (fun h26=>?_) (fun h26=>?_)
    ·refine V U U (Aj U DH U) (V U U (Am U AE U (H.cellI 0 U U)) (Ad U (V U U (C7 U U U) (Ah 2 U ?_))))
     refine AQ (d:=38) U (fun h27=>?_) (fun h27=>?_)
     ·refine V U U (Aj U DH U) (V U U (Am U AE U (H.cellI 0 U U)) (Ad U (V U U (CD U U U) (Ah 2 U ?_))))
      refine AQ (d:=44) U (fun h28=>?_) (fun h28=>?_)
      ·refine V U U (Aj U Fy U) (V U U (Am U Cl U (H.cellI 0 U U)) (V U U (DN U CK U) (Ad U (V U U (CD U U U) (Ah 2 U (Ab (Z (An (Ap U U ?_)))))))))
       replace H:=H.nil
       exact Al ⟨congrArg Value.bool (decide_eq_decide.2 (by unfold BX;omega)),rfl⟩ H
      refine Ah 7 U (Ab (Z (An (Ap U U ?_))))
      replace H:=H.nil
      exact Al ⟨congrArg Value.bool (decide_eq_false (by unfold BX;omega)).symm,rfl⟩ H
     refine Ah 12 U (Ad U (Ab (Z (An (Ap U U ?_)))))
     replace H:=H.nil
     exact Al ⟨congrArg Value.bool (decide_eq_false (by unfold BX;omega)).symm,rfl⟩ H
    refine Ah 12 U (Ah 7 U (Ab (Z (An (Ap U U ?_)))))
    replace H:=H.nil
    exact Al ⟨congrArg Value.bool (decide_eq_false (by unfold BX;omega)).symm,rfl⟩ H
   refine Ah 12 U (Ah 12 U (Ab (Z (An (Ap U U ?_)))))
   replace H:=H.nil
   exact Al ⟨congrArg Value.bool (decide_eq_false (by unfold BX;omega)).symm,rfl⟩ H
  refine Az (Bb (Z (Aa (Ae (V U U (Aj U Dw U) (V U U (Am U AE U (H.cellI 0 U U)) (V U U (C7 U U U) (Ad U ?_))))))))
  refine AQ (d:=27) U (fun h29=>?_) (fun h29=>?_)
  ·refine V U U (Aj U Dw U) (V U U (Am U AE U (H.cellI 0 U U)) (V U U (CD U U U) (Ah 2 U ?_)))
   refine AQ (d:=32) U (fun h30=>?_) (fun h30=>?_)
   ·refine V U U (Aj U DH U) (V U U (Am U AE U (H.cellI 0 U U)) (Ad U (V U U (C7 U U U) (Ah 2 U ?_))))
    refine AQ (d:=38) U (fun h31=>?_) (fun h31=>?_)
    ·refine V U U (Aj U DH U) (V U U (Am U AE U (H.cellI 0 U U)) (Ad U (V U U (CD U U U) (Ah 2 U ?_))))
     refine AQ (d:=44) U (fun h32=>?_) (fun h32=>?_)
     ·refine V U U (Aj U Fy U) (V U U (Am U Cl U (H.cellI 0 U U)) (V U U (DN U CK U) (Ad U (V U U (CD U U U) (Ah 2 U (Ab (Z (An (Ap U U ?_)))))))))
      replace H:=H.nil
      exact Al ⟨congrArg Value.bool (decide_eq_decide.2 (by unfold BX;omega)),rfl⟩ H
     refine Ah 7 U (Ab (Z (An (Ap U U ?_))))
     replace H:=H.nil
     exact Al ⟨congrArg Value.bool (decide_eq_false (by unfold BX;omega)).symm,rfl⟩ H
    refine Ah 12 U (Ad U (Ab (Z (An (Ap U U ?_)))))
    replace H:=H.nil
    exact Al ⟨congrArg Value.bool (decide_eq_false (by unfold BX;omega)).symm,rfl⟩ H
   refine Ah 12 U (Ah 7 U (Ab (Z (An (Ap U U ?_)))))
   replace H:=H.nil
   exact Al ⟨congrArg Value.bool (decide_eq_false (by unfold BX;omega)).symm,rfl⟩ H
  refine Ah 12 U (Ah 12 U (Ab (Z (An (Ap U U ?_)))))
  replace H:=H.nil
  exact Al ⟨congrArg Value.bool (decide_eq_false (by unfold BX;omega)).symm,rfl⟩ H
 refine Ae (V U U (Bh U U U) (Ad U (Ab (Z ?_))))
 refine AC U (fun h33=>?_) (fun h33=>?_)
 ·refine Ae (Ah 2 U (Ab (Bb (Z (Aa (Ae (V U U (Aj U Dw U) (V U U (Am U AE U (H.cellI 0 U U)) (V U U (C7 U U U) (Ad U ?_))))))))))
  refine AQ (d:=27) U (fun h34=>?_) (fun h34=>?_)
  ·refine V U U (Aj U Dw U) (V U U (Am U AE U (H.cellI 0 U U)) (V U U (CD U U U) (Ah 2 U ?_)))
   refine AQ (d:=32) U (fun h35=>?_) (fun h35=>?_)
   ·refine V U U (Aj U DH U) (V U U (Am U AE U (H.cellI 0 U U)) (Ad U (V U U (C7 U U U) (Ah 2 U ?_))))
    refine AQ (d:=38) U (fun h36=>?_) (fun h36=>?_)
    ·refine V U U (Aj U DH U) (V U U (Am U AE U (H.cellI 0 U U)) (Ad U (V U U (CD U U U) (Ah 2 U ?_))))
     refine AQ (d:=44) U (fun h37=>?_) (fun h37=>?_)
     ·refine V U U (Aj U Fy U) (V U U (Am U Cl U (H.cellI 0 U U)) (V U U (DN U CK U) (Ad U (V U U (CD U U U) (Ah 2 U (Ab (Z (An (Ap U U ?_)))))))))
      replace H:=H.nil
      exact Al ⟨congrArg Value.bool (decide_eq_decide.2 (by unfold BX;omega)),rfl⟩ H
     refine Ah 7 U (Ab (Z (An (Ap U U ?_))))
     replace H:=H.nil
     exact Al ⟨congrArg Value.bool (decide_eq_false (by unfold BX;omega)).symm,rfl⟩ H
    refine Ah 12 U (Ad U (Ab (Z (An (Ap U U ?_)))))
    replace H:=H.nil
    exact Al ⟨congrArg Value.bool (decide_eq_false (by unfold BX;omega)).symm,rfl⟩ H
   refine Ah 12 U (Ah 7 U (Ab (Z (An (Ap U U ?_)))))
   replace H:=H.nil
   exact Al ⟨congrArg Value.bool (decide_eq_false (by unfold BX;omega)).symm,rfl⟩ H
  refine Ah 12 U (Ah 12 U (Ab (Z (An (Ap U U ?_)))))
  replace H:=H.nil
  exact Al ⟨congrArg Value.bool (decide_eq_false (by unfold BX;omega)).symm,rfl⟩ H
 refine Aa (Aa (Ae (V U U (Bh U U U) (Ad U (Ab (Z ?_))))))
 refine AC U (fun h38=>?_) (fun h38=>?_)
 ·refine Az (Z ?_)
  refine AC U (fun h39=>?_) (fun h39=>?_)
  ·refine Ae (Ad U (Ab (Bb (Z (Aa (Ae (V U U (Aj U Dw U) (V U U (Am U AE U (H.cellI 0 U U)) (V U U (C7 U U U) (Ad U ?_))))))))))
   refine AQ (d:=27) U (fun h40=>?_) (fun h40=>?_)
   ·refine V U U (Aj U Dw U) (V U U (Am U AE U (H.cellI 0 U U)) (V U U (CD U U U) (Ah 2 U ?_)))
    refine AQ (d:=32) U (fun h41=>?_) (fun h41=>?_)
    ·refine V U U (Aj U DH U) (V U U (Am U AE U (H.cellI 0 U U)) (Ad U (V U U (C7 U U U) (Ah 2 U ?_))))
     refine AQ (d:=38) U (fun h42=>?_) (fun h42=>?_)
     ·refine V U U (Aj U DH U) (V U U (Am U AE U (H.cellI 0 U U)) (Ad U (V U U (CD U U U) (Ah 2 U ?_))))
      refine AQ (d:=44) U (fun h43=>?_) (fun h43=>?_)
      ·refine V U U (Aj U Fy U) (V U U (Am U Cl U (H.cellI 0 U U)) (V U U (DN U CK U) (Ad U (V U U (CD U U U) (Ah 2 U (Ab (Z (An (Ap U U ?_)))))))))
       replace H:=H.nil
       exact Al ⟨congrArg Value.bool (decide_eq_decide.2 (by unfold BX;omega)),rfl⟩ H
      refine Ah 7 U (Ab (Z (An (Ap U U ?_))))
      replace H:=H.nil
      exact Al ⟨congrArg Value.bool (decide_eq_false (by unfold BX;omega)).symm,rfl⟩ H
     refine Ah 12 U (Ad U (Ab (Z (An (Ap U U ?_)))))
     replace H:=H.nil
     exact Al ⟨congrArg Value.bool (decide_eq_false (by unfold BX;omega)).symm,rfl⟩ H
    refine Ah 12 U (Ah 7 U (Ab (Z (An (Ap U U ?_)))))
    replace H:=H.nil
    exact Al ⟨congrArg Value.bool (decide_eq_false (by unfold BX;omega)).symm,rfl⟩ H
   refine Ah 12 U (Ah 12 U (Ab (Z (An (Ap U U ?_)))))
   replace H:=H.nil
   exact Al ⟨congrArg Value.bool (decide_eq_false (by unfold BX;omega)).symm,rfl⟩ H
  refine Az (Bb (Z (Aa (Ae (V U U (Aj U Dw U) (V U U (Am U AE U (H.cellI 0 U U)) (V U U (C7 U U U) (Ad U ?_))))))))
  refine AQ (d:=27) U (fun h44=>?_) (fun h44=>?_)
  ·refine V U U (Aj U Dw U) (V U U (Am U AE U (H.cellI 0 U U)) (V U U (CD U U U) (Ah 2 U ?_)))
   refine AQ (d:=32) U (fun h45=>?_) (fun h45=>?_)
   ·refine V U U (Aj U DH U) (V U U (Am U AE U (H.cellI 0 U U)) (Ad U (V U U (C7 U U U) (Ah 2 U ?_))))
    refine AQ (d:=38) U (fun h46=>?_) (fun h46=>?_)
    ·refine V U U (Aj U DH U) (V U U (Am U AE U (H.cellI 0 U U)) (Ad U (V U U (CD U U U) (Ah 2 U ?_))))
     refine AQ (d:=44) U (fun h47=>?_) (fun h47=>?_)
     ·refine V U U (Aj U Fy U) (V U U (Am U Cl U (H.cellI 0 U U)) (V U U (DN U CK U) (Ad U (V U U (CD U U U) (Ah 2 U (Ab (Z (An (Ap U U ?_)))))))))
      replace H:=H.nil
      exact Al ⟨congrArg Value.bool (decide_eq_decide.2 (by unfold BX;omega)),rfl⟩ H
     refine Ah 7 U (Ab (Z (An (Ap U U ?_))))
     replace H:=H.nil
     exact Al ⟨congrArg Value.bool (decide_eq_false (by unfold BX;omega)).symm,rfl⟩ H
    refine Ah 12 U (Ad U (Ab (Z (An (Ap U U ?_)))))
    replace H:=H.nil
    exact Al ⟨congrArg Value.bool (decide_eq_false (by unfold BX;omega)).symm,rfl⟩ H
   refine Ah 12 U (Ah 7 U (Ab (Z (An (Ap U U ?_)))))
   replace H:=H.nil
   exact Al ⟨congrArg Value.bool (decide_eq_false (by unfold BX;omega)).symm,rfl⟩ H
  refine Ah 12 U (Ah 12 U (Ab (Z (An (Ap U U ?_)))))
  replace H:=H.nil
  exact Al ⟨congrArg Value.bool (decide_eq_false (by unfold BX;omega)).symm,rfl⟩ H
 refine Ae (V U U (Bh U U U) (Ad U (Ab (Z ?_))))
 refine AC U (fun h48=>?_) (fun h48=>?_)
 ·refine Ae (Ad U (Ab (Bb (Z (Aa (Ae (V U U (Aj U Dw U) (V U U (Am U AE U (H.cellI 0 U U)) (V U U (C7 U U U) (Ad U ?_))))))))))
  refine AQ (d:=27) U (fun h49=>?_) (fun h49=>?_)
  ·refine V U U (Aj U Dw U) (V U U (Am U AE U (H.cellI 0 U U)) (V U U (CD U U U) (Ah 2 U ?_)))
   refine AQ (d:=32) U (fun h50=>?_) (fun h50=>?_)
   ·refine V U U (Aj U DH U) (V U U (Am U AE U (H.cellI 0 U U)) (Ad U (V U U (C7 U U U) (Ah 2 U ?_))))
    refine AQ (d:=38) U (fun h51=>?_) (fun h51=>?_)
    ·refine V U U (Aj U DH U) (V U U (Am U AE U (H.cellI 0 U U)) (Ad U (V U U (CD U U U) (Ah 2 U ?_))))
     refine AQ (d:=44) U (fun h52=>?_) (fun h52=>?_)
     ·refine V U U (Aj U Fy U) (V U U (Am U Cl U (H.cellI 0 U U)) (V U U (DN U CK U) (Ad U (V U U (CD U U U) (Ah 2 U (Ab (Z (An (Ap U U ?_)))))))))
      replace H:=H.nil
      exact Al ⟨congrArg Value.bool (decide_eq_decide.2 (by unfold BX;omega)),rfl⟩ H
     refine Ah 7 U (Ab (Z (An (Ap U U ?_))))
     replace H:=H.nil
     exact Al ⟨congrArg Value.bool (decide_eq_false (by unfold BX;omega)).symm,rfl⟩ H
    refine Ah 12 U (Ad U (Ab (Z (An (Ap U U ?_)))))
    replace H:=H.nil
    exact Al ⟨congrArg Value.bool (decide_eq_false (by unfold BX;omega)).symm,rfl⟩ H
   refine Ah 12 U (Ah 7 U (Ab (Z (An (Ap U U ?_)))))
   replace H:=H.nil
   exact Al ⟨congrArg Value.bool (decide_eq_false (by unfold BX;omega)).symm,rfl⟩ H
  refine Ah 12 U (Ah 12 U (Ab (Z (An (Ap U U ?_)))))
  replace H:=H.nil
  exact Al ⟨congrArg Value.bool (decide_eq_false (by unfold BX;omega)).symm,rfl⟩ H
 refine Az (Bb (Z (Aa (Ae (V U U (Aj U Dw U) (V U U (Am U AE U (H.cellI 0 U U)) (V U U (C7 U U U) (Ad U ?_))))))))
 refine AQ (d:=27) U (fun h53=>?_) (fun h53=>?_)
 ·refine V U U (Aj U Dw U) (V U U (Am U AE U (H.cellI 0 U U)) (V U U (CD U U U) (Ah 2 U ?_)))
  refine AQ (d:=32) U (fun h54=>?_) (fun h54=>?_)
  ·refine V U U (Aj U DH U) (V U U (Am U AE U (H.cellI 0 U U)) (Ad U (V U U (C7 U U U) (Ah 2 U ?_))))
   refine AQ (d:=38) U (fun h55=>?_) (fun h55=>?_)
   ·refine V U U (Aj U DH U) (V U U (Am U AE U (H.cellI 0 U U)) (Ad U (V U U (CD U U U) (Ah 2 U ?_))))
    refine AQ (d:=44) U (fun h56=>?_) (fun h56=>?_)
    ·refine V U U (Aj U Fy U) (V U U (Am U Cl U (H.cellI 0 U U)) (V U U (DN U CK U) (Ad U (V U U (CD U U U) (Ah 2 U (Ab (Z (An (Ap U U ?_)))))))))
     replace H:=H.nil
     exact Al ⟨congrArg Value.bool (decide_eq_decide.2 (by unfold BX;omega)),rfl⟩ H
    refine Ah 7 U (Ab (Z (An (Ap U U ?_))))
    replace H:=H.nil
    exact Al ⟨congrArg Value.bool (decide_eq_false (by unfold BX;omega)).symm,rfl⟩ H
   refine Ah 12 U (Ad U (Ab (Z (An (Ap U U ?_)))))
   replace H:=H.nil
   exact Al ⟨congrArg Value.bool (decide_eq_false (by unfold BX;omega)).symm,rfl⟩ H
  refine Ah 12 U (Ah 7 U (Ab (Z (An (Ap U U ?_)))))
  replace H:=H.nil
  exact Al ⟨congrArg Value.bool (decide_eq_false (by unfold BX;omega)).symm,rfl⟩ H
 refine Ah 12 U (Ah 12 U (Ab (Z (An (Ap U U ?_)))))
 replace H:=H.nil
 exact Al ⟨congrArg Value.bool (decide_eq_false (by unfold BX;omega)).symm,rfl⟩ H
theorem ZE (vxs:Value) (xs:List BT):
    Cn Tryz.prog 127 [vxs] [] [Ac Af vxs xs] (fun v Bs=>v=.int .i64 (DU xs)∧Bs=[]):=by
 intro w0 F0 H
 obtain ⟨A1,c2,rfl,hc3,hm4,hp5⟩:=H.fR 0 rfl
 refine enter Tryz.func127 U U (Nat.le_of_ble_eq_true U) (Aa (Ae (Ad U (Ab (Z ?_)))))
 replace H:Hd _ _ _ [] [Ac Af (.slice A1 xs.length c2) xs]:=H
 refine Aa (Aa (Ae (Ah 2 U (V U U (Bj U GC U) (V U U (Ih (z:=min ((xs.length:Nat):Int) 40) U U U U) (V U U (Le U HS U U (by omega) (by omega) U) (V U U (Bj U GC U) (Ad U (Ab (Z (AW (B1 (σ:=Nat) (fun k=>[(0,.slice A1 xs.length c2),(9,.slice A1 ((min ((xs.length:Nat):Int) 40).toNat) c2),(10,.int .i64 (((min ((xs.length:Nat):Int) 40).toNat:Nat):Int)),(11,.int .i64 ((k:Nat):Int))]) (fun k w=>(Hd w0 F0 w [] [Ac Af (.slice A1 xs.length c2) xs])∧(k≤xs.length∧k≤40)∧(∀ y∈xs.take k,E1 xs.length y=false)) (fun k=>xs.length - k) 0 ⟨rfl,rfl,rfl,rfl,trivial⟩ ⟨H,by omega,by simp⟩ ?_))))))))))))
 rintro k w ⟨H,hk,hn⟩
 refine Aa (Ae (V U U (Br U U U) (Ab (Z (Aa ?_)))))
 refine AC U (fun h6=>?_) (fun h6=>?_)
 ·refine Az (Z (Aa (AW (Aa (Ae (Ad U ?_))))))
  obtain ⟨x7,hx8⟩:∃ z9,xs[k]?=some z9:=⟨_,List.getElem?_eq_getElem (show k<xs.length by omega)⟩
  have th9:=H.thR 0 rfl hx8
  refine V U U (Bi (p:=Ba A1+k*3) U HS U U (by omega) (by omega) th9 U) (V U U (BG (cs:=[.int .i64 x7.op,.int .i64 x7.a,.string x7.s]) U Ja U U (H.elsR 0 U hx8 U)) (DD U U U LP H (fun b10 w H=>(Ad U (Bx U U U Ja U U H U (Nat.le_of_ble_eq_true U) (fun u hu=>by simp [Value.cells] at hu;rcases hu with rfl|rfl|rfl<;>rfl) (fun w H=>?_))))))
  replace H:=H.h1 (A:=blk b10 [.int .i64 x7.op,.int .i64 x7.a,.string x7.s] 124)
  refine Ab (Z (Aa (Ae (V U U (BG (cs:=[.int .i64 x7.op,.int .i64 x7.a,.string x7.s]) U Ja U U (H.cellsI 0 U U)) (Ad U (V U U (Bj U GC U) (sc (ZI x7 ((xs.length:Nat):Int)) H l0 U U (Av WR U U) ?_)))))))
  rintro _ _ w ⟨rfl,rfl⟩ H
  refine V U U (D4 U U) (Ab (Z ?_))
  refine AC U (fun h11=>?_) (fun h11=>?_)
  ·refine Aa (Ae (Ah 2 U (Ab (Z (An (AZ (AA (AA (AZ (AA (Ap U U ?_)))))))))))
   replace H:=H.nil
   exact Al ⟨by rw [TC (by omega) hn hx8 (by simpa using h11)]<;>rfl,rfl⟩ H
  refine Az (Bb (Z (Ae (V U U (Bc (z:=((k+1:Nat):Int)) U U U (by rw [AI (by omega) (by omega)];omega)) (Ad U (Ab ?_))))))
  replace H:=H.nil
  exact Bo (s:=k) (k+1) ⟨rfl,rfl,rfl,rfl,trivial⟩ ⟨H,by omega,TD hn hx8 (by simpa using h11)⟩ (by (try dsimp only);omega)
 refine BQ (AV (AV (BS (Z (Aa (Aa (Ae (Ad U (V U U (Bj U GC U) (V U U (CH U U U) (Ab (Z ?_))))))))))))
 refine AC U (fun h12=>?_) (fun h12=>?_)
 ·exact Aa (Ae (Ad U (Ab (Z (An (AA (Ap U U (Al ⟨by rw [OC (k:=k) (by omega) hn,if_pos (by omega)]<;>rfl,rfl⟩ H))))))))
 exact Az (Z (Aa (Ae (Ad U (Ab (Z (An (Ap U U (Al ⟨by rw [OC (k:=k) (by omega) hn,if_neg (by omega)]<;>rfl,rfl⟩ H)))))))))
theorem Nc (vxs:Value) (xs:List BT):
    Cn Tryz.prog 69 [vxs] [] [Ac Af vxs xs] (fun v Bs=>v=.bool (decide (DU xs<0))∧Bs=[]):=by
 intro w0 F0 H
 obtain ⟨A1,c2,rfl,hc3,hm4,hp5⟩:=H.fR 0 rfl
 refine enter Tryz.func69 U U (Nat.le_of_ble_eq_true U) (Aa (Ae (Ad U (Ab (Z ?_)))))
 replace H:Hd _ _ _ [] [Ac Af (.slice A1 xs.length c2) xs]:=H
 refine Aa (Ae (Ad U (sc (ZE (.slice A1 xs.length c2) xs) H (lR 0 U l0) U U (Av Wz U U) ?_)))
 rintro _ _ w ⟨rfl,rfl⟩ H
 exact V U U (Br U U U) (Ad U (Ab (Z (An (Ap U U (Al ⟨rfl,rfl⟩ H))))))
theorem RV (vp:Value) (p:List BT) (key:ByteArray) (vv:Value) (vals:List ByteArray) (fuel:Int) (hpa:∀ i∈p,AG i.a) (hfu:AG fuel):
    Cn Tryz.prog 268 [vp,.string key,vv,.int .i64 fuel] [] [Ac Af vp p,Ac Bt vv vals,gl] (fun v Bs=>((¬ DU p<0∨fuel<0)∧v=.tuple #[.pointer none,.int .i64 2]∧Bs=[])∨(¬ (¬ DU p<0∨fuel<0)∧∃ r mb sv tv vv2 k,v=.tuple #[.pointer (some ⟨r,0,none⟩),.int .i64 (CW dg p key (min fuel 2000).toNat (DT vals)).2]∧Bs=[blk r (Bn vp key vv2 (min fuel 2000) (CW dg p key (min fuel 2000).toNat (DT vals)).1.pos k (CW dg p key (min fuel 2000).toNat (DT vals)).1.halted sv (CW dg p key (min fuel 2000).toNat (DT vals)).1.g tv (.map (some mb))) 334,Y Bf sv (CW dg p key (min fuel 2000).toNat (DT vals)).1.stk,Y Ag tv (CW dg p key (min fuel 2000).toNat (DT vals)).1.told,B9 mb])):=by
 intro w0 F0 H
 unfold AG at hfu
 have hnum:=K5
 obtain ⟨A1,c2,rfl,hc3,hm4,hp5⟩:=H.fR 0 rfl
 obtain ⟨A6,c7,rfl,hc8,hm9,hp10⟩:=H.fR 1 rfl
 refine enter Tryz.func268 U U (Nat.le_of_ble_eq_true U) (Aa (Ae (Ah 2 U (Ab (Z ?_)))))
 replace H:Hd _ _ _ [] [Ac Af (.slice A1 p.length c2) p,Ac Bt (.slice A6 vals.length c7) vals,gl]:=H
 refine Aa (Aa (Ae (Ad U (sc (Nc (.slice A1 p.length c2) p) H (lR 0 U l0) U U (Av MK U U) ?_))))
 rintro _ _ w ⟨rfl,rfl⟩ H
 refine V U U (D4 U U) (Ad U ?_)
 refine AQ (d:=16) U (fun h11=>?_) (fun h11=>?_)
 ·refine Ah 3 U (Ab (Z (CN U (Aa (Ae (Ah 2 U (Ab (Z (An (AA (Dy U U U ?_)))))))))))
  replace H:Hd _ _ _ [] [Ac Af (.slice A1 p.length c2) p,Ac Bt (.slice A6 vals.length c7) vals,gl]:=H
  exact Al (.inl ⟨.inl h11,rfl,rfl⟩) H
 refine Ad U (V U U (Br U U U) (Ad U (Ab (Z ?_))))
 refine AC U (fun h12=>?_) (fun h12=>?_)
 ·refine Aa (Ae (Ah 2 U (Ab (Z (An (AA (Dy U U U ?_)))))))
  replace H:Hd _ _ _ [] [Ac Af (.slice A1 p.length c2) p,Ac Bt (.slice A6 vals.length c7) vals,gl]:=H
  exact Al (.inl ⟨.inr h12,rfl,rfl⟩) H
 refine Az (Z (Aa ?_))
 have hbad:=h11
 have hgood:=Yv (Classical.not_not.1 hbad)
 refine Ae (Ah 4 U (V U U (Ih (z:=min fuel 2000) U U U U) (cP U U U H (fun b13 w H=>(V U U (Dl (parts:=[(0,.tmp 20),(1,.tmp 21),(2,.tmp 22),(3,.tmp 24),(10,.tmp 25)]) (vs:=[.slice A1 p.length c2,.string key,.slice A6 vals.length c7,.int .i64 (min fuel 2000),.map (some b13)]) (cs:=[.slice A1 p.length c2,.string key,.slice A6 vals.length c7,.int .i64 (min fuel 2000),.int .i64 0,.int .i64 0,.bool false,.slice none 0 0,.bool false,.int .i64 0,.string ⟨#[]⟩,.bool false,.int .i64 0,.string ⟨#[]⟩,.bool false,.int .i64 0,.string ⟨#[]⟩,.bool false,.int .i64 0,.string ⟨#[]⟩,.bool false,.int .i64 0,.string ⟨#[]⟩,.bool false,.int .i64 0,.string ⟨#[]⟩,.bool false,.int .i64 0,.string ⟨#[]⟩,.bool false,.int .i64 0,.string ⟨#[]⟩,.slice none 0 0,.map (some b13)]) U TP U U) (CZ U U U U H (fun b14 w H=>?_)))))))
 refine Ad U (Ab (Z ?_))
 replace H:Hd _ _ _ [blk b14 [.slice A1 p.length c2,.string key,.slice A6 vals.length c7,.int .i64 (min fuel 2000),.int .i64 0,.int .i64 0,.bool false,.slice none 0 0,.bool false,.int .i64 0,.string ⟨#[]⟩,.bool false,.int .i64 0,.string ⟨#[]⟩,.bool false,.int .i64 0,.string ⟨#[]⟩,.bool false,.int .i64 0,.string ⟨#[]⟩,.bool false,.int .i64 0,.string ⟨#[]⟩,.bool false,.int .i64 0,.string ⟨#[]⟩,.bool false,.int .i64 0,.string ⟨#[]⟩,.bool false,.int .i64 0,.string ⟨#[]⟩,.slice none 0 0,.map (some b13)] 334,Em b13 []] [Ac Af (.slice A1 p.length c2) p,Ac Bt (.slice A6 vals.length c7) vals,gl]:=H
 refine Aa (AW ?_)
 replace H:=UK (t:=305) H
 replace H:=(H.newnil Ag).newnil Bf
 replace H:Hd w0 F0 w [blk b14 (Bn (.slice A1 p.length c2) key (.slice A6 vals.length c7) (min fuel 2000) 0 0 false (.slice none 0 0) (fun _=>CU) (.slice none 0 0) (.map (some b13))) 334,Y Bf (.slice none 0 0) [],Y Ag (.slice none 0 0) [],B9 b13] [Ac Af (.slice A1 p.length c2) p,Ac Bt (.slice A6 vals.length c7) vals,gl]:=dT H
 replace H:=H.dupR 1 rfl
 refine B1 (σ:=Nat×VM×Value×Value×Value) (fun (k,m,sv,tv,vv2)=>[(0,.slice A1 p.length c2),(10,.pointer (some ⟨b14,0,none⟩))]) (fun (k,m,sv,tv,vv2) w=>(Hd w0 F0 w [blk b14 (Bn (.slice A1 p.length c2) key vv2 (min fuel 2000) m.pos ((k:Nat):Int) m.halted sv m.g tv (.map (some b13))) 334,Y Bf sv m.stk,Y Ag tv m.told,B9 b13] [Ac Bt vv2 m.vals,Ac Af (.slice A1 p.length c2) p,Ac Bt (.slice A6 vals.length c7) vals,gl])∧((k:Int)≤min fuel 2000)∧(EY p.length m)∧(CW dg p key ((min fuel 2000).toNat - k) m=CW dg p key (min fuel 2000).toNat (DT vals))) (fun (k,m,sv,tv,vv2)=>(min fuel 2000).toNat - k) (0,DT vals,.slice none 0 0,.slice none 0 0,.slice A6 vals.length c7) ⟨rfl,rfl,trivial⟩ ⟨H,by (try dsimp only);omega,Wg _ _,rfl⟩ ?_
 rintro ⟨k,m,sv,tv,vv2⟩ w ⟨H,hk,hinv,hpl⟩
 have hps:=hinv.pos
 refine Aa (Aa (Ae (Ad U (V U U (AJ U U) (V U U (Aj U IJ U) (V U U (Am U AE U (H.cellI 0 U U)) (Ad U (V U U (Bj U GC U) (V U U (Br U U U) (Ad U ?_))))))))))
 refine AQ (d:=35) U (fun h15=>?_) (fun h15=>?_)
 ·refine Ad U (V U U (AJ U U) (V U U (Aj U PI U) (V U U (Am U DP U (H.cellI 0 U U)) (V U U (ES U U U) (Ad U (Ab (Z ?_)))))))
  refine Dp (b:=!m.halted) U (fun h16=>?_) (fun h16=>?_)
  ·refine Az (Z (AW (Aa (Aa ?_))))
   have hrun:m.pos<(p.length:Int)∧m.halted=false:=⟨h15,by simpa using h16⟩
   refine G4 mo (by kernel_rfl) H (Ep U (BK U U (fun w H=>AJ U U) (BK U U (fun w H=>Aj U Mk U) (BK U U (fun w H=>Am U AE U (H.cellI 0 U U)) (Ep U (BK U U (fun w H=>AJ U U) (BK U U (fun w H=>Aj U VE U) (BK U U (fun w H=>Am U AE U (H.cellI 0 U U)) (BK U U (fun w H=>C7 U U U) (Ho (fun w H=>(Z ?_))))))))))))
   refine AC U (fun h17=>?_) (fun h17=>?_)
   ·refine Aa (Ae (Ah 3 U (Ab (Z (An (AA (AZ (AA (AZ (AA (Dy U U U ?_)))))))))))
    have e:CW dg p key (min fuel 2000).toNat (DT vals)=(m,3):=by rw [←hpl,show (min fuel 2000).toNat - k=0 by omega];exact ZH hrun
    replace H:=H.dropR
    replace H:Hd _ _ _ [blk b14 (Bn (.slice A1 p.length c2) key vv2 (min fuel 2000) m.pos ((k:Nat):Int) m.halted sv m.g tv (.map (some b13))) 334,Y Bf sv m.stk,Y Ag tv m.told,B9 b13] [Ac Af (.slice A1 p.length c2) p,Ac Bt (.slice A6 vals.length c7) vals,gl]:=H
    exact Al (.inr ⟨fun h=>h.elim hbad (fun h=>absurd h (by omega)),b14,b13,sv,tv,vv2,((k:Nat):Int),by rw [e]<;>rfl,by rw [e]<;>rfl⟩) H
   refine Az (Z (Aa (Ae (Ad U (V U U (AJ U U) (V U U (Aj U Mk U) (V U U (Am U AE U (H.cellI 0 U U)) (V U U (Bc (z:=((k+1:Nat):Int)) U U U (by rw [AI (by omega) (by omega)];omega)) (V U U (AJ U U) (V U U (Aj U Mk U) (Bx U U U AE U U H U (Nat.le_of_ble_eq_true U) (fun u hu=>by simp [Value.cells] at hu;subst hu;rfl) (fun w H=>?_))))))))))))
   replace H:Hd _ _ _ [blk b14 (Bn (.slice A1 p.length c2) key vv2 (min fuel 2000) m.pos ((k+1:Nat):Int) m.halted sv m.g tv (.map (some b13))) 334,Y Bf sv m.stk,Y Ag tv m.told,B9 b13] [Ac Bt vv2 m.vals,Ac Af (.slice A1 p.length c2) p,Ac Bt (.slice A6 vals.length c7) vals,gl]:=H
   refine Ab (Z (Aa (Ae (Ah 2 U (V U U (AJ U U) (V U U (Aj U IJ U) (V U U (Am U AE U (H.cellI 0 U U)) ?_)))))))
   obtain ⟨x18,hx19⟩:∃ z9,p[(m.pos).toNat]?=some z9:=⟨_,List.getElem?_eq_getElem (show (m.pos).toNat<p.length by omega)⟩
   have th20:=H.thR 1 rfl hx19
   refine V U U (Bi (p:=Ba A1+((m.pos).toNat)*3) U HS U U (by omega) (by omega) th20 (by omega)) (V U U (BG (cs:=[.int .i64 x18.op,.int .i64 x18.a,.string x18.s]) U Ja U U (H.elsR 1 U hx19 U)) (DD U U U LP H (fun b21 w H=>(Bx U U U Ja U U H U (Nat.le_of_ble_eq_true U) (fun u hu=>by simp [Value.cells] at hu;rcases hu with rfl|rfl|rfl<;>rfl) (fun w H=>?_)))))
   replace H:=H.h1 (A:=blk b21 [.int .i64 x18.op,.int .i64 x18.a,.string x18.s] 124)
   refine Ab (Z (Aa (Ae (Ad U (V U U (AJ U U) (V U U (Aj U IJ U) (V U U (Am U AE U (H.cellI 1 U U)) (V U U (Bc (z:=m.pos+1) U U U (AI (by omega) (by omega))) (V U U (AJ U U) (V U U (Aj U IJ U) ?_))))))))))
   replace H:=H.p1
   refine Bx U U U AE U U H U (Nat.le_of_ble_eq_true U) (fun u hu=>by simp [Value.cells] at hu;subst hu;rfl) (fun w H=>?_)
   replace H:=H.h1 (A:=blk b14 (Bn (.slice A1 p.length c2) key vv2 (min fuel 2000) (m.pos+1) ((k+1:Nat):Int) m.halted sv m.g tv (.map (some b13))) 334)
   refine Ab (Z (Aa (Ae (Ad U (V U U (BG (cs:=[.int .i64 x18.op,.int .i64 x18.a,.string x18.s]) U Ja U U (H.cellsI 1 U U)) ?_)))))
   replace H:=H.p4.p4.p4.p3
   refine sc (UV b14 (.slice A1 p.length c2) key vv2 (min fuel 2000) (m.pos+1) ((k+1:Nat):Int) m.halted sv m.g tv b13 m.stk m.told m.vals x18 p.length hinv.len hinv.told hinv.ok (hgood _ (CA hx19))) H (lR 0 U (lR 3 U l0)) U U (Av Xs U U) ?_
   rintro _ _ w ⟨s22,t23,vv24,rfl,hsuf25,rfl⟩ H
   replace H:=H.h3 (A:=blk b14 (Bn (.slice A1 p.length c2) key vv24 (min fuel 2000) ((BW dg key {m with pos:=m.pos+1} x18).1.pos) ((k+1:Nat):Int) ((BW dg key {m with pos:=m.pos+1} x18).1.halted) s22 ((BW dg key {m with pos:=m.pos+1} x18).1.g) t23 (.map (some b13))) 334) (B:=Y Bf s22 ((BW dg key {m with pos:=m.pos+1} x18).1.stk)) (C:=Y Ag t23 ((BW dg key {m with pos:=m.pos+1} x18).1.told))
   refine Ad U (Ab (Z (Aa (Ae (Ad U (V U U (Cx U U U) (Ab (Z ?_))))))))
   refine AC U (fun h26=>?_) (fun h26=>?_)
   ·refine Aa (Ae (Ah 4 U (Ab (Z (An (AZ (AA (AZ (AA (Dy U U U ?_))))))))))
    replace H:=H.k4
    have e:CW dg p key (min fuel 2000).toNat (DT vals)=BW dg key {m with pos:=m.pos+1} x18:=by rw [←hpl,show (min fuel 2000).toNat - k=((min fuel 2000).toNat - (k+1))+1 by omega];exact RT hrun hx19 h26
    replace H:=H.dropR
    replace H:Hd _ _ _ [blk b14 (Bn (.slice A1 p.length c2) key vv24 (min fuel 2000) ((BW dg key {m with pos:=m.pos+1} x18).1.pos) ((k+1:Nat):Int) ((BW dg key {m with pos:=m.pos+1} x18).1.halted) s22 ((BW dg key {m with pos:=m.pos+1} x18).1.g) t23 (.map (some b13))) 334,Y Bf s22 ((BW dg key {m with pos:=m.pos+1} x18).1.stk),Y Ag t23 ((BW dg key {m with pos:=m.pos+1} x18).1.told),B9 b13] [Ac Af (.slice A1 p.length c2) p,Ac Bt (.slice A6 vals.length c7) vals,gl]:=H
    exact Al (.inr ⟨fun h=>h.elim hbad (fun h=>absurd h (by omega)),b14,b13,s22,t23,vv24,((k+1:Nat):Int),by rw [e]<;>rfl,by rw [e]<;>rfl⟩) H
   refine Az (Bb ?_)
   replace H:=H.k4.addR (fun G h=>hsuf25 _ _ (h _ (List.mem_of_getElem? (i:=0) rfl)))
   replace H:Hd w0 F0 w [blk b14 (Bn (.slice A1 p.length c2) key vv24 (min fuel 2000) ((BW dg key {m with pos:=m.pos+1} x18).1.pos) ((k+1:Nat):Int) ((BW dg key {m with pos:=m.pos+1} x18).1.halted) s22 ((BW dg key {m with pos:=m.pos+1} x18).1.g) t23 (.map (some b13))) 334,Y Bf s22 ((BW dg key {m with pos:=m.pos+1} x18).1.stk),Y Ag t23 ((BW dg key {m with pos:=m.pos+1} x18).1.told),B9 b13] [Ac Bt vv24 ((BW dg key {m with pos:=m.pos+1} x18).1.vals),Ac Af (.slice A1 p.length c2) p,Ac Bt (.slice A6 vals.length c7) vals,gl]:=H.pickR [0,2,3,4]
   have hj:(min fuel 2000).toNat - k=((min fuel 2000).toNat - (k+1))+1:=by omega
   have hpl2:CW dg p key ((min fuel 2000).toNat - (k+1)) (BW dg key {m with pos:=m.pos+1} x18).1=CW dg p key (min fuel 2000).toNat (DT vals):=by rw [←hpl,hj];exact (RU (m:=m) hrun hx19 h26).symm
   have hinv2:EY p.length (BW dg key {m with pos:=m.pos+1} x18).1:=Qg hnum (Wi hinv hrun.1) (hgood _ (CA hx19)) (hpa _ (CA hx19)) (Classical.not_not.1 h26)
   exact Bo (s:=(k,m,undef,undef,undef)) (k+1,(BW dg key {m with pos:=m.pos+1} x18).1,s22,t23,vv24) ⟨rfl,rfl,trivial⟩ ⟨H,by (try dsimp only);omega,hinv2,hpl2⟩ (by (try dsimp only);omega)
  refine BQ (AV (AV (BS (Z (Aa (Ae (Ah 3 U (Ab (Z (An (Dy U U U ?_)))))))))))
  have e:CW dg p key (min fuel 2000).toNat (DT vals)=(m,0):=by rw [←hpl];exact Ni _ (fun h=>by have h2:=h.2;rw [h2] at h16;simp at h16)
  replace H:=H.dropR
  replace H:Hd _ _ _ [blk b14 (Bn (.slice A1 p.length c2) key vv2 (min fuel 2000) m.pos ((k:Nat):Int) m.halted sv m.g tv (.map (some b13))) 334,Y Bf sv m.stk,Y Ag tv m.told,B9 b13] [Ac Af (.slice A1 p.length c2) p,Ac Bt (.slice A6 vals.length c7) vals,gl]:=H
  exact Al (.inr ⟨fun h=>h.elim hbad (fun h=>absurd h (by omega)),b14,b13,sv,tv,vv2,((k:Nat):Int),by rw [e]<;>rfl,by rw [e]<;>rfl⟩) H
 refine Ah 6 U (Ab (Z (Ch U (BQ (AV (AV (BS (Z (Aa (Ae (Ah 3 U (Ab (Z (An (Dy U U U ?_)))))))))))))))
 have e:CW dg p key (min fuel 2000).toNat (DT vals)=(m,0):=by rw [←hpl];exact Ni _ (fun h=>absurd h.1 h15)
 replace H:=H.dropR
 replace H:Hd _ _ _ [blk b14 (Bn (.slice A1 p.length c2) key vv2 (min fuel 2000) m.pos ((k:Nat):Int) m.halted sv m.g tv (.map (some b13))) 334,Y Bf sv m.stk,Y Ag tv m.told,B9 b13] [Ac Af (.slice A1 p.length c2) p,Ac Bt (.slice A6 vals.length c7) vals,gl]:=H
 exact Al (.inr ⟨fun h=>h.elim hbad (fun h=>absurd h (by omega)),b14,b13,sv,tv,vv2,((k:Nat):Int),by rw [e]<;>rfl,by rw [e]<;>rfl⟩) H
theorem fK (vp:Value) (p:List BT) (key:ByteArray) (vv:Value) (vals:List ByteArray) (fuel:Int) (hpa:∀ i∈p,AG i.a) (hfu:AG fuel):
    Cn Tryz.prog 255 [vp,.string key,vv,.int .i64 fuel] [] [Ac Af vp p,Ac Bt vv vals,gl] (fun v Bs=>∃ u,v=.tuple #[u,.int .i64 (Cd dg p key vals fuel).2]∧Bs=[Y Ag u (Cd dg p key vals fuel).1]):=by
 intro w0 F0 H
 refine enter Tryz.func255 U U (Nat.le_of_ble_eq_true U) (Aa (Ae (Ah 2 U (Ab (Z (Aa ?_))))))
 by_cases hb:¬ DU p<0∨fuel<0
 ·refine Ae (Ah 4 U (sc (RV vp p key vv vals fuel hpa hfu) H (lR 0 U (lR 1 U (lR 2 U l0))) U U (Av QB U U) ?_))
  rintro _ _ w ht H
  obtain ⟨_,rfl,rfl⟩:=ht.resolve_right (fun h=>h.1 hb)
  refine Ah 5 U (Ab (Z ?_))
  replace H:Hd _ _ _ [] [Ac Af vp p,Ac Bt vv vals,gl]:=H
  refine Aa (Aa (Ae (Ad U (V U U (Cx U U U) (Ab (Z (CN U (Aa (Ae (Ah 3 U (Ab (Z (An (AA (Dy U U U ?_)))))))))))))))
  have e:Cd dg p key vals fuel=([],2):=if_pos hb
  replace H:=H.newnil Ag
  exact Al ⟨_,by rw [e]<;>rfl,by rw [e]<;>rfl⟩ H
 refine Ae (Ah 4 U (sc (RV vp p key vv vals fuel hpa hfu) H (lR 0 U (lR 1 U (lR 2 U l0))) U U (Av QB U U) ?_))
 rintro _ _ w ht H
 obtain ⟨_,r,mb,sv,tv,vv2,k,rfl,rfl⟩:=ht.resolve_left (fun h=>hb h.1)
 refine Ah 5 U (Ab (Z ?_))
 replace H:Hd _ _ _ [blk r (Bn vp key vv2 (min fuel 2000) ((CW dg p key (min fuel 2000).toNat (DT vals)).1.pos) k ((CW dg p key (min fuel 2000).toNat (DT vals)).1.halted) sv ((CW dg p key (min fuel 2000).toNat (DT vals)).1.g) tv (.map (some mb))) 334,Y Bf sv ((CW dg p key (min fuel 2000).toNat (DT vals)).1.stk),Y Ag tv ((CW dg p key (min fuel 2000).toNat (DT vals)).1.told),B9 mb] [Ac Af vp p,Ac Bt vv vals,gl]:=H
 refine Aa (Aa (Ae (Ad U (V U U (Cx U U U) (Ab (Z ?_))))))
 refine AC U (fun h1=>?_) (fun h1=>?_)
 ·refine Aa (Ae (Ah 3 U (Ab (Z (An (AA (Dy U U U ?_)))))))
  have e:Cd dg p key vals fuel=([],(CW dg p key (min fuel 2000).toNat (DT vals)).2):=by unfold Cd;rw [if_neg hb,if_pos h1]
  replace H:=H.nil|>.newnil Ag
  exact Al ⟨_,by rw [e]<;>rfl,by rw [e]<;>rfl⟩ H
 refine Az (Z (Aa (Ae (Ad U (V U U (AJ U U) (V U U (Aj U KF U) (V U U (Am U DJ U (H.cellI 0 U U)) (Ah 2 U (Ab (Z (An (Dy U U U ?_))))))))))))
 have e:Cd dg p key vals fuel=((CW dg p key (min fuel 2000).toNat (DT vals)).1.told,0):=by unfold Cd;rw [if_neg hb,if_neg h1]
 replace H:=H.p2.k1
 exact Al ⟨_,by rw [e]<;>rfl,by rw [e]<;>rfl⟩ H
theorem Rk (s:ByteArray):
    Cn Tryz.prog 315 [.string s] [] [] (fun v Bs=>v=.bool false∧Bs=[]):=by
 intro w0 F0 H
 exact enter Tryz.func315 U U (Nat.le_of_ble_eq_true U) (Aa (Ae (Ad U (Ab (Z (Aa (Ae (Ah 2 U (V U U (Nq U U U) (Ad U (Ab (Z (An (Ap U U (Al ⟨congrArg Value.bool (decide_eq_false (fun h=>h rfl)),rfl⟩ H)))))))))))))))
theorem Uo (a:ByteArray) (b:ByteArray):
    Cn Tryz.prog 286 [.string a,.string b] [] [] (fun v Bs=>v=.int .i64 (GH a b)∧Bs=[]):=by
 intro w0 F0 H
 refine enter Tryz.func286 U U (Nat.le_of_ble_eq_true U) (Aa (Ae (Ad U (Ab (Z (Aa (Ae (Ad U (sc (Rk a) H l0 U U (Av QF U U) ?_)))))))))
 rintro _ _ w ⟨rfl,rfl⟩ H
 refine Ad U (Ab (Z (Aa (Ae (Ad U (sc (Rk b) H l0 U U (Av QF U U) ?_))))))
 rintro _ _ w ⟨rfl,rfl⟩ H
 refine Ad U (Ab (Z (Aa (Aa (Ae (Ad U (Ab (Z (Ch U (Az (Z (Aa (Aa (Ae (Ad U (Ab (Z (Ch U (Az (Z (Aa (Aa (Ae (Ah 2 U (V U U (Sc U U U) (Ab (Z ?_)))))))))))))))))))))))))))
 refine AC U (fun h1=>?_) (fun h1=>?_)
 ·exact Aa (Ae (Ad U (Ab (Z (An (AA (Ap U U (Al ⟨by rw [Un h1]<;>rfl,rfl⟩ H))))))))
 refine Az (Z (Aa (Aa (Ae (Ah 2 U (V U U (Z0 U U U) (Ab (Z ?_))))))))
 refine Dp (b:=!(By a b||decide (a=b))) U (fun h2=>?_) (fun h2=>?_)
 ·exact Aa (Ae (Ad U (Ab (Z (An (AA (Ap U U (Al ⟨by rw [Um h1 h2]<;>rfl,rfl⟩ H))))))))
 exact Az (Z (Aa (Ae (Ad U (Ab (Z (An (Ap U U (Al ⟨by rw [Ul h1 h2]<;>rfl,rfl⟩ H)))))))))
theorem IW (p q:Aq):
    Cn Tryz.prog 270 [.agg #[.string p.key,.string p.val],.agg #[.string q.key,.string q.val]] [] [] (fun v Bs=>v=.int .i64 (GH p.key q.key)∧Bs=[]):=by
 intro w0 F0 H
 refine enter Tryz.func270 U U (Nat.le_of_ble_eq_true U) (Aa (Ae (CZ U U U U H (fun b1 w H=>(CZ U U U U H (fun b2 w H=>(Ad U (Ab (Z ?_)))))))))
 replace H:Hd _ _ _ [blk b2 [.string q.key,.string q.val] 122,blk b1 [.string p.key,.string p.val] 122] []:=H
 refine Aa (Ae (V U U (Aj U F8 U) (V U U (Am U Cl U (H.cellI 1 U U)) (V U U (Aj U F8 U) (V U U (Am U Cl U (H.cellI 0 U U)) (sc (Uo p.key q.key) H l0 U U (Av Xu U U) ?_))))))
 rintro _ _ w ⟨rfl,rfl⟩ H
 refine Ad U (Ab (Z (An (Ap U U ?_))))
 replace H:=H.nil
 exact Al ⟨rfl,rfl⟩ H
theorem NN (v:Value) (xs:List Aq) (a:Nat) (b:Nat) (n:Nat) (h1:a+n≤b) (h2:b+n≤xs.length) (hb:xs.length≤1000000):
    Cn Tryz.prog 353 [v,.int .i64 ((a:Nat):Int),.int .i64 ((b:Nat):Int),.int .i64 ((n:Nat):Int),.func (.func 270) #[] #[]] [Y Ag v xs] [] (fun _ Bs=>∃ ys,Bs=[Y Ag v ys]∧C_ xs ys (FD a b n)):=by
 intro w0 F0 H
 obtain ⟨A1,c2,rfl,hc3,hm4,hp5⟩:=H.fA 0 rfl
 refine enter Tryz.func353 U U (Nat.le_of_ble_eq_true U) (Aa (Ae (Ad U (Ab (Z ?_)))))
 replace H:Hd _ _ _ [Y Ag (.slice A1 xs.length c2) xs] []:=H
 refine AW (B1 (σ:=Nat×List Aq) (fun (k,ys)=>[(0,.slice A1 xs.length c2),(1,.int .i64 ((a:Nat):Int)),(2,.int .i64 ((b:Nat):Int)),(3,.int .i64 ((n:Nat):Int)),(10,.int .i64 ((k:Nat):Int))]) (fun (k,ys) w=>(Hd w0 F0 w [Y Ag (.slice A1 xs.length c2) ys] [])∧(k≤n)∧(C_ xs ys (FD a b k))) (fun (k,ys)=>n - k) (0,xs) ⟨rfl,rfl,rfl,rfl,rfl,trivial⟩ ⟨H,by omega,LM xs (fun t=>by unfold FD;rw [if_neg (by omega),if_neg (by omega)])⟩ ?_)
 rintro ⟨k,ys⟩ w ⟨H,hk,hv⟩
 have hl:=hv.1
 refine Aa (Aa (Ae (Ah 2 U (V U U (Br U U U) (Ab (Z ?_))))))
 refine AC U (fun h6=>?_) (fun h6=>?_)
 ·refine Az (Z (Aa (AW (Ce (.e 0 (.e 1 (.e 2 (.e 3 (.e 4 (.e 5 (.e 6 (.e 7 (.e 8 (.e 9 (.e 10 (.e 11 (.e 12 (.e 14 (.e 15 (.e 16 (.e 17 (.e 18 (.p 13 19 (.e 20 (.m 21 (.e 22 (.m 23 .z))))))))))))))))))))))) (fun w=>∃ Ar,Hd w0 F0 w (Ar) []) mo (by kernel_rfl) (fun w H=>⟨_,H⟩) H (fun w H=>(Au U (Au U (Au U (Ao U U U (fun w ⟨Ar,H⟩=>Bc (z:=((a+k:Nat):Int)) U U U (by rw [AI (by omega) (by omega)];omega)) (Au U (Au U (Au U (Ao U U U (fun w ⟨Ar,H⟩=>Bc (z:=((b+k:Nat):Int)) U U U (by rw [AI (by omega) (by omega)];omega)) (Au U (Au U (Au U (Ao U U U (fun w ⟨Ar,H⟩=>Bc (z:=((b+k:Nat):Int)) U U U (by rw [AI (by omega) (by omega)];omega)) ?_)))))))))))))))))
  obtain ⟨x7,hx8⟩:∃ z9,ys[b+k]?=some z9:=⟨_,List.getElem?_eq_getElem (show b+k<ys.length by omega)⟩
  have th9:=H.thA 0 rfl hx8
  refine Ao U U U (fun w ⟨Ar,H⟩=>Bi (p:=Ba A1+(b+k)*2) U BM U U (by omega) (by omega) th9 U) (Au U (Au U (Au U (Ao U U U (fun w ⟨Ar,H⟩=>Bc (z:=((a+k:Nat):Int)) U U U (by rw [AI (by omega) (by omega)];omega)) ?_))))
  obtain ⟨x10,hx11⟩:∃ z9,ys[a+k]?=some z9:=⟨_,List.getElem?_eq_getElem (show a+k<ys.length by omega)⟩
  have th12:=H.thA 0 rfl hx11
  refine Ao U U U (fun w ⟨Ar,H⟩=>Bi (p:=Ba A1+(a+k)*2) U BM U U (by omega) (by omega) th12 U) (Jo U U U U U U U U (by decide) (BG (cs:=[.string x7.key,.string x7.val]) U CF U U (H.elsA 0 U hx8 U)) (BG (cs:=[.string x10.key,.string x10.val]) U CF U U (H.elsA 0 U hx11 U)) ?_)
  have th13:=H.thA 0 rfl hx11
  refine Ao U U U (fun w ⟨Ar,H⟩=>Bi (p:=Ba A1+(a+k)*2) U BM U U (by omega) (by omega) th13 U) (AO U (Hj (i:=a+k) (a:=x7) U U U CF U U U H (by omega) U (fun w H=>?_)))
  replace H:=H.h1 (A:=Y Ag (.slice A1 xs.length c2) (ys.set (a+k) x7))
  refine AH ⟨_,H⟩ ?_
  obtain ⟨x14,hx15⟩:∃ z9,(ys.set (a+k) x7)[b+k]?=some z9:=⟨_,List.getElem?_eq_getElem (show b+k<(ys.set (a+k) x7).length by simp only [List.length_set];omega)⟩
  have th16:=H.thA 0 rfl hx15
  refine Ao U U U (fun w ⟨Ar,H⟩=>Bi (p:=Ba A1+(b+k)*2) U BM U U (by omega) (by omega) th16 U) (AO U (Hj (i:=b+k) (a:=x10) U U U CF U U U H (by simp only [List.length_set];omega) U (fun w H=>?_)))
  replace H:=H.h1 (A:=Y Ag (.slice A1 xs.length c2) ((ys.set (a+k) x7).set (b+k) x10))
  exact AH ⟨_,H⟩ (BO (Bb (Z (Ae (Ad U (V U U (Bc (z:=((k+1:Nat):Int)) U U U (by rw [AI (by omega) (by omega)];omega)) (Ad U (Ab (Bo (s:=(k,ys)) (k+1,(ys.set (a+k) x7).set (b+k) x10) ⟨rfl,rfl,rfl,rfl,rfl,trivial⟩ ⟨H,by omega,fH (by omega) hv hx11 hx8⟩ (by (try dsimp only);omega))))))))))
 exact BQ (AV (AV (BS (DX U (Al ⟨_,rfl,(by omega:k=n)▸hv⟩ H)))))
theorem Sz (v:Value) (xs:List Aq) (a:Nat) (m:Nat) (b:Nat) (h1:a<m) (h2:m<b) (h3:b≤xs.length) (hb:xs.length≤1000000):
    Cn Tryz.prog 337 [v,.int .i64 ((a:Nat):Int),.int .i64 ((m:Nat):Int),.int .i64 ((b:Nat):Int),.func (.func 270) #[] #[]] [Y Ag v xs] [] (fun _ Bs=>∃ ys,Bs=[Y Ag v ys]∧C_ xs ys (BB a m b)):=by
 intro w0 F0 H
 obtain ⟨A1,c2,rfl,hc3,hm4,hp5⟩:=H.fA 0 rfl
 refine enter Tryz.func337 U U (Nat.le_of_ble_eq_true U) (Aa (Ae (Ah 2 U (V U U (CP (z:=((m - a:Nat):Int)) U U U (by rw [AI (by omega) (by omega)];omega)) (Ad U (Ab (Z ?_)))))))
 replace H:Hd _ _ _ [Y Ag (.slice A1 xs.length c2) xs] []:=H
 refine Aa (Ae (Ah 2 U (V U U (CP (z:=((b - m:Nat):Int)) U U U (by rw [AI (by omega) (by omega)];omega)) (Ad U (Ab (Z (Aa (AW (B1 (σ:=Nat×Nat×List Aq) (fun (i,j,ys)=>[(0,.slice A1 xs.length c2),(2,.int .i64 ((m:Nat):Int)),(4,.func (.func 270) #[] #[]),(10,.int .i64 ((i:Nat):Int)),(11,.int .i64 ((j:Nat):Int))]) (fun (i,j,ys) w=>(Hd w0 F0 w [Y Ag (.slice A1 xs.length c2) ys] [])∧(0<i∧i≤m∧0<j∧m+j≤xs.length)∧(ys.length=xs.length)∧(∀ t,xs[BB a m b t]?=ys[BB (m - i) m (m+j) t]?)) (fun (i,j,ys)=>i+j) (m - a,b - m,xs) ⟨rfl,rfl,rfl,rfl,rfl,trivial⟩ ⟨H,by (try dsimp only);omega,rfl,fun t=>by (try dsimp only);rw [show m - (m - a)=a by omega,show m+(b - m)=b by omega]⟩ ?_)))))))))
 rintro ⟨i,j,ys⟩ w ⟨H,hi,hl,hv⟩
 refine Aa (Aa (Ae (Ah 2 U (V U U (Cx U U U) (Ab (Z ?_))))))
 refine AC U (fun h6=>?_) (fun h6=>?_)
 ·refine Az (Z (AW (Aa (Ae (Ah 2 U (V U U (CH U U U) (Ab (Z ?_))))))))
  refine AC U (fun h7=>?_) (fun h7=>?_)
  ·refine Aa (Ae (Ah 3 U (V U U (CP (z:=((m - i:Nat):Int)) U U U (by rw [AI (by omega) (by omega)];omega)) (Ah 3 U (sc (NN (.slice A1 xs.length c2) ys (m - i) m j (by omega) (by omega) (by omega)) H l0 U U (Av MI U U) ?_)))))
   rintro _ _ w ⟨ys8,rfl,hv9⟩ H
   replace H:=H.h1 (A:=Y Ag (.slice A1 xs.length c2) ys8)
   refine Ab (Z (Ae (Ah 2 U (V U U (CP (z:=((i - j:Nat):Int)) U U U (by rw [AI (by omega) (by omega)];omega)) (Ad U (Ab (Bb ?_)))))))
   have hw:=bT (m:=m) (i:=i) (j:=j) (by omega) (by omega) hv9
   exact Bo (s:=(i,j,ys)) (i - j,j,ys8) ⟨rfl,rfl,rfl,rfl,rfl,trivial⟩ ⟨H,by (try dsimp only);omega,by (try dsimp only);rw [hv9.1];exact hl,fun t=>(hv t).trans (hw t)⟩ (by (try dsimp only);omega)
  refine Aa (Ae (Ah 3 U (V U U (CP (z:=((m - i:Nat):Int)) U U U (by rw [AI (by omega) (by omega)];omega)) (Ah 2 U (V U U (Bc (z:=((m+j:Nat):Int)) U U U (by rw [AI (by omega) (by omega)];omega)) (Ad U (V U U (CP (z:=((m+j - i:Nat):Int)) U U U (by rw [AI (by omega) (by omega)];omega)) (Ah 2 U (sc (NN (.slice A1 xs.length c2) ys (m - i) (m+j - i) i (by omega) (by omega) (by omega)) H l0 U U (Av MI U U) ?_)))))))))
  rintro _ _ w ⟨ys10,rfl,hv11⟩ H
  replace H:=H.h1 (A:=Y Ag (.slice A1 xs.length c2) ys10)
  refine Ab (Z (Ae (Ah 2 U (V U U (CP (z:=((j - i:Nat):Int)) U U U (by rw [AI (by omega) (by omega)];omega)) (Ad U (Ab (Bb ?_)))))))
  have hw:=bU (m:=m) (i:=i) (j:=j) (by omega) (by omega) hv11
  exact Bo (s:=(i,j,ys)) (i,j - i,ys10) ⟨rfl,rfl,rfl,rfl,rfl,trivial⟩ ⟨H,by (try dsimp only);omega,by (try dsimp only);rw [hv11.1];exact hl,fun t=>(hv t).trans (hw t)⟩ (by (try dsimp only);omega)
 refine BQ (AV (AV (BS (Z (Ae (Ah 3 U (V U U (CP (z:=((m - i:Nat):Int)) U U U (by rw [AI (by omega) (by omega)];omega)) (Ah 3 U (sc (NN (.slice A1 xs.length c2) ys (m - i) m i (by omega) (by omega) (by omega)) H l0 U U (Av MI U U) ?_)))))))))
 rintro _ _ w ⟨ys12,rfl,hv13⟩ H
 refine Ab (DX U ?_)
 obtain rfl:i=j:=by omega
 exact Al ⟨_,rfl,hv13.1.trans hl,fun t=>by rw [hv,hv13.2,bS (by omega)]<;>rfl⟩ H
theorem Qc (v:Value) (xs:List Aq) (a:Nat) (b:Nat) (h1:a≤b) (h2:b≤xs.length) (hb:xs.length≤1000000):
    Cn Tryz.prog 313 [v,.int .i64 ((a:Nat):Int),.int .i64 ((b:Nat):Int),.func (.func 270) #[] #[]] [Y Ag v xs] [] (fun _ Bs=>∃ ys,Bs=[Y Ag v ys]∧C9 xs ys a b):=by
 intro w0 F0 H
 obtain ⟨A1,c2,rfl,hc3,hm4,hp5⟩:=H.fA 0 rfl
 refine enter Tryz.func313 U U (Nat.le_of_ble_eq_true U) (Aa (Ae (Ad U (V U U (Bc (z:=((a+1:Nat):Int)) U U U (by rw [AI (by omega) (by omega)];omega)) (Ad U (Ab (Z ?_)))))))
 replace H:Hd _ _ _ [Y Ag (.slice A1 xs.length c2) xs] []:=H
 refine AW (B1 (σ:=Nat×List Aq) (fun (i,ys)=>[(0,.slice A1 xs.length c2),(1,.int .i64 ((a:Nat):Int)),(2,.int .i64 ((b:Nat):Int)),(3,.func (.func 270) #[] #[]),(8,.int .i64 ((i:Nat):Int))]) (fun (i,ys) w=>(Hd w0 F0 w [Y Ag (.slice A1 xs.length c2) ys] [])∧(a+1≤i∧(i≤b∨i=a+1))∧(Co xs ys)∧(Er xs ys a b)∧(Cc ys a i)) (fun (i,ys)=>b - i) (a+1,xs) ⟨rfl,rfl,rfl,rfl,rfl,trivial⟩ ⟨H,by (try dsimp only);omega,Co.refl _,Er.refl _ _ _,Cc.one xs (Nat.le_refl _)⟩ ?_)
 rintro ⟨i,ys⟩ w ⟨H,hi,hst,hin,hso⟩
 have hl:=hin.1
 refine Aa (Aa (Ae (Ah 2 U (V U U (Br U U U) (Ab (Z ?_))))))
 refine AC U (fun h6=>?_) (fun h6=>?_)
 ·refine Az (Z (Aa (AW (Aa (Ae (Ah 2 U (Ab (Z (AW (B1 (σ:=Nat×List Aq) (fun (j,zs)=>[(0,.slice A1 xs.length c2),(1,.int .i64 ((a:Nat):Int)),(2,.int .i64 ((b:Nat):Int)),(3,.func (.func 270) #[] #[]),(8,.int .i64 ((i:Nat):Int)),(9,.int .i64 ((j:Nat):Int))]) (fun (j,zs) w=>(Hd w0 F0 w [Y Ag (.slice A1 xs.length c2) zs] [])∧(a≤j∧j≤i)∧(Co xs zs)∧(Er xs zs a b)∧(G3 zs a (i+1) j)) (fun (j,zs)=>j) (i,ys) ⟨rfl,rfl,rfl,rfl,rfl,rfl,trivial⟩ ⟨H,by (try dsimp only);omega,hst,hin,T3 hso⟩ ?_))))))))))
  rintro ⟨j,zs⟩ w ⟨H,hj,hst2,hin2,hbu⟩
  have hl2:=hin2.1
  refine Aa (Aa (Ce (.e 0 (.e 1 (.e 2 (.e 3 (.e 4 (.e 5 (.e 6 (.e 7 (.e 8 (.e 9 (.e 10 (.e 11 (.e 12 (.e 13 (.m 14 (.e 15 (.e 16 .z))))))))))))))))) (fun w=>∃ Ar,Hd w0 F0 w (Y Ag (.slice A1 xs.length c2) zs::Ar) []) mo (by kernel_rfl) (fun w H=>⟨_,H⟩) H (fun w H=>(Au U (Au U (Ao U U U (fun w ⟨Ar,H⟩=>CH U U U) (Au U ?_)))))))
  refine Kr (d:=21) U (fun h7=>?_) (fun h7=>?_)
  ·refine Au U (Au U (Au U ?_))
   obtain ⟨x8,hx9⟩:∃ z9,zs[j]?=some z9:=⟨_,List.getElem?_eq_getElem (show j<zs.length by omega)⟩
   have th10:=H.thA 0 rfl hx9
   refine Ao U U U (fun w ⟨Ar,H⟩=>Bi (p:=Ba A1+j*2) U BM U U (by omega) (by omega) th10 U) (Ao U U U (fun w ⟨Ar,H⟩=>BG (cs:=[.string x8.key,.string x8.val]) U CF U U (H.elsA 0 U hx9 U)) (Au U (Au U (Ao U U U (fun w ⟨Ar,H⟩=>CP (z:=((j - 1:Nat):Int)) U U U (by rw [AI (by omega) (by omega)];omega)) ?_))))
   obtain ⟨x11,hx12⟩:∃ z9,zs[j - 1]?=some z9:=⟨_,List.getElem?_eq_getElem (show j - 1<zs.length by omega)⟩
   have th13:=H.thA 0 rfl hx12
   refine Ao U U U (fun w ⟨Ar,H⟩=>Bi (p:=Ba A1+(j - 1)*2) U BM U U (by omega) (by omega) th13 U) (Ao U U U (fun w ⟨Ar,H⟩=>BG (cs:=[.string x11.key,.string x11.val]) U CF U U (H.elsA 0 U hx12 U)) (AO U (sc (IW x8 x11) H l0 U U (GI (vs:=[.agg #[.string x8.key,.string x8.val],.agg #[.string x11.key,.string x11.val]]) (fs:=#[]) (cs:=#[]) Iq9 U U U) ?_)))
   rintro _ _ w ⟨rfl,rfl⟩ H
   refine AH ⟨_,H⟩ (Ao U U U (fun w ⟨Ar,H⟩=>Br U U U) (Au U (BO (Z ?_))))
   refine AC U (fun h14=>?_) (fun h14=>?_)
   ·refine Az (Z (Aa (AW (Ce (.e 0 (.e 1 (.e 2 (.e 3 (.e 4 (.e 5 (.e 6 (.e 7 (.e 8 (.e 10 (.e 11 (.e 12 (.p 9 13 (.e 14 (.m 15 (.e 16 (.m 17 .z))))))))))))))))) (fun w=>∃ Ar,Hd w0 F0 w (Ar) []) mo (by kernel_rfl) (fun w H=>⟨_,H⟩) H (fun w H=>(Au U (Au U (Au U (Au U (Ao U U U (fun w ⟨Ar,H⟩=>CP (z:=((j - 1:Nat):Int)) U U U (by rw [AI (by omega) (by omega)];omega)) (Au U (Au U (Ao U U U (fun w ⟨Ar,H⟩=>CP (z:=((j - 1:Nat):Int)) U U U (by rw [AI (by omega) (by omega)];omega)) ?_)))))))))))))
    have th15:=H.thA 0 rfl hx12
    refine Ao U U U (fun w ⟨Ar,H⟩=>Bi (p:=Ba A1+(j - 1)*2) U BM U U (by omega) (by omega) th15 U) (Au U (Au U ?_))
    have th16:=H.thA 0 rfl hx9
    refine Ao U U U (fun w ⟨Ar,H⟩=>Bi (p:=Ba A1+j*2) U BM U U (by omega) (by omega) th16 U) (Jo U U U U U U U U (by decide) (BG (cs:=[.string x11.key,.string x11.val]) U CF U U (H.elsA 0 U hx12 U)) (BG (cs:=[.string x8.key,.string x8.val]) U CF U U (H.elsA 0 U hx9 U)) ?_)
    have th17:=H.thA 0 rfl hx9
    refine Ao U U U (fun w ⟨Ar,H⟩=>Bi (p:=Ba A1+j*2) U BM U U (by omega) (by omega) th17 U) (AO U (Hj (i:=j) (a:=x11) U U U CF U U U H (by omega) U (fun w H=>?_)))
    replace H:Hd _ _ _ [Y Ag (.slice A1 xs.length c2) (zs.set j x11)] []:=H
    refine AH ⟨_,H⟩ ?_
    obtain ⟨x18,hx19⟩:∃ z9,(zs.set j x11)[j - 1]?=some z9:=⟨_,List.getElem?_eq_getElem (show j - 1<(zs.set j x11).length by simp only [List.length_set];omega)⟩
    have th20:=H.thA 0 rfl hx19
    refine Ao U U U (fun w ⟨Ar,H⟩=>Bi (p:=Ba A1+(j - 1)*2) U BM U U (by omega) (by omega) th20 U) (AO U (Hj (i:=j - 1) (a:=x8) U U U CF U U U H (by simp only [List.length_set];omega) U (fun w H=>?_)))
    replace H:=H.h1 (A:=Y Ag (.slice A1 xs.length c2) ((zs.set j x11).set (j - 1) x8))
    refine AH ⟨_,H⟩ (BO (Bb (Z (Ae (Ad U (V U U (CP (z:=((j - 1:Nat):Int)) U U U (by rw [AI (by omega) (by omega)];omega)) (Ad U (Ab ?_))))))))
    have hsw:=dX (by omega) hx12 hx9 (Hx.1 h14)
    exact Bo (s:=(j,zs)) (j - 1,(zs.set j x11).set (j - 1) x8) ⟨rfl,rfl,rfl,rfl,rfl,rfl,trivial⟩ ⟨H,by (try dsimp only);omega,hst2.trans hsw.1,hin2.trans (hsw.2.wider (by omega) (by omega)),T5 hbu (by omega) hx12 hx9 (Hx.1 h14) (by omega)⟩ (by (try dsimp only);omega)
   exact BQ (AV (AV (BS (Bb (Z (Ae (Ad U (V U U (Bc (z:=((i+1:Nat):Int)) U U U (by rw [AI (by omega) (by omega)];omega)) (Ad U (Ab (Bo (s:=(i,ys)) (i+1,zs) ⟨rfl,rfl,rfl,rfl,rfl,trivial⟩ ⟨H,by (try dsimp only);omega,hst2,hin2,T7 hbu (by omega) hx12 hx9 (IC h14)⟩ (by (try dsimp only);omega))))))))))))
  exact Au U (Au U (Au U (Au U (Au U (Au U (Au U (Au U (Au U (Au U (Jn U ⟨_,H⟩ U U (Au U (Au U (BO (Z (Ch U (BQ (AV (AV (BS (Bb (Z (Ae (Ad U (V U U (Bc (z:=((i+1:Nat):Int)) U U U (by rw [AI (by omega) (by omega)];omega)) (Ad U (Ab (Bo (s:=(i,ys)) (i+1,zs) ⟨rfl,rfl,rfl,rfl,rfl,trivial⟩ ⟨H,by (try dsimp only);omega,hst2,hin2,T2 ((by omega:j=a)▸hbu)⟩ (by (try dsimp only);omega))))))))))))))))))))))))))))
 exact BQ (AV (AV (BS (DX U (Al ⟨_,rfl,hst,hin,hso.sub (Nat.le_refl _) (by omega)⟩ H)))))
theorem dY (N:Nat) (ih:∀ (v:Value) (xs:List Aq) (a m b:Nat),b - a<N→a<m→m<b→b≤xs.length→xs.length≤1000000→Cc xs a m→Cc xs m b→Cn Tryz.prog 314 [v,.int .i64 ((a:Nat):Int),.int .i64 ((m:Nat):Int),.int .i64 ((b:Nat):Int),.func (.func 270) #[] #[]] [Y Ag v xs] [] (fun _ Bs=>∃ ys,Bs=[Y Ag v ys]∧C9 xs ys a b)) (v:Value) (xs:List Aq) (a:Nat) (m:Nat) (b:Nat) (hN:b - a<N+1) (h1:a<m) (h2:m<b) (h3:b≤xs.length) (hb:xs.length≤1000000) (hs1:Cc xs a m) (hs2:Cc xs m b):
    Cn Tryz.prog 314 [v,.int .i64 ((a:Nat):Int),.int .i64 ((m:Nat):Int),.int .i64 ((b:Nat):Int),.func (.func 270) #[] #[]] [Y Ag v xs] [] (fun _ Bs=>∃ ys,Bs=[Y Ag v ys]∧C9 xs ys a b):=by
 intro w0 F0 H
 obtain ⟨A1,c2,rfl,hc3,hm4,hp5⟩:=H.fA 0 rfl
 refine enter Tryz.func314 U U (Nat.le_of_ble_eq_true U) (Aa (Aa (Ae (Ah 2 U (V U U (CP (z:=((m - a:Nat):Int)) U U U (by rw [AI (by omega) (by omega)];omega)) (V U U (Bh U U U) (Ab (Z ?_))))))))
 replace H:Hd _ _ _ [Y Ag (.slice A1 xs.length c2) xs] []:=H
 refine AC U (fun h6=>?_) (fun h6=>?_)
 ·refine Aa ?_
  have hm:m=a+1:=by omega
  obtain ⟨x0,hx0⟩:∃ z9,xs[a]?=some z9:=⟨_,List.getElem?_eq_getElem (show a<xs.length by omega)⟩
  refine Ae (Ah 2 U (Ab (Z (Aa (Ae (Ah 2 U (Ab (Z (Aa (AW (B1 (σ:=Nat×Nat) (fun (i,j)=>[(0,.slice A1 xs.length c2),(1,.int .i64 ((a:Nat):Int)),(2,.int .i64 ((m:Nat):Int)),(3,.int .i64 ((b:Nat):Int)),(4,.func (.func 270) #[] #[]),(10,.int .i64 ((i:Nat):Int)),(11,.int .i64 ((j:Nat):Int))]) (fun (i,j) w=>(Hd w0 F0 w [Y Ag (.slice A1 xs.length c2) xs] [])∧(m≤i∧i≤j∧j≤b)∧(i=m∨∃ u,xs[i - 1]?=some u∧By u.key x0.key=true)∧(j=b∨∃ u,xs[j]?=some u∧By u.key x0.key=false)) (fun (i,j)=>j - i) (m,b) ⟨rfl,rfl,rfl,rfl,rfl,rfl,rfl,trivial⟩ ⟨H,by (try dsimp only);omega,.inl rfl,.inl rfl⟩ ?_)))))))))))
  rintro ⟨i,j⟩ w ⟨H,hij,hlow,hup⟩
  refine Aa (Aa (Ae (Ah 2 U (V U U (Br U U U) (Ab (Z ?_))))))
  refine AC U (fun h7=>?_) (fun h7=>?_)
  ·refine Az (Z (AW (Aa (Ae (Ah 2 U (V U U (Bc (z:=((i+j:Nat):Int)) U U U (by rw [AI (by omega) (by omega)];omega)) (V U U (DC (z:=((i+j:Nat):Int)) U U Dm EB (Fr (by omega) (by omega))) (V U U (Ii (z:=(((i+j) / 2:Nat):Int)) U U U (by omega) (JB _)) (V U U (DC (z:=(((i+j) / 2:Nat):Int)) U U EB Dm (AI (by omega) (by omega))) (Ad U (Ab (Z (Aa (Ce (.e 0 (.e 1 (.e 2 (.e 3 (.e 4 (.e 5 (.e 6 (.e 7 (.e 8 (.m 9 (.e 10 .z))))))))))) (fun w=>∃ Ar,Hd w0 F0 w (Y Ag (.slice A1 xs.length c2) xs::Ar) []) mo (by kernel_rfl) (fun w H=>⟨_,H⟩) H (fun w H=>(Au U (Au U (Au U ?_))))))))))))))))))
   obtain ⟨x8,hx9⟩:∃ z9,xs[(i+j) / 2]?=some z9:=⟨_,List.getElem?_eq_getElem (show (i+j) / 2<xs.length by omega)⟩
   have th10:=H.thA 0 rfl hx9
   refine Ao U U U (fun w ⟨Ar,H⟩=>Bi (p:=Ba A1+((i+j) / 2)*2) U BM U U (by omega) (by omega) th10 U) (Ao U U U (fun w ⟨Ar,H⟩=>BG (cs:=[.string x8.key,.string x8.val]) U CF U U (H.elsA 0 U hx9 U)) (Au U (Au U ?_)))
   obtain ⟨x11,hx12⟩:∃ z9,xs[a]?=some z9:=⟨_,List.getElem?_eq_getElem (show a<xs.length by omega)⟩
   have th13:=H.thA 0 rfl hx12
   refine Ao U U U (fun w ⟨Ar,H⟩=>Bi (p:=Ba A1+a*2) U BM U U (by omega) (by omega) th13 U) (Ao U U U (fun w ⟨Ar,H⟩=>BG (cs:=[.string x11.key,.string x11.val]) U CF U U (H.elsA 0 U hx12 U)) (AO U (sc (IW x8 x11) H l0 U U (GI (vs:=[.agg #[.string x8.key,.string x8.val],.agg #[.string x11.key,.string x11.val]]) (fs:=#[]) (cs:=#[]) Iq9 U U U) ?_)))
   rintro _ _ w ⟨rfl,rfl⟩ H
   refine AH ⟨_,H⟩ (Ao U U U (fun w ⟨Ar,H⟩=>Br U U U) (BO (Z ?_)))
   refine AC U (fun h14=>?_) (fun h14=>?_)
   ·obtain rfl:x11=x0:=Option.some.inj (hx12.symm.trans hx0)
    exact Ae (Ad U (V U U (Bc (z:=(((i+j) / 2+1:Nat):Int)) U U U (by rw [AI (by omega) (by omega)];omega)) (Ad U (Ab (Bb (Bo (s:=(i,j)) ((i+j) / 2+1,j) ⟨rfl,rfl,rfl,rfl,rfl,rfl,rfl,trivial⟩ ⟨H,by (try dsimp only);omega,.inr ⟨x8,by rw [Nat.add_sub_cancel];exact hx9,Hx.1 h14⟩,hup⟩ (by (try dsimp only);omega)))))))
   obtain rfl:x11=x0:=Option.some.inj (hx12.symm.trans hx0)
   exact Ae (Ah 2 U (Ab (Bb (Bo (s:=(i,j)) (i,(i+j) / 2) ⟨rfl,rfl,rfl,rfl,rfl,rfl,rfl,trivial⟩ ⟨H,by (try dsimp only);omega,hlow,.inr ⟨x8,hx9,IC h14⟩⟩ (by (try dsimp only);omega)))))
  refine BQ (AV (AV (BS (Z (Aa (Aa (Ae (Ah 2 U (Ab (Z (AW (B1 (σ:=Nat×List Aq) (fun (k,ys)=>[(0,.slice A1 xs.length c2),(1,.int .i64 ((a:Nat):Int)),(2,.int .i64 ((m:Nat):Int)),(3,.int .i64 ((b:Nat):Int)),(4,.func (.func 270) #[] #[]),(10,.int .i64 ((i:Nat):Int)),(13,.int .i64 ((k:Nat):Int))]) (fun (k,ys) w=>(Hd w0 F0 w [Y Ag (.slice A1 xs.length c2) ys] [])∧(a≤k∧k+1≤i)∧(C_ xs ys (BB a m (k+1)))) (fun (k,ys)=>i - k) (a,xs) ⟨rfl,rfl,rfl,rfl,rfl,rfl,rfl,trivial⟩ ⟨H,by (try dsimp only);omega,by rw [hm];exact fF xs a⟩ ?_))))))))))))
  rintro ⟨k,ys⟩ w ⟨H,hk,hv⟩
  have hl:=hv.1
  refine Aa (Aa (Ae (Ah 2 U (V U U (CP (z:=((i - 1:Nat):Int)) U U U (by rw [AI (by omega) (by omega)];omega)) (V U U (Br U U U) (Ab (Z ?_)))))))
  refine AC U (fun h15=>?_) (fun h15=>?_)
  ·refine Az (Z (Aa (AW (Ce (.e 0 (.e 1 (.e 2 (.e 3 (.e 4 (.e 5 (.e 6 (.e 7 (.e 8 (.e 10 (.e 11 (.e 12 (.p 9 13 (.e 14 (.m 15 (.e 16 (.m 17 .z))))))))))))))))) (fun w=>∃ Ar,Hd w0 F0 w (Ar) []) mo (by kernel_rfl) (fun w H=>⟨_,H⟩) H (fun w H=>(Au U (Au U (Au U (Au U (Ao U U U (fun w ⟨Ar,H⟩=>Bc (z:=((k+1:Nat):Int)) U U U (by rw [AI (by omega) (by omega)];omega)) (Au U (Au U (Ao U U U (fun w ⟨Ar,H⟩=>Bc (z:=((k+1:Nat):Int)) U U U (by rw [AI (by omega) (by omega)];omega)) ?_)))))))))))))
   obtain ⟨x16,hx17⟩:∃ z9,ys[k+1]?=some z9:=⟨_,List.getElem?_eq_getElem (show k+1<ys.length by omega)⟩
   have th18:=H.thA 0 rfl hx17
   refine Ao U U U (fun w ⟨Ar,H⟩=>Bi (p:=Ba A1+(k+1)*2) U BM U U (by omega) (by omega) th18 U) (Au U (Au U ?_))
   obtain ⟨x19,hx20⟩:∃ z9,ys[k]?=some z9:=⟨_,List.getElem?_eq_getElem (show k<ys.length by omega)⟩
   have th21:=H.thA 0 rfl hx20
   refine Ao U U U (fun w ⟨Ar,H⟩=>Bi (p:=Ba A1+k*2) U BM U U (by omega) (by omega) th21 U) (Jo U U U U U U U U (by decide) (BG (cs:=[.string x16.key,.string x16.val]) U CF U U (H.elsA 0 U hx17 U)) (BG (cs:=[.string x19.key,.string x19.val]) U CF U U (H.elsA 0 U hx20 U)) ?_)
   have th22:=H.thA 0 rfl hx20
   refine Ao U U U (fun w ⟨Ar,H⟩=>Bi (p:=Ba A1+k*2) U BM U U (by omega) (by omega) th22 U) (AO U (Hj (i:=k) (a:=x16) U U U CF U U U H (by omega) U (fun w H=>?_)))
   replace H:=H.h1 (A:=Y Ag (.slice A1 xs.length c2) (ys.set k x16))
   refine AH ⟨_,H⟩ ?_
   obtain ⟨x23,hx24⟩:∃ z9,(ys.set k x16)[k+1]?=some z9:=⟨_,List.getElem?_eq_getElem (show k+1<(ys.set k x16).length by simp only [List.length_set];omega)⟩
   have th25:=H.thA 0 rfl hx24
   refine Ao U U U (fun w ⟨Ar,H⟩=>Bi (p:=Ba A1+(k+1)*2) U BM U U (by omega) (by omega) th25 U) (AO U (Hj (i:=k+1) (a:=x19) U U U CF U U U H (by simp only [List.length_set];omega) U (fun w H=>?_)))
   replace H:=H.h1 (A:=Y Ag (.slice A1 xs.length c2) ((ys.set k x16).set (k+1) x19))
   exact AH ⟨_,H⟩ (BO (Bb (Z (Ae (Ad U (V U U (Bc (z:=((k+1:Nat):Int)) U U U (by rw [AI (by omega) (by omega)];omega)) (Ad U (Ab (Bo (s:=(k,ys)) (k+1,(ys.set k x16).set (k+1) x19) ⟨rfl,rfl,rfl,rfl,rfl,rfl,rfl,trivial⟩ ⟨H,by (try dsimp only);omega,fJ hm (by omega) hv hx20 hx17⟩ (by (try dsimp only);omega))))))))))
  refine BQ (AV (AV (BS (Z (An (AA (No U ?_)))))))
  obtain rfl:j=i:=by omega
  obtain rfl:j=k+1:=by omega
  exact Al ⟨_,rfl,YB hm hv (by omega) (by omega) (by omega) hs2 hx0 hlow hup⟩ H
 refine Az (Z (Aa (Aa (Ae (Ah 2 U (V U U (CP (z:=((b - m:Nat):Int)) U U U (by rw [AI (by omega) (by omega)];omega)) (V U U (Bh U U U) (Ab (Z ?_)))))))))
 refine AC U (fun h26=>?_) (fun h26=>?_)
 ·refine Aa ?_
  have hm:b=m+1:=by omega
  obtain ⟨x0,hx0⟩:∃ z9,xs[m]?=some z9:=⟨_,List.getElem?_eq_getElem (show m<xs.length by omega)⟩
  refine Ae (Ah 2 U (Ab (Z (Aa (Ae (Ah 2 U (Ab (Z (Aa (AW (B1 (σ:=Nat×Nat) (fun (i,j)=>[(0,.slice A1 xs.length c2),(1,.int .i64 ((a:Nat):Int)),(2,.int .i64 ((m:Nat):Int)),(3,.int .i64 ((b:Nat):Int)),(4,.func (.func 270) #[] #[]),(14,.int .i64 ((i:Nat):Int)),(15,.int .i64 ((j:Nat):Int))]) (fun (i,j) w=>(Hd w0 F0 w [Y Ag (.slice A1 xs.length c2) xs] [])∧(a≤i∧i≤j∧j≤m)∧(i=a∨∃ u,xs[i - 1]?=some u∧By x0.key u.key=false)∧(j=m∨∃ u,xs[j]?=some u∧By x0.key u.key=true)) (fun (i,j)=>j - i) (a,m) ⟨rfl,rfl,rfl,rfl,rfl,rfl,rfl,trivial⟩ ⟨H,by (try dsimp only);omega,.inl rfl,.inl rfl⟩ ?_)))))))))))
  rintro ⟨i,j⟩ w ⟨H,hij,hlow,hup⟩
  refine Aa (Aa (Ae (Ah 2 U (V U U (Br U U U) (Ab (Z ?_))))))
  refine AC U (fun h27=>?_) (fun h27=>?_)
  ·refine Az (Z (AW (Aa (Ae (Ah 2 U (V U U (Bc (z:=((i+j:Nat):Int)) U U U (by rw [AI (by omega) (by omega)];omega)) (V U U (DC (z:=((i+j:Nat):Int)) U U Dm EB (Fr (by omega) (by omega))) (V U U (Ii (z:=(((i+j) / 2:Nat):Int)) U U U (by omega) (JB _)) (V U U (DC (z:=(((i+j) / 2:Nat):Int)) U U EB Dm (AI (by omega) (by omega))) (Ad U (Ab (Z (Aa (Ce (.e 0 (.e 1 (.e 2 (.e 3 (.e 4 (.e 5 (.e 6 (.e 7 (.e 8 (.m 9 (.e 10 (.e 11 .z)))))))))))) (fun w=>∃ Ar,Hd w0 F0 w (Y Ag (.slice A1 xs.length c2) xs::Ar) []) mo (by kernel_rfl) (fun w H=>⟨_,H⟩) H (fun w H=>(Au U (Au U (Au U ?_))))))))))))))))))
   obtain ⟨x28,hx29⟩:∃ z9,xs[m]?=some z9:=⟨_,List.getElem?_eq_getElem (show m<xs.length by omega)⟩
   have th30:=H.thA 0 rfl hx29
   refine Ao U U U (fun w ⟨Ar,H⟩=>Bi (p:=Ba A1+m*2) U BM U U (by omega) (by omega) th30 U) (Ao U U U (fun w ⟨Ar,H⟩=>BG (cs:=[.string x28.key,.string x28.val]) U CF U U (H.elsA 0 U hx29 U)) (Au U (Au U ?_)))
   obtain ⟨x31,hx32⟩:∃ z9,xs[(i+j) / 2]?=some z9:=⟨_,List.getElem?_eq_getElem (show (i+j) / 2<xs.length by omega)⟩
   have th33:=H.thA 0 rfl hx32
   refine Ao U U U (fun w ⟨Ar,H⟩=>Bi (p:=Ba A1+((i+j) / 2)*2) U BM U U (by omega) (by omega) th33 U) (Ao U U U (fun w ⟨Ar,H⟩=>BG (cs:=[.string x31.key,.string x31.val]) U CF U U (H.elsA 0 U hx32 U)) (AO U (sc (IW x28 x31) H l0 U U (GI (vs:=[.agg #[.string x28.key,.string x28.val],.agg #[.string x31.key,.string x31.val]]) (fs:=#[]) (cs:=#[]) Iq9 U U U) ?_)))
   rintro _ _ w ⟨rfl,rfl⟩ H
   refine AH ⟨_,H⟩ (Ao U U U (fun w ⟨Ar,H⟩=>Br U U U) (Ao U U U (fun w ⟨Ar,H⟩=>D4 U U) (BO (Z ?_))))
   refine AC U (fun h34=>?_) (fun h34=>?_)
   ·obtain rfl:x28=x0:=Option.some.inj (hx29.symm.trans hx0)
    exact Ae (Ad U (V U U (Bc (z:=(((i+j) / 2+1:Nat):Int)) U U U (by rw [AI (by omega) (by omega)];omega)) (Ad U (Ab (Bb (Bo (s:=(i,j)) ((i+j) / 2+1,j) ⟨rfl,rfl,rfl,rfl,rfl,rfl,rfl,trivial⟩ ⟨H,by (try dsimp only);omega,.inr ⟨x31,by rw [Nat.add_sub_cancel];exact hx32,IC h34⟩,hup⟩ (by (try dsimp only);omega)))))))
   obtain rfl:x28=x0:=Option.some.inj (hx29.symm.trans hx0)
   exact Ae (Ah 2 U (Ab (Bb (Bo (s:=(i,j)) (i,(i+j) / 2) ⟨rfl,rfl,rfl,rfl,rfl,rfl,rfl,trivial⟩ ⟨H,by (try dsimp only);omega,hlow,.inr ⟨x31,hx32,Hx.1 (Classical.not_not.1 h34)⟩⟩ (by (try dsimp only);omega)))))
  refine BQ (AV (AV (BS (Z (Aa (Aa (Ae (Ah 2 U (Ab (Z (AW (B1 (σ:=Nat×List Aq) (fun (k,ys)=>[(0,.slice A1 xs.length c2),(1,.int .i64 ((a:Nat):Int)),(2,.int .i64 ((m:Nat):Int)),(3,.int .i64 ((b:Nat):Int)),(4,.func (.func 270) #[] #[]),(14,.int .i64 ((i:Nat):Int)),(17,.int .i64 ((k:Nat):Int))]) (fun (k,ys) w=>(Hd w0 F0 w [Y Ag (.slice A1 xs.length c2) ys] [])∧(i≤k∧k≤m)∧(C_ xs ys (BB k m b))) (fun (k,ys)=>k) (m,xs) ⟨rfl,rfl,rfl,rfl,rfl,rfl,rfl,trivial⟩ ⟨H,by (try dsimp only);omega,by rw [hm];exact fG xs m⟩ ?_))))))))))))
  rintro ⟨k,ys⟩ w ⟨H,hk,hv⟩
  have hl:=hv.1
  refine Aa (Aa (Ae (Ah 2 U (V U U (CH U U U) (Ab (Z ?_))))))
  refine AC U (fun h35=>?_) (fun h35=>?_)
  ·refine Az (Z (Aa (AW (Ce (.e 0 (.e 1 (.e 2 (.e 3 (.e 4 (.e 5 (.e 6 (.e 7 (.e 8 (.e 10 (.e 11 (.e 12 (.p 9 13 (.e 14 (.m 15 (.e 16 (.m 17 .z))))))))))))))))) (fun w=>∃ Ar,Hd w0 F0 w (Ar) []) mo (by kernel_rfl) (fun w H=>⟨_,H⟩) H (fun w H=>(Au U (Au U (Au U (Au U (Ao U U U (fun w ⟨Ar,H⟩=>CP (z:=((k - 1:Nat):Int)) U U U (by rw [AI (by omega) (by omega)];omega)) (Au U (Au U (Ao U U U (fun w ⟨Ar,H⟩=>CP (z:=((k - 1:Nat):Int)) U U U (by rw [AI (by omega) (by omega)];omega)) ?_)))))))))))))
   obtain ⟨x36,hx37⟩:∃ z9,ys[k - 1]?=some z9:=⟨_,List.getElem?_eq_getElem (show k - 1<ys.length by omega)⟩
   have th38:=H.thA 0 rfl hx37
   refine Ao U U U (fun w ⟨Ar,H⟩=>Bi (p:=Ba A1+(k - 1)*2) U BM U U (by omega) (by omega) th38 U) (Au U (Au U ?_))
   obtain ⟨x39,hx40⟩:∃ z9,ys[k]?=some z9:=⟨_,List.getElem?_eq_getElem (show k<ys.length by omega)⟩
   have th41:=H.thA 0 rfl hx40
   refine Ao U U U (fun w ⟨Ar,H⟩=>Bi (p:=Ba A1+k*2) U BM U U (by omega) (by omega) th41 U) (Jo U U U U U U U U (by decide) (BG (cs:=[.string x36.key,.string x36.val]) U CF U U (H.elsA 0 U hx37 U)) (BG (cs:=[.string x39.key,.string x39.val]) U CF U U (H.elsA 0 U hx40 U)) ?_)
   have th42:=H.thA 0 rfl hx40
   refine Ao U U U (fun w ⟨Ar,H⟩=>Bi (p:=Ba A1+k*2) U BM U U (by omega) (by omega) th42 U) (AO U (Hj (i:=k) (a:=x36) U U U CF U U U H (by omega) U (fun w H=>?_)))
   replace H:=H.h1 (A:=Y Ag (.slice A1 xs.length c2) (ys.set k x36))
   refine AH ⟨_,H⟩ ?_
   obtain ⟨x43,hx44⟩:∃ z9,(ys.set k x36)[k - 1]?=some z9:=⟨_,List.getElem?_eq_getElem (show k - 1<(ys.set k x36).length by simp only [List.length_set];omega)⟩
   have th45:=H.thA 0 rfl hx44
   refine Ao U U U (fun w ⟨Ar,H⟩=>Bi (p:=Ba A1+(k - 1)*2) U BM U U (by omega) (by omega) th45 U) (AO U (Hj (i:=k - 1) (a:=x39) U U U CF U U U H (by simp only [List.length_set];omega) U (fun w H=>?_)))
   replace H:=H.h1 (A:=Y Ag (.slice A1 xs.length c2) ((ys.set k x36).set (k - 1) x39))
   exact AH ⟨_,H⟩ (BO (Bb (Z (Ae (Ad U (V U U (CP (z:=((k - 1:Nat):Int)) U U U (by rw [AI (by omega) (by omega)];omega)) (Ad U (Ab (Bo (s:=(k,ys)) (k - 1,(ys.set k x36).set (k - 1) x39) ⟨rfl,rfl,rfl,rfl,rfl,rfl,rfl,trivial⟩ ⟨H,by (try dsimp only);omega,fD hm (by omega) (by omega) hv hx40 hx37⟩ (by (try dsimp only);omega))))))))))
  refine BQ (AV (AV (BS (Z (An (AA (No U ?_)))))))
  obtain rfl:j=i:=by omega
  obtain rfl:j=k:=by omega
  exact Al ⟨_,rfl,YD hm hv (by omega) (by omega) (by omega) hs1 hx0 hlow hup⟩ H
 refine Az (Z (Aa (Ae (Ah 2 U (V U U (Bc (z:=((a+b:Nat):Int)) U U U (by rw [AI (by omega) (by omega)];omega)) (V U U (DC (z:=((a+b:Nat):Int)) U U Dm EB (Fr (by omega) (by omega))) (V U U (Ii (z:=(((a+b) / 2:Nat):Int)) U U U (by omega) (JB _)) (V U U (DC (z:=(((a+b) / 2:Nat):Int)) U U EB Dm (AI (by omega) (by omega))) (Ad U (Ab (Z (Aa ?_))))))))))))
 generalize hmd:(a+b) / 2=md
 refine Ae (Ah 2 U (V U U (Bc (z:=((md+m:Nat):Int)) U U U (by rw [AI (by omega) (by omega)];omega)) (Ad U (Ab (Z (Aa (Ae (Ah 2 U (Ab (Z (Aa (Aa (Ae (Ah 2 U (V U U (CH U U U) (Ab (Z ?_)))))))))))))))))
 refine AC U (fun h46=>?_) (fun h46=>?_)
 ·refine Aa (Ae (Ah 2 U (V U U (CP (z:=((md+m - b:Nat):Int)) U U U (by rw [AI (by omega) (by omega)];omega)) (Ad U (Ab (Z (Ae (Ah 2 U (Ab (Z (Aa (Ae (Ad U (V U U (CP (z:=((md+m - 1:Nat):Int)) U U U (by rw [AI (by omega) (by omega)];omega)) (Ad U (Ab (Z (Aa (AW (B1 (σ:=Nat×Nat) (fun (i,j)=>[(0,.slice A1 xs.length c2),(1,.int .i64 ((a:Nat):Int)),(2,.int .i64 ((m:Nat):Int)),(3,.int .i64 ((b:Nat):Int)),(4,.func (.func 270) #[] #[]),(18,.int .i64 ((md:Nat):Int)),(19,.int .i64 ((md+m:Nat):Int)),(20,.int .i64 ((i:Nat):Int)),(21,.int .i64 ((j:Nat):Int)),(22,.int .i64 ((md+m - 1:Nat):Int))]) (fun (i,j) w=>(Hd w0 F0 w [Y Ag (.slice A1 xs.length c2) xs] [])∧(md+m - b≤i∧i≤j∧j≤md)∧(i=md+m - b∨∃ u v,xs[i - 1]?=some u∧xs[md+m - i]?=some v∧By v.key u.key=false)∧(j=md∨∃ u v,xs[md+m - j - 1]?=some u∧xs[j]?=some v∧By u.key v.key=true)) (fun (i,j)=>j - i) (md+m - b,md) ⟨rfl,rfl,rfl,rfl,rfl,rfl,rfl,rfl,rfl,rfl,trivial⟩ ⟨H,by (try dsimp only);omega,.inl rfl,.inl rfl⟩ ?_))))))))))))))))))))
  rintro ⟨i,j⟩ w ⟨H,hij,hlow,hup⟩
  refine Aa (Aa (Ae (Ah 2 U (V U U (Br U U U) (Ab (Z ?_))))))
  refine AC U (fun h47=>?_) (fun h47=>?_)
  ·refine Az (Z (AW (Aa (Ae (Ah 2 U (V U U (Bc (z:=((i+j:Nat):Int)) U U U (by rw [AI (by omega) (by omega)];omega)) (V U U (DC (z:=((i+j:Nat):Int)) U U Dm EB (Fr (by omega) (by omega))) (V U U (Ii (z:=(((i+j) / 2:Nat):Int)) U U U (by omega) (JB _)) (V U U (DC (z:=(((i+j) / 2:Nat):Int)) U U EB Dm (AI (by omega) (by omega))) (Ad U (Ab (Z (Aa (Ce (.e 0 (.e 1 (.e 2 (.e 3 (.e 4 (.e 5 (.e 6 (.e 7 (.e 8 (.e 9 (.e 10 (.m 11 (.e 12 (.e 13 .z)))))))))))))) (fun w=>∃ Ar,Hd w0 F0 w (Y Ag (.slice A1 xs.length c2) xs::Ar) []) mo (by kernel_rfl) (fun w H=>⟨_,H⟩) H (fun w H=>(Au U (Au U (Au U (Au U (Ao U U U (fun w ⟨Ar,H⟩=>CP (z:=((md+m - 1 - ((i+j) / 2):Nat):Int)) U U U (by rw [AI (by omega) (by omega)];omega)) ?_))))))))))))))))))))
   obtain ⟨x48,hx49⟩:∃ z9,xs[md+m - 1 - ((i+j) / 2)]?=some z9:=⟨_,List.getElem?_eq_getElem (show md+m - 1 - ((i+j) / 2)<xs.length by omega)⟩
   have th50:=H.thA 0 rfl hx49
   refine Ao U U U (fun w ⟨Ar,H⟩=>Bi (p:=Ba A1+(md+m - 1 - ((i+j) / 2))*2) U BM U U (by omega) (by omega) th50 U) (Ao U U U (fun w ⟨Ar,H⟩=>BG (cs:=[.string x48.key,.string x48.val]) U CF U U (H.elsA 0 U hx49 U)) (Au U (Au U ?_)))
   obtain ⟨x51,hx52⟩:∃ z9,xs[(i+j) / 2]?=some z9:=⟨_,List.getElem?_eq_getElem (show (i+j) / 2<xs.length by omega)⟩
   have th53:=H.thA 0 rfl hx52
   refine Ao U U U (fun w ⟨Ar,H⟩=>Bi (p:=Ba A1+((i+j) / 2)*2) U BM U U (by omega) (by omega) th53 U) (Ao U U U (fun w ⟨Ar,H⟩=>BG (cs:=[.string x51.key,.string x51.val]) U CF U U (H.elsA 0 U hx52 U)) (AO U (sc (IW x48 x51) H l0 U U (GI (vs:=[.agg #[.string x48.key,.string x48.val],.agg #[.string x51.key,.string x51.val]]) (fs:=#[]) (cs:=#[]) Iq9 U U U) ?_)))
   rintro _ _ w ⟨rfl,rfl⟩ H
   refine AH ⟨_,H⟩ (Ao U U U (fun w ⟨Ar,H⟩=>Br U U U) (Ao U U U (fun w ⟨Ar,H⟩=>D4 U U) (BO (Z ?_))))
   refine AC U (fun h54=>?_) (fun h54=>?_)
   ·exact Ae (Ad U (V U U (Bc (z:=(((i+j) / 2+1:Nat):Int)) U U U (by rw [AI (by omega) (by omega)];omega)) (Ad U (Ab (Bb (Bo (s:=(i,j)) ((i+j) / 2+1,j) ⟨rfl,rfl,rfl,rfl,rfl,rfl,rfl,rfl,rfl,rfl,trivial⟩ ⟨H,by (try dsimp only);omega,.inr ⟨x51,x48,by rw [Nat.add_sub_cancel];exact hx52,by rw [show md+m - ((i+j) / 2+1)=md+m - 1 - (i+j) / 2 by omega];exact hx49,IC h54⟩,hup⟩ (by (try dsimp only);omega)))))))
   exact Ae (Ah 2 U (Ab (Bb (Bo (s:=(i,j)) (i,(i+j) / 2) ⟨rfl,rfl,rfl,rfl,rfl,rfl,rfl,rfl,rfl,rfl,trivial⟩ ⟨H,by (try dsimp only);omega,hlow,.inr ⟨x48,x51,by rw [show md+m - (i+j) / 2 - 1=md+m - 1 - (i+j) / 2 by omega];exact hx49,hx52,Hx.1 (Classical.not_not.1 h54)⟩⟩ (by (try dsimp only);omega)))))
  refine BQ (AV (AV (BS (Z (Aa ?_)))))
  obtain rfl:j=i:=by omega
  have hlow2:j=a∨md+m - j=b∨∃ u v,xs[j - 1]?=some u∧xs[md+m - j]?=some v∧By v.key u.key=false:=hlow.elim (fun h=>.inr (.inl (by omega))) (fun h=>.inr (.inr h))
  have hup2:j=m∨md+m - j=m∨∃ u v,xs[md+m - j - 1]?=some u∧xs[j]?=some v∧By u.key v.key=true:=hup.elim (fun h=>.inr (.inl (by omega))) (fun h=>.inr (.inr h))
  have hbd:a≤j∧j≤m∧m≤md+m - j∧md+m - j≤b∧md=j+(md+m - j - m):=by omega
  refine Ae (Ah 2 U (V U U (CP (z:=((md+m - j:Nat):Int)) U U U (by rw [AI (by omega) (by omega)];omega)) (Ad U (Ab (Z ?_)))))
  refine Hw (σ:=List Aq) (fun ys=>[(0,.slice A1 xs.length c2),(1,.int .i64 ((a:Nat):Int)),(2,.int .i64 ((m:Nat):Int)),(3,.int .i64 ((b:Nat):Int)),(4,.func (.func 270) #[] #[]),(18,.int .i64 ((md:Nat):Int)),(20,.int .i64 ((j:Nat):Int)),(24,.int .i64 ((md+m - j:Nat):Int))]) (fun ys w=>(Hd w0 F0 w [Y Ag (.slice A1 xs.length c2) ys] [])∧(C_ xs ys (BB j m (md+m - j)))) ?_ ?_
  ·refine Aa (Ae (Ah 2 U (V U U (Br U U U) (Ad U ?_))))
   refine AQ (d:=181) U (fun h55=>?_) (fun h55=>?_)
   ·refine Ah 2 U (V U U (Br U U U) (Ad U (Ab (Z ?_))))
    refine AC U (fun h56=>?_) (fun h56=>?_)
    ·refine Ae (Ah 5 U (sc (Sz (.slice A1 xs.length c2) xs j m (md+m - j) (by omega) (by omega) (by omega) (by omega)) H l0 U U (Av QI U U) ?_))
     rintro _ _ w ⟨ys57,rfl,hv58⟩ H
     exact Ab (Dk ys57 ⟨rfl,rfl,rfl,rfl,rfl,rfl,rfl,rfl,trivial⟩ ⟨H,hv58⟩)
    exact Az (Dk xs ⟨rfl,rfl,rfl,rfl,rfl,rfl,rfl,rfl,trivial⟩ ⟨H,LL xs (by omega) (by omega) (by omega)⟩)
   exact Ah 4 U (Ab (Z (Ch U (Az (Dk xs ⟨rfl,rfl,rfl,rfl,rfl,rfl,rfl,rfl,trivial⟩ ⟨H,LL xs (by omega) (by omega) (by omega)⟩)))))
  rintro ys w ⟨H,hv⟩
  have hl:=hv.1
  have hru:=Lq hv hbd.1 hbd.2.1 hbd.2.2.1 hbd.2.2.2.1 hbd.2.2.2.2 hs1 hs2
  refine Hw (σ:=List Aq) (fun zs=>[(0,.slice A1 xs.length c2),(1,.int .i64 ((a:Nat):Int)),(2,.int .i64 ((m:Nat):Int)),(3,.int .i64 ((b:Nat):Int)),(4,.func (.func 270) #[] #[]),(18,.int .i64 ((md:Nat):Int)),(20,.int .i64 ((j:Nat):Int)),(24,.int .i64 ((md+m - j:Nat):Int))]) (fun zs w=>(Hd w0 F0 w [Y Ag (.slice A1 xs.length c2) zs] [])∧(C9 ys zs a md)) ?_ ?_
  ·refine Aa (Ae (Ah 2 U (V U U (Br U U U) (Ad U ?_))))
   refine AQ (d:=195) U (fun h59=>?_) (fun h59=>?_)
   ·refine Ah 2 U (V U U (Br U U U) (Ad U (Ab (Z ?_))))
    refine AC U (fun h60=>?_) (fun h60=>?_)
    ·refine Ae (Ah 5 U (sc (ih (.slice A1 xs.length c2) ys a j md (by omega) (by omega) (by omega) (by omega) (by omega) hru.1 hru.2.1) H l0 U U (Av IQ U U) ?_))
     rintro _ _ w ⟨ys61,rfl,hv62⟩ H
     exact Ab (Dk ys61 ⟨rfl,rfl,rfl,rfl,rfl,rfl,rfl,rfl,trivial⟩ ⟨H,hv62⟩)
    exact Az (Dk ys ⟨rfl,rfl,rfl,rfl,rfl,rfl,rfl,rfl,trivial⟩ ⟨H,C9.refl (HR hru.1 hru.2.1 (by omega) hbd.1)⟩)
   exact Ah 4 U (Ab (Z (Ch U (Az (Dk ys ⟨rfl,rfl,rfl,rfl,rfl,rfl,rfl,rfl,trivial⟩ ⟨H,C9.refl (HR hru.1 hru.2.1 (by omega) hbd.1)⟩)))))
  rintro zs w ⟨H,hz⟩
  have hl3:=hz.ins.1
  have hr3:Cc zs md (md+m - j):=hru.2.2.1.same (fun t h1 h2=>hz.ins.2.1 t (by omega))
  have hr4:Cc zs (md+m - j) b:=hru.2.2.2.same (fun t h1 h2=>hz.ins.2.1 t (by omega))
  refine Aa (Ae (Ah 2 U (V U U (Br U U U) (Ad U ?_))))
  refine AQ (d:=209) U (fun h63=>?_) (fun h63=>?_)
  ·refine Ah 2 U (V U U (Br U U U) (Ad U (Ab (Z ?_))))
   refine AC U (fun h64=>?_) (fun h64=>?_)
   ·refine Ae (Ah 5 U (sc (ih (.slice A1 xs.length c2) zs md (md+m - j) b (by omega) (by omega) (by omega) (by omega) (by omega) hr3 hr4) H l0 U U (Av IQ U U) ?_))
    rintro _ _ w ⟨ys65,rfl,hv66⟩ H
    exact Ab (DX U (Al ⟨_,rfl,HI hv hbd.1 hbd.2.1 hbd.2.2.1 hbd.2.2.2.1 (by omega) hbd.2.2.2.2 hs1 hs2 hlow2 hup2 hz hv66⟩ H))
   exact Az (DX U (Al ⟨_,rfl,HI hv hbd.1 hbd.2.1 hbd.2.2.1 hbd.2.2.2.1 (by omega) hbd.2.2.2.2 hs1 hs2 hlow2 hup2 hz (C9.refl (HR hr3 hr4 (by omega) (by omega)))⟩ H))
  exact Ah 4 U (Ab (Z (Ch U (Az (DX U (Al ⟨_,rfl,HI hv hbd.1 hbd.2.1 hbd.2.2.1 hbd.2.2.2.1 (by omega) hbd.2.2.2.2 hs1 hs2 hlow2 hup2 hz (C9.refl (HR hr3 hr4 (by omega) (by omega)))⟩ H))))))
 refine Aa (Ae (Ah 2 U (Ab (Z (Ae (Ah 2 U (Ab (Z (Aa (Ae (Ad U (V U U (CP (z:=((md+m - 1:Nat):Int)) U U U (by rw [AI (by omega) (by omega)];omega)) (Ad U (Ab (Z (Aa (AW (B1 (σ:=Nat×Nat) (fun (i,j)=>[(0,.slice A1 xs.length c2),(1,.int .i64 ((a:Nat):Int)),(2,.int .i64 ((m:Nat):Int)),(3,.int .i64 ((b:Nat):Int)),(4,.func (.func 270) #[] #[]),(18,.int .i64 ((md:Nat):Int)),(19,.int .i64 ((md+m:Nat):Int)),(20,.int .i64 ((i:Nat):Int)),(21,.int .i64 ((j:Nat):Int)),(22,.int .i64 ((md+m - 1:Nat):Int))]) (fun (i,j) w=>(Hd w0 F0 w [Y Ag (.slice A1 xs.length c2) xs] [])∧(a≤i∧i≤j∧j≤m)∧(i=a∨∃ u v,xs[i - 1]?=some u∧xs[md+m - i]?=some v∧By v.key u.key=false)∧(j=m∨∃ u v,xs[md+m - j - 1]?=some u∧xs[j]?=some v∧By u.key v.key=true)) (fun (i,j)=>j - i) (a,m) ⟨rfl,rfl,rfl,rfl,rfl,rfl,rfl,rfl,rfl,rfl,trivial⟩ ⟨H,by (try dsimp only);omega,.inl rfl,.inl rfl⟩ ?_))))))))))))))))))
 rintro ⟨i,j⟩ w ⟨H,hij,hlow,hup⟩
 refine Aa (Aa (Ae (Ah 2 U (V U U (Br U U U) (Ab (Z ?_))))))
 refine AC U (fun h67=>?_) (fun h67=>?_)
 ·refine Az (Z (AW (Aa (Ae (Ah 2 U (V U U (Bc (z:=((i+j:Nat):Int)) U U U (by rw [AI (by omega) (by omega)];omega)) (V U U (DC (z:=((i+j:Nat):Int)) U U Dm EB (Fr (by omega) (by omega))) (V U U (Ii (z:=(((i+j) / 2:Nat):Int)) U U U (by omega) (JB _)) (V U U (DC (z:=(((i+j) / 2:Nat):Int)) U U EB Dm (AI (by omega) (by omega))) (Ad U (Ab (Z (Aa (Ce (.e 0 (.e 1 (.e 2 (.e 3 (.e 4 (.e 5 (.e 6 (.e 7 (.e 8 (.e 9 (.e 10 (.m 11 (.e 12 (.e 13 .z)))))))))))))) (fun w=>∃ Ar,Hd w0 F0 w (Y Ag (.slice A1 xs.length c2) xs::Ar) []) mo (by kernel_rfl) (fun w H=>⟨_,H⟩) H (fun w H=>(Au U (Au U (Au U (Au U (Ao U U U (fun w ⟨Ar,H⟩=>CP (z:=((md+m - 1 - ((i+j) / 2):Nat):Int)) U U U (by rw [AI (by omega) (by omega)];omega)) ?_))))))))))))))))))))
  obtain ⟨x68,hx69⟩:∃ z9,xs[md+m - 1 - ((i+j) / 2)]?=some z9:=⟨_,List.getElem?_eq_getElem (show md+m - 1 - ((i+j) / 2)<xs.length by omega)⟩
  have th70:=H.thA 0 rfl hx69
  refine Ao U U U (fun w ⟨Ar,H⟩=>Bi (p:=Ba A1+(md+m - 1 - ((i+j) / 2))*2) U BM U U (by omega) (by omega) th70 U) (Ao U U U (fun w ⟨Ar,H⟩=>BG (cs:=[.string x68.key,.string x68.val]) U CF U U (H.elsA 0 U hx69 U)) (Au U (Au U ?_)))
  obtain ⟨x71,hx72⟩:∃ z9,xs[(i+j) / 2]?=some z9:=⟨_,List.getElem?_eq_getElem (show (i+j) / 2<xs.length by omega)⟩
  have th73:=H.thA 0 rfl hx72
  refine Ao U U U (fun w ⟨Ar,H⟩=>Bi (p:=Ba A1+((i+j) / 2)*2) U BM U U (by omega) (by omega) th73 U) (Ao U U U (fun w ⟨Ar,H⟩=>BG (cs:=[.string x71.key,.string x71.val]) U CF U U (H.elsA 0 U hx72 U)) (AO U (sc (IW x68 x71) H l0 U U (GI (vs:=[.agg #[.string x68.key,.string x68.val],.agg #[.string x71.key,.string x71.val]]) (fs:=#[]) (cs:=#[]) Iq9 U U U) ?_)))
  rintro _ _ w ⟨rfl,rfl⟩ H
  refine AH ⟨_,H⟩ (Ao U U U (fun w ⟨Ar,H⟩=>Br U U U) (Ao U U U (fun w ⟨Ar,H⟩=>D4 U U) (BO (Z ?_))))
  refine AC U (fun h74=>?_) (fun h74=>?_)
  ·exact Ae (Ad U (V U U (Bc (z:=(((i+j) / 2+1:Nat):Int)) U U U (by rw [AI (by omega) (by omega)];omega)) (Ad U (Ab (Bb (Bo (s:=(i,j)) ((i+j) / 2+1,j) ⟨rfl,rfl,rfl,rfl,rfl,rfl,rfl,rfl,rfl,rfl,trivial⟩ ⟨H,by (try dsimp only);omega,.inr ⟨x71,x68,by rw [Nat.add_sub_cancel];exact hx72,by rw [show md+m - ((i+j) / 2+1)=md+m - 1 - (i+j) / 2 by omega];exact hx69,IC h74⟩,hup⟩ (by (try dsimp only);omega)))))))
  exact Ae (Ah 2 U (Ab (Bb (Bo (s:=(i,j)) (i,(i+j) / 2) ⟨rfl,rfl,rfl,rfl,rfl,rfl,rfl,rfl,rfl,rfl,trivial⟩ ⟨H,by (try dsimp only);omega,hlow,.inr ⟨x68,x71,by rw [show md+m - (i+j) / 2 - 1=md+m - 1 - (i+j) / 2 by omega];exact hx69,hx72,Hx.1 (Classical.not_not.1 h74)⟩⟩ (by (try dsimp only);omega)))))
 refine BQ (AV (AV (BS (Z (Aa ?_)))))
 obtain rfl:j=i:=by omega
 have hlow2:j=a∨md+m - j=b∨∃ u v,xs[j - 1]?=some u∧xs[md+m - j]?=some v∧By v.key u.key=false:=hlow.elim (fun h=>.inl (by omega)) (fun h=>.inr (.inr h))
 have hup2:j=m∨md+m - j=m∨∃ u v,xs[md+m - j - 1]?=some u∧xs[j]?=some v∧By u.key v.key=true:=hup.elim (fun h=>.inl (by omega)) (fun h=>.inr (.inr h))
 have hbd:a≤j∧j≤m∧m≤md+m - j∧md+m - j≤b∧md=j+(md+m - j - m):=by omega
 refine Ae (Ah 2 U (V U U (CP (z:=((md+m - j:Nat):Int)) U U U (by rw [AI (by omega) (by omega)];omega)) (Ad U (Ab (Z ?_)))))
 refine Hw (σ:=List Aq) (fun ys=>[(0,.slice A1 xs.length c2),(1,.int .i64 ((a:Nat):Int)),(2,.int .i64 ((m:Nat):Int)),(3,.int .i64 ((b:Nat):Int)),(4,.func (.func 270) #[] #[]),(18,.int .i64 ((md:Nat):Int)),(20,.int .i64 ((j:Nat):Int)),(24,.int .i64 ((md+m - j:Nat):Int))]) (fun ys w=>(Hd w0 F0 w [Y Ag (.slice A1 xs.length c2) ys] [])∧(C_ xs ys (BB j m (md+m - j)))) ?_ ?_
 ·refine Aa (Ae (Ah 2 U (V U U (Br U U U) (Ad U ?_))))
  refine AQ (d:=181) U (fun h75=>?_) (fun h75=>?_)
  ·refine Ah 2 U (V U U (Br U U U) (Ad U (Ab (Z ?_))))
   refine AC U (fun h76=>?_) (fun h76=>?_)
   ·refine Ae (Ah 5 U (sc (Sz (.slice A1 xs.length c2) xs j m (md+m - j) (by omega) (by omega) (by omega) (by omega)) H l0 U U (Av QI U U) ?_))
    rintro _ _ w ⟨ys77,rfl,hv78⟩ H
    exact Ab (Dk ys77 ⟨rfl,rfl,rfl,rfl,rfl,rfl,rfl,rfl,trivial⟩ ⟨H,hv78⟩)
   exact Az (Dk xs ⟨rfl,rfl,rfl,rfl,rfl,rfl,rfl,rfl,trivial⟩ ⟨H,LL xs (by omega) (by omega) (by omega)⟩)
  exact Ah 4 U (Ab (Z (Ch U (Az (Dk xs ⟨rfl,rfl,rfl,rfl,rfl,rfl,rfl,rfl,trivial⟩ ⟨H,LL xs (by omega) (by omega) (by omega)⟩)))))
 rintro ys w ⟨H,hv⟩
 have hl:=hv.1
 have hru:=Lq hv hbd.1 hbd.2.1 hbd.2.2.1 hbd.2.2.2.1 hbd.2.2.2.2 hs1 hs2
 refine Hw (σ:=List Aq) (fun zs=>[(0,.slice A1 xs.length c2),(1,.int .i64 ((a:Nat):Int)),(2,.int .i64 ((m:Nat):Int)),(3,.int .i64 ((b:Nat):Int)),(4,.func (.func 270) #[] #[]),(18,.int .i64 ((md:Nat):Int)),(20,.int .i64 ((j:Nat):Int)),(24,.int .i64 ((md+m - j:Nat):Int))]) (fun zs w=>(Hd w0 F0 w [Y Ag (.slice A1 xs.length c2) zs] [])∧(C9 ys zs a md)) ?_ ?_
 ·refine Aa (Ae (Ah 2 U (V U U (Br U U U) (Ad U ?_))))
  refine AQ (d:=195) U (fun h79=>?_) (fun h79=>?_)
  ·refine Ah 2 U (V U U (Br U U U) (Ad U (Ab (Z ?_))))
   refine AC U (fun h80=>?_) (fun h80=>?_)
   ·refine Ae (Ah 5 U (sc (ih (.slice A1 xs.length c2) ys a j md (by omega) (by omega) (by omega) (by omega) (by omega) hru.1 hru.2.1) H l0 U U (Av IQ U U) ?_))
    rintro _ _ w ⟨ys81,rfl,hv82⟩ H
    exact Ab (Dk ys81 ⟨rfl,rfl,rfl,rfl,rfl,rfl,rfl,rfl,trivial⟩ ⟨H,hv82⟩)
   exact Az (Dk ys ⟨rfl,rfl,rfl,rfl,rfl,rfl,rfl,rfl,trivial⟩ ⟨H,C9.refl (HR hru.1 hru.2.1 (by omega) hbd.1)⟩)
  exact Ah 4 U (Ab (Z (Ch U (Az (Dk ys ⟨rfl,rfl,rfl,rfl,rfl,rfl,rfl,rfl,trivial⟩ ⟨H,C9.refl (HR hru.1 hru.2.1 (by omega) hbd.1)⟩)))))
 rintro zs w ⟨H,hz⟩
 have hl3:=hz.ins.1
 have hr3:Cc zs md (md+m - j):=hru.2.2.1.same (fun t h1 h2=>hz.ins.2.1 t (by omega))
 have hr4:Cc zs (md+m - j) b:=hru.2.2.2.same (fun t h1 h2=>hz.ins.2.1 t (by omega))
 refine Aa (Ae (Ah 2 U (V U U (Br U U U) (Ad U ?_))))
 refine AQ (d:=209) U (fun h83=>?_) (fun h83=>?_)
 ·refine Ah 2 U (V U U (Br U U U) (Ad U (Ab (Z ?_))))
  refine AC U (fun h84=>?_) (fun h84=>?_)
  ·refine Ae (Ah 5 U (sc (ih (.slice A1 xs.length c2) zs md (md+m - j) b (by omega) (by omega) (by omega) (by omega) (by omega) hr3 hr4) H l0 U U (Av IQ U U) ?_))
   rintro _ _ w ⟨ys85,rfl,hv86⟩ H
   exact Ab (DX U (Al ⟨_,rfl,HI hv hbd.1 hbd.2.1 hbd.2.2.1 hbd.2.2.2.1 (by omega) hbd.2.2.2.2 hs1 hs2 hlow2 hup2 hz hv86⟩ H))
  exact Az (DX U (Al ⟨_,rfl,HI hv hbd.1 hbd.2.1 hbd.2.2.1 hbd.2.2.2.1 (by omega) hbd.2.2.2.2 hs1 hs2 hlow2 hup2 hz (C9.refl (HR hr3 hr4 (by omega) (by omega)))⟩ H))
 exact Ah 4 U (Ab (Z (Ch U (Az (DX U (Al ⟨_,rfl,HI hv hbd.1 hbd.2.1 hbd.2.2.1 hbd.2.2.2.1 (by omega) hbd.2.2.2.2 hs1 hs2 hlow2 hup2 hz (C9.refl (HR hr3 hr4 (by omega) (by omega)))⟩ H))))))
theorem NO:∀ (N:Nat) (v:Value) (xs:List Aq) (a m b:Nat),b - a<N→a<m→m<b→b≤xs.length→xs.length≤1000000→Cc xs a m→Cc xs m b→Cn Tryz.prog 314 [v,.int .i64 ((a:Nat):Int),.int .i64 ((m:Nat):Int),.int .i64 ((b:Nat):Int),.func (.func 270) #[] #[]] [Y Ag v xs] [] (fun _ Bs=>∃ ys,Bs=[Y Ag v ys]∧C9 xs ys a b)
 |0,_,_,_,_,_,h=>absurd h (Nat.not_lt_zero _)
 |N+1,v,xs,a,m,b,h=>fun h1 h2 h3 h4 h5 h6=>dY N (NO N) v xs a m b h h1 h2 h3 h4 h5 h6
theorem dS (v:Value) (xs:List Aq) (n:Nat) (hn:n=xs.length) (hb:xs.length≤1000000):
    Cn Tryz.prog 285 [v,.int .i64 ((n:Nat):Int),.func (.func 270) #[] #[]] [Y Ag v xs] [] (fun _ Bs=>∃ ys,Bs=[Y Ag v ys]∧ys=srt xs):=by
 intro w0 F0 H
 obtain ⟨A1,c2,rfl,hc3,hm4,hp5⟩:=H.fA 0 rfl
 refine enter Tryz.func285 U U (Nat.le_of_ble_eq_true U) (Aa (Ae (Ad U (Ab (Z ?_)))))
 replace H:Hd _ _ _ [Y Ag (.slice A1 xs.length c2) xs] []:=H
 refine Aa (Ae (Ah 3 U (Ab (Z (Aa (AW (B1 (σ:=Nat×List Aq) (fun (a,ys)=>[(0,.slice A1 xs.length c2),(1,.int .i64 ((n:Nat):Int)),(2,.func (.func 270) #[] #[]),(6,.int .i64 20),(7,.int .i64 ((a:Nat):Int)),(8,.int .i64 ((a+20:Nat):Int))]) (fun (a,ys) w=>(Hd w0 F0 w [Y Ag (.slice A1 xs.length c2) ys] [])∧(a%20=0∧a≤n∧ys.length=xs.length)∧(Co xs ys)∧(D5 ys 0 a 20)) (fun (a,ys)=>n - a) (0,xs) ⟨rfl,rfl,rfl,rfl,rfl,rfl,trivial⟩ ⟨H,by (try dsimp only);omega,Co.refl _,D5.nil _ _⟩ ?_)))))))
 rintro ⟨a,ys⟩ w ⟨H,ha,hst,hbl⟩
 refine Aa (Aa (Ae (Ah 2 U (V U U (CD U U U) (Ab (Z ?_))))))
 refine AC U (fun h6=>?_) (fun h6=>?_)
 ·refine Az (Z (AW (Aa (Ae (Ah 4 U (sc (Qc (.slice A1 xs.length c2) ys a (a+20) (by omega) (by omega) (by omega)) H l0 U U (Av QE U U) ?_))))))
  rintro _ _ w ⟨ys7,rfl,hv8⟩ H
  replace H:=H.h1 (A:=Y Ag (.slice A1 xs.length c2) ys7)
  exact Ab (Z (Aa (Ae (Ah 2 U (Ab (Z (Ae (Ah 2 U (V U U (Bc (z:=((a+20+20:Nat):Int)) U U U (by rw [AI (by omega) (by omega)];omega)) (Ad U (Ab (Bb (Bo (s:=(a,ys)) (a+20,ys7) ⟨rfl,rfl,rfl,rfl,rfl,rfl,trivial⟩ ⟨H,by (try dsimp only);rw [hv8.ins.1];omega,hst.trans hv8.stab,hbl.more (c:=a / 20) (by omega) (Nat.le_refl _) hv8.ins hv8.srt⟩ (by (try dsimp only);omega))))))))))))))
 refine BQ (AV (AV (BS (Z (Aa (Ae (Ah 4 U (sc (Qc (.slice A1 xs.length c2) ys a n (by omega) (by omega) (by omega)) H l0 U U (Av QE U U) ?_))))))))
 rintro _ _ w ⟨ys9,rfl,hv10⟩ H
 replace H:=H.h1 (A:=Y Ag (.slice A1 xs.length c2) ys9)
 refine Ab (Z (AW (B1 (σ:=Nat×List Aq) (fun (bs,ys)=>[(0,.slice A1 xs.length c2),(1,.int .i64 ((n:Nat):Int)),(2,.func (.func 270) #[] #[]),(6,.int .i64 ((bs:Nat):Int))]) (fun (bs,ys) w=>(Hd w0 F0 w [Y Ag (.slice A1 xs.length c2) ys] [])∧(20≤bs∧bs≤4000000∧ys.length=xs.length)∧(Co xs ys)∧(D5 ys 0 n bs)) (fun (bs,ys)=>n - bs) (20,ys9) ⟨rfl,rfl,rfl,rfl,trivial⟩ ⟨H,by (try dsimp only);rw [hv10.ins.1];omega,hst.trans hv10.stab,hbl.more (c:=a / 20) (by omega) (by omega) hv10.ins hv10.srt⟩ ?_)))
 rintro ⟨bs,ys⟩ w ⟨H,hbs,hst2,hbl2⟩
 refine Aa (Aa (Ae (Ah 2 U (V U U (Br U U U) (Ab (Z ?_))))))
 refine AC U (fun h11=>?_) (fun h11=>?_)
 ·refine Az (Z (AW (Aa (Ae (Ad U (V U U (HN (z:=((2*bs:Nat):Int)) U U U (by rw [AI (by omega) (by omega)];omega)) (Ah 2 U (Ab (Z (Aa (AW (B1 (σ:=Nat×List Aq) (fun (a,zs)=>[(0,.slice A1 xs.length c2),(1,.int .i64 ((n:Nat):Int)),(2,.func (.func 270) #[] #[]),(6,.int .i64 ((bs:Nat):Int)),(7,.int .i64 ((a:Nat):Int)),(8,.int .i64 ((a+2*bs:Nat):Int))]) (fun (a,zs) w=>(Hd w0 F0 w [Y Ag (.slice A1 xs.length c2) zs] [])∧(a≤n∧zs.length=xs.length)∧(∃ c,a=c*(2*bs))∧(Co xs zs)∧(D5 zs 0 a (2*bs))∧(D5 zs a n bs)) (fun (a,zs)=>n - a) (0,ys) ⟨rfl,rfl,rfl,rfl,rfl,congrArg (fun z=>some (Value.int .i64 z)) (by (try dsimp only);omega),trivial⟩ ⟨H,by (try dsimp only);omega,⟨0,by simp⟩,hst2,D5.nil _ _,hbl2⟩ ?_))))))))))))
  rintro ⟨a,zs⟩ w ⟨H,ha3,hac,hst3,hlo,hhi⟩
  refine Aa (Aa (Ae (Ah 2 U (V U U (CD U U U) (Ab (Z ?_))))))
  refine AC U (fun h12=>?_) (fun h12=>?_)
  ·refine Az (Z (AW (Aa (Ae (Ah 4 U (V U U (Bc (z:=((a+bs:Nat):Int)) U U U (by rw [AI (by omega) (by omega)];omega)) (Ah 2 U (sc (NO (a+2*bs - a+1) (.slice A1 xs.length c2) zs a (a+bs) (a+2*bs) (by omega) (by omega) (by omega) (by omega) (by omega) (Kn hhi hac (by omega)).1 ((Kn hhi hac (by omega)).2 _ (by omega) (by omega))) H l0 U U (Av IQ U U) ?_))))))))
   rintro _ _ w ⟨ys13,rfl,hv14⟩ H
   replace H:=H.h1 (A:=Y Ag (.slice A1 xs.length c2) ys13)
   exact Ab (Z (Aa (Ae (Ah 2 U (Ab (Z (Ae (Ah 2 U (V U U (HN (z:=((2*bs:Nat):Int)) U U U (by rw [AI (by omega) (by omega)];omega)) (V U U (Bc (z:=((a+2*bs+2*bs:Nat):Int)) U U U (by rw [AI (by omega) (by omega)];omega)) (Ad U (Ab (Bb (Bo (s:=(a,zs)) (a+2*bs,ys13) ⟨rfl,rfl,rfl,rfl,rfl,rfl,trivial⟩ ⟨H,by (try dsimp only);rw [hv14.ins.1];omega,YI hac,hst3.trans hv14.stab,LX hlo hac (Nat.le_refl _) hv14,hhi.same (by omega) (fun t ht=>hv14.ins.2.1 t (by omega))⟩ (by (try dsimp only);omega)))))))))))))))
  refine BQ (AV (AV (BS (Z (Aa (Aa (Ae (Ah 2 U (V U U (Bc (z:=((a+bs:Nat):Int)) U U U (by rw [AI (by omega) (by omega)];omega)) (Ad U (Ab (Z (Aa (Ae (Ah 2 U (V U U (Br U U U) (Ab (Z ?_))))))))))))))))))
  refine AC U (fun h15=>?_) (fun h15=>?_)
  ·refine Ae (Ah 5 U (sc (NO (n - a+1) (.slice A1 xs.length c2) zs a (a+bs) n (by omega) (by omega) (by omega) (by omega) (by omega) (Kn hhi hac (by omega)).1 ((Kn hhi hac (by omega)).2 _ (by omega) (by omega))) H l0 U U (Av IQ U U) ?_))
   rintro _ _ w ⟨ys16,rfl,hv17⟩ H
   replace H:=H.h1 (A:=Y Ag (.slice A1 xs.length c2) ys16)
   refine Ab (Z ?_)
   have hfin:=LX hlo hac (by omega) hv17
   have hlen4:=hv17.ins.1
   exact Ae (Ad U (V U U (HN (z:=((bs*2:Nat):Int)) U U U (by rw [AI (by omega) (by omega)];omega)) (Ad U (Ab (Bb (Bo (s:=(bs,ys)) (bs*2,ys16) ⟨rfl,rfl,rfl,rfl,trivial⟩ ⟨H,by (try dsimp only);omega,hst3.trans hv17.stab,by (try dsimp only);rw [Nat.mul_comm bs 2];exact hfin⟩ (by (try dsimp only);omega)))))))
  refine Az (Z ?_)
  have hfin:=LX hlo hac (by omega) (C9.refl (T0 hhi hac (by omega)))
  exact Ae (Ad U (V U U (HN (z:=((bs*2:Nat):Int)) U U U (by rw [AI (by omega) (by omega)];omega)) (Ad U (Ab (Bb (Bo (s:=(bs,ys)) (bs*2,zs) ⟨rfl,rfl,rfl,rfl,trivial⟩ ⟨H,by (try dsimp only);omega,hst3,by (try dsimp only);rw [Nat.mul_comm bs 2];exact hfin⟩ (by (try dsimp only);omega)))))))
 exact BQ (AV (AV (BS (DX U (Al ⟨_,rfl,J1 hst2 (Cc.ord (by rw [hbs.2.2,←hn];exact hbl2.all (by omega)))⟩ H)))))
theorem dH (v:Value) (xs:List Aq) (hb:xs.length≤1000000):
    Cn Tryz.prog 269 [v,.func (.func 270) #[] #[]] [Y Ag v xs] [] (fun _ Bs=>∃ ys,Bs=[Y Ag v ys]∧ys=srt xs):=by
 intro w0 F0 H
 obtain ⟨A1,c2,rfl,hc3,hm4,hp5⟩:=H.fA 0 rfl
 refine enter Tryz.func269 U U (Nat.le_of_ble_eq_true U) (Ae (Ah 2 U (V U U (Bj U Dt U) (Ad U ?_))))
 replace H:Hd _ _ _ [Y Ag (.slice A1 xs.length c2) xs] []:=H
 refine sc (dS (.slice A1 xs.length c2) xs xs.length (by omega) (by omega)) H l0 U U (Av Xt U U) ?_
 rintro _ _ w ⟨ys6,rfl,hv7⟩ H
 exact Ab (DX U (Al ⟨_,rfl,hv7⟩ H))
theorem Ko (vxs:Value) (xs:List Aq) (hb:xs.length≤1000000):
    Cn Tryz.prog 72 [vxs] [] [Ac Ag vxs xs] (fun v Bs=>Bs=[Y Ag v xs]):=by
 intro w0 F0 H
 obtain ⟨A1,c2,rfl,hc3,hm4,hp5⟩:=H.fR 0 rfl
 refine enter Tryz.func72 U U (Nat.le_of_ble_eq_true U) (Aa (Ae (Ad U (Ab (Z ?_)))))
 replace H:Hd _ _ _ [] [Ac Ag (.slice A1 xs.length c2) xs]:=H
 refine Aa (Aa (Ae (Ad U (V U U (JR U Dt U U) (Ab (Z ?_))))))
 refine Dp (b:=(A1:Option Addr).isNone) U (fun h6=>?_) (fun h6=>?_)
 ·refine Aa (Ae (Ad U (Ab (Z (An (AA (Ap U U ?_)))))))
  obtain rfl:=H.nilR 0 rfl h6
  replace H:=H.newnil Ag
  exact Al U H
 refine Az (Z (Aa (Ae (JX U U U BM H (fun b7 w H=>(Ad U ?_))))))
 replace H:=H.newnilA Ag (some ⟨b7,0,none⟩)
 refine CE (xs:=[]) (ys:=xs) U U U BM Dh U (by decide) U U H (by simp only [List.length_nil];omega) (fun F hA hR=>hR _ (List.mem_of_getElem? (i:=0) U)) (fun v8 w H=>?_)
 replace H:=H.h2 (A:=Y Ag v8 ([]++xs)) (B:=blk b7 [] 122)
 refine Ad U (Ab (Z (An (Ap U U ?_))))
 rw [List.nil_append] at H
 replace H:=H.k1
 exact Al U H
theorem RP (vxs:Value) (xs:List Aq) (hb:xs.length≤1000000):
    Cn Tryz.prog 256 [vxs] [] [Ac Ag vxs xs] (fun v Bs=>Bs=[Y Ag v (srt xs)]):=by
 intro w0 F0 H
 obtain ⟨A1,c2,rfl,hc3,hm4,hp5⟩:=H.fR 0 rfl
 refine enter Tryz.func256 U U (Nat.le_of_ble_eq_true U) (Aa (Ae (Ad U (Ab (Z ?_)))))
 replace H:Hd _ _ _ [] [Ac Ag (.slice A1 xs.length c2) xs]:=H
 refine Aa (Ae (Ad U (sc (Ko (.slice A1 xs.length c2) xs (by first |omega|decide)) H (lR 0 U l0) U U (Av KL U U) ?_)))
 rintro v6 _ w rfl H
 replace H:=H.h1 (A:=Y Ag v6 xs)
 refine Ad U (Ab (Z (Aa (Ae (Ad U (sc (dH v6 xs  (by omega)) H l0 U U (Av Xl U U) ?_))))))
 rintro _ _ w ⟨ys7,rfl,hv8⟩ H
 replace H:=H.h1 (A:=Y Ag v6 ys7)
 refine Ab (Z (Aa (Ae (Ah 2 U (Ab (Z (An (Ap U U ?_))))))))
 subst hv8
 exact Al U H
theorem Wm (v:Value) (xs:List Aq) (hb:xs.length≤1000000):
    Cn Tryz.prog 299 [v,.func (.func 270) #[] #[]] [] [Ac Ag v xs] (fun v Bs=>v=.bool (decide (Dd xs))∧Bs=[]):=by
 intro w0 F0 H
 obtain ⟨A1,c2,rfl,hc3,hm4,hp5⟩:=H.fR 0 rfl
 refine enter Tryz.func299 U U (Nat.le_of_ble_eq_true U) (Aa (Ae (Ad U (Ab (Z ?_)))))
 replace H:Hd _ _ _ [] [Ac Ag (.slice A1 xs.length c2) xs]:=H
 refine Aa (Aa ?_)
 by_cases h0:xs.length=0
 ·refine Ae (Ad U (V U U (Bj U Dt U) (V U U (CP (z:=((xs.length:Nat):Int) - 1) U U U (AI (by omega) (by omega))) (Ad U (Ab (Z (AW (B1 (σ:=Unit) (fun u=>[(0,.slice A1 xs.length c2),(1,.func (.func 270) #[] #[]),(5,.int .i64 (((xs.length:Nat):Int) - 1))]) (fun u w=>(Hd w0 F0 w [] [Ac Ag (.slice A1 xs.length c2) xs])) (fun u=>0) () ⟨rfl,rfl,rfl,trivial⟩ H ?_))))))))
  rintro u w H
  refine Aa (Aa (Ae (Ad U (V U U (CH U U U) (Ab (Z ?_))))))
  refine AC U (fun h6=>?_) (fun h6=>?_)
  ·exfalso;omega
  refine BQ (AV (AV (BS (Z (Aa (Ae (Ad U (Ab (Z (An (Ap U U ?_)))))))))))
  have ho:Dd xs:=by rw [List.eq_nil_of_length_eq_zero h0];exact List.Pairwise.nil
  exact Al ⟨by rw [decide_eq_true ho]<;>rfl,rfl⟩ H
 refine Ae (Ad U (V U U (Bj U Dt U) (V U U (CP (z:=((xs.length - 1:Nat):Int)) U U U (by rw [AI (by omega) (by omega)];omega)) (Ad U (Ab (Z (AW (B1 (σ:=Nat) (fun j=>[(0,.slice A1 xs.length c2),(1,.func (.func 270) #[] #[]),(5,.int .i64 ((j:Nat):Int))]) (fun j w=>(Hd w0 F0 w [] [Ac Ag (.slice A1 xs.length c2) xs])∧(j<xs.length)∧(Jh xs j)) (fun j=>j) (xs.length - 1) ⟨rfl,rfl,rfl,trivial⟩ ⟨H,by (try dsimp only);omega,Tw xs⟩ ?_))))))))
 rintro j w ⟨H,hj,had⟩
 refine Aa (Aa (Ae (Ad U (V U U (CH U U U) (Ab (Z ?_))))))
 refine AC U (fun h7=>?_) (fun h7=>?_)
 ·refine Az (Z (Aa (AW (Aa (Ce (.e 0 (.e 1 (.e 2 (.e 3 (.e 4 (.e 5 (.e 6 (.e 7 (.e 8 (.e 9 (.m 10 (.e 11 .z)))))))))))) (fun w=>∃ Ar,Hd w0 F0 w (Ar) [Ac Ag (.slice A1 xs.length c2) xs]) mo (by kernel_rfl) (fun w H=>⟨_,H⟩) H (fun w H=>(Au U (Au U (Au U ?_)))))))))
  obtain ⟨x8,hx9⟩:∃ z9,xs[j]?=some z9:=⟨_,List.getElem?_eq_getElem (show j<xs.length by omega)⟩
  have th10:=H.thR 0 rfl hx9
  refine Ao U U U (fun w ⟨Ar,H⟩=>Bi (p:=Ba A1+j*2) U BM U U (by omega) (by omega) th10 U) (Ao U U U (fun w ⟨Ar,H⟩=>BG (cs:=[.string x8.key,.string x8.val]) U CF U U (H.elsR 0 U hx9 U)) (Au U (Au U (Ao U U U (fun w ⟨Ar,H⟩=>CP (z:=((j - 1:Nat):Int)) U U U (by rw [AI (by omega) (by omega)];omega)) ?_))))
  obtain ⟨x11,hx12⟩:∃ z9,xs[j - 1]?=some z9:=⟨_,List.getElem?_eq_getElem (show j - 1<xs.length by omega)⟩
  have th13:=H.thR 0 rfl hx12
  refine Ao U U U (fun w ⟨Ar,H⟩=>Bi (p:=Ba A1+(j - 1)*2) U BM U U (by omega) (by omega) th13 U) (Ao U U U (fun w ⟨Ar,H⟩=>BG (cs:=[.string x11.key,.string x11.val]) U CF U U (H.elsR 0 U hx12 U)) (AO U (sc (IW x8 x11) H l0 U U (GI (vs:=[.agg #[.string x8.key,.string x8.val],.agg #[.string x11.key,.string x11.val]]) (fs:=#[]) (cs:=#[]) Iq9 U U U) ?_)))
  rintro _ _ w ⟨rfl,rfl⟩ H
  refine AH ⟨_,H⟩ (Ao U U U (fun w ⟨Ar,H⟩=>Br U U U) (BO (Z ?_)))
  refine AC U (fun h14=>?_) (fun h14=>?_)
  ·refine Aa (Ae (Ad U (Ab (Z (An (AZ (AA (AA (AZ (AA (Ap U U ?_)))))))))))
   have ho:¬ Dd xs:=fun ho=>by have:=Zj ho (by omega) hx9 hx12;rw [Hx.1 h14] at this;cases this
   exact Al ⟨by rw [decide_eq_false ho]<;>rfl,rfl⟩ H
  exact Az (Bb (Z (Ae (Ad U (V U U (CP (z:=((j - 1:Nat):Int)) U U U (by rw [AI (by omega) (by omega)];omega)) (Ad U (Ab (Bo (s:=j) (j - 1) ⟨rfl,rfl,rfl,trivial⟩ ⟨H,by (try dsimp only);omega,Tx had (by omega) hx9 hx12 (IC h14)⟩ (by (try dsimp only);omega)))))))))
 refine BQ (AV (AV (BS (Z (Aa (Ae (Ad U (Ab (Z (An (Ap U U ?_)))))))))))
 have ho:Dd xs:=Ty ((by omega:j=0)▸had)
 exact Al ⟨by rw [decide_eq_true ho]<;>rfl,rfl⟩ H
theorem SQ (vxs:Value) (xs:List Aq) (hb:xs.length≤1000000):
    Cn Tryz.prog 283 [vxs] [] [Ac Ag vxs xs] (fun v Bs=>v=.bool (decide (Dd xs))∧Bs=[]):=by
 intro w0 F0 H
 obtain ⟨A1,c2,rfl,hc3,hm4,hp5⟩:=H.fR 0 rfl
 refine enter Tryz.func283 U U (Nat.le_of_ble_eq_true U) (Aa (Ae (Ad U (Ab (Z ?_)))))
 replace H:Hd _ _ _ [] [Ac Ag (.slice A1 xs.length c2) xs]:=H
 refine Aa (Ae (Ad U (sc (Wm (.slice A1 xs.length c2) xs (by omega)) H (lR 0 U l0) U U (Av Xx U U) ?_)))
 rintro _ _ w ⟨rfl,rfl⟩ H
 exact Ad U (Ab (Z (An (Ap U U (Al ⟨rfl,rfl⟩ H)))))
theorem dI (v:Value) (xs:List ByteArray) (hb:xs.length≤1000000):Cn Tryz.prog 287 [v] [Y Bt v xs] [] (fun _ Bs=>Bs=[Y Bt v (Gz xs)]):=
 Uq (e1:=Value.string) (s:=Gz) (fun xs=>by simp [Gz]) (by simp [Gz]) (fun p c w=>Go.Proofs.Tryz.slices_Sort_string_none p c w) (fun b c xs w hH hbl hl=>by
  have h:=Go.Proofs.Tryz.slices_Sort_string b 0 c (xs.map Hg) w (P9 hH) hbl (by simp;omega)
  rw [List.length_map] at h
  refine h.mono ?_
  rintro e w' ⟨h1,n,os,h2⟩
  exact ⟨h1,n,os,by rw [h2,R7];rfl⟩) v xs hb
theorem Uy (v:Value) (xs:List ByteArray) (hb:xs.length≤1000000):Cn Tryz.prog 288 [v] [Y Bt v xs] [] (fun u Bs=>Bs=[Y Bt u (G6 xs)]):=
 Up (e1:=Value.string) (s:=G6) (z:=J9 []) (fun xs=>by have:=OU (xs.map Hg);simpa [G6] using this) rfl (fun p c w=>Go.Proofs.Tryz.slices_Compact_string_empty p c w) (fun b c xs w hH hl hc=>by
  have h:=Go.Proofs.Tryz.slices_Compact_string b 0 c (xs.map Hg) w (P9 hH) (by simp;omega) (by simpa using hc)
  rw [List.length_map] at h
  refine h.mono ?_
  rintro e w' ⟨h1,n,h2⟩
  exact ⟨by rw [h1];simp [G6],n,by rw [h2,R7];simp [G6]⟩) v xs hb
theorem cW (v1 v2:Value) (xs ys:List Aq):
    Cn Tryz.prog 124 [v1,v2] [] [Ac Ag v1 xs,Ac Ag v2 ys] (fun v Bs=>v=.bool (decide (xs=ys))∧Bs=[]):=by
 intro w0 F0 H
 obtain ⟨A1,c2,rfl,hc3,hm4,hp5⟩:=H.fR 0 rfl
 obtain ⟨A6,c7,rfl,hc8,hm9,hp10⟩:=H.fR 1 rfl
 refine enter Tryz.func124 U U (Nat.le_of_ble_eq_true U) (Aa (Ae (Ad U (Ab (Z ?_)))))
 replace H:Hd _ _ _ [] [Ac Ag (.slice A1 xs.length c2) xs,Ac Ag (.slice A6 ys.length c7) ys]:=H
 refine Aa (Aa (Ae (Ad U (V U U (Bj U Dt U) (Ad U (V U U (Bj U Dt U) (V U U (Cx U U U) (Ab (Z ?_)))))))))
 refine AC U (fun h11=>?_) (fun h11=>?_)
 ·refine Aa (Ae (Ad U (Ab (Z (An (AA (Ap U U ?_)))))))
  have e:¬ xs=ys:=fun e=>h11 (by rw [e])
  exact Al ⟨by rw [decide_eq_false e]<;>rfl,rfl⟩ H
 refine Az (Z (Aa (Aa (Ae (Ad U (Ab (Z (AW ?_))))))))
 have hle:xs.length=ys.length:=by omega
 refine B1 (σ:=Nat) (fun k=>[(0,.slice A1 xs.length c2),(1,.slice A6 ys.length c7),(5,.int .i64 ((k:Nat):Int))]) (fun k w=>(Hd w0 F0 w [] [Ac Ag (.slice A1 xs.length c2) xs,Ac Ag (.slice A6 ys.length c7) ys])∧(k≤xs.length)∧(xs.length=ys.length)∧(xs.take k=ys.take k)) (fun k=>xs.length - k) 0 ⟨rfl,rfl,rfl,trivial⟩ ⟨H,by omega,hle,rfl⟩ ?_
 rintro k w ⟨H,hk,hle,ht⟩
 refine Aa (Aa (Ae (Ah 2 U (V U U (Bj U Dt U) (V U U (Br U U U) (Ab (Z ?_)))))))
 refine AC U (fun h12=>?_) (fun h12=>?_)
 ·refine Az (Z (Aa (AW (Aa (G4 mo (by kernel_rfl) H (Kc 2 U ?_))))))
  obtain ⟨x13,hx14⟩:∃ z9,xs[k]?=some z9:=⟨_,List.getElem?_eq_getElem (show k<xs.length by omega)⟩
  have th15:=H.thR 0 rfl hx14
  refine BK U U (fun w H=>Bi (p:=Ba A1+k*2) U BM U U (by omega) (by omega) th15 U) (BK U U (fun w H=>BG (cs:=[.string x13.key,.string x13.val]) U CF U U (H.elsR 0 U hx14 U)) (Kc 2 U ?_))
  obtain ⟨x16,hx17⟩:∃ z9,ys[k]?=some z9:=⟨_,List.getElem?_eq_getElem (show k<ys.length by omega)⟩
  have th18:=H.thR 1 rfl hx17
  refine BK U U (fun w H=>Bi (p:=Ba A6+k*2) U BM U U (by omega) (by omega) th18 U) (BK U U (fun w H=>BG (cs:=[.string x16.key,.string x16.val]) U CF U U (H.elsR 1 U hx17 U)) (BK U U (fun w H=>Z7 (p:=x13) (q:=x16) U Vb U U) (Ho (fun w H=>(Z ?_)))))
  refine AC U (fun h19=>?_) (fun h19=>?_)
  ·refine Aa (Ae (Ad U (Ab (Z (An (AZ (AA (AA (AZ (AA (Ap U U ?_)))))))))))
   have e:¬ xs=ys:=fun e=>h19 (by rw [e,hx17] at hx14;exact (Option.some.inj hx14).symm)
   exact Al ⟨by rw [decide_eq_false e]<;>rfl,rfl⟩ H
  refine Az (Bb (Z (Ae (Ad U (V U U (Bc (z:=((k+1:Nat):Int)) U U U (by rw [AI (by omega) (by omega)];omega)) (Ad U (Ab ?_)))))))
  have e:x13=x16:=Classical.not_not.1 h19
  subst e
  exact Bo (s:=k) (k+1) ⟨rfl,rfl,rfl,trivial⟩ ⟨H,by omega,hle,SU hx14 hx17 ht⟩ (by (try dsimp only);omega)
 refine BQ (AV (AV (BS (Z (Aa (Ae (Ad U (Ab (Z (An (Ap U U ?_)))))))))))
 have e:xs=ys:=by rw [←GX (xs:=xs) (k:=k) (by omega),←GX (xs:=ys) (k:=k) (by omega)];exact ht
 exact Al ⟨by rw [decide_eq_true e]<;>rfl,rfl⟩ H
theorem VU (vxs:Value) (xs:List Aq) (n:Int):
    Cn Tryz.prog 36 [vxs,.int .i64 n] [] [Ac Ag vxs xs] (fun v Bs=>v=.bool (FK xs n)∧Bs=[]):=by
 intro w0 F0 H
 obtain ⟨A1,c2,rfl,hc3,hm4,hp5⟩:=H.fR 0 rfl
 refine enter Tryz.func36 U U (Nat.le_of_ble_eq_true U) (Aa (Ae (Ad U (Ab (Z ?_)))))
 replace H:Hd _ _ _ [] [Ac Ag (.slice A1 xs.length c2) xs]:=H
 refine Aa (Aa (Ae (Ad U (Ab (Z (AW (B1 (σ:=Nat) (fun k=>[(0,.slice A1 xs.length c2),(1,.int .i64 n),(5,.int .i64 ((k:Nat):Int))]) (fun k w=>(Hd w0 F0 w [] [Ac Ag (.slice A1 xs.length c2) xs])∧(k≤xs.length)∧(∀ y∈xs.take k,y.key.size≤100∧y.val.size≤100)) (fun k=>xs.length - k) 0 ⟨rfl,rfl,rfl,trivial⟩ ⟨H,by omega,by simp⟩ ?_)))))))
 rintro k w ⟨H,hk,hn⟩
 refine Aa (Aa (Ae (Ah 2 U (V U U (Bj U Dt U) (V U U (Br U U U) (Ad U ?_))))))
 refine AQ (d:=10) U (fun h6=>?_) (fun h6=>?_)
 ·refine Ad U (V U U (Bj U Dt U) (Ad U (V U U (CD U U U) (Ad U (Ab (Z ?_))))))
  refine AC U (fun h7=>?_) (fun h7=>?_)
  ·refine Az (Z (Aa (AW (Aa (Ae (Ah 2 U ?_))))))
   obtain ⟨x8,hx9⟩:∃ z9,xs[k]?=some z9:=⟨_,List.getElem?_eq_getElem (show k<xs.length by omega)⟩
   have th10:=H.thR 0 rfl hx9
   refine V U U (Bi (p:=Ba A1+k*2) U BM U U (by omega) (by omega) th10 U) (V U U (Aj U F8 U) (V U U (Am U Cl U (H.elR 0 U hx9 (q:=0) U U)) (V U U (DN U CK U) (V U U (CH U U U) (Ad U ?_)))))
   refine AQ (d:=25) U (fun h11=>?_) (fun h11=>?_)
   ·exact Ah 8 U (Ab (Z (CN U (Aa (Ae (Ad U (Ab (Z (An (AZ (AA (AA (AZ (AA (Ap U U (Al ⟨congrArg Value.bool (P2 hx9 (by omega)),rfl⟩ H))))))))))))))))
   refine Ah 2 U ?_
   have th12:=H.thR 0 rfl hx9
   refine V U U (Bi (p:=Ba A1+k*2) U BM U U (by omega) (by omega) th12 U) (V U U (Aj U Jt U) (V U U (Am U Cl U (H.elR 0 U hx9 (q:=1) U U)) (V U U (DN U CK U) (V U U (CH U U U) (Ad U (Ab (Z ?_)))))))
   refine AC U (fun h13=>?_) (fun h13=>?_)
   ·exact Aa (Ae (Ad U (Ab (Z (An (AZ (AA (AA (AZ (AA (Ap U U (Al ⟨congrArg Value.bool (P2 hx9 (by omega)),rfl⟩ H))))))))))))
   exact Az (Bb (Z (Ae (Ad U (V U U (Bc (z:=((k+1:Nat):Int)) U U U (by rw [AI (by omega) (by omega)];omega)) (Ad U (Ab (Bo (s:=k) (k+1) ⟨rfl,rfl,rfl,trivial⟩ ⟨H,by (try dsimp only);omega,J8 hn hx9 (by omega)⟩ (by (try dsimp only);omega)))))))))
  exact BQ (AV (AV (BS (Z (Aa (Ae (Ad U (V U U (Bj U Dt U) (Ad U (V U U (CH U U U) (Ad U (Ab (Z (An (Ap U U (Al ⟨congrArg Value.bool (P1 hn (by omega)),rfl⟩ H))))))))))))))))
 exact Ah 5 U (Ab (Z (Ch U (BQ (AV (AV (BS (Z (Aa (Ae (Ad U (V U U (Bj U Dt U) (Ad U (V U U (CH U U U) (Ad U (Ab (Z (An (Ap U U (Al ⟨congrArg Value.bool (P1 hn (by omega)),rfl⟩ H))))))))))))))))))))
theorem Zq (vxs:Value) (xs:List Aq) (key:ByteArray) (hb:xs.length≤1000000):
    Cn Tryz.prog 272 [vxs,.string key] [] [Ac Ag vxs xs] (fun v Bs=>Bs=[Y Bt v (B_ xs key)]):=by
 intro w0 F0 H
 obtain ⟨A1,c2,rfl,hc3,hm4,hp5⟩:=H.fR 0 rfl
 refine enter Tryz.func272 U U (Nat.le_of_ble_eq_true U) (Aa (Ae (Ad U (Ab (Z ?_)))))
 replace H:Hd _ _ _ [] [Ac Ag (.slice A1 xs.length c2) xs]:=H
 refine Aa (Ae (Ad U (Ab (Z (Aa (Aa (Ae (Ad U (V U U (Bj U Dt U) (Ad U (Ab (Z (AW ?_)))))))))))))
 replace H:=H.newnil Bt
 refine B1 (σ:=Nat×Value) (fun (k,l)=>[(1,.string key),(4,.slice none 0 0),(5,l),(8,.slice A1 xs.length c2),(9,.int .i64 ((xs.length:Nat):Int)),(10,.int .i64 ((k:Nat):Int))]) (fun (k,l) w=>(Hd w0 F0 w [Y Bt l (B_ (xs.take k) key)] [Ac Ag (.slice A1 xs.length c2) xs])∧(k≤xs.length)) (fun (k,l)=>xs.length - k) (0,.slice none 0 0) ⟨rfl,rfl,rfl,rfl,rfl,rfl,trivial⟩ ⟨H,by (try dsimp only);omega⟩ ?_
 rintro ⟨k,l⟩ w ⟨H,hk⟩
 have hjl:=Y6 (xs.take k) key
 have hjt:(xs.take k).length≤xs.length:=by simp;omega
 refine Aa (Ae (V U U (Br U U U) (Ab (Z (Aa ?_)))))
 refine AC U (fun h6=>?_) (fun h6=>?_)
 ·refine Az (Z (Aa (AW (Aa (Ae ?_)))))
  obtain ⟨x7,hx8⟩:∃ z9,xs[k]?=some z9:=⟨_,List.getElem?_eq_getElem (show k<xs.length by omega)⟩
  have th9:=H.thR 0 rfl hx8
  refine V U U (Bi (p:=Ba A1+k*2) U BM U U (by omega) (by omega) th9 U) (V U U (BG (cs:=[.string x7.key,.string x7.val]) U CF U U (H.elsR 0 U hx8 U)) (DD U U U Dh H (fun b10 w H=>(Bx U U U CF U U H U (Nat.le_of_ble_eq_true U) (fun u hu=>by simp [Value.cells] at hu;rcases hu with rfl|rfl<;>rfl) (fun w H=>?_)))))
  replace H:=H.h2 (A:=blk b10 [.string x7.key,.string x7.val] 122) (B:=Y Bt l (B_ (xs.take k) key))
  refine Ab (Z (Aa (Ae (V U U (Aj U F8 U) (V U U (Am U Cl U (H.cellI 0 U U)) (Ad U (V U U (Np U U U) (Ab (Z ?_)))))))))
  refine AC U (fun h11=>?_) (fun h11=>?_)
  ·refine Ae (Ad U (V U U (Aj U Jt U) (V U U (Am U Cl U (H.cellI 0 U U)) (Cg (parts:=[(0,.tmp 20)]) (vs:=[.string x7.val]) (cs:=[.string x7.val]) U U U Io Kh U (by decide) (by decide) U U H (fun b12 w H=>?_)))))
   replace H:=H.p2
   refine CE (xs:=B_ (xs.take k) key) (ys:=[x7.val]) U U U Io Kh U (by decide) U U H (by omega) (fun F hA hR=>CC (hA _ (List.mem_of_getElem? (i:=0) U)) U (by decide) (Be.flat_eq.2 U)) (fun v13 w H=>(Ad U (Ab (Bb (Z ?_)))))
   replace H:Hd _ _ _ [Y Bt v13 ((B_ (xs.take k) key)++[x7.val]),blk b12 [.string x7.val] 9,blk b10 [.string x7.key,.string x7.val] 122] [Ac Ag (.slice A1 xs.length c2) xs]:=H
   refine Ae (V U U (Bc (z:=((k+1:Nat):Int)) U U U (by rw [AI (by omega) (by omega)];omega)) (Ad U (Ab ?_)))
   rw [←Y9 hx8 h11] at H
   replace H:=H.k1
   exact Bo (s:=(k,undef)) (k+1,v13) ⟨rfl,rfl,rfl,rfl,rfl,rfl,trivial⟩ ⟨H,by (try dsimp only);omega⟩ (by (try dsimp only);omega)
  refine Az (Bb (Z (Ae (V U U (Bc (z:=((k+1:Nat):Int)) U U U (by rw [AI (by omega) (by omega)];omega)) (Ad U (Ab ?_))))))
  rw [←Y8 hx8 h11] at H
  replace H:=H.sel 2 [1] [0] rfl (by kernel_rfl)
  exact Bo (s:=(k,undef)) (k+1,l) ⟨rfl,rfl,rfl,rfl,rfl,rfl,trivial⟩ ⟨H,by (try dsimp only);omega⟩ (by (try dsimp only);omega)
 refine BQ (AV (AV (BS (Z (Aa (Ae (Ah 2 U (Ab (Z (An (Ap U U ?_)))))))))))
 rw [List.take_of_length_le (show xs.length≤k by omega)] at H
 exact Al U H
theorem Zp (vxs:Value) (xs:List Aq) (hb:xs.length≤1000000):
    Cn Tryz.prog 271 [vxs] [] [Ac Ag vxs xs] (fun v Bs=>Bs=[Y Bt v (D1 xs)]):=by
 intro w0 F0 H
 obtain ⟨A1,c2,rfl,hc3,hm4,hp5⟩:=H.fR 0 rfl
 refine enter Tryz.func271 U U (Nat.le_of_ble_eq_true U) (Aa (Ae (Ad U (Ab (Z ?_)))))
 replace H:Hd _ _ _ [] [Ac Ag (.slice A1 xs.length c2) xs]:=H
 refine Aa (Ae (Ad U (Ab (Z (Aa (Aa (Ae (Ad U (V U U (Bj U Dt U) (Ad U (Ab (Z (AW ?_)))))))))))))
 replace H:=H.newnil Bt
 refine B1 (σ:=Nat×Value) (fun (k,l)=>[(2,.slice none 0 0),(3,l),(6,.slice A1 xs.length c2),(7,.int .i64 ((xs.length:Nat):Int)),(8,.int .i64 ((k:Nat):Int))]) (fun (k,l) w=>(Hd w0 F0 w [Y Bt l ((xs.take k).map (·.key))] [Ac Ag (.slice A1 xs.length c2) xs])∧(k≤xs.length)) (fun (k,l)=>xs.length - k) (0,.slice none 0 0) ⟨rfl,rfl,rfl,rfl,rfl,trivial⟩ ⟨H,by (try dsimp only);omega⟩ ?_
 rintro ⟨k,l⟩ w ⟨H,hk⟩
 have hjt:((xs.take k).map (·.key)).length≤xs.length:=by simp;omega
 refine Aa (Ae (V U U (Br U U U) (Ab (Z (Aa ?_)))))
 refine AC U (fun h6=>?_) (fun h6=>?_)
 ·refine Az (Z (Aa (AW (Aa (Ae ?_)))))
  obtain ⟨x7,hx8⟩:∃ z9,xs[k]?=some z9:=⟨_,List.getElem?_eq_getElem (show k<xs.length by omega)⟩
  have th9:=H.thR 0 rfl hx8
  refine V U U (Bi (p:=Ba A1+k*2) U BM U U (by omega) (by omega) th9 U) (V U U (BG (cs:=[.string x7.key,.string x7.val]) U CF U U (H.elsR 0 U hx8 U)) (DD U U U Dh H (fun b10 w H=>(Bx U U U CF U U H U (Nat.le_of_ble_eq_true U) (fun u hu=>by simp [Value.cells] at hu;rcases hu with rfl|rfl<;>rfl) (fun w H=>?_)))))
  replace H:=H.h2 (A:=blk b10 [.string x7.key,.string x7.val] 122) (B:=Y Bt l ((xs.take k).map (·.key)))
  refine Ab (Z (Ae (Ad U (V U U (Aj U F8 U) (V U U (Am U Cl U (H.cellI 0 U U)) (Cg (parts:=[(0,.tmp 14)]) (vs:=[.string x7.key]) (cs:=[.string x7.key]) U U U Io Kh U (by decide) (by decide) U U H (fun b11 w H=>?_)))))))
  replace H:=H.p2
  refine CE (xs:=(xs.take k).map (·.key)) (ys:=[x7.key]) U U U Io Kh U (by decide) U U H (by omega) (fun F hA hR=>CC (hA _ (List.mem_of_getElem? (i:=0) U)) U (by decide) (Be.flat_eq.2 U)) (fun v12 w H=>(Ad U (Ab (Bb (Z ?_)))))
  replace H:Hd _ _ _ [Y Bt v12 (((xs.take k).map (·.key))++[x7.key]),blk b11 [.string x7.key] 9,blk b10 [.string x7.key,.string x7.val] 122] [Ac Ag (.slice A1 xs.length c2) xs]:=H
  refine Ae (V U U (Bc (z:=((k+1:Nat):Int)) U U U (by rw [AI (by omega) (by omega)];omega)) (Ad U (Ab ?_)))
  rw [←Wq hx8] at H
  replace H:=H.k1
  exact Bo (s:=(k,undef)) (k+1,v12) ⟨rfl,rfl,rfl,rfl,rfl,trivial⟩ ⟨H,by (try dsimp only);omega⟩ (by (try dsimp only);omega)
 refine BQ (AV (AV (BS (Z (Aa (Ae (Ad U (sc (dI l ((xs.take k).map (·.key)) (by first |omega|(rw [NL];omega))) H l0 U U (Av Xv U U) ?_))))))))
 rintro v13 _ w rfl H
 replace H:=H.h1 (A:=Y Bt l (Gz ((xs.take k).map (·.key))))
 refine Ab (Z (Aa (Ae (Ad U (sc (Uy l (Gz ((xs.take k).map (·.key))) (by first |omega|(rw [NL];omega))) H l0 U U (Av Xw U U) ?_)))))
 rintro v14 _ w rfl H
 replace H:=H.h1 (A:=Y Bt v14 (G6 (Gz ((xs.take k).map (·.key)))))
 refine Ad U (Ab (Z (An (Ap U U ?_))))
 rw [List.take_of_length_le (show xs.length≤k by omega)] at H
 exact Al U H
theorem Wd (f:FuncId) (cap:List Value) (Ex:List SP) (p:Aq→Bool) (hkf:AK Tryz.prog f) (hp:∀ x,Cn Tryz.prog f ([.agg #[.string x.key,.string x.val]]++cap) [] Ex (fun v Bs=>v=.bool (p x)∧Bs=[])) (v:Value) (xs:List Aq):
    Cn Tryz.prog 183 [v,.func (.func f) #[] (cap).toArray] [] (Ac Ag v xs::Ex) (fun v Bs=>v=.int .i64 (Fw p xs)∧Bs=[]):=by
 intro w0 F0 H
 obtain ⟨A1,c2,rfl,hc3,hm4,hp5⟩:=H.fR 0 rfl
 refine enter Tryz.func183 U U (Nat.le_of_ble_eq_true U) (Aa (Ae (Ad U (Ab (Z ?_)))))
 replace H:Hd _ _ _ [] (Ac Ag (.slice A1 xs.length c2) xs::Ex):=H
 refine Aa (Aa (Ae (Ad U (V U U (Bj U Dt U) (Ad U (Ab (Z (AW (B1 (σ:=Nat) (fun k=>[(0,.slice A1 xs.length c2),(1,.func (.func f) #[] (cap).toArray),(7,.int .i64 ((xs.length:Nat):Int)),(8,.int .i64 ((k:Nat):Int))]) (fun k w=>(Hd w0 F0 w [] (Ac Ag (.slice A1 xs.length c2) xs::Ex))∧(k≤xs.length)∧(∀ y∈xs.take k,p y=false)) (fun k=>xs.length - k) 0 ⟨rfl,rfl,rfl,rfl,trivial⟩ ⟨H,by omega,by simp⟩ ?_)))))))))
 rintro k w ⟨H,hk,hn⟩
 refine Aa (Ae (V U U (Br U U U) (Ab (Z (Aa ?_)))))
 refine AC U (fun h6=>?_) (fun h6=>?_)
 ·refine Az (Z (Aa (AW (Aa (Ae (Ah 2 U (Ab (Z (Aa (Ae (Ah 3 U ?_)))))))))))
  obtain ⟨x7,hx8⟩:∃ z9,xs[k]?=some z9:=⟨_,List.getElem?_eq_getElem (show k<xs.length by omega)⟩
  have th9:=H.thR 0 rfl hx8
  refine V U U (Bi (p:=Ba A1+k*2) U BM U U (by omega) (by omega) th9 U) (V U U (BG (cs:=[.string x7.key,.string x7.val]) U CF U U (H.elsR 0 U hx8 U)) (sc (hp x7) H (fun S hS F hA hR=>hR S (List.mem_cons_of_mem _ hS)) U U (GI (vs:=[.agg #[.string x7.key,.string x7.val]]) (fs:=#[]) (cs:=cap.toArray) hkf U U U) ?_))
  rintro _ _ w ⟨rfl,rfl⟩ H
  refine Ab (Z ?_)
  refine Dp (b:=p x7) U (fun h10=>?_) (fun h10=>?_)
  ·exact Aa (Ae (Ah 2 U (Ab (Z (An (AZ (AA (AA (AZ (AA (Ap U U (Al ⟨by rw [Kx hn hx8 h10]<;>rfl,rfl⟩ H))))))))))))
  exact Az (Bb (Z (Ae (V U U (Bc (z:=((k+1:Nat):Int)) U U U (by rw [AI (by omega) (by omega)];omega)) (Ad U (Ab (Bo (s:=k) (k+1) ⟨rfl,rfl,rfl,rfl,trivial⟩ ⟨H,by omega,LE hn hx8 h10⟩ (by (try dsimp only);omega))))))))
 refine BQ (AV (AV (BS (Z (Aa (Ae (Ad U (Ab (Z (An (Ap U U ?_)))))))))))
 have hn2:∀ y∈xs,p y=false:=by rw [←GX (xs:=xs) (k:=k) (by omega)];exact hn
 exact Al ⟨by rw [Jq hn2]<;>rfl,rfl⟩ H
theorem OV (f:FuncId) (cap:List Value) (Ex:List SP) (p:Aq→Bool) (hkf:AK Tryz.prog f) (hp:∀ x,Cn Tryz.prog f ([.agg #[.string x.key,.string x.val]]++cap) [] Ex (fun v Bs=>v=.bool (p x)∧Bs=[])) (v:Value) (xs:List Aq):
    Cn Tryz.prog 125 [v,.func (.func f) #[] (cap).toArray] [] (Ac Ag v xs::Ex) (fun v Bs=>v=.bool (xs.any p)∧Bs=[]):=by
 intro w0 F0 H
 refine enter Tryz.func125 U U (Nat.le_of_ble_eq_true U) (Aa (Ae (Ad U (Ab (Z (Aa (Ae (Ah 2 U (sc (Wd f cap Ex p hkf hp v xs) H MO U U (Av WP U U) ?_)))))))))
 rintro _ _ w ⟨rfl,rfl⟩ H
 exact V U U (C7 U U U) (Ad U (Ab (Z (An (Ap U U (Al ⟨congrArg Value.bool (Ky p xs),rfl⟩ H))))))
theorem Yt (x:Aq):
    Cn Tryz.prog 126 [.agg #[.string x.key,.string x.val]] [] [] (fun v Bs=>v=.bool (!decide (C5 x))∧Bs=[]):=by
 intro w0 F0 H
 refine enter Tryz.func126 U U (Nat.le_of_ble_eq_true U) (Aa (Ae (CZ U U U U H (fun b1 w H=>(Ad U (Ab (Z ?_)))))))
 replace H:Hd _ _ _ [blk b1 [.string x.key,.string x.val] 122] []:=H
 refine Aa (Ae (V U U (Aj U F8 U) (V U U (Am U Cl U (H.cellI 0 U U)) (V U U (DN U CK U) (V U U (CH U U U) (Ad U ?_))))))
 refine AQ (d:=7) U (fun h2=>?_) (fun h2=>?_)
 ·refine Ah 6 U (Ab (Z (An (Ap U U ?_))))
  replace H:=H.nil
  exact Al ⟨by rw [decide_eq_false (by unfold C5;omega)];rfl,rfl⟩ H
 refine V U U (Aj U Jt U) (V U U (Am U Cl U (H.cellI 0 U U)) (V U U (DN U CK U) (V U U (CH U U U) (Ah 2 U (Ab (Z (An (Ap U U ?_))))))))
 replace H:=H.nil
 exact Al ⟨congrArg Value.bool (by rw [←decide_not];exact decide_eq_decide.2 (by unfold C5;omega)),rfl⟩ H
theorem RN (vxs:Value) (xs:List Aq):
    Cn Tryz.prog 67 [vxs] [] [Ac Ag vxs xs] (fun v Bs=>v=.bool (decide (HH xs))∧Bs=[]):=by
 intro w0 F0 H
 obtain ⟨A1,c2,rfl,hc3,hm4,hp5⟩:=H.fR 0 rfl
 refine enter Tryz.func67 U U (Nat.le_of_ble_eq_true U) (Aa (Ae (Ad U (Ab (Z ?_)))))
 replace H:Hd _ _ _ [] [Ac Ag (.slice A1 xs.length c2) xs]:=H
 refine Aa (Ae (Ad U (sc (OV 126 [] [] (fun p=>!decide (C5 p)) Wy (fun x=>Yt x) (.slice A1 xs.length c2) xs) H (lR 0 U l0) U U (Av Qm U U) ?_)))
 rintro _ _ w ⟨rfl,rfl⟩ H
 exact V U U (ES U U U) (Ad U (Ab (Z (An (Ap U U (Al ⟨congrArg Value.bool (Yw xs),rfl⟩ H))))))
end Go.Proofs.YthhajcnbjiiclaaGreatDoor.X
