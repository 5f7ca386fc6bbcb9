/- WorkerNone: texts V5, P1, V6, V7, P2, P3, joined by a program of ours; what nothing names is left out. -/
import Derived.Test.YthgehekecfpikaaGreatDoorWorkerNoneQ2
import Derived.Test.YthgehekecfpikaaGreatDoorShelf
set_option linter.unusedVariables false
set_option linter.unusedSimpArgs false
set_option maxHeartbeats 8000000
namespace Go.Proofs.YthgehekecfpikaaGreatDoor.X
open Go
theorem Sv (r:Nat) (pv:Value) (key:ByteArray) (vv:Value) (fuel pos steps:Int) (halted:Bool) (sv:Value) (g:Nat→AL) (tv:Value) (mb:Nat) (stk:List AL) (told:List An) (vals:List ByteArray) (i:BO) (n:Int) (hst:stk.length≤16) (hto:told.length≤40) (hok:(∀ v∈stk,EI v)∧∀ k,EI (g k)) (hi:BB i n):
    Cn Tryz.prog 243 [.pointer (some ⟨r,0,none⟩),.agg #[.int .i64 i.op,.int .i64 i.a,.string i.s]] [blk r (A_ pv key vv fuel pos steps halted sv g tv (.map (some mb))) 288,Y AT sv stk,Y Ag tv told,BL mb] [Ab Be vv vals,gl] (fun v Bs=>∃ sv2 tv2 vv2,v=.int .i64 (BA dg key ⟨pos,halted,stk,g,told,vals⟩ i).2∧CX Be vv vals vv2 (BA dg key ⟨pos,halted,stk,g,told,vals⟩ i).1.vals∧Bs=[blk r (A_ pv key vv2 fuel (BA dg key ⟨pos,halted,stk,g,told,vals⟩ i).1.pos steps (BA dg key ⟨pos,halted,stk,g,told,vals⟩ i).1.halted sv2 (BA dg key ⟨pos,halted,stk,g,told,vals⟩ i).1.g tv2 (.map (some mb))) 288,Y AT sv2 (BA dg key ⟨pos,halted,stk,g,told,vals⟩ i).1.stk,Y Ag tv2 (BA dg key ⟨pos,halted,stk,g,told,vals⟩ i).1.told,BL mb]):=by
 intro w0 F0 H
 refine enter Tryz.func243 U U (Nat.le_of_ble_eq_true U) (Aa (Ae (Cm U U U U H (fun b1 w H=>(Ad U (Ac (Z ?_)))))))
 replace H:Hd _ _ _ [blk b1 [.int .i64 i.op,.int .i64 i.a,.string i.s] 223,blk r (A_ pv key vv fuel pos steps halted sv g tv (.map (some mb))) 288,Y AT sv stk,Y Ag tv told,BL mb] [Ab Be vv vals,gl]:=H
 refine Aa (Ae (Ad U (V U U (Aj U C4 U) (V U U (Al U AA U (H.cellI 0 U U)) ?_))))
 replace H:=H.p2.p2
 refine sc (VU r pv key vv fuel pos steps halted sv g tv (.map (some mb)) stk i.op (by first |omega|exact Nat.le_trans hN.2.1 hst)) H l0 U U (Au UG U U) ?_
 rintro _ _ w ⟨u2,s3,rfl,rfl⟩ H
 replace H:=H.h3 (A:=blk r (A_ pv key vv fuel pos steps halted s3 g tv (.map (some mb))) 288) (B:=Y AT s3 ((Av i.op stk).2.1)) (C:=Y AT u2 ((Av i.op stk).2.2))
 refine Ah 5 U (Ac (Z (Aa (Aa (Ae (Ad U (V U U (Dq U U U) (Ac (Z ?_)))))))))
 refine Aw U (fun h4=>?_) (fun h4=>?_)
 ·refine Aa (Ae (Ah 2 U (Ac (Z (Am (Ay (Aq U U ?_)))))))
  replace H:=H.p5.p5.p3.p3.k4
  have e:BA dg key (⟨pos,halted,stk,g,told,vals⟩:VM) i=((⟨pos,halted,stk,g,told,vals⟩:VM),(Av i.op stk).1):=KR (m:=(⟨pos,halted,stk,g,told,vals⟩:VM)) h4
  have e2:=VV h4
  rw [e2] at H
  replace H:Hd _ _ _ [blk r (A_ pv key vv fuel pos steps halted s3 g tv (.map (some mb))) 288,Y AT s3 stk,Y Ag tv told,BL mb] [Ab Be vv vals,gl]:=H
  exact Ak ⟨s3,tv,vv,by rw [e]<;>rfl,by rw [e]<;>exact CX.refl _ _ _,by rw [e]<;>rfl⟩ H
 refine Ax (Z (Aa (Aa ?_)))
 have hN0:=Classical.not_not.1 h4
 have hN:=LW hN0
 refine Ae (V U U (Aj U C4 U) (V U U (Al U AA U (H.cellI 3 U U)) (Ac (Z (AS (Aa (Ae (V U U (AW U U U) (Ad U (Ac (Z ?_)))))))))))
 refine Aw U (fun h5=>?_) (fun h5=>?_)
 ·have hks:(Ba i.op).size=0:=by rw [h5];rfl
  refine Ae (Ad U (V U U (AF U U) (V U U (Aj U Of U) (BD U U U E5 U U H U (Nat.le_of_ble_eq_true U) (fun u hu=>by simp [Value.cells] at hu;subst hu;rfl) (fun w H=>?_)))))
  replace H:=H.h1 (A:=blk r (A_ pv key vv fuel pos steps true s3 g tv (.map (some mb))) 288)
  refine Ac (AU (Z (Aa (Ae (Ad U (Ac (Z (Am (Aq U U ?_)))))))))
  replace H:=H.p5.p5.p3.p3.k4
  have e:BA dg key (⟨pos,halted,stk,g,told,vals⟩:VM) i=((⟨pos,true,(Av i.op stk).2.1,g,told,vals⟩:VM),0):=by
    rw [Dg (m:=(⟨pos,halted,stk,g,told,vals⟩:VM)) h4,MX h5]
    all_goals rfl
  replace H:Hd _ _ _ [blk r (A_ pv key vv fuel pos steps true s3 g tv (.map (some mb))) 288,Y AT s3 ((Av i.op stk).2.1),Y Ag tv told,BL mb] [Ab Be vv vals,gl]:=H
  exact Ak ⟨s3,tv,vv,by rw [e]<;>rfl,by rw [e]<;>exact CX.refl _ _ _,by rw [e]<;>rfl⟩ H
 refine Aa (Ae (V U U (AW U U U) (Ad U (Ac (Z ?_)))))
 refine Aw U (fun h6=>?_) (fun h6=>?_)
 ·have hks:(Ba i.op).size=0:=by rw [h6];rfl
  refine Aa (Ae (Ad U (V U U (Aj U Dh U) (V U U (Al U AA U (H.cellI 3 U U)) (sc (FI i.a) H l0 U U (Au FA U U) ?_)))))
  rintro _ _ w ⟨rfl,rfl⟩ H
  refine BW (parts:=[(0,.tmp 29)]) (vs:=[.agg #[.bool false,.int .i64 i.a,.string ⟨#[]⟩]]) (cs:=[.bool false,.int .i64 i.a,.string ⟨#[]⟩]) U U U BT Di U (by decide) (by decide) U U H (fun b7 w H=>?_)
  replace H:=H.h1 (A:=blk b7 [.bool false,.int .i64 i.a,.string ⟨#[]⟩] 284)|>.p2|>.p2
  refine sc (D3 r pv key vv fuel pos steps halted s3 g tv (.map (some mb)) ((Av i.op stk).2.1) (.slice (some ⟨b7,0,none⟩) 1 1) [(⟨false,i.a,⟨#[]⟩⟩:AL)] (by first |omega|exact Nat.le_trans hN.2.1 hst) (Nat.le_of_ble_eq_true U)) H (lA 0 U (fun F h=>Cp h rfl (by decide) (AV.flat_eq.2 U)) l0) U U (Au D0 U U) ?_
  rintro _ _ w ⟨s8,rfl,rfl⟩ H
  replace H:=H.h2 (A:=blk r (A_ pv key vv fuel pos steps halted s8 g tv (.map (some mb))) 288) (B:=Y AT s8 ((Bc ((Av i.op stk).2.1) [(⟨false,i.a,⟨#[]⟩⟩:AL)]).2))
  refine Ad U (Ac (Z (Am (AY (Ay (Aq U U ?_))))))
  replace H:=H.p6.p6.p3.p3.k4
  have e:BA dg key (⟨pos,halted,stk,g,told,vals⟩:VM) i=((⟨pos,halted,(Bc ((Av i.op stk).2.1) [(⟨false,i.a,⟨#[]⟩⟩:AL)]).2,g,told,vals⟩:VM),(Bc ((Av i.op stk).2.1) [(⟨false,i.a,⟨#[]⟩⟩:AL)]).1):=by
    rw [Dg (m:=(⟨pos,halted,stk,g,told,vals⟩:VM)) h4,MY h6]
    all_goals rfl
  replace H:Hd _ _ _ [blk r (A_ pv key vv fuel pos steps halted s8 g tv (.map (some mb))) 288,Y AT s8 ((Bc ((Av i.op stk).2.1) [(⟨false,i.a,⟨#[]⟩⟩:AL)]).2),Y Ag tv told,BL mb] [Ab Be vv vals,gl]:=H
  exact Ak ⟨s8,tv,vv,by rw [e]<;>rfl,by rw [e]<;>exact CX.refl _ _ _,by rw [e]<;>rfl⟩ H
 refine Aa (Ae (V U U (AW U U U) (Ad U (Ac (Z ?_)))))
 refine Aw U (fun h9=>?_) (fun h9=>?_)
 ·have hks:(Ba i.op).size=0:=by rw [h9];rfl
  refine Aa (Ae (Ad U (V U U (Aj U EZ U) (V U U (Al U BR U (H.cellI 3 U U)) (sc (H_ i.s) H l0 U U (Au HG U U) ?_)))))
  rintro _ _ w ⟨rfl,rfl⟩ H
  refine BW (parts:=[(0,.tmp 37)]) (vs:=[.agg #[.bool true,.int .i64 0,.string i.s]]) (cs:=[.bool true,.int .i64 0,.string i.s]) U U U BT Di U (by decide) (by decide) U U H (fun b10 w H=>?_)
  replace H:=H.h1 (A:=blk b10 [.bool true,.int .i64 0,.string i.s] 284)|>.p2|>.p2
  refine sc (D3 r pv key vv fuel pos steps halted s3 g tv (.map (some mb)) ((Av i.op stk).2.1) (.slice (some ⟨b10,0,none⟩) 1 1) [(⟨true,0,i.s⟩:AL)] (by first |omega|exact Nat.le_trans hN.2.1 hst) (Nat.le_of_ble_eq_true U)) H (lA 0 U (fun F h=>Cp h rfl (by decide) (AV.flat_eq.2 U)) l0) U U (Au D0 U U) ?_
  rintro _ _ w ⟨s11,rfl,rfl⟩ H
  replace H:=H.h2 (A:=blk r (A_ pv key vv fuel pos steps halted s11 g tv (.map (some mb))) 288) (B:=Y AT s11 ((Bc ((Av i.op stk).2.1) [(⟨true,0,i.s⟩:AL)]).2))
  refine Ad U (Ac (Z (Am (AY (Ay (Aq U U ?_))))))
  replace H:=H.p6.p6.p3.p3.k4
  have e:BA dg key (⟨pos,halted,stk,g,told,vals⟩:VM) i=((⟨pos,halted,(Bc ((Av i.op stk).2.1) [(⟨true,0,i.s⟩:AL)]).2,g,told,vals⟩:VM),(Bc ((Av i.op stk).2.1) [(⟨true,0,i.s⟩:AL)]).1):=by
    rw [Dg (m:=(⟨pos,halted,stk,g,told,vals⟩:VM)) h4,M7 h9]
    all_goals rfl
  replace H:Hd _ _ _ [blk r (A_ pv key vv fuel pos steps halted s11 g tv (.map (some mb))) 288,Y AT s11 ((Bc ((Av i.op stk).2.1) [(⟨true,0,i.s⟩:AL)]).2),Y Ag tv told,BL mb] [Ab Be vv vals,gl]:=H
  exact Ak ⟨s11,tv,vv,by rw [e]<;>rfl,by rw [e]<;>exact CX.refl _ _ _,by rw [e]<;>rfl⟩ H
 refine Aa (Ae (V U U (AW U U U) (Ad U (Ac (Z ?_)))))
 refine Aw U (fun h12=>?_) (fun h12=>?_)
 ·have hks:(Ba i.op).size=1:=by rw [h12];rfl
  refine Aa ?_
  obtain ⟨A13,c14,rfl,hc15,hm16,hp17⟩:=H.fA 2 rfl
  obtain ⟨x18,hx19⟩:∃ z9,((Av i.op stk).2.2)[0]?=some z9:=⟨_,List.getElem?_eq_getElem (show 0<((Av i.op stk).2.2).length by omega)⟩
  have okx18:=hok.1 _ (hN.2.2.1 _ (Cc hx19))
  have szx18:=okx18.2
  have inx18:=okx18.1
  replace H:=H.p5.p5.p5.p5
  refine B1 (.e 0 (.e 1 (.e 2 (.e 3 (.e 4 (.e 5 (.e 6 (.m 7 (.m 8 (.e 9 .z)))))))))) (fun w=>∃ Ar,Hd w0 F0 w (Y AT (.slice A13 (((Av i.op stk).2.2).length) c14) ((Av i.op stk).2.2)::blk b1 [.int .i64 i.op,.int .i64 i.a,.string i.s] 223::Y Ag tv told::BL mb::Ar) [Ab Be vv vals,gl]) mo (by kernel_rfl) (fun w H=>⟨_,H⟩) H (fun w H=>(At U (At U ?_)))
  have th20:=H.thA 0 rfl hx19
  refine Ap U U U (fun w ⟨Ar,H⟩=>A0 (p:=AQ A13+0*3) U BT U U (by omega) (by omega) th20 (by omega)) (Ap U U U (fun w ⟨Ar,H⟩=>Bn (cs:=[.bool x18.t,.int .i64 x18.n,.string x18.b]) U C6 U U (H.elsA 0 U hx19 U)) (At U ?_))
  have th21:=H.thA 0 rfl hx19
  refine Ap U U U (fun w ⟨Ar,H⟩=>A0 (p:=AQ A13+0*3) U BT U U (by omega) (by omega) th21 (by omega)) (Ap U U U (fun w ⟨Ar,H⟩=>Bn (cs:=[.bool x18.t,.int .i64 x18.n,.string x18.b]) U C6 U U (H.elsA 0 U hx19 U)) (AO U (BW (parts:=[(0,.tmp 45),(1,.tmp 48)]) (vs:=[.agg #[.bool x18.t,.int .i64 x18.n,.string x18.b],.agg #[.bool x18.t,.int .i64 x18.n,.string x18.b]]) (cs:=[.bool x18.t,.int .i64 x18.n,.string x18.b,.bool x18.t,.int .i64 x18.n,.string x18.b]) U U U BT Di U (by decide) (by decide) U U H (fun b22 w H=>?_))))
  replace H:=H.h1 (A:=blk b22 [.bool x18.t,.int .i64 x18.n,.string x18.b,.bool x18.t,.int .i64 x18.n,.string x18.b] 284)|>.p4|>.p4|>.p4|>.p4
  refine AJ ⟨_,H⟩ (AO U ?_)
  replace H:=H.p6.p6
  refine sc (D3 r pv key vv fuel pos steps halted s3 g tv (.map (some mb)) ((Av i.op stk).2.1) (.slice (some ⟨b22,0,none⟩) 2 2) [x18,x18] (by first |omega|exact Nat.le_trans hN.2.1 hst) (Nat.le_of_ble_eq_true U)) H (lA 4 U (fun F h=>Cp h rfl (by decide) (AV.flat_eq.2 U)) l0) U U (Au D0 U U) ?_
  rintro _ _ w ⟨s23,rfl,rfl⟩ H
  replace H:=H.h2 (A:=blk r (A_ pv key vv fuel pos steps halted s23 g tv (.map (some mb))) 288) (B:=Y AT s23 ((Bc ((Av i.op stk).2.1) [x18,x18]).2))|>.p5|>.p5|>.p5|>.p5
  refine AJ ⟨_,H⟩ (At U (BK (Z (Am (AY (Ay (Aq U U ?_)))))))
  replace H:=H.p3.p3.p5.p5.k4
  have e:BA dg key (⟨pos,halted,stk,g,told,vals⟩:VM) i=((⟨pos,halted,(Bc ((Av i.op stk).2.1) [x18,x18]).2,g,told,vals⟩:VM),(Bc ((Av i.op stk).2.1) [x18,x18]).1):=by
    rw [Dg (m:=(⟨pos,halted,stk,g,told,vals⟩:VM)) h4,Nb h12]
    rw [C_ hx19]<;>rfl
  replace H:Hd _ _ _ [blk r (A_ pv key vv fuel pos steps halted s23 g tv (.map (some mb))) 288,Y AT s23 ((Bc ((Av i.op stk).2.1) [x18,x18]).2),Y Ag tv told,BL mb] [Ab Be vv vals,gl]:=H
  exact Ak ⟨s23,tv,vv,by rw [e]<;>rfl,by rw [e]<;>exact CX.refl _ _ _,by rw [e]<;>rfl⟩ H
 refine Aa (Ae (V U U (AW U U U) (Ad U (Ac (Z ?_)))))
 refine Aw U (fun h24=>?_) (fun h24=>?_)
 ·have hks:(Ba i.op).size=2:=by rw [h24];rfl
  refine Aa ?_
  obtain ⟨A25,c26,rfl,hc27,hm28,hp29⟩:=H.fA 2 rfl
  obtain ⟨x30,hx31⟩:∃ z9,((Av i.op stk).2.2)[0]?=some z9:=⟨_,List.getElem?_eq_getElem (show 0<((Av i.op stk).2.2).length by omega)⟩
  have okx30:=hok.1 _ (hN.2.2.1 _ (Cc hx31))
  have szx30:=okx30.2
  have inx30:=okx30.1
  obtain ⟨x32,hx33⟩:∃ z9,((Av i.op stk).2.2)[1]?=some z9:=⟨_,List.getElem?_eq_getElem (show 1<((Av i.op stk).2.2).length by omega)⟩
  have okx32:=hok.1 _ (hN.2.2.1 _ (Cc hx33))
  have szx32:=okx32.2
  have inx32:=okx32.1
  replace H:=H.p5.p5.p5.p5
  refine B1 (.e 0 (.e 1 (.e 2 (.e 3 (.e 4 (.e 5 (.e 6 (.m 7 (.m 8 (.e 9 .z)))))))))) (fun w=>∃ Ar,Hd w0 F0 w (Y AT (.slice A25 (((Av i.op stk).2.2).length) c26) ((Av i.op stk).2.2)::blk b1 [.int .i64 i.op,.int .i64 i.a,.string i.s] 223::Y Ag tv told::BL mb::Ar) [Ab Be vv vals,gl]) mo (by kernel_rfl) (fun w H=>⟨_,H⟩) H (fun w H=>(At U (At U ?_)))
  have th34:=H.thA 0 rfl hx33
  refine Ap U U U (fun w ⟨Ar,H⟩=>A0 (p:=AQ A25+1*3) U BT U U (by omega) (by omega) th34 (by omega)) (Ap U U U (fun w ⟨Ar,H⟩=>Bn (cs:=[.bool x32.t,.int .i64 x32.n,.string x32.b]) U C6 U U (H.elsA 0 U hx33 U)) (At U ?_))
  have th35:=H.thA 0 rfl hx31
  refine Ap U U U (fun w ⟨Ar,H⟩=>A0 (p:=AQ A25+0*3) U BT U U (by omega) (by omega) th35 (by omega)) (Ap U U U (fun w ⟨Ar,H⟩=>Bn (cs:=[.bool x30.t,.int .i64 x30.n,.string x30.b]) U C6 U U (H.elsA 0 U hx31 U)) (AO U (BW (parts:=[(0,.tmp 56),(1,.tmp 59)]) (vs:=[.agg #[.bool x32.t,.int .i64 x32.n,.string x32.b],.agg #[.bool x30.t,.int .i64 x30.n,.string x30.b]]) (cs:=[.bool x32.t,.int .i64 x32.n,.string x32.b,.bool x30.t,.int .i64 x30.n,.string x30.b]) U U U BT Di U (by decide) (by decide) U U H (fun b36 w H=>?_))))
  replace H:=H.h1 (A:=blk b36 [.bool x32.t,.int .i64 x32.n,.string x32.b,.bool x30.t,.int .i64 x30.n,.string x30.b] 284)|>.p4|>.p4|>.p4|>.p4
  refine AJ ⟨_,H⟩ (AO U ?_)
  replace H:=H.p6.p6
  refine sc (D3 r pv key vv fuel pos steps halted s3 g tv (.map (some mb)) ((Av i.op stk).2.1) (.slice (some ⟨b36,0,none⟩) 2 2) [x32,x30] (by first |omega|exact Nat.le_trans hN.2.1 hst) (Nat.le_of_ble_eq_true U)) H (lA 4 U (fun F h=>Cp h rfl (by decide) (AV.flat_eq.2 U)) l0) U U (Au D0 U U) ?_
  rintro _ _ w ⟨s37,rfl,rfl⟩ H
  replace H:=H.h2 (A:=blk r (A_ pv key vv fuel pos steps halted s37 g tv (.map (some mb))) 288) (B:=Y AT s37 ((Bc ((Av i.op stk).2.1) [x32,x30]).2))|>.p5|>.p5|>.p5|>.p5
  refine AJ ⟨_,H⟩ (At U (BK (Z (Am (AY (Ay (Aq U U ?_)))))))
  replace H:=H.p3.p3.p5.p5.k4
  have e:BA dg key (⟨pos,halted,stk,g,told,vals⟩:VM) i=((⟨pos,halted,(Bc ((Av i.op stk).2.1) [x32,x30]).2,g,told,vals⟩:VM),(Bc ((Av i.op stk).2.1) [x32,x30]).1):=by
    rw [Dg (m:=(⟨pos,halted,stk,g,told,vals⟩:VM)) h4,Nd h24]
    rw [C_ hx31,C_ hx33]<;>rfl
  replace H:Hd _ _ _ [blk r (A_ pv key vv fuel pos steps halted s37 g tv (.map (some mb))) 288,Y AT s37 ((Bc ((Av i.op stk).2.1) [x32,x30]).2),Y Ag tv told,BL mb] [Ab Be vv vals,gl]:=H
  exact Ak ⟨s37,tv,vv,by rw [e]<;>rfl,by rw [e]<;>exact CX.refl _ _ _,by rw [e]<;>rfl⟩ H
 refine Aa (Ae (V U U (AW U U U) (Ad U (Ac (Z ?_)))))
 refine Aw U (fun h38=>?_) (fun h38=>?_)
 ·have hks:(Ba i.op).size=0:=by rw [h38];rfl
  refine Aa (Ae (Ah 2 U (V U U (AF U U) (V U U (Aj U S7 U) (V U U (Al U BR U (H.cellI 0 U U)) (sc (H_ key) H l0 U U (Au HG U U) ?_))))))
  rintro _ _ w ⟨rfl,rfl⟩ H
  refine BW (parts:=[(0,.tmp 69)]) (vs:=[.agg #[.bool true,.int .i64 0,.string key]]) (cs:=[.bool true,.int .i64 0,.string key]) U U U BT Di U (by decide) (by decide) U U H (fun b39 w H=>?_)
  replace H:=H.h1 (A:=blk b39 [.bool true,.int .i64 0,.string key] 284)|>.p2|>.p2
  refine sc (D3 r pv key vv fuel pos steps halted s3 g tv (.map (some mb)) ((Av i.op stk).2.1) (.slice (some ⟨b39,0,none⟩) 1 1) [(⟨true,0,key⟩:AL)] (by first |omega|exact Nat.le_trans hN.2.1 hst) (Nat.le_of_ble_eq_true U)) H (lA 0 U (fun F h=>Cp h rfl (by decide) (AV.flat_eq.2 U)) l0) U U (Au D0 U U) ?_
  rintro _ _ w ⟨s40,rfl,rfl⟩ H
  replace H:=H.h2 (A:=blk r (A_ pv key vv fuel pos steps halted s40 g tv (.map (some mb))) 288) (B:=Y AT s40 ((Bc ((Av i.op stk).2.1) [(⟨true,0,key⟩:AL)]).2))
  refine Ad U (Ac (Z (Am (AY (Ay (Aq U U ?_))))))
  replace H:=H.p6.p6.p3.p3.k4
  have e:BA dg key (⟨pos,halted,stk,g,told,vals⟩:VM) i=((⟨pos,halted,(Bc ((Av i.op stk).2.1) [(⟨true,0,key⟩:AL)]).2,g,told,vals⟩:VM),(Bc ((Av i.op stk).2.1) [(⟨true,0,key⟩:AL)]).1):=by
    rw [Dg (m:=(⟨pos,halted,stk,g,told,vals⟩:VM)) h4,Nf h38]
    all_goals rfl
  replace H:Hd _ _ _ [blk r (A_ pv key vv fuel pos steps halted s40 g tv (.map (some mb))) 288,Y AT s40 ((Bc ((Av i.op stk).2.1) [(⟨true,0,key⟩:AL)]).2),Y Ag tv told,BL mb] [Ab Be vv vals,gl]:=H
  exact Ak ⟨s40,tv,vv,by rw [e]<;>rfl,by rw [e]<;>exact CX.refl _ _ _,by rw [e]<;>rfl⟩ H
 refine Aa (Ae (V U U (AW U U U) (Ad U (Ac (Z ?_)))))
 refine Aw U (fun h41=>?_) (fun h41=>?_)
 ·have hks:(Ba i.op).size=0:=by rw [h41];rfl
  refine Aa (Ae (Ad U (sc (V2 r pv key vv fuel pos steps halted s3 g tv (.map (some mb)) ((Av i.op stk).2.1) vals (by first |omega|exact Nat.le_trans hN.2.1 hst)) H (lR 0 U l0) U U (Au UH U U) ?_)))
  rintro _ _ w ⟨s42,vv43,rfl,hsuf44,rfl⟩ H
  replace H:=H.h2 (A:=blk r (A_ pv key vv43 fuel pos steps halted s42 g tv (.map (some mb))) 288) (B:=Y AT s42 ((E0 ((Av i.op stk).2.1) vals).2.1))
  refine Ad U (Ac (Z (Am (AY (Ay (Aq U U ?_))))))
  replace H:=H.p5.p5.p3.p3.k4
  have e:BA dg key (⟨pos,halted,stk,g,told,vals⟩:VM) i=((⟨pos,halted,(E0 ((Av i.op stk).2.1) vals).2.1,g,told,(E0 (Av i.op stk).2.1 vals).2.2⟩:VM),(E0 ((Av i.op stk).2.1) vals).1):=by
    rw [Dg (m:=(⟨pos,halted,stk,g,told,vals⟩:VM)) h4,Ng h41]
    rw [PB]
  replace H:Hd _ _ _ [blk r (A_ pv key vv43 fuel pos steps halted s42 g tv (.map (some mb))) 288,Y AT s42 ((E0 ((Av i.op stk).2.1) vals).2.1),Y Ag tv told,BL mb] [Ab Be vv vals,gl]:=H
  exact Ak ⟨s42,tv,vv43,by rw [e]<;>rfl,by rw [e]<;>exact hsuf44,by rw [e]<;>rfl⟩ H
 refine Aa (Aa (Ae (V U U (AW U U U) (Ad U (Ac (Z ?_))))))
 refine Aw U (fun h45=>?_) (fun h45=>?_)
 ·have hks:(Ba i.op).size=2:=by rw [h45];rfl
  refine Ax (Z ?_)
  refine Aw U (fun h46=>?_) (fun h46=>?_)
  ·have hks:(Ba i.op).size=2:=by rw [h46];rfl
   refine Aa ?_
   obtain ⟨A47,c48,rfl,hc49,hm50,hp51⟩:=H.fA 2 rfl
   obtain ⟨x52,hx53⟩:∃ z9,((Av i.op stk).2.2)[0]?=some z9:=⟨_,List.getElem?_eq_getElem (show 0<((Av i.op stk).2.2).length by omega)⟩
   have okx52:=hok.1 _ (hN.2.2.1 _ (Cc hx53))
   have szx52:=okx52.2
   have inx52:=okx52.1
   obtain ⟨x54,hx55⟩:∃ z9,((Av i.op stk).2.2)[1]?=some z9:=⟨_,List.getElem?_eq_getElem (show 1<((Av i.op stk).2.2).length by omega)⟩
   have okx54:=hok.1 _ (hN.2.2.1 _ (Cc hx55))
   have szx54:=okx54.2
   have inx54:=okx54.1
   replace H:=H.p5.p5.p5.p5
   refine B1 (.e 0 (.e 1 (.e 2 (.e 3 (.e 4 (.e 5 (.e 6 (.e 7 (.e 8 (.e 9 (.e 10 (.m 11 (.m 12 (.m 13 (.e 14 .z))))))))))))))) (fun w=>∃ Ar,Hd w0 F0 w (Y AT (.slice A47 (((Av i.op stk).2.2).length) c48) ((Av i.op stk).2.2)::blk b1 [.int .i64 i.op,.int .i64 i.a,.string i.s] 223::Y Ag tv told::BL mb::Ar) [Ab Be vv vals,gl]) mo (by kernel_rfl) (fun w H=>⟨_,H⟩) H (fun w H=>(At U (Ap U U U (fun w ⟨Ar,H⟩=>Aj U C4 U) (Ap U U U (fun w ⟨Ar,H⟩=>Al U AA U (H.cellI 1 U U)) (At U ?_)))))
   have th56:=H.thA 0 rfl hx53
   refine Ap U U U (fun w ⟨Ar,H⟩=>A0 (p:=AQ A47+0*3) U BT U U (by omega) (by omega) th56 (by omega)) (Ap U U U (fun w ⟨Ar,H⟩=>Aj U Ez U) (Ap U U U (fun w ⟨Ar,H⟩=>Al U DM U (H.elA 0 U hx53 (q:=1) U U)) (At U ?_)))
   have th57:=H.thA 0 rfl hx55
   refine Ap U U U (fun w ⟨Ar,H⟩=>A0 (p:=AQ A47+1*3) U BT U U (by omega) (by omega) th57 (by omega)) (Ap U U U (fun w ⟨Ar,H⟩=>Aj U Ez U) (Ap U U U (fun w ⟨Ar,H⟩=>Al U DM U (H.elA 0 U hx55 (q:=1) U U)) (AO U (sc (JX i.op x52.n x54.n) H l0 U U (Au JJ U U) ?_))))
   rintro _ _ w ⟨rfl,rfl⟩ H
   refine AJ ⟨_,H⟩ (AO U (BW (parts:=[(0,.tmp 92)]) (vs:=[.agg #[.bool ((Bx i.op x52.n x54.n).t),.int .i64 ((Bx i.op x52.n x54.n).n),.string ((Bx i.op x52.n x54.n).b)]]) (cs:=[.bool ((Bx i.op x52.n x54.n).t),.int .i64 ((Bx i.op x52.n x54.n).n),.string ((Bx i.op x52.n x54.n).b)]) U U U BT Di U (by decide) (by decide) U U H (fun b58 w H=>?_)))
   replace H:=H.h1 (A:=blk b58 [.bool ((Bx i.op x52.n x54.n).t),.int .i64 ((Bx i.op x52.n x54.n).n),.string ((Bx i.op x52.n x54.n).b)] 284)|>.p4|>.p4|>.p4|>.p4
   refine AJ ⟨_,H⟩ (AO U ?_)
   replace H:=H.p6.p6
   refine sc (D3 r pv key vv fuel pos steps halted s3 g tv (.map (some mb)) ((Av i.op stk).2.1) (.slice (some ⟨b58,0,none⟩) 1 1) [(Bx i.op x52.n x54.n)] (by first |omega|exact Nat.le_trans hN.2.1 hst) (Nat.le_of_ble_eq_true U)) H (lA 4 U (fun F h=>Cp h rfl (by decide) (AV.flat_eq.2 U)) l0) U U (Au D0 U U) ?_
   rintro _ _ w ⟨s59,rfl,rfl⟩ H
   replace H:=H.h2 (A:=blk r (A_ pv key vv fuel pos steps halted s59 g tv (.map (some mb))) 288) (B:=Y AT s59 ((Bc ((Av i.op stk).2.1) [(Bx i.op x52.n x54.n)]).2))|>.p5|>.p5|>.p5|>.p5
   refine AJ ⟨_,H⟩ (At U (BK (Z (Am (AY (Ay (Aq U U ?_)))))))
   replace H:=H.p3.p3.p5.p5.k4
   have e:BA dg key (⟨pos,halted,stk,g,told,vals⟩:VM) i=((⟨pos,halted,(Bc ((Av i.op stk).2.1) [(Bx i.op x52.n x54.n)]).2,g,told,vals⟩:VM),(Bc ((Av i.op stk).2.1) [(Bx i.op x52.n x54.n)]).1):=by
     rw [Dg (m:=(⟨pos,halted,stk,g,told,vals⟩:VM)) h4,If (by omega)]
     rw [C_ hx53,C_ hx55]<;>rfl
   replace H:Hd _ _ _ [blk r (A_ pv key vv fuel pos steps halted s59 g tv (.map (some mb))) 288,Y AT s59 ((Bc ((Av i.op stk).2.1) [(Bx i.op x52.n x54.n)]).2),Y Ag tv told,BL mb] [Ab Be vv vals,gl]:=H
   exact Ak ⟨s59,tv,vv,by rw [e]<;>rfl,by rw [e]<;>exact CX.refl _ _ _,by rw [e]<;>rfl⟩ H
  exact absurd h45 h46
 refine Aa (Ae (V U U (AW U U U) (Ad U (Ac (Z ?_)))))
 refine Aw U (fun h60=>?_) (fun h60=>?_)
 ·have hks:(Ba i.op).size=2:=by rw [h60];rfl
  refine Ax (Z ?_)
  refine Aw U (fun h61=>?_) (fun h61=>?_)
  ·have hks:(Ba i.op).size=2:=by rw [h61];rfl
   refine Aa ?_
   obtain ⟨A62,c63,rfl,hc64,hm65,hp66⟩:=H.fA 2 rfl
   obtain ⟨x67,hx68⟩:∃ z9,((Av i.op stk).2.2)[0]?=some z9:=⟨_,List.getElem?_eq_getElem (show 0<((Av i.op stk).2.2).length by omega)⟩
   have okx67:=hok.1 _ (hN.2.2.1 _ (Cc hx68))
   have szx67:=okx67.2
   have inx67:=okx67.1
   obtain ⟨x69,hx70⟩:∃ z9,((Av i.op stk).2.2)[1]?=some z9:=⟨_,List.getElem?_eq_getElem (show 1<((Av i.op stk).2.2).length by omega)⟩
   have okx69:=hok.1 _ (hN.2.2.1 _ (Cc hx70))
   have szx69:=okx69.2
   have inx69:=okx69.1
   replace H:=H.p5.p5.p5.p5
   refine B1 (.e 0 (.e 1 (.e 2 (.e 3 (.e 4 (.e 5 (.e 6 (.e 7 (.e 8 (.e 9 (.e 10 (.m 11 (.m 12 (.m 13 (.e 14 .z))))))))))))))) (fun w=>∃ Ar,Hd w0 F0 w (Y AT (.slice A62 (((Av i.op stk).2.2).length) c63) ((Av i.op stk).2.2)::blk b1 [.int .i64 i.op,.int .i64 i.a,.string i.s] 223::Y Ag tv told::BL mb::Ar) [Ab Be vv vals,gl]) mo (by kernel_rfl) (fun w H=>⟨_,H⟩) H (fun w H=>(At U (Ap U U U (fun w ⟨Ar,H⟩=>Aj U C4 U) (Ap U U U (fun w ⟨Ar,H⟩=>Al U AA U (H.cellI 1 U U)) (At U ?_)))))
   have th71:=H.thA 0 rfl hx68
   refine Ap U U U (fun w ⟨Ar,H⟩=>A0 (p:=AQ A62+0*3) U BT U U (by omega) (by omega) th71 (by omega)) (Ap U U U (fun w ⟨Ar,H⟩=>Aj U Ez U) (Ap U U U (fun w ⟨Ar,H⟩=>Al U DM U (H.elA 0 U hx68 (q:=1) U U)) (At U ?_)))
   have th72:=H.thA 0 rfl hx70
   refine Ap U U U (fun w ⟨Ar,H⟩=>A0 (p:=AQ A62+1*3) U BT U U (by omega) (by omega) th72 (by omega)) (Ap U U U (fun w ⟨Ar,H⟩=>Aj U Ez U) (Ap U U U (fun w ⟨Ar,H⟩=>Al U DM U (H.elA 0 U hx70 (q:=1) U U)) (AO U (sc (JX i.op x67.n x69.n) H l0 U U (Au JJ U U) ?_))))
   rintro _ _ w ⟨rfl,rfl⟩ H
   refine AJ ⟨_,H⟩ (AO U (BW (parts:=[(0,.tmp 92)]) (vs:=[.agg #[.bool ((Bx i.op x67.n x69.n).t),.int .i64 ((Bx i.op x67.n x69.n).n),.string ((Bx i.op x67.n x69.n).b)]]) (cs:=[.bool ((Bx i.op x67.n x69.n).t),.int .i64 ((Bx i.op x67.n x69.n).n),.string ((Bx i.op x67.n x69.n).b)]) U U U BT Di U (by decide) (by decide) U U H (fun b73 w H=>?_)))
   replace H:=H.h1 (A:=blk b73 [.bool ((Bx i.op x67.n x69.n).t),.int .i64 ((Bx i.op x67.n x69.n).n),.string ((Bx i.op x67.n x69.n).b)] 284)|>.p4|>.p4|>.p4|>.p4
   refine AJ ⟨_,H⟩ (AO U ?_)
   replace H:=H.p6.p6
   refine sc (D3 r pv key vv fuel pos steps halted s3 g tv (.map (some mb)) ((Av i.op stk).2.1) (.slice (some ⟨b73,0,none⟩) 1 1) [(Bx i.op x67.n x69.n)] (by first |omega|exact Nat.le_trans hN.2.1 hst) (Nat.le_of_ble_eq_true U)) H (lA 4 U (fun F h=>Cp h rfl (by decide) (AV.flat_eq.2 U)) l0) U U (Au D0 U U) ?_
   rintro _ _ w ⟨s74,rfl,rfl⟩ H
   replace H:=H.h2 (A:=blk r (A_ pv key vv fuel pos steps halted s74 g tv (.map (some mb))) 288) (B:=Y AT s74 ((Bc ((Av i.op stk).2.1) [(Bx i.op x67.n x69.n)]).2))|>.p5|>.p5|>.p5|>.p5
   refine AJ ⟨_,H⟩ (At U (BK (Z (Am (AY (Ay (Aq U U ?_)))))))
   replace H:=H.p3.p3.p5.p5.k4
   have e:BA dg key (⟨pos,halted,stk,g,told,vals⟩:VM) i=((⟨pos,halted,(Bc ((Av i.op stk).2.1) [(Bx i.op x67.n x69.n)]).2,g,told,vals⟩:VM),(Bc ((Av i.op stk).2.1) [(Bx i.op x67.n x69.n)]).1):=by
     rw [Dg (m:=(⟨pos,halted,stk,g,told,vals⟩:VM)) h4,If (by omega)]
     rw [C_ hx68,C_ hx70]<;>rfl
   replace H:Hd _ _ _ [blk r (A_ pv key vv fuel pos steps halted s74 g tv (.map (some mb))) 288,Y AT s74 ((Bc ((Av i.op stk).2.1) [(Bx i.op x67.n x69.n)]).2),Y Ag tv told,BL mb] [Ab Be vv vals,gl]:=H
   exact Ak ⟨s74,tv,vv,by rw [e]<;>rfl,by rw [e]<;>exact CX.refl _ _ _,by rw [e]<;>rfl⟩ H
  exact absurd h60 h61
 refine Aa (Ae (V U U (AW U U U) (Ad U (Ac (Z ?_)))))
 refine Aw U (fun h75=>?_) (fun h75=>?_)
 ·have hks:(Ba i.op).size=2:=by rw [h75];rfl
  refine Ax (Z ?_)
  refine Aw U (fun h76=>?_) (fun h76=>?_)
  ·have hks:(Ba i.op).size=2:=by rw [h76];rfl
   refine Aa ?_
   obtain ⟨A77,c78,rfl,hc79,hm80,hp81⟩:=H.fA 2 rfl
   obtain ⟨x82,hx83⟩:∃ z9,((Av i.op stk).2.2)[0]?=some z9:=⟨_,List.getElem?_eq_getElem (show 0<((Av i.op stk).2.2).length by omega)⟩
   have okx82:=hok.1 _ (hN.2.2.1 _ (Cc hx83))
   have szx82:=okx82.2
   have inx82:=okx82.1
   obtain ⟨x84,hx85⟩:∃ z9,((Av i.op stk).2.2)[1]?=some z9:=⟨_,List.getElem?_eq_getElem (show 1<((Av i.op stk).2.2).length by omega)⟩
   have okx84:=hok.1 _ (hN.2.2.1 _ (Cc hx85))
   have szx84:=okx84.2
   have inx84:=okx84.1
   replace H:=H.p5.p5.p5.p5
   refine B1 (.e 0 (.e 1 (.e 2 (.e 3 (.e 4 (.e 5 (.e 6 (.e 7 (.e 8 (.e 9 (.e 10 (.m 11 (.m 12 (.m 13 (.e 14 .z))))))))))))))) (fun w=>∃ Ar,Hd w0 F0 w (Y AT (.slice A77 (((Av i.op stk).2.2).length) c78) ((Av i.op stk).2.2)::blk b1 [.int .i64 i.op,.int .i64 i.a,.string i.s] 223::Y Ag tv told::BL mb::Ar) [Ab Be vv vals,gl]) mo (by kernel_rfl) (fun w H=>⟨_,H⟩) H (fun w H=>(At U (Ap U U U (fun w ⟨Ar,H⟩=>Aj U C4 U) (Ap U U U (fun w ⟨Ar,H⟩=>Al U AA U (H.cellI 1 U U)) (At U ?_)))))
   have th86:=H.thA 0 rfl hx83
   refine Ap U U U (fun w ⟨Ar,H⟩=>A0 (p:=AQ A77+0*3) U BT U U (by omega) (by omega) th86 (by omega)) (Ap U U U (fun w ⟨Ar,H⟩=>Aj U Ez U) (Ap U U U (fun w ⟨Ar,H⟩=>Al U DM U (H.elA 0 U hx83 (q:=1) U U)) (At U ?_)))
   have th87:=H.thA 0 rfl hx85
   refine Ap U U U (fun w ⟨Ar,H⟩=>A0 (p:=AQ A77+1*3) U BT U U (by omega) (by omega) th87 (by omega)) (Ap U U U (fun w ⟨Ar,H⟩=>Aj U Ez U) (Ap U U U (fun w ⟨Ar,H⟩=>Al U DM U (H.elA 0 U hx85 (q:=1) U U)) (AO U (sc (JX i.op x82.n x84.n) H l0 U U (Au JJ U U) ?_))))
   rintro _ _ w ⟨rfl,rfl⟩ H
   refine AJ ⟨_,H⟩ (AO U (BW (parts:=[(0,.tmp 92)]) (vs:=[.agg #[.bool ((Bx i.op x82.n x84.n).t),.int .i64 ((Bx i.op x82.n x84.n).n),.string ((Bx i.op x82.n x84.n).b)]]) (cs:=[.bool ((Bx i.op x82.n x84.n).t),.int .i64 ((Bx i.op x82.n x84.n).n),.string ((Bx i.op x82.n x84.n).b)]) U U U BT Di U (by decide) (by decide) U U H (fun b88 w H=>?_)))
   replace H:=H.h1 (A:=blk b88 [.bool ((Bx i.op x82.n x84.n).t),.int .i64 ((Bx i.op x82.n x84.n).n),.string ((Bx i.op x82.n x84.n).b)] 284)|>.p4|>.p4|>.p4|>.p4
   refine AJ ⟨_,H⟩ (AO U ?_)
   replace H:=H.p6.p6
   refine sc (D3 r pv key vv fuel pos steps halted s3 g tv (.map (some mb)) ((Av i.op stk).2.1) (.slice (some ⟨b88,0,none⟩) 1 1) [(Bx i.op x82.n x84.n)] (by first |omega|exact Nat.le_trans hN.2.1 hst) (Nat.le_of_ble_eq_true U)) H (lA 4 U (fun F h=>Cp h rfl (by decide) (AV.flat_eq.2 U)) l0) U U (Au D0 U U) ?_
   rintro _ _ w ⟨s89,rfl,rfl⟩ H
   replace H:=H.h2 (A:=blk r (A_ pv key vv fuel pos steps halted s89 g tv (.map (some mb))) 288) (B:=Y AT s89 ((Bc ((Av i.op stk).2.1) [(Bx i.op x82.n x84.n)]).2))|>.p5|>.p5|>.p5|>.p5
   refine AJ ⟨_,H⟩ (At U (BK (Z (Am (AY (Ay (Aq U U ?_)))))))
   replace H:=H.p3.p3.p5.p5.k4
   have e:BA dg key (⟨pos,halted,stk,g,told,vals⟩:VM) i=((⟨pos,halted,(Bc ((Av i.op stk).2.1) [(Bx i.op x82.n x84.n)]).2,g,told,vals⟩:VM),(Bc ((Av i.op stk).2.1) [(Bx i.op x82.n x84.n)]).1):=by
     rw [Dg (m:=(⟨pos,halted,stk,g,told,vals⟩:VM)) h4,If (by omega)]
     rw [C_ hx83,C_ hx85]<;>rfl
   replace H:Hd _ _ _ [blk r (A_ pv key vv fuel pos steps halted s89 g tv (.map (some mb))) 288,Y AT s89 ((Bc ((Av i.op stk).2.1) [(Bx i.op x82.n x84.n)]).2),Y Ag tv told,BL mb] [Ab Be vv vals,gl]:=H
   exact Ak ⟨s89,tv,vv,by rw [e]<;>rfl,by rw [e]<;>exact CX.refl _ _ _,by rw [e]<;>rfl⟩ H
  exact absurd h75 h76
 refine Ae (V U U (AW U U U) (Ad U (Ac (Z ?_))))
 refine Aw U (fun h90=>?_) (fun h90=>?_)
 ·have hks:(Ba i.op).size=2:=by rw [h90];rfl
  refine Aa ?_
  obtain ⟨A91,c92,rfl,hc93,hm94,hp95⟩:=H.fA 2 rfl
  obtain ⟨x96,hx97⟩:∃ z9,((Av i.op stk).2.2)[0]?=some z9:=⟨_,List.getElem?_eq_getElem (show 0<((Av i.op stk).2.2).length by omega)⟩
  have okx96:=hok.1 _ (hN.2.2.1 _ (Cc hx97))
  have szx96:=okx96.2
  have inx96:=okx96.1
  obtain ⟨x98,hx99⟩:∃ z9,((Av i.op stk).2.2)[1]?=some z9:=⟨_,List.getElem?_eq_getElem (show 1<((Av i.op stk).2.2).length by omega)⟩
  have okx98:=hok.1 _ (hN.2.2.1 _ (Cc hx99))
  have szx98:=okx98.2
  have inx98:=okx98.1
  replace H:=H.p5.p5.p5.p5
  refine B1 (.e 0 (.e 1 (.e 2 (.e 3 (.e 4 (.e 5 (.e 6 (.e 7 (.e 8 (.e 9 (.e 10 (.m 11 (.m 12 (.m 13 (.e 14 .z))))))))))))))) (fun w=>∃ Ar,Hd w0 F0 w (Y AT (.slice A91 (((Av i.op stk).2.2).length) c92) ((Av i.op stk).2.2)::blk b1 [.int .i64 i.op,.int .i64 i.a,.string i.s] 223::Y Ag tv told::BL mb::Ar) [Ab Be vv vals,gl]) mo (by kernel_rfl) (fun w H=>⟨_,H⟩) H (fun w H=>(At U (Ap U U U (fun w ⟨Ar,H⟩=>Aj U C4 U) (Ap U U U (fun w ⟨Ar,H⟩=>Al U AA U (H.cellI 1 U U)) (At U ?_)))))
  have th100:=H.thA 0 rfl hx97
  refine Ap U U U (fun w ⟨Ar,H⟩=>A0 (p:=AQ A91+0*3) U BT U U (by omega) (by omega) th100 (by omega)) (Ap U U U (fun w ⟨Ar,H⟩=>Aj U Ez U) (Ap U U U (fun w ⟨Ar,H⟩=>Al U DM U (H.elA 0 U hx97 (q:=1) U U)) (At U ?_)))
  have th101:=H.thA 0 rfl hx99
  refine Ap U U U (fun w ⟨Ar,H⟩=>A0 (p:=AQ A91+1*3) U BT U U (by omega) (by omega) th101 (by omega)) (Ap U U U (fun w ⟨Ar,H⟩=>Aj U Ez U) (Ap U U U (fun w ⟨Ar,H⟩=>Al U DM U (H.elA 0 U hx99 (q:=1) U U)) (AO U (sc (JX i.op x96.n x98.n) H l0 U U (Au JJ U U) ?_))))
  rintro _ _ w ⟨rfl,rfl⟩ H
  refine AJ ⟨_,H⟩ (AO U (BW (parts:=[(0,.tmp 92)]) (vs:=[.agg #[.bool ((Bx i.op x96.n x98.n).t),.int .i64 ((Bx i.op x96.n x98.n).n),.string ((Bx i.op x96.n x98.n).b)]]) (cs:=[.bool ((Bx i.op x96.n x98.n).t),.int .i64 ((Bx i.op x96.n x98.n).n),.string ((Bx i.op x96.n x98.n).b)]) U U U BT Di U (by decide) (by decide) U U H (fun b102 w H=>?_)))
  replace H:=H.h1 (A:=blk b102 [.bool ((Bx i.op x96.n x98.n).t),.int .i64 ((Bx i.op x96.n x98.n).n),.string ((Bx i.op x96.n x98.n).b)] 284)|>.p4|>.p4|>.p4|>.p4
  refine AJ ⟨_,H⟩ (AO U ?_)
  replace H:=H.p6.p6
  refine sc (D3 r pv key vv fuel pos steps halted s3 g tv (.map (some mb)) ((Av i.op stk).2.1) (.slice (some ⟨b102,0,none⟩) 1 1) [(Bx i.op x96.n x98.n)] (by first |omega|exact Nat.le_trans hN.2.1 hst) (Nat.le_of_ble_eq_true U)) H (lA 4 U (fun F h=>Cp h rfl (by decide) (AV.flat_eq.2 U)) l0) U U (Au D0 U U) ?_
  rintro _ _ w ⟨s103,rfl,rfl⟩ H
  replace H:=H.h2 (A:=blk r (A_ pv key vv fuel pos steps halted s103 g tv (.map (some mb))) 288) (B:=Y AT s103 ((Bc ((Av i.op stk).2.1) [(Bx i.op x96.n x98.n)]).2))|>.p5|>.p5|>.p5|>.p5
  refine AJ ⟨_,H⟩ (At U (BK (Z (Am (AY (Ay (Aq U U ?_)))))))
  replace H:=H.p3.p3.p5.p5.k4
  have e:BA dg key (⟨pos,halted,stk,g,told,vals⟩:VM) i=((⟨pos,halted,(Bc ((Av i.op stk).2.1) [(Bx i.op x96.n x98.n)]).2,g,told,vals⟩:VM),(Bc ((Av i.op stk).2.1) [(Bx i.op x96.n x98.n)]).1):=by
    rw [Dg (m:=(⟨pos,halted,stk,g,told,vals⟩:VM)) h4,If (by omega)]
    rw [C_ hx97,C_ hx99]<;>rfl
  replace H:Hd _ _ _ [blk r (A_ pv key vv fuel pos steps halted s103 g tv (.map (some mb))) 288,Y AT s103 ((Bc ((Av i.op stk).2.1) [(Bx i.op x96.n x98.n)]).2),Y Ag tv told,BL mb] [Ab Be vv vals,gl]:=H
  exact Ak ⟨s103,tv,vv,by rw [e]<;>rfl,by rw [e]<;>exact CX.refl _ _ _,by rw [e]<;>rfl⟩ H
 refine Aa (Ae (V U U (AW U U U) (Ad U (Ac (Z ?_)))))
 refine Aw U (fun h104=>?_) (fun h104=>?_)
 ·have hks:(Ba i.op).size=2:=by rw [h104];rfl
  refine Aa ?_
  obtain ⟨A105,c106,rfl,hc107,hm108,hp109⟩:=H.fA 2 rfl
  obtain ⟨x110,hx111⟩:∃ z9,((Av i.op stk).2.2)[0]?=some z9:=⟨_,List.getElem?_eq_getElem (show 0<((Av i.op stk).2.2).length by omega)⟩
  have okx110:=hok.1 _ (hN.2.2.1 _ (Cc hx111))
  have szx110:=okx110.2
  have inx110:=okx110.1
  obtain ⟨x112,hx113⟩:∃ z9,((Av i.op stk).2.2)[1]?=some z9:=⟨_,List.getElem?_eq_getElem (show 1<((Av i.op stk).2.2).length by omega)⟩
  have okx112:=hok.1 _ (hN.2.2.1 _ (Cc hx113))
  have szx112:=okx112.2
  have inx112:=okx112.1
  replace H:=H.p5.p5.p5.p5
  refine B1 (.e 0 (.e 1 (.e 2 (.e 3 (.e 4 (.e 5 (.e 6 (.m 7 (.m 8 (.m 9 (.m 10 (.e 11 .z)))))))))))) (fun w=>∃ Ar,Hd w0 F0 w (Y AT (.slice A105 (((Av i.op stk).2.2).length) c106) ((Av i.op stk).2.2)::blk b1 [.int .i64 i.op,.int .i64 i.a,.string i.s] 223::Y Ag tv told::BL mb::Ar) [Ab Be vv vals,gl]) mo (by kernel_rfl) (fun w H=>⟨_,H⟩) H (fun w H=>(At U (At U ?_)))
  have th114:=H.thA 0 rfl hx111
  refine Ap U U U (fun w ⟨Ar,H⟩=>A0 (p:=AQ A105+0*3) U BT U U (by omega) (by omega) th114 (by omega)) (Ap U U U (fun w ⟨Ar,H⟩=>Bn (cs:=[.bool x110.t,.int .i64 x110.n,.string x110.b]) U C6 U U (H.elsA 0 U hx111 U)) (At U ?_))
  have th115:=H.thA 0 rfl hx113
  refine Ap U U U (fun w ⟨Ar,H⟩=>A0 (p:=AQ A105+1*3) U BT U U (by omega) (by omega) th115 (by omega)) (Ap U U U (fun w ⟨Ar,H⟩=>Bn (cs:=[.bool x112.t,.int .i64 x112.n,.string x112.b]) U C6 U U (H.elsA 0 U hx113 U)) (AO U (sc (Zq x110 x112) H l0 U U (Au UI U U) ?_)))
  rintro _ _ w ⟨rfl,rfl⟩ H
  refine AJ ⟨_,H⟩ (AO U (sc (PK (Em x110 x112)) H l0 U U (Au OZ U U) ?_))
  rintro _ _ w ⟨rfl,rfl⟩ H
  refine AJ ⟨_,H⟩ (AO U (BW (parts:=[(0,.tmp 105)]) (vs:=[.agg #[.bool false,.int .i64 (if (Em x110 x112)=true then 1 else 0),.string ⟨#[]⟩]]) (cs:=[.bool false,.int .i64 (if (Em x110 x112)=true then 1 else 0),.string ⟨#[]⟩]) U U U BT Di U (by decide) (by decide) U U H (fun b116 w H=>?_)))
  replace H:=H.h1 (A:=blk b116 [.bool false,.int .i64 (if (Em x110 x112)=true then 1 else 0),.string ⟨#[]⟩] 284)|>.p4|>.p4|>.p4|>.p4
  refine AJ ⟨_,H⟩ (AO U ?_)
  replace H:=H.p6.p6
  refine sc (D3 r pv key vv fuel pos steps halted s3 g tv (.map (some mb)) ((Av i.op stk).2.1) (.slice (some ⟨b116,0,none⟩) 1 1) [(⟨false,if (Em x110 x112)=true then 1 else 0,⟨#[]⟩⟩:AL)] (by first |omega|exact Nat.le_trans hN.2.1 hst) (Nat.le_of_ble_eq_true U)) H (lA 4 U (fun F h=>Cp h rfl (by decide) (AV.flat_eq.2 U)) l0) U U (Au D0 U U) ?_
  rintro _ _ w ⟨s117,rfl,rfl⟩ H
  replace H:=H.h2 (A:=blk r (A_ pv key vv fuel pos steps halted s117 g tv (.map (some mb))) 288) (B:=Y AT s117 ((Bc ((Av i.op stk).2.1) [(⟨false,if (Em x110 x112)=true then 1 else 0,⟨#[]⟩⟩:AL)]).2))|>.p5|>.p5|>.p5|>.p5
  refine AJ ⟨_,H⟩ (At U (BK (Z (Am (AY (Ay (Aq U U ?_)))))))
  replace H:=H.p3.p3.p5.p5.k4
  have e:BA dg key (⟨pos,halted,stk,g,told,vals⟩:VM) i=((⟨pos,halted,(Bc ((Av i.op stk).2.1) [(⟨false,if (Em x110 x112)=true then 1 else 0,⟨#[]⟩⟩:AL)]).2,g,told,vals⟩:VM),(Bc ((Av i.op stk).2.1) [(⟨false,if (Em x110 x112)=true then 1 else 0,⟨#[]⟩⟩:AL)]).1):=by
    rw [Dg (m:=(⟨pos,halted,stk,g,told,vals⟩:VM)) h4,MZ h104]
    rw [C_ hx111,C_ hx113]<;>rfl
  replace H:Hd _ _ _ [blk r (A_ pv key vv fuel pos steps halted s117 g tv (.map (some mb))) 288,Y AT s117 ((Bc ((Av i.op stk).2.1) [(⟨false,if (Em x110 x112)=true then 1 else 0,⟨#[]⟩⟩:AL)]).2),Y Ag tv told,BL mb] [Ab Be vv vals,gl]:=H
  exact Ak ⟨s117,tv,vv,by rw [e]<;>rfl,by rw [e]<;>exact CX.refl _ _ _,by rw [e]<;>rfl⟩ H
 refine Aa (Ae (V U U (AW U U U) (Ad U (Ac (Z ?_)))))
 refine Aw U (fun h118=>?_) (fun h118=>?_)
 ·have hks:(Ba i.op).size=2:=by rw [h118];rfl
  refine Aa ?_
  obtain ⟨A119,c120,rfl,hc121,hm122,hp123⟩:=H.fA 2 rfl
  obtain ⟨x124,hx125⟩:∃ z9,((Av i.op stk).2.2)[0]?=some z9:=⟨_,List.getElem?_eq_getElem (show 0<((Av i.op stk).2.2).length by omega)⟩
  have okx124:=hok.1 _ (hN.2.2.1 _ (Cc hx125))
  have szx124:=okx124.2
  have inx124:=okx124.1
  obtain ⟨x126,hx127⟩:∃ z9,((Av i.op stk).2.2)[1]?=some z9:=⟨_,List.getElem?_eq_getElem (show 1<((Av i.op stk).2.2).length by omega)⟩
  have okx126:=hok.1 _ (hN.2.2.1 _ (Cc hx127))
  have szx126:=okx126.2
  have inx126:=okx126.1
  replace H:=H.p5.p5.p5.p5
  refine B1 (.e 0 (.e 1 (.e 2 (.e 3 (.e 4 (.e 5 (.e 6 (.e 7 (.e 8 (.e 9 (.m 10 (.m 11 (.m 12 (.e 13 .z)))))))))))))) (fun w=>∃ Ar,Hd w0 F0 w (Y AT (.slice A119 (((Av i.op stk).2.2).length) c120) ((Av i.op stk).2.2)::blk b1 [.int .i64 i.op,.int .i64 i.a,.string i.s] 223::Y Ag tv told::BL mb::Ar) [Ab Be vv vals,gl]) mo (by kernel_rfl) (fun w H=>⟨_,H⟩) H (fun w H=>(At U (At U ?_)))
  have th128:=H.thA 0 rfl hx125
  refine Ap U U U (fun w ⟨Ar,H⟩=>A0 (p:=AQ A119+0*3) U BT U U (by omega) (by omega) th128 (by omega)) (Ap U U U (fun w ⟨Ar,H⟩=>Aj U Fx U) (Ap U U U (fun w ⟨Ar,H⟩=>Al U BR U (H.elA 0 U hx125 (q:=2) U U)) (At U ?_)))
  have th129:=H.thA 0 rfl hx127
  refine Ap U U U (fun w ⟨Ar,H⟩=>A0 (p:=AQ A119+1*3) U BT U U (by omega) (by omega) th129 (by omega)) (Ap U U U (fun w ⟨Ar,H⟩=>Aj U Fx U) (Ap U U U (fun w ⟨Ar,H⟩=>Al U BR U (H.elA 0 U hx127 (q:=2) U U)) (Ap U U U (fun w ⟨Ar,H⟩=>Xb U U U (by omega)) (AO U (sc (H_ (x124.b++x126.b)) H l0 U U (Au HG U U) ?_)))))
  rintro _ _ w ⟨rfl,rfl⟩ H
  refine AJ ⟨_,H⟩ (AO U (BW (parts:=[(0,.tmp 120)]) (vs:=[.agg #[.bool true,.int .i64 0,.string (x124.b++x126.b)]]) (cs:=[.bool true,.int .i64 0,.string (x124.b++x126.b)]) U U U BT Di U (by decide) (by decide) U U H (fun b130 w H=>?_)))
  replace H:=H.h1 (A:=blk b130 [.bool true,.int .i64 0,.string (x124.b++x126.b)] 284)|>.p4|>.p4|>.p4|>.p4
  refine AJ ⟨_,H⟩ (AO U ?_)
  replace H:=H.p6.p6
  refine sc (D3 r pv key vv fuel pos steps halted s3 g tv (.map (some mb)) ((Av i.op stk).2.1) (.slice (some ⟨b130,0,none⟩) 1 1) [(⟨true,0,(x124.b++x126.b)⟩:AL)] (by first |omega|exact Nat.le_trans hN.2.1 hst) (Nat.le_of_ble_eq_true U)) H (lA 4 U (fun F h=>Cp h rfl (by decide) (AV.flat_eq.2 U)) l0) U U (Au D0 U U) ?_
  rintro _ _ w ⟨s131,rfl,rfl⟩ H
  replace H:=H.h2 (A:=blk r (A_ pv key vv fuel pos steps halted s131 g tv (.map (some mb))) 288) (B:=Y AT s131 ((Bc ((Av i.op stk).2.1) [(⟨true,0,(x124.b++x126.b)⟩:AL)]).2))|>.p5|>.p5|>.p5|>.p5
  refine AJ ⟨_,H⟩ (At U (BK (Z (Am (AY (Ay (Aq U U ?_)))))))
  replace H:=H.p3.p3.p5.p5.k4
  have e:BA dg key (⟨pos,halted,stk,g,told,vals⟩:VM) i=((⟨pos,halted,(Bc ((Av i.op stk).2.1) [(⟨true,0,(x124.b++x126.b)⟩:AL)]).2,g,told,vals⟩:VM),(Bc ((Av i.op stk).2.1) [(⟨true,0,(x124.b++x126.b)⟩:AL)]).1):=by
    rw [Dg (m:=(⟨pos,halted,stk,g,told,vals⟩:VM)) h4,M0 h118]
    rw [C_ hx125,C_ hx127]<;>rfl
  replace H:Hd _ _ _ [blk r (A_ pv key vv fuel pos steps halted s131 g tv (.map (some mb))) 288,Y AT s131 ((Bc ((Av i.op stk).2.1) [(⟨true,0,(x124.b++x126.b)⟩:AL)]).2),Y Ag tv told,BL mb] [Ab Be vv vals,gl]:=H
  exact Ak ⟨s131,tv,vv,by rw [e]<;>rfl,by rw [e]<;>exact CX.refl _ _ _,by rw [e]<;>rfl⟩ H
 refine Aa (Ae (V U U (AW U U U) (Ad U (Ac (Z ?_)))))
 refine Aw U (fun h132=>?_) (fun h132=>?_)
 ·have hks:(Ba i.op).size=1:=by rw [h132];rfl
  refine Aa ?_
  obtain ⟨A133,c134,rfl,hc135,hm136,hp137⟩:=H.fA 2 rfl
  obtain ⟨x138,hx139⟩:∃ z9,((Av i.op stk).2.2)[0]?=some z9:=⟨_,List.getElem?_eq_getElem (show 0<((Av i.op stk).2.2).length by omega)⟩
  have okx138:=hok.1 _ (hN.2.2.1 _ (Cc hx139))
  have szx138:=okx138.2
  have inx138:=okx138.1
  refine Ae (Ah 2 U ?_)
  have th140:=H.thA 2 rfl hx139
  refine V U U (A0 (p:=AQ A133+0*3) U BT U U (by omega) (by omega) th140 (by omega)) (V U U (Aj U Fx U) (V U U (Al U BR U (H.elA 2 U hx139 (q:=2) U U)) (V U U (Dp U CF U) (sc (FI ((x138.b.size:Nat):Int)) H l0 U U (Au FA U U) ?_))))
  rintro _ _ w ⟨rfl,rfl⟩ H
  refine BW (parts:=[(0,.tmp 131)]) (vs:=[.agg #[.bool false,.int .i64 ((x138.b.size:Nat):Int),.string ⟨#[]⟩]]) (cs:=[.bool false,.int .i64 ((x138.b.size:Nat):Int),.string ⟨#[]⟩]) U U U BT Di U (by decide) (by decide) U U H (fun b141 w H=>?_)
  replace H:=H.p2.p2
  replace H:Hd _ _ _ [blk r (A_ pv key vv fuel pos steps halted s3 g tv (.map (some mb))) 288,Y AT s3 ((Av i.op stk).2.1),blk b141 [.bool false,.int .i64 ((x138.b.size:Nat):Int),.string ⟨#[]⟩] 284,Y AT (.slice A133 (((Av i.op stk).2.2).length) c134) ((Av i.op stk).2.2),blk b1 [.int .i64 i.op,.int .i64 i.a,.string i.s] 223,Y Ag tv told,BL mb] [Ab Be vv vals,gl]:=H
  refine sc (D3 r pv key vv fuel pos steps halted s3 g tv (.map (some mb)) ((Av i.op stk).2.1) (.slice (some ⟨b141,0,none⟩) 1 1) [(⟨false,((x138.b.size:Nat):Int),⟨#[]⟩⟩:AL)] (by first |omega|exact Nat.le_trans hN.2.1 hst) (Nat.le_of_ble_eq_true U)) H (lA 0 U (fun F h=>Cp h rfl (by decide) (AV.flat_eq.2 U)) l0) U U (Au D0 U U) ?_
  rintro _ _ w ⟨s142,rfl,rfl⟩ H
  replace H:=H.h2 (A:=blk r (A_ pv key vv fuel pos steps halted s142 g tv (.map (some mb))) 288) (B:=Y AT s142 ((Bc ((Av i.op stk).2.1) [(⟨false,((x138.b.size:Nat):Int),⟨#[]⟩⟩:AL)]).2))
  refine Ad U (Ac (Z (Am (AY (Ay (Aq U U ?_))))))
  replace H:=H.p6.p6.p3.p3.k4
  have e:BA dg key (⟨pos,halted,stk,g,told,vals⟩:VM) i=((⟨pos,halted,(Bc ((Av i.op stk).2.1) [(⟨false,((x138.b.size:Nat):Int),⟨#[]⟩⟩:AL)]).2,g,told,vals⟩:VM),(Bc ((Av i.op stk).2.1) [(⟨false,((x138.b.size:Nat):Int),⟨#[]⟩⟩:AL)]).1):=by
    rw [Dg (m:=(⟨pos,halted,stk,g,told,vals⟩:VM)) h4,M1 h132]
    rw [C_ hx139]<;>rfl
  replace H:Hd _ _ _ [blk r (A_ pv key vv fuel pos steps halted s142 g tv (.map (some mb))) 288,Y AT s142 ((Bc ((Av i.op stk).2.1) [(⟨false,((x138.b.size:Nat):Int),⟨#[]⟩⟩:AL)]).2),Y Ag tv told,BL mb] [Ab Be vv vals,gl]:=H
  exact Ak ⟨s142,tv,vv,by rw [e]<;>rfl,by rw [e]<;>exact CX.refl _ _ _,by rw [e]<;>rfl⟩ H
 refine Aa (Ae (V U U (AW U U U) (Ad U (Ac (Z ?_)))))
 refine Aw U (fun h143=>?_) (fun h143=>?_)
 ·have hks:(Ba i.op).size=2:=by rw [h143];rfl
  refine Aa ?_
  obtain ⟨A144,c145,rfl,hc146,hm147,hp148⟩:=H.fA 2 rfl
  obtain ⟨x149,hx150⟩:∃ z9,((Av i.op stk).2.2)[0]?=some z9:=⟨_,List.getElem?_eq_getElem (show 0<((Av i.op stk).2.2).length by omega)⟩
  have okx149:=hok.1 _ (hN.2.2.1 _ (Cc hx150))
  have szx149:=okx149.2
  have inx149:=okx149.1
  obtain ⟨x151,hx152⟩:∃ z9,((Av i.op stk).2.2)[1]?=some z9:=⟨_,List.getElem?_eq_getElem (show 1<((Av i.op stk).2.2).length by omega)⟩
  have okx151:=hok.1 _ (hN.2.2.1 _ (Cc hx152))
  have szx151:=okx151.2
  have inx151:=okx151.1
  replace H:=H.p5.p5.p5.p5
  refine B1 (.e 0 (.e 1 (.e 2 (.e 3 (.e 4 (.e 5 (.e 6 (.e 7 (.e 8 (.m 9 (.m 10 (.m 11 (.m 12 (.e 13 .z)))))))))))))) (fun w=>∃ Ar,Hd w0 F0 w (Y AT (.slice A144 (((Av i.op stk).2.2).length) c145) ((Av i.op stk).2.2)::blk b1 [.int .i64 i.op,.int .i64 i.a,.string i.s] 223::Y Ag tv told::BL mb::Ar) [Ab Be vv vals,gl]) mo (by kernel_rfl) (fun w H=>⟨_,H⟩) H (fun w H=>(At U (At U ?_)))
  have th153:=H.thA 0 rfl hx150
  refine Ap U U U (fun w ⟨Ar,H⟩=>A0 (p:=AQ A144+0*3) U BT U U (by omega) (by omega) th153 (by omega)) (Ap U U U (fun w ⟨Ar,H⟩=>Aj U Fx U) (Ap U U U (fun w ⟨Ar,H⟩=>Al U BR U (H.elA 0 U hx150 (q:=2) U U)) (At U ?_)))
  have th154:=H.thA 0 rfl hx152
  refine Ap U U U (fun w ⟨Ar,H⟩=>A0 (p:=AQ A144+1*3) U BT U U (by omega) (by omega) th154 (by omega)) (Ap U U U (fun w ⟨Ar,H⟩=>Aj U Ez U) (Ap U U U (fun w ⟨Ar,H⟩=>Al U DM U (H.elA 0 U hx152 (q:=1) U U)) (AO U (sc (Zo x149.b x151.n) H l0 U U (Au UJ U U) ?_))))
  rintro _ _ w ⟨rfl,rfl⟩ H
  refine AJ ⟨_,H⟩ (AO U (sc (FI (Eu x149.b x151.n)) H l0 U U (Au FA U U) ?_))
  rintro _ _ w ⟨rfl,rfl⟩ H
  refine AJ ⟨_,H⟩ (AO U (BW (parts:=[(0,.tmp 146)]) (vs:=[.agg #[.bool false,.int .i64 (Eu x149.b x151.n),.string ⟨#[]⟩]]) (cs:=[.bool false,.int .i64 (Eu x149.b x151.n),.string ⟨#[]⟩]) U U U BT Di U (by decide) (by decide) U U H (fun b155 w H=>?_)))
  replace H:=H.h1 (A:=blk b155 [.bool false,.int .i64 (Eu x149.b x151.n),.string ⟨#[]⟩] 284)|>.p4|>.p4|>.p4|>.p4
  refine AJ ⟨_,H⟩ (AO U ?_)
  replace H:=H.p6.p6
  refine sc (D3 r pv key vv fuel pos steps halted s3 g tv (.map (some mb)) ((Av i.op stk).2.1) (.slice (some ⟨b155,0,none⟩) 1 1) [(⟨false,Eu x149.b x151.n,⟨#[]⟩⟩:AL)] (by first |omega|exact Nat.le_trans hN.2.1 hst) (Nat.le_of_ble_eq_true U)) H (lA 4 U (fun F h=>Cp h rfl (by decide) (AV.flat_eq.2 U)) l0) U U (Au D0 U U) ?_
  rintro _ _ w ⟨s156,rfl,rfl⟩ H
  replace H:=H.h2 (A:=blk r (A_ pv key vv fuel pos steps halted s156 g tv (.map (some mb))) 288) (B:=Y AT s156 ((Bc ((Av i.op stk).2.1) [(⟨false,Eu x149.b x151.n,⟨#[]⟩⟩:AL)]).2))|>.p5|>.p5|>.p5|>.p5
  refine AJ ⟨_,H⟩ (At U (BK (Z (Am (AY (Ay (Aq U U ?_)))))))
  replace H:=H.p3.p3.p5.p5.k4
  have e:BA dg key (⟨pos,halted,stk,g,told,vals⟩:VM) i=((⟨pos,halted,(Bc ((Av i.op stk).2.1) [(⟨false,Eu x149.b x151.n,⟨#[]⟩⟩:AL)]).2,g,told,vals⟩:VM),(Bc ((Av i.op stk).2.1) [(⟨false,Eu x149.b x151.n,⟨#[]⟩⟩:AL)]).1):=by
    rw [Dg (m:=(⟨pos,halted,stk,g,told,vals⟩:VM)) h4,M2 h143]
    rw [C_ hx150,C_ hx152]<;>rfl
  replace H:Hd _ _ _ [blk r (A_ pv key vv fuel pos steps halted s156 g tv (.map (some mb))) 288,Y AT s156 ((Bc ((Av i.op stk).2.1) [(⟨false,Eu x149.b x151.n,⟨#[]⟩⟩:AL)]).2),Y Ag tv told,BL mb] [Ab Be vv vals,gl]:=H
  exact Ak ⟨s156,tv,vv,by rw [e]<;>rfl,by rw [e]<;>exact CX.refl _ _ _,by rw [e]<;>rfl⟩ H
 refine Aa (Ae (V U U (AW U U U) (Ad U (Ac (Z ?_)))))
 refine Aw U (fun h157=>?_) (fun h157=>?_)
 ·have hks:(Ba i.op).size=3:=by rw [h157];rfl
  refine Aa ?_
  obtain ⟨A158,c159,rfl,hc160,hm161,hp162⟩:=H.fA 2 rfl
  obtain ⟨x163,hx164⟩:∃ z9,((Av i.op stk).2.2)[0]?=some z9:=⟨_,List.getElem?_eq_getElem (show 0<((Av i.op stk).2.2).length by omega)⟩
  have okx163:=hok.1 _ (hN.2.2.1 _ (Cc hx164))
  have szx163:=okx163.2
  have inx163:=okx163.1
  obtain ⟨x165,hx166⟩:∃ z9,((Av i.op stk).2.2)[1]?=some z9:=⟨_,List.getElem?_eq_getElem (show 1<((Av i.op stk).2.2).length by omega)⟩
  have okx165:=hok.1 _ (hN.2.2.1 _ (Cc hx166))
  have szx165:=okx165.2
  have inx165:=okx165.1
  obtain ⟨x167,hx168⟩:∃ z9,((Av i.op stk).2.2)[2]?=some z9:=⟨_,List.getElem?_eq_getElem (show 2<((Av i.op stk).2.2).length by omega)⟩
  have okx167:=hok.1 _ (hN.2.2.1 _ (Cc hx168))
  have szx167:=okx167.2
  have inx167:=okx167.1
  replace H:=H.p5.p5.p5.p5
  refine B1 (.e 0 (.e 1 (.e 2 (.e 3 (.e 4 (.e 5 (.e 6 (.e 7 (.e 8 (.e 9 (.e 10 (.e 11 (.e 12 (.m 13 (.m 14 (.m 15 (.m 16 (.e 17 .z)))))))))))))))))) (fun w=>∃ Ar,Hd w0 F0 w (Y AT (.slice A158 (((Av i.op stk).2.2).length) c159) ((Av i.op stk).2.2)::blk b1 [.int .i64 i.op,.int .i64 i.a,.string i.s] 223::Y Ag tv told::BL mb::Ar) [Ab Be vv vals,gl]) mo (by kernel_rfl) (fun w H=>⟨_,H⟩) H (fun w H=>(At U (At U ?_)))
  have th169:=H.thA 0 rfl hx164
  refine Ap U U U (fun w ⟨Ar,H⟩=>A0 (p:=AQ A158+0*3) U BT U U (by omega) (by omega) th169 (by omega)) (Ap U U U (fun w ⟨Ar,H⟩=>Aj U Fx U) (Ap U U U (fun w ⟨Ar,H⟩=>Al U BR U (H.elA 0 U hx164 (q:=2) U U)) (At U ?_)))
  have th170:=H.thA 0 rfl hx166
  refine Ap U U U (fun w ⟨Ar,H⟩=>A0 (p:=AQ A158+1*3) U BT U U (by omega) (by omega) th170 (by omega)) (Ap U U U (fun w ⟨Ar,H⟩=>Aj U Ez U) (Ap U U U (fun w ⟨Ar,H⟩=>Al U DM U (H.elA 0 U hx166 (q:=1) U U)) (At U ?_)))
  have th171:=H.thA 0 rfl hx168
  refine Ap U U U (fun w ⟨Ar,H⟩=>A0 (p:=AQ A158+2*3) U BT U U (by omega) (by omega) th171 (by omega)) (Ap U U U (fun w ⟨Ar,H⟩=>Aj U Ez U) (Ap U U U (fun w ⟨Ar,H⟩=>Al U DM U (H.elA 0 U hx168 (q:=1) U U)) (AO U (sc (Zp x163.b x165.n x167.n) H l0 U U (Au UK U U) ?_))))
  rintro _ _ w ⟨rfl,rfl⟩ H
  refine AJ ⟨_,H⟩ (AO U (sc (H_ (Fb x163.b x165.n x167.n)) H l0 U U (Au HG U U) ?_))
  rintro _ _ w ⟨rfl,rfl⟩ H
  refine AJ ⟨_,H⟩ (AO U (BW (parts:=[(0,.tmp 165)]) (vs:=[.agg #[.bool true,.int .i64 0,.string (Fb x163.b x165.n x167.n)]]) (cs:=[.bool true,.int .i64 0,.string (Fb x163.b x165.n x167.n)]) U U U BT Di U (by decide) (by decide) U U H (fun b172 w H=>?_)))
  replace H:=H.h1 (A:=blk b172 [.bool true,.int .i64 0,.string (Fb x163.b x165.n x167.n)] 284)|>.p4|>.p4|>.p4|>.p4
  refine AJ ⟨_,H⟩ (AO U ?_)
  replace H:=H.p6.p6
  refine sc (D3 r pv key vv fuel pos steps halted s3 g tv (.map (some mb)) ((Av i.op stk).2.1) (.slice (some ⟨b172,0,none⟩) 1 1) [(⟨true,0,(Fb x163.b x165.n x167.n)⟩:AL)] (by first |omega|exact Nat.le_trans hN.2.1 hst) (Nat.le_of_ble_eq_true U)) H (lA 4 U (fun F h=>Cp h rfl (by decide) (AV.flat_eq.2 U)) l0) U U (Au D0 U U) ?_
  rintro _ _ w ⟨s173,rfl,rfl⟩ H
  replace H:=H.h2 (A:=blk r (A_ pv key vv fuel pos steps halted s173 g tv (.map (some mb))) 288) (B:=Y AT s173 ((Bc ((Av i.op stk).2.1) [(⟨true,0,(Fb x163.b x165.n x167.n)⟩:AL)]).2))|>.p5|>.p5|>.p5|>.p5
  refine AJ ⟨_,H⟩ (At U (BK (Z (Am (AY (Ay (Aq U U ?_)))))))
  replace H:=H.p3.p3.p5.p5.k4
  have e:BA dg key (⟨pos,halted,stk,g,told,vals⟩:VM) i=((⟨pos,halted,(Bc ((Av i.op stk).2.1) [(⟨true,0,(Fb x163.b x165.n x167.n)⟩:AL)]).2,g,told,vals⟩:VM),(Bc ((Av i.op stk).2.1) [(⟨true,0,(Fb x163.b x165.n x167.n)⟩:AL)]).1):=by
    rw [Dg (m:=(⟨pos,halted,stk,g,told,vals⟩:VM)) h4,M3 h157]
    rw [C_ hx164,C_ hx166,C_ hx168]<;>rfl
  replace H:Hd _ _ _ [blk r (A_ pv key vv fuel pos steps halted s173 g tv (.map (some mb))) 288,Y AT s173 ((Bc ((Av i.op stk).2.1) [(⟨true,0,(Fb x163.b x165.n x167.n)⟩:AL)]).2),Y Ag tv told,BL mb] [Ab Be vv vals,gl]:=H
  exact Ak ⟨s173,tv,vv,by rw [e]<;>rfl,by rw [e]<;>exact CX.refl _ _ _,by rw [e]<;>rfl⟩ H
 refine Aa (Ae (V U U (AW U U U) (Ad U (Ac (Z ?_)))))
 refine Aw U (fun h174=>?_) (fun h174=>?_)
 ·have hks:(Ba i.op).size=1:=by rw [h174];rfl
  refine Aa ?_
  obtain ⟨A175,c176,rfl,hc177,hm178,hp179⟩:=H.fA 2 rfl
  obtain ⟨x180,hx181⟩:∃ z9,((Av i.op stk).2.2)[0]?=some z9:=⟨_,List.getElem?_eq_getElem (show 0<((Av i.op stk).2.2).length by omega)⟩
  have okx180:=hok.1 _ (hN.2.2.1 _ (Cc hx181))
  have szx180:=okx180.2
  have inx180:=okx180.1
  refine Ae (Ah 3 U ?_)
  have th182:=H.thA 2 rfl hx181
  refine V U U (A0 (p:=AQ A175+0*3) U BT U U (by omega) (by omega) th182 (by omega)) (V U U (Aj U Ez U) (V U U (Al U DM U (H.elA 2 U hx181 (q:=1) U U)) ?_))
  replace H:=H.p5
  refine sc (Y1 r pv key vv fuel pos steps halted s3 g tv mb x180.n (by assumption)) H (lA 0 U (fun _ h=>h) (lR 1 U l0)) U U (Au UL U U) ?_
  rintro _ _ w ⟨rfl,rfl⟩ H
  refine sc (H_ (dg.dig x180.n)) H l0 U U (Au HG U U) ?_
  rintro _ _ w ⟨rfl,rfl⟩ H
  refine BW (parts:=[(0,.tmp 177)]) (vs:=[.agg #[.bool true,.int .i64 0,.string (dg.dig x180.n)]]) (cs:=[.bool true,.int .i64 0,.string (dg.dig x180.n)]) U U U BT Di U (by decide) (by decide) U U H (fun b183 w H=>?_)
  replace H:=H.h1 (A:=blk b183 [.bool true,.int .i64 0,.string (dg.dig x180.n)] 284)|>.p3|>.p3
  refine sc (D3 r pv key vv fuel pos steps halted s3 g tv (.map (some mb)) ((Av i.op stk).2.1) (.slice (some ⟨b183,0,none⟩) 1 1) [(⟨true,0,(dg.dig x180.n)⟩:AL)] (by first |omega|exact Nat.le_trans hN.2.1 hst) (Nat.le_of_ble_eq_true U)) H (lA 0 U (fun F h=>Cp h rfl (by decide) (AV.flat_eq.2 U)) l0) U U (Au D0 U U) ?_
  rintro _ _ w ⟨s184,rfl,rfl⟩ H
  replace H:=H.h2 (A:=blk r (A_ pv key vv fuel pos steps halted s184 g tv (.map (some mb))) 288) (B:=Y AT s184 ((Bc ((Av i.op stk).2.1) [(⟨true,0,(dg.dig x180.n)⟩:AL)]).2))
  refine Ad U (Ac (Z (Am (AY (Ay (Aq U U ?_))))))
  replace H:=H.p3.p6.p3.p3.k4
  have e:BA dg key (⟨pos,halted,stk,g,told,vals⟩:VM) i=((⟨pos,halted,(Bc ((Av i.op stk).2.1) [(⟨true,0,(dg.dig x180.n)⟩:AL)]).2,g,told,vals⟩:VM),(Bc ((Av i.op stk).2.1) [(⟨true,0,(dg.dig x180.n)⟩:AL)]).1):=by
    rw [Dg (m:=(⟨pos,halted,stk,g,told,vals⟩:VM)) h4,M4 h174]
    rw [C_ hx181]<;>rfl
  replace H:Hd _ _ _ [blk r (A_ pv key vv fuel pos steps halted s184 g tv (.map (some mb))) 288,Y AT s184 ((Bc ((Av i.op stk).2.1) [(⟨true,0,(dg.dig x180.n)⟩:AL)]).2),Y Ag tv told,BL mb] [Ab Be vv vals,gl]:=H
  exact Ak ⟨s184,tv,vv,by rw [e]<;>rfl,by rw [e]<;>exact CX.refl _ _ _,by rw [e]<;>rfl⟩ H
 refine Aa (Ae (V U U (AW U U U) (Ad U (Ac (Z ?_)))))
 refine Aw U (fun h185=>?_) (fun h185=>?_)
 ·have hks:(Ba i.op).size=1:=by rw [h185];rfl
  refine Aa ?_
  obtain ⟨A186,c187,rfl,hc188,hm189,hp190⟩:=H.fA 2 rfl
  obtain ⟨x191,hx192⟩:∃ z9,((Av i.op stk).2.2)[0]?=some z9:=⟨_,List.getElem?_eq_getElem (show 0<((Av i.op stk).2.2).length by omega)⟩
  have okx191:=hok.1 _ (hN.2.2.1 _ (Cc hx192))
  have szx191:=okx191.2
  have inx191:=okx191.1
  refine Ae (Ah 2 U ?_)
  have th193:=H.thA 2 rfl hx192
  refine V U U (A0 (p:=AQ A186+0*3) U BT U U (by omega) (by omega) th193 (by omega)) (V U U (Aj U Fx U) (V U U (Al U BR U (H.elA 2 U hx192 (q:=2) U U)) (sc (V8 x191.b (by omega)) H (lR 1 U l0) U U (Au UM U U) ?_)))
  rintro _ _ w ⟨rfl,rfl⟩ H
  refine sc (FI (dg.num x191.b)) H l0 U U (Au FA U U) ?_
  rintro _ _ w ⟨rfl,rfl⟩ H
  refine BW (parts:=[(0,.tmp 188)]) (vs:=[.agg #[.bool false,.int .i64 (dg.num x191.b),.string ⟨#[]⟩]]) (cs:=[.bool false,.int .i64 (dg.num x191.b),.string ⟨#[]⟩]) U U U BT Di U (by decide) (by decide) U U H (fun b194 w H=>?_)
  replace H:=H.p2.p2
  replace H:Hd _ _ _ [blk r (A_ pv key vv fuel pos steps halted s3 g tv (.map (some mb))) 288,Y AT s3 ((Av i.op stk).2.1),blk b194 [.bool false,.int .i64 (dg.num x191.b),.string ⟨#[]⟩] 284,Y AT (.slice A186 (((Av i.op stk).2.2).length) c187) ((Av i.op stk).2.2),blk b1 [.int .i64 i.op,.int .i64 i.a,.string i.s] 223,Y Ag tv told,BL mb] [Ab Be vv vals,gl]:=H
  refine sc (D3 r pv key vv fuel pos steps halted s3 g tv (.map (some mb)) ((Av i.op stk).2.1) (.slice (some ⟨b194,0,none⟩) 1 1) [(⟨false,dg.num x191.b,⟨#[]⟩⟩:AL)] (by first |omega|exact Nat.le_trans hN.2.1 hst) (Nat.le_of_ble_eq_true U)) H (lA 0 U (fun F h=>Cp h rfl (by decide) (AV.flat_eq.2 U)) l0) U U (Au D0 U U) ?_
  rintro _ _ w ⟨s195,rfl,rfl⟩ H
  replace H:=H.h2 (A:=blk r (A_ pv key vv fuel pos steps halted s195 g tv (.map (some mb))) 288) (B:=Y AT s195 ((Bc ((Av i.op stk).2.1) [(⟨false,dg.num x191.b,⟨#[]⟩⟩:AL)]).2))
  refine Ad U (Ac (Z (Am (AY (Ay (Aq U U ?_))))))
  replace H:=H.p6.p6.p3.p3.k4
  have e:BA dg key (⟨pos,halted,stk,g,told,vals⟩:VM) i=((⟨pos,halted,(Bc ((Av i.op stk).2.1) [(⟨false,dg.num x191.b,⟨#[]⟩⟩:AL)]).2,g,told,vals⟩:VM),(Bc ((Av i.op stk).2.1) [(⟨false,dg.num x191.b,⟨#[]⟩⟩:AL)]).1):=by
    rw [Dg (m:=(⟨pos,halted,stk,g,told,vals⟩:VM)) h4,M5 h185]
    rw [C_ hx192]<;>rfl
  replace H:Hd _ _ _ [blk r (A_ pv key vv fuel pos steps halted s195 g tv (.map (some mb))) 288,Y AT s195 ((Bc ((Av i.op stk).2.1) [(⟨false,dg.num x191.b,⟨#[]⟩⟩:AL)]).2),Y Ag tv told,BL mb] [Ab Be vv vals,gl]:=H
  exact Ak ⟨s195,tv,vv,by rw [e]<;>rfl,by rw [e]<;>exact CX.refl _ _ _,by rw [e]<;>rfl⟩ H
 refine Aa (Ae (V U U (AW U U U) (Ad U (Ac (Z ?_)))))
 refine Aw U (fun h196=>?_) (fun h196=>?_)
 ·have hks:(Ba i.op).size=0:=by rw [h196];rfl
  refine Ae (Ad U (V U U (Aj U Dh U) (V U U (Al U AA U (H.cellI 3 U U)) (V U U (AF U U) (V U U (Aj U HD U) (BD U U U AA U U H U (Nat.le_of_ble_eq_true U) (fun u hu=>by simp [Value.cells] at hu;subst hu;rfl) (fun w H=>?_)))))))
  replace H:=H.h1 (A:=blk r (A_ pv key vv fuel i.a steps halted s3 g tv (.map (some mb))) 288)
  refine Ac (AU (Z (Aa (Ae (Ad U (Ac (Z (Am (Aq U U ?_)))))))))
  replace H:=H.p5.p5.p3.p3.k4
  have e:BA dg key (⟨pos,halted,stk,g,told,vals⟩:VM) i=((⟨i.a,halted,(Av i.op stk).2.1,g,told,vals⟩:VM),0):=by
    rw [Dg (m:=(⟨pos,halted,stk,g,told,vals⟩:VM)) h4,M6 h196]
    all_goals rfl
  replace H:Hd _ _ _ [blk r (A_ pv key vv fuel i.a steps halted s3 g tv (.map (some mb))) 288,Y AT s3 ((Av i.op stk).2.1),Y Ag tv told,BL mb] [Ab Be vv vals,gl]:=H
  exact Ak ⟨s3,tv,vv,by rw [e]<;>rfl,by rw [e]<;>exact CX.refl _ _ _,by rw [e]<;>rfl⟩ H
 refine Aa (Ae (V U U (AW U U U) (Ad U (Ac (Z ?_)))))
 refine Aw U (fun h197=>?_) (fun h197=>?_)
 ·have hks:(Ba i.op).size=1:=by rw [h197];rfl
  refine Aa ?_
  obtain ⟨A198,c199,rfl,hc200,hm201,hp202⟩:=H.fA 2 rfl
  obtain ⟨x203,hx204⟩:∃ z9,((Av i.op stk).2.2)[0]?=some z9:=⟨_,List.getElem?_eq_getElem (show 0<((Av i.op stk).2.2).length by omega)⟩
  have okx203:=hok.1 _ (hN.2.2.1 _ (Cc hx204))
  have szx203:=okx203.2
  have inx203:=okx203.1
  refine Ae (Ad U ?_)
  have th205:=H.thA 2 rfl hx204
  refine V U U (A0 (p:=AQ A198+0*3) U BT U U (by omega) (by omega) th205 (by omega)) (V U U (Aj U Ez U) (V U U (Al U DM U (H.elA 2 U hx204 (q:=1) U U)) (V U U (Dq U U U) (Ac (Z ?_)))))
  refine Aw U (fun h206=>?_) (fun h206=>?_)
  ·refine Ae (Ad U (V U U (Aj U Dh U) (V U U (Al U AA U (H.cellI 3 U U)) (V U U (AF U U) (V U U (Aj U HD U) (BD U U U AA U U H U (Nat.le_of_ble_eq_true U) (fun u hu=>by simp [Value.cells] at hu;subst hu;rfl) (fun w H=>?_)))))))
   replace H:=H.h1 (A:=blk r (A_ pv key vv fuel i.a steps halted s3 g tv (.map (some mb))) 288)
   refine Ac (AU (Z (Aa (Ae (Ad U (Ac (Z (Am (Aq U U ?_)))))))))
   replace H:=H.p5.p5.p3.p3.k4
   have e:BA dg key (⟨pos,halted,stk,g,told,vals⟩:VM) i=((⟨i.a,halted,(Av i.op stk).2.1,g,told,vals⟩:VM),0):=by
     rw [Dg (m:=(⟨pos,halted,stk,g,told,vals⟩:VM)) h4,KG h197]
     rw [C_ hx204,if_pos h206]
   replace H:Hd _ _ _ [blk r (A_ pv key vv fuel i.a steps halted s3 g tv (.map (some mb))) 288,Y AT s3 ((Av i.op stk).2.1),Y Ag tv told,BL mb] [Ab Be vv vals,gl]:=H
   exact Ak ⟨s3,tv,vv,by rw [e]<;>rfl,by rw [e]<;>exact CX.refl _ _ _,by rw [e]<;>rfl⟩ H
  refine Ax (AU (Z (Aa (Ae (Ad U (Ac (Z (Am (Aq U U ?_)))))))))
  replace H:=H.p5.p5.p3.p3.k4
  have e:BA dg key (⟨pos,halted,stk,g,told,vals⟩:VM) i=((⟨pos,halted,(Av i.op stk).2.1,g,told,vals⟩:VM),0):=by
    rw [Dg (m:=(⟨pos,halted,stk,g,told,vals⟩:VM)) h4,KG h197]
    rw [C_ hx204,if_neg h206]
  replace H:Hd _ _ _ [blk r (A_ pv key vv fuel pos steps halted s3 g tv (.map (some mb))) 288,Y AT s3 ((Av i.op stk).2.1),Y Ag tv told,BL mb] [Ab Be vv vals,gl]:=H
  exact Ak ⟨s3,tv,vv,by rw [e]<;>rfl,by rw [e]<;>exact CX.refl _ _ _,by rw [e]<;>rfl⟩ H
 refine Aa (Ae (V U U (AW U U U) (Ad U (Ac (Z ?_)))))
 refine Aw U (fun h207=>?_) (fun h207=>?_)
 ·have hks:(Ba i.op).size=0:=by rw [h207];rfl
  refine Aa ?_
  have hia:=hi.2.2.2.2.2.1 (by omega)
  obtain ⟨gk,hgk⟩:∃ z,z=g (i.a).toNat:=⟨_,rfl⟩
  replace H:=H.p5.p5.p5.p5
  refine B1 (.e 0 (.e 1 (.e 2 (.e 3 (.e 4 (.e 5 (.e 6 (.m 7 (.m 8 (.m 9 (.e 10 .z))))))))))) (fun w=>∃ Ar,Hd w0 F0 w (Y AT u2 ((Av i.op stk).2.2)::blk b1 [.int .i64 i.op,.int .i64 i.a,.string i.s] 223::Y Ag tv told::BL mb::Ar) [Ab Be vv vals,gl]) mo (by kernel_rfl) (fun w H=>⟨_,H⟩) H (fun w H=>(At U (At U (Ap U U U (fun w ⟨Ar,H⟩=>Aj U Dh U) (Ap U U U (fun w ⟨Ar,H⟩=>Al U AA U (H.cellI 1 U U)) (Ap U U U (fun w ⟨Ar,H⟩=>AF U U) (Ap U U U (fun w ⟨Ar,H⟩=>Aj U Og U) (Ap U U U (fun w ⟨Ar,H⟩=>GI (p:=8+(i.a).toNat*3) U QY OI U U (by omega) (by omega) (by omega)) (AO U (V U U (Bn (cs:=[.bool gk.t,.int .i64 gk.n,.string gk.b]) U C6 U U (H.cellsI 4 U (by rw [hgk];exact X1 (by omega)))) ?_))))))))))
  refine AJ ⟨_,H⟩ (AO U (BW (parts:=[(0,.tmp 219)]) (vs:=[.agg #[.bool gk.t,.int .i64 gk.n,.string gk.b]]) (cs:=[.bool gk.t,.int .i64 gk.n,.string gk.b]) U U U BT Di U (by decide) (by decide) U U H (fun b208 w H=>?_)))
  replace H:=H.h1 (A:=blk b208 [.bool gk.t,.int .i64 gk.n,.string gk.b] 284)|>.p4|>.p4|>.p4|>.p4
  refine AJ ⟨_,H⟩ (AO U ?_)
  replace H:=H.p6.p6
  refine sc (D3 r pv key vv fuel pos steps halted s3 g tv (.map (some mb)) ((Av i.op stk).2.1) (.slice (some ⟨b208,0,none⟩) 1 1) [gk] (by first |omega|exact Nat.le_trans hN.2.1 hst) (Nat.le_of_ble_eq_true U)) H (lA 4 U (fun F h=>Cp h rfl (by decide) (AV.flat_eq.2 U)) l0) U U (Au D0 U U) ?_
  rintro _ _ w ⟨s209,rfl,rfl⟩ H
  replace H:=H.h2 (A:=blk r (A_ pv key vv fuel pos steps halted s209 g tv (.map (some mb))) 288) (B:=Y AT s209 ((Bc ((Av i.op stk).2.1) [gk]).2))|>.p5|>.p5|>.p5|>.p5
  refine AJ ⟨_,H⟩ (At U (BK (Z (Am (AY (Ay (Aq U U ?_)))))))
  replace H:=H.p3.p3.p5.p5.k4
  have e:BA dg key (⟨pos,halted,stk,g,told,vals⟩:VM) i=((⟨pos,halted,(Bc ((Av i.op stk).2.1) [gk]).2,g,told,vals⟩:VM),(Bc ((Av i.op stk).2.1) [gk]).1):=by
    rw [Dg (m:=(⟨pos,halted,stk,g,told,vals⟩:VM)) h4,M8 h207]
    rw [show gk=g i.a.toNat from hgk]<;>rfl
  replace H:Hd _ _ _ [blk r (A_ pv key vv fuel pos steps halted s209 g tv (.map (some mb))) 288,Y AT s209 ((Bc ((Av i.op stk).2.1) [gk]).2),Y Ag tv told,BL mb] [Ab Be vv vals,gl]:=H
  exact Ak ⟨s209,tv,vv,by rw [e]<;>rfl,by rw [e]<;>exact CX.refl _ _ _,by rw [e]<;>rfl⟩ H
 refine Aa (Ae (V U U (AW U U U) (Ad U (Ac (Z ?_)))))
 refine Aw U (fun h210=>?_) (fun h210=>?_)
 ·have hks:(Ba i.op).size=1:=by rw [h210];rfl
  have hia:=hi.2.2.2.2.2.1 (by omega)
  obtain ⟨A211,c212,rfl,hc213,hm214,hp215⟩:=H.fA 2 rfl
  obtain ⟨x216,hx217⟩:∃ z9,((Av i.op stk).2.2)[0]?=some z9:=⟨_,List.getElem?_eq_getElem (show 0<((Av i.op stk).2.2).length by omega)⟩
  have okx216:=hok.1 _ (hN.2.2.1 _ (Cc hx217))
  have szx216:=okx216.2
  have inx216:=okx216.1
  replace H:=H.p5.p5.p5.p5.p5
  refine B1 (.e 0 (.e 1 (.e 2 (.e 3 (.e 4 (.e 5 (.e 6 (.e 7 (.e 8 (.m 9 .z)))))))))) (fun w=>∃ Ar,Hd w0 F0 w (Y AT s3 ((Av i.op stk).2.1)::Y AT (.slice A211 (((Av i.op stk).2.2).length) c212) ((Av i.op stk).2.2)::blk b1 [.int .i64 i.op,.int .i64 i.a,.string i.s] 223::Y Ag tv told::BL mb::Ar) [Ab Be vv vals,gl]) mo (by kernel_rfl) (fun w H=>⟨_,H⟩) H (fun w H=>(At U (Ap U U U (fun w ⟨Ar,H⟩=>Aj U Dh U) (Ap U U U (fun w ⟨Ar,H⟩=>Al U AA U (H.cellI 2 U U)) (At U ?_)))))
  have th218:=H.thA 1 rfl hx217
  refine Ap U U U (fun w ⟨Ar,H⟩=>A0 (p:=AQ A211+0*3) U BT U U (by omega) (by omega) th218 (by omega)) (Ap U U U (fun w ⟨Ar,H⟩=>Bn (cs:=[.bool x216.t,.int .i64 x216.n,.string x216.b]) U C6 U U (H.elsA 1 U hx217 U)) (Ap U U U (fun w ⟨Ar,H⟩=>AF U U) (Ap U U U (fun w ⟨Ar,H⟩=>Aj U Og U) (Ap U U U (fun w ⟨Ar,H⟩=>GI (p:=8+(i.a).toNat*3) U QY OI U U (by omega) (by omega) (by omega)) (AO U ?_)))))
  replace H:=H.p5
  refine BD U U U C6 U U H U (by show 8+(i.a).toNat*3+3≤34;omega) (fun u hu=>by simp [Value.cells] at hu;rcases hu with rfl|rfl|rfl<;>rfl) (fun w H=>?_)
  replace H:Hd w0 F0 w [blk r (A_ pv key vv fuel pos steps halted s3 (HU g i.a.toNat x216) tv (.map (some mb))) 288,Y AT s3 ((Av i.op stk).2.1),Y AT (.slice A211 (((Av i.op stk).2.2).length) c212) ((Av i.op stk).2.2),blk b1 [.int .i64 i.op,.int .i64 i.a,.string i.s] 223,Y Ag tv told,BL mb] [Ab Be vv vals,gl]:=by rw [←X2 (show i.a.toNat<8 by omega) x216];exact H
  replace H:=H.p5.p5.p5.p5.p5
  refine AJ ⟨_,H⟩ (BK (AU (Z (Aa (Ae (Ad U (Ac (Z (Am (Aq U U ?_))))))))))
  replace H:=H.p4.p4.p2.p5.k4
  have e:BA dg key (⟨pos,halted,stk,g,told,vals⟩:VM) i=((⟨pos,halted,(Av i.op stk).2.1,HU g i.a.toNat x216,told,vals⟩:VM),0):=by
    rw [Dg (m:=(⟨pos,halted,stk,g,told,vals⟩:VM)) h4,M9 h210]
    rw [C_ hx217]<;>rfl
  replace H:Hd _ _ _ [blk r (A_ pv key vv fuel pos steps halted s3 (HU g i.a.toNat x216) tv (.map (some mb))) 288,Y AT s3 ((Av i.op stk).2.1),Y Ag tv told,BL mb] [Ab Be vv vals,gl]:=H
  exact Ak ⟨s3,tv,vv,by rw [e]<;>rfl,by rw [e]<;>exact CX.refl _ _ _,by rw [e]<;>rfl⟩ H
 refine Aa (Ae (V U U (AW U U U) (Ad U (Ac (Z ?_)))))
 refine Aw U (fun h219=>?_) (fun h219=>?_)
 ·have hks:(Ba i.op).size=2:=by rw [h219];rfl
  refine Aa ?_
  obtain ⟨A220,c221,rfl,hc222,hm223,hp224⟩:=H.fA 2 rfl
  obtain ⟨x225,hx226⟩:∃ z9,((Av i.op stk).2.2)[0]?=some z9:=⟨_,List.getElem?_eq_getElem (show 0<((Av i.op stk).2.2).length by omega)⟩
  have okx225:=hok.1 _ (hN.2.2.1 _ (Cc hx226))
  have szx225:=okx225.2
  have inx225:=okx225.1
  obtain ⟨x227,hx228⟩:∃ z9,((Av i.op stk).2.2)[1]?=some z9:=⟨_,List.getElem?_eq_getElem (show 1<((Av i.op stk).2.2).length by omega)⟩
  have okx227:=hok.1 _ (hN.2.2.1 _ (Cc hx228))
  have szx227:=okx227.2
  have inx227:=okx227.1
  replace H:=H.p5.p4.p4.p4
  refine B1 (.e 0 (.e 1 (.e 2 (.e 3 (.e 4 (.e 5 (.e 6 (.e 7 (.e 8 (.m 9 (.e 10 .z))))))))))) (fun w=>∃ Ar,Hd w0 F0 w (Y AT s3 ((Av i.op stk).2.1)::Y AT (.slice A220 (((Av i.op stk).2.2).length) c221) ((Av i.op stk).2.2)::blk b1 [.int .i64 i.op,.int .i64 i.a,.string i.s] 223::BL mb::Ar) [Ab Be vv vals,gl]) mo (by kernel_rfl) (fun w H=>⟨_,H⟩) H (fun w H=>(At U (At U ?_)))
  have th229:=H.thA 1 rfl hx226
  refine Ap U U U (fun w ⟨Ar,H⟩=>A0 (p:=AQ A220+0*3) U BT U U (by omega) (by omega) th229 (by omega)) (Ap U U U (fun w ⟨Ar,H⟩=>Aj U Fx U) (Ap U U U (fun w ⟨Ar,H⟩=>Al U BR U (H.elA 1 U hx226 (q:=2) U U)) (At U ?_)))
  have th230:=H.thA 1 rfl hx228
  refine Ap U U U (fun w ⟨Ar,H⟩=>A0 (p:=AQ A220+1*3) U BT U U (by omega) (by omega) th230 (by omega)) (Ap U U U (fun w ⟨Ar,H⟩=>Aj U Fx U) (Ap U U U (fun w ⟨Ar,H⟩=>Al U BR U (H.elA 1 U hx228 (q:=2) U U)) (AO U ?_)))
  replace H:=H.p5.p5
  refine sc (SB r pv key vv fuel pos steps halted s3 g tv (.map (some mb)) told x225.b x227.b (by omega)) H l0 U U (Au UN U U) ?_
  rintro _ _ w ⟨t231,rfl,rfl⟩ H
  replace H:=H.h2 (A:=blk r (A_ pv key vv fuel pos steps halted s3 g t231 (.map (some mb))) 288) (B:=Y Ag t231 ((DJ told x225.b x227.b).2))|>.p5|>.p5|>.p5|>.p5
  refine AJ ⟨_,H⟩ (At U (BK (Z (Am (AY (Ay (Aq U U ?_)))))))
  replace H:=H.p3.p5.p2.p5.k4
  have e:BA dg key (⟨pos,halted,stk,g,told,vals⟩:VM) i=((⟨pos,halted,(Av i.op stk).2.1,g,(DJ told x225.b x227.b).2,vals⟩:VM),(DJ told x225.b x227.b).1):=by
    rw [Dg (m:=(⟨pos,halted,stk,g,told,vals⟩:VM)) h4,M_ h219]
    rw [C_ hx226,C_ hx228]<;>rfl
  replace H:Hd _ _ _ [blk r (A_ pv key vv fuel pos steps halted s3 g t231 (.map (some mb))) 288,Y AT s3 ((Av i.op stk).2.1),Y Ag t231 ((DJ told x225.b x227.b).2),BL mb] [Ab Be vv vals,gl]:=H
  exact Ak ⟨s3,t231,vv,by rw [e]<;>rfl,by rw [e]<;>exact CX.refl _ _ _,by rw [e]<;>rfl⟩ H
 refine Ax (AU (Z (Aa (Ae (Ad U (Ac (Z (Am (Aq U U ?_)))))))))
 replace H:=H.p5.p5.p3.p3.k4
 have hop:i.op=4:=by have:=hi.1;have:=hi.2.1;omega
 have e:BA dg key (⟨pos,halted,stk,g,told,vals⟩:VM) i=((⟨pos,halted,(Av i.op stk).2.1,g,told,vals⟩:VM),0):=by
   rw [Dg (m:=(⟨pos,halted,stk,g,told,vals⟩:VM)) h4,Nc hop]
   all_goals rfl
 replace H:Hd _ _ _ [blk r (A_ pv key vv fuel pos steps halted s3 g tv (.map (some mb))) 288,Y AT s3 ((Av i.op stk).2.1),Y Ag tv told,BL mb] [Ab Be vv vals,gl]:=H
 exact Ak ⟨s3,tv,vv,by rw [e]<;>rfl,by rw [e]<;>exact CX.refl _ _ _,by rw [e]<;>rfl⟩ H
theorem WW (p:BO) (n:Int):
    Cn Tryz.prog 224 [.agg #[.int .i64 p.op,.int .i64 p.a,.string p.s],.int .i64 n] [] [] (fun v Bs=>v=.bool (decide (BB p n))∧Bs=[]):=by
 intro w0 F0 H
 refine enter Tryz.func224 U U (Nat.le_of_ble_eq_true U) (Aa (Ae (Cm U U U U H (fun b1 w H=>(Ad U (Ac (Z ?_)))))))
 replace H:Hd _ _ _ [blk b1 [.int .i64 p.op,.int .i64 p.a,.string p.s] 223] []:=H
 refine Aa (Ae (Ah 3 U (Ac (Z (Aa (Aa (Ae (V U U (Aj U C4 U) (V U U (Al U AA U (H.cellI 0 U U)) (Ac (Z (AS (Aa (Ae (V U U (AW U U U) (Ad U (Ac (Z ?_))))))))))))))))))
 refine Aw U (fun h2=>?_) (fun h2=>?_)
 ·refine Aa (Ae (V U U (Aj U EZ U) (V U U (Al U BR U (H.cellI 0 U U)) (V U U (Mg U U U) (Ad U (Ac (Z (Am (AY (Ay (Aq U U ?_)))))))))))
  replace H:=H.nil
  exact Ak ⟨congrArg Value.bool (decide_eq_decide.2 (by rw [V4];unfold BB;omega)),rfl⟩ H
 refine Aa (Ae (V U U (AW U U U) (Ad U (Ac (Z ?_)))))
 refine Aw U (fun h3=>?_) (fun h3=>?_)
 ·refine Ae (Ad U (Ac (AU (Z (Aa (Ae (V U U (Aj U C4 U) (V U U (Al U AA U (H.cellI 0 U U)) (V U U (CJ U U U) (Ad U ?_))))))))))
  refine AN (d:=27) U (fun h4=>?_) (fun h4=>?_)
  ·refine V U U (Aj U C4 U) (V U U (Al U AA U (H.cellI 0 U U)) (V U U (Cy U U U) (Ah 2 U ?_)))
   refine AN (d:=32) U (fun h5=>?_) (fun h5=>?_)
   ·refine V U U (Aj U Dh U) (V U U (Al U AA U (H.cellI 0 U U)) (Ad U (V U U (CJ U U U) (Ah 2 U ?_))))
    refine AN (d:=38) U (fun h6=>?_) (fun h6=>?_)
    ·refine V U U (Aj U Dh U) (V U U (Al U AA U (H.cellI 0 U U)) (Ad U (V U U (Cy U U U) (Ah 2 U ?_))))
     refine AN (d:=44) U (fun h7=>?_) (fun h7=>?_)
     ·refine V U U (Aj U EZ U) (V U U (Al U BR U (H.cellI 0 U U)) (V U U (Dp U CF U) (Ad U (V U U (Cy U U U) (Ah 2 U (Ac (Z (Am (Aq U U ?_)))))))))
      replace H:=H.nil
      exact Ak ⟨congrArg Value.bool (decide_eq_decide.2 (by unfold BB;omega)),rfl⟩ H
     refine Ah 7 U (Ac (Z (Am (Aq U U ?_))))
     replace H:=H.nil
     exact Ak ⟨congrArg Value.bool (decide_eq_false (by unfold BB;omega)).symm,rfl⟩ H
    refine Ah 12 U (Ad U (Ac (Z (Am (Aq U U ?_)))))
    replace H:=H.nil
    exact Ak ⟨congrArg Value.bool (decide_eq_false (by unfold BB;omega)).symm,rfl⟩ H
   refine Ah 12 U (Ah 7 U (Ac (Z (Am (Aq U U ?_)))))
   replace H:=H.nil
   exact Ak ⟨congrArg Value.bool (decide_eq_false (by unfold BB;omega)).symm,rfl⟩ H
  refine Ah 12 U (Ah 12 U (Ac (Z (Am (Aq U U ?_)))))
  replace H:=H.nil
  exact Ak ⟨congrArg Value.bool (decide_eq_false (by unfold BB;omega)).symm,rfl⟩ H
 refine Aa (Aa (Ae (V U U (AW U U U) (Ad U (Ac (Z ?_))))))
 refine Aw U (fun h8=>?_) (fun h8=>?_)
 ·refine Ax (Z ?_)
  refine Aw U (fun h9=>?_) (fun h9=>?_)
  ·refine Ae (Ah 2 U (Ac (AU (Z (Aa (Ae (V U U (Aj U C4 U) (V U U (Al U AA U (H.cellI 0 U U)) (V U U (CJ U U U) (Ad U ?_))))))))))
   refine AN (d:=27) U (fun h10=>?_) (fun h10=>?_)
   ·refine V U U (Aj U C4 U) (V U U (Al U AA U (H.cellI 0 U U)) (V U U (Cy U U U) (Ah 2 U ?_)))
    refine AN (d:=32) U (fun h11=>?_) (fun h11=>?_)
    ·refine V U U (Aj U Dh U) (V U U (Al U AA U (H.cellI 0 U U)) (Ad U (V U U (CJ U U U) (Ah 2 U ?_))))
     refine AN (d:=38) U (fun h12=>?_) (fun h12=>?_)
     ·refine V U U (Aj U Dh U) (V U U (Al U AA U (H.cellI 0 U U)) (Ad U (V U U (Cy U U U) (Ah 2 U ?_))))
      refine AN (d:=44) U (fun h13=>?_) (fun h13=>?_)
      ·refine V U U (Aj U EZ U) (V U U (Al U BR U (H.cellI 0 U U)) (V U U (Dp U CF U) (Ad U (V U U (Cy U U U) (Ah 2 U (Ac (Z (Am (Aq U U ?_)))))))))
       replace H:=H.nil
       exact Ak ⟨congrArg Value.bool (decide_eq_decide.2 (by unfold BB;omega)),rfl⟩ H
      refine Ah 7 U (Ac (Z (Am (Aq U U ?_))))
      replace H:=H.nil
      exact Ak ⟨congrArg Value.bool (decide_eq_false (by unfold BB;omega)).symm,rfl⟩ H
     refine Ah 12 U (Ad U (Ac (Z (Am (Aq U U ?_)))))
     replace H:=H.nil
     exact Ak ⟨congrArg Value.bool (decide_eq_false (by unfold BB;omega)).symm,rfl⟩ H
    refine Ah 12 U (Ah 7 U (Ac (Z (Am (Aq U U ?_)))))
    replace H:=H.nil
    exact Ak ⟨congrArg Value.bool (decide_eq_false (by unfold BB;omega)).symm,rfl⟩ H
   refine Ah 12 U (Ah 12 U (Ac (Z (Am (Aq U U ?_)))))
   replace H:=H.nil
   exact Ak ⟨congrArg Value.bool (decide_eq_false (by unfold BB;omega)).symm,rfl⟩ H
  refine Aa (Aa (Ae (V U U (AW U U U) (Ad U (Ac (Z ?_))))))
  refine Aw U (fun h14=>?_) (fun h14=>?_)
  ·refine Ax (Z ?_)
   refine Aw U (fun h15=>?_) (fun h15=>?_)
   ·refine Ae (Ad U (Ac (AU (Z (Aa (Ae (V U U (Aj U C4 U) (V U U (Al U AA U (H.cellI 0 U U)) (V U U (CJ U U U) (Ad U ?_))))))))))
    refine AN (d:=27) U (fun h16=>?_) (fun h16=>?_)
    ·refine V U U (Aj U C4 U) (V U U (Al U AA U (H.cellI 0 U U)) (V U U (Cy U U U) (Ah 2 U ?_)))
     refine AN (d:=32) U (fun h17=>?_) (fun h17=>?_)
     ·refine V U U (Aj U Dh U) (V U U (Al U AA U (H.cellI 0 U U)) (Ad U (V U U (CJ U U U) (Ah 2 U ?_))))
      refine AN (d:=38) U (fun h18=>?_) (fun h18=>?_)
      ·refine V U U (Aj U Dh U) (V U U (Al U AA U (H.cellI 0 U U)) (Ad U (V U U (Cy U U U) (Ah 2 U ?_))))
       refine AN (d:=44) U (fun h19=>?_) (fun h19=>?_)
       ·refine V U U (Aj U EZ U) (V U U (Al U BR U (H.cellI 0 U U)) (V U U (Dp U CF U) (Ad U (V U U (Cy U U U) (Ah 2 U (Ac (Z (Am (Aq U U ?_)))))))))
        replace H:=H.nil
        exact Ak ⟨congrArg Value.bool (decide_eq_decide.2 (by unfold BB;omega)),rfl⟩ H
       refine Ah 7 U (Ac (Z (Am (Aq U U ?_))))
       replace H:=H.nil
       exact Ak ⟨congrArg Value.bool (decide_eq_false (by unfold BB;omega)).symm,rfl⟩ H
      refine Ah 12 U (Ad U (Ac (Z (Am (Aq U U ?_)))))
      replace H:=H.nil
      exact Ak ⟨congrArg Value.bool (decide_eq_false (by unfold BB;omega)).symm,rfl⟩ H
     refine Ah 12 U (Ah 7 U (Ac (Z (Am (Aq U U ?_)))))
     replace H:=H.nil
     exact Ak ⟨congrArg Value.bool (decide_eq_false (by unfold BB;omega)).symm,rfl⟩ H
    refine Ah 12 U (Ah 12 U (Ac (Z (Am (Aq U U ?_)))))
    replace H:=H.nil
    exact Ak ⟨congrArg Value.bool (decide_eq_false (by unfold BB;omega)).symm,rfl⟩ H
   refine Ax (AU (Z (Aa (Ae (V U U (Aj U C4 U) (V U U (Al U AA U (H.cellI 0 U U)) (V U U (CJ U U U) (Ad U ?_))))))))
   refine AN (d:=27) U (fun h20=>?_) (fun h20=>?_)
   ·refine V U U (Aj U C4 U) (V U U (Al U AA U (H.cellI 0 U U)) (V U U (Cy U U U) (Ah 2 U ?_)))
    refine AN (d:=32) U (fun h21=>?_) (fun h21=>?_)
    ·refine V U U (Aj U Dh U) (V U U (Al U AA U (H.cellI 0 U U)) (Ad U (V U U (CJ U U U) (Ah 2 U ?_))))
     refine AN (d:=38) U (fun h22=>?_) (fun h22=>?_)
     ·refine V U U (Aj U Dh U) (V U U (Al U AA U (H.cellI 0 U U)) (Ad U (V U U (Cy U U U) (Ah 2 U ?_))))
      refine AN (d:=44) U (fun h23=>?_) (fun h23=>?_)
      ·refine V U U (Aj U EZ U) (V U U (Al U BR U (H.cellI 0 U U)) (V U U (Dp U CF U) (Ad U (V U U (Cy U U U) (Ah 2 U (Ac (Z (Am (Aq U U ?_)))))))))
       replace H:=H.nil
       exact Ak ⟨congrArg Value.bool (decide_eq_decide.2 (by unfold BB;omega)),rfl⟩ H
      refine Ah 7 U (Ac (Z (Am (Aq U U ?_))))
      replace H:=H.nil
      exact Ak ⟨congrArg Value.bool (decide_eq_false (by unfold BB;omega)).symm,rfl⟩ H
     refine Ah 12 U (Ad U (Ac (Z (Am (Aq U U ?_)))))
     replace H:=H.nil
     exact Ak ⟨congrArg Value.bool (decide_eq_false (by unfold BB;omega)).symm,rfl⟩ H
    refine Ah 12 U (Ah 7 U (Ac (Z (Am (Aq U U ?_)))))
    replace H:=H.nil
    exact Ak ⟨congrArg Value.bool (decide_eq_false (by unfold BB;omega)).symm,rfl⟩ H
   refine Ah 12 U (Ah 12 U (Ac (Z (Am (Aq U U ?_)))))
   replace H:=H.nil
   exact Ak ⟨congrArg Value.bool (decide_eq_false (by unfold BB;omega)).symm,rfl⟩ H
  refine Ae (V U U (AW U U U) (Ad U (Ac (Z ?_))))
  refine Aw U (fun h24=>?_) (fun h24=>?_)
  ·refine Ae (Ad U (Ac (AU (Z (Aa (Ae (V U U (Aj U C4 U) (V U U (Al U AA U (H.cellI 0 U U)) (V U U (CJ U U U) (Ad U ?_))))))))))
   refine AN (d:=27) U (fun h25=>?_) (fun h25=>?_)
   ·refine V U U (Aj U C4 U) (V U U (Al U AA U (H.cellI 0 U U)) (V U U (Cy U U U) (Ah 2 U ?_)))
    refine AN (d:=32) U (fun h26=>?_) (fun h26=>?_)
    ·refine V U U (Aj U Dh U) (V U U (Al U AA U (H.cellI 0 U U)) (Ad U (V U U (CJ U U U) (Ah 2 U ?_))))
     refine AN (d:=38) U (fun h27=>?_) (fun h27=>?_)
     ·refine V U U (Aj U Dh U) (V U U (Al U AA U (H.cellI 0 U U)) (Ad U (V U U (Cy U U U) (Ah 2 U ?_))))
      refine AN (d:=44) U (fun h28=>?_) (fun h28=>?_)
      ·refine V U U (Aj U EZ U) (V U U (Al U BR U (H.cellI 0 U U)) (V U U (Dp U CF U) (Ad U (V U U (Cy U U U) (Ah 2 U (Ac (Z (Am (Aq U U ?_)))))))))
       replace H:=H.nil
       exact Ak ⟨congrArg Value.bool (decide_eq_decide.2 (by unfold BB;omega)),rfl⟩ H
      refine Ah 7 U (Ac (Z (Am (Aq U U ?_))))
      replace H:=H.nil
      exact Ak ⟨congrArg Value.bool (decide_eq_false (by unfold BB;omega)).symm,rfl⟩ H
     refine Ah 12 U (Ad U (Ac (Z (Am (Aq U U ?_)))))
     replace H:=H.nil
     exact Ak ⟨congrArg Value.bool (decide_eq_false (by unfold BB;omega)).symm,rfl⟩ H
    refine Ah 12 U (Ah 7 U (Ac (Z (Am (Aq U U ?_)))))
    replace H:=H.nil
    exact Ak ⟨congrArg Value.bool (decide_eq_false (by unfold BB;omega)).symm,rfl⟩ H
   refine Ah 12 U (Ah 12 U (Ac (Z (Am (Aq U U ?_)))))
   replace H:=H.nil
   exact Ak ⟨congrArg Value.bool (decide_eq_false (by unfold BB;omega)).symm,rfl⟩ H
  refine Ax (AU (Z (Aa (Ae (V U U (Aj U C4 U) (V U U (Al U AA U (H.cellI 0 U U)) (V U U (CJ U U U) (Ad U ?_))))))))
  refine AN (d:=27) U (fun h29=>?_) (fun h29=>?_)
  ·refine V U U (Aj U C4 U) (V U U (Al U AA U (H.cellI 0 U U)) (V U U (Cy U U U) (Ah 2 U ?_)))
   refine AN (d:=32) U (fun h30=>?_) (fun h30=>?_)
   ·refine V U U (Aj U Dh U) (V U U (Al U AA U (H.cellI 0 U U)) (Ad U (V U U (CJ U U U) (Ah 2 U ?_))))
    refine AN (d:=38) U (fun h31=>?_) (fun h31=>?_)
    ·refine V U U (Aj U Dh U) (V U U (Al U AA U (H.cellI 0 U U)) (Ad U (V U U (Cy U U U) (Ah 2 U ?_))))
     refine AN (d:=44) U (fun h32=>?_) (fun h32=>?_)
     ·refine V U U (Aj U EZ U) (V U U (Al U BR U (H.cellI 0 U U)) (V U U (Dp U CF U) (Ad U (V U U (Cy U U U) (Ah 2 U (Ac (Z (Am (Aq U U ?_)))))))))
      replace H:=H.nil
      exact Ak ⟨congrArg Value.bool (decide_eq_decide.2 (by unfold BB;omega)),rfl⟩ H
     refine Ah 7 U (Ac (Z (Am (Aq U U ?_))))
     replace H:=H.nil
     exact Ak ⟨congrArg Value.bool (decide_eq_false (by unfold BB;omega)).symm,rfl⟩ H
    refine Ah 12 U (Ad U (Ac (Z (Am (Aq U U ?_)))))
    replace H:=H.nil
    exact Ak ⟨congrArg Value.bool (decide_eq_false (by unfold BB;omega)).symm,rfl⟩ H
   refine Ah 12 U (Ah 7 U (Ac (Z (Am (Aq U U ?_)))))
   replace H:=H.nil
   exact Ak ⟨congrArg Value.bool (decide_eq_false (by unfold BB;omega)).symm,rfl⟩ H
  refine Ah 12 U (Ah 12 U (Ac (Z (Am (Aq U U ?_)))))
  replace H:=H.nil
  exact Ak ⟨congrArg Value.bool (decide_eq_false (by unfold BB;omega)).symm,rfl⟩ H
 refine Ae (V U U (AW U U U) (Ad U (Ac (Z ?_))))
 refine Aw U (fun h33=>?_) (fun h33=>?_)
 ·refine Ae (Ah 2 U (Ac (AU (Z (Aa (Ae (V U U (Aj U C4 U) (V U U (Al U AA U (H.cellI 0 U U)) (V U U (CJ U U U) (Ad U ?_))))))))))
  refine AN (d:=27) U (fun h34=>?_) (fun h34=>?_)
  ·refine V U U (Aj U C4 U) (V U U (Al U AA U (H.cellI 0 U U)) (V U U (Cy U U U) (Ah 2 U ?_)))
   refine AN (d:=32) U (fun h35=>?_) (fun h35=>?_)
   ·refine V U U (Aj U Dh U) (V U U (Al U AA U (H.cellI 0 U U)) (Ad U (V U U (CJ U U U) (Ah 2 U ?_))))
    refine AN (d:=38) U (fun h36=>?_) (fun h36=>?_)
    ·refine V U U (Aj U Dh U) (V U U (Al U AA U (H.cellI 0 U U)) (Ad U (V U U (Cy U U U) (Ah 2 U ?_))))
     refine AN (d:=44) U (fun h37=>?_) (fun h37=>?_)
     ·refine V U U (Aj U EZ U) (V U U (Al U BR U (H.cellI 0 U U)) (V U U (Dp U CF U) (Ad U (V U U (Cy U U U) (Ah 2 U (Ac (Z (Am (Aq U U ?_)))))))))
      replace H:=H.nil
      exact Ak ⟨congrArg Value.bool (decide_eq_decide.2 (by unfold BB;omega)),rfl⟩ H
     refine Ah 7 U (Ac (Z (Am (Aq U U ?_))))
     replace H:=H.nil
     exact Ak ⟨congrArg Value.bool (decide_eq_false (by unfold BB;omega)).symm,rfl⟩ H
    refine Ah 12 U (Ad U (Ac (Z (Am (Aq U U ?_)))))
    replace H:=H.nil
    exact Ak ⟨congrArg Value.bool (decide_eq_false (by unfold BB;omega)).symm,rfl⟩ H
   refine Ah 12 U (Ah 7 U (Ac (Z (Am (Aq U U ?_)))))
   replace H:=H.nil
   exact Ak ⟨congrArg Value.bool (decide_eq_false (by unfold BB;omega)).symm,rfl⟩ H
  refine Ah 12 U (Ah 12 U (Ac (Z (Am (Aq U U ?_)))))
  replace H:=H.nil
  exact Ak ⟨congrArg Value.bool (decide_eq_false (by unfold BB;omega)).symm,rfl⟩ H
 refine Aa (Aa (Ae (V U U (AW U U U) (Ad U (Ac (Z ?_))))))
 refine Aw U (fun h38=>?_) (fun h38=>?_)
 ·refine Ax (Z ?_)
  refine Aw U (fun h39=>?_) (fun h39=>?_)
  ·refine Ae (Ad U (Ac (AU (Z (Aa (Ae (V U U (Aj U C4 U) (V U U (Al U AA U (H.cellI 0 U U)) (V U U (CJ U U U) (Ad U ?_))))))))))
   refine AN (d:=27) U (fun h40=>?_) (fun h40=>?_)
   ·refine V U U (Aj U C4 U) (V U U (Al U AA U (H.cellI 0 U U)) (V U U (Cy U U U) (Ah 2 U ?_)))
    refine AN (d:=32) U (fun h41=>?_) (fun h41=>?_)
    ·refine V U U (Aj U Dh U) (V U U (Al U AA U (H.cellI 0 U U)) (Ad U (V U U (CJ U U U) (Ah 2 U ?_))))
     refine AN (d:=38) U (fun h42=>?_) (fun h42=>?_)
     ·refine V U U (Aj U Dh U) (V U U (Al U AA U (H.cellI 0 U U)) (Ad U (V U U (Cy U U U) (Ah 2 U ?_))))
      refine AN (d:=44) U (fun h43=>?_) (fun h43=>?_)
      ·refine V U U (Aj U EZ U) (V U U (Al U BR U (H.cellI 0 U U)) (V U U (Dp U CF U) (Ad U (V U U (Cy U U U) (Ah 2 U (Ac (Z (Am (Aq U U ?_)))))))))
       replace H:=H.nil
       exact Ak ⟨congrArg Value.bool (decide_eq_decide.2 (by unfold BB;omega)),rfl⟩ H
      refine Ah 7 U (Ac (Z (Am (Aq U U ?_))))
      replace H:=H.nil
      exact Ak ⟨congrArg Value.bool (decide_eq_false (by unfold BB;omega)).symm,rfl⟩ H
     refine Ah 12 U (Ad U (Ac (Z (Am (Aq U U ?_)))))
     replace H:=H.nil
     exact Ak ⟨congrArg Value.bool (decide_eq_false (by unfold BB;omega)).symm,rfl⟩ H
    refine Ah 12 U (Ah 7 U (Ac (Z (Am (Aq U U ?_)))))
    replace H:=H.nil
    exact Ak ⟨congrArg Value.bool (decide_eq_false (by unfold BB;omega)).symm,rfl⟩ H
   refine Ah 12 U (Ah 12 U (Ac (Z (Am (Aq U U ?_)))))
   replace H:=H.nil
   exact Ak ⟨congrArg Value.bool (decide_eq_false (by unfold BB;omega)).symm,rfl⟩ H
  refine Ax (AU (Z (Aa (Ae (V U U (Aj U C4 U) (V U U (Al U AA U (H.cellI 0 U U)) (V U U (CJ U U U) (Ad U ?_))))))))
  refine AN (d:=27) U (fun h44=>?_) (fun h44=>?_)
  ·refine V U U (Aj U C4 U) (V U U (Al U AA U (H.cellI 0 U U)) (V U U (Cy U U U) (Ah 2 U ?_)))
   refine AN (d:=32) U (fun h45=>?_) (fun h45=>?_)
   ·refine V U U (Aj U Dh U) (V U U (Al U AA U (H.cellI 0 U U)) (Ad U (V U U (CJ U U U) (Ah 2 U ?_))))
    refine AN (d:=38) U (fun h46=>?_) (fun h46=>?_)
    ·refine V U U (Aj U Dh U) (V U U (Al U AA U (H.cellI 0 U U)) (Ad U (V U U (Cy U U U) (Ah 2 U ?_))))
     refine AN (d:=44) U (fun h47=>?_) (fun h47=>?_)
     ·refine V U U (Aj U EZ U) (V U U (Al U BR U (H.cellI 0 U U)) (V U U (Dp U CF U) (Ad U (V U U (Cy U U U) (Ah 2 U (Ac (Z (Am (Aq U U ?_)))))))))
      replace H:=H.nil
      exact Ak ⟨congrArg Value.bool (decide_eq_decide.2 (by unfold BB;omega)),rfl⟩ H
     refine Ah 7 U (Ac (Z (Am (Aq U U ?_))))
     replace H:=H.nil
     exact Ak ⟨congrArg Value.bool (decide_eq_false (by unfold BB;omega)).symm,rfl⟩ H
    refine Ah 12 U (Ad U (Ac (Z (Am (Aq U U ?_)))))
    replace H:=H.nil
    exact Ak ⟨congrArg Value.bool (decide_eq_false (by unfold BB;omega)).symm,rfl⟩ H
   refine Ah 12 U (Ah 7 U (Ac (Z (Am (Aq U U ?_)))))
   replace H:=H.nil
   exact Ak ⟨congrArg Value.bool (decide_eq_false (by unfold BB;omega)).symm,rfl⟩ H
  refine Ah 12 U (Ah 12 U (Ac (Z (Am (Aq U U ?_)))))
  replace H:=H.nil
  exact Ak ⟨congrArg Value.bool (decide_eq_false (by unfold BB;omega)).symm,rfl⟩ H
 refine Ae (V U U (AW U U U) (Ad U (Ac (Z ?_))))
 refine Aw U (fun h48=>?_) (fun h48=>?_)
 ·refine Ae (Ad U (Ac (AU (Z (Aa (Ae (V U U (Aj U C4 U) (V U U (Al U AA U (H.cellI 0 U U)) (V U U (CJ U U U) (Ad U ?_))))))))))
  refine AN (d:=27) U (fun h49=>?_) (fun h49=>?_)
  ·refine V U U (Aj U C4 U) (V U U (Al U AA U (H.cellI 0 U U)) (V U U (Cy U U U) (Ah 2 U ?_)))
   refine AN (d:=32) U (fun h50=>?_) (fun h50=>?_)
   ·refine V U U (Aj U Dh U) (V U U (Al U AA U (H.cellI 0 U U)) (Ad U (V U U (CJ U U U) (Ah 2 U ?_))))
    refine AN (d:=38) U (fun h51=>?_) (fun h51=>?_)
    ·refine V U U (Aj U Dh U) (V U U (Al U AA U (H.cellI 0 U U)) (Ad U (V U U (Cy U U U) (Ah 2 U ?_))))
     refine AN (d:=44) U (fun h52=>?_) (fun h52=>?_)
     ·refine V U U (Aj U EZ U) (V U U (Al U BR U (H.cellI 0 U U)) (V U U (Dp U CF U) (Ad U (V U U (Cy U U U) (Ah 2 U (Ac (Z (Am (Aq U U ?_)))))))))
      replace H:=H.nil
      exact Ak ⟨congrArg Value.bool (decide_eq_decide.2 (by unfold BB;omega)),rfl⟩ H
     refine Ah 7 U (Ac (Z (Am (Aq U U ?_))))
     replace H:=H.nil
     exact Ak ⟨congrArg Value.bool (decide_eq_false (by unfold BB;omega)).symm,rfl⟩ H
    refine Ah 12 U (Ad U (Ac (Z (Am (Aq U U ?_)))))
    replace H:=H.nil
    exact Ak ⟨congrArg Value.bool (decide_eq_false (by unfold BB;omega)).symm,rfl⟩ H
   refine Ah 12 U (Ah 7 U (Ac (Z (Am (Aq U U ?_)))))
   replace H:=H.nil
   exact Ak ⟨congrArg Value.bool (decide_eq_false (by unfold BB;omega)).symm,rfl⟩ H
  refine Ah 12 U (Ah 12 U (Ac (Z (Am (Aq U U ?_)))))
  replace H:=H.nil
  exact Ak ⟨congrArg Value.bool (decide_eq_false (by unfold BB;omega)).symm,rfl⟩ H
 refine Ax (AU (Z (Aa (Ae (V U U (Aj U C4 U) (V U U (Al U AA U (H.cellI 0 U U)) (V U U (CJ U U U) (Ad U ?_))))))))
 refine AN (d:=27) U (fun h53=>?_) (fun h53=>?_)
 ·refine V U U (Aj U C4 U) (V U U (Al U AA U (H.cellI 0 U U)) (V U U (Cy U U U) (Ah 2 U ?_)))
  refine AN (d:=32) U (fun h54=>?_) (fun h54=>?_)
  ·refine V U U (Aj U Dh U) (V U U (Al U AA U (H.cellI 0 U U)) (Ad U (V U U (CJ U U U) (Ah 2 U ?_))))
   refine AN (d:=38) U (fun h55=>?_) (fun h55=>?_)
   ·refine V U U (Aj U Dh U) (V U U (Al U AA U (H.cellI 0 U U)) (Ad U (V U U (Cy U U U) (Ah 2 U ?_))))
    refine AN (d:=44) U (fun h56=>?_) (fun h56=>?_)
    ·refine V U U (Aj U EZ U) (V U U (Al U BR U (H.cellI 0 U U)) (V U U (Dp U CF U) (Ad U (V U U (Cy U U U) (Ah 2 U (Ac (Z (Am (Aq U U ?_)))))))))
     replace H:=H.nil
     exact Ak ⟨congrArg Value.bool (decide_eq_decide.2 (by unfold BB;omega)),rfl⟩ H
    refine Ah 7 U (Ac (Z (Am (Aq U U ?_))))
    replace H:=H.nil
    exact Ak ⟨congrArg Value.bool (decide_eq_false (by unfold BB;omega)).symm,rfl⟩ H
   refine Ah 12 U (Ad U (Ac (Z (Am (Aq U U ?_)))))
   replace H:=H.nil
   exact Ak ⟨congrArg Value.bool (decide_eq_false (by unfold BB;omega)).symm,rfl⟩ H
  refine Ah 12 U (Ah 7 U (Ac (Z (Am (Aq U U ?_)))))
  replace H:=H.nil
  exact Ak ⟨congrArg Value.bool (decide_eq_false (by unfold BB;omega)).symm,rfl⟩ H
 refine Ah 12 U (Ah 12 U (Ac (Z (Am (Aq U U ?_)))))
 replace H:=H.nil
 exact Ak ⟨congrArg Value.bool (decide_eq_false (by unfold BB;omega)).symm,rfl⟩ H
theorem WR (vxs:Value) (xs:List BO):
    Cn Tryz.prog 195 [vxs] [] [Ab Af vxs xs] (fun v Bs=>v=.int .i64 (Dt xs)∧Bs=[]):=by
 intro w0 F0 H
 obtain ⟨A1,c2,rfl,hc3,hm4,hp5⟩:=H.fR 0 rfl
 refine enter Tryz.func195 U U (Nat.le_of_ble_eq_true U) (Aa (Ae (Ad U (Ac (Z ?_)))))
 replace H:Hd _ _ _ [] [Ab Af (.slice A1 xs.length c2) xs]:=H
 refine Aa (Aa (Ae (Ah 2 U (V U U (Bf U GR U) (V U U (G9 (z:=min ((xs.length:Nat):Int) 40) U U U U) (V U U (Mf U HV U U (by omega) (by omega) U) (V U U (Bf U GR U) (Ad U (Ac (Z (AS (BQ (σ:=Nat) (fun k=>[(0,.slice A1 xs.length c2),(9,.slice A1 ((min ((xs.length:Nat):Int) 40).toNat) c2),(10,.int .i64 (((min ((xs.length:Nat):Int) 40).toNat:Nat):Int)),(11,.int .i64 ((k:Nat):Int))]) (fun k w=>(Hd w0 F0 w [] [Ab Af (.slice A1 xs.length c2) xs])∧(k≤xs.length∧k≤40)∧(∀ y∈xs.take k,Ef xs.length y=false)) (fun k=>xs.length - k) 0 ⟨rfl,rfl,rfl,rfl,trivial⟩ ⟨H,by omega,by simp⟩ ?_))))))))))))
 rintro k w ⟨H,hk,hn⟩
 refine Aa (Ae (V U U (Bd U U U) (Ac (Z (Aa ?_)))))
 refine Aw U (fun h6=>?_) (fun h6=>?_)
 ·refine Ax (Z (Aa (AS (Aa (Ae (Ad U ?_))))))
  obtain ⟨x7,hx8⟩:∃ z9,xs[k]?=some z9:=⟨_,List.getElem?_eq_getElem (show k<xs.length by omega)⟩
  have th9:=H.thR 0 rfl hx8
  refine V U U (A0 (p:=AQ A1+k*3) U HV U U (by omega) (by omega) th9 U) (V U U (Bn (cs:=[.int .i64 x7.op,.int .i64 x7.a,.string x7.s]) U H6 U U (H.elsR 0 U hx8 U)) (Dk U U U KB H (fun b10 w H=>(Ad U (BD U U U H6 U U H U (Nat.le_of_ble_eq_true U) (fun u hu=>by simp [Value.cells] at hu;rcases hu with rfl|rfl|rfl<;>rfl) (fun w H=>?_))))))
  replace H:=H.h1 (A:=blk b10 [.int .i64 x7.op,.int .i64 x7.a,.string x7.s] 223)
  refine Ac (Z (Aa (Ae (V U U (Bn (cs:=[.int .i64 x7.op,.int .i64 x7.a,.string x7.s]) U H6 U U (H.cellsI 0 U U)) (Ad U (V U U (Bf U GR U) (sc (WW x7 ((xs.length:Nat):Int)) H l0 U U (Au Us U U) ?_)))))))
  rintro _ _ w ⟨rfl,rfl⟩ H
  refine V U U (D7 U U) (Ac (Z ?_))
  refine Aw U (fun h11=>?_) (fun h11=>?_)
  ·refine Aa (Ae (Ah 2 U (Ac (Z (Am (AY (Ay (Ay (AY (Ay (Aq U U ?_)))))))))))
   replace H:=H.nil
   exact Ak ⟨by rw [Rn (by omega) hn hx8 (by simpa using h11)]<;>rfl,rfl⟩ H
  refine Ax (AU (Z (Ae (V U U (AX (z:=((k+1:Nat):Int)) U U U (by rw [AB (by omega) (by omega)];omega)) (Ad U (Ac ?_))))))
  replace H:=H.nil
  exact Bj (s:=k) (k+1) ⟨rfl,rfl,rfl,rfl,trivial⟩ ⟨H,by omega,Ro hn hx8 (by simpa using h11)⟩ (by (try dsimp only);omega)
 refine BH (AR (AR (BI (Z (Aa (Aa (Ae (Ad U (V U U (Bf U GR U) (V U U (CK U U U) (Ac (Z ?_))))))))))))
 refine Aw U (fun h12=>?_) (fun h12=>?_)
 ·exact Aa (Ae (Ad U (Ac (Z (Am (Ay (Aq U U (Ak ⟨by rw [Nm (k:=k) (by omega) hn,if_pos (by omega)]<;>rfl,rfl⟩ H))))))))
 exact Ax (Z (Aa (Ae (Ad U (Ac (Z (Am (Aq U U (Ak ⟨by rw [Nm (k:=k) (by omega) hn,if_neg (by omega)]<;>rfl,rfl⟩ H)))))))))
theorem L6 (vxs:Value) (xs:List BO):
    Cn Tryz.prog 154 [vxs] [] [Ab Af vxs xs] (fun v Bs=>v=.bool (decide (Dt xs<0))∧Bs=[]):=by
 intro w0 F0 H
 obtain ⟨A1,c2,rfl,hc3,hm4,hp5⟩:=H.fR 0 rfl
 refine enter Tryz.func154 U U (Nat.le_of_ble_eq_true U) (Aa (Ae (Ad U (Ac (Z ?_)))))
 replace H:Hd _ _ _ [] [Ab Af (.slice A1 xs.length c2) xs]:=H
 refine Aa (Ae (Ad U (sc (WR (.slice A1 xs.length c2) xs) H (lR 0 U l0) U U (Au Uk U U) ?_)))
 rintro _ _ w ⟨rfl,rfl⟩ H
 exact V U U (Bd U U U) (Ad U (Ac (Z (Am (Aq U U (Ak ⟨rfl,rfl⟩ H))))))
theorem PX (vp:Value) (p:List BO) (key:ByteArray) (vv:Value) (vals:List ByteArray) (fuel:Int) (hpa:∀ i∈p,AP i.a) (hfu:AP fuel):
    Cn Tryz.prog 207 [vp,.string key,vv,.int .i64 fuel] [] [Ab Af vp p,Ab Be vv vals,gl] (fun v Bs=>((¬ Dt p<0∨fuel<0)∧v=.tuple #[.pointer none,.int .i64 2]∧Bs=[])∨(¬ (¬ Dt p<0∨fuel<0)∧∃ r mb sv tv vv2 k,v=.tuple #[.pointer (some ⟨r,0,none⟩),.int .i64 (CE dg p key (min fuel 2000).toNat (Dr vals)).2]∧Bs=[blk r (A_ vp key vv2 (min fuel 2000) (CE dg p key (min fuel 2000).toNat (Dr vals)).1.pos k (CE dg p key (min fuel 2000).toNat (Dr vals)).1.halted sv (CE dg p key (min fuel 2000).toNat (Dr vals)).1.g tv (.map (some mb))) 288,Y AT sv (CE dg p key (min fuel 2000).toNat (Dr vals)).1.stk,Y Ag tv (CE dg p key (min fuel 2000).toNat (Dr vals)).1.told,BL mb])):=by
 intro w0 F0 H
 unfold AP at hfu
 have hnum:=HJ
 obtain ⟨A1,c2,rfl,hc3,hm4,hp5⟩:=H.fR 0 rfl
 obtain ⟨A6,c7,rfl,hc8,hm9,hp10⟩:=H.fR 1 rfl
 refine enter Tryz.func207 U U (Nat.le_of_ble_eq_true U) (Aa (Ae (Ah 2 U (Ac (Z ?_)))))
 replace H:Hd _ _ _ [] [Ab Af (.slice A1 p.length c2) p,Ab Be (.slice A6 vals.length c7) vals,gl]:=H
 refine Aa (Aa (Ae (Ad U (sc (L6 (.slice A1 p.length c2) p) H (lR 0 U l0) U U (Au LC U U) ?_))))
 rintro _ _ w ⟨rfl,rfl⟩ H
 refine V U U (D7 U U) (Ad U ?_)
 refine AN (d:=16) U (fun h11=>?_) (fun h11=>?_)
 ·refine Ah 3 U (Ac (Z (Ck U (Aa (Ae (Ah 2 U (Ac (Z (Am (Ay (B_ U U U ?_)))))))))))
  replace H:Hd _ _ _ [] [Ab Af (.slice A1 p.length c2) p,Ab Be (.slice A6 vals.length c7) vals,gl]:=H
  exact Ak (.inl ⟨.inl h11,rfl,rfl⟩) H
 refine Ad U (V U U (Bd U U U) (Ad U (Ac (Z ?_))))
 refine Aw U (fun h12=>?_) (fun h12=>?_)
 ·refine Aa (Ae (Ah 2 U (Ac (Z (Am (Ay (B_ U U U ?_)))))))
  replace H:Hd _ _ _ [] [Ab Af (.slice A1 p.length c2) p,Ab Be (.slice A6 vals.length c7) vals,gl]:=H
  exact Ak (.inl ⟨.inr h12,rfl,rfl⟩) H
 refine Ax (Z (Aa ?_))
 have hbad:=h11
 have hgood:=VF (Classical.not_not.1 hbad)
 refine Ae (Ah 4 U (V U U (G9 (z:=min fuel 2000) U U U U) (Yi U U U H (fun b13 w H=>(V U U (CQ (parts:=[(0,.tmp 20),(1,.tmp 21),(2,.tmp 22),(3,.tmp 24),(10,.tmp 25)]) (vs:=[.slice A1 p.length c2,.string key,.slice A6 vals.length c7,.int .i64 (min fuel 2000),.map (some b13)]) (cs:=[.slice A1 p.length c2,.string key,.slice A6 vals.length c7,.int .i64 (min fuel 2000),.int .i64 0,.int .i64 0,.bool false,.slice none 0 0,.bool false,.int .i64 0,.string ⟨#[]⟩,.bool false,.int .i64 0,.string ⟨#[]⟩,.bool false,.int .i64 0,.string ⟨#[]⟩,.bool false,.int .i64 0,.string ⟨#[]⟩,.bool false,.int .i64 0,.string ⟨#[]⟩,.bool false,.int .i64 0,.string ⟨#[]⟩,.bool false,.int .i64 0,.string ⟨#[]⟩,.bool false,.int .i64 0,.string ⟨#[]⟩,.slice none 0 0,.map (some b13)]) U Ry U U) (Cm U U U U H (fun b14 w H=>?_)))))))
 refine Ad U (Ac (Z ?_))
 replace H:Hd _ _ _ [blk b14 [.slice A1 p.length c2,.string key,.slice A6 vals.length c7,.int .i64 (min fuel 2000),.int .i64 0,.int .i64 0,.bool false,.slice none 0 0,.bool false,.int .i64 0,.string ⟨#[]⟩,.bool false,.int .i64 0,.string ⟨#[]⟩,.bool false,.int .i64 0,.string ⟨#[]⟩,.bool false,.int .i64 0,.string ⟨#[]⟩,.bool false,.int .i64 0,.string ⟨#[]⟩,.bool false,.int .i64 0,.string ⟨#[]⟩,.bool false,.int .i64 0,.string ⟨#[]⟩,.bool false,.int .i64 0,.string ⟨#[]⟩,.slice none 0 0,.map (some b13)] 288,DT b13 []] [Ab Af (.slice A1 p.length c2) p,Ab Be (.slice A6 vals.length c7) vals,gl]:=H
 refine Aa (AS ?_)
 replace H:=So (t:=234) H
 replace H:=(H.newnil Ag).newnil AT
 replace H:Hd w0 F0 w [blk b14 (A_ (.slice A1 p.length c2) key (.slice A6 vals.length c7) (min fuel 2000) 0 0 false (.slice none 0 0) (fun _=>CC) (.slice none 0 0) (.map (some b13))) 288,Y AT (.slice none 0 0) [],Y Ag (.slice none 0 0) [],BL b13] [Ab Af (.slice A1 p.length c2) p,Ab Be (.slice A6 vals.length c7) vals,gl]:=YO H
 replace H:=H.dupR 1 rfl
 refine BQ (σ:=Nat×VM×Value×Value×Value) (fun (k,m,sv,tv,vv2)=>[(0,.slice A1 p.length c2),(10,.pointer (some ⟨b14,0,none⟩))]) (fun (k,m,sv,tv,vv2) w=>(Hd w0 F0 w [blk b14 (A_ (.slice A1 p.length c2) key vv2 (min fuel 2000) m.pos ((k:Nat):Int) m.halted sv m.g tv (.map (some b13))) 288,Y AT sv m.stk,Y Ag tv m.told,BL b13] [Ab Be vv2 m.vals,Ab Af (.slice A1 p.length c2) p,Ab Be (.slice A6 vals.length c7) vals,gl])∧((k:Int)≤min fuel 2000)∧(Ed p.length m)∧(CE dg p key ((min fuel 2000).toNat - k) m=CE dg p key (min fuel 2000).toNat (Dr vals))) (fun (k,m,sv,tv,vv2)=>(min fuel 2000).toNat - k) (0,Dr vals,.slice none 0 0,.slice none 0 0,.slice A6 vals.length c7) ⟨rfl,rfl,trivial⟩ ⟨H,by (try dsimp only);omega,TJ _ _,rfl⟩ ?_
 rintro ⟨k,m,sv,tv,vv2⟩ w ⟨H,hk,hinv,hpl⟩
 have hps:=hinv.pos
 refine Aa (Aa (Ae (Ad U (V U U (AF U U) (V U U (Aj U HD U) (V U U (Al U AA U (H.cellI 0 U U)) (Ad U (V U U (Bf U GR U) (V U U (Bd U U U) (Ad U ?_))))))))))
 refine AN (d:=35) U (fun h15=>?_) (fun h15=>?_)
 ·refine Ad U (V U U (AF U U) (V U U (Aj U Of U) (V U U (Al U E5 U (H.cellI 0 U U)) (V U U (Fl U U U) (Ad U (Ac (Z ?_)))))))
  refine DO (b:=!m.halted) U (fun h16=>?_) (fun h16=>?_)
  ·refine Ax (Z (AS (Aa (Aa ?_))))
   have hrun:m.pos<(p.length:Int)∧m.halted=false:=⟨h15,by simpa using h16⟩
   refine Gd mo (by kernel_rfl) H (D4 U (Bu U U (fun w H=>AF U U) (Bu U U (fun w H=>Aj U Lj U) (Bu U U (fun w H=>Al U AA U (H.cellI 0 U U)) (D4 U (Bu U U (fun w H=>AF U U) (Bu U U (fun w H=>Aj U S8 U) (Bu U U (fun w H=>Al U AA U (H.cellI 0 U U)) (Bu U U (fun w H=>CJ U U U) (Gs (fun w H=>(Z ?_))))))))))))
   refine Aw U (fun h17=>?_) (fun h17=>?_)
   ·refine Aa (Ae (Ah 3 U (Ac (Z (Am (Ay (AY (Ay (AY (Ay (B_ U U U ?_)))))))))))
    have e:CE dg p key (min fuel 2000).toNat (Dr vals)=(m,3):=by rw [←hpl,show (min fuel 2000).toNat - k=0 by omega];exact WV hrun
    replace H:=H.dropR
    replace H:Hd _ _ _ [blk b14 (A_ (.slice A1 p.length c2) key vv2 (min fuel 2000) m.pos ((k:Nat):Int) m.halted sv m.g tv (.map (some b13))) 288,Y AT sv m.stk,Y Ag tv m.told,BL b13] [Ab Af (.slice A1 p.length c2) p,Ab Be (.slice A6 vals.length c7) vals,gl]:=H
    exact Ak (.inr ⟨fun h=>h.elim hbad (fun h=>absurd h (by omega)),b14,b13,sv,tv,vv2,((k:Nat):Int),by rw [e]<;>rfl,by rw [e]<;>rfl⟩) H
   refine Ax (Z (Aa (Ae (Ad U (V U U (AF U U) (V U U (Aj U Lj U) (V U U (Al U AA U (H.cellI 0 U U)) (V U U (AX (z:=((k+1:Nat):Int)) U U U (by rw [AB (by omega) (by omega)];omega)) (V U U (AF U U) (V U U (Aj U Lj U) (BD U U U AA U U H U (Nat.le_of_ble_eq_true U) (fun u hu=>by simp [Value.cells] at hu;subst hu;rfl) (fun w H=>?_))))))))))))
   replace H:Hd _ _ _ [blk b14 (A_ (.slice A1 p.length c2) key vv2 (min fuel 2000) m.pos ((k+1:Nat):Int) m.halted sv m.g tv (.map (some b13))) 288,Y AT sv m.stk,Y Ag tv m.told,BL b13] [Ab Be vv2 m.vals,Ab Af (.slice A1 p.length c2) p,Ab Be (.slice A6 vals.length c7) vals,gl]:=H
   refine Ac (Z (Aa (Ae (Ah 2 U (V U U (AF U U) (V U U (Aj U HD U) (V U U (Al U AA U (H.cellI 0 U U)) ?_)))))))
   obtain ⟨x18,hx19⟩:∃ z9,p[(m.pos).toNat]?=some z9:=⟨_,List.getElem?_eq_getElem (show (m.pos).toNat<p.length by omega)⟩
   have th20:=H.thR 1 rfl hx19
   refine V U U (A0 (p:=AQ A1+((m.pos).toNat)*3) U HV U U (by omega) (by omega) th20 (by omega)) (V U U (Bn (cs:=[.int .i64 x18.op,.int .i64 x18.a,.string x18.s]) U H6 U U (H.elsR 1 U hx19 U)) (Dk U U U KB H (fun b21 w H=>(BD U U U H6 U U H U (Nat.le_of_ble_eq_true U) (fun u hu=>by simp [Value.cells] at hu;rcases hu with rfl|rfl|rfl<;>rfl) (fun w H=>?_)))))
   replace H:=H.h1 (A:=blk b21 [.int .i64 x18.op,.int .i64 x18.a,.string x18.s] 223)
   refine Ac (Z (Aa (Ae (Ad U (V U U (AF U U) (V U U (Aj U HD U) (V U U (Al U AA U (H.cellI 1 U U)) (V U U (AX (z:=m.pos+1) U U U (AB (by omega) (by omega))) (V U U (AF U U) (V U U (Aj U HD U) ?_))))))))))
   replace H:=H.p1
   refine BD U U U AA U U H U (Nat.le_of_ble_eq_true U) (fun u hu=>by simp [Value.cells] at hu;subst hu;rfl) (fun w H=>?_)
   replace H:=H.h1 (A:=blk b14 (A_ (.slice A1 p.length c2) key vv2 (min fuel 2000) (m.pos+1) ((k+1:Nat):Int) m.halted sv m.g tv (.map (some b13))) 288)
   refine Ac (Z (Aa (Ae (Ad U (V U U (Bn (cs:=[.int .i64 x18.op,.int .i64 x18.a,.string x18.s]) U H6 U U (H.cellsI 1 U U)) ?_)))))
   replace H:=H.p4.p4.p4.p3
   refine sc (Sv b14 (.slice A1 p.length c2) key vv2 (min fuel 2000) (m.pos+1) ((k+1:Nat):Int) m.halted sv m.g tv b13 m.stk m.told m.vals x18 p.length hinv.len hinv.told hinv.ok (hgood _ (Cc hx19))) H (lR 0 U (lR 3 U l0)) U U (Au Uu U U) ?_
   rintro _ _ w ⟨s22,t23,vv24,rfl,hsuf25,rfl⟩ H
   replace H:=H.h3 (A:=blk b14 (A_ (.slice A1 p.length c2) key vv24 (min fuel 2000) ((BA dg key {m with pos:=m.pos+1} x18).1.pos) ((k+1:Nat):Int) ((BA dg key {m with pos:=m.pos+1} x18).1.halted) s22 ((BA dg key {m with pos:=m.pos+1} x18).1.g) t23 (.map (some b13))) 288) (B:=Y AT s22 ((BA dg key {m with pos:=m.pos+1} x18).1.stk)) (C:=Y Ag t23 ((BA dg key {m with pos:=m.pos+1} x18).1.told))
   refine Ad U (Ac (Z (Aa (Ae (Ad U (V U U (Dq U U U) (Ac (Z ?_))))))))
   refine Aw U (fun h26=>?_) (fun h26=>?_)
   ·refine Aa (Ae (Ah 4 U (Ac (Z (Am (AY (Ay (AY (Ay (B_ U U U ?_))))))))))
    replace H:=H.k4
    have e:CE dg p key (min fuel 2000).toNat (Dr vals)=BA dg key {m with pos:=m.pos+1} x18:=by rw [←hpl,show (min fuel 2000).toNat - k=((min fuel 2000).toNat - (k+1))+1 by omega];exact PV hrun hx19 h26
    replace H:=H.dropR
    replace H:Hd _ _ _ [blk b14 (A_ (.slice A1 p.length c2) key vv24 (min fuel 2000) ((BA dg key {m with pos:=m.pos+1} x18).1.pos) ((k+1:Nat):Int) ((BA dg key {m with pos:=m.pos+1} x18).1.halted) s22 ((BA dg key {m with pos:=m.pos+1} x18).1.g) t23 (.map (some b13))) 288,Y AT s22 ((BA dg key {m with pos:=m.pos+1} x18).1.stk),Y Ag t23 ((BA dg key {m with pos:=m.pos+1} x18).1.told),BL b13] [Ab Af (.slice A1 p.length c2) p,Ab Be (.slice A6 vals.length c7) vals,gl]:=H
    exact Ak (.inr ⟨fun h=>h.elim hbad (fun h=>absurd h (by omega)),b14,b13,s22,t23,vv24,((k+1:Nat):Int),by rw [e]<;>rfl,by rw [e]<;>rfl⟩) H
   refine Ax (AU ?_)
   replace H:=H.k4.addR (fun G h=>hsuf25 _ _ (h _ (List.mem_of_getElem? (i:=0) rfl)))
   replace H:Hd w0 F0 w [blk b14 (A_ (.slice A1 p.length c2) key vv24 (min fuel 2000) ((BA dg key {m with pos:=m.pos+1} x18).1.pos) ((k+1:Nat):Int) ((BA dg key {m with pos:=m.pos+1} x18).1.halted) s22 ((BA dg key {m with pos:=m.pos+1} x18).1.g) t23 (.map (some b13))) 288,Y AT s22 ((BA dg key {m with pos:=m.pos+1} x18).1.stk),Y Ag t23 ((BA dg key {m with pos:=m.pos+1} x18).1.told),BL b13] [Ab Be vv24 ((BA dg key {m with pos:=m.pos+1} x18).1.vals),Ab Af (.slice A1 p.length c2) p,Ab Be (.slice A6 vals.length c7) vals,gl]:=H.pickR [0,2,3,4]
   have hj:(min fuel 2000).toNat - k=((min fuel 2000).toNat - (k+1))+1:=by omega
   have hpl2:CE dg p key ((min fuel 2000).toNat - (k+1)) (BA dg key {m with pos:=m.pos+1} x18).1=CE dg p key (min fuel 2000).toNat (Dr vals):=by rw [←hpl,hj];exact (PW (m:=m) hrun hx19 h26).symm
   have hinv2:Ed p.length (BA dg key {m with pos:=m.pos+1} x18).1:=OH hnum (TM hinv hrun.1) (hgood _ (Cc hx19)) (hpa _ (Cc hx19)) (Classical.not_not.1 h26)
   exact Bj (s:=(k,m,undef,undef,undef)) (k+1,(BA dg key {m with pos:=m.pos+1} x18).1,s22,t23,vv24) ⟨rfl,rfl,trivial⟩ ⟨H,by (try dsimp only);omega,hinv2,hpl2⟩ (by (try dsimp only);omega)
  refine BH (AR (AR (BI (Z (Aa (Ae (Ah 3 U (Ac (Z (Am (B_ U U U ?_)))))))))))
  have e:CE dg p key (min fuel 2000).toNat (Dr vals)=(m,0):=by rw [←hpl];exact Ma _ (fun h=>by have h2:=h.2;rw [h2] at h16;simp at h16)
  replace H:=H.dropR
  replace H:Hd _ _ _ [blk b14 (A_ (.slice A1 p.length c2) key vv2 (min fuel 2000) m.pos ((k:Nat):Int) m.halted sv m.g tv (.map (some b13))) 288,Y AT sv m.stk,Y Ag tv m.told,BL b13] [Ab Af (.slice A1 p.length c2) p,Ab Be (.slice A6 vals.length c7) vals,gl]:=H
  exact Ak (.inr ⟨fun h=>h.elim hbad (fun h=>absurd h (by omega)),b14,b13,sv,tv,vv2,((k:Nat):Int),by rw [e]<;>rfl,by rw [e]<;>rfl⟩) H
 refine Ah 6 U (Ac (Z (B7 U (BH (AR (AR (BI (Z (Aa (Ae (Ah 3 U (Ac (Z (Am (B_ U U U ?_)))))))))))))))
 have e:CE dg p key (min fuel 2000).toNat (Dr vals)=(m,0):=by rw [←hpl];exact Ma _ (fun h=>absurd h.1 h15)
 replace H:=H.dropR
 replace H:Hd _ _ _ [blk b14 (A_ (.slice A1 p.length c2) key vv2 (min fuel 2000) m.pos ((k:Nat):Int) m.halted sv m.g tv (.map (some b13))) 288,Y AT sv m.stk,Y Ag tv m.told,BL b13] [Ab Af (.slice A1 p.length c2) p,Ab Be (.slice A6 vals.length c7) vals,gl]:=H
 exact Ak (.inr ⟨fun h=>h.elim hbad (fun h=>absurd h (by omega)),b14,b13,sv,tv,vv2,((k:Nat):Int),by rw [e]<;>rfl,by rw [e]<;>rfl⟩) H
theorem Q3 (vp:Value) (p:List BO) (key:ByteArray) (vv:Value) (vals:List ByteArray) (fuel:Int) (hpa:∀ i∈p,AP i.a) (hfu:AP fuel):
    Cn Tryz.prog 175 [vp,.string key,vv,.int .i64 fuel] [] [Ab Af vp p,Ab Be vv vals,gl] (fun v Bs=>∃ u,v=.tuple #[u,.int .i64 (Bo dg p key vals fuel).2]∧Bs=[Y Ag u (Bo dg p key vals fuel).1]):=by
 intro w0 F0 H
 refine enter Tryz.func175 U U (Nat.le_of_ble_eq_true U) (Aa (Ae (Ah 2 U (Ac (Z (Aa ?_))))))
 by_cases hb:¬ Dt p<0∨fuel<0
 ·refine Ae (Ah 4 U (sc (PX vp p key vv vals fuel hpa hfu) H (lR 0 U (lR 1 U (lR 2 U l0))) U U (Au OV U U) ?_))
  rintro _ _ w ht H
  obtain ⟨_,rfl,rfl⟩:=ht.resolve_right (fun h=>h.1 hb)
  refine Ah 5 U (Ac (Z ?_))
  replace H:Hd _ _ _ [] [Ab Af vp p,Ab Be vv vals,gl]:=H
  refine Aa (Aa (Ae (Ad U (V U U (Dq U U U) (Ac (Z (Ck U (Aa (Ae (Ah 3 U (Ac (Z (Am (Ay (B_ U U U ?_)))))))))))))))
  have e:Bo dg p key vals fuel=([],2):=if_pos hb
  replace H:=H.newnil Ag
  exact Ak ⟨_,by rw [e]<;>rfl,by rw [e]<;>rfl⟩ H
 refine Ae (Ah 4 U (sc (PX vp p key vv vals fuel hpa hfu) H (lR 0 U (lR 1 U (lR 2 U l0))) U U (Au OV U U) ?_))
 rintro _ _ w ht H
 obtain ⟨_,r,mb,sv,tv,vv2,k,rfl,rfl⟩:=ht.resolve_left (fun h=>hb h.1)
 refine Ah 5 U (Ac (Z ?_))
 replace H:Hd _ _ _ [blk r (A_ vp key vv2 (min fuel 2000) ((CE dg p key (min fuel 2000).toNat (Dr vals)).1.pos) k ((CE dg p key (min fuel 2000).toNat (Dr vals)).1.halted) sv ((CE dg p key (min fuel 2000).toNat (Dr vals)).1.g) tv (.map (some mb))) 288,Y AT sv ((CE dg p key (min fuel 2000).toNat (Dr vals)).1.stk),Y Ag tv ((CE dg p key (min fuel 2000).toNat (Dr vals)).1.told),BL mb] [Ab Af vp p,Ab Be vv vals,gl]:=H
 refine Aa (Aa (Ae (Ad U (V U U (Dq U U U) (Ac (Z ?_))))))
 refine Aw U (fun h1=>?_) (fun h1=>?_)
 ·refine Aa (Ae (Ah 3 U (Ac (Z (Am (Ay (B_ U U U ?_)))))))
  have e:Bo dg p key vals fuel=([],(CE dg p key (min fuel 2000).toNat (Dr vals)).2):=by unfold Bo;rw [if_neg hb,if_pos h1]
  replace H:=H.nil|>.newnil Ag
  exact Ak ⟨_,by rw [e]<;>rfl,by rw [e]<;>rfl⟩ H
 refine Ax (Z (Aa (Ae (Ad U (V U U (AF U U) (V U U (Aj U Jz U) (V U U (Al U EF U (H.cellI 0 U U)) (Ah 2 U (Ac (Z (Am (B_ U U U ?_))))))))))))
 have e:Bo dg p key vals fuel=((CE dg p key (min fuel 2000).toNat (Dr vals)).1.told,0):=by unfold Bo;rw [if_neg hb,if_neg h1]
 replace H:=H.p2.k1
 exact Ak ⟨_,by rw [e]<;>rfl,by rw [e]<;>rfl⟩ H
theorem Px (s:ByteArray):
    Cn Tryz.prog 279 [.string s] [] [] (fun v Bs=>v=.bool false∧Bs=[]):=by
 intro w0 F0 H
 exact enter Tryz.func279 U U (Nat.le_of_ble_eq_true U) (Aa (Ae (Ad U (Ac (Z (Aa (Ae (Ah 2 U (V U U (Mh U U U) (Ad U (Ac (Z (Am (Aq U U (Ak ⟨congrArg Value.bool (decide_eq_false (fun h=>h rfl)),rfl⟩ H)))))))))))))))
theorem R8 (a:ByteArray) (b:ByteArray):
    Cn Tryz.prog 245 [.string a,.string b] [] [] (fun v Bs=>v=.int .i64 (FO a b)∧Bs=[]):=by
 intro w0 F0 H
 refine enter Tryz.func245 U U (Nat.le_of_ble_eq_true U) (Aa (Ae (Ad U (Ac (Z (Aa (Ae (Ad U (sc (Px a) H l0 U U (Au O1 U U) ?_)))))))))
 rintro _ _ w ⟨rfl,rfl⟩ H
 refine Ad U (Ac (Z (Aa (Ae (Ad U (sc (Px b) H l0 U U (Au O1 U U) ?_))))))
 rintro _ _ w ⟨rfl,rfl⟩ H
 refine Ad U (Ac (Z (Aa (Aa (Ae (Ad U (Ac (Z (B7 U (Ax (Z (Aa (Aa (Ae (Ad U (Ac (Z (B7 U (Ax (Z (Aa (Aa (Ae (Ah 2 U (V U U (Qc U U U) (Ac (Z ?_)))))))))))))))))))))))))))
 refine Aw U (fun h1=>?_) (fun h1=>?_)
 ·exact Aa (Ae (Ad U (Ac (Z (Am (Ay (Aq U U (Ak ⟨by rw [R7 h1]<;>rfl,rfl⟩ H))))))))
 refine Ax (Z (Aa (Aa (Ae (Ah 2 U (V U U (Xg U U U) (Ac (Z ?_))))))))
 refine DO (b:=!(Bh a b||decide (a=b))) U (fun h2=>?_) (fun h2=>?_)
 ·exact Aa (Ae (Ad U (Ac (Z (Am (Ay (Aq U U (Ak ⟨by rw [R6 h1 h2]<;>rfl,rfl⟩ H))))))))
 exact Ax (Z (Aa (Ae (Ad U (Ac (Z (Am (Aq U U (Ak ⟨by rw [R5 h1 h2]<;>rfl,rfl⟩ H)))))))))
theorem HL (p q:An):
    Cn Tryz.prog 209 [.agg #[.string p.key,.string p.val],.agg #[.string q.key,.string q.val]] [] [] (fun v Bs=>v=.int .i64 (FO p.key q.key)∧Bs=[]):=by
 intro w0 F0 H
 refine enter Tryz.func209 U U (Nat.le_of_ble_eq_true U) (Aa (Ae (Cm U U U U H (fun b1 w H=>(Cm U U U U H (fun b2 w H=>(Ad U (Ac (Z ?_)))))))))
 replace H:Hd _ _ _ [blk b2 [.string q.key,.string q.val] 106,blk b1 [.string p.key,.string p.val] 106] []:=H
 refine Aa (Ae (V U U (Aj U EY U) (V U U (Al U BR U (H.cellI 1 U U)) (V U U (Aj U EY U) (V U U (Al U BR U (H.cellI 0 U U)) (sc (R8 p.key q.key) H l0 U U (Au Uw U U) ?_))))))
 rintro _ _ w ⟨rfl,rfl⟩ H
 refine Ad U (Ac (Z (Am (Aq U U ?_))))
 replace H:=H.nil
 exact Ak ⟨rfl,rfl⟩ H
theorem MC (v:Value) (xs:List An) (a:Nat) (b:Nat) (n:Nat) (h1:a+n≤b) (h2:b+n≤xs.length) (hb:xs.length≤1000000):
    Cn Tryz.prog 329 [v,.int .i64 ((a:Nat):Int),.int .i64 ((b:Nat):Int),.int .i64 ((n:Nat):Int),.func (.func 209) #[] #[]] [Y Ag v xs] [] (fun _ Bs=>∃ ys,Bs=[Y Ag v ys]∧CP xs ys (EO a b n)):=by
 intro w0 F0 H
 obtain ⟨A1,c2,rfl,hc3,hm4,hp5⟩:=H.fA 0 rfl
 refine enter Tryz.func329 U U (Nat.le_of_ble_eq_true U) (Aa (Ae (Ad U (Ac (Z ?_)))))
 replace H:Hd _ _ _ [Y Ag (.slice A1 xs.length c2) xs] []:=H
 refine AS (BQ (σ:=Nat×List An) (fun (k,ys)=>[(0,.slice A1 xs.length c2),(1,.int .i64 ((a:Nat):Int)),(2,.int .i64 ((b:Nat):Int)),(3,.int .i64 ((n:Nat):Int)),(10,.int .i64 ((k:Nat):Int))]) (fun (k,ys) w=>(Hd w0 F0 w [Y Ag (.slice A1 xs.length c2) ys] [])∧(k≤n)∧(CP xs ys (EO a b k))) (fun (k,ys)=>n - k) (0,xs) ⟨rfl,rfl,rfl,rfl,rfl,trivial⟩ ⟨H,by omega,Kx xs (fun t=>by unfold EO;rw [if_neg (by omega),if_neg (by omega)])⟩ ?_)
 rintro ⟨k,ys⟩ w ⟨H,hk,hv⟩
 have hl:=hv.1
 refine Aa (Aa (Ae (Ah 2 U (V U U (Bd U U U) (Ac (Z ?_))))))
 refine Aw U (fun h6=>?_) (fun h6=>?_)
 ·refine Ax (Z (Aa (AS (B1 (.e 0 (.e 1 (.e 2 (.e 3 (.e 4 (.e 5 (.e 6 (.e 7 (.e 8 (.e 9 (.e 10 (.e 11 (.e 12 (.e 14 (.e 15 (.e 16 (.e 17 (.e 18 (.p 13 19 (.e 20 (.m 21 (.e 22 (.m 23 .z))))))))))))))))))))))) (fun w=>∃ Ar,Hd w0 F0 w (Ar) []) mo (by kernel_rfl) (fun w H=>⟨_,H⟩) H (fun w H=>(At U (At U (At U (Ap U U U (fun w ⟨Ar,H⟩=>AX (z:=((a+k:Nat):Int)) U U U (by rw [AB (by omega) (by omega)];omega)) (At U (At U (At U (Ap U U U (fun w ⟨Ar,H⟩=>AX (z:=((b+k:Nat):Int)) U U U (by rw [AB (by omega) (by omega)];omega)) (At U (At U (At U (Ap U U U (fun w ⟨Ar,H⟩=>AX (z:=((b+k:Nat):Int)) U U U (by rw [AB (by omega) (by omega)];omega)) ?_)))))))))))))))))
  obtain ⟨x7,hx8⟩:∃ z9,ys[b+k]?=some z9:=⟨_,List.getElem?_eq_getElem (show b+k<ys.length by omega)⟩
  have th9:=H.thA 0 rfl hx8
  refine Ap U U U (fun w ⟨Ar,H⟩=>A0 (p:=AQ A1+(b+k)*2) U By U U (by omega) (by omega) th9 U) (At U (At U (At U (Ap U U U (fun w ⟨Ar,H⟩=>AX (z:=((a+k:Nat):Int)) U U U (by rw [AB (by omega) (by omega)];omega)) ?_))))
  obtain ⟨x10,hx11⟩:∃ z9,ys[a+k]?=some z9:=⟨_,List.getElem?_eq_getElem (show a+k<ys.length by omega)⟩
  have th12:=H.thA 0 rfl hx11
  refine Ap U U U (fun w ⟨Ar,H⟩=>A0 (p:=AQ A1+(a+k)*2) U By U U (by omega) (by omega) th12 U) (Je U U U U U U U U (by decide) (Bn (cs:=[.string x7.key,.string x7.val]) U Ca U U (H.elsA 0 U hx8 U)) (Bn (cs:=[.string x10.key,.string x10.val]) U Ca U U (H.elsA 0 U hx11 U)) ?_)
  have th13:=H.thA 0 rfl hx11
  refine Ap U U U (fun w ⟨Ar,H⟩=>A0 (p:=AQ A1+(a+k)*2) U By U U (by omega) (by omega) th13 U) (AO U (Gm (i:=a+k) (a:=x7) U U U Ca U U U H (by omega) U (fun w H=>?_)))
  replace H:=H.h1 (A:=Y Ag (.slice A1 xs.length c2) (ys.set (a+k) x7))
  refine AJ ⟨_,H⟩ ?_
  obtain ⟨x14,hx15⟩:∃ z9,(ys.set (a+k) x7)[b+k]?=some z9:=⟨_,List.getElem?_eq_getElem (show b+k<(ys.set (a+k) x7).length by simp only [List.length_set];omega)⟩
  have th16:=H.thA 0 rfl hx15
  refine Ap U U U (fun w ⟨Ar,H⟩=>A0 (p:=AQ A1+(b+k)*2) U By U U (by omega) (by omega) th16 U) (AO U (Gm (i:=b+k) (a:=x10) U U U Ca U U U H (by simp only [List.length_set];omega) U (fun w H=>?_)))
  replace H:=H.h1 (A:=Y Ag (.slice A1 xs.length c2) ((ys.set (a+k) x7).set (b+k) x10))
  exact AJ ⟨_,H⟩ (BK (AU (Z (Ae (Ad U (V U U (AX (z:=((k+1:Nat):Int)) U U U (by rw [AB (by omega) (by omega)];omega)) (Ad U (Ac (Bj (s:=(k,ys)) (k+1,(ys.set (a+k) x7).set (b+k) x10) ⟨rfl,rfl,rfl,rfl,rfl,trivial⟩ ⟨H,by omega,Zw (by omega) hv hx11 hx8⟩ (by (try dsimp only);omega))))))))))
 exact BH (AR (AR (BI (Dx U (Ak ⟨_,rfl,(by omega:k=n)▸hv⟩ H)))))
theorem Qw (v:Value) (xs:List An) (a:Nat) (m:Nat) (b:Nat) (h1:a<m) (h2:m<b) (h3:b≤xs.length) (hb:xs.length≤1000000):
    Cn Tryz.prog 306 [v,.int .i64 ((a:Nat):Int),.int .i64 ((m:Nat):Int),.int .i64 ((b:Nat):Int),.func (.func 209) #[] #[]] [Y Ag v xs] [] (fun _ Bs=>∃ ys,Bs=[Y Ag v ys]∧CP xs ys (Bk a m b)):=by
 intro w0 F0 H
 obtain ⟨A1,c2,rfl,hc3,hm4,hp5⟩:=H.fA 0 rfl
 refine enter Tryz.func306 U U (Nat.le_of_ble_eq_true U) (Aa (Ae (Ah 2 U (V U U (Cz (z:=((m - a:Nat):Int)) U U U (by rw [AB (by omega) (by omega)];omega)) (Ad U (Ac (Z ?_)))))))
 replace H:Hd _ _ _ [Y Ag (.slice A1 xs.length c2) xs] []:=H
 refine Aa (Ae (Ah 2 U (V U U (Cz (z:=((b - m:Nat):Int)) U U U (by rw [AB (by omega) (by omega)];omega)) (Ad U (Ac (Z (Aa (AS (BQ (σ:=Nat×Nat×List An) (fun (i,j,ys)=>[(0,.slice A1 xs.length c2),(2,.int .i64 ((m:Nat):Int)),(4,.func (.func 209) #[] #[]),(10,.int .i64 ((i:Nat):Int)),(11,.int .i64 ((j:Nat):Int))]) (fun (i,j,ys) w=>(Hd w0 F0 w [Y Ag (.slice A1 xs.length c2) ys] [])∧(0<i∧i≤m∧0<j∧m+j≤xs.length)∧(ys.length=xs.length)∧(∀ t,xs[Bk a m b t]?=ys[Bk (m - i) m (m+j) t]?)) (fun (i,j,ys)=>i+j) (m - a,b - m,xs) ⟨rfl,rfl,rfl,rfl,rfl,trivial⟩ ⟨H,by (try dsimp only);omega,rfl,fun t=>by (try dsimp only);rw [show m - (m - a)=a by omega,show m+(b - m)=b by omega]⟩ ?_)))))))))
 rintro ⟨i,j,ys⟩ w ⟨H,hi,hl,hv⟩
 refine Aa (Aa (Ae (Ah 2 U (V U U (Dq U U U) (Ac (Z ?_))))))
 refine Aw U (fun h6=>?_) (fun h6=>?_)
 ·refine Ax (Z (AS (Aa (Ae (Ah 2 U (V U U (CK U U U) (Ac (Z ?_))))))))
  refine Aw U (fun h7=>?_) (fun h7=>?_)
  ·refine Aa (Ae (Ah 3 U (V U U (Cz (z:=((m - i:Nat):Int)) U U U (by rw [AB (by omega) (by omega)];omega)) (Ah 3 U (sc (MC (.slice A1 xs.length c2) ys (m - i) m j (by omega) (by omega) (by omega)) H l0 U U (Au LI U U) ?_)))))
   rintro _ _ w ⟨ys8,rfl,hv9⟩ H
   replace H:=H.h1 (A:=Y Ag (.slice A1 xs.length c2) ys8)
   refine Ac (Z (Ae (Ah 2 U (V U U (Cz (z:=((i - j:Nat):Int)) U U U (by rw [AB (by omega) (by omega)];omega)) (Ad U (Ac (AU ?_)))))))
   have hw:=XW (m:=m) (i:=i) (j:=j) (by omega) (by omega) hv9
   exact Bj (s:=(i,j,ys)) (i - j,j,ys8) ⟨rfl,rfl,rfl,rfl,rfl,trivial⟩ ⟨H,by (try dsimp only);omega,by (try dsimp only);rw [hv9.1];exact hl,fun t=>(hv t).trans (hw t)⟩ (by (try dsimp only);omega)
  refine Aa (Ae (Ah 3 U (V U U (Cz (z:=((m - i:Nat):Int)) U U U (by rw [AB (by omega) (by omega)];omega)) (Ah 2 U (V U U (AX (z:=((m+j:Nat):Int)) U U U (by rw [AB (by omega) (by omega)];omega)) (Ad U (V U U (Cz (z:=((m+j - i:Nat):Int)) U U U (by rw [AB (by omega) (by omega)];omega)) (Ah 2 U (sc (MC (.slice A1 xs.length c2) ys (m - i) (m+j - i) i (by omega) (by omega) (by omega)) H l0 U U (Au LI U U) ?_)))))))))
  rintro _ _ w ⟨ys10,rfl,hv11⟩ H
  replace H:=H.h1 (A:=Y Ag (.slice A1 xs.length c2) ys10)
  refine Ac (Z (Ae (Ah 2 U (V U U (Cz (z:=((j - i:Nat):Int)) U U U (by rw [AB (by omega) (by omega)];omega)) (Ad U (Ac (AU ?_)))))))
  have hw:=XX (m:=m) (i:=i) (j:=j) (by omega) (by omega) hv11
  exact Bj (s:=(i,j,ys)) (i,j - i,ys10) ⟨rfl,rfl,rfl,rfl,rfl,trivial⟩ ⟨H,by (try dsimp only);omega,by (try dsimp only);rw [hv11.1];exact hl,fun t=>(hv t).trans (hw t)⟩ (by (try dsimp only);omega)
 refine BH (AR (AR (BI (Z (Ae (Ah 3 U (V U U (Cz (z:=((m - i:Nat):Int)) U U U (by rw [AB (by omega) (by omega)];omega)) (Ah 3 U (sc (MC (.slice A1 xs.length c2) ys (m - i) m i (by omega) (by omega) (by omega)) H l0 U U (Au LI U U) ?_)))))))))
 rintro _ _ w ⟨ys12,rfl,hv13⟩ H
 refine Ac (Dx U ?_)
 obtain rfl:i=j:=by omega
 exact Ak ⟨_,rfl,hv13.1.trans hl,fun t=>by rw [hv,hv13.2,XV (by omega)]<;>rfl⟩ H
theorem OD (v:Value) (xs:List An) (a:Nat) (b:Nat) (h1:a≤b) (h2:b≤xs.length) (hb:xs.length≤1000000):
    Cn Tryz.prog 277 [v,.int .i64 ((a:Nat):Int),.int .i64 ((b:Nat):Int),.func (.func 209) #[] #[]] [Y Ag v xs] [] (fun _ Bs=>∃ ys,Bs=[Y Ag v ys]∧CO xs ys a b):=by
 intro w0 F0 H
 obtain ⟨A1,c2,rfl,hc3,hm4,hp5⟩:=H.fA 0 rfl
 refine enter Tryz.func277 U U (Nat.le_of_ble_eq_true U) (Aa (Ae (Ad U (V U U (AX (z:=((a+1:Nat):Int)) U U U (by rw [AB (by omega) (by omega)];omega)) (Ad U (Ac (Z ?_)))))))
 replace H:Hd _ _ _ [Y Ag (.slice A1 xs.length c2) xs] []:=H
 refine AS (BQ (σ:=Nat×List An) (fun (i,ys)=>[(0,.slice A1 xs.length c2),(1,.int .i64 ((a:Nat):Int)),(2,.int .i64 ((b:Nat):Int)),(3,.func (.func 209) #[] #[]),(8,.int .i64 ((i:Nat):Int))]) (fun (i,ys) w=>(Hd w0 F0 w [Y Ag (.slice A1 xs.length c2) ys] [])∧(a+1≤i∧(i≤b∨i=a+1))∧(BY xs ys)∧(DY xs ys a b)∧(BP ys a i)) (fun (i,ys)=>b - i) (a+1,xs) ⟨rfl,rfl,rfl,rfl,rfl,trivial⟩ ⟨H,by (try dsimp only);omega,BY.refl _,DY.refl _ _ _,BP.one xs (Nat.le_refl _)⟩ ?_)
 rintro ⟨i,ys⟩ w ⟨H,hi,hst,hin,hso⟩
 have hl:=hin.1
 refine Aa (Aa (Ae (Ah 2 U (V U U (Bd U U U) (Ac (Z ?_))))))
 refine Aw U (fun h6=>?_) (fun h6=>?_)
 ·refine Ax (Z (Aa (AS (Aa (Ae (Ah 2 U (Ac (Z (AS (BQ (σ:=Nat×List An) (fun (j,zs)=>[(0,.slice A1 xs.length c2),(1,.int .i64 ((a:Nat):Int)),(2,.int .i64 ((b:Nat):Int)),(3,.func (.func 209) #[] #[]),(8,.int .i64 ((i:Nat):Int)),(9,.int .i64 ((j:Nat):Int))]) (fun (j,zs) w=>(Hd w0 F0 w [Y Ag (.slice A1 xs.length c2) zs] [])∧(a≤j∧j≤i)∧(BY xs zs)∧(DY xs zs a b)∧(Gb zs a (i+1) j)) (fun (j,zs)=>j) (i,ys) ⟨rfl,rfl,rfl,rfl,rfl,rfl,trivial⟩ ⟨H,by (try dsimp only);omega,hst,hin,RJ hso⟩ ?_))))))))))
  rintro ⟨j,zs⟩ w ⟨H,hj,hst2,hin2,hbu⟩
  have hl2:=hin2.1
  refine Aa (Aa (B1 (.e 0 (.e 1 (.e 2 (.e 3 (.e 4 (.e 5 (.e 6 (.e 7 (.e 8 (.e 9 (.e 10 (.e 11 (.e 12 (.e 13 (.m 14 (.e 15 (.e 16 .z))))))))))))))))) (fun w=>∃ Ar,Hd w0 F0 w (Y Ag (.slice A1 xs.length c2) zs::Ar) []) mo (by kernel_rfl) (fun w H=>⟨_,H⟩) H (fun w H=>(At U (At U (Ap U U U (fun w ⟨Ar,H⟩=>CK U U U) (At U ?_)))))))
  refine KN (d:=21) U (fun h7=>?_) (fun h7=>?_)
  ·refine At U (At U (At U ?_))
   obtain ⟨x8,hx9⟩:∃ z9,zs[j]?=some z9:=⟨_,List.getElem?_eq_getElem (show j<zs.length by omega)⟩
   have th10:=H.thA 0 rfl hx9
   refine Ap U U U (fun w ⟨Ar,H⟩=>A0 (p:=AQ A1+j*2) U By U U (by omega) (by omega) th10 U) (Ap U U U (fun w ⟨Ar,H⟩=>Bn (cs:=[.string x8.key,.string x8.val]) U Ca U U (H.elsA 0 U hx9 U)) (At U (At U (Ap U U U (fun w ⟨Ar,H⟩=>Cz (z:=((j - 1:Nat):Int)) U U U (by rw [AB (by omega) (by omega)];omega)) ?_))))
   obtain ⟨x11,hx12⟩:∃ z9,zs[j - 1]?=some z9:=⟨_,List.getElem?_eq_getElem (show j - 1<zs.length by omega)⟩
   have th13:=H.thA 0 rfl hx12
   refine Ap U U U (fun w ⟨Ar,H⟩=>A0 (p:=AQ A1+(j - 1)*2) U By U U (by omega) (by omega) th13 U) (Ap U U U (fun w ⟨Ar,H⟩=>Bn (cs:=[.string x11.key,.string x11.val]) U Ca U U (H.elsA 0 U hx12 U)) (AO U (sc (HL x8 x11) H l0 U U (FP (vs:=[.agg #[.string x8.key,.string x8.val],.agg #[.string x11.key,.string x11.val]]) (fs:=#[]) (cs:=#[]) HF U U U) ?_)))
   rintro _ _ w ⟨rfl,rfl⟩ H
   refine AJ ⟨_,H⟩ (Ap U U U (fun w ⟨Ar,H⟩=>Bd U U U) (At U (BK (Z ?_))))
   refine Aw U (fun h14=>?_) (fun h14=>?_)
   ·refine Ax (Z (Aa (AS (B1 (.e 0 (.e 1 (.e 2 (.e 3 (.e 4 (.e 5 (.e 6 (.e 7 (.e 8 (.e 10 (.e 11 (.e 12 (.p 9 13 (.e 14 (.m 15 (.e 16 (.m 17 .z))))))))))))))))) (fun w=>∃ Ar,Hd w0 F0 w (Ar) []) mo (by kernel_rfl) (fun w H=>⟨_,H⟩) H (fun w H=>(At U (At U (At U (At U (Ap U U U (fun w ⟨Ar,H⟩=>Cz (z:=((j - 1:Nat):Int)) U U U (by rw [AB (by omega) (by omega)];omega)) (At U (At U (Ap U U U (fun w ⟨Ar,H⟩=>Cz (z:=((j - 1:Nat):Int)) U U U (by rw [AB (by omega) (by omega)];omega)) ?_)))))))))))))
    have th15:=H.thA 0 rfl hx12
    refine Ap U U U (fun w ⟨Ar,H⟩=>A0 (p:=AQ A1+(j - 1)*2) U By U U (by omega) (by omega) th15 U) (At U (At U ?_))
    have th16:=H.thA 0 rfl hx9
    refine Ap U U U (fun w ⟨Ar,H⟩=>A0 (p:=AQ A1+j*2) U By U U (by omega) (by omega) th16 U) (Je U U U U U U U U (by decide) (Bn (cs:=[.string x11.key,.string x11.val]) U Ca U U (H.elsA 0 U hx12 U)) (Bn (cs:=[.string x8.key,.string x8.val]) U Ca U U (H.elsA 0 U hx9 U)) ?_)
    have th17:=H.thA 0 rfl hx9
    refine Ap U U U (fun w ⟨Ar,H⟩=>A0 (p:=AQ A1+j*2) U By U U (by omega) (by omega) th17 U) (AO U (Gm (i:=j) (a:=x11) U U U Ca U U U H (by omega) U (fun w H=>?_)))
    replace H:Hd _ _ _ [Y Ag (.slice A1 xs.length c2) (zs.set j x11)] []:=H
    refine AJ ⟨_,H⟩ ?_
    obtain ⟨x18,hx19⟩:∃ z9,(zs.set j x11)[j - 1]?=some z9:=⟨_,List.getElem?_eq_getElem (show j - 1<(zs.set j x11).length by simp only [List.length_set];omega)⟩
    have th20:=H.thA 0 rfl hx19
    refine Ap U U U (fun w ⟨Ar,H⟩=>A0 (p:=AQ A1+(j - 1)*2) U By U U (by omega) (by omega) th20 U) (AO U (Gm (i:=j - 1) (a:=x8) U U U Ca U U U H (by simp only [List.length_set];omega) U (fun w H=>?_)))
    replace H:=H.h1 (A:=Y Ag (.slice A1 xs.length c2) ((zs.set j x11).set (j - 1) x8))
    refine AJ ⟨_,H⟩ (BK (AU (Z (Ae (Ad U (V U U (Cz (z:=((j - 1:Nat):Int)) U U U (by rw [AB (by omega) (by omega)];omega)) (Ad U (Ac ?_))))))))
    have hsw:=YS (by omega) hx12 hx9 (Gy.1 h14)
    exact Bj (s:=(j,zs)) (j - 1,(zs.set j x11).set (j - 1) x8) ⟨rfl,rfl,rfl,rfl,rfl,rfl,trivial⟩ ⟨H,by (try dsimp only);omega,hst2.trans hsw.1,hin2.trans (hsw.2.wider (by omega) (by omega)),RL hbu (by omega) hx12 hx9 (Gy.1 h14) (by omega)⟩ (by (try dsimp only);omega)
   exact BH (AR (AR (BI (AU (Z (Ae (Ad U (V U U (AX (z:=((i+1:Nat):Int)) U U U (by rw [AB (by omega) (by omega)];omega)) (Ad U (Ac (Bj (s:=(i,ys)) (i+1,zs) ⟨rfl,rfl,rfl,rfl,rfl,trivial⟩ ⟨H,by (try dsimp only);omega,hst2,hin2,RN hbu (by omega) hx12 hx9 (Ht h14)⟩ (by (try dsimp only);omega))))))))))))
  exact At U (At U (At U (At U (At U (At U (At U (At U (At U (At U (KO U ⟨_,H⟩ U U (At U (At U (BK (Z (B7 U (BH (AR (AR (BI (AU (Z (Ae (Ad U (V U U (AX (z:=((i+1:Nat):Int)) U U U (by rw [AB (by omega) (by omega)];omega)) (Ad U (Ac (Bj (s:=(i,ys)) (i+1,zs) ⟨rfl,rfl,rfl,rfl,rfl,trivial⟩ ⟨H,by (try dsimp only);omega,hst2,hin2,RI ((by omega:j=a)▸hbu)⟩ (by (try dsimp only);omega))))))))))))))))))))))))))))
 exact BH (AR (AR (BI (Dx U (Ak ⟨_,rfl,hst,hin,hso.sub (Nat.le_refl _) (by omega)⟩ H)))))
theorem YT (N:Nat) (ih:∀ (v:Value) (xs:List An) (a m b:Nat),b - a<N→a<m→m<b→b≤xs.length→xs.length≤1000000→BP xs a m→BP xs m b→Cn Tryz.prog 278 [v,.int .i64 ((a:Nat):Int),.int .i64 ((m:Nat):Int),.int .i64 ((b:Nat):Int),.func (.func 209) #[] #[]] [Y Ag v xs] [] (fun _ Bs=>∃ ys,Bs=[Y Ag v ys]∧CO xs ys a b)) (v:Value) (xs:List An) (a:Nat) (m:Nat) (b:Nat) (hN:b - a<N+1) (h1:a<m) (h2:m<b) (h3:b≤xs.length) (hb:xs.length≤1000000) (hs1:BP xs a m) (hs2:BP xs m b):
    Cn Tryz.prog 278 [v,.int .i64 ((a:Nat):Int),.int .i64 ((m:Nat):Int),.int .i64 ((b:Nat):Int),.func (.func 209) #[] #[]] [Y Ag v xs] [] (fun _ Bs=>∃ ys,Bs=[Y Ag v ys]∧CO xs ys a b):=by
 intro w0 F0 H
 obtain ⟨A1,c2,rfl,hc3,hm4,hp5⟩:=H.fA 0 rfl
 refine enter Tryz.func278 U U (Nat.le_of_ble_eq_true U) (Aa (Aa (Ae (Ah 2 U (V U U (Cz (z:=((m - a:Nat):Int)) U U U (by rw [AB (by omega) (by omega)];omega)) (V U U (AW U U U) (Ac (Z ?_))))))))
 replace H:Hd _ _ _ [Y Ag (.slice A1 xs.length c2) xs] []:=H
 refine Aw U (fun h6=>?_) (fun h6=>?_)
 ·refine Aa ?_
  have hm:m=a+1:=by omega
  obtain ⟨x0,hx0⟩:∃ z9,xs[a]?=some z9:=⟨_,List.getElem?_eq_getElem (show a<xs.length by omega)⟩
  refine Ae (Ah 2 U (Ac (Z (Aa (Ae (Ah 2 U (Ac (Z (Aa (AS (BQ (σ:=Nat×Nat) (fun (i,j)=>[(0,.slice A1 xs.length c2),(1,.int .i64 ((a:Nat):Int)),(2,.int .i64 ((m:Nat):Int)),(3,.int .i64 ((b:Nat):Int)),(4,.func (.func 209) #[] #[]),(10,.int .i64 ((i:Nat):Int)),(11,.int .i64 ((j:Nat):Int))]) (fun (i,j) w=>(Hd w0 F0 w [Y Ag (.slice A1 xs.length c2) xs] [])∧(m≤i∧i≤j∧j≤b)∧(i=m∨∃ u,xs[i - 1]?=some u∧Bh u.key x0.key=true)∧(j=b∨∃ u,xs[j]?=some u∧Bh u.key x0.key=false)) (fun (i,j)=>j - i) (m,b) ⟨rfl,rfl,rfl,rfl,rfl,rfl,rfl,trivial⟩ ⟨H,by (try dsimp only);omega,.inl rfl,.inl rfl⟩ ?_)))))))))))
  rintro ⟨i,j⟩ w ⟨H,hij,hlow,hup⟩
  refine Aa (Aa (Ae (Ah 2 U (V U U (Bd U U U) (Ac (Z ?_))))))
  refine Aw U (fun h7=>?_) (fun h7=>?_)
  ·refine Ax (Z (AS (Aa (Ae (Ah 2 U (V U U (AX (z:=((i+j:Nat):Int)) U U U (by rw [AB (by omega) (by omega)];omega)) (V U U (DV (z:=((i+j:Nat):Int)) U U D5 FH (Ft (by omega) (by omega))) (V U U (HO (z:=(((i+j) / 2:Nat):Int)) U U U (by omega) (Ip _)) (V U U (DV (z:=(((i+j) / 2:Nat):Int)) U U FH D5 (AB (by omega) (by omega))) (Ad U (Ac (Z (Aa (B1 (.e 0 (.e 1 (.e 2 (.e 3 (.e 4 (.e 5 (.e 6 (.e 7 (.e 8 (.m 9 (.e 10 .z))))))))))) (fun w=>∃ Ar,Hd w0 F0 w (Y Ag (.slice A1 xs.length c2) xs::Ar) []) mo (by kernel_rfl) (fun w H=>⟨_,H⟩) H (fun w H=>(At U (At U (At U ?_))))))))))))))))))
   obtain ⟨x8,hx9⟩:∃ z9,xs[(i+j) / 2]?=some z9:=⟨_,List.getElem?_eq_getElem (show (i+j) / 2<xs.length by omega)⟩
   have th10:=H.thA 0 rfl hx9
   refine Ap U U U (fun w ⟨Ar,H⟩=>A0 (p:=AQ A1+((i+j) / 2)*2) U By U U (by omega) (by omega) th10 U) (Ap U U U (fun w ⟨Ar,H⟩=>Bn (cs:=[.string x8.key,.string x8.val]) U Ca U U (H.elsA 0 U hx9 U)) (At U (At U ?_)))
   obtain ⟨x11,hx12⟩:∃ z9,xs[a]?=some z9:=⟨_,List.getElem?_eq_getElem (show a<xs.length by omega)⟩
   have th13:=H.thA 0 rfl hx12
   refine Ap U U U (fun w ⟨Ar,H⟩=>A0 (p:=AQ A1+a*2) U By U U (by omega) (by omega) th13 U) (Ap U U U (fun w ⟨Ar,H⟩=>Bn (cs:=[.string x11.key,.string x11.val]) U Ca U U (H.elsA 0 U hx12 U)) (AO U (sc (HL x8 x11) H l0 U U (FP (vs:=[.agg #[.string x8.key,.string x8.val],.agg #[.string x11.key,.string x11.val]]) (fs:=#[]) (cs:=#[]) HF U U U) ?_)))
   rintro _ _ w ⟨rfl,rfl⟩ H
   refine AJ ⟨_,H⟩ (Ap U U U (fun w ⟨Ar,H⟩=>Bd U U U) (BK (Z ?_)))
   refine Aw U (fun h14=>?_) (fun h14=>?_)
   ·obtain rfl:x11=x0:=Option.some.inj (hx12.symm.trans hx0)
    exact Ae (Ad U (V U U (AX (z:=(((i+j) / 2+1:Nat):Int)) U U U (by rw [AB (by omega) (by omega)];omega)) (Ad U (Ac (AU (Bj (s:=(i,j)) ((i+j) / 2+1,j) ⟨rfl,rfl,rfl,rfl,rfl,rfl,rfl,trivial⟩ ⟨H,by (try dsimp only);omega,.inr ⟨x8,by rw [Nat.add_sub_cancel];exact hx9,Gy.1 h14⟩,hup⟩ (by (try dsimp only);omega)))))))
   obtain rfl:x11=x0:=Option.some.inj (hx12.symm.trans hx0)
   exact Ae (Ah 2 U (Ac (AU (Bj (s:=(i,j)) (i,(i+j) / 2) ⟨rfl,rfl,rfl,rfl,rfl,rfl,rfl,trivial⟩ ⟨H,by (try dsimp only);omega,hlow,.inr ⟨x8,hx9,Ht h14⟩⟩ (by (try dsimp only);omega)))))
  refine BH (AR (AR (BI (Z (Aa (Aa (Ae (Ah 2 U (Ac (Z (AS (BQ (σ:=Nat×List An) (fun (k,ys)=>[(0,.slice A1 xs.length c2),(1,.int .i64 ((a:Nat):Int)),(2,.int .i64 ((m:Nat):Int)),(3,.int .i64 ((b:Nat):Int)),(4,.func (.func 209) #[] #[]),(10,.int .i64 ((i:Nat):Int)),(13,.int .i64 ((k:Nat):Int))]) (fun (k,ys) w=>(Hd w0 F0 w [Y Ag (.slice A1 xs.length c2) ys] [])∧(a≤k∧k+1≤i)∧(CP xs ys (Bk a m (k+1)))) (fun (k,ys)=>i - k) (a,xs) ⟨rfl,rfl,rfl,rfl,rfl,rfl,rfl,trivial⟩ ⟨H,by (try dsimp only);omega,by rw [hm];exact Zu xs a⟩ ?_))))))))))))
  rintro ⟨k,ys⟩ w ⟨H,hk,hv⟩
  have hl:=hv.1
  refine Aa (Aa (Ae (Ah 2 U (V U U (Cz (z:=((i - 1:Nat):Int)) U U U (by rw [AB (by omega) (by omega)];omega)) (V U U (Bd U U U) (Ac (Z ?_)))))))
  refine Aw U (fun h15=>?_) (fun h15=>?_)
  ·refine Ax (Z (Aa (AS (B1 (.e 0 (.e 1 (.e 2 (.e 3 (.e 4 (.e 5 (.e 6 (.e 7 (.e 8 (.e 10 (.e 11 (.e 12 (.p 9 13 (.e 14 (.m 15 (.e 16 (.m 17 .z))))))))))))))))) (fun w=>∃ Ar,Hd w0 F0 w (Ar) []) mo (by kernel_rfl) (fun w H=>⟨_,H⟩) H (fun w H=>(At U (At U (At U (At U (Ap U U U (fun w ⟨Ar,H⟩=>AX (z:=((k+1:Nat):Int)) U U U (by rw [AB (by omega) (by omega)];omega)) (At U (At U (Ap U U U (fun w ⟨Ar,H⟩=>AX (z:=((k+1:Nat):Int)) U U U (by rw [AB (by omega) (by omega)];omega)) ?_)))))))))))))
   obtain ⟨x16,hx17⟩:∃ z9,ys[k+1]?=some z9:=⟨_,List.getElem?_eq_getElem (show k+1<ys.length by omega)⟩
   have th18:=H.thA 0 rfl hx17
   refine Ap U U U (fun w ⟨Ar,H⟩=>A0 (p:=AQ A1+(k+1)*2) U By U U (by omega) (by omega) th18 U) (At U (At U ?_))
   obtain ⟨x19,hx20⟩:∃ z9,ys[k]?=some z9:=⟨_,List.getElem?_eq_getElem (show k<ys.length by omega)⟩
   have th21:=H.thA 0 rfl hx20
   refine Ap U U U (fun w ⟨Ar,H⟩=>A0 (p:=AQ A1+k*2) U By U U (by omega) (by omega) th21 U) (Je U U U U U U U U (by decide) (Bn (cs:=[.string x16.key,.string x16.val]) U Ca U U (H.elsA 0 U hx17 U)) (Bn (cs:=[.string x19.key,.string x19.val]) U Ca U U (H.elsA 0 U hx20 U)) ?_)
   have th22:=H.thA 0 rfl hx20
   refine Ap U U U (fun w ⟨Ar,H⟩=>A0 (p:=AQ A1+k*2) U By U U (by omega) (by omega) th22 U) (AO U (Gm (i:=k) (a:=x16) U U U Ca U U U H (by omega) U (fun w H=>?_)))
   replace H:=H.h1 (A:=Y Ag (.slice A1 xs.length c2) (ys.set k x16))
   refine AJ ⟨_,H⟩ ?_
   obtain ⟨x23,hx24⟩:∃ z9,(ys.set k x16)[k+1]?=some z9:=⟨_,List.getElem?_eq_getElem (show k+1<(ys.set k x16).length by simp only [List.length_set];omega)⟩
   have th25:=H.thA 0 rfl hx24
   refine Ap U U U (fun w ⟨Ar,H⟩=>A0 (p:=AQ A1+(k+1)*2) U By U U (by omega) (by omega) th25 U) (AO U (Gm (i:=k+1) (a:=x19) U U U Ca U U U H (by simp only [List.length_set];omega) U (fun w H=>?_)))
   replace H:=H.h1 (A:=Y Ag (.slice A1 xs.length c2) ((ys.set k x16).set (k+1) x19))
   exact AJ ⟨_,H⟩ (BK (AU (Z (Ae (Ad U (V U U (AX (z:=((k+1:Nat):Int)) U U U (by rw [AB (by omega) (by omega)];omega)) (Ad U (Ac (Bj (s:=(k,ys)) (k+1,(ys.set k x16).set (k+1) x19) ⟨rfl,rfl,rfl,rfl,rfl,rfl,rfl,trivial⟩ ⟨H,by (try dsimp only);omega,Zy hm (by omega) hv hx20 hx17⟩ (by (try dsimp only);omega))))))))))
  refine BH (AR (AR (BI (Z (Am (Ay (IG U ?_)))))))
  obtain rfl:j=i:=by omega
  obtain rfl:j=k+1:=by omega
  exact Ak ⟨_,rfl,VK hm hv (by omega) (by omega) (by omega) hs2 hx0 hlow hup⟩ H
 refine Ax (Z (Aa (Aa (Ae (Ah 2 U (V U U (Cz (z:=((b - m:Nat):Int)) U U U (by rw [AB (by omega) (by omega)];omega)) (V U U (AW U U U) (Ac (Z ?_)))))))))
 refine Aw U (fun h26=>?_) (fun h26=>?_)
 ·refine Aa ?_
  have hm:b=m+1:=by omega
  obtain ⟨x0,hx0⟩:∃ z9,xs[m]?=some z9:=⟨_,List.getElem?_eq_getElem (show m<xs.length by omega)⟩
  refine Ae (Ah 2 U (Ac (Z (Aa (Ae (Ah 2 U (Ac (Z (Aa (AS (BQ (σ:=Nat×Nat) (fun (i,j)=>[(0,.slice A1 xs.length c2),(1,.int .i64 ((a:Nat):Int)),(2,.int .i64 ((m:Nat):Int)),(3,.int .i64 ((b:Nat):Int)),(4,.func (.func 209) #[] #[]),(14,.int .i64 ((i:Nat):Int)),(15,.int .i64 ((j:Nat):Int))]) (fun (i,j) w=>(Hd w0 F0 w [Y Ag (.slice A1 xs.length c2) xs] [])∧(a≤i∧i≤j∧j≤m)∧(i=a∨∃ u,xs[i - 1]?=some u∧Bh x0.key u.key=false)∧(j=m∨∃ u,xs[j]?=some u∧Bh x0.key u.key=true)) (fun (i,j)=>j - i) (a,m) ⟨rfl,rfl,rfl,rfl,rfl,rfl,rfl,trivial⟩ ⟨H,by (try dsimp only);omega,.inl rfl,.inl rfl⟩ ?_)))))))))))
  rintro ⟨i,j⟩ w ⟨H,hij,hlow,hup⟩
  refine Aa (Aa (Ae (Ah 2 U (V U U (Bd U U U) (Ac (Z ?_))))))
  refine Aw U (fun h27=>?_) (fun h27=>?_)
  ·refine Ax (Z (AS (Aa (Ae (Ah 2 U (V U U (AX (z:=((i+j:Nat):Int)) U U U (by rw [AB (by omega) (by omega)];omega)) (V U U (DV (z:=((i+j:Nat):Int)) U U D5 FH (Ft (by omega) (by omega))) (V U U (HO (z:=(((i+j) / 2:Nat):Int)) U U U (by omega) (Ip _)) (V U U (DV (z:=(((i+j) / 2:Nat):Int)) U U FH D5 (AB (by omega) (by omega))) (Ad U (Ac (Z (Aa (B1 (.e 0 (.e 1 (.e 2 (.e 3 (.e 4 (.e 5 (.e 6 (.e 7 (.e 8 (.m 9 (.e 10 (.e 11 .z)))))))))))) (fun w=>∃ Ar,Hd w0 F0 w (Y Ag (.slice A1 xs.length c2) xs::Ar) []) mo (by kernel_rfl) (fun w H=>⟨_,H⟩) H (fun w H=>(At U (At U (At U ?_))))))))))))))))))
   obtain ⟨x28,hx29⟩:∃ z9,xs[m]?=some z9:=⟨_,List.getElem?_eq_getElem (show m<xs.length by omega)⟩
   have th30:=H.thA 0 rfl hx29
   refine Ap U U U (fun w ⟨Ar,H⟩=>A0 (p:=AQ A1+m*2) U By U U (by omega) (by omega) th30 U) (Ap U U U (fun w ⟨Ar,H⟩=>Bn (cs:=[.string x28.key,.string x28.val]) U Ca U U (H.elsA 0 U hx29 U)) (At U (At U ?_)))
   obtain ⟨x31,hx32⟩:∃ z9,xs[(i+j) / 2]?=some z9:=⟨_,List.getElem?_eq_getElem (show (i+j) / 2<xs.length by omega)⟩
   have th33:=H.thA 0 rfl hx32
   refine Ap U U U (fun w ⟨Ar,H⟩=>A0 (p:=AQ A1+((i+j) / 2)*2) U By U U (by omega) (by omega) th33 U) (Ap U U U (fun w ⟨Ar,H⟩=>Bn (cs:=[.string x31.key,.string x31.val]) U Ca U U (H.elsA 0 U hx32 U)) (AO U (sc (HL x28 x31) H l0 U U (FP (vs:=[.agg #[.string x28.key,.string x28.val],.agg #[.string x31.key,.string x31.val]]) (fs:=#[]) (cs:=#[]) HF U U U) ?_)))
   rintro _ _ w ⟨rfl,rfl⟩ H
   refine AJ ⟨_,H⟩ (Ap U U U (fun w ⟨Ar,H⟩=>Bd U U U) (Ap U U U (fun w ⟨Ar,H⟩=>D7 U U) (BK (Z ?_))))
   refine Aw U (fun h34=>?_) (fun h34=>?_)
   ·obtain rfl:x28=x0:=Option.some.inj (hx29.symm.trans hx0)
    exact Ae (Ad U (V U U (AX (z:=(((i+j) / 2+1:Nat):Int)) U U U (by rw [AB (by omega) (by omega)];omega)) (Ad U (Ac (AU (Bj (s:=(i,j)) ((i+j) / 2+1,j) ⟨rfl,rfl,rfl,rfl,rfl,rfl,rfl,trivial⟩ ⟨H,by (try dsimp only);omega,.inr ⟨x31,by rw [Nat.add_sub_cancel];exact hx32,Ht h34⟩,hup⟩ (by (try dsimp only);omega)))))))
   obtain rfl:x28=x0:=Option.some.inj (hx29.symm.trans hx0)
   exact Ae (Ah 2 U (Ac (AU (Bj (s:=(i,j)) (i,(i+j) / 2) ⟨rfl,rfl,rfl,rfl,rfl,rfl,rfl,trivial⟩ ⟨H,by (try dsimp only);omega,hlow,.inr ⟨x31,hx32,Gy.1 (Classical.not_not.1 h34)⟩⟩ (by (try dsimp only);omega)))))
  refine BH (AR (AR (BI (Z (Aa (Aa (Ae (Ah 2 U (Ac (Z (AS (BQ (σ:=Nat×List An) (fun (k,ys)=>[(0,.slice A1 xs.length c2),(1,.int .i64 ((a:Nat):Int)),(2,.int .i64 ((m:Nat):Int)),(3,.int .i64 ((b:Nat):Int)),(4,.func (.func 209) #[] #[]),(14,.int .i64 ((i:Nat):Int)),(17,.int .i64 ((k:Nat):Int))]) (fun (k,ys) w=>(Hd w0 F0 w [Y Ag (.slice A1 xs.length c2) ys] [])∧(i≤k∧k≤m)∧(CP xs ys (Bk k m b))) (fun (k,ys)=>k) (m,xs) ⟨rfl,rfl,rfl,rfl,rfl,rfl,rfl,trivial⟩ ⟨H,by (try dsimp only);omega,by rw [hm];exact Zv xs m⟩ ?_))))))))))))
  rintro ⟨k,ys⟩ w ⟨H,hk,hv⟩
  have hl:=hv.1
  refine Aa (Aa (Ae (Ah 2 U (V U U (CK U U U) (Ac (Z ?_))))))
  refine Aw U (fun h35=>?_) (fun h35=>?_)
  ·refine Ax (Z (Aa (AS (B1 (.e 0 (.e 1 (.e 2 (.e 3 (.e 4 (.e 5 (.e 6 (.e 7 (.e 8 (.e 10 (.e 11 (.e 12 (.p 9 13 (.e 14 (.m 15 (.e 16 (.m 17 .z))))))))))))))))) (fun w=>∃ Ar,Hd w0 F0 w (Ar) []) mo (by kernel_rfl) (fun w H=>⟨_,H⟩) H (fun w H=>(At U (At U (At U (At U (Ap U U U (fun w ⟨Ar,H⟩=>Cz (z:=((k - 1:Nat):Int)) U U U (by rw [AB (by omega) (by omega)];omega)) (At U (At U (Ap U U U (fun w ⟨Ar,H⟩=>Cz (z:=((k - 1:Nat):Int)) U U U (by rw [AB (by omega) (by omega)];omega)) ?_)))))))))))))
   obtain ⟨x36,hx37⟩:∃ z9,ys[k - 1]?=some z9:=⟨_,List.getElem?_eq_getElem (show k - 1<ys.length by omega)⟩
   have th38:=H.thA 0 rfl hx37
   refine Ap U U U (fun w ⟨Ar,H⟩=>A0 (p:=AQ A1+(k - 1)*2) U By U U (by omega) (by omega) th38 U) (At U (At U ?_))
   obtain ⟨x39,hx40⟩:∃ z9,ys[k]?=some z9:=⟨_,List.getElem?_eq_getElem (show k<ys.length by omega)⟩
   have th41:=H.thA 0 rfl hx40
   refine Ap U U U (fun w ⟨Ar,H⟩=>A0 (p:=AQ A1+k*2) U By U U (by omega) (by omega) th41 U) (Je U U U U U U U U (by decide) (Bn (cs:=[.string x36.key,.string x36.val]) U Ca U U (H.elsA 0 U hx37 U)) (Bn (cs:=[.string x39.key,.string x39.val]) U Ca U U (H.elsA 0 U hx40 U)) ?_)
   have th42:=H.thA 0 rfl hx40
   refine Ap U U U (fun w ⟨Ar,H⟩=>A0 (p:=AQ A1+k*2) U By U U (by omega) (by omega) th42 U) (AO U (Gm (i:=k) (a:=x36) U U U Ca U U U H (by omega) U (fun w H=>?_)))
   replace H:=H.h1 (A:=Y Ag (.slice A1 xs.length c2) (ys.set k x36))
   refine AJ ⟨_,H⟩ ?_
   obtain ⟨x43,hx44⟩:∃ z9,(ys.set k x36)[k - 1]?=some z9:=⟨_,List.getElem?_eq_getElem (show k - 1<(ys.set k x36).length by simp only [List.length_set];omega)⟩
   have th45:=H.thA 0 rfl hx44
   refine Ap U U U (fun w ⟨Ar,H⟩=>A0 (p:=AQ A1+(k - 1)*2) U By U U (by omega) (by omega) th45 U) (AO U (Gm (i:=k - 1) (a:=x39) U U U Ca U U U H (by simp only [List.length_set];omega) U (fun w H=>?_)))
   replace H:=H.h1 (A:=Y Ag (.slice A1 xs.length c2) ((ys.set k x36).set (k - 1) x39))
   exact AJ ⟨_,H⟩ (BK (AU (Z (Ae (Ad U (V U U (Cz (z:=((k - 1:Nat):Int)) U U U (by rw [AB (by omega) (by omega)];omega)) (Ad U (Ac (Bj (s:=(k,ys)) (k - 1,(ys.set k x36).set (k - 1) x39) ⟨rfl,rfl,rfl,rfl,rfl,rfl,rfl,trivial⟩ ⟨H,by (try dsimp only);omega,Zs hm (by omega) (by omega) hv hx40 hx37⟩ (by (try dsimp only);omega))))))))))
  refine BH (AR (AR (BI (Z (Am (Ay (IG U ?_)))))))
  obtain rfl:j=i:=by omega
  obtain rfl:j=k:=by omega
  exact Ak ⟨_,rfl,VN hm hv (by omega) (by omega) (by omega) hs1 hx0 hlow hup⟩ H
 refine Ax (Z (Aa (Ae (Ah 2 U (V U U (AX (z:=((a+b:Nat):Int)) U U U (by rw [AB (by omega) (by omega)];omega)) (V U U (DV (z:=((a+b:Nat):Int)) U U D5 FH (Ft (by omega) (by omega))) (V U U (HO (z:=(((a+b) / 2:Nat):Int)) U U U (by omega) (Ip _)) (V U U (DV (z:=(((a+b) / 2:Nat):Int)) U U FH D5 (AB (by omega) (by omega))) (Ad U (Ac (Z (Aa ?_))))))))))))
 generalize hmd:(a+b) / 2=md
 refine Ae (Ah 2 U (V U U (AX (z:=((md+m:Nat):Int)) U U U (by rw [AB (by omega) (by omega)];omega)) (Ad U (Ac (Z (Aa (Ae (Ah 2 U (Ac (Z (Aa (Aa (Ae (Ah 2 U (V U U (CK U U U) (Ac (Z ?_)))))))))))))))))
 refine Aw U (fun h46=>?_) (fun h46=>?_)
 ·refine Aa (Ae (Ah 2 U (V U U (Cz (z:=((md+m - b:Nat):Int)) U U U (by rw [AB (by omega) (by omega)];omega)) (Ad U (Ac (Z (Ae (Ah 2 U (Ac (Z (Aa (Ae (Ad U (V U U (Cz (z:=((md+m - 1:Nat):Int)) U U U (by rw [AB (by omega) (by omega)];omega)) (Ad U (Ac (Z (Aa (AS (BQ (σ:=Nat×Nat) (fun (i,j)=>[(0,.slice A1 xs.length c2),(1,.int .i64 ((a:Nat):Int)),(2,.int .i64 ((m:Nat):Int)),(3,.int .i64 ((b:Nat):Int)),(4,.func (.func 209) #[] #[]),(18,.int .i64 ((md:Nat):Int)),(19,.int .i64 ((md+m:Nat):Int)),(20,.int .i64 ((i:Nat):Int)),(21,.int .i64 ((j:Nat):Int)),(22,.int .i64 ((md+m - 1:Nat):Int))]) (fun (i,j) w=>(Hd w0 F0 w [Y Ag (.slice A1 xs.length c2) xs] [])∧(md+m - b≤i∧i≤j∧j≤md)∧(i=md+m - b∨∃ u v,xs[i - 1]?=some u∧xs[md+m - i]?=some v∧Bh v.key u.key=false)∧(j=md∨∃ u v,xs[md+m - j - 1]?=some u∧xs[j]?=some v∧Bh u.key v.key=true)) (fun (i,j)=>j - i) (md+m - b,md) ⟨rfl,rfl,rfl,rfl,rfl,rfl,rfl,rfl,rfl,rfl,trivial⟩ ⟨H,by (try dsimp only);omega,.inl rfl,.inl rfl⟩ ?_))))))))))))))))))))
  rintro ⟨i,j⟩ w ⟨H,hij,hlow,hup⟩
  refine Aa (Aa (Ae (Ah 2 U (V U U (Bd U U U) (Ac (Z ?_))))))
  refine Aw U (fun h47=>?_) (fun h47=>?_)
  ·refine Ax (Z (AS (Aa (Ae (Ah 2 U (V U U (AX (z:=((i+j:Nat):Int)) U U U (by rw [AB (by omega) (by omega)];omega)) (V U U (DV (z:=((i+j:Nat):Int)) U U D5 FH (Ft (by omega) (by omega))) (V U U (HO (z:=(((i+j) / 2:Nat):Int)) U U U (by omega) (Ip _)) (V U U (DV (z:=(((i+j) / 2:Nat):Int)) U U FH D5 (AB (by omega) (by omega))) (Ad U (Ac (Z (Aa (B1 (.e 0 (.e 1 (.e 2 (.e 3 (.e 4 (.e 5 (.e 6 (.e 7 (.e 8 (.e 9 (.e 10 (.m 11 (.e 12 (.e 13 .z)))))))))))))) (fun w=>∃ Ar,Hd w0 F0 w (Y Ag (.slice A1 xs.length c2) xs::Ar) []) mo (by kernel_rfl) (fun w H=>⟨_,H⟩) H (fun w H=>(At U (At U (At U (At U (Ap U U U (fun w ⟨Ar,H⟩=>Cz (z:=((md+m - 1 - ((i+j) / 2):Nat):Int)) U U U (by rw [AB (by omega) (by omega)];omega)) ?_))))))))))))))))))))
   obtain ⟨x48,hx49⟩:∃ z9,xs[md+m - 1 - ((i+j) / 2)]?=some z9:=⟨_,List.getElem?_eq_getElem (show md+m - 1 - ((i+j) / 2)<xs.length by omega)⟩
   have th50:=H.thA 0 rfl hx49
   refine Ap U U U (fun w ⟨Ar,H⟩=>A0 (p:=AQ A1+(md+m - 1 - ((i+j) / 2))*2) U By U U (by omega) (by omega) th50 U) (Ap U U U (fun w ⟨Ar,H⟩=>Bn (cs:=[.string x48.key,.string x48.val]) U Ca U U (H.elsA 0 U hx49 U)) (At U (At U ?_)))
   obtain ⟨x51,hx52⟩:∃ z9,xs[(i+j) / 2]?=some z9:=⟨_,List.getElem?_eq_getElem (show (i+j) / 2<xs.length by omega)⟩
   have th53:=H.thA 0 rfl hx52
   refine Ap U U U (fun w ⟨Ar,H⟩=>A0 (p:=AQ A1+((i+j) / 2)*2) U By U U (by omega) (by omega) th53 U) (Ap U U U (fun w ⟨Ar,H⟩=>Bn (cs:=[.string x51.key,.string x51.val]) U Ca U U (H.elsA 0 U hx52 U)) (AO U (sc (HL x48 x51) H l0 U U (FP (vs:=[.agg #[.string x48.key,.string x48.val],.agg #[.string x51.key,.string x51.val]]) (fs:=#[]) (cs:=#[]) HF U U U) ?_)))
   rintro _ _ w ⟨rfl,rfl⟩ H
   refine AJ ⟨_,H⟩ (Ap U U U (fun w ⟨Ar,H⟩=>Bd U U U) (Ap U U U (fun w ⟨Ar,H⟩=>D7 U U) (BK (Z ?_))))
   refine Aw U (fun h54=>?_) (fun h54=>?_)
   ·exact Ae (Ad U (V U U (AX (z:=(((i+j) / 2+1:Nat):Int)) U U U (by rw [AB (by omega) (by omega)];omega)) (Ad U (Ac (AU (Bj (s:=(i,j)) ((i+j) / 2+1,j) ⟨rfl,rfl,rfl,rfl,rfl,rfl,rfl,rfl,rfl,rfl,trivial⟩ ⟨H,by (try dsimp only);omega,.inr ⟨x51,x48,by rw [Nat.add_sub_cancel];exact hx52,by rw [show md+m - ((i+j) / 2+1)=md+m - 1 - (i+j) / 2 by omega];exact hx49,Ht h54⟩,hup⟩ (by (try dsimp only);omega)))))))
   exact Ae (Ah 2 U (Ac (AU (Bj (s:=(i,j)) (i,(i+j) / 2) ⟨rfl,rfl,rfl,rfl,rfl,rfl,rfl,rfl,rfl,rfl,trivial⟩ ⟨H,by (try dsimp only);omega,hlow,.inr ⟨x48,x51,by rw [show md+m - (i+j) / 2 - 1=md+m - 1 - (i+j) / 2 by omega];exact hx49,hx52,Gy.1 (Classical.not_not.1 h54)⟩⟩ (by (try dsimp only);omega)))))
  refine BH (AR (AR (BI (Z (Aa ?_)))))
  obtain rfl:j=i:=by omega
  have hlow2:j=a∨md+m - j=b∨∃ u v,xs[j - 1]?=some u∧xs[md+m - j]?=some v∧Bh v.key u.key=false:=hlow.elim (fun h=>.inr (.inl (by omega))) (fun h=>.inr (.inr h))
  have hup2:j=m∨md+m - j=m∨∃ u v,xs[md+m - j - 1]?=some u∧xs[j]?=some v∧Bh u.key v.key=true:=hup.elim (fun h=>.inr (.inl (by omega))) (fun h=>.inr (.inr h))
  have hbd:a≤j∧j≤m∧m≤md+m - j∧md+m - j≤b∧md=j+(md+m - j - m):=by omega
  refine Ae (Ah 2 U (V U U (Cz (z:=((md+m - j:Nat):Int)) U U U (by rw [AB (by omega) (by omega)];omega)) (Ad U (Ac (Z ?_)))))
  refine Hs (σ:=List An) (fun ys=>[(0,.slice A1 xs.length c2),(1,.int .i64 ((a:Nat):Int)),(2,.int .i64 ((m:Nat):Int)),(3,.int .i64 ((b:Nat):Int)),(4,.func (.func 209) #[] #[]),(18,.int .i64 ((md:Nat):Int)),(20,.int .i64 ((j:Nat):Int)),(24,.int .i64 ((md+m - j:Nat):Int))]) (fun ys w=>(Hd w0 F0 w [Y Ag (.slice A1 xs.length c2) ys] [])∧(CP xs ys (Bk j m (md+m - j)))) ?_ ?_
  ·refine Aa (Ae (Ah 2 U (V U U (Bd U U U) (Ad U ?_))))
   refine AN (d:=181) U (fun h55=>?_) (fun h55=>?_)
   ·refine Ah 2 U (V U U (Bd U U U) (Ad U (Ac (Z ?_))))
    refine Aw U (fun h56=>?_) (fun h56=>?_)
    ·refine Ae (Ah 5 U (sc (Qw (.slice A1 xs.length c2) xs j m (md+m - j) (by omega) (by omega) (by omega) (by omega)) H l0 U U (Au O4 U U) ?_))
     rintro _ _ w ⟨ys57,rfl,hv58⟩ H
     exact Ac (Ek ys57 ⟨rfl,rfl,rfl,rfl,rfl,rfl,rfl,rfl,trivial⟩ ⟨H,hv58⟩)
    exact Ax (Ek xs ⟨rfl,rfl,rfl,rfl,rfl,rfl,rfl,rfl,trivial⟩ ⟨H,Kw xs (by omega) (by omega) (by omega)⟩)
   exact Ah 4 U (Ac (Z (B7 U (Ax (Ek xs ⟨rfl,rfl,rfl,rfl,rfl,rfl,rfl,rfl,trivial⟩ ⟨H,Kw xs (by omega) (by omega) (by omega)⟩)))))
  rintro ys w ⟨H,hv⟩
  have hl:=hv.1
  have hru:=J9 hv hbd.1 hbd.2.1 hbd.2.2.1 hbd.2.2.2.1 hbd.2.2.2.2 hs1 hs2
  refine Hs (σ:=List An) (fun zs=>[(0,.slice A1 xs.length c2),(1,.int .i64 ((a:Nat):Int)),(2,.int .i64 ((m:Nat):Int)),(3,.int .i64 ((b:Nat):Int)),(4,.func (.func 209) #[] #[]),(18,.int .i64 ((md:Nat):Int)),(20,.int .i64 ((j:Nat):Int)),(24,.int .i64 ((md+m - j:Nat):Int))]) (fun zs w=>(Hd w0 F0 w [Y Ag (.slice A1 xs.length c2) zs] [])∧(CO ys zs a md)) ?_ ?_
  ·refine Aa (Ae (Ah 2 U (V U U (Bd U U U) (Ad U ?_))))
   refine AN (d:=195) U (fun h59=>?_) (fun h59=>?_)
   ·refine Ah 2 U (V U U (Bd U U U) (Ad U (Ac (Z ?_))))
    refine Aw U (fun h60=>?_) (fun h60=>?_)
    ·refine Ae (Ah 5 U (sc (ih (.slice A1 xs.length c2) ys a j md (by omega) (by omega) (by omega) (by omega) (by omega) hru.1 hru.2.1) H l0 U U (Au HH U U) ?_))
     rintro _ _ w ⟨ys61,rfl,hv62⟩ H
     exact Ac (Ek ys61 ⟨rfl,rfl,rfl,rfl,rfl,rfl,rfl,rfl,trivial⟩ ⟨H,hv62⟩)
    exact Ax (Ek ys ⟨rfl,rfl,rfl,rfl,rfl,rfl,rfl,rfl,trivial⟩ ⟨H,CO.refl (GL hru.1 hru.2.1 (by omega) hbd.1)⟩)
   exact Ah 4 U (Ac (Z (B7 U (Ax (Ek ys ⟨rfl,rfl,rfl,rfl,rfl,rfl,rfl,rfl,trivial⟩ ⟨H,CO.refl (GL hru.1 hru.2.1 (by omega) hbd.1)⟩)))))
  rintro zs w ⟨H,hz⟩
  have hl3:=hz.ins.1
  have hr3:BP zs md (md+m - j):=hru.2.2.1.same (fun t h1 h2=>hz.ins.2.1 t (by omega))
  have hr4:BP zs (md+m - j) b:=hru.2.2.2.same (fun t h1 h2=>hz.ins.2.1 t (by omega))
  refine Aa (Ae (Ah 2 U (V U U (Bd U U U) (Ad U ?_))))
  refine AN (d:=209) U (fun h63=>?_) (fun h63=>?_)
  ·refine Ah 2 U (V U U (Bd U U U) (Ad U (Ac (Z ?_))))
   refine Aw U (fun h64=>?_) (fun h64=>?_)
   ·refine Ae (Ah 5 U (sc (ih (.slice A1 xs.length c2) zs md (md+m - j) b (by omega) (by omega) (by omega) (by omega) (by omega) hr3 hr4) H l0 U U (Au HH U U) ?_))
    rintro _ _ w ⟨ys65,rfl,hv66⟩ H
    exact Ac (Dx U (Ak ⟨_,rfl,GE hv hbd.1 hbd.2.1 hbd.2.2.1 hbd.2.2.2.1 (by omega) hbd.2.2.2.2 hs1 hs2 hlow2 hup2 hz hv66⟩ H))
   exact Ax (Dx U (Ak ⟨_,rfl,GE hv hbd.1 hbd.2.1 hbd.2.2.1 hbd.2.2.2.1 (by omega) hbd.2.2.2.2 hs1 hs2 hlow2 hup2 hz (CO.refl (GL hr3 hr4 (by omega) (by omega)))⟩ H))
  exact Ah 4 U (Ac (Z (B7 U (Ax (Dx U (Ak ⟨_,rfl,GE hv hbd.1 hbd.2.1 hbd.2.2.1 hbd.2.2.2.1 (by omega) hbd.2.2.2.2 hs1 hs2 hlow2 hup2 hz (CO.refl (GL hr3 hr4 (by omega) (by omega)))⟩ H))))))
 refine Aa (Ae (Ah 2 U (Ac (Z (Ae (Ah 2 U (Ac (Z (Aa (Ae (Ad U (V U U (Cz (z:=((md+m - 1:Nat):Int)) U U U (by rw [AB (by omega) (by omega)];omega)) (Ad U (Ac (Z (Aa (AS (BQ (σ:=Nat×Nat) (fun (i,j)=>[(0,.slice A1 xs.length c2),(1,.int .i64 ((a:Nat):Int)),(2,.int .i64 ((m:Nat):Int)),(3,.int .i64 ((b:Nat):Int)),(4,.func (.func 209) #[] #[]),(18,.int .i64 ((md:Nat):Int)),(19,.int .i64 ((md+m:Nat):Int)),(20,.int .i64 ((i:Nat):Int)),(21,.int .i64 ((j:Nat):Int)),(22,.int .i64 ((md+m - 1:Nat):Int))]) (fun (i,j) w=>(Hd w0 F0 w [Y Ag (.slice A1 xs.length c2) xs] [])∧(a≤i∧i≤j∧j≤m)∧(i=a∨∃ u v,xs[i - 1]?=some u∧xs[md+m - i]?=some v∧Bh v.key u.key=false)∧(j=m∨∃ u v,xs[md+m - j - 1]?=some u∧xs[j]?=some v∧Bh u.key v.key=true)) (fun (i,j)=>j - i) (a,m) ⟨rfl,rfl,rfl,rfl,rfl,rfl,rfl,rfl,rfl,rfl,trivial⟩ ⟨H,by (try dsimp only);omega,.inl rfl,.inl rfl⟩ ?_))))))))))))))))))
 rintro ⟨i,j⟩ w ⟨H,hij,hlow,hup⟩
 refine Aa (Aa (Ae (Ah 2 U (V U U (Bd U U U) (Ac (Z ?_))))))
 refine Aw U (fun h67=>?_) (fun h67=>?_)
 ·refine Ax (Z (AS (Aa (Ae (Ah 2 U (V U U (AX (z:=((i+j:Nat):Int)) U U U (by rw [AB (by omega) (by omega)];omega)) (V U U (DV (z:=((i+j:Nat):Int)) U U D5 FH (Ft (by omega) (by omega))) (V U U (HO (z:=(((i+j) / 2:Nat):Int)) U U U (by omega) (Ip _)) (V U U (DV (z:=(((i+j) / 2:Nat):Int)) U U FH D5 (AB (by omega) (by omega))) (Ad U (Ac (Z (Aa (B1 (.e 0 (.e 1 (.e 2 (.e 3 (.e 4 (.e 5 (.e 6 (.e 7 (.e 8 (.e 9 (.e 10 (.m 11 (.e 12 (.e 13 .z)))))))))))))) (fun w=>∃ Ar,Hd w0 F0 w (Y Ag (.slice A1 xs.length c2) xs::Ar) []) mo (by kernel_rfl) (fun w H=>⟨_,H⟩) H (fun w H=>(At U (At U (At U (At U (Ap U U U (fun w ⟨Ar,H⟩=>Cz (z:=((md+m - 1 - ((i+j) / 2):Nat):Int)) U U U (by rw [AB (by omega) (by omega)];omega)) ?_))))))))))))))))))))
  obtain ⟨x68,hx69⟩:∃ z9,xs[md+m - 1 - ((i+j) / 2)]?=some z9:=⟨_,List.getElem?_eq_getElem (show md+m - 1 - ((i+j) / 2)<xs.length by omega)⟩
  have th70:=H.thA 0 rfl hx69
  refine Ap U U U (fun w ⟨Ar,H⟩=>A0 (p:=AQ A1+(md+m - 1 - ((i+j) / 2))*2) U By U U (by omega) (by omega) th70 U) (Ap U U U (fun w ⟨Ar,H⟩=>Bn (cs:=[.string x68.key,.string x68.val]) U Ca U U (H.elsA 0 U hx69 U)) (At U (At U ?_)))
  obtain ⟨x71,hx72⟩:∃ z9,xs[(i+j) / 2]?=some z9:=⟨_,List.getElem?_eq_getElem (show (i+j) / 2<xs.length by omega)⟩
  have th73:=H.thA 0 rfl hx72
  refine Ap U U U (fun w ⟨Ar,H⟩=>A0 (p:=AQ A1+((i+j) / 2)*2) U By U U (by omega) (by omega) th73 U) (Ap U U U (fun w ⟨Ar,H⟩=>Bn (cs:=[.string x71.key,.string x71.val]) U Ca U U (H.elsA 0 U hx72 U)) (AO U (sc (HL x68 x71) H l0 U U (FP (vs:=[.agg #[.string x68.key,.string x68.val],.agg #[.string x71.key,.string x71.val]]) (fs:=#[]) (cs:=#[]) HF U U U) ?_)))
  rintro _ _ w ⟨rfl,rfl⟩ H
  refine AJ ⟨_,H⟩ (Ap U U U (fun w ⟨Ar,H⟩=>Bd U U U) (Ap U U U (fun w ⟨Ar,H⟩=>D7 U U) (BK (Z ?_))))
  refine Aw U (fun h74=>?_) (fun h74=>?_)
  ·exact Ae (Ad U (V U U (AX (z:=(((i+j) / 2+1:Nat):Int)) U U U (by rw [AB (by omega) (by omega)];omega)) (Ad U (Ac (AU (Bj (s:=(i,j)) ((i+j) / 2+1,j) ⟨rfl,rfl,rfl,rfl,rfl,rfl,rfl,rfl,rfl,rfl,trivial⟩ ⟨H,by (try dsimp only);omega,.inr ⟨x71,x68,by rw [Nat.add_sub_cancel];exact hx72,by rw [show md+m - ((i+j) / 2+1)=md+m - 1 - (i+j) / 2 by omega];exact hx69,Ht h74⟩,hup⟩ (by (try dsimp only);omega)))))))
  exact Ae (Ah 2 U (Ac (AU (Bj (s:=(i,j)) (i,(i+j) / 2) ⟨rfl,rfl,rfl,rfl,rfl,rfl,rfl,rfl,rfl,rfl,trivial⟩ ⟨H,by (try dsimp only);omega,hlow,.inr ⟨x68,x71,by rw [show md+m - (i+j) / 2 - 1=md+m - 1 - (i+j) / 2 by omega];exact hx69,hx72,Gy.1 (Classical.not_not.1 h74)⟩⟩ (by (try dsimp only);omega)))))
 refine BH (AR (AR (BI (Z (Aa ?_)))))
 obtain rfl:j=i:=by omega
 have hlow2:j=a∨md+m - j=b∨∃ u v,xs[j - 1]?=some u∧xs[md+m - j]?=some v∧Bh v.key u.key=false:=hlow.elim (fun h=>.inl (by omega)) (fun h=>.inr (.inr h))
 have hup2:j=m∨md+m - j=m∨∃ u v,xs[md+m - j - 1]?=some u∧xs[j]?=some v∧Bh u.key v.key=true:=hup.elim (fun h=>.inl (by omega)) (fun h=>.inr (.inr h))
 have hbd:a≤j∧j≤m∧m≤md+m - j∧md+m - j≤b∧md=j+(md+m - j - m):=by omega
 refine Ae (Ah 2 U (V U U (Cz (z:=((md+m - j:Nat):Int)) U U U (by rw [AB (by omega) (by omega)];omega)) (Ad U (Ac (Z ?_)))))
 refine Hs (σ:=List An) (fun ys=>[(0,.slice A1 xs.length c2),(1,.int .i64 ((a:Nat):Int)),(2,.int .i64 ((m:Nat):Int)),(3,.int .i64 ((b:Nat):Int)),(4,.func (.func 209) #[] #[]),(18,.int .i64 ((md:Nat):Int)),(20,.int .i64 ((j:Nat):Int)),(24,.int .i64 ((md+m - j:Nat):Int))]) (fun ys w=>(Hd w0 F0 w [Y Ag (.slice A1 xs.length c2) ys] [])∧(CP xs ys (Bk j m (md+m - j)))) ?_ ?_
 ·refine Aa (Ae (Ah 2 U (V U U (Bd U U U) (Ad U ?_))))
  refine AN (d:=181) U (fun h75=>?_) (fun h75=>?_)
  ·refine Ah 2 U (V U U (Bd U U U) (Ad U (Ac (Z ?_))))
   refine Aw U (fun h76=>?_) (fun h76=>?_)
   ·refine Ae (Ah 5 U (sc (Qw (.slice A1 xs.length c2) xs j m (md+m - j) (by omega) (by omega) (by omega) (by omega)) H l0 U U (Au O4 U U) ?_))
    rintro _ _ w ⟨ys77,rfl,hv78⟩ H
    exact Ac (Ek ys77 ⟨rfl,rfl,rfl,rfl,rfl,rfl,rfl,rfl,trivial⟩ ⟨H,hv78⟩)
   exact Ax (Ek xs ⟨rfl,rfl,rfl,rfl,rfl,rfl,rfl,rfl,trivial⟩ ⟨H,Kw xs (by omega) (by omega) (by omega)⟩)
  exact Ah 4 U (Ac (Z (B7 U (Ax (Ek xs ⟨rfl,rfl,rfl,rfl,rfl,rfl,rfl,rfl,trivial⟩ ⟨H,Kw xs (by omega) (by omega) (by omega)⟩)))))
 rintro ys w ⟨H,hv⟩
 have hl:=hv.1
 have hru:=J9 hv hbd.1 hbd.2.1 hbd.2.2.1 hbd.2.2.2.1 hbd.2.2.2.2 hs1 hs2
 refine Hs (σ:=List An) (fun zs=>[(0,.slice A1 xs.length c2),(1,.int .i64 ((a:Nat):Int)),(2,.int .i64 ((m:Nat):Int)),(3,.int .i64 ((b:Nat):Int)),(4,.func (.func 209) #[] #[]),(18,.int .i64 ((md:Nat):Int)),(20,.int .i64 ((j:Nat):Int)),(24,.int .i64 ((md+m - j:Nat):Int))]) (fun zs w=>(Hd w0 F0 w [Y Ag (.slice A1 xs.length c2) zs] [])∧(CO ys zs a md)) ?_ ?_
 ·refine Aa (Ae (Ah 2 U (V U U (Bd U U U) (Ad U ?_))))
  refine AN (d:=195) U (fun h79=>?_) (fun h79=>?_)
  ·refine Ah 2 U (V U U (Bd U U U) (Ad U (Ac (Z ?_))))
   refine Aw U (fun h80=>?_) (fun h80=>?_)
   ·refine Ae (Ah 5 U (sc (ih (.slice A1 xs.length c2) ys a j md (by omega) (by omega) (by omega) (by omega) (by omega) hru.1 hru.2.1) H l0 U U (Au HH U U) ?_))
    rintro _ _ w ⟨ys81,rfl,hv82⟩ H
    exact Ac (Ek ys81 ⟨rfl,rfl,rfl,rfl,rfl,rfl,rfl,rfl,trivial⟩ ⟨H,hv82⟩)
   exact Ax (Ek ys ⟨rfl,rfl,rfl,rfl,rfl,rfl,rfl,rfl,trivial⟩ ⟨H,CO.refl (GL hru.1 hru.2.1 (by omega) hbd.1)⟩)
  exact Ah 4 U (Ac (Z (B7 U (Ax (Ek ys ⟨rfl,rfl,rfl,rfl,rfl,rfl,rfl,rfl,trivial⟩ ⟨H,CO.refl (GL hru.1 hru.2.1 (by omega) hbd.1)⟩)))))
 rintro zs w ⟨H,hz⟩
 have hl3:=hz.ins.1
 have hr3:BP zs md (md+m - j):=hru.2.2.1.same (fun t h1 h2=>hz.ins.2.1 t (by omega))
 have hr4:BP zs (md+m - j) b:=hru.2.2.2.same (fun t h1 h2=>hz.ins.2.1 t (by omega))
 refine Aa (Ae (Ah 2 U (V U U (Bd U U U) (Ad U ?_))))
 refine AN (d:=209) U (fun h83=>?_) (fun h83=>?_)
 ·refine Ah 2 U (V U U (Bd U U U) (Ad U (Ac (Z ?_))))
  refine Aw U (fun h84=>?_) (fun h84=>?_)
  ·refine Ae (Ah 5 U (sc (ih (.slice A1 xs.length c2) zs md (md+m - j) b (by omega) (by omega) (by omega) (by omega) (by omega) hr3 hr4) H l0 U U (Au HH U U) ?_))
   rintro _ _ w ⟨ys85,rfl,hv86⟩ H
   exact Ac (Dx U (Ak ⟨_,rfl,GE hv hbd.1 hbd.2.1 hbd.2.2.1 hbd.2.2.2.1 (by omega) hbd.2.2.2.2 hs1 hs2 hlow2 hup2 hz hv86⟩ H))
  exact Ax (Dx U (Ak ⟨_,rfl,GE hv hbd.1 hbd.2.1 hbd.2.2.1 hbd.2.2.2.1 (by omega) hbd.2.2.2.2 hs1 hs2 hlow2 hup2 hz (CO.refl (GL hr3 hr4 (by omega) (by omega)))⟩ H))
 exact Ah 4 U (Ac (Z (B7 U (Ax (Dx U (Ak ⟨_,rfl,GE hv hbd.1 hbd.2.1 hbd.2.2.1 hbd.2.2.2.1 (by omega) hbd.2.2.2.2 hs1 hs2 hlow2 hup2 hz (CO.refl (GL hr3 hr4 (by omega) (by omega)))⟩ H))))))
theorem MD:∀ (N:Nat) (v:Value) (xs:List An) (a m b:Nat),b - a<N→a<m→m<b→b≤xs.length→xs.length≤1000000→BP xs a m→BP xs m b→Cn Tryz.prog 278 [v,.int .i64 ((a:Nat):Int),.int .i64 ((m:Nat):Int),.int .i64 ((b:Nat):Int),.func (.func 209) #[] #[]] [Y Ag v xs] [] (fun _ Bs=>∃ ys,Bs=[Y Ag v ys]∧CO xs ys a b)
 |0,_,_,_,_,_,h=>absurd h (Nat.not_lt_zero _)
 |N+1,v,xs,a,m,b,h=>fun h1 h2 h3 h4 h5 h6=>YT N (MD N) v xs a m b h h1 h2 h3 h4 h5 h6
theorem YN (v:Value) (xs:List An) (n:Nat) (hn:n=xs.length) (hb:xs.length≤1000000):
    Cn Tryz.prog 244 [v,.int .i64 ((n:Nat):Int),.func (.func 209) #[] #[]] [Y Ag v xs] [] (fun _ Bs=>∃ ys,Bs=[Y Ag v ys]∧ys=srt xs):=by
 intro w0 F0 H
 obtain ⟨A1,c2,rfl,hc3,hm4,hp5⟩:=H.fA 0 rfl
 refine enter Tryz.func244 U U (Nat.le_of_ble_eq_true U) (Aa (Ae (Ad U (Ac (Z ?_)))))
 replace H:Hd _ _ _ [Y Ag (.slice A1 xs.length c2) xs] []:=H
 refine Aa (Ae (Ah 3 U (Ac (Z (Aa (AS (BQ (σ:=Nat×List An) (fun (a,ys)=>[(0,.slice A1 xs.length c2),(1,.int .i64 ((n:Nat):Int)),(2,.func (.func 209) #[] #[]),(6,.int .i64 20),(7,.int .i64 ((a:Nat):Int)),(8,.int .i64 ((a+20:Nat):Int))]) (fun (a,ys) w=>(Hd w0 F0 w [Y Ag (.slice A1 xs.length c2) ys] [])∧(a%20=0∧a≤n∧ys.length=xs.length)∧(BY xs ys)∧(DB ys 0 a 20)) (fun (a,ys)=>n - a) (0,xs) ⟨rfl,rfl,rfl,rfl,rfl,rfl,trivial⟩ ⟨H,by (try dsimp only);omega,BY.refl _,DB.nil _ _⟩ ?_)))))))
 rintro ⟨a,ys⟩ w ⟨H,ha,hst,hbl⟩
 refine Aa (Aa (Ae (Ah 2 U (V U U (Cy U U U) (Ac (Z ?_))))))
 refine Aw U (fun h6=>?_) (fun h6=>?_)
 ·refine Ax (Z (AS (Aa (Ae (Ah 4 U (sc (OD (.slice A1 xs.length c2) ys a (a+20) (by omega) (by omega) (by omega)) H l0 U U (Au O0 U U) ?_))))))
  rintro _ _ w ⟨ys7,rfl,hv8⟩ H
  replace H:=H.h1 (A:=Y Ag (.slice A1 xs.length c2) ys7)
  exact Ac (Z (Aa (Ae (Ah 2 U (Ac (Z (Ae (Ah 2 U (V U U (AX (z:=((a+20+20:Nat):Int)) U U U (by rw [AB (by omega) (by omega)];omega)) (Ad U (Ac (AU (Bj (s:=(a,ys)) (a+20,ys7) ⟨rfl,rfl,rfl,rfl,rfl,rfl,trivial⟩ ⟨H,by (try dsimp only);rw [hv8.ins.1];omega,hst.trans hv8.stab,hbl.more (c:=a / 20) (by omega) (Nat.le_refl _) hv8.ins hv8.srt⟩ (by (try dsimp only);omega))))))))))))))
 refine BH (AR (AR (BI (Z (Aa (Ae (Ah 4 U (sc (OD (.slice A1 xs.length c2) ys a n (by omega) (by omega) (by omega)) H l0 U U (Au O0 U U) ?_))))))))
 rintro _ _ w ⟨ys9,rfl,hv10⟩ H
 replace H:=H.h1 (A:=Y Ag (.slice A1 xs.length c2) ys9)
 refine Ac (Z (AS (BQ (σ:=Nat×List An) (fun (bs,ys)=>[(0,.slice A1 xs.length c2),(1,.int .i64 ((n:Nat):Int)),(2,.func (.func 209) #[] #[]),(6,.int .i64 ((bs:Nat):Int))]) (fun (bs,ys) w=>(Hd w0 F0 w [Y Ag (.slice A1 xs.length c2) ys] [])∧(20≤bs∧bs≤4000000∧ys.length=xs.length)∧(BY xs ys)∧(DB ys 0 n bs)) (fun (bs,ys)=>n - bs) (20,ys9) ⟨rfl,rfl,rfl,rfl,trivial⟩ ⟨H,by (try dsimp only);rw [hv10.ins.1];omega,hst.trans hv10.stab,hbl.more (c:=a / 20) (by omega) (by omega) hv10.ins hv10.srt⟩ ?_)))
 rintro ⟨bs,ys⟩ w ⟨H,hbs,hst2,hbl2⟩
 refine Aa (Aa (Ae (Ah 2 U (V U U (Bd U U U) (Ac (Z ?_))))))
 refine Aw U (fun h11=>?_) (fun h11=>?_)
 ·refine Ax (Z (AS (Aa (Ae (Ad U (V U U (GJ (z:=((2*bs:Nat):Int)) U U U (by rw [AB (by omega) (by omega)];omega)) (Ah 2 U (Ac (Z (Aa (AS (BQ (σ:=Nat×List An) (fun (a,zs)=>[(0,.slice A1 xs.length c2),(1,.int .i64 ((n:Nat):Int)),(2,.func (.func 209) #[] #[]),(6,.int .i64 ((bs:Nat):Int)),(7,.int .i64 ((a:Nat):Int)),(8,.int .i64 ((a+2*bs:Nat):Int))]) (fun (a,zs) w=>(Hd w0 F0 w [Y Ag (.slice A1 xs.length c2) zs] [])∧(a≤n∧zs.length=xs.length)∧(∃ c,a=c*(2*bs))∧(BY xs zs)∧(DB zs 0 a (2*bs))∧(DB zs a n bs)) (fun (a,zs)=>n - a) (0,ys) ⟨rfl,rfl,rfl,rfl,rfl,congrArg (fun z=>some (Value.int .i64 z)) (by (try dsimp only);omega),trivial⟩ ⟨H,by (try dsimp only);omega,⟨0,by simp⟩,hst2,DB.nil _ _,hbl2⟩ ?_))))))))))))
  rintro ⟨a,zs⟩ w ⟨H,ha3,hac,hst3,hlo,hhi⟩
  refine Aa (Aa (Ae (Ah 2 U (V U U (Cy U U U) (Ac (Z ?_))))))
  refine Aw U (fun h12=>?_) (fun h12=>?_)
  ·refine Ax (Z (AS (Aa (Ae (Ah 4 U (V U U (AX (z:=((a+bs:Nat):Int)) U U U (by rw [AB (by omega) (by omega)];omega)) (Ah 2 U (sc (MD (a+2*bs - a+1) (.slice A1 xs.length c2) zs a (a+bs) (a+2*bs) (by omega) (by omega) (by omega) (by omega) (by omega) (Jb hhi hac (by omega)).1 ((Jb hhi hac (by omega)).2 _ (by omega) (by omega))) H l0 U U (Au HH U U) ?_))))))))
   rintro _ _ w ⟨ys13,rfl,hv14⟩ H
   replace H:=H.h1 (A:=Y Ag (.slice A1 xs.length c2) ys13)
   exact Ac (Z (Aa (Ae (Ah 2 U (Ac (Z (Ae (Ah 2 U (V U U (GJ (z:=((2*bs:Nat):Int)) U U U (by rw [AB (by omega) (by omega)];omega)) (V U U (AX (z:=((a+2*bs+2*bs:Nat):Int)) U U U (by rw [AB (by omega) (by omega)];omega)) (Ad U (Ac (AU (Bj (s:=(a,zs)) (a+2*bs,ys13) ⟨rfl,rfl,rfl,rfl,rfl,rfl,trivial⟩ ⟨H,by (try dsimp only);rw [hv14.ins.1];omega,VT hac,hst3.trans hv14.stab,KJ hlo hac (Nat.le_refl _) hv14,hhi.same (by omega) (fun t ht=>hv14.ins.2.1 t (by omega))⟩ (by (try dsimp only);omega)))))))))))))))
  refine BH (AR (AR (BI (Z (Aa (Aa (Ae (Ah 2 U (V U U (AX (z:=((a+bs:Nat):Int)) U U U (by rw [AB (by omega) (by omega)];omega)) (Ad U (Ac (Z (Aa (Ae (Ah 2 U (V U U (Bd U U U) (Ac (Z ?_))))))))))))))))))
  refine Aw U (fun h15=>?_) (fun h15=>?_)
  ·refine Ae (Ah 5 U (sc (MD (n - a+1) (.slice A1 xs.length c2) zs a (a+bs) n (by omega) (by omega) (by omega) (by omega) (by omega) (Jb hhi hac (by omega)).1 ((Jb hhi hac (by omega)).2 _ (by omega) (by omega))) H l0 U U (Au HH U U) ?_))
   rintro _ _ w ⟨ys16,rfl,hv17⟩ H
   replace H:=H.h1 (A:=Y Ag (.slice A1 xs.length c2) ys16)
   refine Ac (Z ?_)
   have hfin:=KJ hlo hac (by omega) hv17
   have hlen4:=hv17.ins.1
   exact Ae (Ad U (V U U (GJ (z:=((bs*2:Nat):Int)) U U U (by rw [AB (by omega) (by omega)];omega)) (Ad U (Ac (AU (Bj (s:=(bs,ys)) (bs*2,ys16) ⟨rfl,rfl,rfl,rfl,trivial⟩ ⟨H,by (try dsimp only);omega,hst3.trans hv17.stab,by (try dsimp only);rw [Nat.mul_comm bs 2];exact hfin⟩ (by (try dsimp only);omega)))))))
  refine Ax (Z ?_)
  have hfin:=KJ hlo hac (by omega) (CO.refl (RH hhi hac (by omega)))
  exact Ae (Ad U (V U U (GJ (z:=((bs*2:Nat):Int)) U U U (by rw [AB (by omega) (by omega)];omega)) (Ad U (Ac (AU (Bj (s:=(bs,ys)) (bs*2,zs) ⟨rfl,rfl,rfl,rfl,trivial⟩ ⟨H,by (try dsimp only);omega,hst3,by (try dsimp only);rw [Nat.mul_comm bs 2];exact hfin⟩ (by (try dsimp only);omega)))))))
 exact BH (AR (AR (BI (Dx U (Ak ⟨_,rfl,IU hst2 (BP.ord (by rw [hbs.2.2,←hn];exact hbl2.all (by omega)))⟩ H)))))
theorem YC (v:Value) (xs:List An) (hb:xs.length≤1000000):
    Cn Tryz.prog 208 [v,.func (.func 209) #[] #[]] [Y Ag v xs] [] (fun _ Bs=>∃ ys,Bs=[Y Ag v ys]∧ys=srt xs):=by
 intro w0 F0 H
 obtain ⟨A1,c2,rfl,hc3,hm4,hp5⟩:=H.fA 0 rfl
 refine enter Tryz.func208 U U (Nat.le_of_ble_eq_true U) (Ae (Ah 2 U (V U U (Bf U C7 U) (Ad U ?_))))
 replace H:Hd _ _ _ [Y Ag (.slice A1 xs.length c2) xs] []:=H
 refine sc (YN (.slice A1 xs.length c2) xs xs.length (by omega) (by omega)) H l0 U U (Au Uv U U) ?_
 rintro _ _ w ⟨ys6,rfl,hv7⟩ H
 exact Ac (Dx U (Ak ⟨_,rfl,hv7⟩ H))
theorem Jd (vxs:Value) (xs:List An) (hb:xs.length≤1000000):
    Cn Tryz.prog 123 [vxs] [] [Ab Ag vxs xs] (fun v Bs=>Bs=[Y Ag v xs]):=by
 intro w0 F0 H
 obtain ⟨A1,c2,rfl,hc3,hm4,hp5⟩:=H.fR 0 rfl
 refine enter Tryz.func123 U U (Nat.le_of_ble_eq_true U) (Aa (Ae (Ad U (Ac (Z ?_)))))
 replace H:Hd _ _ _ [] [Ab Ag (.slice A1 xs.length c2) xs]:=H
 refine Aa (Aa (Ae (Ad U (V U U (J4 U C7 U U) (Ac (Z ?_))))))
 refine DO (b:=(A1:Option Addr).isNone) U (fun h6=>?_) (fun h6=>?_)
 ·refine Aa (Ae (Ad U (Ac (Z (Am (Ay (Aq U U ?_)))))))
  obtain rfl:=H.nilR 0 rfl h6
  replace H:=H.newnil Ag
  exact Ak U H
 refine Ax (Z (Aa (Ae (Kb U U U By H (fun b7 w H=>(Ad U ?_))))))
 replace H:=H.newnilA Ag (some ⟨b7,0,none⟩)
 refine CA (xs:=[]) (ys:=xs) U U U By C9 U (by decide) U U H (by simp only [List.length_nil];omega) (fun F hA hR=>hR _ (List.mem_of_getElem? (i:=0) U)) (fun v8 w H=>?_)
 replace H:=H.h2 (A:=Y Ag v8 ([]++xs)) (B:=blk b7 [] 106)
 refine Ad U (Ac (Z (Am (Aq U U ?_))))
 rw [List.nil_append] at H
 replace H:=H.k1
 exact Ak U H
theorem L9 (vxs:Value) (xs:List An) (hb:xs.length≤1000000):
    Cn Tryz.prog 176 [vxs] [] [Ab Ag vxs xs] (fun v Bs=>Bs=[Y Ag v (srt xs)]):=by
 intro w0 F0 H
 obtain ⟨A1,c2,rfl,hc3,hm4,hp5⟩:=H.fR 0 rfl
 refine enter Tryz.func176 U U (Nat.le_of_ble_eq_true U) (Aa (Ae (Ad U (Ac (Z ?_)))))
 replace H:Hd _ _ _ [] [Ab Ag (.slice A1 xs.length c2) xs]:=H
 refine Aa (Ae (Ad U (sc (Jd (.slice A1 xs.length c2) xs (by first |omega|decide)) H (lR 0 U l0) U U (Au JF U U) ?_)))
 rintro v6 _ w rfl H
 replace H:=H.h1 (A:=Y Ag v6 xs)
 refine Ad U (Ac (Z (Aa (Ae (Ad U (sc (YC v6 xs  (by omega)) H l0 U U (Au Um U U) ?_))))))
 rintro _ _ w ⟨ys7,rfl,hv8⟩ H
 replace H:=H.h1 (A:=Y Ag v6 ys7)
 refine Ac (Z (Aa (Ae (Ah 2 U (Ac (Z (Am (Aq U U ?_))))))))
 subst hv8
 exact Ak U H
theorem TP (v:Value) (xs:List An) (hb:xs.length≤1000000):
    Cn Tryz.prog 251 [v,.func (.func 209) #[] #[]] [] [Ab Ag v xs] (fun v Bs=>v=.bool (decide (CR xs))∧Bs=[]):=by
 intro w0 F0 H
 obtain ⟨A1,c2,rfl,hc3,hm4,hp5⟩:=H.fR 0 rfl
 refine enter Tryz.func251 U U (Nat.le_of_ble_eq_true U) (Aa (Ae (Ad U (Ac (Z ?_)))))
 replace H:Hd _ _ _ [] [Ab Ag (.slice A1 xs.length c2) xs]:=H
 refine Aa (Aa ?_)
 by_cases h0:xs.length=0
 ·refine Ae (Ad U (V U U (Bf U C7 U) (V U U (Cz (z:=((xs.length:Nat):Int) - 1) U U U (AB (by omega) (by omega))) (Ad U (Ac (Z (AS (BQ (σ:=Unit) (fun u=>[(0,.slice A1 xs.length c2),(1,.func (.func 209) #[] #[]),(5,.int .i64 (((xs.length:Nat):Int) - 1))]) (fun u w=>(Hd w0 F0 w [] [Ab Ag (.slice A1 xs.length c2) xs])) (fun u=>0) () ⟨rfl,rfl,rfl,trivial⟩ H ?_))))))))
  rintro u w H
  refine Aa (Aa (Ae (Ad U (V U U (CK U U U) (Ac (Z ?_))))))
  refine Aw U (fun h6=>?_) (fun h6=>?_)
  ·exfalso;omega
  refine BH (AR (AR (BI (Z (Aa (Ae (Ad U (Ac (Z (Am (Aq U U ?_)))))))))))
  have ho:CR xs:=by rw [List.eq_nil_of_length_eq_zero h0];exact List.Pairwise.nil
  exact Ak ⟨by rw [decide_eq_true ho]<;>rfl,rfl⟩ H
 refine Ae (Ad U (V U U (Bf U C7 U) (V U U (Cz (z:=((xs.length - 1:Nat):Int)) U U U (by rw [AB (by omega) (by omega)];omega)) (Ad U (Ac (Z (AS (BQ (σ:=Nat) (fun j=>[(0,.slice A1 xs.length c2),(1,.func (.func 209) #[] #[]),(5,.int .i64 ((j:Nat):Int))]) (fun j w=>(Hd w0 F0 w [] [Ab Ag (.slice A1 xs.length c2) xs])∧(j<xs.length)∧(Id xs j)) (fun j=>j) (xs.length - 1) ⟨rfl,rfl,rfl,trivial⟩ ⟨H,by (try dsimp only);omega,Rh xs⟩ ?_))))))))
 rintro j w ⟨H,hj,had⟩
 refine Aa (Aa (Ae (Ad U (V U U (CK U U U) (Ac (Z ?_))))))
 refine Aw U (fun h7=>?_) (fun h7=>?_)
 ·refine Ax (Z (Aa (AS (Aa (B1 (.e 0 (.e 1 (.e 2 (.e 3 (.e 4 (.e 5 (.e 6 (.e 7 (.e 8 (.e 9 (.m 10 (.e 11 .z)))))))))))) (fun w=>∃ Ar,Hd w0 F0 w (Ar) [Ab Ag (.slice A1 xs.length c2) xs]) mo (by kernel_rfl) (fun w H=>⟨_,H⟩) H (fun w H=>(At U (At U (At U ?_)))))))))
  obtain ⟨x8,hx9⟩:∃ z9,xs[j]?=some z9:=⟨_,List.getElem?_eq_getElem (show j<xs.length by omega)⟩
  have th10:=H.thR 0 rfl hx9
  refine Ap U U U (fun w ⟨Ar,H⟩=>A0 (p:=AQ A1+j*2) U By U U (by omega) (by omega) th10 U) (Ap U U U (fun w ⟨Ar,H⟩=>Bn (cs:=[.string x8.key,.string x8.val]) U Ca U U (H.elsR 0 U hx9 U)) (At U (At U (Ap U U U (fun w ⟨Ar,H⟩=>Cz (z:=((j - 1:Nat):Int)) U U U (by rw [AB (by omega) (by omega)];omega)) ?_))))
  obtain ⟨x11,hx12⟩:∃ z9,xs[j - 1]?=some z9:=⟨_,List.getElem?_eq_getElem (show j - 1<xs.length by omega)⟩
  have th13:=H.thR 0 rfl hx12
  refine Ap U U U (fun w ⟨Ar,H⟩=>A0 (p:=AQ A1+(j - 1)*2) U By U U (by omega) (by omega) th13 U) (Ap U U U (fun w ⟨Ar,H⟩=>Bn (cs:=[.string x11.key,.string x11.val]) U Ca U U (H.elsR 0 U hx12 U)) (AO U (sc (HL x8 x11) H l0 U U (FP (vs:=[.agg #[.string x8.key,.string x8.val],.agg #[.string x11.key,.string x11.val]]) (fs:=#[]) (cs:=#[]) HF U U U) ?_)))
  rintro _ _ w ⟨rfl,rfl⟩ H
  refine AJ ⟨_,H⟩ (Ap U U U (fun w ⟨Ar,H⟩=>Bd U U U) (BK (Z ?_)))
  refine Aw U (fun h14=>?_) (fun h14=>?_)
  ·refine Aa (Ae (Ad U (Ac (Z (Am (AY (Ay (Ay (AY (Ay (Aq U U ?_)))))))))))
   have ho:¬ CR xs:=fun ho=>by have:=Wo ho (by omega) hx9 hx12;rw [Gy.1 h14] at this;cases this
   exact Ak ⟨by rw [decide_eq_false ho]<;>rfl,rfl⟩ H
  exact Ax (AU (Z (Ae (Ad U (V U U (Cz (z:=((j - 1:Nat):Int)) U U U (by rw [AB (by omega) (by omega)];omega)) (Ad U (Ac (Bj (s:=j) (j - 1) ⟨rfl,rfl,rfl,trivial⟩ ⟨H,by (try dsimp only);omega,Ri had (by omega) hx9 hx12 (Ht h14)⟩ (by (try dsimp only);omega)))))))))
 refine BH (AR (AR (BI (Z (Aa (Ae (Ad U (Ac (Z (Am (Aq U U ?_)))))))))))
 have ho:CR xs:=Rj ((by omega:j=0)▸had)
 exact Ak ⟨by rw [decide_eq_true ho]<;>rfl,rfl⟩ H
theorem QJ (vxs:Value) (xs:List An) (hb:xs.length≤1000000):
    Cn Tryz.prog 218 [vxs] [] [Ab Ag vxs xs] (fun v Bs=>v=.bool (decide (CR xs))∧Bs=[]):=by
 intro w0 F0 H
 obtain ⟨A1,c2,rfl,hc3,hm4,hp5⟩:=H.fR 0 rfl
 refine enter Tryz.func218 U U (Nat.le_of_ble_eq_true U) (Aa (Ae (Ad U (Ac (Z ?_)))))
 replace H:Hd _ _ _ [] [Ab Ag (.slice A1 xs.length c2) xs]:=H
 refine Aa (Ae (Ad U (sc (TP (.slice A1 xs.length c2) xs (by omega)) H (lR 0 U l0) U U (Au UD U U) ?_)))
 rintro _ _ w ⟨rfl,rfl⟩ H
 exact Ad U (Ac (Z (Am (Aq U U (Ak ⟨rfl,rfl⟩ H)))))
theorem YD (v:Value) (xs:List ByteArray) (hb:xs.length≤1000000):Cn Tryz.prog 246 [v] [Y Be v xs] [] (fun _ Bs=>Bs=[Y Be v (FF xs)]):=
 R_ (e1:=Value.string) (s:=FF) (fun xs=>by simp [FF]) (by simp [FF]) (fun p c w=>Go.Proofs.Tryz.slices_Sort_string_none p c w) (fun b c xs w hH hbl hl=>by
  have h:=Go.Proofs.Tryz.slices_Sort_string b 0 c (xs.map Gk) w (OA hH) hbl (by simp;omega)
  rw [List.length_map] at h
  refine h.mono ?_
  rintro e w' ⟨h1,n,os,h2⟩
  exact ⟨h1,n,os,by rw [h2,P6];rfl⟩) v xs hb
theorem Sf (v:Value) (xs:List ByteArray) (hb:xs.length≤1000000):Cn Tryz.prog 247 [v] [Y Be v xs] [] (fun u Bs=>Bs=[Y Be u (Gf xs)]):=
 R9 (e1:=Value.string) (s:=Gf) (z:=IY []) (fun xs=>by have:=ND (xs.map Gk);simpa [Gf] using this) rfl (fun p c w=>Go.Proofs.Tryz.slices_Compact_string_empty p c w) (fun b c xs w hH hl hc=>by
  have h:=Go.Proofs.Tryz.slices_Compact_string b 0 c (xs.map Gk) w (OA hH) (by simp;omega) (by simpa using hc)
  rw [List.length_map] at h
  refine h.mono ?_
  rintro e w' ⟨h1,n,h2⟩
  exact ⟨by rw [h1];simp [Gf],n,by rw [h2,P6];simp [Gf]⟩) v xs hb
theorem Yq (v1 v2:Value) (xs ys:List An):
    Cn Tryz.prog 25 [v1,v2] [] [Ab Ag v1 xs,Ab Ag v2 ys] (fun v Bs=>v=.bool (decide (xs=ys))∧Bs=[]):=by
 intro w0 F0 H
 obtain ⟨A1,c2,rfl,hc3,hm4,hp5⟩:=H.fR 0 rfl
 obtain ⟨A6,c7,rfl,hc8,hm9,hp10⟩:=H.fR 1 rfl
 refine enter Tryz.func25 U U (Nat.le_of_ble_eq_true U) (Aa (Ae (Ad U (Ac (Z ?_)))))
 replace H:Hd _ _ _ [] [Ab Ag (.slice A1 xs.length c2) xs,Ab Ag (.slice A6 ys.length c7) ys]:=H
 refine Aa (Aa (Ae (Ad U (V U U (Bf U C7 U) (Ad U (V U U (Bf U C7 U) (V U U (Dq U U U) (Ac (Z ?_)))))))))
 refine Aw U (fun h11=>?_) (fun h11=>?_)
 ·refine Aa (Ae (Ad U (Ac (Z (Am (Ay (Aq U U ?_)))))))
  have e:¬ xs=ys:=fun e=>h11 (by rw [e])
  exact Ak ⟨by rw [decide_eq_false e]<;>rfl,rfl⟩ H
 refine Ax (Z (Aa (Aa (Ae (Ad U (Ac (Z (AS ?_))))))))
 have hle:xs.length=ys.length:=by omega
 refine BQ (σ:=Nat) (fun k=>[(0,.slice A1 xs.length c2),(1,.slice A6 ys.length c7),(5,.int .i64 ((k:Nat):Int))]) (fun k w=>(Hd w0 F0 w [] [Ab Ag (.slice A1 xs.length c2) xs,Ab Ag (.slice A6 ys.length c7) ys])∧(k≤xs.length)∧(xs.length=ys.length)∧(xs.take k=ys.take k)) (fun k=>xs.length - k) 0 ⟨rfl,rfl,rfl,trivial⟩ ⟨H,by omega,hle,rfl⟩ ?_
 rintro k w ⟨H,hk,hle,ht⟩
 refine Aa (Aa (Ae (Ah 2 U (V U U (Bf U C7 U) (V U U (Bd U U U) (Ac (Z ?_)))))))
 refine Aw U (fun h12=>?_) (fun h12=>?_)
 ·refine Ax (Z (Aa (AS (Aa (Gd mo (by kernel_rfl) H (I2 2 U ?_))))))
  obtain ⟨x13,hx14⟩:∃ z9,xs[k]?=some z9:=⟨_,List.getElem?_eq_getElem (show k<xs.length by omega)⟩
  have th15:=H.thR 0 rfl hx14
  refine Bu U U (fun w H=>A0 (p:=AQ A1+k*2) U By U U (by omega) (by omega) th15 U) (Bu U U (fun w H=>Bn (cs:=[.string x13.key,.string x13.val]) U Ca U U (H.elsR 0 U hx14 U)) (I2 2 U ?_))
  obtain ⟨x16,hx17⟩:∃ z9,ys[k]?=some z9:=⟨_,List.getElem?_eq_getElem (show k<ys.length by omega)⟩
  have th18:=H.thR 1 rfl hx17
  refine Bu U U (fun w H=>A0 (p:=AQ A6+k*2) U By U U (by omega) (by omega) th18 U) (Bu U U (fun w H=>Bn (cs:=[.string x16.key,.string x16.val]) U Ca U U (H.elsR 1 U hx17 U)) (Bu U U (fun w H=>Xm (p:=x13) (q:=x16) U SL U U) (Gs (fun w H=>(Z ?_)))))
  refine Aw U (fun h19=>?_) (fun h19=>?_)
  ·refine Aa (Ae (Ad U (Ac (Z (Am (AY (Ay (Ay (AY (Ay (Aq U U ?_)))))))))))
   have e:¬ xs=ys:=fun e=>h19 (by rw [e,hx17] at hx14;exact (Option.some.inj hx14).symm)
   exact Ak ⟨by rw [decide_eq_false e]<;>rfl,rfl⟩ H
  refine Ax (AU (Z (Ae (Ad U (V U U (AX (z:=((k+1:Nat):Int)) U U U (by rw [AB (by omega) (by omega)];omega)) (Ad U (Ac ?_)))))))
  have e:x13=x16:=Classical.not_not.1 h19
  subst e
  exact Bj (s:=k) (k+1) ⟨rfl,rfl,rfl,trivial⟩ ⟨H,by omega,hle,QN hx14 hx17 ht⟩ (by (try dsimp only);omega)
 refine BH (AR (AR (BI (Z (Aa (Ae (Ad U (Ac (Z (Am (Aq U U ?_)))))))))))
 have e:xs=ys:=by rw [←Gq (xs:=xs) (k:=k) (by omega),←Gq (xs:=ys) (k:=k) (by omega)];exact ht
 exact Ak ⟨by rw [decide_eq_true e]<;>rfl,rfl⟩ H
theorem Tp (vxs:Value) (xs:List An) (n:Int):
    Cn Tryz.prog 23 [vxs,.int .i64 n] [] [Ab Ag vxs xs] (fun v Bs=>v=.bool (JC xs n)∧Bs=[]):=by
 intro w0 F0 H
 obtain ⟨A1,c2,rfl,hc3,hm4,hp5⟩:=H.fR 0 rfl
 refine enter Tryz.func23 U U (Nat.le_of_ble_eq_true U) (Aa (Ae (Ad U (Ac (Z ?_)))))
 replace H:Hd _ _ _ [] [Ab Ag (.slice A1 xs.length c2) xs]:=H
 refine Aa (Aa (Ae (Ad U (Ac (Z (AS (BQ (σ:=Nat) (fun k=>[(0,.slice A1 xs.length c2),(1,.int .i64 n),(5,.int .i64 ((k:Nat):Int))]) (fun k w=>(Hd w0 F0 w [] [Ab Ag (.slice A1 xs.length c2) xs])∧(k≤xs.length)∧(∀ y∈xs.take k,y.key.size≤100∧y.val.size≤100)) (fun k=>xs.length - k) 0 ⟨rfl,rfl,rfl,trivial⟩ ⟨H,by omega,by simp⟩ ?_)))))))
 rintro k w ⟨H,hk,hn⟩
 refine Aa (Aa (Ae (Ah 2 U (V U U (Bf U C7 U) (V U U (Bd U U U) (Ad U ?_))))))
 refine AN (d:=10) U (fun h6=>?_) (fun h6=>?_)
 ·refine Ad U (V U U (Bf U C7 U) (Ad U (V U U (Cy U U U) (Ad U (Ac (Z ?_))))))
  refine Aw U (fun h7=>?_) (fun h7=>?_)
  ·refine Ax (Z (Aa (AS (Aa (Ae (Ah 2 U ?_))))))
   obtain ⟨x8,hx9⟩:∃ z9,xs[k]?=some z9:=⟨_,List.getElem?_eq_getElem (show k<xs.length by omega)⟩
   have th10:=H.thR 0 rfl hx9
   refine V U U (A0 (p:=AQ A1+k*2) U By U U (by omega) (by omega) th10 U) (V U U (Aj U EY U) (V U U (Al U BR U (H.elR 0 U hx9 (q:=0) U U)) (V U U (Dp U CF U) (V U U (CK U U U) (Ad U ?_)))))
   refine AN (d:=25) U (fun h11=>?_) (fun h11=>?_)
   ·exact Ah 8 U (Ac (Z (Ck U (Aa (Ae (Ad U (Ac (Z (Am (AY (Ay (Ay (AY (Ay (Aq U U (Ak ⟨congrArg Value.bool (Ov hx9 (by omega)),rfl⟩ H))))))))))))))))
   refine Ah 2 U ?_
   have th12:=H.thR 0 rfl hx9
   refine V U U (A0 (p:=AQ A1+k*2) U By U U (by omega) (by omega) th12 U) (V U U (Aj U Hz U) (V U U (Al U BR U (H.elR 0 U hx9 (q:=1) U U)) (V U U (Dp U CF U) (V U U (CK U U U) (Ad U (Ac (Z ?_)))))))
   refine Aw U (fun h13=>?_) (fun h13=>?_)
   ·exact Aa (Ae (Ad U (Ac (Z (Am (AY (Ay (Ay (AY (Ay (Aq U U (Ak ⟨congrArg Value.bool (Ov hx9 (by omega)),rfl⟩ H))))))))))))
   exact Ax (AU (Z (Ae (Ad U (V U U (AX (z:=((k+1:Nat):Int)) U U U (by rw [AB (by omega) (by omega)];omega)) (Ad U (Ac (Bj (s:=k) (k+1) ⟨rfl,rfl,rfl,trivial⟩ ⟨H,by (try dsimp only);omega,HY hn hx9 (by omega)⟩ (by (try dsimp only);omega)))))))))
  exact BH (AR (AR (BI (Z (Aa (Ae (Ad U (V U U (Bf U C7 U) (Ad U (V U U (CK U U U) (Ad U (Ac (Z (Am (Aq U U (Ak ⟨congrArg Value.bool (Ou hn (by omega)),rfl⟩ H))))))))))))))))
 exact Ah 5 U (Ac (Z (B7 U (BH (AR (AR (BI (Z (Aa (Ae (Ad U (V U U (Bf U C7 U) (Ad U (V U U (CK U U U) (Ad U (Ac (Z (Am (Aq U U (Ak ⟨congrArg Value.bool (Ou hn (by omega)),rfl⟩ H))))))))))))))))))))
theorem Wx (vxs:Value) (xs:List An) (key:ByteArray) (hb:xs.length≤1000000):
    Cn Tryz.prog 212 [vxs,.string key] [] [Ab Ag vxs xs] (fun v Bs=>Bs=[Y Be v (BN xs key)]):=by
 intro w0 F0 H
 obtain ⟨A1,c2,rfl,hc3,hm4,hp5⟩:=H.fR 0 rfl
 refine enter Tryz.func212 U U (Nat.le_of_ble_eq_true U) (Aa (Ae (Ad U (Ac (Z ?_)))))
 replace H:Hd _ _ _ [] [Ab Ag (.slice A1 xs.length c2) xs]:=H
 refine Aa (Ae (Ad U (Ac (Z (Aa (Aa (Ae (Ad U (V U U (Bf U C7 U) (Ad U (Ac (Z (AS ?_)))))))))))))
 replace H:=H.newnil Be
 refine BQ (σ:=Nat×Value) (fun (k,l)=>[(1,.string key),(4,.slice none 0 0),(5,l),(8,.slice A1 xs.length c2),(9,.int .i64 ((xs.length:Nat):Int)),(10,.int .i64 ((k:Nat):Int))]) (fun (k,l) w=>(Hd w0 F0 w [Y Be l (BN (xs.take k) key)] [Ab Ag (.slice A1 xs.length c2) xs])∧(k≤xs.length)) (fun (k,l)=>xs.length - k) (0,.slice none 0 0) ⟨rfl,rfl,rfl,rfl,rfl,rfl,trivial⟩ ⟨H,by (try dsimp only);omega⟩ ?_
 rintro ⟨k,l⟩ w ⟨H,hk⟩
 have hjl:=V_ (xs.take k) key
 have hjt:(xs.take k).length≤xs.length:=by simp;omega
 refine Aa (Ae (V U U (Bd U U U) (Ac (Z (Aa ?_)))))
 refine Aw U (fun h6=>?_) (fun h6=>?_)
 ·refine Ax (Z (Aa (AS (Aa (Ae ?_)))))
  obtain ⟨x7,hx8⟩:∃ z9,xs[k]?=some z9:=⟨_,List.getElem?_eq_getElem (show k<xs.length by omega)⟩
  have th9:=H.thR 0 rfl hx8
  refine V U U (A0 (p:=AQ A1+k*2) U By U U (by omega) (by omega) th9 U) (V U U (Bn (cs:=[.string x7.key,.string x7.val]) U Ca U U (H.elsR 0 U hx8 U)) (Dk U U U C9 H (fun b10 w H=>(BD U U U Ca U U H U (Nat.le_of_ble_eq_true U) (fun u hu=>by simp [Value.cells] at hu;rcases hu with rfl|rfl<;>rfl) (fun w H=>?_)))))
  replace H:=H.h2 (A:=blk b10 [.string x7.key,.string x7.val] 106) (B:=Y Be l (BN (xs.take k) key))
  refine Ac (Z (Aa (Ae (V U U (Aj U EY U) (V U U (Al U BR U (H.cellI 0 U U)) (Ad U (V U U (Mg U U U) (Ac (Z ?_)))))))))
  refine Aw U (fun h11=>?_) (fun h11=>?_)
  ·refine Ae (Ad U (V U U (Aj U Hz U) (V U U (Al U BR U (H.cellI 0 U U)) (BW (parts:=[(0,.tmp 20)]) (vs:=[.string x7.val]) (cs:=[.string x7.val]) U U U GO Ic U (by decide) (by decide) U U H (fun b12 w H=>?_)))))
   replace H:=H.p2
   refine CA (xs:=BN (xs.take k) key) (ys:=[x7.val]) U U U GO Ic U (by decide) U U H (by omega) (fun F hA hR=>Cp (hA _ (List.mem_of_getElem? (i:=0) U)) U (by decide) (AV.flat_eq.2 U)) (fun v13 w H=>(Ad U (Ac (AU (Z ?_)))))
   replace H:Hd _ _ _ [Y Be v13 ((BN (xs.take k) key)++[x7.val]),blk b12 [.string x7.val] 9,blk b10 [.string x7.key,.string x7.val] 106] [Ab Ag (.slice A1 xs.length c2) xs]:=H
   refine Ae (V U U (AX (z:=((k+1:Nat):Int)) U U U (by rw [AB (by omega) (by omega)];omega)) (Ad U (Ac ?_)))
   rw [←Wc hx8 h11] at H
   replace H:=H.k1
   exact Bj (s:=(k,undef)) (k+1,v13) ⟨rfl,rfl,rfl,rfl,rfl,rfl,trivial⟩ ⟨H,by (try dsimp only);omega⟩ (by (try dsimp only);omega)
  refine Ax (AU (Z (Ae (V U U (AX (z:=((k+1:Nat):Int)) U U U (by rw [AB (by omega) (by omega)];omega)) (Ad U (Ac ?_))))))
  rw [←Wb hx8 h11] at H
  replace H:=H.sel 2 [1] [0] rfl (by kernel_rfl)
  exact Bj (s:=(k,undef)) (k+1,l) ⟨rfl,rfl,rfl,rfl,rfl,rfl,trivial⟩ ⟨H,by (try dsimp only);omega⟩ (by (try dsimp only);omega)
 refine BH (AR (AR (BI (Z (Aa (Ae (Ah 2 U (Ac (Z (Am (Aq U U ?_)))))))))))
 rw [List.take_of_length_le (show xs.length≤k by omega)] at H
 exact Ak U H
theorem Wv (vxs:Value) (xs:List An) (hb:xs.length≤1000000):
    Cn Tryz.prog 211 [vxs] [] [Ab Ag vxs xs] (fun v Bs=>Bs=[Y Be v (Dz xs)]):=by
 intro w0 F0 H
 obtain ⟨A1,c2,rfl,hc3,hm4,hp5⟩:=H.fR 0 rfl
 refine enter Tryz.func211 U U (Nat.le_of_ble_eq_true U) (Aa (Ae (Ad U (Ac (Z ?_)))))
 replace H:Hd _ _ _ [] [Ab Ag (.slice A1 xs.length c2) xs]:=H
 refine Aa (Ae (Ad U (Ac (Z (Aa (Aa (Ae (Ad U (V U U (Bf U C7 U) (Ad U (Ac (Z (AS ?_)))))))))))))
 replace H:=H.newnil Be
 refine BQ (σ:=Nat×Value) (fun (k,l)=>[(2,.slice none 0 0),(3,l),(6,.slice A1 xs.length c2),(7,.int .i64 ((xs.length:Nat):Int)),(8,.int .i64 ((k:Nat):Int))]) (fun (k,l) w=>(Hd w0 F0 w [Y Be l ((xs.take k).map (·.key))] [Ab Ag (.slice A1 xs.length c2) xs])∧(k≤xs.length)) (fun (k,l)=>xs.length - k) (0,.slice none 0 0) ⟨rfl,rfl,rfl,rfl,rfl,trivial⟩ ⟨H,by (try dsimp only);omega⟩ ?_
 rintro ⟨k,l⟩ w ⟨H,hk⟩
 have hjt:((xs.take k).map (·.key)).length≤xs.length:=by simp;omega
 refine Aa (Ae (V U U (Bd U U U) (Ac (Z (Aa ?_)))))
 refine Aw U (fun h6=>?_) (fun h6=>?_)
 ·refine Ax (Z (Aa (AS (Aa (Ae ?_)))))
  obtain ⟨x7,hx8⟩:∃ z9,xs[k]?=some z9:=⟨_,List.getElem?_eq_getElem (show k<xs.length by omega)⟩
  have th9:=H.thR 0 rfl hx8
  refine V U U (A0 (p:=AQ A1+k*2) U By U U (by omega) (by omega) th9 U) (V U U (Bn (cs:=[.string x7.key,.string x7.val]) U Ca U U (H.elsR 0 U hx8 U)) (Dk U U U C9 H (fun b10 w H=>(BD U U U Ca U U H U (Nat.le_of_ble_eq_true U) (fun u hu=>by simp [Value.cells] at hu;rcases hu with rfl|rfl<;>rfl) (fun w H=>?_)))))
  replace H:=H.h2 (A:=blk b10 [.string x7.key,.string x7.val] 106) (B:=Y Be l ((xs.take k).map (·.key)))
  refine Ac (Z (Ae (Ad U (V U U (Aj U EY U) (V U U (Al U BR U (H.cellI 0 U U)) (BW (parts:=[(0,.tmp 14)]) (vs:=[.string x7.key]) (cs:=[.string x7.key]) U U U GO Ic U (by decide) (by decide) U U H (fun b11 w H=>?_)))))))
  replace H:=H.p2
  refine CA (xs:=(xs.take k).map (·.key)) (ys:=[x7.key]) U U U GO Ic U (by decide) U U H (by omega) (fun F hA hR=>Cp (hA _ (List.mem_of_getElem? (i:=0) U)) U (by decide) (AV.flat_eq.2 U)) (fun v12 w H=>(Ad U (Ac (AU (Z ?_)))))
  replace H:Hd _ _ _ [Y Be v12 (((xs.take k).map (·.key))++[x7.key]),blk b11 [.string x7.key] 9,blk b10 [.string x7.key,.string x7.val] 106] [Ab Ag (.slice A1 xs.length c2) xs]:=H
  refine Ae (V U U (AX (z:=((k+1:Nat):Int)) U U U (by rw [AB (by omega) (by omega)];omega)) (Ad U (Ac ?_)))
  rw [←TV hx8] at H
  replace H:=H.k1
  exact Bj (s:=(k,undef)) (k+1,v12) ⟨rfl,rfl,rfl,rfl,rfl,trivial⟩ ⟨H,by (try dsimp only);omega⟩ (by (try dsimp only);omega)
 refine BH (AR (AR (BI (Z (Aa (Ae (Ad U (sc (YD l ((xs.take k).map (·.key)) (by first |omega|(rw [MA];omega))) H l0 U U (Au Ux U U) ?_))))))))
 rintro v13 _ w rfl H
 replace H:=H.h1 (A:=Y Be l (FF ((xs.take k).map (·.key))))
 refine Ac (Z (Aa (Ae (Ad U (sc (Sf l (FF ((xs.take k).map (·.key))) (by first |omega|(rw [MA];omega))) H l0 U U (Au Uy U U) ?_)))))
 rintro v14 _ w rfl H
 replace H:=H.h1 (A:=Y Be v14 (Gf (FF ((xs.take k).map (·.key)))))
 refine Ad U (Ac (Z (Am (Aq U U ?_))))
 rw [List.take_of_length_le (show xs.length≤k by omega)] at H
 exact Ak U H
theorem TH (f:FuncId) (cap:List Value) (Ex:List SP) (p:An→Bool) (hkf:AK Tryz.prog f) (hp:∀ x,Cn Tryz.prog f ([.agg #[.string x.key,.string x.val]]++cap) [] Ex (fun v Bs=>v=.bool (p x)∧Bs=[])) (v:Value) (xs:List An):
    Cn Tryz.prog 206 [v,.func (.func f) #[] (cap).toArray] [] (Ab Ag v xs::Ex) (fun v Bs=>v=.int .i64 (EX p xs)∧Bs=[]):=by
 intro w0 F0 H
 obtain ⟨A1,c2,rfl,hc3,hm4,hp5⟩:=H.fR 0 rfl
 refine enter Tryz.func206 U U (Nat.le_of_ble_eq_true U) (Aa (Ae (Ad U (Ac (Z ?_)))))
 replace H:Hd _ _ _ [] (Ab Ag (.slice A1 xs.length c2) xs::Ex):=H
 refine Aa (Aa (Ae (Ad U (V U U (Bf U C7 U) (Ad U (Ac (Z (AS (BQ (σ:=Nat) (fun k=>[(0,.slice A1 xs.length c2),(1,.func (.func f) #[] (cap).toArray),(7,.int .i64 ((xs.length:Nat):Int)),(8,.int .i64 ((k:Nat):Int))]) (fun k w=>(Hd w0 F0 w [] (Ab Ag (.slice A1 xs.length c2) xs::Ex))∧(k≤xs.length)∧(∀ y∈xs.take k,p y=false)) (fun k=>xs.length - k) 0 ⟨rfl,rfl,rfl,rfl,trivial⟩ ⟨H,by omega,by simp⟩ ?_)))))))))
 rintro k w ⟨H,hk,hn⟩
 refine Aa (Ae (V U U (Bd U U U) (Ac (Z (Aa ?_)))))
 refine Aw U (fun h6=>?_) (fun h6=>?_)
 ·refine Ax (Z (Aa (AS (Aa (Ae (Ah 2 U (Ac (Z (Aa (Ae (Ah 3 U ?_)))))))))))
  obtain ⟨x7,hx8⟩:∃ z9,xs[k]?=some z9:=⟨_,List.getElem?_eq_getElem (show k<xs.length by omega)⟩
  have th9:=H.thR 0 rfl hx8
  refine V U U (A0 (p:=AQ A1+k*2) U By U U (by omega) (by omega) th9 U) (V U U (Bn (cs:=[.string x7.key,.string x7.val]) U Ca U U (H.elsR 0 U hx8 U)) (sc (hp x7) H (fun S hS F hA hR=>hR S (List.mem_cons_of_mem _ hS)) U U (FP (vs:=[.agg #[.string x7.key,.string x7.val]]) (fs:=#[]) (cs:=cap.toArray) hkf U U U) ?_))
  rintro _ _ w ⟨rfl,rfl⟩ H
  refine Ac (Z ?_)
  refine DO (b:=p x7) U (fun h10=>?_) (fun h10=>?_)
  ·exact Aa (Ae (Ah 2 U (Ac (Z (Am (AY (Ay (Ay (AY (Ay (Aq U U (Ak ⟨by rw [KW hn hx8 h10]<;>rfl,rfl⟩ H))))))))))))
  exact Ax (AU (Z (Ae (V U U (AX (z:=((k+1:Nat):Int)) U U U (by rw [AB (by omega) (by omega)];omega)) (Ad U (Ac (Bj (s:=k) (k+1) ⟨rfl,rfl,rfl,rfl,trivial⟩ ⟨H,by omega,ME hn hx8 h10⟩ (by (try dsimp only);omega))))))))
 refine BH (AR (AR (BI (Z (Aa (Ae (Ad U (Ac (Z (Am (Aq U U ?_)))))))))))
 have hn2:∀ y∈xs,p y=false:=by rw [←Gq (xs:=xs) (k:=k) (by omega)];exact hn
 exact Ak ⟨by rw [Jk hn2]<;>rfl,rfl⟩ H
theorem NE (f:FuncId) (cap:List Value) (Ex:List SP) (p:An→Bool) (hkf:AK Tryz.prog f) (hp:∀ x,Cn Tryz.prog f ([.agg #[.string x.key,.string x.val]]++cap) [] Ex (fun v Bs=>v=.bool (p x)∧Bs=[])) (v:Value) (xs:List An):
    Cn Tryz.prog 173 [v,.func (.func f) #[] (cap).toArray] [] (Ab Ag v xs::Ex) (fun v Bs=>v=.bool (xs.any p)∧Bs=[]):=by
 intro w0 F0 H
 refine enter Tryz.func173 U U (Nat.le_of_ble_eq_true U) (Aa (Ae (Ad U (Ac (Z (Aa (Ae (Ah 2 U (sc (TH f cap Ex p hkf hp v xs) H LN U U (Au Ul U U) ?_)))))))))
 rintro _ _ w ⟨rfl,rfl⟩ H
 exact V U U (CJ U U U) (Ad U (Ac (Z (Am (Aq U U (Ak ⟨congrArg Value.bool (KX p xs),rfl⟩ H))))))
theorem VE (x:An):
    Cn Tryz.prog 174 [.agg #[.string x.key,.string x.val]] [] [] (fun v Bs=>v=.bool (!decide (C5 x))∧Bs=[]):=by
 intro w0 F0 H
 refine enter Tryz.func174 U U (Nat.le_of_ble_eq_true U) (Aa (Ae (Cm U U U U H (fun b1 w H=>(Ad U (Ac (Z ?_)))))))
 replace H:Hd _ _ _ [blk b1 [.string x.key,.string x.val] 106] []:=H
 refine Aa (Ae (V U U (Aj U EY U) (V U U (Al U BR U (H.cellI 0 U U)) (V U U (Dp U CF U) (V U U (CK U U U) (Ad U ?_))))))
 refine AN (d:=7) U (fun h2=>?_) (fun h2=>?_)
 ·refine Ah 6 U (Ac (Z (Am (Aq U U ?_))))
  replace H:=H.nil
  exact Ak ⟨by rw [decide_eq_false (by unfold C5;omega)];rfl,rfl⟩ H
 refine V U U (Aj U Hz U) (V U U (Al U BR U (H.cellI 0 U U)) (V U U (Dp U CF U) (V U U (CK U U U) (Ah 2 U (Ac (Z (Am (Aq U U ?_))))))))
 replace H:=H.nil
 exact Ak ⟨congrArg Value.bool (by rw [←decide_not];exact decide_eq_decide.2 (by unfold C5;omega)),rfl⟩ H
theorem Ww (vxs:Value) (xs:List An):
    Cn Tryz.prog 120 [vxs] [] [Ab Ag vxs xs] (fun v Bs=>v=.bool (decide (G4 xs))∧Bs=[]):=by
 intro w0 F0 H
 obtain ⟨A1,c2,rfl,hc3,hm4,hp5⟩:=H.fR 0 rfl
 refine enter Tryz.func120 U U (Nat.le_of_ble_eq_true U) (Aa (Ae (Ad U (Ac (Z ?_)))))
 replace H:Hd _ _ _ [] [Ab Ag (.slice A1 xs.length c2) xs]:=H
 refine Aa (Ae (Ad U (sc (NE 174 [] [] (fun p=>!decide (C5 p)) Uf (fun x=>VE x) (.slice A1 xs.length c2) xs) H (lR 0 U l0) U U (Au OP U U) ?_)))
 rintro _ _ w ⟨rfl,rfl⟩ H
 exact V U U (Fl U U U) (Ad U (Ac (Z (Am (Aq U U (Ak ⟨congrArg Value.bool (VG xs),rfl⟩ H))))))
end Go.Proofs.YthgehekecfpikaaGreatDoor.X
