/- MapperScript: texts V5, P1, V6, V7, P2, joined by a program of ours; what nothing names is left out. -/
import Derived.Test.YthgehekecfpikaaGreatDoorMapperScriptQ2
import Derived.Test.YthgehekecfpikaaGreatDoorShelf
set_option linter.unusedVariables false
set_option linter.unusedSimpArgs false
set_option maxHeartbeats 8000000
namespace Go.Proofs.YthgehekecfpikaaGreatDoor.X
open Go
theorem TO (r:Nat) (pv:Value) (key:ByteArray) (vv:Value) (fuel pos steps:Int) (halted:Bool) (sv:Value) (g:Nat→Az) (tv:Value) (mb:Nat) (stk:List Az) (told:List An) (vals:List ByteArray) (i:Bm) (n:Int) (hst:stk.length≤16) (hto:told.length≤40) (hok:(∀ v∈stk,Dr v)∧∀ k,Dr (g k)) (hi:Bf i n):
    Cn Tryz.prog 243 [.pointer (some ⟨r,0,none⟩),.agg #[.int .i64 i.op,.int .i64 i.a,.string i.s]] [blk r (Di pv key vv fuel pos steps halted sv g tv (.map (some mb))) 288,Ae A5 sv stk,Ae Al tv told,Du mb] [Af AZ vv vals,gl] (fun v Bs=>∃ sv2 tv2 vv2,v=.int .i64 (BC dg key ⟨pos,halted,stk,g,told,vals⟩ i).2∧CN AZ vv vals vv2 (BC dg key ⟨pos,halted,stk,g,told,vals⟩ i).1.vals∧Bs=[blk r (Di pv key vv2 fuel (BC dg key ⟨pos,halted,stk,g,told,vals⟩ i).1.pos steps (BC dg key ⟨pos,halted,stk,g,told,vals⟩ i).1.halted sv2 (BC dg key ⟨pos,halted,stk,g,told,vals⟩ i).1.g tv2 (.map (some mb))) 288,Ae A5 sv2 (BC dg key ⟨pos,halted,stk,g,told,vals⟩ i).1.stk,Ae Al tv2 (BC dg key ⟨pos,halted,stk,g,told,vals⟩ i).1.told,Du mb]):=by
 intro w0 F0 H
 refine enter Tryz.func243 U U (Nat.le_of_ble_eq_true U) (Z (Ac (B4 U U U U H (fun b1 w H=>(Ab U (Aa (Y (Z (Ac (Ab U (V U U (Ah U Ce U) (V U U (Aj U Aw U (H.cellI 0 U U)) ?_))))))))))))
 replace H:=H.p2.p2
 refine sc (W4 r pv key vv fuel pos steps halted sv g tv (.map (some mb)) stk i.op (by first |omega|exact Nat.le_trans hN.2.1 hst)) H l0 U U (At VO U U) ?_
 rintro _ _ w ⟨u2,s3,rfl,rfl⟩ H
 refine Ad 5 U (Aa (Y (Z (Z (Ac (Ab U (V U U (CL U U U) (Aa (Y ?_)))))))))
 refine Aq U (fun h4=>?_) (fun h4=>?_)
 ·refine Z (Ac (Ad 2 U (Aa (Y (Ai (Ao (Am U U ?_)))))))
  replace H:=H.p5.p5.p3.p3.k4
  have e:BC dg key (⟨pos,halted,stk,g,told,vals⟩:VM) i=((⟨pos,halted,stk,g,told,vals⟩:VM),(AC i.op stk).1):=Is (m:=(⟨pos,halted,stk,g,told,vals⟩:VM)) h4
  have e2:=W5 h4
  rw [e2] at H
  exact Ag ⟨s3,tv,vv,by rw [e]<;>rfl,by rw [e]<;>exact CN.refl _ _ _,by rw [e]<;>rfl⟩ H
 refine Av (Y (Z (Z ?_)))
 have hN0:=Classical.not_not.1 h4
 have hN:=Mo hN0
 refine Ac (V U U (Ah U Ce U) (V U U (Aj U Aw U (H.cellI 3 U U)) (Aa (Y (AK (Z (Ac (V U U (AT U U U) (Ab U (Aa (Y ?_)))))))))))
 refine Aq U (fun h5=>?_) (fun h5=>?_)
 ·have hks:(AW i.op).size=0:=by rw [h5];rfl
  refine Ac (Ab U (V U U (AI U U) (V U U (Ah U Oz U) (By U U U Ek U U H U (Nat.le_of_ble_eq_true U) (fun u hu=>by simp [Value.cells] at hu;subst hu;rfl) (fun w H=>(Aa (AS (Y (Z (Ac (Ab U (Aa (Y (Ai (Am U U ?_)))))))))))))))
  replace H:=H.p5.p5.p3.p3.k4
  have e:BC dg key (⟨pos,halted,stk,g,told,vals⟩:VM) i=((⟨pos,true,(AC i.op stk).2.1,g,told,vals⟩:VM),0):=by
    rw [CR (m:=(⟨pos,halted,stk,g,told,vals⟩:VM)) h4,KV h5]
    all_goals rfl
  exact Ag ⟨s3,tv,vv,by rw [e]<;>rfl,by rw [e]<;>exact CN.refl _ _ _,by rw [e]<;>rfl⟩ H
 refine Z (Ac (V U U (AT U U U) (Ab U (Aa (Y ?_)))))
 refine Aq U (fun h6=>?_) (fun h6=>?_)
 ·have hks:(AW i.op).size=0:=by rw [h6];rfl
  refine Z (Ac (Ab U (V U U (Ah U Cg U) (V U U (Aj U Aw U (H.cellI 3 U U)) (sc (FS i.a) H l0 U U (At FD U U) ?_)))))
  rintro _ _ w ⟨rfl,rfl⟩ H
  refine Bv (parts:=[(0,.tmp 29)]) (vs:=[.agg #[.bool false,.int .i64 i.a,.string ⟨#[]⟩]]) (cs:=[.bool false,.int .i64 i.a,.string ⟨#[]⟩]) U U U A8 BV U (by decide) (by decide) U U H (fun b7 w H=>?_)
  replace H:=H.p2|>.p2
  refine sc (D2 r pv key vv fuel pos steps halted s3 g tv (.map (some mb)) ((AC i.op stk).2.1) (.slice (some ⟨b7,0,none⟩) 1 1) [(⟨false,i.a,⟨#[]⟩⟩:Az)] (by first |omega|exact Nat.le_trans hN.2.1 hst) (Nat.le_of_ble_eq_true U)) H (lA 0 U (fun F h=>BZ h rfl (by decide) (AX.flat_eq.2 U)) l0) U U (At D1 U U) ?_
  rintro _ _ w ⟨s8,rfl,rfl⟩ H
  refine Ab U (Aa (Y (Ai (Ax (Ao (Am U U ?_))))))
  replace H:=H.p6.p6.p3.p3.k4
  have e:BC dg key (⟨pos,halted,stk,g,told,vals⟩:VM) i=((⟨pos,halted,(Bz ((AC i.op stk).2.1) [(⟨false,i.a,⟨#[]⟩⟩:Az)]).2,g,told,vals⟩:VM),(Bz ((AC i.op stk).2.1) [(⟨false,i.a,⟨#[]⟩⟩:Az)]).1):=by
    rw [CR (m:=(⟨pos,halted,stk,g,told,vals⟩:VM)) h4,KW h6]
    all_goals rfl
  exact Ag ⟨s8,tv,vv,by rw [e]<;>rfl,by rw [e]<;>exact CN.refl _ _ _,by rw [e]<;>rfl⟩ H
 refine Z (Ac (V U U (AT U U U) (Ab U (Aa (Y ?_)))))
 refine Aq U (fun h9=>?_) (fun h9=>?_)
 ·have hks:(AW i.op).size=0:=by rw [h9];rfl
  refine Z (Ac (Ab U (V U U (Ah U Dx U) (V U U (Aj U Bd U (H.cellI 3 U U)) (sc (Ih i.s) H l0 U U (At HN U U) ?_)))))
  rintro _ _ w ⟨rfl,rfl⟩ H
  refine Bv (parts:=[(0,.tmp 37)]) (vs:=[.agg #[.bool true,.int .i64 0,.string i.s]]) (cs:=[.bool true,.int .i64 0,.string i.s]) U U U A8 BV U (by decide) (by decide) U U H (fun b10 w H=>?_)
  replace H:=H.p2|>.p2
  refine sc (D2 r pv key vv fuel pos steps halted s3 g tv (.map (some mb)) ((AC i.op stk).2.1) (.slice (some ⟨b10,0,none⟩) 1 1) [(⟨true,0,i.s⟩:Az)] (by first |omega|exact Nat.le_trans hN.2.1 hst) (Nat.le_of_ble_eq_true U)) H (lA 0 U (fun F h=>BZ h rfl (by decide) (AX.flat_eq.2 U)) l0) U U (At D1 U U) ?_
  rintro _ _ w ⟨s11,rfl,rfl⟩ H
  refine Ab U (Aa (Y (Ai (Ax (Ao (Am U U ?_))))))
  replace H:=H.p6.p6.p3.p3.k4
  have e:BC dg key (⟨pos,halted,stk,g,told,vals⟩:VM) i=((⟨pos,halted,(Bz ((AC i.op stk).2.1) [(⟨true,0,i.s⟩:Az)]).2,g,told,vals⟩:VM),(Bz ((AC i.op stk).2.1) [(⟨true,0,i.s⟩:Az)]).1):=by
    rw [CR (m:=(⟨pos,halted,stk,g,told,vals⟩:VM)) h4,K9 h9]
    all_goals rfl
  exact Ag ⟨s11,tv,vv,by rw [e]<;>rfl,by rw [e]<;>exact CN.refl _ _ _,by rw [e]<;>rfl⟩ H
 refine Z (Ac (V U U (AT U U U) (Ab U (Aa (Y ?_)))))
 refine Aq U (fun h12=>?_) (fun h12=>?_)
 ·have hks:(AW i.op).size=1:=by rw [h12];rfl
  refine Z ?_
  obtain ⟨A13,c14,rfl,hc15,hm16,hp17⟩:=H.fA 2 rfl
  obtain ⟨x18,hx19⟩:∃ z9,((AC i.op stk).2.2)[0]?=some z9:=⟨_,List.getElem?_eq_getElem (show 0<((AC i.op stk).2.2).length by omega)⟩
  have okx18:=hok.1 _ (hN.2.2.1 _ (Bl hx19))
  have szx18:=okx18.2
  have inx18:=okx18.1
  replace H:=H.p5.p5.p5.p5
  refine BD (.e 0 (.e 1 (.e 2 (.e 3 (.e 4 (.e 5 (.e 6 (.m 7 (.m 8 (.e 9 .z)))))))))) (fun w=>∃ Ar,Hd w0 F0 w (Ae A5 (.slice A13 (((AC i.op stk).2.2).length) c14) ((AC i.op stk).2.2)::blk b1 [.int .i64 i.op,.int .i64 i.a,.string i.s] 223::Ae Al tv told::Du mb::Ar) [Af AZ vv vals,gl]) mo (by kernel_rfl) (fun w H=>⟨_,H⟩) H (fun w H=>(Ap U (Ap U ?_)))
  have th20:=H.thA 0 rfl hx19
  refine Ak U U U (fun w ⟨Ar,H⟩=>AG (p:=AA A13+0*3) U A8 U U (by omega) (by omega) th20 (by omega)) (Ak U U U (fun w ⟨Ar,H⟩=>Bp (cs:=[.bool x18.t,.int .i64 x18.n,.string x18.b]) U B5 U U (H.elsA 0 U hx19 U)) (Ap U ?_))
  have th21:=H.thA 0 rfl hx19
  refine Ak U U U (fun w ⟨Ar,H⟩=>AG (p:=AA A13+0*3) U A8 U U (by omega) (by omega) th21 (by omega)) (Ak U U U (fun w ⟨Ar,H⟩=>Bp (cs:=[.bool x18.t,.int .i64 x18.n,.string x18.b]) U B5 U U (H.elsA 0 U hx19 U)) (AL U (Bv (parts:=[(0,.tmp 45),(1,.tmp 48)]) (vs:=[.agg #[.bool x18.t,.int .i64 x18.n,.string x18.b],.agg #[.bool x18.t,.int .i64 x18.n,.string x18.b]]) (cs:=[.bool x18.t,.int .i64 x18.n,.string x18.b,.bool x18.t,.int .i64 x18.n,.string x18.b]) U U U A8 BV U (by decide) (by decide) U U H (fun b22 w H=>?_))))
  replace H:=H.p4|>.p4|>.p4|>.p4
  refine AH ⟨_,H⟩ (AL U ?_)
  replace H:=H.p6.p6
  refine sc (D2 r pv key vv fuel pos steps halted s3 g tv (.map (some mb)) ((AC i.op stk).2.1) (.slice (some ⟨b22,0,none⟩) 2 2) [x18,x18] (by first |omega|exact Nat.le_trans hN.2.1 hst) (Nat.le_of_ble_eq_true U)) H (lA 4 U (fun F h=>BZ h rfl (by decide) (AX.flat_eq.2 U)) l0) U U (At D1 U U) ?_
  rintro _ _ w ⟨s23,rfl,rfl⟩ H
  replace H:=H.p5|>.p5|>.p5|>.p5
  refine AH ⟨_,H⟩ (Ap U (Bx (Y (Ai (Ax (Ao (Am U U ?_)))))))
  replace H:=H.p3.p3.p5.p5.k4
  have e:BC dg key (⟨pos,halted,stk,g,told,vals⟩:VM) i=((⟨pos,halted,(Bz ((AC i.op stk).2.1) [x18,x18]).2,g,told,vals⟩:VM),(Bz ((AC i.op stk).2.1) [x18,x18]).1):=by
    rw [CR (m:=(⟨pos,halted,stk,g,told,vals⟩:VM)) h4,Lc h12]
    rw [BH hx19]<;>rfl
  exact Ag ⟨s23,tv,vv,by rw [e]<;>rfl,by rw [e]<;>exact CN.refl _ _ _,by rw [e]<;>rfl⟩ H
 refine Z (Ac (V U U (AT U U U) (Ab U (Aa (Y ?_)))))
 refine Aq U (fun h24=>?_) (fun h24=>?_)
 ·have hks:(AW i.op).size=2:=by rw [h24];rfl
  refine Z ?_
  obtain ⟨A25,c26,rfl,hc27,hm28,hp29⟩:=H.fA 2 rfl
  obtain ⟨x30,hx31⟩:∃ z9,((AC i.op stk).2.2)[0]?=some z9:=⟨_,List.getElem?_eq_getElem (show 0<((AC i.op stk).2.2).length by omega)⟩
  have okx30:=hok.1 _ (hN.2.2.1 _ (Bl hx31))
  have szx30:=okx30.2
  have inx30:=okx30.1
  obtain ⟨x32,hx33⟩:∃ z9,((AC i.op stk).2.2)[1]?=some z9:=⟨_,List.getElem?_eq_getElem (show 1<((AC i.op stk).2.2).length by omega)⟩
  have okx32:=hok.1 _ (hN.2.2.1 _ (Bl hx33))
  have szx32:=okx32.2
  have inx32:=okx32.1
  replace H:=H.p5.p5.p5.p5
  refine BD (.e 0 (.e 1 (.e 2 (.e 3 (.e 4 (.e 5 (.e 6 (.m 7 (.m 8 (.e 9 .z)))))))))) (fun w=>∃ Ar,Hd w0 F0 w (Ae A5 (.slice A25 (((AC i.op stk).2.2).length) c26) ((AC i.op stk).2.2)::blk b1 [.int .i64 i.op,.int .i64 i.a,.string i.s] 223::Ae Al tv told::Du mb::Ar) [Af AZ vv vals,gl]) mo (by kernel_rfl) (fun w H=>⟨_,H⟩) H (fun w H=>(Ap U (Ap U ?_)))
  have th34:=H.thA 0 rfl hx33
  refine Ak U U U (fun w ⟨Ar,H⟩=>AG (p:=AA A25+1*3) U A8 U U (by omega) (by omega) th34 (by omega)) (Ak U U U (fun w ⟨Ar,H⟩=>Bp (cs:=[.bool x32.t,.int .i64 x32.n,.string x32.b]) U B5 U U (H.elsA 0 U hx33 U)) (Ap U ?_))
  have th35:=H.thA 0 rfl hx31
  refine Ak U U U (fun w ⟨Ar,H⟩=>AG (p:=AA A25+0*3) U A8 U U (by omega) (by omega) th35 (by omega)) (Ak U U U (fun w ⟨Ar,H⟩=>Bp (cs:=[.bool x30.t,.int .i64 x30.n,.string x30.b]) U B5 U U (H.elsA 0 U hx31 U)) (AL U (Bv (parts:=[(0,.tmp 56),(1,.tmp 59)]) (vs:=[.agg #[.bool x32.t,.int .i64 x32.n,.string x32.b],.agg #[.bool x30.t,.int .i64 x30.n,.string x30.b]]) (cs:=[.bool x32.t,.int .i64 x32.n,.string x32.b,.bool x30.t,.int .i64 x30.n,.string x30.b]) U U U A8 BV U (by decide) (by decide) U U H (fun b36 w H=>?_))))
  replace H:=H.p4|>.p4|>.p4|>.p4
  refine AH ⟨_,H⟩ (AL U ?_)
  replace H:=H.p6.p6
  refine sc (D2 r pv key vv fuel pos steps halted s3 g tv (.map (some mb)) ((AC i.op stk).2.1) (.slice (some ⟨b36,0,none⟩) 2 2) [x32,x30] (by first |omega|exact Nat.le_trans hN.2.1 hst) (Nat.le_of_ble_eq_true U)) H (lA 4 U (fun F h=>BZ h rfl (by decide) (AX.flat_eq.2 U)) l0) U U (At D1 U U) ?_
  rintro _ _ w ⟨s37,rfl,rfl⟩ H
  replace H:=H.p5|>.p5|>.p5|>.p5
  refine AH ⟨_,H⟩ (Ap U (Bx (Y (Ai (Ax (Ao (Am U U ?_)))))))
  replace H:=H.p3.p3.p5.p5.k4
  have e:BC dg key (⟨pos,halted,stk,g,told,vals⟩:VM) i=((⟨pos,halted,(Bz ((AC i.op stk).2.1) [x32,x30]).2,g,told,vals⟩:VM),(Bz ((AC i.op stk).2.1) [x32,x30]).1):=by
    rw [CR (m:=(⟨pos,halted,stk,g,told,vals⟩:VM)) h4,Le h24]
    rw [BH hx31,BH hx33]<;>rfl
  exact Ag ⟨s37,tv,vv,by rw [e]<;>rfl,by rw [e]<;>exact CN.refl _ _ _,by rw [e]<;>rfl⟩ H
 refine Z (Ac (V U U (AT U U U) (Ab U (Aa (Y ?_)))))
 refine Aq U (fun h38=>?_) (fun h38=>?_)
 ·have hks:(AW i.op).size=0:=by rw [h38];rfl
  refine Z (Ac (Ad 2 U (V U U (AI U U) (V U U (Ah U Ug U) (V U U (Aj U Bd U (H.cellI 0 U U)) (sc (Ih key) H l0 U U (At HN U U) ?_))))))
  rintro _ _ w ⟨rfl,rfl⟩ H
  refine Bv (parts:=[(0,.tmp 69)]) (vs:=[.agg #[.bool true,.int .i64 0,.string key]]) (cs:=[.bool true,.int .i64 0,.string key]) U U U A8 BV U (by decide) (by decide) U U H (fun b39 w H=>?_)
  replace H:=H.p2|>.p2
  refine sc (D2 r pv key vv fuel pos steps halted s3 g tv (.map (some mb)) ((AC i.op stk).2.1) (.slice (some ⟨b39,0,none⟩) 1 1) [(⟨true,0,key⟩:Az)] (by first |omega|exact Nat.le_trans hN.2.1 hst) (Nat.le_of_ble_eq_true U)) H (lA 0 U (fun F h=>BZ h rfl (by decide) (AX.flat_eq.2 U)) l0) U U (At D1 U U) ?_
  rintro _ _ w ⟨s40,rfl,rfl⟩ H
  refine Ab U (Aa (Y (Ai (Ax (Ao (Am U U ?_))))))
  replace H:=H.p6.p6.p3.p3.k4
  have e:BC dg key (⟨pos,halted,stk,g,told,vals⟩:VM) i=((⟨pos,halted,(Bz ((AC i.op stk).2.1) [(⟨true,0,key⟩:Az)]).2,g,told,vals⟩:VM),(Bz ((AC i.op stk).2.1) [(⟨true,0,key⟩:Az)]).1):=by
    rw [CR (m:=(⟨pos,halted,stk,g,told,vals⟩:VM)) h4,Lf h38]
    all_goals rfl
  exact Ag ⟨s40,tv,vv,by rw [e]<;>rfl,by rw [e]<;>exact CN.refl _ _ _,by rw [e]<;>rfl⟩ H
 refine Z (Ac (V U U (AT U U U) (Ab U (Aa (Y ?_)))))
 refine Aq U (fun h41=>?_) (fun h41=>?_)
 ·have hks:(AW i.op).size=0:=by rw [h41];rfl
  refine Z (Ac (Ab U (sc (Xf r pv key vv fuel pos steps halted s3 g tv (.map (some mb)) ((AC i.op stk).2.1) vals (by first |omega|exact Nat.le_trans hN.2.1 hst)) H (lR 0 U l0) U U (At VP U U) ?_)))
  rintro _ _ w ⟨s42,vv43,rfl,hsuf44,rfl⟩ H
  refine Ab U (Aa (Y (Ai (Ax (Ao (Am U U ?_))))))
  replace H:=H.p5.p5.p3.p3.k4
  have e:BC dg key (⟨pos,halted,stk,g,told,vals⟩:VM) i=((⟨pos,halted,(FG ((AC i.op stk).2.1) vals).2.1,g,told,(FG (AC i.op stk).2.1 vals).2.2⟩:VM),(FG ((AC i.op stk).2.1) vals).1):=by
    rw [CR (m:=(⟨pos,halted,stk,g,told,vals⟩:VM)) h4,Jd h41]
    rw [Qd]
  exact Ag ⟨s42,tv,vv43,by rw [e]<;>rfl,by rw [e]<;>exact hsuf44,by rw [e]<;>rfl⟩ H
 refine Z (Z (Ac (V U U (AT U U U) (Ab U (Aa (Y ?_))))))
 refine Aq U (fun h45=>?_) (fun h45=>?_)
 ·have hks:(AW i.op).size=2:=by rw [h45];rfl
  refine Av (Y ?_)
  refine Aq U (fun h46=>?_) (fun h46=>?_)
  ·have hks:(AW i.op).size=2:=by rw [h46];rfl
   refine Z ?_
   obtain ⟨A47,c48,rfl,hc49,hm50,hp51⟩:=H.fA 2 rfl
   obtain ⟨x52,hx53⟩:∃ z9,((AC i.op stk).2.2)[0]?=some z9:=⟨_,List.getElem?_eq_getElem (show 0<((AC i.op stk).2.2).length by omega)⟩
   have okx52:=hok.1 _ (hN.2.2.1 _ (Bl hx53))
   have szx52:=okx52.2
   have inx52:=okx52.1
   obtain ⟨x54,hx55⟩:∃ z9,((AC i.op stk).2.2)[1]?=some z9:=⟨_,List.getElem?_eq_getElem (show 1<((AC i.op stk).2.2).length by omega)⟩
   have okx54:=hok.1 _ (hN.2.2.1 _ (Bl hx55))
   have szx54:=okx54.2
   have inx54:=okx54.1
   replace H:=H.p5.p5.p5.p5
   refine BD (.e 0 (.e 1 (.e 2 (.e 3 (.e 4 (.e 5 (.e 6 (.e 7 (.e 8 (.e 9 (.e 10 (.m 11 (.m 12 (.m 13 (.e 14 .z))))))))))))))) (fun w=>∃ Ar,Hd w0 F0 w (Ae A5 (.slice A47 (((AC i.op stk).2.2).length) c48) ((AC i.op stk).2.2)::blk b1 [.int .i64 i.op,.int .i64 i.a,.string i.s] 223::Ae Al tv told::Du mb::Ar) [Af AZ vv vals,gl]) mo (by kernel_rfl) (fun w H=>⟨_,H⟩) H (fun w H=>(Ap U (Ak U U U (fun w ⟨Ar,H⟩=>Ah U Ce U) (Ak U U U (fun w ⟨Ar,H⟩=>Aj U Aw U (H.cellI 1 U U)) (Ap U ?_)))))
   have th56:=H.thA 0 rfl hx53
   refine Ak U U U (fun w ⟨Ar,H⟩=>AG (p:=AA A47+0*3) U A8 U U (by omega) (by omega) th56 (by omega)) (Ak U U U (fun w ⟨Ar,H⟩=>Ah U CO U) (Ak U U U (fun w ⟨Ar,H⟩=>Aj U Cw U (H.elA 0 U hx53 (q:=1) U U)) (Ap U ?_)))
   have th57:=H.thA 0 rfl hx55
   refine Ak U U U (fun w ⟨Ar,H⟩=>AG (p:=AA A47+1*3) U A8 U U (by omega) (by omega) th57 (by omega)) (Ak U U U (fun w ⟨Ar,H⟩=>Ah U CO U) (Ak U U U (fun w ⟨Ar,H⟩=>Aj U Cw U (H.elA 0 U hx55 (q:=1) U U)) (AL U (sc (J9 i.op x52.n x54.n) H l0 U U (At JS U U) ?_))))
   rintro _ _ w ⟨rfl,rfl⟩ H
   refine AH ⟨_,H⟩ (AL U (Bv (parts:=[(0,.tmp 92)]) (vs:=[.agg #[.bool ((BT i.op x52.n x54.n).t),.int .i64 ((BT i.op x52.n x54.n).n),.string ((BT i.op x52.n x54.n).b)]]) (cs:=[.bool ((BT i.op x52.n x54.n).t),.int .i64 ((BT i.op x52.n x54.n).n),.string ((BT i.op x52.n x54.n).b)]) U U U A8 BV U (by decide) (by decide) U U H (fun b58 w H=>?_)))
   replace H:=H.p4|>.p4|>.p4|>.p4
   refine AH ⟨_,H⟩ (AL U ?_)
   replace H:=H.p6.p6
   refine sc (D2 r pv key vv fuel pos steps halted s3 g tv (.map (some mb)) ((AC i.op stk).2.1) (.slice (some ⟨b58,0,none⟩) 1 1) [(BT i.op x52.n x54.n)] (by first |omega|exact Nat.le_trans hN.2.1 hst) (Nat.le_of_ble_eq_true U)) H (lA 4 U (fun F h=>BZ h rfl (by decide) (AX.flat_eq.2 U)) l0) U U (At D1 U U) ?_
   rintro _ _ w ⟨s59,rfl,rfl⟩ H
   replace H:=H.p5|>.p5|>.p5|>.p5
   refine AH ⟨_,H⟩ (Ap U (Bx (Y (Ai (Ax (Ao (Am U U ?_)))))))
   replace H:=H.p3.p3.p5.p5.k4
   have e:BC dg key (⟨pos,halted,stk,g,told,vals⟩:VM) i=((⟨pos,halted,(Bz ((AC i.op stk).2.1) [(BT i.op x52.n x54.n)]).2,g,told,vals⟩:VM),(Bz ((AC i.op stk).2.1) [(BT i.op x52.n x54.n)]).1):=by
     rw [CR (m:=(⟨pos,halted,stk,g,told,vals⟩:VM)) h4,HA (by omega)]
     rw [BH hx53,BH hx55]<;>rfl
   exact Ag ⟨s59,tv,vv,by rw [e]<;>rfl,by rw [e]<;>exact CN.refl _ _ _,by rw [e]<;>rfl⟩ H
  exact absurd h45 h46
 refine Z (Ac (V U U (AT U U U) (Ab U (Aa (Y ?_)))))
 refine Aq U (fun h60=>?_) (fun h60=>?_)
 ·have hks:(AW i.op).size=2:=by rw [h60];rfl
  refine Av (Y ?_)
  refine Aq U (fun h61=>?_) (fun h61=>?_)
  ·have hks:(AW i.op).size=2:=by rw [h61];rfl
   refine Z ?_
   obtain ⟨A62,c63,rfl,hc64,hm65,hp66⟩:=H.fA 2 rfl
   obtain ⟨x67,hx68⟩:∃ z9,((AC i.op stk).2.2)[0]?=some z9:=⟨_,List.getElem?_eq_getElem (show 0<((AC i.op stk).2.2).length by omega)⟩
   have okx67:=hok.1 _ (hN.2.2.1 _ (Bl hx68))
   have szx67:=okx67.2
   have inx67:=okx67.1
   obtain ⟨x69,hx70⟩:∃ z9,((AC i.op stk).2.2)[1]?=some z9:=⟨_,List.getElem?_eq_getElem (show 1<((AC i.op stk).2.2).length by omega)⟩
   have okx69:=hok.1 _ (hN.2.2.1 _ (Bl hx70))
   have szx69:=okx69.2
   have inx69:=okx69.1
   replace H:=H.p5.p5.p5.p5
   refine BD (.e 0 (.e 1 (.e 2 (.e 3 (.e 4 (.e 5 (.e 6 (.e 7 (.e 8 (.e 9 (.e 10 (.m 11 (.m 12 (.m 13 (.e 14 .z))))))))))))))) (fun w=>∃ Ar,Hd w0 F0 w (Ae A5 (.slice A62 (((AC i.op stk).2.2).length) c63) ((AC i.op stk).2.2)::blk b1 [.int .i64 i.op,.int .i64 i.a,.string i.s] 223::Ae Al tv told::Du mb::Ar) [Af AZ vv vals,gl]) mo (by kernel_rfl) (fun w H=>⟨_,H⟩) H (fun w H=>(Ap U (Ak U U U (fun w ⟨Ar,H⟩=>Ah U Ce U) (Ak U U U (fun w ⟨Ar,H⟩=>Aj U Aw U (H.cellI 1 U U)) (Ap U ?_)))))
   have th71:=H.thA 0 rfl hx68
   refine Ak U U U (fun w ⟨Ar,H⟩=>AG (p:=AA A62+0*3) U A8 U U (by omega) (by omega) th71 (by omega)) (Ak U U U (fun w ⟨Ar,H⟩=>Ah U CO U) (Ak U U U (fun w ⟨Ar,H⟩=>Aj U Cw U (H.elA 0 U hx68 (q:=1) U U)) (Ap U ?_)))
   have th72:=H.thA 0 rfl hx70
   refine Ak U U U (fun w ⟨Ar,H⟩=>AG (p:=AA A62+1*3) U A8 U U (by omega) (by omega) th72 (by omega)) (Ak U U U (fun w ⟨Ar,H⟩=>Ah U CO U) (Ak U U U (fun w ⟨Ar,H⟩=>Aj U Cw U (H.elA 0 U hx70 (q:=1) U U)) (AL U (sc (J9 i.op x67.n x69.n) H l0 U U (At JS U U) ?_))))
   rintro _ _ w ⟨rfl,rfl⟩ H
   refine AH ⟨_,H⟩ (AL U (Bv (parts:=[(0,.tmp 92)]) (vs:=[.agg #[.bool ((BT i.op x67.n x69.n).t),.int .i64 ((BT i.op x67.n x69.n).n),.string ((BT i.op x67.n x69.n).b)]]) (cs:=[.bool ((BT i.op x67.n x69.n).t),.int .i64 ((BT i.op x67.n x69.n).n),.string ((BT i.op x67.n x69.n).b)]) U U U A8 BV U (by decide) (by decide) U U H (fun b73 w H=>?_)))
   replace H:=H.p4|>.p4|>.p4|>.p4
   refine AH ⟨_,H⟩ (AL U ?_)
   replace H:=H.p6.p6
   refine sc (D2 r pv key vv fuel pos steps halted s3 g tv (.map (some mb)) ((AC i.op stk).2.1) (.slice (some ⟨b73,0,none⟩) 1 1) [(BT i.op x67.n x69.n)] (by first |omega|exact Nat.le_trans hN.2.1 hst) (Nat.le_of_ble_eq_true U)) H (lA 4 U (fun F h=>BZ h rfl (by decide) (AX.flat_eq.2 U)) l0) U U (At D1 U U) ?_
   rintro _ _ w ⟨s74,rfl,rfl⟩ H
   replace H:=H.p5|>.p5|>.p5|>.p5
   refine AH ⟨_,H⟩ (Ap U (Bx (Y (Ai (Ax (Ao (Am U U ?_)))))))
   replace H:=H.p3.p3.p5.p5.k4
   have e:BC dg key (⟨pos,halted,stk,g,told,vals⟩:VM) i=((⟨pos,halted,(Bz ((AC i.op stk).2.1) [(BT i.op x67.n x69.n)]).2,g,told,vals⟩:VM),(Bz ((AC i.op stk).2.1) [(BT i.op x67.n x69.n)]).1):=by
     rw [CR (m:=(⟨pos,halted,stk,g,told,vals⟩:VM)) h4,HA (by omega)]
     rw [BH hx68,BH hx70]<;>rfl
   exact Ag ⟨s74,tv,vv,by rw [e]<;>rfl,by rw [e]<;>exact CN.refl _ _ _,by rw [e]<;>rfl⟩ H
  exact absurd h60 h61
 refine Z (Ac (V U U (AT U U U) (Ab U (Aa (Y ?_)))))
 refine Aq U (fun h75=>?_) (fun h75=>?_)
 ·have hks:(AW i.op).size=2:=by rw [h75];rfl
  refine Av (Y ?_)
  refine Aq U (fun h76=>?_) (fun h76=>?_)
  ·have hks:(AW i.op).size=2:=by rw [h76];rfl
   refine Z ?_
   obtain ⟨A77,c78,rfl,hc79,hm80,hp81⟩:=H.fA 2 rfl
   obtain ⟨x82,hx83⟩:∃ z9,((AC i.op stk).2.2)[0]?=some z9:=⟨_,List.getElem?_eq_getElem (show 0<((AC i.op stk).2.2).length by omega)⟩
   have okx82:=hok.1 _ (hN.2.2.1 _ (Bl hx83))
   have szx82:=okx82.2
   have inx82:=okx82.1
   obtain ⟨x84,hx85⟩:∃ z9,((AC i.op stk).2.2)[1]?=some z9:=⟨_,List.getElem?_eq_getElem (show 1<((AC i.op stk).2.2).length by omega)⟩
   have okx84:=hok.1 _ (hN.2.2.1 _ (Bl hx85))
   have szx84:=okx84.2
   have inx84:=okx84.1
   replace H:=H.p5.p5.p5.p5
   refine BD (.e 0 (.e 1 (.e 2 (.e 3 (.e 4 (.e 5 (.e 6 (.e 7 (.e 8 (.e 9 (.e 10 (.m 11 (.m 12 (.m 13 (.e 14 .z))))))))))))))) (fun w=>∃ Ar,Hd w0 F0 w (Ae A5 (.slice A77 (((AC i.op stk).2.2).length) c78) ((AC i.op stk).2.2)::blk b1 [.int .i64 i.op,.int .i64 i.a,.string i.s] 223::Ae Al tv told::Du mb::Ar) [Af AZ vv vals,gl]) mo (by kernel_rfl) (fun w H=>⟨_,H⟩) H (fun w H=>(Ap U (Ak U U U (fun w ⟨Ar,H⟩=>Ah U Ce U) (Ak U U U (fun w ⟨Ar,H⟩=>Aj U Aw U (H.cellI 1 U U)) (Ap U ?_)))))
   have th86:=H.thA 0 rfl hx83
   refine Ak U U U (fun w ⟨Ar,H⟩=>AG (p:=AA A77+0*3) U A8 U U (by omega) (by omega) th86 (by omega)) (Ak U U U (fun w ⟨Ar,H⟩=>Ah U CO U) (Ak U U U (fun w ⟨Ar,H⟩=>Aj U Cw U (H.elA 0 U hx83 (q:=1) U U)) (Ap U ?_)))
   have th87:=H.thA 0 rfl hx85
   refine Ak U U U (fun w ⟨Ar,H⟩=>AG (p:=AA A77+1*3) U A8 U U (by omega) (by omega) th87 (by omega)) (Ak U U U (fun w ⟨Ar,H⟩=>Ah U CO U) (Ak U U U (fun w ⟨Ar,H⟩=>Aj U Cw U (H.elA 0 U hx85 (q:=1) U U)) (AL U (sc (J9 i.op x82.n x84.n) H l0 U U (At JS U U) ?_))))
   rintro _ _ w ⟨rfl,rfl⟩ H
   refine AH ⟨_,H⟩ (AL U (Bv (parts:=[(0,.tmp 92)]) (vs:=[.agg #[.bool ((BT i.op x82.n x84.n).t),.int .i64 ((BT i.op x82.n x84.n).n),.string ((BT i.op x82.n x84.n).b)]]) (cs:=[.bool ((BT i.op x82.n x84.n).t),.int .i64 ((BT i.op x82.n x84.n).n),.string ((BT i.op x82.n x84.n).b)]) U U U A8 BV U (by decide) (by decide) U U H (fun b88 w H=>?_)))
   replace H:=H.p4|>.p4|>.p4|>.p4
   refine AH ⟨_,H⟩ (AL U ?_)
   replace H:=H.p6.p6
   refine sc (D2 r pv key vv fuel pos steps halted s3 g tv (.map (some mb)) ((AC i.op stk).2.1) (.slice (some ⟨b88,0,none⟩) 1 1) [(BT i.op x82.n x84.n)] (by first |omega|exact Nat.le_trans hN.2.1 hst) (Nat.le_of_ble_eq_true U)) H (lA 4 U (fun F h=>BZ h rfl (by decide) (AX.flat_eq.2 U)) l0) U U (At D1 U U) ?_
   rintro _ _ w ⟨s89,rfl,rfl⟩ H
   replace H:=H.p5|>.p5|>.p5|>.p5
   refine AH ⟨_,H⟩ (Ap U (Bx (Y (Ai (Ax (Ao (Am U U ?_)))))))
   replace H:=H.p3.p3.p5.p5.k4
   have e:BC dg key (⟨pos,halted,stk,g,told,vals⟩:VM) i=((⟨pos,halted,(Bz ((AC i.op stk).2.1) [(BT i.op x82.n x84.n)]).2,g,told,vals⟩:VM),(Bz ((AC i.op stk).2.1) [(BT i.op x82.n x84.n)]).1):=by
     rw [CR (m:=(⟨pos,halted,stk,g,told,vals⟩:VM)) h4,HA (by omega)]
     rw [BH hx83,BH hx85]<;>rfl
   exact Ag ⟨s89,tv,vv,by rw [e]<;>rfl,by rw [e]<;>exact CN.refl _ _ _,by rw [e]<;>rfl⟩ H
  exact absurd h75 h76
 refine Ac (V U U (AT U U U) (Ab U (Aa (Y ?_))))
 refine Aq U (fun h90=>?_) (fun h90=>?_)
 ·have hks:(AW i.op).size=2:=by rw [h90];rfl
  refine Z ?_
  obtain ⟨A91,c92,rfl,hc93,hm94,hp95⟩:=H.fA 2 rfl
  obtain ⟨x96,hx97⟩:∃ z9,((AC i.op stk).2.2)[0]?=some z9:=⟨_,List.getElem?_eq_getElem (show 0<((AC i.op stk).2.2).length by omega)⟩
  have okx96:=hok.1 _ (hN.2.2.1 _ (Bl hx97))
  have szx96:=okx96.2
  have inx96:=okx96.1
  obtain ⟨x98,hx99⟩:∃ z9,((AC i.op stk).2.2)[1]?=some z9:=⟨_,List.getElem?_eq_getElem (show 1<((AC i.op stk).2.2).length by omega)⟩
  have okx98:=hok.1 _ (hN.2.2.1 _ (Bl hx99))
  have szx98:=okx98.2
  have inx98:=okx98.1
  replace H:=H.p5.p5.p5.p5
  refine BD (.e 0 (.e 1 (.e 2 (.e 3 (.e 4 (.e 5 (.e 6 (.e 7 (.e 8 (.e 9 (.e 10 (.m 11 (.m 12 (.m 13 (.e 14 .z))))))))))))))) (fun w=>∃ Ar,Hd w0 F0 w (Ae A5 (.slice A91 (((AC i.op stk).2.2).length) c92) ((AC i.op stk).2.2)::blk b1 [.int .i64 i.op,.int .i64 i.a,.string i.s] 223::Ae Al tv told::Du mb::Ar) [Af AZ vv vals,gl]) mo (by kernel_rfl) (fun w H=>⟨_,H⟩) H (fun w H=>(Ap U (Ak U U U (fun w ⟨Ar,H⟩=>Ah U Ce U) (Ak U U U (fun w ⟨Ar,H⟩=>Aj U Aw U (H.cellI 1 U U)) (Ap U ?_)))))
  have th100:=H.thA 0 rfl hx97
  refine Ak U U U (fun w ⟨Ar,H⟩=>AG (p:=AA A91+0*3) U A8 U U (by omega) (by omega) th100 (by omega)) (Ak U U U (fun w ⟨Ar,H⟩=>Ah U CO U) (Ak U U U (fun w ⟨Ar,H⟩=>Aj U Cw U (H.elA 0 U hx97 (q:=1) U U)) (Ap U ?_)))
  have th101:=H.thA 0 rfl hx99
  refine Ak U U U (fun w ⟨Ar,H⟩=>AG (p:=AA A91+1*3) U A8 U U (by omega) (by omega) th101 (by omega)) (Ak U U U (fun w ⟨Ar,H⟩=>Ah U CO U) (Ak U U U (fun w ⟨Ar,H⟩=>Aj U Cw U (H.elA 0 U hx99 (q:=1) U U)) (AL U (sc (J9 i.op x96.n x98.n) H l0 U U (At JS U U) ?_))))
  rintro _ _ w ⟨rfl,rfl⟩ H
  refine AH ⟨_,H⟩ (AL U (Bv (parts:=[(0,.tmp 92)]) (vs:=[.agg #[.bool ((BT i.op x96.n x98.n).t),.int .i64 ((BT i.op x96.n x98.n).n),.string ((BT i.op x96.n x98.n).b)]]) (cs:=[.bool ((BT i.op x96.n x98.n).t),.int .i64 ((BT i.op x96.n x98.n).n),.string ((BT i.op x96.n x98.n).b)]) U U U A8 BV U (by decide) (by decide) U U H (fun b102 w H=>?_)))
  replace H:=H.p4|>.p4|>.p4|>.p4
  refine AH ⟨_,H⟩ (AL U ?_)
  replace H:=H.p6.p6
  refine sc (D2 r pv key vv fuel pos steps halted s3 g tv (.map (some mb)) ((AC i.op stk).2.1) (.slice (some ⟨b102,0,none⟩) 1 1) [(BT i.op x96.n x98.n)] (by first |omega|exact Nat.le_trans hN.2.1 hst) (Nat.le_of_ble_eq_true U)) H (lA 4 U (fun F h=>BZ h rfl (by decide) (AX.flat_eq.2 U)) l0) U U (At D1 U U) ?_
  rintro _ _ w ⟨s103,rfl,rfl⟩ H
  replace H:=H.p5|>.p5|>.p5|>.p5
  refine AH ⟨_,H⟩ (Ap U (Bx (Y (Ai (Ax (Ao (Am U U ?_)))))))
  replace H:=H.p3.p3.p5.p5.k4
  have e:BC dg key (⟨pos,halted,stk,g,told,vals⟩:VM) i=((⟨pos,halted,(Bz ((AC i.op stk).2.1) [(BT i.op x96.n x98.n)]).2,g,told,vals⟩:VM),(Bz ((AC i.op stk).2.1) [(BT i.op x96.n x98.n)]).1):=by
    rw [CR (m:=(⟨pos,halted,stk,g,told,vals⟩:VM)) h4,HA (by omega)]
    rw [BH hx97,BH hx99]<;>rfl
  exact Ag ⟨s103,tv,vv,by rw [e]<;>rfl,by rw [e]<;>exact CN.refl _ _ _,by rw [e]<;>rfl⟩ H
 refine Z (Ac (V U U (AT U U U) (Ab U (Aa (Y ?_)))))
 refine Aq U (fun h104=>?_) (fun h104=>?_)
 ·have hks:(AW i.op).size=2:=by rw [h104];rfl
  refine Z ?_
  obtain ⟨A105,c106,rfl,hc107,hm108,hp109⟩:=H.fA 2 rfl
  obtain ⟨x110,hx111⟩:∃ z9,((AC i.op stk).2.2)[0]?=some z9:=⟨_,List.getElem?_eq_getElem (show 0<((AC i.op stk).2.2).length by omega)⟩
  have okx110:=hok.1 _ (hN.2.2.1 _ (Bl hx111))
  have szx110:=okx110.2
  have inx110:=okx110.1
  obtain ⟨x112,hx113⟩:∃ z9,((AC i.op stk).2.2)[1]?=some z9:=⟨_,List.getElem?_eq_getElem (show 1<((AC i.op stk).2.2).length by omega)⟩
  have okx112:=hok.1 _ (hN.2.2.1 _ (Bl hx113))
  have szx112:=okx112.2
  have inx112:=okx112.1
  replace H:=H.p5.p5.p5.p5
  refine BD (.e 0 (.e 1 (.e 2 (.e 3 (.e 4 (.e 5 (.e 6 (.m 7 (.m 8 (.m 9 (.m 10 (.e 11 .z)))))))))))) (fun w=>∃ Ar,Hd w0 F0 w (Ae A5 (.slice A105 (((AC i.op stk).2.2).length) c106) ((AC i.op stk).2.2)::blk b1 [.int .i64 i.op,.int .i64 i.a,.string i.s] 223::Ae Al tv told::Du mb::Ar) [Af AZ vv vals,gl]) mo (by kernel_rfl) (fun w H=>⟨_,H⟩) H (fun w H=>(Ap U (Ap U ?_)))
  have th114:=H.thA 0 rfl hx111
  refine Ak U U U (fun w ⟨Ar,H⟩=>AG (p:=AA A105+0*3) U A8 U U (by omega) (by omega) th114 (by omega)) (Ak U U U (fun w ⟨Ar,H⟩=>Bp (cs:=[.bool x110.t,.int .i64 x110.n,.string x110.b]) U B5 U U (H.elsA 0 U hx111 U)) (Ap U ?_))
  have th115:=H.thA 0 rfl hx113
  refine Ak U U U (fun w ⟨Ar,H⟩=>AG (p:=AA A105+1*3) U A8 U U (by omega) (by omega) th115 (by omega)) (Ak U U U (fun w ⟨Ar,H⟩=>Bp (cs:=[.bool x112.t,.int .i64 x112.n,.string x112.b]) U B5 U U (H.elsA 0 U hx113 U)) (AL U (sc (aM x110 x112) H l0 U U (At VQ U U) ?_)))
  rintro _ _ w ⟨rfl,rfl⟩ H
  refine AH ⟨_,H⟩ (AL U (sc (Qq (Dj x110 x112)) H l0 U U (At Pz U U) ?_))
  rintro _ _ w ⟨rfl,rfl⟩ H
  refine AH ⟨_,H⟩ (AL U (Bv (parts:=[(0,.tmp 105)]) (vs:=[.agg #[.bool false,.int .i64 (if (Dj x110 x112)=true then 1 else 0),.string ⟨#[]⟩]]) (cs:=[.bool false,.int .i64 (if (Dj x110 x112)=true then 1 else 0),.string ⟨#[]⟩]) U U U A8 BV U (by decide) (by decide) U U H (fun b116 w H=>?_)))
  replace H:=H.p4|>.p4|>.p4|>.p4
  refine AH ⟨_,H⟩ (AL U ?_)
  replace H:=H.p6.p6
  refine sc (D2 r pv key vv fuel pos steps halted s3 g tv (.map (some mb)) ((AC i.op stk).2.1) (.slice (some ⟨b116,0,none⟩) 1 1) [(⟨false,if (Dj x110 x112)=true then 1 else 0,⟨#[]⟩⟩:Az)] (by first |omega|exact Nat.le_trans hN.2.1 hst) (Nat.le_of_ble_eq_true U)) H (lA 4 U (fun F h=>BZ h rfl (by decide) (AX.flat_eq.2 U)) l0) U U (At D1 U U) ?_
  rintro _ _ w ⟨s117,rfl,rfl⟩ H
  replace H:=H.p5|>.p5|>.p5|>.p5
  refine AH ⟨_,H⟩ (Ap U (Bx (Y (Ai (Ax (Ao (Am U U ?_)))))))
  replace H:=H.p3.p3.p5.p5.k4
  have e:BC dg key (⟨pos,halted,stk,g,told,vals⟩:VM) i=((⟨pos,halted,(Bz ((AC i.op stk).2.1) [(⟨false,if (Dj x110 x112)=true then 1 else 0,⟨#[]⟩⟩:Az)]).2,g,told,vals⟩:VM),(Bz ((AC i.op stk).2.1) [(⟨false,if (Dj x110 x112)=true then 1 else 0,⟨#[]⟩⟩:Az)]).1):=by
    rw [CR (m:=(⟨pos,halted,stk,g,told,vals⟩:VM)) h4,KX h104]
    rw [BH hx111,BH hx113]<;>rfl
  exact Ag ⟨s117,tv,vv,by rw [e]<;>rfl,by rw [e]<;>exact CN.refl _ _ _,by rw [e]<;>rfl⟩ H
 refine Z (Ac (V U U (AT U U U) (Ab U (Aa (Y ?_)))))
 refine Aq U (fun h118=>?_) (fun h118=>?_)
 ·have hks:(AW i.op).size=2:=by rw [h118];rfl
  refine Z ?_
  obtain ⟨A119,c120,rfl,hc121,hm122,hp123⟩:=H.fA 2 rfl
  obtain ⟨x124,hx125⟩:∃ z9,((AC i.op stk).2.2)[0]?=some z9:=⟨_,List.getElem?_eq_getElem (show 0<((AC i.op stk).2.2).length by omega)⟩
  have okx124:=hok.1 _ (hN.2.2.1 _ (Bl hx125))
  have szx124:=okx124.2
  have inx124:=okx124.1
  obtain ⟨x126,hx127⟩:∃ z9,((AC i.op stk).2.2)[1]?=some z9:=⟨_,List.getElem?_eq_getElem (show 1<((AC i.op stk).2.2).length by omega)⟩
  have okx126:=hok.1 _ (hN.2.2.1 _ (Bl hx127))
  have szx126:=okx126.2
  have inx126:=okx126.1
  replace H:=H.p5.p5.p5.p5
  refine BD (.e 0 (.e 1 (.e 2 (.e 3 (.e 4 (.e 5 (.e 6 (.e 7 (.e 8 (.e 9 (.m 10 (.m 11 (.m 12 (.e 13 .z)))))))))))))) (fun w=>∃ Ar,Hd w0 F0 w (Ae A5 (.slice A119 (((AC i.op stk).2.2).length) c120) ((AC i.op stk).2.2)::blk b1 [.int .i64 i.op,.int .i64 i.a,.string i.s] 223::Ae Al tv told::Du mb::Ar) [Af AZ vv vals,gl]) mo (by kernel_rfl) (fun w H=>⟨_,H⟩) H (fun w H=>(Ap U (Ap U ?_)))
  have th128:=H.thA 0 rfl hx125
  refine Ak U U U (fun w ⟨Ar,H⟩=>AG (p:=AA A119+0*3) U A8 U U (by omega) (by omega) th128 (by omega)) (Ak U U U (fun w ⟨Ar,H⟩=>Ah U De U) (Ak U U U (fun w ⟨Ar,H⟩=>Aj U Bd U (H.elA 0 U hx125 (q:=2) U U)) (Ap U ?_)))
  have th129:=H.thA 0 rfl hx127
  refine Ak U U U (fun w ⟨Ar,H⟩=>AG (p:=AA A119+1*3) U A8 U U (by omega) (by omega) th129 (by omega)) (Ak U U U (fun w ⟨Ar,H⟩=>Ah U De U) (Ak U U U (fun w ⟨Ar,H⟩=>Aj U Bd U (H.elA 0 U hx127 (q:=2) U U)) (Ak U U U (fun w ⟨Ar,H⟩=>Kc U U U (by omega)) (AL U (sc (Ih (x124.b++x126.b)) H l0 U U (At HN U U) ?_)))))
  rintro _ _ w ⟨rfl,rfl⟩ H
  refine AH ⟨_,H⟩ (AL U (Bv (parts:=[(0,.tmp 120)]) (vs:=[.agg #[.bool true,.int .i64 0,.string (x124.b++x126.b)]]) (cs:=[.bool true,.int .i64 0,.string (x124.b++x126.b)]) U U U A8 BV U (by decide) (by decide) U U H (fun b130 w H=>?_)))
  replace H:=H.p4|>.p4|>.p4|>.p4
  refine AH ⟨_,H⟩ (AL U ?_)
  replace H:=H.p6.p6
  refine sc (D2 r pv key vv fuel pos steps halted s3 g tv (.map (some mb)) ((AC i.op stk).2.1) (.slice (some ⟨b130,0,none⟩) 1 1) [(⟨true,0,(x124.b++x126.b)⟩:Az)] (by first |omega|exact Nat.le_trans hN.2.1 hst) (Nat.le_of_ble_eq_true U)) H (lA 4 U (fun F h=>BZ h rfl (by decide) (AX.flat_eq.2 U)) l0) U U (At D1 U U) ?_
  rintro _ _ w ⟨s131,rfl,rfl⟩ H
  replace H:=H.p5|>.p5|>.p5|>.p5
  refine AH ⟨_,H⟩ (Ap U (Bx (Y (Ai (Ax (Ao (Am U U ?_)))))))
  replace H:=H.p3.p3.p5.p5.k4
  have e:BC dg key (⟨pos,halted,stk,g,told,vals⟩:VM) i=((⟨pos,halted,(Bz ((AC i.op stk).2.1) [(⟨true,0,(x124.b++x126.b)⟩:Az)]).2,g,told,vals⟩:VM),(Bz ((AC i.op stk).2.1) [(⟨true,0,(x124.b++x126.b)⟩:Az)]).1):=by
    rw [CR (m:=(⟨pos,halted,stk,g,told,vals⟩:VM)) h4,KY h118]
    rw [BH hx125,BH hx127]<;>rfl
  exact Ag ⟨s131,tv,vv,by rw [e]<;>rfl,by rw [e]<;>exact CN.refl _ _ _,by rw [e]<;>rfl⟩ H
 refine Z (Ac (V U U (AT U U U) (Ab U (Aa (Y ?_)))))
 refine Aq U (fun h132=>?_) (fun h132=>?_)
 ·have hks:(AW i.op).size=1:=by rw [h132];rfl
  refine Z ?_
  obtain ⟨A133,c134,rfl,hc135,hm136,hp137⟩:=H.fA 2 rfl
  obtain ⟨x138,hx139⟩:∃ z9,((AC i.op stk).2.2)[0]?=some z9:=⟨_,List.getElem?_eq_getElem (show 0<((AC i.op stk).2.2).length by omega)⟩
  have okx138:=hok.1 _ (hN.2.2.1 _ (Bl hx139))
  have szx138:=okx138.2
  have inx138:=okx138.1
  refine Ac (Ad 2 U ?_)
  have th140:=H.thA 2 rfl hx139
  refine V U U (AG (p:=AA A133+0*3) U A8 U U (by omega) (by omega) th140 (by omega)) (V U U (Ah U De U) (V U U (Aj U Bd U (H.elA 2 U hx139 (q:=2) U U)) (V U U (Cl U BJ U) (sc (FS ((x138.b.size:Nat):Int)) H l0 U U (At FD U U) ?_))))
  rintro _ _ w ⟨rfl,rfl⟩ H
  refine Bv (parts:=[(0,.tmp 131)]) (vs:=[.agg #[.bool false,.int .i64 ((x138.b.size:Nat):Int),.string ⟨#[]⟩]]) (cs:=[.bool false,.int .i64 ((x138.b.size:Nat):Int),.string ⟨#[]⟩]) U U U A8 BV U (by decide) (by decide) U U H (fun b141 w H=>?_)
  replace H:=H.p2.p2
  refine sc (D2 r pv key vv fuel pos steps halted s3 g tv (.map (some mb)) ((AC i.op stk).2.1) (.slice (some ⟨b141,0,none⟩) 1 1) [(⟨false,((x138.b.size:Nat):Int),⟨#[]⟩⟩:Az)] (by first |omega|exact Nat.le_trans hN.2.1 hst) (Nat.le_of_ble_eq_true U)) H (lA 0 U (fun F h=>BZ h rfl (by decide) (AX.flat_eq.2 U)) l0) U U (At D1 U U) ?_
  rintro _ _ w ⟨s142,rfl,rfl⟩ H
  refine Ab U (Aa (Y (Ai (Ax (Ao (Am U U ?_))))))
  replace H:=H.p6.p6.p3.p3.k4
  have e:BC dg key (⟨pos,halted,stk,g,told,vals⟩:VM) i=((⟨pos,halted,(Bz ((AC i.op stk).2.1) [(⟨false,((x138.b.size:Nat):Int),⟨#[]⟩⟩:Az)]).2,g,told,vals⟩:VM),(Bz ((AC i.op stk).2.1) [(⟨false,((x138.b.size:Nat):Int),⟨#[]⟩⟩:Az)]).1):=by
    rw [CR (m:=(⟨pos,halted,stk,g,told,vals⟩:VM)) h4,KZ h132]
    rw [BH hx139]<;>rfl
  exact Ag ⟨s142,tv,vv,by rw [e]<;>rfl,by rw [e]<;>exact CN.refl _ _ _,by rw [e]<;>rfl⟩ H
 refine Z (Ac (V U U (AT U U U) (Ab U (Aa (Y ?_)))))
 refine Aq U (fun h143=>?_) (fun h143=>?_)
 ·have hks:(AW i.op).size=2:=by rw [h143];rfl
  refine Z ?_
  obtain ⟨A144,c145,rfl,hc146,hm147,hp148⟩:=H.fA 2 rfl
  obtain ⟨x149,hx150⟩:∃ z9,((AC i.op stk).2.2)[0]?=some z9:=⟨_,List.getElem?_eq_getElem (show 0<((AC i.op stk).2.2).length by omega)⟩
  have okx149:=hok.1 _ (hN.2.2.1 _ (Bl hx150))
  have szx149:=okx149.2
  have inx149:=okx149.1
  obtain ⟨x151,hx152⟩:∃ z9,((AC i.op stk).2.2)[1]?=some z9:=⟨_,List.getElem?_eq_getElem (show 1<((AC i.op stk).2.2).length by omega)⟩
  have okx151:=hok.1 _ (hN.2.2.1 _ (Bl hx152))
  have szx151:=okx151.2
  have inx151:=okx151.1
  replace H:=H.p5.p5.p5.p5
  refine BD (.e 0 (.e 1 (.e 2 (.e 3 (.e 4 (.e 5 (.e 6 (.e 7 (.e 8 (.m 9 (.m 10 (.m 11 (.m 12 (.e 13 .z)))))))))))))) (fun w=>∃ Ar,Hd w0 F0 w (Ae A5 (.slice A144 (((AC i.op stk).2.2).length) c145) ((AC i.op stk).2.2)::blk b1 [.int .i64 i.op,.int .i64 i.a,.string i.s] 223::Ae Al tv told::Du mb::Ar) [Af AZ vv vals,gl]) mo (by kernel_rfl) (fun w H=>⟨_,H⟩) H (fun w H=>(Ap U (Ap U ?_)))
  have th153:=H.thA 0 rfl hx150
  refine Ak U U U (fun w ⟨Ar,H⟩=>AG (p:=AA A144+0*3) U A8 U U (by omega) (by omega) th153 (by omega)) (Ak U U U (fun w ⟨Ar,H⟩=>Ah U De U) (Ak U U U (fun w ⟨Ar,H⟩=>Aj U Bd U (H.elA 0 U hx150 (q:=2) U U)) (Ap U ?_)))
  have th154:=H.thA 0 rfl hx152
  refine Ak U U U (fun w ⟨Ar,H⟩=>AG (p:=AA A144+1*3) U A8 U U (by omega) (by omega) th154 (by omega)) (Ak U U U (fun w ⟨Ar,H⟩=>Ah U CO U) (Ak U U U (fun w ⟨Ar,H⟩=>Aj U Cw U (H.elA 0 U hx152 (q:=1) U U)) (AL U (sc (aH x149.b x151.n) H l0 U U (At VR U U) ?_))))
  rintro _ _ w ⟨rfl,rfl⟩ H
  refine AH ⟨_,H⟩ (AL U (sc (FS (DB x149.b x151.n)) H l0 U U (At FD U U) ?_))
  rintro _ _ w ⟨rfl,rfl⟩ H
  refine AH ⟨_,H⟩ (AL U (Bv (parts:=[(0,.tmp 146)]) (vs:=[.agg #[.bool false,.int .i64 (DB x149.b x151.n),.string ⟨#[]⟩]]) (cs:=[.bool false,.int .i64 (DB x149.b x151.n),.string ⟨#[]⟩]) U U U A8 BV U (by decide) (by decide) U U H (fun b155 w H=>?_)))
  replace H:=H.p4|>.p4|>.p4|>.p4
  refine AH ⟨_,H⟩ (AL U ?_)
  replace H:=H.p6.p6
  refine sc (D2 r pv key vv fuel pos steps halted s3 g tv (.map (some mb)) ((AC i.op stk).2.1) (.slice (some ⟨b155,0,none⟩) 1 1) [(⟨false,DB x149.b x151.n,⟨#[]⟩⟩:Az)] (by first |omega|exact Nat.le_trans hN.2.1 hst) (Nat.le_of_ble_eq_true U)) H (lA 4 U (fun F h=>BZ h rfl (by decide) (AX.flat_eq.2 U)) l0) U U (At D1 U U) ?_
  rintro _ _ w ⟨s156,rfl,rfl⟩ H
  replace H:=H.p5|>.p5|>.p5|>.p5
  refine AH ⟨_,H⟩ (Ap U (Bx (Y (Ai (Ax (Ao (Am U U ?_)))))))
  replace H:=H.p3.p3.p5.p5.k4
  have e:BC dg key (⟨pos,halted,stk,g,told,vals⟩:VM) i=((⟨pos,halted,(Bz ((AC i.op stk).2.1) [(⟨false,DB x149.b x151.n,⟨#[]⟩⟩:Az)]).2,g,told,vals⟩:VM),(Bz ((AC i.op stk).2.1) [(⟨false,DB x149.b x151.n,⟨#[]⟩⟩:Az)]).1):=by
    rw [CR (m:=(⟨pos,halted,stk,g,told,vals⟩:VM)) h4,K0 h143]
    rw [BH hx150,BH hx152]<;>rfl
  exact Ag ⟨s156,tv,vv,by rw [e]<;>rfl,by rw [e]<;>exact CN.refl _ _ _,by rw [e]<;>rfl⟩ H
 refine Z (Ac (V U U (AT U U U) (Ab U (Aa (Y ?_)))))
 refine Aq U (fun h157=>?_) (fun h157=>?_)
 ·have hks:(AW i.op).size=3:=by rw [h157];rfl
  refine Z ?_
  obtain ⟨A158,c159,rfl,hc160,hm161,hp162⟩:=H.fA 2 rfl
  obtain ⟨x163,hx164⟩:∃ z9,((AC i.op stk).2.2)[0]?=some z9:=⟨_,List.getElem?_eq_getElem (show 0<((AC i.op stk).2.2).length by omega)⟩
  have okx163:=hok.1 _ (hN.2.2.1 _ (Bl hx164))
  have szx163:=okx163.2
  have inx163:=okx163.1
  obtain ⟨x165,hx166⟩:∃ z9,((AC i.op stk).2.2)[1]?=some z9:=⟨_,List.getElem?_eq_getElem (show 1<((AC i.op stk).2.2).length by omega)⟩
  have okx165:=hok.1 _ (hN.2.2.1 _ (Bl hx166))
  have szx165:=okx165.2
  have inx165:=okx165.1
  obtain ⟨x167,hx168⟩:∃ z9,((AC i.op stk).2.2)[2]?=some z9:=⟨_,List.getElem?_eq_getElem (show 2<((AC i.op stk).2.2).length by omega)⟩
  have okx167:=hok.1 _ (hN.2.2.1 _ (Bl hx168))
  have szx167:=okx167.2
  have inx167:=okx167.1
  replace H:=H.p5.p5.p5.p5
  refine BD (.e 0 (.e 1 (.e 2 (.e 3 (.e 4 (.e 5 (.e 6 (.e 7 (.e 8 (.e 9 (.e 10 (.e 11 (.e 12 (.m 13 (.m 14 (.m 15 (.m 16 (.e 17 .z)))))))))))))))))) (fun w=>∃ Ar,Hd w0 F0 w (Ae A5 (.slice A158 (((AC i.op stk).2.2).length) c159) ((AC i.op stk).2.2)::blk b1 [.int .i64 i.op,.int .i64 i.a,.string i.s] 223::Ae Al tv told::Du mb::Ar) [Af AZ vv vals,gl]) mo (by kernel_rfl) (fun w H=>⟨_,H⟩) H (fun w H=>(Ap U (Ap U ?_)))
  have th169:=H.thA 0 rfl hx164
  refine Ak U U U (fun w ⟨Ar,H⟩=>AG (p:=AA A158+0*3) U A8 U U (by omega) (by omega) th169 (by omega)) (Ak U U U (fun w ⟨Ar,H⟩=>Ah U De U) (Ak U U U (fun w ⟨Ar,H⟩=>Aj U Bd U (H.elA 0 U hx164 (q:=2) U U)) (Ap U ?_)))
  have th170:=H.thA 0 rfl hx166
  refine Ak U U U (fun w ⟨Ar,H⟩=>AG (p:=AA A158+1*3) U A8 U U (by omega) (by omega) th170 (by omega)) (Ak U U U (fun w ⟨Ar,H⟩=>Ah U CO U) (Ak U U U (fun w ⟨Ar,H⟩=>Aj U Cw U (H.elA 0 U hx166 (q:=1) U U)) (Ap U ?_)))
  have th171:=H.thA 0 rfl hx168
  refine Ak U U U (fun w ⟨Ar,H⟩=>AG (p:=AA A158+2*3) U A8 U U (by omega) (by omega) th171 (by omega)) (Ak U U U (fun w ⟨Ar,H⟩=>Ah U CO U) (Ak U U U (fun w ⟨Ar,H⟩=>Aj U Cw U (H.elA 0 U hx168 (q:=1) U U)) (AL U (sc (aI x163.b x165.n x167.n) H l0 U U (At VS U U) ?_))))
  rintro _ _ w ⟨rfl,rfl⟩ H
  refine AH ⟨_,H⟩ (AL U (sc (Ih (Ee x163.b x165.n x167.n)) H l0 U U (At HN U U) ?_))
  rintro _ _ w ⟨rfl,rfl⟩ H
  refine AH ⟨_,H⟩ (AL U (Bv (parts:=[(0,.tmp 165)]) (vs:=[.agg #[.bool true,.int .i64 0,.string (Ee x163.b x165.n x167.n)]]) (cs:=[.bool true,.int .i64 0,.string (Ee x163.b x165.n x167.n)]) U U U A8 BV U (by decide) (by decide) U U H (fun b172 w H=>?_)))
  replace H:=H.p4|>.p4|>.p4|>.p4
  refine AH ⟨_,H⟩ (AL U ?_)
  replace H:=H.p6.p6
  refine sc (D2 r pv key vv fuel pos steps halted s3 g tv (.map (some mb)) ((AC i.op stk).2.1) (.slice (some ⟨b172,0,none⟩) 1 1) [(⟨true,0,(Ee x163.b x165.n x167.n)⟩:Az)] (by first |omega|exact Nat.le_trans hN.2.1 hst) (Nat.le_of_ble_eq_true U)) H (lA 4 U (fun F h=>BZ h rfl (by decide) (AX.flat_eq.2 U)) l0) U U (At D1 U U) ?_
  rintro _ _ w ⟨s173,rfl,rfl⟩ H
  replace H:=H.p5|>.p5|>.p5|>.p5
  refine AH ⟨_,H⟩ (Ap U (Bx (Y (Ai (Ax (Ao (Am U U ?_)))))))
  replace H:=H.p3.p3.p5.p5.k4
  have e:BC dg key (⟨pos,halted,stk,g,told,vals⟩:VM) i=((⟨pos,halted,(Bz ((AC i.op stk).2.1) [(⟨true,0,(Ee x163.b x165.n x167.n)⟩:Az)]).2,g,told,vals⟩:VM),(Bz ((AC i.op stk).2.1) [(⟨true,0,(Ee x163.b x165.n x167.n)⟩:Az)]).1):=by
    rw [CR (m:=(⟨pos,halted,stk,g,told,vals⟩:VM)) h4,K5 h157]
    rw [BH hx164,BH hx166,BH hx168]<;>rfl
  exact Ag ⟨s173,tv,vv,by rw [e]<;>rfl,by rw [e]<;>exact CN.refl _ _ _,by rw [e]<;>rfl⟩ H
 refine Z (Ac (V U U (AT U U U) (Ab U (Aa (Y ?_)))))
 refine Aq U (fun h174=>?_) (fun h174=>?_)
 ·have hks:(AW i.op).size=1:=by rw [h174];rfl
  refine Z ?_
  obtain ⟨A175,c176,rfl,hc177,hm178,hp179⟩:=H.fA 2 rfl
  obtain ⟨x180,hx181⟩:∃ z9,((AC i.op stk).2.2)[0]?=some z9:=⟨_,List.getElem?_eq_getElem (show 0<((AC i.op stk).2.2).length by omega)⟩
  have okx180:=hok.1 _ (hN.2.2.1 _ (Bl hx181))
  have szx180:=okx180.2
  have inx180:=okx180.1
  refine Ac (Ad 3 U ?_)
  have th182:=H.thA 2 rfl hx181
  refine V U U (AG (p:=AA A175+0*3) U A8 U U (by omega) (by omega) th182 (by omega)) (V U U (Ah U CO U) (V U U (Aj U Cw U (H.elA 2 U hx181 (q:=1) U U)) ?_))
  replace H:=H.p5
  refine sc (Z1 r pv key vv fuel pos steps halted s3 g tv mb x180.n (by assumption)) H (lA 0 U (fun _ h=>h) (lR 1 U l0)) U U (At VT U U) ?_
  rintro _ _ w ⟨rfl,rfl⟩ H
  refine sc (Ih (dg.dig x180.n)) H l0 U U (At HN U U) ?_
  rintro _ _ w ⟨rfl,rfl⟩ H
  refine Bv (parts:=[(0,.tmp 177)]) (vs:=[.agg #[.bool true,.int .i64 0,.string (dg.dig x180.n)]]) (cs:=[.bool true,.int .i64 0,.string (dg.dig x180.n)]) U U U A8 BV U (by decide) (by decide) U U H (fun b183 w H=>?_)
  replace H:=H.p3|>.p3
  refine sc (D2 r pv key vv fuel pos steps halted s3 g tv (.map (some mb)) ((AC i.op stk).2.1) (.slice (some ⟨b183,0,none⟩) 1 1) [(⟨true,0,(dg.dig x180.n)⟩:Az)] (by first |omega|exact Nat.le_trans hN.2.1 hst) (Nat.le_of_ble_eq_true U)) H (lA 0 U (fun F h=>BZ h rfl (by decide) (AX.flat_eq.2 U)) l0) U U (At D1 U U) ?_
  rintro _ _ w ⟨s184,rfl,rfl⟩ H
  refine Ab U (Aa (Y (Ai (Ax (Ao (Am U U ?_))))))
  replace H:=H.p3.p6.p3.p3.k4
  have e:BC dg key (⟨pos,halted,stk,g,told,vals⟩:VM) i=((⟨pos,halted,(Bz ((AC i.op stk).2.1) [(⟨true,0,(dg.dig x180.n)⟩:Az)]).2,g,told,vals⟩:VM),(Bz ((AC i.op stk).2.1) [(⟨true,0,(dg.dig x180.n)⟩:Az)]).1):=by
    rw [CR (m:=(⟨pos,halted,stk,g,told,vals⟩:VM)) h4,K6 h174]
    rw [BH hx181]<;>rfl
  exact Ag ⟨s184,tv,vv,by rw [e]<;>rfl,by rw [e]<;>exact CN.refl _ _ _,by rw [e]<;>rfl⟩ H
 refine Z (Ac (V U U (AT U U U) (Ab U (Aa (Y ?_)))))
 refine Aq U (fun h185=>?_) (fun h185=>?_)
 ·have hks:(AW i.op).size=1:=by rw [h185];rfl
  refine Z ?_
  obtain ⟨A186,c187,rfl,hc188,hm189,hp190⟩:=H.fA 2 rfl
  obtain ⟨x191,hx192⟩:∃ z9,((AC i.op stk).2.2)[0]?=some z9:=⟨_,List.getElem?_eq_getElem (show 0<((AC i.op stk).2.2).length by omega)⟩
  have okx191:=hok.1 _ (hN.2.2.1 _ (Bl hx192))
  have szx191:=okx191.2
  have inx191:=okx191.1
  refine Ac (Ad 2 U ?_)
  have th193:=H.thA 2 rfl hx192
  refine V U U (AG (p:=AA A186+0*3) U A8 U U (by omega) (by omega) th193 (by omega)) (V U U (Ah U De U) (V U U (Aj U Bd U (H.elA 2 U hx192 (q:=2) U U)) (sc (Xj x191.b (by omega)) H (lR 1 U l0) U U (At VU U U) ?_)))
  rintro _ _ w ⟨rfl,rfl⟩ H
  refine sc (FS (dg.num x191.b)) H l0 U U (At FD U U) ?_
  rintro _ _ w ⟨rfl,rfl⟩ H
  refine Bv (parts:=[(0,.tmp 188)]) (vs:=[.agg #[.bool false,.int .i64 (dg.num x191.b),.string ⟨#[]⟩]]) (cs:=[.bool false,.int .i64 (dg.num x191.b),.string ⟨#[]⟩]) U U U A8 BV U (by decide) (by decide) U U H (fun b194 w H=>?_)
  replace H:=H.p2.p2
  refine sc (D2 r pv key vv fuel pos steps halted s3 g tv (.map (some mb)) ((AC i.op stk).2.1) (.slice (some ⟨b194,0,none⟩) 1 1) [(⟨false,dg.num x191.b,⟨#[]⟩⟩:Az)] (by first |omega|exact Nat.le_trans hN.2.1 hst) (Nat.le_of_ble_eq_true U)) H (lA 0 U (fun F h=>BZ h rfl (by decide) (AX.flat_eq.2 U)) l0) U U (At D1 U U) ?_
  rintro _ _ w ⟨s195,rfl,rfl⟩ H
  refine Ab U (Aa (Y (Ai (Ax (Ao (Am U U ?_))))))
  replace H:=H.p6.p6.p3.p3.k4
  have e:BC dg key (⟨pos,halted,stk,g,told,vals⟩:VM) i=((⟨pos,halted,(Bz ((AC i.op stk).2.1) [(⟨false,dg.num x191.b,⟨#[]⟩⟩:Az)]).2,g,told,vals⟩:VM),(Bz ((AC i.op stk).2.1) [(⟨false,dg.num x191.b,⟨#[]⟩⟩:Az)]).1):=by
    rw [CR (m:=(⟨pos,halted,stk,g,told,vals⟩:VM)) h4,K7 h185]
    rw [BH hx192]<;>rfl
  exact Ag ⟨s195,tv,vv,by rw [e]<;>rfl,by rw [e]<;>exact CN.refl _ _ _,by rw [e]<;>rfl⟩ H
 refine Z (Ac (V U U (AT U U U) (Ab U (Aa (Y ?_)))))
 refine Aq U (fun h196=>?_) (fun h196=>?_)
 ·have hks:(AW i.op).size=0:=by rw [h196];rfl
  refine Ac (Ab U (V U U (Ah U Cg U) (V U U (Aj U Aw U (H.cellI 3 U U)) (V U U (AI U U) (V U U (Ah U HJ U) (By U U U Aw U U H U (Nat.le_of_ble_eq_true U) (fun u hu=>by simp [Value.cells] at hu;subst hu;rfl) (fun w H=>(Aa (AS (Y (Z (Ac (Ab U (Aa (Y (Ai (Am U U ?_)))))))))))))))))
  replace H:=H.p5.p5.p3.p3.k4
  have e:BC dg key (⟨pos,halted,stk,g,told,vals⟩:VM) i=((⟨i.a,halted,(AC i.op stk).2.1,g,told,vals⟩:VM),0):=by
    rw [CR (m:=(⟨pos,halted,stk,g,told,vals⟩:VM)) h4,K8 h196]
    all_goals rfl
  exact Ag ⟨s3,tv,vv,by rw [e]<;>rfl,by rw [e]<;>exact CN.refl _ _ _,by rw [e]<;>rfl⟩ H
 refine Z (Ac (V U U (AT U U U) (Ab U (Aa (Y ?_)))))
 refine Aq U (fun h197=>?_) (fun h197=>?_)
 ·have hks:(AW i.op).size=1:=by rw [h197];rfl
  refine Z ?_
  obtain ⟨A198,c199,rfl,hc200,hm201,hp202⟩:=H.fA 2 rfl
  obtain ⟨x203,hx204⟩:∃ z9,((AC i.op stk).2.2)[0]?=some z9:=⟨_,List.getElem?_eq_getElem (show 0<((AC i.op stk).2.2).length by omega)⟩
  have okx203:=hok.1 _ (hN.2.2.1 _ (Bl hx204))
  have szx203:=okx203.2
  have inx203:=okx203.1
  refine Ac (Ab U ?_)
  have th205:=H.thA 2 rfl hx204
  refine V U U (AG (p:=AA A198+0*3) U A8 U U (by omega) (by omega) th205 (by omega)) (V U U (Ah U CO U) (V U U (Aj U Cw U (H.elA 2 U hx204 (q:=1) U U)) (V U U (CL U U U) (Aa (Y ?_)))))
  refine Aq U (fun h206=>?_) (fun h206=>?_)
  ·refine Ac (Ab U (V U U (Ah U Cg U) (V U U (Aj U Aw U (H.cellI 3 U U)) (V U U (AI U U) (V U U (Ah U HJ U) (By U U U Aw U U H U (Nat.le_of_ble_eq_true U) (fun u hu=>by simp [Value.cells] at hu;subst hu;rfl) (fun w H=>(Aa (AS (Y (Z (Ac (Ab U (Aa (Y (Ai (Am U U ?_)))))))))))))))))
   replace H:=H.p5.p5.p3.p3.k4
   have e:BC dg key (⟨pos,halted,stk,g,told,vals⟩:VM) i=((⟨i.a,halted,(AC i.op stk).2.1,g,told,vals⟩:VM),0):=by
     rw [CR (m:=(⟨pos,halted,stk,g,told,vals⟩:VM)) h4,Io h197]
     rw [BH hx204,if_pos h206]
   exact Ag ⟨s3,tv,vv,by rw [e]<;>rfl,by rw [e]<;>exact CN.refl _ _ _,by rw [e]<;>rfl⟩ H
  refine Av (AS (Y (Z (Ac (Ab U (Aa (Y (Ai (Am U U ?_)))))))))
  replace H:=H.p5.p5.p3.p3.k4
  have e:BC dg key (⟨pos,halted,stk,g,told,vals⟩:VM) i=((⟨pos,halted,(AC i.op stk).2.1,g,told,vals⟩:VM),0):=by
    rw [CR (m:=(⟨pos,halted,stk,g,told,vals⟩:VM)) h4,Io h197]
    rw [BH hx204,if_neg h206]
  exact Ag ⟨s3,tv,vv,by rw [e]<;>rfl,by rw [e]<;>exact CN.refl _ _ _,by rw [e]<;>rfl⟩ H
 refine Z (Ac (V U U (AT U U U) (Ab U (Aa (Y ?_)))))
 refine Aq U (fun h207=>?_) (fun h207=>?_)
 ·have hks:(AW i.op).size=0:=by rw [h207];rfl
  refine Z ?_
  have hia:=hi.2.2.2.2.2.1 (by omega)
  obtain ⟨gk,hgk⟩:∃ z,z=g (i.a).toNat:=⟨_,rfl⟩
  replace H:=H.p5.p5.p5.p5
  refine BD (.e 0 (.e 1 (.e 2 (.e 3 (.e 4 (.e 5 (.e 6 (.m 7 (.m 8 (.m 9 (.e 10 .z))))))))))) (fun w=>∃ Ar,Hd w0 F0 w (Ae A5 u2 ((AC i.op stk).2.2)::blk b1 [.int .i64 i.op,.int .i64 i.a,.string i.s] 223::Ae Al tv told::Du mb::Ar) [Af AZ vv vals,gl]) mo (by kernel_rfl) (fun w H=>⟨_,H⟩) H (fun w H=>(Ap U (Ap U (Ak U U U (fun w ⟨Ar,H⟩=>Ah U Cg U) (Ak U U U (fun w ⟨Ar,H⟩=>Aj U Aw U (H.cellI 1 U U)) (Ak U U U (fun w ⟨Ar,H⟩=>AI U U) (Ak U U U (fun w ⟨Ar,H⟩=>Ah U OA U) (Ak U U U (fun w ⟨Ar,H⟩=>IO (p:=8+(i.a).toNat*3) U KH JO U U (by omega) (by omega) (by omega)) (AL U (V U U (Bp (cs:=[.bool gk.t,.int .i64 gk.n,.string gk.b]) U B5 U U (H.cellsI 4 U (by rw [hgk];exact Y1 (by omega)))) (AH ⟨_,H⟩ (AL U (Bv (parts:=[(0,.tmp 219)]) (vs:=[.agg #[.bool gk.t,.int .i64 gk.n,.string gk.b]]) (cs:=[.bool gk.t,.int .i64 gk.n,.string gk.b]) U U U A8 BV U (by decide) (by decide) U U H (fun b208 w H=>?_))))))))))))))
  replace H:=H.p4|>.p4|>.p4|>.p4
  refine AH ⟨_,H⟩ (AL U ?_)
  replace H:=H.p6.p6
  refine sc (D2 r pv key vv fuel pos steps halted s3 g tv (.map (some mb)) ((AC i.op stk).2.1) (.slice (some ⟨b208,0,none⟩) 1 1) [gk] (by first |omega|exact Nat.le_trans hN.2.1 hst) (Nat.le_of_ble_eq_true U)) H (lA 4 U (fun F h=>BZ h rfl (by decide) (AX.flat_eq.2 U)) l0) U U (At D1 U U) ?_
  rintro _ _ w ⟨s209,rfl,rfl⟩ H
  replace H:=H.p5|>.p5|>.p5|>.p5
  refine AH ⟨_,H⟩ (Ap U (Bx (Y (Ai (Ax (Ao (Am U U ?_)))))))
  replace H:=H.p3.p3.p5.p5.k4
  have e:BC dg key (⟨pos,halted,stk,g,told,vals⟩:VM) i=((⟨pos,halted,(Bz ((AC i.op stk).2.1) [gk]).2,g,told,vals⟩:VM),(Bz ((AC i.op stk).2.1) [gk]).1):=by
    rw [CR (m:=(⟨pos,halted,stk,g,told,vals⟩:VM)) h4,K_ h207]
    rw [show gk=g i.a.toNat from hgk]<;>rfl
  exact Ag ⟨s209,tv,vv,by rw [e]<;>rfl,by rw [e]<;>exact CN.refl _ _ _,by rw [e]<;>rfl⟩ H
 refine Z (Ac (V U U (AT U U U) (Ab U (Aa (Y ?_)))))
 refine Aq U (fun h210=>?_) (fun h210=>?_)
 ·have hks:(AW i.op).size=1:=by rw [h210];rfl
  have hia:=hi.2.2.2.2.2.1 (by omega)
  obtain ⟨A211,c212,rfl,hc213,hm214,hp215⟩:=H.fA 2 rfl
  obtain ⟨x216,hx217⟩:∃ z9,((AC i.op stk).2.2)[0]?=some z9:=⟨_,List.getElem?_eq_getElem (show 0<((AC i.op stk).2.2).length by omega)⟩
  have okx216:=hok.1 _ (hN.2.2.1 _ (Bl hx217))
  have szx216:=okx216.2
  have inx216:=okx216.1
  replace H:=H.p5.p5.p5.p5.p5
  refine BD (.e 0 (.e 1 (.e 2 (.e 3 (.e 4 (.e 5 (.e 6 (.e 7 (.e 8 (.m 9 .z)))))))))) (fun w=>∃ Ar,Hd w0 F0 w (Ae A5 s3 ((AC i.op stk).2.1)::Ae A5 (.slice A211 (((AC i.op stk).2.2).length) c212) ((AC i.op stk).2.2)::blk b1 [.int .i64 i.op,.int .i64 i.a,.string i.s] 223::Ae Al tv told::Du mb::Ar) [Af AZ vv vals,gl]) mo (by kernel_rfl) (fun w H=>⟨_,H⟩) H (fun w H=>(Ap U (Ak U U U (fun w ⟨Ar,H⟩=>Ah U Cg U) (Ak U U U (fun w ⟨Ar,H⟩=>Aj U Aw U (H.cellI 2 U U)) (Ap U ?_)))))
  have th218:=H.thA 1 rfl hx217
  refine Ak U U U (fun w ⟨Ar,H⟩=>AG (p:=AA A211+0*3) U A8 U U (by omega) (by omega) th218 (by omega)) (Ak U U U (fun w ⟨Ar,H⟩=>Bp (cs:=[.bool x216.t,.int .i64 x216.n,.string x216.b]) U B5 U U (H.elsA 1 U hx217 U)) (Ak U U U (fun w ⟨Ar,H⟩=>AI U U) (Ak U U U (fun w ⟨Ar,H⟩=>Ah U OA U) (Ak U U U (fun w ⟨Ar,H⟩=>IO (p:=8+(i.a).toNat*3) U KH JO U U (by omega) (by omega) (by omega)) (AL U ?_)))))
  replace H:=H.p5
  refine By U U U B5 U U H U (by show 8+(i.a).toNat*3+3≤34;omega) (fun u hu=>by simp [Value.cells] at hu;rcases hu with rfl|rfl|rfl<;>rfl) (fun w H=>?_)
  replace H:Hd w0 F0 w [blk r (Di pv key vv fuel pos steps halted s3 (Ga g i.a.toNat x216) tv (.map (some mb))) 288,Ae A5 s3 ((AC i.op stk).2.1),Ae A5 (.slice A211 (((AC i.op stk).2.2).length) c212) ((AC i.op stk).2.2),blk b1 [.int .i64 i.op,.int .i64 i.a,.string i.s] 223,Ae Al tv told,Du mb] [Af AZ vv vals,gl]:=by rw [←Y2 (show i.a.toNat<8 by omega) x216];exact H
  replace H:=H.p5.p5.p5.p5.p5
  refine AH ⟨_,H⟩ (Bx (AS (Y (Z (Ac (Ab U (Aa (Y (Ai (Am U U ?_))))))))))
  replace H:=H.p4.p4.p2.p5.k4
  have e:BC dg key (⟨pos,halted,stk,g,told,vals⟩:VM) i=((⟨pos,halted,(AC i.op stk).2.1,Ga g i.a.toNat x216,told,vals⟩:VM),0):=by
    rw [CR (m:=(⟨pos,halted,stk,g,told,vals⟩:VM)) h4,La h210]
    rw [BH hx217]<;>rfl
  exact Ag ⟨s3,tv,vv,by rw [e]<;>rfl,by rw [e]<;>exact CN.refl _ _ _,by rw [e]<;>rfl⟩ H
 refine Z (Ac (V U U (AT U U U) (Ab U (Aa (Y ?_)))))
 refine Aq U (fun h219=>?_) (fun h219=>?_)
 ·have hks:(AW i.op).size=2:=by rw [h219];rfl
  refine Z ?_
  obtain ⟨A220,c221,rfl,hc222,hm223,hp224⟩:=H.fA 2 rfl
  obtain ⟨x225,hx226⟩:∃ z9,((AC i.op stk).2.2)[0]?=some z9:=⟨_,List.getElem?_eq_getElem (show 0<((AC i.op stk).2.2).length by omega)⟩
  have okx225:=hok.1 _ (hN.2.2.1 _ (Bl hx226))
  have szx225:=okx225.2
  have inx225:=okx225.1
  obtain ⟨x227,hx228⟩:∃ z9,((AC i.op stk).2.2)[1]?=some z9:=⟨_,List.getElem?_eq_getElem (show 1<((AC i.op stk).2.2).length by omega)⟩
  have okx227:=hok.1 _ (hN.2.2.1 _ (Bl hx228))
  have szx227:=okx227.2
  have inx227:=okx227.1
  replace H:=H.p5.p4.p4.p4
  refine BD (.e 0 (.e 1 (.e 2 (.e 3 (.e 4 (.e 5 (.e 6 (.e 7 (.e 8 (.m 9 (.e 10 .z))))))))))) (fun w=>∃ Ar,Hd w0 F0 w (Ae A5 s3 ((AC i.op stk).2.1)::Ae A5 (.slice A220 (((AC i.op stk).2.2).length) c221) ((AC i.op stk).2.2)::blk b1 [.int .i64 i.op,.int .i64 i.a,.string i.s] 223::Du mb::Ar) [Af AZ vv vals,gl]) mo (by kernel_rfl) (fun w H=>⟨_,H⟩) H (fun w H=>(Ap U (Ap U ?_)))
  have th229:=H.thA 1 rfl hx226
  refine Ak U U U (fun w ⟨Ar,H⟩=>AG (p:=AA A220+0*3) U A8 U U (by omega) (by omega) th229 (by omega)) (Ak U U U (fun w ⟨Ar,H⟩=>Ah U De U) (Ak U U U (fun w ⟨Ar,H⟩=>Aj U Bd U (H.elA 1 U hx226 (q:=2) U U)) (Ap U ?_)))
  have th230:=H.thA 1 rfl hx228
  refine Ak U U U (fun w ⟨Ar,H⟩=>AG (p:=AA A220+1*3) U A8 U U (by omega) (by omega) th230 (by omega)) (Ak U U U (fun w ⟨Ar,H⟩=>Ah U De U) (Ak U U U (fun w ⟨Ar,H⟩=>Aj U Bd U (H.elA 1 U hx228 (q:=2) U U)) (AL U ?_)))
  replace H:=H.p5.p5
  refine sc (TT r pv key vv fuel pos steps halted s3 g tv (.map (some mb)) told x225.b x227.b (by omega)) H l0 U U (At VV U U) ?_
  rintro _ _ w ⟨t231,rfl,rfl⟩ H
  replace H:=H.p5|>.p5|>.p5|>.p5
  refine AH ⟨_,H⟩ (Ap U (Bx (Y (Ai (Ax (Ao (Am U U ?_)))))))
  replace H:=H.p3.p5.p2.p5.k4
  have e:BC dg key (⟨pos,halted,stk,g,told,vals⟩:VM) i=((⟨pos,halted,(AC i.op stk).2.1,g,(C_ told x225.b x227.b).2,vals⟩:VM),(C_ told x225.b x227.b).1):=by
    rw [CR (m:=(⟨pos,halted,stk,g,told,vals⟩:VM)) h4,Lb h219]
    rw [BH hx226,BH hx228]<;>rfl
  exact Ag ⟨s3,t231,vv,by rw [e]<;>rfl,by rw [e]<;>exact CN.refl _ _ _,by rw [e]<;>rfl⟩ H
 refine Av (AS (Y (Z (Ac (Ab U (Aa (Y (Ai (Am U U ?_)))))))))
 replace H:=H.p5.p5.p3.p3.k4
 have hop:i.op=4:=by have:=hi.1;have:=hi.2.1;omega
 have e:BC dg key (⟨pos,halted,stk,g,told,vals⟩:VM) i=((⟨pos,halted,(AC i.op stk).2.1,g,told,vals⟩:VM),0):=by
   rw [CR (m:=(⟨pos,halted,stk,g,told,vals⟩:VM)) h4,Ld hop]
   all_goals rfl
 exact Ag ⟨s3,tv,vv,by rw [e]<;>rfl,by rw [e]<;>exact CN.refl _ _ _,by rw [e]<;>rfl⟩ H
theorem X0 (p:Bm) (n:Int):
    Cn Tryz.prog 224 [.agg #[.int .i64 p.op,.int .i64 p.a,.string p.s],.int .i64 n] [] [] (fun v Bs=>v=.bool (decide (Bf p n))∧Bs=[]):=by
 intro w0 F0 H
 refine enter Tryz.func224 U U (Nat.le_of_ble_eq_true U) (Z (Ac (B4 U U U U H (fun b1 w H=>(Ab U (Aa (Y (Z (Ac (Ad 3 U (Aa (Y (Z (Z (Ac (V U U (Ah U Ce U) (V U U (Aj U Aw U (H.cellI 0 U U)) (Aa (Y (AK (Z (Ac (V U U (AT U U U) (Ab U (Aa (Y ?_))))))))))))))))))))))))))
 refine Aq U (fun h2=>?_) (fun h2=>?_)
 ·refine Z (Ac (V U U (Ah U Dx U) (V U U (Aj U Bd U (H.cellI 0 U U)) (V U U (EB U U U) (Ab U (Aa (Y (Ai (Ax (Ao (Am U U ?_)))))))))))
  replace H:=H.nil
  exact Ag ⟨congrArg Value.bool (decide_eq_decide.2 (by rw [He];unfold Bf;omega)),rfl⟩ H
 refine Z (Ac (V U U (AT U U U) (Ab U (Aa (Y ?_)))))
 refine Aq U (fun h3=>?_) (fun h3=>?_)
 ·refine Ac (Ab U (Aa (AS (Y (Z (Ac (V U U (Ah U Ce U) (V U U (Aj U Aw U (H.cellI 0 U U)) (V U U (BN U U U) (Ab U ?_))))))))))
  refine AD (d:=27) U (fun h4=>?_) (fun h4=>?_)
  ·refine V U U (Ah U Ce U) (V U U (Aj U Aw U (H.cellI 0 U U)) (V U U (BX U U U) (Ad 2 U ?_)))
   refine AD (d:=32) U (fun h5=>?_) (fun h5=>?_)
   ·refine V U U (Ah U Cg U) (V U U (Aj U Aw U (H.cellI 0 U U)) (Ab U (V U U (BN U U U) (Ad 2 U ?_))))
    refine AD (d:=38) U (fun h6=>?_) (fun h6=>?_)
    ·refine V U U (Ah U Cg U) (V U U (Aj U Aw U (H.cellI 0 U U)) (Ab U (V U U (BX U U U) (Ad 2 U ?_))))
     refine AD (d:=44) U (fun h7=>?_) (fun h7=>?_)
     ·refine V U U (Ah U Dx U) (V U U (Aj U Bd U (H.cellI 0 U U)) (V U U (Cl U BJ U) (Ab U (V U U (BX U U U) (Ad 2 U (Aa (Y (Ai (Am U U ?_)))))))))
      replace H:=H.nil
      exact Ag ⟨congrArg Value.bool (decide_eq_decide.2 (by unfold Bf;omega)),rfl⟩ H
     refine Ad 7 U (Aa (Y (Ai (Am U U ?_))))
     replace H:=H.nil
     exact Ag ⟨congrArg Value.bool (decide_eq_false (by unfold Bf;omega)).symm,rfl⟩ H
    refine Ad 12 U (Ab U (Aa (Y (Ai (Am U U ?_)))))
    replace H:=H.nil
    exact Ag ⟨congrArg Value.bool (decide_eq_false (by unfold Bf;omega)).symm,rfl⟩ H
   refine Ad 12 U (Ad 7 U (Aa (Y (Ai (Am U U ?_)))))
   replace H:=H.nil
   exact Ag ⟨congrArg Value.bool (decide_eq_false (by unfold Bf;omega)).symm,rfl⟩ H
  refine Ad 12 U (Ad 12 U (Aa (Y (Ai (Am U U ?_)))))
  replace H:=H.nil
  exact Ag ⟨congrArg Value.bool (decide_eq_false (by unfold Bf;omega)).symm,rfl⟩ H
 refine Z (Z (Ac (V U U (AT U U U) (Ab U (Aa (Y ?_))))))
 refine Aq U (fun h8=>?_) (fun h8=>?_)
 ·refine Av (Y ?_)
  refine Aq U (fun h9=>?_) (fun h9=>?_)
  ·refine Ac (Ad 2 U (Aa (AS (Y (Z (Ac (V U U (Ah U Ce U) (V U U (Aj U Aw U (H.cellI 0 U U)) (V U U (BN U U U) (Ab U ?_))))))))))
   refine AD (d:=27) U (fun h10=>?_) (fun h10=>?_)
   ·refine V U U (Ah U Ce U) (V U U (Aj U Aw U (H.cellI 0 U U)) (V U U (BX U U U) (Ad 2 U ?_)))
    refine AD (d:=32) U (fun h11=>?_) (fun h11=>?_)
    ·refine V U U (Ah U Cg U) (V U U (Aj U Aw U (H.cellI 0 U U)) (Ab U (V U U (BN U U U) (Ad 2 U ?_))))
     refine AD (d:=38) U (fun h12=>?_) (fun h12=>?_)
     ·refine V U U (Ah U Cg U) (V U U (Aj U Aw U (H.cellI 0 U U)) (Ab U (V U U (BX U U U) (Ad 2 U ?_))))
      refine AD (d:=44) U (fun h13=>?_) (fun h13=>?_)
      ·refine V U U (Ah U Dx U) (V U U (Aj U Bd U (H.cellI 0 U U)) (V U U (Cl U BJ U) (Ab U (V U U (BX U U U) (Ad 2 U (Aa (Y (Ai (Am U U ?_)))))))))
       replace H:=H.nil
       exact Ag ⟨congrArg Value.bool (decide_eq_decide.2 (by unfold Bf;omega)),rfl⟩ H
      refine Ad 7 U (Aa (Y (Ai (Am U U ?_))))
      replace H:=H.nil
      exact Ag ⟨congrArg Value.bool (decide_eq_false (by unfold Bf;omega)).symm,rfl⟩ H
     refine Ad 12 U (Ab U (Aa (Y (Ai (Am U U ?_)))))
     replace H:=H.nil
     exact Ag ⟨congrArg Value.bool (decide_eq_false (by unfold Bf;omega)).symm,rfl⟩ H
    refine Ad 12 U (Ad 7 U (Aa (Y (Ai (Am U U ?_)))))
    replace H:=H.nil
    exact Ag ⟨congrArg Value.bool (decide_eq_false (by unfold Bf;omega)).symm,rfl⟩ H
   refine Ad 12 U (Ad 12 U (Aa (Y (Ai (Am U U ?_)))))
   replace H:=H.nil
   exact Ag ⟨congrArg Value.bool (decide_eq_false (by unfold Bf;omega)).symm,rfl⟩ H
  refine Z (Z (Ac (V U U (AT U U U) (Ab U (Aa (Y ?_))))))
  refine Aq U (fun h14=>?_) (fun h14=>?_)
  ·refine Av (Y ?_)
   refine Aq U (fun h15=>?_) (fun h15=>?_)
   ·refine Ac (Ab U (Aa (AS (Y (Z (Ac (V U U (Ah U Ce U) (V U U (Aj U Aw U (H.cellI 0 U U)) (V U U (BN U U U) (Ab U ?_))))))))))
    refine AD (d:=27) U (fun h16=>?_) (fun h16=>?_)
    ·refine V U U (Ah U Ce U) (V U U (Aj U Aw U (H.cellI 0 U U)) (V U U (BX U U U) (Ad 2 U ?_)))
     refine AD (d:=32) U (fun h17=>?_) (fun h17=>?_)
     ·refine V U U (Ah U Cg U) (V U U (Aj U Aw U (H.cellI 0 U U)) (Ab U (V U U (BN U U U) (Ad 2 U ?_))))
      refine AD (d:=38) U (fun h18=>?_) (fun h18=>?_)
      ·refine V U U (Ah U Cg U) (V U U (Aj U Aw U (H.cellI 0 U U)) (Ab U (V U U (BX U U U) (Ad 2 U ?_))))
       refine AD (d:=44) U (fun h19=>?_) (fun h19=>?_)
       ·refine V U U (Ah U Dx U) (V U U (Aj U Bd U (H.cellI 0 U U)) (V U U (Cl U BJ U) (Ab U (V U U (BX U U U) (Ad 2 U (Aa (Y (Ai (Am U U ?_)))))))))
        replace H:=H.nil
        exact Ag ⟨congrArg Value.bool (decide_eq_decide.2 (by unfold Bf;omega)),rfl⟩ H
       refine Ad 7 U (Aa (Y (Ai (Am U U ?_))))
       replace H:=H.nil
       exact Ag ⟨congrArg Value.bool (decide_eq_false (by unfold Bf;omega)).symm,rfl⟩ H
      refine Ad 12 U (Ab U (Aa (Y (Ai (Am U U ?_)))))
      replace H:=H.nil
      exact Ag ⟨congrArg Value.bool (decide_eq_false (by unfold Bf;omega)).symm,rfl⟩ H
     refine Ad 12 U (Ad 7 U (Aa (Y (Ai (Am U U ?_)))))
     replace H:=H.nil
     exact Ag ⟨congrArg Value.bool (decide_eq_false (by unfold Bf;omega)).symm,rfl⟩ H
    refine Ad 12 U (Ad 12 U (Aa (Y (Ai (Am U U ?_)))))
    replace H:=H.nil
    exact Ag ⟨congrArg Value.bool (decide_eq_false (by unfold Bf;omega)).symm,rfl⟩ H
   refine Av (AS (Y (Z (Ac (V U U (Ah U Ce U) (V U U (Aj U Aw U (H.cellI 0 U U)) (V U U (BN U U U) (Ab U ?_))))))))
   refine AD (d:=27) U (fun h20=>?_) (fun h20=>?_)
   ·refine V U U (Ah U Ce U) (V U U (Aj U Aw U (H.cellI 0 U U)) (V U U (BX U U U) (Ad 2 U ?_)))
    refine AD (d:=32) U (fun h21=>?_) (fun h21=>?_)
    ·refine V U U (Ah U Cg U) (V U U (Aj U Aw U (H.cellI 0 U U)) (Ab U (V U U (BN U U U) (Ad 2 U ?_))))
     refine AD (d:=38) U (fun h22=>?_) (fun h22=>?_)
     ·refine V U U (Ah U Cg U) (V U U (Aj U Aw U (H.cellI 0 U U)) (Ab U (V U U (BX U U U) (Ad 2 U ?_))))
      refine AD (d:=44) U (fun h23=>?_) (fun h23=>?_)
      ·refine V U U (Ah U Dx U) (V U U (Aj U Bd U (H.cellI 0 U U)) (V U U (Cl U BJ U) (Ab U (V U U (BX U U U) (Ad 2 U (Aa (Y (Ai (Am U U ?_)))))))))
       replace H:=H.nil
       exact Ag ⟨congrArg Value.bool (decide_eq_decide.2 (by unfold Bf;omega)),rfl⟩ H
      refine Ad 7 U (Aa (Y (Ai (Am U U ?_))))
      replace H:=H.nil
      exact Ag ⟨congrArg Value.bool (decide_eq_false (by unfold Bf;omega)).symm,rfl⟩ H
     refine Ad 12 U (Ab U (Aa (Y (Ai (Am U U ?_)))))
     replace H:=H.nil
     exact Ag ⟨congrArg Value.bool (decide_eq_false (by unfold Bf;omega)).symm,rfl⟩ H
    refine Ad 12 U (Ad 7 U (Aa (Y (Ai (Am U U ?_)))))
    replace H:=H.nil
    exact Ag ⟨congrArg Value.bool (decide_eq_false (by unfold Bf;omega)).symm,rfl⟩ H
   refine Ad 12 U (Ad 12 U (Aa (Y (Ai (Am U U ?_)))))
   replace H:=H.nil
   exact Ag ⟨congrArg Value.bool (decide_eq_false (by unfold Bf;omega)).symm,rfl⟩ H
  refine Ac (V U U (AT U U U) (Ab U (Aa (Y ?_))))
  refine Aq U (fun h24=>?_) (fun h24=>?_)
  ·refine Ac (Ab U (Aa (AS (Y (Z (Ac (V U U (Ah U Ce U) (V U U (Aj U Aw U (H.cellI 0 U U)) (V U U (BN U U U) (Ab U ?_))))))))))
   refine AD (d:=27) U (fun h25=>?_) (fun h25=>?_)
   ·refine V U U (Ah U Ce U) (V U U (Aj U Aw U (H.cellI 0 U U)) (V U U (BX U U U) (Ad 2 U ?_)))
    refine AD (d:=32) U (fun h26=>?_) (fun h26=>?_)
    ·refine V U U (Ah U Cg U) (V U U (Aj U Aw U (H.cellI 0 U U)) (Ab U (V U U (BN U U U) (Ad 2 U ?_))))
     refine AD (d:=38) U (fun h27=>?_) (fun h27=>?_)
     ·refine V U U (Ah U Cg U) (V U U (Aj U Aw U (H.cellI 0 U U)) (Ab U (V U U (BX U U U) (Ad 2 U ?_))))
      refine AD (d:=44) U (fun h28=>?_) (fun h28=>?_)
      ·refine V U U (Ah U Dx U) (V U U (Aj U Bd U (H.cellI 0 U U)) (V U U (Cl U BJ U) (Ab U (V U U (BX U U U) (Ad 2 U (Aa (Y (Ai (Am U U ?_)))))))))
       replace H:=H.nil
       exact Ag ⟨congrArg Value.bool (decide_eq_decide.2 (by unfold Bf;omega)),rfl⟩ H
      refine Ad 7 U (Aa (Y (Ai (Am U U ?_))))
      replace H:=H.nil
      exact Ag ⟨congrArg Value.bool (decide_eq_false (by unfold Bf;omega)).symm,rfl⟩ H
     refine Ad 12 U (Ab U (Aa (Y (Ai (Am U U ?_)))))
     replace H:=H.nil
     exact Ag ⟨congrArg Value.bool (decide_eq_false (by unfold Bf;omega)).symm,rfl⟩ H
    refine Ad 12 U (Ad 7 U (Aa (Y (Ai (Am U U ?_)))))
    replace H:=H.nil
    exact Ag ⟨congrArg Value.bool (decide_eq_false (by unfold Bf;omega)).symm,rfl⟩ H
   refine Ad 12 U (Ad 12 U (Aa (Y (Ai (Am U U ?_)))))
   replace H:=H.nil
   exact Ag ⟨congrArg Value.bool (decide_eq_false (by unfold Bf;omega)).symm,rfl⟩ H
  refine Av (AS (Y (Z (Ac (V U U (Ah U Ce U) (V U U (Aj U Aw U (H.cellI 0 U U)) (V U U (BN U U U) (Ab U ?_))))))))
  refine AD (d:=27) U (fun h29=>?_) (fun h29=>?_)
  ·refine V U U (Ah U Ce U) (V U U (Aj U Aw U (H.cellI 0 U U)) (V U U (BX U U U) (Ad 2 U ?_)))
   refine AD (d:=32) U (fun h30=>?_) (fun h30=>?_)
   ·refine V U U (Ah U Cg U) (V U U (Aj U Aw U (H.cellI 0 U U)) (Ab U (V U U (BN U U U) (Ad 2 U ?_))))
    refine AD (d:=38) U (fun h31=>?_) (fun h31=>?_)
    ·refine V U U (Ah U Cg U) (V U U (Aj U Aw U (H.cellI 0 U U)) (Ab U (V U U (BX U U U) (Ad 2 U ?_))))
     refine AD (d:=44) U (fun h32=>?_) (fun h32=>?_)
     ·refine V U U (Ah U Dx U) (V U U (Aj U Bd U (H.cellI 0 U U)) (V U U (Cl U BJ U) (Ab U (V U U (BX U U U) (Ad 2 U (Aa (Y (Ai (Am U U ?_)))))))))
      replace H:=H.nil
      exact Ag ⟨congrArg Value.bool (decide_eq_decide.2 (by unfold Bf;omega)),rfl⟩ H
     refine Ad 7 U (Aa (Y (Ai (Am U U ?_))))
     replace H:=H.nil
     exact Ag ⟨congrArg Value.bool (decide_eq_false (by unfold Bf;omega)).symm,rfl⟩ H
    refine Ad 12 U (Ab U (Aa (Y (Ai (Am U U ?_)))))
    replace H:=H.nil
    exact Ag ⟨congrArg Value.bool (decide_eq_false (by unfold Bf;omega)).symm,rfl⟩ H
   refine Ad 12 U (Ad 7 U (Aa (Y (Ai (Am U U ?_)))))
   replace H:=H.nil
   exact Ag ⟨congrArg Value.bool (decide_eq_false (by unfold Bf;omega)).symm,rfl⟩ H
  refine Ad 12 U (Ad 12 U (Aa (Y (Ai (Am U U ?_)))))
  replace H:=H.nil
  exact Ag ⟨congrArg Value.bool (decide_eq_false (by unfold Bf;omega)).symm,rfl⟩ H
 refine Ac (V U U (AT U U U) (Ab U (Aa (Y ?_))))
 refine Aq U (fun h33=>?_) (fun h33=>?_)
 ·refine Ac (Ad 2 U (Aa (AS (Y (Z (Ac (V U U (Ah U Ce U) (V U U (Aj U Aw U (H.cellI 0 U U)) (V U U (BN U U U) (Ab U ?_))))))))))
  refine AD (d:=27) U (fun h34=>?_) (fun h34=>?_)
  ·refine V U U (Ah U Ce U) (V U U (Aj U Aw U (H.cellI 0 U U)) (V U U (BX U U U) (Ad 2 U ?_)))
   refine AD (d:=32) U (fun h35=>?_) (fun h35=>?_)
   ·refine V U U (Ah U Cg U) (V U U (Aj U Aw U (H.cellI 0 U U)) (Ab U (V U U (BN U U U) (Ad 2 U ?_))))
    refine AD (d:=38) U (fun h36=>?_) (fun h36=>?_)
    ·refine V U U (Ah U Cg U) (V U U (Aj U Aw U (H.cellI 0 U U)) (Ab U (V U U (BX U U U) (Ad 2 U ?_))))
     refine AD (d:=44) U (fun h37=>?_) (fun h37=>?_)
     ·refine V U U (Ah U Dx U) (V U U (Aj U Bd U (H.cellI 0 U U)) (V U U (Cl U BJ U) (Ab U (V U U (BX U U U) (Ad 2 U (Aa (Y (Ai (Am U U ?_)))))))))
      replace H:=H.nil
      exact Ag ⟨congrArg Value.bool (decide_eq_decide.2 (by unfold Bf;omega)),rfl⟩ H
     refine Ad 7 U (Aa (Y (Ai (Am U U ?_))))
     replace H:=H.nil
     exact Ag ⟨congrArg Value.bool (decide_eq_false (by unfold Bf;omega)).symm,rfl⟩ H
    refine Ad 12 U (Ab U (Aa (Y (Ai (Am U U ?_)))))
    replace H:=H.nil
    exact Ag ⟨congrArg Value.bool (decide_eq_false (by unfold Bf;omega)).symm,rfl⟩ H
   refine Ad 12 U (Ad 7 U (Aa (Y (Ai (Am U U ?_)))))
   replace H:=H.nil
   exact Ag ⟨congrArg Value.bool (decide_eq_false (by unfold Bf;omega)).symm,rfl⟩ H
  refine Ad 12 U (Ad 12 U (Aa (Y (Ai (Am U U ?_)))))
  replace H:=H.nil
  exact Ag ⟨congrArg Value.bool (decide_eq_false (by unfold Bf;omega)).symm,rfl⟩ H
 refine Z (Z (Ac (V U U (AT U U U) (Ab U (Aa (Y ?_))))))
 refine Aq U (fun h38=>?_) (fun h38=>?_)
 ·refine Av (Y ?_)
  refine Aq U (fun h39=>?_) (fun h39=>?_)
  ·refine Ac (Ab U (Aa (AS (Y (Z (Ac (V U U (Ah U Ce U) (V U U (Aj U Aw U (H.cellI 0 U U)) (V U U (BN U U U) (Ab U ?_))))))))))
   refine AD (d:=27) U (fun h40=>?_) (fun h40=>?_)
   ·refine V U U (Ah U Ce U) (V U U (Aj U Aw U (H.cellI 0 U U)) (V U U (BX U U U) (Ad 2 U ?_)))
    refine AD (d:=32) U (fun h41=>?_) (fun h41=>?_)
    ·refine V U U (Ah U Cg U) (V U U (Aj U Aw U (H.cellI 0 U U)) (Ab U (V U U (BN U U U) (Ad 2 U ?_))))
     refine AD (d:=38) U (fun h42=>?_) (fun h42=>?_)
     ·refine V U U (Ah U Cg U) (V U U (Aj U Aw U (H.cellI 0 U U)) (Ab U (V U U (BX U U U) (Ad 2 U ?_))))
      refine AD (d:=44) U (fun h43=>?_) (fun h43=>?_)
      ·refine V U U (Ah U Dx U) (V U U (Aj U Bd U (H.cellI 0 U U)) (V U U (Cl U BJ U) (Ab U (V U U (BX U U U) (Ad 2 U (Aa (Y (Ai (Am U U ?_)))))))))
       replace H:=H.nil
       exact Ag ⟨congrArg Value.bool (decide_eq_decide.2 (by unfold Bf;omega)),rfl⟩ H
      refine Ad 7 U (Aa (Y (Ai (Am U U ?_))))
      replace H:=H.nil
      exact Ag ⟨congrArg Value.bool (decide_eq_false (by unfold Bf;omega)).symm,rfl⟩ H
     refine Ad 12 U (Ab U (Aa (Y (Ai (Am U U ?_)))))
     replace H:=H.nil
     exact Ag ⟨congrArg Value.bool (decide_eq_false (by unfold Bf;omega)).symm,rfl⟩ H
    refine Ad 12 U (Ad 7 U (Aa (Y (Ai (Am U U ?_)))))
    replace H:=H.nil
    exact Ag ⟨congrArg Value.bool (decide_eq_false (by unfold Bf;omega)).symm,rfl⟩ H
   refine Ad 12 U (Ad 12 U (Aa (Y (Ai (Am U U ?_)))))
   replace H:=H.nil
   exact Ag ⟨congrArg Value.bool (decide_eq_false (by unfold Bf;omega)).symm,rfl⟩ H
  refine Av (AS (Y (Z (Ac (V U U (Ah U Ce U) (V U U (Aj U Aw U (H.cellI 0 U U)) (V U U (BN U U U) (Ab U ?_))))))))
  refine AD (d:=27) U (fun h44=>?_) (fun h44=>?_)
  ·refine V U U (Ah U Ce U) (V U U (Aj U Aw U (H.cellI 0 U U)) (V U U (BX U U U) (Ad 2 U ?_)))
   refine AD (d:=32) U (fun h45=>?_) (fun h45=>?_)
   ·refine V U U (Ah U Cg U) (V U U (Aj U Aw U (H.cellI 0 U U)) (Ab U (V U U (BN U U U) (Ad 2 U ?_))))
    refine AD (d:=38) U (fun h46=>?_) (fun h46=>?_)
    ·refine V U U (Ah U Cg U) (V U U (Aj U Aw U (H.cellI 0 U U)) (Ab U (V U U (BX U U U) (Ad 2 U ?_))))
     refine AD (d:=44) U (fun h47=>?_) (fun h47=>?_)
     ·refine V U U (Ah U Dx U) (V U U (Aj U Bd U (H.cellI 0 U U)) (V U U (Cl U BJ U) (Ab U (V U U (BX U U U) (Ad 2 U (Aa (Y (Ai (Am U U ?_)))))))))
      replace H:=H.nil
      exact Ag ⟨congrArg Value.bool (decide_eq_decide.2 (by unfold Bf;omega)),rfl⟩ H
     refine Ad 7 U (Aa (Y (Ai (Am U U ?_))))
     replace H:=H.nil
     exact Ag ⟨congrArg Value.bool (decide_eq_false (by unfold Bf;omega)).symm,rfl⟩ H
    refine Ad 12 U (Ab U (Aa (Y (Ai (Am U U ?_)))))
    replace H:=H.nil
    exact Ag ⟨congrArg Value.bool (decide_eq_false (by unfold Bf;omega)).symm,rfl⟩ H
   refine Ad 12 U (Ad 7 U (Aa (Y (Ai (Am U U ?_)))))
   replace H:=H.nil
   exact Ag ⟨congrArg Value.bool (decide_eq_false (by unfold Bf;omega)).symm,rfl⟩ H
  refine Ad 12 U (Ad 12 U (Aa (Y (Ai (Am U U ?_)))))
  replace H:=H.nil
  exact Ag ⟨congrArg Value.bool (decide_eq_false (by unfold Bf;omega)).symm,rfl⟩ H
 refine Ac (V U U (AT U U U) (Ab U (Aa (Y ?_))))
 refine Aq U (fun h48=>?_) (fun h48=>?_)
 ·refine Ac (Ab U (Aa (AS (Y (Z (Ac (V U U (Ah U Ce U) (V U U (Aj U Aw U (H.cellI 0 U U)) (V U U (BN U U U) (Ab U ?_))))))))))
  refine AD (d:=27) U (fun h49=>?_) (fun h49=>?_)
  ·refine V U U (Ah U Ce U) (V U U (Aj U Aw U (H.cellI 0 U U)) (V U U (BX U U U) (Ad 2 U ?_)))
   refine AD (d:=32) U (fun h50=>?_) (fun h50=>?_)
   ·refine V U U (Ah U Cg U) (V U U (Aj U Aw U (H.cellI 0 U U)) (Ab U (V U U (BN U U U) (Ad 2 U ?_))))
    refine AD (d:=38) U (fun h51=>?_) (fun h51=>?_)
    ·refine V U U (Ah U Cg U) (V U U (Aj U Aw U (H.cellI 0 U U)) (Ab U (V U U (BX U U U) (Ad 2 U ?_))))
     refine AD (d:=44) U (fun h52=>?_) (fun h52=>?_)
     ·refine V U U (Ah U Dx U) (V U U (Aj U Bd U (H.cellI 0 U U)) (V U U (Cl U BJ U) (Ab U (V U U (BX U U U) (Ad 2 U (Aa (Y (Ai (Am U U ?_)))))))))
      replace H:=H.nil
      exact Ag ⟨congrArg Value.bool (decide_eq_decide.2 (by unfold Bf;omega)),rfl⟩ H
     refine Ad 7 U (Aa (Y (Ai (Am U U ?_))))
     replace H:=H.nil
     exact Ag ⟨congrArg Value.bool (decide_eq_false (by unfold Bf;omega)).symm,rfl⟩ H
    refine Ad 12 U (Ab U (Aa (Y (Ai (Am U U ?_)))))
    replace H:=H.nil
    exact Ag ⟨congrArg Value.bool (decide_eq_false (by unfold Bf;omega)).symm,rfl⟩ H
   refine Ad 12 U (Ad 7 U (Aa (Y (Ai (Am U U ?_)))))
   replace H:=H.nil
   exact Ag ⟨congrArg Value.bool (decide_eq_false (by unfold Bf;omega)).symm,rfl⟩ H
  refine Ad 12 U (Ad 12 U (Aa (Y (Ai (Am U U ?_)))))
  replace H:=H.nil
  exact Ag ⟨congrArg Value.bool (decide_eq_false (by unfold Bf;omega)).symm,rfl⟩ H
 refine Av (AS (Y (Z (Ac (V U U (Ah U Ce U) (V U U (Aj U Aw U (H.cellI 0 U U)) (V U U (BN U U U) (Ab U ?_))))))))
 refine AD (d:=27) U (fun h53=>?_) (fun h53=>?_)
 ·refine V U U (Ah U Ce U) (V U U (Aj U Aw U (H.cellI 0 U U)) (V U U (BX U U U) (Ad 2 U ?_)))
  refine AD (d:=32) U (fun h54=>?_) (fun h54=>?_)
  ·refine V U U (Ah U Cg U) (V U U (Aj U Aw U (H.cellI 0 U U)) (Ab U (V U U (BN U U U) (Ad 2 U ?_))))
   refine AD (d:=38) U (fun h55=>?_) (fun h55=>?_)
   ·refine V U U (Ah U Cg U) (V U U (Aj U Aw U (H.cellI 0 U U)) (Ab U (V U U (BX U U U) (Ad 2 U ?_))))
    refine AD (d:=44) U (fun h56=>?_) (fun h56=>?_)
    ·refine V U U (Ah U Dx U) (V U U (Aj U Bd U (H.cellI 0 U U)) (V U U (Cl U BJ U) (Ab U (V U U (BX U U U) (Ad 2 U (Aa (Y (Ai (Am U U ?_)))))))))
     replace H:=H.nil
     exact Ag ⟨congrArg Value.bool (decide_eq_decide.2 (by unfold Bf;omega)),rfl⟩ H
    refine Ad 7 U (Aa (Y (Ai (Am U U ?_))))
    replace H:=H.nil
    exact Ag ⟨congrArg Value.bool (decide_eq_false (by unfold Bf;omega)).symm,rfl⟩ H
   refine Ad 12 U (Ab U (Aa (Y (Ai (Am U U ?_)))))
   replace H:=H.nil
   exact Ag ⟨congrArg Value.bool (decide_eq_false (by unfold Bf;omega)).symm,rfl⟩ H
  refine Ad 12 U (Ad 7 U (Aa (Y (Ai (Am U U ?_)))))
  replace H:=H.nil
  exact Ag ⟨congrArg Value.bool (decide_eq_false (by unfold Bf;omega)).symm,rfl⟩ H
 refine Ad 12 U (Ad 12 U (Aa (Y (Ai (Am U U ?_)))))
 replace H:=H.nil
 exact Ag ⟨congrArg Value.bool (decide_eq_false (by unfold Bf;omega)).symm,rfl⟩ H
theorem XY (p:Bm) (n:Int):
    Cn Tryz.prog 236 [.agg #[.int .i64 p.op,.int .i64 p.a,.string p.s],.int .i64 n] [] [] (fun v Bs=>v=.bool (decide (Bf p n))∧Bs=[]):=by
 intro w0 F0 H
 refine enter Tryz.func236 U U (Nat.le_of_ble_eq_true U) (Z (Ac (B4 U U U U H (fun b1 w H=>(Ab U (Aa (Y (Z (AK (Z (Ac (V U U (Ah U Ce U) (V U U (Aj U Aw U (H.cellI 0 U U)) (V U U (AQ U U U) (Ab U ?_)))))))))))))))
 refine AD (d:=9) U (fun h2=>?_) (fun h2=>?_)
 ·refine Ad 5 U (Aa (Y (BM U (Z (Ac (Ab U (Aa (Y (Ai (Ax (Ao (Am U U ?_))))))))))))
  replace H:=H.nil
  exact Ag ⟨congrArg Value.bool (decide_eq_false (by unfold Bf;omega)).symm,rfl⟩ H
 refine V U U (Ah U Ce U) (V U U (Aj U Aw U (H.cellI 0 U U)) (V U U (BP U U U) (Ad 2 U (Aa (Y ?_)))))
 refine Aq U (fun h3=>?_) (fun h3=>?_)
 ·refine Z (Ac (Ab U (Aa (Y (Ai (Ax (Ao (Am U U ?_))))))))
  replace H:=H.nil
  exact Ag ⟨congrArg Value.bool (decide_eq_false (by unfold Bf;omega)).symm,rfl⟩ H
 refine Z (Ac (V U U (Ah U Ce U) (V U U (Aj U Aw U (H.cellI 0 U U)) (V U U (AT U U U) (Ab U (Aa (Y ?_)))))))
 refine Aq U (fun h4=>?_) (fun h4=>?_)
 ·refine Z (Ac (V U U (Ah U Dx U) (V U U (Aj U Bd U (H.cellI 0 U U)) (V U U (EB U U U) (Ab U (Aa (Y (Ai (Ax (Ao (Am U U ?_)))))))))))
  replace H:=H.nil
  exact Ag ⟨congrArg Value.bool (decide_eq_decide.2 (by rw [He];unfold Bf;omega)),rfl⟩ H
 refine Z (Ac (V U U (Ah U Ce U) (V U U (Aj U Aw U (H.cellI 0 U U)) (V U U (AT U U U) (Ab U (Aa (Y ?_)))))))
 refine Aq U (fun h5=>?_) (fun h5=>?_)
 ·refine Z (Ac (V U U (Ah U Cg U) (V U U (Aj U Aw U (H.cellI 0 U U)) (V U U (AT U U U) (Ab U ?_)))))
  refine AD (d:=28) U (fun h6=>?_) (fun h6=>?_)
  ·refine V U U (Ah U Dx U) (V U U (Aj U Bd U (H.cellI 0 U U)) (V U U (Cl U BJ U) (V U U (BX U U U) (Ad 2 U (Aa (Y (Ai (Ax (Ao (Am U U ?_))))))))))
   replace H:=H.nil
   exact Ag ⟨congrArg Value.bool (decide_eq_decide.2 (by unfold Bf;omega)),rfl⟩ H
  refine Ad 6 U (Aa (Y (Ai (Ax (Ao (Am U U ?_))))))
  replace H:=H.nil
  exact Ag ⟨congrArg Value.bool (decide_eq_false (by unfold Bf;omega)).symm,rfl⟩ H
 refine Z (Ac (V U U (Ah U Ce U) (V U U (Aj U Aw U (H.cellI 0 U U)) (V U U (AT U U U) (Ab U ?_)))))
 refine AD (d:=38) U (fun h7=>?_) (fun h7=>?_)
 ·refine Ad 5 U (Aa (Y (BM U (Z (Ac (V U U (Ah U Cg U) (V U U (Aj U Aw U (H.cellI 0 U U)) (V U U (BN U U U) (Ab U ?_)))))))))
  refine AD (d:=46) U (fun h8=>?_) (fun h8=>?_)
  ·refine V U U (Ah U Cg U) (V U U (Aj U Aw U (H.cellI 0 U U)) (Ab U (V U U (BX U U U) (Ad 2 U ?_))))
   refine AD (d:=52) U (fun h9=>?_) (fun h9=>?_)
   ·refine V U U (Ah U Dx U) (V U U (Aj U Bd U (H.cellI 0 U U)) (V U U (EB U U U) (Ad 2 U (Aa (Y (Ai (Ax (Ao (Am U U ?_)))))))))
    replace H:=H.nil
    exact Ag ⟨congrArg Value.bool (decide_eq_decide.2 (by rw [He];unfold Bf;omega)),rfl⟩ H
   refine Ad 5 U (Aa (Y (Ai (Ax (Ao (Am U U ?_))))))
   replace H:=H.nil
   exact Ag ⟨congrArg Value.bool (decide_eq_false (by unfold Bf;omega)).symm,rfl⟩ H
  refine Ad 11 U (Aa (Y (Ai (Ax (Ao (Am U U ?_))))))
  replace H:=H.nil
  exact Ag ⟨congrArg Value.bool (decide_eq_false (by unfold Bf;omega)).symm,rfl⟩ H
 refine V U U (Ah U Ce U) (V U U (Aj U Aw U (H.cellI 0 U U)) (V U U (AT U U U) (Ad 2 U (Aa (Y ?_)))))
 refine Aq U (fun h10=>?_) (fun h10=>?_)
 ·refine Z (Ac (V U U (Ah U Cg U) (V U U (Aj U Aw U (H.cellI 0 U U)) (V U U (BN U U U) (Ab U ?_)))))
  refine AD (d:=46) U (fun h11=>?_) (fun h11=>?_)
  ·refine V U U (Ah U Cg U) (V U U (Aj U Aw U (H.cellI 0 U U)) (Ab U (V U U (BX U U U) (Ad 2 U ?_))))
   refine AD (d:=52) U (fun h12=>?_) (fun h12=>?_)
   ·refine V U U (Ah U Dx U) (V U U (Aj U Bd U (H.cellI 0 U U)) (V U U (EB U U U) (Ad 2 U (Aa (Y (Ai (Ax (Ao (Am U U ?_)))))))))
    replace H:=H.nil
    exact Ag ⟨congrArg Value.bool (decide_eq_decide.2 (by rw [He];unfold Bf;omega)),rfl⟩ H
   refine Ad 5 U (Aa (Y (Ai (Ax (Ao (Am U U ?_))))))
   replace H:=H.nil
   exact Ag ⟨congrArg Value.bool (decide_eq_false (by unfold Bf;omega)).symm,rfl⟩ H
  refine Ad 11 U (Aa (Y (Ai (Ax (Ao (Am U U ?_))))))
  replace H:=H.nil
  exact Ag ⟨congrArg Value.bool (decide_eq_false (by unfold Bf;omega)).symm,rfl⟩ H
 refine Z (Ac (V U U (Ah U Ce U) (V U U (Aj U Aw U (H.cellI 0 U U)) (V U U (AT U U U) (Ab U ?_)))))
 refine AD (d:=61) U (fun h13=>?_) (fun h13=>?_)
 ·refine Ad 5 U (Aa (Y (BM U (Z (Ac (V U U (Ah U Cg U) (V U U (Aj U Aw U (H.cellI 0 U U)) (V U U (BN U U U) (Ab U ?_)))))))))
  refine AD (d:=69) U (fun h14=>?_) (fun h14=>?_)
  ·refine V U U (Ah U Cg U) (V U U (Aj U Aw U (H.cellI 0 U U)) (V U U (BX U U U) (Ad 2 U ?_)))
   refine AD (d:=74) U (fun h15=>?_) (fun h15=>?_)
   ·refine V U U (Ah U Dx U) (V U U (Aj U Bd U (H.cellI 0 U U)) (V U U (EB U U U) (Ad 2 U (Aa (Y (Ai (Ax (Ao (Am U U ?_)))))))))
    replace H:=H.nil
    exact Ag ⟨congrArg Value.bool (decide_eq_decide.2 (by rw [He];unfold Bf;omega)),rfl⟩ H
   refine Ad 5 U (Aa (Y (Ai (Ax (Ao (Am U U ?_))))))
   replace H:=H.nil
   exact Ag ⟨congrArg Value.bool (decide_eq_false (by unfold Bf;omega)).symm,rfl⟩ H
  refine Ad 10 U (Aa (Y (Ai (Ax (Ao (Am U U ?_))))))
  replace H:=H.nil
  exact Ag ⟨congrArg Value.bool (decide_eq_false (by unfold Bf;omega)).symm,rfl⟩ H
 refine V U U (Ah U Ce U) (V U U (Aj U Aw U (H.cellI 0 U U)) (V U U (AT U U U) (Ad 2 U (Aa (Y ?_)))))
 refine Aq U (fun h16=>?_) (fun h16=>?_)
 ·refine Z (Ac (V U U (Ah U Cg U) (V U U (Aj U Aw U (H.cellI 0 U U)) (V U U (BN U U U) (Ab U ?_)))))
  refine AD (d:=69) U (fun h17=>?_) (fun h17=>?_)
  ·refine V U U (Ah U Cg U) (V U U (Aj U Aw U (H.cellI 0 U U)) (V U U (BX U U U) (Ad 2 U ?_)))
   refine AD (d:=74) U (fun h18=>?_) (fun h18=>?_)
   ·refine V U U (Ah U Dx U) (V U U (Aj U Bd U (H.cellI 0 U U)) (V U U (EB U U U) (Ad 2 U (Aa (Y (Ai (Ax (Ao (Am U U ?_)))))))))
    replace H:=H.nil
    exact Ag ⟨congrArg Value.bool (decide_eq_decide.2 (by rw [He];unfold Bf;omega)),rfl⟩ H
   refine Ad 5 U (Aa (Y (Ai (Ax (Ao (Am U U ?_))))))
   replace H:=H.nil
   exact Ag ⟨congrArg Value.bool (decide_eq_false (by unfold Bf;omega)).symm,rfl⟩ H
  refine Ad 10 U (Aa (Y (Ai (Ax (Ao (Am U U ?_))))))
  replace H:=H.nil
  exact Ag ⟨congrArg Value.bool (decide_eq_false (by unfold Bf;omega)).symm,rfl⟩ H
 refine Av (AS (Y (Z (Ac (V U U (Ah U Cg U) (V U U (Aj U Aw U (H.cellI 0 U U)) (V U U (AT U U U) (Ab U ?_))))))))
 refine AD (d:=82) U (fun h19=>?_) (fun h19=>?_)
 ·refine V U U (Ah U Dx U) (V U U (Aj U Bd U (H.cellI 0 U U)) (V U U (EB U U U) (Ad 2 U (Aa (Y (Ai (Am U U ?_)))))))
  replace H:=H.nil
  exact Ag ⟨congrArg Value.bool (decide_eq_decide.2 (by rw [He];unfold Bf;omega)),rfl⟩ H
 refine Ad 5 U (Aa (Y (Ai (Am U U ?_))))
 replace H:=H.nil
 exact Ag ⟨congrArg Value.bool (decide_eq_false (by unfold Bf;omega)).symm,rfl⟩ H
theorem XX (vxs:Value) (xs:List Bm):
    Cn Tryz.prog 195 [vxs] [] [Af Au vxs xs] (fun v Bs=>v=.int .i64 (C3 xs)∧Bs=[]):=by
 intro w0 F0 H
 obtain ⟨A1,c2,rfl,hc3,hm4,hp5⟩:=H.fR 0 rfl
 refine enter Tryz.func195 U U (Nat.le_of_ble_eq_true U) (Z (Ac (Ab U (Aa (Y (Z (Z (Ac (Ad 2 U (V U U (AO U DX U) (V U U (Fr (z:=min ((xs.length:Nat):Int) 40) U U U U) (V U U (H7 U FO U U (by omega) (by omega) U) (V U U (AO U DX U) (Ab U (Aa (Y (AK (Br (σ:=Nat) (fun k=>[(0,.slice A1 xs.length c2),(9,.slice A1 ((min ((xs.length:Nat):Int) 40).toNat) c2),(10,.int .i64 (((min ((xs.length:Nat):Int) 40).toNat:Nat):Int)),(11,.int .i64 ((k:Nat):Int))]) (fun k w=>(Hd w0 F0 w [] [Af Au (.slice A1 xs.length c2) xs])∧(k≤xs.length∧k≤40)∧(∀ y∈xs.take k,Ec xs.length y=false)) (fun k=>xs.length - k) 0 ⟨rfl,rfl,rfl,rfl,trivial⟩ ⟨H,by omega,by simp⟩ ?_))))))))))))))))))
 rintro k w ⟨H,hk,hn⟩
 refine Z (Ac (V U U (AQ U U U) (Aa (Y (Z ?_)))))
 refine Aq U (fun h6=>?_) (fun h6=>?_)
 ·refine Av (Y (Z (AK (Z (Ac (Ab U ?_))))))
  obtain ⟨x7,hx8⟩:∃ z9,xs[k]?=some z9:=⟨_,List.getElem?_eq_getElem (show k<xs.length by omega)⟩
  have th9:=H.thR 0 rfl hx8
  refine V U U (AG (p:=AA A1+k*3) U FO U U (by omega) (by omega) th9 U) (V U U (Bp (cs:=[.int .i64 x7.op,.int .i64 x7.a,.string x7.s]) U Gb U U (H.elsR 0 U hx8 U)) (Do U U U KP H (fun b10 w H=>(Ab U (By U U U Gb U U H U (Nat.le_of_ble_eq_true U) (fun u hu=>by simp [Value.cells] at hu;rcases hu with rfl|rfl|rfl<;>rfl) (fun w H=>(Aa (Y (Z (Ac (V U U (Bp (cs:=[.int .i64 x7.op,.int .i64 x7.a,.string x7.s]) U Gb U U (H.cellsI 0 U U)) (Ab U (V U U (AO U DX U) (sc (X0 x7 ((xs.length:Nat):Int)) H l0 U U (At Vx U U) ?_))))))))))))))
  rintro _ _ w ⟨rfl,rfl⟩ H
  refine V U U (CX U U) (Aa (Y ?_))
  refine Aq U (fun h11=>?_) (fun h11=>?_)
  ·refine Z (Ac (Ad 2 U (Aa (Y (Ai (Ax (Ao (Ao (Ax (Ao (Am U U ?_)))))))))))
   replace H:=H.nil
   exact Ag ⟨by rw [NG (by omega) hn hx8 (by simpa using h11)]<;>rfl,rfl⟩ H
  refine Av (AS (Y (Ac (V U U (AP (z:=((k+1:Nat):Int)) U U U (by rw [Ay (by omega) (by omega)];omega)) (Ab U (Aa ?_))))))
  replace H:=H.nil
  exact Bb (s:=k) (k+1) ⟨rfl,rfl,rfl,rfl,trivial⟩ ⟨H,by omega,NI hn hx8 (by simpa using h11)⟩ (by (try dsimp only);omega)
 refine Bj (AE (AE (Bk (Y (Z (Z (Ac (Ab U (V U U (AO U DX U) (V U U (BP U U U) (Aa (Y ?_))))))))))))
 refine Aq U (fun h12=>?_) (fun h12=>?_)
 ·exact Z (Ac (Ab U (Aa (Y (Ai (Ao (Am U U (Ag ⟨by rw [HB (k:=k) (by omega) hn,if_pos (by omega)]<;>rfl,rfl⟩ H))))))))
 exact Av (Y (Z (Ac (Ab U (Aa (Y (Ai (Am U U (Ag ⟨by rw [HB (k:=k) (by omega) hn,if_neg (by omega)]<;>rfl,rfl⟩ H)))))))))
theorem Kj (vxs:Value) (xs:List Bm):
    Cn Tryz.prog 198 [vxs] [] [Af Au vxs xs] (fun v Bs=>v=.int .i64 (C3 xs)∧Bs=[]):=by
 intro w0 F0 H
 obtain ⟨A1,c2,rfl,hc3,hm4,hp5⟩:=H.fR 0 rfl
 refine enter Tryz.func198 U U (Nat.le_of_ble_eq_true U) (Z (Ac (Ab U (Aa (Y (Z (Z (Ac (Ab U (Aa (Y (AK (Br (σ:=Nat) (fun k=>[(0,.slice A1 xs.length c2),(3,.int .i64 ((k:Nat):Int))]) (fun k w=>(Hd w0 F0 w [] [Af Au (.slice A1 xs.length c2) xs])∧(k≤xs.length∧k≤40)∧(∀ y∈xs.take k,Ec xs.length y=false)) (fun k=>xs.length - k) 0 ⟨rfl,rfl,trivial⟩ ⟨H,by omega,by simp⟩ ?_)))))))))))))
 rintro k w ⟨H,hk,hn⟩
 refine Z (Z (Ac (Ad 2 U (V U U (AO U DX U) (V U U (AQ U U U) (Ab U ?_))))))
 refine AD (d:=8) U (fun h6=>?_) (fun h6=>?_)
 ·refine Ab U (V U U (AQ U U U) (Ab U (Aa (Y ?_))))
  refine Aq U (fun h7=>?_) (fun h7=>?_)
  ·refine Av (Y (Z (AK (Z (Ac (Ad 2 U ?_))))))
   obtain ⟨x8,hx9⟩:∃ z9,xs[k]?=some z9:=⟨_,List.getElem?_eq_getElem (show k<xs.length by omega)⟩
   have th10:=H.thR 0 rfl hx9
   refine V U U (AG (p:=AA A1+k*3) U FO U U (by omega) (by omega) th10 U) (V U U (Bp (cs:=[.int .i64 x8.op,.int .i64 x8.a,.string x8.s]) U Gb U U (H.elsR 0 U hx9 U)) (Ab U (V U U (AO U DX U) (sc (XY x8 ((xs.length:Nat):Int)) H l0 U U (At Vz U U) ?_))))
   rintro _ _ w ⟨rfl,rfl⟩ H
   refine V U U (CX U U) (Aa (Y ?_))
   refine Aq U (fun h11=>?_) (fun h11=>?_)
   ·exact Z (Ac (Ad 2 U (Aa (Y (Ai (Ax (Ao (Ao (Ax (Ao (Am U U (Ag ⟨by rw [NG (by omega) hn hx9 (by simpa using h11)]<;>rfl,rfl⟩ H))))))))))))
   exact Av (AS (Y (Ac (Ab U (V U U (AP (z:=((k+1:Nat):Int)) U U U (by rw [Ay (by omega) (by omega)];omega)) (Ab U (Aa (Bb (s:=k) (k+1) ⟨rfl,rfl,trivial⟩ ⟨H,by omega,NI hn hx9 (by simpa using h11)⟩ (by (try dsimp only);omega)))))))))
  refine Bj (AE (AE (Bk (Y (Z (Z (Ac (Ab U (V U U (AO U DX U) (V U U (BP U U U) (Aa (Y ?_))))))))))))
  refine Aq U (fun h12=>?_) (fun h12=>?_)
  ·exact Z (Ac (Ab U (Aa (Y (Ai (Ao (Am U U (Ag ⟨by rw [HB (k:=k) (by omega) hn,if_pos (by omega)]<;>rfl,rfl⟩ H))))))))
  exact Av (Y (Z (Ac (Ab U (Aa (Y (Ai (Am U U (Ag ⟨by rw [HB (k:=k) (by omega) hn,if_neg (by omega)]<;>rfl,rfl⟩ H)))))))))
 refine Ad 3 U (Aa (Y (B0 U (Bj (AE (AE (Bk (Y (Z (Z (Ac (Ab U (V U U (AO U DX U) (V U U (BP U U U) (Aa (Y ?_))))))))))))))))
 refine Aq U (fun h13=>?_) (fun h13=>?_)
 ·exact Z (Ac (Ab U (Aa (Y (Ai (Ao (Am U U (Ag ⟨by rw [HB (k:=k) (by omega) hn,if_pos (by omega)]<;>rfl,rfl⟩ H))))))))
 exact Av (Y (Z (Ac (Ab U (Aa (Y (Ai (Am U U (Ag ⟨by rw [HB (k:=k) (by omega) hn,if_neg (by omega)]<;>rfl,rfl⟩ H)))))))))
theorem MB (vxs:Value) (xs:List Bm):
    Cn Tryz.prog 154 [vxs] [] [Af Au vxs xs] (fun v Bs=>v=.bool (decide (C3 xs<0))∧Bs=[]):=by
 intro w0 F0 H
 obtain ⟨A1,c2,rfl,hc3,hm4,hp5⟩:=H.fR 0 rfl
 refine enter Tryz.func154 U U (Nat.le_of_ble_eq_true U) (Z (Ac (Ab U (Aa (Y (Z (Ac (Ab U (sc (XX (.slice A1 xs.length c2) xs) H (lR 0 U l0) U U (At Vl U U) ?_)))))))))
 rintro _ _ w ⟨rfl,rfl⟩ H
 exact V U U (AQ U U U) (Ab U (Aa (Y (Ai (Am U U (Ag ⟨rfl,rfl⟩ H))))))
theorem QD (vp:Value) (p:List Bm) (key:ByteArray) (vv:Value) (vals:List ByteArray) (fuel:Int) (hpa:∀ i∈p,AF i.a) (hfu:AF fuel):
    Cn Tryz.prog 207 [vp,.string key,vv,.int .i64 fuel] [] [Af Au vp p,Af AZ vv vals,gl] (fun v Bs=>((¬ C3 p<0∨fuel<0)∧v=.tuple #[.pointer none,.int .i64 2]∧Bs=[])∨(¬ (¬ C3 p<0∨fuel<0)∧∃ r mb sv tv vv2 k,v=.tuple #[.pointer (some ⟨r,0,none⟩),.int .i64 (Cd dg p key (min fuel 2000).toNat (C1 vals)).2]∧Bs=[blk r (Di vp key vv2 (min fuel 2000) (Cd dg p key (min fuel 2000).toNat (C1 vals)).1.pos k (Cd dg p key (min fuel 2000).toNat (C1 vals)).1.halted sv (Cd dg p key (min fuel 2000).toNat (C1 vals)).1.g tv (.map (some mb))) 288,Ae A5 sv (Cd dg p key (min fuel 2000).toNat (C1 vals)).1.stk,Ae Al tv (Cd dg p key (min fuel 2000).toNat (C1 vals)).1.told,Du mb])):=by
 intro w0 F0 H
 unfold AF at hfu
 have hnum:=Gu
 obtain ⟨A1,c2,rfl,hc3,hm4,hp5⟩:=H.fR 0 rfl
 obtain ⟨A6,c7,rfl,hc8,hm9,hp10⟩:=H.fR 1 rfl
 refine enter Tryz.func207 U U (Nat.le_of_ble_eq_true U) (Z (Ac (Ad 2 U (Aa (Y (Z (Z (Ac (Ab U (sc (MB (.slice A1 p.length c2) p) H (lR 0 U l0) U U (At Mc U U) ?_))))))))))
 rintro _ _ w ⟨rfl,rfl⟩ H
 refine V U U (CX U U) (Ab U ?_)
 refine AD (d:=16) U (fun h11=>?_) (fun h11=>?_)
 ·exact Ad 3 U (Aa (Y (BM U (Z (Ac (Ad 2 U (Aa (Y (Ai (Ao (Bg U U U (Ag (.inl ⟨.inl h11,rfl,rfl⟩) H))))))))))))
 refine Ab U (V U U (AQ U U U) (Ab U (Aa (Y ?_))))
 refine Aq U (fun h12=>?_) (fun h12=>?_)
 ·exact Z (Ac (Ad 2 U (Aa (Y (Ai (Ao (Bg U U U (Ag (.inl ⟨.inr h12,rfl,rfl⟩) H))))))))
 refine Av (Y (Z ?_))
 have hbad:=h11
 have hgood:=Qa (Classical.not_not.1 hbad)
 refine Ac (Ad 4 U (V U U (Fr (z:=min fuel 2000) U U U U) (Zo U U U H (fun b13 w H=>(V U U (CV (parts:=[(0,.tmp 20),(1,.tmp 21),(2,.tmp 22),(3,.tmp 24),(10,.tmp 25)]) (vs:=[.slice A1 p.length c2,.string key,.slice A6 vals.length c7,.int .i64 (min fuel 2000),.map (some b13)]) (cs:=[.slice A1 p.length c2,.string key,.slice A6 vals.length c7,.int .i64 (min fuel 2000),.int .i64 0,.int .i64 0,.bool false,.slice none 0 0,.bool false,.int .i64 0,.string ⟨#[]⟩,.bool false,.int .i64 0,.string ⟨#[]⟩,.bool false,.int .i64 0,.string ⟨#[]⟩,.bool false,.int .i64 0,.string ⟨#[]⟩,.bool false,.int .i64 0,.string ⟨#[]⟩,.bool false,.int .i64 0,.string ⟨#[]⟩,.bool false,.int .i64 0,.string ⟨#[]⟩,.bool false,.int .i64 0,.string ⟨#[]⟩,.slice none 0 0,.map (some b13)]) U SF U U) (B4 U U U U H (fun b14 w H=>(Ab U (Aa (Y (Z (AK ?_))))))))))))
 replace H:=TH (t:=234) H
 replace H:=(H.newnil Al).newnil A5
 replace H:Hd w0 F0 w [blk b14 (Di (.slice A1 p.length c2) key (.slice A6 vals.length c7) (min fuel 2000) 0 0 false (.slice none 0 0) (fun _=>Bt) (.slice none 0 0) (.map (some b13))) 288,Ae A5 (.slice none 0 0) [],Ae Al (.slice none 0 0) [],Du b13] [Af Au (.slice A1 p.length c2) p,Af AZ (.slice A6 vals.length c7) vals,gl]:=ZR H
 replace H:=H.dupR 1 rfl
 refine Br (σ:=Nat×VM×Value×Value×Value) (fun (k,m,sv,tv,vv2)=>[(0,.slice A1 p.length c2),(10,.pointer (some ⟨b14,0,none⟩))]) (fun (k,m,sv,tv,vv2) w=>(Hd w0 F0 w [blk b14 (Di (.slice A1 p.length c2) key vv2 (min fuel 2000) m.pos ((k:Nat):Int) m.halted sv m.g tv (.map (some b13))) 288,Ae A5 sv m.stk,Ae Al tv m.told,Du b13] [Af AZ vv2 m.vals,Af Au (.slice A1 p.length c2) p,Af AZ (.slice A6 vals.length c7) vals,gl])∧((k:Int)≤min fuel 2000)∧(DZ p.length m)∧(Cd dg p key ((min fuel 2000).toNat - k) m=Cd dg p key (min fuel 2000).toNat (C1 vals))) (fun (k,m,sv,tv,vv2)=>(min fuel 2000).toNat - k) (0,C1 vals,.slice none 0 0,.slice none 0 0,.slice A6 vals.length c7) ⟨rfl,rfl,trivial⟩ ⟨H,by (try dsimp only);omega,O9 _ _,rfl⟩ ?_
 rintro ⟨k,m,sv,tv,vv2⟩ w ⟨H,hk,hinv,hpl⟩
 have hps:=hinv.pos
 refine Z (Z (Ac (Ab U (V U U (AI U U) (V U U (Ah U HJ U) (V U U (Aj U Aw U (H.cellI 0 U U)) (Ab U (V U U (AO U DX U) (V U U (AQ U U U) (Ab U ?_))))))))))
 refine AD (d:=35) U (fun h15=>?_) (fun h15=>?_)
 ·refine Ab U (V U U (AI U U) (V U U (Ah U Oz U) (V U U (Aj U Ek U (H.cellI 0 U U)) (V U U (E9 U U U) (Ab U (Aa (Y ?_)))))))
  refine DJ (b:=!m.halted) U (fun h16=>?_) (fun h16=>?_)
  ·refine Av (Y (AK (Z (Z ?_))))
   have hrun:m.pos<(p.length:Int)∧m.halted=false:=⟨h15,by simpa using h16⟩
   refine Et mo (by kernel_rfl) H (C7 U (Ba U U (fun w H=>AI U U) (Ba U U (fun w H=>Ah U LR U) (Ba U U (fun w H=>Aj U Aw U (H.cellI 0 U U)) (C7 U (Ba U U (fun w H=>AI U U) (Ba U U (fun w H=>Ah U Uh U) (Ba U U (fun w H=>Aj U Aw U (H.cellI 0 U U)) (Ba U U (fun w H=>BN U U U) (El (fun w H=>(Y ?_))))))))))))
   refine Aq U (fun h17=>?_) (fun h17=>?_)
   ·refine Z (Ac (Ad 3 U (Aa (Y (Ai (Ao (Ax (Ao (Ax (Ao (Bg U U U ?_)))))))))))
    have e:Cd dg p key (min fuel 2000).toNat (C1 vals)=(m,3):=by rw [←hpl,show (min fuel 2000).toNat - k=0 by omega];exact QC hrun
    replace H:=H.dropR
    exact Ag (.inr ⟨fun h=>h.elim hbad (fun h=>absurd h (by omega)),b14,b13,sv,tv,vv2,((k:Nat):Int),by rw [e]<;>rfl,by rw [e]<;>rfl⟩) H
   refine Av (Y (Z (Ac (Ab U (V U U (AI U U) (V U U (Ah U LR U) (V U U (Aj U Aw U (H.cellI 0 U U)) (V U U (AP (z:=((k+1:Nat):Int)) U U U (by rw [Ay (by omega) (by omega)];omega)) (V U U (AI U U) (V U U (Ah U LR U) (By U U U Aw U U H U (Nat.le_of_ble_eq_true U) (fun u hu=>by simp [Value.cells] at hu;subst hu;rfl) (fun w H=>(Aa (Y (Z (Ac (Ad 2 U (V U U (AI U U) (V U U (Ah U HJ U) (V U U (Aj U Aw U (H.cellI 0 U U)) ?_))))))))))))))))))))
   obtain ⟨x18,hx19⟩:∃ z9,p[(m.pos).toNat]?=some z9:=⟨_,List.getElem?_eq_getElem (show (m.pos).toNat<p.length by omega)⟩
   have th20:=H.thR 1 rfl hx19
   refine V U U (AG (p:=AA A1+((m.pos).toNat)*3) U FO U U (by omega) (by omega) th20 (by omega)) (V U U (Bp (cs:=[.int .i64 x18.op,.int .i64 x18.a,.string x18.s]) U Gb U U (H.elsR 1 U hx19 U)) (Do U U U KP H (fun b21 w H=>(By U U U Gb U U H U (Nat.le_of_ble_eq_true U) (fun u hu=>by simp [Value.cells] at hu;rcases hu with rfl|rfl|rfl<;>rfl) (fun w H=>(Aa (Y (Z (Ac (Ab U (V U U (AI U U) (V U U (Ah U HJ U) (V U U (Aj U Aw U (H.cellI 1 U U)) (V U U (AP (z:=m.pos+1) U U U (Ay (by omega) (by omega))) (V U U (AI U U) (V U U (Ah U HJ U) ?_))))))))))))))))
   replace H:=H.p1
   refine By U U U Aw U U H U (Nat.le_of_ble_eq_true U) (fun u hu=>by simp [Value.cells] at hu;subst hu;rfl) (fun w H=>(Aa (Y (Z (Ac (Ab U (V U U (Bp (cs:=[.int .i64 x18.op,.int .i64 x18.a,.string x18.s]) U Gb U U (H.cellsI 1 U U)) ?_)))))))
   replace H:=H.p4.p4.p4.p3
   refine sc (TO b14 (.slice A1 p.length c2) key vv2 (min fuel 2000) (m.pos+1) ((k+1:Nat):Int) m.halted sv m.g tv b13 m.stk m.told m.vals x18 p.length hinv.len hinv.told hinv.ok (hgood _ (Bl hx19))) H (lR 0 U (lR 3 U l0)) U U (At VC U U) ?_
   rintro _ _ w ⟨s22,t23,vv24,rfl,hsuf25,rfl⟩ H
   refine Ab U (Aa (Y (Z (Ac (Ab U (V U U (CL U U U) (Aa (Y ?_))))))))
   refine Aq U (fun h26=>?_) (fun h26=>?_)
   ·refine Z (Ac (Ad 4 U (Aa (Y (Ai (Ax (Ao (Ax (Ao (Bg U U U ?_))))))))))
    replace H:=H.k4
    have e:Cd dg p key (min fuel 2000).toNat (C1 vals)=BC dg key {m with pos:=m.pos+1} x18:=by rw [←hpl,show (min fuel 2000).toNat - k=((min fuel 2000).toNat - (k+1))+1 by omega];exact MF hrun hx19 h26
    replace H:=H.dropR
    exact Ag (.inr ⟨fun h=>h.elim hbad (fun h=>absurd h (by omega)),b14,b13,s22,t23,vv24,((k+1:Nat):Int),by rw [e]<;>rfl,by rw [e]<;>rfl⟩) H
   refine Av (AS ?_)
   replace H:=H.k4.addR (fun G h=>hsuf25 _ _ (h _ (List.mem_of_getElem? (i:=0) rfl)))
   replace H:Hd w0 F0 w [blk b14 (Di (.slice A1 p.length c2) key vv24 (min fuel 2000) ((BC dg key {m with pos:=m.pos+1} x18).1.pos) ((k+1:Nat):Int) ((BC dg key {m with pos:=m.pos+1} x18).1.halted) s22 ((BC dg key {m with pos:=m.pos+1} x18).1.g) t23 (.map (some b13))) 288,Ae A5 s22 ((BC dg key {m with pos:=m.pos+1} x18).1.stk),Ae Al t23 ((BC dg key {m with pos:=m.pos+1} x18).1.told),Du b13] [Af AZ vv24 ((BC dg key {m with pos:=m.pos+1} x18).1.vals),Af Au (.slice A1 p.length c2) p,Af AZ (.slice A6 vals.length c7) vals,gl]:=H.pickR [0,2,3,4]
   have hj:(min fuel 2000).toNat - k=((min fuel 2000).toNat - (k+1))+1:=by omega
   have hpl2:Cd dg p key ((min fuel 2000).toNat - (k+1)) (BC dg key {m with pos:=m.pos+1} x18).1=Cd dg p key (min fuel 2000).toNat (C1 vals):=by rw [←hpl,hj];exact (II (m:=m) hrun hx19 h26).symm
   have hinv2:DZ p.length (BC dg key {m with pos:=m.pos+1} x18).1:=JN hnum (L4 hinv hrun.1) (hgood _ (Bl hx19)) (hpa _ (Bl hx19)) (Classical.not_not.1 h26)
   exact Bb (s:=(k,m,undef,undef,undef)) (k+1,(BC dg key {m with pos:=m.pos+1} x18).1,s22,t23,vv24) ⟨rfl,rfl,trivial⟩ ⟨H,by (try dsimp only);omega,hinv2,hpl2⟩ (by (try dsimp only);omega)
  refine Bj (AE (AE (Bk (Y (Z (Ac (Ad 3 U (Aa (Y (Ai (Bg U U U ?_)))))))))))
  have e:Cd dg p key (min fuel 2000).toNat (C1 vals)=(m,0):=by rw [←hpl];exact IJ _ (fun h=>by have h2:=h.2;rw [h2] at h16;simp at h16)
  replace H:=H.dropR
  exact Ag (.inr ⟨fun h=>h.elim hbad (fun h=>absurd h (by omega)),b14,b13,sv,tv,vv2,((k:Nat):Int),by rw [e]<;>rfl,by rw [e]<;>rfl⟩) H
 refine Ad 6 U (Aa (Y (B0 U (Bj (AE (AE (Bk (Y (Z (Ac (Ad 3 U (Aa (Y (Ai (Bg U U U ?_)))))))))))))))
 have e:Cd dg p key (min fuel 2000).toNat (C1 vals)=(m,0):=by rw [←hpl];exact IJ _ (fun h=>absurd h.1 h15)
 replace H:=H.dropR
 exact Ag (.inr ⟨fun h=>h.elim hbad (fun h=>absurd h (by omega)),b14,b13,sv,tv,vv2,((k:Nat):Int),by rw [e]<;>rfl,by rw [e]<;>rfl⟩) H
theorem Sh (vp:Value) (p:List Bm) (key:ByteArray) (vv:Value) (vals:List ByteArray) (fuel:Int) (hpa:∀ i∈p,AF i.a) (hfu:AF fuel):
    Cn Tryz.prog 175 [vp,.string key,vv,.int .i64 fuel] [] [Af Au vp p,Af AZ vv vals,gl] (fun v Bs=>∃ u,v=.tuple #[u,.int .i64 (A_ dg p key vals fuel).2]∧Bs=[Ae Al u (A_ dg p key vals fuel).1]):=by
 intro w0 F0 H
 refine enter Tryz.func175 U U (Nat.le_of_ble_eq_true U) (Z (Ac (Ad 2 U (Aa (Y (Z ?_))))))
 by_cases hb:¬ C3 p<0∨fuel<0
 ·refine Ac (Ad 4 U (sc (QD vp p key vv vals fuel hpa hfu) H (lR 0 U (lR 1 U (lR 2 U l0))) U U (At Pt U U) ?_))
  rintro _ _ w ht H
  obtain ⟨_,rfl,rfl⟩:=ht.resolve_right (fun h=>h.1 hb)
  refine Ad 5 U (Aa (Y (Z (Z (Ac (Ab U (V U U (CL U U U) (Aa (Y (BM U (Z (Ac (Ad 3 U (Aa (Y (Ai (Ao (Bg U U U ?_))))))))))))))))))
  have e:A_ dg p key vals fuel=([],2):=if_pos hb
  replace H:=H.newnil Al
  exact Ag ⟨_,by rw [e]<;>rfl,by rw [e]<;>rfl⟩ H
 refine Ac (Ad 4 U (sc (QD vp p key vv vals fuel hpa hfu) H (lR 0 U (lR 1 U (lR 2 U l0))) U U (At Pt U U) ?_))
 rintro _ _ w ht H
 obtain ⟨_,r,mb,sv,tv,vv2,k,rfl,rfl⟩:=ht.resolve_left (fun h=>hb h.1)
 refine Ad 5 U (Aa (Y (Z (Z (Ac (Ab U (V U U (CL U U U) (Aa (Y ?_)))))))))
 refine Aq U (fun h1=>?_) (fun h1=>?_)
 ·refine Z (Ac (Ad 3 U (Aa (Y (Ai (Ao (Bg U U U ?_)))))))
  have e:A_ dg p key vals fuel=([],(Cd dg p key (min fuel 2000).toNat (C1 vals)).2):=by unfold A_;rw [if_neg hb,if_pos h1]
  replace H:=H.nil|>.newnil Al
  exact Ag ⟨_,by rw [e]<;>rfl,by rw [e]<;>rfl⟩ H
 refine Av (Y (Z (Ac (Ab U (V U U (AI U U) (V U U (Ah U JF U) (V U U (Aj U Db U (H.cellI 0 U U)) (Ad 2 U (Aa (Y (Ai (Bg U U U ?_))))))))))))
 have e:A_ dg p key vals fuel=((Cd dg p key (min fuel 2000).toNat (C1 vals)).1.told,0):=by unfold A_;rw [if_neg hb,if_neg h1]
 replace H:=H.p2.k1
 exact Ag ⟨_,by rw [e]<;>rfl,by rw [e]<;>rfl⟩ H
theorem Qb (s:ByteArray):
    Cn Tryz.prog 279 [.string s] [] [] (fun v Bs=>v=.bool false∧Bs=[]):=by
 intro w0 F0 H
 exact enter Tryz.func279 U U (Nat.le_of_ble_eq_true U) (Z (Ac (Ab U (Aa (Y (Z (Ac (Ad 2 U (V U U (Kh U U U) (Ab U (Aa (Y (Ai (Am U U (Ag ⟨congrArg Value.bool (decide_eq_false (fun h=>h rfl)),rfl⟩ H)))))))))))))))
theorem Ti (a:ByteArray) (b:ByteArray):
    Cn Tryz.prog 245 [.string a,.string b] [] [] (fun v Bs=>v=.int .i64 (FY a b)∧Bs=[]):=by
 intro w0 F0 H
 refine enter Tryz.func245 U U (Nat.le_of_ble_eq_true U) (Z (Ac (Ab U (Aa (Y (Z (Ac (Ab U (sc (Qb a) H l0 U U (At PB U U) ?_)))))))))
 rintro _ _ w ⟨rfl,rfl⟩ H
 refine Ab U (Aa (Y (Z (Ac (Ab U (sc (Qb b) H l0 U U (At PB U U) ?_))))))
 rintro _ _ w ⟨rfl,rfl⟩ H
 refine Ab U (Aa (Y (Z (Z (Ac (Ab U (Aa (Y (B0 U (Av (Y (Z (Z (Ac (Ab U (Aa (Y (B0 U (Av (Y (Z (Z (Ac (Ad 2 U (V U U (Q5 U U U) (Aa (Y ?_)))))))))))))))))))))))))))
 refine Aq U (fun h1=>?_) (fun h1=>?_)
 ·exact Z (Ac (Ab U (Aa (Y (Ai (Ao (Am U U (Ag ⟨by rw [Th h1]<;>rfl,rfl⟩ H))))))))
 refine Av (Y (Z (Z (Ac (Ad 2 U (V U U (Yz U U U) (Aa (Y ?_))))))))
 refine DJ (b:=!(Bi a b||decide (a=b))) U (fun h2=>?_) (fun h2=>?_)
 ·exact Z (Ac (Ab U (Aa (Y (Ai (Ao (Am U U (Ag ⟨by rw [Tg h1 h2]<;>rfl,rfl⟩ H))))))))
 exact Av (Y (Z (Ac (Ab U (Aa (Y (Ai (Am U U (Ag ⟨by rw [Tf h1 h2]<;>rfl,rfl⟩ H)))))))))
theorem IH (p q:An):
    Cn Tryz.prog 209 [.agg #[.string p.key,.string p.val],.agg #[.string q.key,.string q.val]] [] [] (fun v Bs=>v=.int .i64 (FY p.key q.key)∧Bs=[]):=by
 intro w0 F0 H
 refine enter Tryz.func209 U U (Nat.le_of_ble_eq_true U) (Z (Ac (B4 U U U U H (fun b1 w H=>(B4 U U U U H (fun b2 w H=>(Ab U (Aa (Y (Z (Ac (V U U (Ah U DO U) (V U U (Aj U Bd U (H.cellI 1 U U)) (V U U (Ah U DO U) (V U U (Aj U Bd U (H.cellI 0 U U)) (sc (Ti p.key q.key) H l0 U U (At VE U U) ?_))))))))))))))))
 rintro _ _ w ⟨rfl,rfl⟩ H
 refine Ab U (Aa (Y (Ai (Am U U ?_))))
 replace H:=H.nil
 exact Ag ⟨rfl,rfl⟩ H
theorem Nb (v:Value) (xs:List An) (a:Nat) (b:Nat) (n:Nat) (h1:a+n≤b) (h2:b+n≤xs.length) (hb:xs.length≤1000000):
    Cn Tryz.prog 329 [v,.int .i64 ((a:Nat):Int),.int .i64 ((b:Nat):Int),.int .i64 ((n:Nat):Int),.func (.func 209) #[] #[]] [Ae Al v xs] [] (fun _ Bs=>∃ ys,Bs=[Ae Al v ys]∧CF xs ys (EX a b n)):=by
 intro w0 F0 H
 obtain ⟨A1,c2,rfl,hc3,hm4,hp5⟩:=H.fA 0 rfl
 refine enter Tryz.func329 U U (Nat.le_of_ble_eq_true U) (Z (Ac (Ab U (Aa (Y (AK (Br (σ:=Nat×List An) (fun (k,ys)=>[(0,.slice A1 xs.length c2),(1,.int .i64 ((a:Nat):Int)),(2,.int .i64 ((b:Nat):Int)),(3,.int .i64 ((n:Nat):Int)),(10,.int .i64 ((k:Nat):Int))]) (fun (k,ys) w=>(Hd w0 F0 w [Ae Al (.slice A1 xs.length c2) ys] [])∧(k≤n)∧(CF xs ys (EX a b k))) (fun (k,ys)=>n - k) (0,xs) ⟨rfl,rfl,rfl,rfl,rfl,trivial⟩ ⟨H,by omega,KL xs (fun t=>by unfold EX;rw [if_neg (by omega),if_neg (by omega)])⟩ ?_)))))))
 rintro ⟨k,ys⟩ w ⟨H,hk,hv⟩
 have hl:=hv.1
 refine Z (Z (Ac (Ad 2 U (V U U (AQ U U U) (Aa (Y ?_))))))
 refine Aq U (fun h6=>?_) (fun h6=>?_)
 ·refine Av (Y (Z (AK (BD (.e 0 (.e 1 (.e 2 (.e 3 (.e 4 (.e 5 (.e 6 (.e 7 (.e 8 (.e 9 (.e 10 (.e 11 (.e 12 (.e 14 (.e 15 (.e 16 (.e 17 (.e 18 (.p 13 19 (.e 20 (.m 21 (.e 22 (.m 23 .z))))))))))))))))))))))) (fun w=>∃ Ar,Hd w0 F0 w (Ar) []) mo (by kernel_rfl) (fun w H=>⟨_,H⟩) H (fun w H=>(Ap U (Ap U (Ap U (Ak U U U (fun w ⟨Ar,H⟩=>AP (z:=((a+k:Nat):Int)) U U U (by rw [Ay (by omega) (by omega)];omega)) (Ap U (Ap U (Ap U (Ak U U U (fun w ⟨Ar,H⟩=>AP (z:=((b+k:Nat):Int)) U U U (by rw [Ay (by omega) (by omega)];omega)) (Ap U (Ap U (Ap U (Ak U U U (fun w ⟨Ar,H⟩=>AP (z:=((b+k:Nat):Int)) U U U (by rw [Ay (by omega) (by omega)];omega)) ?_)))))))))))))))))
  obtain ⟨x7,hx8⟩:∃ z9,ys[b+k]?=some z9:=⟨_,List.getElem?_eq_getElem (show b+k<ys.length by omega)⟩
  have th9:=H.thA 0 rfl hx8
  refine Ak U U U (fun w ⟨Ar,H⟩=>AG (p:=AA A1+(b+k)*2) U Bq U U (by omega) (by omega) th9 U) (Ap U (Ap U (Ap U (Ak U U U (fun w ⟨Ar,H⟩=>AP (z:=((a+k:Nat):Int)) U U U (by rw [Ay (by omega) (by omega)];omega)) ?_))))
  obtain ⟨x10,hx11⟩:∃ z9,ys[a+k]?=some z9:=⟨_,List.getElem?_eq_getElem (show a+k<ys.length by omega)⟩
  have th12:=H.thA 0 rfl hx11
  refine Ak U U U (fun w ⟨Ar,H⟩=>AG (p:=AA A1+(a+k)*2) U Bq U U (by omega) (by omega) th12 U) (Jo U U U U U U U U (by decide) (Bp (cs:=[.string x7.key,.string x7.val]) U B8 U U (H.elsA 0 U hx8 U)) (Bp (cs:=[.string x10.key,.string x10.val]) U B8 U U (H.elsA 0 U hx11 U)) ?_)
  have th13:=H.thA 0 rfl hx11
  refine Ak U U U (fun w ⟨Ar,H⟩=>AG (p:=AA A1+(a+k)*2) U Bq U U (by omega) (by omega) th13 U) (AL U (FN (i:=a+k) (a:=x7) U U U B8 U U U H (by omega) U (fun w H=>(AH ⟨_,H⟩ ?_))))
  obtain ⟨x14,hx15⟩:∃ z9,(ys.set (a+k) x7)[b+k]?=some z9:=⟨_,List.getElem?_eq_getElem (show b+k<(ys.set (a+k) x7).length by simp only [List.length_set];omega)⟩
  have th16:=H.thA 0 rfl hx15
  refine Ak U U U (fun w ⟨Ar,H⟩=>AG (p:=AA A1+(b+k)*2) U Bq U U (by omega) (by omega) th16 U) (AL U (FN (i:=b+k) (a:=x10) U U U B8 U U U H (by simp only [List.length_set];omega) U (fun w H=>?_)))
  exact AH ⟨_,H⟩ (Bx (AS (Y (Ac (Ab U (V U U (AP (z:=((k+1:Nat):Int)) U U U (by rw [Ay (by omega) (by omega)];omega)) (Ab U (Aa (Bb (s:=(k,ys)) (k+1,(ys.set (a+k) x7).set (b+k) x10) ⟨rfl,rfl,rfl,rfl,rfl,trivial⟩ ⟨H,by omega,aS (by omega) hv hx11 hx8⟩ (by (try dsimp only);omega))))))))))
 exact Bj (AE (AE (Bk (Dg U (Ag ⟨_,rfl,(by omega:k=n)▸hv⟩ H)))))
theorem RD (v:Value) (xs:List An) (a:Nat) (m:Nat) (b:Nat) (h1:a<m) (h2:m<b) (h3:b≤xs.length) (hb:xs.length≤1000000):
    Cn Tryz.prog 306 [v,.int .i64 ((a:Nat):Int),.int .i64 ((m:Nat):Int),.int .i64 ((b:Nat):Int),.func (.func 209) #[] #[]] [Ae Al v xs] [] (fun _ Bs=>∃ ys,Bs=[Ae Al v ys]∧CF xs ys (Bn a m b)):=by
 intro w0 F0 H
 obtain ⟨A1,c2,rfl,hc3,hm4,hp5⟩:=H.fA 0 rfl
 refine enter Tryz.func306 U U (Nat.le_of_ble_eq_true U) (Z (Ac (Ad 2 U (V U U (Cm (z:=((m - a:Nat):Int)) U U U (by rw [Ay (by omega) (by omega)];omega)) (Ab U (Aa (Y (Z (Ac (Ad 2 U (V U U (Cm (z:=((b - m:Nat):Int)) U U U (by rw [Ay (by omega) (by omega)];omega)) (Ab U (Aa (Y (Z (AK (Br (σ:=Nat×Nat×List An) (fun (i,j,ys)=>[(0,.slice A1 xs.length c2),(2,.int .i64 ((m:Nat):Int)),(4,.func (.func 209) #[] #[]),(10,.int .i64 ((i:Nat):Int)),(11,.int .i64 ((j:Nat):Int))]) (fun (i,j,ys) w=>(Hd w0 F0 w [Ae Al (.slice A1 xs.length c2) ys] [])∧(0<i∧i≤m∧0<j∧m+j≤xs.length)∧(ys.length=xs.length)∧(∀ t,xs[Bn a m b t]?=ys[Bn (m - i) m (m+j) t]?)) (fun (i,j,ys)=>i+j) (m - a,b - m,xs) ⟨rfl,rfl,rfl,rfl,rfl,trivial⟩ ⟨H,by (try dsimp only);omega,rfl,fun t=>by (try dsimp only);rw [show m - (m - a)=a by omega,show m+(b - m)=b by omega]⟩ ?_)))))))))))))))))
 rintro ⟨i,j,ys⟩ w ⟨H,hi,hl,hv⟩
 refine Z (Z (Ac (Ad 2 U (V U U (CL U U U) (Aa (Y ?_))))))
 refine Aq U (fun h6=>?_) (fun h6=>?_)
 ·refine Av (Y (AK (Z (Ac (Ad 2 U (V U U (BP U U U) (Aa (Y ?_))))))))
  refine Aq U (fun h7=>?_) (fun h7=>?_)
  ·refine Z (Ac (Ad 3 U (V U U (Cm (z:=((m - i:Nat):Int)) U U U (by rw [Ay (by omega) (by omega)];omega)) (Ad 3 U (sc (Nb (.slice A1 xs.length c2) ys (m - i) m j (by omega) (by omega) (by omega)) H l0 U U (At Mg U U) ?_)))))
   rintro _ _ w ⟨ys8,rfl,hv9⟩ H
   refine Aa (Y (Ac (Ad 2 U (V U U (Cm (z:=((i - j:Nat):Int)) U U U (by rw [Ay (by omega) (by omega)];omega)) (Ab U (Aa (AS ?_)))))))
   have hw:=YW (m:=m) (i:=i) (j:=j) (by omega) (by omega) hv9
   exact Bb (s:=(i,j,ys)) (i - j,j,ys8) ⟨rfl,rfl,rfl,rfl,rfl,trivial⟩ ⟨H,by (try dsimp only);omega,by (try dsimp only);rw [hv9.1];exact hl,fun t=>(hv t).trans (hw t)⟩ (by (try dsimp only);omega)
  refine Z (Ac (Ad 3 U (V U U (Cm (z:=((m - i:Nat):Int)) U U U (by rw [Ay (by omega) (by omega)];omega)) (Ad 2 U (V U U (AP (z:=((m+j:Nat):Int)) U U U (by rw [Ay (by omega) (by omega)];omega)) (Ab U (V U U (Cm (z:=((m+j - i:Nat):Int)) U U U (by rw [Ay (by omega) (by omega)];omega)) (Ad 2 U (sc (Nb (.slice A1 xs.length c2) ys (m - i) (m+j - i) i (by omega) (by omega) (by omega)) H l0 U U (At Mg U U) ?_)))))))))
  rintro _ _ w ⟨ys10,rfl,hv11⟩ H
  refine Aa (Y (Ac (Ad 2 U (V U U (Cm (z:=((j - i:Nat):Int)) U U U (by rw [Ay (by omega) (by omega)];omega)) (Ab U (Aa (AS ?_)))))))
  have hw:=YX (m:=m) (i:=i) (j:=j) (by omega) (by omega) hv11
  exact Bb (s:=(i,j,ys)) (i,j - i,ys10) ⟨rfl,rfl,rfl,rfl,rfl,trivial⟩ ⟨H,by (try dsimp only);omega,by (try dsimp only);rw [hv11.1];exact hl,fun t=>(hv t).trans (hw t)⟩ (by (try dsimp only);omega)
 refine Bj (AE (AE (Bk (Y (Ac (Ad 3 U (V U U (Cm (z:=((m - i:Nat):Int)) U U U (by rw [Ay (by omega) (by omega)];omega)) (Ad 3 U (sc (Nb (.slice A1 xs.length c2) ys (m - i) m i (by omega) (by omega) (by omega)) H l0 U U (At Mg U U) ?_)))))))))
 rintro _ _ w ⟨ys12,rfl,hv13⟩ H
 refine Aa (Dg U ?_)
 obtain rfl:i=j:=by omega
 exact Ag ⟨_,rfl,hv13.1.trans hl,fun t=>by rw [hv,hv13.2,YV (by omega)]<;>rfl⟩ H
theorem O5 (v:Value) (xs:List An) (a:Nat) (b:Nat) (h1:a≤b) (h2:b≤xs.length) (hb:xs.length≤1000000):
    Cn Tryz.prog 277 [v,.int .i64 ((a:Nat):Int),.int .i64 ((b:Nat):Int),.func (.func 209) #[] #[]] [Ae Al v xs] [] (fun _ Bs=>∃ ys,Bs=[Ae Al v ys]∧CE xs ys a b):=by
 intro w0 F0 H
 obtain ⟨A1,c2,rfl,hc3,hm4,hp5⟩:=H.fA 0 rfl
 refine enter Tryz.func277 U U (Nat.le_of_ble_eq_true U) (Z (Ac (Ab U (V U U (AP (z:=((a+1:Nat):Int)) U U U (by rw [Ay (by omega) (by omega)];omega)) (Ab U (Aa (Y (AK (Br (σ:=Nat×List An) (fun (i,ys)=>[(0,.slice A1 xs.length c2),(1,.int .i64 ((a:Nat):Int)),(2,.int .i64 ((b:Nat):Int)),(3,.func (.func 209) #[] #[]),(8,.int .i64 ((i:Nat):Int))]) (fun (i,ys) w=>(Hd w0 F0 w [Ae Al (.slice A1 xs.length c2) ys] [])∧(a+1≤i∧(i≤b∨i=a+1))∧(Ci xs ys)∧(DY xs ys a b)∧(BR ys a i)) (fun (i,ys)=>b - i) (a+1,xs) ⟨rfl,rfl,rfl,rfl,rfl,trivial⟩ ⟨H,by (try dsimp only);omega,Ci.refl _,DY.refl _ _ _,BR.one xs (Nat.le_refl _)⟩ ?_)))))))))
 rintro ⟨i,ys⟩ w ⟨H,hi,hst,hin,hso⟩
 have hl:=hin.1
 refine Z (Z (Ac (Ad 2 U (V U U (AQ U U U) (Aa (Y ?_))))))
 refine Aq U (fun h6=>?_) (fun h6=>?_)
 ·refine Av (Y (Z (AK (Z (Ac (Ad 2 U (Aa (Y (AK (Br (σ:=Nat×List An) (fun (j,zs)=>[(0,.slice A1 xs.length c2),(1,.int .i64 ((a:Nat):Int)),(2,.int .i64 ((b:Nat):Int)),(3,.func (.func 209) #[] #[]),(8,.int .i64 ((i:Nat):Int)),(9,.int .i64 ((j:Nat):Int))]) (fun (j,zs) w=>(Hd w0 F0 w [Ae Al (.slice A1 xs.length c2) zs] [])∧(a≤j∧j≤i)∧(Ci xs zs)∧(DY xs zs a b)∧(Gh zs a (i+1) j)) (fun (j,zs)=>j) (i,ys) ⟨rfl,rfl,rfl,rfl,rfl,rfl,trivial⟩ ⟨H,by (try dsimp only);omega,hst,hin,SR hso⟩ ?_))))))))))
  rintro ⟨j,zs⟩ w ⟨H,hj,hst2,hin2,hbu⟩
  have hl2:=hin2.1
  refine Z (Z (BD (.e 0 (.e 1 (.e 2 (.e 3 (.e 4 (.e 5 (.e 6 (.e 7 (.e 8 (.e 9 (.e 10 (.e 11 (.e 12 (.e 13 (.m 14 (.e 15 (.e 16 .z))))))))))))))))) (fun w=>∃ Ar,Hd w0 F0 w (Ae Al (.slice A1 xs.length c2) zs::Ar) []) mo (by kernel_rfl) (fun w H=>⟨_,H⟩) H (fun w H=>(Ap U (Ap U (Ak U U U (fun w ⟨Ar,H⟩=>BP U U U) (Ap U ?_)))))))
  refine G6 (d:=21) U (fun h7=>?_) (fun h7=>?_)
  ·refine Ap U (Ap U (Ap U ?_))
   obtain ⟨x8,hx9⟩:∃ z9,zs[j]?=some z9:=⟨_,List.getElem?_eq_getElem (show j<zs.length by omega)⟩
   have th10:=H.thA 0 rfl hx9
   refine Ak U U U (fun w ⟨Ar,H⟩=>AG (p:=AA A1+j*2) U Bq U U (by omega) (by omega) th10 U) (Ak U U U (fun w ⟨Ar,H⟩=>Bp (cs:=[.string x8.key,.string x8.val]) U B8 U U (H.elsA 0 U hx9 U)) (Ap U (Ap U (Ak U U U (fun w ⟨Ar,H⟩=>Cm (z:=((j - 1:Nat):Int)) U U U (by rw [Ay (by omega) (by omega)];omega)) ?_))))
   obtain ⟨x11,hx12⟩:∃ z9,zs[j - 1]?=some z9:=⟨_,List.getElem?_eq_getElem (show j - 1<zs.length by omega)⟩
   have th13:=H.thA 0 rfl hx12
   refine Ak U U U (fun w ⟨Ar,H⟩=>AG (p:=AA A1+(j - 1)*2) U Bq U U (by omega) (by omega) th13 U) (Ak U U U (fun w ⟨Ar,H⟩=>Bp (cs:=[.string x11.key,.string x11.val]) U B8 U U (H.elsA 0 U hx12 U)) (AL U (sc (IH x8 x11) H l0 U U (Gk (vs:=[.agg #[.string x8.key,.string x8.val],.agg #[.string x11.key,.string x11.val]]) (fs:=#[]) (cs:=#[]) IA U U U) ?_)))
   rintro _ _ w ⟨rfl,rfl⟩ H
   refine AH ⟨_,H⟩ (Ak U U U (fun w ⟨Ar,H⟩=>AQ U U U) (Ap U (Bx (Y ?_))))
   refine Aq U (fun h14=>?_) (fun h14=>?_)
   ·refine Av (Y (Z (AK (BD (.e 0 (.e 1 (.e 2 (.e 3 (.e 4 (.e 5 (.e 6 (.e 7 (.e 8 (.e 10 (.e 11 (.e 12 (.p 9 13 (.e 14 (.m 15 (.e 16 (.m 17 .z))))))))))))))))) (fun w=>∃ Ar,Hd w0 F0 w (Ar) []) mo (by kernel_rfl) (fun w H=>⟨_,H⟩) H (fun w H=>(Ap U (Ap U (Ap U (Ap U (Ak U U U (fun w ⟨Ar,H⟩=>Cm (z:=((j - 1:Nat):Int)) U U U (by rw [Ay (by omega) (by omega)];omega)) (Ap U (Ap U (Ak U U U (fun w ⟨Ar,H⟩=>Cm (z:=((j - 1:Nat):Int)) U U U (by rw [Ay (by omega) (by omega)];omega)) ?_)))))))))))))
    have th15:=H.thA 0 rfl hx12
    refine Ak U U U (fun w ⟨Ar,H⟩=>AG (p:=AA A1+(j - 1)*2) U Bq U U (by omega) (by omega) th15 U) (Ap U (Ap U ?_))
    have th16:=H.thA 0 rfl hx9
    refine Ak U U U (fun w ⟨Ar,H⟩=>AG (p:=AA A1+j*2) U Bq U U (by omega) (by omega) th16 U) (Jo U U U U U U U U (by decide) (Bp (cs:=[.string x11.key,.string x11.val]) U B8 U U (H.elsA 0 U hx12 U)) (Bp (cs:=[.string x8.key,.string x8.val]) U B8 U U (H.elsA 0 U hx9 U)) ?_)
    have th17:=H.thA 0 rfl hx9
    refine Ak U U U (fun w ⟨Ar,H⟩=>AG (p:=AA A1+j*2) U Bq U U (by omega) (by omega) th17 U) (AL U (FN (i:=j) (a:=x11) U U U B8 U U U H (by omega) U (fun w H=>(AH ⟨_,H⟩ ?_))))
    obtain ⟨x18,hx19⟩:∃ z9,(zs.set j x11)[j - 1]?=some z9:=⟨_,List.getElem?_eq_getElem (show j - 1<(zs.set j x11).length by simp only [List.length_set];omega)⟩
    have th20:=H.thA 0 rfl hx19
    refine Ak U U U (fun w ⟨Ar,H⟩=>AG (p:=AA A1+(j - 1)*2) U Bq U U (by omega) (by omega) th20 U) (AL U (FN (i:=j - 1) (a:=x8) U U U B8 U U U H (by simp only [List.length_set];omega) U (fun w H=>(AH ⟨_,H⟩ (Bx (AS (Y (Ac (Ab U (V U U (Cm (z:=((j - 1:Nat):Int)) U U U (by rw [Ay (by omega) (by omega)];omega)) (Ab U (Aa ?_))))))))))))
    have hsw:=ZV (by omega) hx12 hx9 (G5.1 h14)
    exact Bb (s:=(j,zs)) (j - 1,(zs.set j x11).set (j - 1) x8) ⟨rfl,rfl,rfl,rfl,rfl,rfl,trivial⟩ ⟨H,by (try dsimp only);omega,hst2.trans hsw.1,hin2.trans (hsw.2.wider (by omega) (by omega)),ST hbu (by omega) hx12 hx9 (G5.1 h14) (by omega)⟩ (by (try dsimp only);omega)
   exact Bj (AE (AE (Bk (AS (Y (Ac (Ab U (V U U (AP (z:=((i+1:Nat):Int)) U U U (by rw [Ay (by omega) (by omega)];omega)) (Ab U (Aa (Bb (s:=(i,ys)) (i+1,zs) ⟨rfl,rfl,rfl,rfl,rfl,trivial⟩ ⟨H,by (try dsimp only);omega,hst2,hin2,SV hbu (by omega) hx12 hx9 (Iq h14)⟩ (by (try dsimp only);omega))))))))))))
  exact Ap U (Ap U (Ap U (Ap U (Ap U (Ap U (Ap U (Ap U (Ap U (Ap U (Ty U ⟨_,H⟩ U U (Ap U (Ap U (Bx (Y (B0 U (Bj (AE (AE (Bk (AS (Y (Ac (Ab U (V U U (AP (z:=((i+1:Nat):Int)) U U U (by rw [Ay (by omega) (by omega)];omega)) (Ab U (Aa (Bb (s:=(i,ys)) (i+1,zs) ⟨rfl,rfl,rfl,rfl,rfl,trivial⟩ ⟨H,by (try dsimp only);omega,hst2,hin2,SQ ((by omega:j=a)▸hbu)⟩ (by (try dsimp only);omega))))))))))))))))))))))))))))
 exact Bj (AE (AE (Bk (Dg U (Ag ⟨_,rfl,hst,hin,hso.sub (Nat.le_refl _) (by omega)⟩ H)))))
theorem ZW (N:Nat) (ih:∀ (v:Value) (xs:List An) (a m b:Nat),b - a<N→a<m→m<b→b≤xs.length→xs.length≤1000000→BR xs a m→BR xs m b→Cn Tryz.prog 278 [v,.int .i64 ((a:Nat):Int),.int .i64 ((m:Nat):Int),.int .i64 ((b:Nat):Int),.func (.func 209) #[] #[]] [Ae Al v xs] [] (fun _ Bs=>∃ ys,Bs=[Ae Al v ys]∧CE xs ys a b)) (v:Value) (xs:List An) (a:Nat) (m:Nat) (b:Nat) (hN:b - a<N+1) (h1:a<m) (h2:m<b) (h3:b≤xs.length) (hb:xs.length≤1000000) (hs1:BR xs a m) (hs2:BR xs m b):
    Cn Tryz.prog 278 [v,.int .i64 ((a:Nat):Int),.int .i64 ((m:Nat):Int),.int .i64 ((b:Nat):Int),.func (.func 209) #[] #[]] [Ae Al v xs] [] (fun _ Bs=>∃ ys,Bs=[Ae Al v ys]∧CE xs ys a b):=by
 intro w0 F0 H
 obtain ⟨A1,c2,rfl,hc3,hm4,hp5⟩:=H.fA 0 rfl
 refine enter Tryz.func278 U U (Nat.le_of_ble_eq_true U) (Z (Z (Ac (Ad 2 U (V U U (Cm (z:=((m - a:Nat):Int)) U U U (by rw [Ay (by omega) (by omega)];omega)) (V U U (AT U U U) (Aa (Y ?_))))))))
 refine Aq U (fun h6=>?_) (fun h6=>?_)
 ·refine Z ?_
  have hm:m=a+1:=by omega
  obtain ⟨x0,hx0⟩:∃ z9,xs[a]?=some z9:=⟨_,List.getElem?_eq_getElem (show a<xs.length by omega)⟩
  refine Ac (Ad 2 U (Aa (Y (Z (Ac (Ad 2 U (Aa (Y (Z (AK (Br (σ:=Nat×Nat) (fun (i,j)=>[(0,.slice A1 xs.length c2),(1,.int .i64 ((a:Nat):Int)),(2,.int .i64 ((m:Nat):Int)),(3,.int .i64 ((b:Nat):Int)),(4,.func (.func 209) #[] #[]),(10,.int .i64 ((i:Nat):Int)),(11,.int .i64 ((j:Nat):Int))]) (fun (i,j) w=>(Hd w0 F0 w [Ae Al (.slice A1 xs.length c2) xs] [])∧(m≤i∧i≤j∧j≤b)∧(i=m∨∃ u,xs[i - 1]?=some u∧Bi u.key x0.key=true)∧(j=b∨∃ u,xs[j]?=some u∧Bi u.key x0.key=false)) (fun (i,j)=>j - i) (m,b) ⟨rfl,rfl,rfl,rfl,rfl,rfl,rfl,trivial⟩ ⟨H,by (try dsimp only);omega,.inl rfl,.inl rfl⟩ ?_)))))))))))
  rintro ⟨i,j⟩ w ⟨H,hij,hlow,hup⟩
  refine Z (Z (Ac (Ad 2 U (V U U (AQ U U U) (Aa (Y ?_))))))
  refine Aq U (fun h7=>?_) (fun h7=>?_)
  ·refine Av (Y (AK (Z (Ac (Ad 2 U (V U U (AP (z:=((i+j:Nat):Int)) U U U (by rw [Ay (by omega) (by omega)];omega)) (V U U (CW (z:=((i+j:Nat):Int)) U U Dl FR (D5 (by omega) (by omega))) (V U U (H_ (z:=(((i+j) / 2:Nat):Int)) U U U (by omega) (Iw _)) (V U U (CW (z:=(((i+j) / 2:Nat):Int)) U U FR Dl (Ay (by omega) (by omega))) (Ab U (Aa (Y (Z (BD (.e 0 (.e 1 (.e 2 (.e 3 (.e 4 (.e 5 (.e 6 (.e 7 (.e 8 (.m 9 (.e 10 .z))))))))))) (fun w=>∃ Ar,Hd w0 F0 w (Ae Al (.slice A1 xs.length c2) xs::Ar) []) mo (by kernel_rfl) (fun w H=>⟨_,H⟩) H (fun w H=>(Ap U (Ap U (Ap U ?_))))))))))))))))))
   obtain ⟨x8,hx9⟩:∃ z9,xs[(i+j) / 2]?=some z9:=⟨_,List.getElem?_eq_getElem (show (i+j) / 2<xs.length by omega)⟩
   have th10:=H.thA 0 rfl hx9
   refine Ak U U U (fun w ⟨Ar,H⟩=>AG (p:=AA A1+((i+j) / 2)*2) U Bq U U (by omega) (by omega) th10 U) (Ak U U U (fun w ⟨Ar,H⟩=>Bp (cs:=[.string x8.key,.string x8.val]) U B8 U U (H.elsA 0 U hx9 U)) (Ap U (Ap U ?_)))
   obtain ⟨x11,hx12⟩:∃ z9,xs[a]?=some z9:=⟨_,List.getElem?_eq_getElem (show a<xs.length by omega)⟩
   have th13:=H.thA 0 rfl hx12
   refine Ak U U U (fun w ⟨Ar,H⟩=>AG (p:=AA A1+a*2) U Bq U U (by omega) (by omega) th13 U) (Ak U U U (fun w ⟨Ar,H⟩=>Bp (cs:=[.string x11.key,.string x11.val]) U B8 U U (H.elsA 0 U hx12 U)) (AL U (sc (IH x8 x11) H l0 U U (Gk (vs:=[.agg #[.string x8.key,.string x8.val],.agg #[.string x11.key,.string x11.val]]) (fs:=#[]) (cs:=#[]) IA U U U) ?_)))
   rintro _ _ w ⟨rfl,rfl⟩ H
   refine AH ⟨_,H⟩ (Ak U U U (fun w ⟨Ar,H⟩=>AQ U U U) (Bx (Y ?_)))
   refine Aq U (fun h14=>?_) (fun h14=>?_)
   ·obtain rfl:x11=x0:=Option.some.inj (hx12.symm.trans hx0)
    exact Ac (Ab U (V U U (AP (z:=(((i+j) / 2+1:Nat):Int)) U U U (by rw [Ay (by omega) (by omega)];omega)) (Ab U (Aa (AS (Bb (s:=(i,j)) ((i+j) / 2+1,j) ⟨rfl,rfl,rfl,rfl,rfl,rfl,rfl,trivial⟩ ⟨H,by (try dsimp only);omega,.inr ⟨x8,by rw [Nat.add_sub_cancel];exact hx9,G5.1 h14⟩,hup⟩ (by (try dsimp only);omega)))))))
   obtain rfl:x11=x0:=Option.some.inj (hx12.symm.trans hx0)
   exact Ac (Ad 2 U (Aa (AS (Bb (s:=(i,j)) (i,(i+j) / 2) ⟨rfl,rfl,rfl,rfl,rfl,rfl,rfl,trivial⟩ ⟨H,by (try dsimp only);omega,hlow,.inr ⟨x8,hx9,Iq h14⟩⟩ (by (try dsimp only);omega)))))
  refine Bj (AE (AE (Bk (Y (Z (Z (Ac (Ad 2 U (Aa (Y (AK (Br (σ:=Nat×List An) (fun (k,ys)=>[(0,.slice A1 xs.length c2),(1,.int .i64 ((a:Nat):Int)),(2,.int .i64 ((m:Nat):Int)),(3,.int .i64 ((b:Nat):Int)),(4,.func (.func 209) #[] #[]),(10,.int .i64 ((i:Nat):Int)),(13,.int .i64 ((k:Nat):Int))]) (fun (k,ys) w=>(Hd w0 F0 w [Ae Al (.slice A1 xs.length c2) ys] [])∧(a≤k∧k+1≤i)∧(CF xs ys (Bn a m (k+1)))) (fun (k,ys)=>i - k) (a,xs) ⟨rfl,rfl,rfl,rfl,rfl,rfl,rfl,trivial⟩ ⟨H,by (try dsimp only);omega,by rw [hm];exact aQ xs a⟩ ?_))))))))))))
  rintro ⟨k,ys⟩ w ⟨H,hk,hv⟩
  have hl:=hv.1
  refine Z (Z (Ac (Ad 2 U (V U U (Cm (z:=((i - 1:Nat):Int)) U U U (by rw [Ay (by omega) (by omega)];omega)) (V U U (AQ U U U) (Aa (Y ?_)))))))
  refine Aq U (fun h15=>?_) (fun h15=>?_)
  ·refine Av (Y (Z (AK (BD (.e 0 (.e 1 (.e 2 (.e 3 (.e 4 (.e 5 (.e 6 (.e 7 (.e 8 (.e 10 (.e 11 (.e 12 (.p 9 13 (.e 14 (.m 15 (.e 16 (.m 17 .z))))))))))))))))) (fun w=>∃ Ar,Hd w0 F0 w (Ar) []) mo (by kernel_rfl) (fun w H=>⟨_,H⟩) H (fun w H=>(Ap U (Ap U (Ap U (Ap U (Ak U U U (fun w ⟨Ar,H⟩=>AP (z:=((k+1:Nat):Int)) U U U (by rw [Ay (by omega) (by omega)];omega)) (Ap U (Ap U (Ak U U U (fun w ⟨Ar,H⟩=>AP (z:=((k+1:Nat):Int)) U U U (by rw [Ay (by omega) (by omega)];omega)) ?_)))))))))))))
   obtain ⟨x16,hx17⟩:∃ z9,ys[k+1]?=some z9:=⟨_,List.getElem?_eq_getElem (show k+1<ys.length by omega)⟩
   have th18:=H.thA 0 rfl hx17
   refine Ak U U U (fun w ⟨Ar,H⟩=>AG (p:=AA A1+(k+1)*2) U Bq U U (by omega) (by omega) th18 U) (Ap U (Ap U ?_))
   obtain ⟨x19,hx20⟩:∃ z9,ys[k]?=some z9:=⟨_,List.getElem?_eq_getElem (show k<ys.length by omega)⟩
   have th21:=H.thA 0 rfl hx20
   refine Ak U U U (fun w ⟨Ar,H⟩=>AG (p:=AA A1+k*2) U Bq U U (by omega) (by omega) th21 U) (Jo U U U U U U U U (by decide) (Bp (cs:=[.string x16.key,.string x16.val]) U B8 U U (H.elsA 0 U hx17 U)) (Bp (cs:=[.string x19.key,.string x19.val]) U B8 U U (H.elsA 0 U hx20 U)) ?_)
   have th22:=H.thA 0 rfl hx20
   refine Ak U U U (fun w ⟨Ar,H⟩=>AG (p:=AA A1+k*2) U Bq U U (by omega) (by omega) th22 U) (AL U (FN (i:=k) (a:=x16) U U U B8 U U U H (by omega) U (fun w H=>(AH ⟨_,H⟩ ?_))))
   obtain ⟨x23,hx24⟩:∃ z9,(ys.set k x16)[k+1]?=some z9:=⟨_,List.getElem?_eq_getElem (show k+1<(ys.set k x16).length by simp only [List.length_set];omega)⟩
   have th25:=H.thA 0 rfl hx24
   refine Ak U U U (fun w ⟨Ar,H⟩=>AG (p:=AA A1+(k+1)*2) U Bq U U (by omega) (by omega) th25 U) (AL U (FN (i:=k+1) (a:=x19) U U U B8 U U U H (by simp only [List.length_set];omega) U (fun w H=>?_)))
   exact AH ⟨_,H⟩ (Bx (AS (Y (Ac (Ab U (V U U (AP (z:=((k+1:Nat):Int)) U U U (by rw [Ay (by omega) (by omega)];omega)) (Ab U (Aa (Bb (s:=(k,ys)) (k+1,(ys.set k x16).set (k+1) x19) ⟨rfl,rfl,rfl,rfl,rfl,rfl,rfl,trivial⟩ ⟨H,by (try dsimp only);omega,aU hm (by omega) hv hx20 hx17⟩ (by (try dsimp only);omega))))))))))
  refine Bj (AE (AE (Bk (Y (Ai (Ao (MI U ?_)))))))
  obtain rfl:j=i:=by omega
  obtain rfl:j=k+1:=by omega
  exact Ag ⟨_,rfl,WR hm hv (by omega) (by omega) (by omega) hs2 hx0 hlow hup⟩ H
 refine Av (Y (Z (Z (Ac (Ad 2 U (V U U (Cm (z:=((b - m:Nat):Int)) U U U (by rw [Ay (by omega) (by omega)];omega)) (V U U (AT U U U) (Aa (Y ?_)))))))))
 refine Aq U (fun h26=>?_) (fun h26=>?_)
 ·refine Z ?_
  have hm:b=m+1:=by omega
  obtain ⟨x0,hx0⟩:∃ z9,xs[m]?=some z9:=⟨_,List.getElem?_eq_getElem (show m<xs.length by omega)⟩
  refine Ac (Ad 2 U (Aa (Y (Z (Ac (Ad 2 U (Aa (Y (Z (AK (Br (σ:=Nat×Nat) (fun (i,j)=>[(0,.slice A1 xs.length c2),(1,.int .i64 ((a:Nat):Int)),(2,.int .i64 ((m:Nat):Int)),(3,.int .i64 ((b:Nat):Int)),(4,.func (.func 209) #[] #[]),(14,.int .i64 ((i:Nat):Int)),(15,.int .i64 ((j:Nat):Int))]) (fun (i,j) w=>(Hd w0 F0 w [Ae Al (.slice A1 xs.length c2) xs] [])∧(a≤i∧i≤j∧j≤m)∧(i=a∨∃ u,xs[i - 1]?=some u∧Bi x0.key u.key=false)∧(j=m∨∃ u,xs[j]?=some u∧Bi x0.key u.key=true)) (fun (i,j)=>j - i) (a,m) ⟨rfl,rfl,rfl,rfl,rfl,rfl,rfl,trivial⟩ ⟨H,by (try dsimp only);omega,.inl rfl,.inl rfl⟩ ?_)))))))))))
  rintro ⟨i,j⟩ w ⟨H,hij,hlow,hup⟩
  refine Z (Z (Ac (Ad 2 U (V U U (AQ U U U) (Aa (Y ?_))))))
  refine Aq U (fun h27=>?_) (fun h27=>?_)
  ·refine Av (Y (AK (Z (Ac (Ad 2 U (V U U (AP (z:=((i+j:Nat):Int)) U U U (by rw [Ay (by omega) (by omega)];omega)) (V U U (CW (z:=((i+j:Nat):Int)) U U Dl FR (D5 (by omega) (by omega))) (V U U (H_ (z:=(((i+j) / 2:Nat):Int)) U U U (by omega) (Iw _)) (V U U (CW (z:=(((i+j) / 2:Nat):Int)) U U FR Dl (Ay (by omega) (by omega))) (Ab U (Aa (Y (Z (BD (.e 0 (.e 1 (.e 2 (.e 3 (.e 4 (.e 5 (.e 6 (.e 7 (.e 8 (.m 9 (.e 10 (.e 11 .z)))))))))))) (fun w=>∃ Ar,Hd w0 F0 w (Ae Al (.slice A1 xs.length c2) xs::Ar) []) mo (by kernel_rfl) (fun w H=>⟨_,H⟩) H (fun w H=>(Ap U (Ap U (Ap U ?_))))))))))))))))))
   obtain ⟨x28,hx29⟩:∃ z9,xs[m]?=some z9:=⟨_,List.getElem?_eq_getElem (show m<xs.length by omega)⟩
   have th30:=H.thA 0 rfl hx29
   refine Ak U U U (fun w ⟨Ar,H⟩=>AG (p:=AA A1+m*2) U Bq U U (by omega) (by omega) th30 U) (Ak U U U (fun w ⟨Ar,H⟩=>Bp (cs:=[.string x28.key,.string x28.val]) U B8 U U (H.elsA 0 U hx29 U)) (Ap U (Ap U ?_)))
   obtain ⟨x31,hx32⟩:∃ z9,xs[(i+j) / 2]?=some z9:=⟨_,List.getElem?_eq_getElem (show (i+j) / 2<xs.length by omega)⟩
   have th33:=H.thA 0 rfl hx32
   refine Ak U U U (fun w ⟨Ar,H⟩=>AG (p:=AA A1+((i+j) / 2)*2) U Bq U U (by omega) (by omega) th33 U) (Ak U U U (fun w ⟨Ar,H⟩=>Bp (cs:=[.string x31.key,.string x31.val]) U B8 U U (H.elsA 0 U hx32 U)) (AL U (sc (IH x28 x31) H l0 U U (Gk (vs:=[.agg #[.string x28.key,.string x28.val],.agg #[.string x31.key,.string x31.val]]) (fs:=#[]) (cs:=#[]) IA U U U) ?_)))
   rintro _ _ w ⟨rfl,rfl⟩ H
   refine AH ⟨_,H⟩ (Ak U U U (fun w ⟨Ar,H⟩=>AQ U U U) (Ak U U U (fun w ⟨Ar,H⟩=>CX U U) (Bx (Y ?_))))
   refine Aq U (fun h34=>?_) (fun h34=>?_)
   ·obtain rfl:x28=x0:=Option.some.inj (hx29.symm.trans hx0)
    exact Ac (Ab U (V U U (AP (z:=(((i+j) / 2+1:Nat):Int)) U U U (by rw [Ay (by omega) (by omega)];omega)) (Ab U (Aa (AS (Bb (s:=(i,j)) ((i+j) / 2+1,j) ⟨rfl,rfl,rfl,rfl,rfl,rfl,rfl,trivial⟩ ⟨H,by (try dsimp only);omega,.inr ⟨x31,by rw [Nat.add_sub_cancel];exact hx32,Iq h34⟩,hup⟩ (by (try dsimp only);omega)))))))
   obtain rfl:x28=x0:=Option.some.inj (hx29.symm.trans hx0)
   exact Ac (Ad 2 U (Aa (AS (Bb (s:=(i,j)) (i,(i+j) / 2) ⟨rfl,rfl,rfl,rfl,rfl,rfl,rfl,trivial⟩ ⟨H,by (try dsimp only);omega,hlow,.inr ⟨x31,hx32,G5.1 (Classical.not_not.1 h34)⟩⟩ (by (try dsimp only);omega)))))
  refine Bj (AE (AE (Bk (Y (Z (Z (Ac (Ad 2 U (Aa (Y (AK (Br (σ:=Nat×List An) (fun (k,ys)=>[(0,.slice A1 xs.length c2),(1,.int .i64 ((a:Nat):Int)),(2,.int .i64 ((m:Nat):Int)),(3,.int .i64 ((b:Nat):Int)),(4,.func (.func 209) #[] #[]),(14,.int .i64 ((i:Nat):Int)),(17,.int .i64 ((k:Nat):Int))]) (fun (k,ys) w=>(Hd w0 F0 w [Ae Al (.slice A1 xs.length c2) ys] [])∧(i≤k∧k≤m)∧(CF xs ys (Bn k m b))) (fun (k,ys)=>k) (m,xs) ⟨rfl,rfl,rfl,rfl,rfl,rfl,rfl,trivial⟩ ⟨H,by (try dsimp only);omega,by rw [hm];exact aR xs m⟩ ?_))))))))))))
  rintro ⟨k,ys⟩ w ⟨H,hk,hv⟩
  have hl:=hv.1
  refine Z (Z (Ac (Ad 2 U (V U U (BP U U U) (Aa (Y ?_))))))
  refine Aq U (fun h35=>?_) (fun h35=>?_)
  ·refine Av (Y (Z (AK (BD (.e 0 (.e 1 (.e 2 (.e 3 (.e 4 (.e 5 (.e 6 (.e 7 (.e 8 (.e 10 (.e 11 (.e 12 (.p 9 13 (.e 14 (.m 15 (.e 16 (.m 17 .z))))))))))))))))) (fun w=>∃ Ar,Hd w0 F0 w (Ar) []) mo (by kernel_rfl) (fun w H=>⟨_,H⟩) H (fun w H=>(Ap U (Ap U (Ap U (Ap U (Ak U U U (fun w ⟨Ar,H⟩=>Cm (z:=((k - 1:Nat):Int)) U U U (by rw [Ay (by omega) (by omega)];omega)) (Ap U (Ap U (Ak U U U (fun w ⟨Ar,H⟩=>Cm (z:=((k - 1:Nat):Int)) U U U (by rw [Ay (by omega) (by omega)];omega)) ?_)))))))))))))
   obtain ⟨x36,hx37⟩:∃ z9,ys[k - 1]?=some z9:=⟨_,List.getElem?_eq_getElem (show k - 1<ys.length by omega)⟩
   have th38:=H.thA 0 rfl hx37
   refine Ak U U U (fun w ⟨Ar,H⟩=>AG (p:=AA A1+(k - 1)*2) U Bq U U (by omega) (by omega) th38 U) (Ap U (Ap U ?_))
   obtain ⟨x39,hx40⟩:∃ z9,ys[k]?=some z9:=⟨_,List.getElem?_eq_getElem (show k<ys.length by omega)⟩
   have th41:=H.thA 0 rfl hx40
   refine Ak U U U (fun w ⟨Ar,H⟩=>AG (p:=AA A1+k*2) U Bq U U (by omega) (by omega) th41 U) (Jo U U U U U U U U (by decide) (Bp (cs:=[.string x36.key,.string x36.val]) U B8 U U (H.elsA 0 U hx37 U)) (Bp (cs:=[.string x39.key,.string x39.val]) U B8 U U (H.elsA 0 U hx40 U)) ?_)
   have th42:=H.thA 0 rfl hx40
   refine Ak U U U (fun w ⟨Ar,H⟩=>AG (p:=AA A1+k*2) U Bq U U (by omega) (by omega) th42 U) (AL U (FN (i:=k) (a:=x36) U U U B8 U U U H (by omega) U (fun w H=>(AH ⟨_,H⟩ ?_))))
   obtain ⟨x43,hx44⟩:∃ z9,(ys.set k x36)[k - 1]?=some z9:=⟨_,List.getElem?_eq_getElem (show k - 1<(ys.set k x36).length by simp only [List.length_set];omega)⟩
   have th45:=H.thA 0 rfl hx44
   refine Ak U U U (fun w ⟨Ar,H⟩=>AG (p:=AA A1+(k - 1)*2) U Bq U U (by omega) (by omega) th45 U) (AL U (FN (i:=k - 1) (a:=x39) U U U B8 U U U H (by simp only [List.length_set];omega) U (fun w H=>?_)))
   exact AH ⟨_,H⟩ (Bx (AS (Y (Ac (Ab U (V U U (Cm (z:=((k - 1:Nat):Int)) U U U (by rw [Ay (by omega) (by omega)];omega)) (Ab U (Aa (Bb (s:=(k,ys)) (k - 1,(ys.set k x36).set (k - 1) x39) ⟨rfl,rfl,rfl,rfl,rfl,rfl,rfl,trivial⟩ ⟨H,by (try dsimp only);omega,aO hm (by omega) (by omega) hv hx40 hx37⟩ (by (try dsimp only);omega))))))))))
  refine Bj (AE (AE (Bk (Y (Ai (Ao (MI U ?_)))))))
  obtain rfl:j=i:=by omega
  obtain rfl:j=k:=by omega
  exact Ag ⟨_,rfl,WT hm hv (by omega) (by omega) (by omega) hs1 hx0 hlow hup⟩ H
 refine Av (Y (Z (Ac (Ad 2 U (V U U (AP (z:=((a+b:Nat):Int)) U U U (by rw [Ay (by omega) (by omega)];omega)) (V U U (CW (z:=((a+b:Nat):Int)) U U Dl FR (D5 (by omega) (by omega))) (V U U (H_ (z:=(((a+b) / 2:Nat):Int)) U U U (by omega) (Iw _)) (V U U (CW (z:=(((a+b) / 2:Nat):Int)) U U FR Dl (Ay (by omega) (by omega))) (Ab U (Aa (Y (Z ?_))))))))))))
 generalize hmd:(a+b) / 2=md
 refine Ac (Ad 2 U (V U U (AP (z:=((md+m:Nat):Int)) U U U (by rw [Ay (by omega) (by omega)];omega)) (Ab U (Aa (Y (Z (Ac (Ad 2 U (Aa (Y (Z (Z (Ac (Ad 2 U (V U U (BP U U U) (Aa (Y ?_)))))))))))))))))
 refine Aq U (fun h46=>?_) (fun h46=>?_)
 ·refine Z (Ac (Ad 2 U (V U U (Cm (z:=((md+m - b:Nat):Int)) U U U (by rw [Ay (by omega) (by omega)];omega)) (Ab U (Aa (Y (Ac (Ad 2 U (Aa (Y (Z (Ac (Ab U (V U U (Cm (z:=((md+m - 1:Nat):Int)) U U U (by rw [Ay (by omega) (by omega)];omega)) (Ab U (Aa (Y (Z (AK (Br (σ:=Nat×Nat) (fun (i,j)=>[(0,.slice A1 xs.length c2),(1,.int .i64 ((a:Nat):Int)),(2,.int .i64 ((m:Nat):Int)),(3,.int .i64 ((b:Nat):Int)),(4,.func (.func 209) #[] #[]),(18,.int .i64 ((md:Nat):Int)),(19,.int .i64 ((md+m:Nat):Int)),(20,.int .i64 ((i:Nat):Int)),(21,.int .i64 ((j:Nat):Int)),(22,.int .i64 ((md+m - 1:Nat):Int))]) (fun (i,j) w=>(Hd w0 F0 w [Ae Al (.slice A1 xs.length c2) xs] [])∧(md+m - b≤i∧i≤j∧j≤md)∧(i=md+m - b∨∃ u v,xs[i - 1]?=some u∧xs[md+m - i]?=some v∧Bi v.key u.key=false)∧(j=md∨∃ u v,xs[md+m - j - 1]?=some u∧xs[j]?=some v∧Bi u.key v.key=true)) (fun (i,j)=>j - i) (md+m - b,md) ⟨rfl,rfl,rfl,rfl,rfl,rfl,rfl,rfl,rfl,rfl,trivial⟩ ⟨H,by (try dsimp only);omega,.inl rfl,.inl rfl⟩ ?_))))))))))))))))))))
  rintro ⟨i,j⟩ w ⟨H,hij,hlow,hup⟩
  refine Z (Z (Ac (Ad 2 U (V U U (AQ U U U) (Aa (Y ?_))))))
  refine Aq U (fun h47=>?_) (fun h47=>?_)
  ·refine Av (Y (AK (Z (Ac (Ad 2 U (V U U (AP (z:=((i+j:Nat):Int)) U U U (by rw [Ay (by omega) (by omega)];omega)) (V U U (CW (z:=((i+j:Nat):Int)) U U Dl FR (D5 (by omega) (by omega))) (V U U (H_ (z:=(((i+j) / 2:Nat):Int)) U U U (by omega) (Iw _)) (V U U (CW (z:=(((i+j) / 2:Nat):Int)) U U FR Dl (Ay (by omega) (by omega))) (Ab U (Aa (Y (Z (BD (.e 0 (.e 1 (.e 2 (.e 3 (.e 4 (.e 5 (.e 6 (.e 7 (.e 8 (.e 9 (.e 10 (.m 11 (.e 12 (.e 13 .z)))))))))))))) (fun w=>∃ Ar,Hd w0 F0 w (Ae Al (.slice A1 xs.length c2) xs::Ar) []) mo (by kernel_rfl) (fun w H=>⟨_,H⟩) H (fun w H=>(Ap U (Ap U (Ap U (Ap U (Ak U U U (fun w ⟨Ar,H⟩=>Cm (z:=((md+m - 1 - ((i+j) / 2):Nat):Int)) U U U (by rw [Ay (by omega) (by omega)];omega)) ?_))))))))))))))))))))
   obtain ⟨x48,hx49⟩:∃ z9,xs[md+m - 1 - ((i+j) / 2)]?=some z9:=⟨_,List.getElem?_eq_getElem (show md+m - 1 - ((i+j) / 2)<xs.length by omega)⟩
   have th50:=H.thA 0 rfl hx49
   refine Ak U U U (fun w ⟨Ar,H⟩=>AG (p:=AA A1+(md+m - 1 - ((i+j) / 2))*2) U Bq U U (by omega) (by omega) th50 U) (Ak U U U (fun w ⟨Ar,H⟩=>Bp (cs:=[.string x48.key,.string x48.val]) U B8 U U (H.elsA 0 U hx49 U)) (Ap U (Ap U ?_)))
   obtain ⟨x51,hx52⟩:∃ z9,xs[(i+j) / 2]?=some z9:=⟨_,List.getElem?_eq_getElem (show (i+j) / 2<xs.length by omega)⟩
   have th53:=H.thA 0 rfl hx52
   refine Ak U U U (fun w ⟨Ar,H⟩=>AG (p:=AA A1+((i+j) / 2)*2) U Bq U U (by omega) (by omega) th53 U) (Ak U U U (fun w ⟨Ar,H⟩=>Bp (cs:=[.string x51.key,.string x51.val]) U B8 U U (H.elsA 0 U hx52 U)) (AL U (sc (IH x48 x51) H l0 U U (Gk (vs:=[.agg #[.string x48.key,.string x48.val],.agg #[.string x51.key,.string x51.val]]) (fs:=#[]) (cs:=#[]) IA U U U) ?_)))
   rintro _ _ w ⟨rfl,rfl⟩ H
   refine AH ⟨_,H⟩ (Ak U U U (fun w ⟨Ar,H⟩=>AQ U U U) (Ak U U U (fun w ⟨Ar,H⟩=>CX U U) (Bx (Y ?_))))
   refine Aq U (fun h54=>?_) (fun h54=>?_)
   ·exact Ac (Ab U (V U U (AP (z:=(((i+j) / 2+1:Nat):Int)) U U U (by rw [Ay (by omega) (by omega)];omega)) (Ab U (Aa (AS (Bb (s:=(i,j)) ((i+j) / 2+1,j) ⟨rfl,rfl,rfl,rfl,rfl,rfl,rfl,rfl,rfl,rfl,trivial⟩ ⟨H,by (try dsimp only);omega,.inr ⟨x51,x48,by rw [Nat.add_sub_cancel];exact hx52,by rw [show md+m - ((i+j) / 2+1)=md+m - 1 - (i+j) / 2 by omega];exact hx49,Iq h54⟩,hup⟩ (by (try dsimp only);omega)))))))
   exact Ac (Ad 2 U (Aa (AS (Bb (s:=(i,j)) (i,(i+j) / 2) ⟨rfl,rfl,rfl,rfl,rfl,rfl,rfl,rfl,rfl,rfl,trivial⟩ ⟨H,by (try dsimp only);omega,hlow,.inr ⟨x48,x51,by rw [show md+m - (i+j) / 2 - 1=md+m - 1 - (i+j) / 2 by omega];exact hx49,hx52,G5.1 (Classical.not_not.1 h54)⟩⟩ (by (try dsimp only);omega)))))
  refine Bj (AE (AE (Bk (Y (Z ?_)))))
  obtain rfl:j=i:=by omega
  have hlow2:j=a∨md+m - j=b∨∃ u v,xs[j - 1]?=some u∧xs[md+m - j]?=some v∧Bi v.key u.key=false:=hlow.elim (fun h=>.inr (.inl (by omega))) (fun h=>.inr (.inr h))
  have hup2:j=m∨md+m - j=m∨∃ u v,xs[md+m - j - 1]?=some u∧xs[j]?=some v∧Bi u.key v.key=true:=hup.elim (fun h=>.inr (.inl (by omega))) (fun h=>.inr (.inr h))
  have hbd:a≤j∧j≤m∧m≤md+m - j∧md+m - j≤b∧md=j+(md+m - j - m):=by omega
  refine Ac (Ad 2 U (V U U (Cm (z:=((md+m - j:Nat):Int)) U U U (by rw [Ay (by omega) (by omega)];omega)) (Ab U (Aa (Y ?_)))))
  refine Jk (σ:=List An) (fun ys=>[(0,.slice A1 xs.length c2),(1,.int .i64 ((a:Nat):Int)),(2,.int .i64 ((m:Nat):Int)),(3,.int .i64 ((b:Nat):Int)),(4,.func (.func 209) #[] #[]),(18,.int .i64 ((md:Nat):Int)),(20,.int .i64 ((j:Nat):Int)),(24,.int .i64 ((md+m - j:Nat):Int))]) (fun ys w=>(Hd w0 F0 w [Ae Al (.slice A1 xs.length c2) ys] [])∧(CF xs ys (Bn j m (md+m - j)))) ?_ ?_
  ·refine Z (Ac (Ad 2 U (V U U (AQ U U U) (Ab U ?_))))
   refine AD (d:=181) U (fun h55=>?_) (fun h55=>?_)
   ·refine Ad 2 U (V U U (AQ U U U) (Ab U (Aa (Y ?_))))
    refine Aq U (fun h56=>?_) (fun h56=>?_)
    ·refine Ac (Ad 5 U (sc (RD (.slice A1 xs.length c2) xs j m (md+m - j) (by omega) (by omega) (by omega) (by omega)) H l0 U U (At PH U U) ?_))
     rintro _ _ w ⟨ys57,rfl,hv58⟩ H
     exact Aa (Fq ys57 ⟨rfl,rfl,rfl,rfl,rfl,rfl,rfl,rfl,trivial⟩ ⟨H,hv58⟩)
    exact Av (Fq xs ⟨rfl,rfl,rfl,rfl,rfl,rfl,rfl,rfl,trivial⟩ ⟨H,KK xs (by omega) (by omega) (by omega)⟩)
   exact Ad 4 U (Aa (Y (B0 U (Av (Fq xs ⟨rfl,rfl,rfl,rfl,rfl,rfl,rfl,rfl,trivial⟩ ⟨H,KK xs (by omega) (by omega) (by omega)⟩)))))
  rintro ys w ⟨H,hv⟩
  have hl:=hv.1
  have hru:=Km hv hbd.1 hbd.2.1 hbd.2.2.1 hbd.2.2.2.1 hbd.2.2.2.2 hs1 hs2
  refine Jk (σ:=List An) (fun zs=>[(0,.slice A1 xs.length c2),(1,.int .i64 ((a:Nat):Int)),(2,.int .i64 ((m:Nat):Int)),(3,.int .i64 ((b:Nat):Int)),(4,.func (.func 209) #[] #[]),(18,.int .i64 ((md:Nat):Int)),(20,.int .i64 ((j:Nat):Int)),(24,.int .i64 ((md+m - j:Nat):Int))]) (fun zs w=>(Hd w0 F0 w [Ae Al (.slice A1 xs.length c2) zs] [])∧(CE ys zs a md)) ?_ ?_
  ·refine Z (Ac (Ad 2 U (V U U (AQ U U U) (Ab U ?_))))
   refine AD (d:=195) U (fun h59=>?_) (fun h59=>?_)
   ·refine Ad 2 U (V U U (AQ U U U) (Ab U (Aa (Y ?_))))
    refine Aq U (fun h60=>?_) (fun h60=>?_)
    ·refine Ac (Ad 5 U (sc (ih (.slice A1 xs.length c2) ys a j md (by omega) (by omega) (by omega) (by omega) (by omega) hru.1 hru.2.1) H l0 U U (At HO U U) ?_))
     rintro _ _ w ⟨ys61,rfl,hv62⟩ H
     exact Aa (Fq ys61 ⟨rfl,rfl,rfl,rfl,rfl,rfl,rfl,rfl,trivial⟩ ⟨H,hv62⟩)
    exact Av (Fq ys ⟨rfl,rfl,rfl,rfl,rfl,rfl,rfl,rfl,trivial⟩ ⟨H,CE.refl (GT hru.1 hru.2.1 (by omega) hbd.1)⟩)
   exact Ad 4 U (Aa (Y (B0 U (Av (Fq ys ⟨rfl,rfl,rfl,rfl,rfl,rfl,rfl,rfl,trivial⟩ ⟨H,CE.refl (GT hru.1 hru.2.1 (by omega) hbd.1)⟩)))))
  rintro zs w ⟨H,hz⟩
  have hl3:=hz.ins.1
  have hr3:BR zs md (md+m - j):=hru.2.2.1.same (fun t h1 h2=>hz.ins.2.1 t (by omega))
  have hr4:BR zs (md+m - j) b:=hru.2.2.2.same (fun t h1 h2=>hz.ins.2.1 t (by omega))
  refine Z (Ac (Ad 2 U (V U U (AQ U U U) (Ab U ?_))))
  refine AD (d:=209) U (fun h63=>?_) (fun h63=>?_)
  ·refine Ad 2 U (V U U (AQ U U U) (Ab U (Aa (Y ?_))))
   refine Aq U (fun h64=>?_) (fun h64=>?_)
   ·refine Ac (Ad 5 U (sc (ih (.slice A1 xs.length c2) zs md (md+m - j) b (by omega) (by omega) (by omega) (by omega) (by omega) hr3 hr4) H l0 U U (At HO U U) ?_))
    rintro _ _ w ⟨ys65,rfl,hv66⟩ H
    exact Aa (Dg U (Ag ⟨_,rfl,GO hv hbd.1 hbd.2.1 hbd.2.2.1 hbd.2.2.2.1 (by omega) hbd.2.2.2.2 hs1 hs2 hlow2 hup2 hz hv66⟩ H))
   exact Av (Dg U (Ag ⟨_,rfl,GO hv hbd.1 hbd.2.1 hbd.2.2.1 hbd.2.2.2.1 (by omega) hbd.2.2.2.2 hs1 hs2 hlow2 hup2 hz (CE.refl (GT hr3 hr4 (by omega) (by omega)))⟩ H))
  exact Ad 4 U (Aa (Y (B0 U (Av (Dg U (Ag ⟨_,rfl,GO hv hbd.1 hbd.2.1 hbd.2.2.1 hbd.2.2.2.1 (by omega) hbd.2.2.2.2 hs1 hs2 hlow2 hup2 hz (CE.refl (GT hr3 hr4 (by omega) (by omega)))⟩ H))))))
 refine Z (Ac (Ad 2 U (Aa (Y (Ac (Ad 2 U (Aa (Y (Z (Ac (Ab U (V U U (Cm (z:=((md+m - 1:Nat):Int)) U U U (by rw [Ay (by omega) (by omega)];omega)) (Ab U (Aa (Y (Z (AK (Br (σ:=Nat×Nat) (fun (i,j)=>[(0,.slice A1 xs.length c2),(1,.int .i64 ((a:Nat):Int)),(2,.int .i64 ((m:Nat):Int)),(3,.int .i64 ((b:Nat):Int)),(4,.func (.func 209) #[] #[]),(18,.int .i64 ((md:Nat):Int)),(19,.int .i64 ((md+m:Nat):Int)),(20,.int .i64 ((i:Nat):Int)),(21,.int .i64 ((j:Nat):Int)),(22,.int .i64 ((md+m - 1:Nat):Int))]) (fun (i,j) w=>(Hd w0 F0 w [Ae Al (.slice A1 xs.length c2) xs] [])∧(a≤i∧i≤j∧j≤m)∧(i=a∨∃ u v,xs[i - 1]?=some u∧xs[md+m - i]?=some v∧Bi v.key u.key=false)∧(j=m∨∃ u v,xs[md+m - j - 1]?=some u∧xs[j]?=some v∧Bi u.key v.key=true)) (fun (i,j)=>j - i) (a,m) ⟨rfl,rfl,rfl,rfl,rfl,rfl,rfl,rfl,rfl,rfl,trivial⟩ ⟨H,by (try dsimp only);omega,.inl rfl,.inl rfl⟩ ?_))))))))))))))))))
 rintro ⟨i,j⟩ w ⟨H,hij,hlow,hup⟩
 refine Z (Z (Ac (Ad 2 U (V U U (AQ U U U) (Aa (Y ?_))))))
 refine Aq U (fun h67=>?_) (fun h67=>?_)
 ·refine Av (Y (AK (Z (Ac (Ad 2 U (V U U (AP (z:=((i+j:Nat):Int)) U U U (by rw [Ay (by omega) (by omega)];omega)) (V U U (CW (z:=((i+j:Nat):Int)) U U Dl FR (D5 (by omega) (by omega))) (V U U (H_ (z:=(((i+j) / 2:Nat):Int)) U U U (by omega) (Iw _)) (V U U (CW (z:=(((i+j) / 2:Nat):Int)) U U FR Dl (Ay (by omega) (by omega))) (Ab U (Aa (Y (Z (BD (.e 0 (.e 1 (.e 2 (.e 3 (.e 4 (.e 5 (.e 6 (.e 7 (.e 8 (.e 9 (.e 10 (.m 11 (.e 12 (.e 13 .z)))))))))))))) (fun w=>∃ Ar,Hd w0 F0 w (Ae Al (.slice A1 xs.length c2) xs::Ar) []) mo (by kernel_rfl) (fun w H=>⟨_,H⟩) H (fun w H=>(Ap U (Ap U (Ap U (Ap U (Ak U U U (fun w ⟨Ar,H⟩=>Cm (z:=((md+m - 1 - ((i+j) / 2):Nat):Int)) U U U (by rw [Ay (by omega) (by omega)];omega)) ?_))))))))))))))))))))
  obtain ⟨x68,hx69⟩:∃ z9,xs[md+m - 1 - ((i+j) / 2)]?=some z9:=⟨_,List.getElem?_eq_getElem (show md+m - 1 - ((i+j) / 2)<xs.length by omega)⟩
  have th70:=H.thA 0 rfl hx69
  refine Ak U U U (fun w ⟨Ar,H⟩=>AG (p:=AA A1+(md+m - 1 - ((i+j) / 2))*2) U Bq U U (by omega) (by omega) th70 U) (Ak U U U (fun w ⟨Ar,H⟩=>Bp (cs:=[.string x68.key,.string x68.val]) U B8 U U (H.elsA 0 U hx69 U)) (Ap U (Ap U ?_)))
  obtain ⟨x71,hx72⟩:∃ z9,xs[(i+j) / 2]?=some z9:=⟨_,List.getElem?_eq_getElem (show (i+j) / 2<xs.length by omega)⟩
  have th73:=H.thA 0 rfl hx72
  refine Ak U U U (fun w ⟨Ar,H⟩=>AG (p:=AA A1+((i+j) / 2)*2) U Bq U U (by omega) (by omega) th73 U) (Ak U U U (fun w ⟨Ar,H⟩=>Bp (cs:=[.string x71.key,.string x71.val]) U B8 U U (H.elsA 0 U hx72 U)) (AL U (sc (IH x68 x71) H l0 U U (Gk (vs:=[.agg #[.string x68.key,.string x68.val],.agg #[.string x71.key,.string x71.val]]) (fs:=#[]) (cs:=#[]) IA U U U) ?_)))
  rintro _ _ w ⟨rfl,rfl⟩ H
  refine AH ⟨_,H⟩ (Ak U U U (fun w ⟨Ar,H⟩=>AQ U U U) (Ak U U U (fun w ⟨Ar,H⟩=>CX U U) (Bx (Y ?_))))
  refine Aq U (fun h74=>?_) (fun h74=>?_)
  ·exact Ac (Ab U (V U U (AP (z:=(((i+j) / 2+1:Nat):Int)) U U U (by rw [Ay (by omega) (by omega)];omega)) (Ab U (Aa (AS (Bb (s:=(i,j)) ((i+j) / 2+1,j) ⟨rfl,rfl,rfl,rfl,rfl,rfl,rfl,rfl,rfl,rfl,trivial⟩ ⟨H,by (try dsimp only);omega,.inr ⟨x71,x68,by rw [Nat.add_sub_cancel];exact hx72,by rw [show md+m - ((i+j) / 2+1)=md+m - 1 - (i+j) / 2 by omega];exact hx69,Iq h74⟩,hup⟩ (by (try dsimp only);omega)))))))
  exact Ac (Ad 2 U (Aa (AS (Bb (s:=(i,j)) (i,(i+j) / 2) ⟨rfl,rfl,rfl,rfl,rfl,rfl,rfl,rfl,rfl,rfl,trivial⟩ ⟨H,by (try dsimp only);omega,hlow,.inr ⟨x68,x71,by rw [show md+m - (i+j) / 2 - 1=md+m - 1 - (i+j) / 2 by omega];exact hx69,hx72,G5.1 (Classical.not_not.1 h74)⟩⟩ (by (try dsimp only);omega)))))
 refine Bj (AE (AE (Bk (Y (Z ?_)))))
 obtain rfl:j=i:=by omega
 have hlow2:j=a∨md+m - j=b∨∃ u v,xs[j - 1]?=some u∧xs[md+m - j]?=some v∧Bi v.key u.key=false:=hlow.elim (fun h=>.inl (by omega)) (fun h=>.inr (.inr h))
 have hup2:j=m∨md+m - j=m∨∃ u v,xs[md+m - j - 1]?=some u∧xs[j]?=some v∧Bi u.key v.key=true:=hup.elim (fun h=>.inl (by omega)) (fun h=>.inr (.inr h))
 have hbd:a≤j∧j≤m∧m≤md+m - j∧md+m - j≤b∧md=j+(md+m - j - m):=by omega
 refine Ac (Ad 2 U (V U U (Cm (z:=((md+m - j:Nat):Int)) U U U (by rw [Ay (by omega) (by omega)];omega)) (Ab U (Aa (Y ?_)))))
 refine Jk (σ:=List An) (fun ys=>[(0,.slice A1 xs.length c2),(1,.int .i64 ((a:Nat):Int)),(2,.int .i64 ((m:Nat):Int)),(3,.int .i64 ((b:Nat):Int)),(4,.func (.func 209) #[] #[]),(18,.int .i64 ((md:Nat):Int)),(20,.int .i64 ((j:Nat):Int)),(24,.int .i64 ((md+m - j:Nat):Int))]) (fun ys w=>(Hd w0 F0 w [Ae Al (.slice A1 xs.length c2) ys] [])∧(CF xs ys (Bn j m (md+m - j)))) ?_ ?_
 ·refine Z (Ac (Ad 2 U (V U U (AQ U U U) (Ab U ?_))))
  refine AD (d:=181) U (fun h75=>?_) (fun h75=>?_)
  ·refine Ad 2 U (V U U (AQ U U U) (Ab U (Aa (Y ?_))))
   refine Aq U (fun h76=>?_) (fun h76=>?_)
   ·refine Ac (Ad 5 U (sc (RD (.slice A1 xs.length c2) xs j m (md+m - j) (by omega) (by omega) (by omega) (by omega)) H l0 U U (At PH U U) ?_))
    rintro _ _ w ⟨ys77,rfl,hv78⟩ H
    exact Aa (Fq ys77 ⟨rfl,rfl,rfl,rfl,rfl,rfl,rfl,rfl,trivial⟩ ⟨H,hv78⟩)
   exact Av (Fq xs ⟨rfl,rfl,rfl,rfl,rfl,rfl,rfl,rfl,trivial⟩ ⟨H,KK xs (by omega) (by omega) (by omega)⟩)
  exact Ad 4 U (Aa (Y (B0 U (Av (Fq xs ⟨rfl,rfl,rfl,rfl,rfl,rfl,rfl,rfl,trivial⟩ ⟨H,KK xs (by omega) (by omega) (by omega)⟩)))))
 rintro ys w ⟨H,hv⟩
 have hl:=hv.1
 have hru:=Km hv hbd.1 hbd.2.1 hbd.2.2.1 hbd.2.2.2.1 hbd.2.2.2.2 hs1 hs2
 refine Jk (σ:=List An) (fun zs=>[(0,.slice A1 xs.length c2),(1,.int .i64 ((a:Nat):Int)),(2,.int .i64 ((m:Nat):Int)),(3,.int .i64 ((b:Nat):Int)),(4,.func (.func 209) #[] #[]),(18,.int .i64 ((md:Nat):Int)),(20,.int .i64 ((j:Nat):Int)),(24,.int .i64 ((md+m - j:Nat):Int))]) (fun zs w=>(Hd w0 F0 w [Ae Al (.slice A1 xs.length c2) zs] [])∧(CE ys zs a md)) ?_ ?_
 ·refine Z (Ac (Ad 2 U (V U U (AQ U U U) (Ab U ?_))))
  refine AD (d:=195) U (fun h79=>?_) (fun h79=>?_)
  ·refine Ad 2 U (V U U (AQ U U U) (Ab U (Aa (Y ?_))))
   refine Aq U (fun h80=>?_) (fun h80=>?_)
   ·refine Ac (Ad 5 U (sc (ih (.slice A1 xs.length c2) ys a j md (by omega) (by omega) (by omega) (by omega) (by omega) hru.1 hru.2.1) H l0 U U (At HO U U) ?_))
    rintro _ _ w ⟨ys81,rfl,hv82⟩ H
    exact Aa (Fq ys81 ⟨rfl,rfl,rfl,rfl,rfl,rfl,rfl,rfl,trivial⟩ ⟨H,hv82⟩)
   exact Av (Fq ys ⟨rfl,rfl,rfl,rfl,rfl,rfl,rfl,rfl,trivial⟩ ⟨H,CE.refl (GT hru.1 hru.2.1 (by omega) hbd.1)⟩)
  exact Ad 4 U (Aa (Y (B0 U (Av (Fq ys ⟨rfl,rfl,rfl,rfl,rfl,rfl,rfl,rfl,trivial⟩ ⟨H,CE.refl (GT hru.1 hru.2.1 (by omega) hbd.1)⟩)))))
 rintro zs w ⟨H,hz⟩
 have hl3:=hz.ins.1
 have hr3:BR zs md (md+m - j):=hru.2.2.1.same (fun t h1 h2=>hz.ins.2.1 t (by omega))
 have hr4:BR zs (md+m - j) b:=hru.2.2.2.same (fun t h1 h2=>hz.ins.2.1 t (by omega))
 refine Z (Ac (Ad 2 U (V U U (AQ U U U) (Ab U ?_))))
 refine AD (d:=209) U (fun h83=>?_) (fun h83=>?_)
 ·refine Ad 2 U (V U U (AQ U U U) (Ab U (Aa (Y ?_))))
  refine Aq U (fun h84=>?_) (fun h84=>?_)
  ·refine Ac (Ad 5 U (sc (ih (.slice A1 xs.length c2) zs md (md+m - j) b (by omega) (by omega) (by omega) (by omega) (by omega) hr3 hr4) H l0 U U (At HO U U) ?_))
   rintro _ _ w ⟨ys85,rfl,hv86⟩ H
   exact Aa (Dg U (Ag ⟨_,rfl,GO hv hbd.1 hbd.2.1 hbd.2.2.1 hbd.2.2.2.1 (by omega) hbd.2.2.2.2 hs1 hs2 hlow2 hup2 hz hv86⟩ H))
  exact Av (Dg U (Ag ⟨_,rfl,GO hv hbd.1 hbd.2.1 hbd.2.2.1 hbd.2.2.2.1 (by omega) hbd.2.2.2.2 hs1 hs2 hlow2 hup2 hz (CE.refl (GT hr3 hr4 (by omega) (by omega)))⟩ H))
 exact Ad 4 U (Aa (Y (B0 U (Av (Dg U (Ag ⟨_,rfl,GO hv hbd.1 hbd.2.1 hbd.2.2.1 hbd.2.2.2.1 (by omega) hbd.2.2.2.2 hs1 hs2 hlow2 hup2 hz (CE.refl (GT hr3 hr4 (by omega) (by omega)))⟩ H))))))
theorem Nc:∀ (N:Nat) (v:Value) (xs:List An) (a m b:Nat),b - a<N→a<m→m<b→b≤xs.length→xs.length≤1000000→BR xs a m→BR xs m b→Cn Tryz.prog 278 [v,.int .i64 ((a:Nat):Int),.int .i64 ((m:Nat):Int),.int .i64 ((b:Nat):Int),.func (.func 209) #[] #[]] [Ae Al v xs] [] (fun _ Bs=>∃ ys,Bs=[Ae Al v ys]∧CE xs ys a b)
 |0,_,_,_,_,_,h=>absurd h (Nat.not_lt_zero _)
 |N+1,v,xs,a,m,b,h=>fun h1 h2 h3 h4 h5 h6=>ZW N (Nc N) v xs a m b h h1 h2 h3 h4 h5 h6
theorem ZQ (v:Value) (xs:List An) (n:Nat) (hn:n=xs.length) (hb:xs.length≤1000000):
    Cn Tryz.prog 244 [v,.int .i64 ((n:Nat):Int),.func (.func 209) #[] #[]] [Ae Al v xs] [] (fun _ Bs=>∃ ys,Bs=[Ae Al v ys]∧ys=srt xs):=by
 intro w0 F0 H
 obtain ⟨A1,c2,rfl,hc3,hm4,hp5⟩:=H.fA 0 rfl
 refine enter Tryz.func244 U U (Nat.le_of_ble_eq_true U) (Z (Ac (Ab U (Aa (Y (Z (Ac (Ad 3 U (Aa (Y (Z (AK (Br (σ:=Nat×List An) (fun (a,ys)=>[(0,.slice A1 xs.length c2),(1,.int .i64 ((n:Nat):Int)),(2,.func (.func 209) #[] #[]),(6,.int .i64 20),(7,.int .i64 ((a:Nat):Int)),(8,.int .i64 ((a+20:Nat):Int))]) (fun (a,ys) w=>(Hd w0 F0 w [Ae Al (.slice A1 xs.length c2) ys] [])∧(a%20=0∧a≤n∧ys.length=xs.length)∧(Ci xs ys)∧(Dq ys 0 a 20)) (fun (a,ys)=>n - a) (0,xs) ⟨rfl,rfl,rfl,rfl,rfl,rfl,trivial⟩ ⟨H,by (try dsimp only);omega,Ci.refl _,Dq.nil _ _⟩ ?_)))))))))))))
 rintro ⟨a,ys⟩ w ⟨H,ha,hst,hbl⟩
 refine Z (Z (Ac (Ad 2 U (V U U (BX U U U) (Aa (Y ?_))))))
 refine Aq U (fun h6=>?_) (fun h6=>?_)
 ·refine Av (Y (AK (Z (Ac (Ad 4 U (sc (O5 (.slice A1 xs.length c2) ys a (a+20) (by omega) (by omega) (by omega)) H l0 U U (At PA U U) ?_))))))
  rintro _ _ w ⟨ys7,rfl,hv8⟩ H
  exact Aa (Y (Z (Ac (Ad 2 U (Aa (Y (Ac (Ad 2 U (V U U (AP (z:=((a+20+20:Nat):Int)) U U U (by rw [Ay (by omega) (by omega)];omega)) (Ab U (Aa (AS (Bb (s:=(a,ys)) (a+20,ys7) ⟨rfl,rfl,rfl,rfl,rfl,rfl,trivial⟩ ⟨H,by (try dsimp only);rw [hv8.ins.1];omega,hst.trans hv8.stab,hbl.more (c:=a / 20) (by omega) (Nat.le_refl _) hv8.ins hv8.srt⟩ (by (try dsimp only);omega))))))))))))))
 refine Bj (AE (AE (Bk (Y (Z (Ac (Ad 4 U (sc (O5 (.slice A1 xs.length c2) ys a n (by omega) (by omega) (by omega)) H l0 U U (At PA U U) ?_))))))))
 rintro _ _ w ⟨ys9,rfl,hv10⟩ H
 refine Aa (Y (AK (Br (σ:=Nat×List An) (fun (bs,ys)=>[(0,.slice A1 xs.length c2),(1,.int .i64 ((n:Nat):Int)),(2,.func (.func 209) #[] #[]),(6,.int .i64 ((bs:Nat):Int))]) (fun (bs,ys) w=>(Hd w0 F0 w [Ae Al (.slice A1 xs.length c2) ys] [])∧(20≤bs∧bs≤4000000∧ys.length=xs.length)∧(Ci xs ys)∧(Dq ys 0 n bs)) (fun (bs,ys)=>n - bs) (20,ys9) ⟨rfl,rfl,rfl,rfl,trivial⟩ ⟨H,by (try dsimp only);rw [hv10.ins.1];omega,hst.trans hv10.stab,hbl.more (c:=a / 20) (by omega) (by omega) hv10.ins hv10.srt⟩ ?_)))
 rintro ⟨bs,ys⟩ w ⟨H,hbs,hst2,hbl2⟩
 refine Z (Z (Ac (Ad 2 U (V U U (AQ U U U) (Aa (Y ?_))))))
 refine Aq U (fun h11=>?_) (fun h11=>?_)
 ·refine Av (Y (AK (Z (Ac (Ab U (V U U (Fs (z:=((2*bs:Nat):Int)) U U U (by rw [Ay (by omega) (by omega)];omega)) (Ad 2 U (Aa (Y (Z (AK (Br (σ:=Nat×List An) (fun (a,zs)=>[(0,.slice A1 xs.length c2),(1,.int .i64 ((n:Nat):Int)),(2,.func (.func 209) #[] #[]),(6,.int .i64 ((bs:Nat):Int)),(7,.int .i64 ((a:Nat):Int)),(8,.int .i64 ((a+2*bs:Nat):Int))]) (fun (a,zs) w=>(Hd w0 F0 w [Ae Al (.slice A1 xs.length c2) zs] [])∧(a≤n∧zs.length=xs.length)∧(∃ c,a=c*(2*bs))∧(Ci xs zs)∧(Dq zs 0 a (2*bs))∧(Dq zs a n bs)) (fun (a,zs)=>n - a) (0,ys) ⟨rfl,rfl,rfl,rfl,rfl,congrArg (fun z=>some (Value.int .i64 z)) (by (try dsimp only);omega),trivial⟩ ⟨H,by (try dsimp only);omega,⟨0,by simp⟩,hst2,Dq.nil _ _,hbl2⟩ ?_))))))))))))
  rintro ⟨a,zs⟩ w ⟨H,ha3,hac,hst3,hlo,hhi⟩
  refine Z (Z (Ac (Ad 2 U (V U U (BX U U U) (Aa (Y ?_))))))
  refine Aq U (fun h12=>?_) (fun h12=>?_)
  ·refine Av (Y (AK (Z (Ac (Ad 4 U (V U U (AP (z:=((a+bs:Nat):Int)) U U U (by rw [Ay (by omega) (by omega)];omega)) (Ad 2 U (sc (Nc (a+2*bs - a+1) (.slice A1 xs.length c2) zs a (a+bs) (a+2*bs) (by omega) (by omega) (by omega) (by omega) (by omega) (Jj hhi hac (by omega)).1 ((Jj hhi hac (by omega)).2 _ (by omega) (by omega))) H l0 U U (At HO U U) ?_))))))))
   rintro _ _ w ⟨ys13,rfl,hv14⟩ H
   exact Aa (Y (Z (Ac (Ad 2 U (Aa (Y (Ac (Ad 2 U (V U U (Fs (z:=((2*bs:Nat):Int)) U U U (by rw [Ay (by omega) (by omega)];omega)) (V U U (AP (z:=((a+2*bs+2*bs:Nat):Int)) U U U (by rw [Ay (by omega) (by omega)];omega)) (Ab U (Aa (AS (Bb (s:=(a,zs)) (a+2*bs,ys13) ⟨rfl,rfl,rfl,rfl,rfl,rfl,trivial⟩ ⟨H,by (try dsimp only);rw [hv14.ins.1];omega,W0 hac,hst3.trans hv14.stab,Li hlo hac (Nat.le_refl _) hv14,hhi.same (by omega) (fun t ht=>hv14.ins.2.1 t (by omega))⟩ (by (try dsimp only);omega)))))))))))))))
  refine Bj (AE (AE (Bk (Y (Z (Z (Ac (Ad 2 U (V U U (AP (z:=((a+bs:Nat):Int)) U U U (by rw [Ay (by omega) (by omega)];omega)) (Ab U (Aa (Y (Z (Ac (Ad 2 U (V U U (AQ U U U) (Aa (Y ?_))))))))))))))))))
  refine Aq U (fun h15=>?_) (fun h15=>?_)
  ·refine Ac (Ad 5 U (sc (Nc (n - a+1) (.slice A1 xs.length c2) zs a (a+bs) n (by omega) (by omega) (by omega) (by omega) (by omega) (Jj hhi hac (by omega)).1 ((Jj hhi hac (by omega)).2 _ (by omega) (by omega))) H l0 U U (At HO U U) ?_))
   rintro _ _ w ⟨ys16,rfl,hv17⟩ H
   refine Aa (Y ?_)
   have hfin:=Li hlo hac (by omega) hv17
   have hlen4:=hv17.ins.1
   exact Ac (Ab U (V U U (Fs (z:=((bs*2:Nat):Int)) U U U (by rw [Ay (by omega) (by omega)];omega)) (Ab U (Aa (AS (Bb (s:=(bs,ys)) (bs*2,ys16) ⟨rfl,rfl,rfl,rfl,trivial⟩ ⟨H,by (try dsimp only);omega,hst3.trans hv17.stab,by (try dsimp only);rw [Nat.mul_comm bs 2];exact hfin⟩ (by (try dsimp only);omega)))))))
  refine Av (Y ?_)
  have hfin:=Li hlo hac (by omega) (CE.refl (SO hhi hac (by omega)))
  exact Ac (Ab U (V U U (Fs (z:=((bs*2:Nat):Int)) U U U (by rw [Ay (by omega) (by omega)];omega)) (Ab U (Aa (AS (Bb (s:=(bs,ys)) (bs*2,zs) ⟨rfl,rfl,rfl,rfl,trivial⟩ ⟨H,by (try dsimp only);omega,hst3,by (try dsimp only);rw [Nat.mul_comm bs 2];exact hfin⟩ (by (try dsimp only);omega)))))))
 exact Bj (AE (AE (Bk (Dg U (Ag ⟨_,rfl,RS hst2 (BR.ord (by rw [hbs.2.2,←hn];exact hbl2.all (by omega)))⟩ H)))))
theorem ZC (v:Value) (xs:List An) (hb:xs.length≤1000000):
    Cn Tryz.prog 208 [v,.func (.func 209) #[] #[]] [Ae Al v xs] [] (fun _ Bs=>∃ ys,Bs=[Ae Al v ys]∧ys=srt xs):=by
 intro w0 F0 H
 obtain ⟨A1,c2,rfl,hc3,hm4,hp5⟩:=H.fA 0 rfl
 refine enter Tryz.func208 U U (Nat.le_of_ble_eq_true U) (Ac (Ad 2 U (V U U (AO U B_ U) (Ab U (sc (ZQ (.slice A1 xs.length c2) xs xs.length (by omega) (by omega)) H l0 U U (At VD U U) ?_)))))
 rintro _ _ w ⟨ys6,rfl,hv7⟩ H
 exact Aa (Dg U (Ag ⟨_,rfl,hv7⟩ H))
theorem Ll (vxs:Value) (xs:List An) (hb:xs.length≤1000000):
    Cn Tryz.prog 123 [vxs] [] [Af Al vxs xs] (fun v Bs=>Bs=[Ae Al v xs]):=by
 intro w0 F0 H
 obtain ⟨A1,c2,rfl,hc3,hm4,hp5⟩:=H.fR 0 rfl
 refine enter Tryz.func123 U U (Nat.le_of_ble_eq_true U) (Z (Ac (Ab U (Aa (Y (Z (Z (Ac (Ab U (V U U (Ki U B_ U U) (Aa (Y ?_))))))))))))
 refine DJ (b:=(A1:Option Addr).isNone) U (fun h6=>?_) (fun h6=>?_)
 ·refine Z (Ac (Ab U (Aa (Y (Ai (Ao (Am U U ?_)))))))
  obtain rfl:=H.nilR 0 rfl h6
  replace H:=H.newnil Al
  exact Ag U H
 refine Av (Y (Z (Ac (Ks U U U Bq H (fun b7 w H=>(Ab U ?_))))))
 replace H:=H.newnilA Al (some ⟨b7,0,none⟩)
 refine BY (xs:=[]) (ys:=xs) U U U Bq CJ U (by decide) U U H (by simp only [List.length_nil];omega) (fun F hA hR=>hR _ (List.mem_of_getElem? (i:=0) U)) (fun v8 w H=>(Ab U (Aa (Y (Ai (Am U U ?_))))))
 rw [List.nil_append] at H
 replace H:=H.k1
 exact Ag U H
theorem XN (vxs:Value) (xs:List An) (hb:xs.length≤1000000):
    Cn Tryz.prog 176 [vxs] [] [Af Al vxs xs] (fun v Bs=>Bs=[Ae Al v (srt xs)]):=by
 intro w0 F0 H
 obtain ⟨A1,c2,rfl,hc3,hm4,hp5⟩:=H.fR 0 rfl
 refine enter Tryz.func176 U U (Nat.le_of_ble_eq_true U) (Z (Ac (Ab U (Aa (Y (Z (Ac (Ab U (sc (Ll (.slice A1 xs.length c2) xs (by first |omega|decide)) H (lR 0 U l0) U U (At L_ U U) ?_)))))))))
 rintro v6 _ w rfl H
 refine Ab U (Aa (Y (Z (Ac (Ab U (sc (ZC v6 xs  (by omega)) H l0 U U (At Vr U U) ?_))))))
 rintro _ _ w ⟨ys7,rfl,hv8⟩ H
 refine Aa (Y (Z (Ac (Ad 2 U (Aa (Y (Ai (Am U U ?_))))))))
 subst hv8
 exact Ag U H
theorem ZD (v:Value) (xs:List ByteArray) (hb:xs.length≤1000000):Cn Tryz.prog 246 [v] [Ae AZ v xs] [] (fun _ Bs=>Bs=[Ae AZ v (Fb xs)]):=
 Tk (e1:=Value.string) (s:=Fb) (fun xs=>by simp [Fb]) (by simp [Fb]) (fun p c w=>Go.Proofs.Tryz.slices_Sort_string_none p c w) (fun b c xs w hH hbl hl=>by
  have h:=Go.Proofs.Tryz.slices_Sort_string b 0 c (xs.map Eg) w (O0 hH) hbl (by simp;omega)
  rw [List.length_map] at h
  refine h.mono ?_
  rintro e w' ⟨h1,n,os,h2⟩
  exact ⟨h1,n,os,by rw [h2,QP];rfl⟩) v xs hb
theorem To (v:Value) (xs:List ByteArray) (hb:xs.length≤1000000):Cn Tryz.prog 247 [v] [Ae AZ v xs] [] (fun u Bs=>Bs=[Ae AZ u (Fl xs)]):=
 Tj (e1:=Value.string) (s:=Fl) (z:=EN []) (fun xs=>by have:=NX (xs.map Eg);simpa [Fl] using this) rfl (fun p c w=>Go.Proofs.Tryz.slices_Compact_string_empty p c w) (fun b c xs w hH hl hc=>by
  have h:=Go.Proofs.Tryz.slices_Compact_string b 0 c (xs.map Eg) w (O0 hH) (by simp;omega) (by simpa using hc)
  rw [List.length_map] at h
  refine h.mono ?_
  rintro e w' ⟨h1,n,h2⟩
  exact ⟨by rw [h1];simp [Fl],n,by rw [h2,QP];simp [Fl]⟩) v xs hb
end Go.Proofs.YthgehekecfpikaaGreatDoor.X
