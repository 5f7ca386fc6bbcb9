/- ReducerOrders: texts J4, N3, N4, XOrd, N5, XRecO, XTwo, XOkR, XRedL, XRedO, XAct, L1, XCat, S1, S2, joined by a program of ours; what nothing names is left out. -/
import Derived.Test.YthgehekecfpikaaGreatDoorReducerOrdersQ4
import Derived.KernelRfl
set_option linter.unusedVariables false
set_option linter.unusedSimpArgs false
set_option maxHeartbeats 8000000
namespace Go.Proofs.YthgehekecfpikaaGreatDoor.X
open Go
theorem Uf (v:Value) (xs:List Int) (x:Int):
    Cn Tryz.prog 184 [v,.int .i64 x] [] [Aa (Ai .i64) v xs] (fun v Bs=>v=.int .i64 (Fd (fun y=>decide (x=y)) xs)∧Bs=[]):=by
 intro w0 F0 H
 obtain ⟨A1,c2,rfl,hc3,hm4,hp5⟩:=H.fR 0 rfl
 refine enter Tryz.func184 U U (Nat.le_of_ble_eq_true U) (Ab (Ae (Ad U (Ac (Z ?_)))))
 replace H:Hd _ _ _ [] [Aa (Ai .i64) (.slice A1 xs.length c2) xs]:=H
 refine Ab (Ab (Ae (Ad U (V U U (A0 U Ec U) (Ad U (Ac (Z (AU (BV (σ:=Nat) (fun k=>[(0,.slice A1 xs.length c2),(1,.int .i64 x),(7,.int .i64 ((xs.length:Nat):Int)),(8,.int .i64 ((k:Nat):Int))]) (fun k w=>(Hd w0 F0 w [] [Aa (Ai .i64) (.slice A1 xs.length c2) xs])∧(k≤xs.length)∧(∀ y∈xs.take k,(fun y=>decide (x=y)) y=false)) (fun k=>xs.length - k) 0 ⟨rfl,rfl,rfl,rfl,trivial⟩ ⟨H,by omega,by simp⟩ ?_)))))))))
 rintro k w ⟨H,hk,hn⟩
 refine Ab (Ae (V U U (Bg U U U) (Ac (Z (Ab ?_)))))
 refine Ay U (fun h6=>?_) (fun h6=>?_)
 ·refine Av (Z (Ab (AU (Ab (Ae (Ah 2 U (Ac (Z (Ab (Ae (Ah 3 U ?_)))))))))))
  obtain ⟨x7,hx8⟩:∃ z9,xs[k]?=some z9:=⟨_,List.getElem?_eq_getElem (show k<xs.length by omega)⟩
  have th9:=H.thR 0 rfl hx8
  refine V U U (Bf (p:=AX A1+k*1) U DP U U (by omega) (by omega) th9 U) (V U U (An U AE U (H.elR 0 U hx8 (q:=0) U U)) (V U U (Bp U U U) (Ac (Z ?_))))
  refine Ay U (fun h10=>?_) (fun h10=>?_)
  ·exact Ab (Ae (Ah 2 U (Ac (Z (Ao (A_ (Az (Az (A_ (Az (Aq U U (Am ⟨by rw [K_ (p:=(fun y=>decide (x=y))) hn hx8 (decide_eq_true h10)]<;>rfl,rfl⟩ H))))))))))))
  exact Av (A8 (Z (Ae (V U U (A9 (z:=((k+1:Nat):Int)) U U U (by rw [AF (by omega) (by omega)];omega)) (Ad U (Ac (Bm (s:=k) (k+1) ⟨rfl,rfl,rfl,rfl,trivial⟩ ⟨H,by omega,MK (p:=(fun y=>decide (x=y))) hn hx8 (decide_eq_false h10)⟩ (by (try dsimp only);omega))))))))
 refine BK (AR (AR (BN (Z (Ab (Ae (Ad U (Ac (Z (Ao (Aq U U ?_)))))))))))
 have hn2:∀ y∈xs,(fun y=>decide (x=y)) y=false:=by rw [←HI (xs:=xs) (k:=k) (by omega)];exact hn
 exact Am ⟨by rw [JR hn2]<;>rfl,rfl⟩ H
theorem KX (v:Value) (xs:List Int) (x:Int):
    Cn Tryz.prog 136 [v,.int .i64 x] [] [Aa (Ai .i64) v xs] (fun v Bs=>v=.bool (decide (x∈xs))∧Bs=[]):=by
 intro w0 F0 H
 refine enter Tryz.func136 U U (Nat.le_of_ble_eq_true U) (Ab (Ae (Ad U (Ac (Z (Ab (Ae (Ah 2 U (sc (Uf v xs x) H (lR 0 U l0) U U (At UO U U) ?_)))))))))
 rintro _ _ w ⟨rfl,rfl⟩ H
 refine V U U (CA U U U) (Ad U (Ac (Z (Ao (Aq U U ?_)))))
 have e:decide (0≤Fd (fun y=>decide (x=y)) xs)=decide (x∈xs):=by rw [La];rw [Bool.eq_iff_iff];simp
 exact Am ⟨congrArg Value.bool e,rfl⟩ H
theorem Xh (vS vM vC vR vK:Value) (J:AG) (hJ:B6 J) (p:Nat) (hp:(p:Int)<J.parts) (hsp:∀ s,s<J.us.length→(AA dg J s).2=0) (vl:Value):
    Cn Tryz.prog 67 [.agg #[vS,.int .i64 J.parts,vM,vC,vR,.int .i64 J.chunk,.int .i64 J.window,.int .i64 J.fuel,vK],.int .i64 ((p:Nat):Int),vl] [] [Aa (Ak Ag) vS J.us,Aa Af vM J.map,Aa Af vC J.comb,Aa Af vR J.red,Aa (Ai .i64) vK J.marks,Aa (Ai .i64) vl (upto J.us.length),gl] (fun v Bs=>∃ u,v=.tuple #[u,.int .i64 (DN dg J p).2]∧Bs=[Y Ag u (DN dg J p).1]):=by
 intro w0 F0 H
 obtain ⟨A1,c2,rfl,hc3,hm4,hp5⟩:=H.fR 0 rfl
 obtain ⟨A6,c7,rfl,hc8,hm9,hp10⟩:=H.fR 1 rfl
 obtain ⟨A11,c12,rfl,hc13,hm14,hp15⟩:=H.fR 2 rfl
 obtain ⟨A16,c17,rfl,hc18,hm19,hp20⟩:=H.fR 3 rfl
 obtain ⟨A21,c22,rfl,hc23,hm24,hp25⟩:=H.fR 4 rfl
 obtain ⟨A26,c27,rfl,hc28,hm29,hp30⟩:=H.fR 5 rfl
 have hus:=hJ.us
 have hpt:=hJ.parts
 have hfu:=hJ.fuel
 refine enter Tryz.func67 U U (Nat.le_of_ble_eq_true U) (Ab (Ae (CH U U U U H (fun b31 w H=>(Ah 2 U (Ac (Z ?_)))))))
 replace H:Hd _ _ _ [blk b31 [.slice A1 J.us.length c2,.int .i64 J.parts,.slice A6 J.map.length c7,.slice A11 J.comb.length c12,.slice A16 J.red.length c17,.int .i64 J.chunk,.int .i64 J.window,.int .i64 J.fuel,.slice A21 J.marks.length c22] 26] [Aa (Ak Ag) (.slice A1 J.us.length c2) J.us,Aa Af (.slice A6 J.map.length c7) J.map,Aa Af (.slice A11 J.comb.length c12) J.comb,Aa Af (.slice A16 J.red.length c17) J.red,Aa (Ai .i64) (.slice A21 J.marks.length c22) J.marks,Aa (Ai .i64) (.slice A26 ((upto J.us.length).length) c27) (upto J.us.length),gl]:=H
 refine Ab (Ab (Ae (V U U (Bv (cs:=[.slice A1 J.us.length c2,.int .i64 J.parts,.slice A6 J.map.length c7,.slice A11 J.comb.length c12,.slice A16 J.red.length c17,.int .i64 J.chunk,.int .i64 J.window,.int .i64 J.fuel,.slice A21 J.marks.length c22]) U GG U U (H.cellsI 0 U U)) (sc (LC (.slice A1 J.us.length c2) (.slice A6 J.map.length c7) (.slice A11 J.comb.length c12) (.slice A16 J.red.length c17) (.slice A21 J.marks.length c22) J) H (lR 0 U (lR 1 U (lR 2 U (lR 3 U (lR 4 U l0))))) U U (At LT U U) ?_))))
 rintro _ _ w ⟨rfl,rfl⟩ H
 refine V U U (Eg U U) (Ad U ?_)
 refine AQ (d:=15) U (fun h32=>?_) (fun h32=>?_)
 ·exact (h32 hJ.may).elim
 refine Ad U (V U U (Bg U U U) (Ah 2 U ?_))
 refine AQ (d:=19) U (fun h33=>?_) (fun h33=>?_)
 ·exfalso;omega
 refine Ad U (V U U (Aj U GY U) (V U U (An U AE U (H.cellI 0 U U)) (V U U (CA U U U) (Ad U (Ac (Z ?_))))))
 refine Ay U (fun h34=>?_) (fun h34=>?_)
 ·exfalso;omega
 refine Av (Z (Ab (Ae (Ad U (Ac (Z (Ab (Ab (Ae (V U U (Aj U DE U) (V U U (An U DI U (H.cellI 0 U U)) (V U U (A0 U DJ U) (Ad U (Ac (Z (AU ?_))))))))))))))))
 replace H:=H.newnil (Ak Ag)
 refine BV (σ:=Nat×Value×List (Value×List Al)) (fun (k,q,zs)=>[(1,.int .i64 ((p:Nat):Int)),(2,.slice A26 ((upto J.us.length).length) c27),(3,.pointer (some ⟨b31,0,none⟩)),(8,q),(27,.int .i64 ((J.us.length:Nat):Int)),(28,.int .i64 ((k:Nat):Int))]) (fun (k,q,zs) w=>(Hd w0 F0 w [Y (Ak Ag) q zs,blk b31 [.slice A1 J.us.length c2,.int .i64 J.parts,.slice A6 J.map.length c7,.slice A11 J.comb.length c12,.slice A16 J.red.length c17,.int .i64 J.chunk,.int .i64 J.window,.int .i64 J.fuel,.slice A21 J.marks.length c22] 26] [Aa (Ak Ag) (.slice A1 J.us.length c2) J.us,Aa Af (.slice A6 J.map.length c7) J.map,Aa Af (.slice A11 J.comb.length c12) J.comb,Aa Af (.slice A16 J.red.length c17) J.red,Aa (Ai .i64) (.slice A21 J.marks.length c22) J.marks,Aa (Ai .i64) (.slice A26 ((upto J.us.length).length) c27) (upto J.us.length),gl])∧(k≤J.us.length∧zs.length=k)∧(BH zs=FC dg J p k)) (fun (k,q,zs)=>J.us.length - k) (0,.slice none 0 0,[]) ⟨rfl,rfl,rfl,rfl,rfl,rfl,trivial⟩ ⟨H,⟨Nat.zero_le _,rfl⟩,rfl⟩ ?_
 rintro ⟨k,q,zs⟩ w ⟨H,hk,hz⟩
 have hal:=Nh dg J p k
 have hfz:(BH zs).length≤40*k:=by rw [hz];exact hal
 refine Ab (Ae (V U U (Bg U U U) (Ac (Z (Ab ?_)))))
 refine Ay U (fun h35=>?_) (fun h35=>?_)
 ·refine Av (Z (Ab (AU (Ab (Ae (Ah 2 U (Ac (Z (Ab (Ab (Ae (Ah 2 U (sc (KX (.slice A26 ((upto J.us.length).length) c27) (upto J.us.length) ((k:Nat):Int)) H (lR 5 U l0) U U (At LH U U) ?_)))))))))))))
  rintro _ _ w ⟨rfl,rfl⟩ H
  refine V U U (Eg U U) (Ac (Z ?_))
  refine Ay U (fun h36=>?_) (fun h36=>?_)
  ·exact (h36 (ZL (by omega))).elim
  refine Av (Z (Ab (Ae (V U U (Bv (cs:=[.slice A1 J.us.length c2,.int .i64 J.parts,.slice A6 J.map.length c7,.slice A11 J.comb.length c12,.slice A16 J.red.length c17,.int .i64 J.chunk,.int .i64 J.window,.int .i64 J.fuel,.slice A21 J.marks.length c22]) U GG U U (H.cellsI 1 U U)) (Ah 2 U (sc (Uo (.slice A1 J.us.length c2) (.slice A6 J.map.length c7) (.slice A11 J.comb.length c12) (.slice A16 J.red.length c17) (.slice A21 J.marks.length c22) J hJ k ((p:Nat):Int) (by omega)) H (lR 0 U (lR 1 U (lR 2 U (lR 3 U (lR 4 U (lR 6 U l0)))))) U U (At Vr U U) ?_))))))
  rintro _ _ w ⟨u37,rfl,rfl⟩ H
  have hrj:Hc dg J k p=(BM dg J k p,0):=if_neg (fun h=>h (hsp k (by omega)))
  rw [hrj] at H ⊢
  replace H:Hd w0 F0 w [Y Ag u37 (BM dg J k p),Y (Ak Ag) q zs,blk b31 [.slice A1 J.us.length c2,.int .i64 J.parts,.slice A6 J.map.length c7,.slice A11 J.comb.length c12,.slice A16 J.red.length c17,.int .i64 J.chunk,.int .i64 J.window,.int .i64 J.fuel,.slice A21 J.marks.length c22] 26] [Aa (Ak Ag) (.slice A1 J.us.length c2) J.us,Aa Af (.slice A6 J.map.length c7) J.map,Aa Af (.slice A11 J.comb.length c12) J.comb,Aa Af (.slice A16 J.red.length c17) J.red,Aa (Ai .i64) (.slice A21 J.marks.length c22) J.marks,Aa (Ai .i64) (.slice A26 ((upto J.us.length).length) c27) (upto J.us.length),gl]:=H
  refine Ah 5 U (Ac (Z (Ab (Ab (Ae (Ad U (V U U (C8 U U U) (Ac (Z (Cb U (Av (Z (Ae (Ah 2 U ?_))))))))))))))
  obtain ⟨A39,c40,rfl,hc41,hm42,hp43⟩:=H.fA 0 rfl
  refine BT (parts:=[(0,.tmp 46)]) (vs:=[.slice A39 ((BM dg J k p).length) c40]) (cs:=[.slice A39 ((BM dg J k p).length) c40]) U U U Eh Hq U (by decide) (by decide) U U H (fun b38 w H=>?_)
  replace H:=H.p2
  replace H:Hd _ _ _ [Y (Ak Ag) q zs,blk b38 [.slice A39 ((BM dg J k p).length) c40] 35,Y Ag (.slice A39 ((BM dg J k p).length) c40) (BM dg J k p),blk b31 [.slice A1 J.us.length c2,.int .i64 J.parts,.slice A6 J.map.length c7,.slice A11 J.comb.length c12,.slice A16 J.red.length c17,.int .i64 J.chunk,.int .i64 J.window,.int .i64 J.fuel,.slice A21 J.marks.length c22] 26] [Aa (Ak Ag) (.slice A1 J.us.length c2) J.us,Aa Af (.slice A6 J.map.length c7) J.map,Aa Af (.slice A11 J.comb.length c12) J.comb,Aa Af (.slice A16 J.red.length c17) J.red,Aa (Ai .i64) (.slice A21 J.marks.length c22) J.marks,Aa (Ai .i64) (.slice A26 ((upto J.us.length).length) c27) (upto J.us.length),gl]:=H
  refine FO U U U Eh Hq U (by decide) U U H (by first |omega|(simp only [List.length_append,List.length_cons,List.length_nil];omega)) (fun v44 w H=>?_)
  replace H:=H.h1 (A:=Y (Ak Ag) v44 (zs++[((.slice A39 ((BM dg J k p).length) c40:Value),BM dg J k p)]))
  refine Ad U (Ac (A8 (Z (Ae (V U U (A9 (z:=((k+1:Nat):Int)) U U U (by rw [AF (by omega) (by omega)];omega)) (Ad U (Ac ?_)))))))
  have hz2:BH (zs++[((.slice A39 ((BM dg J k p).length) c40:Value),BM dg J k p)])=FC dg J p (k+1):=by rw [Ty,hz];rfl
  exact Bm (s:=(k,undef,zs)) (k+1,v44,zs++[((.slice A39 ((BM dg J k p).length) c40:Value),BM dg J k p)]) ⟨rfl,rfl,rfl,rfl,rfl,rfl,trivial⟩ ⟨H,by (try dsimp only);simp only [List.length_append,List.length_cons,List.length_nil];omega,hz2⟩ (by (try dsimp only);omega)
 refine BK (AR (AR (BN (Z (Ab (BX (.e 0 (.e 1 (.e 2 (.e 4 (.e 5 (.m 3 (.m 6 (.e 7 (.e 8 (.e 9 (.e 10 .z))))))))))) (fun w=>∃ Ar,Hd w0 F0 w (Y (Ak Ag) q zs::blk b31 [.slice A1 J.us.length c2,.int .i64 J.parts,.slice A6 J.map.length c7,.slice A11 J.comb.length c12,.slice A16 J.red.length c17,.int .i64 J.chunk,.int .i64 J.window,.int .i64 J.fuel,.slice A21 J.marks.length c22] 26::Ar) [Aa (Ak Ag) (.slice A1 J.us.length c2) J.us,Aa Af (.slice A6 J.map.length c7) J.map,Aa Af (.slice A11 J.comb.length c12) J.comb,Aa Af (.slice A16 J.red.length c17) J.red,Aa (Ai .i64) (.slice A21 J.marks.length c22) J.marks,Aa (Ai .i64) (.slice A26 ((upto J.us.length).length) c27) (upto J.us.length),gl]) mo (by kernel_rfl) (fun w H=>⟨_,H⟩) H (fun w H=>(Ap U U U (fun w ⟨Ar,H⟩=>Aj U Hx U) (Ap U U U (fun w ⟨Ar,H⟩=>An U Ea U (H.cellI 1 U U)) ?_)))))))))
 refine Ax U (Ap U U U (fun w ⟨Ar,H⟩=>Aj U I1 U) (Ap U U U (fun w ⟨Ar,H⟩=>An U AE U (H.cellI 1 U U)) (AL U (sc (QL q zs (by first |omega|decide|exact Nat.le_trans (GV _ _) (by omega)|exact Nat.le_trans (Oc _ _) (by omega)|(simp only [BH,List.flatMap_cons,List.flatMap_nil,List.append_nil,Fl];omega))) H (lA 0 U BS l0) U U (At OR U U) ?_))))
 rintro v45 _ w rfl H
 replace H:Hd _ _ _ [Y Ag v45 (srt (BH zs)),Y (Ak Ag) q zs,blk b31 [.slice A1 J.us.length c2,.int .i64 J.parts,.slice A6 J.map.length c7,.slice A11 J.comb.length c12,.slice A16 J.red.length c17,.int .i64 J.chunk,.int .i64 J.window,.int .i64 J.fuel,.slice A21 J.marks.length c22] 26] [Aa (Ak Ag) (.slice A1 J.us.length c2) J.us,Aa Af (.slice A6 J.map.length c7) J.map,Aa Af (.slice A11 J.comb.length c12) J.comb,Aa Af (.slice A16 J.red.length c17) J.red,Aa (Ai .i64) (.slice A21 J.marks.length c22) J.marks,Aa (Ai .i64) (.slice A26 ((upto J.us.length).length) c27) (upto J.us.length),gl]:=H
 replace H:=H.p2.p2
 refine AH ⟨_,H⟩ (AL U ?_)
 have hsl:=Fl (BH zs)
 refine sc (On (.slice A16 J.red.length c17) J.red v45 (srt (BH zs)) J.fuel hJ.red hJ.f64 (by rw [Fl,hz];omega)) H (lR 3 U (lA 2 U BS (lR 6 U l0))) U U (At OQ U U) ?_
 rintro _ _ w ⟨u46,rfl,rfl⟩ H
 replace H:=H.h1 (A:=Y Ag u46 ((B0 dg J.red (srt (BH zs)) J.fuel false).1))|>.p2|>.p2
 refine AH ⟨_,H⟩ (Ax U (Ax U (Ax U (Ax U (BL (Z (Ao (Cv U U U ?_))))))))
 obtain rfl:k=J.us.length:=by omega
 have e:DN dg J p=B0 dg J.red (srt (BH zs)) J.fuel false:=by rw [hz];rfl
 replace H:=H.p2.k1
 exact Am ⟨_,by rw [e]<;>rfl,by rw [e]<;>rfl⟩ H
theorem Ja (r:Nat) (A:Option Addr) (c:Nat) (vM2:Value) (vC2:Value) (vR2:Value) (vK2:Value) (J2:AG) (cw:Int) (ct:Int) (co:Int) (part:Int) (ep:Int) (R:AD) (hv:Nat→Value) (sb:Nat) (vs:Value) (hus6:J2.us.length≤6):
    Cn Tryz.prog 51 [.pointer (some ⟨r,0,none⟩)] [] [blk r (AK (.slice A J2.us.length c) vM2 vC2 vR2 vK2 J2 cw ct co part ep R.g hv sb vs) 185] (fun v Bs=>Bs=[Y (Ai .i64) v (Aw J2.us.length R)]):=by
 intro w0 F0 H
 refine enter Tryz.func51 U U (Nat.le_of_ble_eq_true U) (Ab (Ae (Ad U (Ac (Z (Ab (Ab (Ae (Ad U (V U U (C3 U Hm U U) (Ac (Z (Cb U (Av (Z (Ab (Ae (Ad U (Ac (Z (Ab (Ab (Ae (Ad U (V U U (AI U U) (V U U (Aj U Gp U) (V U U (Aj U CQ U) (V U U (Aj U DE U) (V U U (An U DI U (H.cellRI 0 U U)) (V U U (A0 U DJ U) (Ad U (Ac (Z (AU ?_))))))))))))))))))))))))))))))))))
 replace H:=H.newnil (Ai .i64)
 refine BV (σ:=Nat×Value) (fun (k,q)=>[(0,.pointer (some ⟨r,0,none⟩)),(2,.slice none 0 0),(3,q),(13,.int .i64 ((J2.us.length:Nat):Int)),(14,.int .i64 ((k:Nat):Int))]) (fun (k,q) w=>(Hd w0 F0 w [Y (Ai .i64) q (Aw k R)] [blk r (AK (.slice A J2.us.length c) vM2 vC2 vR2 vK2 J2 cw ct co part ep R.g hv sb vs) 185])∧(k≤J2.us.length)) (fun (k,q)=>J2.us.length - k) (0,.slice none 0 0) ⟨rfl,rfl,rfl,rfl,rfl,trivial⟩ ⟨H,Nat.zero_le _⟩ ?_
 rintro ⟨k,q⟩ w ⟨H,hk⟩
 have hml:=L4 k R
 refine Ab (Ae (V U U (Bg U U U) (Ac (Z (Ab ?_)))))
 refine Ay U (fun h1=>?_) (fun h1=>?_)
 ·refine Av (Z (Ab (AU (Ab (Ae (Ah 2 U (Ac (Z (Ab (Ae (Ah 2 U (V U U (AI U U) (V U U (Aj U IZ U) (V U U (F_ (p:=14+k*5) U Jx I6 U U (by omega) (by omega) (by omega)) (V U U (Aj U FG U) (V U U (An U Ds U (H.cellRI 0 U (GD (by omega)))) (Ac (Z ?_))))))))))))))))))
  refine Dv (b:=(R.g k).merged) U (fun h2=>?_) (fun h2=>?_)
  ·refine Ae (Ah 2 U (BT (parts:=[(0,.tmp 25)]) (vs:=[.int .i64 ((k:Nat):Int)]) (cs:=[.int .i64 ((k:Nat):Int)]) U U U DP GK U (by decide) (by decide) U U H (fun b3 w H=>?_)))
   replace H:=H.p1
   refine CC (xs:=Aw k R) (ys:=[((k:Nat):Int)]) U U U DP GK U (by decide) U U H (by first |omega|(simp only [List.length_append,List.length_cons,List.length_nil];omega)) (fun F hA hR=>Ci (hA _ (List.mem_of_getElem? (i:=0) U)) U (by decide) (AY.flat_eq.2 U)) (fun v4 w H=>(Ad U (Ac (A8 (Z ?_)))))
   replace H:Hd _ _ _ [Y (Ai .i64) v4 ((Aw k R)++[((k:Nat):Int)]),blk b3 [.int .i64 ((k:Nat):Int)] 3] [blk r (AK (.slice A J2.us.length c) vM2 vC2 vR2 vK2 J2 cw ct co part ep R.g hv sb vs) 185]:=H
   refine Ae (V U U (A9 (z:=((k+1:Nat):Int)) U U U (by rw [AF (by omega) (by omega)];omega)) (Ad U (Ac ?_)))
   replace H:=H.k1
   replace H:Hd w0 F0 w [Y (Ai .i64) v4 (Aw (k+1) R)] [blk r (AK (.slice A J2.us.length c) vM2 vC2 vR2 vK2 J2 cw ct co part ep R.g hv sb vs) 185]:=by rw [Pz,if_pos h2];exact H
   exact Bm (s:=(k,undef)) (k+1,v4) ⟨rfl,rfl,rfl,rfl,rfl,trivial⟩ ⟨H,by (try dsimp only);omega⟩ (by (try dsimp only);omega)
  refine Av (A8 (Z (Ae (V U U (A9 (z:=((k+1:Nat):Int)) U U U (by rw [AF (by omega) (by omega)];omega)) (Ad U (Ac ?_))))))
  replace H:Hd w0 F0 w [Y (Ai .i64) q (Aw (k+1) R)] [blk r (AK (.slice A J2.us.length c) vM2 vC2 vR2 vK2 J2 cw ct co part ep R.g hv sb vs) 185]:=by rw [Pz,if_neg (by rw [h2];exact Bool.false_ne_true),List.append_nil];exact H
  exact Bm (s:=(k,undef)) (k+1,q) ⟨rfl,rfl,rfl,rfl,rfl,trivial⟩ ⟨H,by (try dsimp only);omega⟩ (by (try dsimp only);omega)
 refine BK (AR (AR (BN (Z (Ab (Ae (Ah 2 U (Ac (Z (Ao (Aq U U ?_)))))))))))
 have hkk:k=J2.us.length:=by omega
 replace H:Hd w0 F0 w [Y (Ai .i64) q (Aw J2.us.length R)] [blk r (AK (.slice A J2.us.length c) vM2 vC2 vR2 vK2 J2 cw ct co part ep R.g hv sb vs) 185]:=by rw [hkk] at H;exact H
 exact Am U H
theorem YW (vp:Value) (p:List BC) (fuel:Int) (vus:Value) (us:List (Value×List Al)) (hpa:∀ i∈p,AB i.a) (hfu:AB fuel) (hb:(BH us).length≤1000000):
    Cn Tryz.prog 180 [vp,.int .i64 fuel,vus] [] [Aa Af vp p,Aa (Ak Ag) vus us,gl] (fun v Bs=>∃ u:Value,v=.tuple #[u,.int .i64 ((B0 dg p (srt (BH us)) fuel false).2)]∧Bs=[Y Ag u ((B0 dg p (srt (BH us)) fuel false).1)]):=by
 intro w0 F0 H
 obtain ⟨A1,c2,rfl,hc3,hm4,hp5⟩:=H.fR 0 rfl
 obtain ⟨A6,c7,rfl,hc8,hm9,hp10⟩:=H.fR 1 rfl
 refine enter Tryz.func180 U U (Nat.le_of_ble_eq_true U) (Ab (Ae (Ah 2 U (Ac (Z ?_)))))
 replace H:Hd _ _ _ [] [Aa Af (.slice A1 p.length c2) p,Aa (Ak Ag) (.slice A6 us.length c7) us,gl]:=H
 refine Ab (Ae (Ah 2 U (sc (QL (.slice A6 us.length c7) us (by first |omega|decide|exact Nat.le_trans (GV _ _) (by omega)|exact Nat.le_trans (Oc _ _) (by omega)|(simp only [BH,List.flatMap_cons,List.flatMap_nil,List.append_nil,Fl];omega))) H (lR 1 U l0) U U (At OR U U) ?_)))
 rintro v11 _ w rfl H
 replace H:=H.h1 (A:=Y Ag v11 (srt (BH us)))
 refine Ad U (sc (On (.slice A1 p.length c2) p v11 (srt (BH us)) fuel (by first |exact hpa|exact C6|assumption) (by first |assumption|(unfold AB;omega)) (by first |omega|(simp only [Fl];omega))) H (lR 0 U (lA 0 U BS (lR 2 U l0))) U U (At OQ U U) ?_)
 rintro _ _ w ⟨u12,rfl,rfl⟩ H
 replace H:=H.h1 (A:=Y Ag u12 ((B0 dg p (srt (BH us)) fuel false).1))
 refine Ah 4 U (Ac (Z (Ao (Cv U U U ?_))))
 replace H:=H.k1
 exact Am ⟨u12,rfl,rfl⟩ H
theorem PI (r:Nat) (A:Option Addr) (c:Nat) (vM2:Value) (vC2:Value) (vR2:Value) (vK2:Value) (J2:AG) (cw:Int) (ct:Int) (co:Int) (part:Int) (ep:Int) (R:AD) (hv:Nat→Value) (sb:Nat) (vs:Value) (vset:Value) (set:List Int) (hred:∀ i∈J2.red,AB i.a) (hf64:AB J2.fuel) (hus6:J2.us.length≤6) (hbp:∀ i,(R.g i).pairs.length≤1000):
    Cn Tryz.prog 131 [.pointer (some ⟨r,0,none⟩),vset] [] [blk r (AK (.slice A J2.us.length c) vM2 vC2 vR2 vK2 J2 cw ct co part ep R.g hv sb vs) 185,AT (R.g) hv,Aa (Ai .i64) vset set,Aa Af vR2 J2.red,gl] (fun v Bs=>∃ u:Value,v=.tuple #[u,.int .i64 ((B0 dg J2.red (srt (Cl J2.us.length R set)) J2.fuel false).2)]∧Bs=[Y Ag u ((B0 dg J2.red (srt (Cl J2.us.length R set)) J2.fuel false).1)]):=by
 intro w0 F0 H
 obtain ⟨A1,c2,rfl,hc3,hm4,hp5⟩:=H.fR 2 rfl
 obtain ⟨A6,c7,rfl,hc8,hm9,hp10⟩:=H.fR 3 rfl
 refine enter Tryz.func131 U U (Nat.le_of_ble_eq_true U) (Ab (Ae (Ah 2 U (Ac (Z ?_)))))
 replace H:Hd _ _ _ [] [blk r (AK (.slice A J2.us.length c) vM2 vC2 (.slice A6 J2.red.length c7) vK2 J2 cw ct co part ep R.g hv sb vs) 185,AT (R.g) hv,Aa (Ai .i64) (.slice A1 set.length c2) set,Aa Af (.slice A6 J2.red.length c7) J2.red,gl]:=H
 refine Ab (Ae (Ad U (Ac (Z (Ab (Ab (Ae (Ad U (V U U (AI U U) (V U U (Aj U Gp U) (V U U (Aj U CQ U) (V U U (Aj U DE U) (V U U (An U DI U (H.cellRI 0 U U)) (V U U (A0 U DJ U) (Ad U (Ac (Z (AU ?_))))))))))))))))))
 replace H:=H.newnil Dq|>.h1 (A:=Y Dq (.slice none 0 0) (Bo (Dz R.g hv set 0)))
 refine BV (σ:=Nat×Value) (fun (k,q)=>[(0,.pointer (some ⟨r,0,none⟩)),(1,.slice A1 set.length c2),(4,.slice none 0 0),(5,.int .i64 0),(6,q),(14,.int .i64 ((J2.us.length:Nat):Int)),(15,.int .i64 ((k:Nat):Int))]) (fun (k,q) w=>(Hd w0 F0 w [Y Dq q (Bo (Dz R.g hv set k))] [blk r (AK (.slice A J2.us.length c) vM2 vC2 (.slice A6 J2.red.length c7) vK2 J2 cw ct co part ep R.g hv sb vs) 185,AT (R.g) hv,Aa (Ai .i64) (.slice A1 set.length c2) set,Aa Af (.slice A6 J2.red.length c7) J2.red,gl])∧(k≤J2.us.length)) (fun (k,q)=>J2.us.length - k) (0,.slice none 0 0) ⟨rfl,rfl,rfl,rfl,rfl,rfl,rfl,trivial⟩ ⟨H,Nat.zero_le _⟩ ?_
 rintro ⟨k,q⟩ w ⟨H,hk⟩
 have hpl:=Xj R.g hv set k
 have hhl:(Bo (Dz R.g hv set k)).length=(Dz R.g hv set k).length:=by simp [Bo]
 refine Ab (Ae (V U U (Bg U U U) (Ac (Z (Ab ?_)))))
 refine Ay U (fun h11=>?_) (fun h11=>?_)
 ·refine Av (Z (Ab (AU (Ab (Ae (Ah 2 U (Ac (Z (Ab (Ae (Ah 2 U (V U U (AI U U) (V U U (Aj U IZ U) (V U U (F_ (p:=14+k*5) U Jx I6 U U (by omega) (by omega) (by omega)) (V U U (Aj U FG U) (V U U (An U Ds U (H.cellRI 0 U (GD (by omega)))) (Ad U ?_)))))))))))))))))
  refine Em (d:=25) (b:=(R.g k).merged) U (fun h12=>?_) (fun h12=>?_)
  ·refine Ah 2 U (sc (KX (.slice A1 set.length c2) set ((k:Nat):Int)) H (lR 2 U l0) U U (At LH U U) ?_)
   rintro _ _ w ⟨rfl,rfl⟩ H
   refine Ad U (Ac (Z ?_))
   refine Ay U (fun h13=>?_) (fun h13=>?_)
   ·refine Ae (Ah 3 U (V U U (AI U U) (V U U (Aj U IZ U) (V U U (F_ (p:=14+k*5) U Jx I6 U U (by omega) (by omega) (by omega)) (V U U (Aj U Lk U) ?_)))))
    obtain ⟨A14,c15,e16,_,_,_⟩:=H.prsFormR (i:=k) 1 rfl (by omega)
    refine V U U (An U Eb U (H.cellRI 0 U ((X4 (by omega)).trans (congrArg some e16)))) (BT (parts:=[(0,.tmp 37)]) (vs:=[.slice A14 ((R.g k).pairs.length) c15]) (cs:=[.slice A14 ((R.g k).pairs.length) c15]) U U U Eh Hq U (by decide) (by decide) U U H (fun b17 w H=>?_))
    replace H:=H.p1
    refine CC (xs:=Bo (Dz R.g hv set k)) (ys:=[(⟨A14,(R.g k).pairs.length,c15⟩:EH)]) U U U Eh Hq U (by decide) U U H (by first |omega|(simp only [List.length_append,List.length_cons,List.length_nil];omega)) (fun F hA hR=>Ci (hA _ (List.mem_of_getElem? (i:=0) U)) U (by decide) (AY.flat_eq.2 U)) (fun v18 w H=>(Ad U (Ac (A8 (Z ?_)))))
    replace H:Hd _ _ _ [Y Dq v18 ((Bo (Dz R.g hv set k))++[(⟨A14,(R.g k).pairs.length,c15⟩:EH)]),blk b17 [.slice A14 ((R.g k).pairs.length) c15] 35] [blk r (AK (.slice A J2.us.length c) vM2 vC2 (.slice A6 J2.red.length c7) vK2 J2 cw ct co part ep R.g hv sb vs) 185,AT (R.g) hv,Aa (Ai .i64) (.slice A1 set.length c2) set,Aa Af (.slice A6 J2.red.length c7) J2.red,gl]:=H
    refine Ae (V U U (A9 (z:=((k+1:Nat):Int)) U U U (by rw [AF (by omega) (by omega)];omega)) (Ad U (Ac ?_)))
    replace H:=H.k1
    replace H:Hd w0 F0 w [Y Dq v18 (Bo (Dz R.g hv set (k+1)))] [blk r (AK (.slice A J2.us.length c) vM2 vC2 (.slice A6 J2.red.length c7) vK2 J2 cw ct co part ep R.g hv sb vs) 185,AT (R.g) hv,Aa (Ai .i64) (.slice A1 set.length c2) set,Aa Af (.slice A6 J2.red.length c7) J2.red,gl]:=by rw [Mk,if_pos ⟨h12,h13⟩,show Bo (Dz R.g hv set k++[(hv k,(R.g k).pairs)])=Bo (Dz R.g hv set k)++[⟨A14,(R.g k).pairs.length,c15⟩] by simp [Bo,Fw,e16]];exact H
    exact Bm (s:=(k,undef)) (k+1,v18) ⟨rfl,rfl,rfl,rfl,rfl,rfl,rfl,trivial⟩ ⟨H,by (try dsimp only);omega⟩ (by (try dsimp only);omega)
   refine Av (A8 (Z (Ae (V U U (A9 (z:=((k+1:Nat):Int)) U U U (by rw [AF (by omega) (by omega)];omega)) (Ad U (Ac ?_))))))
   replace H:Hd w0 F0 w [Y Dq q (Bo (Dz R.g hv set (k+1)))] [blk r (AK (.slice A J2.us.length c) vM2 vC2 (.slice A6 J2.red.length c7) vK2 J2 cw ct co part ep R.g hv sb vs) 185,AT (R.g) hv,Aa (Ai .i64) (.slice A1 set.length c2) set,Aa Af (.slice A6 J2.red.length c7) J2.red,gl]:=by rw [Mk,if_neg (fun h=>by first |exact h13 h.2|(rw [h12] at h;cases h.1)),List.append_nil];exact H
   exact Bm (s:=(k,undef)) (k+1,q) ⟨rfl,rfl,rfl,rfl,rfl,rfl,rfl,trivial⟩ ⟨H,by (try dsimp only);omega⟩ (by (try dsimp only);omega)
  refine Ah 4 U (Ac (Z (Cb U (Av (A8 (Z (Ae (V U U (A9 (z:=((k+1:Nat):Int)) U U U (by rw [AF (by omega) (by omega)];omega)) (Ad U (Ac ?_))))))))))
  replace H:Hd w0 F0 w [Y Dq q (Bo (Dz R.g hv set (k+1)))] [blk r (AK (.slice A J2.us.length c) vM2 vC2 (.slice A6 J2.red.length c7) vK2 J2 cw ct co part ep R.g hv sb vs) 185,AT (R.g) hv,Aa (Ai .i64) (.slice A1 set.length c2) set,Aa Af (.slice A6 J2.red.length c7) J2.red,gl]:=by rw [Mk,if_neg (fun h=>by first |exact h12 h.2|(rw [h12] at h;cases h.1)),List.append_nil];exact H
  exact Bm (s:=(k,undef)) (k+1,q) ⟨rfl,rfl,rfl,rfl,rfl,rfl,rfl,trivial⟩ ⟨H,by (try dsimp only);omega⟩ (by (try dsimp only);omega)
 refine BK (AR (AR (BN (Z (Ab (BX (.e 0 (.e 1 (.e 2 (.e 3 (.e 4 (.e 5 (.e 6 (.e 7 (.e 8 (.e 9 (.e 10 (.e 11 (.e 12 (.m 13 (.e 14 (.e 15 (.e 16 (.e 17 .z)))))))))))))))))) (fun w=>∃ Ar,Hd w0 F0 w (Ar) [blk r (AK (.slice A J2.us.length c) vM2 vC2 (.slice A6 J2.red.length c7) vK2 J2 cw ct co part ep R.g hv sb vs) 185,AT (R.g) hv,Aa (Ai .i64) (.slice A1 set.length c2) set,Aa Af (.slice A6 J2.red.length c7) J2.red,gl]) mo (by kernel_rfl) (fun w H=>⟨_,H⟩) H (fun w H=>(Ax U (Ap U U U (fun w ⟨Ar,H⟩=>AI U U) (Ap U U U (fun w ⟨Ar,H⟩=>Aj U Gp U) (Ap U U U (fun w ⟨Ar,H⟩=>Aj U CQ U) (Ap U U U (fun w ⟨Ar,H⟩=>Aj U Hx U) (Ap U U U (fun w ⟨Ar,H⟩=>An U Ea U (H.cellRI 0 U U)) (Ax U (Ap U U U (fun w ⟨Ar,H⟩=>AI U U) ?_)))))))))))))))
 refine Ap U U U (fun w ⟨Ar,H⟩=>Aj U Gp U) (Ap U U U (fun w ⟨Ar,H⟩=>Aj U CQ U) (Ap U U U (fun w ⟨Ar,H⟩=>Aj U I1 U) (Ap U U U (fun w ⟨Ar,H⟩=>An U AE U (H.cellRI 0 U U)) (Ax U (AL U ?_)))))
 have hkk:k=J2.us.length:=by omega
 replace H:Hd w0 F0 w [Y Dq q (Bo (Dz R.g hv set J2.us.length))] [blk r (AK (.slice A J2.us.length c) vM2 vC2 (.slice A6 J2.red.length c7) vK2 J2 cw ct co part ep R.g hv sb vs) 185,AT (R.g) hv,Aa (Ai .i64) (.slice A1 set.length c2) set,Aa Af (.slice A6 J2.red.length c7) J2.red,gl]:=by rw [hkk] at H;exact H
 have hrb:=QK (set:=set) hbp J2.us.length
 have hfl:(BH (Dz R.g hv set J2.us.length)).length≤1000000:=by rw [PV];omega
 refine sc (YW (.slice A6 J2.red.length c7) J2.red J2.fuel q (Dz R.g hv set J2.us.length) hred hf64 hfl) H (lX (fun F hA hR=>hR _ (List.mem_of_getElem? (i:=3) U)) (lX (fun F hA hR=>T9 (BS F (hA _ (List.mem_of_getElem? (i:=0) U))) (Xk hus6 (hR _ (List.mem_of_getElem? (i:=1) U)))) (lR 4 U l0))) U U (At UN U U) ?_
 rintro _ _ w ⟨u19,rfl,rfl⟩ H
 rw [PV] at H ⊢
 replace H:Hd _ _ _ [Y Ag u19 ((B0 dg J2.red (srt (Cl J2.us.length R set)) J2.fuel false).1),Y Dq q (Bo (Dz R.g hv set J2.us.length))] [blk r (AK (.slice A J2.us.length c) vM2 vC2 (.slice A6 J2.red.length c7) vK2 J2 cw ct co part ep R.g hv sb vs) 185,AT (R.g) hv,Aa (Ai .i64) (.slice A1 set.length c2) set,Aa Af (.slice A6 J2.red.length c7) J2.red,gl]:=H
 refine AH ⟨_,H⟩ (Ax U (Ax U (Ax U (Ax U (BL (Z (Ao (Cv U U U ?_))))))))
 replace H:=H.k1
 exact Am ⟨u19,rfl,rfl⟩ H
theorem PP (r:Nat) (A:Option Addr) (c:Nat) (vM2:Value) (vC2:Value) (vR2:Value) (vK2:Value) (J2:AG) (cw:Int) (ct:Int) (co:Int) (part:Int) (ep:Int) (R:AD) (hv:Nat→Value) (sb:Nat) (vs:Value) (hred:∀ i∈J2.red,AB i.a) (hf64:AB J2.fuel) (hus6:J2.us.length≤6) (hbp:∀ i,(R.g i).pairs.length≤1000):
    Cn Tryz.prog 60 [.pointer (some ⟨r,0,none⟩)] [] [blk r (AK (.slice A J2.us.length c) vM2 vC2 vR2 vK2 J2 cw ct co part ep R.g hv sb vs) 185,AT (R.g) hv,Aa Af vR2 J2.red,gl] (fun v Bs=>∃ u:Value,v=.tuple #[u,.int .i64 ((DY dg J2 R).2.1),.bool ((DY dg J2 R).2.2)]∧Bs=[Y Ag u ((DY dg J2 R).1)]):=by
 intro w0 F0 H
 obtain ⟨A1,c2,rfl,hc3,hm4,hp5⟩:=H.fR 2 rfl
 refine enter Tryz.func60 U U (Nat.le_of_ble_eq_true U) (Ab (Ae (Ah 3 U (Ac (Z ?_)))))
 replace H:Hd _ _ _ [] [blk r (AK (.slice A J2.us.length c) vM2 vC2 (.slice A1 J2.red.length c2) vK2 J2 cw ct co part ep R.g hv sb vs) 185,AT (R.g) hv,Aa Af (.slice A1 J2.red.length c2) J2.red,gl]:=H
 refine Ab (Ae (Ad U (sc (Ja r A c vM2 vC2 (.slice A1 J2.red.length c2) vK2 J2 cw ct co part ep R hv sb vs (by first |assumption|omega)) H (lR 0 U l0) U U (At I8 U U) ?_)))
 rintro v6 _ w rfl H
 replace H:=H.h1 (A:=Y (Ai .i64) v6 (Aw J2.us.length R))
 refine Ad U (Ac (Z (Ab (Ab (Ae (Ad U (V U U (C3 U Hm U U) (Ah 2 U ?_))))))))
 obtain ⟨A7,c8,rfl,hc9,hm10,hp11⟩:=H.fA 0 rfl
 refine V U U (A0 U Ec U) (Ad U (V U U (AI U U) (V U U (Aj U Gp U) (V U U (Aj U CQ U) (V U U (Aj U DE U) (V U U (An U DI U (H.cellRI 0 U U)) (V U U (A0 U DJ U) (V U U (Bg U U U) (Ad U (Ac (Z ?_)))))))))))
 refine Ay U (fun h12=>?_) (fun h12=>?_)
 ·refine Ab (Ae (Ah 3 U (Ac (Z (Ao (Az (F8 U U U U ?_)))))))
  have e:DY dg J2 R=([],0,false):=if_pos (by omega)
  replace H:=H.newnil Ag|>.k1
  exact Am ⟨(.slice none 0 0),by rw [e]<;>rfl,by rw [e]<;>rfl⟩ H
 refine Av (Z (Ab (Ae (Ah 2 U (sc (PI r A c vM2 vC2 (.slice A1 J2.red.length c2) vK2 J2 cw ct co part ep R hv sb vs (.slice A7 ((Aw J2.us.length R).length) c8) (Aw J2.us.length R) (by first |assumption|omega) (by first |assumption|omega) (by first |assumption|omega) (by first |assumption|omega)) H (lR 0 U (lR 1 U (lA 0 U BS (lR 2 U (lR 3 U l0))))) U U (At OP U U) ?_)))))
 rintro _ _ w ⟨u13,rfl,rfl⟩ H
 replace H:=H.h1 (A:=Y Ag u13 ((B0 dg J2.red (srt (Cl J2.us.length R (Aw J2.us.length R))) J2.fuel false).1))
 refine Ah 5 U (Ac (Z (Ab (Ae (Ah 5 U (Ac (Z (Ao (F8 U U U U ?_)))))))))
 have e:DY dg J2 R=((B0 dg J2.red (srt (Cl J2.us.length R (Aw J2.us.length R))) J2.fuel false).1,(B0 dg J2.red (srt (Cl J2.us.length R (Aw J2.us.length R))) J2.fuel false).2,true):=if_neg (by omega)
 replace H:=H.k1
 exact Am ⟨u13,by rw [e]<;>rfl,by rw [e]<;>rfl⟩ H
theorem Qs (vS:Value) (vM:Value) (vC:Value) (vR:Value) (vK:Value) (C:Cf) (p:Int) (ep:Int) (vr:Value) (recs:List AV) (hC:Ee C) (hp:AB p) (he:AB ep) (hgo:If C p≠0∧1≤ep) (hrs:∀ r∈recs,(AB r.sp∧r.set.length≤1000)∧r.pairs.length≤1000) (hrl:recs.length≤100000):
    Cn Tryz.prog 56 [.agg #[vS,.int .i64 C.J.parts,vM,vC,vR,.int .i64 C.J.chunk,.int .i64 C.J.window,.int .i64 C.J.fuel,vK,.int .i64 C.w,.int .i64 C.t,.int .i64 C.o],.int .i64 p,.int .i64 ep,vr] [] [Aa (Ak Ag) vS C.J.us,Aa Af vM C.J.map,Aa Af vC C.J.comb,Aa Af vR C.J.red,Aa (Ai .i64) vK C.J.marks,Aa Bl vr recs] (fun v Bs=>∃ r:Nat,∃ vS2:Value,∃ vM2:Value,∃ vC2:Value,∃ vR2:Value,∃ vK2:Value,∃ J2:AG,∃ hv:Nat→Value,∃ sb:Nat,∃ vs:Value,∃ us:List (Value×List Int),v=.tuple #[.pointer (some ⟨r,0,none⟩),.int .i64 0]∧Bs=[blk r (AK vS2 vM2 vC2 vR2 vK2 J2 C.w C.t C.o p ep ((CW J2.us.length p ep (recs.map AV.p)).g) hv sb vs) 185,Y (Ak Ag) vS2 J2.us,Y Af vM2 J2.map,Y Af vC2 J2.comb,Y Af vR2 J2.red,Y (Ai .i64) vK2 J2.marks,AT ((CW J2.us.length p ep (recs.map AV.p)).g) hv,Y (Ak (Ai .i64)) vs us,AS 253 sb ([])]∧(BJ J2 C.J)∧(us.map (·.2)=(CW J2.us.length p ep (recs.map AV.p)).sets)):=by
 intro w0 F0 H
 obtain ⟨A1,c2,rfl,hc3,hm4,hp5⟩:=H.fR 0 rfl
 obtain ⟨A6,c7,rfl,hc8,hm9,hp10⟩:=H.fR 1 rfl
 obtain ⟨A11,c12,rfl,hc13,hm14,hp15⟩:=H.fR 2 rfl
 obtain ⟨A16,c17,rfl,hc18,hm19,hp20⟩:=H.fR 3 rfl
 obtain ⟨A21,c22,rfl,hc23,hm24,hp25⟩:=H.fR 4 rfl
 obtain ⟨A26,c27,rfl,hc28,hm29,hp30⟩:=H.fR 5 rfl
 refine enter Tryz.func56 U U (Nat.le_of_ble_eq_true U) (Ab (Ae (CH U U U U H (fun b31 w H=>(Ah 2 U (Ac (Z ?_)))))))
 replace H:Hd _ _ _ [blk b31 [.slice A1 C.J.us.length c2,.int .i64 C.J.parts,.slice A6 C.J.map.length c7,.slice A11 C.J.comb.length c12,.slice A16 C.J.red.length c17,.int .i64 C.J.chunk,.int .i64 C.J.window,.int .i64 C.J.fuel,.slice A21 C.J.marks.length c22,.int .i64 C.w,.int .i64 C.t,.int .i64 C.o] 28] [Aa (Ak Ag) (.slice A1 C.J.us.length c2) C.J.us,Aa Af (.slice A6 C.J.map.length c7) C.J.map,Aa Af (.slice A11 C.J.comb.length c12) C.J.comb,Aa Af (.slice A16 C.J.red.length c17) C.J.red,Aa (Ai .i64) (.slice A21 C.J.marks.length c22) C.J.marks,Aa Bl (.slice A26 recs.length c27) recs]:=H
 refine Ab (Ab (Ae (V U U (Bv (cs:=[.slice A1 C.J.us.length c2,.int .i64 C.J.parts,.slice A6 C.J.map.length c7,.slice A11 C.J.comb.length c12,.slice A16 C.J.red.length c17,.int .i64 C.J.chunk,.int .i64 C.J.window,.int .i64 C.J.fuel,.slice A21 C.J.marks.length c22,.int .i64 C.w,.int .i64 C.t,.int .i64 C.o]) U EX U U (H.cellsI 0 U U)) (Ad U (sc (Ub (.slice A1 C.J.us.length c2) (.slice A6 C.J.map.length c7) (.slice A11 C.J.comb.length c12) (.slice A16 C.J.red.length c17) (.slice A21 C.J.marks.length c22) C p (by first |assumption|omega)) H (lR 0 U (lR 1 U (lR 2 U (lR 3 U (lR 4 U l0))))) U U (At Vv U U) ?_)))))
 rintro _ _ w ⟨rfl,rfl⟩ H
 refine V U U (Bp U U U) (Ad U ?_)
 refine AQ (d:=18) U (fun h32=>?_) (fun h32=>?_)
 ·exact (hgo.1 h32).elim
 refine Ad U (V U U (Bg U U U) (Ad U (Ac (Z ?_))))
 replace H:Hd _ _ _ [blk b31 [.slice A1 C.J.us.length c2,.int .i64 C.J.parts,.slice A6 C.J.map.length c7,.slice A11 C.J.comb.length c12,.slice A16 C.J.red.length c17,.int .i64 C.J.chunk,.int .i64 C.J.window,.int .i64 C.J.fuel,.slice A21 C.J.marks.length c22,.int .i64 C.w,.int .i64 C.t,.int .i64 C.o] 28] [Aa (Ak Ag) (.slice A1 C.J.us.length c2) C.J.us,Aa Af (.slice A6 C.J.map.length c7) C.J.map,Aa Af (.slice A11 C.J.comb.length c12) C.J.comb,Aa Af (.slice A16 C.J.red.length c17) C.J.red,Aa (Ai .i64) (.slice A21 C.J.marks.length c22) C.J.marks,Aa Bl (.slice A26 recs.length c27) recs]:=H
 refine Ay U (fun h33=>?_) (fun h33=>?_)
 ·exfalso;omega
 refine Av (Z (Ab (Ae (V U U (Bv (cs:=[.slice A1 C.J.us.length c2,.int .i64 C.J.parts,.slice A6 C.J.map.length c7,.slice A11 C.J.comb.length c12,.slice A16 C.J.red.length c17,.int .i64 C.J.chunk,.int .i64 C.J.window,.int .i64 C.J.fuel,.slice A21 C.J.marks.length c22,.int .i64 C.w,.int .i64 C.t,.int .i64 C.o]) U EX U U (H.cellsI 0 U U)) (sc (PQ (.slice A1 C.J.us.length c2) (.slice A6 C.J.map.length c7) (.slice A11 C.J.comb.length c12) (.slice A16 C.J.red.length c17) (.slice A21 C.J.marks.length c22) C (by first |assumption|omega)) H (lR 0 U (lR 1 U (lR 2 U (lR 3 U (lR 4 U l0))))) U U (At Pg U U) ?_)))))
 rintro _ _ w ⟨J34,vS35,vM36,vC37,vR38,vK39,rfl,rfl,hf40⟩ H
 replace H:=H.h5 (A:=Y (Ak Ag) vS35 J34.us) (B:=Y Af vM36 J34.map) (C:=Y Af vC37 J34.comb) (D:=Y Af vR38 J34.red) (E:=Y (Ai .i64) vK39 J34.marks)
 have hsj:=hf40
 refine Ah 2 U (sc (Za) H l0 U U (At UB U U) ?_)
 rintro _ _ w ⟨b41,rfl,rfl⟩ H
 obtain ⟨A42,c43,rfl,hc44,hm45,hp46⟩:=H.fA 1 rfl
 obtain ⟨A47,c48,rfl,hc49,hm50,hp51⟩:=H.fA 2 rfl
 obtain ⟨A52,c53,rfl,hc54,hm55,hp56⟩:=H.fA 3 rfl
 obtain ⟨A57,c58,rfl,hc59,hm60,hp61⟩:=H.fA 4 rfl
 obtain ⟨A62,c63,rfl,hc64,hm65,hp66⟩:=H.fA 5 rfl
 refine V U U (CL (parts:=[(0,.tmp 23),(1,.tmp 24),(2,.tmp 25),(4,.tmp 26)]) (vs:=[.agg #[.slice A42 J34.us.length c43,.int .i64 J34.parts,.slice A47 J34.map.length c48,.slice A52 J34.comb.length c53,.slice A57 J34.red.length c58,.int .i64 J34.chunk,.int .i64 J34.window,.int .i64 J34.fuel,.slice A62 J34.marks.length c63,.int .i64 C.w,.int .i64 C.t,.int .i64 C.o],.int .i64 p,.int .i64 ep,.pointer (some ⟨b41,0,none⟩)]) (cs:=[.slice A42 J34.us.length c43,.int .i64 J34.parts,.slice A47 J34.map.length c48,.slice A52 J34.comb.length c53,.slice A57 J34.red.length c58,.int .i64 J34.chunk,.int .i64 J34.window,.int .i64 J34.fuel,.slice A62 J34.marks.length c63,.int .i64 C.w,.int .i64 C.t,.int .i64 C.o,.int .i64 p,.int .i64 ep,.bool false,.slice none 0 0,.bool false,.int .i64 0,.int .i64 0,.bool false,.slice none 0 0,.bool false,.int .i64 0,.int .i64 0,.bool false,.slice none 0 0,.bool false,.int .i64 0,.int .i64 0,.bool false,.slice none 0 0,.bool false,.int .i64 0,.int .i64 0,.bool false,.slice none 0 0,.bool false,.int .i64 0,.int .i64 0,.bool false,.slice none 0 0,.bool false,.int .i64 0,.int .i64 0,.pointer (some ⟨b41,0,none⟩),.slice none 0 0]) U RO U U) ?_
 refine CH U U U U H (fun b67 w H=>(Ad U (Ac (Z ?_))))
 replace H:Hd _ _ _ [blk b67 [.slice A42 J34.us.length c43,.int .i64 J34.parts,.slice A47 J34.map.length c48,.slice A52 J34.comb.length c53,.slice A57 J34.red.length c58,.int .i64 J34.chunk,.int .i64 J34.window,.int .i64 J34.fuel,.slice A62 J34.marks.length c63,.int .i64 C.w,.int .i64 C.t,.int .i64 C.o,.int .i64 p,.int .i64 ep,.bool false,.slice none 0 0,.bool false,.int .i64 0,.int .i64 0,.bool false,.slice none 0 0,.bool false,.int .i64 0,.int .i64 0,.bool false,.slice none 0 0,.bool false,.int .i64 0,.int .i64 0,.bool false,.slice none 0 0,.bool false,.int .i64 0,.int .i64 0,.bool false,.slice none 0 0,.bool false,.int .i64 0,.int .i64 0,.bool false,.slice none 0 0,.bool false,.int .i64 0,.int .i64 0,.pointer (some ⟨b41,0,none⟩),.slice none 0 0] 185,AS 253 b41 ([]),Y (Ak Ag) (.slice A42 J34.us.length c43) J34.us,Y Af (.slice A47 J34.map.length c48) J34.map,Y Af (.slice A52 J34.comb.length c53) J34.comb,Y Af (.slice A57 J34.red.length c58) J34.red,Y (Ai .i64) (.slice A62 J34.marks.length c63) J34.marks,blk b31 [.slice A1 C.J.us.length c2,.int .i64 C.J.parts,.slice A6 C.J.map.length c7,.slice A11 C.J.comb.length c12,.slice A16 C.J.red.length c17,.int .i64 C.J.chunk,.int .i64 C.J.window,.int .i64 C.J.fuel,.slice A21 C.J.marks.length c22,.int .i64 C.w,.int .i64 C.t,.int .i64 C.o] 28] [Aa (Ak Ag) (.slice A1 C.J.us.length c2) C.J.us,Aa Af (.slice A6 C.J.map.length c7) C.J.map,Aa Af (.slice A11 C.J.comb.length c12) C.J.comb,Aa Af (.slice A16 C.J.red.length c17) C.J.red,Aa (Ai .i64) (.slice A21 C.J.marks.length c22) C.J.marks,Aa Bl (.slice A26 recs.length c27) recs]:=H
 refine Ab (Ab ?_)
 have hlen:J34.us.length≤6:=by have:=hC.1.1;have:=hsj.len;omega
 replace H:=(H.newnil (Ak (Ai .i64))).prsN
 replace H:=H.h2 (A:=AT ((Hb p ep).g) (fun _=>.slice none 0 0)) (B:=Y (Ak (Ai .i64)) (.slice none 0 0) [])|>.p8|>.p8|>.p8|>.p8|>.p8|>.p7|>.k9|>.h1 (A:=blk b67 (AK (.slice A42 J34.us.length c43) (.slice A47 J34.map.length c48) (.slice A52 J34.comb.length c53) (.slice A57 J34.red.length c58) (.slice A62 J34.marks.length c63) J34 C.w C.t C.o p ep ((Hb p ep).g) (fun _=>.slice none 0 0) b41 (.slice none 0 0)) 185)
 refine Ae (Ad U (V U U (A0 U JA U) (Ad U (Ac (Z (AU (BV (σ:=Nat×AD×(Nat→Value)×Value×List (Value×List Int)) (fun (k,R,hv,vs,us)=>[(1,.int .i64 p),(8,.pointer none),(9,.int .i64 0),(10,.pointer (some ⟨b67,0,none⟩)),(29,.slice A26 recs.length c27),(30,.int .i64 ((recs.length:Nat):Int)),(31,.int .i64 ((k:Nat):Int))]) (fun (k,R,hv,vs,us) w=>(Hd w0 F0 w [blk b67 (AK (.slice A42 J34.us.length c43) (.slice A47 J34.map.length c48) (.slice A52 J34.comb.length c53) (.slice A57 J34.red.length c58) (.slice A62 J34.marks.length c63) J34 C.w C.t C.o p ep R.g hv b41 vs) 185,Y (Ak Ag) (.slice A42 J34.us.length c43) J34.us,Y Af (.slice A47 J34.map.length c48) J34.map,Y Af (.slice A52 J34.comb.length c53) J34.comb,Y Af (.slice A57 J34.red.length c58) J34.red,Y (Ai .i64) (.slice A62 J34.marks.length c63) J34.marks,AT (R.g) hv,Y (Ak (Ai .i64)) vs us,AS 253 b41 ([])] [Aa (Ak Ag) (.slice A1 C.J.us.length c2) C.J.us,Aa Af (.slice A6 C.J.map.length c7) C.J.map,Aa Af (.slice A11 C.J.comb.length c12) C.J.comb,Aa Af (.slice A16 C.J.red.length c17) C.J.red,Aa (Ai .i64) (.slice A21 C.J.marks.length c22) C.J.marks,Aa Bl (.slice A26 recs.length c27) recs])∧(R=CW J34.us.length p ep ((recs.take k).map AV.p))∧(R.part=p)∧(us.map (·.2)=R.sets)∧(k≤recs.length)∧(us.length≤k)) (fun (k,R,hv,vs,us)=>recs.length - k) (0,Hb p ep,(fun _=>.slice none 0 0),.slice none 0 0,[]) ⟨rfl,rfl,rfl,rfl,rfl,rfl,rfl,trivial⟩ ⟨H,rfl,rfl,rfl,Nat.zero_le _,Nat.le_refl _⟩ ?_)))))))
 rintro ⟨k,R,hv,vs,us⟩ w ⟨H,hR,hRp,hus,hk,hul⟩
 refine Ab (Ae (V U U (Bg U U U) (Ac (Z (Ab ?_)))))
 refine Ay U (fun h68=>?_) (fun h68=>?_)
 ·refine Av (Z (Ab (AU (Ab ?_))))
  obtain ⟨⟨a71,a72,a73,a74,a75,sv76,se77,pv78,pr79⟩,hx70⟩:∃ z9,recs[k]?=some z9:=⟨_,List.getElem?_eq_getElem (show k<recs.length by omega)⟩
  obtain ⟨A80,c81,A82,c83,rfl,rfl,m84,m85,m86,m87⟩:=H.nestRr 5 rfl hx70
  have hr1:=hrs _ (B7 hx70)
  unfold AB at hr1
  dsimp only at hr1
  refine Ae ?_
  have th88:=H.thRr 5 rfl hx70
  refine V U U (Bf (p:=AX A26+k*7) U Hi U U (by omega) (by omega) th88 U) (V U U (Bv (cs:=[.int .i64 a71,.int .i64 a72,.int .i64 a73,.int .i64 a74,.int .i64 a75,.slice A80 se77.length c81,.slice A82 pr79.length c83]) U Rc U U (H.elsRr 5 U hx70 U)) (Dr U U U Hr H (fun b89 w H=>(Bk U U U Rc U U H U (Nat.le_of_ble_eq_true U) (fun u hu=>by simp [Value.cells] at hu;rcases hu with rfl|rfl|rfl|rfl|rfl|rfl|rfl<;>rfl) (fun w H=>?_)))))
  replace H:Hd _ _ _ [blk b89 [.int .i64 a71,.int .i64 a72,.int .i64 a73,.int .i64 a74,.int .i64 a75,.slice A80 se77.length c81,.slice A82 pr79.length c83] 37,blk b67 (AK (.slice A42 J34.us.length c43) (.slice A47 J34.map.length c48) (.slice A52 J34.comb.length c53) (.slice A57 J34.red.length c58) (.slice A62 J34.marks.length c63) J34 C.w C.t C.o p ep R.g hv b41 vs) 185,Y (Ak Ag) (.slice A42 J34.us.length c43) J34.us,Y Af (.slice A47 J34.map.length c48) J34.map,Y Af (.slice A52 J34.comb.length c53) J34.comb,Y Af (.slice A57 J34.red.length c58) J34.red,Y (Ai .i64) (.slice A62 J34.marks.length c63) J34.marks,AT (R.g) hv,Y (Ak (Ai .i64)) vs us,AS 253 b41 ([])] [Aa (Ak Ag) (.slice A1 C.J.us.length c2) C.J.us,Aa Af (.slice A6 C.J.map.length c7) C.J.map,Aa Af (.slice A11 C.J.comb.length c12) C.J.comb,Aa Af (.slice A16 C.J.red.length c17) C.J.red,Aa (Ai .i64) (.slice A21 C.J.marks.length c22) C.J.marks,Aa Bl (.slice A26 recs.length c27) recs]:=H
  refine Ac (Z (Ab (Ab (Ae (V U U (Aj U TH U) (V U U (An U AE U (H.cellI 0 U U)) (Ad U (V U U (C8 U U U) (Ac (Z ?_))))))))))
  refine Ay U (fun h90=>?_) (fun h90=>?_)
  ·refine BK (AR (BN (Z (Ae (V U U (A9 (z:=((k+1:Nat):Int)) U U U (by rw [AF (by omega) (by omega)];omega)) (Ad U (Ac ?_)))))))
   have hpart:(AV.p (⟨a71,a72,a73,a74,a75,.slice A80 se77.length c81,se77,.slice A82 pr79.length c83,pr79⟩:AV)).part≠R.part:=by rw [hRp];exact h90
   have hR2:=Fx hR hx70 (XZ hpart)
   replace H:=H.p9.p9.p9.p9.p9.p9.p9.p9.p9.k9
   exact Bm (s:=(k,R,hv,undef,us)) (k+1,R,hv,vs,us) ⟨rfl,rfl,rfl,rfl,rfl,rfl,rfl,trivial⟩ ⟨H,hR2,hRp,by (try dsimp only);exact hus,by (try dsimp only);omega,by (try dsimp only);omega⟩ (by (try dsimp only);omega)
  refine Av (Z (Ab (Ab ?_)))
  by_cases hin91:0≤a73∧a73<((J34.us.length:Nat):Int)
  ·refine Ae (Ad U (V U U (Aj U Ol U) (V U U (An U AE U (H.cellI 0 U U)) (sc (KP b67 A42 J34.us.length c43 (.slice A47 J34.map.length c48) (.slice A52 J34.comb.length c53) (.slice A57 J34.red.length c58) (.slice A62 J34.marks.length c63) J34 C.w C.t C.o p ep R.g hv b41 vs a73 (by first |assumption|omega) (by first |assumption|omega)) H (lA 1 U (fun _ h=>h) l0) U U (At Ig U U) ?_))))
   rintro _ _ w ⟨rfl,rfl⟩ H
   refine Ad U (Ac (Z (Ab (Ae (V U U (Aj U HA U) (V U U (An U AE U (H.cellI 0 U U)) (V U U (Bp U U U) (Ad U ?_))))))))
   refine AQ (d:=46) U (fun h92=>?_) (fun h92=>?_)
   ·refine Ad U (V U U (Qf U IL U U) (Ah 3 U (V U U (AI U U) (V U U (Aj U FG U) (V U U (An U Ds U (H.cellI 1 U (GD (by omega)))) (V U U (E5 U U U) (Ad U (Ac (Z ?_)))))))))
    refine Dv (b:=!((R.g ((a73).toNat)).merged)) U (fun h93=>?_) (fun h93=>?_)
    ·refine Ae (Ah 2 U (V U U (Aj U TI U) (V U U (An U Eb U (H.cellI 0 U U)) (sc (HW (.slice A82 pr79.length c83) pr79 (by first |assumption|omega)) H (lX (fun F hA hR=>Qm (hR _ (List.mem_of_getElem? (i:=5) U)) hx70) l0) U U (At Ii U U) ?_))))
     rintro v94 _ w rfl H
     refine V U U (AI U U) (V U U (Aj U FG U) ?_)
     replace H:=H.p2
     refine Bk U U U Ds U U H U (by show 14+((a73).toNat)*5+0+1≤46;omega) (fun u hu=>by simp [Value.cells] at hu;subst hu;rfl) (fun w H=>?_)
     replace H:Hd w0 F0 w [blk b67 (AK (.slice A42 J34.us.length c43) (.slice A47 J34.map.length c48) (.slice A52 J34.comb.length c53) (.slice A57 J34.red.length c58) (.slice A62 J34.marks.length c63) J34 C.w C.t C.o p ep (AJ R.g ((a73).toNat) { R.g ((a73).toNat) with merged:=true }) hv b41 vs) 185,Y Ag v94 pr79,blk b89 [.int .i64 a71,.int .i64 a72,.int .i64 a73,.int .i64 a74,.int .i64 a75,.slice A80 se77.length c81,.slice A82 pr79.length c83] 37,Y (Ak Ag) (.slice A42 J34.us.length c43) J34.us,Y Af (.slice A47 J34.map.length c48) J34.map,Y Af (.slice A52 J34.comb.length c53) J34.comb,Y Af (.slice A57 J34.red.length c58) J34.red,Y (Ai .i64) (.slice A62 J34.marks.length c63) J34.marks,AT (R.g) hv,Y (Ak (Ai .i64)) vs us,AS 253 b41 ([])] [Aa (Ak Ag) (.slice A1 C.J.us.length c2) C.J.us,Aa Af (.slice A6 C.J.map.length c7) C.J.map,Aa Af (.slice A11 C.J.comb.length c12) C.J.comb,Aa Af (.slice A16 C.J.red.length c17) C.J.red,Aa (Ai .i64) (.slice A21 C.J.marks.length c22) C.J.marks,Aa Bl (.slice A26 recs.length c27) recs]:=by rw [←Qq (show (a73).toNat<6 by omega) true];exact H
     refine V U U (AI U U) (V U U (Aj U Lk U) ?_)
     obtain ⟨A95,c96,rfl,hc97,hm98,hp99⟩:=H.fA 1 rfl
     refine Bk U U U Eb U U H U (by show 14+((a73).toNat)*5+1+1≤46;omega) (fun u hu=>by simp [Value.cells] at hu;subst hu;rfl) (fun w H=>?_)
     replace H:Hd w0 F0 w [blk b67 (AK (.slice A42 J34.us.length c43) (.slice A47 J34.map.length c48) (.slice A52 J34.comb.length c53) (.slice A57 J34.red.length c58) (.slice A62 J34.marks.length c63) J34 C.w C.t C.o p ep (AJ R.g ((a73).toNat) { R.g ((a73).toNat) with merged:=true }) (AJ hv ((a73).toNat) (.slice A95 pr79.length c96:Value)) b41 vs) 185,Y Ag (.slice A95 pr79.length c96) pr79,blk b89 [.int .i64 a71,.int .i64 a72,.int .i64 a73,.int .i64 a74,.int .i64 a75,.slice A80 se77.length c81,.slice A82 pr79.length c83] 37,Y (Ak Ag) (.slice A42 J34.us.length c43) J34.us,Y Af (.slice A47 J34.map.length c48) J34.map,Y Af (.slice A52 J34.comb.length c53) J34.comb,Y Af (.slice A57 J34.red.length c58) J34.red,Y (Ai .i64) (.slice A62 J34.marks.length c63) J34.marks,AT (R.g) hv,Y (Ak (Ai .i64)) vs us,AS 253 b41 ([])] [Aa (Ak Ag) (.slice A1 C.J.us.length c2) C.J.us,Aa Af (.slice A6 C.J.map.length c7) C.J.map,Aa Af (.slice A11 C.J.comb.length c12) C.J.comb,Aa Af (.slice A16 C.J.red.length c17) C.J.red,Aa (Ai .i64) (.slice A21 C.J.marks.length c22) C.J.marks,Aa Bl (.slice A26 recs.length c27) recs]:=by rw [←Qr (show (a73).toNat<6 by omega) (.slice A95 pr79.length c96:Value)];exact H
     refine Ac (Z (Ab (Ae (V U U (Aj U HA U) (V U U (An U AE U (H.cellI 2 U U)) (V U U (Bp U U U) (Ac (Z ?_))))))))
     refine Ay U (fun h100=>?_) (fun h100=>?_)
     ·exfalso;omega
     refine Av (A8 (Z (Ae (V U U (A9 (z:=((k+1:Nat):Int)) U U U (by rw [AF (by omega) (by omega)];omega)) (Ad U (Ac ?_))))))
     have hpart:(AV.p (⟨a71,a72,a73,a74,a75,.slice A80 se77.length c81,se77,.slice A82 pr79.length c83,pr79⟩:AV)).part=R.part:=by rw [hRp];exact Classical.not_not.1 h90
     replace H:=H.pick 10 rfl|>.pick 10 rfl|>.p9|>.p9|>.p9|>.p9|>.p9|>.p7|>.pick 10 rfl|>.p9|>.k10|>.prsU (i:=(a73).toNat) (x:=({ R.g (a73).toNat with merged:=true,pairs:=pr79 }:CT)) (by omega)
     replace H:Hd w0 F0 w [AT (({ R with g:=AJ R.g (a73).toNat ({ R.g (a73).toNat with merged:=true,pairs:=pr79 }:CT) }:AD).g) (AJ hv (a73).toNat (.slice A95 pr79.length c96:Value)),blk b67 (AK (.slice A42 J34.us.length c43) (.slice A47 J34.map.length c48) (.slice A52 J34.comb.length c53) (.slice A57 J34.red.length c58) (.slice A62 J34.marks.length c63) J34 C.w C.t C.o p ep (({ R with g:=AJ R.g (a73).toNat ({ R.g (a73).toNat with merged:=true,pairs:=pr79 }:CT) }:AD).g) (AJ hv (a73).toNat (.slice A95 pr79.length c96:Value)) b41 vs) 185,Y (Ak Ag) (.slice A42 J34.us.length c43) J34.us,Y Af (.slice A47 J34.map.length c48) J34.map,Y Af (.slice A52 J34.comb.length c53) J34.comb,Y Af (.slice A57 J34.red.length c58) J34.red,Y (Ai .i64) (.slice A62 J34.marks.length c63) J34.marks,Y (Ak (Ai .i64)) vs us,AS 253 b41 ([])] [Aa (Ak Ag) (.slice A1 C.J.us.length c2) C.J.us,Aa Af (.slice A6 C.J.map.length c7) C.J.map,Aa Af (.slice A11 C.J.comb.length c12) C.J.comb,Aa Af (.slice A16 C.J.red.length c17) C.J.red,Aa (Ai .i64) (.slice A21 C.J.marks.length c22) C.J.marks,Aa Bl (.slice A26 recs.length c27) recs]:=by
       rw [←Qp (g:=AJ R.g (a73).toNat { R.g (a73).toNat with merged:=true }) (g':=({ R with g:=AJ R.g (a73).toNat ({ R.g (a73).toNat with merged:=true,pairs:=pr79 }:CT) }:AD).g) (fun j=>by dsimp only;by_cases e:j=(a73).toNat<;>first |(subst e;rw [DB,DB];exact ⟨rfl,rfl,rfl,rfl⟩)|(rw [D0 _ _ e,D0 _ _ e];exact ⟨rfl,rfl,rfl,rfl⟩))]
       exact H
     have hR2:=Fx hR hx70 (XX hpart h92 hin91 (by simpa [AV.p] using h93))
     replace H:=H.sel 9 [1,2,3,4,5,6,0,7,8] [] rfl (by kernel_rfl)
     replace H:Hd _ _ _ [blk b67 (AK (.slice A42 J34.us.length c43) (.slice A47 J34.map.length c48) (.slice A52 J34.comb.length c53) (.slice A57 J34.red.length c58) (.slice A62 J34.marks.length c63) J34 C.w C.t C.o p ep (({ R with g:=AJ R.g (a73).toNat ({ R.g (a73).toNat with merged:=true,pairs:=pr79 }:CT) }:AD).g) (AJ hv (a73).toNat (.slice A95 pr79.length c96:Value)) b41 vs) 185,Y (Ak Ag) (.slice A42 J34.us.length c43) J34.us,Y Af (.slice A47 J34.map.length c48) J34.map,Y Af (.slice A52 J34.comb.length c53) J34.comb,Y Af (.slice A57 J34.red.length c58) J34.red,Y (Ai .i64) (.slice A62 J34.marks.length c63) J34.marks,AT (({ R with g:=AJ R.g (a73).toNat ({ R.g (a73).toNat with merged:=true,pairs:=pr79 }:CT) }:AD).g) (AJ hv (a73).toNat (.slice A95 pr79.length c96:Value)),Y (Ak (Ai .i64)) vs us,AS 253 b41 ([])] [Aa (Ak Ag) (.slice A1 C.J.us.length c2) C.J.us,Aa Af (.slice A6 C.J.map.length c7) C.J.map,Aa Af (.slice A11 C.J.comb.length c12) C.J.comb,Aa Af (.slice A16 C.J.red.length c17) C.J.red,Aa (Ai .i64) (.slice A21 C.J.marks.length c22) C.J.marks,Aa Bl (.slice A26 recs.length c27) recs]:=H
     exact Bm (s:=(k,R,hv,undef,us)) (k+1,({ R with g:=AJ R.g (a73).toNat ({ R.g (a73).toNat with merged:=true,pairs:=pr79 }:CT) }:AD),AJ hv (a73).toNat (.slice A95 pr79.length c96:Value),vs,us) ⟨rfl,rfl,rfl,rfl,rfl,rfl,rfl,trivial⟩ ⟨H,hR2,hRp,by (try dsimp only);exact hus,by (try dsimp only);omega,by (try dsimp only);omega⟩ (by (try dsimp only);omega)
    refine Av (Z (Ab (Ae (V U U (Aj U HA U) (V U U (An U AE U (H.cellI 0 U U)) (V U U (Bp U U U) (Ac (Z ?_))))))))
    refine Ay U (fun h101=>?_) (fun h101=>?_)
    ·exfalso;omega
    refine Av (A8 (Z (Ae (V U U (A9 (z:=((k+1:Nat):Int)) U U U (by rw [AF (by omega) (by omega)];omega)) (Ad U (Ac ?_))))))
    have hpart:(AV.p (⟨a71,a72,a73,a74,a75,.slice A80 se77.length c81,se77,.slice A82 pr79.length c83,pr79⟩:AV)).part=R.part:=by rw [hRp];exact Classical.not_not.1 h90
    have hR2:=Fx hR hx70 (Kn hpart (fun h=>by have h2:=h.2.2;have h3:=h93;dsimp only [AV.p] at h2;rw [h2] at h3;exact absurd h3 (by decide)) h101)
    replace H:=H.p9.p9.p9.p9.p9.p9.p9.p9.p9.k9
    exact Bm (s:=(k,R,hv,undef,us)) (k+1,R,hv,vs,us) ⟨rfl,rfl,rfl,rfl,rfl,rfl,rfl,trivial⟩ ⟨H,hR2,hRp,by (try dsimp only);exact hus,by (try dsimp only);omega,by (try dsimp only);omega⟩ (by (try dsimp only);omega)
   refine Ah 10 U (Ac (Z (Cb U (Av (Z (Ab (Ae (V U U (Aj U HA U) (V U U (An U AE U (H.cellI 0 U U)) (V U U (Bp U U U) (Ac (Z ?_))))))))))))
   refine Ay U (fun h102=>?_) (fun h102=>?_)
   ·replace H:=H.p9.p8.p8.p8.p8.p8.p8.p7
    refine BX (.e 0 (.e 1 (.e 2 (.e 3 (.e 5 (.e 6 (.b 4 7 (.m 7 (.m 8 (.m 9 (.e 10 (.e 11 (.m 12 .z)))))) (.b 4 8 (.m 8 (.m 9 (.e 10 (.e 11 (.m 12 .z))))) (.m 4 (.m 9 (.e 10 (.e 11 (.m 12 .z))))))))))))) (fun w=>∃ Ar,Hd w0 F0 w (blk b89 [.int .i64 a71,.int .i64 a72,.int .i64 a73,.int .i64 a74,.int .i64 a75,.slice A80 se77.length c81,.slice A82 pr79.length c83] 37::Y (Ak Ag) (.slice A42 J34.us.length c43) J34.us::Y Af (.slice A47 J34.map.length c48) J34.map::Y Af (.slice A52 J34.comb.length c53) J34.comb::Y Af (.slice A57 J34.red.length c58) J34.red::Y (Ai .i64) (.slice A62 J34.marks.length c63) J34.marks::AT (R.g) hv::AS 253 b41 ([])::Ar) [Aa (Ak Ag) (.slice A1 C.J.us.length c2) C.J.us,Aa Af (.slice A6 C.J.map.length c7) C.J.map,Aa Af (.slice A11 C.J.comb.length c12) C.J.comb,Aa Af (.slice A16 C.J.red.length c17) C.J.red,Aa (Ai .i64) (.slice A21 C.J.marks.length c22) C.J.marks,Aa Bl (.slice A26 recs.length c27) recs]) mo (by kernel_rfl) (fun w H=>⟨_,H⟩) H (fun w H=>?_)
    refine Ax U (Ax U (Ap U U U (fun w ⟨Ar,H⟩=>AI U U) (Ap U U U (fun w ⟨Ar,H⟩=>Aj U Ff U) (Ap U U U (fun w ⟨Ar,H⟩=>Aj U Om U) (Ap U U U (fun w ⟨Ar,H⟩=>An U Gd U (H.cellI 0 U U)) ?_)))))
    refine Hv U U ?_ ?_
    ·refine V U U (An U D_ U (H.cellI 8 U U)) (AH ⟨_,H⟩ (AL U (sc (GR (.slice A80 se77.length c81) se77 (by first |assumption|omega)) H (lX (fun F hA hR=>Jm (hR _ (List.mem_of_getElem? (i:=5) U)) hx70) l0) U U (At G3 U U) ?_)))
     rintro v103 _ w rfl H
     replace H:=H.h1 (A:=Y (Ai .i64) v103 se77)|>.p8|>.p8|>.p8|>.p8|>.p8|>.p8|>.p8|>.p8
     refine AH ⟨_,H⟩ (AL U ?_)
     obtain ⟨A105,c106,rfl,hc107,hm108,hp109⟩:=H.fA 8 rfl
     refine BT (parts:=[(0,.tmp 76)]) (vs:=[.slice A105 se77.length c106]) (cs:=[.slice A105 se77.length c106]) U U U D9 Ej U (by decide) (by decide) U U H (fun b104 w H=>?_)
     replace H:Hd _ _ _ [blk b104 [.slice A105 se77.length c106] 24,blk b89 [.int .i64 a71,.int .i64 a72,.int .i64 a73,.int .i64 a74,.int .i64 a75,.slice A80 se77.length c81,.slice A82 pr79.length c83] 37,Y (Ak Ag) (.slice A42 J34.us.length c43) J34.us,Y Af (.slice A47 J34.map.length c48) J34.map,Y Af (.slice A52 J34.comb.length c53) J34.comb,Y Af (.slice A57 J34.red.length c58) J34.red,Y (Ai .i64) (.slice A62 J34.marks.length c63) J34.marks,AT (R.g) hv,AS 253 b41 ([]),Y (Ai .i64) (.slice A105 se77.length c106) se77,blk b67 (AK (.slice A42 J34.us.length c43) (.slice A47 J34.map.length c48) (.slice A52 J34.comb.length c53) (.slice A57 J34.red.length c58) (.slice A62 J34.marks.length c63) J34 C.w C.t C.o p ep R.g hv b41 vs) 185,Y (Ak (Ai .i64)) vs us] [Aa (Ak Ag) (.slice A1 C.J.us.length c2) C.J.us,Aa Af (.slice A6 C.J.map.length c7) C.J.map,Aa Af (.slice A11 C.J.comb.length c12) C.J.comb,Aa Af (.slice A16 C.J.red.length c17) C.J.red,Aa (Ai .i64) (.slice A21 C.J.marks.length c22) C.J.marks,Aa Bl (.slice A26 recs.length c27) recs]:=H
     replace H:=H.p8.p8.p8.p8.p8.p8.p8.p8
     refine AH ⟨_,H⟩ (AL U ?_)
     replace H:=H.pick 11 rfl|>.pick 10 rfl|>.pick 10 rfl|>.p2
     refine FO U U U D9 Ej U (by decide) U U H (by first |omega|(simp only [List.length_append,List.length_cons,List.length_nil];omega)) (fun v110 w H=>?_)
     replace H:=H.h1 (A:=Y (Ak (Ai .i64)) v110 (us++[((.slice A105 se77.length c106:Value),se77)]))|>.p8|>.p8|>.p8|>.p8|>.p8|>.p8|>.p8|>.p8
     refine AH ⟨_,H⟩ (Ap U U U (fun w ⟨Ar,H⟩=>AI U U) (Ap U U U (fun w ⟨Ar,H⟩=>Aj U Ff U) (AL U ?_)))
     obtain ⟨A111,c112,rfl,hc113,hm114,hp115⟩:=H.fA 8 rfl
     replace H:=H.p9
     refine Bk U U U D_ U U H U (Nat.le_of_ble_eq_true U) (fun u hu=>by simp [Value.cells] at hu;subst hu;rfl) (fun w H=>?_)
     replace H:Hd _ _ _ [blk b67 (AK (.slice A42 J34.us.length c43) (.slice A47 J34.map.length c48) (.slice A52 J34.comb.length c53) (.slice A57 J34.red.length c58) (.slice A62 J34.marks.length c63) J34 C.w C.t C.o p ep R.g hv b41 (.slice A111 ((us++[((.slice A105 se77.length c106:Value),se77)]).length) c112)) 185,blk b89 [.int .i64 a71,.int .i64 a72,.int .i64 a73,.int .i64 a74,.int .i64 a75,.slice A80 se77.length c81,.slice A82 pr79.length c83] 37,Y (Ak Ag) (.slice A42 J34.us.length c43) J34.us,Y Af (.slice A47 J34.map.length c48) J34.map,Y Af (.slice A52 J34.comb.length c53) J34.comb,Y Af (.slice A57 J34.red.length c58) J34.red,Y (Ai .i64) (.slice A62 J34.marks.length c63) J34.marks,AT (R.g) hv,AS 253 b41 ([]),Y (Ak (Ai .i64)) (.slice A111 ((us++[((.slice A105 se77.length c106:Value),se77)]).length) c112) (us++[((.slice A105 se77.length c106:Value),se77)])] [Aa (Ak Ag) (.slice A1 C.J.us.length c2) C.J.us,Aa Af (.slice A6 C.J.map.length c7) C.J.map,Aa Af (.slice A11 C.J.comb.length c12) C.J.comb,Aa Af (.slice A16 C.J.red.length c17) C.J.red,Aa (Ai .i64) (.slice A21 C.J.marks.length c22) C.J.marks,Aa Bl (.slice A26 recs.length c27) recs]:=H
     replace H:=H.p8.p8.p8.p8.p8.p8.p8.p8
     refine AH ⟨_,H⟩ (BL (A8 (Z (Ae (V U U (A9 (z:=((k+1:Nat):Int)) U U U (by rw [AF (by omega) (by omega)];omega)) (Ad U (Ac ?_)))))))
     have hpart:(AV.p (⟨a71,a72,a73,a74,a75,.slice A80 se77.length c81,se77,.slice A82 pr79.length c83,pr79⟩:AV)).part=R.part:=by rw [hRp];exact Classical.not_not.1 h90
     have hR2:=Fx hR hx70 (Ix hpart h102)
     replace H:=H.p7.p9.p8.p8.p8.p8.p8.p8.p9.k9.h7 (A:=blk b67 (AK (.slice A42 J34.us.length c43) (.slice A47 J34.map.length c48) (.slice A52 J34.comb.length c53) (.slice A57 J34.red.length c58) (.slice A62 J34.marks.length c63) J34 C.w C.t C.o p ep (({ R with sets:=R.sets++[se77] }:AD).g) hv b41 (.slice A111 ((us++[((.slice A105 se77.length c106:Value),se77)]).length) c112)) 185) (G:=AT (({ R with sets:=R.sets++[se77] }:AD).g) hv)
     exact Bm (s:=(k,R,hv,undef,us)) (k+1,({ R with sets:=R.sets++[se77] }:AD),hv,.slice A111 ((us++[((.slice A105 se77.length c106:Value),se77)]).length) c112,us++[((.slice A105 se77.length c106:Value),se77)]) ⟨rfl,rfl,rfl,rfl,rfl,rfl,rfl,trivial⟩ ⟨H,hR2,hRp,by (try dsimp only);rw [List.map_append,hus];rfl,by (try dsimp only);omega,by (try dsimp only);rw [List.length_append];simp only [List.length_cons,List.length_nil];omega⟩ (by (try dsimp only);omega)
    refine sc (GR (.slice A80 se77.length c81) se77 (by first |assumption|omega)) H (lX (fun F hA hR=>Jm (hR _ (List.mem_of_getElem? (i:=5) U)) hx70) l0) U U (At G3 U U) ?_
    rintro v116 _ w rfl H
    replace H:=H.h1 (A:=Y (Ai .i64) v116 se77)|>.p8|>.p8|>.p8|>.p8|>.p8|>.p8|>.p8|>.p8
    refine AH ⟨_,H⟩ ?_
    refine Hv U U ?_ ?_
    ·refine V U U (An U D_ U (H.cellI 9 U U)) (AH ⟨_,H⟩ (AL U ?_))
     obtain ⟨A118,c119,rfl,hc120,hm121,hp122⟩:=H.fA 8 rfl
     refine BT (parts:=[(0,.tmp 76)]) (vs:=[.slice A118 se77.length c119]) (cs:=[.slice A118 se77.length c119]) U U U D9 Ej U (by decide) (by decide) U U H (fun b117 w H=>?_)
     replace H:Hd _ _ _ [blk b117 [.slice A118 se77.length c119] 24,blk b89 [.int .i64 a71,.int .i64 a72,.int .i64 a73,.int .i64 a74,.int .i64 a75,.slice A80 se77.length c81,.slice A82 pr79.length c83] 37,Y (Ak Ag) (.slice A42 J34.us.length c43) J34.us,Y Af (.slice A47 J34.map.length c48) J34.map,Y Af (.slice A52 J34.comb.length c53) J34.comb,Y Af (.slice A57 J34.red.length c58) J34.red,Y (Ai .i64) (.slice A62 J34.marks.length c63) J34.marks,AT (R.g) hv,AS 253 b41 ([]),Y (Ai .i64) (.slice A118 se77.length c119) se77,blk b67 (AK (.slice A42 J34.us.length c43) (.slice A47 J34.map.length c48) (.slice A52 J34.comb.length c53) (.slice A57 J34.red.length c58) (.slice A62 J34.marks.length c63) J34 C.w C.t C.o p ep R.g hv b41 vs) 185,Y (Ak (Ai .i64)) vs us] [Aa (Ak Ag) (.slice A1 C.J.us.length c2) C.J.us,Aa Af (.slice A6 C.J.map.length c7) C.J.map,Aa Af (.slice A11 C.J.comb.length c12) C.J.comb,Aa Af (.slice A16 C.J.red.length c17) C.J.red,Aa (Ai .i64) (.slice A21 C.J.marks.length c22) C.J.marks,Aa Bl (.slice A26 recs.length c27) recs]:=H
     replace H:=H.p8.p8.p8.p8.p8.p8.p8.p8
     refine AH ⟨_,H⟩ (AL U ?_)
     replace H:=H.pick 11 rfl|>.pick 10 rfl|>.pick 10 rfl|>.p2
     refine FO U U U D9 Ej U (by decide) U U H (by first |omega|(simp only [List.length_append,List.length_cons,List.length_nil];omega)) (fun v123 w H=>?_)
     replace H:=H.h1 (A:=Y (Ak (Ai .i64)) v123 (us++[((.slice A118 se77.length c119:Value),se77)]))|>.p8|>.p8|>.p8|>.p8|>.p8|>.p8|>.p8|>.p8
     refine AH ⟨_,H⟩ (Ap U U U (fun w ⟨Ar,H⟩=>AI U U) (Ap U U U (fun w ⟨Ar,H⟩=>Aj U Ff U) (AL U ?_)))
     obtain ⟨A124,c125,rfl,hc126,hm127,hp128⟩:=H.fA 8 rfl
     replace H:=H.p9
     refine Bk U U U D_ U U H U (Nat.le_of_ble_eq_true U) (fun u hu=>by simp [Value.cells] at hu;subst hu;rfl) (fun w H=>?_)
     replace H:Hd _ _ _ [blk b67 (AK (.slice A42 J34.us.length c43) (.slice A47 J34.map.length c48) (.slice A52 J34.comb.length c53) (.slice A57 J34.red.length c58) (.slice A62 J34.marks.length c63) J34 C.w C.t C.o p ep R.g hv b41 (.slice A124 ((us++[((.slice A118 se77.length c119:Value),se77)]).length) c125)) 185,blk b89 [.int .i64 a71,.int .i64 a72,.int .i64 a73,.int .i64 a74,.int .i64 a75,.slice A80 se77.length c81,.slice A82 pr79.length c83] 37,Y (Ak Ag) (.slice A42 J34.us.length c43) J34.us,Y Af (.slice A47 J34.map.length c48) J34.map,Y Af (.slice A52 J34.comb.length c53) J34.comb,Y Af (.slice A57 J34.red.length c58) J34.red,Y (Ai .i64) (.slice A62 J34.marks.length c63) J34.marks,AT (R.g) hv,AS 253 b41 ([]),Y (Ak (Ai .i64)) (.slice A124 ((us++[((.slice A118 se77.length c119:Value),se77)]).length) c125) (us++[((.slice A118 se77.length c119:Value),se77)])] [Aa (Ak Ag) (.slice A1 C.J.us.length c2) C.J.us,Aa Af (.slice A6 C.J.map.length c7) C.J.map,Aa Af (.slice A11 C.J.comb.length c12) C.J.comb,Aa Af (.slice A16 C.J.red.length c17) C.J.red,Aa (Ai .i64) (.slice A21 C.J.marks.length c22) C.J.marks,Aa Bl (.slice A26 recs.length c27) recs]:=H
     replace H:=H.p8.p8.p8.p8.p8.p8.p8.p8
     refine AH ⟨_,H⟩ (BL (A8 (Z (Ae (V U U (A9 (z:=((k+1:Nat):Int)) U U U (by rw [AF (by omega) (by omega)];omega)) (Ad U (Ac ?_)))))))
     have hpart:(AV.p (⟨a71,a72,a73,a74,a75,.slice A80 se77.length c81,se77,.slice A82 pr79.length c83,pr79⟩:AV)).part=R.part:=by rw [hRp];exact Classical.not_not.1 h90
     have hR2:=Fx hR hx70 (Ix hpart h102)
     replace H:=H.p7.p9.p8.p8.p8.p8.p8.p8.p9.k9.h7 (A:=blk b67 (AK (.slice A42 J34.us.length c43) (.slice A47 J34.map.length c48) (.slice A52 J34.comb.length c53) (.slice A57 J34.red.length c58) (.slice A62 J34.marks.length c63) J34 C.w C.t C.o p ep (({ R with sets:=R.sets++[se77] }:AD).g) hv b41 (.slice A124 ((us++[((.slice A118 se77.length c119:Value),se77)]).length) c125)) 185) (G:=AT (({ R with sets:=R.sets++[se77] }:AD).g) hv)
     exact Bm (s:=(k,R,hv,undef,us)) (k+1,({ R with sets:=R.sets++[se77] }:AD),hv,.slice A124 ((us++[((.slice A118 se77.length c119:Value),se77)]).length) c125,us++[((.slice A118 se77.length c119:Value),se77)]) ⟨rfl,rfl,rfl,rfl,rfl,rfl,rfl,trivial⟩ ⟨H,hR2,hRp,by (try dsimp only);rw [List.map_append,hus];rfl,by (try dsimp only);omega,by (try dsimp only);rw [List.length_append];simp only [List.length_cons,List.length_nil];omega⟩ (by (try dsimp only);omega)
    obtain ⟨A130,c131,rfl,hc132,hm133,hp134⟩:=H.fA 8 rfl
    refine BT (parts:=[(0,.tmp 76)]) (vs:=[.slice A130 se77.length c131]) (cs:=[.slice A130 se77.length c131]) U U U D9 Ej U (by decide) (by decide) U U H (fun b129 w H=>?_)
    replace H:Hd _ _ _ [blk b129 [.slice A130 se77.length c131] 24,blk b89 [.int .i64 a71,.int .i64 a72,.int .i64 a73,.int .i64 a74,.int .i64 a75,.slice A80 se77.length c81,.slice A82 pr79.length c83] 37,Y (Ak Ag) (.slice A42 J34.us.length c43) J34.us,Y Af (.slice A47 J34.map.length c48) J34.map,Y Af (.slice A52 J34.comb.length c53) J34.comb,Y Af (.slice A57 J34.red.length c58) J34.red,Y (Ai .i64) (.slice A62 J34.marks.length c63) J34.marks,AT (R.g) hv,AS 253 b41 ([]),Y (Ai .i64) (.slice A130 se77.length c131) se77,blk b67 (AK (.slice A42 J34.us.length c43) (.slice A47 J34.map.length c48) (.slice A52 J34.comb.length c53) (.slice A57 J34.red.length c58) (.slice A62 J34.marks.length c63) J34 C.w C.t C.o p ep R.g hv b41 vs) 185,Y (Ak (Ai .i64)) vs us] [Aa (Ak Ag) (.slice A1 C.J.us.length c2) C.J.us,Aa Af (.slice A6 C.J.map.length c7) C.J.map,Aa Af (.slice A11 C.J.comb.length c12) C.J.comb,Aa Af (.slice A16 C.J.red.length c17) C.J.red,Aa (Ai .i64) (.slice A21 C.J.marks.length c22) C.J.marks,Aa Bl (.slice A26 recs.length c27) recs]:=H
    replace H:=H.p8.p8.p8.p8.p8.p8.p8.p8
    refine AH ⟨_,H⟩ (AL U (V U U (An U D_ U (H.cellI 10 U U)) (AH ⟨_,H⟩ (AL U ?_))))
    replace H:=H.pick 11 rfl|>.pick 10 rfl|>.pick 10 rfl|>.p2
    refine FO U U U D9 Ej U (by decide) U U H (by first |omega|(simp only [List.length_append,List.length_cons,List.length_nil];omega)) (fun v135 w H=>?_)
    replace H:=H.h1 (A:=Y (Ak (Ai .i64)) v135 (us++[((.slice A130 se77.length c131:Value),se77)]))|>.p8|>.p8|>.p8|>.p8|>.p8|>.p8|>.p8|>.p8
    refine AH ⟨_,H⟩ (Ap U U U (fun w ⟨Ar,H⟩=>AI U U) (Ap U U U (fun w ⟨Ar,H⟩=>Aj U Ff U) (AL U ?_)))
    obtain ⟨A136,c137,rfl,hc138,hm139,hp140⟩:=H.fA 8 rfl
    replace H:=H.p9
    refine Bk U U U D_ U U H U (Nat.le_of_ble_eq_true U) (fun u hu=>by simp [Value.cells] at hu;subst hu;rfl) (fun w H=>?_)
    replace H:Hd _ _ _ [blk b67 (AK (.slice A42 J34.us.length c43) (.slice A47 J34.map.length c48) (.slice A52 J34.comb.length c53) (.slice A57 J34.red.length c58) (.slice A62 J34.marks.length c63) J34 C.w C.t C.o p ep R.g hv b41 (.slice A136 ((us++[((.slice A130 se77.length c131:Value),se77)]).length) c137)) 185,blk b89 [.int .i64 a71,.int .i64 a72,.int .i64 a73,.int .i64 a74,.int .i64 a75,.slice A80 se77.length c81,.slice A82 pr79.length c83] 37,Y (Ak Ag) (.slice A42 J34.us.length c43) J34.us,Y Af (.slice A47 J34.map.length c48) J34.map,Y Af (.slice A52 J34.comb.length c53) J34.comb,Y Af (.slice A57 J34.red.length c58) J34.red,Y (Ai .i64) (.slice A62 J34.marks.length c63) J34.marks,AT (R.g) hv,AS 253 b41 ([]),Y (Ak (Ai .i64)) (.slice A136 ((us++[((.slice A130 se77.length c131:Value),se77)]).length) c137) (us++[((.slice A130 se77.length c131:Value),se77)])] [Aa (Ak Ag) (.slice A1 C.J.us.length c2) C.J.us,Aa Af (.slice A6 C.J.map.length c7) C.J.map,Aa Af (.slice A11 C.J.comb.length c12) C.J.comb,Aa Af (.slice A16 C.J.red.length c17) C.J.red,Aa (Ai .i64) (.slice A21 C.J.marks.length c22) C.J.marks,Aa Bl (.slice A26 recs.length c27) recs]:=H
    replace H:=H.p8.p8.p8.p8.p8.p8.p8.p8
    refine AH ⟨_,H⟩ (BL (A8 (Z (Ae (V U U (A9 (z:=((k+1:Nat):Int)) U U U (by rw [AF (by omega) (by omega)];omega)) (Ad U (Ac ?_)))))))
    have hpart:(AV.p (⟨a71,a72,a73,a74,a75,.slice A80 se77.length c81,se77,.slice A82 pr79.length c83,pr79⟩:AV)).part=R.part:=by rw [hRp];exact Classical.not_not.1 h90
    have hR2:=Fx hR hx70 (Ix hpart h102)
    replace H:=H.p7.p9.p8.p8.p8.p8.p8.p8.p9.k9.h7 (A:=blk b67 (AK (.slice A42 J34.us.length c43) (.slice A47 J34.map.length c48) (.slice A52 J34.comb.length c53) (.slice A57 J34.red.length c58) (.slice A62 J34.marks.length c63) J34 C.w C.t C.o p ep (({ R with sets:=R.sets++[se77] }:AD).g) hv b41 (.slice A136 ((us++[((.slice A130 se77.length c131:Value),se77)]).length) c137)) 185) (G:=AT (({ R with sets:=R.sets++[se77] }:AD).g) hv)
    exact Bm (s:=(k,R,hv,undef,us)) (k+1,({ R with sets:=R.sets++[se77] }:AD),hv,.slice A136 ((us++[((.slice A130 se77.length c131:Value),se77)]).length) c137,us++[((.slice A130 se77.length c131:Value),se77)]) ⟨rfl,rfl,rfl,rfl,rfl,rfl,rfl,trivial⟩ ⟨H,hR2,hRp,by (try dsimp only);rw [List.map_append,hus];rfl,by (try dsimp only);omega,by (try dsimp only);rw [List.length_append];simp only [List.length_cons,List.length_nil];omega⟩ (by (try dsimp only);omega)
   refine Av (A8 (Z (Ae (V U U (A9 (z:=((k+1:Nat):Int)) U U U (by rw [AF (by omega) (by omega)];omega)) (Ad U (Ac ?_))))))
   have hpart:(AV.p (⟨a71,a72,a73,a74,a75,.slice A80 se77.length c81,se77,.slice A82 pr79.length c83,pr79⟩:AV)).part=R.part:=by rw [hRp];exact Classical.not_not.1 h90
   have hR2:=Fx hR hx70 (Kn hpart (fun h=>h92 h.1) h102)
   replace H:=H.p9.p9.p9.p9.p9.p9.p9.p9.p9.k9
   exact Bm (s:=(k,R,hv,undef,us)) (k+1,R,hv,vs,us) ⟨rfl,rfl,rfl,rfl,rfl,rfl,rfl,trivial⟩ ⟨H,hR2,hRp,by (try dsimp only);exact hus,by (try dsimp only);omega,by (try dsimp only);omega⟩ (by (try dsimp only);omega)
  refine Ae (Ad U (V U U (Aj U Ol U) (V U U (An U AE U (H.cellI 0 U U)) (sc (KO b67 A42 J34.us.length c43 (.slice A47 J34.map.length c48) (.slice A52 J34.comb.length c53) (.slice A57 J34.red.length c58) (.slice A62 J34.marks.length c63) J34 C.w C.t C.o p ep R.g hv b41 vs a73 (by first |assumption|omega)) H (lA 1 U (fun _ h=>h) l0) U U (At Ig U U) ?_))))
  rintro _ _ w ⟨rfl,rfl⟩ H
  refine Ad U (Ac (Z (Ab (Ae (V U U (Aj U HA U) (V U U (An U AE U (H.cellI 0 U U)) (V U U (Bp U U U) (Ad U ?_))))))))
  refine AQ (d:=46) U (fun h141=>?_) (fun h141=>?_)
  ·refine Ad U (V U U (Qf U IL U U) (Ah 8 U (Ac (Z (Cb U (Av (Z (Ab (Ae (V U U (Aj U HA U) (V U U (An U AE U (H.cellI 0 U U)) (V U U (Bp U U U) (Ac (Z ?_))))))))))))))
   refine Ay U (fun h142=>?_) (fun h142=>?_)
   ·exfalso;omega
   refine Av (A8 (Z (Ae (V U U (A9 (z:=((k+1:Nat):Int)) U U U (by rw [AF (by omega) (by omega)];omega)) (Ad U (Ac ?_))))))
   have hpart:(AV.p (⟨a71,a72,a73,a74,a75,.slice A80 se77.length c81,se77,.slice A82 pr79.length c83,pr79⟩:AV)).part=R.part:=by rw [hRp];exact Classical.not_not.1 h90
   have hR2:=Fx hR hx70 (Kn hpart (fun h=>hin91 h.2.1) h142)
   replace H:=H.p9.p9.p9.p9.p9.p9.p9.p9.p9.k9
   exact Bm (s:=(k,R,hv,undef,us)) (k+1,R,hv,vs,us) ⟨rfl,rfl,rfl,rfl,rfl,rfl,rfl,trivial⟩ ⟨H,hR2,hRp,by (try dsimp only);exact hus,by (try dsimp only);omega,by (try dsimp only);omega⟩ (by (try dsimp only);omega)
  refine Ah 10 U (Ac (Z (Cb U (Av (Z (Ab (Ae (V U U (Aj U HA U) (V U U (An U AE U (H.cellI 0 U U)) (V U U (Bp U U U) (Ac (Z ?_))))))))))))
  refine Ay U (fun h143=>?_) (fun h143=>?_)
  ·replace H:=H.p9.p8.p8.p8.p8.p8.p8.p7
   refine BX (.e 0 (.e 1 (.e 2 (.e 3 (.e 5 (.e 6 (.b 4 7 (.m 7 (.m 8 (.m 9 (.e 10 (.e 11 (.m 12 .z)))))) (.b 4 8 (.m 8 (.m 9 (.e 10 (.e 11 (.m 12 .z))))) (.m 4 (.m 9 (.e 10 (.e 11 (.m 12 .z))))))))))))) (fun w=>∃ Ar,Hd w0 F0 w (blk b89 [.int .i64 a71,.int .i64 a72,.int .i64 a73,.int .i64 a74,.int .i64 a75,.slice A80 se77.length c81,.slice A82 pr79.length c83] 37::Y (Ak Ag) (.slice A42 J34.us.length c43) J34.us::Y Af (.slice A47 J34.map.length c48) J34.map::Y Af (.slice A52 J34.comb.length c53) J34.comb::Y Af (.slice A57 J34.red.length c58) J34.red::Y (Ai .i64) (.slice A62 J34.marks.length c63) J34.marks::AT (R.g) hv::AS 253 b41 ([])::Ar) [Aa (Ak Ag) (.slice A1 C.J.us.length c2) C.J.us,Aa Af (.slice A6 C.J.map.length c7) C.J.map,Aa Af (.slice A11 C.J.comb.length c12) C.J.comb,Aa Af (.slice A16 C.J.red.length c17) C.J.red,Aa (Ai .i64) (.slice A21 C.J.marks.length c22) C.J.marks,Aa Bl (.slice A26 recs.length c27) recs]) mo (by kernel_rfl) (fun w H=>⟨_,H⟩) H (fun w H=>?_)
   refine Ax U (Ax U (Ap U U U (fun w ⟨Ar,H⟩=>AI U U) (Ap U U U (fun w ⟨Ar,H⟩=>Aj U Ff U) (Ap U U U (fun w ⟨Ar,H⟩=>Aj U Om U) (Ap U U U (fun w ⟨Ar,H⟩=>An U Gd U (H.cellI 0 U U)) ?_)))))
   refine Hv U U ?_ ?_
   ·refine V U U (An U D_ U (H.cellI 8 U U)) (AH ⟨_,H⟩ (AL U (sc (GR (.slice A80 se77.length c81) se77 (by first |assumption|omega)) H (lX (fun F hA hR=>Jm (hR _ (List.mem_of_getElem? (i:=5) U)) hx70) l0) U U (At G3 U U) ?_)))
    rintro v144 _ w rfl H
    replace H:=H.h1 (A:=Y (Ai .i64) v144 se77)|>.p8|>.p8|>.p8|>.p8|>.p8|>.p8|>.p8|>.p8
    refine AH ⟨_,H⟩ (AL U ?_)
    obtain ⟨A146,c147,rfl,hc148,hm149,hp150⟩:=H.fA 8 rfl
    refine BT (parts:=[(0,.tmp 76)]) (vs:=[.slice A146 se77.length c147]) (cs:=[.slice A146 se77.length c147]) U U U D9 Ej U (by decide) (by decide) U U H (fun b145 w H=>?_)
    replace H:Hd _ _ _ [blk b145 [.slice A146 se77.length c147] 24,blk b89 [.int .i64 a71,.int .i64 a72,.int .i64 a73,.int .i64 a74,.int .i64 a75,.slice A80 se77.length c81,.slice A82 pr79.length c83] 37,Y (Ak Ag) (.slice A42 J34.us.length c43) J34.us,Y Af (.slice A47 J34.map.length c48) J34.map,Y Af (.slice A52 J34.comb.length c53) J34.comb,Y Af (.slice A57 J34.red.length c58) J34.red,Y (Ai .i64) (.slice A62 J34.marks.length c63) J34.marks,AT (R.g) hv,AS 253 b41 ([]),Y (Ai .i64) (.slice A146 se77.length c147) se77,blk b67 (AK (.slice A42 J34.us.length c43) (.slice A47 J34.map.length c48) (.slice A52 J34.comb.length c53) (.slice A57 J34.red.length c58) (.slice A62 J34.marks.length c63) J34 C.w C.t C.o p ep R.g hv b41 vs) 185,Y (Ak (Ai .i64)) vs us] [Aa (Ak Ag) (.slice A1 C.J.us.length c2) C.J.us,Aa Af (.slice A6 C.J.map.length c7) C.J.map,Aa Af (.slice A11 C.J.comb.length c12) C.J.comb,Aa Af (.slice A16 C.J.red.length c17) C.J.red,Aa (Ai .i64) (.slice A21 C.J.marks.length c22) C.J.marks,Aa Bl (.slice A26 recs.length c27) recs]:=H
    replace H:=H.p8.p8.p8.p8.p8.p8.p8.p8
    refine AH ⟨_,H⟩ (AL U ?_)
    replace H:=H.pick 11 rfl|>.pick 10 rfl|>.pick 10 rfl|>.p2
    refine FO U U U D9 Ej U (by decide) U U H (by first |omega|(simp only [List.length_append,List.length_cons,List.length_nil];omega)) (fun v151 w H=>?_)
    replace H:=H.h1 (A:=Y (Ak (Ai .i64)) v151 (us++[((.slice A146 se77.length c147:Value),se77)]))|>.p8|>.p8|>.p8|>.p8|>.p8|>.p8|>.p8|>.p8
    refine AH ⟨_,H⟩ (Ap U U U (fun w ⟨Ar,H⟩=>AI U U) (Ap U U U (fun w ⟨Ar,H⟩=>Aj U Ff U) (AL U ?_)))
    obtain ⟨A152,c153,rfl,hc154,hm155,hp156⟩:=H.fA 8 rfl
    replace H:=H.p9
    refine Bk U U U D_ U U H U (Nat.le_of_ble_eq_true U) (fun u hu=>by simp [Value.cells] at hu;subst hu;rfl) (fun w H=>?_)
    replace H:Hd _ _ _ [blk b67 (AK (.slice A42 J34.us.length c43) (.slice A47 J34.map.length c48) (.slice A52 J34.comb.length c53) (.slice A57 J34.red.length c58) (.slice A62 J34.marks.length c63) J34 C.w C.t C.o p ep R.g hv b41 (.slice A152 ((us++[((.slice A146 se77.length c147:Value),se77)]).length) c153)) 185,blk b89 [.int .i64 a71,.int .i64 a72,.int .i64 a73,.int .i64 a74,.int .i64 a75,.slice A80 se77.length c81,.slice A82 pr79.length c83] 37,Y (Ak Ag) (.slice A42 J34.us.length c43) J34.us,Y Af (.slice A47 J34.map.length c48) J34.map,Y Af (.slice A52 J34.comb.length c53) J34.comb,Y Af (.slice A57 J34.red.length c58) J34.red,Y (Ai .i64) (.slice A62 J34.marks.length c63) J34.marks,AT (R.g) hv,AS 253 b41 ([]),Y (Ak (Ai .i64)) (.slice A152 ((us++[((.slice A146 se77.length c147:Value),se77)]).length) c153) (us++[((.slice A146 se77.length c147:Value),se77)])] [Aa (Ak Ag) (.slice A1 C.J.us.length c2) C.J.us,Aa Af (.slice A6 C.J.map.length c7) C.J.map,Aa Af (.slice A11 C.J.comb.length c12) C.J.comb,Aa Af (.slice A16 C.J.red.length c17) C.J.red,Aa (Ai .i64) (.slice A21 C.J.marks.length c22) C.J.marks,Aa Bl (.slice A26 recs.length c27) recs]:=H
    replace H:=H.p8.p8.p8.p8.p8.p8.p8.p8
    refine AH ⟨_,H⟩ (BL (A8 (Z (Ae (V U U (A9 (z:=((k+1:Nat):Int)) U U U (by rw [AF (by omega) (by omega)];omega)) (Ad U (Ac ?_)))))))
    have hpart:(AV.p (⟨a71,a72,a73,a74,a75,.slice A80 se77.length c81,se77,.slice A82 pr79.length c83,pr79⟩:AV)).part=R.part:=by rw [hRp];exact Classical.not_not.1 h90
    have hR2:=Fx hR hx70 (Ix hpart h143)
    replace H:=H.p7.p9.p8.p8.p8.p8.p8.p8.p9.k9.h7 (A:=blk b67 (AK (.slice A42 J34.us.length c43) (.slice A47 J34.map.length c48) (.slice A52 J34.comb.length c53) (.slice A57 J34.red.length c58) (.slice A62 J34.marks.length c63) J34 C.w C.t C.o p ep (({ R with sets:=R.sets++[se77] }:AD).g) hv b41 (.slice A152 ((us++[((.slice A146 se77.length c147:Value),se77)]).length) c153)) 185) (G:=AT (({ R with sets:=R.sets++[se77] }:AD).g) hv)
    exact Bm (s:=(k,R,hv,undef,us)) (k+1,({ R with sets:=R.sets++[se77] }:AD),hv,.slice A152 ((us++[((.slice A146 se77.length c147:Value),se77)]).length) c153,us++[((.slice A146 se77.length c147:Value),se77)]) ⟨rfl,rfl,rfl,rfl,rfl,rfl,rfl,trivial⟩ ⟨H,hR2,hRp,by (try dsimp only);rw [List.map_append,hus];rfl,by (try dsimp only);omega,by (try dsimp only);rw [List.length_append];simp only [List.length_cons,List.length_nil];omega⟩ (by (try dsimp only);omega)
   refine sc (GR (.slice A80 se77.length c81) se77 (by first |assumption|omega)) H (lX (fun F hA hR=>Jm (hR _ (List.mem_of_getElem? (i:=5) U)) hx70) l0) U U (At G3 U U) ?_
   rintro v157 _ w rfl H
   replace H:=H.h1 (A:=Y (Ai .i64) v157 se77)|>.p8|>.p8|>.p8|>.p8|>.p8|>.p8|>.p8|>.p8
   refine AH ⟨_,H⟩ ?_
   refine Hv U U ?_ ?_
   ·refine V U U (An U D_ U (H.cellI 9 U U)) (AH ⟨_,H⟩ (AL U ?_))
    obtain ⟨A159,c160,rfl,hc161,hm162,hp163⟩:=H.fA 8 rfl
    refine BT (parts:=[(0,.tmp 76)]) (vs:=[.slice A159 se77.length c160]) (cs:=[.slice A159 se77.length c160]) U U U D9 Ej U (by decide) (by decide) U U H (fun b158 w H=>?_)
    replace H:Hd _ _ _ [blk b158 [.slice A159 se77.length c160] 24,blk b89 [.int .i64 a71,.int .i64 a72,.int .i64 a73,.int .i64 a74,.int .i64 a75,.slice A80 se77.length c81,.slice A82 pr79.length c83] 37,Y (Ak Ag) (.slice A42 J34.us.length c43) J34.us,Y Af (.slice A47 J34.map.length c48) J34.map,Y Af (.slice A52 J34.comb.length c53) J34.comb,Y Af (.slice A57 J34.red.length c58) J34.red,Y (Ai .i64) (.slice A62 J34.marks.length c63) J34.marks,AT (R.g) hv,AS 253 b41 ([]),Y (Ai .i64) (.slice A159 se77.length c160) se77,blk b67 (AK (.slice A42 J34.us.length c43) (.slice A47 J34.map.length c48) (.slice A52 J34.comb.length c53) (.slice A57 J34.red.length c58) (.slice A62 J34.marks.length c63) J34 C.w C.t C.o p ep R.g hv b41 vs) 185,Y (Ak (Ai .i64)) vs us] [Aa (Ak Ag) (.slice A1 C.J.us.length c2) C.J.us,Aa Af (.slice A6 C.J.map.length c7) C.J.map,Aa Af (.slice A11 C.J.comb.length c12) C.J.comb,Aa Af (.slice A16 C.J.red.length c17) C.J.red,Aa (Ai .i64) (.slice A21 C.J.marks.length c22) C.J.marks,Aa Bl (.slice A26 recs.length c27) recs]:=H
    replace H:=H.p8.p8.p8.p8.p8.p8.p8.p8
    refine AH ⟨_,H⟩ (AL U ?_)
    replace H:=H.pick 11 rfl|>.pick 10 rfl|>.pick 10 rfl|>.p2
    refine FO U U U D9 Ej U (by decide) U U H (by first |omega|(simp only [List.length_append,List.length_cons,List.length_nil];omega)) (fun v164 w H=>?_)
    replace H:=H.h1 (A:=Y (Ak (Ai .i64)) v164 (us++[((.slice A159 se77.length c160:Value),se77)]))|>.p8|>.p8|>.p8|>.p8|>.p8|>.p8|>.p8|>.p8
    refine AH ⟨_,H⟩ (Ap U U U (fun w ⟨Ar,H⟩=>AI U U) (Ap U U U (fun w ⟨Ar,H⟩=>Aj U Ff U) (AL U ?_)))
    obtain ⟨A165,c166,rfl,hc167,hm168,hp169⟩:=H.fA 8 rfl
    replace H:=H.p9
    refine Bk U U U D_ U U H U (Nat.le_of_ble_eq_true U) (fun u hu=>by simp [Value.cells] at hu;subst hu;rfl) (fun w H=>?_)
    replace H:Hd _ _ _ [blk b67 (AK (.slice A42 J34.us.length c43) (.slice A47 J34.map.length c48) (.slice A52 J34.comb.length c53) (.slice A57 J34.red.length c58) (.slice A62 J34.marks.length c63) J34 C.w C.t C.o p ep R.g hv b41 (.slice A165 ((us++[((.slice A159 se77.length c160:Value),se77)]).length) c166)) 185,blk b89 [.int .i64 a71,.int .i64 a72,.int .i64 a73,.int .i64 a74,.int .i64 a75,.slice A80 se77.length c81,.slice A82 pr79.length c83] 37,Y (Ak Ag) (.slice A42 J34.us.length c43) J34.us,Y Af (.slice A47 J34.map.length c48) J34.map,Y Af (.slice A52 J34.comb.length c53) J34.comb,Y Af (.slice A57 J34.red.length c58) J34.red,Y (Ai .i64) (.slice A62 J34.marks.length c63) J34.marks,AT (R.g) hv,AS 253 b41 ([]),Y (Ak (Ai .i64)) (.slice A165 ((us++[((.slice A159 se77.length c160:Value),se77)]).length) c166) (us++[((.slice A159 se77.length c160:Value),se77)])] [Aa (Ak Ag) (.slice A1 C.J.us.length c2) C.J.us,Aa Af (.slice A6 C.J.map.length c7) C.J.map,Aa Af (.slice A11 C.J.comb.length c12) C.J.comb,Aa Af (.slice A16 C.J.red.length c17) C.J.red,Aa (Ai .i64) (.slice A21 C.J.marks.length c22) C.J.marks,Aa Bl (.slice A26 recs.length c27) recs]:=H
    replace H:=H.p8.p8.p8.p8.p8.p8.p8.p8
    refine AH ⟨_,H⟩ (BL (A8 (Z (Ae (V U U (A9 (z:=((k+1:Nat):Int)) U U U (by rw [AF (by omega) (by omega)];omega)) (Ad U (Ac ?_)))))))
    have hpart:(AV.p (⟨a71,a72,a73,a74,a75,.slice A80 se77.length c81,se77,.slice A82 pr79.length c83,pr79⟩:AV)).part=R.part:=by rw [hRp];exact Classical.not_not.1 h90
    have hR2:=Fx hR hx70 (Ix hpart h143)
    replace H:=H.p7.p9.p8.p8.p8.p8.p8.p8.p9.k9.h7 (A:=blk b67 (AK (.slice A42 J34.us.length c43) (.slice A47 J34.map.length c48) (.slice A52 J34.comb.length c53) (.slice A57 J34.red.length c58) (.slice A62 J34.marks.length c63) J34 C.w C.t C.o p ep (({ R with sets:=R.sets++[se77] }:AD).g) hv b41 (.slice A165 ((us++[((.slice A159 se77.length c160:Value),se77)]).length) c166)) 185) (G:=AT (({ R with sets:=R.sets++[se77] }:AD).g) hv)
    exact Bm (s:=(k,R,hv,undef,us)) (k+1,({ R with sets:=R.sets++[se77] }:AD),hv,.slice A165 ((us++[((.slice A159 se77.length c160:Value),se77)]).length) c166,us++[((.slice A159 se77.length c160:Value),se77)]) ⟨rfl,rfl,rfl,rfl,rfl,rfl,rfl,trivial⟩ ⟨H,hR2,hRp,by (try dsimp only);rw [List.map_append,hus];rfl,by (try dsimp only);omega,by (try dsimp only);rw [List.length_append];simp only [List.length_cons,List.length_nil];omega⟩ (by (try dsimp only);omega)
   obtain ⟨A171,c172,rfl,hc173,hm174,hp175⟩:=H.fA 8 rfl
   refine BT (parts:=[(0,.tmp 76)]) (vs:=[.slice A171 se77.length c172]) (cs:=[.slice A171 se77.length c172]) U U U D9 Ej U (by decide) (by decide) U U H (fun b170 w H=>?_)
   replace H:Hd _ _ _ [blk b170 [.slice A171 se77.length c172] 24,blk b89 [.int .i64 a71,.int .i64 a72,.int .i64 a73,.int .i64 a74,.int .i64 a75,.slice A80 se77.length c81,.slice A82 pr79.length c83] 37,Y (Ak Ag) (.slice A42 J34.us.length c43) J34.us,Y Af (.slice A47 J34.map.length c48) J34.map,Y Af (.slice A52 J34.comb.length c53) J34.comb,Y Af (.slice A57 J34.red.length c58) J34.red,Y (Ai .i64) (.slice A62 J34.marks.length c63) J34.marks,AT (R.g) hv,AS 253 b41 ([]),Y (Ai .i64) (.slice A171 se77.length c172) se77,blk b67 (AK (.slice A42 J34.us.length c43) (.slice A47 J34.map.length c48) (.slice A52 J34.comb.length c53) (.slice A57 J34.red.length c58) (.slice A62 J34.marks.length c63) J34 C.w C.t C.o p ep R.g hv b41 vs) 185,Y (Ak (Ai .i64)) vs us] [Aa (Ak Ag) (.slice A1 C.J.us.length c2) C.J.us,Aa Af (.slice A6 C.J.map.length c7) C.J.map,Aa Af (.slice A11 C.J.comb.length c12) C.J.comb,Aa Af (.slice A16 C.J.red.length c17) C.J.red,Aa (Ai .i64) (.slice A21 C.J.marks.length c22) C.J.marks,Aa Bl (.slice A26 recs.length c27) recs]:=H
   replace H:=H.p8.p8.p8.p8.p8.p8.p8.p8
   refine AH ⟨_,H⟩ (AL U (V U U (An U D_ U (H.cellI 10 U U)) (AH ⟨_,H⟩ (AL U ?_))))
   replace H:=H.pick 11 rfl|>.pick 10 rfl|>.pick 10 rfl|>.p2
   refine FO U U U D9 Ej U (by decide) U U H (by first |omega|(simp only [List.length_append,List.length_cons,List.length_nil];omega)) (fun v176 w H=>?_)
   replace H:=H.h1 (A:=Y (Ak (Ai .i64)) v176 (us++[((.slice A171 se77.length c172:Value),se77)]))|>.p8|>.p8|>.p8|>.p8|>.p8|>.p8|>.p8|>.p8
   refine AH ⟨_,H⟩ (Ap U U U (fun w ⟨Ar,H⟩=>AI U U) (Ap U U U (fun w ⟨Ar,H⟩=>Aj U Ff U) (AL U ?_)))
   obtain ⟨A177,c178,rfl,hc179,hm180,hp181⟩:=H.fA 8 rfl
   replace H:=H.p9
   refine Bk U U U D_ U U H U (Nat.le_of_ble_eq_true U) (fun u hu=>by simp [Value.cells] at hu;subst hu;rfl) (fun w H=>?_)
   replace H:Hd _ _ _ [blk b67 (AK (.slice A42 J34.us.length c43) (.slice A47 J34.map.length c48) (.slice A52 J34.comb.length c53) (.slice A57 J34.red.length c58) (.slice A62 J34.marks.length c63) J34 C.w C.t C.o p ep R.g hv b41 (.slice A177 ((us++[((.slice A171 se77.length c172:Value),se77)]).length) c178)) 185,blk b89 [.int .i64 a71,.int .i64 a72,.int .i64 a73,.int .i64 a74,.int .i64 a75,.slice A80 se77.length c81,.slice A82 pr79.length c83] 37,Y (Ak Ag) (.slice A42 J34.us.length c43) J34.us,Y Af (.slice A47 J34.map.length c48) J34.map,Y Af (.slice A52 J34.comb.length c53) J34.comb,Y Af (.slice A57 J34.red.length c58) J34.red,Y (Ai .i64) (.slice A62 J34.marks.length c63) J34.marks,AT (R.g) hv,AS 253 b41 ([]),Y (Ak (Ai .i64)) (.slice A177 ((us++[((.slice A171 se77.length c172:Value),se77)]).length) c178) (us++[((.slice A171 se77.length c172:Value),se77)])] [Aa (Ak Ag) (.slice A1 C.J.us.length c2) C.J.us,Aa Af (.slice A6 C.J.map.length c7) C.J.map,Aa Af (.slice A11 C.J.comb.length c12) C.J.comb,Aa Af (.slice A16 C.J.red.length c17) C.J.red,Aa (Ai .i64) (.slice A21 C.J.marks.length c22) C.J.marks,Aa Bl (.slice A26 recs.length c27) recs]:=H
   replace H:=H.p8.p8.p8.p8.p8.p8.p8.p8
   refine AH ⟨_,H⟩ (BL (A8 (Z (Ae (V U U (A9 (z:=((k+1:Nat):Int)) U U U (by rw [AF (by omega) (by omega)];omega)) (Ad U (Ac ?_)))))))
   have hpart:(AV.p (⟨a71,a72,a73,a74,a75,.slice A80 se77.length c81,se77,.slice A82 pr79.length c83,pr79⟩:AV)).part=R.part:=by rw [hRp];exact Classical.not_not.1 h90
   have hR2:=Fx hR hx70 (Ix hpart h143)
   replace H:=H.p7.p9.p8.p8.p8.p8.p8.p8.p9.k9.h7 (A:=blk b67 (AK (.slice A42 J34.us.length c43) (.slice A47 J34.map.length c48) (.slice A52 J34.comb.length c53) (.slice A57 J34.red.length c58) (.slice A62 J34.marks.length c63) J34 C.w C.t C.o p ep (({ R with sets:=R.sets++[se77] }:AD).g) hv b41 (.slice A177 ((us++[((.slice A171 se77.length c172:Value),se77)]).length) c178)) 185) (G:=AT (({ R with sets:=R.sets++[se77] }:AD).g) hv)
   exact Bm (s:=(k,R,hv,undef,us)) (k+1,({ R with sets:=R.sets++[se77] }:AD),hv,.slice A177 ((us++[((.slice A171 se77.length c172:Value),se77)]).length) c178,us++[((.slice A171 se77.length c172:Value),se77)]) ⟨rfl,rfl,rfl,rfl,rfl,rfl,rfl,trivial⟩ ⟨H,hR2,hRp,by (try dsimp only);rw [List.map_append,hus];rfl,by (try dsimp only);omega,by (try dsimp only);rw [List.length_append];simp only [List.length_cons,List.length_nil];omega⟩ (by (try dsimp only);omega)
  refine Av (A8 (Z (Ae (V U U (A9 (z:=((k+1:Nat):Int)) U U U (by rw [AF (by omega) (by omega)];omega)) (Ad U (Ac ?_))))))
  have hpart:(AV.p (⟨a71,a72,a73,a74,a75,.slice A80 se77.length c81,se77,.slice A82 pr79.length c83,pr79⟩:AV)).part=R.part:=by rw [hRp];exact Classical.not_not.1 h90
  have hR2:=Fx hR hx70 (Kn hpart (fun h=>h141 h.1) h143)
  replace H:=H.p9.p9.p9.p9.p9.p9.p9.p9.p9.k9
  exact Bm (s:=(k,R,hv,undef,us)) (k+1,R,hv,vs,us) ⟨rfl,rfl,rfl,rfl,rfl,rfl,rfl,trivial⟩ ⟨H,hR2,hRp,by (try dsimp only);exact hus,by (try dsimp only);omega,by (try dsimp only);omega⟩ (by (try dsimp only);omega)
 refine BK (AR (AR (BN (Z (Ab (Ae (Ah 3 U (Ac (Z (Ao (Cv U U U ?_)))))))))))
 have hkk:R=CW J34.us.length p ep (recs.map AV.p):=by rw [hR,List.take_of_length_le (by omega)]
 clear hR
 subst hkk
 replace H:=H.h8 (A:=blk b67 (AK (.slice A42 J34.us.length c43) (.slice A47 J34.map.length c48) (.slice A52 J34.comb.length c53) (.slice A57 J34.red.length c58) (.slice A62 J34.marks.length c63) J34 C.w C.t C.o p ep ((CW J34.us.length p ep (recs.map AV.p)).g) hv b41 vs) 185) (G:=AT ((CW J34.us.length p ep (recs.map AV.p)).g) hv) (I:=Y (Ak (Ai .i64)) vs us)
 exact Am ⟨b67,(.slice A42 J34.us.length c43),(.slice A47 J34.map.length c48),(.slice A52 J34.comb.length c53),(.slice A57 J34.red.length c58),(.slice A62 J34.marks.length c63),J34,hv,b41,vs,us,rfl,rfl,hsj,hus⟩ H
section
variable {w:World} {F:AN}
end
theorem BJ.out {A B:AG} (h:BJ A B) (D:Bj) (R:AD):DY D A R=DY D B R:=by
 unfold DY D7
 rw [h.len,h.red,h.fuel]
theorem Dm {C:Cf} {p:Int} (hC:Ee C) (h0:0≤p) (h1:p<C.J.parts):If C p≠0:=by
 have e:If C p=1+p.tmod C.w:=if_neg (fun h=>h.elim (fun h=>h hC) (fun h=>by omega))
 have:=Int.tmod_nonneg C.w h0
 omega
theorem WN {P:Program} {t j i:TypeId}
  (hs:Gc P t=some [(j,0,9),(i,9,1),(i,10,1),(i,11,1)]) (hc:P.cellsOf t=12) (hi:P.underlying i=some (.int .i64))
  {H:Type} (enc:TypeId×Value→H) (w:World) (fuel:Nat) (cs:List Value) (x:DataW H×List MemPlace) (h:DataW.trod enc P w 0 (fun _=>true) true fuel t cs=some x):
  ∃ (js:List Value) (m:Nat) (y:DataW H×List MemPlace) (n1 n2 n3:Int),cs=js++[.int .i64 n1,.int .i64 n2,.int .i64 n3]∧DataW.trod enc P w 0 (fun _=>true) true m j js=some y∧js.length=9∧(AB n1∧AB n2∧AB n3):=by
 obtain ⟨hl,n,hf⟩:=Kg hs h
 rw [hc] at hl
 match cs,hl with
 |[c0,c1,c2,c3,c4,c5,c6,c7,c8,c9,c10,c11],_=>
  obtain ⟨y0,g0⟩:=hf 0 _ _ _ rfl
  obtain ⟨y1,g1⟩:=hf 1 _ _ _ rfl
  obtain ⟨y2,g2⟩:=hf 2 _ _ _ rfl
  obtain ⟨y3,g3⟩:=hf 3 _ _ _ rfl
  obtain ⟨a1,r1,w1⟩:=Fi hi enc w n _ _ g1
  obtain ⟨a2,r2,w2⟩:=Fi hi enc w n _ _ g2
  obtain ⟨a3,r3,w3⟩:=Fi hi enc w n _ _ g3
  have q1:[c9]=[Value.int .i64 a1]:=r1
  have q2:[c10]=[Value.int .i64 a2]:=r2
  have q3:[c11]=[Value.int .i64 a3]:=r3
  simp only [List.cons.injEq,and_true] at q1 q2 q3
  subst q1 q2 q3
  exact ⟨[c0,c1,c2,c3,c4,c5,c6,c7,c8],n,y0,a1,a2,a3,rfl,g0,rfl,w1,w2,w3⟩
theorem YK (v1 v2:Value) (xs ys:List Int):
    Cn Tryz.prog 33 [v1,v2] [] [Aa (Ai .i64) v1 xs,Aa (Ai .i64) v2 ys] (fun v Bs=>v=.bool (decide (xs=ys))∧Bs=[]):=by
 intro w0 F0 H
 obtain ⟨A1,c2,rfl,hc3,hm4,hp5⟩:=H.fR 0 rfl
 obtain ⟨A6,c7,rfl,hc8,hm9,hp10⟩:=H.fR 1 rfl
 refine enter Tryz.func33 U U (Nat.le_of_ble_eq_true U) (Ab (Ae (Ad U (Ac (Z ?_)))))
 replace H:Hd _ _ _ [] [Aa (Ai .i64) (.slice A1 xs.length c2) xs,Aa (Ai .i64) (.slice A6 ys.length c7) ys]:=H
 refine Ab (Ab (Ae (Ad U (V U U (A0 U Ec U) (Ad U (V U U (A0 U Ec U) (V U U (C8 U U U) (Ac (Z ?_)))))))))
 refine Ay U (fun h11=>?_) (fun h11=>?_)
 ·refine Ab (Ae (Ad U (Ac (Z (Ao (Az (Aq U U ?_)))))))
  have e:¬ xs=ys:=fun e=>h11 (by rw [e])
  exact Am ⟨by rw [decide_eq_false e]<;>rfl,rfl⟩ H
 refine Av (Z (Ab (Ab (Ae (Ad U (Ac (Z (AU ?_))))))))
 have hle:xs.length=ys.length:=by omega
 refine BV (σ:=Nat) (fun k=>[(0,.slice A1 xs.length c2),(1,.slice A6 ys.length c7),(5,.int .i64 ((k:Nat):Int))]) (fun k w=>(Hd w0 F0 w [] [Aa (Ai .i64) (.slice A1 xs.length c2) xs,Aa (Ai .i64) (.slice A6 ys.length c7) ys])∧(k≤xs.length)∧(xs.length=ys.length)∧(xs.take k=ys.take k)) (fun k=>xs.length - k) 0 ⟨rfl,rfl,rfl,trivial⟩ ⟨H,by omega,hle,rfl⟩ ?_
 rintro k w ⟨H,hk,hle,ht⟩
 refine Ab (Ab (Ae (Ah 2 U (V U U (A0 U Ec U) (V U U (Bg U U U) (Ac (Z ?_)))))))
 refine Ay U (fun h12=>?_) (fun h12=>?_)
 ·refine Av (Z (Ab (AU (Ab (Gk mo (by kernel_rfl) H (GI 2 U ?_))))))
  obtain ⟨x13,hx14⟩:∃ z9,xs[k]?=some z9:=⟨_,List.getElem?_eq_getElem (show k<xs.length by omega)⟩
  have th15:=H.thR 0 rfl hx14
  refine BG U U (fun w H=>Bf (p:=AX A1+k*1) U DP U U (by omega) (by omega) th15 U) (BG U U (fun w H=>An U AE U (H.elR 0 U hx14 (q:=0) U U)) (GI 2 U ?_))
  obtain ⟨x16,hx17⟩:∃ z9,ys[k]?=some z9:=⟨_,List.getElem?_eq_getElem (show k<ys.length by omega)⟩
  have th18:=H.thR 1 rfl hx17
  refine BG U U (fun w H=>Bf (p:=AX A6+k*1) U DP U U (by omega) (by omega) th18 U) (BG U U (fun w H=>An U AE U (H.elR 1 U hx17 (q:=0) U U)) (BG U U (fun w H=>C8 U U U) (Ge (fun w H=>(Z ?_)))))
  refine Ay U (fun h19=>?_) (fun h19=>?_)
  ·refine Ab (Ae (Ad U (Ac (Z (Ao (A_ (Az (Az (A_ (Az (Aq U U ?_)))))))))))
   have e:¬ xs=ys:=fun e=>h19 (by rw [e,hx17] at hx14;exact (Option.some.inj hx14).symm)
   exact Am ⟨by rw [decide_eq_false e]<;>rfl,rfl⟩ H
  refine Av (A8 (Z (Ae (Ad U (V U U (A9 (z:=((k+1:Nat):Int)) U U U (by rw [AF (by omega) (by omega)];omega)) (Ad U (Ac ?_)))))))
  have e:x13=x16:=Classical.not_not.1 h19
  subst e
  exact Bm (s:=k) (k+1) ⟨rfl,rfl,rfl,trivial⟩ ⟨H,by omega,hle,Q_ hx14 hx17 ht⟩ (by (try dsimp only);omega)
 refine BK (AR (AR (BN (Z (Ab (Ae (Ad U (Ac (Z (Ao (Aq U U ?_)))))))))))
 have e:xs=ys:=by rw [←HI (xs:=xs) (k:=k) (by omega),←HI (xs:=ys) (k:=k) (by omega)];exact ht
 exact Am ⟨by rw [decide_eq_true e]<;>rfl,rfl⟩ H
theorem LX (x:Int) (n:Int) (hx:AB x) (h0:0<n) (hn:n≤9223372036854775807):
    Cn Tryz.prog 22 [.int .i64 x,.int .i64 n] [] [] (fun v Bs=>v=.int .i64 (IntKind.u64.wrap x%n)∧Bs=[]):=by
 intro w0 F0 H
 exact enter Tryz.func22 U U (Nat.le_of_ble_eq_true U) (Ab (Ae (Ad U (Ac (Z (Ab (Ae (Ad U (V U U (DA (z:=IntKind.u64.wrap x) U U Dj E8 U) (Ad U (V U U (DA (z:=n) U U Dj E8 (Fo (by omega) (by omega))) (V U U (Kl (z:=(IntKind.u64.wrap x)%n) U U U (by omega) (Int.tmod_eq_emod_of_nonneg (Z3 x).1)) (V U U (DA (z:=(IntKind.u64.wrap x)%n) U U E8 Dj (AF (by have:=Int.emod_nonneg (IntKind.u64.wrap x) (show n≠0 by omega);omega) (by have:=Int.emod_lt_of_pos (IntKind.u64.wrap x) h0;omega))) (Ad U (Ac (Z (Ao (Aq U U (Am ⟨rfl,rfl⟩ H)))))))))))))))))))
def Jl (r:AV):SP:=CN [Y (Ai .i64) r.sv r.set,Y Ag r.pv r.pairs]
def ED (us:List AV):SP:=Bb Jl us
section
variable {w0 w:World} {F F0:AN} {As Rs:List SP} {v:Value} {us:List AV}
theorem X1 {r:AV} (h:(Jl r).P w F):GU r=FF (En r):=by
 obtain ⟨F1,F2,_,_,_,a,F3,F4,_,_,_,b,_⟩:=h
 obtain ⟨A1,c1,e1,_⟩:=EU (BS _ a)
 obtain ⟨A2,c2,e2,_⟩:=EU (BS _ b)
 simp [GU,FF,En,Fw,e1,e2]
theorem X0 {r:AV} (h:(Jl r).P w F):Bl.O w F r (FF (En r)):=by
 have e:=X1 h
 obtain ⟨F1,F2,h1,h2,h3,a,F3,F4,g1,g2,g3,b,_⟩:=h
 exact ⟨e.symm,F1,F3,h1,fun k hk=>h2 k (g1 k hk),fun k hk hk2=>h3 k hk (g1 k hk2),a,b⟩
theorem Qy:∀ {us:List AV} {F:AN},(ED us).P w F→Cx Bl w F us ((us.map En).flatMap FF)
 |[],_,_=>rfl
 |u::us,F,⟨F1,F2,h1,h2,h3,a,s⟩=>⟨F1,F2,FF (En u),(us.map En).flatMap FF,h1,h2,h3,rfl,X0 a,Qy (us:=us) s⟩
theorem Hd.recI (H:Hd w0 F0 w (Y EQ v (us.map En)::ED us::As) Rs):Hd w0 F0 w (Y Bl v us::As) Rs:=by
 refine H.turn2 fun F1 F2 hd h1 h2=>?_
 obtain ⟨A,n,c,e,hl,cs,G1,G2,s1,s2,dj,row,reps⟩:=h1
 have hcs:cs=(us.map En).flatMap FF:=AY.flat_eq.1 reps.toR
 subst hcs
 exact ⟨A,n,c,e,by simpa using hl,_,G1,F2,fun k hk=>.inl (s1 k hk),fun k hk=>.inr hk,fun k hk hg=>hd k (s1 k hk) hg,row,Qy h2⟩
theorem Hd.recN {r:AV} (H:Hd w0 F0 w (Y (Ai .i64) r.sv r.set::Y Ag r.pv r.pairs::ED us::As) Rs):Hd w0 F0 w (ED (us++[r])::As) Rs:=
 Hd.bigN (f:=Jl) (x:=r) (Hd.stI (Bs:=[Y (Ai .i64) r.sv r.set,Y Ag r.pv r.pairs]) H)
theorem Hd.rec0 (H:Hd w0 F0 w As Rs):Hd w0 F0 w (ED []::As) Rs:=H.big0 Jl
end
structure FV (α:Type) where
 sz:Nat
 enc:α→Value→Value→List Value
 len:∀ a s p,(enc a s p).length=sz
 one:∀ a s p,∀ c∈enc a s p,c=s∨c=p∨c.oneCell'=true
 pos:0<sz
structure Dx (α:Type) where
 h:α
 sv:Value
 set:List Int
 pv:Value
 pairs:List Al
structure IV (α:Type) where
 h:α
 hs:EH
 hp:EH
section
variable {α:Type}
def FV.e (S:FV α) (x:Dx α):List Value:=S.enc x.h x.sv x.pv
def FV.f (S:FV α) (x:IV α):List Value:=S.enc x.h (.slice x.hs.A x.hs.n x.hs.c) (.slice x.hp.A x.hp.n x.hp.c)
def J1 (S:FV α):Kd (Dx α) where
 sz:=S.sz
 O w F x cs:=cs=S.e x∧∃ F1 F2:AN,(∀ k,F1 k→F k)∧(∀ k,F2 k→F k)∧(∀ k,F1 k→¬ F2 k)∧(Bq (Ai .i64)).O w F1 x.set [x.sv]∧(Bq Ag).O w F2 x.pairs [x.pv]
 R w F x cs:=cs=S.e x∧(Bq (Ai .i64)).R w F x.set [x.sv]∧(Bq Ag).R w F x.pairs [x.pv]
 O_loc:=fun ⟨e,F1,F2,s1,s2,dj,h1,h2⟩ hk=>⟨e,F1,F2,s1,s2,dj,(Bq _).O_loc h1 (fun k x=>hk k (s1 k x)),(Bq _).O_loc h2 (fun k x=>hk k (s2 k x))⟩
 O_mono:=fun ⟨e,F1,F2,s1,s2,dj,h1,h2⟩ hk=>⟨e,F1,F2,fun k x=>hk k (s1 k x),fun k x=>hk k (s2 k x),dj,h1,h2⟩
 R_loc:=fun ⟨e,h1,h2⟩ hk=>⟨e,(Bq _).R_loc h1 hk,(Bq _).R_loc h2 hk⟩
 R_mono:=fun ⟨e,h1,h2⟩ hk=>⟨e,(Bq _).R_mono h1 hk,(Bq _).R_mono h2 hk⟩
 O_R:=fun ⟨e,F1,F2,s1,s2,dj,h1,h2⟩=>⟨e,(Bq _).R_mono ((Bq _).O_R h1) s1,(Bq _).R_mono ((Bq _).O_R h2) s2⟩
 len h:=by rw [h.1];exact S.len _ _ _
 one:=fun ⟨e,h1,h2⟩ c hc=>by
  have g1:=(Bq _).one h1
  have g2:=(Bq _).one h2
  subst e
  rcases S.one _ _ _ c hc with rfl|rfl|h
  ·exact g1 _ (List.mem_cons_self ..)
  ·exact g2 _ (List.mem_cons_self ..)
  ·exact h
 pos:=S.pos
def OL (S:FV α):Kd (IV α):=flat S.f S.sz S.pos (fun x=>S.len _ _ _) (fun x c hc=>by
 rcases S.one _ _ _ c hc with rfl|rfl|h
 ·rfl
 ·rfl
 ·exact h)
def Eo (r:Dx α):IV α:=⟨r.h,Fw r.sv,Fw r.pv⟩
variable {S:FV α} {w w0:World} {F F0:AN} {As Rs:List SP} {A:Option Addr} {m c:Nat}
/-! ### Held: the cells in one row, the slices apart -/
theorem Zx {r:Dx α} {A1 A2:Option Addr} {n1 c1 n2 c2:Nat} (e1:r.sv=.slice A1 n1 c1) (e2:r.pv=.slice A2 n2 c2):S.e r=S.f (Eo r):=by
 simp [FV.e,FV.f,Eo,Fw,e1,e2]
def Ju (r:Dx α):SP:=CN [Y (Ai .i64) r.sv r.set,Y Ag r.pv r.pairs]
def FR (us:List (Dx α)):SP:=Bb Ju us
theorem Zw {r:Dx α} (h:(Ju r).P w F):S.e r=S.f (Eo r):=by
 obtain ⟨F1,F2,_,_,_,a,F3,F4,_,_,_,b,_⟩:=h
 obtain ⟨A1,c1,e1,_⟩:=EU (BS _ a)
 obtain ⟨A2,c2,e2,_⟩:=EU (BS _ b)
 exact Zx e1 e2
theorem Zv {r:Dx α} (h:(Ju r).P w F):(J1 S).O w F r (S.f (Eo r)):=by
 have e:=Zw (S:=S) h
 obtain ⟨F1,F2,h1,h2,h3,a,F3,F4,g1,g2,g3,b,_⟩:=h
 exact ⟨e.symm,F1,F3,h1,fun k hk=>h2 k (g1 k hk),fun k hk hk2=>h3 k hk (g1 k hk2),a,b⟩
theorem Qz:∀ {us:List (Dx α)} {F:AN},(FR us).P w F→Cx (J1 S) w F us ((us.map Eo).flatMap S.f)
 |[],_,_=>rfl
 |u::us,F,⟨F1,F2,h1,h2,h3,a,s⟩=>⟨F1,F2,S.f (Eo u),(us.map Eo).flatMap S.f,h1,h2,h3,rfl,Zv a,Qz (us:=us) s⟩
variable {v:Value} {us:List (Dx α)}
theorem Hd.twI (H:Hd w0 F0 w (Y (OL S) v (us.map Eo)::FR us::As) Rs):Hd w0 F0 w (Y (J1 S) v us::As) Rs:=by
 refine H.turn2 fun F1 F2 hd h1 h2=>?_
 obtain ⟨A,n,c,e,hl,cs,G1,G2,s1,s2,dj,row,reps⟩:=h1
 have hcs:cs=(us.map Eo).flatMap S.f:=AY.flat_eq.1 reps.toR
 subst hcs
 exact ⟨A,n,c,e,by simpa using hl,_,G1,F2,fun k hk=>.inl (s1 k hk),fun k hk=>.inr hk,fun k hk hg=>hd k (s1 k hk) hg,row,Qz h2⟩
theorem Hd.twN {r:Dx α} (H:Hd w0 F0 w (Y (Ai .i64) r.sv r.set::Y Ag r.pv r.pairs::FR us::As) Rs):Hd w0 F0 w (FR (us++[r])::As) Rs:=
 Hd.bigN (f:=Ju) (x:=r) (Hd.stI (Bs:=[Y (Ai .i64) r.sv r.set,Y Ag r.pv r.pairs]) H)
theorem Hd.tw0 (H:Hd w0 F0 w As Rs):Hd w0 F0 w (FR ([]:List (Dx α))::As) Rs:=H.big0 Ju
end
/-! ### Messages, letters, acts, snapshots -/
structure IU where
 kind:Int
 sp:Int
 att:Int
 part:Int
 seq:Int
 next:Int
 ep:Int
 why:Int
structure Z8 where
 won:Bool
 m:IU
 n:Int
structure Z9 where
 hear:Bool
 fr:Int
 m:IU
structure aC where
 fr:Int
 to:Int
 m:IU
def QY:FV Int where
 sz:=3
 enc a s p:=[s,.int .i64 a,p]
 len _ _ _:=rfl
 one _ _ _ c h:=by
  simp only [List.mem_cons,List.not_mem_nil,or_false] at h
  rcases h with rfl|rfl|rfl<;>first |exact .inr (.inr rfl)|exact .inl rfl|exact .inr (.inl rfl)
 pos:=by omega
abbrev LD:=J1 QY
abbrev HC:=OL QY
def IU.p (m:IU) (set:List Int) (ps:List Al):BD:=⟨m.kind,m.sp,m.att,m.part,m.seq,m.next,m.ep,m.why,set,ps⟩
def ME (x:Dx Int):JC:=⟨x.set,x.h,x.pairs⟩
theorem We {a b:BD}:a=b↔a.kind=b.kind∧a.sp=b.sp∧a.att=b.att∧a.part=b.part∧a.seq=b.seq∧a.next=b.next∧a.ep=b.ep∧a.why=b.why∧a.set=b.set∧a.pairs=b.pairs:=by
 constructor
 ·rintro rfl;exact ⟨rfl,rfl,rfl,rfl,rfl,rfl,rfl,rfl,rfl,rfl⟩
 ·rintro ⟨h1,h2,h3,h4,h5,h6,h7,h8,h9,h10⟩
  cases a;cases b
  simp only at h1 h2 h3 h4 h5 h6 h7 h8 h9 h10
  subst h1 h2 h3 h4 h5 h6 h7 h8 h9 h10
  rfl
instance msgD (a b:BD):Decidable (a=b):=decidable_of_iff _ We.symm
/-! ### How they come in -/
section
variable {P:Program} {t:TypeId}
end
/-! ### A result in cells, and another one -/
section
variable {P:Program} {fn:Func} {R:Ending→World→Prop} {n:Nat} {l:BB} {w:World} {t:TypeId} {a:Act}
theorem Yc {s u:Tmp} {sz:Nat} {p:Addr} {cs:List Value} {v:Value} (hr:fn.results=#[.cell s t,.tmp u]) (ha:Co n l a) (hs:lk l s=some (.pointer (some p))) (hu:lk l u=some v) (ht:B5 P t=some (true,sz)) (hz:cs.length=sz) (hc:∀ j v,cs[j]?=some v→w.cell? (p.add j)=some v):
  (results fn a.tmps).run P w=.ok (.tuple #[.agg cs.toArray,v]) w:=by
 have hl:=run_loadCells_list (P:=P) w p cs hc
 have hg:=(ha.get s _ hs).1
 have e2:=(ha.get u _ hu).1
 simp [results,hr]
 simp only [←Array.getD_eq_getD_getElem?,hg,e2]
 simp [asAddr,loadVar,IC ht,Ks ht,←hz,hl]
theorem FM {s u:Tmp} {sz:Nat} {p:Addr} {cs:List Value} {v:Value} (hr:fn.results=#[.cell s t,.tmp u]) (hs:lk l s=some (.pointer (some p))) (hu:lk l u=some v) (ht:B5 P t=some (true,sz)) (hz:cs.length=sz) (hc:∀ j v,cs[j]?=some v→w.cell? (p.add j)=some v) (h:R (.returned (.tuple #[.agg cs.toArray,v])) w):WQ (bodyPost P fn R) .ret n l w:=
 fun a ha=>bodyPost_ret (Yc hr ha hs hu ht hz hc) ha.defers h
end
def HH (st:C1):Prop:=∀ a b,(Cg st a b).length≤40∧∀ x∈Cg st a b,x.length≤8
structure Bw (n:Nat) (R:AD):Prop where
 pairs:∀ i,(R.g i).pairs.length≤1000
 st:HH R.st
 sets:R.sets.length≤n
 setl:∀ s∈R.sets,s.length≤1000
theorem Bw.mono {n m:Nat} {R:AD} (h:Bw n R) (hm:n≤m):Bw m R:=⟨h.pairs,h.st,Nat.le_trans h.sets hm,h.setl⟩
theorem Tz {l:List (List Al)} {n m:Nat} (h1:l.length≤n) (h2:∀ x∈l,x.length≤m):l.flatten.length≤n*m:=by
 have:∀ l:List (List Al),(∀ x∈l,x.length≤m)→l.flatten.length≤l.length*m:=by
  intro l
  induction l with
  |nil=>intro _;simp
  |cons x l ih=>
   intro h
   have h3:=ih fun y hy=>h y (List.mem_cons_of_mem _ hy)
   have h4:=h x (List.mem_cons_self ..)
   rw [List.flatten_cons,List.length_append,List.length_cons,Nat.succ_mul]
   omega
 exact Nat.le_trans (this l h2) (Nat.mul_le_mul_right _ h1)
theorem Bw.flat {n:Nat} {R:AD} (h:Bw n R) (a b:Int):(Cg R.st a b).flatten.length≤320:=Tz (h.st a b).1 (h.st a b).2
theorem QW (c a b:Int):∀ st:C1,Cg (D1 st c) a b=if a=c then [] else Cg st a b
 |[]=>by unfold D1;simp [Cg]
 |e::s=>by
  have ih:=QW c a b s
  unfold D1 at ih ⊢
  by_cases h:e.1.1=c
  ·rw [List.filter_cons_of_neg (by simpa using h),ih]
   by_cases h2:a=c
   ·rw [if_pos h2,if_pos h2]
   ·rw [if_neg h2,if_neg h2]
    exact (if_neg (fun h3=>h2 (h3.1.symm.trans h))).symm
  ·rw [List.filter_cons_of_pos (p:=fun e:(Int×Int)×List (List Al)=>decide (e.1.1≠c)) (decide_eq_true h)]
   show (if e.1.1=a∧e.1.2=b then e.2 else Cg (List.filter _ s) a b)=if a=c then [] else (if e.1.1=a∧e.1.2=b then e.2 else Cg s a b)
   rw [ih]
   by_cases h2:a=c
   ·rw [if_pos h2,if_pos h2,if_neg fun h3=>h (h3.1.trans h2)]
   ·rw [if_neg h2,if_neg h2]
theorem QV (c d a b:Int) (x:List Al):∀ st:C1,Cg (EF st c d x) a b=if c=a∧d=b then Cg st a b++[x] else Cg st a b
 |[]=>by
  show (if c=a∧d=b then [x] else Cg [] a b)=_
  split<;>rfl
 |e::s=>by
  have ih:=QV c d a b x s
  show Cg (if e.1.1=c∧e.1.2=d then (e.1,e.2++[x])::s else e::EF s c d x) a b=if c=a∧d=b then (if e.1.1=a∧e.1.2=b then e.2 else Cg s a b)++[x] else (if e.1.1=a∧e.1.2=b then e.2 else Cg s a b)
  by_cases h:e.1.1=c∧e.1.2=d
  ·rw [if_pos h]
   show (if e.1.1=a∧e.1.2=b then e.2++[x] else Cg s a b)=_
   by_cases h2:c=a∧d=b
   ·have h3:e.1.1=a∧e.1.2=b:=⟨h.1.trans h2.1,h.2.trans h2.2⟩
    rw [if_pos h2,if_pos h3,if_pos h3]
   ·have h3:¬ (e.1.1=a∧e.1.2=b):=fun h4=>h2 ⟨h.1.symm.trans h4.1,h.2.symm.trans h4.2⟩
    rw [if_neg h2,if_neg h3,if_neg h3]
  ·rw [if_neg h]
   show (if e.1.1=a∧e.1.2=b then e.2 else Cg (EF s c d x) a b)=_
   rw [ih]
   by_cases h2:c=a∧d=b
   ·have h3:¬ (e.1.1=a∧e.1.2=b):=fun h4=>h ⟨h4.1.trans h2.1.symm,h4.2.trans h2.2.symm⟩
    rw [if_pos h2,if_neg h3,if_neg h3,if_pos h2]
   ·rw [if_neg h2,if_neg h2]
theorem HH.drop {st:C1} (h:HH st) (c:Int):HH (D1 st c):=by
 intro a b
 rw [QW]
 split
 ·exact ⟨by simp,fun x hx=>by cases hx⟩
 ·exact h a b
theorem HH.put {st:C1} (h:HH st) {a b q:Int} {x:List Al} (hx:x.length≤8):HH (CZ st a b q x):=by
 unfold CZ
 split
 ·rename_i hm
  intro c d
  rw [QV]
  split
  ·rename_i e
   obtain ⟨rfl,rfl⟩:=e
   have h1:=hm.1
   have h2:=hm.2.2.2
   unfold Ct at h1
   refine ⟨by rw [List.length_append,List.length_singleton];omega,fun y hy=>?_⟩
   rcases List.mem_append.1 hy with hy|hy
   ·exact (h _ _).2 y hy
   ·rw [List.mem_singleton.1 hy];exact hx
  ·exact h c d
 ·exact h
theorem Bw.looks {n:Nat} {J:AG} {R:AD} (h:Bw n R) (h6:J.us.length≤6) (k:Nat):Bw (n+1) (CG J R k).1:=by
 have hg:∀ ps:List Al,ps.length≤40→∀ i,((AJ R.g k { R.g k with merged:=true,pairs:=ps }:Nat→CT) i).pairs.length≤1000:=fun ps hps i=>by
  by_cases e:i=k
  ·subst e
   rw [DB]
   show ps.length≤1000
   omega
  ·rw [D0 _ _ e]
   exact h.pairs i
 have h':Bw (n+1) R:=h.mono (Nat.le_succ n)
 unfold CG
 split
 ·exact h'
 ·split
  ·exact h'
  ·split
   ·exact h'
   ·rename_i hl
    dsimp only
    split
    ·refine ⟨hg _ (by omega),h.st.drop _,by show (R.sets++[_]).length≤n+1;rw [List.length_append,List.length_singleton];have:=h.sets;omega,fun s hs=>?_⟩
     rcases List.mem_append.1 hs with hs|hs
     ·exact h.setl s hs
     ·rw [List.mem_singleton.1 hs]
      exact Nat.le_trans (L4 _ _) (by omega)
    ·exact ⟨hg _ (by omega),h.st.drop _,Nat.le_succ_of_le h.sets,h.setl⟩
theorem Bw.push {n:Nat} {J:AG} {R:AD} (h:Bw n R) (h6:J.us.length≤6) (m:BD):Bw (n+1) (Bz J R m).1:=by
 unfold Bz
 split
 ·exact h.mono (Nat.le_succ n)
 ·show Bw (n+1) (FL J R m).1
  unfold FL
  split
  ·rename_i ht
   exact Bw.looks (R:={ R with st:=CZ R.st m.sp m.att m.seq m.pairs }) ⟨h.pairs,h.st.put ht.2.1,h.sets,h.setl⟩ h6 _
  ·exact h.mono (Nat.le_succ n)
theorem Bw.won {n:Nat} {J:AG} {t:Int} {R:AD} (h:Bw n R) (h6:J.us.length≤6) (sp att cnt:Int):Bw (n+1) (Db J t R sp att cnt).1:=by
 unfold Db
 split
 ·exact h.mono (Nat.le_succ n)
 ·refine Bw.looks (R:={ R with g:=AJ R.g sp.toNat { R.g sp.toNat with told:=true,att:=att,cnt:=cnt } }) ⟨fun i=>?_,h.st,h.sets,h.setl⟩ h6 _
  show ((AJ R.g sp.toNat { R.g sp.toNat with told:=true,att:=att,cnt:=cnt }:Nat→CT) i).pairs.length≤1000
  by_cases e:i=sp.toNat
  ·subst e;rw [DB];exact h.pairs _
  ·rw [D0 _ _ e];exact h.pairs i
theorem Wm (n:Nat) (p ep:Int) (rs:List Dl):(CW n p ep rs).sets.length≤rs.length:=by
 have key:∀ rs:List Dl,(CW n p ep rs.reverse).sets.length≤rs.length:=by
  intro rs
  induction rs with
  |nil=>simp [CW,Hb]
  |cons x rs ih=>
   rw [List.reverse_cons,PB,List.length_cons]
   have hx:∀ R:AD,(Dp n R x).sets.length≤R.sets.length+1:=by
    intro R
    unfold Dp
    dsimp only
    split
    ·omega
    ·split<;>split<;>simp
   have:=hx (CW n p ep rs.reverse)
   omega
 have:=key rs.reverse
 rwa [List.reverse_reverse,List.length_reverse] at this
theorem Wl (n:Nat) (p ep:Int) (b:Nat) (rs:List Dl) (h:∀ r∈rs,r.set.length≤b):∀ s∈(CW n p ep rs).sets,s.length≤b:=by
 have key:∀ (rs:List Dl) (R:AD),(∀ r∈rs,r.set.length≤b)→(∀ s∈R.sets,s.length≤b)→∀ s∈(rs.foldl (Dp n) R).sets,s.length≤b:=by
  intro rs
  induction rs with
  |nil=>intro R _ h;exact h
  |cons x rs ih=>
   intro R hr hR
   refine ih (Dp n R x) (fun r hq=>hr r (List.mem_cons_of_mem _ hq)) ?_
   have hx:=hr x (List.mem_cons_self ..)
   have hc:∀ R1:AD,R1.sets=R.sets→∀ s∈(if x.kind=5 then ({ R1 with sets:=R1.sets++[x.set] }:AD) else R1).sets,s.length≤b:=by
    intro R1 e s hs
    split at hs
    ·rcases List.mem_append.1 hs with hs|hs
     ·rw [e] at hs;exact hR s hs
     ·rw [List.mem_singleton.1 hs];exact hx
    ·rw [e] at hs;exact hR s hs
   unfold Dp
   dsimp only
   split
   ·exact hR
   ·refine hc _ ?_
    split<;>rfl
 exact key rs (Hb p ep) h fun s hs=>by cases hs
theorem Bw.new {n:Nat} {p ep:Int} {rs:List Dl} (h:∀ r∈rs,r.pairs.length≤1000∧r.set.length≤1000):Bw rs.length (CW n p ep rs):=⟨Wk fun r hr=>(h r hr).1,by rw [(Gy n p ep rs).2.2];exact fun a b=>⟨by simp [Cg],fun x hx=>by cases hx⟩,Wm n p ep rs,Wl n p ep 1000 rs fun r hr=>(h r hr).2⟩
theorem Q1 {α:Type} {o:Option α} (d:α) (h:o.isSome=true):o=some (o.getD d):=by
 cases o with
 |none=>cases h
 |some x=>rfl
theorem Wt {α:Type} {o:Option α} (h:¬ o.isSome=true):o=none:=by
 cases o with
 |none=>rfl
 |some x=>exact absurd rfl h
section
variable {J:AG} {R R1:AD} {k:Nat} {n:Int} {ps:List Al}
theorem VH (h:¬ (R.g k).told=true):CG J R k=(R,[]):=by
 unfold CG
 rw [if_pos (by simpa using h)]
theorem VI (hn:((k:Nat):Int)=n) (h:AC R.st n (R.g k).att (R.g k).cnt=none):CG J R k=(R,[]):=by
 unfold CG
 rw [hn,h]
 split<;>rfl
theorem VJ (hn:((k:Nat):Int)=n) (h:AC R.st n (R.g k).att (R.g k).cnt=some ps) (hl:40<ps.length):CG J R k=(R,[]):=by
 unfold CG
 rw [hn,h]
 dsimp only
 rw [if_pos hl]
 split<;>rfl
theorem VK (hn:((k:Nat):Int)=n) (ht:(R.g k).told=true) (h:AC R.st n (R.g k).att (R.g k).cnt=some ps) (hl:ps.length≤40) (h1:R1={ R with g:=AJ R.g k { R.g k with merged:=true,pairs:=ps },st:=D1 R.st n }) (hm:¬ ((Aw J.us.length R1).length:Int)∈J.marks):
  CG J R k=(R1,[⟨4,R.part,n,(R.g k).att,0,[],ps⟩]):=by
 unfold CG
 rw [if_neg (by rw [ht];decide),hn,h]
 dsimp only
 rw [if_neg (by omega),←h1,if_neg hm]
theorem LW (hn:((k:Nat):Int)=n) (ht:(R.g k).told=true) (h:AC R.st n (R.g k).att (R.g k).cnt=some ps) (hl:ps.length≤40) (h1:R1={ R with g:=AJ R.g k { R.g k with merged:=true,pairs:=ps },st:=D1 R.st n }) (hm:((Aw J.us.length R1).length:Int)∈J.marks):
  CG J R k=({ R1 with sets:=R1.sets++[Aw J.us.length R1] },[⟨4,R.part,n,(R.g k).att,0,[],ps⟩,⟨5,R.part,0,0,0,Aw J.us.length R1,[]⟩]):=by
 unfold CG
 rw [if_neg (by rw [ht];decide),hn,h]
 dsimp only
 rw [if_neg (by omega),←h1,if_pos hm]
 subst h1
 rfl
end
theorem Xn {g g':Nat→CT} {hv:Nat→Value} (h:∀ i,(g i).pairs=(g' i).pairs):AT g hv=AT g' hv:=by
 unfold AT
 exact Ns fun i _=>by unfold G9;rw [h i]
theorem YO {α:Type} (g:Nat→α) (k:Nat) (a b:α):AJ (AJ g k a) k b=AJ g k b:=by
 funext j
 by_cases e:j=k
 ·subst e;rw [DB,DB]
 ·rw [D0 _ _ e,D0 _ _ e,D0 _ _ e]
theorem QP {g:Nat→CT} {k:Nat} {x:CT} (h:x.pairs=(g k).pairs) (i:Nat):(g i).pairs=(AJ g k x i).pairs:=by
 by_cases e:i=k
 ·subst e;rw [DB,h]
 ·rw [D0 _ _ e]
/-! ### Once -/
/-! ### Records -/
structure aD (n:Nat) (R N:AD):Prop where
 part:N.part=R.part
 g:∀ s,s<n→(N.g s).merged=(R.g s).merged∧(N.g s).pairs=(R.g s).pairs
 sets:N.sets=R.sets
theorem Pn (J:AG) (R:AD) (k:Nat):(CG J R k).1.part=R.part∧(CG J R k).1.ep=R.ep:=by
 unfold CG
 split
 ·exact ⟨rfl,rfl⟩
 ·split
  ·exact ⟨rfl,rfl⟩
  ·split
   ·exact ⟨rfl,rfl⟩
   ·dsimp only
    split<;>exact ⟨rfl,rfl⟩
theorem Mn {J:AG} {R:AD} {m:BD} (h:ES J R m):Bz J R m=(R,Jb,[]):=if_pos h
theorem G_ {J:AG} {R:AD} {m:BD} (h:¬ ES J R m):Bz J R m=((FL J R m).1,KM (FL J R m).1 m,(FL J R m).2):=if_neg h
theorem It {J:AG} {R:AD} {m:BD} (h:¬ E4 R m):FL J R m=(R,[]):=if_neg h
theorem P3 {J:AG} {R:AD} {m:BD} (h:E4 R m):FL J R m=CG J { R with st:=CZ R.st m.sp m.att m.seq m.pairs } m.sp.toNat:=if_pos h
theorem GP {R:AD} {m:BD} {part ep nx:Int} (h1:R.part=part) (h2:R.ep=ep) (h3:(if (R.g m.sp.toNat).merged=true then 40 else Ct R.st m.sp m.att)=nx):KM R m=⟨3,m.sp,m.att,part,0,nx,ep,0,[],[]⟩:=by
 subst h1 h2 h3;rfl
theorem YZ {D:Bj} {J:AG} {R:AD} {us:List (Value×List Int)} (hs:us.map (fun u=>u.2)=R.sets) {k:Nat} {v:Value} {set:List Int} (h:us[k]?=some (v,set)):(Ga D J R).take (k+1)=(Ga D J R).take k++[⟨set,(D7 D J R set).2,(D7 D J R set).1⟩]:=by
 have hx:R.sets[k]?=some set:=by rw [←hs,List.getElem?_map,h];rfl
 exact Fm (by unfold Ga;rw [List.getElem?_map,hx];rfl)
theorem Q0 {D:Bj} {J:AG} {R:AD} {us:List (Value×List Int)} (hs:us.map (fun u=>u.2)=R.sets):(Ga D J R).length=us.length:=by
 unfold Ga;rw [List.length_map,←hs,List.length_map]
theorem ZM {n:Nat} {R:AD} {us:List (Value×List Int)} (hs:us.map (fun u=>u.2)=R.sets) (h:Bw n R) (hn:n≤100000):us.length≤100000:=by
 have:=h.sets
 rw [←hs,List.length_map] at this
 omega
theorem ZN {n:Nat} {R:AD} {us:List (Value×List Int)} (hs:us.map (fun u=>u.2)=R.sets) (h:Bw n R):∀ u∈us,u.2.length≤1000:=fun u hu=>h.setl u.2 (by rw [←hs];exact List.mem_map_of_mem hu)
/-! ### Six slices in a row -/
section
variable {α:Type} {J:AG} {rs:List AV} {acts:List (Dx α)} {most:Int}
end
/-! ### Lists of structs held against one another -/
theorem YX {a b:JC}:a=b↔a.why=b.why∧a.set=b.set∧a.pairs=b.pairs:=by
 constructor
 ·rintro rfl;exact ⟨rfl,rfl,rfl⟩
 ·rintro ⟨h1,h2,h3⟩
  cases a;cases b
  simp only at h1 h2 h3
  subst h1 h2 h3
  rfl
instance snapPD (a b:JC):Decidable (a=b):=decidable_of_iff _ YX.symm
/-! ### A small configuration -/
def Dh:List Al:=[⟨⟨#[98]⟩,⟨#[49]⟩⟩]
def AZ (u:Value):Cf:=⟨⟨[(u,Dh),(Fy,[])],1,Dy,[],Dy,1,1,9,[1]⟩,1,2,1⟩
theorem C9 (u:Value):Ee (AZ u):=by
 refine ⟨⟨(show 1≤((2:Nat):Int)∧((2:Nat):Int)≤6 by decide),(show (1:Int)≤1∧(1:Int)≤4 by decide),(show 1≤4 by decide),?_,?_,(show 0<Dy.length∧Du Dy<0 by decide+kernel),(show 0<Dy.length∧Du Dy<0 by decide+kernel),(show Du []<0 by decide+kernel),
  (show (1:Int)≤1∧(1:Int)≤7 by decide),(show (1:Int)≤1∧(1:Int)≤4 by decide),(show (1:Int)≤9∧(9:Int)≤2000 by decide)⟩,(show (1:Int)≤1∧(1:Int)≤4 by decide),(show (1:Int)≤2∧(2:Int)≤3 by decide),(show (1:Int)≤1∧(1:Int)≤50 by decide)⟩
 ·intro x hx
  rcases List.mem_cons.1 hx with rfl|hx
  ·show GB Dh
   decide
  ·rw [List.mem_singleton.1 hx]
   show GB []
   decide
 ·show Gv ((2:Nat):Int) 0 [1]
  decide
theorem Di (u:Value):If (AZ u) 0≠0:=Dm (C9 u) (by decide) (show (0:Int)<1 by decide)
def JD:AD:=CW 2 0 1 []
def HS (J:AG):AD×List Dl:=Db J 2 JD 1 1 0
def RH:BD:=⟨2,0,1,0,0,0,0,0,[],Dh⟩
def Ht (J:AG):AD×BD×List Dl:=Bz J (HS J).1 RH
def Fs (J:AG):AD×List Dl:=Db J 2 (Ht J).1 0 1 1
theorem Nm {J:AG} {u:Value} (h:BJ J (AZ u).J):∃ a b,J=⟨[(a,Dh),(b,[])],1,Dy,[],Dy,1,1,9,[1]⟩:=by
 obtain ⟨h1,h2⟩:=h
 have hl:J.us.length=2:=by have:=congrArg List.length h1;simpa [AZ] using this
 match hu:J.us,hl with
 |[(a,x),(b,y)],_=>
  rw [hu] at h1
  have h3:[x,y]=[Dh,[]]:=h1
  simp only [List.cons.injEq,and_true] at h3
  obtain ⟨rfl,rfl⟩:=h3
  refine ⟨a,b,h2.trans ?_⟩
  rw [hu]
  rfl
theorem Nl {J:AG} {u:Value} (h:BJ J (AZ u).J):(HS J).2.length=2∧(Ht J).2.1.next=1∧(Ht J).2.2.length=0∧(Fs J).2.length=1∧Aw J.us.length (Fs J).1=[0,1]∧(Fs J).1.sets.length=1:=by
 obtain ⟨a,b,rfl⟩:=Nm h
 exact ⟨by kernel_rfl,by kernel_rfl,by kernel_rfl,by kernel_rfl,by kernel_rfl,by kernel_rfl⟩
theorem RK {D:Bj} {J:AG} {u:Value} (h:BJ J (AZ u).J):(DY D J (Fs J).1).1=Dh∧(DY D J (Fs J).1).2.2=true:=by
 have h5:=(Nl h).2.2.2.2.1
 obtain ⟨a,b,rfl⟩:=Nm h
 unfold DY
 rw [h5,if_neg (by show ¬ (2:Nat)<2;decide)]
 refine ⟨?_,rfl⟩
 unfold D7
 have e:srt (Cl ([(a,Dh),(b,[])]:List (Value×List Al)).length (Fs ⟨[(a,Dh),(b,[])],1,Dy,[],Dy,1,1,9,[1]⟩).1 [0,1])=Dh:=by
  have e1:Cl ([(a,Dh),(b,[])]:List (Value×List Al)).length (Fs ⟨[(a,Dh),(b,[])],1,Dy,[],Dy,1,1,9,[1]⟩).1 [0,1]=Dh:=by kernel_rfl
  rw [e1]
  decide
 show (B0 D Dy (srt (Cl ([(a,Dh),(b,[])]:List (Value×List Al)).length (Fs ⟨[(a,Dh),(b,[])],1,Dy,[],Dy,1,1,9,[1]⟩).1 [0,1])) 9 false).1=Dh
 rw [e]
 unfold B0
 rw [show Dn Dh=[⟨#[98]⟩] from (Ut _).trans (by decide)]
 kernel_rfl
theorem RJ:Bw 0 JD:=Bw.new (rs:=[]) fun r h=>by cases h
theorem RI {J:AG} (h6:J.us.length≤6):Bw 99000 JD∧Bw 99000 (HS J).1∧Bw 99000 (Ht J).1∧Bw 99000 (Fs J).1:=by
 have h0:=RJ
 have h1:Bw 1 (HS J).1:=h0.won h6 _ _ _
 have h2:Bw 2 (Ht J).1:=h1.push h6 _
 have h3:Bw 3 (Fs J).1:=h2.won h6 _ _ _
 exact ⟨h0.mono (by omega),h1.mono (by omega),h2.mono (by omega),h3.mono (by omega)⟩
section
variable {P:Program} {ops:Array Oper} {Q:Exit→Act→World→Prop} {rest:List Oper} {n:Nat} {l:BB} {w0 w:World} {F0:AN} {o:Oper} {As Rs:List SP} {x y:Operand} {t ti:TypeId}
theorem Yl {e size bytes:Nat} {ty:TypeId} {z:Value} {m:Nat} (hs:C4 P t=some (e,size,bytes)) (hz:CE P e=some z) (hzs:z.cells.size=size) (hsp:0<size) (hb0:0<bytes) (hti:P.underlying ti=some (.int .i64)) (hm:0<m) (hb:m*bytes≤140737488355328):
  ∃ A c w' C,(Builtin.append_ #[t,ti] ty #[.slice none 0 0,.int .i64 (m:Int)]).run P w=.ok (.slice (some A) m c) w'∧A=⟨w.heap.size,0,none⟩∧m≤c∧c≤9223372036854775807∧w'=w.drew.alloc (.cells C e)∧C.size=c*size:=by
 obtain ⟨hu,i,hi,rfl,rfl⟩:=E6 hs
 obtain ⟨i',hi',hz'⟩:=Option.bind_eq_some_iff.1 hz
 rw [hi] at hi'
 cases hi'
 have hsmall:m≤140737488355328:=Nat.le_trans (Nat.le_mul_of_pos_right _ hb0) hb
 have hw:IntKind.i64.wrap (m:Int)=(m:Int):=AF (by omega) (by omega)
 have hng:¬ ((m:Int)<0):=by omega
 have hb2:¬ ((m:Int)*(i.bytes:Int)>2^48):=by
  have:((m*i.bytes:Nat):Int)≤140737488355328:=by omega
  rw [Int.natCast_mul] at this
  omega
 have hfit:¬ 281474976710656<Builtin.nextslicecap m 0*i.bytes:=by
  have:=growslice_fits (need:=m) (old:=0) (bytes:=i.bytes) (by omega) hb
  omega
 have hge:=grownCap_ge w m 0 e
 have hle:grownCap w m 0 e≤9223372036854775807:=by
  have:=grownCap_le_maxLen w m 0 e (by simp only [maxLen];omega)
  simpa [maxLen] using this
 have hms:¬ (m*i.size=0):=by have:=Nat.mul_pos hm hsp;omega
 have hb3:¬ (281474976710656<(m:Int)*(i.bytes:Int)):=by omega
 have hm0:¬ (m=0):=by omega
 have hbz:¬ i.bytes=0:=by omega
 have hbig':¬ (9223372036854775807<(m:Int)):=by omega
 refine ⟨⟨w.heap.size,0,none⟩,grownCap w m 0 e,w.drew.alloc (.cells (Builtin.zeroCells z.cells m++Builtin.zeroCells z.cells (grownCap w m 0 e - m)) e),Builtin.zeroCells z.cells m++Builtin.zeroCells z.cells (grownCap w m 0 e - m),?_,rfl,hge,hle,rfl,?_⟩
 ·simp [Builtin.append_,run_underlying hu,run_underlying hti,sizeOf,zeroValue,typeInfo,hi,hz',hw,hng,hb3,asInt,asIntOf,hms,hm0,hfit,hbz,hbig',newRow,grownCap,Question.forced,Builtin.firstCells]
 ·simp only [Array.size_append,size_zeroCells,hzs,←Nat.add_mul]
  congr 1
  omega
theorem Yv {α:Type} (d:Kd α) {e bytes:Nat} {z:Value} {m:Nat} (hg:gd ops l o=some true) (hd:Cm n o.dst=true) (ho:o.op=.call { callee:=.builtin .append,args:=#[x,y],argTypes:=#[t,ti] }) (hs:C4 P t=some (e,d.sz,bytes)) (hz:CE P e=some z) (hzs:z.cells.size=d.sz) (hb0:0<bytes) (hti:P.underlying ti=some (.int .i64))
  (hx:ev l x=some (.slice none 0 0)) (hy:ev l y=some (.int .i64 (m:Int))) (hm:0<m) (hb:m*bytes≤140737488355328) (H:Hd w0 F0 w As Rs)
  (h:∀ A c w',m≤c→Hd w0 F0 w' (Y d (.slice A 0 c) []::As) Rs→WL P ops Q rest n (B_ l o.dst (.slice A m c)) w'):WL P ops Q (o::rest) n l w:=by
 obtain ⟨A,c,w',C,hrun,rfl,h1,h2,rfl,hC⟩:=Yl (P:=P) (w:=w) (ty:=o.type) hs hz hzs d.pos hb0 hti hm hb
 refine V hg hd (v:=.slice (some ⟨w.heap.size,0,none⟩) m c) (fun a ha=>?_) (h _ _ _ h1 (H.new (F':=fun k=>k=w.heap.size) ?_ ⟨_,0,c,rfl,rfl,[],fun k=>k=w.heap.size,none_,fun _ q=>q,fun _ q=>q.elim,fun _ _ q=>q,⟨Nat.zero_le _,h2,by simp,.inr ⟨w.heap.size,C,e,rfl,rfl,heap_alloc_new w.drew _,hC,by simp⟩⟩,rfl⟩ ?_))
 ·simp [execOp,ho,resolve,ha.eval hx,ha.eval hy,invoke,builtin,hrun]
 ·exact (B1.drewN none_ w 1).trans (B1.alloc none_ w.drew _) fun _ _ q=>q
 ·intro k hk
  subst hk
  simp
end
section
variable {w0 w:World} {F0:AN} {As Rs:List SP} {t sb mb:Nat} {st:C1} {kvs:List CF} {k:Int×Int} {v:Value} {us:List (Value×List Al)}
theorem QT {κ:Type} [DecidableEq κ] {k:κ} {u v:Value}:∀ kvs:List (κ×Value),DG k v (DG k u kvs)=DG k v kvs
 |[]=>by simp [DG]
 |p::r=>by
  by_cases h:p.1=k
  ·simp [DG,h]
  ·simp [DG,h,QT r]
theorem Hd.stgOpen (k:Int×Int) (H:Hd w0 F0 w (AS t sb st::As) Rs):∃ mb kvs v us,kvs.map DQ=st∧D3 (kvs.map BI)∧Dw k kvs=(v,us)∧(EA k (kvs.map BI)).getD Fy=v∧us.map (·.2)=Cg st k.1 k.2∧
  Hd w0 F0 w (blk sb [.map (some mb)] t::Cq BW mb (kvs.map BI)::Y (Ak Ag) v us::Bb B8 (CB k kvs)::As) Rs:=by
 obtain ⟨mb,kvs,he,hn,H1⟩:=H.stgA
 have H2:=(show Hd w0 F0 w (Bb B8 kvs::blk sb [.map (some mb)] t::Cq BW mb (kvs.map BI)::As) Rs from H1.perm (((List.Perm.swap _ _ _).cons _).trans (List.Perm.swap _ _ _))).stgO k hn
 refine ⟨mb,kvs,(Dw k kvs).1,(Dw k kvs).2,he,hn,rfl,Q6 kvs,by rw [Q7,he],?_⟩
 exact H2.perm (List.perm_append_comm (l₁:=[Y (Ak Ag) (Dw k kvs).1 (Dw k kvs).2,Bb B8 (CB k kvs)]) (l₂:=[blk sb [.map (some mb)] t,Cq BW mb (kvs.map BI)])|>.append_right As)
theorem Hd.stgShut (he:kvs.map DQ=st) (hn:D3 (kvs.map BI)) (hw:Dw k kvs=(v,us)) (H:Hd w0 F0 w (blk sb [.map (some mb)] t::Cq BW mb (kvs.map BI)::Y (Ak Ag) v us::Bb B8 (CB k kvs)::As) Rs):Hd w0 F0 w (AS t sb st::As) Rs:=by
 have H1:Hd w0 F0 w (Y (Ak Ag) (Dw k kvs).1 (Dw k kvs).2::Bb B8 (CB k kvs)::blk sb [.map (some mb)] t::Cq BW mb (kvs.map BI)::As) Rs:=by
  rw [hw]
  exact H.perm ((List.perm_append_comm (l₁:=[blk sb [.map (some mb)] t,Cq BW mb (kvs.map BI)]) (l₂:=[Y (Ak Ag) v us,Bb B8 (CB k kvs)])).append_right As)
 exact Hd.stgC he ((Hd.stgI0 hn H1).perm ((List.Perm.swap _ _ _).trans ((List.Perm.swap _ _ _).cons _)))
theorem Hd.stgPut {x:List Al} {v':Value} {us':List (Value×List Al)} (he:kvs.map DQ=st) (hn:D3 (kvs.map BI)) (ho:us.map (·.2)=Cg st k.1 k.2) (hu:us'.map (·.2)=us.map (·.2)++[x])
  (H:Hd w0 F0 w (blk sb [.map (some mb)] t::Cq BW mb (DG k v' (kvs.map BI))::Y (Ak Ag) v' us'::Bb B8 (CB k kvs)::As) Rs):Hd w0 F0 w (AS t sb (EF st k.1 k.2 x)::As) Rs:=by
 have H1:=Hd.stgI_ hn (H.perm ((List.perm_append_comm (l₁:=[blk sb [.map (some mb)] t,Cq BW mb (DG k v' (kvs.map BI))]) (l₂:=[Y (Ak Ag) v' us',Bb B8 (CB k kvs)])).append_right As))
 refine Hd.stgC (kvs:=FP k (v',us') kvs) ?_ ((?_:Hd w0 F0 w (Bb B8 (FP k (v',us') kvs)::blk sb [.map (some mb)] t::Cq BW mb ((FP k (v',us') kvs).map BI)::As) Rs).perm ((List.Perm.swap _ _ _).trans ((List.Perm.swap _ _ _).cons _)))
 ·rw [QQ,he]
  show IF st k (us'.map (·.2))=_
  rw [hu,ho,QX]
 ·rw [QR]
  exact H1
theorem Q5 (k:Int×Int) (kvs:List CF):Gm k (kvs.map BI)=(CB k kvs).map BI:=by
 unfold Gm CB
 rw [List.filter_map]
 rfl
theorem Hd.stgX (k:Int×Int) (hn:D3 (kvs.map BI)) (H:Hd w0 F0 w (Bb B8 kvs::As) Rs):Hd w0 F0 w (Bb B8 (CB k kvs)::As) Rs:=(H.stgO k hn).drop
def GA (a:Int) (kvs:List CF):List CF:=kvs.filter fun e=>decide (e.1.1≠a)
theorem WB (a:Int) (kvs:List CF):(GA a kvs).map DQ=D1 (kvs.map DQ) a:=by
 unfold GA D1
 rw [List.filter_map]
 rfl
theorem WF {a:Int} {kvs:List CF} {k:Int×Int} (hk:k.1=a):GA a (CB k kvs)=GA a kvs:=by
 unfold GA CB
 rw [List.filter_filter]
 refine List.filter_congr fun e _=>?_
 by_cases h:e.1.1=a
 ·simp [h]
 ·have:e.1≠k:=fun h2=>h (by rw [h2,hk])
  simp [h,this]
theorem WE {a:Int} {kvs:List CF} (h:∀ e∈kvs,e.1.1≠a):GA a kvs=kvs:=List.filter_eq_self.2 fun e he=>decide_eq_true (h e he)
def Hn (kvs:List CF) (ps:List (Nat×(Int×Int))):Nat:=(kvs.filter fun e=>decide (e.1∉ps.map (fun q=>q.2))).length
theorem Rl {kvs kvs2:List CF} {ps:List (Nat×(Int×Int))} {p:(Int×Int)×Value} {s:Nat} (hp:p∈kvs.map BI) (hn:p.1∉ps.map (fun q=>q.2)) (h2:kvs2=kvs∨kvs2=CB p.1 kvs):Hn kvs2 (ps++[(s,p.1)])<Hn kvs ps:=by
 have hsub:kvs2.Sublist kvs:=by
  rcases h2 with rfl|rfl
  ·exact List.Sublist.refl _
  ·exact List.filter_sublist
 have h1:Hn kvs2 (ps++[(s,p.1)])≤Hn kvs (ps++[(s,p.1)]):=(hsub.filter _).length_le
 have h3:Hn kvs (ps++[(s,p.1)])<Hn kvs ps:=by
  obtain ⟨e,he,rfl⟩:=List.mem_map.1 hp
  unfold Hn
  have e1:(kvs.filter fun e'=>decide (e'.1∉(ps++[(s,(BI e).1)]).map (fun q=>q.2)))=((kvs.filter fun e'=>decide (e'.1∉ps.map (fun q=>q.2))).filter fun e'=>decide (e'.1≠e.1)):=by
   rw [List.filter_filter]
   refine List.filter_congr fun x _=>?_
   rw [←Bool.decide_and]
   exact decide_eq_decide.2 (by rw [List.map_append,List.mem_append,not_or,and_comm];simp [BI])
  rw [e1]
  refine List.length_filter_lt_length_iff_exists.2 ⟨e,List.mem_filter.2 ⟨he,decide_eq_true hn⟩,by simp⟩
 omega
def ID (a:Int) (kvs:List CF) (ps:List (Nat×(Int×Int))):Prop:=∀ e∈kvs,e.1∈ps.map (fun q=>q.2)→e.1.1≠a
theorem YN {a:Int} {kvs:List CF} {ps:List (Nat×(Int×Int))} {k:Int×Int} {s:Nat} (h:ID a kvs ps) (hk:k.1≠a):ID a kvs (ps++[(s,k)]):=by
 intro e he hm
 rw [List.map_append,List.mem_append] at hm
 rcases hm with hm|hm
 ·exact h e he hm
 ·rw [show e.1=k by simpa using hm];exact hk
theorem YL {a:Int} {kvs:List CF} {ps:List (Nat×(Int×Int))} {k:Int×Int} {s:Nat} (h:ID a kvs ps):ID a (CB k kvs) (ps++[(s,k)]):=by
 intro e he hm
 obtain ⟨he1,he2⟩:=List.mem_filter.1 he
 rw [List.map_append,List.mem_append] at hm
 rcases hm with hm|hm
 ·exact h e he1 hm
 ·exact absurd (by simpa using hm) (of_decide_eq_true he2)
theorem YM {a:Int} {kvs:List CF} {ps:List (Nat×(Int×Int))} (h:ID a kvs ps) (hall:∀ p∈kvs.map BI,p.1∈ps.map (fun q=>q.2)):GA a kvs=kvs:=WE fun e he=>h e he (hall (BI e) (List.mem_map.2 ⟨e,he,rfl⟩))
end
theorem T3 (m:Nat) (hm:m≤1000000):
    Cn Tryz.prog 216 [.slice none 0 0,.int .i64 ((m:Nat):Int)] [] [] (fun v Bs=>Bs=[Y Ag v []]):=by
 intro w0 F0 H
 refine enter Tryz.func216 U U (Nat.le_of_ble_eq_true U) (Ab (Ae (Ad U (Ac (Z (Ab (Ab (Ae (Ad U (V U U (Bg U U U) (Ac (Z ?_))))))))))))
 refine Ay U (fun h1=>?_) (fun h1=>?_)
 ·exfalso;omega
 refine Av (Z (Ab (Ab (Ae (Ah 2 U (V U U (P6 U CD U) (Ad U (V U U (A0 U CD U) (V U U (Ck (z:=0) U U U U) (V U U (Ck (z:=(m:Int)) U U U ((congrArg IntKind.i64.wrap (Int.sub_zero _)).trans (AF (by omega) (by omega)))) (Ad U (Ac (Z (Ab (Ae (Ad U (V U U (Cd U U U) (Ac (Z ?_)))))))))))))))))))
 refine Ay U (fun h2=>?_) (fun h2=>?_)
 ·refine Ae (Ah 2 U (V U U (P6 U CD U) (V U U (Jg U Bu U U (by omega) (by omega) U) (Ad U (Yv Ag U U U Bu CR U (by decide) Dj U U (by omega) (by omega) H (fun A3 c4 w hc5 H=>(Ad U (V U U (A0 U CD U) (V U U (Jg U Bu U U (by omega) (by omega) U) (Ad U (Ac (Z ?_))))))))))))
  replace H:Hd _ _ _ [Y Ag (.slice A3 0 c4) []] []:=H
  exact Ab (Ae (Ah 2 U (Ac (Z (Ao (Aq U U (Am U H)))))))
 refine Av (Z (Ab (Ae (Ah 2 U (Ac (Z (Ao (Aq U U ?_))))))))
 replace H:=H.newnil Ag
 replace H:Hd _ _ _ [Y Ag (.slice none 0 0) []] []:=H
 exact Am U H
theorem SG (vus:Value) (us:List (Value×List Al)) (hb:(BH us).length≤1000000) (hul:us.length≤1000000):
    Cn Tryz.prog 179 [vus] [] [Aa (Ak Ag) vus us] (fun v Bs=>Bs=[Y Ag v (BH us)]):=by
 intro w0 F0 H
 obtain ⟨A1,c2,rfl,hc3,hm4,hp5⟩:=H.fR 0 rfl
 refine enter Tryz.func179 U U (Nat.le_of_ble_eq_true U) (Ab (Ae (Ad U (Ac (Z ?_)))))
 replace H:Hd _ _ _ [] [Aa (Ak Ag) (.slice A1 us.length c2) us]:=H
 refine Ab (Ae (Ad U (Ac (Z (Ab (Ab (Ae (Ad U (V U U (A0 U DJ U) (Ad U (Ac (Z (AU (BV (σ:=Nat) (fun i=>[(0,.slice A1 us.length c2),(2,.slice none 0 0),(3,.int .i64 (((BH (us.take i)).length:Nat):Int)),(9,.slice A1 us.length c2),(10,.int .i64 ((us.length:Nat):Int)),(11,.int .i64 ((i:Nat):Int))]) (fun i w=>(Hd w0 F0 w [] [Aa (Ak Ag) (.slice A1 us.length c2) us])∧(i≤us.length)) (fun i=>us.length - i) 0 ⟨rfl,rfl,rfl,rfl,rfl,rfl,trivial⟩ ⟨H,Nat.zero_le _⟩ ?_))))))))))))))
 rintro i w ⟨H,hi⟩
 have hfl:=GV us i
 refine Ab (Ae (V U U (Bg U U U) (Ac (Z (Ab ?_)))))
 refine Ay U (fun h6=>?_) (fun h6=>?_)
 ·refine Av (Z (Ab (AU (Ab (Ae ?_)))))
  obtain ⟨⟨u9,x7⟩,hx8⟩:∃ z9,us[i]?=some z9:=⟨_,List.getElem?_eq_getElem (show i<us.length by omega)⟩
  obtain ⟨A10,c11,rfl,hc12,hm13⟩:=H.nestR 0 rfl hx8
  have th14:=H.thRd 0 rfl hx8
  refine V U U (Bf (p:=AX A1+i*1) U Eh U U (by omega) (by omega) th14 U) (V U U (An U Eb U (H.elRd 0 U hx8 U)) (Ad U (Ac (Z (Ab ?_)))))
  have hf0:=GV us (i+1)
  rw [H8 hx8,List.length_append] at hf0
  refine Ae (Ah 2 U (V U U (A0 U CD U) (V U U (A9 (z:=(((BH (us.take i)).length+x7.length:Nat):Int)) U U U (by rw [AF (by omega) (by omega)];omega)) (Ad U (Ac (Z (Ab (Ae (Ad U (V U U (Bg U U U) (Ac (Z ?_))))))))))))
  refine Ay U (fun h15=>?_) (fun h15=>?_)
  ·exfalso;omega
  refine Av (A8 (Z (Ae (V U U (A9 (z:=((i+1:Nat):Int)) U U U (by rw [AF (by omega) (by omega)];omega)) (Ad U (Ac ?_))))))
  have hf1:=H8 hx8
  have hf2:(BH (us.take (i+1))).length=(BH (us.take i)).length+x7.length:=by rw [hf1,List.length_append]
  exact Bm (s:=i) (i+1) ⟨rfl,rfl,(by (try dsimp only);rw [hf2];first |rfl|(congr 2;omega)),rfl,rfl,rfl,trivial⟩ ⟨H,by (try dsimp only);omega⟩ (by (try dsimp only);omega)
 refine BK (AR (AR (BN (Z (Ab ?_)))))
 have hfl2:=GV us i
 refine Ae (Ad U (sc (T3 ((BH (us.take i)).length) (by first |assumption|omega)) H l0 U U (At UY U U) ?_))
 rintro v16 _ w rfl H
 replace H:=H.h1 (A:=Y Ag v16 [])
 refine Ad U (Ac (Z (Ab (Ab (Ae (Ad U (V U U (A0 U DJ U) (Ad U (Ac (Z (AU ?_)))))))))))
 replace H:=H.h1 (A:=Y Ag v16 (BH (us.take 0)))
 refine BV (σ:=Nat×Value) (fun (j,q)=>[(2,.slice none 0 0),(6,q),(25,.slice A1 us.length c2),(26,.int .i64 ((us.length:Nat):Int)),(27,.int .i64 ((j:Nat):Int))]) (fun (j,q) w=>(Hd w0 F0 w [Y Ag q (BH (us.take j))] [Aa (Ak Ag) (.slice A1 us.length c2) us])∧(j≤us.length)) (fun (j,q)=>us.length - j) (0,v16) ⟨rfl,rfl,rfl,rfl,rfl,trivial⟩ ⟨H,Nat.zero_le _⟩ ?_
 rintro ⟨j,q⟩ w ⟨H,hj⟩
 have hfl:=GV us j
 refine Ab (Ae (V U U (Bg U U U) (Ac (Z (Ab ?_)))))
 refine Ay U (fun h17=>?_) (fun h17=>?_)
 ·refine Av (Z (Ab (AU (Ab (Ae ?_)))))
  obtain ⟨⟨u20,x18⟩,hx19⟩:∃ z9,us[j]?=some z9:=⟨_,List.getElem?_eq_getElem (show j<us.length by omega)⟩
  obtain ⟨A21,c22,rfl,hc23,hm24⟩:=H.nestR 0 rfl hx19
  have th25:=H.thRd 0 rfl hx19
  refine V U U (Bf (p:=AX A1+j*1) U Eh U U (by omega) (by omega) th25 U) (V U U (An U Eb U (H.elRd 0 U hx19 U)) (Ad U (Ac (Z ?_))))
  have hf0:=GV us (j+1)
  rw [H8 hx19,List.length_append] at hf0
  refine Ae (Ah 2 U (CC (xs:=BH (us.take j)) (ys:=x18) U U U Bu CR U (by decide) U U H (by omega) (fun F hA hR=>Gw (hR _ (List.mem_of_getElem? (i:=0) U)) hx19) (fun v26 w H=>(Ad U (Ac (A8 (Z ?_)))))))
  replace H:Hd _ _ _ [Y Ag v26 ((BH (us.take j))++x18)] [Aa (Ak Ag) (.slice A1 us.length c2) us]:=H
  refine Ae (V U U (A9 (z:=((j+1:Nat):Int)) U U U (by rw [AF (by omega) (by omega)];omega)) (Ad U (Ac ?_)))
  replace H:Hd w0 F0 w [Y Ag v26 (BH (us.take (j+1)))] [Aa (Ak Ag) (.slice A1 us.length c2) us]:=by rw [H8 hx19];exact H
  exact Bm (s:=(j,undef)) (j+1,v26) ⟨rfl,rfl,rfl,rfl,rfl,trivial⟩ ⟨H,by (try dsimp only);omega⟩ (by (try dsimp only);omega)
 refine BK (AR (AR (BN (Z (Ab (Ae (Ah 2 U (Ac (Z (Ao (Aq U U ?_)))))))))))
 replace H:Hd w0 F0 w [Y Ag q (BH us)] [Aa (Ak Ag) (.slice A1 us.length c2) us]:=by rw [List.take_of_length_le (show us.length≤j by omega)] at H;exact H
 exact Am U H
theorem Un (vus:Value) (us:List (Value×List Al)) (hb:(BH us).length≤1000000) (hul:us.length≤1000000):
    Cn Tryz.prog 127 [vus] [] [Aa (Ak Ag) vus us] (fun v Bs=>Bs=[Y Ag v (BH us)]):=by
 intro w0 F0 H
 obtain ⟨A1,c2,rfl,hc3,hm4,hp5⟩:=H.fR 0 rfl
 refine enter Tryz.func127 U U (Nat.le_of_ble_eq_true U) (Ab (Ae (Ad U (Ac (Z ?_)))))
 replace H:Hd _ _ _ [] [Aa (Ak Ag) (.slice A1 us.length c2) us]:=H
 refine Ab (Ae (Ad U (sc (SG (.slice A1 us.length c2) us (by first |assumption|omega) (by first |assumption|omega)) H (lR 0 U l0) U U (At UL U U) ?_)))
 rintro v6 _ w rfl H
 replace H:=H.h1 (A:=Y Ag v6 (BH us))
 exact Ad U (Ac (Z (Ao (Aq U U (Am U H)))))
theorem IG (sb:Nat) (st:C1) (a:Int) (b:Int):
    Cn Tryz.prog 122 [.pointer (some ⟨sb,0,none⟩),.int .i64 a,.int .i64 b] [AS 253 sb (st)] [] (fun v Bs=>v=.int .i64 (Ct st a b)∧Bs=[AS 253 sb (st)]):=by
 intro w0 F0 H
 refine enter Tryz.func122 U U (Nat.le_of_ble_eq_true U) (Ab (Ae (Ad U (Ac (Z (Ab (Ab (Ae (Ad U (V U U (C3 U Jy U U) (Ac (Z (Cb U (Av (Z (Ab ?_))))))))))))))))
 obtain ⟨mb1,kvs2,v3,us4,hst5,hnd6,hwk7,hlk8,hof9,H⟩:=H.stgOpen (a,b)
 replace H:Hd _ _ _ [blk sb [.map (some mb1)] 253,Cq BW mb1 (kvs2.map BI),Y (Ak Ag) v3 us4,Bb B8 (CB (a,b) kvs2)] []:=H
 obtain ⟨A10,c11,rfl,hc12,hm13,hp14⟩:=H.fA 2 rfl
 refine Ae (Ad U (V U U (AI U U) (V U U (Aj U GX U) (V U U (An U Hk U (H.cellI 0 U U)) (Ah 2 U (V U U (CL (parts:=[(0,.tmp 13),(1,.tmp 14)]) (vs:=[.int .i64 a,.int .i64 b]) (cs:=[.int .i64 a,.int .i64 b]) U KQ U U) (V U U (Qa IQ U Hl MS U (a,b) U H 1 U (hlk8)) (V U U (A0 U DJ U) (Ad U (Ac (Z (Ao (Aq U U ?_)))))))))))))
 have e:((us4.length:Nat):Int)=Ct st a b:=by unfold Ct;rw [←hof9];simp
 replace H:=Hd.stgShut hst5 hnd6 hwk7 H
 replace H:=H.h1 (A:=AS 253 sb (st))
 exact Am ⟨by rw [e]<;>rfl,rfl⟩ H
theorem QU (a b:Int) (x:List Al):∀ st:C1,Cg (EF st a b x) a b=Cg st a b++[x]
 |[]=>by simp [EF,Cg]
 |e::s=>by
  show Cg (if e.1.1=a∧e.1.2=b then (e.1,e.2++[x])::s else e::EF s a b x) a b=(if e.1.1=a∧e.1.2=b then e.2 else Cg s a b)++[x]
  by_cases h:e.1.1=a∧e.1.2=b
  ·rw [if_pos h,if_pos h];exact if_pos h
  ·rw [if_neg h,if_neg h];exact (if_neg h).trans (QU a b x s)
theorem YQ (st:C1) (a b:Int) (x:List Al):Ct (EF st a b x) a b=Ct st a b+1:=by
 unfold Ct
 rw [QU,List.length_append]
 simp
theorem Zb (sb:Nat) (st:C1) (a:Int) (b:Int) (q:Int) (vps:Value) (ps:List Al) (hps:ps.length≤1000000):
    Cn Tryz.prog 121 [.pointer (some ⟨sb,0,none⟩),.int .i64 a,.int .i64 b,.int .i64 q,vps] [AS 253 sb (st)] [Aa Ag vps ps] (fun v Bs=>v=.int .i64 (Ct (CZ st a b q ps) a b)∧Bs=[AS 253 sb (CZ st a b q ps)]):=by
 intro w0 F0 H
 obtain ⟨A1,c2,rfl,hc3,hm4,hp5⟩:=H.fR 0 rfl
 refine enter Tryz.func121 U U (Nat.le_of_ble_eq_true U) (Ab (Ae (Ad U (Ac (Z ?_)))))
 replace H:Hd _ _ _ [AS 253 sb (st)] [Aa Ag (.slice A1 ps.length c2) ps]:=H
 refine Ab (Ae (Ah 2 U (V U U (CL (parts:=[(0,.tmp 13),(1,.tmp 14)]) (vs:=[.int .i64 a,.int .i64 b]) (cs:=[.int .i64 a,.int .i64 b]) U KQ U U) (Dr U U U Rw H (fun b6 w H=>(Bk U U U KD U U H U (Nat.le_of_ble_eq_true U) (fun u hu=>by simp [Value.cells] at hu;rcases hu with rfl|rfl<;>rfl) (fun w H=>?_)))))))
 replace H:=H.h1 (A:=blk b6 [.int .i64 a,.int .i64 b] 250)
 refine Ac (Z (Ab (Ae (Ah 3 U ?_))))
 replace H:=H.p1
 refine sc (IG sb st a b) H l0 U U (At Ih U U) ?_
 rintro _ _ w ⟨rfl,rfl⟩ H
 refine Ad U (Ac (Z (Ab (Ab (Ae (Ad U (V U U (C3 U Jy U U) (Ah 3 U (V U U (C8 U U U) (Ah 2 U ?_))))))))))
 refine AQ (d:=27) U (fun h7=>?_) (fun h7=>?_)
 ·refine Ah 12 U (Ah 7 U (Ac (Z (Cc U (Ab (Ae (Ah 2 U (Ac (Z (Ao (Az (Aq U U ?_))))))))))))
  have e:CZ st a b q ps=st:=if_neg (fun h=>by obtain ⟨h1,h2,h3,h4⟩:=h;omega)
  replace H:=H.k1
  exact Am ⟨by rw [e]<;>rfl,by rw [e]<;>rfl⟩ H
 refine Ad U (V U U (Bg U U U) (Ah 2 U ?_))
 refine AQ (d:=31) U (fun h8=>?_) (fun h8=>?_)
 ·refine Ah 12 U (Ah 3 U (Ac (Z (Cc U (Ab (Ae (Ah 2 U (Ac (Z (Ao (Az (Aq U U ?_))))))))))))
  have e:CZ st a b q ps=st:=if_neg (fun h=>by obtain ⟨h1,h2,h3,h4⟩:=h;omega)
  replace H:=H.k1
  exact Am ⟨by rw [e]<;>rfl,by rw [e]<;>rfl⟩ H
 refine Ad U (V U U (CA U U U) (Ah 2 U ?_))
 refine AQ (d:=35) U (fun h9=>?_) (fun h9=>?_)
 ·refine Ah 11 U (Ac (Z (Cc U (Ab (Ae (Ah 2 U (Ac (Z (Ao (Az (Aq U U ?_)))))))))))
  have e:CZ st a b q ps=st:=if_neg (fun h=>by obtain ⟨h1,h2,h3,h4⟩:=h;omega)
  replace H:=H.k1
  exact Am ⟨by rw [e]<;>rfl,by rw [e]<;>rfl⟩ H
 refine Ad U (V U U (Bg U U U) (Ah 2 U ?_))
 refine AQ (d:=39) U (fun h10=>?_) (fun h10=>?_)
 ·refine Ah 7 U (Ac (Z (Cc U (Ab (Ae (Ah 2 U (Ac (Z (Ao (Az (Aq U U ?_)))))))))))
  have e:CZ st a b q ps=st:=if_neg (fun h=>by obtain ⟨h1,h2,h3,h4⟩:=h;omega)
  replace H:=H.k1
  exact Am ⟨by rw [e]<;>rfl,by rw [e]<;>rfl⟩ H
 refine Ad U (V U U (Cd U U U) (Ah 2 U ?_))
 refine AQ (d:=43) U (fun h11=>?_) (fun h11=>?_)
 ·refine Ah 3 U (Ac (Z (Cc U (Ab (Ae (Ah 2 U (Ac (Z (Ao (Az (Aq U U ?_)))))))))))
  have e:CZ st a b q ps=st:=if_neg (fun h=>by obtain ⟨h1,h2,h3,h4⟩:=h;omega)
  replace H:=H.k1
  exact Am ⟨by rw [e]<;>rfl,by rw [e]<;>rfl⟩ H
 refine Ad U (V U U (CA U U U) (Ad U (Ac (Z ?_))))
 refine Ay U (fun h12=>?_) (fun h12=>?_)
 ·refine Ab (Ae (Ah 2 U (Ac (Z (Ao (Az (Aq U U ?_)))))))
  have e:CZ st a b q ps=st:=if_neg (fun h=>by obtain ⟨h1,h2,h3,h4⟩:=h;omega)
  replace H:=H.k1
  exact Am ⟨by rw [e]<;>rfl,by rw [e]<;>rfl⟩ H
 refine Av (Z (Ab ?_))
 have hmay:Jo st a b q:=⟨by omega,by omega,by omega,by omega⟩
 have hq0:=hmay.1
 have hq1:=hmay.2.2.2
 unfold Ct at hq0
 obtain ⟨mb13,kvs14,v15,us16,hst17,hnd18,hwk19,hlk20,hof21,H⟩:=H.stgOpen (a,b)
 replace H:=H.h4 (A:=blk sb [.map (some mb13)] 253) (B:=Cq BW mb13 (kvs14.map BI)) (C:=Y (Ak Ag) v15 us16) (D:=Bb B8 (CB (a,b) kvs14))
 have hul:us16.length=(Cg st a b).length:=by have:=congrArg List.length hof21;simpa using this
 obtain ⟨A22,c23,rfl,hc24,hm25,hp26⟩:=H.fA 2 rfl
 replace H:=H.p4.p4.p2
 refine BX (.e 0 (.e 1 (.e 2 (.e 3 (.e 4 (.e 5 (.m 6 (.m 7 (.m 8 (.e 9 (.e 11 (.m 10 (.m 12 .z))))))))))))) (fun w=>∃ Ar,Hd w0 F0 w (blk sb [.map (some mb13)] 253::Bb B8 (CB (a,b) kvs14)::blk b6 [.int .i64 a,.int .i64 b] 250::Ar) [Aa Ag (.slice A1 ps.length c2) ps]) mo (by kernel_rfl) (fun w H=>⟨_,H⟩) H (fun w H=>(Ax U (Ap U U U (fun w ⟨Ar,H⟩=>AI U U) (Ap U U U (fun w ⟨Ar,H⟩=>Aj U GX U) (Ap U U U (fun w ⟨Ar,H⟩=>An U Hk U (H.cellI 0 U U)) (Ap U U U (fun w ⟨Ar,H⟩=>Bv (cs:=[.int .i64 a,.int .i64 b]) U KD U U (H.cellsI 2 U U)) (Ax U (AL U (sc (HW (.slice A1 ps.length c2) ps (by first |assumption|omega)) H (lR 0 U l0) U U (At Ii U U) ?_)))))))))
 rintro v27 _ w rfl H
 replace H:=H.h1 (A:=Y Ag v27 ps)|>.p3|>.p3|>.p3
 refine AH ⟨_,H⟩ (AL U ?_)
 obtain ⟨A29,c30,rfl,hc31,hm32,hp33⟩:=H.fA 3 rfl
 refine BT (parts:=[(0,.tmp 55)]) (vs:=[.slice A29 ps.length c30]) (cs:=[.slice A29 ps.length c30]) U U U Eh Hq U (by decide) (by decide) U U H (fun b28 w H=>?_)
 replace H:Hd _ _ _ [blk b28 [.slice A29 ps.length c30] 35,blk sb [.map (some mb13)] 253,Bb B8 (CB (a,b) kvs14),blk b6 [.int .i64 a,.int .i64 b] 250,Y Ag (.slice A29 ps.length c30) ps,Cq BW mb13 (kvs14.map BI),Y (Ak Ag) (.slice A22 us16.length c23) us16] [Aa Ag (.slice A1 ps.length c2) ps]:=H
 replace H:=H.p3.p3.p3
 refine AH ⟨_,H⟩ (AL U ?_)
 replace H:=H.p5
 refine YA IQ U U U Hl MS U (a,b) U H (fun st34 w H=>?_)
 rw [show (EA (a,b) (kvs14.map BI)).getD (.slice none 0 0)=(.slice A22 us16.length c23) from hlk20] at H ⊢
 replace H:Hd _ _ _ [L1 BW mb13 (DG (a,b) (.slice A22 us16.length c23) (kvs14.map BI)) (a,b) st34,blk sb [.map (some mb13)] 253,Bb B8 (CB (a,b) kvs14),blk b6 [.int .i64 a,.int .i64 b] 250,blk b28 [.slice A29 ps.length c30] 35,Y Ag (.slice A29 ps.length c30) ps,Y (Ak Ag) (.slice A22 us16.length c23) us16] [Aa Ag (.slice A1 ps.length c2) ps]:=H
 replace H:=H.p3.p3.p3
 refine AH ⟨_,H⟩ (Ax U (Ax U (AL U ?_)))
 replace H:=H.p6.p6.p6.p2
 refine FO U U U Eh Hq U (by decide) U U H (by first |omega|(simp only [List.length_append,List.length_cons,List.length_nil];omega)) (fun v35 w H=>?_)
 replace H:=H.h1 (A:=Y (Ak Ag) v35 (us16++[((.slice A29 ps.length c30:Value),ps)]))|>.p3|>.p3|>.p3
 refine AH ⟨_,H⟩ (AL U ?_)
 replace H:=H.p4
 refine YE U U U U (a,b) U U IQ.inj H (fun w H=>?_)
 replace H:=H.h1 (A:=Cq BW mb13 (DG (a,b) v35 (DG (a,b) (.slice A22 us16.length c23) (kvs14.map BI))))
 rw [QT] at H
 replace H:Hd _ _ _ [Cq BW mb13 (DG (a,b) v35 (kvs14.map BI)),blk sb [.map (some mb13)] 253,Bb B8 (CB (a,b) kvs14),blk b6 [.int .i64 a,.int .i64 b] 250,Y (Ak Ag) v35 (us16++[((.slice A29 ps.length c30:Value),ps)])] [Aa Ag (.slice A1 ps.length c2) ps]:=H
 replace H:=H.p3.p3.p3
 refine AH ⟨_,H⟩ (BL (Z (Ab (Ae (Ad U (V U U (A9 (z:=(Ct st a b)+1) U U U (AF (by omega) (by omega))) (Ad U (Ac (Z (Ao (Aq U U ?_)))))))))))
 replace H:=H.p1.p4.p4.p3
 replace H:=Hd.stgPut (k:=(a,b)) (x:=ps) hst17 hnd18 hof21 (by simp) H
 replace H:=H.h1 (A:=AS 253 sb (EF st a b ps))|>.k1
 have e:CZ st a b q ps=EF st a b ps:=if_pos hmay
 have e2:Ct (EF st a b ps) a b=Ct st a b+1:=YQ st a b ps
 exact Am ⟨by rw [e,e2]<;>rfl,by rw [e]<;>rfl⟩ H
theorem Zc (sb:Nat) (st:C1) (a:Int) (b:Int) (n:Int) (hb:(Cg st a b).flatten.length≤1000000) (hb2:(Cg st a b).length≤1000000):
    Cn Tryz.prog 171 [.pointer (some ⟨sb,0,none⟩),.int .i64 a,.int .i64 b,.int .i64 n] [AS 253 sb (st)] [] (fun v Bs=>∃ u:Value,v=.tuple #[u,.bool ((AC st a b n).isSome)]∧Bs=[Y Ag u ((AC st a b n).getD []),AS 253 sb (st)]):=by
 intro w0 F0 H
 refine enter Tryz.func171 U U (Nat.le_of_ble_eq_true U) (Ab (Ae (Ah 2 U (Ac (Z (Ab (Ab (Ae (Ad U (V U U (C3 U Jy U U) (Ah 2 U (V U U (Bg U U U) (Ah 2 U ?_)))))))))))))
 refine AQ (d:=16) U (fun h1=>?_) (fun h1=>?_)
 ·refine Ah 7 U (Ac (Z (Cc U (Ab (Ae (Ah 2 U (Ac (Z (Ao (Az (Cv U U U ?_)))))))))))
  have e:AC st a b n=none:=if_pos (by omega)
  replace H:=H.newnil Ag
  replace H:Hd _ _ _ [Y Ag (.slice none 0 0) [],AS 253 sb (st)] []:=H
  replace H:Hd w0 F0 w0 [Y Ag (.slice none 0 0) ((AC st a b n).getD []),AS 253 sb (st)] []:=by rw [e];exact H
  replace H:Hd _ _ _ [Y Ag (.slice none 0 0) ((AC st a b n).getD []),AS 253 sb (st)] []:=H
  exact Am ⟨_,by rw [e];rfl,rfl⟩ H
 refine Ah 3 U (sc (IG sb st a b) H l0 U U (At Ih U U) ?_)
 rintro _ _ w ⟨rfl,rfl⟩ H
 refine Ad U (V U U (C8 U U U) (Ad U (Ac (Z ?_))))
 replace H:Hd _ _ _ [AS 253 sb (st)] []:=H
 refine Ay U (fun h2=>?_) (fun h2=>?_)
 ·refine Ab (Ae (Ah 2 U (Ac (Z (Ao (Az (Cv U U U ?_)))))))
  have e:AC st a b n=none:=if_pos (by omega)
  replace H:=H.newnil Ag
  replace H:Hd w0 F0 w [Y Ag (.slice none 0 0) ((AC st a b n).getD []),AS 253 sb (st)] []:=by rw [e];exact H
  exact Am ⟨_,by rw [e];rfl,rfl⟩ H
 refine Av (Z (Ab ?_))
 obtain ⟨mb3,kvs4,v5,us6,hst7,hnd8,hwk9,hlk10,hof11,H⟩:=H.stgOpen (a,b)
 replace H:=H.h4 (A:=blk sb [.map (some mb3)] 253) (B:=Cq BW mb3 (kvs4.map BI)) (C:=Y (Ak Ag) v5 us6) (D:=Bb B8 (CB (a,b) kvs4))
 have hul:us6.length=(Cg st a b).length:=by have:=congrArg List.length hof11;simpa using this
 have hfl:BH us6=(Cg st a b).flatten:=by rw [←hof11];rfl
 have hfb:(BH us6).length≤1000000:=by rw [hfl];exact hb
 obtain ⟨A12,c13,rfl,hc14,hm15,hp16⟩:=H.fA 2 rfl
 refine Ae (Ad U (V U U (AI U U) (V U U (Aj U GX U) (V U U (An U Hk U (H.cellI 0 U U)) (Ah 2 U (V U U (CL (parts:=[(0,.tmp 28),(1,.tmp 29)]) (vs:=[.int .i64 a,.int .i64 b]) (cs:=[.int .i64 a,.int .i64 b]) U KQ U U) (V U U (Qa IQ U Hl MS U (a,b) U H 1 U (hlk10)) (sc (Un (.slice A12 us6.length c13) us6 (by first |assumption|omega) (by first |assumption|omega)) H (lA 2 U BS l0) U U (At UA U U) ?_))))))))
 rintro v17 _ w rfl H
 replace H:=H.h1 (A:=Y Ag v17 (BH us6))
 refine Ah 2 U (Ac (Z (Ao (Cv U U U ?_))))
 replace H:=H.p4.p4.p4.p4
 replace H:=Hd.stgShut hst7 hnd8 hwk9 H
 replace H:=H.h1 (A:=AS 253 sb (st))
 have e:AC st a b n=some (Cg st a b).flatten:=if_neg (by omega)
 replace H:Hd w0 F0 w [AS 253 sb (st),Y Ag v17 ((AC st a b n).getD [])] []:=by rw [e,Option.getD_some,←hfl];exact H
 replace H:=H.p1
 exact Am ⟨_,by rw [e];rfl,rfl⟩ H
theorem Y9 (sb:Nat) (st:C1):
    Cn Tryz.prog 130 [.pointer (some ⟨sb,0,none⟩)] [AS 253 sb (st)] [] (fun v Bs=>v=.int .i64 ((st.length:Nat):Int)∧Bs=[AS 253 sb (st)]):=by
 intro w0 F0 H
 refine enter Tryz.func130 U U (Nat.le_of_ble_eq_true U) (Ab (Ae (Ad U (Ac (Z (Ab (Ab (Ae (Ad U (V U U (C3 U Jy U U) (Ac (Z (Cb U (Av (Z (Ab ?_))))))))))))))))
 obtain ⟨mb1,kvs2,hst3,hnd4,H⟩:=H.stgA
 replace H:Hd _ _ _ [blk sb [.map (some mb1)] 253,Cq BW mb1 (kvs2.map BI),Bb B8 kvs2] []:=H
 refine Ae (Ad U (V U U (AI U U) (V U U (Aj U GX U) (V U U (An U Hk U (H.cellI 0 U U)) (V U U (Mr U Hl U H 1 U) (Ad U (Ac (Z (Ao (Aq U U ?_))))))))))
 have e:(kvs2.map BI).length=st.length:=by rw [←hst3];simp
 replace H:=Hd.stgC (st:=st) hst3 H
 replace H:=H.h1 (A:=AS 253 sb (st))
 exact Am ⟨by rw [e]<;>rfl,rfl⟩ H
theorem Y_ (sb:Nat) (st:C1) (a:Int):
    Cn Tryz.prog 172 [.pointer (some ⟨sb,0,none⟩),.int .i64 a] [AS 253 sb (st)] [] (fun v Bs=>∃ z:Int,v=.int .i64 z∧Bs=[AS 253 sb (D1 st a)]):=by
 intro w0 F0 H
 refine enter Tryz.func172 U U (Nat.le_of_ble_eq_true U) (Ab (Ae (Ad U (Ac (Z (Ab (Ab (Ae (Ad U (V U U (C3 U Jy U U) (Ac (Z (Cb U (Av (Z (Ab ?_))))))))))))))))
 obtain ⟨mb1,kvs2,hst3,hnd4,H⟩:=H.stgA
 replace H:Hd _ _ _ [blk sb [.map (some mb1)] 253,Cq BW mb1 (kvs2.map BI),Bb B8 kvs2] []:=H
 refine Ae (Ad U (V U U (AI U U) (V U U (Aj U GX U) (V U U (An U Hk U (H.cellI 0 U U)) (V U U (Mr U Hl U H 1 U) (Ad U (Ac (Z (Ab (Ab (Ae (Ad U (V U U (AI U U) (V U U (Aj U GX U) (V U U (An U Hk U (H.cellI 0 U U)) ?_)))))))))))))))
 replace H:=H.p1
 refine YI U U U Hl U H (fun it5 w H=>?_)
 replace H:=H.h1 (A:=E2 BW mb1 it5 (kvs2.map BI) [])
 refine Ac (Z (AU ?_))
 replace H:=H.p1
 refine BV (σ:=List CF×List (Nat×(Int×Int))) (fun (kvs,ps)=>[(0,.pointer (some ⟨sb,0,none⟩)),(1,.int .i64 a),(4,.int .i64 0),(5,.int .i64 (((kvs2.map BI).length:Nat):Int)),(18,.pointer (some ⟨it5,0,none⟩))]) (fun (kvs,ps) w=>(Hd w0 F0 w [blk sb [.map (some mb1)] 253,E2 BW mb1 it5 (kvs.map BI) ps,Bb B8 kvs] [])∧(D3 (kvs.map BI))∧(GA a kvs=GA a kvs2)∧(ID a kvs ps)) (fun (kvs,ps)=>Hn kvs ps) (kvs2,[]) ⟨rfl,rfl,rfl,rfl,rfl,trivial⟩ ⟨H,hnd4,rfl,fun e _ h=>by cases h⟩ ?_
 rintro ⟨kvs,ps⟩ w ⟨H,hn,ho,hs⟩
 refine Ab (Ae ?_)
 replace H:=H.p1.h3 (A:=E2 BW mb1 it5 (kvs.map BI) ps) (C:=Bb B8 kvs)
 refine YG IQ.inj U U U U H (fun r6 ps7 w hr8 H=>?_)
 replace H:=H.h1 (A:=E2 BW mb1 it5 (kvs.map BI) ps7)
 refine V U U (XL (enc:=BW) U U) (Ac (Z (Ab ?_)))
 refine Dv (b:=r6.isSome) U (fun h9=>?_) (fun h9=>?_)
 ·obtain ⟨⟨⟨ka10,kb11⟩,pv12⟩,rfl⟩:=Option.isSome_iff_exists.1 h9
  obtain ⟨hpm13,hpn14,s15,rfl⟩:=hr8
  refine Av (Z (AU (Ab (Ae (V U U ((show Br _ _ _ _ _ (.tuple #[.agg #[.int .i64 ka10,.int .i64 kb11],pv12]) _ from XB (p:=((ka10,kb11),pv12)) U U hpm13 H 0 U)) (Ad U (Dr U U U Rw H (fun b16 w H=>(Bk U U U KD U U H U (Nat.le_of_ble_eq_true U) (fun u hu=>by simp [Value.cells] at hu;rcases hu with rfl|rfl<;>rfl) (fun w H=>?_))))))))))
  replace H:=H.h1 (A:=blk b16 [.int .i64 ka10,.int .i64 kb11] 250)
  refine Ac (Z (Ab (Ae (V U U (Aj U TC U) (V U U (An U AE U (H.cellI 0 U U)) (Ad U (V U U (Bp U U U) (Ac (Z ?_)))))))))
  refine Ay U (fun h17=>?_) (fun h17=>?_)
  ·replace H:=H.p3.p3.p2
   refine BX (.e 0 (.e 1 (.e 2 (.e 3 (.e 4 (.m 5 .z)))))) (fun w=>∃ Ar,Hd w0 F0 w (blk b16 [.int .i64 ka10,.int .i64 kb11] 250::blk sb [.map (some mb1)] 253::Bb B8 kvs::Ar) []) mo (by kernel_rfl) (fun w H=>⟨_,H⟩) H (fun w H=>(Ax U (Ap U U U (fun w ⟨Ar,H⟩=>AI U U) (Ap U U U (fun w ⟨Ar,H⟩=>Aj U GX U) (Ap U U U (fun w ⟨Ar,H⟩=>An U Hk U (H.cellI 1 U U)) (Ap U U U (fun w ⟨Ar,H⟩=>Bv (cs:=[.int .i64 ka10,.int .i64 kb11]) U KD U U (H.cellsI 0 U U)) (AL U ?_)))))))
   replace H:=H.p3
   refine Yz IQ U U U Hl U (ka10,kb11) U H (fun w H=>?_)
   replace H:=H.h1 (A:=E2 BW mb1 it5 (Gm (ka10,kb11) (kvs.map BI)) (ps++[(s15,(ka10,kb11))]))|>.p3|>.p3|>.p3
   refine AH ⟨_,H⟩ (BL (A8 ?_))
   replace H:=H.p3.p2.p3.k3
   replace H:=Hd.stgX (ka10,kb11) hn H
   rw [Q5] at H
   replace H:Hd _ _ _ [Bb B8 (CB (ka10,kb11) kvs),blk sb [.map (some mb1)] 253,E2 BW mb1 it5 ((CB (ka10,kb11) kvs).map BI) (ps++[(s15,(ka10,kb11))])] []:=H
   replace H:=H.p2.p2
   have hn2:D3 ((CB (ka10,kb11) kvs).map BI):=by rw [←Q5];exact KZ hn
   exact Bm (s:=(kvs,ps)) (CB (ka10,kb11) kvs,ps++[(s15,(ka10,kb11))]) ⟨rfl,rfl,rfl,rfl,rfl,trivial⟩ ⟨H,hn2,(WF h17).trans ho,YL hs⟩ (by exact Rl hpm13 hpn14 (.inr U))
  refine Av (A8 ?_)
  replace H:=H.p3.p2.p3.k3
  exact Bm (s:=(kvs,ps)) (kvs,ps++[(s15,(ka10,kb11))]) ⟨rfl,rfl,rfl,rfl,rfl,trivial⟩ ⟨H,hn,ho,YN hs h17⟩ (by exact Rl hpm13 hpn14 (.inl U))
 obtain rfl:r6=none:=by cases r6 with |none=>rfl|some _=>cases h9
 have hall:=hr8.2
 rw [hr8.1] at H
 replace H:Hd _ _ _ [E2 BW mb1 it5 (kvs.map BI) ps,blk sb [.map (some mb1)] 253,Bb B8 kvs] []:=H
 refine BK (AR (AR (BN (Z (Ab ?_)))))
 replace H:=H.mapRK|>.h1 (A:=Cq BW mb1 (kvs.map BI))
 have hend:kvs.map DQ=D1 st a:=by rw [←YM hs hall,ho,WB,hst3]
 refine Ae (Ah 2 U (V U U (AI U U) (V U U (Aj U GX U) (V U U (An U Hk U (H.cellI 1 U U)) (V U U (Mr U Hl U H 0 U) (V U U (Ck (z:=IntKind.i64.wrap ((((kvs2.map BI).length:Nat):Int) - (((kvs.map BI).length:Nat):Int))) U U U U) (Ad U (Ac (Z (Ao (Aq U U ?_)))))))))))
 replace H:=H.p2.p1.p2
 replace H:=Hd.stgC (st:=D1 st a) hend H
 replace H:=H.h1 (A:=AS 253 sb (D1 st a))
 exact Am ⟨_,rfl,rfl⟩ H
end Go.Proofs.YthgehekecfpikaaGreatDoor.X
