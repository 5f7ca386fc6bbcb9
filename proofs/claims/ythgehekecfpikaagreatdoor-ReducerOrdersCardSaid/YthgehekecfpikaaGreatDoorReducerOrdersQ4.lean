/- ReducerOrders: texts P3, XE, F2, XJob, J1, XJob2, XCfg, XRed, XOb, XRed2, C1, XStg, N1, N2, J2, J3, joined by a program of ours; what nothing names is left out. -/
import Derived.Test.YthgehekecfpikaaGreatDoorReducerOrdersQ3
import Derived.KernelRfl
set_option linter.unusedVariables false
set_option linter.unusedSimpArgs false
set_option maxHeartbeats 8000000
namespace Go.Proofs.YthgehekecfpikaaGreatDoor.X
open Go
theorem QO (v1 v2:Value) (xs ys:List Al):
    Cn Tryz.prog 25 [v1,v2] [] [Aa Ag v1 xs,Aa Ag v2 ys] (fun v Bs=>v=.bool (decide (xs=ys))∧Bs=[]):=by
 intro w0 F0 H
 obtain ⟨A1,c2,rfl,hc3,hm4,hp5⟩:=H.fR 0 rfl
 obtain ⟨A6,c7,rfl,hc8,hm9,hp10⟩:=H.fR 1 rfl
 refine enter Tryz.func25 U U (Nat.le_of_ble_eq_true U) (Ab (Ae (Ad U (Ac (Z ?_)))))
 replace H:Hd _ _ _ [] [Aa Ag (.slice A1 xs.length c2) xs,Aa Ag (.slice A6 ys.length c7) ys]:=H
 refine Ab (Ab (Ae (Ad U (V U U (A0 U CD U) (Ad U (V U U (A0 U CD U) (V U U (C8 U U U) (Ac (Z ?_)))))))))
 refine Ay U (fun h11=>?_) (fun h11=>?_)
 ·refine Ab (Ae (Ad U (Ac (Z (Ao (Az (Aq U U ?_)))))))
  have e:¬ xs=ys:=fun e=>h11 (by rw [e])
  exact Am ⟨by rw [decide_eq_false e]<;>rfl,rfl⟩ H
 refine Av (Z (Ab (Ab (Ae (Ad U (Ac (Z (AU ?_))))))))
 have hle:xs.length=ys.length:=by omega
 refine BV (σ:=Nat) (fun k=>[(0,.slice A1 xs.length c2),(1,.slice A6 ys.length c7),(5,.int .i64 ((k:Nat):Int))]) (fun k w=>(Hd w0 F0 w [] [Aa Ag (.slice A1 xs.length c2) xs,Aa Ag (.slice A6 ys.length c7) ys])∧(k≤xs.length)∧(xs.length=ys.length)∧(xs.take k=ys.take k)) (fun k=>xs.length - k) 0 ⟨rfl,rfl,rfl,trivial⟩ ⟨H,by omega,hle,rfl⟩ ?_
 rintro k w ⟨H,hk,hle,ht⟩
 refine Ab (Ab (Ae (Ah 2 U (V U U (A0 U CD U) (V U U (Bg U U U) (Ac (Z ?_)))))))
 refine Ay U (fun h12=>?_) (fun h12=>?_)
 ·refine Av (Z (Ab (AU (Ab (Gk mo (by kernel_rfl) H (GI 2 U ?_))))))
  obtain ⟨x13,hx14⟩:∃ z9,xs[k]?=some z9:=⟨_,List.getElem?_eq_getElem (show k<xs.length by omega)⟩
  have th15:=H.thR 0 rfl hx14
  refine BG U U (fun w H=>Bf (p:=AX A1+k*2) U Bu U U (by omega) (by omega) th15 U) (BG U U (fun w H=>Bv (cs:=[.string x13.key,.string x13.val]) U B9 U U (H.elsR 0 U hx14 U)) (GI 2 U ?_))
  obtain ⟨x16,hx17⟩:∃ z9,ys[k]?=some z9:=⟨_,List.getElem?_eq_getElem (show k<ys.length by omega)⟩
  have th18:=H.thR 1 rfl hx17
  refine BG U U (fun w H=>Bf (p:=AX A6+k*2) U Bu U U (by omega) (by omega) th18 U) (BG U U (fun w H=>Bv (cs:=[.string x16.key,.string x16.val]) U B9 U U (H.elsR 1 U hx17 U)) (BG U U (fun w H=>XJ (p:=x13) (q:=x16) U Tm U U) (Ge (fun w H=>(Z ?_)))))
  refine Ay U (fun h19=>?_) (fun h19=>?_)
  ·refine Ab (Ae (Ad U (Ac (Z (Ao (A_ (Az (Az (A_ (Az (Aq U U ?_)))))))))))
   have e:¬ xs=ys:=fun e=>h19 (by rw [e,hx17] at hx14;exact (Option.some.inj hx14).symm)
   exact Am ⟨by rw [decide_eq_false e]<;>rfl,rfl⟩ H
  refine Av (A8 (Z (Ae (Ad U (V U U (A9 (z:=((k+1:Nat):Int)) U U U (by rw [AF (by omega) (by omega)];omega)) (Ad U (Ac ?_)))))))
  have e:x13=x16:=Classical.not_not.1 h19
  subst e
  exact Bm (s:=k) (k+1) ⟨rfl,rfl,rfl,trivial⟩ ⟨H,by omega,hle,Q_ hx14 hx17 ht⟩ (by (try dsimp only);omega)
 refine BK (AR (AR (BN (Z (Ab (Ae (Ad U (Ac (Z (Ao (Aq U U ?_)))))))))))
 have e:xs=ys:=by rw [←HI (xs:=xs) (k:=k) (by omega),←HI (xs:=ys) (k:=k) (by omega)];exact ht
 exact Am ⟨by rw [decide_eq_true e]<;>rfl,rfl⟩ H
theorem T1 (vxs:Value) (xs:List Al) (n:Int):
    Cn Tryz.prog 23 [vxs,.int .i64 n] [] [Aa Ag vxs xs] (fun v Bs=>v=.bool (Fg xs n)∧Bs=[]):=by
 intro w0 F0 H
 obtain ⟨A1,c2,rfl,hc3,hm4,hp5⟩:=H.fR 0 rfl
 refine enter Tryz.func23 U U (Nat.le_of_ble_eq_true U) (Ab (Ae (Ad U (Ac (Z ?_)))))
 replace H:Hd _ _ _ [] [Aa Ag (.slice A1 xs.length c2) xs]:=H
 refine Ab (Ab (Ae (Ad U (Ac (Z (AU (BV (σ:=Nat) (fun k=>[(0,.slice A1 xs.length c2),(1,.int .i64 n),(5,.int .i64 ((k:Nat):Int))]) (fun k w=>(Hd w0 F0 w [] [Aa Ag (.slice A1 xs.length c2) xs])∧(k≤xs.length)∧(∀ y∈xs.take k,y.key.size≤100∧y.val.size≤100)) (fun k=>xs.length - k) 0 ⟨rfl,rfl,rfl,trivial⟩ ⟨H,by omega,by simp⟩ ?_)))))))
 rintro k w ⟨H,hk,hn⟩
 refine Ab (Ab (Ae (Ah 2 U (V U U (A0 U CD U) (V U U (Bg U U U) (Ad U ?_))))))
 refine AQ (d:=10) U (fun h6=>?_) (fun h6=>?_)
 ·refine Ad U (V U U (A0 U CD U) (Ad U (V U U (Cj U U U) (Ad U (Ac (Z ?_))))))
  refine Ay U (fun h7=>?_) (fun h7=>?_)
  ·refine Av (Z (Ab (AU (Ab (Ae (Ah 2 U ?_))))))
   obtain ⟨x8,hx9⟩:∃ z9,xs[k]?=some z9:=⟨_,List.getElem?_eq_getElem (show k<xs.length by omega)⟩
   have th10:=H.thR 0 rfl hx9
   refine V U U (Bf (p:=AX A1+k*2) U Bu U U (by omega) (by omega) th10 U) (V U U (Aj U Fe U) (V U U (An U BU U (H.elR 0 U hx9 (q:=0) U U)) (V U U (Do U Cu U) (V U U (Cd U U U) (Ad U ?_)))))
   refine AQ (d:=25) U (fun h11=>?_) (fun h11=>?_)
   ·exact Ah 8 U (Ac (Z (Cc U (Ab (Ae (Ad U (Ac (Z (Ao (A_ (Az (Az (A_ (Az (Aq U U (Am ⟨congrArg Value.bool (Ow hx9 (by omega)),rfl⟩ H))))))))))))))))
   refine Ah 2 U ?_
   have th12:=H.thR 0 rfl hx9
   refine V U U (Bf (p:=AX A1+k*2) U Bu U U (by omega) (by omega) th12 U) (V U U (Aj U H9 U) (V U U (An U BU U (H.elR 0 U hx9 (q:=1) U U)) (V U U (Do U Cu U) (V U U (Cd U U U) (Ad U (Ac (Z ?_)))))))
   refine Ay U (fun h13=>?_) (fun h13=>?_)
   ·exact Ab (Ae (Ad U (Ac (Z (Ao (A_ (Az (Az (A_ (Az (Aq U U (Am ⟨congrArg Value.bool (Ow hx9 (by omega)),rfl⟩ H))))))))))))
   exact Av (A8 (Z (Ae (Ad U (V U U (A9 (z:=((k+1:Nat):Int)) U U U (by rw [AF (by omega) (by omega)];omega)) (Ad U (Ac (Bm (s:=k) (k+1) ⟨rfl,rfl,rfl,trivial⟩ ⟨H,by (try dsimp only);omega,Jt hn hx9 (by omega)⟩ (by (try dsimp only);omega)))))))))
  exact BK (AR (AR (BN (Z (Ab (Ae (Ad U (V U U (A0 U CD U) (Ad U (V U U (Cd U U U) (Ad U (Ac (Z (Ao (Aq U U (Am ⟨congrArg Value.bool (Ov hn (by omega)),rfl⟩ H))))))))))))))))
 exact Ah 5 U (Ac (Z (Cb U (BK (AR (AR (BN (Z (Ab (Ae (Ad U (V U U (A0 U CD U) (Ad U (V U U (Cd U U U) (Ad U (Ac (Z (Ao (Aq U U (Am ⟨congrArg Value.bool (Ov hn (by omega)),rfl⟩ H))))))))))))))))))))
theorem W6 (vxs:Value) (xs:List Al) (key:ByteArray) (hb:xs.length≤1000000):
    Cn Tryz.prog 212 [vxs,.string key] [] [Aa Ag vxs xs] (fun v Bs=>Bs=[Y Bi v (BP xs key)]):=by
 intro w0 F0 H
 obtain ⟨A1,c2,rfl,hc3,hm4,hp5⟩:=H.fR 0 rfl
 refine enter Tryz.func212 U U (Nat.le_of_ble_eq_true U) (Ab (Ae (Ad U (Ac (Z ?_)))))
 replace H:Hd _ _ _ [] [Aa Ag (.slice A1 xs.length c2) xs]:=H
 refine Ab (Ae (Ad U (Ac (Z (Ab (Ab (Ae (Ad U (V U U (A0 U CD U) (Ad U (Ac (Z (AU ?_)))))))))))))
 replace H:=H.newnil Bi
 refine BV (σ:=Nat×Value) (fun (k,l)=>[(1,.string key),(4,.slice none 0 0),(5,l),(8,.slice A1 xs.length c2),(9,.int .i64 ((xs.length:Nat):Int)),(10,.int .i64 ((k:Nat):Int))]) (fun (k,l) w=>(Hd w0 F0 w [Y Bi l (BP (xs.take k) key)] [Aa Ag (.slice A1 xs.length c2) xs])∧(k≤xs.length)) (fun (k,l)=>xs.length - k) (0,.slice none 0 0) ⟨rfl,rfl,rfl,rfl,rfl,rfl,trivial⟩ ⟨H,by (try dsimp only);omega⟩ ?_
 rintro ⟨k,l⟩ w ⟨H,hk⟩
 have hjl:=WA (xs.take k) key
 have hjt:(xs.take k).length≤xs.length:=by simp;omega
 refine Ab (Ae (V U U (Bg U U U) (Ac (Z (Ab ?_)))))
 refine Ay U (fun h6=>?_) (fun h6=>?_)
 ·refine Av (Z (Ab (AU (Ab (Ae ?_)))))
  obtain ⟨x7,hx8⟩:∃ z9,xs[k]?=some z9:=⟨_,List.getElem?_eq_getElem (show k<xs.length by omega)⟩
  have th9:=H.thR 0 rfl hx8
  refine V U U (Bf (p:=AX A1+k*2) U Bu U U (by omega) (by omega) th9 U) (V U U (Bv (cs:=[.string x7.key,.string x7.val]) U B9 U U (H.elsR 0 U hx8 U)) (Dr U U U CR H (fun b10 w H=>(Bk U U U B9 U U H U (Nat.le_of_ble_eq_true U) (fun u hu=>by simp [Value.cells] at hu;rcases hu with rfl|rfl<;>rfl) (fun w H=>?_)))))
  replace H:=H.h2 (A:=blk b10 [.string x7.key,.string x7.val] 106) (B:=Y Bi l (BP (xs.take k) key))
  refine Ac (Z (Ab (Ae (V U U (Aj U Fe U) (V U U (An U BU U (H.cellI 0 U U)) (Ad U (V U U (Mq U U U) (Ac (Z ?_)))))))))
  refine Ay U (fun h11=>?_) (fun h11=>?_)
  ·refine Ae (Ad U (V U U (Aj U H9 U) (V U U (An U BU U (H.cellI 0 U U)) (BT (parts:=[(0,.tmp 20)]) (vs:=[.string x7.val]) (cs:=[.string x7.val]) U U U Hh IR U (by decide) (by decide) U U H (fun b12 w H=>?_)))))
   replace H:=H.p2
   refine CC (xs:=BP (xs.take k) key) (ys:=[x7.val]) U U U Hh IR U (by decide) U U H (by omega) (fun F hA hR=>Ci (hA _ (List.mem_of_getElem? (i:=0) U)) U (by decide) (AY.flat_eq.2 U)) (fun v13 w H=>(Ad U (Ac (A8 (Z ?_)))))
   replace H:Hd _ _ _ [Y Bi v13 ((BP (xs.take k) key)++[x7.val]),blk b12 [.string x7.val] 9,blk b10 [.string x7.key,.string x7.val] 106] [Aa Ag (.slice A1 xs.length c2) xs]:=H
   refine Ae (V U U (A9 (z:=((k+1:Nat):Int)) U U U (by rw [AF (by omega) (by omega)];omega)) (Ad U (Ac ?_)))
   rw [←WI hx8 h11] at H
   replace H:=H.k1
   exact Bm (s:=(k,undef)) (k+1,v13) ⟨rfl,rfl,rfl,rfl,rfl,rfl,trivial⟩ ⟨H,by (try dsimp only);omega⟩ (by (try dsimp only);omega)
  refine Av (A8 (Z (Ae (V U U (A9 (z:=((k+1:Nat):Int)) U U U (by rw [AF (by omega) (by omega)];omega)) (Ad U (Ac ?_))))))
  rw [←WH hx8 h11] at H
  replace H:=H.sel 2 [1] [0] rfl (by kernel_rfl)
  exact Bm (s:=(k,undef)) (k+1,l) ⟨rfl,rfl,rfl,rfl,rfl,rfl,trivial⟩ ⟨H,by (try dsimp only);omega⟩ (by (try dsimp only);omega)
 refine BK (AR (AR (BN (Z (Ab (Ae (Ah 2 U (Ac (Z (Ao (Aq U U ?_)))))))))))
 rw [List.take_of_length_le (show xs.length≤k by omega)] at H
 exact Am U H
theorem W5 (vxs:Value) (xs:List Al) (hb:xs.length≤1000000):
    Cn Tryz.prog 211 [vxs] [] [Aa Ag vxs xs] (fun v Bs=>Bs=[Y Bi v (Dn xs)]):=by
 intro w0 F0 H
 obtain ⟨A1,c2,rfl,hc3,hm4,hp5⟩:=H.fR 0 rfl
 refine enter Tryz.func211 U U (Nat.le_of_ble_eq_true U) (Ab (Ae (Ad U (Ac (Z ?_)))))
 replace H:Hd _ _ _ [] [Aa Ag (.slice A1 xs.length c2) xs]:=H
 refine Ab (Ae (Ad U (Ac (Z (Ab (Ab (Ae (Ad U (V U U (A0 U CD U) (Ad U (Ac (Z (AU ?_)))))))))))))
 replace H:=H.newnil Bi
 refine BV (σ:=Nat×Value) (fun (k,l)=>[(2,.slice none 0 0),(3,l),(6,.slice A1 xs.length c2),(7,.int .i64 ((xs.length:Nat):Int)),(8,.int .i64 ((k:Nat):Int))]) (fun (k,l) w=>(Hd w0 F0 w [Y Bi l ((xs.take k).map (·.key))] [Aa Ag (.slice A1 xs.length c2) xs])∧(k≤xs.length)) (fun (k,l)=>xs.length - k) (0,.slice none 0 0) ⟨rfl,rfl,rfl,rfl,rfl,trivial⟩ ⟨H,by (try dsimp only);omega⟩ ?_
 rintro ⟨k,l⟩ w ⟨H,hk⟩
 have hjt:((xs.take k).map (·.key)).length≤xs.length:=by simp;omega
 refine Ab (Ae (V U U (Bg U U U) (Ac (Z (Ab ?_)))))
 refine Ay U (fun h6=>?_) (fun h6=>?_)
 ·refine Av (Z (Ab (AU (Ab (Ae ?_)))))
  obtain ⟨x7,hx8⟩:∃ z9,xs[k]?=some z9:=⟨_,List.getElem?_eq_getElem (show k<xs.length by omega)⟩
  have th9:=H.thR 0 rfl hx8
  refine V U U (Bf (p:=AX A1+k*2) U Bu U U (by omega) (by omega) th9 U) (V U U (Bv (cs:=[.string x7.key,.string x7.val]) U B9 U U (H.elsR 0 U hx8 U)) (Dr U U U CR H (fun b10 w H=>(Bk U U U B9 U U H U (Nat.le_of_ble_eq_true U) (fun u hu=>by simp [Value.cells] at hu;rcases hu with rfl|rfl<;>rfl) (fun w H=>?_)))))
  replace H:=H.h2 (A:=blk b10 [.string x7.key,.string x7.val] 106) (B:=Y Bi l ((xs.take k).map (·.key)))
  refine Ac (Z (Ae (Ad U (V U U (Aj U Fe U) (V U U (An U BU U (H.cellI 0 U U)) (BT (parts:=[(0,.tmp 14)]) (vs:=[.string x7.key]) (cs:=[.string x7.key]) U U U Hh IR U (by decide) (by decide) U U H (fun b11 w H=>?_)))))))
  replace H:=H.p2
  refine CC (xs:=(xs.take k).map (·.key)) (ys:=[x7.key]) U U U Hh IR U (by decide) U U H (by omega) (fun F hA hR=>Ci (hA _ (List.mem_of_getElem? (i:=0) U)) U (by decide) (AY.flat_eq.2 U)) (fun v12 w H=>(Ad U (Ac (A8 (Z ?_)))))
  replace H:Hd _ _ _ [Y Bi v12 (((xs.take k).map (·.key))++[x7.key]),blk b11 [.string x7.key] 9,blk b10 [.string x7.key,.string x7.val] 106] [Aa Ag (.slice A1 xs.length c2) xs]:=H
  refine Ae (V U U (A9 (z:=((k+1:Nat):Int)) U U U (by rw [AF (by omega) (by omega)];omega)) (Ad U (Ac ?_)))
  rw [←Ur hx8] at H
  replace H:=H.k1
  exact Bm (s:=(k,undef)) (k+1,v12) ⟨rfl,rfl,rfl,rfl,rfl,trivial⟩ ⟨H,by (try dsimp only);omega⟩ (by (try dsimp only);omega)
 refine BK (AR (AR (BN (Z (Ab (Ae (Ad U (sc (Y1 l ((xs.take k).map (·.key)) (by first |omega|(rw [MF];omega))) H l0 U U (At U4 U U) ?_))))))))
 rintro v13 _ w rfl H
 replace H:=H.h1 (A:=Y Bi l (EV ((xs.take k).map (·.key))))
 refine Ac (Z (Ab (Ae (Ad U (sc (SC l (EV ((xs.take k).map (·.key))) (by first |omega|(rw [MF];omega))) H l0 U U (At U5 U U) ?_)))))
 rintro v14 _ w rfl H
 replace H:=H.h1 (A:=Y Bi v14 (Fa (EV ((xs.take k).map (·.key)))))
 refine Ad U (Ac (Z (Ao (Aq U U ?_))))
 rw [List.take_of_length_le (show xs.length≤k by omega)] at H
 exact Am U H
theorem Ue (f:FuncId) (cap:List Value) (Ex:List SP) (p:Al→Bool) (hkf:AM Tryz.prog f) (hp:∀ x,Cn Tryz.prog f ([.agg #[.string x.key,.string x.val]]++cap) [] Ex (fun v Bs=>v=.bool (p x)∧Bs=[])) (v:Value) (xs:List Al):
    Cn Tryz.prog 206 [v,.func (.func f) #[] (cap).toArray] [] (Aa Ag v xs::Ex) (fun v Bs=>v=.int .i64 (Fd p xs)∧Bs=[]):=by
 intro w0 F0 H
 obtain ⟨A1,c2,rfl,hc3,hm4,hp5⟩:=H.fR 0 rfl
 refine enter Tryz.func206 U U (Nat.le_of_ble_eq_true U) (Ab (Ae (Ad U (Ac (Z ?_)))))
 replace H:Hd _ _ _ [] (Aa Ag (.slice A1 xs.length c2) xs::Ex):=H
 refine Ab (Ab (Ae (Ad U (V U U (A0 U CD U) (Ad U (Ac (Z (AU (BV (σ:=Nat) (fun k=>[(0,.slice A1 xs.length c2),(1,.func (.func f) #[] (cap).toArray),(7,.int .i64 ((xs.length:Nat):Int)),(8,.int .i64 ((k:Nat):Int))]) (fun k w=>(Hd w0 F0 w [] (Aa Ag (.slice A1 xs.length c2) xs::Ex))∧(k≤xs.length)∧(∀ y∈xs.take k,p y=false)) (fun k=>xs.length - k) 0 ⟨rfl,rfl,rfl,rfl,trivial⟩ ⟨H,by omega,by simp⟩ ?_)))))))))
 rintro k w ⟨H,hk,hn⟩
 refine Ab (Ae (V U U (Bg U U U) (Ac (Z (Ab ?_)))))
 refine Ay U (fun h6=>?_) (fun h6=>?_)
 ·refine Av (Z (Ab (AU (Ab (Ae (Ah 2 U (Ac (Z (Ab (Ae (Ah 3 U ?_)))))))))))
  obtain ⟨x7,hx8⟩:∃ z9,xs[k]?=some z9:=⟨_,List.getElem?_eq_getElem (show k<xs.length by omega)⟩
  have th9:=H.thR 0 rfl hx8
  refine V U U (Bf (p:=AX A1+k*2) U Bu U U (by omega) (by omega) th9 U) (V U U (Bv (cs:=[.string x7.key,.string x7.val]) U B9 U U (H.elsR 0 U hx8 U)) (sc (hp x7) H (fun S hS F hA hR=>hR S (List.mem_cons_of_mem _ hS)) U U (FZ (vs:=[.agg #[.string x7.key,.string x7.val]]) (fs:=#[]) (cs:=cap.toArray) hkf U U U) ?_))
  rintro _ _ w ⟨rfl,rfl⟩ H
  refine Ac (Z ?_)
  refine Dv (b:=p x7) U (fun h10=>?_) (fun h10=>?_)
  ·exact Ab (Ae (Ah 2 U (Ac (Z (Ao (A_ (Az (Az (A_ (Az (Aq U U (Am ⟨by rw [K_ hn hx8 h10]<;>rfl,rfl⟩ H))))))))))))
  exact Av (A8 (Z (Ae (V U U (A9 (z:=((k+1:Nat):Int)) U U U (by rw [AF (by omega) (by omega)];omega)) (Ad U (Ac (Bm (s:=k) (k+1) ⟨rfl,rfl,rfl,rfl,trivial⟩ ⟨H,by omega,MK hn hx8 h10⟩ (by (try dsimp only);omega))))))))
 refine BK (AR (AR (BN (Z (Ab (Ae (Ad U (Ac (Z (Ao (Aq U U ?_)))))))))))
 have hn2:∀ y∈xs,p y=false:=by rw [←HI (xs:=xs) (k:=k) (by omega)];exact hn
 exact Am ⟨by rw [JR hn2]<;>rfl,rfl⟩ H
theorem NK (f:FuncId) (cap:List Value) (Ex:List SP) (p:Al→Bool) (hkf:AM Tryz.prog f) (hp:∀ x,Cn Tryz.prog f ([.agg #[.string x.key,.string x.val]]++cap) [] Ex (fun v Bs=>v=.bool (p x)∧Bs=[])) (v:Value) (xs:List Al):
    Cn Tryz.prog 173 [v,.func (.func f) #[] (cap).toArray] [] (Aa Ag v xs::Ex) (fun v Bs=>v=.bool (xs.any p)∧Bs=[]):=by
 intro w0 F0 H
 refine enter Tryz.func173 U U (Nat.le_of_ble_eq_true U) (Ab (Ae (Ad U (Ac (Z (Ab (Ae (Ah 2 U (sc (Ue f cap Ex p hkf hp v xs) H LU U U (At UR U U) ?_)))))))))
 rintro _ _ w ⟨rfl,rfl⟩ H
 exact V U U (CA U U U) (Ad U (Ac (Z (Ao (Aq U U (Am ⟨congrArg Value.bool (La p xs),rfl⟩ H))))))
theorem V5 (x:Al):
    Cn Tryz.prog 174 [.agg #[.string x.key,.string x.val]] [] [] (fun v Bs=>v=.bool (!decide (C7 x))∧Bs=[]):=by
 intro w0 F0 H
 refine enter Tryz.func174 U U (Nat.le_of_ble_eq_true U) (Ab (Ae (CH U U U U H (fun b1 w H=>(Ad U (Ac (Z ?_)))))))
 replace H:Hd _ _ _ [blk b1 [.string x.key,.string x.val] 106] []:=H
 refine Ab (Ae (V U U (Aj U Fe U) (V U U (An U BU U (H.cellI 0 U U)) (V U U (Do U Cu U) (V U U (Cd U U U) (Ad U ?_))))))
 refine AQ (d:=7) U (fun h2=>?_) (fun h2=>?_)
 ·refine Ah 6 U (Ac (Z (Ao (Aq U U ?_))))
  replace H:=H.nil
  exact Am ⟨by rw [decide_eq_false (by unfold C7;omega)];rfl,rfl⟩ H
 refine V U U (Aj U H9 U) (V U U (An U BU U (H.cellI 0 U U)) (V U U (Do U Cu U) (V U U (Cd U U U) (Ah 2 U (Ac (Z (Ao (Aq U U ?_))))))))
 replace H:=H.nil
 exact Am ⟨congrArg Value.bool (by rw [←decide_not];exact decide_eq_decide.2 (by unfold C7;omega)),rfl⟩ H
theorem PR (vxs:Value) (xs:List Al):
    Cn Tryz.prog 120 [vxs] [] [Aa Ag vxs xs] (fun v Bs=>v=.bool (decide (G4 xs))∧Bs=[]):=by
 intro w0 F0 H
 obtain ⟨A1,c2,rfl,hc3,hm4,hp5⟩:=H.fR 0 rfl
 refine enter Tryz.func120 U U (Nat.le_of_ble_eq_true U) (Ab (Ae (Ad U (Ac (Z ?_)))))
 replace H:Hd _ _ _ [] [Aa Ag (.slice A1 xs.length c2) xs]:=H
 refine Ab (Ae (Ad U (sc (NK 174 [] [] (fun p=>!decide (C7 p)) UJ (fun x=>V5 x) (.slice A1 xs.length c2) xs) H (lR 0 U l0) U U (At OV U U) ?_)))
 rintro _ _ w ⟨rfl,rfl⟩ H
 exact V U U (E5 U U U) (Ad U (Ac (Z (Ao (Aq U U (Am ⟨congrArg Value.bool (V7 xs),rfl⟩ H))))))
theorem S9 {told:List Al} {k v:ByteArray} (h:told.length≤40):(DM told k v).2.length≤40:=by
 unfold DM
 split
 ·exact h
 ·split
  ·exact h
  ·simp only [List.length_append,List.length_cons,List.length_nil];omega
theorem PC (m:VM):(G6 m).1.told=m.told:=by
 rw [PD]
def TL (r:VM×Int):Prop:=r.1.told.length≤40
theorem DU {c:Prop} [Decidable c] {x y:VM×Int} (hx:TL x) (hy:TL y):TL (if c then x else y):=by
 split
 ·exact hx
 ·exact hy
theorem Rz {D:Bj} {key:ByteArray} {m:VM} {i:BC} {v:List AP} (h:m.told.length≤40):(B3 D key m i v).1.told.length≤40:=by
 have hn:TL (G6 m):=by unfold TL;rw [PC];exact h
 have h20:TL (if (v.getD 0 Cw).n≠0 then {m with pos:=i.a} else m,0):=by
  unfold TL
  dsimp only
  split<;>exact h
 exact DU h (DU h (DU h (DU h (DU h (DU h (DU hn (DU h (DU h (DU h (DU h (DU h (DU h (DU h (DU h (DU h (DU h20 (DU h (DU h (DU (S9 h) h)))))))))))))))))))
theorem NU {D:Bj} {key:ByteArray} {m:VM} {i:BC} (h:m.told.length≤40):(BE D key m i).1.told.length≤40:=by
 unfold BE
 split
 ·exact h
 ·exact Rz h
theorem P0 {D:Bj} {p:List BC} {key:ByteArray}:∀ (k:Nat) {m:VM},m.told.length≤40→(Cz D p key k m).1.told.length≤40
 |0,m,h=>by
  unfold Cz
  split<;>exact h
 |k+1,m,h=>by
  unfold Cz
  split
  ·split
   ·split
    ·exact NU h
    ·exact P0 k (NU h)
   ·exact h
  ·exact h
theorem QI (D:Bj) (p:List BC) (key:ByteArray) (vals:List ByteArray) (fuel:Int):(Bt D p key vals fuel).1.length≤40:=by
 unfold Bt
 split
 ·exact Nat.zero_le _
 ·split
  ·exact Nat.zero_le _
  ·exact P0 _ (Nat.zero_le _)
def Je (k:ByteArray) (l:List Al):Bool:=l.any fun x=>decide (x.key≠k)
def Ey (D:Bj) (p:List BC) (ps:List Al) (fuel:Int) (own:Bool):List ByteArray→List Al→List Al×Int
 |[],out=>(out,0)
 |k::ks,out=>
  if (Bt D p k (BP ps k) fuel).2≠0 then ([],(Bt D p k (BP ps k) fuel).2)
  else if own=true∧Je k (Bt D p k (BP ps k) fuel).1=true then ([],6)
  else if 40<out.length+(Bt D p k (BP ps k) fuel).1.length then ([],5)
  else Ey D p ps fuel own ks (out++(Bt D p k (BP ps k) fuel).1)
def B0 (D:Bj) (p:List BC) (ps:List Al) (fuel:Int) (own:Bool):List Al×Int:=Ey D p ps fuel own (Dn ps) []
def FE (D:Bj) (p:List BC) (ps:List Al) (fuel:Int):List Al×Int:=if p.length=0 then (srt ps,0) else B0 D p ps fuel true
section
variable {D:Bj} {p:List BC} {ps:List Al} {fuel:Int} {own:Bool} {ks:List ByteArray} {k:ByteArray} {out:List Al} {i:Nat}
theorem TW (h:ks.length≤i):Ey D p ps fuel own (ks.drop i) out=(out,0):=by
 rw [List.drop_eq_nil_of_le h];rfl
theorem TY (hk:ks[i]?=some k) (h:(Bt D p k (BP ps k) fuel).2≠0):Ey D p ps fuel own (ks.drop i) out=([],(Bt D p k (BP ps k) fuel).2):=by
 rw [Fb hk];exact if_pos h
theorem TX (hk:ks[i]?=some k) (h:¬ (Bt D p k (BP ps k) fuel).2≠0) (h2:own=true) (h3:Je k (Bt D p k (BP ps k) fuel).1=true):Ey D p ps fuel own (ks.drop i) out=([],6):=by
 rw [Fb hk];unfold Ey;rw [if_neg h,if_pos ⟨h2,h3⟩]
theorem Oq (hk:ks[i]?=some k) (h:¬ (Bt D p k (BP ps k) fuel).2≠0) (h2:¬ (own=true∧Je k (Bt D p k (BP ps k) fuel).1=true)) (h3:40<out.length+(Bt D p k (BP ps k) fuel).1.length):Ey D p ps fuel own (ks.drop i) out=([],5):=by
 rw [Fb hk];unfold Ey;rw [if_neg h,if_neg h2,if_pos h3]
theorem Ot (hk:ks[i]?=some k) (h:¬ (Bt D p k (BP ps k) fuel).2≠0) (h2:¬ (own=true∧Je k (Bt D p k (BP ps k) fuel).1=true)) (h3:¬ 40<out.length+(Bt D p k (BP ps k) fuel).1.length):
  Ey D p ps fuel own (ks.drop (i+1)) (out++(Bt D p k (BP ps k) fuel).1)=Ey D p ps fuel own (ks.drop i) out:=by
 rw [Fb hk];conv=>rhs;unfold Ey
 rw [if_neg h,if_neg h2,if_neg h3]
end
theorem NW (D:Bj) (p:List BC) (ps:List Al) (fuel:Int) (own:Bool):∀ (ks:List ByteArray) (out:List Al),out.length≤40→(Ey D p ps fuel own ks out).1.length≤40
 |[],out,h=>h
 |k::ks,out,h=>by
  unfold Ey
  split
  ·exact Nat.zero_le _
  ·split
   ·exact Nat.zero_le _
   ·split
    ·exact Nat.zero_le _
    ·exact NW D p ps fuel own ks _ (by simp only [List.length_append];omega)
def Dy:List BC:=[⟨6,0,⟨#[]⟩⟩,⟨7,0,⟨#[]⟩⟩,⟨4,0,⟨#[]⟩⟩,⟨23,0,⟨#[]⟩⟩]
theorem C6:∀ i∈Dy,AB i.a:=by
 intro i hi
 simp only [Dy,List.mem_cons,List.not_mem_nil,or_false] at hi
 rcases hi with rfl|rfl|rfl|rfl<;>exact I5
theorem S6 (x:Al) (kb:Nat) (key:ByteArray):
    Cn Tryz.prog 213 [.agg #[.string x.key,.string x.val],.pointer (some ⟨kb,0,none⟩)] [] [blk kb [.string key] 9] (fun v Bs=>v=.bool (decide (x.key≠key))∧Bs=[]):=by
 intro w0 F0 H
 refine enter Tryz.func213 U U (Nat.le_of_ble_eq_true U) (Ab (Ae (CH U U U U H (fun b1 w H=>(Ad U (Ac (Z ?_)))))))
 replace H:Hd _ _ _ [blk b1 [.string x.key,.string x.val] 106] [blk kb [.string key] 9]:=H
 refine Ab (Ae (V U U (Aj U Fe U) (V U U (An U BU U (H.cellI 0 U U)) (V U U (An U BU U (H.cellRI 0 U U)) (V U U (Ms U U U) (Ad U (Ac (Z (Ao (Aq U U ?_))))))))))
 replace H:=H.nil
 exact Am ⟨rfl,rfl⟩ H
theorem NX (vp:Value) (p:List BC) (vps:Value) (ps:List Al) (fuel:Int) (own:Bool) (hpa:∀ i∈p,AB i.a) (hfu:AB fuel) (hb:ps.length≤1000000):
    Cn Tryz.prog 177 [vp,vps,.int .i64 fuel,.bool own] [] [Aa Af vp p,Aa Ag vps ps,gl] (fun v Bs=>∃ u,v=.tuple #[u,.int .i64 (B0 dg p ps fuel own).2]∧Bs=[Y Ag u (B0 dg p ps fuel own).1]):=by
 intro w0 F0 H
 obtain ⟨A1,c2,rfl,hc3,hm4,hp5⟩:=H.fR 0 rfl
 obtain ⟨A6,c7,rfl,hc8,hm9,hp10⟩:=H.fR 1 rfl
 refine enter Tryz.func177 U U (Nat.le_of_ble_eq_true U) (Ab (Ae (Ah 2 U (Ac (Z ?_)))))
 replace H:Hd _ _ _ [] [Aa Af (.slice A1 p.length c2) p,Aa Ag (.slice A6 ps.length c7) ps,gl]:=H
 refine Ab (Ae (Ad U (Ac (Z (Ab (Ae (sc Zp H l0 U U (At UT U U) ?_)))))))
 rintro _ _ w ⟨b11,rfl,rfl⟩ H
 replace H:=H.h1 (A:=blk b11 [.int .i64 0,.int .i64 0,.int .i64 0,.int .i64 0,.int .i64 0,.int .i64 0,.int .i64 0,.int .i64 0] 322)
 refine Ad U (Ac (Z (Ab (Ab (Ae (Ad U (sc (W5 (.slice A6 ps.length c7) ps (by first |omega|decide)) H (lR 1 U l0) U U (At UU U U) ?_)))))))
 rintro v12 _ w rfl H
 obtain ⟨A13,c14,rfl,hc15,hm16,hp17⟩:=H.fA 0 rfl
 refine V U U (A0 U Ri U) (Ad U (Ac (Z ?_)))
 replace H:Hd _ _ _ [Y Bi (.slice A13 ((Dn ps).length) c14) (Dn ps),blk b11 [.int .i64 0,.int .i64 0,.int .i64 0,.int .i64 0,.int .i64 0,.int .i64 0,.int .i64 0,.int .i64 0] 322] [Aa Af (.slice A1 p.length c2) p,Aa Ag (.slice A6 ps.length c7) ps,gl]:=H
 refine AU ?_
 replace H:=H.newnil Ag
 refine BV (σ:=Nat×Value×List Al) (fun (i,q,out)=>[(0,.slice A1 p.length c2),(1,.slice A6 ps.length c7),(2,.int .i64 fuel),(3,.bool own),(10,q),(11,.pointer (some ⟨b11,0,none⟩)),(18,.slice A13 ((Dn ps).length) c14),(19,.int .i64 (((Dn ps).length:Nat):Int)),(20,.int .i64 ((i:Nat):Int))]) (fun (i,q,out) w=>(Hd w0 F0 w [Y Ag q out,Y Bi (.slice A13 ((Dn ps).length) c14) (Dn ps),blk b11 [.int .i64 (out.length:Int),.int .i64 0,.int .i64 0,.int .i64 0,.int .i64 0,.int .i64 0,.int .i64 0,.int .i64 0] 322] [Aa Af (.slice A1 p.length c2) p,Aa Ag (.slice A6 ps.length c7) ps,gl])∧(i≤(Dn ps).length)∧(Ey dg p ps fuel own ((Dn ps).drop i) out=B0 dg p ps fuel own)∧(out.length≤40)) (fun (i,q,out)=>(Dn ps).length - i) (0,.slice none 0 0,[]) ⟨rfl,rfl,rfl,rfl,rfl,rfl,rfl,rfl,rfl,trivial⟩ ⟨H,Nat.zero_le _,rfl,Nat.zero_le _⟩ ?_
 rintro ⟨i,q,out⟩ w ⟨H,hi,hgo,ho⟩
 have hkl:=Us ps
 refine Ab (Ae (V U U (Bg U U U) (Ac (Z (Ab ?_)))))
 refine Ay U (fun h18=>?_) (fun h18=>?_)
 ·refine Av (Z (Ab (AU (Ab (Ae ?_)))))
  obtain ⟨x19,hx20⟩:∃ z9,(Dn ps)[i]?=some z9:=⟨_,List.getElem?_eq_getElem (show i<(Dn ps).length by omega)⟩
  have th21:=H.thA 1 rfl hx20
  refine V U U (Bf (p:=AX A13+i*1) U Hh U U (by omega) (by omega) th21 U) (V U U (An U BU U (H.elA 1 U hx20 (q:=0) U U)) (Dr U U U IR H (fun b22 w H=>(Bk U U U BU U U H U (Nat.le_of_ble_eq_true U) (fun u hu=>by simp [Value.cells] at hu;subst hu;rfl) (fun w H=>?_)))))
  replace H:=H.h4 (A:=blk b22 [.string x19] 9) (B:=Y Ag q out) (D:=blk b11 [.int .i64 (out.length:Int),.int .i64 0,.int .i64 0,.int .i64 0,.int .i64 0,.int .i64 0,.int .i64 0,.int .i64 0] 322)
  refine Ac (Z (Ab (BX (.e 0 (.e 1 (.e 2 (.e 3 (.e 5 (.m 4 (.m 6 (.e 7 (.e 8 (.e 9 (.e 10 (.e 11 .z)))))))))))) (fun w=>∃ Ar,Hd w0 F0 w (blk b22 [.string x19] 9::Y Ag q out::Y Bi (.slice A13 ((Dn ps).length) c14) (Dn ps)::blk b11 [.int .i64 (out.length:Int),.int .i64 0,.int .i64 0,.int .i64 0,.int .i64 0,.int .i64 0,.int .i64 0,.int .i64 0] 322::Ar) [Aa Af (.slice A1 p.length c2) p,Aa Ag (.slice A6 ps.length c7) ps,gl]) mo (by kernel_rfl) (fun w H=>⟨_,H⟩) H (fun w H=>(Ax U (Ap U U U (fun w ⟨Ar,H⟩=>An U BU U (H.cellI 0 U U)) (Ax U (Ap U U U (fun w ⟨Ar,H⟩=>An U BU U (H.cellI 0 U U)) (Ax U (AL U (sc (W6 (.slice A6 ps.length c7) ps x19 (by first |omega|decide)) H (lR 1 U l0) U U (At UV U U) ?_)))))))))))
  rintro v23 _ w rfl H
  replace H:=H.h1 (A:=Y Bi v23 (BP ps x19))|>.p4|>.p4|>.p4|>.p4
  refine AH ⟨_,H⟩ (AL U (sc (Ro (.slice A1 p.length c2) p x19 v23 (BP ps x19) fuel hpa hfu) H (lR 0 U (lA 4 U BS (lR 2 U l0))) U U (At OW U U) ?_))
  rintro _ _ w ⟨u24,rfl,rfl⟩ H
  replace H:=H.h1 (A:=Y Ag u24 ((Bt dg p x19 (BP ps x19) fuel).1))
  have hrt:=QI dg p x19 (BP ps x19) fuel
  replace H:=H.p4.p4.p4.p4
  refine AH ⟨_,H⟩ (Ax U (Ax U (Ax U (Ax U (Ax U (BL (Z (Ab (AU (Ab (Ae (Ad U (V U U (C8 U U U) (Ad U (Ac (Z ?_))))))))))))))))
  refine Ay U (fun h25=>?_) (fun h25=>?_)
  ·refine Ab (Ae (Ah 3 U (Ac (Z (Ao (A_ (Az (A_ (Az (Az (A_ (Az (Cv U U U ?_)))))))))))))
   have e:B0 dg p ps fuel own=([],(Bt dg p x19 (BP ps x19) fuel).2):=hgo.symm.trans (TY hx20 h25)
   replace H:=H.nil|>.newnil Ag
   exact Am ⟨_,by rw [e]<;>rfl,by rw [e]<;>rfl⟩ H
  refine Ab (Ae (Ah 2 U ?_))
  refine Em (d:=40) (b:=own) U (fun h26=>?_) (fun h26=>?_)
  ·refine Ad U (V U U (HE (fs:=#[]) (cs:=#[.pointer (some ⟨b22,0,none⟩)]) U U U) (sc (NK 213 [.pointer (some ⟨b22,0,none⟩)] [blk b22 [.string x19] 9] (fun y=>decide (y.key≠x19)) UW (fun y=>S6 y b22 x19) u24 (Bt dg p x19 (BP ps x19) fuel).1) H (lA 4 U BS (lA 0 U (fun _ h=>h) l0)) U U (At OV U U) ?_))
   rintro _ _ w ⟨rfl,rfl⟩ H
   refine Ah 2 U (Ac (Z ?_))
   refine Dv (b:=Je x19 (Bt dg p x19 (BP ps x19) fuel).1) U (fun h27=>?_) (fun h27=>?_)
   ·refine Ab (Ae (Ah 2 U (Ac (Z (Ao (A_ (Az (A_ (Az (Az (A_ (Az (Cv U U U ?_)))))))))))))
    have e:B0 dg p ps fuel own=([],6):=hgo.symm.trans (TX hx20 h25 h26 h27)
    replace H:=H.nil|>.newnil Ag
    replace H:Hd _ _ _ [Y Ag (.slice none 0 0) []] [Aa Af (.slice A1 p.length c2) p,Aa Ag (.slice A6 ps.length c7) ps,gl]:=H
    exact Am ⟨_,by rw [e]<;>rfl,by rw [e]<;>rfl⟩ H
   refine Ab (Ae (Ah 2 U ?_))
   obtain ⟨A28,c29,rfl,hc30,hm31,hp32⟩:=H.fA 4 rfl
   refine V U U (A0 U CD U) ?_
   replace H:=H.p3
   replace H:Hd _ _ _ [blk b11 [.int .i64 (out.length:Int),.int .i64 0,.int .i64 0,.int .i64 0,.int .i64 0,.int .i64 0,.int .i64 0,.int .i64 0] 322,blk b22 [.string x19] 9,Y Ag q out,Y Bi (.slice A13 ((Dn ps).length) c14) (Dn ps),Y Ag (.slice A28 (((Bt dg p x19 (BP ps x19) fuel).1).length) c29) ((Bt dg p x19 (BP ps x19) fuel).1),Y Bi v23 (BP ps x19)] [Aa Af (.slice A1 p.length c2) p,Aa Ag (.slice A6 ps.length c7) ps,gl]:=H
   refine sc (Ra b11 (out.length:Int) 0 0 0 0 0 0 0 ((((Bt dg p x19 (BP ps x19) fuel).1).length:Nat):Int) (by omega) (by omega)) H l0 U U (At O3 U U) ?_
   rintro _ _ w ⟨rfl,rfl⟩ H
   replace H:=H.h1 (A:=blk b11 [.int .i64 (min ((out.length:Int)+((((Bt dg p x19 (BP ps x19) fuel).1).length:Nat):Int)) 1099511627776),.int .i64 0,.int .i64 0,.int .i64 0,.int .i64 0,.int .i64 0,.int .i64 0,.int .i64 0] 322)
   refine V U U (Cd U U U) (Ad U (Ac (Z ?_)))
   refine Ay U (fun h33=>?_) (fun h33=>?_)
   ·refine Ab (Ae (Ah 2 U (Ac (Z (Ao (A_ (Az (A_ (Az (Az (A_ (Az (Cv U U U ?_)))))))))))))
    have e:B0 dg p ps fuel own=([],5):=hgo.symm.trans (Oq hx20 h25 (fun h=>by rw [h.2] at h27;cases h27) (by omega))
    replace H:=H.nil|>.newnil Ag
    exact Am ⟨_,by rw [e]<;>rfl,by rw [e]<;>rfl⟩ H
   refine Av (A8 (Z (Ae (Ah 2 U ?_))))
   replace H:=H.p2
   refine CC (xs:=out) (ys:=(Bt dg p x19 (BP ps x19) fuel).1) U U U Bu CR U (by decide) U U H (by omega) (fun F hA hR=>BS F (hA _ (List.mem_of_getElem? (i:=3) U))) (fun v34 w H=>?_)
   replace H:=H.h1 (A:=Y Ag v34 (out++((Bt dg p x19 (BP ps x19) fuel).1)))
   refine Ad U (Ac (A8 (Z (Ae (V U U (A9 (z:=((i+1:Nat):Int)) U U U (by rw [AF (by omega) (by omega)];omega)) (Ad U (Ac ?_)))))))
   replace H:=H.p3.p1.k3
   have hl2:((out++(Bt dg p x19 (BP ps x19) fuel).1).length:Int)=min ((out.length:Int)+((((Bt dg p x19 (BP ps x19) fuel).1).length:Nat):Int)) 1099511627776:=by rw [List.length_append];omega
   replace H:Hd w0 F0 w [Y Ag v34 (out++((Bt dg p x19 (BP ps x19) fuel).1)),Y Bi (.slice A13 ((Dn ps).length) c14) (Dn ps),blk b11 [.int .i64 ((out++(Bt dg p x19 (BP ps x19) fuel).1).length:Int),.int .i64 0,.int .i64 0,.int .i64 0,.int .i64 0,.int .i64 0,.int .i64 0,.int .i64 0] 322] [Aa Af (.slice A1 p.length c2) p,Aa Ag (.slice A6 ps.length c7) ps,gl]:=by rw [hl2];exact H
   have hg2:=(Ot (out:=out) hx20 h25 (fun h=>by rw [h.2] at h27;cases h27) (by omega)).trans hgo
   have ho2:(out++(Bt dg p x19 (BP ps x19) fuel).1).length≤40:=by rw [List.length_append];omega
   exact Bm (s:=(i,undef,out)) (i+1,v34,out++(Bt dg p x19 (BP ps x19) fuel).1) ⟨rfl,rfl,rfl,rfl,rfl,rfl,rfl,rfl,rfl,trivial⟩ ⟨H,by (try dsimp only);omega,hg2,ho2⟩ (by (try dsimp only);omega)
  refine Ah 5 U (Ac (Z (Cb U (Ab (Ae (Ah 2 U ?_))))))
  obtain ⟨A35,c36,rfl,hc37,hm38,hp39⟩:=H.fA 4 rfl
  refine V U U (A0 U CD U) ?_
  replace H:=H.p3
  refine sc (Ra b11 (out.length:Int) 0 0 0 0 0 0 0 ((((Bt dg p x19 (BP ps x19) fuel).1).length:Nat):Int) (by omega) (by omega)) H l0 U U (At O3 U U) ?_
  rintro _ _ w ⟨rfl,rfl⟩ H
  replace H:=H.h1 (A:=blk b11 [.int .i64 (min ((out.length:Int)+((((Bt dg p x19 (BP ps x19) fuel).1).length:Nat):Int)) 1099511627776),.int .i64 0,.int .i64 0,.int .i64 0,.int .i64 0,.int .i64 0,.int .i64 0,.int .i64 0] 322)
  refine V U U (Cd U U U) (Ad U (Ac (Z ?_)))
  refine Ay U (fun h40=>?_) (fun h40=>?_)
  ·refine Ab (Ae (Ah 2 U (Ac (Z (Ao (A_ (Az (A_ (Az (Az (A_ (Az (Cv U U U ?_)))))))))))))
   have e:B0 dg p ps fuel own=([],5):=hgo.symm.trans (Oq hx20 h25 (fun h=>by rw [h.1] at h26;cases h26) (by omega))
   replace H:=H.nil|>.newnil Ag
   exact Am ⟨_,by rw [e]<;>rfl,by rw [e]<;>rfl⟩ H
  refine Av (A8 (Z (Ae (Ah 2 U ?_))))
  replace H:=H.p2
  refine CC (xs:=out) (ys:=(Bt dg p x19 (BP ps x19) fuel).1) U U U Bu CR U (by decide) U U H (by omega) (fun F hA hR=>BS F (hA _ (List.mem_of_getElem? (i:=3) U))) (fun v41 w H=>?_)
  replace H:=H.h1 (A:=Y Ag v41 (out++((Bt dg p x19 (BP ps x19) fuel).1)))
  refine Ad U (Ac (A8 (Z (Ae (V U U (A9 (z:=((i+1:Nat):Int)) U U U (by rw [AF (by omega) (by omega)];omega)) (Ad U (Ac ?_)))))))
  replace H:=H.p3.p1.k3
  have hl2:((out++(Bt dg p x19 (BP ps x19) fuel).1).length:Int)=min ((out.length:Int)+((((Bt dg p x19 (BP ps x19) fuel).1).length:Nat):Int)) 1099511627776:=by rw [List.length_append];omega
  replace H:Hd w0 F0 w [Y Ag v41 (out++((Bt dg p x19 (BP ps x19) fuel).1)),Y Bi (.slice A13 ((Dn ps).length) c14) (Dn ps),blk b11 [.int .i64 ((out++(Bt dg p x19 (BP ps x19) fuel).1).length:Int),.int .i64 0,.int .i64 0,.int .i64 0,.int .i64 0,.int .i64 0,.int .i64 0,.int .i64 0] 322] [Aa Af (.slice A1 p.length c2) p,Aa Ag (.slice A6 ps.length c7) ps,gl]:=by rw [hl2];exact H
  have hg2:=(Ot (out:=out) hx20 h25 (fun h=>by rw [h.1] at h26;cases h26) (by omega)).trans hgo
  have ho2:(out++(Bt dg p x19 (BP ps x19) fuel).1).length≤40:=by rw [List.length_append];omega
  exact Bm (s:=(i,undef,out)) (i+1,v41,out++(Bt dg p x19 (BP ps x19) fuel).1) ⟨rfl,rfl,rfl,rfl,rfl,rfl,rfl,rfl,rfl,trivial⟩ ⟨H,by (try dsimp only);omega,hg2,ho2⟩ (by (try dsimp only);omega)
 refine BK (AR (AR (BN (Z (Ab (Ae (Ah 3 U (Ac (Z (Ao (Cv U U U ?_)))))))))))
 replace H:=H.k1
 have e:B0 dg p ps fuel own=(out,0):=hgo.symm.trans (TW (by omega))
 replace H:=H.h1 (A:=Y Ag q out)
 exact Am ⟨_,by rw [e]<;>rfl,by rw [e]<;>rfl⟩ H
theorem On (vp:Value) (p:List BC) (vps:Value) (ps:List Al) (fuel:Int) (hpa:∀ i∈p,AB i.a) (hfu:AB fuel) (hb:ps.length≤1000000):
    Cn Tryz.prog 137 [vp,vps,.int .i64 fuel] [] [Aa Af vp p,Aa Ag vps ps,gl] (fun v Bs=>∃ u,v=.tuple #[u,.int .i64 (B0 dg p ps fuel false).2]∧Bs=[Y Ag u (B0 dg p ps fuel false).1]):=by
 intro w0 F0 H
 refine enter Tryz.func137 U U (Nat.le_of_ble_eq_true U) (Ab (Ae (Ah 2 U (Ac (Z (Ab (Ae (Ah 3 U (sc (NX vp p vps ps fuel false hpa hfu hb) H (lR 0 U (lR 1 U (lR 2 U l0))) U U (At OX U U) ?_)))))))))
 rintro _ _ w ⟨u1,rfl,rfl⟩ H
 refine Ah 4 U (Ac (Z ?_))
 replace H:Hd _ _ _ [Y Ag u1 ((B0 dg p ps fuel false).1)] [Aa Af vp p,Aa Ag vps ps,gl]:=H
 exact Ao (Cv U U U (Am ⟨_,rfl,rfl⟩ H))
theorem TN (vp:Value) (p:List BC) (vps:Value) (ps:List Al) (fuel:Int) (hpa:∀ i∈p,AB i.a) (hfu:AB fuel) (hb:ps.length≤1000000):
    Cn Tryz.prog 125 [vp,vps,.int .i64 fuel] [] [Aa Af vp p,Aa Ag vps ps,gl] (fun v Bs=>∃ u,v=.tuple #[u,.int .i64 (FE dg p ps fuel).2]∧Bs=[Y Ag u (FE dg p ps fuel).1]):=by
 intro w0 F0 H
 obtain ⟨A1,c2,rfl,hc3,hm4,hp5⟩:=H.fR 0 rfl
 obtain ⟨A6,c7,rfl,hc8,hm9,hp10⟩:=H.fR 1 rfl
 refine enter Tryz.func125 U U (Nat.le_of_ble_eq_true U) (Ab (Ae (Ah 2 U (Ac (Z ?_)))))
 replace H:Hd _ _ _ [] [Aa Af (.slice A1 p.length c2) p,Aa Ag (.slice A6 ps.length c7) ps,gl]:=H
 refine Ab (Ab (Ae (Ad U (V U U (A0 U FA U) (V U U (Bp U U U) (Ac (Z ?_)))))))
 refine Ay U (fun h11=>?_) (fun h11=>?_)
 ·refine Ab (Ae (Ad U (sc (Mj (.slice A6 ps.length c7) ps (by first |omega|decide)) H (lR 1 U l0) U U (At LN U U) ?_)))
  rintro v12 _ w rfl H
  replace H:=H.h1 (A:=Y Ag v12 (srt ps))
  refine Ah 2 U (Ac (Z (Ao (Az (Cv U U U ?_)))))
  have e:FE dg p ps fuel=(srt ps,0):=if_pos (by omega)
  exact Am ⟨_,by rw [e]<;>rfl,by rw [e]<;>rfl⟩ H
 refine Av (Z (Ab (Ae (Ah 3 U (sc (NX (.slice A1 p.length c2) p (.slice A6 ps.length c7) ps fuel true hpa hfu hb) H (lR 0 U (lR 1 U (lR 2 U l0))) U U (At OX U U) ?_)))))
 rintro _ _ w ⟨u13,rfl,rfl⟩ H
 replace H:=H.h1 (A:=Y Ag u13 ((B0 dg p ps fuel true).1))
 refine Ah 4 U (Ac (Z (Ao (Cv U U U ?_))))
 have e:FE dg p ps fuel=B0 dg p ps fuel true:=if_neg (by omega)
 exact Am ⟨_,by rw [e]<;>rfl,by rw [e]<;>rfl⟩ H
theorem Ie (vxs:Value) (xs:List BC):
    Cn Tryz.prog 87 [vxs] [] [Aa Af vxs xs] (fun v Bs=>v=.bool (EP xs)∧Bs=[]):=by
 intro w0 F0 H
 obtain ⟨A1,c2,rfl,hc3,hm4,hp5⟩:=H.fR 0 rfl
 refine enter Tryz.func87 U U (Nat.le_of_ble_eq_true U) (Ab (Ae (Ad U (Ac (Z ?_)))))
 replace H:Hd _ _ _ [] [Aa Af (.slice A1 xs.length c2) xs]:=H
 refine Ab (Ab (Ae (Ad U (Ac (Z (AU (BV (σ:=Nat) (fun k=>[(0,.slice A1 xs.length c2),(3,.int .i64 ((k:Nat):Int))]) (fun k w=>(Hd w0 F0 w [] [Aa Af (.slice A1 xs.length c2) xs])∧(k≤xs.length)∧(∀ y∈xs.take k,y.s.size≤100)) (fun k=>xs.length - k) 0 ⟨rfl,rfl,trivial⟩ ⟨H,by omega,by simp⟩ ?_)))))))
 rintro k w ⟨H,hk,hn⟩
 refine Ab (Ab (Ae (Ah 2 U (V U U (A0 U FA U) (V U U (Bg U U U) (Ad U ?_))))))
 refine AQ (d:=8) U (fun h6=>?_) (fun h6=>?_)
 ·refine Ad U (V U U (A0 U FA U) (V U U (Cj U U U) (Ad U (Ac (Z ?_)))))
  refine Ay U (fun h7=>?_) (fun h7=>?_)
  ·refine Av (Z (Ab (AU (Ab (Ae (Ah 2 U ?_))))))
   obtain ⟨x8,hx9⟩:∃ z9,xs[k]?=some z9:=⟨_,List.getElem?_eq_getElem (show k<xs.length by omega)⟩
   have th10:=H.thR 0 rfl hx9
   refine V U U (Bf (p:=AX A1+k*3) U Hf U U (by omega) (by omega) th10 U) (V U U (Aj U E1 U) (V U U (An U BU U (H.elR 0 U hx9 (q:=2) U U)) (V U U (Do U Cu U) (V U U (Cd U U U) (Ac (Z ?_))))))
   refine Ay U (fun h11=>?_) (fun h11=>?_)
   ·exact Ab (Ae (Ad U (Ac (Z (Ao (A_ (Az (Az (A_ (Az (Aq U U (Am ⟨congrArg Value.bool (T2 hx9 (by omega)),rfl⟩ H))))))))))))
   exact Av (A8 (Z (Ae (Ad U (V U U (A9 (z:=((k+1:Nat):Int)) U U U (by rw [AF (by omega) (by omega)];omega)) (Ad U (Ac (Bm (s:=k) (k+1) ⟨rfl,rfl,trivial⟩ ⟨H,by (try dsimp only);omega,Zn hn hx9 (by omega)⟩ (by (try dsimp only);omega)))))))))
  exact BK (AR (AR (BN (Z (Ab (Ae (Ad U (V U U (A0 U FA U) (V U U (Cd U U U) (Ad U (Ac (Z (Ao (Aq U U (Am ⟨congrArg Value.bool (Ox hn (by omega)),rfl⟩ H)))))))))))))))
 exact Ah 4 U (Ac (Z (Cb U (BK (AR (AR (BN (Z (Ab (Ae (Ad U (V U U (A0 U FA U) (V U U (Cd U U U) (Ad U (Ac (Z (Ao (Aq U U (Am ⟨congrArg Value.bool (Ox hn (by omega)),rfl⟩ H)))))))))))))))))))
/-! ### What is told is small -/
def TS (r:VM×Int):Prop:=∀ q∈r.1.told,C7 q
theorem DV {c:Prop} [Decidable c] {x y:VM×Int} (hx:TS x) (hy:TS y):TS (if c then x else y):=by
 split
 ·exact hx
 ·exact hy
theorem Tb {told:List Al} {k v:ByteArray} (h:∀ q∈told,C7 q) (hv:v.size≤64):∀ q∈(DM told k v).2,C7 q:=by
 unfold DM
 split
 ·exact h
 ·split
  ·exact h
  ·intro q hq
   rcases List.mem_append.1 hq with h1|h1
   ·exact h q h1
   ·rw [List.mem_singleton.1 h1]
    exact ⟨by (try dsimp only);omega,hv⟩
theorem Ry {D:Bj} {key:ByteArray} {m:VM} {i:BC} {v:List AP} (h:∀ q∈m.told,C7 q) (hv:(v.getD 1 Cw).b.size≤64):TS (B3 D key m i v):=by
 have hn:TS (G6 m):=by unfold TS;rw [PC];exact h
 have h20:TS (if (v.getD 0 Cw).n≠0 then {m with pos:=i.a} else m,0):=by
  unfold TS
  dsimp only
  split<;>exact h
 exact DV h (DV h (DV h (DV h (DV h (DV h (DV hn (DV h (DV h (DV h (DV h (DV h (DV h (DV h (DV h (DV h (DV h20 (DV h (DV h (DV (Tb h hv) h)))))))))))))))))))
theorem NT {D:Bj} {key:ByteArray} {n:Int} {m:VM} {i:BC} (hm:Er n m) (h:∀ q∈m.told,C7 q):TS (BE D key m i):=by
 by_cases hN:(Au i.op m.stk).1≠0
 ·rw [K6 hN];exact h
 ·rw [Df hN]
  obtain ⟨l1,l2,l3,l4⟩:=L7 (Classical.not_not.1 hN)
  exact Ry h (Mc (fun x hx=>hm.ok.1 x (l3 x hx)) 1).2
theorem JE {p:List BC} (h:Du p<0):p.length≤40∧∀ i∈p,BF i p.length:=by
 have hl:p.length≤40:=by
  apply Classical.byContradiction
  intro hn
  unfold Du at h
  split at h
  ·omega
  ·rw [if_pos (by omega)] at h;omega
 exact ⟨hl,(No hl).1 h⟩
theorem PZ {D:Bj} (hD:∀ s:ByteArray,AB (D.num s)) {p:List BC} {key:ByteArray} (hp:Du p<0) (ha:∀ i∈p,AB i.a):∀ (k:Nat) {m:VM},Er p.length m→(∀ q∈m.told,C7 q)→TS (Cz D p key k m)
 |0,m,hm,h=>by
  unfold Cz
  split<;>exact h
 |k+1,m,hm,h=>by
  by_cases hc:m.pos<p.length∧m.halted=false
  ·obtain ⟨i,hi⟩:∃ i,p[m.pos.toNat]?=some i:=⟨_,List.getElem?_eq_getElem (by have:=hm.pos;omega)⟩
   have him:=B7 hi
   have hm1:Er p.length {m with pos:=m.pos+1}:=⟨hm.ok,hm.len,hm.told,(by have h9:=hm.pos;constructor<;>(try dsimp only)<;>omega)⟩
   by_cases hw:(BE D key {m with pos:=m.pos+1} i).2≠0
   ·rw [PW hc hi hw]
    exact NT hm1 h
   ·rw [PX hc hi hw]
    exact PZ hD hp ha k (OH hD hm1 ((JE hp).2 i him) (ha i him) (Classical.not_not.1 hw)) (NT hm1 h)
  ·rw [Ml _ hc];exact h
theorem Uj (n:Int) (hn:0≤n) (vals:List ByteArray):Er n (Dt vals):=⟨⟨(fun v hv=>by cases hv),fun _=>Me⟩,Nat.zero_le _,Nat.zero_le _,⟨Int.le_refl 0,hn⟩⟩
theorem QH {D:Bj} (hD:∀ s:ByteArray,AB (D.num s)) {p:List BC} (ha:∀ i∈p,AB i.a) (key:ByteArray) (vals:List ByteArray) (fuel:Int):∀ q∈(Bt D p key vals fuel).1,C7 q:=by
 unfold Bt
 split
 ·intro q hq;cases hq
 ·rename_i hn
  split
  ·intro q hq;cases hq
  ·exact PZ hD (by omega) ha _ (Uj _ (by omega) _) (fun q hq=>by cases hq)
theorem Y4 {xs:List Al} (h:∀ q∈xs,C7 q):∀ q∈srt xs,C7 q:=fun q hq=>h q ((Gb xs).symm.mem hq)
theorem NV {D:Bj} (hD:∀ s:ByteArray,AB (D.num s)) {p:List BC} (ha:∀ i∈p,AB i.a) {ps:List Al} {fuel:Int} {own:Bool}:∀ (ks:List ByteArray) (out:List Al),(∀ q∈out,C7 q)→∀ q∈(Ey D p ps fuel own ks out).1,C7 q
 |[],out,h=>h
 |k::ks,out,h=>by
  unfold Ey
  split
  ·intro q hq;cases hq
  ·split
   ·intro q hq;cases hq
   ·split
    ·intro q hq;cases hq
    ·refine NV hD ha ks _ fun q hq=>?_
     rcases List.mem_append.1 hq with h1|h1
     ·exact h q h1
     ·exact QH hD ha _ _ _ q h1
/-! ### In order -/
theorem SA {D:Bj} (hD:∀ s:ByteArray,AB (D.num s)) {p:List BC} (ha:∀ i∈p,AB i.a) {ps:List Al} {fuel:Int} (h:∀ q∈ps,C7 q):∀ q∈(FE D p ps fuel).1,C7 q:=by
 unfold FE
 split
 ·exact Y4 h
 ·exact NV hD ha _ _ fun q hq=>by cases hq
theorem Sz (D:Bj) (p:List BC) (ps:List Al) (fuel:Int) (h:ps.length≤40):(FE D p ps fuel).1.length≤40:=by
 unfold FE
 split
 ·show (srt ps).length≤40
  rw [Fl];exact h
 ·exact NW D p ps fuel true _ _ (Nat.zero_le _)
/-! ### Jobs -/
structure AG where
 us:List (Value×List Al)
 parts:Int
 map:List BC
 comb:List BC
 red:List BC
 chunk:Int
 window:Int
 fuel:Int
 marks:List Int
def GB (x:List Al):Prop:=x.length≤8∧G4 x
instance (x:List Al):Decidable (GB x):=inferInstanceAs (Decidable (_∧_))
def Gv (n:Int):Int→List Int→Prop
 |_,[]=>True
 |l,m::ms=>(l+1≤m∧m≤n)∧Gv n m ms
instance marksUpD (n:Int):∀ (l:Int) (ms:List Int),Decidable (Gv n l ms)
 |_,[]=>isTrue trivial
 |_,m::ms=>haveI:=marksUpD n m ms;inferInstanceAs (Decidable (_∧_))
def D6 (J:AG):Prop:=
 (1≤(J.us.length:Int)∧(J.us.length:Int)≤6)∧(1≤J.parts∧J.parts≤4)∧J.marks.length≤4∧(∀ u∈J.us,GB u.2)∧Gv J.us.length 0 J.marks∧
 (0<J.map.length∧Du J.map<0)∧(0<J.red.length∧Du J.red<0)∧Du J.comb<0∧(1≤J.chunk∧J.chunk≤7)∧(1≤J.window∧J.window≤4)∧1≤J.fuel∧J.fuel≤2000
instance mayJD (J:AG):Decidable (D6 J):=by unfold D6;infer_instance
structure B6 (J:AG):Prop where
 may:D6 J
 map:∀ i∈J.map,AB i.a
 comb:∀ i∈J.comb,AB i.a
 red:∀ i∈J.red,AB i.a
theorem B6.us {J:AG} (h:B6 J):1≤J.us.length∧J.us.length≤6:=by have:=h.may.1;omega
theorem B6.parts {J:AG} (h:B6 J):1≤J.parts∧J.parts≤4:=h.may.2.1
theorem B6.fuel {J:AG} (h:B6 J):1≤J.fuel∧J.fuel≤2000:=h.may.2.2.2.2.2.2.2.2.2.2
theorem B6.split {J:AG} (h:B6 J):∀ u∈J.us,GB u.2:=h.may.2.2.2.1
theorem B6.f64 {J:AG} (h:B6 J):AB J.fuel:=by have:=h.fuel;unfold AB;omega
def ER (D:Bj) (p:List BC) (fuel:Int):List Al→List Al→List Al×Int
 |[],out=>(out,0)
 |r::rs,out=>
  if (Bt D p r.key [r.val] fuel).2≠0 then ([],(Bt D p r.key [r.val] fuel).2)
  else if 40<out.length+(Bt D p r.key [r.val] fuel).1.length then ([],5)
  else ER D p fuel rs (out++(Bt D p r.key [r.val] fuel).1)
section
variable {D:Bj} {p:List BC} {fuel:Int} {rs:List Al} {r:Al} {out:List Al} {i:Nat}
theorem VZ (h:rs.length≤i):ER D p fuel (rs.drop i) out=(out,0):=by
 rw [List.drop_eq_nil_of_le h];rfl
theorem V3 (hr:rs[i]?=some r) (h:(Bt D p r.key [r.val] fuel).2≠0):ER D p fuel (rs.drop i) out=([],(Bt D p r.key [r.val] fuel).2):=by
 rw [Fb hr];exact if_pos h
theorem V0 (hr:rs[i]?=some r) (h:¬ (Bt D p r.key [r.val] fuel).2≠0) (h3:40<out.length+(Bt D p r.key [r.val] fuel).1.length):ER D p fuel (rs.drop i) out=([],5):=by
 rw [Fb hr];unfold ER;rw [if_neg h,if_pos h3]
theorem V1 (hr:rs[i]?=some r) (h:¬ (Bt D p r.key [r.val] fuel).2≠0) (h3:¬ 40<out.length+(Bt D p r.key [r.val] fuel).1.length):
  ER D p fuel (rs.drop (i+1)) (out++(Bt D p r.key [r.val] fuel).1)=ER D p fuel (rs.drop i) out:=by
 rw [Fb hr];conv=>rhs;unfold ER
 rw [if_neg h,if_neg h3]
theorem Px (hD:∀ s:ByteArray,AB (D.num s)) (ha:∀ i∈p,AB i.a):∀ (rs out:List Al),(∀ q∈out,C7 q)→∀ q∈(ER D p fuel rs out).1,C7 q
 |[],out,h=>h
 |r::rs,out,h=>by
  unfold ER
  split
  ·intro q hq;cases hq
  ·split
   ·intro q hq;cases hq
   ·refine Px hD ha rs _ fun q hq=>?_
    rcases List.mem_append.1 hq with h1|h1
    ·exact h q h1
    ·exact QH hD ha _ _ _ q h1
theorem Pw:∀ (rs out:List Al),out.length≤40→(ER D p fuel rs out).1.length≤40
 |[],out,h=>h
 |r::rs,out,h=>by
  unfold ER
  split
  ·exact Nat.zero_le _
  ·split
   ·exact Nat.zero_le _
   ·exact Pw rs _ (by simp only [List.length_append];omega)
end
def recs (J:AG) (s:Nat):List Al:=match J.us[s]? with
 |some u=>u.2
 |none=>[]
theorem X3 {J:AG} {s:Nat} {u:Value×List Al} (h:J.us[s]?=some u):recs J s=u.2:=by unfold recs;rw [h]
def mapM (D:Bj) (J:AG) (s:Nat):List Al×Int:=ER D J.map J.fuel (recs J s) []
def AA (D:Bj) (J:AG) (s:Nat):List Al×Int:=if (mapM D J s).2≠0 then ([],(mapM D J s).2) else FE D J.comb (mapM D J s).1 J.fuel
theorem Pv (D:Bj) (J:AG) (s:Nat):(mapM D J s).1.length≤40:=Pw _ _ (Nat.zero_le _)
theorem HF (D:Bj) (J:AG) (s:Nat):(AA D J s).1.length≤40:=by
 unfold AA
 split
 ·exact Nat.zero_le _
 ·exact Sz _ _ _ _ (Pv _ _ _)
theorem HG {D:Bj} (hD:∀ s:ByteArray,AB (D.num s)) {J:AG} (h:B6 J) (s:Nat):∀ q∈(AA D J s).1,C7 q:=by
 unfold AA
 split
 ·intro q hq;cases hq
 ·exact SA hD h.comb (Px hD h.map _ _ fun q hq=>by cases hq)
def BM (D:Bj) (J:AG) (s:Nat) (p:Int):List Al:=E3 (AA D J s).1 J.parts p
def FC (D:Bj) (J:AG) (p:Int):Nat→List Al
 |0=>[]
 |k+1=>FC D J p k++BM D J k p
theorem G8 (D:Bj) (J:AG) (s:Nat) (p:Int):(BM D J s p).length≤40:=Nat.le_trans (PL _ _ _) (HF _ _ _)
theorem Nh (D:Bj) (J:AG) (p:Int):∀ k,(FC D J p k).length≤40*k
 |0=>Nat.zero_le _
 |k+1=>by
  have:=Nh D J p k
  have:=G8 D J k p
  unfold FC
  rw [List.length_append]
  omega
def DN (D:Bj) (J:AG) (p:Int):List Al×Int:=B0 D J.red (srt (FC D J p J.us.length)) J.fuel false
def partsGo (D:Bj) (J:AG):Nat→Nat→List (List Al)→List (List Al)×Int×Int
 |0,_,out=>(out,0,0)
 |k+1,p,out=>if (DN D J p).2≠0 then ([],(DN D J p).2,p) else partsGo D J k (p+1) (out++[(DN D J p).1])
def wholeGo (D:Bj) (J:AG):Nat→Nat→List (List Al)×Int×Int
 |0,_=>partsGo D J J.parts.toNat 0 []
 |k+1,s=>if (AA D J s).2≠0 then ([],(AA D J s).2,s) else wholeGo D J k (s+1)
def MO (D:Bj) (J:AG):List (List Al)×Int×Int:=wholeGo D J J.us.length 0
section
variable {D:Bj} {J:AG} {s p:Nat} {out:List (List Al)}
end
def Hc (D:Bj) (J:AG) (s:Nat) (p:Int):List Al×Int:=if (AA D J s).2≠0 then ([],(AA D J s).2) else (BM D J s p,0)
def upto (n:Nat):List Int:=(List.range n).map fun (i:Nat)=>(i:Int)
theorem ZL {n k:Nat} (h:k<n):(k:Int)∈upto n:=List.mem_map.2 ⟨k,List.mem_range.2 h,rfl⟩
theorem Ty (zs:List (Value×List Al)) (v:Value) (x:List Al):BH (zs++[(v,x)])=BH zs++x:=by
 unfold BH;rw [List.flatMap_append];simp
def GZ (J:AG):Bool:=decide (¬ (J.us.length≤8∧∀ u∈J.us,Fg u.2 10=false))||decide (10<(J.marks.length:Int))||EP J.map||EP J.comb||EP J.red
theorem TZ {J:AG} {k:Nat} {A:Value} {x:List Al} (hx:J.us[k]?=some (A,x)) (h:Fg x 10=true):true=GZ J:=by
 unfold GZ
 rw [decide_eq_true (show ¬ (J.us.length≤8∧∀ u∈J.us,Fg u.2 10=false) from fun g=>by have:=g.2 _ (B7 hx);rw [h] at this;cases this)]
 simp
theorem G0 {J:AG} (h:8<J.us.length∨10<J.marks.length∨EP J.map=true∨EP J.comb=true):true=GZ J:=by
 unfold GZ
 rcases h with h|h|h|h
 ·rw [decide_eq_true (show ¬ (J.us.length≤8∧∀ u∈J.us,Fg u.2 10=false) from fun g=>by omega)];simp
 ·rw [decide_eq_true (show 10<(J.marks.length:Int) by omega)];simp
 ·rw [h];simp
 ·rw [h];simp
theorem Ou {J:AG} {k:Nat} (hn:∀ u∈J.us.take k,Fg u.2 10=false) (h1:J.us.length≤k) (h2:J.us.length≤8) (h3:J.marks.length≤10) (h4:EP J.map=false) (h5:EP J.comb=false):EP J.red=GZ J:=by
 unfold GZ
 rw [List.take_of_length_le h1] at hn
 rw [decide_eq_false (show ¬ ¬ (J.us.length≤8∧∀ u∈J.us,Fg u.2 10=false) from fun g=>g ⟨h2,hn⟩),decide_eq_false (show ¬ 10<(J.marks.length:Int) by omega),h4,h5]
 simp
theorem Gg (n:Int) (l:Int) (m:Int):
    Cn Tryz.prog 89 [.int .i64 n,.int .i64 l,.int .i64 m] [] [] (fun v Bs=>v=.bool (decide (l≤n∧n≤m))∧Bs=[]):=by
 intro w0 F0 H
 refine enter Tryz.func89 U U (Nat.le_of_ble_eq_true U) (Ab (Ae (Ad U (Ac (Z (Ab (Ae (Ah 2 U (V U U (CA U U U) (Ad U ?_))))))))))
 refine AQ (d:=10) U (fun h1=>?_) (fun h1=>?_)
 ·exact Ah 2 U (V U U (Cj U U U) (Ah 2 U (Ac (Z (Ao (Aq U U (Am ⟨congrArg Value.bool (decide_eq_decide.2 (by omega)),rfl⟩ H)))))))
 exact Ah 5 U (Ac (Z (Ao (Aq U U (Am ⟨congrArg Value.bool ((decide_eq_false (by omega)).symm),rfl⟩ H)))))
theorem OK (vxs:Value) (xs:List BC):
    Cn Tryz.prog 153 [vxs] [] [Aa Af vxs xs] (fun v Bs=>v=.bool (decide (0<(xs).length∧Du xs<0))∧Bs=[]):=by
 intro w0 F0 H
 obtain ⟨A1,c2,rfl,hc3,hm4,hp5⟩:=H.fR 0 rfl
 refine enter Tryz.func153 U U (Nat.le_of_ble_eq_true U) (Ab (Ae (Ad U (Ac (Z ?_)))))
 replace H:Hd _ _ _ [] [Aa Af (.slice A1 xs.length c2) xs]:=H
 refine Ab (Ae (Ad U (V U U (A0 U FA U) (V U U (Cd U U U) (Ad U ?_)))))
 refine AQ (d:=6) U (fun h6=>?_) (fun h6=>?_)
 ·refine Ad U (sc (Mg (.slice A1 xs.length c2) xs) H (lR 0 U l0) U U (At LK U U) ?_)
  rintro _ _ w ⟨rfl,rfl⟩ H
  exact Ah 2 U (Ac (Z (Ao (Aq U U (Am ⟨congrArg Value.bool (decide_eq_decide.2 (by omega)),rfl⟩ H)))))
 exact Ah 4 U (Ac (Z (Ao (Aq U U (Am ⟨congrArg Value.bool ((decide_eq_false (by omega)).symm),rfl⟩ H)))))
theorem LC (vS vM vC vR vK:Value) (J:AG):
    Cn Tryz.prog 88 [.agg #[vS,.int .i64 J.parts,vM,vC,vR,.int .i64 J.chunk,.int .i64 J.window,.int .i64 J.fuel,vK]] [] [Aa (Ak Ag) vS J.us,Aa Af vM J.map,Aa Af vC J.comb,Aa Af vR J.red,Aa (Ai .i64) vK J.marks] (fun v Bs=>v=.bool (decide (D6 J))∧Bs=[]):=by
 intro w0 F0 H
 obtain ⟨A1,c2,rfl,hc3,hm4,hp5⟩:=H.fR 0 rfl
 obtain ⟨A6,c7,rfl,hc8,hm9,hp10⟩:=H.fR 1 rfl
 obtain ⟨A11,c12,rfl,hc13,hm14,hp15⟩:=H.fR 2 rfl
 obtain ⟨A16,c17,rfl,hc18,hm19,hp20⟩:=H.fR 3 rfl
 obtain ⟨A21,c22,rfl,hc23,hm24,hp25⟩:=H.fR 4 rfl
 refine enter Tryz.func88 U U (Nat.le_of_ble_eq_true U) (Ab (Ae (CH U U U U H (fun b26 w H=>(Ad U (Ac (Z ?_)))))))
 replace H:Hd _ _ _ [blk b26 [.slice A1 J.us.length c2,.int .i64 J.parts,.slice A6 J.map.length c7,.slice A11 J.comb.length c12,.slice A16 J.red.length c17,.int .i64 J.chunk,.int .i64 J.window,.int .i64 J.fuel,.slice A21 J.marks.length c22] 26] [Aa (Ak Ag) (.slice A1 J.us.length c2) J.us,Aa Af (.slice A6 J.map.length c7) J.map,Aa Af (.slice A11 J.comb.length c12) J.comb,Aa Af (.slice A16 J.red.length c17) J.red,Aa (Ai .i64) (.slice A21 J.marks.length c22) J.marks]:=H
 refine Ab (Ab (Ae (V U U (Aj U DE U) (V U U (An U DI U (H.cellI 0 U U)) (V U U (A0 U DJ U) (sc (Gg ((J.us.length:Nat):Int) 1 6) H l0 U U (At F6 U U) ?_))))))
 rintro _ _ w ⟨rfl,rfl⟩ H
 refine V U U (Eg U U) (Ad U ?_)
 refine AQ (d:=13) U (fun h27=>?_) (fun h27=>?_)
 ·refine Ah 11 U (Ac (Z (Cc U (Ab (Ae (Ad U (Ac (Z (Ao (Az (Aq U U ?_)))))))))))
  replace H:=H.nil
  have e:¬ D6 J:=by
    rintro ⟨g1,g2,g3,g4,g5,g6,g7,g8,g9,g10,g11⟩
    omega
  exact Am ⟨congrArg Value.bool (decide_eq_false e).symm,rfl⟩ H
 refine V U U (Aj U GY U) (V U U (An U AE U (H.cellI 0 U U)) (sc (Gg J.parts 1 4) H l0 U U (At F6 U U) ?_))
 rintro _ _ w ⟨rfl,rfl⟩ H
 refine V U U (Eg U U) (Ah 2 U ?_)
 refine AQ (d:=19) U (fun h28=>?_) (fun h28=>?_)
 ·refine Ah 5 U (Ac (Z (Cc U (Ab (Ae (Ad U (Ac (Z (Ao (Az (Aq U U ?_)))))))))))
  replace H:=H.nil
  have e:¬ D6 J:=by
    rintro ⟨g1,g2,g3,g4,g5,g6,g7,g8,g9,g10,g11⟩
    omega
  exact Am ⟨congrArg Value.bool (decide_eq_false e).symm,rfl⟩ H
 refine V U U (Aj U Hy U) (V U U (An U Gd U (H.cellI 0 U U)) (V U U (A0 U Ec U) (V U U (Cd U U U) (Ad U (Ac (Z ?_))))))
 refine Ay U (fun h29=>?_) (fun h29=>?_)
 ·refine Ab (Ae (Ad U (Ac (Z (Ao (Az (Aq U U ?_)))))))
  replace H:=H.nil
  have e:¬ D6 J:=by
    rintro ⟨g1,g2,g3,g4,g5,g6,g7,g8,g9,g10,g11⟩
    omega
  exact Am ⟨congrArg Value.bool (decide_eq_false e).symm,rfl⟩ H
 refine Av (Z (Ab (Ab (Ae (V U U (Aj U DE U) (V U U (An U DI U (H.cellI 0 U U)) (V U U (A0 U DJ U) (Ad U (Ac (Z (AU (BV (σ:=Nat) (fun k=>[(1,.pointer (some ⟨b26,0,none⟩)),(26,.slice A1 J.us.length c2),(27,.int .i64 ((J.us.length:Nat):Int)),(28,.int .i64 ((k:Nat):Int))]) (fun k w=>(Hd w0 F0 w [blk b26 [.slice A1 J.us.length c2,.int .i64 J.parts,.slice A6 J.map.length c7,.slice A11 J.comb.length c12,.slice A16 J.red.length c17,.int .i64 J.chunk,.int .i64 J.window,.int .i64 J.fuel,.slice A21 J.marks.length c22] 26] [Aa (Ak Ag) (.slice A1 J.us.length c2) J.us,Aa Af (.slice A6 J.map.length c7) J.map,Aa Af (.slice A11 J.comb.length c12) J.comb,Aa Af (.slice A16 J.red.length c17) J.red,Aa (Ai .i64) (.slice A21 J.marks.length c22) J.marks])∧(k≤J.us.length)∧(∀ u∈J.us.take k,GB u.2)) (fun k=>J.us.length - k) 0 ⟨rfl,rfl,rfl,rfl,trivial⟩ ⟨H,by omega,by simp⟩ ?_))))))))))))
 rintro k w ⟨H,hk,hn⟩
 refine Ab (Ae (V U U (Bg U U U) (Ac (Z (Ab ?_)))))
 refine Ay U (fun h30=>?_) (fun h30=>?_)
 ·refine Av (Z (Ab (AU (Ab (Ae ?_)))))
  obtain ⟨⟨u33,x31⟩,hx32⟩:∃ z9,J.us[k]?=some z9:=⟨_,List.getElem?_eq_getElem (show k<J.us.length by omega)⟩
  obtain ⟨A34,c35,rfl,hc36,hm37⟩:=H.nestR 0 rfl hx32
  have th38:=H.thRd 0 rfl hx32
  refine V U U (Bf (p:=AX A1+k*1) U Eh U U (by omega) (by omega) th38 U) (V U U (An U Eb U (H.elRd 0 U hx32 U)) (Ad U (Ac (Z (Ab (Ae (Ad U (V U U (A0 U CD U) (V U U (Cd U U U) (Ad U ?_))))))))))
  refine AQ (d:=35) U (fun h39=>?_) (fun h39=>?_)
  ·refine Ah 4 U (Ac (Z (Cc U (Ab (Ae (Ad U (Ac (Z (Ao (A_ (Az (Az (A_ (Az (Aq U U ?_)))))))))))))))
   replace H:=H.nil
   have e:¬ D6 J:=by
     rintro ⟨g1,g2,g3,g4,g5,g6,g7,g8,g9,g10,g11⟩
     have g:=g4 _ (B7 hx32);have ga:x31.length≤8:=g.1;first |exact (h39 g.2).elim|omega
   exact Am ⟨congrArg Value.bool (decide_eq_false e).symm,rfl⟩ H
  refine Ad U (sc (PR (.slice A34 x31.length c35) x31) H (lX (fun F hA hR=>Gw (hR _ (List.mem_of_getElem? (i:=0) U)) hx32) l0) U U (At ON U U) ?_)
  rintro _ _ w ⟨rfl,rfl⟩ H
  refine V U U (Eg U U) (Ad U (Ac (Z ?_)))
  refine Ay U (fun h40=>?_) (fun h40=>?_)
  ·refine Ab (Ae (Ad U (Ac (Z (Ao (A_ (Az (Az (A_ (Az (Aq U U ?_)))))))))))
   replace H:=H.nil
   have e:¬ D6 J:=by
     rintro ⟨g1,g2,g3,g4,g5,g6,g7,g8,g9,g10,g11⟩
     have g:=g4 _ (B7 hx32);have ga:x31.length≤8:=g.1;first |exact (h40 g.2).elim|omega
   exact Am ⟨congrArg Value.bool (decide_eq_false e).symm,rfl⟩ H
  refine Av (A8 (Z (Ae (V U U (A9 (z:=((k+1:Nat):Int)) U U U (by rw [AF (by omega) (by omega)];omega)) (Ad U (Ac ?_))))))
  have hn2:=Jt (Q:=fun u:Value×List Al=>GB u.2) hn hx32 ⟨(show x31.length≤8 by omega),Classical.not_not.1 h40⟩
  exact Bm (s:=k) (k+1) ⟨rfl,rfl,rfl,rfl,trivial⟩ ⟨H,by (try dsimp only);omega,hn2⟩ (by (try dsimp only);omega)
 refine BK (AR (AR (BN (Z (Ab (Ae (Ad U (Ac (Z (Ab (Ab (Ae (V U U (Aj U Hy U) (V U U (An U Gd U (H.cellI 0 U U)) (V U U (A0 U Ec U) (Ad U (Ac (Z (AU ?_)))))))))))))))))))
 have hal:∀ u∈J.us,GB u.2:=by rw [←HI (xs:=J.us) (k:=k) (by omega)];exact hn
 refine BV (σ:=Nat×Int) (fun (j,last)=>[(1,.pointer (some ⟨b26,0,none⟩)),(5,.int .i64 last),(42,.slice A21 J.marks.length c22),(43,.int .i64 ((J.marks.length:Nat):Int)),(44,.int .i64 ((j:Nat):Int))]) (fun (j,last) w=>(Hd w0 F0 w [blk b26 [.slice A1 J.us.length c2,.int .i64 J.parts,.slice A6 J.map.length c7,.slice A11 J.comb.length c12,.slice A16 J.red.length c17,.int .i64 J.chunk,.int .i64 J.window,.int .i64 J.fuel,.slice A21 J.marks.length c22] 26] [Aa (Ak Ag) (.slice A1 J.us.length c2) J.us,Aa Af (.slice A6 J.map.length c7) J.map,Aa Af (.slice A11 J.comb.length c12) J.comb,Aa Af (.slice A16 J.red.length c17) J.red,Aa (Ai .i64) (.slice A21 J.marks.length c22) J.marks])∧(j≤J.marks.length∧0≤last∧last≤6)∧(Gv J.us.length last (J.marks.drop j)↔Gv J.us.length 0 J.marks)) (fun (j,last)=>J.marks.length - j) (0,0) ⟨rfl,rfl,rfl,rfl,rfl,trivial⟩ ⟨H,by (try dsimp only);omega,Iff.rfl⟩ ?_
 rintro ⟨j,last⟩ w ⟨H,hj,hm⟩
 refine Ab (Ae (V U U (Bg U U U) (Ac (Z (Ab ?_)))))
 refine Ay U (fun h41=>?_) (fun h41=>?_)
 ·refine Av (Z (Ab (AU (Ab (Ae ?_)))))
  obtain ⟨x42,hx43⟩:∃ z9,J.marks[j]?=some z9:=⟨_,List.getElem?_eq_getElem (show j<J.marks.length by omega)⟩
  have th44:=H.thR 4 rfl hx43
  refine V U U (Bf (p:=AX A21+j*1) U DP U U (by omega) (by omega) th44 U) (V U U (An U AE U (H.elR 4 U hx43 (q:=0) U U)) (Ad U (Ac (Z (Ab (Ab (Ae (Ah 2 U (V U U (A9 (z:=last+1) U U U (AF (by omega) (by omega))) (V U U (Aj U DE U) (V U U (An U DI U (H.cellI 0 U U)) (V U U (A0 U DJ U) (sc (Gg x42 (last+1) ((J.us.length:Nat):Int)) H l0 U U (At F6 U U) ?_)))))))))))))
  rintro _ _ w ⟨rfl,rfl⟩ H
  refine V U U (Eg U U) (Ac (Z ?_))
  refine Ay U (fun h45=>?_) (fun h45=>?_)
  ·refine Ab (Ae (Ad U (Ac (Z (Ao (Az (A_ (Az (Az (A_ (Az (Aq U U ?_))))))))))))
   replace H:=H.nil
   have e:¬ D6 J:=by
     rintro ⟨g1,g2,g3,g4,g5,g6,g7,g8,g9,g10,g11⟩
     have g:=hm.2 g5;rw [Fb hx43] at g;have g0:=g.1;omega
   exact Am ⟨congrArg Value.bool (decide_eq_false e).symm,rfl⟩ H
  refine Av (Z (Ae (Ah 2 U (Ac (A8 (Z (Ae (V U U (A9 (z:=((j+1:Nat):Int)) U U U (by rw [AF (by omega) (by omega)];omega)) (Ad U (Ac ?_))))))))))
  have hm2:Gv J.us.length x42 (J.marks.drop (j+1))↔Gv J.us.length 0 J.marks:=by rw [←hm,Fb hx43];exact ⟨fun g=>⟨by omega,g⟩,fun g=>g.2⟩
  exact Bm (s:=(j,last)) (j+1,x42) ⟨rfl,rfl,rfl,rfl,rfl,trivial⟩ ⟨H,by (try dsimp only);omega,hm2⟩ (by (try dsimp only);omega)
 refine BK (AR (AR (BN (Z (Ab (Ae (V U U (Aj U Ia U) (V U U (An U Ea U (H.cellI 0 U U)) (sc (OK (.slice A6 J.map.length c7) J.map) H (lR 1 U l0) U U (At OS U U) ?_)))))))))
 rintro _ _ w ⟨rfl,rfl⟩ H
 refine Ad U ?_
 refine AQ (d:=61) U (fun h46=>?_) (fun h46=>?_)
 ·refine V U U (Aj U Hx U) (V U U (An U Ea U (H.cellI 0 U U)) (sc (OK (.slice A16 J.red.length c17) J.red) H (lR 3 U l0) U U (At OS U U) ?_))
  rintro _ _ w ⟨rfl,rfl⟩ H
  refine Ah 2 U ?_
  refine AQ (d:=66) U (fun h47=>?_) (fun h47=>?_)
  ·refine V U U (Aj U Ib U) (V U U (An U Ea U (H.cellI 0 U U)) (sc (Mg (.slice A11 J.comb.length c12) J.comb) H (lR 2 U l0) U U (At LK U U) ?_))
   rintro _ _ w ⟨rfl,rfl⟩ H
   refine Ah 2 U ?_
   refine AQ (d:=71) U (fun h48=>?_) (fun h48=>?_)
   ·refine V U U (Aj U Of U) (V U U (An U AE U (H.cellI 0 U U)) (sc (Gg J.chunk 1 7) H l0 U U (At F6 U U) ?_))
    rintro _ _ w ⟨rfl,rfl⟩ H
    refine Ah 2 U ?_
    refine AQ (d:=76) U (fun h49=>?_) (fun h49=>?_)
    ·refine V U U (Aj U Og U) (V U U (An U AE U (H.cellI 0 U U)) (sc (Gg J.window 1 4) H l0 U U (At F6 U U) ?_))
     rintro _ _ w ⟨rfl,rfl⟩ H
     refine Ah 2 U ?_
     refine AQ (d:=81) U (fun h50=>?_) (fun h50=>?_)
     ·refine V U U (Aj U I1 U) (V U U (An U AE U (H.cellI 0 U U)) (sc (Gg J.fuel 1 2000) H l0 U U (At F6 U U) ?_))
      rintro _ _ w ⟨rfl,rfl⟩ H
      refine Ah 2 U (Ac (Z (Ao (Aq U U ?_))))
      replace H:=H.nil
      have hmk:Gv J.us.length 0 J.marks:=hm.1 (by rw [List.drop_eq_nil_of_le (by omega)];trivial)
      have e:(1≤J.fuel∧J.fuel≤2000)↔D6 J:=⟨fun g=>⟨by omega,by omega,by omega,hal,hmk,by omega,by omega,by omega,by omega,by omega,by omega⟩,fun g=>by have g6:=g.2.2.2.2.2;omega⟩
      exact Am ⟨congrArg Value.bool (decide_eq_decide.2 e),rfl⟩ H
     refine Ah 5 U (Ac (Z (Ao (Aq U U ?_))))
     replace H:=H.nil
     have e:¬ D6 J:=by
       rintro ⟨g1,g2,g3,g4,g5,g6,g7,g8,g9,g10,g11⟩
       omega
     exact Am ⟨congrArg Value.bool (decide_eq_false e).symm,rfl⟩ H
    refine Ah 10 U (Ac (Z (Ao (Aq U U ?_))))
    replace H:=H.nil
    have e:¬ D6 J:=by
      rintro ⟨g1,g2,g3,g4,g5,g6,g7,g8,g9,g10,g11⟩
      omega
    exact Am ⟨congrArg Value.bool (decide_eq_false e).symm,rfl⟩ H
   refine Ah 12 U (Ah 3 U (Ac (Z (Ao (Aq U U ?_)))))
   replace H:=H.nil
   have e:¬ D6 J:=by
     rintro ⟨g1,g2,g3,g4,g5,g6,g7,g8,g9,g10,g11⟩
     omega
   exact Am ⟨congrArg Value.bool (decide_eq_false e).symm,rfl⟩ H
  refine Ah 12 U (Ah 8 U (Ac (Z (Ao (Aq U U ?_)))))
  replace H:=H.nil
  have e:¬ D6 J:=by
    rintro ⟨g1,g2,g3,g4,g5,g6,g7,g8,g9,g10,g11⟩
    omega
  exact Am ⟨congrArg Value.bool (decide_eq_false e).symm,rfl⟩ H
 refine Ah 12 U (Ah 12 U (Ad U (Ac (Z (Ao (Aq U U ?_))))))
 replace H:=H.nil
 have e:¬ D6 J:=by
   rintro ⟨g1,g2,g3,g4,g5,g6,g7,g8,g9,g10,g11⟩
   omega
 exact Am ⟨congrArg Value.bool (decide_eq_false e).symm,rfl⟩ H
theorem T0 (vS vM vC vR vK:Value) (J:AG):
    Cn Tryz.prog 18 [.agg #[vS,.int .i64 J.parts,vM,vC,vR,.int .i64 J.chunk,.int .i64 J.window,.int .i64 J.fuel,vK]] [] [Aa (Ak Ag) vS J.us,Aa Af vM J.map,Aa Af vC J.comb,Aa Af vR J.red,Aa (Ai .i64) vK J.marks] (fun v Bs=>v=.bool (GZ J)∧Bs=[]):=by
 intro w0 F0 H
 obtain ⟨A1,c2,rfl,hc3,hm4,hp5⟩:=H.fR 0 rfl
 obtain ⟨A6,c7,rfl,hc8,hm9,hp10⟩:=H.fR 1 rfl
 obtain ⟨A11,c12,rfl,hc13,hm14,hp15⟩:=H.fR 2 rfl
 obtain ⟨A16,c17,rfl,hc18,hm19,hp20⟩:=H.fR 3 rfl
 obtain ⟨A21,c22,rfl,hc23,hm24,hp25⟩:=H.fR 4 rfl
 refine enter Tryz.func18 U U (Nat.le_of_ble_eq_true U) (Ab (Ae (CH U U U U H (fun b26 w H=>(Ad U (Ac (Z ?_)))))))
 replace H:Hd _ _ _ [blk b26 [.slice A1 J.us.length c2,.int .i64 J.parts,.slice A6 J.map.length c7,.slice A11 J.comb.length c12,.slice A16 J.red.length c17,.int .i64 J.chunk,.int .i64 J.window,.int .i64 J.fuel,.slice A21 J.marks.length c22] 26] [Aa (Ak Ag) (.slice A1 J.us.length c2) J.us,Aa Af (.slice A6 J.map.length c7) J.map,Aa Af (.slice A11 J.comb.length c12) J.comb,Aa Af (.slice A16 J.red.length c17) J.red,Aa (Ai .i64) (.slice A21 J.marks.length c22) J.marks]:=H
 refine Ab (Ab (Ae (Ad U (Ac (Z (AU (BV (σ:=Nat) (fun k=>[(1,.pointer (some ⟨b26,0,none⟩)),(3,.int .i64 ((k:Nat):Int))]) (fun k w=>(Hd w0 F0 w [blk b26 [.slice A1 J.us.length c2,.int .i64 J.parts,.slice A6 J.map.length c7,.slice A11 J.comb.length c12,.slice A16 J.red.length c17,.int .i64 J.chunk,.int .i64 J.window,.int .i64 J.fuel,.slice A21 J.marks.length c22] 26] [Aa (Ak Ag) (.slice A1 J.us.length c2) J.us,Aa Af (.slice A6 J.map.length c7) J.map,Aa Af (.slice A11 J.comb.length c12) J.comb,Aa Af (.slice A16 J.red.length c17) J.red,Aa (Ai .i64) (.slice A21 J.marks.length c22) J.marks])∧(k≤J.us.length)∧(∀ u∈J.us.take k,Fg u.2 10=false)) (fun k=>J.us.length - k) 0 ⟨rfl,rfl,trivial⟩ ⟨H,by omega,by simp⟩ ?_)))))))
 rintro k w ⟨H,hk,hn⟩
 refine Ab (Ab (Ae (Ad U (V U U (Aj U DE U) (V U U (An U DI U (H.cellI 0 U U)) (V U U (A0 U DJ U) (V U U (Bg U U U) (Ad U ?_))))))))
 refine AQ (d:=9) U (fun h27=>?_) (fun h27=>?_)
 ·refine V U U (Aj U DE U) (V U U (An U DI U (H.cellI 0 U U)) (V U U (A0 U DJ U) (V U U (Cj U U U) (Ad U (Ac (Z ?_))))))
  refine Ay U (fun h28=>?_) (fun h28=>?_)
  ·refine Av (Z (Ab (AU (Ab (Ae (V U U (Aj U DE U) (V U U (An U DI U (H.cellI 0 U U)) (Ad U ?_))))))))
   obtain ⟨⟨u31,x29⟩,hx30⟩:∃ z9,J.us[k]?=some z9:=⟨_,List.getElem?_eq_getElem (show k<J.us.length by omega)⟩
   obtain ⟨A32,c33,rfl,hc34,hm35⟩:=H.nestR 0 rfl hx30
   have th36:=H.thRd 0 rfl hx30
   refine V U U (Bf (p:=AX A1+k*1) U Eh U U (by omega) (by omega) th36 U) (V U U (An U Eb U (H.elRd 0 U hx30 U)) (sc (T1 (.slice A32 x29.length c33) x29 10) H (lX (fun F hA hR=>Gw (hR _ (List.mem_of_getElem? (i:=0) U)) hx30) l0) U U (At U0 U U) ?_))
   rintro _ _ w ⟨rfl,rfl⟩ H
   refine Ac (Z ?_)
   refine Dv (b:=Fg x29 10) U (fun h37=>?_) (fun h37=>?_)
   ·refine Ab (Ae (Ad U (Ac (Z (Ao (A_ (Az (Az (A_ (Az (Aq U U ?_)))))))))))
    replace H:=H.nil
    exact Am ⟨congrArg Value.bool (TZ hx30 h37),rfl⟩ H
   refine Av (A8 (Z (Ae (Ad U (V U U (A9 (z:=((k+1:Nat):Int)) U U U (by rw [AF (by omega) (by omega)];omega)) (Ad U (Ac ?_)))))))
   have hn2:=Jt (Q:=fun u:Value×List Al=>Fg u.2 10=false) hn hx30 (show Fg x29 10=false by simpa using h37)
   exact Bm (s:=k) (k+1) ⟨rfl,rfl,trivial⟩ ⟨H,by (try dsimp only);omega,hn2⟩ (by (try dsimp only);omega)
  refine BK (AR (AR (BN (Z (Ab (Ae (V U U (Aj U DE U) (V U U (An U DI U (H.cellI 0 U U)) (V U U (A0 U DJ U) (V U U (Cd U U U) (Ad U ?_)))))))))))
  refine AQ (d:=27) U (fun h38=>?_) (fun h38=>?_)
  ·refine Ah 12 U (Ah 9 U (Ac (Z (Ao (Aq U U ?_)))))
   replace H:=H.nil
   exact Am ⟨congrArg Value.bool (G0 (by first |exact .inl (by omega)|exact .inr (.inl (by omega))|exact .inr (.inr (.inl h38))|exact .inr (.inr (.inr h38)))),rfl⟩ H
  refine V U U (Aj U Hy U) (V U U (An U Gd U (H.cellI 0 U U)) (V U U (A0 U Ec U) (V U U (Cd U U U) (Ah 2 U ?_))))
  refine AQ (d:=33) U (fun h39=>?_) (fun h39=>?_)
  ·refine Ah 12 U (Ah 3 U (Ac (Z (Ao (Aq U U ?_)))))
   replace H:=H.nil
   exact Am ⟨congrArg Value.bool (G0 (by first |exact .inl (by omega)|exact .inr (.inl (by omega))|exact .inr (.inr (.inl h39))|exact .inr (.inr (.inr h39)))),rfl⟩ H
  refine V U U (Aj U Ia U) (V U U (An U Ea U (H.cellI 0 U U)) (sc (Ie (.slice A6 J.map.length c7) J.map) H (lR 1 U l0) U U (At Io U U) ?_))
  rintro _ _ w ⟨rfl,rfl⟩ H
  refine Ah 2 U ?_
  refine Em (d:=38) (b:=EP J.map) U (fun h40=>?_) (fun h40=>?_)
  ·refine Ah 10 U (Ac (Z (Ao (Aq U U ?_))))
   replace H:=H.nil
   exact Am ⟨congrArg Value.bool (G0 (by first |exact .inl (by omega)|exact .inr (.inl (by omega))|exact .inr (.inr (.inl h40))|exact .inr (.inr (.inr h40)))),rfl⟩ H
  refine V U U (Aj U Ib U) (V U U (An U Ea U (H.cellI 0 U U)) (sc (Ie (.slice A11 J.comb.length c12) J.comb) H (lR 2 U l0) U U (At Io U U) ?_))
  rintro _ _ w ⟨rfl,rfl⟩ H
  refine Ah 2 U ?_
  refine Em (d:=43) (b:=EP J.comb) U (fun h41=>?_) (fun h41=>?_)
  ·refine Ah 5 U (Ac (Z (Ao (Aq U U ?_))))
   replace H:=H.nil
   exact Am ⟨congrArg Value.bool (G0 (by first |exact .inl (by omega)|exact .inr (.inl (by omega))|exact .inr (.inr (.inl h41))|exact .inr (.inr (.inr h41)))),rfl⟩ H
  refine V U U (Aj U Hx U) (V U U (An U Ea U (H.cellI 0 U U)) (sc (Ie (.slice A16 J.red.length c17) J.red) H (lR 3 U l0) U U (At Io U U) ?_))
  rintro _ _ w ⟨rfl,rfl⟩ H
  refine Ah 2 U (Ac (Z (Ao (Aq U U ?_))))
  replace H:=H.nil
  exact Am ⟨congrArg Value.bool (Ou hn (by omega) (by omega) (by omega) (by simpa using h40) (by simpa using h41)),rfl⟩ H
 refine Ah 5 U (Ac (Z (Cb U (BK (AR (AR (BN (Z (Ab (Ae (V U U (Aj U DE U) (V U U (An U DI U (H.cellI 0 U U)) (V U U (A0 U DJ U) (V U U (Cd U U U) (Ad U ?_)))))))))))))))
 refine AQ (d:=27) U (fun h42=>?_) (fun h42=>?_)
 ·refine Ah 12 U (Ah 9 U (Ac (Z (Ao (Aq U U ?_)))))
  replace H:=H.nil
  exact Am ⟨congrArg Value.bool (G0 (by first |exact .inl (by omega)|exact .inr (.inl (by omega))|exact .inr (.inr (.inl h42))|exact .inr (.inr (.inr h42)))),rfl⟩ H
 refine V U U (Aj U Hy U) (V U U (An U Gd U (H.cellI 0 U U)) (V U U (A0 U Ec U) (V U U (Cd U U U) (Ah 2 U ?_))))
 refine AQ (d:=33) U (fun h43=>?_) (fun h43=>?_)
 ·refine Ah 12 U (Ah 3 U (Ac (Z (Ao (Aq U U ?_)))))
  replace H:=H.nil
  exact Am ⟨congrArg Value.bool (G0 (by first |exact .inl (by omega)|exact .inr (.inl (by omega))|exact .inr (.inr (.inl h43))|exact .inr (.inr (.inr h43)))),rfl⟩ H
 refine V U U (Aj U Ia U) (V U U (An U Ea U (H.cellI 0 U U)) (sc (Ie (.slice A6 J.map.length c7) J.map) H (lR 1 U l0) U U (At Io U U) ?_))
 rintro _ _ w ⟨rfl,rfl⟩ H
 refine Ah 2 U ?_
 refine Em (d:=38) (b:=EP J.map) U (fun h44=>?_) (fun h44=>?_)
 ·refine Ah 10 U (Ac (Z (Ao (Aq U U ?_))))
  replace H:=H.nil
  exact Am ⟨congrArg Value.bool (G0 (by first |exact .inl (by omega)|exact .inr (.inl (by omega))|exact .inr (.inr (.inl h44))|exact .inr (.inr (.inr h44)))),rfl⟩ H
 refine V U U (Aj U Ib U) (V U U (An U Ea U (H.cellI 0 U U)) (sc (Ie (.slice A11 J.comb.length c12) J.comb) H (lR 2 U l0) U U (At Io U U) ?_))
 rintro _ _ w ⟨rfl,rfl⟩ H
 refine Ah 2 U ?_
 refine Em (d:=43) (b:=EP J.comb) U (fun h45=>?_) (fun h45=>?_)
 ·refine Ah 5 U (Ac (Z (Ao (Aq U U ?_))))
  replace H:=H.nil
  exact Am ⟨congrArg Value.bool (G0 (by first |exact .inl (by omega)|exact .inr (.inl (by omega))|exact .inr (.inr (.inl h45))|exact .inr (.inr (.inr h45)))),rfl⟩ H
 refine V U U (Aj U Hx U) (V U U (An U Ea U (H.cellI 0 U U)) (sc (Ie (.slice A16 J.red.length c17) J.red) H (lR 3 U l0) U U (At Io U U) ?_))
 rintro _ _ w ⟨rfl,rfl⟩ H
 refine Ah 2 U (Ac (Z (Ao (Aq U U ?_))))
 replace H:=H.nil
 exact Am ⟨congrArg Value.bool (Ou hn (by omega) (by omega) (by omega) (by simpa using h44) (by simpa using h45)),rfl⟩ H
theorem Xf (key:ByteArray) (hb0:key.size≤9223372036854775807):
    Cn Tryz.prog 215 [.string key] [] [] (fun v Bs=>v=.int .u32 (Ef key key.size)∧Bs=[]):=by
 intro w0 F0 H
 refine enter Tryz.func215 U U (Nat.le_of_ble_eq_true U) (Ab (Ae (Ad U (Ac (Z (Ab (Ae (Ad U (Ac (Z (Ab (Ab (Ae (Ad U (V U U (Do U Cu U) (Ad U (Ac (Z (AU (BV (σ:=Nat) (fun k=>[(0,.string key),(2,.int .u32 0),(3,.int .u32 (Ef key k)),(6,.int .i64 ((key.size:Nat):Int)),(7,.int .i64 ((k:Nat):Int))]) (fun k w=>(Hd w0 F0 w [] [])∧(k≤key.size)) (fun k=>key.size - k) 0 ⟨rfl,rfl,rfl,rfl,rfl,trivial⟩ ⟨H,by (try dsimp only);omega⟩ ?_))))))))))))))))))))
 rintro k w ⟨H,hk⟩
 refine Ab (Ae (V U U (Bg U U U) (Ac (Z (Ab ?_)))))
 refine Ay U (fun h1=>?_) (fun h1=>?_)
 ·refine Av (Z (Ab (AU (Ab (Ae (Ah 2 U (Ac (Z (Ae (Ad U (V U U (Ha (z:=IntKind.u32.wrap (31*Ef key k)) U U U U) (Ah 2 U ?_))))))))))))
  obtain ⟨b,hb⟩:∃ b,key[k]?=some b:=⟨_,getElem?_pos key k (by omega)⟩
  exact V U U (Ji U Cu U U (by omega) hb) (V U U (DA (z:=((b).toNat:Int)) U U HM Rh (Z4 b)) (V U U (A9 (z:=IntKind.u32.wrap (IntKind.u32.wrap (31*Ef key k)+(b.toNat:Int))) U U U U) (Ad U (Ac (A8 (Z (Ae (V U U (A9 (z:=((k+1:Nat):Int)) U U U (by rw [AF (by omega) (by omega)];omega)) (Ad U (Ac (Bm (s:=k) (k+1) ⟨rfl,rfl,congrArg (fun z=>some (Value.int .u32 z)) (Wu hb).symm,rfl,rfl,trivial⟩ ⟨H,by (try dsimp only);omega⟩ (by (try dsimp only);omega))))))))))))
 refine BK (AR (AR (BN (Z (Ab (Ae (Ah 2 U (Ac (Z (Ao (Aq U U ?_)))))))))))
 obtain rfl:k=key.size:=by omega
 exact Am ⟨rfl,rfl⟩ H
theorem Xg (key:ByteArray) (n:Int) (hb0:key.size≤9223372036854775807) (hn:n≤9223372036854775807):
    Cn Tryz.prog 178 [.string key,.int .i64 n] [] [] (fun v Bs=>v=.int .i64 (Kh key n)∧Bs=[]):=by
 intro w0 F0 H
 refine enter Tryz.func178 U U (Nat.le_of_ble_eq_true U) (Ab (Ae (Ad U (Ac (Z (Ab (Ab (Ae (Ad U (V U U (Bg U U U) (Ac (Z ?_))))))))))))
 refine Ay U (fun h1=>?_) (fun h1=>?_)
 ·exact Ab (Ae (Ad U (Ac (Z (Ao (Az (Aq U U (Am ⟨congrArg (Value.int .i64) (if_pos h1).symm,rfl⟩ H))))))))
 refine Av (Z (Ab (Ae (Ad U (sc (Xf key (by first |omega|decide)) H l0 U U (At UX U U) ?_)))))
 rintro _ _ w ⟨rfl,rfl⟩ H
 exact V U U (DA (z:=Ef key key.size) U U Rh HK (Fo (Ma key key.size).1 (by have:=(Ma key key.size).2;omega))) (Ad U (V U U (DA (z:=n) U U Dj HK (Fo (by omega) (by omega))) (V U U (Kl (z:=(Ef key key.size)%n) U U U (by omega) (Int.tmod_eq_emod_of_nonneg (Ma key key.size).1)) (V U U (DA (z:=(Ef key key.size)%n) U U HK Dj (AF (by have:=Int.emod_nonneg (Ef key key.size) (show n≠0 by omega);omega) (by have:=Int.emod_lt_of_pos (Ef key key.size) (show 0<n by omega);omega))) (Ad U (Ac (Z (Ao (Aq U U (Am ⟨congrArg (Value.int .i64) (if_neg h1).symm,rfl⟩ H))))))))))
theorem PM (vxs:Value) (xs:List Al) (n:Int) (p:Int) (hb:xs.length≤1000000) (hn:n≤9223372036854775807) (hk:∀ x∈xs,x.key.size≤9223372036854775807):
    Cn Tryz.prog 126 [vxs,.int .i64 n,.int .i64 p] [] [Aa Ag vxs xs] (fun v Bs=>Bs=[Y Ag v (E3 xs n p)]):=by
 intro w0 F0 H
 obtain ⟨A1,c2,rfl,hc3,hm4,hp5⟩:=H.fR 0 rfl
 refine enter Tryz.func126 U U (Nat.le_of_ble_eq_true U) (Ab (Ae (Ad U (Ac (Z ?_)))))
 replace H:Hd _ _ _ [] [Aa Ag (.slice A1 xs.length c2) xs]:=H
 refine Ab (Ae (Ad U (Ac (Z (Ab (Ab (Ae (Ad U (V U U (A0 U CD U) (Ad U (Ac (Z (AU ?_)))))))))))))
 replace H:=H.newnil Ag
 refine BV (σ:=Nat×Value) (fun (k,l)=>[(1,.int .i64 n),(2,.int .i64 p),(6,.slice none 0 0),(7,l),(10,.slice A1 xs.length c2),(11,.int .i64 ((xs.length:Nat):Int)),(12,.int .i64 ((k:Nat):Int))]) (fun (k,l) w=>(Hd w0 F0 w [Y Ag l (E3 (xs.take k) n p)] [Aa Ag (.slice A1 xs.length c2) xs])∧(k≤xs.length)) (fun (k,l)=>xs.length - k) (0,.slice none 0 0) ⟨rfl,rfl,rfl,rfl,rfl,rfl,rfl,trivial⟩ ⟨H,by (try dsimp only);omega⟩ ?_
 rintro ⟨k,l⟩ w ⟨H,hk0⟩
 have hjl:=PL (xs.take k) n p
 have hjt:(xs.take k).length≤xs.length:=by simp;omega
 refine Ab (Ae (V U U (Bg U U U) (Ac (Z (Ab ?_)))))
 refine Ay U (fun h6=>?_) (fun h6=>?_)
 ·refine Av (Z (Ab (AU (Ab (Ae ?_)))))
  obtain ⟨x7,hx8⟩:∃ z9,xs[k]?=some z9:=⟨_,List.getElem?_eq_getElem (show k<xs.length by omega)⟩
  have th9:=H.thR 0 rfl hx8
  refine V U U (Bf (p:=AX A1+k*2) U Bu U U (by omega) (by omega) th9 U) (V U U (Bv (cs:=[.string x7.key,.string x7.val]) U B9 U U (H.elsR 0 U hx8 U)) (Dr U U U CR H (fun b10 w H=>(Bk U U U B9 U U H U (Nat.le_of_ble_eq_true U) (fun u hu=>by simp [Value.cells] at hu;rcases hu with rfl|rfl<;>rfl) (fun w H=>?_)))))
  replace H:=H.h2 (A:=blk b10 [.string x7.key,.string x7.val] 106) (B:=Y Ag l (E3 (xs.take k) n p))
  refine Ac (Z (Ab ?_))
  have hkx:=hk _ (B7 hx8)
  refine Ae (V U U (Aj U Fe U) (V U U (An U BU U (H.cellI 0 U U)) (Ad U (sc (Xg x7.key n (by first |omega|decide) (by first |omega|decide)) H l0 U U (At UK U U) ?_))))
  rintro _ _ w ⟨rfl,rfl⟩ H
  refine Ad U (V U U (Bp U U U) (Ac (Z ?_)))
  refine Ay U (fun h11=>?_) (fun h11=>?_)
  ·refine Ae (Ad U (V U U (Bv (cs:=[.string x7.key,.string x7.val]) U B9 U U (H.cellsI 0 U U)) (BT (parts:=[(0,.tmp 23)]) (vs:=[.agg #[.string x7.key,.string x7.val]]) (cs:=[.string x7.key,.string x7.val]) U U U Bu CR U (by decide) (by decide) U U H (fun b12 w H=>?_))))
   replace H:=H.p2
   refine CC (xs:=E3 (xs.take k) n p) (ys:=[x7]) U U U Bu CR U (by decide) U U H (by omega) (fun F hA hR=>Ci (hA _ (List.mem_of_getElem? (i:=0) U)) U (by decide) (AY.flat_eq.2 U)) (fun v13 w H=>(Ad U (Ac (A8 (Z ?_)))))
   replace H:Hd _ _ _ [Y Ag v13 ((E3 (xs.take k) n p)++[x7]),blk b12 [.string x7.key,.string x7.val] 106,blk b10 [.string x7.key,.string x7.val] 106] [Aa Ag (.slice A1 xs.length c2) xs]:=H
   refine Ae (V U U (A9 (z:=((k+1:Nat):Int)) U U U (by rw [AF (by omega) (by omega)];omega)) (Ad U (Ac ?_)))
   rw [←WM hx8 h11] at H
   replace H:=H.k1
   exact Bm (s:=(k,undef)) (k+1,v13) ⟨rfl,rfl,rfl,rfl,rfl,rfl,rfl,trivial⟩ ⟨H,by (try dsimp only);omega⟩ (by (try dsimp only);omega)
  refine Av (A8 (Z (Ae (V U U (A9 (z:=((k+1:Nat):Int)) U U U (by rw [AF (by omega) (by omega)];omega)) (Ad U (Ac ?_))))))
  rw [←WK hx8 h11] at H
  replace H:=H.sel 2 [1] [0] rfl (by kernel_rfl)
  exact Bm (s:=(k,undef)) (k+1,l) ⟨rfl,rfl,rfl,rfl,rfl,rfl,rfl,trivial⟩ ⟨H,by (try dsimp only);omega⟩ (by (try dsimp only);omega)
 refine BK (AR (AR (BN (Z (Ab (Ae (Ah 2 U (Ac (Z (Ao (Aq U U ?_)))))))))))
 rw [List.take_of_length_le (show xs.length≤k by omega)] at H
 exact Am U H
theorem Cn.heads0 {α:Type} {d:Kd α} {P:Program} {f:FuncId} {args:List Value} {v:Value} {ss:List (List α)} {Rs:List SP} {T:Value→List SP→Prop}
  (h:∀ us:List (Value×List α),us.map (·.2)=ss→Cn P f args [] (Aa (Ak d) v us::Aa (Bq d) v ss::Rs) T):Cn P f args [] (Aa (Bq d) v ss::Rs) T:=by
 intro w F H
 obtain ⟨us,hus,H2⟩:=H.heads 0 rfl
 refine (h us hus w F H2).mono ?_
 rintro e W' ⟨v,rfl,Bs,t,H⟩
 exact ⟨v,rfl,Bs,t,H.dropR⟩
theorem WP {P:Program} {t s i c m:TypeId} {W1:List (List Al)→Prop} {W2:List BC→Prop} {W3:List Int→Prop}
  (hs:Gc P t=some [(s,0,1),(i,1,1),(c,2,1),(c,3,1),(c,4,1),(i,5,1),(i,6,1),(i,7,1),(m,8,1)]) (hc:P.cellsOf t=9) (hi:P.underlying i=some (.int .i64))
  (h1:GO P s (Bq (Bq Ag)) W1) (h2:GO P c (Bq Af) W2) (h3:GO P m (Bq (Ai .i64)) W3)
  {H:Type} (enc:TypeId×Value→H) (w:World) (fuel:Nat) (cs:List Value) (x:DataW H×List MemPlace) (h:DataW.trod enc P w 0 (fun _=>true) true fuel t cs=some x):
  ∃ (vS:Value) (ss:List (List Al)) (n1:Int) (vM:Value) (map:List BC) (vC:Value) (comb:List BC) (vR:Value) (red:List BC) (n5 n6 n7:Int) (vK:Value) (marks:List Int),
   cs=[vS,.int .i64 n1,vM,vC,vR,.int .i64 n5,.int .i64 n6,.int .i64 n7,vK]∧((Aa (Bq Ag) vS ss).P w (E_ w)∧(Aa Af vM map).P w (E_ w)∧(Aa Af vC comb).P w (E_ w)∧(Aa Af vR red).P w (E_ w)∧(Aa (Ai .i64) vK marks).P w (E_ w))∧
   (W1 ss∧W2 map∧W2 comb∧W2 red∧W3 marks)∧(AB n1∧AB n5∧AB n6∧AB n7):=by
 obtain ⟨hl,n,hf⟩:=Kg hs h
 rw [hc] at hl
 match cs,hl with
 |[c0,c1,c2,c3,c4,c5,c6,c7,c8],_=>
  obtain ⟨y0,g0⟩:=hf 0 _ _ _ rfl
  obtain ⟨y1,g1⟩:=hf 1 _ _ _ rfl
  obtain ⟨y2,g2⟩:=hf 2 _ _ _ rfl
  obtain ⟨y3,g3⟩:=hf 3 _ _ _ rfl
  obtain ⟨y4,g4⟩:=hf 4 _ _ _ rfl
  obtain ⟨y5,g5⟩:=hf 5 _ _ _ rfl
  obtain ⟨y6,g6⟩:=hf 6 _ _ _ rfl
  obtain ⟨y7,g7⟩:=hf 7 _ _ _ rfl
  obtain ⟨y8,g8⟩:=hf 8 _ _ _ rfl
  obtain ⟨a0,r0,w0⟩:=h1 enc w n _ _ g0
  obtain ⟨a1,r1,w1⟩:=Fi hi enc w n _ _ g1
  obtain ⟨a2,r2,w2⟩:=h2 enc w n _ _ g2
  obtain ⟨a3,r3,w3⟩:=h2 enc w n _ _ g3
  obtain ⟨a4,r4,w4⟩:=h2 enc w n _ _ g4
  obtain ⟨a5,r5,w5⟩:=Fi hi enc w n _ _ g5
  obtain ⟨a6,r6,w6⟩:=Fi hi enc w n _ _ g6
  obtain ⟨a7,r7,w7⟩:=Fi hi enc w n _ _ g7
  obtain ⟨a8,r8,w8⟩:=h3 enc w n _ _ g8
  have q1:[c1]=[Value.int .i64 a1]:=r1
  have q5:[c5]=[Value.int .i64 a5]:=r5
  have q6:[c6]=[Value.int .i64 a6]:=r6
  have q7:[c7]=[Value.int .i64 a7]:=r7
  simp only [List.cons.injEq,and_true] at q1 q5 q6 q7
  subst q1 q5 q6 q7
  exact ⟨c0,a0,a1,c2,a2,c3,a3,c4,a4,a5,a6,a7,c8,a8,rfl,⟨r0,r2,r3,r4,r8⟩,⟨w0,w2,w3,w4,w8⟩,w1,w5,w6,w7⟩
structure BJ (A B:AG):Prop where
 us:A.us.map (·.2)=B.us.map (·.2)
 rest:A={ B with us:=A.us }
theorem BJ.refl (A:AG):BJ A A:=⟨rfl,rfl⟩
theorem BJ.symm {A B:AG} (h:BJ A B):BJ B A:=by
 obtain ⟨h1,h2⟩:=h
 refine ⟨h1.symm,?_⟩
 rw [h2]
theorem BJ.trans {A B C:AG} (h:BJ A B) (k:BJ B C):BJ A C:=by
 obtain ⟨h1,h2⟩:=h
 obtain ⟨k1,k2⟩:=k
 refine ⟨h1.trans k1,?_⟩
 rw [h2,k2]
section
variable {A B:AG} (h:BJ A B)
include h
theorem BJ.parts:A.parts=B.parts:=by rw [h.rest]
theorem BJ.map:A.map=B.map:=by rw [h.rest]
theorem BJ.comb:A.comb=B.comb:=by rw [h.rest]
theorem BJ.red:A.red=B.red:=by rw [h.rest]
theorem BJ.chunk:A.chunk=B.chunk:=by rw [h.rest]
theorem BJ.window:A.window=B.window:=by rw [h.rest]
theorem BJ.fuel:A.fuel=B.fuel:=by rw [h.rest]
theorem BJ.marks:A.marks=B.marks:=by rw [h.rest]
theorem BJ.len:A.us.length=B.us.length:=by have:=congrArg List.length h.us;simpa using this
theorem BJ.recs (s:Nat):recs A s=recs B s:=by
 have e:∀ J:AG,X.recs J s=((J.us.map (·.2))[s]?).getD []:=by
  intro J
  unfold X.recs
  rw [List.getElem?_map]
  cases J.us[s]?<;>rfl
 rw [e,e,h.us]
theorem BJ.split (D:Bj) (s:Nat):AA D A s=AA D B s:=by
 unfold AA mapM
 rw [h.recs,h.map,h.comb,h.fuel]
theorem BJ.only (D:Bj) (s:Nat) (p:Int):BM D A s p=BM D B s p:=by
 unfold BM
 rw [h.split,h.parts]
theorem BJ.all (D:Bj) (p:Int):∀ k,FC D A p k=FC D B p k
 |0=>rfl
 |k+1=>by unfold FC;rw [BJ.all D p k,h.only]
theorem BJ.part (D:Bj) (p:Int):DN D A p=DN D B p:=by
 unfold DN
 rw [h.all,h.red,h.fuel,h.len]
theorem BJ.run (D:Bj) (s:Nat) (p:Int):Hc D A s p=Hc D B s p:=by
 unfold Hc
 rw [h.split,h.only]
theorem BJ.partsGo (D:Bj):∀ k p out,partsGo D A k p out=partsGo D B k p out
 |0,_,_=>rfl
 |k+1,p,out=>by unfold X.partsGo;rw [h.part,BJ.partsGo D k]
theorem BJ.wholeGo (D:Bj):∀ k s,wholeGo D A k s=wholeGo D B k s
 |0,_=>by unfold X.wholeGo;rw [h.partsGo,h.parts]
 |k+1,s=>by unfold X.wholeGo;rw [h.split,BJ.wholeGo D k]
theorem BJ.whole (D:Bj):MO D A=MO D B:=by
 unfold MO
 rw [h.wholeGo,h.len]
theorem BJ.may (m:D6 A):D6 B:=by
 obtain ⟨m1,m2,m3,m4,m5,m6,m7,m8,m9,m10,m11⟩:=m
 have hs:∀ u∈B.us,GB u.2:=by
  intro u hu
  have:u.2∈B.us.map (·.2):=List.mem_map_of_mem hu
  rw [←h.us] at this
  obtain ⟨v,hv,e⟩:=List.mem_map.1 this
  rw [←e];exact m4 v hv
 rw [h.len,h.marks] at m5
 rw [h.parts] at m2;rw [h.marks] at m3;rw [h.map] at m6;rw [h.red] at m7;rw [h.comb] at m8;rw [h.chunk] at m9;rw [h.window] at m10;rw [h.fuel] at m11
 exact ⟨by rw [←h.len];exact m1,m2,m3,hs,m5,m6,m7,m8,m9,m10,m11⟩
theorem BJ.ok (k:B6 A):B6 B:=⟨h.may k.may,by have:=k.map;rwa [h.map] at this,by have:=k.comb;rwa [h.comb] at this,by have:=k.red;rwa [h.red] at this⟩
end
theorem B6.chunk1 {J:AG} (h:B6 J):1≤J.chunk∧J.chunk≤7:=h.may.2.2.2.2.2.2.2.2.1
theorem B6.window1 {J:AG} (h:B6 J):1≤J.window∧J.window≤4:=h.may.2.2.2.2.2.2.2.2.2.1
structure Cf where
 J:AG
 w:Int
 t:Int
 o:Int
def Ee (C:Cf):Prop:=D6 C.J∧(1≤C.w∧C.w≤4)∧(1≤C.t∧C.t≤3)∧1≤C.o∧C.o≤50
instance mayCD (C:Cf):Decidable (Ee C):=by unfold Ee;infer_instance
structure FB (A B:Cf):Prop where
 J:BJ A.J B.J
 w:A.w=B.w
 t:A.t=B.t
 o:A.o=B.o
theorem FB.refl (A:Cf):FB A A:=⟨BJ.refl _,rfl,rfl,rfl⟩
theorem FB.symm {A B:Cf} (h:FB A B):FB B A:=⟨h.J.symm,h.w.symm,h.t.symm,h.o.symm⟩
theorem FB.trans {A B C:Cf} (h:FB A B) (k:FB B C):FB A C:=⟨h.J.trans k.J,h.w.trans k.w,h.t.trans k.t,h.o.trans k.o⟩
structure HO (C:Cf):Prop where
 may:Ee C
 ok:B6 C.J
theorem FB.may {A B:Cf} (h:FB A B) (m:Ee A):Ee B:=⟨h.J.may m.1,by rw [←h.w];exact m.2.1,by rw [←h.t];exact m.2.2.1,by rw [←h.o];exact m.2.2.2⟩
theorem HO.w {C:Cf} (h:HO C):1≤C.w∧C.w≤4:=h.may.2.1
theorem HO.t {C:Cf} (h:HO C):1≤C.t∧C.t≤3:=h.may.2.2.1
theorem HO.o {C:Cf} (h:HO C):1≤C.o∧C.o≤50:=h.may.2.2.2
def If (C:Cf) (p:Int):Int:=if ¬ Ee C∨¬ (0≤p∧p≤C.J.parts - 1) then 0 else 1+p.tmod C.w
/-! ### Records and messages in plain words -/
structure Dl where
 kind:Int
 part:Int
 sp:Int
 att:Int
 why:Int
 set:List Int
 pairs:List Al
def AV.p (r:AV):Dl:=⟨r.kind,r.part,r.sp,r.att,r.why,r.set,r.pairs⟩
structure BD where
 kind:Int
 sp:Int
 att:Int
 part:Int
 seq:Int
 next:Int
 ep:Int
 why:Int
 set:List Int
 pairs:List Al
def Jb:BD:=⟨0,0,0,0,0,0,0,0,[],[]⟩
/-! ### Chunks that wait -/
abbrev C1:=List ((Int×Int)×List (List Al))
def Cg:C1→Int→Int→List (List Al)
 |[],_,_=>[]
 |e::s,a,b=>if e.1.1=a∧e.1.2=b then e.2 else Cg s a b
def EF:C1→Int→Int→List Al→C1
 |[],a,b,x=>[((a,b),[x])]
 |e::s,a,b,x=>if e.1.1=a∧e.1.2=b then (e.1,e.2++[x])::s else e::EF s a b x
def Ct (s:C1) (a b:Int):Int:=((Cg s a b).length:Int)
def Jo (s:C1) (a b q:Int):Prop:=q=Ct s a b∧(0≤a∧a<6)∧(1≤b∧b≤3)∧q<40
instance (s:C1) (a b q:Int):Decidable (Jo s a b q):=by unfold Jo;infer_instance
def CZ (s:C1) (a b q:Int) (x:List Al):C1:=if Jo s a b q then EF s a b x else s
def AC (s:C1) (a b n:Int):Option (List Al):=if n<0∨Ct s a b≠n then none else some (Cg s a b).flatten
def D1 (s:C1) (a:Int):C1:=s.filter fun e=>decide (e.1.1≠a)
/-! ### A reducer -/
structure CT where
 merged:Bool
 pairs:List Al
 told:Bool
 att:Int
 cnt:Int
def Jp:CT:=⟨false,[],false,0,0⟩
def AJ {α:Type} (g:Nat→α) (k:Nat) (v:α):Nat→α:=fun j=>if j=k then v else g j
theorem DB {α:Type} (g:Nat→α) (k:Nat) (v:α):AJ g k v k=v:=if_pos rfl
theorem D0 {α:Type} (g:Nat→α) {k j:Nat} (v:α) (h:j≠k):AJ g k v j=g j:=if_neg h
structure AD where
 part:Int
 ep:Int
 g:Nat→CT
 st:C1
 sets:List (List Int)
def Hb (part ep:Int):AD:=⟨part,ep,fun _=>Jp,[],[]⟩
def Dp (n:Nat) (R:AD) (x:Dl):AD:=
 if x.part≠R.part then R else
 let R1:AD:=if x.kind=4∧(0≤x.sp∧x.sp<n)∧(R.g x.sp.toNat).merged=false then { R with g:=AJ R.g x.sp.toNat { R.g x.sp.toNat with merged:=true,pairs:=x.pairs } } else R
 if x.kind=5 then { R1 with sets:=R1.sets++[x.set] } else R1
def CW (n:Nat) (part ep:Int) (rs:List Dl):AD:=rs.foldl (Dp n) (Hb part ep)
def Aw (n:Nat) (R:AD):List Int:=((List.range n).filter fun i=>(R.g i).merged).map fun (i:Nat)=>(i:Int)
def Cl (n:Nat) (R:AD) (set:List Int):List Al:=((List.range n).filter fun i=>(R.g i).merged && decide ((i:Int)∈set)).flatMap fun i=>(R.g i).pairs
def D7 (D:Bj) (J:AG) (R:AD) (set:List Int):List Al×Int:=B0 D J.red (srt (Cl J.us.length R set)) J.fuel false
def DY (D:Bj) (J:AG) (R:AD):List Al×Int×Bool:=
 if (Aw J.us.length R).length<J.us.length then ([],0,false) else ((D7 D J R (Aw J.us.length R)).1,(D7 D J R (Aw J.us.length R)).2,true)
theorem L4 (n:Nat) (R:AD):(Aw n R).length≤n:=by
 unfold Aw
 rw [List.length_map]
 exact Nat.le_trans (List.length_filter_le _ _) (by simp)
theorem Pz (n:Nat) (R:AD):Aw (n+1) R=Aw n R++(if (R.g n).merged then [(n:Int)] else []):=by
 unfold Aw
 rw [List.range_succ,List.filter_append,List.map_append]
 cases h:(R.g n).merged<;>simp [h]
theorem Yq (n:Nat) (R:AD) (set:List Int):Cl (n+1) R set=Cl n R set++(if (R.g n).merged=true∧(n:Int)∈set then (R.g n).pairs else []):=by
 unfold Cl
 rw [List.range_succ,List.filter_append,List.flatMap_append]
 by_cases h:(R.g n).merged=true∧(n:Int)∈set
 ·rw [if_pos h];simp [h.1,h.2]
 ·rw [if_neg h]
  have:((R.g n).merged && decide ((n:Int)∈set))=false:=by
   cases h1:(R.g n).merged
   ·rfl
   ·simpa using fun h2=>h ⟨h1,h2⟩
  simp [this]
theorem PB (n:Nat) (part ep:Int) (rs:List Dl) (x:Dl):CW n part ep (rs++[x])=Dp n (CW n part ep rs) x:=by
 unfold CW;rw [List.foldl_append];rfl
theorem XY (n:Nat) (R:AD) (x:Dl):(Dp n R x).part=R.part∧(Dp n R x).ep=R.ep∧(Dp n R x).st=R.st:=by
 unfold Dp
 dsimp only
 split
 ·exact ⟨rfl,rfl,rfl⟩
 ·split<;>(split<;>exact ⟨rfl,rfl,rfl⟩)
theorem Gy (n:Nat) (part ep:Int) (rs:List Dl):(CW n part ep rs).part=part∧(CW n part ep rs).ep=ep∧(CW n part ep rs).st=[]:=by
 have:∀ (rs:List Dl) (R:AD),(rs.foldl (Dp n) R).part=R.part∧(rs.foldl (Dp n) R).ep=R.ep∧(rs.foldl (Dp n) R).st=R.st:=by
  intro rs
  induction rs with
  |nil=>exact fun R=>⟨rfl,rfl,rfl⟩
  |cons x rs ih=>
   intro R
   obtain ⟨h1,h2,h3⟩:=ih (Dp n R x)
   obtain ⟨g1,g2,g3⟩:=XY n R x
   exact ⟨h1.trans g1,h2.trans g2,h3.trans g3⟩
 exact this rs (Hb part ep)
/-! ### What a part knows when it begins -/
/-! ### Records of all splits, in whatever order -/
/-! ### What it hears, what it tells -/
def CG (J:AG) (R:AD) (n:Nat):AD×List Dl:=
 if (R.g n).told=false then (R,[]) else
 match AC R.st n (R.g n).att (R.g n).cnt with
 |none=>(R,[])
 |some ps=>
  if 40<ps.length then (R,[]) else
  let R1:AD:={ R with g:=AJ R.g n { R.g n with merged:=true,pairs:=ps },st:=D1 R.st n }
  let l:=Aw J.us.length R1
  if (l.length:Int)∈J.marks then ({ R1 with sets:=R1.sets++[l] },[⟨4,R.part,n,(R.g n).att,0,[],ps⟩,⟨5,R.part,0,0,0,l,[]⟩])
  else (R1,[⟨4,R.part,n,(R.g n).att,0,[],ps⟩])
def ES (J:AG) (R:AD) (m:BD):Prop:=¬ (0≤m.sp∧m.sp<J.us.length)∨m.kind≠2∨m.part≠R.part
instance (J:AG) (R:AD) (m:BD):Decidable (ES J R m):=by unfold ES;infer_instance
def E4 (R:AD) (m:BD):Prop:=(R.g m.sp.toNat).merged=false∧m.pairs.length≤8∧G4 m.pairs
instance (R:AD) (m:BD):Decidable (E4 R m):=by unfold E4;infer_instance
def FL (J:AG) (R:AD) (m:BD):AD×List Dl:=
 if E4 R m then CG J { R with st:=CZ R.st m.sp m.att m.seq m.pairs } m.sp.toNat else (R,[])
def KM (R:AD) (m:BD):BD:=
 ⟨3,m.sp,m.att,R.part,0,if (R.g m.sp.toNat).merged=true then 40 else Ct R.st m.sp m.att,R.ep,0,[],[]⟩
def Bz (J:AG) (R:AD) (m:BD):AD×BD×List Dl:=
 if ES J R m then (R,Jb,[]) else ((FL J R m).1,KM (FL J R m).1 m,(FL J R m).2)
def JB (J:AG) (t:Int) (R:AD) (sp att:Int):Prop:=¬ (0≤sp∧sp<J.us.length)∨(R.g sp.toNat).merged=true∨(R.g sp.toNat).told=true∨att<1∨t<att
instance (J:AG) (t:Int) (R:AD) (sp att:Int):Decidable (JB J t R sp att):=by unfold JB;infer_instance
def Db (J:AG) (t:Int) (R:AD) (sp att cnt:Int):AD×List Dl:=
 if JB J t R sp att then (R,[]) else CG J { R with g:=AJ R.g sp.toNat { R.g sp.toNat with told:=true,att:=att,cnt:=cnt } } sp.toNat
structure JC where
 set:List Int
 why:Int
 pairs:List Al
def Ga (D:Bj) (J:AG) (R:AD):List JC:=R.sets.map fun set=>⟨set,(D7 D J R set).2,(D7 D J R set).1⟩
section
variable {w0 w:World} {F0:AN} {As Bs Rs:List SP} {A B:SP}
theorem Hd.exA {α:Sort _} {A:α→SP} (h:Hd w0 F0 w (ex A::As) Rs):∃ a,Hd w0 F0 w (A a::As) Rs:=by
 obtain ⟨F,G,⟨F1,F2,h1,h2,h3,⟨a,ha⟩,s⟩,r⟩:=h
 exact ⟨a,F,G,⟨F1,F2,h1,h2,h3,ha,s⟩,r⟩
theorem Hd.exI {α:Sort _} {A:α→SP} (a:α) (h:Hd w0 F0 w (A a::As) Rs):Hd w0 F0 w (ex A::As) Rs:=h.turn fun _ ha=>⟨a,ha⟩
theorem Hd.stA (h:Hd w0 F0 w (CN Bs::As) Rs):Hd w0 F0 w (Bs++As) Rs:=h.open_ fun _ h=>h
theorem Hd.stI (h:Hd w0 F0 w (Bs++As) Rs):Hd w0 F0 w (CN Bs::As) Rs:=h.shut fun _ h=>h
theorem Hd.puA {p:Prop} (h:Hd w0 F0 w (CX p::As) Rs):p∧Hd w0 F0 w As Rs:=⟨h.fact (List.mem_cons_self ..) fun _ h=>h,h.drop⟩
theorem Hd.puI {p:Prop} (hp:p) (h:Hd w0 F0 w As Rs):Hd w0 F0 w (CX p::As) Rs:=h.shut (Bs:=[]) fun _ _=>hp
def Bb {α:Type} (f:α→SP) (l:List α):SP:=CN (l.map f)
theorem Hd.big0 {α:Type} (f:α→SP) (h:Hd w0 F0 w As Rs):Hd w0 F0 w (Bb f []::As) Rs:=h.shut (Bs:=[]) fun _ _=>trivial
theorem JQ {α:Type}:∀ (l:List α) (i:Nat) {x:α},l[i]?=some x→l.Perm (x::l.eraseIdx i)
 |[],_,_,h=>by simp at h
 |y::l,0,x,h=>by
  obtain rfl:y=x:=by simpa using h
  exact List.Perm.refl _
 |y::l,i+1,x,h=>((JQ l i (by simpa using h)).cons y).trans (List.Perm.swap _ _ _)
theorem Hd.bigO {α:Type} {f:α→SP} {l:List α} {x:α} (i:Nat) (hx:l[i]?=some x) (h:Hd w0 F0 w (Bb f l::As) Rs):Hd w0 F0 w (f x::Bb f (l.eraseIdx i)::As) Rs:=by
 have h1:=h.stA.perm (((JQ l i hx).map f).append_right As)
 have h2:Hd w0 F0 w (((l.eraseIdx i).map f++As)++[f x]) Rs:=h1.perm (by rw [List.map_cons,List.cons_append];exact (List.perm_append_comm (l₁:=[f x])))
 have h3:Hd w0 F0 w ((l.eraseIdx i).map f++(As++[f x])) Rs:=by rw [←List.append_assoc];exact h2
 exact (show Hd w0 F0 w (Bb f (l.eraseIdx i)::(As++[f x])) Rs from h3.stI).perm (List.perm_append_comm (l₁:=Bb f (l.eraseIdx i)::As) (l₂:=[f x]))
theorem Hd.bigI {α:Type} {f:α→SP} {l:List α} {x:α} (i:Nat) (hi:i<l.length) (h:Hd w0 F0 w (f x::Bb f (l.eraseIdx i)::As) Rs):Hd w0 F0 w (Bb f (l.set i x)::As) Rs:=by
 have h1:Hd w0 F0 w (Bb f (l.eraseIdx i)::(As++[f x])) Rs:=h.perm (List.perm_append_comm (l₁:=[f x]) (l₂:=Bb f (l.eraseIdx i)::As))
 have h2:Hd w0 F0 w ((l.eraseIdx i).map f++As++[f x]) Rs:=by rw [List.append_assoc];exact h1.stA
 have h3:Hd w0 F0 w ((x::l.eraseIdx i).map f++As) Rs:=h2.perm (List.perm_append_comm (l₁:=(l.eraseIdx i).map f++As) (l₂:=[f x]))
 have hp:(l.set i x).Perm (x::l.eraseIdx i):=by
  have:=JQ (l.set i x) i (x:=x) (by rw [List.getElem?_set_self hi])
  rwa [List.eraseIdx_set_eq] at this
 exact (h3.perm ((hp.symm.map f).append_right As)).stI
theorem Hd.bigN {α:Type} {f:α→SP} {l:List α} {x:α} (h:Hd w0 F0 w (f x::Bb f l::As) Rs):Hd w0 F0 w (Bb f (l++[x])::As) Rs:=by
 have h1:Hd w0 F0 w (Bb f l::(As++[f x])) Rs:=h.perm (List.perm_append_comm (l₁:=[f x]) (l₂:=Bb f l::As))
 have h2:Hd w0 F0 w (l.map f++As++[f x]) Rs:=by rw [List.append_assoc];exact h1.stA
 have h3:Hd w0 F0 w ((x::l).map f++As) Rs:=h2.perm (List.perm_append_comm (l₁:=l.map f++As) (l₂:=[f x]))
 exact (h3.perm (((List.perm_append_comm (l₁:=[x]) (l₂:=l)).map f).append_right As)).stI
end
def AK (vS vM vC vR vK:Value) (J:AG) (w t o part ep:Int) (g:Nat→CT) (hv:Nat→Value) (sb:Nat) (vs:Value):List Value:=
 [vS,.int .i64 J.parts,vM,vC,vR,.int .i64 J.chunk,.int .i64 J.window,.int .i64 J.fuel,vK,.int .i64 w,.int .i64 t,.int .i64 o,.int .i64 part,.int .i64 ep,
  .bool (g 0).merged,hv 0,.bool (g 0).told,.int .i64 (g 0).att,.int .i64 (g 0).cnt,
  .bool (g 1).merged,hv 1,.bool (g 1).told,.int .i64 (g 1).att,.int .i64 (g 1).cnt,
  .bool (g 2).merged,hv 2,.bool (g 2).told,.int .i64 (g 2).att,.int .i64 (g 2).cnt,
  .bool (g 3).merged,hv 3,.bool (g 3).told,.int .i64 (g 3).att,.int .i64 (g 3).cnt,
  .bool (g 4).merged,hv 4,.bool (g 4).told,.int .i64 (g 4).att,.int .i64 (g 4).cnt,
  .bool (g 5).merged,hv 5,.bool (g 5).told,.int .i64 (g 5).att,.int .i64 (g 5).cnt,
  .pointer (some ⟨sb,0,none⟩),vs]
section
variable {vS vM vC vR vK vs:Value} {J:AG} {w t o part ep:Int} {g:Nat→CT} {hv:Nat→Value} {sb j:Nat}
theorem GD (h:j<6):(AK vS vM vC vR vK J w t o part ep g hv sb vs)[14+j*5+0]?=some (.bool (g j).merged):=by
 match j,h with
 |0,_=>rfl
 |1,_=>rfl
 |2,_=>rfl
 |3,_=>rfl
 |4,_=>rfl
 |5,_=>rfl
theorem X4 (h:j<6):(AK vS vM vC vR vK J w t o part ep g hv sb vs)[14+j*5+1]?=some (hv j):=by
 match j,h with
 |0,_=>rfl
 |1,_=>rfl
 |2,_=>rfl
 |3,_=>rfl
 |4,_=>rfl
 |5,_=>rfl
theorem Qn (h:j<6):(AK vS vM vC vR vK J w t o part ep g hv sb vs)[14+j*5+2]?=some (.bool (g j).told):=by
 match j,h with
 |0,_=>rfl
 |1,_=>rfl
 |2,_=>rfl
 |3,_=>rfl
 |4,_=>rfl
 |5,_=>rfl
theorem Qo (h:j<6):(AK vS vM vC vR vK J w t o part ep g hv sb vs)[14+j*5+3]?=some (.int .i64 (g j).att):=by
 match j,h with
 |0,_=>rfl
 |1,_=>rfl
 |2,_=>rfl
 |3,_=>rfl
 |4,_=>rfl
 |5,_=>rfl
theorem X5 (h:j<6):(AK vS vM vC vR vK J w t o part ep g hv sb vs)[14+j*5+4]?=some (.int .i64 (g j).cnt):=by
 match j,h with
 |0,_=>rfl
 |1,_=>rfl
 |2,_=>rfl
 |3,_=>rfl
 |4,_=>rfl
 |5,_=>rfl
theorem Qq (h:j<6) (b:Bool):DZ (AK vS vM vC vR vK J w t o part ep g hv sb vs) (14+j*5+0) [.bool b]=AK vS vM vC vR vK J w t o part ep (AJ g j { g j with merged:=b }) (hv) sb vs:=by
 match j,h with
 |0,_=>rfl
 |1,_=>rfl
 |2,_=>rfl
 |3,_=>rfl
 |4,_=>rfl
 |5,_=>rfl
theorem Qr (h:j<6) (v:Value):DZ (AK vS vM vC vR vK J w t o part ep g hv sb vs) (14+j*5+1) [v]=AK vS vM vC vR vK J w t o part ep (g) (AJ hv j v) sb vs:=by
 match j,h with
 |0,_=>rfl
 |1,_=>rfl
 |2,_=>rfl
 |3,_=>rfl
 |4,_=>rfl
 |5,_=>rfl
theorem X6 (h:j<6) (b:Bool):DZ (AK vS vM vC vR vK J w t o part ep g hv sb vs) (14+j*5+2) [.bool b]=AK vS vM vC vR vK J w t o part ep (AJ g j { g j with told:=b }) (hv) sb vs:=by
 match j,h with
 |0,_=>rfl
 |1,_=>rfl
 |2,_=>rfl
 |3,_=>rfl
 |4,_=>rfl
 |5,_=>rfl
theorem X7 (h:j<6) (n:Int):DZ (AK vS vM vC vR vK J w t o part ep g hv sb vs) (14+j*5+3) [.int .i64 n]=AK vS vM vC vR vK J w t o part ep (AJ g j { g j with att:=n }) (hv) sb vs:=by
 match j,h with
 |0,_=>rfl
 |1,_=>rfl
 |2,_=>rfl
 |3,_=>rfl
 |4,_=>rfl
 |5,_=>rfl
theorem X8 (h:j<6) (n:Int):DZ (AK vS vM vC vR vK J w t o part ep g hv sb vs) (14+j*5+4) [.int .i64 n]=AK vS vM vC vR vK J w t o part ep (AJ g j { g j with cnt:=n }) (hv) sb vs:=by
 match j,h with
 |0,_=>rfl
 |1,_=>rfl
 |2,_=>rfl
 |3,_=>rfl
 |4,_=>rfl
 |5,_=>rfl
end
def G9 (g:Nat→CT) (hv:Nat→Value):Nat→SP:=fun i=>Y Ag (hv i) (g i).pairs
def AT (g:Nat→CT) (hv:Nat→Value):SP:=Bb (G9 g hv) (List.range 6)
def Mm (g:Nat→CT) (hv:Nat→Value) (i:Nat):SP:=Bb (G9 g hv) ((List.range 6).eraseIdx i)
theorem Qh {n i:Nat} (h:i<n):(List.range n)[i]?=some i:=by simp [h]
theorem Ns {α:Type} {f f':α→SP} {l:List α} (h:∀ x∈l,f x=f' x):Bb f l=Bb f' l:=by
 unfold Bb;rw [List.map_congr_left h]
theorem Tn {n i j:Nat} (hi:i<n) (h:j∈(List.range n).eraseIdx i):j≠i:=by
 intro e
 subst e
 have hn:((List.range n).eraseIdx j).Nodup:=(List.nodup_range (n:=n)).sublist (List.eraseIdx_sublist _ _)
 have hp:=JQ (List.range n) j (Qh hi)
 have:=hp.nodup_iff.1 List.nodup_range
 exact (List.nodup_cons.1 this).1 h
theorem Nu {α:Type} {f:α→SP} {l:List α} {w:World} {F:AN} (h:(Bb f l).P w F) {x:α} (hx:x∈l):(f x).P w F:=Ch.mem h (List.mem_map_of_mem hx)
section
variable {w0 w:World} {F0:AN} {As Rs:List SP} {g:Nat→CT} {hv:Nat→Value} {i:Nat}
theorem Hd.prsO (hi:i<6) (H:Hd w0 F0 w (AT g hv::As) Rs):Hd w0 F0 w (Y Ag (hv i) (g i).pairs::Mm g hv i::As) Rs:=H.bigO (f:=G9 g hv) i (Qh hi)
theorem Hd.bigGI {f f':Nat→SP} {n:Nat} (hi:i<n) (he:∀ j,j≠i→f j=f' j) (H:Hd w0 F0 w (f' i::Bb f ((List.range n).eraseIdx i)::As) Rs):Hd w0 F0 w (Bb f' (List.range n)::As) Rs:=by
 rw [Ns fun j hj=>he j (Tn hi hj)] at H
 have:=H.bigI (f:=f') i (by simpa using hi)
 rwa [show (List.range n).set i i=List.range n from ?_] at this
 apply List.ext_getElem? 
 intro k
 rw [List.getElem?_set]
 split
 ·rename_i e;subst e;simp [hi]
 ·rfl
theorem Hd.prsI (hi:i<6) {x:CT} {v:Value} (H:Hd w0 F0 w (Y Ag v x.pairs::Mm g hv i::As) Rs):Hd w0 F0 w (AT (AJ g i x) (AJ hv i v)::As) Rs:=by
 refine Hd.bigGI (f:=G9 g hv) (f':=G9 (AJ g i x) (AJ hv i v)) hi (fun j hj=>?_) ?_
 ·unfold G9;rw [D0 g x hj,D0 hv v hj]
 ·show Hd w0 F0 w (Y Ag (AJ hv i v i) (AJ g i x i).pairs::Mm g hv i::As) Rs
  rw [DB,DB];exact H
theorem P1 {F:AN} (hi:i<6) (h:(AT g hv).P w F):(Aa Ag (hv i) (g i).pairs).P w F:=BS F (Nu h (x:=i) (List.mem_range.2 hi))
theorem Xo:∀ {w:World} {F:AN},(AT (fun _=>Jp) (fun _=>.slice none 0 0)).P w F:=by
 intro w F
 have:∀ l:List Nat,Ch (l.map (G9 (fun _=>Jp) (fun _=>.slice none 0 0))) w F:=by
  intro l
  induction l with
  |nil=>trivial
  |cons a l ih=>exact ⟨none_,F,fun _ h=>h.elim,fun _ h=>h,fun _ h=>h.elim,Mf Ag w none_ trivial,ih⟩
 exact this _
theorem Hd.prsN (H:Hd w0 F0 w As Rs):Hd w0 F0 w (AT (fun _=>Jp) (fun _=>.slice none 0 0)::As) Rs:=H.shut (Bs:=[]) fun _ _=>Xo
theorem T9 {α:Type} {d:Kd α} {F:AN} {v:Value} {us:List (Value×List α)} (h:(Aa Dq v (us.map fun u=>Fw u.1)).P w F) (hu:∀ p∈us,(Aa d p.1 p.2).P w F):(Aa (Ak d) v us).P w F:=by
 obtain ⟨A,m,c,e,h1,h2,h3,cs,h4,h5⟩:=h
 refine ⟨A,m,c,e,by simpa using h1,h2,h3,cs,h4,?_⟩
 have hcs:cs=(us.map fun u=>Fw u.1).flatMap IY:=AY.flat_eq.1 h5
 have:(us.map fun u=>Fw u.1).flatMap IY=us.map (·.1):=by
  clear h5 hcs h1
  induction us with
  |nil=>rfl
  |cons p us ih=>
   obtain ⟨A,c,e,_⟩:=EU (hu p (List.mem_cons_self ..))
   rw [List.map_cons,List.flatMap_cons,ih fun q hq=>hu q (List.mem_cons_of_mem _ hq),List.map_cons,e]
   rfl
 rw [hcs,this]
 exact Qu hu
end
/-! ### A row of headers held, and each slice held: a slice of slices held -/
section
variable {α:Type} {d:Kd α} {w0 w:World} {F F0:AN} {As Rs:List SP} {v:Value} {us:List (Value×List α)}
def Bo (us:List (Value×List α)):List EH:=us.map fun u=>Fw u.1
def F5 (d:Kd α) (us:List (Value×List α)):SP:=Bb (fun u:Value×List α=>Y d u.1 u.2) us
theorem Qw:∀ {us:List (Value×List α)} {F:AN},(F5 d us).P w F→Cx (Ak d) w F us (us.map (·.1))
 |[],_,_=>rfl
 |u::us,F,⟨F1,F2,h1,h2,h3,a,s⟩=>⟨F1,F2,[u.1],us.map (·.1),h1,h2,h3,rfl,⟨rfl,a⟩,Qw (us:=us) s⟩
theorem Oz (h:∀ u∈us,∃ A n c,u.1=.slice A n c):(Bo us).flatMap IY=us.map (·.1):=by
 unfold Bo
 induction us with
 |nil=>rfl
 |cons p us ih=>
  obtain ⟨A,n,c,e⟩:=h p (List.mem_cons_self ..)
  rw [List.map_cons,List.flatMap_cons,ih fun q hq=>h q (List.mem_cons_of_mem _ hq),List.map_cons,e]
  rfl
theorem Ud {w:World} {F:AN} (h:(F5 d us).P w F):∀ u∈us,∃ A n c,u.1=.slice A n c:=fun u hu=>by
 obtain ⟨A,c,e,_⟩:=EU (BS F (Nu h hu))
 exact ⟨A,_,c,e⟩
theorem Hd.hdI (H:Hd w0 F0 w (Y Dq v (Bo us)::F5 d us::As) Rs):Hd w0 F0 w (Y (Ak d) v us::As) Rs:=by
 refine H.turn2 fun F1 F2 hd h1 h2=>?_
 obtain ⟨A,n,c,e,hl,cs,G1,G2,s1,s2,dj,row,reps⟩:=h1
 have hcs:cs=us.map (·.1):=(AY.flat_eq.1 reps.toR).trans (Oz (Ud h2))
 subst hcs
 exact ⟨A,n,c,e,by simpa [Bo] using hl,_,G1,F2,fun k hk=>.inl (s1 k hk),fun k hk=>.inr hk,fun k hk hg=>hd k (s1 k hk) hg,row,Qw h2⟩
theorem T_ {F:AN} (h:(Aa (Ak d) v us).P w F):(Aa Dq v (Bo us)).P w F:=by
 obtain ⟨A,m,c,e,h1,h2,h3,cs,h4,h5⟩:=h
 refine ⟨A,m,c,e,by simpa [Bo] using h1,h2,h3,cs,h4,AY.flat_eq.2 ?_⟩
 have hall:=Oy h5
 have:∀ {us:List (Value×List α)} {cs:List Value},AY (Ak d) w F us cs→cs=us.map (·.1):=by
  intro us
  induction us with
  |nil=>intro cs h;exact h
  |cons u us ih=>rintro cs ⟨c,cs',e,h1,h2⟩;rw [e,h1.1,ih h2];rfl
 rw [this h5]
 exact (Oz fun u hu=>by
  obtain ⟨A,c,e,_⟩:=EU (hall u hu)
  exact ⟨A,_,c,e⟩).symm
end
/-! ### Told anew -/
section
variable {w0 w:World} {F0:AN} {As Rs:List SP} {g g':Nat→CT} {hv:Nat→Value} {i:Nat}
theorem Qp {vS vM vC vR vK vs:Value} {J:AG} {w t o part ep:Int} {sb:Nat} (h:∀ i,(g' i).merged=(g i).merged∧(g' i).told=(g i).told∧(g' i).att=(g i).att∧(g' i).cnt=(g i).cnt):
  AK vS vM vC vR vK J w t o part ep g hv sb vs=AK vS vM vC vR vK J w t o part ep g' hv sb vs:=by
 unfold AK
 rw [(h 0).1,(h 0).2.1,(h 0).2.2.1,(h 0).2.2.2,(h 1).1,(h 1).2.1,(h 1).2.2.1,(h 1).2.2.2,(h 2).1,(h 2).2.1,(h 2).2.2.1,(h 2).2.2.2,(h 3).1,(h 3).2.1,(h 3).2.2.1,(h 3).2.2.2,(h 4).1,(h 4).2.1,(h 4).2.2.1,(h 4).2.2.2,(h 5).1,(h 5).2.1,(h 5).2.2.1,(h 5).2.2.2]
theorem Hd.prsU (hi:i<6) {x:CT} {v:Value} (H:Hd w0 F0 w (Y Ag v x.pairs::AT g hv::As) Rs):Hd w0 F0 w (AT (AJ g i x) (AJ hv i v)::As) Rs:=by
 have h1:=(H.perm (List.Perm.swap _ _ _)).prsO hi
 exact Hd.prsI hi ((h1.drop.perm (List.Perm.swap _ _ _)))
def pick (g:Nat→CT) (set:List Int) (n:Nat):List Nat:=(List.range n).filter fun i=>(g i).merged && decide ((i:Int)∈set)
def Dz (g:Nat→CT) (hv:Nat→Value) (set:List Int) (n:Nat):List (Value×List Al):=(pick g set n).map fun i=>(hv i,(g i).pairs)
theorem Mk (g:Nat→CT) (hv:Nat→Value) (set:List Int) (n:Nat):Dz g hv set (n+1)=Dz g hv set n++(if (g n).merged=true∧(n:Int)∈set then [(hv n,(g n).pairs)] else []):=by
 unfold Dz pick
 rw [List.range_succ,List.filter_append,List.map_append]
 by_cases h:(g n).merged=true∧(n:Int)∈set
 ·rw [if_pos h];simp [h.1,h.2]
 ·rw [if_neg h]
  have:((g n).merged && decide ((n:Int)∈set))=false:=by
   cases h1:(g n).merged
   ·rfl
   ·simpa using fun h2=>h ⟨h1,h2⟩
  simp [this]
theorem PV (R:AD) (hv:Nat→Value) (set:List Int) (n:Nat):BH (Dz R.g hv set n)=Cl n R set:=by
 unfold BH Dz Cl pick
 rw [List.flatMap_map]
theorem Xj (g:Nat→CT) (hv:Nat→Value) (set:List Int) (n:Nat):(Dz g hv set n).length≤n:=by
 unfold Dz pick
 rw [List.length_map]
 exact Nat.le_trans (List.length_filter_le _ _) (by simp)
theorem Xk {F:AN} {set:List Int} {n:Nat} (hn:n≤6) (h:(AT g hv).P w F):∀ p∈Dz g hv set n,(Aa Ag p.1 p.2).P w F:=by
 intro p hp
 obtain ⟨j,hj,rfl⟩:=List.mem_map.1 hp
 have:=List.mem_range.1 (List.mem_filter.1 hj).1
 exact P1 (by omega) h
theorem QK {R:AD} {set:List Int} {b:Nat} (h:∀ i,(R.g i).pairs.length≤b):∀ n,(Cl n R set).length≤n*b
 |0=>Nat.zero_le _
 |n+1=>by
  have ih:=QK (set:=set) h n
  have:=h n
  rw [Yq,List.length_append,Nat.succ_mul]
  split
  ·omega
  ·simp only [List.length_nil];omega
end
theorem Hd.prsFormR {w0 w:World} {F0:AN} {As Rs:List SP} {g:Nat→CT} {hv:Nat→Value} {i:Nat} (j:Nat) (hj:Rs[j]?=some (AT g hv)) (hi:i<6) (H:Hd w0 F0 w As Rs):∃ A c,hv i=.slice A (g i).pairs.length c∧(g i).pairs.length≤c∧c≤9223372036854775807∧Plain A:=
 H.factR (List.mem_of_getElem? hj) fun F h=>EU (P1 hi h)
theorem XZ {n:Nat} {N:AD} {x:Dl} (h1:x.part≠N.part):Dp n N x=N:=if_pos h1
theorem Kn {n:Nat} {N:AD} {x:Dl} (h1:x.part=N.part) (h4:¬ (x.kind=4∧(0≤x.sp∧x.sp<n)∧(N.g x.sp.toNat).merged=false)) (h5:x.kind≠5):Dp n N x=N:=by
 unfold Dp
 dsimp only
 rw [if_neg (fun h=>h h1),if_neg h5,if_neg h4]
theorem XX {n:Nat} {N:AD} {x:Dl} (h1:x.part=N.part) (h4:x.kind=4) (hr:0≤x.sp∧x.sp<n) (hm:(N.g x.sp.toNat).merged=false):Dp n N x={ N with g:=AJ N.g x.sp.toNat { N.g x.sp.toNat with merged:=true,pairs:=x.pairs } }:=by
 unfold Dp
 dsimp only
 rw [if_neg (fun h=>h h1),if_neg (show ¬ x.kind=5 by omega),if_pos ⟨h4,hr,hm⟩]
theorem Ix {n:Nat} {N:AD} {x:Dl} (h1:x.part=N.part) (h5:x.kind=5):Dp n N x={ N with sets:=N.sets++[x.set] }:=by
 unfold Dp
 dsimp only
 rw [if_neg (fun h=>h h1),if_pos h5,if_neg (fun h=>by have:=h.1;omega)]
theorem Fx {n:Nat} {p ep:Int} {recs:List AV} {k:Nat} {x:AV} {R R2:AD} (hR:R=CW n p ep ((recs.take k).map AV.p)) (hx:recs[k]?=some x) (e:Dp n R x.p=R2):R2=CW n p ep ((recs.take (k+1)).map AV.p):=by
 rw [Fm hx,List.map_append]
 show R2=CW n p ep (_++[x.p])
 rw [PB,←hR,e]
theorem Wk {n:Nat} {p ep:Int} {b:Nat}:∀ {rs:List Dl},(∀ r∈rs,r.pairs.length≤b)→∀ i,((CW n p ep rs).g i).pairs.length≤b:=by
 have:∀ (rs:List Dl) (R:AD),(∀ r∈rs,r.pairs.length≤b)→(∀ i,(R.g i).pairs.length≤b)→∀ i,((rs.foldl (Dp n) R).g i).pairs.length≤b:=by
  intro rs
  induction rs with
  |nil=>intro R _ h;exact h
  |cons x rs ih=>
   intro R hr h
   refine ih (Dp n R x) (fun r hr2=>hr r (List.mem_cons_of_mem _ hr2)) fun i=>?_
   have hx:=hr x (List.mem_cons_self ..)
   have key:∀ (R1:AD) (c:Prop) [Decidable c],(if c then { R1 with sets:=R1.sets++[x.set] } else R1).g=R1.g:=by
    intro R1 c _
    split<;>rfl
   unfold Dp
   dsimp only
   split
   ·exact h i
   ·rw [key]
    split
    ·dsimp only
     by_cases e:i=x.sp.toNat
     ·subst e;rw [DB];exact hx
     ·rw [D0 _ _ e];exact h i
    ·exact h i
 intro rs hr
 exact this rs (Hb p ep) hr fun i=>Nat.zero_le _
theorem Zu (p:Int) {w:Int} (hw:1≤w): -w<p.tmod w∧p.tmod w<w:=by
 have h1:=Int.lt_tmod_of_pos p (show (0:Int)<w by omega)
 have h2:=Int.tmod_lt_of_pos p (show (0:Int)<w by omega)
 omega
theorem L3 (vS:Value) (vM:Value) (vC:Value) (vR:Value) (vK:Value) (C:Cf):
    Cn Tryz.prog 19 [.agg #[vS,.int .i64 C.J.parts,vM,vC,vR,.int .i64 C.J.chunk,.int .i64 C.J.window,.int .i64 C.J.fuel,vK,.int .i64 C.w,.int .i64 C.t,.int .i64 C.o]] [] [Aa (Ak Ag) vS C.J.us,Aa Af vM C.J.map,Aa Af vC C.J.comb,Aa Af vR C.J.red,Aa (Ai .i64) vK C.J.marks] (fun v Bs=>v=.bool (decide (Ee C))∧Bs=[]):=by
 intro w0 F0 H
 obtain ⟨A1,c2,rfl,hc3,hm4,hp5⟩:=H.fR 0 rfl
 obtain ⟨A6,c7,rfl,hc8,hm9,hp10⟩:=H.fR 1 rfl
 obtain ⟨A11,c12,rfl,hc13,hm14,hp15⟩:=H.fR 2 rfl
 obtain ⟨A16,c17,rfl,hc18,hm19,hp20⟩:=H.fR 3 rfl
 obtain ⟨A21,c22,rfl,hc23,hm24,hp25⟩:=H.fR 4 rfl
 refine enter Tryz.func19 U U (Nat.le_of_ble_eq_true U) (Ab (Ae (CH U U U U H (fun b26 w H=>(Ad U (Ac (Z ?_)))))))
 replace H:Hd _ _ _ [blk b26 [.slice A1 C.J.us.length c2,.int .i64 C.J.parts,.slice A6 C.J.map.length c7,.slice A11 C.J.comb.length c12,.slice A16 C.J.red.length c17,.int .i64 C.J.chunk,.int .i64 C.J.window,.int .i64 C.J.fuel,.slice A21 C.J.marks.length c22,.int .i64 C.w,.int .i64 C.t,.int .i64 C.o] 28] [Aa (Ak Ag) (.slice A1 C.J.us.length c2) C.J.us,Aa Af (.slice A6 C.J.map.length c7) C.J.map,Aa Af (.slice A11 C.J.comb.length c12) C.J.comb,Aa Af (.slice A16 C.J.red.length c17) C.J.red,Aa (Ai .i64) (.slice A21 C.J.marks.length c22) C.J.marks]:=H
 refine Ab (Ae (V U U (Aj U CQ U) (V U U (Bv (cs:=[.slice A1 C.J.us.length c2,.int .i64 C.J.parts,.slice A6 C.J.map.length c7,.slice A11 C.J.comb.length c12,.slice A16 C.J.red.length c17,.int .i64 C.J.chunk,.int .i64 C.J.window,.int .i64 C.J.fuel,.slice A21 C.J.marks.length c22]) U GG U U (H.cellsI 0 U U)) (sc (LC (.slice A1 C.J.us.length c2) (.slice A6 C.J.map.length c7) (.slice A11 C.J.comb.length c12) (.slice A16 C.J.red.length c17) (.slice A21 C.J.marks.length c22) C.J) H (lR 0 U (lR 1 U (lR 2 U (lR 3 U (lR 4 U l0))))) U U (At LT U U) ?_))))
 rintro _ _ w ⟨rfl,rfl⟩ H
 refine Ad U ?_
 refine AQ (d:=6) U (fun h27=>?_) (fun h27=>?_)
 ·refine V U U (Aj U Oj U) (V U U (An U AE U (H.cellI 0 U U)) (sc (Gg C.w 1 4) H l0 U U (At F6 U U) ?_))
  rintro _ _ w ⟨rfl,rfl⟩ H
  refine Ah 2 U ?_
  refine AQ (d:=11) U (fun h28=>?_) (fun h28=>?_)
  ·refine V U U (Aj U J0 U) (V U U (An U AE U (H.cellI 0 U U)) (sc (Gg C.t 1 3) H l0 U U (At F6 U U) ?_))
   rintro _ _ w ⟨rfl,rfl⟩ H
   refine Ah 2 U ?_
   refine AQ (d:=16) U (fun h29=>?_) (fun h29=>?_)
   ·refine V U U (Aj U TF U) (V U U (An U AE U (H.cellI 0 U U)) (sc (Gg C.o 1 50) H l0 U U (At F6 U U) ?_))
    rintro _ _ w ⟨rfl,rfl⟩ H
    refine Ah 2 U (Ac (Z ?_))
    replace H:Hd _ _ _ [blk b26 [.slice A1 C.J.us.length c2,.int .i64 C.J.parts,.slice A6 C.J.map.length c7,.slice A11 C.J.comb.length c12,.slice A16 C.J.red.length c17,.int .i64 C.J.chunk,.int .i64 C.J.window,.int .i64 C.J.fuel,.slice A21 C.J.marks.length c22,.int .i64 C.w,.int .i64 C.t,.int .i64 C.o] 28] [Aa (Ak Ag) (.slice A1 C.J.us.length c2) C.J.us,Aa Af (.slice A6 C.J.map.length c7) C.J.map,Aa Af (.slice A11 C.J.comb.length c12) C.J.comb,Aa Af (.slice A16 C.J.red.length c17) C.J.red,Aa (Ai .i64) (.slice A21 C.J.marks.length c22) C.J.marks]:=H
    refine Ao (Aq U U ?_)
    replace H:=H.nil
    have e:(1≤C.o∧C.o≤50)↔Ee C:=⟨fun g=>⟨h27,by omega,by omega,by omega⟩,fun g=>by have g2:=g.2;omega⟩
    exact Am ⟨congrArg Value.bool (decide_eq_decide.2 e),rfl⟩ H
   refine Ah 5 U (Ac (Z ?_))
   replace H:Hd _ _ _ [blk b26 [.slice A1 C.J.us.length c2,.int .i64 C.J.parts,.slice A6 C.J.map.length c7,.slice A11 C.J.comb.length c12,.slice A16 C.J.red.length c17,.int .i64 C.J.chunk,.int .i64 C.J.window,.int .i64 C.J.fuel,.slice A21 C.J.marks.length c22,.int .i64 C.w,.int .i64 C.t,.int .i64 C.o] 28] [Aa (Ak Ag) (.slice A1 C.J.us.length c2) C.J.us,Aa Af (.slice A6 C.J.map.length c7) C.J.map,Aa Af (.slice A11 C.J.comb.length c12) C.J.comb,Aa Af (.slice A16 C.J.red.length c17) C.J.red,Aa (Ai .i64) (.slice A21 C.J.marks.length c22) C.J.marks]:=H
   refine Ao (Aq U U ?_)
   replace H:=H.nil
   have e:¬ Ee C:=fun h=>by have h1:=h.1;have h2:=h.2;first |exact absurd h1 h27|omega
   exact Am ⟨congrArg Value.bool (decide_eq_false e).symm,rfl⟩ H
  refine Ah 10 U (Ac (Z ?_))
  replace H:Hd _ _ _ [blk b26 [.slice A1 C.J.us.length c2,.int .i64 C.J.parts,.slice A6 C.J.map.length c7,.slice A11 C.J.comb.length c12,.slice A16 C.J.red.length c17,.int .i64 C.J.chunk,.int .i64 C.J.window,.int .i64 C.J.fuel,.slice A21 C.J.marks.length c22,.int .i64 C.w,.int .i64 C.t,.int .i64 C.o] 28] [Aa (Ak Ag) (.slice A1 C.J.us.length c2) C.J.us,Aa Af (.slice A6 C.J.map.length c7) C.J.map,Aa Af (.slice A11 C.J.comb.length c12) C.J.comb,Aa Af (.slice A16 C.J.red.length c17) C.J.red,Aa (Ai .i64) (.slice A21 C.J.marks.length c22) C.J.marks]:=H
  refine Ao (Aq U U ?_)
  replace H:=H.nil
  have e:¬ Ee C:=fun h=>by have h1:=h.1;have h2:=h.2;first |exact absurd h1 h27|omega
  exact Am ⟨congrArg Value.bool (decide_eq_false e).symm,rfl⟩ H
 refine Ah 12 U (Ah 3 U (Ac (Z ?_)))
 replace H:Hd _ _ _ [blk b26 [.slice A1 C.J.us.length c2,.int .i64 C.J.parts,.slice A6 C.J.map.length c7,.slice A11 C.J.comb.length c12,.slice A16 C.J.red.length c17,.int .i64 C.J.chunk,.int .i64 C.J.window,.int .i64 C.J.fuel,.slice A21 C.J.marks.length c22,.int .i64 C.w,.int .i64 C.t,.int .i64 C.o] 28] [Aa (Ak Ag) (.slice A1 C.J.us.length c2) C.J.us,Aa Af (.slice A6 C.J.map.length c7) C.J.map,Aa Af (.slice A11 C.J.comb.length c12) C.J.comb,Aa Af (.slice A16 C.J.red.length c17) C.J.red,Aa (Ai .i64) (.slice A21 C.J.marks.length c22) C.J.marks]:=H
 refine Ao (Aq U U ?_)
 replace H:=H.nil
 have e:¬ Ee C:=fun h=>by have h1:=h.1;have h2:=h.2;first |exact absurd h1 h27|omega
 exact Am ⟨congrArg Value.bool (decide_eq_false e).symm,rfl⟩ H
theorem Ub (vS:Value) (vM:Value) (vC:Value) (vR:Value) (vK:Value) (C:Cf) (p:Int) (hp:AB p):
    Cn Tryz.prog 71 [.agg #[vS,.int .i64 C.J.parts,vM,vC,vR,.int .i64 C.J.chunk,.int .i64 C.J.window,.int .i64 C.J.fuel,vK,.int .i64 C.w,.int .i64 C.t,.int .i64 C.o],.int .i64 p] [] [Aa (Ak Ag) vS C.J.us,Aa Af vM C.J.map,Aa Af vC C.J.comb,Aa Af vR C.J.red,Aa (Ai .i64) vK C.J.marks] (fun v Bs=>v=.int .i64 (If C p)∧Bs=[]):=by
 intro w0 F0 H
 unfold AB at hp
 refine enter Tryz.func71 U U (Nat.le_of_ble_eq_true U) (Ab (Ae (CH U U U U H (fun b1 w H=>(Ad U (Ac (Z ?_)))))))
 replace H:Hd _ _ _ [blk b1 [vS,.int .i64 C.J.parts,vM,vC,vR,.int .i64 C.J.chunk,.int .i64 C.J.window,.int .i64 C.J.fuel,vK,.int .i64 C.w,.int .i64 C.t,.int .i64 C.o] 28] [Aa (Ak Ag) vS C.J.us,Aa Af vM C.J.map,Aa Af vC C.J.comb,Aa Af vR C.J.red,Aa (Ai .i64) vK C.J.marks]:=H
 refine Ab (Ab (Ae (V U U (Bv (cs:=[vS,.int .i64 C.J.parts,vM,vC,vR,.int .i64 C.J.chunk,.int .i64 C.J.window,.int .i64 C.J.fuel,vK,.int .i64 C.w,.int .i64 C.t,.int .i64 C.o]) U EX U U (H.cellsI 0 U U)) (sc (L3 vS vM vC vR vK C) H (lR 0 U (lR 1 U (lR 2 U (lR 3 U (lR 4 U l0))))) U U (At LO U U) ?_))))
 rintro _ _ w ⟨rfl,rfl⟩ H
 refine V U U (Eg U U) (Ad U ?_)
 refine AQ (d:=8) U (fun h2=>?_) (fun h2=>?_)
 ·refine Ah 8 U (Ac (Z ?_))
  replace H:Hd _ _ _ [blk b1 [vS,.int .i64 C.J.parts,vM,vC,vR,.int .i64 C.J.chunk,.int .i64 C.J.window,.int .i64 C.J.fuel,vK,.int .i64 C.w,.int .i64 C.t,.int .i64 C.o] 28] [Aa (Ak Ag) vS C.J.us,Aa Af vM C.J.map,Aa Af vC C.J.comb,Aa Af vR C.J.red,Aa (Ai .i64) vK C.J.marks]:=H
  refine Cc U (Ab (Ae (Ad U (Ac (Z (Ao (Az (Aq U U ?_))))))))
  replace H:=H.nil
  exact Am ⟨congrArg (Value.int .i64) (if_pos (by first |exact .inl h2|exact .inr h2)).symm,rfl⟩ H
 have hmc:Ee C:=Classical.not_not.1 h2
 have hm1:=hmc.2
 have hmp:=hmc.1.2.1
 refine Ad U (V U U (Aj U CQ U) (V U U (Aj U GY U) (V U U (An U AE U (H.cellI 0 U U)) (V U U (Ck (z:=C.J.parts - 1) U U U (AF (by omega) (by omega))) (sc (Gg p 0 (C.J.parts - 1)) H l0 U U (At F6 U U) ?_)))))
 rintro _ _ w ⟨rfl,rfl⟩ H
 refine V U U (Eg U U) (Ad U (Ac (Z ?_)))
 replace H:Hd _ _ _ [blk b1 [vS,.int .i64 C.J.parts,vM,vC,vR,.int .i64 C.J.chunk,.int .i64 C.J.window,.int .i64 C.J.fuel,vK,.int .i64 C.w,.int .i64 C.t,.int .i64 C.o] 28] [Aa (Ak Ag) vS C.J.us,Aa Af vM C.J.map,Aa Af vC C.J.comb,Aa Af vR C.J.red,Aa (Ai .i64) vK C.J.marks]:=H
 refine Ay U (fun h3=>?_) (fun h3=>?_)
 ·refine Ab (Ae (Ad U (Ac (Z (Ao (Az (Aq U U ?_)))))))
  replace H:=H.nil
  exact Am ⟨congrArg (Value.int .i64) (if_pos (by first |exact .inl h3|exact .inr h3)).symm,rfl⟩ H
 refine Av (Z (Ab (Ae (Ad U (V U U (Aj U Oj U) (V U U (An U AE U (H.cellI 0 U U)) (V U U (Kl (z:=p.tmod C.w) U U U (by omega) U) (V U U (A9 (z:=1+p.tmod C.w) U U U (by have h1:=Zu p (show 1≤C.w by omega);exact AF (by omega) (by omega))) (Ad U (Ac (Z (Ao (Aq U U ?_)))))))))))))
 replace H:=H.nil
 have e:If C p=1+p.tmod C.w:=if_neg (fun h=>h.elim (fun h=>h hmc) (fun h=>by omega))
 exact Am ⟨by rw [e]<;>rfl,rfl⟩ H
theorem KW (vxs:Value) (xs:List BC) (hb:xs.length≤1000000):
    Cn Tryz.prog 158 [vxs] [] [Aa Af vxs xs] (fun v Bs=>Bs=[Y Af v xs]):=by
 intro w0 F0 H
 obtain ⟨A1,c2,rfl,hc3,hm4,hp5⟩:=H.fR 0 rfl
 refine enter Tryz.func158 U U (Nat.le_of_ble_eq_true U) (Ab (Ae (Ad U (Ac (Z ?_)))))
 replace H:Hd _ _ _ [] [Aa Af (.slice A1 xs.length c2) xs]:=H
 refine Ab (Ab (Ae (Ad U (V U U (Km U FA U U) (Ac (Z ?_))))))
 refine Dv (b:=(A1:Option Addr).isNone) U (fun h6=>?_) (fun h6=>?_)
 ·refine Ab (Ae (Ad U (Ac (Z (Ao (Az (Aq U U ?_)))))))
  obtain rfl:=H.nilR 0 rfl h6
  replace H:=H.newnil Af
  exact Am U H
 refine Av (Z (Ab (Ae (Kt U U U Hf H (fun b7 w H=>(Ad U ?_))))))
 replace H:=H.newnilA Af (some ⟨b7,0,none⟩)
 refine CC (xs:=[]) (ys:=xs) U U U Hf KI U (by decide) U U H (by simp only [List.length_nil];omega) (fun F hA hR=>hR _ (List.mem_of_getElem? (i:=0) U)) (fun v8 w H=>?_)
 replace H:=H.h2 (A:=Y Af v8 ([]++xs)) (B:=blk b7 [] 223)
 refine Ad U (Ac (Z (Ao (Aq U U ?_))))
 rw [List.nil_append] at H
 replace H:=H.k1
 exact Am U H
theorem GR (vxs:Value) (xs:List Int) (hb:xs.length≤1000000):
    Cn Tryz.prog 129 [vxs] [] [Aa (Ai .i64) vxs xs] (fun v Bs=>Bs=[Y (Ai .i64) v xs]):=by
 intro w0 F0 H
 obtain ⟨A1,c2,rfl,hc3,hm4,hp5⟩:=H.fR 0 rfl
 refine enter Tryz.func129 U U (Nat.le_of_ble_eq_true U) (Ab (Ae (Ad U (Ac (Z ?_)))))
 replace H:Hd _ _ _ [] [Aa (Ai .i64) (.slice A1 xs.length c2) xs]:=H
 refine Ab (Ab (Ae (Ad U (V U U (Km U Ec U U) (Ac (Z ?_))))))
 refine Dv (b:=(A1:Option Addr).isNone) U (fun h6=>?_) (fun h6=>?_)
 ·refine Ab (Ae (Ad U (Ac (Z (Ao (Az (Aq U U ?_)))))))
  obtain rfl:=H.nilR 0 rfl h6
  replace H:=H.newnil (Ai .i64)
  exact Am U H
 refine Av (Z (Ab (Ae (Kt U U U DP H (fun b7 w H=>(Ad U ?_))))))
 replace H:=H.newnilA (Ai .i64) (some ⟨b7,0,none⟩)
 refine CC (xs:=[]) (ys:=xs) U U U DP GK U (by decide) U U H (by simp only [List.length_nil];omega) (fun F hA hR=>hR _ (List.mem_of_getElem? (i:=0) U)) (fun v8 w H=>?_)
 replace H:=H.h2 (A:=Y (Ai .i64) v8 ([]++xs)) (B:=blk b7 [] 3)
 refine Ad U (Ac (Z (Ao (Aq U U ?_))))
 rw [List.nil_append] at H
 replace H:=H.k1
 exact Am U H
theorem Sr (vxs:Value) (xs:List EH) (hb:xs.length≤1000000):
    Cn Tryz.prog 157 [vxs] [] [Aa Dq vxs xs] (fun v Bs=>Bs=[Y Dq v xs]):=by
 intro w0 F0 H
 obtain ⟨A1,c2,rfl,hc3,hm4,hp5⟩:=H.fR 0 rfl
 refine enter Tryz.func157 U U (Nat.le_of_ble_eq_true U) (Ab (Ae (Ad U (Ac (Z ?_)))))
 replace H:Hd _ _ _ [] [Aa Dq (.slice A1 xs.length c2) xs]:=H
 refine Ab (Ab (Ae (Ad U (V U U (Km U DJ U U) (Ac (Z ?_))))))
 refine Dv (b:=(A1:Option Addr).isNone) U (fun h6=>?_) (fun h6=>?_)
 ·refine Ab (Ae (Ad U (Ac (Z (Ao (Az (Aq U U ?_)))))))
  obtain rfl:=H.nilR 0 rfl h6
  replace H:=H.newnil Dq
  exact Am U H
 refine Av (Z (Ab (Ae (Kt U U U Eh H (fun b7 w H=>(Ad U ?_))))))
 replace H:=H.newnilA Dq (some ⟨b7,0,none⟩)
 refine CC (xs:=[]) (ys:=xs) U U U Eh Hq U (by decide) U U H (by simp only [List.length_nil];omega) (fun F hA hR=>hR _ (List.mem_of_getElem? (i:=0) U)) (fun v8 w H=>?_)
 replace H:=H.h2 (A:=Y Dq v8 ([]++xs)) (B:=blk b7 [] 35)
 refine Ad U (Ac (Z (Ao (Aq U U ?_))))
 rw [List.nil_append] at H
 replace H:=H.k1
 exact Am U H
theorem WZ {us zs:List (Value×List Al)} {i:Nat} {A:Option Addr} {c:Nat} {x:List Al} (hz:zs.length=i) (h:us[i]?=some (.slice A x.length c,x)):(Bo zs++(Bo us).drop i)[i]?=some (⟨A,x.length,c⟩:EH):=by
 subst hz
 have hl:(Bo zs).length=zs.length:=by simp [Bo]
 rw [List.getElem?_append_right (by omega),hl,Nat.sub_self,List.getElem?_drop,Nat.add_zero]
 unfold Bo
 rw [List.getElem?_map,h]
 rfl
theorem W0 {us zs:List (Value×List Al)} {i:Nat} {A:Option Addr} {n c:Nat} {x:List Al} (hz:zs.length=i) (hi:i<us.length):(Bo zs++(Bo us).drop i).set i (⟨A,n,c⟩:EH)=Bo (zs++[(.slice A n c,x)])++(Bo us).drop (i+1):=by
 subst hz
 have hl:(Bo zs).length=zs.length:=by simp [Bo]
 have hu:(Bo us).length=us.length:=by simp [Bo]
 rw [List.set_append_right _ _ (by omega),hl,Nat.sub_self,List.drop_eq_getElem_cons (by omega),List.set_cons_zero]
 unfold Bo
 rw [List.map_append,List.append_assoc]
 rfl
theorem W4 {us zs:List (Value×List Al)} {i:Nat} {v u:Value} {x:List Al} (hz:zs.map (·.2)=(us.map (·.2)).take i) (h:us[i]?=some (v,x)):(zs++[(u,x)]).map (·.2)=(us.map (·.2)).take (i+1):=by
 rw [List.map_append,hz,Fm (x:=x) (by rw [List.getElem?_map,h];rfl)]
 rfl
theorem PQ (vS:Value) (vM:Value) (vC:Value) (vR:Value) (vK:Value) (C:Cf) (hC:Ee C):
    Cn Tryz.prog 94 [.agg #[vS,.int .i64 C.J.parts,vM,vC,vR,.int .i64 C.J.chunk,.int .i64 C.J.window,.int .i64 C.J.fuel,vK,.int .i64 C.w,.int .i64 C.t,.int .i64 C.o]] [] [Aa (Ak Ag) vS C.J.us,Aa Af vM C.J.map,Aa Af vC C.J.comb,Aa Af vR C.J.red,Aa (Ai .i64) vK C.J.marks] (fun v Bs=>∃ J2:AG,∃ vS2:Value,∃ vM2:Value,∃ vC2:Value,∃ vR2:Value,∃ vK2:Value,v=.agg #[vS2,.int .i64 J2.parts,vM2,vC2,vR2,.int .i64 J2.chunk,.int .i64 J2.window,.int .i64 J2.fuel,vK2,.int .i64 C.w,.int .i64 C.t,.int .i64 C.o]∧Bs=[Y (Ak Ag) vS2 J2.us,Y Af vM2 J2.map,Y Af vC2 J2.comb,Y Af vR2 J2.red,Y (Ai .i64) vK2 J2.marks]∧(BJ J2 C.J)):=by
 intro w0 F0 H
 obtain ⟨A1,c2,rfl,hc3,hm4,hp5⟩:=H.fR 0 rfl
 obtain ⟨A6,c7,rfl,hc8,hm9,hp10⟩:=H.fR 1 rfl
 obtain ⟨A11,c12,rfl,hc13,hm14,hp15⟩:=H.fR 2 rfl
 obtain ⟨A16,c17,rfl,hc18,hm19,hp20⟩:=H.fR 3 rfl
 obtain ⟨A21,c22,rfl,hc23,hm24,hp25⟩:=H.fR 4 rfl
 have hsp:=hC.1.2.2.2.1
 have hus:=hC.1.1
 have hb1:=(JE hC.1.2.2.2.2.2.1.2).1
 have hb2:=(JE hC.1.2.2.2.2.2.2.1.2).1
 have hb3:=(JE hC.1.2.2.2.2.2.2.2.1).1
 have hb4:=hC.1.2.2.1
 have hul:(Bo C.J.us).length=C.J.us.length:=by simp [Bo]
 refine enter Tryz.func94 U U (Nat.le_of_ble_eq_true U) (Ab (Ae (CH U U U U H (fun b26 w H=>(Dr U U U Rx H (fun b27 w H=>(Ac (Z ?_))))))))
 replace H:Hd _ _ _ [blk b27 [.slice none 0 0,.int .i64 0,.slice none 0 0,.slice none 0 0,.slice none 0 0,.int .i64 0,.int .i64 0,.int .i64 0,.slice none 0 0,.int .i64 0,.int .i64 0,.int .i64 0] 28,blk b26 [.slice A1 C.J.us.length c2,.int .i64 C.J.parts,.slice A6 C.J.map.length c7,.slice A11 C.J.comb.length c12,.slice A16 C.J.red.length c17,.int .i64 C.J.chunk,.int .i64 C.J.window,.int .i64 C.J.fuel,.slice A21 C.J.marks.length c22,.int .i64 C.w,.int .i64 C.t,.int .i64 C.o] 28] [Aa (Ak Ag) (.slice A1 C.J.us.length c2) C.J.us,Aa Af (.slice A6 C.J.map.length c7) C.J.map,Aa Af (.slice A11 C.J.comb.length c12) C.J.comb,Aa Af (.slice A16 C.J.red.length c17) C.J.red,Aa (Ai .i64) (.slice A21 C.J.marks.length c22) C.J.marks]:=H
 refine Ab (Ae (V U U (Aj U CQ U) (V U U (Aj U DE U) (V U U (An U DI U (H.cellI 1 U U)) (sc (Sr (.slice A1 C.J.us.length c2) (Bo C.J.us) (by simp only [Bo,List.length_map];omega)) H (lX (fun F hA hR=>T_ (hR _ (List.mem_of_getElem? (i:=0) U))) l0) U U (At UE U U) ?_)))))
 rintro v28 _ w rfl H
 refine V U U (Aj U CQ U) (V U U (Aj U DE U) ?_)
 obtain ⟨A29,c30,rfl,hc31,hm32,hp33⟩:=H.fA 0 rfl
 replace H:=H.p2
 refine Bk U U U DI U U H U (Nat.le_of_ble_eq_true U) (fun u hu=>by simp [Value.cells] at hu;subst hu;rfl) (fun w H=>?_)
 replace H:Hd _ _ _ [blk b26 [.slice A29 ((Bo C.J.us).length) c30,.int .i64 C.J.parts,.slice A6 C.J.map.length c7,.slice A11 C.J.comb.length c12,.slice A16 C.J.red.length c17,.int .i64 C.J.chunk,.int .i64 C.J.window,.int .i64 C.J.fuel,.slice A21 C.J.marks.length c22,.int .i64 C.w,.int .i64 C.t,.int .i64 C.o] 28,Y Dq (.slice A29 ((Bo C.J.us).length) c30) (Bo C.J.us),blk b27 [.slice none 0 0,.int .i64 0,.slice none 0 0,.slice none 0 0,.slice none 0 0,.int .i64 0,.int .i64 0,.int .i64 0,.slice none 0 0,.int .i64 0,.int .i64 0,.int .i64 0] 28] [Aa (Ak Ag) (.slice A1 C.J.us.length c2) C.J.us,Aa Af (.slice A6 C.J.map.length c7) C.J.map,Aa Af (.slice A11 C.J.comb.length c12) C.J.comb,Aa Af (.slice A16 C.J.red.length c17) C.J.red,Aa (Ai .i64) (.slice A21 C.J.marks.length c22) C.J.marks]:=H
 refine Ac (Z (Ab (Ab (Ae (V U U (Aj U CQ U) (V U U (Aj U DE U) (V U U (An U DI U (H.cellI 0 U U)) (V U U (A0 U DJ U) (Ad U (Ac (Z (AU ?_))))))))))))
 replace H:=H.p1.h1 (A:=Y Dq (.slice A29 ((Bo C.J.us).length) c30) (Bo ([]:List (Value×List Al))++(Bo C.J.us).drop 0))|>.big0 (fun u:Value×List Al=>Y Ag u.1 u.2)|>.h1 (A:=F5 Ag ([]:List (Value×List Al)))
 refine BV (σ:=Nat×List (Value×List Al)) (fun (i,zs)=>[(1,.pointer (some ⟨b26,0,none⟩)),(2,.pointer (some ⟨b27,0,none⟩)),(13,.slice A29 ((Bo C.J.us).length) c30),(14,.int .i64 (((Bo C.J.us).length:Nat):Int)),(15,.int .i64 ((i:Nat):Int))]) (fun (i,zs) w=>(Hd w0 F0 w [F5 Ag zs,Y Dq (.slice A29 ((Bo C.J.us).length) c30) (Bo zs++(Bo C.J.us).drop i),blk b26 [.slice A29 ((Bo C.J.us).length) c30,.int .i64 C.J.parts,.slice A6 C.J.map.length c7,.slice A11 C.J.comb.length c12,.slice A16 C.J.red.length c17,.int .i64 C.J.chunk,.int .i64 C.J.window,.int .i64 C.J.fuel,.slice A21 C.J.marks.length c22,.int .i64 C.w,.int .i64 C.t,.int .i64 C.o] 28,blk b27 [.slice none 0 0,.int .i64 0,.slice none 0 0,.slice none 0 0,.slice none 0 0,.int .i64 0,.int .i64 0,.int .i64 0,.slice none 0 0,.int .i64 0,.int .i64 0,.int .i64 0] 28] [Aa (Ak Ag) (.slice A1 C.J.us.length c2) C.J.us,Aa Af (.slice A6 C.J.map.length c7) C.J.map,Aa Af (.slice A11 C.J.comb.length c12) C.J.comb,Aa Af (.slice A16 C.J.red.length c17) C.J.red,Aa (Ai .i64) (.slice A21 C.J.marks.length c22) C.J.marks])∧(zs.length=i∧zs.map (·.2)=(C.J.us.map (·.2)).take i)∧(i≤C.J.us.length)) (fun (i,zs)=>C.J.us.length - i) (0,[]) ⟨rfl,rfl,rfl,rfl,rfl,trivial⟩ ⟨H,⟨rfl,rfl⟩,Nat.zero_le _⟩ ?_
 rintro ⟨i,zs⟩ w ⟨H,hz,hi⟩
 refine Ab (Ae (V U U (Bg U U U) (Ac (Z (Ab ?_)))))
 refine Ay U (fun h34=>?_) (fun h34=>?_)
 ·refine Av (Z (Ab (AU (Ab ?_))))
  obtain ⟨⟨u37,x35⟩,hx36⟩:∃ z9,C.J.us[i]?=some z9:=⟨_,List.getElem?_eq_getElem (show i<C.J.us.length by omega)⟩
  obtain ⟨A38,c39,rfl,hc40,hm41⟩:=H.nestR 0 rfl hx36
  have hk42:=WZ (zs:=zs) hz.1 hx36
  have hxl:x35.length≤8:=(hsp _ (B7 hx36)).1
  refine Ae (Ad U ?_)
  have th43:=H.thA 1 rfl hk42
  refine V U U (Bf (p:=AX A29+i*1) U Eh U U (by omega) (by omega) th43 U) (V U U (An U Eb U (H.elA 1 U hk42 (q:=0) U U)) (Ah 2 U (Ac (Z ?_))))
  replace H:=H.p3.p3.p2
  refine BX (.e 0 (.e 1 (.e 2 (.e 3 (.e 4 (.m 5 (.e 6 (.m 7 .z)))))))) (fun w=>∃ Ar,Hd w0 F0 w (F5 Ag zs::blk b26 [.slice A29 ((Bo C.J.us).length) c30,.int .i64 C.J.parts,.slice A6 C.J.map.length c7,.slice A11 C.J.comb.length c12,.slice A16 C.J.red.length c17,.int .i64 C.J.chunk,.int .i64 C.J.window,.int .i64 C.J.fuel,.slice A21 C.J.marks.length c22,.int .i64 C.w,.int .i64 C.t,.int .i64 C.o] 28::blk b27 [.slice none 0 0,.int .i64 0,.slice none 0 0,.slice none 0 0,.slice none 0 0,.int .i64 0,.int .i64 0,.int .i64 0,.slice none 0 0,.int .i64 0,.int .i64 0,.int .i64 0] 28::Ar) [Aa (Ak Ag) (.slice A1 C.J.us.length c2) C.J.us,Aa Af (.slice A6 C.J.map.length c7) C.J.map,Aa Af (.slice A11 C.J.comb.length c12) C.J.comb,Aa Af (.slice A16 C.J.red.length c17) C.J.red,Aa (Ai .i64) (.slice A21 C.J.marks.length c22) C.J.marks]) mo (by kernel_rfl) (fun w H=>⟨_,H⟩) H (fun w H=>?_)
  refine Ap U U U (fun w ⟨Ar,H⟩=>Aj U CQ U) (Ap U U U (fun w ⟨Ar,H⟩=>Aj U DE U) (Ap U U U (fun w ⟨Ar,H⟩=>An U DI U (H.cellI 1 U U)) (Ax U (Ax U (AL U (sc (HW (.slice A38 x35.length c39) x35 (by first |omega|decide|assumption)) H (lX (fun F hA hR=>Gw (hR _ (List.mem_of_getElem? (i:=0) U)) hx36) l0) U U (At Ii U U) ?_))))))
  rintro v44 _ w rfl H
  replace H:=H.h1 (A:=Y Ag v44 x35)|>.p3|>.p3|>.p3
  refine AH ⟨_,H⟩ ?_
  have th45:=H.thA 4 rfl hk42
  refine Ap U U U (fun w ⟨Ar,H⟩=>Bf (p:=AX A29+i*1) U Eh U U (by omega) (by omega) th45 U) (AL U ?_)
  obtain ⟨A46,c47,rfl,hc48,hm49,hp50⟩:=H.fA 3 rfl
  replace H:=H.p4
  refine GE (i:=i) (a:=(⟨A46,x35.length,c47⟩:EH)) U U U Eb U U U H (by simp only [List.length_append,List.length_drop,Bo,List.length_map];omega) U (fun w H=>?_)
  replace H:Hd _ _ _ [Y Dq (.slice A29 ((Bo C.J.us).length) c30) ((Bo zs++(Bo C.J.us).drop i).set i (⟨A46,x35.length,c47⟩:EH)),F5 Ag zs,blk b26 [.slice A29 ((Bo C.J.us).length) c30,.int .i64 C.J.parts,.slice A6 C.J.map.length c7,.slice A11 C.J.comb.length c12,.slice A16 C.J.red.length c17,.int .i64 C.J.chunk,.int .i64 C.J.window,.int .i64 C.J.fuel,.slice A21 C.J.marks.length c22,.int .i64 C.w,.int .i64 C.t,.int .i64 C.o] 28,blk b27 [.slice none 0 0,.int .i64 0,.slice none 0 0,.slice none 0 0,.slice none 0 0,.int .i64 0,.int .i64 0,.int .i64 0,.slice none 0 0,.int .i64 0,.int .i64 0,.int .i64 0] 28,Y Ag (.slice A46 x35.length c47) x35] [Aa (Ak Ag) (.slice A1 C.J.us.length c2) C.J.us,Aa Af (.slice A6 C.J.map.length c7) C.J.map,Aa Af (.slice A11 C.J.comb.length c12) C.J.comb,Aa Af (.slice A16 C.J.red.length c17) C.J.red,Aa (Ai .i64) (.slice A21 C.J.marks.length c22) C.J.marks]:=H
  replace H:=H.p3.p3.p3
  refine AH ⟨_,H⟩ (BL (A8 (Z (Ae (V U U (A9 (z:=((i+1:Nat):Int)) U U U (by rw [AF (by omega) (by omega)];omega)) (Ad U (Ac ?_)))))))
  replace H:=H.p3.p1.p4.bigN (f:=fun u:Value×List Al=>Y Ag u.1 u.2) (x:=(.slice A46 x35.length c47,x35))
  replace H:Hd w0 F0 w [F5 Ag (zs++[(.slice A46 x35.length c47,x35)]),Y Dq (.slice A29 ((Bo C.J.us).length) c30) (Bo (zs++[(.slice A46 x35.length c47,x35)])++(Bo C.J.us).drop (i+1)),blk b26 [.slice A29 ((Bo C.J.us).length) c30,.int .i64 C.J.parts,.slice A6 C.J.map.length c7,.slice A11 C.J.comb.length c12,.slice A16 C.J.red.length c17,.int .i64 C.J.chunk,.int .i64 C.J.window,.int .i64 C.J.fuel,.slice A21 C.J.marks.length c22,.int .i64 C.w,.int .i64 C.t,.int .i64 C.o] 28,blk b27 [.slice none 0 0,.int .i64 0,.slice none 0 0,.slice none 0 0,.slice none 0 0,.int .i64 0,.int .i64 0,.int .i64 0,.slice none 0 0,.int .i64 0,.int .i64 0,.int .i64 0] 28] [Aa (Ak Ag) (.slice A1 C.J.us.length c2) C.J.us,Aa Af (.slice A6 C.J.map.length c7) C.J.map,Aa Af (.slice A11 C.J.comb.length c12) C.J.comb,Aa Af (.slice A16 C.J.red.length c17) C.J.red,Aa (Ai .i64) (.slice A21 C.J.marks.length c22) C.J.marks]:=by rw [←W0 (x:=x35) hz.1 (by omega)];exact H
  exact Bm (s:=(i,zs)) (i+1,zs++[(.slice A46 x35.length c47,x35)]) ⟨rfl,rfl,rfl,rfl,rfl,trivial⟩ ⟨H,⟨by simp [hz.1],W4 hz.2 hx36⟩,by (try dsimp only);omega⟩ (by (try dsimp only);omega)
 refine BK (AR (AR (BN (Z (Ab ?_)))))
 obtain rfl:i=C.J.us.length:=by omega
 replace H:=H.p1
 replace H:Hd w0 F0 w [Y Dq (.slice A29 ((Bo C.J.us).length) c30) (Bo zs),F5 Ag zs,blk b26 [.slice A29 ((Bo C.J.us).length) c30,.int .i64 C.J.parts,.slice A6 C.J.map.length c7,.slice A11 C.J.comb.length c12,.slice A16 C.J.red.length c17,.int .i64 C.J.chunk,.int .i64 C.J.window,.int .i64 C.J.fuel,.slice A21 C.J.marks.length c22,.int .i64 C.w,.int .i64 C.t,.int .i64 C.o] 28,blk b27 [.slice none 0 0,.int .i64 0,.slice none 0 0,.slice none 0 0,.slice none 0 0,.int .i64 0,.int .i64 0,.int .i64 0,.slice none 0 0,.int .i64 0,.int .i64 0,.int .i64 0] 28] [Aa (Ak Ag) (.slice A1 C.J.us.length c2) C.J.us,Aa Af (.slice A6 C.J.map.length c7) C.J.map,Aa Af (.slice A11 C.J.comb.length c12) C.J.comb,Aa Af (.slice A16 C.J.red.length c17) C.J.red,Aa (Ai .i64) (.slice A21 C.J.marks.length c22) C.J.marks]:=by rw [show Bo zs=Bo zs++(Bo C.J.us).drop C.J.us.length by simp [Bo]];exact H
 replace H:=H.hdI|>.h1 (A:=Y (Ak Ag) (.slice A29 ((Bo C.J.us).length) c30) zs)
 have hsj:BJ ({ C.J with us:=zs }:AG) C.J:=⟨by rw [hz.2,List.take_of_length_le (by simp)],rfl⟩
 refine Sb (.e 0 (.e 1 (.e 2 (.e 4 (.e 5 (.e 6 (.e 8 (.e 9 (.e 10 (.m 3 (.e 12 (.e 13 (.m 7 (.m 11 (.w 14 (.e 15 (.e 16 (.m 17 (.e 18 (.e 19 (.m 20 .z))))))))))))))))))))) (fun w=>∃ Ar,Hd w0 F0 w (Y (Ak Ag) (.slice A29 ((Bo C.J.us).length) c30) zs::blk b26 [.slice A29 ((Bo C.J.us).length) c30,.int .i64 C.J.parts,.slice A6 C.J.map.length c7,.slice A11 C.J.comb.length c12,.slice A16 C.J.red.length c17,.int .i64 C.J.chunk,.int .i64 C.J.window,.int .i64 C.J.fuel,.slice A21 C.J.marks.length c22,.int .i64 C.w,.int .i64 C.t,.int .i64 C.o] 28::blk b27 [.slice none 0 0,.int .i64 0,.slice none 0 0,.slice none 0 0,.slice none 0 0,.int .i64 0,.int .i64 0,.int .i64 0,.slice none 0 0,.int .i64 0,.int .i64 0,.int .i64 0] 28::Ar) [Aa (Ak Ag) (.slice A1 C.J.us.length c2) C.J.us,Aa Af (.slice A6 C.J.map.length c7) C.J.map,Aa Af (.slice A11 C.J.comb.length c12) C.J.comb,Aa Af (.slice A16 C.J.red.length c17) C.J.red,Aa (Ai .i64) (.slice A21 C.J.marks.length c22) C.J.marks]) (fun w=>∃ Ar,Hd w0 F0 w Ar [Aa (Ak Ag) (.slice A1 C.J.us.length c2) C.J.us,Aa Af (.slice A6 C.J.map.length c7) C.J.map,Aa Af (.slice A11 C.J.comb.length c12) C.J.comb,Aa Af (.slice A16 C.J.red.length c17) C.J.red,Aa (Ai .i64) (.slice A21 C.J.marks.length c22) C.J.marks]) mo (by kernel_rfl) (fun w H=>⟨_,H⟩) H (fun w H=>?_)
 refine Fv U U U (fun w ⟨Ar,H⟩=>Aj U CQ U) (Fv U U U (fun w ⟨Ar,H⟩=>Aj U Ia U) (Fv U U U (fun w ⟨Ar,H⟩=>An U Ea U (H.cellI 1 U U)) (Fv U U U (fun w ⟨Ar,H⟩=>Aj U CQ U) (Fv U U U (fun w ⟨Ar,H⟩=>Aj U Ib U) (Fv U U U (fun w ⟨Ar,H⟩=>An U Ea U (H.cellI 1 U U)) (Fv U U U (fun w ⟨Ar,H⟩=>Aj U CQ U) (Fv U U U (fun w ⟨Ar,H⟩=>Aj U Hx U) (Fv U U U (fun w ⟨Ar,H⟩=>An U Ea U (H.cellI 1 U U)) (Lu U (sc (KW (.slice A6 C.J.map.length c7) C.J.map (by first |omega|decide|assumption)) H (lR 1 U l0) U U (At LL U U) ?_))))))))))
 rintro v51 _ w rfl H
 replace H:=H.h1 (A:=Y Af v51 C.J.map)|>.p3|>.p3|>.p3
 refine Lt ⟨_,H⟩ (Fv U U U (fun w ⟨Ar,H⟩=>Aj U CQ U) (Fv U U U (fun w ⟨Ar,H⟩=>Aj U Ia U) (Lu U (sc (KW (.slice A11 C.J.comb.length c12) C.J.comb (by first |omega|decide|assumption)) H (lR 2 U l0) U U (At LL U U) ?_))))
 rintro v52 _ w rfl H
 replace H:=H.h1 (A:=Y Af v52 C.J.comb)|>.p3|>.p3|>.p3
 refine Lt ⟨_,H⟩ (Lu U (sc (KW (.slice A16 C.J.red.length c17) C.J.red (by first |omega|decide|assumption)) H (lR 3 U l0) U U (At LL U U) ?_))
 rintro v53 _ w rfl H
 replace H:=H.h1 (A:=Y Af v53 C.J.red)|>.p3|>.p3|>.p3
 refine Lt ⟨_,H⟩ (TQ U ?_)
 obtain ⟨A54,c55,rfl,hc56,hm57,hp58⟩:=H.fA 5 rfl
 replace H:=H.p1
 refine Bk U U U Ea U U H U (Nat.le_of_ble_eq_true U) (fun u hu=>by simp [Value.cells] at hu;subst hu;rfl) (fun w H=>?_)
 replace H:Hd _ _ _ [blk b26 [.slice A29 ((Bo C.J.us).length) c30,.int .i64 C.J.parts,.slice A54 C.J.map.length c55,.slice A11 C.J.comb.length c12,.slice A16 C.J.red.length c17,.int .i64 C.J.chunk,.int .i64 C.J.window,.int .i64 C.J.fuel,.slice A21 C.J.marks.length c22,.int .i64 C.w,.int .i64 C.t,.int .i64 C.o] 28,Y (Ak Ag) (.slice A29 ((Bo C.J.us).length) c30) zs,blk b27 [.slice none 0 0,.int .i64 0,.slice none 0 0,.slice none 0 0,.slice none 0 0,.int .i64 0,.int .i64 0,.int .i64 0,.slice none 0 0,.int .i64 0,.int .i64 0,.int .i64 0] 28,Y Af v53 C.J.red,Y Af v52 C.J.comb,Y Af (.slice A54 C.J.map.length c55) C.J.map] [Aa (Ak Ag) (.slice A1 C.J.us.length c2) C.J.us,Aa Af (.slice A6 C.J.map.length c7) C.J.map,Aa Af (.slice A11 C.J.comb.length c12) C.J.comb,Aa Af (.slice A16 C.J.red.length c17) C.J.red,Aa (Ai .i64) (.slice A21 C.J.marks.length c22) C.J.marks]:=H
 refine AH ⟨_,H⟩ (Ap U U U (fun w ⟨Ar,H⟩=>Aj U CQ U) (Ap U U U (fun w ⟨Ar,H⟩=>Aj U Ib U) (AL U ?_)))
 obtain ⟨A59,c60,rfl,hc61,hm62,hp63⟩:=H.fA 4 rfl
 refine Bk U U U Ea U U H U (Nat.le_of_ble_eq_true U) (fun u hu=>by simp [Value.cells] at hu;subst hu;rfl) (fun w H=>?_)
 replace H:Hd _ _ _ [blk b26 [.slice A29 ((Bo C.J.us).length) c30,.int .i64 C.J.parts,.slice A54 C.J.map.length c55,.slice A59 C.J.comb.length c60,.slice A16 C.J.red.length c17,.int .i64 C.J.chunk,.int .i64 C.J.window,.int .i64 C.J.fuel,.slice A21 C.J.marks.length c22,.int .i64 C.w,.int .i64 C.t,.int .i64 C.o] 28,Y (Ak Ag) (.slice A29 ((Bo C.J.us).length) c30) zs,blk b27 [.slice none 0 0,.int .i64 0,.slice none 0 0,.slice none 0 0,.slice none 0 0,.int .i64 0,.int .i64 0,.int .i64 0,.slice none 0 0,.int .i64 0,.int .i64 0,.int .i64 0] 28,Y Af v53 C.J.red,Y Af (.slice A59 C.J.comb.length c60) C.J.comb,Y Af (.slice A54 C.J.map.length c55) C.J.map] [Aa (Ak Ag) (.slice A1 C.J.us.length c2) C.J.us,Aa Af (.slice A6 C.J.map.length c7) C.J.map,Aa Af (.slice A11 C.J.comb.length c12) C.J.comb,Aa Af (.slice A16 C.J.red.length c17) C.J.red,Aa (Ai .i64) (.slice A21 C.J.marks.length c22) C.J.marks]:=H
 refine AH ⟨_,H⟩ (Ap U U U (fun w ⟨Ar,H⟩=>Aj U CQ U) (Ap U U U (fun w ⟨Ar,H⟩=>Aj U Hx U) (AL U ?_)))
 obtain ⟨A64,c65,rfl,hc66,hm67,hp68⟩:=H.fA 3 rfl
 refine Bk U U U Ea U U H U (Nat.le_of_ble_eq_true U) (fun u hu=>by simp [Value.cells] at hu;subst hu;rfl) (fun w H=>?_)
 replace H:Hd _ _ _ [blk b26 [.slice A29 ((Bo C.J.us).length) c30,.int .i64 C.J.parts,.slice A54 C.J.map.length c55,.slice A59 C.J.comb.length c60,.slice A64 C.J.red.length c65,.int .i64 C.J.chunk,.int .i64 C.J.window,.int .i64 C.J.fuel,.slice A21 C.J.marks.length c22,.int .i64 C.w,.int .i64 C.t,.int .i64 C.o] 28,Y (Ak Ag) (.slice A29 ((Bo C.J.us).length) c30) zs,blk b27 [.slice none 0 0,.int .i64 0,.slice none 0 0,.slice none 0 0,.slice none 0 0,.int .i64 0,.int .i64 0,.int .i64 0,.slice none 0 0,.int .i64 0,.int .i64 0,.int .i64 0] 28,Y Af (.slice A64 C.J.red.length c65) C.J.red,Y Af (.slice A59 C.J.comb.length c60) C.J.comb,Y Af (.slice A54 C.J.map.length c55) C.J.map] [Aa (Ak Ag) (.slice A1 C.J.us.length c2) C.J.us,Aa Af (.slice A6 C.J.map.length c7) C.J.map,Aa Af (.slice A11 C.J.comb.length c12) C.J.comb,Aa Af (.slice A16 C.J.red.length c17) C.J.red,Aa (Ai .i64) (.slice A21 C.J.marks.length c22) C.J.marks]:=H
 refine AH ⟨_,H⟩ (BL (Z (Ab (Ae (V U U (Aj U CQ U) (V U U (Aj U Hy U) (V U U (An U Gd U (H.cellI 0 U U)) (sc (GR (.slice A21 C.J.marks.length c22) C.J.marks (by first |omega|decide|assumption)) H (lR 4 U l0) U U (At G3 U U) ?_))))))))
 rintro v69 _ w rfl H
 refine V U U (Aj U CQ U) (V U U (Aj U Hy U) ?_)
 obtain ⟨A70,c71,rfl,hc72,hm73,hp74⟩:=H.fA 0 rfl
 replace H:=H.p1
 refine Bk U U U Gd U U H U (Nat.le_of_ble_eq_true U) (fun u hu=>by simp [Value.cells] at hu;subst hu;rfl) (fun w H=>?_)
 replace H:Hd _ _ _ [blk b26 [.slice A29 ((Bo C.J.us).length) c30,.int .i64 C.J.parts,.slice A54 C.J.map.length c55,.slice A59 C.J.comb.length c60,.slice A64 C.J.red.length c65,.int .i64 C.J.chunk,.int .i64 C.J.window,.int .i64 C.J.fuel,.slice A70 C.J.marks.length c71,.int .i64 C.w,.int .i64 C.t,.int .i64 C.o] 28,Y (Ai .i64) (.slice A70 C.J.marks.length c71) C.J.marks,Y (Ak Ag) (.slice A29 ((Bo C.J.us).length) c30) zs,blk b27 [.slice none 0 0,.int .i64 0,.slice none 0 0,.slice none 0 0,.slice none 0 0,.int .i64 0,.int .i64 0,.int .i64 0,.slice none 0 0,.int .i64 0,.int .i64 0,.int .i64 0] 28,Y Af (.slice A64 C.J.red.length c65) C.J.red,Y Af (.slice A59 C.J.comb.length c60) C.J.comb,Y Af (.slice A54 C.J.map.length c55) C.J.map] [Aa (Ak Ag) (.slice A1 C.J.us.length c2) C.J.us,Aa Af (.slice A6 C.J.map.length c7) C.J.map,Aa Af (.slice A11 C.J.comb.length c12) C.J.comb,Aa Af (.slice A16 C.J.red.length c17) C.J.red,Aa (Ai .i64) (.slice A21 C.J.marks.length c22) C.J.marks]:=H
 refine Ac (Z (Ab (Ae (V U U (Bv (cs:=[.slice A29 ((Bo C.J.us).length) c30,.int .i64 C.J.parts,.slice A54 C.J.map.length c55,.slice A59 C.J.comb.length c60,.slice A64 C.J.red.length c65,.int .i64 C.J.chunk,.int .i64 C.J.window,.int .i64 C.J.fuel,.slice A70 C.J.marks.length c71,.int .i64 C.w,.int .i64 C.t,.int .i64 C.o]) U EX U U (H.cellsI 0 U U)) ?_))))
 replace H:=H.p3
 refine Bk U U U EX U U H U (Nat.le_of_ble_eq_true U) (fun u hu=>by simp [Value.cells] at hu;rcases hu with rfl|rfl|rfl|rfl|rfl|rfl|rfl|rfl|rfl|rfl|rfl|rfl<;>rfl) (fun w H=>?_)
 replace H:=H.h1 (A:=blk b27 [.slice A29 ((Bo C.J.us).length) c30,.int .i64 C.J.parts,.slice A54 C.J.map.length c55,.slice A59 C.J.comb.length c60,.slice A64 C.J.red.length c65,.int .i64 C.J.chunk,.int .i64 C.J.window,.int .i64 C.J.fuel,.slice A70 C.J.marks.length c71,.int .i64 C.w,.int .i64 C.t,.int .i64 C.o] 28)
 refine Ac (Z (Ao (F9 (cs:=[.slice A29 ((Bo C.J.us).length) c30,.int .i64 C.J.parts,.slice A54 C.J.map.length c55,.slice A59 C.J.comb.length c60,.slice A64 C.J.red.length c65,.int .i64 C.J.chunk,.int .i64 C.J.window,.int .i64 C.J.fuel,.slice A70 C.J.marks.length c71,.int .i64 C.w,.int .i64 C.t,.int .i64 C.o]) U U EX U (H.cellsI 0 U U) ?_)))
 replace H:=H.p2.p4.p5.p6.p6.k5
 exact Am ⟨({ C.J with us:=zs }:AG),(.slice A29 ((Bo C.J.us).length) c30),(.slice A54 C.J.map.length c55),(.slice A59 C.J.comb.length c60),(.slice A64 C.J.red.length c65),(.slice A70 C.J.marks.length c71),rfl,rfl,hsj⟩ H
abbrev CF:=(Int×Int)×Value×List (Value×List Al)
def DQ (e:CF):(Int×Int)×List (List Al):=(e.1,e.2.2.map (·.2))
def BI (e:CF):(Int×Int)×Value:=(e.1,e.2.1)
def B8 (e:CF):SP:=Y (Ak Ag) e.2.1 e.2.2
def IH (mb:Nat) (st:C1):SP:=ex fun kvs:List CF=>CN [CX (kvs.map DQ=st),Cq BW mb (kvs.map BI),Bb B8 kvs]
def AS (t sb:Nat) (st:C1):SP:=ex fun mb:Nat=>CN [blk sb [.map (some mb)] t,IH mb st]
def Fy:Value:=.slice none 0 0
def Dw (k:Int×Int):List CF→Value×List (Value×List Al)
 |[]=>(Fy,[])
 |e::r=>if e.1=k then e.2 else Dw k r
def CB (k:Int×Int) (kvs:List CF):List CF:=kvs.filter fun e=>decide (e.1≠k)
def FP (k:Int×Int) (x:Value×List (Value×List Al)):List CF→List CF
 |[]=>[(k,x)]
 |e::r=>if e.1=k then (k,x)::r else e::FP k x r
def IF:C1→Int×Int→List (List Al)→C1
 |[],k,x=>[(k,x)]
 |e::s,k,x=>if e.1=k then (k,x)::s else e::IF s k x
section
variable {kvs:List CF} {k:Int×Int} {x:Value×List (Value×List Al)}
theorem Q6:∀ kvs:List CF,(EA k (kvs.map BI)).getD Fy=(Dw k kvs).1
 |[]=>rfl
 |e::r=>by
  show (if e.1=k then some e.2.1 else EA k (r.map BI)).getD Fy=(if e.1=k then e.2 else Dw k r).1
  split
  ·rfl
  ·exact Q6 r
theorem Q7:∀ kvs:List CF,(Dw k kvs).2.map (·.2)=Cg (kvs.map DQ) k.1 k.2
 |[]=>rfl
 |e::r=>by
  have hk:(e.1=k)↔(e.1.1=k.1∧e.1.2=k.2):=Prod.ext_iff
  show (if e.1=k then e.2 else Dw k r).2.map (·.2)=if e.1.1=k.1∧e.1.2=k.2 then e.2.2.map (·.2) else Cg (r.map DQ) k.1 k.2
  by_cases h:e.1=k
  ·rw [if_pos h,if_pos (hk.1 h)]
  ·rw [if_neg h,if_neg fun h2=>h (hk.2 h2)]
   exact Q7 r
theorem QR:∀ kvs:List CF,(FP k x kvs).map BI=DG k x.1 (kvs.map BI)
 |[]=>rfl
 |e::r=>by
  show (if e.1=k then (k,x)::r else e::FP k x r).map BI=if e.1=k then (k,x.1)::r.map BI else BI e::DG k x.1 (r.map BI)
  split
  ·rfl
  ·rw [List.map_cons,QR r]
theorem QQ:∀ kvs:List CF,(FP k x kvs).map DQ=IF (kvs.map DQ) k (x.2.map (·.2))
 |[]=>rfl
 |e::r=>by
  show (if e.1=k then (k,x)::r else e::FP k x r).map DQ=if e.1=k then (k,x.2.map (·.2))::r.map DQ else DQ e::IF (r.map DQ) k (x.2.map (·.2))
  split
  ·rfl
  ·rw [List.map_cons,QQ r]
theorem QX (x:List Al):∀ st:C1,IF st k (Cg st k.1 k.2++[x])=EF st k.1 k.2 x
 |[]=>rfl
 |e::s=>by
  have hk:(e.1=k)↔(e.1.1=k.1∧e.1.2=k.2):=Prod.ext_iff
  unfold IF Cg EF
  by_cases h:e.1=k
  ·rw [if_pos h,if_pos (hk.1 h),if_pos (hk.1 h),h]
  ·rw [if_neg h,if_neg fun h2=>h (hk.2 h2),if_neg fun h2=>h (hk.2 h2),QX x s]
theorem L9 (kvs:List CF):D3 (kvs.map BI)↔(kvs.map (·.1)).Nodup:=by
 unfold D3
 rw [List.map_map]
 rfl
theorem Kx (h:∀ e∈kvs,e.1≠k):CB k kvs=kvs:=List.filter_eq_self.2 fun e he=>decide_eq_true (h e he)
theorem QS:∀ {kvs:List CF},(kvs.map (·.1)).Nodup→(FP k x kvs).Perm ((k,x)::CB k kvs)
 |[],_=>List.Perm.refl _
 |e::r,hn=>by
  rw [List.map_cons,List.nodup_cons] at hn
  unfold FP CB
  by_cases h:e.1=k
  ·rw [if_pos h,List.filter_cons_of_neg (by simpa using h)]
   exact (List.Perm.of_eq (Kx fun e2 he2 h2=>hn.1 (List.mem_map.2 ⟨e2,he2,h2.trans h.symm⟩)).symm).cons _
  ·rw [if_neg h,List.filter_cons_of_pos (p:=fun e:CF=>decide (e.1≠k)) (decide_eq_true h)]
   exact ((QS hn.2).cons e).trans (List.Perm.swap _ _ _)
theorem MG:∀ {kvs:List CF},(kvs.map (·.1)).Nodup→(∃ e∈kvs,e.1=k)→kvs.Perm ((k,Dw k kvs)::CB k kvs)
 |[],_,⟨_,h,_⟩=>by cases h
 |e::r,hn,⟨e0,he0,hk0⟩=>by
  rw [List.map_cons,List.nodup_cons] at hn
  unfold Dw CB
  by_cases h:e.1=k
  ·rw [if_pos h,List.filter_cons_of_neg (by simpa using h)]
   rw [show (k,e.2)=e from by rw [←h]]
   exact (List.Perm.of_eq (Kx fun e2 he2 h2=>hn.1 (List.mem_map.2 ⟨e2,he2,h2.trans h.symm⟩)).symm).cons _
  ·rw [if_neg h,List.filter_cons_of_pos (p:=fun e:CF=>decide (e.1≠k)) (decide_eq_true h)]
   rcases List.mem_cons.1 he0 with rfl|he0
   ·exact absurd hk0 h
   ·exact ((MG hn.2 ⟨e0,he0,hk0⟩).cons e).trans (List.Perm.swap _ _ _)
theorem Zd (h:∀ e∈kvs,e.1≠k):Dw k kvs=(Fy,[]):=by
 induction kvs with
 |nil=>rfl
 |cons e r ih=>
  unfold Dw
  rw [if_neg (h e (List.mem_cons_self ..))]
  exact ih fun e2 he2=>h e2 (List.mem_cons_of_mem _ he2)
end
section
variable {w0 w:World} {F0:AN} {As Rs:List SP} {t sb mb:Nat} {st:C1} {kvs:List CF} {k:Int×Int} {v:Value} {us:List (Value×List Al)}
theorem Hd.bigP {α:Type} {f:α→SP} {l l':List α} (p:l.Perm l') (h:Hd w0 F0 w (Bb f l::As) Rs):Hd w0 F0 w (Bb f l'::As) Rs:=(h.stA.perm ((p.map f).append_right As)).stI
theorem Hd.stgC (he:kvs.map DQ=st) (H:Hd w0 F0 w (blk sb [.map (some mb)] t::Cq BW mb (kvs.map BI)::Bb B8 kvs::As) Rs):Hd w0 F0 w (AS t sb st::As) Rs:=by
 have h3:Hd w0 F0 w (CX (kvs.map DQ=st)::Cq BW mb (kvs.map BI)::Bb B8 kvs::blk sb [.map (some mb)] t::As) Rs:=
  (H.perm (((List.Perm.swap _ _ _).trans ((List.Perm.swap _ _ _).cons _)):(blk sb [.map (some mb)] t::Cq BW mb (kvs.map BI)::Bb B8 kvs::As).Perm (Cq BW mb (kvs.map BI)::Bb B8 kvs::blk sb [.map (some mb)] t::As))).puI he
 have h4:Hd w0 F0 w (IH mb st::blk sb [.map (some mb)] t::As) Rs:=Hd.exI (A:=fun kvs:List CF=>CN [CX (kvs.map DQ=st),Cq BW mb (kvs.map BI),Bb B8 kvs]) kvs (Hd.stI (Bs:=[CX (kvs.map DQ=st),Cq BW mb (kvs.map BI),Bb B8 kvs]) h3)
 exact Hd.exI (A:=fun mb:Nat=>CN [blk sb [.map (some mb)] t,IH mb st]) mb (Hd.stI (Bs:=[blk sb [.map (some mb)] t,IH mb st]) (h4.perm (List.Perm.swap _ _ _)))
theorem Hd.st0 (H:Hd w0 F0 w (blk sb [.map (some mb)] t::Cq BW mb []::As) Rs):Hd w0 F0 w (AS t sb []::As) Rs:=
 Hd.stgC (kvs:=[]) rfl (((H.perm (List.Perm.swap _ _ _)).big0 B8).perm (((List.Perm.swap _ _ _).trans ((List.Perm.swap _ _ _).cons _)).trans (List.Perm.swap _ _ _)))
theorem Hd.stgA (H:Hd w0 F0 w (AS t sb st::As) Rs):∃ mb kvs,kvs.map DQ=st∧D3 (kvs.map BI)∧Hd w0 F0 w (blk sb [.map (some mb)] t::Cq BW mb (kvs.map BI)::Bb B8 kvs::As) Rs:=by
 obtain ⟨mb,H⟩:=Hd.exA H
 have H1:Hd w0 F0 w (IH mb st::blk sb [.map (some mb)] t::As) Rs:=(show Hd w0 F0 w (blk sb [.map (some mb)] t::IH mb st::As) Rs from H.stA).perm (List.Perm.swap _ _ _)
 obtain ⟨kvs,H2⟩:=Hd.exA H1
 have H3:Hd w0 F0 w (CX (kvs.map DQ=st)::Cq BW mb (kvs.map BI)::Bb B8 kvs::blk sb [.map (some mb)] t::As) Rs:=H2.stA
 obtain ⟨he,H4⟩:=H3.puA
 obtain ⟨_,_,_,_,hn,_⟩:=H4.mapKf
 exact ⟨mb,kvs,he,hn,H4.perm (((List.Perm.swap _ _ _).cons _).trans (List.Perm.swap _ _ _))⟩
theorem Hd.stgO (k:Int×Int) (hn:D3 (kvs.map BI)) (H:Hd w0 F0 w (Bb B8 kvs::As) Rs):Hd w0 F0 w (Y (Ak Ag) (Dw k kvs).1 (Dw k kvs).2::Bb B8 (CB k kvs)::As) Rs:=by
 by_cases h:∀ e∈kvs,e.1≠k
 ·rw [Zd h,Kx h]
  exact H.newnil _
 ·have he:∃ e∈kvs,e.1=k:=Classical.byContradiction fun h2=>h fun e he hk=>h2 ⟨e,he,hk⟩
  have H1:=H.bigP (MG ((L9 kvs).1 hn) he)
  exact H1.bigO 0 U
theorem Hd.stgI_ (hn:D3 (kvs.map BI)) (H:Hd w0 F0 w (Y (Ak Ag) v us::Bb B8 (CB k kvs)::As) Rs):Hd w0 F0 w (Bb B8 (FP k (v,us) kvs)::As) Rs:=by
 have H1:Hd w0 F0 w (Bb B8 (CB k kvs++[(k,v,us)])::As) Rs:=Hd.bigN (f:=B8) (x:=(k,v,us)) H
 exact H1.bigP ((List.perm_append_comm (l₁:=CB k kvs) (l₂:=[(k,v,us)])).trans (QS ((L9 kvs).1 hn)).symm)
theorem Hd.stgI0 (hn:D3 (kvs.map BI)) (H:Hd w0 F0 w (Y (Ak Ag) (Dw k kvs).1 (Dw k kvs).2::Bb B8 (CB k kvs)::As) Rs):Hd w0 F0 w (Bb B8 kvs::As) Rs:=by
 by_cases h:∀ e∈kvs,e.1≠k
 ·have H1:=H.drop
  rwa [Kx h] at H1
 ·have he:∃ e∈kvs,e.1=k:=Classical.byContradiction fun h2=>h fun e he hk=>h2 ⟨e,he,hk⟩
  have H1:Hd w0 F0 w (Bb B8 (CB k kvs++[(k,Dw k kvs)])::As) Rs:=Hd.bigN (f:=B8) (x:=(k,Dw k kvs)) H
  exact H1.bigP ((List.perm_append_comm (l₁:=CB k kvs) (l₂:=[(k,Dw k kvs)])).trans (MG ((L9 kvs).1 hn) he).symm)
end
theorem Za  :
    Cn Tryz.prog 128 [] [] [] (fun v Bs=>∃ b:Nat,v=.pointer (some ⟨b,0,none⟩)∧Bs=[AS 253 b ([])]):=by
 intro w0 F0 H
 refine enter Tryz.func128 U U (Nat.le_of_ble_eq_true U) (Ab (Ae (Ad U (Ac (Z (Ab (Ae (YD BW U U U H (fun b1 w H=>(V U U (CL (parts:=[(0,.tmp 1)]) (vs:=[.map (some b1)]) (cs:=[.map (some b1)]) U RR U U) (CH U U U U H (fun b2 w H=>(Ad U (Ac (Z ?_)))))))))))))))
 replace H:Hd _ _ _ [blk b2 [.map (some b1)] 253,Cq BW b1 []] []:=H
 refine Ao (Aq U U ?_)
 replace H:=H.st0|>.h1 (A:=AS 253 b2 ([]))
 exact Am ⟨_,rfl,rfl⟩ H
theorem KP (r:Nat) (A:Option Addr) (m:Nat) (c:Nat) (vM2:Value) (vC2:Value) (vR2:Value) (vK2:Value) (J2:AG) (cw:Int) (ct:Int) (co:Int) (part:Int) (ep:Int) (g:Nat→CT) (hv:Nat→Value) (sb:Nat) (vs:Value) (n:Int) (hn:0≤n∧n<(m:Int)) (hm:m≤6):
    Cn Tryz.prog 118 [.pointer (some ⟨r,0,none⟩),.int .i64 n] [] [blk r (AK (.slice A m c) vM2 vC2 vR2 vK2 J2 cw ct co part ep g hv sb vs) 185] (fun v Bs=>v=.pointer (some ⟨r,14+(n).toNat*5,none⟩)∧Bs=[]):=by
 intro w0 F0 H
 refine enter Tryz.func118 U U (Nat.le_of_ble_eq_true U) (Ab (Ae (Ad U (Ac (Z (Ab (Ab (Ae (Ad U (V U U (C3 U Hm U U) (Ah 2 U (V U U (Bg U U U) (Ah 2 U ?_)))))))))))))
 refine AQ (d:=11) U (fun h1=>?_) (fun h1=>?_)
 ·exfalso;omega
 refine Ah 2 U (V U U (AI U U) (V U U (Aj U Gp U) (V U U (Aj U CQ U) (V U U (Aj U DE U) (V U U (An U DI U (H.cellRI 0 U U)) (V U U (A0 U DJ U) (V U U (CA U U U) (Ad U (Ac (Z ?_))))))))))
 refine Ay U (fun h2=>?_) (fun h2=>?_)
 ·exfalso;omega
 refine Av (Z (Ab (Ae (Ah 2 U (V U U (AI U U) (V U U (Aj U IZ U) (V U U (F_ (p:=14+(n).toNat*5) U Jx I6 U U (by omega) (by omega) (by omega)) (Ad U (Ac (Z (Ao (Aq U U ?_))))))))))))
 replace H:Hd _ _ _ [] [blk r (AK (.slice A m c) vM2 vC2 vR2 vK2 J2 cw ct co part ep g hv sb vs) 185]:=H
 exact Am ⟨rfl,rfl⟩ H
theorem KO (r:Nat) (A:Option Addr) (m:Nat) (c:Nat) (vM2:Value) (vC2:Value) (vR2:Value) (vK2:Value) (J2:AG) (cw:Int) (ct:Int) (co:Int) (part:Int) (ep:Int) (g:Nat→CT) (hv:Nat→Value) (sb:Nat) (vs:Value) (n:Int) (hn:¬ (0≤n∧n<(m:Int))):
    Cn Tryz.prog 118 [.pointer (some ⟨r,0,none⟩),.int .i64 n] [] [blk r (AK (.slice A m c) vM2 vC2 vR2 vK2 J2 cw ct co part ep g hv sb vs) 185] (fun v Bs=>v=.pointer none∧Bs=[]):=by
 intro w0 F0 H
 refine enter Tryz.func118 U U (Nat.le_of_ble_eq_true U) (Ab (Ae (Ad U (Ac (Z (Ab (Ab (Ae (Ad U (V U U (C3 U Hm U U) (Ah 2 U (V U U (Bg U U U) (Ah 2 U ?_)))))))))))))
 refine AQ (d:=11) U (fun h1=>?_) (fun h1=>?_)
 ·refine Ah 10 U (Ac (Z (Cc U (Ab (Ae (Ad U (Ac (Z (Ao (Az (Aq U U ?_)))))))))))
  replace H:Hd _ _ _ [] [blk r (AK (.slice A m c) vM2 vC2 vR2 vK2 J2 cw ct co part ep g hv sb vs) 185]:=H
  exact Am ⟨rfl,rfl⟩ H
 refine Ah 2 U (V U U (AI U U) (V U U (Aj U Gp U) (V U U (Aj U CQ U) (V U U (Aj U DE U) (V U U (An U DI U (H.cellRI 0 U U)) (V U U (A0 U DJ U) (V U U (CA U U U) (Ad U (Ac (Z ?_))))))))))
 refine Ay U (fun h2=>?_) (fun h2=>?_)
 ·refine Ab (Ae (Ad U (Ac (Z (Ao (Az (Aq U U ?_)))))))
  replace H:Hd _ _ _ [] [blk r (AK (.slice A m c) vM2 vC2 vR2 vK2 J2 cw ct co part ep g hv sb vs) 185]:=H
  exact Am ⟨rfl,rfl⟩ H
 exact Av (Z (Ab (Ae (Ah 2 U (V U U (AI U U) (V U U (Aj U IZ U) (V U U (F_ (p:=14+(n).toNat*5) U Jx I6 U U (by omega) (by omega) (by omega)) (Ad U (Ac (Z (Ao (Aq U U (absurd (by omega) hn)))))))))))))
theorem Zy (vxs:Value) (xs:List Al) (vys:Value) (ys:List Al) (hb:xs.length+ys.length≤1000000):
    Cn Tryz.prog 185 [vxs,vys] [] [Aa Ag vxs xs,Aa Ag vys ys] (fun v Bs=>Bs=[Y Ag v (srt (xs++ys))]):=by
 intro w0 F0 H
 obtain ⟨A1,c2,rfl,hc3,hm4,hp5⟩:=H.fR 0 rfl
 obtain ⟨A6,c7,rfl,hc8,hm9,hp10⟩:=H.fR 1 rfl
 refine enter Tryz.func185 U U (Nat.le_of_ble_eq_true U) (Ab (Ae (Ad U (Ac (Z ?_)))))
 replace H:Hd _ _ _ [] [Aa Ag (.slice A1 xs.length c2) xs,Aa Ag (.slice A6 ys.length c7) ys]:=H
 refine Ab (Ab (Ae (Ad U (sc (Q2 (.slice A1 xs.length c2) xs (by first |omega|decide|(simp only [List.length_append,List.length_cons,List.length_nil,Fl];omega))) H (lR 0 U l0) U U (At O4 U U) ?_))))
 rintro _ _ w ⟨rfl,rfl⟩ H
 refine V U U (Eg U U) (Ad U ?_)
 refine AQ (d:=9) U (fun h11=>?_) (fun h11=>?_)
 ·refine Ah 4 U (Ac (Z (Cc U (Ab (Ae (Ad U ?_))))))
  replace H:=H.newnil Ag
  refine CC (xs:=[]) (ys:=xs) U U U Bu CR U (by decide) U U H (by first |omega|(simp only [List.length_append,List.length_cons,List.length_nil];omega)) (fun F hA hR=>hR _ (List.mem_of_getElem? (i:=0) U)) (fun v12 w H=>(Ad U (CC (xs:=[]++xs) (ys:=ys) U U U Bu CR U (by decide) U U H (by first |omega|(simp only [List.length_append,List.length_cons,List.length_nil];omega)) (fun F hA hR=>hR _ (List.mem_of_getElem? (i:=1) U)) (fun v13 w H=>?_))))
  replace H:Hd _ _ _ [Y Ag v13 (([]++xs)++ys)] [Aa Ag (.slice A1 xs.length c2) xs,Aa Ag (.slice A6 ys.length c7) ys]:=H
  refine sc (Mj v13 (([]++xs)++ys) (by first |omega|decide|(simp only [List.length_append,List.length_cons,List.length_nil,Fl];omega))) H (lA 0 U BS l0) U U (At LN U U) ?_
  rintro v14 _ w rfl H
  replace H:=H.h1 (A:=Y Ag v14 (srt (([]++xs)++ys)))
  refine Ad U (Ac (Z (Ao (Az (Aq U U ?_)))))
  replace H:=H.k1.h1 (A:=Y Ag v14 (srt (xs++ys)))
  exact Am U H
 refine Ad U (sc (Q2 (.slice A6 ys.length c7) ys (by first |omega|decide|(simp only [List.length_append,List.length_cons,List.length_nil,Fl];omega))) H (lR 1 U l0) U U (At O4 U U) ?_)
 rintro _ _ w ⟨rfl,rfl⟩ H
 refine V U U (Eg U U) (Ad U (Ac (Z ?_)))
 refine Ay U (fun h15=>?_) (fun h15=>?_)
 ·refine Ab (Ae (Ad U ?_))
  replace H:=H.newnil Ag
  refine CC (xs:=[]) (ys:=xs) U U U Bu CR U (by decide) U U H (by first |omega|(simp only [List.length_append,List.length_cons,List.length_nil];omega)) (fun F hA hR=>hR _ (List.mem_of_getElem? (i:=0) U)) (fun v16 w H=>(Ad U (CC (xs:=[]++xs) (ys:=ys) U U U Bu CR U (by decide) U U H (by first |omega|(simp only [List.length_append,List.length_cons,List.length_nil];omega)) (fun F hA hR=>hR _ (List.mem_of_getElem? (i:=1) U)) (fun v17 w H=>?_))))
  replace H:Hd _ _ _ [Y Ag v17 (([]++xs)++ys)] [Aa Ag (.slice A1 xs.length c2) xs,Aa Ag (.slice A6 ys.length c7) ys]:=H
  refine sc (Mj v17 (([]++xs)++ys) (by first |omega|decide|(simp only [List.length_append,List.length_cons,List.length_nil,Fl];omega))) H (lA 0 U BS l0) U U (At LN U U) ?_
  rintro v18 _ w rfl H
  replace H:=H.h1 (A:=Y Ag v18 (srt (([]++xs)++ys)))
  refine Ad U (Ac (Z (Ao (Az (Aq U U ?_)))))
  replace H:=H.k1.h1 (A:=Y Ag v18 (srt (xs++ys)))
  exact Am U H
 refine Av (Z (Ab ?_))
 have hoxs:CS xs:=Classical.not_not.1 h11
 have hoys:CS ys:=Classical.not_not.1 h15
 refine Ae (Ad U (Ac (Z (Ab (AU ?_)))))
 replace H:=H.newnil Ag|>.dupR 1 rfl|>.dupR 1 rfl
 refine BV (σ:=Value×Value×List Al×List Al×Value×List Al) (fun (u,v,al,bl,q,zs)=>[(0,u),(1,v),(4,.slice none 0 0),(5,q)]) (fun (u,v,al,bl,q,zs) w=>(Hd w0 F0 w [Y Ag q zs] [Aa Ag u al,Aa Ag v bl,Aa Ag (.slice A1 xs.length c2) xs,Aa Ag (.slice A6 ys.length c7) ys])∧(CS al)∧(CS bl)∧(zs.length+(al.length+bl.length)=xs.length+ys.length)∧(zs++srt (al++bl)=srt (xs++ys))) (fun (u,v,al,bl,q,zs)=>al.length+bl.length) (.slice A1 xs.length c2,.slice A6 ys.length c7,xs,ys,.slice none 0 0,[]) ⟨rfl,rfl,rfl,rfl,trivial⟩ ⟨H,hoxs,hoys,by (try dsimp only);simp only [List.length_nil];omega,rfl⟩ ?_
 rintro ⟨u,v,al,bl,q,zs⟩ w ⟨H,ha,hb2,hl,hz⟩
 refine Ab (Ab (Ae (Ad U ?_)))
 obtain ⟨A19,c20,rfl,hc21,hm22,hp23⟩:=H.fR 0 rfl
 refine V U U (A0 U CD U) (V U U (Cd U U U) (Ad U ?_))
 refine AQ (d:=22) U (fun h24=>?_) (fun h24=>?_)
 ·refine Ad U ?_
  obtain ⟨A25,c26,rfl,hc27,hm28,hp29⟩:=H.fR 1 rfl
  refine V U U (A0 U CD U) (V U U (Cd U U U) (Ad U (Ac (Z ?_))))
  replace H:Hd _ _ _ [Y Ag q zs] [Aa Ag (.slice A19 al.length c20) al,Aa Ag (.slice A25 bl.length c26) bl,Aa Ag (.slice A1 xs.length c2) xs,Aa Ag (.slice A6 ys.length c7) ys]:=H
  refine Ay U (fun h30=>?_) (fun h30=>?_)
  ·refine Av (Z (AU (Ab (Ab (Gk mo (by kernel_rfl) H (Ei U ?_))))))
   obtain ⟨x31,hx32⟩:∃ z9,bl[0]?=some z9:=⟨_,List.getElem?_eq_getElem (show 0<bl.length by omega)⟩
   have th33:=H.thR 1 rfl hx32
   refine BG U U (fun w H=>Bf (p:=AX A25+0*2) U Bu U U (by omega) (by omega) th33 (by omega)) (BG U U (fun w H=>Aj U Fe U) (BG U U (fun w H=>An U BU U (H.elR 1 U hx32 (q:=0) U U)) (Ei U ?_)))
   obtain ⟨x34,hx35⟩:∃ z9,al[0]?=some z9:=⟨_,List.getElem?_eq_getElem (show 0<al.length by omega)⟩
   have th36:=H.thR 0 rfl hx35
   refine BG U U (fun w H=>Bf (p:=AX A19+0*2) U Bu U U (by omega) (by omega) th36 (by omega)) (BG U U (fun w H=>Aj U Fe U) (BG U U (fun w H=>An U BU U (H.elR 0 U hx35 (q:=0) U U)) (BG U U (fun w H=>Qb U U U) (Ge (fun w H=>(Z ?_))))))
   refine Ay U (fun h37=>?_) (fun h37=>?_)
   ·refine Ab (Ae (Ah 2 U ?_))
    have th38:=H.thR 1 rfl hx32
    refine V U U (Bf (p:=AX A25+0*2) U Bu U U (by omega) (by omega) th38 (by omega)) (V U U (Bv (cs:=[.string x31.key,.string x31.val]) U B9 U U (H.elsR 1 U hx32 U)) (BT (parts:=[(0,.tmp 39)]) (vs:=[.agg #[.string x31.key,.string x31.val]]) (cs:=[.string x31.key,.string x31.val]) U U U Bu CR U (by decide) (by decide) U U H (fun b39 w H=>?_)))
    replace H:=H.p1
    refine CC (xs:=zs) (ys:=[x31]) U U U Bu CR U (by decide) U U H (by first |omega|(simp only [List.length_append,List.length_cons,List.length_nil];omega)) (fun F hA hR=>Ci (hA _ (List.mem_of_getElem? (i:=0) U)) U (by decide) (AY.flat_eq.2 U)) (fun v40 w H=>(Ad U (Ac (Z ?_))))
    replace H:Hd _ _ _ [Y Ag v40 (zs++[x31]),blk b39 [.string x31.key,.string x31.val] 106] [Aa Ag (.slice A19 al.length c20) al,Aa Ag (.slice A25 bl.length c26) bl,Aa Ag (.slice A1 xs.length c2) xs,Aa Ag (.slice A6 ys.length c7) ys]:=H
    refine Ab (Ae (Ad U (V U U (Jh U Bu U U (by omega) (by omega) U) (Ad U (Ac (Z (BK (AR (BN ?_)))))))))
    replace H:=H.k1.sufR 1 rfl (n:=1) (by omega)
    replace H:Hd w0 F0 w [Y Ag v40 (zs++[x31])] [Aa Ag (.slice A19 al.length c20) al,Aa Ag (.slice (DD A25 c26 1 2) (bl.length - 1) (c26 - 1)) (bl.drop 1),Aa Ag (.slice A1 xs.length c2) xs,Aa Ag (.slice A6 ys.length c7) ys]:=H.pickR [1,0,3,4]
    have hz2:(zs++[x31])++srt (al++bl.drop 1)=srt (xs++ys):=by rw [←hz,V9 hx35 hx32 ha hb2 h37,List.append_assoc];rfl
    exact Bm (s:=(undef,undef,al,bl,undef,zs)) (.slice A19 al.length c20,.slice (DD A25 c26 1 2) (bl.length - 1) (c26 - 1),al,bl.drop 1,v40,zs++[x31]) ⟨rfl,rfl,rfl,rfl,trivial⟩ ⟨H,ha,PN hb2 1,by (try dsimp only);simp only [List.length_append,List.length_cons,List.length_nil,List.length_drop];omega,hz2⟩ (by (try dsimp only);simp only [List.length_drop];omega)
   refine Av (Z (Ab (Ae (Ah 2 U ?_))))
   have th41:=H.thR 0 rfl hx35
   refine V U U (Bf (p:=AX A19+0*2) U Bu U U (by omega) (by omega) th41 (by omega)) (V U U (Bv (cs:=[.string x34.key,.string x34.val]) U B9 U U (H.elsR 0 U hx35 U)) (BT (parts:=[(0,.tmp 47)]) (vs:=[.agg #[.string x34.key,.string x34.val]]) (cs:=[.string x34.key,.string x34.val]) U U U Bu CR U (by decide) (by decide) U U H (fun b42 w H=>?_)))
   replace H:=H.p1
   refine CC (xs:=zs) (ys:=[x34]) U U U Bu CR U (by decide) U U H (by first |omega|(simp only [List.length_append,List.length_cons,List.length_nil];omega)) (fun F hA hR=>Ci (hA _ (List.mem_of_getElem? (i:=0) U)) U (by decide) (AY.flat_eq.2 U)) (fun v43 w H=>(Ad U (Ac (Z ?_))))
   replace H:Hd _ _ _ [Y Ag v43 (zs++[x34]),blk b42 [.string x34.key,.string x34.val] 106] [Aa Ag (.slice A19 al.length c20) al,Aa Ag (.slice A25 bl.length c26) bl,Aa Ag (.slice A1 xs.length c2) xs,Aa Ag (.slice A6 ys.length c7) ys]:=H
   refine Ae (Ad U (V U U (Jh U Bu U U (by omega) (by omega) U) (Ad U (Ac (A8 ?_)))))
   replace H:=H.k1.sufR 0 rfl (n:=1) (by omega)
   replace H:Hd w0 F0 w [Y Ag v43 (zs++[x34])] [Aa Ag (.slice (DD A19 c20 1 2) (al.length - 1) (c20 - 1)) (al.drop 1),Aa Ag (.slice A25 bl.length c26) bl,Aa Ag (.slice A1 xs.length c2) xs,Aa Ag (.slice A6 ys.length c7) ys]:=H.pickR [0,2,3,4]
   have hz2:(zs++[x34])++srt (al.drop 1++bl)=srt (xs++ys):=by rw [←hz,V8 hx35 hx32 ha hb2 h37,List.append_assoc];rfl
   exact Bm (s:=(undef,undef,al,bl,undef,zs)) (.slice (DD A19 c20 1 2) (al.length - 1) (c20 - 1),.slice A25 bl.length c26,al.drop 1,bl,v43,zs++[x34]) ⟨rfl,rfl,rfl,rfl,trivial⟩ ⟨H,PN ha 1,hb2,by (try dsimp only);simp only [List.length_append,List.length_cons,List.length_nil,List.length_drop];omega,hz2⟩ (by (try dsimp only);simp only [List.length_drop];omega)
  refine BK (AR (AR (BN (Z (Ab (Ae (Ah 2 U (CC (xs:=zs) (ys:=al) U U U Bu CR U (by decide) U U H (by first |omega|(simp only [List.length_append,List.length_cons,List.length_nil];omega)) (fun F hA hR=>hR _ (List.mem_of_getElem? (i:=0) U)) (fun v44 w H=>(Ad U (CC (xs:=zs++al) (ys:=bl) U U U Bu CR U (by decide) U U H (by first |omega|(simp only [List.length_append,List.length_cons,List.length_nil];omega)) (fun F hA hR=>hR _ (List.mem_of_getElem? (i:=1) U)) (fun v45 w H=>?_))))))))))))
  replace H:=H.h1 (A:=Y Ag v45 ((zs++al)++bl))
  refine Ad U (Ac (Z (Ao (Aq U U ?_))))
  replace H:Hd w0 F0 w [Y Ag v45 (srt (xs++ys))] [Aa Ag (.slice A19 al.length c20) al,Aa Ag (.slice A25 bl.length c26) bl,Aa Ag (.slice A1 xs.length c2) xs,Aa Ag (.slice A6 ys.length c7) ys]:=by rw [←hz,Py ha hb2 (by omega),←List.append_assoc];exact H
  replace H:=H.dropR|>.dropR
  exact Am U H
 refine Ah 4 U (Ac (Z ?_))
 replace H:Hd _ _ _ [Y Ag q zs] [Aa Ag (.slice A19 al.length c20) al,Aa Ag v bl,Aa Ag (.slice A1 xs.length c2) xs,Aa Ag (.slice A6 ys.length c7) ys]:=H
 refine Cb U (BK (AR (AR (BN (Z (Ab (Ae (Ah 2 U (CC (xs:=zs) (ys:=al) U U U Bu CR U (by decide) U U H (by first |omega|(simp only [List.length_append,List.length_cons,List.length_nil];omega)) (fun F hA hR=>hR _ (List.mem_of_getElem? (i:=0) U)) (fun v46 w H=>(Ad U ?_)))))))))))
 obtain ⟨A47,c48,rfl,hc49,hm50,hp51⟩:=H.fR 1 rfl
 refine CC (xs:=zs++al) (ys:=bl) U U U Bu CR U (by decide) U U H (by first |omega|(simp only [List.length_append,List.length_cons,List.length_nil];omega)) (fun F hA hR=>hR _ (List.mem_of_getElem? (i:=1) U)) (fun v52 w H=>(Ad U (Ac (Z ?_))))
 replace H:Hd _ _ _ [Y Ag v52 ((zs++al)++bl)] [Aa Ag (.slice A19 al.length c20) al,Aa Ag (.slice A47 bl.length c48) bl,Aa Ag (.slice A1 xs.length c2) xs,Aa Ag (.slice A6 ys.length c7) ys]:=H
 refine Ao (Aq U U ?_)
 replace H:Hd w0 F0 w [Y Ag v52 (srt (xs++ys))] [Aa Ag (.slice A19 al.length c20) al,Aa Ag (.slice A47 bl.length c48) bl,Aa Ag (.slice A1 xs.length c2) xs,Aa Ag (.slice A6 ys.length c7) ys]:=by rw [←hz,Py ha hb2 (by omega),←List.append_assoc];exact H
 replace H:=H.dropR|>.dropR
 exact Am U H
theorem QL (vus:Value) (us:List (Value×List Al)) (hb:(BH us).length≤1000000):
    Cn Tryz.prog 138 [vus] [] [Aa (Ak Ag) vus us] (fun v Bs=>Bs=[Y Ag v (srt (BH us))]):=by
 intro w0 F0 H
 obtain ⟨A1,c2,rfl,hc3,hm4,hp5⟩:=H.fR 0 rfl
 refine enter Tryz.func138 U U (Nat.le_of_ble_eq_true U) (Ab (Ae (Ad U (Ac (Z ?_)))))
 replace H:Hd _ _ _ [] [Aa (Ak Ag) (.slice A1 us.length c2) us]:=H
 refine Ab (Ae (Ad U (Ac (Z (Ab (Ab (Ae (Ad U (V U U (A0 U DJ U) (Ad U (Ac (Z (AU ?_)))))))))))))
 replace H:=H.newnil Ag
 refine BV (σ:=Nat×Value) (fun (k,q)=>[(2,.slice none 0 0),(3,q),(6,.slice A1 us.length c2),(7,.int .i64 ((us.length:Nat):Int)),(8,.int .i64 ((k:Nat):Int))]) (fun (k,q) w=>(Hd w0 F0 w [Y Ag q (srt (BH (us.take k)))] [Aa (Ak Ag) (.slice A1 us.length c2) us])∧(k≤us.length)) (fun (k,q)=>us.length - k) (0,.slice none 0 0) ⟨rfl,rfl,rfl,rfl,rfl,trivial⟩ ⟨H,by (try dsimp only);omega⟩ ?_
 rintro ⟨k,q⟩ w ⟨H,hk⟩
 have hsl:=Fl (BH (us.take k))
 refine Ab (Ae (V U U (Bg U U U) (Ac (Z (Ab ?_)))))
 refine Ay U (fun h6=>?_) (fun h6=>?_)
 ·refine Av (Z (Ab (AU (Ab (Ae ?_)))))
  obtain ⟨⟨u9,x7⟩,hx8⟩:∃ z9,us[k]?=some z9:=⟨_,List.getElem?_eq_getElem (show k<us.length by omega)⟩
  obtain ⟨A10,c11,rfl,hc12,hm13⟩:=H.nestR 0 rfl hx8
  have th14:=H.thRd 0 rfl hx8
  refine V U U (Bf (p:=AX A1+k*1) U Eh U U (by omega) (by omega) th14 U) (V U U (An U Eb U (H.elRd 0 U hx8 U)) (Ad U (Ac (Z ?_))))
  have hfl:=GV us (k+1)
  rw [H8 hx8,List.length_append] at hfl
  refine Ae (Ah 2 U (sc (Zy q (srt (BH (us.take k))) (.slice A10 x7.length c11) x7 (by first |omega|decide|(simp only [List.length_append,List.length_cons,List.length_nil,Fl];omega))) H (lA 0 U BS (lX (fun F hA hR=>Gw (hR _ (List.mem_of_getElem? (i:=0) U)) hx8) l0)) U U (At UP U U) ?_))
  rintro v15 _ w rfl H
  refine Ad U (Ac (A8 (Z ?_)))
  replace H:Hd _ _ _ [Y Ag v15 (srt ((srt (BH (us.take k)))++x7)),Y Ag q (srt (BH (us.take k)))] [Aa (Ak Ag) (.slice A1 us.length c2) us]:=H
  refine Ae (V U U (A9 (z:=((k+1:Nat):Int)) U U U (by rw [AF (by omega) (by omega)];omega)) (Ad U (Ac ?_)))
  replace H:=H.k1
  replace H:Hd w0 F0 w [Y Ag v15 (srt (BH (us.take (k+1))))] [Aa (Ak Ag) (.slice A1 us.length c2) us]:=by rw [H8 hx8,←Y2];exact H
  exact Bm (s:=(k,undef)) (k+1,v15) ⟨rfl,rfl,rfl,rfl,rfl,trivial⟩ ⟨H,by (try dsimp only);omega⟩ (by (try dsimp only);omega)
 refine BK (AR (AR (BN (Z (Ab (Ae (Ah 2 U (Ac (Z (Ao (Aq U U ?_)))))))))))
 replace H:Hd w0 F0 w [Y Ag q (srt (BH us))] [Aa (Ak Ag) (.slice A1 us.length c2) us]:=by rw [List.take_of_length_le (show us.length≤k by omega)] at H;exact H
 exact Am U H
theorem V4 (vS vM vC vR vK:Value) (J:AG) (hJ:B6 J) (s:Nat) (hs:s<J.us.length):
    Cn Tryz.prog 124 [.agg #[vS,.int .i64 J.parts,vM,vC,vR,.int .i64 J.chunk,.int .i64 J.window,.int .i64 J.fuel,vK],.int .i64 ((s:Nat):Int)] [] [Aa (Ak Ag) vS J.us,Aa Af vM J.map,Aa Af vC J.comb,Aa Af vR J.red,Aa (Ai .i64) vK J.marks,gl] (fun v Bs=>∃ u,v=.tuple #[u,.int .i64 (mapM dg J s).2]∧Bs=[Y Ag u (mapM dg J s).1]):=by
 intro w0 F0 H
 obtain ⟨A1,c2,rfl,hc3,hm4,hp5⟩:=H.fR 0 rfl
 obtain ⟨A6,c7,rfl,hc8,hm9,hp10⟩:=H.fR 1 rfl
 obtain ⟨A11,c12,rfl,hc13,hm14,hp15⟩:=H.fR 2 rfl
 obtain ⟨A16,c17,rfl,hc18,hm19,hp20⟩:=H.fR 3 rfl
 obtain ⟨A21,c22,rfl,hc23,hm24,hp25⟩:=H.fR 4 rfl
 have hus:=hJ.us
 have hpt:=hJ.parts
 have hfu:=hJ.fuel
 refine enter Tryz.func124 U U (Nat.le_of_ble_eq_true U) (Ab (Ae (CH U U U U H (fun b26 w H=>(Ah 2 U (Ac (Z ?_)))))))
 replace H:Hd _ _ _ [blk b26 [.slice A1 J.us.length c2,.int .i64 J.parts,.slice A6 J.map.length c7,.slice A11 J.comb.length c12,.slice A16 J.red.length c17,.int .i64 J.chunk,.int .i64 J.window,.int .i64 J.fuel,.slice A21 J.marks.length c22] 26] [Aa (Ak Ag) (.slice A1 J.us.length c2) J.us,Aa Af (.slice A6 J.map.length c7) J.map,Aa Af (.slice A11 J.comb.length c12) J.comb,Aa Af (.slice A16 J.red.length c17) J.red,Aa (Ai .i64) (.slice A21 J.marks.length c22) J.marks,gl]:=H
 refine Ab (Ae (Ad U (Ac (Z (Ab (Ab (Ae (V U U (Aj U DE U) (V U U (An U DI U (H.cellI 0 U U)) (Ad U ?_))))))))))
 obtain ⟨⟨u29,x27⟩,hx28⟩:∃ z9,J.us[s]?=some z9:=⟨_,List.getElem?_eq_getElem (show s<J.us.length by omega)⟩
 obtain ⟨A30,c31,rfl,hc32,hm33⟩:=H.nestR 0 rfl hx28
 have th34:=H.thRd 0 rfl hx28
 refine V U U (Bf (p:=AX A1+s*1) U Eh U U (by omega) (by omega) th34 U) (V U U (An U Eb U (H.elRd 0 U hx28 U)) (V U U (A0 U CD U) (Ad U (Ac (Z (AU ?_))))))
 have hrec:=X3 hx28
 have hrl:x27.length≤8:=(hJ.split _ (B7 hx28)).1
 replace H:=H.addR (R:=Aa Ag (.slice A30 x27.length c31) x27) fun _ h=>Gw (h _ (List.mem_of_getElem? (i:=0) rfl)) hx28
 replace H:=H.newnil Ag
 refine BV (σ:=Nat×Value×List Al) (fun (i,q,out)=>[(2,.pointer (some ⟨b26,0,none⟩)),(6,q),(15,.slice A30 x27.length c31),(16,.int .i64 ((x27.length:Nat):Int)),(17,.int .i64 ((i:Nat):Int))]) (fun (i,q,out) w=>(Hd w0 F0 w [Y Ag q out,blk b26 [.slice A1 J.us.length c2,.int .i64 J.parts,.slice A6 J.map.length c7,.slice A11 J.comb.length c12,.slice A16 J.red.length c17,.int .i64 J.chunk,.int .i64 J.window,.int .i64 J.fuel,.slice A21 J.marks.length c22] 26] [Aa Ag (.slice A30 x27.length c31) x27,Aa (Ak Ag) (.slice A1 J.us.length c2) J.us,Aa Af (.slice A6 J.map.length c7) J.map,Aa Af (.slice A11 J.comb.length c12) J.comb,Aa Af (.slice A16 J.red.length c17) J.red,Aa (Ai .i64) (.slice A21 J.marks.length c22) J.marks,gl])∧(i≤x27.length)∧(ER dg J.map J.fuel (x27.drop i) out=ER dg J.map J.fuel x27 [])∧(out.length≤40)) (fun (i,q,out)=>x27.length - i) (0,.slice none 0 0,[]) ⟨rfl,rfl,rfl,rfl,rfl,trivial⟩ ⟨H,Nat.zero_le _,rfl,Nat.zero_le _⟩ ?_
 rintro ⟨i,q,out⟩ w ⟨H,hi,hgo,ho⟩
 refine Ab (Ae (V U U (Bg U U U) (Ac (Z (Ab ?_)))))
 refine Ay U (fun h35=>?_) (fun h35=>?_)
 ·refine Av (Z (Ab (AU (Ab (Ae ?_)))))
  obtain ⟨x36,hx37⟩:∃ z9,x27[i]?=some z9:=⟨_,List.getElem?_eq_getElem (show i<x27.length by omega)⟩
  have th38:=H.thR 0 rfl hx37
  refine V U U (Bf (p:=AX A30+i*2) U Bu U U (by omega) (by omega) th38 U) (V U U (Bv (cs:=[.string x36.key,.string x36.val]) U B9 U U (H.elsR 0 U hx37 U)) (Dr U U U CR H (fun b39 w H=>(Bk U U U B9 U U H U (Nat.le_of_ble_eq_true U) (fun u hu=>by simp [Value.cells] at hu;rcases hu with rfl|rfl<;>rfl) (fun w H=>?_)))))
  replace H:Hd _ _ _ [blk b39 [.string x36.key,.string x36.val] 106,Y Ag q out,blk b26 [.slice A1 J.us.length c2,.int .i64 J.parts,.slice A6 J.map.length c7,.slice A11 J.comb.length c12,.slice A16 J.red.length c17,.int .i64 J.chunk,.int .i64 J.window,.int .i64 J.fuel,.slice A21 J.marks.length c22] 26] [Aa Ag (.slice A30 x27.length c31) x27,Aa (Ak Ag) (.slice A1 J.us.length c2) J.us,Aa Af (.slice A6 J.map.length c7) J.map,Aa Af (.slice A11 J.comb.length c12) J.comb,Aa Af (.slice A16 J.red.length c17) J.red,Aa (Ai .i64) (.slice A21 J.marks.length c22) J.marks,gl]:=H
  refine Ac (Z (Ab (Ae (V U U (Aj U Ia U) (V U U (An U Ea U (H.cellI 2 U U)) (V U U (Aj U Fe U) (V U U (An U BU U (H.cellI 0 U U)) (V U U (Aj U H9 U) (V U U (An U BU U (H.cellI 0 U U)) (BT (parts:=[(0,.tmp 27)]) (vs:=[.string x36.val]) (cs:=[.string x36.val]) U U U Hh IR U (by decide) (by decide) U U H (fun b40 w H=>(V U U (Aj U I1 U) (V U U (An U AE U (H.cellI 3 U U)) (sc (Ro (.slice A6 J.map.length c7) J.map x36.key (.slice (some ⟨b40,0,none⟩) 1 1) [x36.val] J.fuel hJ.map hJ.f64) H (lR 2 U (lA 0 U (fun F h=>Ci h rfl (by decide) (AY.flat_eq.2 U)) (lR 6 U l0))) U U (At OW U U) ?_))))))))))))))
  rintro _ _ w ⟨u41,rfl,rfl⟩ H
  replace H:=H.h2 (A:=Y Ag u41 ((Bt dg J.map x36.key [x36.val] J.fuel).1)) (B:=blk b40 [.string x36.val] 9)
  have hrt:=QI dg J.map x36.key [x36.val] J.fuel
  refine Ah 5 U (Ac (Z (Ab (Ab (Ae (Ad U (V U U (C8 U U U) (Ac (Z ?_)))))))))
  refine Ay U (fun h42=>?_) (fun h42=>?_)
  ·refine Ab (Ae (Ah 3 U (Ac (Z (Ao (Az (A_ (Az (Az (A_ (Az (Cv U U U ?_))))))))))))
   have e:mapM dg J s=([],(Bt dg J.map x36.key [x36.val] J.fuel).2):=by unfold mapM;rw [hrec];exact hgo.symm.trans (V3 hx37 h42)
   replace H:=H.nil|>.newnil Ag|>.dropR
   replace H:Hd _ _ _ [Y Ag (.slice none 0 0) []] [Aa (Ak Ag) (.slice A1 J.us.length c2) J.us,Aa Af (.slice A6 J.map.length c7) J.map,Aa Af (.slice A11 J.comb.length c12) J.comb,Aa Af (.slice A16 J.red.length c17) J.red,Aa (Ai .i64) (.slice A21 J.marks.length c22) J.marks,gl]:=H
   exact Am ⟨_,by rw [e]<;>rfl,by rw [e]<;>rfl⟩ H
  refine Av (Z (Ab (Ae (Ah 2 U ?_))))
  replace H:=H.p3
  obtain ⟨A43,c44,rfl,hc45,hm46,hp47⟩:=H.fA 1 rfl
  refine CC (xs:=out) (ys:=(Bt dg J.map x36.key [x36.val] J.fuel).1) U U U Bu CR U (by decide) U U H (by first |omega|(rw [List.length_append];omega)) (fun F hA hR=>BS F (hA _ (List.mem_of_getElem? (i:=0) U))) (fun v48 w H=>(Ad U (Ac (Z ?_))))
  replace H:Hd _ _ _ [Y Ag v48 (out++((Bt dg J.map x36.key [x36.val] J.fuel).1)),Y Ag (.slice A43 (((Bt dg J.map x36.key [x36.val] J.fuel).1).length) c44) ((Bt dg J.map x36.key [x36.val] J.fuel).1),blk b40 [.string x36.val] 9,blk b39 [.string x36.key,.string x36.val] 106,blk b26 [.slice A1 J.us.length c2,.int .i64 J.parts,.slice A6 J.map.length c7,.slice A11 J.comb.length c12,.slice A16 J.red.length c17,.int .i64 J.chunk,.int .i64 J.window,.int .i64 J.fuel,.slice A21 J.marks.length c22] 26] [Aa Ag (.slice A30 x27.length c31) x27,Aa (Ak Ag) (.slice A1 J.us.length c2) J.us,Aa Af (.slice A6 J.map.length c7) J.map,Aa Af (.slice A11 J.comb.length c12) J.comb,Aa Af (.slice A16 J.red.length c17) J.red,Aa (Ai .i64) (.slice A21 J.marks.length c22) J.marks,gl]:=H
  refine Ab (Ae (Ad U ?_))
  obtain ⟨A49,c50,rfl,hc51,hm52,hp53⟩:=H.fA 0 rfl
  refine V U U (A0 U CD U) (V U U (Cd U U U) (Ac (Z ?_)))
  refine Ay U (fun h54=>?_) (fun h54=>?_)
  ·refine Ab (Ae (Ah 2 U (Ac (Z (Ao (A_ (Az (Az (A_ (Az (Cv U U U ?_)))))))))))
   have hap:(out++(Bt dg J.map x36.key [x36.val] J.fuel).1).length=out.length+(Bt dg J.map x36.key [x36.val] J.fuel).1.length:=List.length_append
   have e:mapM dg J s=([],5):=by unfold mapM;rw [hrec];exact hgo.symm.trans (V0 hx37 h42 (by omega))
   replace H:=H.nil|>.newnil Ag|>.dropR
   replace H:Hd _ _ _ [Y Ag (.slice none 0 0) []] [Aa (Ak Ag) (.slice A1 J.us.length c2) J.us,Aa Af (.slice A6 J.map.length c7) J.map,Aa Af (.slice A11 J.comb.length c12) J.comb,Aa Af (.slice A16 J.red.length c17) J.red,Aa (Ai .i64) (.slice A21 J.marks.length c22) J.marks,gl]:=H
   exact Am ⟨_,by rw [e]<;>rfl,by rw [e]<;>rfl⟩ H
  refine Av (A8 (Z (Ae (V U U (A9 (z:=((i+1:Nat):Int)) U U U (by rw [AF (by omega) (by omega)];omega)) (Ad U (Ac ?_))))))
  replace H:=H.p4.p1.k2
  have hap:(out++(Bt dg J.map x36.key [x36.val] J.fuel).1).length=out.length+(Bt dg J.map x36.key [x36.val] J.fuel).1.length:=List.length_append
  have hl2:(out++(Bt dg J.map x36.key [x36.val] J.fuel).1).length≤40:=by omega
  have hg2:=(V1 (out:=out) hx37 h42 (by omega)).trans hgo
  exact Bm (s:=(i,undef,out)) (i+1,.slice A49 ((out++((Bt dg J.map x36.key [x36.val] J.fuel).1)).length) c50,out++(Bt dg J.map x36.key [x36.val] J.fuel).1) ⟨rfl,rfl,rfl,rfl,rfl,trivial⟩ ⟨H,by (try dsimp only);omega,hg2,hl2⟩ (by (try dsimp only);omega)
 refine BK (AR (AR (BN (Z (Ab (Ae (Ah 3 U (Ac (Z (Ao (Cv U U U ?_)))))))))))
 replace H:=H.k1
 have e:mapM dg J s=(out,0):=by unfold mapM;rw [hrec];exact hgo.symm.trans (VZ (by omega))
 replace H:=H.dropR
 replace H:Hd _ _ _ [Y Ag q out] [Aa (Ak Ag) (.slice A1 J.us.length c2) J.us,Aa Af (.slice A6 J.map.length c7) J.map,Aa Af (.slice A11 J.comb.length c12) J.comb,Aa Af (.slice A16 J.red.length c17) J.red,Aa (Ai .i64) (.slice A21 J.marks.length c22) J.marks,gl]:=H
 exact Am ⟨_,by rw [e]<;>rfl,by rw [e]<;>rfl⟩ H
theorem Q3 (vS vM vC vR vK:Value) (J:AG) (hJ:B6 J) (s:Nat) (hs:s<J.us.length):
    Cn Tryz.prog 53 [.agg #[vS,.int .i64 J.parts,vM,vC,vR,.int .i64 J.chunk,.int .i64 J.window,.int .i64 J.fuel,vK],.int .i64 ((s:Nat):Int)] [] [Aa (Ak Ag) vS J.us,Aa Af vM J.map,Aa Af vC J.comb,Aa Af vR J.red,Aa (Ai .i64) vK J.marks,gl] (fun v Bs=>∃ u,v=.tuple #[u,.int .i64 (AA dg J s).2]∧Bs=[Y Ag u (AA dg J s).1]):=by
 intro w0 F0 H
 obtain ⟨A1,c2,rfl,hc3,hm4,hp5⟩:=H.fR 0 rfl
 obtain ⟨A6,c7,rfl,hc8,hm9,hp10⟩:=H.fR 1 rfl
 obtain ⟨A11,c12,rfl,hc13,hm14,hp15⟩:=H.fR 2 rfl
 obtain ⟨A16,c17,rfl,hc18,hm19,hp20⟩:=H.fR 3 rfl
 obtain ⟨A21,c22,rfl,hc23,hm24,hp25⟩:=H.fR 4 rfl
 have hus:=hJ.us
 have hpt:=hJ.parts
 have hfu:=hJ.fuel
 refine enter Tryz.func53 U U (Nat.le_of_ble_eq_true U) (Ab (Ae (CH U U U U H (fun b26 w H=>(Ah 2 U (Ac (Z ?_)))))))
 replace H:Hd _ _ _ [blk b26 [.slice A1 J.us.length c2,.int .i64 J.parts,.slice A6 J.map.length c7,.slice A11 J.comb.length c12,.slice A16 J.red.length c17,.int .i64 J.chunk,.int .i64 J.window,.int .i64 J.fuel,.slice A21 J.marks.length c22] 26] [Aa (Ak Ag) (.slice A1 J.us.length c2) J.us,Aa Af (.slice A6 J.map.length c7) J.map,Aa Af (.slice A11 J.comb.length c12) J.comb,Aa Af (.slice A16 J.red.length c17) J.red,Aa (Ai .i64) (.slice A21 J.marks.length c22) J.marks,gl]:=H
 refine Ab (Ab (Ae (V U U (Bv (cs:=[.slice A1 J.us.length c2,.int .i64 J.parts,.slice A6 J.map.length c7,.slice A11 J.comb.length c12,.slice A16 J.red.length c17,.int .i64 J.chunk,.int .i64 J.window,.int .i64 J.fuel,.slice A21 J.marks.length c22]) U GG U U (H.cellsI 0 U U)) (sc (LC (.slice A1 J.us.length c2) (.slice A6 J.map.length c7) (.slice A11 J.comb.length c12) (.slice A16 J.red.length c17) (.slice A21 J.marks.length c22) J) H (lR 0 U (lR 1 U (lR 2 U (lR 3 U (lR 4 U l0))))) U U (At LT U U) ?_))))
 rintro _ _ w ⟨rfl,rfl⟩ H
 refine V U U (Eg U U) (Ad U ?_)
 refine AQ (d:=11) U (fun h27=>?_) (fun h27=>?_)
 ·exact (h27 hJ.may).elim
 refine Ad U (V U U (Bg U U U) (Ah 2 U ?_))
 refine AQ (d:=15) U (fun h28=>?_) (fun h28=>?_)
 ·exfalso;omega
 refine Ad U (V U U (Aj U DE U) (V U U (An U DI U (H.cellI 0 U U)) (V U U (A0 U DJ U) (V U U (CA U U U) (Ad U (Ac (Z ?_)))))))
 refine Ay U (fun h29=>?_) (fun h29=>?_)
 ·exfalso;omega
 refine Av (Z (Ab (Ae (V U U (Bv (cs:=[.slice A1 J.us.length c2,.int .i64 J.parts,.slice A6 J.map.length c7,.slice A11 J.comb.length c12,.slice A16 J.red.length c17,.int .i64 J.chunk,.int .i64 J.window,.int .i64 J.fuel,.slice A21 J.marks.length c22]) U GG U U (H.cellsI 0 U U)) (Ad U (sc (V4 (.slice A1 J.us.length c2) (.slice A6 J.map.length c7) (.slice A11 J.comb.length c12) (.slice A16 J.red.length c17) (.slice A21 J.marks.length c22) J hJ s (by omega)) H (lR 0 U (lR 1 U (lR 2 U (lR 3 U (lR 4 U (lR 5 U l0)))))) U U (At Uy U U) ?_))))))
 rintro _ _ w ⟨u30,rfl,rfl⟩ H
 refine Ah 5 U (Ac (Z ?_))
 replace H:Hd _ _ _ [Y Ag u30 ((mapM dg J s).1),blk b26 [.slice A1 J.us.length c2,.int .i64 J.parts,.slice A6 J.map.length c7,.slice A11 J.comb.length c12,.slice A16 J.red.length c17,.int .i64 J.chunk,.int .i64 J.window,.int .i64 J.fuel,.slice A21 J.marks.length c22] 26] [Aa (Ak Ag) (.slice A1 J.us.length c2) J.us,Aa Af (.slice A6 J.map.length c7) J.map,Aa Af (.slice A11 J.comb.length c12) J.comb,Aa Af (.slice A16 J.red.length c17) J.red,Aa (Ai .i64) (.slice A21 J.marks.length c22) J.marks,gl]:=H
 refine Ab (Ab (Ae (Ad U (V U U (C8 U U U) (Ac (Z ?_))))))
 refine Ay U (fun h31=>?_) (fun h31=>?_)
 ·refine Ab (Ae (Ah 3 U (Ac (Z (Ao (Az (Cv U U U ?_)))))))
  have e:AA dg J s=([],(mapM dg J s).2):=if_pos h31
  replace H:=H.nil|>.newnil Ag
  exact Am ⟨_,by rw [e]<;>rfl,by rw [e]<;>rfl⟩ H
 refine Av (Z (Ab (Ae (V U U (Aj U Ib U) (V U U (An U Ea U (H.cellI 1 U U)) (Ad U (V U U (Aj U I1 U) (V U U (An U AE U (H.cellI 1 U U)) ?_))))))))
 have hml:=Pv dg J s
 refine sc (TN (.slice A11 J.comb.length c12) J.comb u30 ((mapM dg J s).1) J.fuel hJ.comb hJ.f64 (by omega)) H (lR 2 U (lA 0 U BS (lR 5 U l0))) U U (At Uz U U) ?_
 rintro _ _ w ⟨u32,rfl,rfl⟩ H
 replace H:=H.h1 (A:=Y Ag u32 ((FE dg J.comb (mapM dg J s).1 J.fuel).1))
 refine Ah 4 U (Ac (Z (Ao (Cv U U U ?_))))
 have e:AA dg J s=FE dg J.comb (mapM dg J s).1 J.fuel:=if_neg h31
 replace H:=H.k1
 exact Am ⟨_,by rw [e]<;>rfl,by rw [e]<;>rfl⟩ H
theorem Uo (vS vM vC vR vK:Value) (J:AG) (hJ:B6 J) (s:Nat) (p:Int) (hs:s<J.us.length):
    Cn Tryz.prog 54 [.agg #[vS,.int .i64 J.parts,vM,vC,vR,.int .i64 J.chunk,.int .i64 J.window,.int .i64 J.fuel,vK],.int .i64 ((s:Nat):Int),.int .i64 p] [] [Aa (Ak Ag) vS J.us,Aa Af vM J.map,Aa Af vC J.comb,Aa Af vR J.red,Aa (Ai .i64) vK J.marks,gl] (fun v Bs=>∃ u,v=.tuple #[u,.int .i64 (Hc dg J s p).2]∧Bs=[Y Ag u (Hc dg J s p).1]):=by
 intro w0 F0 H
 obtain ⟨A1,c2,rfl,hc3,hm4,hp5⟩:=H.fR 0 rfl
 obtain ⟨A6,c7,rfl,hc8,hm9,hp10⟩:=H.fR 1 rfl
 obtain ⟨A11,c12,rfl,hc13,hm14,hp15⟩:=H.fR 2 rfl
 obtain ⟨A16,c17,rfl,hc18,hm19,hp20⟩:=H.fR 3 rfl
 obtain ⟨A21,c22,rfl,hc23,hm24,hp25⟩:=H.fR 4 rfl
 have hus:=hJ.us
 have hpt:=hJ.parts
 have hfu:=hJ.fuel
 refine enter Tryz.func54 U U (Nat.le_of_ble_eq_true U) (Ab (Ae (CH U U U U H (fun b26 w H=>(Ah 2 U (Ac (Z ?_)))))))
 replace H:Hd _ _ _ [blk b26 [.slice A1 J.us.length c2,.int .i64 J.parts,.slice A6 J.map.length c7,.slice A11 J.comb.length c12,.slice A16 J.red.length c17,.int .i64 J.chunk,.int .i64 J.window,.int .i64 J.fuel,.slice A21 J.marks.length c22] 26] [Aa (Ak Ag) (.slice A1 J.us.length c2) J.us,Aa Af (.slice A6 J.map.length c7) J.map,Aa Af (.slice A11 J.comb.length c12) J.comb,Aa Af (.slice A16 J.red.length c17) J.red,Aa (Ai .i64) (.slice A21 J.marks.length c22) J.marks,gl]:=H
 refine Ab (Ae (V U U (Bv (cs:=[.slice A1 J.us.length c2,.int .i64 J.parts,.slice A6 J.map.length c7,.slice A11 J.comb.length c12,.slice A16 J.red.length c17,.int .i64 J.chunk,.int .i64 J.window,.int .i64 J.fuel,.slice A21 J.marks.length c22]) U GG U U (H.cellsI 0 U U)) (Ad U (sc (Q3 (.slice A1 J.us.length c2) (.slice A6 J.map.length c7) (.slice A11 J.comb.length c12) (.slice A16 J.red.length c17) (.slice A21 J.marks.length c22) J hJ s (by omega)) H (lR 0 U (lR 1 U (lR 2 U (lR 3 U (lR 4 U (lR 5 U l0)))))) U U (At Pd U U) ?_))))
 rintro _ _ w ⟨u27,rfl,rfl⟩ H
 replace H:=H.h1 (A:=Y Ag u27 ((AA dg J s).1))
 refine Ah 5 U (Ac (Z (Ab (Ab (Ae (Ad U (V U U (C8 U U U) (Ac (Z ?_)))))))))
 refine Ay U (fun h28=>?_) (fun h28=>?_)
 ·refine Ab (Ae (Ah 3 U (Ac (Z (Ao (Az (Cv U U U ?_)))))))
  have e:Hc dg J s p=([],(AA dg J s).2):=if_pos h28
  replace H:=H.nil|>.newnil Ag
  exact Am ⟨_,by rw [e]<;>rfl,by rw [e]<;>rfl⟩ H
 refine Av (Z (Ab (Ae (Ad U (V U U (Aj U GY U) (V U U (An U AE U (H.cellI 1 U U)) (Ad U ?_)))))))
 have hsl:=HF dg J s
 have hsk:∀ x∈(AA dg J s).1,x.key.size≤9223372036854775807:=fun x hx=>by have:=(HG G7 hJ s x hx).1;omega
 refine sc (PM u27 ((AA dg J s).1) J.parts p (by omega) (by omega) hsk) H (lA 0 U BS l0) U U (At OO U U) ?_
 rintro u29 _ w rfl H
 replace H:=H.h1 (A:=Y Ag u29 (BM dg J s p))
 refine Ah 2 U (Ac (Z (Ao (Cv U U U ?_))))
 have e:Hc dg J s p=(BM dg J s p,0):=if_neg h28
 replace H:=H.k1
 exact Am ⟨_,by rw [e]<;>rfl,by rw [e]<;>rfl⟩ H
end Go.Proofs.YthgehekecfpikaaGreatDoor.X
