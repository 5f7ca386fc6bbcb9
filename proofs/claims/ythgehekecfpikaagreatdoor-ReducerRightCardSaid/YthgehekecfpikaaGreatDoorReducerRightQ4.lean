/- ReducerRight: texts P3, XE, F2, XJob, J1, XJob2, XCfg, XRed, XOb, XRed2, C1, XStg, N1, N2, J2, J3, J4, joined by a program of ours; what nothing names is left out. -/
import Derived.Test.YthgehekecfpikaaGreatDoorReducerRightQ3
import Derived.KernelRfl
set_option linter.unusedVariables false
set_option linter.unusedSimpArgs false
set_option maxHeartbeats 8000000
namespace Go.Proofs.YthgehekecfpikaaGreatDoor.X
open Go
theorem KG (v1 v2:Value) (xs ys:List Al):
    Cn Tryz.prog 25 [v1,v2] [] [Aa Ag v1 xs,Aa Ag v2 ys] (fun v Bs=>v=.bool (decide (xs=ys))∧Bs=[]):=by
 intro w0 F0 H
 obtain ⟨A1,c2,rfl,hc3,hm4,hp5⟩:=H.fR 0 rfl
 obtain ⟨A6,c7,rfl,hc8,hm9,hp10⟩:=H.fR 1 rfl
 refine enter Tryz.func25 U U (Nat.le_of_ble_eq_true U) (Ab (Ae (Ad U (Ac (Z ?_)))))
 replace H:Hd _ _ _ [] [Aa Ag (.slice A1 xs.length c2) xs,Aa Ag (.slice A6 ys.length c7) ys]:=H
 refine Ab (Ab (Ae (Ad U (V U U (A8 U CH U) (Ad U (V U U (A8 U CH U) (V U U (CN U U U) (Ac (Z ?_)))))))))
 refine Az U (fun h11=>?_) (fun h11=>?_)
 ·refine Ab (Ae (Ad U (Ac (Z (Ap (AA (Aq U U ?_)))))))
  have e:¬ xs=ys:=fun e=>h11 (by rw [e])
  exact Am ⟨by rw [decide_eq_false e]<;>rfl,rfl⟩ H
 refine Aw (Z (Ab (Ab (Ae (Ad U (Ac (Z (AW ?_))))))))
 have hle:xs.length=ys.length:=by omega
 refine BT (σ:=Nat) (fun k=>[(0,.slice A1 xs.length c2),(1,.slice A6 ys.length c7),(5,.int .i64 ((k:Nat):Int))]) (fun k w=>(Hd w0 F0 w [] [Aa Ag (.slice A1 xs.length c2) xs,Aa Ag (.slice A6 ys.length c7) ys])∧(k≤xs.length)∧(xs.length=ys.length)∧(xs.take k=ys.take k)) (fun k=>xs.length - k) 0 ⟨rfl,rfl,rfl,trivial⟩ ⟨H,by omega,hle,rfl⟩ ?_
 rintro k w ⟨H,hk,hle,ht⟩
 refine Ab (Ab (Ae (Ah 2 U (V U U (A8 U CH U) (V U U (Bd U U U) (Ac (Z ?_)))))))
 refine Az U (fun h12=>?_) (fun h12=>?_)
 ·refine Aw (Z (Ab (AW (Ab (F8 mo (by kernel_rfl) H (Gi 2 U ?_))))))
  obtain ⟨x13,hx14⟩:∃ z9,xs[k]?=some z9:=⟨_,List.getElem?_eq_getElem (show k<xs.length by omega)⟩
  have th15:=H.thR 0 rfl hx14
  refine Bw U U (fun w H=>Ba (p:=AT A1+k*2) U BA U U (by omega) (by omega) th15 U) (Bw U U (fun w H=>Bu (cs:=[.string x13.key,.string x13.val]) U Cb U U (H.elsR 0 U hx14 U)) (Gi 2 U ?_))
  obtain ⟨x16,hx17⟩:∃ z9,ys[k]?=some z9:=⟨_,List.getElem?_eq_getElem (show k<ys.length by omega)⟩
  have th18:=H.thR 1 rfl hx17
  refine Bw U U (fun w H=>Ba (p:=AT A6+k*2) U BA U U (by omega) (by omega) th18 U) (Bw U U (fun w H=>Bu (cs:=[.string x16.key,.string x16.val]) U Cb U U (H.elsR 1 U hx17 U)) (Bw U U (fun w H=>Yb (p:=x13) (q:=x16) U TN U U) (FX (fun w H=>(Z ?_)))))
  refine Az U (fun h19=>?_) (fun h19=>?_)
  ·refine Ab (Ae (Ad U (Ac (Z (Ap (Bb (AA (AA (Bb (AA (Aq U U ?_)))))))))))
   have e:¬ xs=ys:=fun e=>h19 (by rw [e,hx17] at hx14;exact (Option.some.inj hx14).symm)
   exact Am ⟨by rw [decide_eq_false e]<;>rfl,rfl⟩ H
  refine Aw (A_ (Z (Ae (Ad U (V U U (A0 (z:=((k+1:Nat):Int)) U U U (by rw [AF (by omega) (by omega)];omega)) (Ad U (Ac ?_)))))))
  have e:x13=x16:=Classical.not_not.1 h19
  subst e
  exact Bl (s:=k) (k+1) ⟨rfl,rfl,rfl,trivial⟩ ⟨H,by omega,hle,RA hx14 hx17 ht⟩ (by (try dsimp only);omega)
 refine BM (AR (AR (BN (Z (Ab (Ae (Ad U (Ac (Z (Ap (Aq U U ?_)))))))))))
 have e:xs=ys:=by rw [←Hm (xs:=xs) (k:=k) (by omega),←Hm (xs:=ys) (k:=k) (by omega)];exact ht
 exact Am ⟨by rw [decide_eq_true e]<;>rfl,rfl⟩ H
theorem Uq (vxs:Value) (xs:List Al) (n:Int):
    Cn Tryz.prog 23 [vxs,.int .i64 n] [] [Aa Ag vxs xs] (fun v Bs=>v=.bool (Fj xs n)∧Bs=[]):=by
 intro w0 F0 H
 obtain ⟨A1,c2,rfl,hc3,hm4,hp5⟩:=H.fR 0 rfl
 refine enter Tryz.func23 U U (Nat.le_of_ble_eq_true U) (Ab (Ae (Ad U (Ac (Z ?_)))))
 replace H:Hd _ _ _ [] [Aa Ag (.slice A1 xs.length c2) xs]:=H
 refine Ab (Ab (Ae (Ad U (Ac (Z (AW (BT (σ:=Nat) (fun k=>[(0,.slice A1 xs.length c2),(1,.int .i64 n),(5,.int .i64 ((k:Nat):Int))]) (fun k w=>(Hd w0 F0 w [] [Aa Ag (.slice A1 xs.length c2) xs])∧(k≤xs.length)∧(∀ y∈xs.take k,y.key.size≤100∧y.val.size≤100)) (fun k=>xs.length - k) 0 ⟨rfl,rfl,rfl,trivial⟩ ⟨H,by omega,by simp⟩ ?_)))))))
 rintro k w ⟨H,hk,hn⟩
 refine Ab (Ab (Ae (Ah 2 U (V U U (A8 U CH U) (V U U (Bd U U U) (Ad U ?_))))))
 refine AU (d:=10) U (fun h6=>?_) (fun h6=>?_)
 ·refine Ad U (V U U (A8 U CH U) (Ad U (V U U (Ci U U U) (Ad U (Ac (Z ?_))))))
  refine Az U (fun h7=>?_) (fun h7=>?_)
  ·refine Aw (Z (Ab (AW (Ab (Ae (Ah 2 U ?_))))))
   obtain ⟨x8,hx9⟩:∃ z9,xs[k]?=some z9:=⟨_,List.getElem?_eq_getElem (show k<xs.length by omega)⟩
   have th10:=H.thR 0 rfl hx9
   refine V U U (Ba (p:=AT A1+k*2) U BA U U (by omega) (by omega) th10 U) (V U U (Aj U Fh U) (V U U (Ao U BV U (H.elR 0 U hx9 (q:=0) U U)) (V U U (Dn U Ct U) (V U U (Ca U U U) (Ad U ?_)))))
   refine AU (d:=25) U (fun h11=>?_) (fun h11=>?_)
   ·exact Ah 8 U (Ac (Z (B8 U (Ab (Ae (Ad U (Ac (Z (Ap (Bb (AA (AA (Bb (AA (Aq U U (Am ⟨congrArg Value.bool (OL hx9 (by omega)),rfl⟩ H))))))))))))))))
   refine Ah 2 U ?_
   have th12:=H.thR 0 rfl hx9
   refine V U U (Ba (p:=AT A1+k*2) U BA U U (by omega) (by omega) th12 U) (V U U (Aj U Ih U) (V U U (Ao U BV U (H.elR 0 U hx9 (q:=1) U U)) (V U U (Dn U Ct U) (V U U (Ca U U U) (Ad U (Ac (Z ?_)))))))
   refine Az U (fun h13=>?_) (fun h13=>?_)
   ·exact Ab (Ae (Ad U (Ac (Z (Ap (Bb (AA (AA (Bb (AA (Aq U U (Am ⟨congrArg Value.bool (OL hx9 (by omega)),rfl⟩ H))))))))))))
   exact Aw (A_ (Z (Ae (Ad U (V U U (A0 (z:=((k+1:Nat):Int)) U U U (by rw [AF (by omega) (by omega)];omega)) (Ad U (Ac (Bl (s:=k) (k+1) ⟨rfl,rfl,rfl,trivial⟩ ⟨H,by (try dsimp only);omega,JD hn hx9 (by omega)⟩ (by (try dsimp only);omega)))))))))
  exact BM (AR (AR (BN (Z (Ab (Ae (Ad U (V U U (A8 U CH U) (Ad U (V U U (Ca U U U) (Ad U (Ac (Z (Ap (Aq U U (Am ⟨congrArg Value.bool (OK hn (by omega)),rfl⟩ H))))))))))))))))
 exact Ah 5 U (Ac (Z (B9 U (BM (AR (AR (BN (Z (Ab (Ae (Ad U (V U U (A8 U CH U) (Ad U (V U U (Ca U U U) (Ad U (Ac (Z (Ap (Aq U U (Am ⟨congrArg Value.bool (OK hn (by omega)),rfl⟩ H))))))))))))))))))))
theorem Xq (vxs:Value) (xs:List Al) (key:ByteArray) (hb:xs.length≤1000000):
    Cn Tryz.prog 212 [vxs,.string key] [] [Aa Ag vxs xs] (fun v Bs=>Bs=[Y Bk v (BR xs key)]):=by
 intro w0 F0 H
 obtain ⟨A1,c2,rfl,hc3,hm4,hp5⟩:=H.fR 0 rfl
 refine enter Tryz.func212 U U (Nat.le_of_ble_eq_true U) (Ab (Ae (Ad U (Ac (Z ?_)))))
 replace H:Hd _ _ _ [] [Aa Ag (.slice A1 xs.length c2) xs]:=H
 refine Ab (Ae (Ad U (Ac (Z (Ab (Ab (Ae (Ad U (V U U (A8 U CH U) (Ad U (Ac (Z (AW ?_)))))))))))))
 replace H:=H.newnil Bk
 refine BT (σ:=Nat×Value) (fun (k,l)=>[(1,.string key),(4,.slice none 0 0),(5,l),(8,.slice A1 xs.length c2),(9,.int .i64 ((xs.length:Nat):Int)),(10,.int .i64 ((k:Nat):Int))]) (fun (k,l) w=>(Hd w0 F0 w [Y Bk l (BR (xs.take k) key)] [Aa Ag (.slice A1 xs.length c2) xs])∧(k≤xs.length)) (fun (k,l)=>xs.length - k) (0,.slice none 0 0) ⟨rfl,rfl,rfl,rfl,rfl,rfl,trivial⟩ ⟨H,by (try dsimp only);omega⟩ ?_
 rintro ⟨k,l⟩ w ⟨H,hk⟩
 have hjl:=W7 (xs.take k) key
 have hjt:(xs.take k).length≤xs.length:=by simp;omega
 refine Ab (Ae (V U U (Bd U U U) (Ac (Z (Ab ?_)))))
 refine Az U (fun h6=>?_) (fun h6=>?_)
 ·refine Aw (Z (Ab (AW (Ab (Ae ?_)))))
  obtain ⟨x7,hx8⟩:∃ z9,xs[k]?=some z9:=⟨_,List.getElem?_eq_getElem (show k<xs.length by omega)⟩
  have th9:=H.thR 0 rfl hx8
  refine V U U (Ba (p:=AT A1+k*2) U BA U U (by omega) (by omega) th9 U) (V U U (Bu (cs:=[.string x7.key,.string x7.val]) U Cb U U (H.elsR 0 U hx8 U)) (Dr U U U CT H (fun b10 w H=>(Bo U U U Cb U U H U (Nat.le_of_ble_eq_true U) (fun u hu=>by simp [Value.cells] at hu;rcases hu with rfl|rfl<;>rfl) (fun w H=>?_)))))
  replace H:=H.h2 (A:=blk b10 [.string x7.key,.string x7.val] 106) (B:=Y Bk l (BR (xs.take k) key))
  refine Ac (Z (Ab (Ae (V U U (Aj U Fh U) (V U U (Ao U BV U (H.cellI 0 U U)) (Ad U (V U U (MG U U U) (Ac (Z ?_)))))))))
  refine Az U (fun h11=>?_) (fun h11=>?_)
  ·refine Ae (Ad U (V U U (Aj U Ih U) (V U U (Ao U BV U (H.cellI 0 U U)) (BU (parts:=[(0,.tmp 20)]) (vs:=[.string x7.val]) (cs:=[.string x7.val]) U U U Hj IW U (by decide) (by decide) U U H (fun b12 w H=>?_)))))
   replace H:=H.p2
   refine CG (xs:=BR (xs.take k) key) (ys:=[x7.val]) U U U Hj IW U (by decide) U U H (by omega) (fun F hA hR=>Ch (hA _ (List.mem_of_getElem? (i:=0) U)) U (by decide) (AZ.flat_eq.2 U)) (fun v13 w H=>(Ad U (Ac (A_ (Z ?_)))))
   replace H:Hd _ _ _ [Y Bk v13 ((BR (xs.take k) key)++[x7.val]),blk b12 [.string x7.val] 9,blk b10 [.string x7.key,.string x7.val] 106] [Aa Ag (.slice A1 xs.length c2) xs]:=H
   refine Ae (V U U (A0 (z:=((k+1:Nat):Int)) U U U (by rw [AF (by omega) (by omega)];omega)) (Ad U (Ac ?_)))
   rw [←Xb hx8 h11] at H
   replace H:=H.k1
   exact Bl (s:=(k,undef)) (k+1,v13) ⟨rfl,rfl,rfl,rfl,rfl,rfl,trivial⟩ ⟨H,by (try dsimp only);omega⟩ (by (try dsimp only);omega)
  refine Aw (A_ (Z (Ae (V U U (A0 (z:=((k+1:Nat):Int)) U U U (by rw [AF (by omega) (by omega)];omega)) (Ad U (Ac ?_))))))
  rw [←Xa hx8 h11] at H
  replace H:=H.sel 2 [1] [0] rfl (by kernel_rfl)
  exact Bl (s:=(k,undef)) (k+1,l) ⟨rfl,rfl,rfl,rfl,rfl,rfl,trivial⟩ ⟨H,by (try dsimp only);omega⟩ (by (try dsimp only);omega)
 refine BM (AR (AR (BN (Z (Ab (Ae (Ah 2 U (Ac (Z (Ap (Aq U U ?_)))))))))))
 rw [List.take_of_length_le (show xs.length≤k by omega)] at H
 exact Am U H
theorem Xp (vxs:Value) (xs:List Al) (hb:xs.length≤1000000):
    Cn Tryz.prog 211 [vxs] [] [Aa Ag vxs xs] (fun v Bs=>Bs=[Y Bk v (Dm xs)]):=by
 intro w0 F0 H
 obtain ⟨A1,c2,rfl,hc3,hm4,hp5⟩:=H.fR 0 rfl
 refine enter Tryz.func211 U U (Nat.le_of_ble_eq_true U) (Ab (Ae (Ad U (Ac (Z ?_)))))
 replace H:Hd _ _ _ [] [Aa Ag (.slice A1 xs.length c2) xs]:=H
 refine Ab (Ae (Ad U (Ac (Z (Ab (Ab (Ae (Ad U (V U U (A8 U CH U) (Ad U (Ac (Z (AW ?_)))))))))))))
 replace H:=H.newnil Bk
 refine BT (σ:=Nat×Value) (fun (k,l)=>[(2,.slice none 0 0),(3,l),(6,.slice A1 xs.length c2),(7,.int .i64 ((xs.length:Nat):Int)),(8,.int .i64 ((k:Nat):Int))]) (fun (k,l) w=>(Hd w0 F0 w [Y Bk l ((xs.take k).map (·.key))] [Aa Ag (.slice A1 xs.length c2) xs])∧(k≤xs.length)) (fun (k,l)=>xs.length - k) (0,.slice none 0 0) ⟨rfl,rfl,rfl,rfl,rfl,trivial⟩ ⟨H,by (try dsimp only);omega⟩ ?_
 rintro ⟨k,l⟩ w ⟨H,hk⟩
 have hjt:((xs.take k).map (·.key)).length≤xs.length:=by simp;omega
 refine Ab (Ae (V U U (Bd U U U) (Ac (Z (Ab ?_)))))
 refine Az U (fun h6=>?_) (fun h6=>?_)
 ·refine Aw (Z (Ab (AW (Ab (Ae ?_)))))
  obtain ⟨x7,hx8⟩:∃ z9,xs[k]?=some z9:=⟨_,List.getElem?_eq_getElem (show k<xs.length by omega)⟩
  have th9:=H.thR 0 rfl hx8
  refine V U U (Ba (p:=AT A1+k*2) U BA U U (by omega) (by omega) th9 U) (V U U (Bu (cs:=[.string x7.key,.string x7.val]) U Cb U U (H.elsR 0 U hx8 U)) (Dr U U U CT H (fun b10 w H=>(Bo U U U Cb U U H U (Nat.le_of_ble_eq_true U) (fun u hu=>by simp [Value.cells] at hu;rcases hu with rfl|rfl<;>rfl) (fun w H=>?_)))))
  replace H:=H.h2 (A:=blk b10 [.string x7.key,.string x7.val] 106) (B:=Y Bk l ((xs.take k).map (·.key)))
  refine Ac (Z (Ae (Ad U (V U U (Aj U Fh U) (V U U (Ao U BV U (H.cellI 0 U U)) (BU (parts:=[(0,.tmp 14)]) (vs:=[.string x7.key]) (cs:=[.string x7.key]) U U U Hj IW U (by decide) (by decide) U U H (fun b11 w H=>?_)))))))
  replace H:=H.p2
  refine CG (xs:=(xs.take k).map (·.key)) (ys:=[x7.key]) U U U Hj IW U (by decide) U U H (by omega) (fun F hA hR=>Ch (hA _ (List.mem_of_getElem? (i:=0) U)) U (by decide) (AZ.flat_eq.2 U)) (fun v12 w H=>(Ad U (Ac (A_ (Z ?_)))))
  replace H:Hd _ _ _ [Y Bk v12 (((xs.take k).map (·.key))++[x7.key]),blk b11 [.string x7.key] 9,blk b10 [.string x7.key,.string x7.val] 106] [Aa Ag (.slice A1 xs.length c2) xs]:=H
  refine Ae (V U U (A0 (z:=((k+1:Nat):Int)) U U U (by rw [AF (by omega) (by omega)];omega)) (Ad U (Ac ?_)))
  rw [←UT hx8] at H
  replace H:=H.k1
  exact Bl (s:=(k,undef)) (k+1,v12) ⟨rfl,rfl,rfl,rfl,rfl,trivial⟩ ⟨H,by (try dsimp only);omega⟩ (by (try dsimp only);omega)
 refine BM (AR (AR (BN (Z (Ab (Ae (Ad U (sc (Zw l ((xs.take k).map (·.key)) (by first |omega|(rw [MT];omega))) H l0 U U (At Vx U U) ?_))))))))
 rintro v13 _ w rfl H
 replace H:=H.h1 (A:=Y Bk l (EZ ((xs.take k).map (·.key))))
 refine Ac (Z (Ab (Ae (Ad U (sc (S7 l (EZ ((xs.take k).map (·.key))) (by first |omega|(rw [MT];omega))) H l0 U U (At Vy U U) ?_)))))
 rintro v14 _ w rfl H
 replace H:=H.h1 (A:=Y Bk v14 (Ff (EZ ((xs.take k).map (·.key)))))
 refine Ad U (Ac (Z (Ap (Aq U U ?_))))
 rw [List.take_of_length_le (show xs.length≤k by omega)] at H
 exact Am U H
theorem UH (f:FuncId) (cap:List Value) (Ex:List SP) (p:Al→Bool) (hkf:AL Tryz.prog f) (hp:∀ x,Cn Tryz.prog f ([.agg #[.string x.key,.string x.val]]++cap) [] Ex (fun v Bs=>v=.bool (p x)∧Bs=[])) (v:Value) (xs:List Al):
    Cn Tryz.prog 206 [v,.func (.func f) #[] (cap).toArray] [] (Aa Ag v xs::Ex) (fun v Bs=>v=.int .i64 (E3 p xs)∧Bs=[]):=by
 intro w0 F0 H
 obtain ⟨A1,c2,rfl,hc3,hm4,hp5⟩:=H.fR 0 rfl
 refine enter Tryz.func206 U U (Nat.le_of_ble_eq_true U) (Ab (Ae (Ad U (Ac (Z ?_)))))
 replace H:Hd _ _ _ [] (Aa Ag (.slice A1 xs.length c2) xs::Ex):=H
 refine Ab (Ab (Ae (Ad U (V U U (A8 U CH U) (Ad U (Ac (Z (AW (BT (σ:=Nat) (fun k=>[(0,.slice A1 xs.length c2),(1,.func (.func f) #[] (cap).toArray),(7,.int .i64 ((xs.length:Nat):Int)),(8,.int .i64 ((k:Nat):Int))]) (fun k w=>(Hd w0 F0 w [] (Aa Ag (.slice A1 xs.length c2) xs::Ex))∧(k≤xs.length)∧(∀ y∈xs.take k,p y=false)) (fun k=>xs.length - k) 0 ⟨rfl,rfl,rfl,rfl,trivial⟩ ⟨H,by omega,by simp⟩ ?_)))))))))
 rintro k w ⟨H,hk,hn⟩
 refine Ab (Ae (V U U (Bd U U U) (Ac (Z (Ab ?_)))))
 refine Az U (fun h6=>?_) (fun h6=>?_)
 ·refine Aw (Z (Ab (AW (Ab (Ae (Ah 2 U (Ac (Z (Ab (Ae (Ah 3 U ?_)))))))))))
  obtain ⟨x7,hx8⟩:∃ z9,xs[k]?=some z9:=⟨_,List.getElem?_eq_getElem (show k<xs.length by omega)⟩
  have th9:=H.thR 0 rfl hx8
  refine V U U (Ba (p:=AT A1+k*2) U BA U U (by omega) (by omega) th9 U) (V U U (Bu (cs:=[.string x7.key,.string x7.val]) U Cb U U (H.elsR 0 U hx8 U)) (sc (hp x7) H (fun S hS F hA hR=>hR S (List.mem_cons_of_mem _ hS)) U U (FJ (vs:=[.agg #[.string x7.key,.string x7.val]]) (fs:=#[]) (cs:=cap.toArray) hkf U U U) ?_))
  rintro _ _ w ⟨rfl,rfl⟩ H
  refine Ac (Z ?_)
  refine Dv (b:=p x7) U (fun h10=>?_) (fun h10=>?_)
  ·exact Ab (Ae (Ah 2 U (Ac (Z (Ap (Bb (AA (AA (Bb (AA (Aq U U (Am ⟨by rw [J0 hn hx8 h10]<;>rfl,rfl⟩ H))))))))))))
  exact Aw (A_ (Z (Ae (V U U (A0 (z:=((k+1:Nat):Int)) U U U (by rw [AF (by omega) (by omega)];omega)) (Ad U (Ac (Bl (s:=k) (k+1) ⟨rfl,rfl,rfl,rfl,trivial⟩ ⟨H,by omega,KP hn hx8 h10⟩ (by (try dsimp only);omega))))))))
 refine BM (AR (AR (BN (Z (Ab (Ae (Ad U (Ac (Z (Ap (Aq U U ?_)))))))))))
 have hn2:∀ y∈xs,p y=false:=by rw [←Hm (xs:=xs) (k:=k) (by omega)];exact hn
 exact Am ⟨by rw [I8 hn2]<;>rfl,rfl⟩ H
theorem NY (f:FuncId) (cap:List Value) (Ex:List SP) (p:Al→Bool) (hkf:AL Tryz.prog f) (hp:∀ x,Cn Tryz.prog f ([.agg #[.string x.key,.string x.val]]++cap) [] Ex (fun v Bs=>v=.bool (p x)∧Bs=[])) (v:Value) (xs:List Al):
    Cn Tryz.prog 173 [v,.func (.func f) #[] (cap).toArray] [] (Aa Ag v xs::Ex) (fun v Bs=>v=.bool (xs.any p)∧Bs=[]):=by
 intro w0 F0 H
 refine enter Tryz.func173 U U (Nat.le_of_ble_eq_true U) (Ab (Ae (Ad U (Ac (Z (Ab (Ae (Ah 2 U (sc (UH f cap Ex p hkf hp v xs) H Kg U U (At Vj U U) ?_)))))))))
 rintro _ _ w ⟨rfl,rfl⟩ H
 exact V U U (Cw U U U) (Ad U (Ac (Z (Ap (Aq U U (Am ⟨congrArg Value.bool (J1 p xs),rfl⟩ H))))))
theorem Wv (x:Al):
    Cn Tryz.prog 174 [.agg #[.string x.key,.string x.val]] [] [] (fun v Bs=>v=.bool (!decide (C9 x))∧Bs=[]):=by
 intro w0 F0 H
 refine enter Tryz.func174 U U (Nat.le_of_ble_eq_true U) (Ab (Ae (Cy U U U U H (fun b1 w H=>(Ad U (Ac (Z ?_)))))))
 replace H:Hd _ _ _ [blk b1 [.string x.key,.string x.val] 106] []:=H
 refine Ab (Ae (V U U (Aj U Fh U) (V U U (Ao U BV U (H.cellI 0 U U)) (V U U (Dn U Ct U) (V U U (Ca U U U) (Ad U ?_))))))
 refine AU (d:=7) U (fun h2=>?_) (fun h2=>?_)
 ·refine Ah 6 U (Ac (Z (Ap (Aq U U ?_))))
  replace H:=H.nil
  exact Am ⟨by rw [decide_eq_false (by unfold C9;omega)];rfl,rfl⟩ H
 refine V U U (Aj U Ih U) (V U U (Ao U BV U (H.cellI 0 U U)) (V U U (Dn U Ct U) (V U U (Ca U U U) (Ah 2 U (Ac (Z (Ap (Aq U U ?_))))))))
 replace H:=H.nil
 exact Am ⟨congrArg Value.bool (by rw [←decide_not];exact decide_eq_decide.2 (by unfold C9;omega)),rfl⟩ H
theorem Qa (vxs:Value) (xs:List Al):
    Cn Tryz.prog 120 [vxs] [] [Aa Ag vxs xs] (fun v Bs=>v=.bool (decide (G5 xs))∧Bs=[]):=by
 intro w0 F0 H
 obtain ⟨A1,c2,rfl,hc3,hm4,hp5⟩:=H.fR 0 rfl
 refine enter Tryz.func120 U U (Nat.le_of_ble_eq_true U) (Ab (Ae (Ad U (Ac (Z ?_)))))
 replace H:Hd _ _ _ [] [Aa Ag (.slice A1 xs.length c2) xs]:=H
 refine Ab (Ae (Ad U (sc (NY 174 [] [] (fun p=>!decide (C9 p)) U_ (fun x=>Wv x) (.slice A1 xs.length c2) xs) H (lR 0 U l0) U U (At Pa U U) ?_)))
 rintro _ _ w ⟨rfl,rfl⟩ H
 exact V U U (Ep U U U) (Ad U (Ac (Z (Ap (Aq U U (Am ⟨congrArg Value.bool (Wx xs),rfl⟩ H))))))
theorem Ty {told:List Al} {k v:ByteArray} (h:told.length≤40):(DP told k v).2.length≤40:=by
 unfold DP
 split
 ·exact h
 ·split
  ·exact h
  ·simp only [List.length_append,List.length_cons,List.length_nil];omega
theorem PW (m:VM):(G7 m).1.told=m.told:=by
 rw [PX]
def TL (r:VM×Int):Prop:=r.1.told.length≤40
theorem DY {c:Prop} [Decidable c] {x y:VM×Int} (hx:TL x) (hy:TL y):TL (if c then x else y):=by
 split
 ·exact hx
 ·exact hy
theorem R4 {D:Bg} {key:ByteArray} {m:VM} {i:BG} {v:List AP} (h:m.told.length≤40):(B4 D key m i v).1.told.length≤40:=by
 have hn:TL (G7 m):=by unfold TL;rw [PW];exact h
 have h20:TL (if (v.getD 0 Cz).n≠0 then {m with pos:=i.a} else m,0):=by
  unfold TL
  dsimp only
  split<;>exact h
 exact DY h (DY h (DY h (DY h (DY h (DY h (DY hn (DY h (DY h (DY h (DY h (DY h (DY h (DY h (DY h (DY h (DY h20 (DY h (DY h (DY (Ty h) h)))))))))))))))))))
theorem N8 {D:Bg} {key:ByteArray} {m:VM} {i:BG} (h:m.told.length≤40):(BJ D key m i).1.told.length≤40:=by
 unfold BJ
 split
 ·exact h
 ·exact R4 h
theorem Qm {D:Bg} {p:List BG} {key:ByteArray}:∀ (k:Nat) {m:VM},m.told.length≤40→(CC D p key k m).1.told.length≤40
 |0,m,h=>by
  unfold CC
  split<;>exact h
 |k+1,m,h=>by
  unfold CC
  split
  ·split
   ·split
    ·exact N8 h
    ·exact Qm k (N8 h)
   ·exact h
  ·exact h
theorem Q8 (D:Bg) (p:List BG) (key:ByteArray) (vals:List ByteArray) (fuel:Int):(Bz D p key vals fuel).1.length≤40:=by
 unfold Bz
 split
 ·exact Nat.zero_le _
 ·split
  ·exact Nat.zero_le _
  ·exact Qm _ (Nat.zero_le _)
def Jp (k:ByteArray) (l:List Al):Bool:=l.any fun x=>decide (x.key≠k)
def EC (D:Bg) (p:List BG) (ps:List Al) (fuel:Int) (own:Bool):List ByteArray→List Al→List Al×Int
 |[],out=>(out,0)
 |k::ks,out=>
  if (Bz D p k (BR ps k) fuel).2≠0 then ([],(Bz D p k (BR ps k) fuel).2)
  else if own=true∧Jp k (Bz D p k (BR ps k) fuel).1=true then ([],6)
  else if 40<out.length+(Bz D p k (BR ps k) fuel).1.length then ([],5)
  else EC D p ps fuel own ks (out++(Bz D p k (BR ps k) fuel).1)
def BX (D:Bg) (p:List BG) (ps:List Al) (fuel:Int) (own:Bool):List Al×Int:=EC D p ps fuel own (Dm ps) []
def FI (D:Bg) (p:List BG) (ps:List Al) (fuel:Int):List Al×Int:=if p.length=0 then (srt ps,0) else BX D p ps fuel true
section
variable {D:Bg} {p:List BG} {ps:List Al} {fuel:Int} {own:Bool} {ks:List ByteArray} {k:ByteArray} {out:List Al} {i:Nat}
theorem Ul (h:ks.length≤i):EC D p ps fuel own (ks.drop i) out=(out,0):=by
 rw [List.drop_eq_nil_of_le h];rfl
theorem Un (hk:ks[i]?=some k) (h:(Bz D p k (BR ps k) fuel).2≠0):EC D p ps fuel own (ks.drop i) out=([],(Bz D p k (BR ps k) fuel).2):=by
 rw [Fg hk];exact if_pos h
theorem Um (hk:ks[i]?=some k) (h:¬ (Bz D p k (BR ps k) fuel).2≠0) (h2:own=true) (h3:Jp k (Bz D p k (BR ps k) fuel).1=true):EC D p ps fuel own (ks.drop i) out=([],6):=by
 rw [Fg hk];unfold EC;rw [if_neg h,if_pos ⟨h2,h3⟩]
theorem OH (hk:ks[i]?=some k) (h:¬ (Bz D p k (BR ps k) fuel).2≠0) (h2:¬ (own=true∧Jp k (Bz D p k (BR ps k) fuel).1=true)) (h3:40<out.length+(Bz D p k (BR ps k) fuel).1.length):EC D p ps fuel own (ks.drop i) out=([],5):=by
 rw [Fg hk];unfold EC;rw [if_neg h,if_neg h2,if_pos h3]
theorem OI (hk:ks[i]?=some k) (h:¬ (Bz D p k (BR ps k) fuel).2≠0) (h2:¬ (own=true∧Jp k (Bz D p k (BR ps k) fuel).1=true)) (h3:¬ 40<out.length+(Bz D p k (BR ps k) fuel).1.length):
  EC D p ps fuel own (ks.drop (i+1)) (out++(Bz D p k (BR ps k) fuel).1)=EC D p ps fuel own (ks.drop i) out:=by
 rw [Fg hk];conv=>rhs;unfold EC
 rw [if_neg h,if_neg h2,if_neg h3]
end
theorem Lp (D:Bg) (p:List BG) (ps:List Al) (fuel:Int) (own:Bool):∀ (ks:List ByteArray) (out:List Al),out.length≤40→(EC D p ps fuel own ks out).1.length≤40
 |[],out,h=>h
 |k::ks,out,h=>by
  unfold EC
  split
  ·exact Nat.zero_le _
  ·split
   ·exact Nat.zero_le _
   ·split
    ·exact Nat.zero_le _
    ·exact Lp D p ps fuel own ks _ (by simp only [List.length_append];omega)
def DA:List BG:=[⟨6,0,⟨#[]⟩⟩,⟨7,0,⟨#[]⟩⟩,⟨4,0,⟨#[]⟩⟩,⟨23,0,⟨#[]⟩⟩]
theorem C8:∀ i∈DA,Ax i.a:=by
 intro i hi
 simp only [DA,List.mem_cons,List.not_mem_nil,or_false] at hi
 rcases hi with rfl|rfl|rfl|rfl<;>exact Jf
theorem Tv (x:Al) (kb:Nat) (key:ByteArray):
    Cn Tryz.prog 213 [.agg #[.string x.key,.string x.val],.pointer (some ⟨kb,0,none⟩)] [] [blk kb [.string key] 9] (fun v Bs=>v=.bool (decide (x.key≠key))∧Bs=[]):=by
 intro w0 F0 H
 refine enter Tryz.func213 U U (Nat.le_of_ble_eq_true U) (Ab (Ae (Cy U U U U H (fun b1 w H=>(Ad U (Ac (Z ?_)))))))
 replace H:Hd _ _ _ [blk b1 [.string x.key,.string x.val] 106] [blk kb [.string key] 9]:=H
 refine Ab (Ae (V U U (Aj U Fh U) (V U U (Ao U BV U (H.cellI 0 U U)) (V U U (Ao U BV U (H.cellRI 0 U U)) (V U U (MH U U U) (Ad U (Ac (Z (Ap (Aq U U ?_))))))))))
 replace H:=H.nil
 exact Am ⟨rfl,rfl⟩ H
theorem Oa (vp:Value) (p:List BG) (vps:Value) (ps:List Al) (fuel:Int) (own:Bool) (hpa:∀ i∈p,Ax i.a) (hfu:Ax fuel) (hb:ps.length≤1000000):
    Cn Tryz.prog 177 [vp,vps,.int .i64 fuel,.bool own] [] [Aa Af vp p,Aa Ag vps ps,gl] (fun v Bs=>∃ u,v=.tuple #[u,.int .i64 (BX dg p ps fuel own).2]∧Bs=[Y Ag u (BX dg p ps fuel own).1]):=by
 intro w0 F0 H
 obtain ⟨A1,c2,rfl,hc3,hm4,hp5⟩:=H.fR 0 rfl
 obtain ⟨A6,c7,rfl,hc8,hm9,hp10⟩:=H.fR 1 rfl
 refine enter Tryz.func177 U U (Nat.le_of_ble_eq_true U) (Ab (Ae (Ah 2 U (Ac (Z ?_)))))
 replace H:Hd _ _ _ [] [Aa Af (.slice A1 p.length c2) p,Aa Ag (.slice A6 ps.length c7) ps,gl]:=H
 refine Ab (Ae (Ad U (Ac (Z (Ab (Ae (sc ZT H l0 U U (At Vl U U) ?_)))))))
 rintro _ _ w ⟨b11,rfl,rfl⟩ H
 replace H:=H.h1 (A:=blk b11 [.int .i64 0,.int .i64 0,.int .i64 0,.int .i64 0,.int .i64 0,.int .i64 0,.int .i64 0,.int .i64 0] 322)
 refine Ad U (Ac (Z (Ab (Ab (Ae (Ad U (sc (Xp (.slice A6 ps.length c7) ps (by first |omega|decide)) H (lR 1 U l0) U U (At Vm U U) ?_)))))))
 rintro v12 _ w rfl H
 obtain ⟨A13,c14,rfl,hc15,hm16,hp17⟩:=H.fA 0 rfl
 refine V U U (A8 U RJ U) (Ad U (Ac (Z ?_)))
 replace H:Hd _ _ _ [Y Bk (.slice A13 ((Dm ps).length) c14) (Dm ps),blk b11 [.int .i64 0,.int .i64 0,.int .i64 0,.int .i64 0,.int .i64 0,.int .i64 0,.int .i64 0,.int .i64 0] 322] [Aa Af (.slice A1 p.length c2) p,Aa Ag (.slice A6 ps.length c7) ps,gl]:=H
 refine AW ?_
 replace H:=H.newnil Ag
 refine BT (σ:=Nat×Value×List Al) (fun (i,q,out)=>[(0,.slice A1 p.length c2),(1,.slice A6 ps.length c7),(2,.int .i64 fuel),(3,.bool own),(10,q),(11,.pointer (some ⟨b11,0,none⟩)),(18,.slice A13 ((Dm ps).length) c14),(19,.int .i64 (((Dm ps).length:Nat):Int)),(20,.int .i64 ((i:Nat):Int))]) (fun (i,q,out) w=>(Hd w0 F0 w [Y Ag q out,Y Bk (.slice A13 ((Dm ps).length) c14) (Dm ps),blk b11 [.int .i64 (out.length:Int),.int .i64 0,.int .i64 0,.int .i64 0,.int .i64 0,.int .i64 0,.int .i64 0,.int .i64 0] 322] [Aa Af (.slice A1 p.length c2) p,Aa Ag (.slice A6 ps.length c7) ps,gl])∧(i≤(Dm ps).length)∧(EC dg p ps fuel own ((Dm ps).drop i) out=BX dg p ps fuel own)∧(out.length≤40)) (fun (i,q,out)=>(Dm ps).length - i) (0,.slice none 0 0,[]) ⟨rfl,rfl,rfl,rfl,rfl,rfl,rfl,rfl,rfl,trivial⟩ ⟨H,Nat.zero_le _,rfl,Nat.zero_le _⟩ ?_
 rintro ⟨i,q,out⟩ w ⟨H,hi,hgo,ho⟩
 have hkl:=UU ps
 refine Ab (Ae (V U U (Bd U U U) (Ac (Z (Ab ?_)))))
 refine Az U (fun h18=>?_) (fun h18=>?_)
 ·refine Aw (Z (Ab (AW (Ab (Ae ?_)))))
  obtain ⟨x19,hx20⟩:∃ z9,(Dm ps)[i]?=some z9:=⟨_,List.getElem?_eq_getElem (show i<(Dm ps).length by omega)⟩
  have th21:=H.thA 1 rfl hx20
  refine V U U (Ba (p:=AT A13+i*1) U Hj U U (by omega) (by omega) th21 U) (V U U (Ao U BV U (H.elA 1 U hx20 (q:=0) U U)) (Dr U U U IW H (fun b22 w H=>(Bo U U U BV U U H U (Nat.le_of_ble_eq_true U) (fun u hu=>by simp [Value.cells] at hu;subst hu;rfl) (fun w H=>?_)))))
  replace H:=H.h4 (A:=blk b22 [.string x19] 9) (B:=Y Ag q out) (D:=blk b11 [.int .i64 (out.length:Int),.int .i64 0,.int .i64 0,.int .i64 0,.int .i64 0,.int .i64 0,.int .i64 0,.int .i64 0] 322)
  refine Ac (Z (Ab (BP (.e 0 (.e 1 (.e 2 (.e 3 (.e 5 (.m 4 (.m 6 (.e 7 (.e 8 (.e 9 (.e 10 (.e 11 .z)))))))))))) (fun w=>∃ Ar,Hd w0 F0 w (blk b22 [.string x19] 9::Y Ag q out::Y Bk (.slice A13 ((Dm ps).length) c14) (Dm ps)::blk b11 [.int .i64 (out.length:Int),.int .i64 0,.int .i64 0,.int .i64 0,.int .i64 0,.int .i64 0,.int .i64 0,.int .i64 0] 322::Ar) [Aa Af (.slice A1 p.length c2) p,Aa Ag (.slice A6 ps.length c7) ps,gl]) mo (by kernel_rfl) (fun w H=>⟨_,H⟩) H (fun w H=>(Au U (An U U U (fun w ⟨Ar,H⟩=>Ao U BV U (H.cellI 0 U U)) (Au U (An U U U (fun w ⟨Ar,H⟩=>Ao U BV U (H.cellI 0 U U)) (Au U (AK U (sc (Xq (.slice A6 ps.length c7) ps x19 (by first |omega|decide)) H (lR 1 U l0) U U (At Vn U U) ?_)))))))))))
  rintro v23 _ w rfl H
  replace H:=H.h1 (A:=Y Bk v23 (BR ps x19))|>.p4|>.p4|>.p4|>.p4
  refine AH ⟨_,H⟩ (AK U (sc (RS (.slice A1 p.length c2) p x19 v23 (BR ps x19) fuel hpa hfu) H (lR 0 U (lA 4 U BE (lR 2 U l0))) U U (At Pb U U) ?_))
  rintro _ _ w ⟨u24,rfl,rfl⟩ H
  replace H:=H.h1 (A:=Y Ag u24 ((Bz dg p x19 (BR ps x19) fuel).1))
  have hrt:=Q8 dg p x19 (BR ps x19) fuel
  replace H:=H.p4.p4.p4.p4
  refine AH ⟨_,H⟩ (Au U (Au U (Au U (Au U (Au U (BH (Z (Ab (AW (Ab (Ae (Ad U (V U U (CN U U U) (Ad U (Ac (Z ?_))))))))))))))))
  refine Az U (fun h25=>?_) (fun h25=>?_)
  ·refine Ab (Ae (Ah 3 U (Ac (Z (Ap (Bb (AA (Bb (AA (AA (Bb (AA (Cm U U U ?_)))))))))))))
   have e:BX dg p ps fuel own=([],(Bz dg p x19 (BR ps x19) fuel).2):=hgo.symm.trans (Un hx20 h25)
   replace H:=H.nil|>.newnil Ag
   exact Am ⟨_,by rw [e]<;>rfl,by rw [e]<;>rfl⟩ H
  refine Ab (Ae (Ah 2 U ?_))
  refine Es (d:=40) (b:=own) U (fun h26=>?_) (fun h26=>?_)
  ·refine Ad U (V U U (Hb (fs:=#[]) (cs:=#[.pointer (some ⟨b22,0,none⟩)]) U U U) (sc (NY 213 [.pointer (some ⟨b22,0,none⟩)] [blk b22 [.string x19] 9] (fun y=>decide (y.key≠x19)) Vo (fun y=>Tv y b22 x19) u24 (Bz dg p x19 (BR ps x19) fuel).1) H (lA 4 U BE (lA 0 U (fun _ h=>h) l0)) U U (At Pa U U) ?_))
   rintro _ _ w ⟨rfl,rfl⟩ H
   refine Ah 2 U (Ac (Z ?_))
   refine Dv (b:=Jp x19 (Bz dg p x19 (BR ps x19) fuel).1) U (fun h27=>?_) (fun h27=>?_)
   ·refine Ab (Ae (Ah 2 U (Ac (Z (Ap (Bb (AA (Bb (AA (AA (Bb (AA (Cm U U U ?_)))))))))))))
    have e:BX dg p ps fuel own=([],6):=hgo.symm.trans (Um hx20 h25 h26 h27)
    replace H:=H.nil|>.newnil Ag
    replace H:Hd _ _ _ [Y Ag (.slice none 0 0) []] [Aa Af (.slice A1 p.length c2) p,Aa Ag (.slice A6 ps.length c7) ps,gl]:=H
    exact Am ⟨_,by rw [e]<;>rfl,by rw [e]<;>rfl⟩ H
   refine Ab (Ae (Ah 2 U ?_))
   obtain ⟨A28,c29,rfl,hc30,hm31,hp32⟩:=H.fA 4 rfl
   refine V U U (A8 U CH U) ?_
   replace H:=H.p3
   replace H:Hd _ _ _ [blk b11 [.int .i64 (out.length:Int),.int .i64 0,.int .i64 0,.int .i64 0,.int .i64 0,.int .i64 0,.int .i64 0,.int .i64 0] 322,blk b22 [.string x19] 9,Y Ag q out,Y Bk (.slice A13 ((Dm ps).length) c14) (Dm ps),Y Ag (.slice A28 (((Bz dg p x19 (BR ps x19) fuel).1).length) c29) ((Bz dg p x19 (BR ps x19) fuel).1),Y Bk v23 (BR ps x19)] [Aa Af (.slice A1 p.length c2) p,Aa Ag (.slice A6 ps.length c7) ps,gl]:=H
   refine sc (RB b11 (out.length:Int) 0 0 0 0 0 0 0 ((((Bz dg p x19 (BR ps x19) fuel).1).length:Nat):Int) (by omega) (by omega)) H l0 U U (At Pi U U) ?_
   rintro _ _ w ⟨rfl,rfl⟩ H
   replace H:=H.h1 (A:=blk b11 [.int .i64 (min ((out.length:Int)+((((Bz dg p x19 (BR ps x19) fuel).1).length:Nat):Int)) 1099511627776),.int .i64 0,.int .i64 0,.int .i64 0,.int .i64 0,.int .i64 0,.int .i64 0,.int .i64 0] 322)
   refine V U U (Ca U U U) (Ad U (Ac (Z ?_)))
   refine Az U (fun h33=>?_) (fun h33=>?_)
   ·refine Ab (Ae (Ah 2 U (Ac (Z (Ap (Bb (AA (Bb (AA (AA (Bb (AA (Cm U U U ?_)))))))))))))
    have e:BX dg p ps fuel own=([],5):=hgo.symm.trans (OH hx20 h25 (fun h=>by rw [h.2] at h27;cases h27) (by omega))
    replace H:=H.nil|>.newnil Ag
    exact Am ⟨_,by rw [e]<;>rfl,by rw [e]<;>rfl⟩ H
   refine Aw (A_ (Z (Ae (Ah 2 U ?_))))
   replace H:=H.p2
   refine CG (xs:=out) (ys:=(Bz dg p x19 (BR ps x19) fuel).1) U U U BA CT U (by decide) U U H (by omega) (fun F hA hR=>BE F (hA _ (List.mem_of_getElem? (i:=3) U))) (fun v34 w H=>?_)
   replace H:=H.h1 (A:=Y Ag v34 (out++((Bz dg p x19 (BR ps x19) fuel).1)))
   refine Ad U (Ac (A_ (Z (Ae (V U U (A0 (z:=((i+1:Nat):Int)) U U U (by rw [AF (by omega) (by omega)];omega)) (Ad U (Ac ?_)))))))
   replace H:=H.p3.p1.k3
   have hl2:((out++(Bz dg p x19 (BR ps x19) fuel).1).length:Int)=min ((out.length:Int)+((((Bz dg p x19 (BR ps x19) fuel).1).length:Nat):Int)) 1099511627776:=by rw [List.length_append];omega
   replace H:Hd w0 F0 w [Y Ag v34 (out++((Bz dg p x19 (BR ps x19) fuel).1)),Y Bk (.slice A13 ((Dm ps).length) c14) (Dm ps),blk b11 [.int .i64 ((out++(Bz dg p x19 (BR ps x19) fuel).1).length:Int),.int .i64 0,.int .i64 0,.int .i64 0,.int .i64 0,.int .i64 0,.int .i64 0,.int .i64 0] 322] [Aa Af (.slice A1 p.length c2) p,Aa Ag (.slice A6 ps.length c7) ps,gl]:=by rw [hl2];exact H
   have hg2:=(OI (out:=out) hx20 h25 (fun h=>by rw [h.2] at h27;cases h27) (by omega)).trans hgo
   have ho2:(out++(Bz dg p x19 (BR ps x19) fuel).1).length≤40:=by rw [List.length_append];omega
   exact Bl (s:=(i,undef,out)) (i+1,v34,out++(Bz dg p x19 (BR ps x19) fuel).1) ⟨rfl,rfl,rfl,rfl,rfl,rfl,rfl,rfl,rfl,trivial⟩ ⟨H,by (try dsimp only);omega,hg2,ho2⟩ (by (try dsimp only);omega)
  refine Ah 5 U (Ac (Z (B9 U (Ab (Ae (Ah 2 U ?_))))))
  obtain ⟨A35,c36,rfl,hc37,hm38,hp39⟩:=H.fA 4 rfl
  refine V U U (A8 U CH U) ?_
  replace H:=H.p3
  refine sc (RB b11 (out.length:Int) 0 0 0 0 0 0 0 ((((Bz dg p x19 (BR ps x19) fuel).1).length:Nat):Int) (by omega) (by omega)) H l0 U U (At Pi U U) ?_
  rintro _ _ w ⟨rfl,rfl⟩ H
  replace H:=H.h1 (A:=blk b11 [.int .i64 (min ((out.length:Int)+((((Bz dg p x19 (BR ps x19) fuel).1).length:Nat):Int)) 1099511627776),.int .i64 0,.int .i64 0,.int .i64 0,.int .i64 0,.int .i64 0,.int .i64 0,.int .i64 0] 322)
  refine V U U (Ca U U U) (Ad U (Ac (Z ?_)))
  refine Az U (fun h40=>?_) (fun h40=>?_)
  ·refine Ab (Ae (Ah 2 U (Ac (Z (Ap (Bb (AA (Bb (AA (AA (Bb (AA (Cm U U U ?_)))))))))))))
   have e:BX dg p ps fuel own=([],5):=hgo.symm.trans (OH hx20 h25 (fun h=>by rw [h.1] at h26;cases h26) (by omega))
   replace H:=H.nil|>.newnil Ag
   exact Am ⟨_,by rw [e]<;>rfl,by rw [e]<;>rfl⟩ H
  refine Aw (A_ (Z (Ae (Ah 2 U ?_))))
  replace H:=H.p2
  refine CG (xs:=out) (ys:=(Bz dg p x19 (BR ps x19) fuel).1) U U U BA CT U (by decide) U U H (by omega) (fun F hA hR=>BE F (hA _ (List.mem_of_getElem? (i:=3) U))) (fun v41 w H=>?_)
  replace H:=H.h1 (A:=Y Ag v41 (out++((Bz dg p x19 (BR ps x19) fuel).1)))
  refine Ad U (Ac (A_ (Z (Ae (V U U (A0 (z:=((i+1:Nat):Int)) U U U (by rw [AF (by omega) (by omega)];omega)) (Ad U (Ac ?_)))))))
  replace H:=H.p3.p1.k3
  have hl2:((out++(Bz dg p x19 (BR ps x19) fuel).1).length:Int)=min ((out.length:Int)+((((Bz dg p x19 (BR ps x19) fuel).1).length:Nat):Int)) 1099511627776:=by rw [List.length_append];omega
  replace H:Hd w0 F0 w [Y Ag v41 (out++((Bz dg p x19 (BR ps x19) fuel).1)),Y Bk (.slice A13 ((Dm ps).length) c14) (Dm ps),blk b11 [.int .i64 ((out++(Bz dg p x19 (BR ps x19) fuel).1).length:Int),.int .i64 0,.int .i64 0,.int .i64 0,.int .i64 0,.int .i64 0,.int .i64 0,.int .i64 0] 322] [Aa Af (.slice A1 p.length c2) p,Aa Ag (.slice A6 ps.length c7) ps,gl]:=by rw [hl2];exact H
  have hg2:=(OI (out:=out) hx20 h25 (fun h=>by rw [h.1] at h26;cases h26) (by omega)).trans hgo
  have ho2:(out++(Bz dg p x19 (BR ps x19) fuel).1).length≤40:=by rw [List.length_append];omega
  exact Bl (s:=(i,undef,out)) (i+1,v41,out++(Bz dg p x19 (BR ps x19) fuel).1) ⟨rfl,rfl,rfl,rfl,rfl,rfl,rfl,rfl,rfl,trivial⟩ ⟨H,by (try dsimp only);omega,hg2,ho2⟩ (by (try dsimp only);omega)
 refine BM (AR (AR (BN (Z (Ab (Ae (Ah 3 U (Ac (Z (Ap (Cm U U U ?_)))))))))))
 replace H:=H.k1
 have e:BX dg p ps fuel own=(out,0):=hgo.symm.trans (Ul (by omega))
 replace H:=H.h1 (A:=Y Ag q out)
 exact Am ⟨_,by rw [e]<;>rfl,by rw [e]<;>rfl⟩ H
theorem OF (vp:Value) (p:List BG) (vps:Value) (ps:List Al) (fuel:Int) (hpa:∀ i∈p,Ax i.a) (hfu:Ax fuel) (hb:ps.length≤1000000):
    Cn Tryz.prog 137 [vp,vps,.int .i64 fuel] [] [Aa Af vp p,Aa Ag vps ps,gl] (fun v Bs=>∃ u,v=.tuple #[u,.int .i64 (BX dg p ps fuel false).2]∧Bs=[Y Ag u (BX dg p ps fuel false).1]):=by
 intro w0 F0 H
 refine enter Tryz.func137 U U (Nat.le_of_ble_eq_true U) (Ab (Ae (Ah 2 U (Ac (Z (Ab (Ae (Ah 3 U (sc (Oa vp p vps ps fuel false hpa hfu hb) H (lR 0 U (lR 1 U (lR 2 U l0))) U U (At Pc U U) ?_)))))))))
 rintro _ _ w ⟨u1,rfl,rfl⟩ H
 refine Ah 4 U (Ac (Z ?_))
 replace H:Hd _ _ _ [Y Ag u1 ((BX dg p ps fuel false).1)] [Aa Af vp p,Aa Ag vps ps,gl]:=H
 exact Ap (Cm U U U (Am ⟨_,rfl,rfl⟩ H))
theorem Ud (vp:Value) (p:List BG) (vps:Value) (ps:List Al) (fuel:Int) (hpa:∀ i∈p,Ax i.a) (hfu:Ax fuel) (hb:ps.length≤1000000):
    Cn Tryz.prog 125 [vp,vps,.int .i64 fuel] [] [Aa Af vp p,Aa Ag vps ps,gl] (fun v Bs=>∃ u,v=.tuple #[u,.int .i64 (FI dg p ps fuel).2]∧Bs=[Y Ag u (FI dg p ps fuel).1]):=by
 intro w0 F0 H
 obtain ⟨A1,c2,rfl,hc3,hm4,hp5⟩:=H.fR 0 rfl
 obtain ⟨A6,c7,rfl,hc8,hm9,hp10⟩:=H.fR 1 rfl
 refine enter Tryz.func125 U U (Nat.le_of_ble_eq_true U) (Ab (Ae (Ah 2 U (Ac (Z ?_)))))
 replace H:Hd _ _ _ [] [Aa Af (.slice A1 p.length c2) p,Aa Ag (.slice A6 ps.length c7) ps,gl]:=H
 refine Ab (Ab (Ae (Ad U (V U U (A8 U FF U) (V U U (Bv U U U) (Ac (Z ?_)))))))
 refine Az U (fun h11=>?_) (fun h11=>?_)
 ·refine Ab (Ae (Ad U (sc (My (.slice A6 ps.length c7) ps (by first |omega|decide)) H (lR 1 U l0) U U (At L2 U U) ?_)))
  rintro v12 _ w rfl H
  replace H:=H.h1 (A:=Y Ag v12 (srt ps))
  refine Ah 2 U (Ac (Z (Ap (AA (Cm U U U ?_)))))
  have e:FI dg p ps fuel=(srt ps,0):=if_pos (by omega)
  exact Am ⟨_,by rw [e]<;>rfl,by rw [e]<;>rfl⟩ H
 refine Aw (Z (Ab (Ae (Ah 3 U (sc (Oa (.slice A1 p.length c2) p (.slice A6 ps.length c7) ps fuel true hpa hfu hb) H (lR 0 U (lR 1 U (lR 2 U l0))) U U (At Pc U U) ?_)))))
 rintro _ _ w ⟨u13,rfl,rfl⟩ H
 replace H:=H.h1 (A:=Y Ag u13 ((BX dg p ps fuel true).1))
 refine Ah 4 U (Ac (Z (Ap (Cm U U U ?_))))
 have e:FI dg p ps fuel=BX dg p ps fuel true:=if_neg (by omega)
 exact Am ⟨_,by rw [e]<;>rfl,by rw [e]<;>rfl⟩ H
theorem Im (vxs:Value) (xs:List BG):
    Cn Tryz.prog 87 [vxs] [] [Aa Af vxs xs] (fun v Bs=>v=.bool (ER xs)∧Bs=[]):=by
 intro w0 F0 H
 obtain ⟨A1,c2,rfl,hc3,hm4,hp5⟩:=H.fR 0 rfl
 refine enter Tryz.func87 U U (Nat.le_of_ble_eq_true U) (Ab (Ae (Ad U (Ac (Z ?_)))))
 replace H:Hd _ _ _ [] [Aa Af (.slice A1 xs.length c2) xs]:=H
 refine Ab (Ab (Ae (Ad U (Ac (Z (AW (BT (σ:=Nat) (fun k=>[(0,.slice A1 xs.length c2),(3,.int .i64 ((k:Nat):Int))]) (fun k w=>(Hd w0 F0 w [] [Aa Af (.slice A1 xs.length c2) xs])∧(k≤xs.length)∧(∀ y∈xs.take k,y.s.size≤100)) (fun k=>xs.length - k) 0 ⟨rfl,rfl,trivial⟩ ⟨H,by omega,by simp⟩ ?_)))))))
 rintro k w ⟨H,hk,hn⟩
 refine Ab (Ab (Ae (Ah 2 U (V U U (A8 U FF U) (V U U (Bd U U U) (Ad U ?_))))))
 refine AU (d:=8) U (fun h6=>?_) (fun h6=>?_)
 ·refine Ad U (V U U (A8 U FF U) (V U U (Ci U U U) (Ad U (Ac (Z ?_)))))
  refine Az U (fun h7=>?_) (fun h7=>?_)
  ·refine Aw (Z (Ab (AW (Ab (Ae (Ah 2 U ?_))))))
   obtain ⟨x8,hx9⟩:∃ z9,xs[k]?=some z9:=⟨_,List.getElem?_eq_getElem (show k<xs.length by omega)⟩
   have th10:=H.thR 0 rfl hx9
   refine V U U (Ba (p:=AT A1+k*3) U Hh U U (by omega) (by omega) th10 U) (V U U (Aj U E5 U) (V U U (Ao U BV U (H.elR 0 U hx9 (q:=2) U U)) (V U U (Dn U Ct U) (V U U (Ca U U U) (Ac (Z ?_))))))
   refine Az U (fun h11=>?_) (fun h11=>?_)
   ·exact Ab (Ae (Ad U (Ac (Z (Ap (Bb (AA (AA (Bb (AA (Aq U U (Am ⟨congrArg Value.bool (Ur hx9 (by omega)),rfl⟩ H))))))))))))
   exact Aw (A_ (Z (Ae (Ad U (V U U (A0 (z:=((k+1:Nat):Int)) U U U (by rw [AF (by omega) (by omega)];omega)) (Ad U (Ac (Bl (s:=k) (k+1) ⟨rfl,rfl,trivial⟩ ⟨H,by (try dsimp only);omega,ZR hn hx9 (by omega)⟩ (by (try dsimp only);omega)))))))))
  exact BM (AR (AR (BN (Z (Ab (Ae (Ad U (V U U (A8 U FF U) (V U U (Ca U U U) (Ad U (Ac (Z (Ap (Aq U U (Am ⟨congrArg Value.bool (OM hn (by omega)),rfl⟩ H)))))))))))))))
 exact Ah 4 U (Ac (Z (B9 U (BM (AR (AR (BN (Z (Ab (Ae (Ad U (V U U (A8 U FF U) (V U U (Ca U U U) (Ad U (Ac (Z (Ap (Aq U U (Am ⟨congrArg Value.bool (OM hn (by omega)),rfl⟩ H)))))))))))))))))))
/-! ### What is told is small -/
def TS (r:VM×Int):Prop:=∀ q∈r.1.told,C9 q
theorem DZ {c:Prop} [Decidable c] {x y:VM×Int} (hx:TS x) (hy:TS y):TS (if c then x else y):=by
 split
 ·exact hx
 ·exact hy
theorem TB {told:List Al} {k v:ByteArray} (h:∀ q∈told,C9 q) (hv:v.size≤64):∀ q∈(DP told k v).2,C9 q:=by
 unfold DP
 split
 ·exact h
 ·split
  ·exact h
  ·intro q hq
   rcases List.mem_append.1 hq with h1|h1
   ·exact h q h1
   ·rw [List.mem_singleton.1 h1]
    exact ⟨by (try dsimp only);omega,hv⟩
theorem R3 {D:Bg} {key:ByteArray} {m:VM} {i:BG} {v:List AP} (h:∀ q∈m.told,C9 q) (hv:(v.getD 1 Cz).b.size≤64):TS (B4 D key m i v):=by
 have hn:TS (G7 m):=by unfold TS;rw [PW];exact h
 have h20:TS (if (v.getD 0 Cz).n≠0 then {m with pos:=i.a} else m,0):=by
  unfold TS
  dsimp only
  split<;>exact h
 exact DZ h (DZ h (DZ h (DZ h (DZ h (DZ h (DZ hn (DZ h (DZ h (DZ h (DZ h (DZ h (DZ h (DZ h (DZ h (DZ h (DZ h20 (DZ h (DZ h (DZ (TB h hv) h)))))))))))))))))))
theorem N7 {D:Bg} {key:ByteArray} {n:Int} {m:VM} {i:BG} (hm:Ey n m) (h:∀ q∈m.told,C9 q):TS (BJ D key m i):=by
 by_cases hN:(Ay i.op m.stk).1≠0
 ·rw [Lo hN];exact h
 ·rw [Df hN]
  obtain ⟨l1,l2,l3,l4⟩:=Mk (Classical.not_not.1 hN)
  exact R3 h (Mq (fun x hx=>hm.ok.1 x (l3 x hx)) 1).2
theorem JM {p:List BG} (h:Du p<0):p.length≤40∧∀ i∈p,BL i p.length:=by
 have hl:p.length≤40:=by
  apply Classical.byContradiction
  intro hn
  unfold Du at h
  split at h
  ·omega
  ·rw [if_pos (by omega)] at h;omega
 exact ⟨hl,(NC hl).1 h⟩
theorem Ql {D:Bg} (hD:∀ s:ByteArray,Ax (D.num s)) {p:List BG} {key:ByteArray} (hp:Du p<0) (ha:∀ i∈p,Ax i.a):∀ (k:Nat) {m:VM},Ey p.length m→(∀ q∈m.told,C9 q)→TS (CC D p key k m)
 |0,m,hm,h=>by
  unfold CC
  split<;>exact h
 |k+1,m,hm,h=>by
  by_cases hc:m.pos<p.length∧m.halted=false
  ·obtain ⟨i,hi⟩:∃ i,p[m.pos.toNat]?=some i:=⟨_,List.getElem?_eq_getElem (by have:=hm.pos;omega)⟩
   have him:=B6 hi
   have hm1:Ey p.length {m with pos:=m.pos+1}:=⟨hm.ok,hm.len,hm.told,(by have h9:=hm.pos;constructor<;>(try dsimp only)<;>omega)⟩
   by_cases hw:(BJ D key {m with pos:=m.pos+1} i).2≠0
   ·rw [Qi hc hi hw]
    exact N7 hm1 h
   ·rw [Qj hc hi hw]
    exact Ql hD hp ha k (OW hD hm1 ((JM hp).2 i him) (ha i him) (Classical.not_not.1 hw)) (N7 hm1 h)
  ·rw [MA _ hc];exact h
theorem UM (n:Int) (hn:0≤n) (vals:List ByteArray):Ey n (Dt vals):=⟨⟨(fun v hv=>by cases hv),fun _=>Ms⟩,Nat.zero_le _,Nat.zero_le _,⟨Int.le_refl 0,hn⟩⟩
theorem Q7 {D:Bg} (hD:∀ s:ByteArray,Ax (D.num s)) {p:List BG} (ha:∀ i∈p,Ax i.a) (key:ByteArray) (vals:List ByteArray) (fuel:Int):∀ q∈(Bz D p key vals fuel).1,C9 q:=by
 unfold Bz
 split
 ·intro q hq;cases hq
 ·rename_i hn
  split
  ·intro q hq;cases hq
  ·exact Ql hD (by omega) ha _ (UM _ (by omega) _) (fun q hq=>by cases hq)
theorem Zz {xs:List Al} (h:∀ q∈xs,C9 q):∀ q∈srt xs,C9 q:=fun q hq=>h q ((Gg xs).symm.mem hq)
theorem N_ {D:Bg} (hD:∀ s:ByteArray,Ax (D.num s)) {p:List BG} (ha:∀ i∈p,Ax i.a) {ps:List Al} {fuel:Int} {own:Bool}:∀ (ks:List ByteArray) (out:List Al),(∀ q∈out,C9 q)→∀ q∈(EC D p ps fuel own ks out).1,C9 q
 |[],out,h=>h
 |k::ks,out,h=>by
  unfold EC
  split
  ·intro q hq;cases hq
  ·split
   ·intro q hq;cases hq
   ·split
    ·intro q hq;cases hq
    ·refine N_ hD ha ks _ fun q hq=>?_
     rcases List.mem_append.1 hq with h1|h1
     ·exact h q h1
     ·exact Q7 hD ha _ _ _ q h1
/-! ### In order -/
theorem S5 {D:Bg} (hD:∀ s:ByteArray,Ax (D.num s)) {p:List BG} (ha:∀ i∈p,Ax i.a) {ps:List Al} {fuel:Int} (h:∀ q∈ps,C9 q):∀ q∈(FI D p ps fuel).1,C9 q:=by
 unfold FI
 split
 ·exact Zz h
 ·exact N_ hD ha _ _ fun q hq=>by cases hq
theorem S4 (D:Bg) (p:List BG) (ps:List Al) (fuel:Int) (h:ps.length≤40):(FI D p ps fuel).1.length≤40:=by
 unfold FI
 split
 ·show (srt ps).length≤40
  rw [Fq];exact h
 ·exact Lp D p ps fuel true _ _ (Nat.zero_le _)
/-! ### Jobs -/
structure AG where
 us:List (Value×List Al)
 parts:Int
 map:List BG
 comb:List BG
 red:List BG
 chunk:Int
 window:Int
 fuel:Int
 marks:List Int
def GC (x:List Al):Prop:=x.length≤8∧G5 x
instance (x:List Al):Decidable (GC x):=inferInstanceAs (Decidable (_∧_))
def Gx (n:Int):Int→List Int→Prop
 |_,[]=>True
 |l,m::ms=>(l+1≤m∧m≤n)∧Gx n m ms
instance marksUpD (n:Int):∀ (l:Int) (ms:List Int),Decidable (Gx n l ms)
 |_,[]=>isTrue trivial
 |_,m::ms=>haveI:=marksUpD n m ms;inferInstanceAs (Decidable (_∧_))
def D9 (J:AG):Prop:=
 (1≤(J.us.length:Int)∧(J.us.length:Int)≤6)∧(1≤J.parts∧J.parts≤4)∧J.marks.length≤4∧(∀ u∈J.us,GC u.2)∧Gx J.us.length 0 J.marks∧
 (0<J.map.length∧Du J.map<0)∧(0<J.red.length∧Du J.red<0)∧Du J.comb<0∧(1≤J.chunk∧J.chunk≤7)∧(1≤J.window∧J.window≤4)∧1≤J.fuel∧J.fuel≤2000
instance mayJD (J:AG):Decidable (D9 J):=by unfold D9;infer_instance
structure B5 (J:AG):Prop where
 may:D9 J
 map:∀ i∈J.map,Ax i.a
 comb:∀ i∈J.comb,Ax i.a
 red:∀ i∈J.red,Ax i.a
theorem B5.us {J:AG} (h:B5 J):1≤J.us.length∧J.us.length≤6:=by have:=h.may.1;omega
theorem B5.parts {J:AG} (h:B5 J):1≤J.parts∧J.parts≤4:=h.may.2.1
theorem B5.fuel {J:AG} (h:B5 J):1≤J.fuel∧J.fuel≤2000:=h.may.2.2.2.2.2.2.2.2.2.2
theorem B5.split {J:AG} (h:B5 J):∀ u∈J.us,GC u.2:=h.may.2.2.2.1
theorem B5.f64 {J:AG} (h:B5 J):Ax J.fuel:=by have:=h.fuel;unfold Ax;omega
def ET (D:Bg) (p:List BG) (fuel:Int):List Al→List Al→List Al×Int
 |[],out=>(out,0)
 |r::rs,out=>
  if (Bz D p r.key [r.val] fuel).2≠0 then ([],(Bz D p r.key [r.val] fuel).2)
  else if 40<out.length+(Bz D p r.key [r.val] fuel).1.length then ([],5)
  else ET D p fuel rs (out++(Bz D p r.key [r.val] fuel).1)
section
variable {D:Bg} {p:List BG} {fuel:Int} {rs:List Al} {r:Al} {out:List Al} {i:Nat}
theorem Wp (h:rs.length≤i):ET D p fuel (rs.drop i) out=(out,0):=by
 rw [List.drop_eq_nil_of_le h];rfl
theorem Wt (hr:rs[i]?=some r) (h:(Bz D p r.key [r.val] fuel).2≠0):ET D p fuel (rs.drop i) out=([],(Bz D p r.key [r.val] fuel).2):=by
 rw [Fg hr];exact if_pos h
theorem Wq (hr:rs[i]?=some r) (h:¬ (Bz D p r.key [r.val] fuel).2≠0) (h3:40<out.length+(Bz D p r.key [r.val] fuel).1.length):ET D p fuel (rs.drop i) out=([],5):=by
 rw [Fg hr];unfold ET;rw [if_neg h,if_pos h3]
theorem Wr (hr:rs[i]?=some r) (h:¬ (Bz D p r.key [r.val] fuel).2≠0) (h3:¬ 40<out.length+(Bz D p r.key [r.val] fuel).1.length):
  ET D p fuel (rs.drop (i+1)) (out++(Bz D p r.key [r.val] fuel).1)=ET D p fuel (rs.drop i) out:=by
 rw [Fg hr];conv=>rhs;unfold ET
 rw [if_neg h,if_neg h3]
theorem PP (hD:∀ s:ByteArray,Ax (D.num s)) (ha:∀ i∈p,Ax i.a):∀ (rs out:List Al),(∀ q∈out,C9 q)→∀ q∈(ET D p fuel rs out).1,C9 q
 |[],out,h=>h
 |r::rs,out,h=>by
  unfold ET
  split
  ·intro q hq;cases hq
  ·split
   ·intro q hq;cases hq
   ·refine PP hD ha rs _ fun q hq=>?_
    rcases List.mem_append.1 hq with h1|h1
    ·exact h q h1
    ·exact Q7 hD ha _ _ _ q h1
theorem PO:∀ (rs out:List Al),out.length≤40→(ET D p fuel rs out).1.length≤40
 |[],out,h=>h
 |r::rs,out,h=>by
  unfold ET
  split
  ·exact Nat.zero_le _
  ·split
   ·exact Nat.zero_le _
   ·exact PO rs _ (by simp only [List.length_append];omega)
end
def recs (J:AG) (s:Nat):List Al:=match J.us[s]? with
 |some u=>u.2
 |none=>[]
theorem Yv {J:AG} {s:Nat} {u:Value×List Al} (h:J.us[s]?=some u):recs J s=u.2:=by unfold recs;rw [h]
def mapM (D:Bg) (J:AG) (s:Nat):List Al×Int:=ET D J.map J.fuel (recs J s) []
def AB (D:Bg) (J:AG) (s:Nat):List Al×Int:=if (mapM D J s).2≠0 then ([],(mapM D J s).2) else FI D J.comb (mapM D J s).1 J.fuel
theorem PM (D:Bg) (J:AG) (s:Nat):(mapM D J s).1.length≤40:=PO _ _ (Nat.zero_le _)
theorem HP (D:Bg) (J:AG) (s:Nat):(AB D J s).1.length≤40:=by
 unfold AB
 split
 ·exact Nat.zero_le _
 ·exact S4 _ _ _ _ (PM _ _ _)
theorem HQ {D:Bg} (hD:∀ s:ByteArray,Ax (D.num s)) {J:AG} (h:B5 J) (s:Nat):∀ q∈(AB D J s).1,C9 q:=by
 unfold AB
 split
 ·intro q hq;cases hq
 ·exact S5 hD h.comb (PP hD h.map _ _ fun q hq=>by cases hq)
def B0 (D:Bg) (J:AG) (s:Nat) (p:Int):List Al:=E8 (AB D J s).1 J.parts p
def I2 (D:Bg) (J:AG) (p:Int):Nat→List Al
 |0=>[]
 |k+1=>I2 D J p k++B0 D J k p
theorem HN (D:Bg) (J:AG) (s:Nat) (p:Int):(B0 D J s p).length≤40:=Nat.le_trans (P6 _ _ _) (HP _ _ _)
def Iy (D:Bg) (J:AG) (p:Int):List Al×Int:=BX D J.red (srt (I2 D J p J.us.length)) J.fuel false
def partsGo (D:Bg) (J:AG):Nat→Nat→List (List Al)→List (List Al)×Int×Int
 |0,_,out=>(out,0,0)
 |k+1,p,out=>if (Iy D J p).2≠0 then ([],(Iy D J p).2,p) else partsGo D J k (p+1) (out++[(Iy D J p).1])
def wholeGo (D:Bg) (J:AG):Nat→Nat→List (List Al)×Int×Int
 |0,_=>partsGo D J J.parts.toNat 0 []
 |k+1,s=>if (AB D J s).2≠0 then ([],(AB D J s).2,s) else wholeGo D J k (s+1)
def M4 (D:Bg) (J:AG):List (List Al)×Int×Int:=wholeGo D J J.us.length 0
section
variable {D:Bg} {J:AG} {s p:Nat} {out:List (List Al)}
end
def CD (D:Bg) (J:AG) (s:Nat) (p:Int):List Al×Int:=if (AB D J s).2≠0 then ([],(AB D J s).2) else (B0 D J s p,0)
theorem Ot (zs:List (Value×List Al)) (v:Value) (x:List Al):BK (zs++[(v,x)])=BK zs++x:=by
 unfold BK;rw [List.flatMap_append];simp
def GZ (J:AG):Bool:=decide (¬ (J.us.length≤8∧∀ u∈J.us,Fj u.2 10=false))||decide (10<(J.marks.length:Int))||ER J.map||ER J.comb||ER J.red
theorem Uo {J:AG} {k:Nat} {A:Value} {x:List Al} (hx:J.us[k]?=some (A,x)) (h:Fj x 10=true):true=GZ J:=by
 unfold GZ
 rw [decide_eq_true (show ¬ (J.us.length≤8∧∀ u∈J.us,Fj u.2 10=false) from fun g=>by have:=g.2 _ (B6 hx);rw [h] at this;cases this)]
 simp
theorem G0 {J:AG} (h:8<J.us.length∨10<J.marks.length∨ER J.map=true∨ER J.comb=true):true=GZ J:=by
 unfold GZ
 rcases h with h|h|h|h
 ·rw [decide_eq_true (show ¬ (J.us.length≤8∧∀ u∈J.us,Fj u.2 10=false) from fun g=>by omega)];simp
 ·rw [decide_eq_true (show 10<(J.marks.length:Int) by omega)];simp
 ·rw [h];simp
 ·rw [h];simp
theorem OJ {J:AG} {k:Nat} (hn:∀ u∈J.us.take k,Fj u.2 10=false) (h1:J.us.length≤k) (h2:J.us.length≤8) (h3:J.marks.length≤10) (h4:ER J.map=false) (h5:ER J.comb=false):ER J.red=GZ J:=by
 unfold GZ
 rw [List.take_of_length_le h1] at hn
 rw [decide_eq_false (show ¬ ¬ (J.us.length≤8∧∀ u∈J.us,Fj u.2 10=false) from fun g=>g ⟨h2,hn⟩),decide_eq_false (show ¬ 10<(J.marks.length:Int) by omega),h4,h5]
 simp
theorem Gk (n:Int) (l:Int) (m:Int):
    Cn Tryz.prog 89 [.int .i64 n,.int .i64 l,.int .i64 m] [] [] (fun v Bs=>v=.bool (decide (l≤n∧n≤m))∧Bs=[]):=by
 intro w0 F0 H
 refine enter Tryz.func89 U U (Nat.le_of_ble_eq_true U) (Ab (Ae (Ad U (Ac (Z (Ab (Ae (Ah 2 U (V U U (Cw U U U) (Ad U ?_))))))))))
 refine AU (d:=10) U (fun h1=>?_) (fun h1=>?_)
 ·exact Ah 2 U (V U U (Ci U U U) (Ah 2 U (Ac (Z (Ap (Aq U U (Am ⟨congrArg Value.bool (decide_eq_decide.2 (by omega)),rfl⟩ H)))))))
 exact Ah 5 U (Ac (Z (Ap (Aq U U (Am ⟨congrArg Value.bool ((decide_eq_false (by omega)).symm),rfl⟩ H)))))
theorem OZ (vxs:Value) (xs:List BG):
    Cn Tryz.prog 153 [vxs] [] [Aa Af vxs xs] (fun v Bs=>v=.bool (decide (0<(xs).length∧Du xs<0))∧Bs=[]):=by
 intro w0 F0 H
 obtain ⟨A1,c2,rfl,hc3,hm4,hp5⟩:=H.fR 0 rfl
 refine enter Tryz.func153 U U (Nat.le_of_ble_eq_true U) (Ab (Ae (Ad U (Ac (Z ?_)))))
 replace H:Hd _ _ _ [] [Aa Af (.slice A1 xs.length c2) xs]:=H
 refine Ab (Ae (Ad U (V U U (A8 U FF U) (V U U (Ca U U U) (Ad U ?_)))))
 refine AU (d:=6) U (fun h6=>?_) (fun h6=>?_)
 ·refine Ad U (sc (Mv (.slice A1 xs.length c2) xs) H (lR 0 U l0) U U (At LZ U U) ?_)
  rintro _ _ w ⟨rfl,rfl⟩ H
  exact Ah 2 U (Ac (Z (Ap (Aq U U (Am ⟨congrArg Value.bool (decide_eq_decide.2 (by omega)),rfl⟩ H)))))
 exact Ah 4 U (Ac (Z (Ap (Aq U U (Am ⟨congrArg Value.bool ((decide_eq_false (by omega)).symm),rfl⟩ H)))))
theorem LT (vS vM vC vR vK:Value) (J:AG):
    Cn Tryz.prog 88 [.agg #[vS,.int .i64 J.parts,vM,vC,vR,.int .i64 J.chunk,.int .i64 J.window,.int .i64 J.fuel,vK]] [] [Aa (Ak Ag) vS J.us,Aa Af vM J.map,Aa Af vC J.comb,Aa Af vR J.red,Aa (Ai .i64) vK J.marks] (fun v Bs=>v=.bool (decide (D9 J))∧Bs=[]):=by
 intro w0 F0 H
 obtain ⟨A1,c2,rfl,hc3,hm4,hp5⟩:=H.fR 0 rfl
 obtain ⟨A6,c7,rfl,hc8,hm9,hp10⟩:=H.fR 1 rfl
 obtain ⟨A11,c12,rfl,hc13,hm14,hp15⟩:=H.fR 2 rfl
 obtain ⟨A16,c17,rfl,hc18,hm19,hp20⟩:=H.fR 3 rfl
 obtain ⟨A21,c22,rfl,hc23,hm24,hp25⟩:=H.fR 4 rfl
 refine enter Tryz.func88 U U (Nat.le_of_ble_eq_true U) (Ab (Ae (Cy U U U U H (fun b26 w H=>(Ad U (Ac (Z ?_)))))))
 replace H:Hd _ _ _ [blk b26 [.slice A1 J.us.length c2,.int .i64 J.parts,.slice A6 J.map.length c7,.slice A11 J.comb.length c12,.slice A16 J.red.length c17,.int .i64 J.chunk,.int .i64 J.window,.int .i64 J.fuel,.slice A21 J.marks.length c22] 26] [Aa (Ak Ag) (.slice A1 J.us.length c2) J.us,Aa Af (.slice A6 J.map.length c7) J.map,Aa Af (.slice A11 J.comb.length c12) J.comb,Aa Af (.slice A16 J.red.length c17) J.red,Aa (Ai .i64) (.slice A21 J.marks.length c22) J.marks]:=H
 refine Ab (Ab (Ae (V U U (Aj U Dw U) (V U U (Ao U Dy U (H.cellI 0 U U)) (V U U (A8 U Dz U) (sc (Gk ((J.us.length:Nat):Int) 1 6) H l0 U U (At Gc U U) ?_))))))
 rintro _ _ w ⟨rfl,rfl⟩ H
 refine V U U (DD U U) (Ad U ?_)
 refine AU (d:=13) U (fun h27=>?_) (fun h27=>?_)
 ·refine Ah 11 U (Ac (Z (B8 U (Ab (Ae (Ad U (Ac (Z (Ap (AA (Aq U U ?_)))))))))))
  replace H:=H.nil
  have e:¬ D9 J:=by
    rintro ⟨g1,g2,g3,g4,g5,g6,g7,g8,g9,g10,g11⟩
    omega
  exact Am ⟨congrArg Value.bool (decide_eq_false e).symm,rfl⟩ H
 refine V U U (Aj U GX U) (V U U (Ao U AE U (H.cellI 0 U U)) (sc (Gk J.parts 1 4) H l0 U U (At Gc U U) ?_))
 rintro _ _ w ⟨rfl,rfl⟩ H
 refine V U U (DD U U) (Ah 2 U ?_)
 refine AU (d:=19) U (fun h28=>?_) (fun h28=>?_)
 ·refine Ah 5 U (Ac (Z (B8 U (Ab (Ae (Ad U (Ac (Z (Ap (AA (Aq U U ?_)))))))))))
  replace H:=H.nil
  have e:¬ D9 J:=by
    rintro ⟨g1,g2,g3,g4,g5,g6,g7,g8,g9,g10,g11⟩
    omega
  exact Am ⟨congrArg Value.bool (decide_eq_false e).symm,rfl⟩ H
 refine V U U (Aj U GY U) (V U U (Ao U EH U (H.cellI 0 U U)) (V U U (A8 U DL U) (V U U (Ca U U U) (Ad U (Ac (Z ?_))))))
 refine Az U (fun h29=>?_) (fun h29=>?_)
 ·refine Ab (Ae (Ad U (Ac (Z (Ap (AA (Aq U U ?_)))))))
  replace H:=H.nil
  have e:¬ D9 J:=by
    rintro ⟨g1,g2,g3,g4,g5,g6,g7,g8,g9,g10,g11⟩
    omega
  exact Am ⟨congrArg Value.bool (decide_eq_false e).symm,rfl⟩ H
 refine Aw (Z (Ab (Ab (Ae (V U U (Aj U Dw U) (V U U (Ao U Dy U (H.cellI 0 U U)) (V U U (A8 U Dz U) (Ad U (Ac (Z (AW (BT (σ:=Nat) (fun k=>[(1,.pointer (some ⟨b26,0,none⟩)),(26,.slice A1 J.us.length c2),(27,.int .i64 ((J.us.length:Nat):Int)),(28,.int .i64 ((k:Nat):Int))]) (fun k w=>(Hd w0 F0 w [blk b26 [.slice A1 J.us.length c2,.int .i64 J.parts,.slice A6 J.map.length c7,.slice A11 J.comb.length c12,.slice A16 J.red.length c17,.int .i64 J.chunk,.int .i64 J.window,.int .i64 J.fuel,.slice A21 J.marks.length c22] 26] [Aa (Ak Ag) (.slice A1 J.us.length c2) J.us,Aa Af (.slice A6 J.map.length c7) J.map,Aa Af (.slice A11 J.comb.length c12) J.comb,Aa Af (.slice A16 J.red.length c17) J.red,Aa (Ai .i64) (.slice A21 J.marks.length c22) J.marks])∧(k≤J.us.length)∧(∀ u∈J.us.take k,GC u.2)) (fun k=>J.us.length - k) 0 ⟨rfl,rfl,rfl,rfl,trivial⟩ ⟨H,by omega,by simp⟩ ?_))))))))))))
 rintro k w ⟨H,hk,hn⟩
 refine Ab (Ae (V U U (Bd U U U) (Ac (Z (Ab ?_)))))
 refine Az U (fun h30=>?_) (fun h30=>?_)
 ·refine Aw (Z (Ab (AW (Ab (Ae ?_)))))
  obtain ⟨⟨u33,x31⟩,hx32⟩:∃ z9,J.us[k]?=some z9:=⟨_,List.getElem?_eq_getElem (show k<J.us.length by omega)⟩
  obtain ⟨A34,c35,rfl,hc36,hm37⟩:=H.nestR 0 rfl hx32
  have th38:=H.thRd 0 rfl hx32
  refine V U U (Ba (p:=AT A1+k*1) U Ej U U (by omega) (by omega) th38 U) (V U U (Ao U DU U (H.elRd 0 U hx32 U)) (Ad U (Ac (Z (Ab (Ae (Ad U (V U U (A8 U CH U) (V U U (Ca U U U) (Ad U ?_))))))))))
  refine AU (d:=35) U (fun h39=>?_) (fun h39=>?_)
  ·refine Ah 4 U (Ac (Z (B8 U (Ab (Ae (Ad U (Ac (Z (Ap (Bb (AA (AA (Bb (AA (Aq U U ?_)))))))))))))))
   replace H:=H.nil
   have e:¬ D9 J:=by
     rintro ⟨g1,g2,g3,g4,g5,g6,g7,g8,g9,g10,g11⟩
     have g:=g4 _ (B6 hx32);have ga:x31.length≤8:=g.1;first |exact (h39 g.2).elim|omega
   exact Am ⟨congrArg Value.bool (decide_eq_false e).symm,rfl⟩ H
  refine Ad U (sc (Qa (.slice A34 x31.length c35) x31) H (lX (fun F hA hR=>Gy (hR _ (List.mem_of_getElem? (i:=0) U)) hx32) l0) U U (At O2 U U) ?_)
  rintro _ _ w ⟨rfl,rfl⟩ H
  refine V U U (DD U U) (Ad U (Ac (Z ?_)))
  refine Az U (fun h40=>?_) (fun h40=>?_)
  ·refine Ab (Ae (Ad U (Ac (Z (Ap (Bb (AA (AA (Bb (AA (Aq U U ?_)))))))))))
   replace H:=H.nil
   have e:¬ D9 J:=by
     rintro ⟨g1,g2,g3,g4,g5,g6,g7,g8,g9,g10,g11⟩
     have g:=g4 _ (B6 hx32);have ga:x31.length≤8:=g.1;first |exact (h40 g.2).elim|omega
   exact Am ⟨congrArg Value.bool (decide_eq_false e).symm,rfl⟩ H
  refine Aw (A_ (Z (Ae (V U U (A0 (z:=((k+1:Nat):Int)) U U U (by rw [AF (by omega) (by omega)];omega)) (Ad U (Ac ?_))))))
  have hn2:=JD (Q:=fun u:Value×List Al=>GC u.2) hn hx32 ⟨(show x31.length≤8 by omega),Classical.not_not.1 h40⟩
  exact Bl (s:=k) (k+1) ⟨rfl,rfl,rfl,rfl,trivial⟩ ⟨H,by (try dsimp only);omega,hn2⟩ (by (try dsimp only);omega)
 refine BM (AR (AR (BN (Z (Ab (Ae (Ad U (Ac (Z (Ab (Ab (Ae (V U U (Aj U GY U) (V U U (Ao U EH U (H.cellI 0 U U)) (V U U (A8 U DL U) (Ad U (Ac (Z (AW ?_)))))))))))))))))))
 have hal:∀ u∈J.us,GC u.2:=by rw [←Hm (xs:=J.us) (k:=k) (by omega)];exact hn
 refine BT (σ:=Nat×Int) (fun (j,last)=>[(1,.pointer (some ⟨b26,0,none⟩)),(5,.int .i64 last),(42,.slice A21 J.marks.length c22),(43,.int .i64 ((J.marks.length:Nat):Int)),(44,.int .i64 ((j:Nat):Int))]) (fun (j,last) w=>(Hd w0 F0 w [blk b26 [.slice A1 J.us.length c2,.int .i64 J.parts,.slice A6 J.map.length c7,.slice A11 J.comb.length c12,.slice A16 J.red.length c17,.int .i64 J.chunk,.int .i64 J.window,.int .i64 J.fuel,.slice A21 J.marks.length c22] 26] [Aa (Ak Ag) (.slice A1 J.us.length c2) J.us,Aa Af (.slice A6 J.map.length c7) J.map,Aa Af (.slice A11 J.comb.length c12) J.comb,Aa Af (.slice A16 J.red.length c17) J.red,Aa (Ai .i64) (.slice A21 J.marks.length c22) J.marks])∧(j≤J.marks.length∧0≤last∧last≤6)∧(Gx J.us.length last (J.marks.drop j)↔Gx J.us.length 0 J.marks)) (fun (j,last)=>J.marks.length - j) (0,0) ⟨rfl,rfl,rfl,rfl,rfl,trivial⟩ ⟨H,by (try dsimp only);omega,Iff.rfl⟩ ?_
 rintro ⟨j,last⟩ w ⟨H,hj,hm⟩
 refine Ab (Ae (V U U (Bd U U U) (Ac (Z (Ab ?_)))))
 refine Az U (fun h41=>?_) (fun h41=>?_)
 ·refine Aw (Z (Ab (AW (Ab (Ae ?_)))))
  obtain ⟨x42,hx43⟩:∃ z9,J.marks[j]?=some z9:=⟨_,List.getElem?_eq_getElem (show j<J.marks.length by omega)⟩
  have th44:=H.thR 4 rfl hx43
  refine V U U (Ba (p:=AT A21+j*1) U Ds U U (by omega) (by omega) th44 U) (V U U (Ao U AE U (H.elR 4 U hx43 (q:=0) U U)) (Ad U (Ac (Z (Ab (Ab (Ae (Ah 2 U (V U U (A0 (z:=last+1) U U U (AF (by omega) (by omega))) (V U U (Aj U Dw U) (V U U (Ao U Dy U (H.cellI 0 U U)) (V U U (A8 U Dz U) (sc (Gk x42 (last+1) ((J.us.length:Nat):Int)) H l0 U U (At Gc U U) ?_)))))))))))))
  rintro _ _ w ⟨rfl,rfl⟩ H
  refine V U U (DD U U) (Ac (Z ?_))
  refine Az U (fun h45=>?_) (fun h45=>?_)
  ·refine Ab (Ae (Ad U (Ac (Z (Ap (AA (Bb (AA (AA (Bb (AA (Aq U U ?_))))))))))))
   replace H:=H.nil
   have e:¬ D9 J:=by
     rintro ⟨g1,g2,g3,g4,g5,g6,g7,g8,g9,g10,g11⟩
     have g:=hm.2 g5;rw [Fg hx43] at g;have g0:=g.1;omega
   exact Am ⟨congrArg Value.bool (decide_eq_false e).symm,rfl⟩ H
  refine Aw (Z (Ae (Ah 2 U (Ac (A_ (Z (Ae (V U U (A0 (z:=((j+1:Nat):Int)) U U U (by rw [AF (by omega) (by omega)];omega)) (Ad U (Ac ?_))))))))))
  have hm2:Gx J.us.length x42 (J.marks.drop (j+1))↔Gx J.us.length 0 J.marks:=by rw [←hm,Fg hx43];exact ⟨fun g=>⟨by omega,g⟩,fun g=>g.2⟩
  exact Bl (s:=(j,last)) (j+1,x42) ⟨rfl,rfl,rfl,rfl,rfl,trivial⟩ ⟨H,by (try dsimp only);omega,hm2⟩ (by (try dsimp only);omega)
 refine BM (AR (AR (BN (Z (Ab (Ae (V U U (Aj U Ij U) (V U U (Ao U Ee U (H.cellI 0 U U)) (sc (OZ (.slice A6 J.map.length c7) J.map) H (lR 1 U l0) U U (At O8 U U) ?_)))))))))
 rintro _ _ w ⟨rfl,rfl⟩ H
 refine Ad U ?_
 refine AU (d:=61) U (fun h46=>?_) (fun h46=>?_)
 ·refine V U U (Aj U HD U) (V U U (Ao U Ee U (H.cellI 0 U U)) (sc (OZ (.slice A16 J.red.length c17) J.red) H (lR 3 U l0) U U (At O8 U U) ?_))
  rintro _ _ w ⟨rfl,rfl⟩ H
  refine Ah 2 U ?_
  refine AU (d:=66) U (fun h47=>?_) (fun h47=>?_)
  ·refine V U U (Aj U Ik U) (V U U (Ao U Ee U (H.cellI 0 U U)) (sc (Mv (.slice A11 J.comb.length c12) J.comb) H (lR 2 U l0) U U (At LZ U U) ?_))
   rintro _ _ w ⟨rfl,rfl⟩ H
   refine Ah 2 U ?_
   refine AU (d:=71) U (fun h48=>?_) (fun h48=>?_)
   ·refine V U U (Aj U Ow U) (V U U (Ao U AE U (H.cellI 0 U U)) (sc (Gk J.chunk 1 7) H l0 U U (At Gc U U) ?_))
    rintro _ _ w ⟨rfl,rfl⟩ H
    refine Ah 2 U ?_
    refine AU (d:=76) U (fun h49=>?_) (fun h49=>?_)
    ·refine V U U (Aj U Ox U) (V U U (Ao U AE U (H.cellI 0 U U)) (sc (Gk J.window 1 4) H l0 U U (At Gc U U) ?_))
     rintro _ _ w ⟨rfl,rfl⟩ H
     refine Ah 2 U ?_
     refine AU (d:=81) U (fun h50=>?_) (fun h50=>?_)
     ·refine V U U (Aj U Ja U) (V U U (Ao U AE U (H.cellI 0 U U)) (sc (Gk J.fuel 1 2000) H l0 U U (At Gc U U) ?_))
      rintro _ _ w ⟨rfl,rfl⟩ H
      refine Ah 2 U (Ac (Z (Ap (Aq U U ?_))))
      replace H:=H.nil
      have hmk:Gx J.us.length 0 J.marks:=hm.1 (by rw [List.drop_eq_nil_of_le (by omega)];trivial)
      have e:(1≤J.fuel∧J.fuel≤2000)↔D9 J:=⟨fun g=>⟨by omega,by omega,by omega,hal,hmk,by omega,by omega,by omega,by omega,by omega,by omega⟩,fun g=>by have g6:=g.2.2.2.2.2;omega⟩
      exact Am ⟨congrArg Value.bool (decide_eq_decide.2 e),rfl⟩ H
     refine Ah 5 U (Ac (Z (Ap (Aq U U ?_))))
     replace H:=H.nil
     have e:¬ D9 J:=by
       rintro ⟨g1,g2,g3,g4,g5,g6,g7,g8,g9,g10,g11⟩
       omega
     exact Am ⟨congrArg Value.bool (decide_eq_false e).symm,rfl⟩ H
    refine Ah 10 U (Ac (Z (Ap (Aq U U ?_))))
    replace H:=H.nil
    have e:¬ D9 J:=by
      rintro ⟨g1,g2,g3,g4,g5,g6,g7,g8,g9,g10,g11⟩
      omega
    exact Am ⟨congrArg Value.bool (decide_eq_false e).symm,rfl⟩ H
   refine Ah 12 U (Ah 3 U (Ac (Z (Ap (Aq U U ?_)))))
   replace H:=H.nil
   have e:¬ D9 J:=by
     rintro ⟨g1,g2,g3,g4,g5,g6,g7,g8,g9,g10,g11⟩
     omega
   exact Am ⟨congrArg Value.bool (decide_eq_false e).symm,rfl⟩ H
  refine Ah 12 U (Ah 8 U (Ac (Z (Ap (Aq U U ?_)))))
  replace H:=H.nil
  have e:¬ D9 J:=by
    rintro ⟨g1,g2,g3,g4,g5,g6,g7,g8,g9,g10,g11⟩
    omega
  exact Am ⟨congrArg Value.bool (decide_eq_false e).symm,rfl⟩ H
 refine Ah 12 U (Ah 12 U (Ad U (Ac (Z (Ap (Aq U U ?_))))))
 replace H:=H.nil
 have e:¬ D9 J:=by
   rintro ⟨g1,g2,g3,g4,g5,g6,g7,g8,g9,g10,g11⟩
   omega
 exact Am ⟨congrArg Value.bool (decide_eq_false e).symm,rfl⟩ H
theorem Up (vS vM vC vR vK:Value) (J:AG):
    Cn Tryz.prog 18 [.agg #[vS,.int .i64 J.parts,vM,vC,vR,.int .i64 J.chunk,.int .i64 J.window,.int .i64 J.fuel,vK]] [] [Aa (Ak Ag) vS J.us,Aa Af vM J.map,Aa Af vC J.comb,Aa Af vR J.red,Aa (Ai .i64) vK J.marks] (fun v Bs=>v=.bool (GZ J)∧Bs=[]):=by
 intro w0 F0 H
 obtain ⟨A1,c2,rfl,hc3,hm4,hp5⟩:=H.fR 0 rfl
 obtain ⟨A6,c7,rfl,hc8,hm9,hp10⟩:=H.fR 1 rfl
 obtain ⟨A11,c12,rfl,hc13,hm14,hp15⟩:=H.fR 2 rfl
 obtain ⟨A16,c17,rfl,hc18,hm19,hp20⟩:=H.fR 3 rfl
 obtain ⟨A21,c22,rfl,hc23,hm24,hp25⟩:=H.fR 4 rfl
 refine enter Tryz.func18 U U (Nat.le_of_ble_eq_true U) (Ab (Ae (Cy U U U U H (fun b26 w H=>(Ad U (Ac (Z ?_)))))))
 replace H:Hd _ _ _ [blk b26 [.slice A1 J.us.length c2,.int .i64 J.parts,.slice A6 J.map.length c7,.slice A11 J.comb.length c12,.slice A16 J.red.length c17,.int .i64 J.chunk,.int .i64 J.window,.int .i64 J.fuel,.slice A21 J.marks.length c22] 26] [Aa (Ak Ag) (.slice A1 J.us.length c2) J.us,Aa Af (.slice A6 J.map.length c7) J.map,Aa Af (.slice A11 J.comb.length c12) J.comb,Aa Af (.slice A16 J.red.length c17) J.red,Aa (Ai .i64) (.slice A21 J.marks.length c22) J.marks]:=H
 refine Ab (Ab (Ae (Ad U (Ac (Z (AW (BT (σ:=Nat) (fun k=>[(1,.pointer (some ⟨b26,0,none⟩)),(3,.int .i64 ((k:Nat):Int))]) (fun k w=>(Hd w0 F0 w [blk b26 [.slice A1 J.us.length c2,.int .i64 J.parts,.slice A6 J.map.length c7,.slice A11 J.comb.length c12,.slice A16 J.red.length c17,.int .i64 J.chunk,.int .i64 J.window,.int .i64 J.fuel,.slice A21 J.marks.length c22] 26] [Aa (Ak Ag) (.slice A1 J.us.length c2) J.us,Aa Af (.slice A6 J.map.length c7) J.map,Aa Af (.slice A11 J.comb.length c12) J.comb,Aa Af (.slice A16 J.red.length c17) J.red,Aa (Ai .i64) (.slice A21 J.marks.length c22) J.marks])∧(k≤J.us.length)∧(∀ u∈J.us.take k,Fj u.2 10=false)) (fun k=>J.us.length - k) 0 ⟨rfl,rfl,trivial⟩ ⟨H,by omega,by simp⟩ ?_)))))))
 rintro k w ⟨H,hk,hn⟩
 refine Ab (Ab (Ae (Ad U (V U U (Aj U Dw U) (V U U (Ao U Dy U (H.cellI 0 U U)) (V U U (A8 U Dz U) (V U U (Bd U U U) (Ad U ?_))))))))
 refine AU (d:=9) U (fun h27=>?_) (fun h27=>?_)
 ·refine V U U (Aj U Dw U) (V U U (Ao U Dy U (H.cellI 0 U U)) (V U U (A8 U Dz U) (V U U (Ci U U U) (Ad U (Ac (Z ?_))))))
  refine Az U (fun h28=>?_) (fun h28=>?_)
  ·refine Aw (Z (Ab (AW (Ab (Ae (V U U (Aj U Dw U) (V U U (Ao U Dy U (H.cellI 0 U U)) (Ad U ?_))))))))
   obtain ⟨⟨u31,x29⟩,hx30⟩:∃ z9,J.us[k]?=some z9:=⟨_,List.getElem?_eq_getElem (show k<J.us.length by omega)⟩
   obtain ⟨A32,c33,rfl,hc34,hm35⟩:=H.nestR 0 rfl hx30
   have th36:=H.thRd 0 rfl hx30
   refine V U U (Ba (p:=AT A1+k*1) U Ej U U (by omega) (by omega) th36 U) (V U U (Ao U DU U (H.elRd 0 U hx30 U)) (sc (Uq (.slice A32 x29.length c33) x29 10) H (lX (fun F hA hR=>Gy (hR _ (List.mem_of_getElem? (i:=0) U)) hx30) l0) U U (At Vt U U) ?_))
   rintro _ _ w ⟨rfl,rfl⟩ H
   refine Ac (Z ?_)
   refine Dv (b:=Fj x29 10) U (fun h37=>?_) (fun h37=>?_)
   ·refine Ab (Ae (Ad U (Ac (Z (Ap (Bb (AA (AA (Bb (AA (Aq U U ?_)))))))))))
    replace H:=H.nil
    exact Am ⟨congrArg Value.bool (Uo hx30 h37),rfl⟩ H
   refine Aw (A_ (Z (Ae (Ad U (V U U (A0 (z:=((k+1:Nat):Int)) U U U (by rw [AF (by omega) (by omega)];omega)) (Ad U (Ac ?_)))))))
   have hn2:=JD (Q:=fun u:Value×List Al=>Fj u.2 10=false) hn hx30 (show Fj x29 10=false by simpa using h37)
   exact Bl (s:=k) (k+1) ⟨rfl,rfl,trivial⟩ ⟨H,by (try dsimp only);omega,hn2⟩ (by (try dsimp only);omega)
  refine BM (AR (AR (BN (Z (Ab (Ae (V U U (Aj U Dw U) (V U U (Ao U Dy U (H.cellI 0 U U)) (V U U (A8 U Dz U) (V U U (Ca U U U) (Ad U ?_)))))))))))
  refine AU (d:=27) U (fun h38=>?_) (fun h38=>?_)
  ·refine Ah 12 U (Ah 9 U (Ac (Z (Ap (Aq U U ?_)))))
   replace H:=H.nil
   exact Am ⟨congrArg Value.bool (G0 (by first |exact .inl (by omega)|exact .inr (.inl (by omega))|exact .inr (.inr (.inl h38))|exact .inr (.inr (.inr h38)))),rfl⟩ H
  refine V U U (Aj U GY U) (V U U (Ao U EH U (H.cellI 0 U U)) (V U U (A8 U DL U) (V U U (Ca U U U) (Ah 2 U ?_))))
  refine AU (d:=33) U (fun h39=>?_) (fun h39=>?_)
  ·refine Ah 12 U (Ah 3 U (Ac (Z (Ap (Aq U U ?_)))))
   replace H:=H.nil
   exact Am ⟨congrArg Value.bool (G0 (by first |exact .inl (by omega)|exact .inr (.inl (by omega))|exact .inr (.inr (.inl h39))|exact .inr (.inr (.inr h39)))),rfl⟩ H
  refine V U U (Aj U Ij U) (V U U (Ao U Ee U (H.cellI 0 U U)) (sc (Im (.slice A6 J.map.length c7) J.map) H (lR 1 U l0) U U (At It U U) ?_))
  rintro _ _ w ⟨rfl,rfl⟩ H
  refine Ah 2 U ?_
  refine Es (d:=38) (b:=ER J.map) U (fun h40=>?_) (fun h40=>?_)
  ·refine Ah 10 U (Ac (Z (Ap (Aq U U ?_))))
   replace H:=H.nil
   exact Am ⟨congrArg Value.bool (G0 (by first |exact .inl (by omega)|exact .inr (.inl (by omega))|exact .inr (.inr (.inl h40))|exact .inr (.inr (.inr h40)))),rfl⟩ H
  refine V U U (Aj U Ik U) (V U U (Ao U Ee U (H.cellI 0 U U)) (sc (Im (.slice A11 J.comb.length c12) J.comb) H (lR 2 U l0) U U (At It U U) ?_))
  rintro _ _ w ⟨rfl,rfl⟩ H
  refine Ah 2 U ?_
  refine Es (d:=43) (b:=ER J.comb) U (fun h41=>?_) (fun h41=>?_)
  ·refine Ah 5 U (Ac (Z (Ap (Aq U U ?_))))
   replace H:=H.nil
   exact Am ⟨congrArg Value.bool (G0 (by first |exact .inl (by omega)|exact .inr (.inl (by omega))|exact .inr (.inr (.inl h41))|exact .inr (.inr (.inr h41)))),rfl⟩ H
  refine V U U (Aj U HD U) (V U U (Ao U Ee U (H.cellI 0 U U)) (sc (Im (.slice A16 J.red.length c17) J.red) H (lR 3 U l0) U U (At It U U) ?_))
  rintro _ _ w ⟨rfl,rfl⟩ H
  refine Ah 2 U (Ac (Z (Ap (Aq U U ?_))))
  replace H:=H.nil
  exact Am ⟨congrArg Value.bool (OJ hn (by omega) (by omega) (by omega) (by simpa using h40) (by simpa using h41)),rfl⟩ H
 refine Ah 5 U (Ac (Z (B9 U (BM (AR (AR (BN (Z (Ab (Ae (V U U (Aj U Dw U) (V U U (Ao U Dy U (H.cellI 0 U U)) (V U U (A8 U Dz U) (V U U (Ca U U U) (Ad U ?_)))))))))))))))
 refine AU (d:=27) U (fun h42=>?_) (fun h42=>?_)
 ·refine Ah 12 U (Ah 9 U (Ac (Z (Ap (Aq U U ?_)))))
  replace H:=H.nil
  exact Am ⟨congrArg Value.bool (G0 (by first |exact .inl (by omega)|exact .inr (.inl (by omega))|exact .inr (.inr (.inl h42))|exact .inr (.inr (.inr h42)))),rfl⟩ H
 refine V U U (Aj U GY U) (V U U (Ao U EH U (H.cellI 0 U U)) (V U U (A8 U DL U) (V U U (Ca U U U) (Ah 2 U ?_))))
 refine AU (d:=33) U (fun h43=>?_) (fun h43=>?_)
 ·refine Ah 12 U (Ah 3 U (Ac (Z (Ap (Aq U U ?_)))))
  replace H:=H.nil
  exact Am ⟨congrArg Value.bool (G0 (by first |exact .inl (by omega)|exact .inr (.inl (by omega))|exact .inr (.inr (.inl h43))|exact .inr (.inr (.inr h43)))),rfl⟩ H
 refine V U U (Aj U Ij U) (V U U (Ao U Ee U (H.cellI 0 U U)) (sc (Im (.slice A6 J.map.length c7) J.map) H (lR 1 U l0) U U (At It U U) ?_))
 rintro _ _ w ⟨rfl,rfl⟩ H
 refine Ah 2 U ?_
 refine Es (d:=38) (b:=ER J.map) U (fun h44=>?_) (fun h44=>?_)
 ·refine Ah 10 U (Ac (Z (Ap (Aq U U ?_))))
  replace H:=H.nil
  exact Am ⟨congrArg Value.bool (G0 (by first |exact .inl (by omega)|exact .inr (.inl (by omega))|exact .inr (.inr (.inl h44))|exact .inr (.inr (.inr h44)))),rfl⟩ H
 refine V U U (Aj U Ik U) (V U U (Ao U Ee U (H.cellI 0 U U)) (sc (Im (.slice A11 J.comb.length c12) J.comb) H (lR 2 U l0) U U (At It U U) ?_))
 rintro _ _ w ⟨rfl,rfl⟩ H
 refine Ah 2 U ?_
 refine Es (d:=43) (b:=ER J.comb) U (fun h45=>?_) (fun h45=>?_)
 ·refine Ah 5 U (Ac (Z (Ap (Aq U U ?_))))
  replace H:=H.nil
  exact Am ⟨congrArg Value.bool (G0 (by first |exact .inl (by omega)|exact .inr (.inl (by omega))|exact .inr (.inr (.inl h45))|exact .inr (.inr (.inr h45)))),rfl⟩ H
 refine V U U (Aj U HD U) (V U U (Ao U Ee U (H.cellI 0 U U)) (sc (Im (.slice A16 J.red.length c17) J.red) H (lR 3 U l0) U U (At It U U) ?_))
 rintro _ _ w ⟨rfl,rfl⟩ H
 refine Ah 2 U (Ac (Z (Ap (Aq U U ?_))))
 replace H:=H.nil
 exact Am ⟨congrArg Value.bool (OJ hn (by omega) (by omega) (by omega) (by simpa using h44) (by simpa using h45)),rfl⟩ H
theorem XD (key:ByteArray) (hb0:key.size≤9223372036854775807):
    Cn Tryz.prog 215 [.string key] [] [] (fun v Bs=>v=.int .u32 (Eh key key.size)∧Bs=[]):=by
 intro w0 F0 H
 refine enter Tryz.func215 U U (Nat.le_of_ble_eq_true U) (Ab (Ae (Ad U (Ac (Z (Ab (Ae (Ad U (Ac (Z (Ab (Ab (Ae (Ad U (V U U (Dn U Ct U) (Ad U (Ac (Z (AW (BT (σ:=Nat) (fun k=>[(0,.string key),(2,.int .u32 0),(3,.int .u32 (Eh key k)),(6,.int .i64 ((key.size:Nat):Int)),(7,.int .i64 ((k:Nat):Int))]) (fun k w=>(Hd w0 F0 w [] [])∧(k≤key.size)) (fun k=>key.size - k) 0 ⟨rfl,rfl,rfl,rfl,rfl,trivial⟩ ⟨H,by (try dsimp only);omega⟩ ?_))))))))))))))))))))
 rintro k w ⟨H,hk⟩
 refine Ab (Ae (V U U (Bd U U U) (Ac (Z (Ab ?_)))))
 refine Az U (fun h1=>?_) (fun h1=>?_)
 ·refine Aw (Z (Ab (AW (Ab (Ae (Ah 2 U (Ac (Z (Ae (Ad U (V U U (He (z:=IntKind.u32.wrap (31*Eh key k)) U U U U) (Ah 2 U ?_))))))))))))
  obtain ⟨b,hb⟩:∃ b,key[k]?=some b:=⟨_,getElem?_pos key k (by omega)⟩
  exact V U U (Jt U Ct U U (by omega) hb) (V U U (DC (z:=((b).toNat:Int)) U U HY RI (bD b)) (V U U (A0 (z:=IntKind.u32.wrap (IntKind.u32.wrap (31*Eh key k)+(b.toNat:Int))) U U U U) (Ad U (Ac (A_ (Z (Ae (V U U (A0 (z:=((k+1:Nat):Int)) U U U (by rw [AF (by omega) (by omega)];omega)) (Ad U (Ac (Bl (s:=k) (k+1) ⟨rfl,rfl,congrArg (fun z=>some (Value.int .u32 z)) (W0 hb).symm,rfl,rfl,trivial⟩ ⟨H,by (try dsimp only);omega⟩ (by (try dsimp only);omega))))))))))))
 refine BM (AR (AR (BN (Z (Ab (Ae (Ah 2 U (Ac (Z (Ap (Aq U U ?_)))))))))))
 obtain rfl:k=key.size:=by omega
 exact Am ⟨rfl,rfl⟩ H
theorem XE (key:ByteArray) (n:Int) (hb0:key.size≤9223372036854775807) (hn:n≤9223372036854775807):
    Cn Tryz.prog 178 [.string key,.int .i64 n] [] [] (fun v Bs=>v=.int .i64 (Kv key n)∧Bs=[]):=by
 intro w0 F0 H
 refine enter Tryz.func178 U U (Nat.le_of_ble_eq_true U) (Ab (Ae (Ad U (Ac (Z (Ab (Ab (Ae (Ad U (V U U (Bd U U U) (Ac (Z ?_))))))))))))
 refine Az U (fun h1=>?_) (fun h1=>?_)
 ·exact Ab (Ae (Ad U (Ac (Z (Ap (AA (Aq U U (Am ⟨congrArg (Value.int .i64) (if_pos h1).symm,rfl⟩ H))))))))
 refine Aw (Z (Ab (Ae (Ad U (sc (XD key (by first |omega|decide)) H l0 U U (At Vp U U) ?_)))))
 rintro _ _ w ⟨rfl,rfl⟩ H
 exact V U U (DC (z:=Eh key key.size) U U RI HW (Fs (Mo key key.size).1 (by have:=(Mo key key.size).2;omega))) (Ad U (V U U (DC (z:=n) U U Dj HW (Fs (by omega) (by omega))) (V U U (Hf (z:=(Eh key key.size)%n) U U U (by omega) (Int.tmod_eq_emod_of_nonneg (Mo key key.size).1)) (V U U (DC (z:=(Eh key key.size)%n) U U HW Dj (AF (by have:=Int.emod_nonneg (Eh key key.size) (show n≠0 by omega);omega) (by have:=Int.emod_lt_of_pos (Eh key key.size) (show 0<n by omega);omega))) (Ad U (Ac (Z (Ap (Aq U U (Am ⟨congrArg (Value.int .i64) (if_neg h1).symm,rfl⟩ H))))))))))
theorem P7 (vxs:Value) (xs:List Al) (n:Int) (p:Int) (hb:xs.length≤1000000) (hn:n≤9223372036854775807) (hk:∀ x∈xs,x.key.size≤9223372036854775807):
    Cn Tryz.prog 126 [vxs,.int .i64 n,.int .i64 p] [] [Aa Ag vxs xs] (fun v Bs=>Bs=[Y Ag v (E8 xs n p)]):=by
 intro w0 F0 H
 obtain ⟨A1,c2,rfl,hc3,hm4,hp5⟩:=H.fR 0 rfl
 refine enter Tryz.func126 U U (Nat.le_of_ble_eq_true U) (Ab (Ae (Ad U (Ac (Z ?_)))))
 replace H:Hd _ _ _ [] [Aa Ag (.slice A1 xs.length c2) xs]:=H
 refine Ab (Ae (Ad U (Ac (Z (Ab (Ab (Ae (Ad U (V U U (A8 U CH U) (Ad U (Ac (Z (AW ?_)))))))))))))
 replace H:=H.newnil Ag
 refine BT (σ:=Nat×Value) (fun (k,l)=>[(1,.int .i64 n),(2,.int .i64 p),(6,.slice none 0 0),(7,l),(10,.slice A1 xs.length c2),(11,.int .i64 ((xs.length:Nat):Int)),(12,.int .i64 ((k:Nat):Int))]) (fun (k,l) w=>(Hd w0 F0 w [Y Ag l (E8 (xs.take k) n p)] [Aa Ag (.slice A1 xs.length c2) xs])∧(k≤xs.length)) (fun (k,l)=>xs.length - k) (0,.slice none 0 0) ⟨rfl,rfl,rfl,rfl,rfl,rfl,rfl,trivial⟩ ⟨H,by (try dsimp only);omega⟩ ?_
 rintro ⟨k,l⟩ w ⟨H,hk0⟩
 have hjl:=P6 (xs.take k) n p
 have hjt:(xs.take k).length≤xs.length:=by simp;omega
 refine Ab (Ae (V U U (Bd U U U) (Ac (Z (Ab ?_)))))
 refine Az U (fun h6=>?_) (fun h6=>?_)
 ·refine Aw (Z (Ab (AW (Ab (Ae ?_)))))
  obtain ⟨x7,hx8⟩:∃ z9,xs[k]?=some z9:=⟨_,List.getElem?_eq_getElem (show k<xs.length by omega)⟩
  have th9:=H.thR 0 rfl hx8
  refine V U U (Ba (p:=AT A1+k*2) U BA U U (by omega) (by omega) th9 U) (V U U (Bu (cs:=[.string x7.key,.string x7.val]) U Cb U U (H.elsR 0 U hx8 U)) (Dr U U U CT H (fun b10 w H=>(Bo U U U Cb U U H U (Nat.le_of_ble_eq_true U) (fun u hu=>by simp [Value.cells] at hu;rcases hu with rfl|rfl<;>rfl) (fun w H=>?_)))))
  replace H:=H.h2 (A:=blk b10 [.string x7.key,.string x7.val] 106) (B:=Y Ag l (E8 (xs.take k) n p))
  refine Ac (Z (Ab ?_))
  have hkx:=hk _ (B6 hx8)
  refine Ae (V U U (Aj U Fh U) (V U U (Ao U BV U (H.cellI 0 U U)) (Ad U (sc (XE x7.key n (by first |omega|decide) (by first |omega|decide)) H l0 U U (At Va U U) ?_))))
  rintro _ _ w ⟨rfl,rfl⟩ H
  refine Ad U (V U U (Bv U U U) (Ac (Z ?_)))
  refine Az U (fun h11=>?_) (fun h11=>?_)
  ·refine Ae (Ad U (V U U (Bu (cs:=[.string x7.key,.string x7.val]) U Cb U U (H.cellsI 0 U U)) (BU (parts:=[(0,.tmp 23)]) (vs:=[.agg #[.string x7.key,.string x7.val]]) (cs:=[.string x7.key,.string x7.val]) U U U BA CT U (by decide) (by decide) U U H (fun b12 w H=>?_))))
   replace H:=H.p2
   refine CG (xs:=E8 (xs.take k) n p) (ys:=[x7]) U U U BA CT U (by decide) U U H (by omega) (fun F hA hR=>Ch (hA _ (List.mem_of_getElem? (i:=0) U)) U (by decide) (AZ.flat_eq.2 U)) (fun v13 w H=>(Ad U (Ac (A_ (Z ?_)))))
   replace H:Hd _ _ _ [Y Ag v13 ((E8 (xs.take k) n p)++[x7]),blk b12 [.string x7.key,.string x7.val] 106,blk b10 [.string x7.key,.string x7.val] 106] [Aa Ag (.slice A1 xs.length c2) xs]:=H
   refine Ae (V U U (A0 (z:=((k+1:Nat):Int)) U U U (by rw [AF (by omega) (by omega)];omega)) (Ad U (Ac ?_)))
   rw [←Xe hx8 h11] at H
   replace H:=H.k1
   exact Bl (s:=(k,undef)) (k+1,v13) ⟨rfl,rfl,rfl,rfl,rfl,rfl,rfl,trivial⟩ ⟨H,by (try dsimp only);omega⟩ (by (try dsimp only);omega)
  refine Aw (A_ (Z (Ae (V U U (A0 (z:=((k+1:Nat):Int)) U U U (by rw [AF (by omega) (by omega)];omega)) (Ad U (Ac ?_))))))
  rw [←Xd hx8 h11] at H
  replace H:=H.sel 2 [1] [0] rfl (by kernel_rfl)
  exact Bl (s:=(k,undef)) (k+1,l) ⟨rfl,rfl,rfl,rfl,rfl,rfl,rfl,trivial⟩ ⟨H,by (try dsimp only);omega⟩ (by (try dsimp only);omega)
 refine BM (AR (AR (BN (Z (Ab (Ae (Ah 2 U (Ac (Z (Ap (Aq U U ?_)))))))))))
 rw [List.take_of_length_le (show xs.length≤k by omega)] at H
 exact Am U H
theorem Cn.heads0 {α:Type} {d:Kd α} {P:Program} {f:FuncId} {args:List Value} {v:Value} {ss:List (List α)} {Rs:List SP} {T:Value→List SP→Prop}
  (h:∀ us:List (Value×List α),us.map (·.2)=ss→Cn P f args [] (Aa (Ak d) v us::Aa (BB d) v ss::Rs) T):Cn P f args [] (Aa (BB d) v ss::Rs) T:=by
 intro w F H
 obtain ⟨us,hus,H2⟩:=H.heads 0 rfl
 refine (h us hus w F H2).mono ?_
 rintro e W' ⟨v,rfl,Bs,t,H⟩
 exact ⟨v,rfl,Bs,t,H.dropR⟩
theorem Xh {P:Program} {t s i c m:TypeId} {W1:List (List Al)→Prop} {W2:List BG→Prop} {W3:List Int→Prop}
  (hs:Gh P t=some [(s,0,1),(i,1,1),(c,2,1),(c,3,1),(c,4,1),(i,5,1),(i,6,1),(i,7,1),(m,8,1)]) (hc:P.cellsOf t=9) (hi:P.underlying i=some (.int .i64))
  (h1:GO P s (BB (BB Ag)) W1) (h2:GO P c (BB Af) W2) (h3:GO P m (BB (Ai .i64)) W3)
  {H:Type} (enc:TypeId×Value→H) (w:World) (fuel:Nat) (cs:List Value) (x:DataW H×List MemPlace) (h:DataW.trod enc P w 0 (fun _=>true) true fuel t cs=some x):
  ∃ (vS:Value) (ss:List (List Al)) (n1:Int) (vM:Value) (map:List BG) (vC:Value) (comb:List BG) (vR:Value) (red:List BG) (n5 n6 n7:Int) (vK:Value) (marks:List Int),
   cs=[vS,.int .i64 n1,vM,vC,vR,.int .i64 n5,.int .i64 n6,.int .i64 n7,vK]∧((Aa (BB Ag) vS ss).P w (Fe w)∧(Aa Af vM map).P w (Fe w)∧(Aa Af vC comb).P w (Fe w)∧(Aa Af vR red).P w (Fe w)∧(Aa (Ai .i64) vK marks).P w (Fe w))∧
   (W1 ss∧W2 map∧W2 comb∧W2 red∧W3 marks)∧(Ax n1∧Ax n5∧Ax n6∧Ax n7):=by
 obtain ⟨hl,n,hf⟩:=Ku hs h
 rw [hc] at hl
 match cs,hl with
 |[c0,c1,c2,c3,c4,c5,c6,c7,c8],_=>
  obtain ⟨y0,g0⟩:=hf 0 _ _ _ rfl
  obtain ⟨y1,g1⟩:=hf 1 _ _ _ rfl
  obtain ⟨y2,g2⟩:=hf 2 _ _ _ rfl
  obtain ⟨y3,g3⟩:=hf 3 _ _ _ rfl
  obtain ⟨y4,g4⟩:=hf 4 _ _ _ rfl
  obtain ⟨y5,g5⟩:=hf 5 _ _ _ rfl
  obtain ⟨y6,g6⟩:=hf 6 _ _ _ rfl
  obtain ⟨y7,g7⟩:=hf 7 _ _ _ rfl
  obtain ⟨y8,g8⟩:=hf 8 _ _ _ rfl
  obtain ⟨a0,r0,w0⟩:=h1 enc w n _ _ g0
  obtain ⟨a1,r1,w1⟩:=Fl hi enc w n _ _ g1
  obtain ⟨a2,r2,w2⟩:=h2 enc w n _ _ g2
  obtain ⟨a3,r3,w3⟩:=h2 enc w n _ _ g3
  obtain ⟨a4,r4,w4⟩:=h2 enc w n _ _ g4
  obtain ⟨a5,r5,w5⟩:=Fl hi enc w n _ _ g5
  obtain ⟨a6,r6,w6⟩:=Fl hi enc w n _ _ g6
  obtain ⟨a7,r7,w7⟩:=Fl hi enc w n _ _ g7
  obtain ⟨a8,r8,w8⟩:=h3 enc w n _ _ g8
  have q1:[c1]=[Value.int .i64 a1]:=r1
  have q5:[c5]=[Value.int .i64 a5]:=r5
  have q6:[c6]=[Value.int .i64 a6]:=r6
  have q7:[c7]=[Value.int .i64 a7]:=r7
  simp only [List.cons.injEq,and_true] at q1 q5 q6 q7
  subst q1 q5 q6 q7
  exact ⟨c0,a0,a1,c2,a2,c3,a3,c4,a4,a5,a6,a7,c8,a8,rfl,⟨r0,r2,r3,r4,r8⟩,⟨w0,w2,w3,w4,w8⟩,w1,w5,w6,w7⟩
structure BC (A B:AG):Prop where
 us:A.us.map (·.2)=B.us.map (·.2)
 rest:A={ B with us:=A.us }
theorem BC.refl (A:AG):BC A A:=⟨rfl,rfl⟩
theorem BC.symm {A B:AG} (h:BC A B):BC B A:=by
 obtain ⟨h1,h2⟩:=h
 refine ⟨h1.symm,?_⟩
 rw [h2]
theorem BC.trans {A B C:AG} (h:BC A B) (k:BC B C):BC A C:=by
 obtain ⟨h1,h2⟩:=h
 obtain ⟨k1,k2⟩:=k
 refine ⟨h1.trans k1,?_⟩
 rw [h2,k2]
section
variable {A B:AG} (h:BC A B)
include h
theorem BC.parts:A.parts=B.parts:=by rw [h.rest]
theorem BC.map:A.map=B.map:=by rw [h.rest]
theorem BC.comb:A.comb=B.comb:=by rw [h.rest]
theorem BC.red:A.red=B.red:=by rw [h.rest]
theorem BC.chunk:A.chunk=B.chunk:=by rw [h.rest]
theorem BC.window:A.window=B.window:=by rw [h.rest]
theorem BC.fuel:A.fuel=B.fuel:=by rw [h.rest]
theorem BC.marks:A.marks=B.marks:=by rw [h.rest]
theorem BC.len:A.us.length=B.us.length:=by have:=congrArg List.length h.us;simpa using this
theorem BC.recs (s:Nat):recs A s=recs B s:=by
 have e:∀ J:AG,X.recs J s=((J.us.map (·.2))[s]?).getD []:=by
  intro J
  unfold X.recs
  rw [List.getElem?_map]
  cases J.us[s]?<;>rfl
 rw [e,e,h.us]
theorem BC.split (D:Bg) (s:Nat):AB D A s=AB D B s:=by
 unfold AB mapM
 rw [h.recs,h.map,h.comb,h.fuel]
theorem BC.only (D:Bg) (s:Nat) (p:Int):B0 D A s p=B0 D B s p:=by
 unfold B0
 rw [h.split,h.parts]
theorem BC.all (D:Bg) (p:Int):∀ k,I2 D A p k=I2 D B p k
 |0=>rfl
 |k+1=>by unfold I2;rw [BC.all D p k,h.only]
theorem BC.part (D:Bg) (p:Int):Iy D A p=Iy D B p:=by
 unfold Iy
 rw [h.all,h.red,h.fuel,h.len]
theorem BC.run (D:Bg) (s:Nat) (p:Int):CD D A s p=CD D B s p:=by
 unfold CD
 rw [h.split,h.only]
theorem BC.partsGo (D:Bg):∀ k p out,partsGo D A k p out=partsGo D B k p out
 |0,_,_=>rfl
 |k+1,p,out=>by unfold X.partsGo;rw [h.part,BC.partsGo D k]
theorem BC.wholeGo (D:Bg):∀ k s,wholeGo D A k s=wholeGo D B k s
 |0,_=>by unfold X.wholeGo;rw [h.partsGo,h.parts]
 |k+1,s=>by unfold X.wholeGo;rw [h.split,BC.wholeGo D k]
theorem BC.whole (D:Bg):M4 D A=M4 D B:=by
 unfold M4
 rw [h.wholeGo,h.len]
theorem BC.may (m:D9 A):D9 B:=by
 obtain ⟨m1,m2,m3,m4,m5,m6,m7,m8,m9,m10,m11⟩:=m
 have hs:∀ u∈B.us,GC u.2:=by
  intro u hu
  have:u.2∈B.us.map (·.2):=List.mem_map_of_mem hu
  rw [←h.us] at this
  obtain ⟨v,hv,e⟩:=List.mem_map.1 this
  rw [←e];exact m4 v hv
 rw [h.len,h.marks] at m5
 rw [h.parts] at m2;rw [h.marks] at m3;rw [h.map] at m6;rw [h.red] at m7;rw [h.comb] at m8;rw [h.chunk] at m9;rw [h.window] at m10;rw [h.fuel] at m11
 exact ⟨by rw [←h.len];exact m1,m2,m3,hs,m5,m6,m7,m8,m9,m10,m11⟩
theorem BC.ok (k:B5 A):B5 B:=⟨h.may k.may,by have:=k.map;rwa [h.map] at this,by have:=k.comb;rwa [h.comb] at this,by have:=k.red;rwa [h.red] at this⟩
end
theorem B5.chunk1 {J:AG} (h:B5 J):1≤J.chunk∧J.chunk≤7:=h.may.2.2.2.2.2.2.2.2.1
theorem B5.window1 {J:AG} (h:B5 J):1≤J.window∧J.window≤4:=h.may.2.2.2.2.2.2.2.2.2.1
structure Cf where
 J:AG
 w:Int
 t:Int
 o:Int
def D1 (C:Cf):Prop:=D9 C.J∧(1≤C.w∧C.w≤4)∧(1≤C.t∧C.t≤3)∧1≤C.o∧C.o≤50
instance mayCD (C:Cf):Decidable (D1 C):=by unfold D1;infer_instance
structure FG (A B:Cf):Prop where
 J:BC A.J B.J
 w:A.w=B.w
 t:A.t=B.t
 o:A.o=B.o
theorem FG.refl (A:Cf):FG A A:=⟨BC.refl _,rfl,rfl,rfl⟩
theorem FG.symm {A B:Cf} (h:FG A B):FG B A:=⟨h.J.symm,h.w.symm,h.t.symm,h.o.symm⟩
theorem FG.trans {A B C:Cf} (h:FG A B) (k:FG B C):FG A C:=⟨h.J.trans k.J,h.w.trans k.w,h.t.trans k.t,h.o.trans k.o⟩
structure H6 (C:Cf):Prop where
 may:D1 C
 ok:B5 C.J
theorem FG.may {A B:Cf} (h:FG A B) (m:D1 A):D1 B:=⟨h.J.may m.1,by rw [←h.w];exact m.2.1,by rw [←h.t];exact m.2.2.1,by rw [←h.o];exact m.2.2.2⟩
theorem H6.w {C:Cf} (h:H6 C):1≤C.w∧C.w≤4:=h.may.2.1
theorem H6.t {C:Cf} (h:H6 C):1≤C.t∧C.t≤3:=h.may.2.2.1
theorem H6.o {C:Cf} (h:H6 C):1≤C.o∧C.o≤50:=h.may.2.2.2
def Io (C:Cf) (p:Int):Int:=if ¬ D1 C∨¬ (0≤p∧p≤C.J.parts - 1) then 0 else 1+p.tmod C.w
/-! ### Records and messages in plain words -/
structure Dl where
 kind:Int
 part:Int
 sp:Int
 att:Int
 why:Int
 set:List Int
 pairs:List Al
def AX.p (r:AX):Dl:=⟨r.kind,r.part,r.sp,r.att,r.why,r.set,r.pairs⟩
structure Bt where
 kind:Int
 sp:Int
 att:Int
 part:Int
 seq:Int
 next:Int
 ep:Int
 why:Int
 set:List Int
 pairs:List Al
def Jm:Bt:=⟨0,0,0,0,0,0,0,0,[],[]⟩
/-! ### Chunks that wait -/
abbrev CW:=List ((Int×Int)×List (List Al))
def B3:CW→Int→Int→List (List Al)
 |[],_,_=>[]
 |e::s,a,b=>if e.1.1=a∧e.1.2=b then e.2 else B3 s a b
def Ei:CW→Int→Int→List Al→CW
 |[],a,b,x=>[((a,b),[x])]
 |e::s,a,b,x=>if e.1.1=a∧e.1.2=b then (e.1,e.2++[x])::s else e::Ei s a b x
def Co (s:CW) (a b:Int):Int:=((B3 s a b).length:Int)
def KJ (s:CW) (a b q:Int):Prop:=q=Co s a b∧(0≤a∧a<6)∧(1≤b∧b≤3)∧q<40
instance (s:CW) (a b q:Int):Decidable (KJ s a b q):=by unfold KJ;infer_instance
def C3 (s:CW) (a b q:Int) (x:List Al):CW:=if KJ s a b q then Ei s a b x else s
def AD (s:CW) (a b n:Int):Option (List Al):=if n<0∨Co s a b≠n then none else some (B3 s a b).flatten
def D4 (s:CW) (a:Int):CW:=s.filter fun e=>decide (e.1.1≠a)
/-! ### A reducer -/
structure CV where
 merged:Bool
 pairs:List Al
 told:Bool
 att:Int
 cnt:Int
def KL:CV:=⟨false,[],false,0,0⟩
def AQ {α:Type} (g:Nat→α) (k:Nat) (v:α):Nat→α:=fun j=>if j=k then v else g j
theorem DR {α:Type} (g:Nat→α) (k:Nat) (v:α):AQ g k v k=v:=if_pos rfl
theorem Eb {α:Type} (g:Nat→α) {k j:Nat} (v:α) (h:j≠k):AQ g k v j=g j:=if_neg h
structure AC where
 part:Int
 ep:Int
 g:Nat→CV
 st:CW
 sets:List (List Int)
def GE (part ep:Int):AC:=⟨part,ep,fun _=>KL,[],[]⟩
def Do (n:Nat) (R:AC) (x:Dl):AC:=
 if x.part≠R.part then R else
 let R1:AC:=if x.kind=4∧(0≤x.sp∧x.sp<n)∧(R.g x.sp.toNat).merged=false then { R with g:=AQ R.g x.sp.toNat { R.g x.sp.toNat with merged:=true,pairs:=x.pairs } } else R
 if x.kind=5 then { R1 with sets:=R1.sets++[x.set] } else R1
def C2 (n:Nat) (part ep:Int) (rs:List Dl):AC:=rs.foldl (Do n) (GE part ep)
def Av (n:Nat) (R:AC):List Int:=((List.range n).filter fun i=>(R.g i).merged).map fun (i:Nat)=>(i:Int)
def Ck (n:Nat) (R:AC) (set:List Int):List Al:=((List.range n).filter fun i=>(R.g i).merged && decide ((i:Int)∈set)).flatMap fun i=>(R.g i).pairs
def DH (D:Bg) (J:AG) (R:AC) (set:List Int):List Al×Int:=BX D J.red (srt (Ck J.us.length R set)) J.fuel false
def D3 (D:Bg) (J:AG) (R:AC):List Al×Int×Bool:=
 if (Av J.us.length R).length<J.us.length then ([],0,false) else ((DH D J R (Av J.us.length R)).1,(DH D J R (Av J.us.length R)).2,true)
theorem Jl (n:Nat) (R:AC):(Av n R).length≤n:=by
 unfold Av
 rw [List.length_map]
 exact Nat.le_trans (List.length_filter_le _ _) (by simp)
theorem PR (n:Nat) (R:AC):Av (n+1) R=Av n R++(if (R.g n).merged then [(n:Int)] else []):=by
 unfold Av
 rw [List.range_succ,List.filter_append,List.map_append]
 cases h:(R.g n).merged<;>simp [h]
theorem Ra (n:Nat) (R:AC) (set:List Int):Ck (n+1) R set=Ck n R set++(if (R.g n).merged=true∧(n:Int)∈set then (R.g n).pairs else []):=by
 unfold Ck
 rw [List.range_succ,List.filter_append,List.flatMap_append]
 by_cases h:(R.g n).merged=true∧(n:Int)∈set
 ·rw [if_pos h];simp [h.1,h.2]
 ·rw [if_neg h]
  have:((R.g n).merged && decide ((n:Int)∈set))=false:=by
   cases h1:(R.g n).merged
   ·rfl
   ·simpa using fun h2=>h ⟨h1,h2⟩
  simp [this]
theorem PV (n:Nat) (part ep:Int) (rs:List Dl) (x:Dl):C2 n part ep (rs++[x])=Do n (C2 n part ep rs) x:=by
 unfold C2;rw [List.foldl_append];rfl
theorem Yp (n:Nat) (R:AC) (x:Dl):(Do n R x).part=R.part∧(Do n R x).ep=R.ep∧(Do n R x).st=R.st:=by
 unfold Do
 dsimp only
 split
 ·exact ⟨rfl,rfl,rfl⟩
 ·split<;>(split<;>exact ⟨rfl,rfl,rfl⟩)
theorem Gz (n:Nat) (part ep:Int) (rs:List Dl):(C2 n part ep rs).part=part∧(C2 n part ep rs).ep=ep∧(C2 n part ep rs).st=[]:=by
 have:∀ (rs:List Dl) (R:AC),(rs.foldl (Do n) R).part=R.part∧(rs.foldl (Do n) R).ep=R.ep∧(rs.foldl (Do n) R).st=R.st:=by
  intro rs
  induction rs with
  |nil=>exact fun R=>⟨rfl,rfl,rfl⟩
  |cons x rs ih=>
   intro R
   obtain ⟨h1,h2,h3⟩:=ih (Do n R x)
   obtain ⟨g1,g2,g3⟩:=Yp n R x
   exact ⟨h1.trans g1,h2.trans g2,h3.trans g3⟩
 exact this rs (GE part ep)
/-! ### What a part knows when it begins -/
/-! ### Records of all splits, in whatever order -/
/-! ### What it hears, what it tells -/
def CZ (J:AG) (R:AC) (n:Nat):AC×List Dl:=
 if (R.g n).told=false then (R,[]) else
 match AD R.st n (R.g n).att (R.g n).cnt with
 |none=>(R,[])
 |some ps=>
  if 40<ps.length then (R,[]) else
  let R1:AC:={ R with g:=AQ R.g n { R.g n with merged:=true,pairs:=ps },st:=D4 R.st n }
  let l:=Av J.us.length R1
  if (l.length:Int)∈J.marks then ({ R1 with sets:=R1.sets++[l] },[⟨4,R.part,n,(R.g n).att,0,[],ps⟩,⟨5,R.part,0,0,0,l,[]⟩])
  else (R1,[⟨4,R.part,n,(R.g n).att,0,[],ps⟩])
def EV (J:AG) (R:AC) (m:Bt):Prop:=¬ (0≤m.sp∧m.sp<J.us.length)∨m.kind≠2∨m.part≠R.part
instance (J:AG) (R:AC) (m:Bt):Decidable (EV J R m):=by unfold EV;infer_instance
def Fo (R:AC) (m:Bt):Prop:=(R.g m.sp.toNat).merged=false∧m.pairs.length≤8∧G5 m.pairs
instance (R:AC) (m:Bt):Decidable (Fo R m):=by unfold Fo;infer_instance
def EW (J:AG) (R:AC) (m:Bt):AC×List Dl:=
 if Fo R m then CZ J { R with st:=C3 R.st m.sp m.att m.seq m.pairs } m.sp.toNat else (R,[])
def La (R:AC) (m:Bt):Bt:=
 ⟨3,m.sp,m.att,R.part,0,if (R.g m.sp.toNat).merged=true then 40 else Co R.st m.sp m.att,R.ep,0,[],[]⟩
def Bm (J:AG) (R:AC) (m:Bt):AC×Bt×List Dl:=
 if EV J R m then (R,Jm,[]) else ((EW J R m).1,La (EW J R m).1 m,(EW J R m).2)
def M5 (J:AG) (t:Int) (R:AC) (sp att:Int):Prop:=¬ (0≤sp∧sp<J.us.length)∨(R.g sp.toNat).merged=true∨(R.g sp.toNat).told=true∨att<1∨t<att
instance (J:AG) (t:Int) (R:AC) (sp att:Int):Decidable (M5 J t R sp att):=by unfold M5;infer_instance
def Dp (J:AG) (t:Int) (R:AC) (sp att cnt:Int):AC×List Dl:=
 if M5 J t R sp att then (R,[]) else CZ J { R with g:=AQ R.g sp.toNat { R.g sp.toNat with told:=true,att:=att,cnt:=cnt } } sp.toNat
structure GP where
 set:List Int
 why:Int
 pairs:List Al
def Et (D:Bg) (J:AG) (R:AC):List GP:=R.sets.map fun set=>⟨set,(DH D J R set).2,(DH D J R set).1⟩
section
variable {w0 w:World} {F0:AN} {As Bs Rs:List SP} {A B:SP}
theorem Hd.exA {α:Sort _} {A:α→SP} (h:Hd w0 F0 w (ex A::As) Rs):∃ a,Hd w0 F0 w (A a::As) Rs:=by
 obtain ⟨F,G,⟨F1,F2,h1,h2,h3,⟨a,ha⟩,s⟩,r⟩:=h
 exact ⟨a,F,G,⟨F1,F2,h1,h2,h3,ha,s⟩,r⟩
theorem Hd.exI {α:Sort _} {A:α→SP} (a:α) (h:Hd w0 F0 w (A a::As) Rs):Hd w0 F0 w (ex A::As) Rs:=h.turn fun _ ha=>⟨a,ha⟩
theorem Hd.stA (h:Hd w0 F0 w (CO Bs::As) Rs):Hd w0 F0 w (Bs++As) Rs:=h.open_ fun _ h=>h
theorem Hd.stI (h:Hd w0 F0 w (Bs++As) Rs):Hd w0 F0 w (CO Bs::As) Rs:=h.shut fun _ h=>h
theorem Hd.puA {p:Prop} (h:Hd w0 F0 w (C0 p::As) Rs):p∧Hd w0 F0 w As Rs:=⟨h.fact (List.mem_cons_self ..) fun _ h=>h,h.drop⟩
theorem Hd.puI {p:Prop} (hp:p) (h:Hd w0 F0 w As Rs):Hd w0 F0 w (C0 p::As) Rs:=h.shut (Bs:=[]) fun _ _=>hp
def Bf {α:Type} (f:α→SP) (l:List α):SP:=CO (l.map f)
theorem Hd.big0 {α:Type} (f:α→SP) (h:Hd w0 F0 w As Rs):Hd w0 F0 w (Bf f []::As) Rs:=h.shut (Bs:=[]) fun _ _=>trivial
theorem JZ {α:Type}:∀ (l:List α) (i:Nat) {x:α},l[i]?=some x→l.Perm (x::l.eraseIdx i)
 |[],_,_,h=>by simp at h
 |y::l,0,x,h=>by
  obtain rfl:y=x:=by simpa using h
  exact List.Perm.refl _
 |y::l,i+1,x,h=>((JZ l i (by simpa using h)).cons y).trans (List.Perm.swap _ _ _)
theorem Hd.bigO {α:Type} {f:α→SP} {l:List α} {x:α} (i:Nat) (hx:l[i]?=some x) (h:Hd w0 F0 w (Bf f l::As) Rs):Hd w0 F0 w (f x::Bf f (l.eraseIdx i)::As) Rs:=by
 have h1:=h.stA.perm (((JZ l i hx).map f).append_right As)
 have h2:Hd w0 F0 w (((l.eraseIdx i).map f++As)++[f x]) Rs:=h1.perm (by rw [List.map_cons,List.cons_append];exact (List.perm_append_comm (l₁:=[f x])))
 have h3:Hd w0 F0 w ((l.eraseIdx i).map f++(As++[f x])) Rs:=by rw [←List.append_assoc];exact h2
 exact (show Hd w0 F0 w (Bf f (l.eraseIdx i)::(As++[f x])) Rs from h3.stI).perm (List.perm_append_comm (l₁:=Bf f (l.eraseIdx i)::As) (l₂:=[f x]))
theorem Hd.bigI {α:Type} {f:α→SP} {l:List α} {x:α} (i:Nat) (hi:i<l.length) (h:Hd w0 F0 w (f x::Bf f (l.eraseIdx i)::As) Rs):Hd w0 F0 w (Bf f (l.set i x)::As) Rs:=by
 have h1:Hd w0 F0 w (Bf f (l.eraseIdx i)::(As++[f x])) Rs:=h.perm (List.perm_append_comm (l₁:=[f x]) (l₂:=Bf f (l.eraseIdx i)::As))
 have h2:Hd w0 F0 w ((l.eraseIdx i).map f++As++[f x]) Rs:=by rw [List.append_assoc];exact h1.stA
 have h3:Hd w0 F0 w ((x::l.eraseIdx i).map f++As) Rs:=h2.perm (List.perm_append_comm (l₁:=(l.eraseIdx i).map f++As) (l₂:=[f x]))
 have hp:(l.set i x).Perm (x::l.eraseIdx i):=by
  have:=JZ (l.set i x) i (x:=x) (by rw [List.getElem?_set_self hi])
  rwa [List.eraseIdx_set_eq] at this
 exact (h3.perm ((hp.symm.map f).append_right As)).stI
theorem Hd.bigN {α:Type} {f:α→SP} {l:List α} {x:α} (h:Hd w0 F0 w (f x::Bf f l::As) Rs):Hd w0 F0 w (Bf f (l++[x])::As) Rs:=by
 have h1:Hd w0 F0 w (Bf f l::(As++[f x])) Rs:=h.perm (List.perm_append_comm (l₁:=[f x]) (l₂:=Bf f l::As))
 have h2:Hd w0 F0 w (l.map f++As++[f x]) Rs:=by rw [List.append_assoc];exact h1.stA
 have h3:Hd w0 F0 w ((x::l).map f++As) Rs:=h2.perm (List.perm_append_comm (l₁:=l.map f++As) (l₂:=[f x]))
 exact (h3.perm (((List.perm_append_comm (l₁:=[x]) (l₂:=l)).map f).append_right As)).stI
end
def AJ (vS vM vC vR vK:Value) (J:AG) (w t o part ep:Int) (g:Nat→CV) (hv:Nat→Value) (sb:Nat) (vs:Value):List Value:=
 [vS,.int .i64 J.parts,vM,vC,vR,.int .i64 J.chunk,.int .i64 J.window,.int .i64 J.fuel,vK,.int .i64 w,.int .i64 t,.int .i64 o,.int .i64 part,.int .i64 ep,
  .bool (g 0).merged,hv 0,.bool (g 0).told,.int .i64 (g 0).att,.int .i64 (g 0).cnt,
  .bool (g 1).merged,hv 1,.bool (g 1).told,.int .i64 (g 1).att,.int .i64 (g 1).cnt,
  .bool (g 2).merged,hv 2,.bool (g 2).told,.int .i64 (g 2).att,.int .i64 (g 2).cnt,
  .bool (g 3).merged,hv 3,.bool (g 3).told,.int .i64 (g 3).att,.int .i64 (g 3).cnt,
  .bool (g 4).merged,hv 4,.bool (g 4).told,.int .i64 (g 4).att,.int .i64 (g 4).cnt,
  .bool (g 5).merged,hv 5,.bool (g 5).told,.int .i64 (g 5).att,.int .i64 (g 5).cnt,
  .pointer (some ⟨sb,0,none⟩),vs]
section
variable {vS vM vC vR vK vs:Value} {J:AG} {w t o part ep:Int} {g:Nat→CV} {hv:Nat→Value} {sb j:Nat}
theorem GF (h:j<6):(AJ vS vM vC vR vK J w t o part ep g hv sb vs)[14+j*5+0]?=some (.bool (g j).merged):=by
 match j,h with
 |0,_=>rfl
 |1,_=>rfl
 |2,_=>rfl
 |3,_=>rfl
 |4,_=>rfl
 |5,_=>rfl
theorem QK (h:j<6):(AJ vS vM vC vR vK J w t o part ep g hv sb vs)[14+j*5+1]?=some (hv j):=by
 match j,h with
 |0,_=>rfl
 |1,_=>rfl
 |2,_=>rfl
 |3,_=>rfl
 |4,_=>rfl
 |5,_=>rfl
theorem QL (h:j<6):(AJ vS vM vC vR vK J w t o part ep g hv sb vs)[14+j*5+2]?=some (.bool (g j).told):=by
 match j,h with
 |0,_=>rfl
 |1,_=>rfl
 |2,_=>rfl
 |3,_=>rfl
 |4,_=>rfl
 |5,_=>rfl
theorem QM (h:j<6):(AJ vS vM vC vR vK J w t o part ep g hv sb vs)[14+j*5+3]?=some (.int .i64 (g j).att):=by
 match j,h with
 |0,_=>rfl
 |1,_=>rfl
 |2,_=>rfl
 |3,_=>rfl
 |4,_=>rfl
 |5,_=>rfl
theorem Yw (h:j<6):(AJ vS vM vC vR vK J w t o part ep g hv sb vs)[14+j*5+4]?=some (.int .i64 (g j).cnt):=by
 match j,h with
 |0,_=>rfl
 |1,_=>rfl
 |2,_=>rfl
 |3,_=>rfl
 |4,_=>rfl
 |5,_=>rfl
theorem QO (h:j<6) (b:Bool):Ea (AJ vS vM vC vR vK J w t o part ep g hv sb vs) (14+j*5+0) [.bool b]=AJ vS vM vC vR vK J w t o part ep (AQ g j { g j with merged:=b }) (hv) sb vs:=by
 match j,h with
 |0,_=>rfl
 |1,_=>rfl
 |2,_=>rfl
 |3,_=>rfl
 |4,_=>rfl
 |5,_=>rfl
theorem QP (h:j<6) (v:Value):Ea (AJ vS vM vC vR vK J w t o part ep g hv sb vs) (14+j*5+1) [v]=AJ vS vM vC vR vK J w t o part ep (g) (AQ hv j v) sb vs:=by
 match j,h with
 |0,_=>rfl
 |1,_=>rfl
 |2,_=>rfl
 |3,_=>rfl
 |4,_=>rfl
 |5,_=>rfl
theorem Yx (h:j<6) (b:Bool):Ea (AJ vS vM vC vR vK J w t o part ep g hv sb vs) (14+j*5+2) [.bool b]=AJ vS vM vC vR vK J w t o part ep (AQ g j { g j with told:=b }) (hv) sb vs:=by
 match j,h with
 |0,_=>rfl
 |1,_=>rfl
 |2,_=>rfl
 |3,_=>rfl
 |4,_=>rfl
 |5,_=>rfl
theorem Yy (h:j<6) (n:Int):Ea (AJ vS vM vC vR vK J w t o part ep g hv sb vs) (14+j*5+3) [.int .i64 n]=AJ vS vM vC vR vK J w t o part ep (AQ g j { g j with att:=n }) (hv) sb vs:=by
 match j,h with
 |0,_=>rfl
 |1,_=>rfl
 |2,_=>rfl
 |3,_=>rfl
 |4,_=>rfl
 |5,_=>rfl
theorem Yz (h:j<6) (n:Int):Ea (AJ vS vM vC vR vK J w t o part ep g hv sb vs) (14+j*5+4) [.int .i64 n]=AJ vS vM vC vR vK J w t o part ep (AQ g j { g j with cnt:=n }) (hv) sb vs:=by
 match j,h with
 |0,_=>rfl
 |1,_=>rfl
 |2,_=>rfl
 |3,_=>rfl
 |4,_=>rfl
 |5,_=>rfl
end
def G_ (g:Nat→CV) (hv:Nat→Value):Nat→SP:=fun i=>Y Ag (hv i) (g i).pairs
def AO (g:Nat→CV) (hv:Nat→Value):SP:=Bf (G_ g hv) (List.range 6)
def MB (g:Nat→CV) (hv:Nat→Value) (i:Nat):SP:=Bf (G_ g hv) ((List.range 6).eraseIdx i)
theorem QE {n i:Nat} (h:i<n):(List.range n)[i]?=some i:=by simp [h]
theorem NG {α:Type} {f f':α→SP} {l:List α} (h:∀ x∈l,f x=f' x):Bf f l=Bf f' l:=by
 unfold Bf;rw [List.map_congr_left h]
theorem TO {n i j:Nat} (hi:i<n) (h:j∈(List.range n).eraseIdx i):j≠i:=by
 intro e
 subst e
 have hn:((List.range n).eraseIdx j).Nodup:=(List.nodup_range (n:=n)).sublist (List.eraseIdx_sublist _ _)
 have hp:=JZ (List.range n) j (QE hi)
 have:=hp.nodup_iff.1 List.nodup_range
 exact (List.nodup_cons.1 this).1 h
theorem NI {α:Type} {f:α→SP} {l:List α} {w:World} {F:AN} (h:(Bf f l).P w F) {x:α} (hx:x∈l):(f x).P w F:=Cg.mem h (List.mem_map_of_mem hx)
section
variable {w0 w:World} {F0:AN} {As Rs:List SP} {g:Nat→CV} {hv:Nat→Value} {i:Nat}
theorem Hd.prsO (hi:i<6) (H:Hd w0 F0 w (AO g hv::As) Rs):Hd w0 F0 w (Y Ag (hv i) (g i).pairs::MB g hv i::As) Rs:=H.bigO (f:=G_ g hv) i (QE hi)
theorem Hd.bigGI {f f':Nat→SP} {n:Nat} (hi:i<n) (he:∀ j,j≠i→f j=f' j) (H:Hd w0 F0 w (f' i::Bf f ((List.range n).eraseIdx i)::As) Rs):Hd w0 F0 w (Bf f' (List.range n)::As) Rs:=by
 rw [NG fun j hj=>he j (TO hi hj)] at H
 have:=H.bigI (f:=f') i (by simpa using hi)
 rwa [show (List.range n).set i i=List.range n from ?_] at this
 apply List.ext_getElem? 
 intro k
 rw [List.getElem?_set]
 split
 ·rename_i e;subst e;simp [hi]
 ·rfl
theorem Hd.prsI (hi:i<6) {x:CV} {v:Value} (H:Hd w0 F0 w (Y Ag v x.pairs::MB g hv i::As) Rs):Hd w0 F0 w (AO (AQ g i x) (AQ hv i v)::As) Rs:=by
 refine Hd.bigGI (f:=G_ g hv) (f':=G_ (AQ g i x) (AQ hv i v)) hi (fun j hj=>?_) ?_
 ·unfold G_;rw [Eb g x hj,Eb hv v hj]
 ·show Hd w0 F0 w (Y Ag (AQ hv i v i) (AQ g i x i).pairs::MB g hv i::As) Rs
  rw [DR,DR];exact H
theorem MC {F:AN} (hi:i<6) (h:(AO g hv).P w F):(Aa Ag (hv i) (g i).pairs).P w F:=BE F (NI h (x:=i) (List.mem_range.2 hi))
theorem XP:∀ {w:World} {F:AN},(AO (fun _=>KL) (fun _=>.slice none 0 0)).P w F:=by
 intro w F
 have:∀ l:List Nat,Cg (l.map (G_ (fun _=>KL) (fun _=>.slice none 0 0))) w F:=by
  intro l
  induction l with
  |nil=>trivial
  |cons a l ih=>exact ⟨none_,F,fun _ h=>h.elim,fun _ h=>h,fun _ h=>h.elim,Mt Ag w none_ trivial,ih⟩
 exact this _
theorem Hd.prsN (H:Hd w0 F0 w As Rs):Hd w0 F0 w (AO (fun _=>KL) (fun _=>.slice none 0 0)::As) Rs:=H.shut (Bs:=[]) fun _ _=>XP
theorem UA {α:Type} {d:Kd α} {F:AN} {v:Value} {us:List (Value×List α)} (h:(Aa Dq v (us.map fun u=>FB u.1)).P w F) (hu:∀ p∈us,(Aa d p.1 p.2).P w F):(Aa (Ak d) v us).P w F:=by
 obtain ⟨A,m,c,e,h1,h2,h3,cs,h4,h5⟩:=h
 refine ⟨A,m,c,e,by simpa using h1,h2,h3,cs,h4,?_⟩
 have hcs:cs=(us.map fun u=>FB u.1).flatMap I7:=AZ.flat_eq.1 h5
 have:(us.map fun u=>FB u.1).flatMap I7=us.map (·.1):=by
  clear h5 hcs h1
  induction us with
  |nil=>rfl
  |cons p us ih=>
   obtain ⟨A,c,e,_⟩:=Er (hu p (List.mem_cons_self ..))
   rw [List.map_cons,List.flatMap_cons,ih fun q hq=>hu q (List.mem_cons_of_mem _ hq),List.map_cons,e]
   rfl
 rw [hcs,this]
 exact QS hu
end
/-! ### A row of headers held, and each slice held: a slice of slices held -/
section
variable {α:Type} {d:Kd α} {w0 w:World} {F F0:AN} {As Rs:List SP} {v:Value} {us:List (Value×List α)}
def Br (us:List (Value×List α)):List EJ:=us.map fun u=>FB u.1
def Ga (d:Kd α) (us:List (Value×List α)):SP:=Bf (fun u:Value×List α=>Y d u.1 u.2) us
theorem QU:∀ {us:List (Value×List α)} {F:AN},(Ga d us).P w F→CA (Ak d) w F us (us.map (·.1))
 |[],_,_=>rfl
 |u::us,F,⟨F1,F2,h1,h2,h3,a,s⟩=>⟨F1,F2,[u.1],us.map (·.1),h1,h2,h3,rfl,⟨rfl,a⟩,QU (us:=us) s⟩
theorem OO (h:∀ u∈us,∃ A n c,u.1=.slice A n c):(Br us).flatMap I7=us.map (·.1):=by
 unfold Br
 induction us with
 |nil=>rfl
 |cons p us ih=>
  obtain ⟨A,n,c,e⟩:=h p (List.mem_cons_self ..)
  rw [List.map_cons,List.flatMap_cons,ih fun q hq=>h q (List.mem_cons_of_mem _ hq),List.map_cons,e]
  rfl
theorem UF {w:World} {F:AN} (h:(Ga d us).P w F):∀ u∈us,∃ A n c,u.1=.slice A n c:=fun u hu=>by
 obtain ⟨A,c,e,_⟩:=Er (BE F (NI h hu))
 exact ⟨A,_,c,e⟩
theorem Hd.hdI (H:Hd w0 F0 w (Y Dq v (Br us)::Ga d us::As) Rs):Hd w0 F0 w (Y (Ak d) v us::As) Rs:=by
 refine H.turn2 fun F1 F2 hd h1 h2=>?_
 obtain ⟨A,n,c,e,hl,cs,G1,G2,s1,s2,dj,row,reps⟩:=h1
 have hcs:cs=us.map (·.1):=(AZ.flat_eq.1 reps.toR).trans (OO (UF h2))
 subst hcs
 exact ⟨A,n,c,e,by simpa [Br] using hl,_,G1,F2,fun k hk=>.inl (s1 k hk),fun k hk=>.inr hk,fun k hk hg=>hd k (s1 k hk) hg,row,QU h2⟩
theorem UB {F:AN} (h:(Aa (Ak d) v us).P w F):(Aa Dq v (Br us)).P w F:=by
 obtain ⟨A,m,c,e,h1,h2,h3,cs,h4,h5⟩:=h
 refine ⟨A,m,c,e,by simpa [Br] using h1,h2,h3,cs,h4,AZ.flat_eq.2 ?_⟩
 have hall:=ON h5
 have:∀ {us:List (Value×List α)} {cs:List Value},AZ (Ak d) w F us cs→cs=us.map (·.1):=by
  intro us
  induction us with
  |nil=>intro cs h;exact h
  |cons u us ih=>rintro cs ⟨c,cs',e,h1,h2⟩;rw [e,h1.1,ih h2];rfl
 rw [this h5]
 exact (OO fun u hu=>by
  obtain ⟨A,c,e,_⟩:=Er (hall u hu)
  exact ⟨A,_,c,e⟩).symm
end
/-! ### Told anew -/
section
variable {w0 w:World} {F0:AN} {As Rs:List SP} {g g':Nat→CV} {hv:Nat→Value} {i:Nat}
theorem QN {vS vM vC vR vK vs:Value} {J:AG} {w t o part ep:Int} {sb:Nat} (h:∀ i,(g' i).merged=(g i).merged∧(g' i).told=(g i).told∧(g' i).att=(g i).att∧(g' i).cnt=(g i).cnt):
  AJ vS vM vC vR vK J w t o part ep g hv sb vs=AJ vS vM vC vR vK J w t o part ep g' hv sb vs:=by
 unfold AJ
 rw [(h 0).1,(h 0).2.1,(h 0).2.2.1,(h 0).2.2.2,(h 1).1,(h 1).2.1,(h 1).2.2.1,(h 1).2.2.2,(h 2).1,(h 2).2.1,(h 2).2.2.1,(h 2).2.2.2,(h 3).1,(h 3).2.1,(h 3).2.2.1,(h 3).2.2.2,(h 4).1,(h 4).2.1,(h 4).2.2.1,(h 4).2.2.2,(h 5).1,(h 5).2.1,(h 5).2.2.1,(h 5).2.2.2]
theorem Hd.prsU (hi:i<6) {x:CV} {v:Value} (H:Hd w0 F0 w (Y Ag v x.pairs::AO g hv::As) Rs):Hd w0 F0 w (AO (AQ g i x) (AQ hv i v)::As) Rs:=by
 have h1:=(H.perm (List.Perm.swap _ _ _)).prsO hi
 exact Hd.prsI hi ((h1.drop.perm (List.Perm.swap _ _ _)))
def pick (g:Nat→CV) (set:List Int) (n:Nat):List Nat:=(List.range n).filter fun i=>(g i).merged && decide ((i:Int)∈set)
def DB (g:Nat→CV) (hv:Nat→Value) (set:List Int) (n:Nat):List (Value×List Al):=(pick g set n).map fun i=>(hv i,(g i).pairs)
theorem Mz (g:Nat→CV) (hv:Nat→Value) (set:List Int) (n:Nat):DB g hv set (n+1)=DB g hv set n++(if (g n).merged=true∧(n:Int)∈set then [(hv n,(g n).pairs)] else []):=by
 unfold DB pick
 rw [List.range_succ,List.filter_append,List.map_append]
 by_cases h:(g n).merged=true∧(n:Int)∈set
 ·rw [if_pos h];simp [h.1,h.2]
 ·rw [if_neg h]
  have:((g n).merged && decide ((n:Int)∈set))=false:=by
   cases h1:(g n).merged
   ·rfl
   ·simpa using fun h2=>h ⟨h1,h2⟩
  simp [this]
theorem Qh (R:AC) (hv:Nat→Value) (set:List Int) (n:Nat):BK (DB R.g hv set n)=Ck n R set:=by
 unfold BK DB Ck pick
 rw [List.flatMap_map]
theorem XK (g:Nat→CV) (hv:Nat→Value) (set:List Int) (n:Nat):(DB g hv set n).length≤n:=by
 unfold DB pick
 rw [List.length_map]
 exact Nat.le_trans (List.length_filter_le _ _) (by simp)
theorem XL {F:AN} {set:List Int} {n:Nat} (hn:n≤6) (h:(AO g hv).P w F):∀ p∈DB g hv set n,(Aa Ag p.1 p.2).P w F:=by
 intro p hp
 obtain ⟨j,hj,rfl⟩:=List.mem_map.1 hp
 have:=List.mem_range.1 (List.mem_filter.1 hj).1
 exact MC (by omega) h
theorem Q9 {R:AC} {set:List Int} {b:Nat} (h:∀ i,(R.g i).pairs.length≤b):∀ n,(Ck n R set).length≤n*b
 |0=>Nat.zero_le _
 |n+1=>by
  have ih:=Q9 (set:=set) h n
  have:=h n
  rw [Ra,List.length_append,Nat.succ_mul]
  split
  ·omega
  ·simp only [List.length_nil];omega
end
theorem Hd.prsFormR {w0 w:World} {F0:AN} {As Rs:List SP} {g:Nat→CV} {hv:Nat→Value} {i:Nat} (j:Nat) (hj:Rs[j]?=some (AO g hv)) (hi:i<6) (H:Hd w0 F0 w As Rs):∃ A c,hv i=.slice A (g i).pairs.length c∧(g i).pairs.length≤c∧c≤9223372036854775807∧Plain A:=
 H.factR (List.mem_of_getElem? hj) fun F h=>Er (MC hi h)
theorem Yq {n:Nat} {N:AC} {x:Dl} (h1:x.part≠N.part):Do n N x=N:=if_pos h1
theorem KA {n:Nat} {N:AC} {x:Dl} (h1:x.part=N.part) (h4:¬ (x.kind=4∧(0≤x.sp∧x.sp<n)∧(N.g x.sp.toNat).merged=false)) (h5:x.kind≠5):Do n N x=N:=by
 unfold Do
 dsimp only
 rw [if_neg (fun h=>h h1),if_neg h5,if_neg h4]
theorem Yo {n:Nat} {N:AC} {x:Dl} (h1:x.part=N.part) (h4:x.kind=4) (hr:0≤x.sp∧x.sp<n) (hm:(N.g x.sp.toNat).merged=false):Do n N x={ N with g:=AQ N.g x.sp.toNat { N.g x.sp.toNat with merged:=true,pairs:=x.pairs } }:=by
 unfold Do
 dsimp only
 rw [if_neg (fun h=>h h1),if_neg (show ¬ x.kind=5 by omega),if_pos ⟨h4,hr,hm⟩]
theorem ID {n:Nat} {N:AC} {x:Dl} (h1:x.part=N.part) (h5:x.kind=5):Do n N x={ N with sets:=N.sets++[x.set] }:=by
 unfold Do
 dsimp only
 rw [if_neg (fun h=>h h1),if_pos h5,if_neg (fun h=>by have:=h.1;omega)]
theorem FC {n:Nat} {p ep:Int} {recs:List AX} {k:Nat} {x:AX} {R R2:AC} (hR:R=C2 n p ep ((recs.take k).map AX.p)) (hx:recs[k]?=some x) (e:Do n R x.p=R2):R2=C2 n p ep ((recs.take (k+1)).map AX.p):=by
 rw [Fr hx,List.map_append]
 show R2=C2 n p ep (_++[x.p])
 rw [PV,←hR,e]
theorem WO {n:Nat} {p ep:Int} {b:Nat}:∀ {rs:List Dl},(∀ r∈rs,r.pairs.length≤b)→∀ i,((C2 n p ep rs).g i).pairs.length≤b:=by
 have:∀ (rs:List Dl) (R:AC),(∀ r∈rs,r.pairs.length≤b)→(∀ i,(R.g i).pairs.length≤b)→∀ i,((rs.foldl (Do n) R).g i).pairs.length≤b:=by
  intro rs
  induction rs with
  |nil=>intro R _ h;exact h
  |cons x rs ih=>
   intro R hr h
   refine ih (Do n R x) (fun r hr2=>hr r (List.mem_cons_of_mem _ hr2)) fun i=>?_
   have hx:=hr x (List.mem_cons_self ..)
   have key:∀ (R1:AC) (c:Prop) [Decidable c],(if c then { R1 with sets:=R1.sets++[x.set] } else R1).g=R1.g:=by
    intro R1 c _
    split<;>rfl
   unfold Do
   dsimp only
   split
   ·exact h i
   ·rw [key]
    split
    ·dsimp only
     by_cases e:i=x.sp.toNat
     ·subst e;rw [DR];exact hx
     ·rw [Eb _ _ e];exact h i
    ·exact h i
 intro rs hr
 exact this rs (GE p ep) hr fun i=>Nat.zero_le _
theorem ZY (p:Int) {w:Int} (hw:1≤w): -w<p.tmod w∧p.tmod w<w:=by
 have h1:=Int.lt_tmod_of_pos p (show (0:Int)<w by omega)
 have h2:=Int.tmod_lt_of_pos p (show (0:Int)<w by omega)
 omega
theorem Mh (vS:Value) (vM:Value) (vC:Value) (vR:Value) (vK:Value) (C:Cf):
    Cn Tryz.prog 19 [.agg #[vS,.int .i64 C.J.parts,vM,vC,vR,.int .i64 C.J.chunk,.int .i64 C.J.window,.int .i64 C.J.fuel,vK,.int .i64 C.w,.int .i64 C.t,.int .i64 C.o]] [] [Aa (Ak Ag) vS C.J.us,Aa Af vM C.J.map,Aa Af vC C.J.comb,Aa Af vR C.J.red,Aa (Ai .i64) vK C.J.marks] (fun v Bs=>v=.bool (decide (D1 C))∧Bs=[]):=by
 intro w0 F0 H
 obtain ⟨A1,c2,rfl,hc3,hm4,hp5⟩:=H.fR 0 rfl
 obtain ⟨A6,c7,rfl,hc8,hm9,hp10⟩:=H.fR 1 rfl
 obtain ⟨A11,c12,rfl,hc13,hm14,hp15⟩:=H.fR 2 rfl
 obtain ⟨A16,c17,rfl,hc18,hm19,hp20⟩:=H.fR 3 rfl
 obtain ⟨A21,c22,rfl,hc23,hm24,hp25⟩:=H.fR 4 rfl
 refine enter Tryz.func19 U U (Nat.le_of_ble_eq_true U) (Ab (Ae (Cy U U U U H (fun b26 w H=>(Ad U (Ac (Z ?_)))))))
 replace H:Hd _ _ _ [blk b26 [.slice A1 C.J.us.length c2,.int .i64 C.J.parts,.slice A6 C.J.map.length c7,.slice A11 C.J.comb.length c12,.slice A16 C.J.red.length c17,.int .i64 C.J.chunk,.int .i64 C.J.window,.int .i64 C.J.fuel,.slice A21 C.J.marks.length c22,.int .i64 C.w,.int .i64 C.t,.int .i64 C.o] 28] [Aa (Ak Ag) (.slice A1 C.J.us.length c2) C.J.us,Aa Af (.slice A6 C.J.map.length c7) C.J.map,Aa Af (.slice A11 C.J.comb.length c12) C.J.comb,Aa Af (.slice A16 C.J.red.length c17) C.J.red,Aa (Ai .i64) (.slice A21 C.J.marks.length c22) C.J.marks]:=H
 refine Ab (Ae (V U U (Aj U Cu U) (V U U (Bu (cs:=[.slice A1 C.J.us.length c2,.int .i64 C.J.parts,.slice A6 C.J.map.length c7,.slice A11 C.J.comb.length c12,.slice A16 C.J.red.length c17,.int .i64 C.J.chunk,.int .i64 C.J.window,.int .i64 C.J.fuel,.slice A21 C.J.marks.length c22]) U FW U U (H.cellsI 0 U U)) (sc (LT (.slice A1 C.J.us.length c2) (.slice A6 C.J.map.length c7) (.slice A11 C.J.comb.length c12) (.slice A16 C.J.red.length c17) (.slice A21 C.J.marks.length c22) C.J) H (lR 0 U (lR 1 U (lR 2 U (lR 3 U (lR 4 U l0))))) U U (At L9 U U) ?_))))
 rintro _ _ w ⟨rfl,rfl⟩ H
 refine Ad U ?_
 refine AU (d:=6) U (fun h27=>?_) (fun h27=>?_)
 ·refine V U U (Aj U OA U) (V U U (Ao U AE U (H.cellI 0 U U)) (sc (Gk C.w 1 4) H l0 U U (At Gc U U) ?_))
  rintro _ _ w ⟨rfl,rfl⟩ H
  refine Ah 2 U ?_
  refine AU (d:=11) U (fun h28=>?_) (fun h28=>?_)
  ·refine V U U (Aj U Jc U) (V U U (Ao U AE U (H.cellI 0 U U)) (sc (Gk C.t 1 3) H l0 U U (At Gc U U) ?_))
   rintro _ _ w ⟨rfl,rfl⟩ H
   refine Ah 2 U ?_
   refine AU (d:=16) U (fun h29=>?_) (fun h29=>?_)
   ·refine V U U (Aj U T7 U) (V U U (Ao U AE U (H.cellI 0 U U)) (sc (Gk C.o 1 50) H l0 U U (At Gc U U) ?_))
    rintro _ _ w ⟨rfl,rfl⟩ H
    refine Ah 2 U (Ac (Z ?_))
    replace H:Hd _ _ _ [blk b26 [.slice A1 C.J.us.length c2,.int .i64 C.J.parts,.slice A6 C.J.map.length c7,.slice A11 C.J.comb.length c12,.slice A16 C.J.red.length c17,.int .i64 C.J.chunk,.int .i64 C.J.window,.int .i64 C.J.fuel,.slice A21 C.J.marks.length c22,.int .i64 C.w,.int .i64 C.t,.int .i64 C.o] 28] [Aa (Ak Ag) (.slice A1 C.J.us.length c2) C.J.us,Aa Af (.slice A6 C.J.map.length c7) C.J.map,Aa Af (.slice A11 C.J.comb.length c12) C.J.comb,Aa Af (.slice A16 C.J.red.length c17) C.J.red,Aa (Ai .i64) (.slice A21 C.J.marks.length c22) C.J.marks]:=H
    refine Ap (Aq U U ?_)
    replace H:=H.nil
    have e:(1≤C.o∧C.o≤50)↔D1 C:=⟨fun g=>⟨h27,by omega,by omega,by omega⟩,fun g=>by have g2:=g.2;omega⟩
    exact Am ⟨congrArg Value.bool (decide_eq_decide.2 e),rfl⟩ H
   refine Ah 5 U (Ac (Z ?_))
   replace H:Hd _ _ _ [blk b26 [.slice A1 C.J.us.length c2,.int .i64 C.J.parts,.slice A6 C.J.map.length c7,.slice A11 C.J.comb.length c12,.slice A16 C.J.red.length c17,.int .i64 C.J.chunk,.int .i64 C.J.window,.int .i64 C.J.fuel,.slice A21 C.J.marks.length c22,.int .i64 C.w,.int .i64 C.t,.int .i64 C.o] 28] [Aa (Ak Ag) (.slice A1 C.J.us.length c2) C.J.us,Aa Af (.slice A6 C.J.map.length c7) C.J.map,Aa Af (.slice A11 C.J.comb.length c12) C.J.comb,Aa Af (.slice A16 C.J.red.length c17) C.J.red,Aa (Ai .i64) (.slice A21 C.J.marks.length c22) C.J.marks]:=H
   refine Ap (Aq U U ?_)
   replace H:=H.nil
   have e:¬ D1 C:=fun h=>by have h1:=h.1;have h2:=h.2;first |exact absurd h1 h27|omega
   exact Am ⟨congrArg Value.bool (decide_eq_false e).symm,rfl⟩ H
  refine Ah 10 U (Ac (Z ?_))
  replace H:Hd _ _ _ [blk b26 [.slice A1 C.J.us.length c2,.int .i64 C.J.parts,.slice A6 C.J.map.length c7,.slice A11 C.J.comb.length c12,.slice A16 C.J.red.length c17,.int .i64 C.J.chunk,.int .i64 C.J.window,.int .i64 C.J.fuel,.slice A21 C.J.marks.length c22,.int .i64 C.w,.int .i64 C.t,.int .i64 C.o] 28] [Aa (Ak Ag) (.slice A1 C.J.us.length c2) C.J.us,Aa Af (.slice A6 C.J.map.length c7) C.J.map,Aa Af (.slice A11 C.J.comb.length c12) C.J.comb,Aa Af (.slice A16 C.J.red.length c17) C.J.red,Aa (Ai .i64) (.slice A21 C.J.marks.length c22) C.J.marks]:=H
  refine Ap (Aq U U ?_)
  replace H:=H.nil
  have e:¬ D1 C:=fun h=>by have h1:=h.1;have h2:=h.2;first |exact absurd h1 h27|omega
  exact Am ⟨congrArg Value.bool (decide_eq_false e).symm,rfl⟩ H
 refine Ah 12 U (Ah 3 U (Ac (Z ?_)))
 replace H:Hd _ _ _ [blk b26 [.slice A1 C.J.us.length c2,.int .i64 C.J.parts,.slice A6 C.J.map.length c7,.slice A11 C.J.comb.length c12,.slice A16 C.J.red.length c17,.int .i64 C.J.chunk,.int .i64 C.J.window,.int .i64 C.J.fuel,.slice A21 C.J.marks.length c22,.int .i64 C.w,.int .i64 C.t,.int .i64 C.o] 28] [Aa (Ak Ag) (.slice A1 C.J.us.length c2) C.J.us,Aa Af (.slice A6 C.J.map.length c7) C.J.map,Aa Af (.slice A11 C.J.comb.length c12) C.J.comb,Aa Af (.slice A16 C.J.red.length c17) C.J.red,Aa (Ai .i64) (.slice A21 C.J.marks.length c22) C.J.marks]:=H
 refine Ap (Aq U U ?_)
 replace H:=H.nil
 have e:¬ D1 C:=fun h=>by have h1:=h.1;have h2:=h.2;first |exact absurd h1 h27|omega
 exact Am ⟨congrArg Value.bool (decide_eq_false e).symm,rfl⟩ H
theorem UD (vS:Value) (vM:Value) (vC:Value) (vR:Value) (vK:Value) (C:Cf) (p:Int) (hp:Ax p):
    Cn Tryz.prog 71 [.agg #[vS,.int .i64 C.J.parts,vM,vC,vR,.int .i64 C.J.chunk,.int .i64 C.J.window,.int .i64 C.J.fuel,vK,.int .i64 C.w,.int .i64 C.t,.int .i64 C.o],.int .i64 p] [] [Aa (Ak Ag) vS C.J.us,Aa Af vM C.J.map,Aa Af vC C.J.comb,Aa Af vR C.J.red,Aa (Ai .i64) vK C.J.marks] (fun v Bs=>v=.int .i64 (Io C p)∧Bs=[]):=by
 intro w0 F0 H
 unfold Ax at hp
 refine enter Tryz.func71 U U (Nat.le_of_ble_eq_true U) (Ab (Ae (Cy U U U U H (fun b1 w H=>(Ad U (Ac (Z ?_)))))))
 replace H:Hd _ _ _ [blk b1 [vS,.int .i64 C.J.parts,vM,vC,vR,.int .i64 C.J.chunk,.int .i64 C.J.window,.int .i64 C.J.fuel,vK,.int .i64 C.w,.int .i64 C.t,.int .i64 C.o] 28] [Aa (Ak Ag) vS C.J.us,Aa Af vM C.J.map,Aa Af vC C.J.comb,Aa Af vR C.J.red,Aa (Ai .i64) vK C.J.marks]:=H
 refine Ab (Ab (Ae (V U U (Bu (cs:=[vS,.int .i64 C.J.parts,vM,vC,vR,.int .i64 C.J.chunk,.int .i64 C.J.window,.int .i64 C.J.fuel,vK,.int .i64 C.w,.int .i64 C.t,.int .i64 C.o]) U Ek U U (H.cellsI 0 U U)) (sc (Mh vS vM vC vR vK C) H (lR 0 U (lR 1 U (lR 2 U (lR 3 U (lR 4 U l0))))) U U (At L3 U U) ?_))))
 rintro _ _ w ⟨rfl,rfl⟩ H
 refine V U U (DD U U) (Ad U ?_)
 refine AU (d:=8) U (fun h2=>?_) (fun h2=>?_)
 ·refine Ah 8 U (Ac (Z ?_))
  replace H:Hd _ _ _ [blk b1 [vS,.int .i64 C.J.parts,vM,vC,vR,.int .i64 C.J.chunk,.int .i64 C.J.window,.int .i64 C.J.fuel,vK,.int .i64 C.w,.int .i64 C.t,.int .i64 C.o] 28] [Aa (Ak Ag) vS C.J.us,Aa Af vM C.J.map,Aa Af vC C.J.comb,Aa Af vR C.J.red,Aa (Ai .i64) vK C.J.marks]:=H
  refine B8 U (Ab (Ae (Ad U (Ac (Z (Ap (AA (Aq U U ?_))))))))
  replace H:=H.nil
  exact Am ⟨congrArg (Value.int .i64) (if_pos (by first |exact .inl h2|exact .inr h2)).symm,rfl⟩ H
 have hmc:D1 C:=Classical.not_not.1 h2
 have hm1:=hmc.2
 have hmp:=hmc.1.2.1
 refine Ad U (V U U (Aj U Cu U) (V U U (Aj U GX U) (V U U (Ao U AE U (H.cellI 0 U U)) (V U U (Cj (z:=C.J.parts - 1) U U U (AF (by omega) (by omega))) (sc (Gk p 0 (C.J.parts - 1)) H l0 U U (At Gc U U) ?_)))))
 rintro _ _ w ⟨rfl,rfl⟩ H
 refine V U U (DD U U) (Ad U (Ac (Z ?_)))
 replace H:Hd _ _ _ [blk b1 [vS,.int .i64 C.J.parts,vM,vC,vR,.int .i64 C.J.chunk,.int .i64 C.J.window,.int .i64 C.J.fuel,vK,.int .i64 C.w,.int .i64 C.t,.int .i64 C.o] 28] [Aa (Ak Ag) vS C.J.us,Aa Af vM C.J.map,Aa Af vC C.J.comb,Aa Af vR C.J.red,Aa (Ai .i64) vK C.J.marks]:=H
 refine Az U (fun h3=>?_) (fun h3=>?_)
 ·refine Ab (Ae (Ad U (Ac (Z (Ap (AA (Aq U U ?_)))))))
  replace H:=H.nil
  exact Am ⟨congrArg (Value.int .i64) (if_pos (by first |exact .inl h3|exact .inr h3)).symm,rfl⟩ H
 refine Aw (Z (Ab (Ae (Ad U (V U U (Aj U OA U) (V U U (Ao U AE U (H.cellI 0 U U)) (V U U (Hf (z:=p.tmod C.w) U U U (by omega) U) (V U U (A0 (z:=1+p.tmod C.w) U U U (by have h1:=ZY p (show 1≤C.w by omega);exact AF (by omega) (by omega))) (Ad U (Ac (Z (Ap (Aq U U ?_)))))))))))))
 replace H:=H.nil
 have e:Io C p=1+p.tmod C.w:=if_neg (fun h=>h.elim (fun h=>h hmc) (fun h=>by omega))
 exact Am ⟨by rw [e]<;>rfl,rfl⟩ H
theorem Li (vxs:Value) (xs:List BG) (hb:xs.length≤1000000):
    Cn Tryz.prog 158 [vxs] [] [Aa Af vxs xs] (fun v Bs=>Bs=[Y Af v xs]):=by
 intro w0 F0 H
 obtain ⟨A1,c2,rfl,hc3,hm4,hp5⟩:=H.fR 0 rfl
 refine enter Tryz.func158 U U (Nat.le_of_ble_eq_true U) (Ab (Ae (Ad U (Ac (Z ?_)))))
 replace H:Hd _ _ _ [] [Aa Af (.slice A1 xs.length c2) xs]:=H
 refine Ab (Ab (Ae (Ad U (V U U (Kz U FF U U) (Ac (Z ?_))))))
 refine Dv (b:=(A1:Option Addr).isNone) U (fun h6=>?_) (fun h6=>?_)
 ·refine Ab (Ae (Ad U (Ac (Z (Ap (AA (Aq U U ?_)))))))
  obtain rfl:=H.nilR 0 rfl h6
  replace H:=H.newnil Af
  exact Am U H
 refine Aw (Z (Ab (Ae (KF U U U Hh H (fun b7 w H=>(Ad U ?_))))))
 replace H:=H.newnilA Af (some ⟨b7,0,none⟩)
 refine CG (xs:=[]) (ys:=xs) U U U Hh K6 U (by decide) U U H (by simp only [List.length_nil];omega) (fun F hA hR=>hR _ (List.mem_of_getElem? (i:=0) U)) (fun v8 w H=>?_)
 replace H:=H.h2 (A:=Y Af v8 ([]++xs)) (B:=blk b7 [] 223)
 refine Ad U (Ac (Z (Ap (Aq U U ?_))))
 rw [List.nil_append] at H
 replace H:=H.k1
 exact Am U H
theorem GS (vxs:Value) (xs:List Int) (hb:xs.length≤1000000):
    Cn Tryz.prog 129 [vxs] [] [Aa (Ai .i64) vxs xs] (fun v Bs=>Bs=[Y (Ai .i64) v xs]):=by
 intro w0 F0 H
 obtain ⟨A1,c2,rfl,hc3,hm4,hp5⟩:=H.fR 0 rfl
 refine enter Tryz.func129 U U (Nat.le_of_ble_eq_true U) (Ab (Ae (Ad U (Ac (Z ?_)))))
 replace H:Hd _ _ _ [] [Aa (Ai .i64) (.slice A1 xs.length c2) xs]:=H
 refine Ab (Ab (Ae (Ad U (V U U (Kz U DL U U) (Ac (Z ?_))))))
 refine Dv (b:=(A1:Option Addr).isNone) U (fun h6=>?_) (fun h6=>?_)
 ·refine Ab (Ae (Ad U (Ac (Z (Ap (AA (Aq U U ?_)))))))
  obtain rfl:=H.nilR 0 rfl h6
  replace H:=H.newnil (Ai .i64)
  exact Am U H
 refine Aw (Z (Ab (Ae (KF U U U Ds H (fun b7 w H=>(Ad U ?_))))))
 replace H:=H.newnilA (Ai .i64) (some ⟨b7,0,none⟩)
 refine CG (xs:=[]) (ys:=xs) U U U Ds GK U (by decide) U U H (by simp only [List.length_nil];omega) (fun F hA hR=>hR _ (List.mem_of_getElem? (i:=0) U)) (fun v8 w H=>?_)
 replace H:=H.h2 (A:=Y (Ai .i64) v8 ([]++xs)) (B:=blk b7 [] 3)
 refine Ad U (Ac (Z (Ap (Aq U U ?_))))
 rw [List.nil_append] at H
 replace H:=H.k1
 exact Am U H
theorem SV (vxs:Value) (xs:List EJ) (hb:xs.length≤1000000):
    Cn Tryz.prog 157 [vxs] [] [Aa Dq vxs xs] (fun v Bs=>Bs=[Y Dq v xs]):=by
 intro w0 F0 H
 obtain ⟨A1,c2,rfl,hc3,hm4,hp5⟩:=H.fR 0 rfl
 refine enter Tryz.func157 U U (Nat.le_of_ble_eq_true U) (Ab (Ae (Ad U (Ac (Z ?_)))))
 replace H:Hd _ _ _ [] [Aa Dq (.slice A1 xs.length c2) xs]:=H
 refine Ab (Ab (Ae (Ad U (V U U (Kz U Dz U U) (Ac (Z ?_))))))
 refine Dv (b:=(A1:Option Addr).isNone) U (fun h6=>?_) (fun h6=>?_)
 ·refine Ab (Ae (Ad U (Ac (Z (Ap (AA (Aq U U ?_)))))))
  obtain rfl:=H.nilR 0 rfl h6
  replace H:=H.newnil Dq
  exact Am U H
 refine Aw (Z (Ab (Ae (KF U U U Ej H (fun b7 w H=>(Ad U ?_))))))
 replace H:=H.newnilA Dq (some ⟨b7,0,none⟩)
 refine CG (xs:=[]) (ys:=xs) U U U Ej Hr U (by decide) U U H (by simp only [List.length_nil];omega) (fun F hA hR=>hR _ (List.mem_of_getElem? (i:=0) U)) (fun v8 w H=>?_)
 replace H:=H.h2 (A:=Y Dq v8 ([]++xs)) (B:=blk b7 [] 35)
 refine Ad U (Ac (Z (Ap (Aq U U ?_))))
 rw [List.nil_append] at H
 replace H:=H.k1
 exact Am U H
theorem Xm {us zs:List (Value×List Al)} {i:Nat} {A:Option Addr} {c:Nat} {x:List Al} (hz:zs.length=i) (h:us[i]?=some (.slice A x.length c,x)):(Br zs++(Br us).drop i)[i]?=some (⟨A,x.length,c⟩:EJ):=by
 subst hz
 have hl:(Br zs).length=zs.length:=by simp [Br]
 rw [List.getElem?_append_right (by omega),hl,Nat.sub_self,List.getElem?_drop,Nat.add_zero]
 unfold Br
 rw [List.getElem?_map,h]
 rfl
theorem Xn {us zs:List (Value×List Al)} {i:Nat} {A:Option Addr} {n c:Nat} {x:List Al} (hz:zs.length=i) (hi:i<us.length):(Br zs++(Br us).drop i).set i (⟨A,n,c⟩:EJ)=Br (zs++[(.slice A n c,x)])++(Br us).drop (i+1):=by
 subst hz
 have hl:(Br zs).length=zs.length:=by simp [Br]
 have hu:(Br us).length=us.length:=by simp [Br]
 rw [List.set_append_right _ _ (by omega),hl,Nat.sub_self,List.drop_eq_getElem_cons (by omega),List.set_cons_zero]
 unfold Br
 rw [List.map_append,List.append_assoc]
 rfl
theorem Xo {us zs:List (Value×List Al)} {i:Nat} {v u:Value} {x:List Al} (hz:zs.map (·.2)=(us.map (·.2)).take i) (h:us[i]?=some (v,x)):(zs++[(u,x)]).map (·.2)=(us.map (·.2)).take (i+1):=by
 rw [List.map_append,hz,Fr (x:=x) (by rw [List.getElem?_map,h];rfl)]
 rfl
theorem P_ (vS:Value) (vM:Value) (vC:Value) (vR:Value) (vK:Value) (C:Cf) (hC:D1 C):
    Cn Tryz.prog 94 [.agg #[vS,.int .i64 C.J.parts,vM,vC,vR,.int .i64 C.J.chunk,.int .i64 C.J.window,.int .i64 C.J.fuel,vK,.int .i64 C.w,.int .i64 C.t,.int .i64 C.o]] [] [Aa (Ak Ag) vS C.J.us,Aa Af vM C.J.map,Aa Af vC C.J.comb,Aa Af vR C.J.red,Aa (Ai .i64) vK C.J.marks] (fun v Bs=>∃ J2:AG,∃ vS2:Value,∃ vM2:Value,∃ vC2:Value,∃ vR2:Value,∃ vK2:Value,v=.agg #[vS2,.int .i64 J2.parts,vM2,vC2,vR2,.int .i64 J2.chunk,.int .i64 J2.window,.int .i64 J2.fuel,vK2,.int .i64 C.w,.int .i64 C.t,.int .i64 C.o]∧Bs=[Y (Ak Ag) vS2 J2.us,Y Af vM2 J2.map,Y Af vC2 J2.comb,Y Af vR2 J2.red,Y (Ai .i64) vK2 J2.marks]∧(BC J2 C.J)):=by
 intro w0 F0 H
 obtain ⟨A1,c2,rfl,hc3,hm4,hp5⟩:=H.fR 0 rfl
 obtain ⟨A6,c7,rfl,hc8,hm9,hp10⟩:=H.fR 1 rfl
 obtain ⟨A11,c12,rfl,hc13,hm14,hp15⟩:=H.fR 2 rfl
 obtain ⟨A16,c17,rfl,hc18,hm19,hp20⟩:=H.fR 3 rfl
 obtain ⟨A21,c22,rfl,hc23,hm24,hp25⟩:=H.fR 4 rfl
 have hsp:=hC.1.2.2.2.1
 have hus:=hC.1.1
 have hb1:=(JM hC.1.2.2.2.2.2.1.2).1
 have hb2:=(JM hC.1.2.2.2.2.2.2.1.2).1
 have hb3:=(JM hC.1.2.2.2.2.2.2.2.1).1
 have hb4:=hC.1.2.2.1
 have hul:(Br C.J.us).length=C.J.us.length:=by simp [Br]
 refine enter Tryz.func94 U U (Nat.le_of_ble_eq_true U) (Ab (Ae (Cy U U U U H (fun b26 w H=>(Dr U U U R0 H (fun b27 w H=>(Ac (Z ?_))))))))
 replace H:Hd _ _ _ [blk b27 [.slice none 0 0,.int .i64 0,.slice none 0 0,.slice none 0 0,.slice none 0 0,.int .i64 0,.int .i64 0,.int .i64 0,.slice none 0 0,.int .i64 0,.int .i64 0,.int .i64 0] 28,blk b26 [.slice A1 C.J.us.length c2,.int .i64 C.J.parts,.slice A6 C.J.map.length c7,.slice A11 C.J.comb.length c12,.slice A16 C.J.red.length c17,.int .i64 C.J.chunk,.int .i64 C.J.window,.int .i64 C.J.fuel,.slice A21 C.J.marks.length c22,.int .i64 C.w,.int .i64 C.t,.int .i64 C.o] 28] [Aa (Ak Ag) (.slice A1 C.J.us.length c2) C.J.us,Aa Af (.slice A6 C.J.map.length c7) C.J.map,Aa Af (.slice A11 C.J.comb.length c12) C.J.comb,Aa Af (.slice A16 C.J.red.length c17) C.J.red,Aa (Ai .i64) (.slice A21 C.J.marks.length c22) C.J.marks]:=H
 refine Ab (Ae (V U U (Aj U Cu U) (V U U (Aj U Dw U) (V U U (Ao U Dy U (H.cellI 1 U U)) (sc (SV (.slice A1 C.J.us.length c2) (Br C.J.us) (by simp only [Br,List.length_map];omega)) H (lX (fun F hA hR=>UB (hR _ (List.mem_of_getElem? (i:=0) U))) l0) U U (At U5 U U) ?_)))))
 rintro v28 _ w rfl H
 refine V U U (Aj U Cu U) (V U U (Aj U Dw U) ?_)
 obtain ⟨A29,c30,rfl,hc31,hm32,hp33⟩:=H.fA 0 rfl
 replace H:=H.p2
 refine Bo U U U Dy U U H U (Nat.le_of_ble_eq_true U) (fun u hu=>by simp [Value.cells] at hu;subst hu;rfl) (fun w H=>?_)
 replace H:Hd _ _ _ [blk b26 [.slice A29 ((Br C.J.us).length) c30,.int .i64 C.J.parts,.slice A6 C.J.map.length c7,.slice A11 C.J.comb.length c12,.slice A16 C.J.red.length c17,.int .i64 C.J.chunk,.int .i64 C.J.window,.int .i64 C.J.fuel,.slice A21 C.J.marks.length c22,.int .i64 C.w,.int .i64 C.t,.int .i64 C.o] 28,Y Dq (.slice A29 ((Br C.J.us).length) c30) (Br C.J.us),blk b27 [.slice none 0 0,.int .i64 0,.slice none 0 0,.slice none 0 0,.slice none 0 0,.int .i64 0,.int .i64 0,.int .i64 0,.slice none 0 0,.int .i64 0,.int .i64 0,.int .i64 0] 28] [Aa (Ak Ag) (.slice A1 C.J.us.length c2) C.J.us,Aa Af (.slice A6 C.J.map.length c7) C.J.map,Aa Af (.slice A11 C.J.comb.length c12) C.J.comb,Aa Af (.slice A16 C.J.red.length c17) C.J.red,Aa (Ai .i64) (.slice A21 C.J.marks.length c22) C.J.marks]:=H
 refine Ac (Z (Ab (Ab (Ae (V U U (Aj U Cu U) (V U U (Aj U Dw U) (V U U (Ao U Dy U (H.cellI 0 U U)) (V U U (A8 U Dz U) (Ad U (Ac (Z (AW ?_))))))))))))
 replace H:=H.p1.h1 (A:=Y Dq (.slice A29 ((Br C.J.us).length) c30) (Br ([]:List (Value×List Al))++(Br C.J.us).drop 0))|>.big0 (fun u:Value×List Al=>Y Ag u.1 u.2)|>.h1 (A:=Ga Ag ([]:List (Value×List Al)))
 refine BT (σ:=Nat×List (Value×List Al)) (fun (i,zs)=>[(1,.pointer (some ⟨b26,0,none⟩)),(2,.pointer (some ⟨b27,0,none⟩)),(13,.slice A29 ((Br C.J.us).length) c30),(14,.int .i64 (((Br C.J.us).length:Nat):Int)),(15,.int .i64 ((i:Nat):Int))]) (fun (i,zs) w=>(Hd w0 F0 w [Ga Ag zs,Y Dq (.slice A29 ((Br C.J.us).length) c30) (Br zs++(Br C.J.us).drop i),blk b26 [.slice A29 ((Br C.J.us).length) c30,.int .i64 C.J.parts,.slice A6 C.J.map.length c7,.slice A11 C.J.comb.length c12,.slice A16 C.J.red.length c17,.int .i64 C.J.chunk,.int .i64 C.J.window,.int .i64 C.J.fuel,.slice A21 C.J.marks.length c22,.int .i64 C.w,.int .i64 C.t,.int .i64 C.o] 28,blk b27 [.slice none 0 0,.int .i64 0,.slice none 0 0,.slice none 0 0,.slice none 0 0,.int .i64 0,.int .i64 0,.int .i64 0,.slice none 0 0,.int .i64 0,.int .i64 0,.int .i64 0] 28] [Aa (Ak Ag) (.slice A1 C.J.us.length c2) C.J.us,Aa Af (.slice A6 C.J.map.length c7) C.J.map,Aa Af (.slice A11 C.J.comb.length c12) C.J.comb,Aa Af (.slice A16 C.J.red.length c17) C.J.red,Aa (Ai .i64) (.slice A21 C.J.marks.length c22) C.J.marks])∧(zs.length=i∧zs.map (·.2)=(C.J.us.map (·.2)).take i)∧(i≤C.J.us.length)) (fun (i,zs)=>C.J.us.length - i) (0,[]) ⟨rfl,rfl,rfl,rfl,rfl,trivial⟩ ⟨H,⟨rfl,rfl⟩,Nat.zero_le _⟩ ?_
 rintro ⟨i,zs⟩ w ⟨H,hz,hi⟩
 refine Ab (Ae (V U U (Bd U U U) (Ac (Z (Ab ?_)))))
 refine Az U (fun h34=>?_) (fun h34=>?_)
 ·refine Aw (Z (Ab (AW (Ab ?_))))
  obtain ⟨⟨u37,x35⟩,hx36⟩:∃ z9,C.J.us[i]?=some z9:=⟨_,List.getElem?_eq_getElem (show i<C.J.us.length by omega)⟩
  obtain ⟨A38,c39,rfl,hc40,hm41⟩:=H.nestR 0 rfl hx36
  have hk42:=Xm (zs:=zs) hz.1 hx36
  have hxl:x35.length≤8:=(hsp _ (B6 hx36)).1
  refine Ae (Ad U ?_)
  have th43:=H.thA 1 rfl hk42
  refine V U U (Ba (p:=AT A29+i*1) U Ej U U (by omega) (by omega) th43 U) (V U U (Ao U DU U (H.elA 1 U hk42 (q:=0) U U)) (Ah 2 U (Ac (Z ?_))))
  replace H:=H.p3.p3.p2
  refine BP (.e 0 (.e 1 (.e 2 (.e 3 (.e 4 (.m 5 (.e 6 (.m 7 .z)))))))) (fun w=>∃ Ar,Hd w0 F0 w (Ga Ag zs::blk b26 [.slice A29 ((Br C.J.us).length) c30,.int .i64 C.J.parts,.slice A6 C.J.map.length c7,.slice A11 C.J.comb.length c12,.slice A16 C.J.red.length c17,.int .i64 C.J.chunk,.int .i64 C.J.window,.int .i64 C.J.fuel,.slice A21 C.J.marks.length c22,.int .i64 C.w,.int .i64 C.t,.int .i64 C.o] 28::blk b27 [.slice none 0 0,.int .i64 0,.slice none 0 0,.slice none 0 0,.slice none 0 0,.int .i64 0,.int .i64 0,.int .i64 0,.slice none 0 0,.int .i64 0,.int .i64 0,.int .i64 0] 28::Ar) [Aa (Ak Ag) (.slice A1 C.J.us.length c2) C.J.us,Aa Af (.slice A6 C.J.map.length c7) C.J.map,Aa Af (.slice A11 C.J.comb.length c12) C.J.comb,Aa Af (.slice A16 C.J.red.length c17) C.J.red,Aa (Ai .i64) (.slice A21 C.J.marks.length c22) C.J.marks]) mo (by kernel_rfl) (fun w H=>⟨_,H⟩) H (fun w H=>?_)
  refine An U U U (fun w ⟨Ar,H⟩=>Aj U Cu U) (An U U U (fun w ⟨Ar,H⟩=>Aj U Dw U) (An U U U (fun w ⟨Ar,H⟩=>Ao U Dy U (H.cellI 1 U U)) (Au U (Au U (AK U (sc (Hx (.slice A38 x35.length c39) x35 (by first |omega|decide|assumption)) H (lX (fun F hA hR=>Gy (hR _ (List.mem_of_getElem? (i:=0) U)) hx36) l0) U U (At HJ U U) ?_))))))
  rintro v44 _ w rfl H
  replace H:=H.h1 (A:=Y Ag v44 x35)|>.p3|>.p3|>.p3
  refine AH ⟨_,H⟩ ?_
  have th45:=H.thA 4 rfl hk42
  refine An U U U (fun w ⟨Ar,H⟩=>Ba (p:=AT A29+i*1) U Ej U U (by omega) (by omega) th45 U) (AK U ?_)
  obtain ⟨A46,c47,rfl,hc48,hm49,hp50⟩:=H.fA 3 rfl
  replace H:=H.p4
  refine GG (i:=i) (a:=(⟨A46,x35.length,c47⟩:EJ)) U U U DU U U U H (by simp only [List.length_append,List.length_drop,Br,List.length_map];omega) U (fun w H=>?_)
  replace H:Hd _ _ _ [Y Dq (.slice A29 ((Br C.J.us).length) c30) ((Br zs++(Br C.J.us).drop i).set i (⟨A46,x35.length,c47⟩:EJ)),Ga Ag zs,blk b26 [.slice A29 ((Br C.J.us).length) c30,.int .i64 C.J.parts,.slice A6 C.J.map.length c7,.slice A11 C.J.comb.length c12,.slice A16 C.J.red.length c17,.int .i64 C.J.chunk,.int .i64 C.J.window,.int .i64 C.J.fuel,.slice A21 C.J.marks.length c22,.int .i64 C.w,.int .i64 C.t,.int .i64 C.o] 28,blk b27 [.slice none 0 0,.int .i64 0,.slice none 0 0,.slice none 0 0,.slice none 0 0,.int .i64 0,.int .i64 0,.int .i64 0,.slice none 0 0,.int .i64 0,.int .i64 0,.int .i64 0] 28,Y Ag (.slice A46 x35.length c47) x35] [Aa (Ak Ag) (.slice A1 C.J.us.length c2) C.J.us,Aa Af (.slice A6 C.J.map.length c7) C.J.map,Aa Af (.slice A11 C.J.comb.length c12) C.J.comb,Aa Af (.slice A16 C.J.red.length c17) C.J.red,Aa (Ai .i64) (.slice A21 C.J.marks.length c22) C.J.marks]:=H
  replace H:=H.p3.p3.p3
  refine AH ⟨_,H⟩ (BH (A_ (Z (Ae (V U U (A0 (z:=((i+1:Nat):Int)) U U U (by rw [AF (by omega) (by omega)];omega)) (Ad U (Ac ?_)))))))
  replace H:=H.p3.p1.p4.bigN (f:=fun u:Value×List Al=>Y Ag u.1 u.2) (x:=(.slice A46 x35.length c47,x35))
  replace H:Hd w0 F0 w [Ga Ag (zs++[(.slice A46 x35.length c47,x35)]),Y Dq (.slice A29 ((Br C.J.us).length) c30) (Br (zs++[(.slice A46 x35.length c47,x35)])++(Br C.J.us).drop (i+1)),blk b26 [.slice A29 ((Br C.J.us).length) c30,.int .i64 C.J.parts,.slice A6 C.J.map.length c7,.slice A11 C.J.comb.length c12,.slice A16 C.J.red.length c17,.int .i64 C.J.chunk,.int .i64 C.J.window,.int .i64 C.J.fuel,.slice A21 C.J.marks.length c22,.int .i64 C.w,.int .i64 C.t,.int .i64 C.o] 28,blk b27 [.slice none 0 0,.int .i64 0,.slice none 0 0,.slice none 0 0,.slice none 0 0,.int .i64 0,.int .i64 0,.int .i64 0,.slice none 0 0,.int .i64 0,.int .i64 0,.int .i64 0] 28] [Aa (Ak Ag) (.slice A1 C.J.us.length c2) C.J.us,Aa Af (.slice A6 C.J.map.length c7) C.J.map,Aa Af (.slice A11 C.J.comb.length c12) C.J.comb,Aa Af (.slice A16 C.J.red.length c17) C.J.red,Aa (Ai .i64) (.slice A21 C.J.marks.length c22) C.J.marks]:=by rw [←Xn (x:=x35) hz.1 (by omega)];exact H
  exact Bl (s:=(i,zs)) (i+1,zs++[(.slice A46 x35.length c47,x35)]) ⟨rfl,rfl,rfl,rfl,rfl,trivial⟩ ⟨H,⟨by simp [hz.1],Xo hz.2 hx36⟩,by (try dsimp only);omega⟩ (by (try dsimp only);omega)
 refine BM (AR (AR (BN (Z (Ab ?_)))))
 obtain rfl:i=C.J.us.length:=by omega
 replace H:=H.p1
 replace H:Hd w0 F0 w [Y Dq (.slice A29 ((Br C.J.us).length) c30) (Br zs),Ga Ag zs,blk b26 [.slice A29 ((Br C.J.us).length) c30,.int .i64 C.J.parts,.slice A6 C.J.map.length c7,.slice A11 C.J.comb.length c12,.slice A16 C.J.red.length c17,.int .i64 C.J.chunk,.int .i64 C.J.window,.int .i64 C.J.fuel,.slice A21 C.J.marks.length c22,.int .i64 C.w,.int .i64 C.t,.int .i64 C.o] 28,blk b27 [.slice none 0 0,.int .i64 0,.slice none 0 0,.slice none 0 0,.slice none 0 0,.int .i64 0,.int .i64 0,.int .i64 0,.slice none 0 0,.int .i64 0,.int .i64 0,.int .i64 0] 28] [Aa (Ak Ag) (.slice A1 C.J.us.length c2) C.J.us,Aa Af (.slice A6 C.J.map.length c7) C.J.map,Aa Af (.slice A11 C.J.comb.length c12) C.J.comb,Aa Af (.slice A16 C.J.red.length c17) C.J.red,Aa (Ai .i64) (.slice A21 C.J.marks.length c22) C.J.marks]:=by rw [show Br zs=Br zs++(Br C.J.us).drop C.J.us.length by simp [Br]];exact H
 replace H:=H.hdI|>.h1 (A:=Y (Ak Ag) (.slice A29 ((Br C.J.us).length) c30) zs)
 have hsj:BC ({ C.J with us:=zs }:AG) C.J:=⟨by rw [hz.2,List.take_of_length_le (by simp)],rfl⟩
 refine SE (.e 0 (.e 1 (.e 2 (.e 4 (.e 5 (.e 6 (.e 8 (.e 9 (.e 10 (.m 3 (.e 12 (.e 13 (.m 7 (.m 11 (.w 14 (.e 15 (.e 16 (.m 17 (.e 18 (.e 19 (.m 20 .z))))))))))))))))))))) (fun w=>∃ Ar,Hd w0 F0 w (Y (Ak Ag) (.slice A29 ((Br C.J.us).length) c30) zs::blk b26 [.slice A29 ((Br C.J.us).length) c30,.int .i64 C.J.parts,.slice A6 C.J.map.length c7,.slice A11 C.J.comb.length c12,.slice A16 C.J.red.length c17,.int .i64 C.J.chunk,.int .i64 C.J.window,.int .i64 C.J.fuel,.slice A21 C.J.marks.length c22,.int .i64 C.w,.int .i64 C.t,.int .i64 C.o] 28::blk b27 [.slice none 0 0,.int .i64 0,.slice none 0 0,.slice none 0 0,.slice none 0 0,.int .i64 0,.int .i64 0,.int .i64 0,.slice none 0 0,.int .i64 0,.int .i64 0,.int .i64 0] 28::Ar) [Aa (Ak Ag) (.slice A1 C.J.us.length c2) C.J.us,Aa Af (.slice A6 C.J.map.length c7) C.J.map,Aa Af (.slice A11 C.J.comb.length c12) C.J.comb,Aa Af (.slice A16 C.J.red.length c17) C.J.red,Aa (Ai .i64) (.slice A21 C.J.marks.length c22) C.J.marks]) (fun w=>∃ Ar,Hd w0 F0 w Ar [Aa (Ak Ag) (.slice A1 C.J.us.length c2) C.J.us,Aa Af (.slice A6 C.J.map.length c7) C.J.map,Aa Af (.slice A11 C.J.comb.length c12) C.J.comb,Aa Af (.slice A16 C.J.red.length c17) C.J.red,Aa (Ai .i64) (.slice A21 C.J.marks.length c22) C.J.marks]) mo (by kernel_rfl) (fun w H=>⟨_,H⟩) H (fun w H=>?_)
 refine FA U U U (fun w ⟨Ar,H⟩=>Aj U Cu U) (FA U U U (fun w ⟨Ar,H⟩=>Aj U Ij U) (FA U U U (fun w ⟨Ar,H⟩=>Ao U Ee U (H.cellI 1 U U)) (FA U U U (fun w ⟨Ar,H⟩=>Aj U Cu U) (FA U U U (fun w ⟨Ar,H⟩=>Aj U Ik U) (FA U U U (fun w ⟨Ar,H⟩=>Ao U Ee U (H.cellI 1 U U)) (FA U U U (fun w ⟨Ar,H⟩=>Aj U Cu U) (FA U U U (fun w ⟨Ar,H⟩=>Aj U HD U) (FA U U U (fun w ⟨Ar,H⟩=>Ao U Ee U (H.cellI 1 U U)) (LL U (sc (Li (.slice A6 C.J.map.length c7) C.J.map (by first |omega|decide|assumption)) H (lR 1 U l0) U U (At L0 U U) ?_))))))))))
 rintro v51 _ w rfl H
 replace H:=H.h1 (A:=Y Af v51 C.J.map)|>.p3|>.p3|>.p3
 refine LK ⟨_,H⟩ (FA U U U (fun w ⟨Ar,H⟩=>Aj U Cu U) (FA U U U (fun w ⟨Ar,H⟩=>Aj U Ij U) (LL U (sc (Li (.slice A11 C.J.comb.length c12) C.J.comb (by first |omega|decide|assumption)) H (lR 2 U l0) U U (At L0 U U) ?_))))
 rintro v52 _ w rfl H
 replace H:=H.h1 (A:=Y Af v52 C.J.comb)|>.p3|>.p3|>.p3
 refine LK ⟨_,H⟩ (LL U (sc (Li (.slice A16 C.J.red.length c17) C.J.red (by first |omega|decide|assumption)) H (lR 3 U l0) U U (At L0 U U) ?_))
 rintro v53 _ w rfl H
 replace H:=H.h1 (A:=Y Af v53 C.J.red)|>.p3|>.p3|>.p3
 refine LK ⟨_,H⟩ (Ug U ?_)
 obtain ⟨A54,c55,rfl,hc56,hm57,hp58⟩:=H.fA 5 rfl
 replace H:=H.p1
 refine Bo U U U Ee U U H U (Nat.le_of_ble_eq_true U) (fun u hu=>by simp [Value.cells] at hu;subst hu;rfl) (fun w H=>?_)
 replace H:Hd _ _ _ [blk b26 [.slice A29 ((Br C.J.us).length) c30,.int .i64 C.J.parts,.slice A54 C.J.map.length c55,.slice A11 C.J.comb.length c12,.slice A16 C.J.red.length c17,.int .i64 C.J.chunk,.int .i64 C.J.window,.int .i64 C.J.fuel,.slice A21 C.J.marks.length c22,.int .i64 C.w,.int .i64 C.t,.int .i64 C.o] 28,Y (Ak Ag) (.slice A29 ((Br C.J.us).length) c30) zs,blk b27 [.slice none 0 0,.int .i64 0,.slice none 0 0,.slice none 0 0,.slice none 0 0,.int .i64 0,.int .i64 0,.int .i64 0,.slice none 0 0,.int .i64 0,.int .i64 0,.int .i64 0] 28,Y Af v53 C.J.red,Y Af v52 C.J.comb,Y Af (.slice A54 C.J.map.length c55) C.J.map] [Aa (Ak Ag) (.slice A1 C.J.us.length c2) C.J.us,Aa Af (.slice A6 C.J.map.length c7) C.J.map,Aa Af (.slice A11 C.J.comb.length c12) C.J.comb,Aa Af (.slice A16 C.J.red.length c17) C.J.red,Aa (Ai .i64) (.slice A21 C.J.marks.length c22) C.J.marks]:=H
 refine AH ⟨_,H⟩ (An U U U (fun w ⟨Ar,H⟩=>Aj U Cu U) (An U U U (fun w ⟨Ar,H⟩=>Aj U Ik U) (AK U ?_)))
 obtain ⟨A59,c60,rfl,hc61,hm62,hp63⟩:=H.fA 4 rfl
 refine Bo U U U Ee U U H U (Nat.le_of_ble_eq_true U) (fun u hu=>by simp [Value.cells] at hu;subst hu;rfl) (fun w H=>?_)
 replace H:Hd _ _ _ [blk b26 [.slice A29 ((Br C.J.us).length) c30,.int .i64 C.J.parts,.slice A54 C.J.map.length c55,.slice A59 C.J.comb.length c60,.slice A16 C.J.red.length c17,.int .i64 C.J.chunk,.int .i64 C.J.window,.int .i64 C.J.fuel,.slice A21 C.J.marks.length c22,.int .i64 C.w,.int .i64 C.t,.int .i64 C.o] 28,Y (Ak Ag) (.slice A29 ((Br C.J.us).length) c30) zs,blk b27 [.slice none 0 0,.int .i64 0,.slice none 0 0,.slice none 0 0,.slice none 0 0,.int .i64 0,.int .i64 0,.int .i64 0,.slice none 0 0,.int .i64 0,.int .i64 0,.int .i64 0] 28,Y Af v53 C.J.red,Y Af (.slice A59 C.J.comb.length c60) C.J.comb,Y Af (.slice A54 C.J.map.length c55) C.J.map] [Aa (Ak Ag) (.slice A1 C.J.us.length c2) C.J.us,Aa Af (.slice A6 C.J.map.length c7) C.J.map,Aa Af (.slice A11 C.J.comb.length c12) C.J.comb,Aa Af (.slice A16 C.J.red.length c17) C.J.red,Aa (Ai .i64) (.slice A21 C.J.marks.length c22) C.J.marks]:=H
 refine AH ⟨_,H⟩ (An U U U (fun w ⟨Ar,H⟩=>Aj U Cu U) (An U U U (fun w ⟨Ar,H⟩=>Aj U HD U) (AK U ?_)))
 obtain ⟨A64,c65,rfl,hc66,hm67,hp68⟩:=H.fA 3 rfl
 refine Bo U U U Ee U U H U (Nat.le_of_ble_eq_true U) (fun u hu=>by simp [Value.cells] at hu;subst hu;rfl) (fun w H=>?_)
 replace H:Hd _ _ _ [blk b26 [.slice A29 ((Br C.J.us).length) c30,.int .i64 C.J.parts,.slice A54 C.J.map.length c55,.slice A59 C.J.comb.length c60,.slice A64 C.J.red.length c65,.int .i64 C.J.chunk,.int .i64 C.J.window,.int .i64 C.J.fuel,.slice A21 C.J.marks.length c22,.int .i64 C.w,.int .i64 C.t,.int .i64 C.o] 28,Y (Ak Ag) (.slice A29 ((Br C.J.us).length) c30) zs,blk b27 [.slice none 0 0,.int .i64 0,.slice none 0 0,.slice none 0 0,.slice none 0 0,.int .i64 0,.int .i64 0,.int .i64 0,.slice none 0 0,.int .i64 0,.int .i64 0,.int .i64 0] 28,Y Af (.slice A64 C.J.red.length c65) C.J.red,Y Af (.slice A59 C.J.comb.length c60) C.J.comb,Y Af (.slice A54 C.J.map.length c55) C.J.map] [Aa (Ak Ag) (.slice A1 C.J.us.length c2) C.J.us,Aa Af (.slice A6 C.J.map.length c7) C.J.map,Aa Af (.slice A11 C.J.comb.length c12) C.J.comb,Aa Af (.slice A16 C.J.red.length c17) C.J.red,Aa (Ai .i64) (.slice A21 C.J.marks.length c22) C.J.marks]:=H
 refine AH ⟨_,H⟩ (BH (Z (Ab (Ae (V U U (Aj U Cu U) (V U U (Aj U GY U) (V U U (Ao U EH U (H.cellI 0 U U)) (sc (GS (.slice A21 C.J.marks.length c22) C.J.marks (by first |omega|decide|assumption)) H (lR 4 U l0) U U (At G4 U U) ?_))))))))
 rintro v69 _ w rfl H
 refine V U U (Aj U Cu U) (V U U (Aj U GY U) ?_)
 obtain ⟨A70,c71,rfl,hc72,hm73,hp74⟩:=H.fA 0 rfl
 replace H:=H.p1
 refine Bo U U U EH U U H U (Nat.le_of_ble_eq_true U) (fun u hu=>by simp [Value.cells] at hu;subst hu;rfl) (fun w H=>?_)
 replace H:Hd _ _ _ [blk b26 [.slice A29 ((Br C.J.us).length) c30,.int .i64 C.J.parts,.slice A54 C.J.map.length c55,.slice A59 C.J.comb.length c60,.slice A64 C.J.red.length c65,.int .i64 C.J.chunk,.int .i64 C.J.window,.int .i64 C.J.fuel,.slice A70 C.J.marks.length c71,.int .i64 C.w,.int .i64 C.t,.int .i64 C.o] 28,Y (Ai .i64) (.slice A70 C.J.marks.length c71) C.J.marks,Y (Ak Ag) (.slice A29 ((Br C.J.us).length) c30) zs,blk b27 [.slice none 0 0,.int .i64 0,.slice none 0 0,.slice none 0 0,.slice none 0 0,.int .i64 0,.int .i64 0,.int .i64 0,.slice none 0 0,.int .i64 0,.int .i64 0,.int .i64 0] 28,Y Af (.slice A64 C.J.red.length c65) C.J.red,Y Af (.slice A59 C.J.comb.length c60) C.J.comb,Y Af (.slice A54 C.J.map.length c55) C.J.map] [Aa (Ak Ag) (.slice A1 C.J.us.length c2) C.J.us,Aa Af (.slice A6 C.J.map.length c7) C.J.map,Aa Af (.slice A11 C.J.comb.length c12) C.J.comb,Aa Af (.slice A16 C.J.red.length c17) C.J.red,Aa (Ai .i64) (.slice A21 C.J.marks.length c22) C.J.marks]:=H
 refine Ac (Z (Ab (Ae (V U U (Bu (cs:=[.slice A29 ((Br C.J.us).length) c30,.int .i64 C.J.parts,.slice A54 C.J.map.length c55,.slice A59 C.J.comb.length c60,.slice A64 C.J.red.length c65,.int .i64 C.J.chunk,.int .i64 C.J.window,.int .i64 C.J.fuel,.slice A70 C.J.marks.length c71,.int .i64 C.w,.int .i64 C.t,.int .i64 C.o]) U Ek U U (H.cellsI 0 U U)) ?_))))
 replace H:=H.p3
 refine Bo U U U Ek U U H U (Nat.le_of_ble_eq_true U) (fun u hu=>by simp [Value.cells] at hu;rcases hu with rfl|rfl|rfl|rfl|rfl|rfl|rfl|rfl|rfl|rfl|rfl|rfl<;>rfl) (fun w H=>?_)
 replace H:=H.h1 (A:=blk b27 [.slice A29 ((Br C.J.us).length) c30,.int .i64 C.J.parts,.slice A54 C.J.map.length c55,.slice A59 C.J.comb.length c60,.slice A64 C.J.red.length c65,.int .i64 C.J.chunk,.int .i64 C.J.window,.int .i64 C.J.fuel,.slice A70 C.J.marks.length c71,.int .i64 C.w,.int .i64 C.t,.int .i64 C.o] 28)
 refine Ac (Z (Ap (Gf (cs:=[.slice A29 ((Br C.J.us).length) c30,.int .i64 C.J.parts,.slice A54 C.J.map.length c55,.slice A59 C.J.comb.length c60,.slice A64 C.J.red.length c65,.int .i64 C.J.chunk,.int .i64 C.J.window,.int .i64 C.J.fuel,.slice A70 C.J.marks.length c71,.int .i64 C.w,.int .i64 C.t,.int .i64 C.o]) U U Ek U (H.cellsI 0 U U) ?_)))
 replace H:=H.p2.p4.p5.p6.p6.k5
 exact Am ⟨({ C.J with us:=zs }:AG),(.slice A29 ((Br C.J.us).length) c30),(.slice A54 C.J.map.length c55),(.slice A59 C.J.comb.length c60),(.slice A64 C.J.red.length c65),(.slice A70 C.J.marks.length c71),rfl,rfl,hsj⟩ H
abbrev CI:=(Int×Int)×Value×List (Value×List Al)
def DS (e:CI):(Int×Int)×List (List Al):=(e.1,e.2.2.map (·.2))
def BO (e:CI):(Int×Int)×Value:=(e.1,e.2.1)
def Ce (e:CI):SP:=Y (Ak Ag) e.2.1 e.2.2
def IN (mb:Nat) (st:CW):SP:=ex fun kvs:List CI=>CO [C0 (kvs.map DS=st),Cv BW mb (kvs.map BO),Bf Ce kvs]
def AV (t sb:Nat) (st:CW):SP:=ex fun mb:Nat=>CO [blk sb [.map (some mb)] t,IN mb st]
def FD:Value:=.slice none 0 0
def Dx (k:Int×Int):List CI→Value×List (Value×List Al)
 |[]=>(FD,[])
 |e::r=>if e.1=k then e.2 else Dx k r
def CE (k:Int×Int) (kvs:List CI):List CI:=kvs.filter fun e=>decide (e.1≠k)
def FT (k:Int×Int) (x:Value×List (Value×List Al)):List CI→List CI
 |[]=>[(k,x)]
 |e::r=>if e.1=k then (k,x)::r else e::FT k x r
def IL:CW→Int×Int→List (List Al)→CW
 |[],k,x=>[(k,x)]
 |e::s,k,x=>if e.1=k then (k,x)::s else e::IL s k x
section
variable {kvs:List CI} {k:Int×Int} {x:Value×List (Value×List Al)}
theorem Rw:∀ kvs:List CI,(EE k (kvs.map BO)).getD FD=(Dx k kvs).1
 |[]=>rfl
 |e::r=>by
  show (if e.1=k then some e.2.1 else EE k (r.map BO)).getD FD=(if e.1=k then e.2 else Dx k r).1
  split
  ·rfl
  ·exact Rw r
theorem Rx:∀ kvs:List CI,(Dx k kvs).2.map (·.2)=B3 (kvs.map DS) k.1 k.2
 |[]=>rfl
 |e::r=>by
  have hk:(e.1=k)↔(e.1.1=k.1∧e.1.2=k.2):=Prod.ext_iff
  show (if e.1=k then e.2 else Dx k r).2.map (·.2)=if e.1.1=k.1∧e.1.2=k.2 then e.2.2.map (·.2) else B3 (r.map DS) k.1 k.2
  by_cases h:e.1=k
  ·rw [if_pos h,if_pos (hk.1 h)]
  ·rw [if_neg h,if_neg fun h2=>h (hk.2 h2)]
   exact Rx r
theorem Rf:∀ kvs:List CI,(FT k x kvs).map BO=DJ k x.1 (kvs.map BO)
 |[]=>rfl
 |e::r=>by
  show (if e.1=k then (k,x)::r else e::FT k x r).map BO=if e.1=k then (k,x.1)::r.map BO else BO e::DJ k x.1 (r.map BO)
  split
  ·rfl
  ·rw [List.map_cons,Rf r]
theorem Re:∀ kvs:List CI,(FT k x kvs).map DS=IL (kvs.map DS) k (x.2.map (·.2))
 |[]=>rfl
 |e::r=>by
  show (if e.1=k then (k,x)::r else e::FT k x r).map DS=if e.1=k then (k,x.2.map (·.2))::r.map DS else DS e::IL (r.map DS) k (x.2.map (·.2))
  split
  ·rfl
  ·rw [List.map_cons,Re r]
theorem Rm (x:List Al):∀ st:CW,IL st k (B3 st k.1 k.2++[x])=Ei st k.1 k.2 x
 |[]=>rfl
 |e::s=>by
  have hk:(e.1=k)↔(e.1.1=k.1∧e.1.2=k.2):=Prod.ext_iff
  unfold IL B3 Ei
  by_cases h:e.1=k
  ·rw [if_pos h,if_pos (hk.1 h),if_pos (hk.1 h),h]
  ·rw [if_neg h,if_neg fun h2=>h (hk.2 h2),if_neg fun h2=>h (hk.2 h2),Rm x s]
theorem Mm (kvs:List CI):D6 (kvs.map BO)↔(kvs.map (·.1)).Nodup:=by
 unfold D6
 rw [List.map_map]
 rfl
theorem KM (h:∀ e∈kvs,e.1≠k):CE k kvs=kvs:=List.filter_eq_self.2 fun e he=>decide_eq_true (h e he)
theorem Rg:∀ {kvs:List CI},(kvs.map (·.1)).Nodup→(FT k x kvs).Perm ((k,x)::CE k kvs)
 |[],_=>List.Perm.refl _
 |e::r,hn=>by
  rw [List.map_cons,List.nodup_cons] at hn
  unfold FT CE
  by_cases h:e.1=k
  ·rw [if_pos h,List.filter_cons_of_neg (by simpa using h)]
   exact (List.Perm.of_eq (KM fun e2 he2 h2=>hn.1 (List.mem_map.2 ⟨e2,he2,h2.trans h.symm⟩)).symm).cons _
  ·rw [if_neg h,List.filter_cons_of_pos (p:=fun e:CI=>decide (e.1≠k)) (decide_eq_true h)]
   exact ((Rg hn.2).cons e).trans (List.Perm.swap _ _ _)
theorem MU:∀ {kvs:List CI},(kvs.map (·.1)).Nodup→(∃ e∈kvs,e.1=k)→kvs.Perm ((k,Dx k kvs)::CE k kvs)
 |[],_,⟨_,h,_⟩=>by cases h
 |e::r,hn,⟨e0,he0,hk0⟩=>by
  rw [List.map_cons,List.nodup_cons] at hn
  unfold Dx CE
  by_cases h:e.1=k
  ·rw [if_pos h,List.filter_cons_of_neg (by simpa using h)]
   rw [show (k,e.2)=e from by rw [←h]]
   exact (List.Perm.of_eq (KM fun e2 he2 h2=>hn.1 (List.mem_map.2 ⟨e2,he2,h2.trans h.symm⟩)).symm).cons _
  ·rw [if_neg h,List.filter_cons_of_pos (p:=fun e:CI=>decide (e.1≠k)) (decide_eq_true h)]
   rcases List.mem_cons.1 he0 with rfl|he0
   ·exact absurd hk0 h
   ·exact ((MU hn.2 ⟨e0,he0,hk0⟩).cons e).trans (List.Perm.swap _ _ _)
theorem ZI (h:∀ e∈kvs,e.1≠k):Dx k kvs=(FD,[]):=by
 induction kvs with
 |nil=>rfl
 |cons e r ih=>
  unfold Dx
  rw [if_neg (h e (List.mem_cons_self ..))]
  exact ih fun e2 he2=>h e2 (List.mem_cons_of_mem _ he2)
end
section
variable {w0 w:World} {F0:AN} {As Rs:List SP} {t sb mb:Nat} {st:CW} {kvs:List CI} {k:Int×Int} {v:Value} {us:List (Value×List Al)}
theorem Hd.bigP {α:Type} {f:α→SP} {l l':List α} (p:l.Perm l') (h:Hd w0 F0 w (Bf f l::As) Rs):Hd w0 F0 w (Bf f l'::As) Rs:=(h.stA.perm ((p.map f).append_right As)).stI
theorem Hd.stgC (he:kvs.map DS=st) (H:Hd w0 F0 w (blk sb [.map (some mb)] t::Cv BW mb (kvs.map BO)::Bf Ce kvs::As) Rs):Hd w0 F0 w (AV t sb st::As) Rs:=by
 have h3:Hd w0 F0 w (C0 (kvs.map DS=st)::Cv BW mb (kvs.map BO)::Bf Ce kvs::blk sb [.map (some mb)] t::As) Rs:=
  (H.perm (((List.Perm.swap _ _ _).trans ((List.Perm.swap _ _ _).cons _)):(blk sb [.map (some mb)] t::Cv BW mb (kvs.map BO)::Bf Ce kvs::As).Perm (Cv BW mb (kvs.map BO)::Bf Ce kvs::blk sb [.map (some mb)] t::As))).puI he
 have h4:Hd w0 F0 w (IN mb st::blk sb [.map (some mb)] t::As) Rs:=Hd.exI (A:=fun kvs:List CI=>CO [C0 (kvs.map DS=st),Cv BW mb (kvs.map BO),Bf Ce kvs]) kvs (Hd.stI (Bs:=[C0 (kvs.map DS=st),Cv BW mb (kvs.map BO),Bf Ce kvs]) h3)
 exact Hd.exI (A:=fun mb:Nat=>CO [blk sb [.map (some mb)] t,IN mb st]) mb (Hd.stI (Bs:=[blk sb [.map (some mb)] t,IN mb st]) (h4.perm (List.Perm.swap _ _ _)))
theorem Hd.st0 (H:Hd w0 F0 w (blk sb [.map (some mb)] t::Cv BW mb []::As) Rs):Hd w0 F0 w (AV t sb []::As) Rs:=
 Hd.stgC (kvs:=[]) rfl (((H.perm (List.Perm.swap _ _ _)).big0 Ce).perm (((List.Perm.swap _ _ _).trans ((List.Perm.swap _ _ _).cons _)).trans (List.Perm.swap _ _ _)))
theorem Hd.stgA (H:Hd w0 F0 w (AV t sb st::As) Rs):∃ mb kvs,kvs.map DS=st∧D6 (kvs.map BO)∧Hd w0 F0 w (blk sb [.map (some mb)] t::Cv BW mb (kvs.map BO)::Bf Ce kvs::As) Rs:=by
 obtain ⟨mb,H⟩:=Hd.exA H
 have H1:Hd w0 F0 w (IN mb st::blk sb [.map (some mb)] t::As) Rs:=(show Hd w0 F0 w (blk sb [.map (some mb)] t::IN mb st::As) Rs from H.stA).perm (List.Perm.swap _ _ _)
 obtain ⟨kvs,H2⟩:=Hd.exA H1
 have H3:Hd w0 F0 w (C0 (kvs.map DS=st)::Cv BW mb (kvs.map BO)::Bf Ce kvs::blk sb [.map (some mb)] t::As) Rs:=H2.stA
 obtain ⟨he,H4⟩:=H3.puA
 obtain ⟨_,_,_,_,hn,_⟩:=H4.mapKf
 exact ⟨mb,kvs,he,hn,H4.perm (((List.Perm.swap _ _ _).cons _).trans (List.Perm.swap _ _ _))⟩
theorem Hd.stgO (k:Int×Int) (hn:D6 (kvs.map BO)) (H:Hd w0 F0 w (Bf Ce kvs::As) Rs):Hd w0 F0 w (Y (Ak Ag) (Dx k kvs).1 (Dx k kvs).2::Bf Ce (CE k kvs)::As) Rs:=by
 by_cases h:∀ e∈kvs,e.1≠k
 ·rw [ZI h,KM h]
  exact H.newnil _
 ·have he:∃ e∈kvs,e.1=k:=Classical.byContradiction fun h2=>h fun e he hk=>h2 ⟨e,he,hk⟩
  have H1:=H.bigP (MU ((Mm kvs).1 hn) he)
  exact H1.bigO 0 U
theorem Hd.stgI_ (hn:D6 (kvs.map BO)) (H:Hd w0 F0 w (Y (Ak Ag) v us::Bf Ce (CE k kvs)::As) Rs):Hd w0 F0 w (Bf Ce (FT k (v,us) kvs)::As) Rs:=by
 have H1:Hd w0 F0 w (Bf Ce (CE k kvs++[(k,v,us)])::As) Rs:=Hd.bigN (f:=Ce) (x:=(k,v,us)) H
 exact H1.bigP ((List.perm_append_comm (l₁:=CE k kvs) (l₂:=[(k,v,us)])).trans (Rg ((Mm kvs).1 hn)).symm)
theorem Hd.stgI0 (hn:D6 (kvs.map BO)) (H:Hd w0 F0 w (Y (Ak Ag) (Dx k kvs).1 (Dx k kvs).2::Bf Ce (CE k kvs)::As) Rs):Hd w0 F0 w (Bf Ce kvs::As) Rs:=by
 by_cases h:∀ e∈kvs,e.1≠k
 ·have H1:=H.drop
  rwa [KM h] at H1
 ·have he:∃ e∈kvs,e.1=k:=Classical.byContradiction fun h2=>h fun e he hk=>h2 ⟨e,he,hk⟩
  have H1:Hd w0 F0 w (Bf Ce (CE k kvs++[(k,Dx k kvs)])::As) Rs:=Hd.bigN (f:=Ce) (x:=(k,Dx k kvs)) H
  exact H1.bigP ((List.perm_append_comm (l₁:=CE k kvs) (l₂:=[(k,Dx k kvs)])).trans (MU ((Mm kvs).1 hn) he).symm)
end
theorem ZF  :
    Cn Tryz.prog 128 [] [] [] (fun v Bs=>∃ b:Nat,v=.pointer (some ⟨b,0,none⟩)∧Bs=[AV 253 b ([])]):=by
 intro w0 F0 H
 refine enter Tryz.func128 U U (Nat.le_of_ble_eq_true U) (Ab (Ae (Ad U (Ac (Z (Ab (Ae (Y4 BW U U U H (fun b1 w H=>(V U U (CM (parts:=[(0,.tmp 1)]) (vs:=[.map (some b1)]) (cs:=[.map (some b1)]) U Sk U U) (Cy U U U U H (fun b2 w H=>(Ad U (Ac (Z ?_)))))))))))))))
 replace H:Hd _ _ _ [blk b2 [.map (some b1)] 253,Cv BW b1 []] []:=H
 refine Ap (Aq U U ?_)
 replace H:=H.st0|>.h1 (A:=AV 253 b2 ([]))
 exact Am ⟨_,rfl,rfl⟩ H
theorem JK (r:Nat) (A:Option Addr) (m:Nat) (c:Nat) (vM2:Value) (vC2:Value) (vR2:Value) (vK2:Value) (J2:AG) (cw:Int) (ct:Int) (co:Int) (part:Int) (ep:Int) (g:Nat→CV) (hv:Nat→Value) (sb:Nat) (vs:Value) (n:Int) (hn:0≤n∧n<(m:Int)) (hm:m≤6):
    Cn Tryz.prog 118 [.pointer (some ⟨r,0,none⟩),.int .i64 n] [] [blk r (AJ (.slice A m c) vM2 vC2 vR2 vK2 J2 cw ct co part ep g hv sb vs) 185] (fun v Bs=>v=.pointer (some ⟨r,14+(n).toNat*5,none⟩)∧Bs=[]):=by
 intro w0 F0 H
 refine enter Tryz.func118 U U (Nat.le_of_ble_eq_true U) (Ab (Ae (Ad U (Ac (Z (Ab (Ab (Ae (Ad U (V U U (C5 U HZ U U) (Ah 2 U (V U U (Bd U U U) (Ah 2 U ?_)))))))))))))
 refine AU (d:=11) U (fun h1=>?_) (fun h1=>?_)
 ·exfalso;omega
 refine Ah 2 U (V U U (AI U U) (V U U (Aj U Gs U) (V U U (Aj U Cu U) (V U U (Aj U Dw U) (V U U (Ao U Dy U (H.cellRI 0 U U)) (V U U (A8 U Dz U) (V U U (Cw U U U) (Ad U (Ac (Z ?_))))))))))
 refine Az U (fun h2=>?_) (fun h2=>?_)
 ·exfalso;omega
 refine Aw (Z (Ab (Ae (Ah 2 U (V U U (AI U U) (V U U (Aj U I9 U) (V U U (Hc (p:=14+(n).toNat*5) U JH Jg U U (by omega) (by omega) (by omega)) (Ad U (Ac (Z (Ap (Aq U U ?_))))))))))))
 replace H:Hd _ _ _ [] [blk r (AJ (.slice A m c) vM2 vC2 vR2 vK2 J2 cw ct co part ep g hv sb vs) 185]:=H
 exact Am ⟨rfl,rfl⟩ H
theorem JJ (r:Nat) (A:Option Addr) (m:Nat) (c:Nat) (vM2:Value) (vC2:Value) (vR2:Value) (vK2:Value) (J2:AG) (cw:Int) (ct:Int) (co:Int) (part:Int) (ep:Int) (g:Nat→CV) (hv:Nat→Value) (sb:Nat) (vs:Value) (n:Int) (hn:¬ (0≤n∧n<(m:Int))):
    Cn Tryz.prog 118 [.pointer (some ⟨r,0,none⟩),.int .i64 n] [] [blk r (AJ (.slice A m c) vM2 vC2 vR2 vK2 J2 cw ct co part ep g hv sb vs) 185] (fun v Bs=>v=.pointer none∧Bs=[]):=by
 intro w0 F0 H
 refine enter Tryz.func118 U U (Nat.le_of_ble_eq_true U) (Ab (Ae (Ad U (Ac (Z (Ab (Ab (Ae (Ad U (V U U (C5 U HZ U U) (Ah 2 U (V U U (Bd U U U) (Ah 2 U ?_)))))))))))))
 refine AU (d:=11) U (fun h1=>?_) (fun h1=>?_)
 ·refine Ah 10 U (Ac (Z (B8 U (Ab (Ae (Ad U (Ac (Z (Ap (AA (Aq U U ?_)))))))))))
  replace H:Hd _ _ _ [] [blk r (AJ (.slice A m c) vM2 vC2 vR2 vK2 J2 cw ct co part ep g hv sb vs) 185]:=H
  exact Am ⟨rfl,rfl⟩ H
 refine Ah 2 U (V U U (AI U U) (V U U (Aj U Gs U) (V U U (Aj U Cu U) (V U U (Aj U Dw U) (V U U (Ao U Dy U (H.cellRI 0 U U)) (V U U (A8 U Dz U) (V U U (Cw U U U) (Ad U (Ac (Z ?_))))))))))
 refine Az U (fun h2=>?_) (fun h2=>?_)
 ·refine Ab (Ae (Ad U (Ac (Z (Ap (AA (Aq U U ?_)))))))
  replace H:Hd _ _ _ [] [blk r (AJ (.slice A m c) vM2 vC2 vR2 vK2 J2 cw ct co part ep g hv sb vs) 185]:=H
  exact Am ⟨rfl,rfl⟩ H
 exact Aw (Z (Ab (Ae (Ah 2 U (V U U (AI U U) (V U U (Aj U I9 U) (V U U (Hc (p:=14+(n).toNat*5) U JH Jg U U (by omega) (by omega) (by omega)) (Ad U (Ac (Z (Ap (Aq U U (absurd (by omega) hn)))))))))))))
theorem Z6 (vxs:Value) (xs:List Al) (vys:Value) (ys:List Al) (hb:xs.length+ys.length≤1000000):
    Cn Tryz.prog 185 [vxs,vys] [] [Aa Ag vxs xs,Aa Ag vys ys] (fun v Bs=>Bs=[Y Ag v (srt (xs++ys))]):=by
 intro w0 F0 H
 obtain ⟨A1,c2,rfl,hc3,hm4,hp5⟩:=H.fR 0 rfl
 obtain ⟨A6,c7,rfl,hc8,hm9,hp10⟩:=H.fR 1 rfl
 refine enter Tryz.func185 U U (Nat.le_of_ble_eq_true U) (Ab (Ae (Ad U (Ac (Z ?_)))))
 replace H:Hd _ _ _ [] [Aa Ag (.slice A1 xs.length c2) xs,Aa Ag (.slice A6 ys.length c7) ys]:=H
 refine Ab (Ab (Ae (Ad U (sc (Rr (.slice A1 xs.length c2) xs (by first |omega|decide|(simp only [List.length_append,List.length_cons,List.length_nil,Fq];omega))) H (lR 0 U l0) U U (At Pj U U) ?_))))
 rintro _ _ w ⟨rfl,rfl⟩ H
 refine V U U (DD U U) (Ad U ?_)
 refine AU (d:=9) U (fun h11=>?_) (fun h11=>?_)
 ·refine Ah 4 U (Ac (Z (B8 U (Ab (Ae (Ad U ?_))))))
  replace H:=H.newnil Ag
  refine CG (xs:=[]) (ys:=xs) U U U BA CT U (by decide) U U H (by first |omega|(simp only [List.length_append,List.length_cons,List.length_nil];omega)) (fun F hA hR=>hR _ (List.mem_of_getElem? (i:=0) U)) (fun v12 w H=>(Ad U (CG (xs:=[]++xs) (ys:=ys) U U U BA CT U (by decide) U U H (by first |omega|(simp only [List.length_append,List.length_cons,List.length_nil];omega)) (fun F hA hR=>hR _ (List.mem_of_getElem? (i:=1) U)) (fun v13 w H=>?_))))
  replace H:Hd _ _ _ [Y Ag v13 (([]++xs)++ys)] [Aa Ag (.slice A1 xs.length c2) xs,Aa Ag (.slice A6 ys.length c7) ys]:=H
  refine sc (My v13 (([]++xs)++ys) (by first |omega|decide|(simp only [List.length_append,List.length_cons,List.length_nil,Fq];omega))) H (lA 0 U BE l0) U U (At L2 U U) ?_
  rintro v14 _ w rfl H
  replace H:=H.h1 (A:=Y Ag v14 (srt (([]++xs)++ys)))
  refine Ad U (Ac (Z (Ap (AA (Aq U U ?_)))))
  replace H:=H.k1.h1 (A:=Y Ag v14 (srt (xs++ys)))
  exact Am U H
 refine Ad U (sc (Rr (.slice A6 ys.length c7) ys (by first |omega|decide|(simp only [List.length_append,List.length_cons,List.length_nil,Fq];omega))) H (lR 1 U l0) U U (At Pj U U) ?_)
 rintro _ _ w ⟨rfl,rfl⟩ H
 refine V U U (DD U U) (Ad U (Ac (Z ?_)))
 refine Az U (fun h15=>?_) (fun h15=>?_)
 ·refine Ab (Ae (Ad U ?_))
  replace H:=H.newnil Ag
  refine CG (xs:=[]) (ys:=xs) U U U BA CT U (by decide) U U H (by first |omega|(simp only [List.length_append,List.length_cons,List.length_nil];omega)) (fun F hA hR=>hR _ (List.mem_of_getElem? (i:=0) U)) (fun v16 w H=>(Ad U (CG (xs:=[]++xs) (ys:=ys) U U U BA CT U (by decide) U U H (by first |omega|(simp only [List.length_append,List.length_cons,List.length_nil];omega)) (fun F hA hR=>hR _ (List.mem_of_getElem? (i:=1) U)) (fun v17 w H=>?_))))
  replace H:Hd _ _ _ [Y Ag v17 (([]++xs)++ys)] [Aa Ag (.slice A1 xs.length c2) xs,Aa Ag (.slice A6 ys.length c7) ys]:=H
  refine sc (My v17 (([]++xs)++ys) (by first |omega|decide|(simp only [List.length_append,List.length_cons,List.length_nil,Fq];omega))) H (lA 0 U BE l0) U U (At L2 U U) ?_
  rintro v18 _ w rfl H
  replace H:=H.h1 (A:=Y Ag v18 (srt (([]++xs)++ys)))
  refine Ad U (Ac (Z (Ap (AA (Aq U U ?_)))))
  replace H:=H.k1.h1 (A:=Y Ag v18 (srt (xs++ys)))
  exact Am U H
 refine Aw (Z (Ab ?_))
 have hoxs:CU xs:=Classical.not_not.1 h11
 have hoys:CU ys:=Classical.not_not.1 h15
 refine Ae (Ad U (Ac (Z (Ab (AW ?_)))))
 replace H:=H.newnil Ag|>.dupR 1 rfl|>.dupR 1 rfl
 refine BT (σ:=Value×Value×List Al×List Al×Value×List Al) (fun (u,v,al,bl,q,zs)=>[(0,u),(1,v),(4,.slice none 0 0),(5,q)]) (fun (u,v,al,bl,q,zs) w=>(Hd w0 F0 w [Y Ag q zs] [Aa Ag u al,Aa Ag v bl,Aa Ag (.slice A1 xs.length c2) xs,Aa Ag (.slice A6 ys.length c7) ys])∧(CU al)∧(CU bl)∧(zs.length+(al.length+bl.length)=xs.length+ys.length)∧(zs++srt (al++bl)=srt (xs++ys))) (fun (u,v,al,bl,q,zs)=>al.length+bl.length) (.slice A1 xs.length c2,.slice A6 ys.length c7,xs,ys,.slice none 0 0,[]) ⟨rfl,rfl,rfl,rfl,trivial⟩ ⟨H,hoxs,hoys,by (try dsimp only);simp only [List.length_nil];omega,rfl⟩ ?_
 rintro ⟨u,v,al,bl,q,zs⟩ w ⟨H,ha,hb2,hl,hz⟩
 refine Ab (Ab (Ae (Ad U ?_)))
 obtain ⟨A19,c20,rfl,hc21,hm22,hp23⟩:=H.fR 0 rfl
 refine V U U (A8 U CH U) (V U U (Ca U U U) (Ad U ?_))
 refine AU (d:=22) U (fun h24=>?_) (fun h24=>?_)
 ·refine Ad U ?_
  obtain ⟨A25,c26,rfl,hc27,hm28,hp29⟩:=H.fR 1 rfl
  refine V U U (A8 U CH U) (V U U (Ca U U U) (Ad U (Ac (Z ?_))))
  replace H:Hd _ _ _ [Y Ag q zs] [Aa Ag (.slice A19 al.length c20) al,Aa Ag (.slice A25 bl.length c26) bl,Aa Ag (.slice A1 xs.length c2) xs,Aa Ag (.slice A6 ys.length c7) ys]:=H
  refine Az U (fun h30=>?_) (fun h30=>?_)
  ·refine Aw (Z (AW (Ab (Ab (F8 mo (by kernel_rfl) H (DV U ?_))))))
   obtain ⟨x31,hx32⟩:∃ z9,bl[0]?=some z9:=⟨_,List.getElem?_eq_getElem (show 0<bl.length by omega)⟩
   have th33:=H.thR 1 rfl hx32
   refine Bw U U (fun w H=>Ba (p:=AT A25+0*2) U BA U U (by omega) (by omega) th33 (by omega)) (Bw U U (fun w H=>Aj U Fh U) (Bw U U (fun w H=>Ao U BV U (H.elR 1 U hx32 (q:=0) U U)) (DV U ?_)))
   obtain ⟨x34,hx35⟩:∃ z9,al[0]?=some z9:=⟨_,List.getElem?_eq_getElem (show 0<al.length by omega)⟩
   have th36:=H.thR 0 rfl hx35
   refine Bw U U (fun w H=>Ba (p:=AT A19+0*2) U BA U U (by omega) (by omega) th36 (by omega)) (Bw U U (fun w H=>Aj U Fh U) (Bw U U (fun w H=>Ao U BV U (H.elR 0 U hx35 (q:=0) U U)) (Bw U U (fun w H=>Qy U U U) (FX (fun w H=>(Z ?_))))))
   refine Az U (fun h37=>?_) (fun h37=>?_)
   ·refine Ab (Ae (Ah 2 U ?_))
    have th38:=H.thR 1 rfl hx32
    refine V U U (Ba (p:=AT A25+0*2) U BA U U (by omega) (by omega) th38 (by omega)) (V U U (Bu (cs:=[.string x31.key,.string x31.val]) U Cb U U (H.elsR 1 U hx32 U)) (BU (parts:=[(0,.tmp 39)]) (vs:=[.agg #[.string x31.key,.string x31.val]]) (cs:=[.string x31.key,.string x31.val]) U U U BA CT U (by decide) (by decide) U U H (fun b39 w H=>?_)))
    replace H:=H.p1
    refine CG (xs:=zs) (ys:=[x31]) U U U BA CT U (by decide) U U H (by first |omega|(simp only [List.length_append,List.length_cons,List.length_nil];omega)) (fun F hA hR=>Ch (hA _ (List.mem_of_getElem? (i:=0) U)) U (by decide) (AZ.flat_eq.2 U)) (fun v40 w H=>(Ad U (Ac (Z ?_))))
    replace H:Hd _ _ _ [Y Ag v40 (zs++[x31]),blk b39 [.string x31.key,.string x31.val] 106] [Aa Ag (.slice A19 al.length c20) al,Aa Ag (.slice A25 bl.length c26) bl,Aa Ag (.slice A1 xs.length c2) xs,Aa Ag (.slice A6 ys.length c7) ys]:=H
    refine Ab (Ae (Ad U (V U U (Js U BA U U (by omega) (by omega) U) (Ad U (Ac (Z (BM (AR (BN ?_)))))))))
    replace H:=H.k1.sufR 1 rfl (n:=1) (by omega)
    replace H:Hd w0 F0 w [Y Ag v40 (zs++[x31])] [Aa Ag (.slice A19 al.length c20) al,Aa Ag (.slice (DG A25 c26 1 2) (bl.length - 1) (c26 - 1)) (bl.drop 1),Aa Ag (.slice A1 xs.length c2) xs,Aa Ag (.slice A6 ys.length c7) ys]:=H.pickR [1,0,3,4]
    have hz2:(zs++[x31])++srt (al++bl.drop 1)=srt (xs++ys):=by rw [←hz,Wz hx35 hx32 ha hb2 h37,List.append_assoc];rfl
    exact Bl (s:=(undef,undef,al,bl,undef,zs)) (.slice A19 al.length c20,.slice (DG A25 c26 1 2) (bl.length - 1) (c26 - 1),al,bl.drop 1,v40,zs++[x31]) ⟨rfl,rfl,rfl,rfl,trivial⟩ ⟨H,ha,P8 hb2 1,by (try dsimp only);simp only [List.length_append,List.length_cons,List.length_nil,List.length_drop];omega,hz2⟩ (by (try dsimp only);simp only [List.length_drop];omega)
   refine Aw (Z (Ab (Ae (Ah 2 U ?_))))
   have th41:=H.thR 0 rfl hx35
   refine V U U (Ba (p:=AT A19+0*2) U BA U U (by omega) (by omega) th41 (by omega)) (V U U (Bu (cs:=[.string x34.key,.string x34.val]) U Cb U U (H.elsR 0 U hx35 U)) (BU (parts:=[(0,.tmp 47)]) (vs:=[.agg #[.string x34.key,.string x34.val]]) (cs:=[.string x34.key,.string x34.val]) U U U BA CT U (by decide) (by decide) U U H (fun b42 w H=>?_)))
   replace H:=H.p1
   refine CG (xs:=zs) (ys:=[x34]) U U U BA CT U (by decide) U U H (by first |omega|(simp only [List.length_append,List.length_cons,List.length_nil];omega)) (fun F hA hR=>Ch (hA _ (List.mem_of_getElem? (i:=0) U)) U (by decide) (AZ.flat_eq.2 U)) (fun v43 w H=>(Ad U (Ac (Z ?_))))
   replace H:Hd _ _ _ [Y Ag v43 (zs++[x34]),blk b42 [.string x34.key,.string x34.val] 106] [Aa Ag (.slice A19 al.length c20) al,Aa Ag (.slice A25 bl.length c26) bl,Aa Ag (.slice A1 xs.length c2) xs,Aa Ag (.slice A6 ys.length c7) ys]:=H
   refine Ae (Ad U (V U U (Js U BA U U (by omega) (by omega) U) (Ad U (Ac (A_ ?_)))))
   replace H:=H.k1.sufR 0 rfl (n:=1) (by omega)
   replace H:Hd w0 F0 w [Y Ag v43 (zs++[x34])] [Aa Ag (.slice (DG A19 c20 1 2) (al.length - 1) (c20 - 1)) (al.drop 1),Aa Ag (.slice A25 bl.length c26) bl,Aa Ag (.slice A1 xs.length c2) xs,Aa Ag (.slice A6 ys.length c7) ys]:=H.pickR [0,2,3,4]
   have hz2:(zs++[x34])++srt (al.drop 1++bl)=srt (xs++ys):=by rw [←hz,Wy hx35 hx32 ha hb2 h37,List.append_assoc];rfl
   exact Bl (s:=(undef,undef,al,bl,undef,zs)) (.slice (DG A19 c20 1 2) (al.length - 1) (c20 - 1),.slice A25 bl.length c26,al.drop 1,bl,v43,zs++[x34]) ⟨rfl,rfl,rfl,rfl,trivial⟩ ⟨H,P8 ha 1,hb2,by (try dsimp only);simp only [List.length_append,List.length_cons,List.length_nil,List.length_drop];omega,hz2⟩ (by (try dsimp only);simp only [List.length_drop];omega)
  refine BM (AR (AR (BN (Z (Ab (Ae (Ah 2 U (CG (xs:=zs) (ys:=al) U U U BA CT U (by decide) U U H (by first |omega|(simp only [List.length_append,List.length_cons,List.length_nil];omega)) (fun F hA hR=>hR _ (List.mem_of_getElem? (i:=0) U)) (fun v44 w H=>(Ad U (CG (xs:=zs++al) (ys:=bl) U U U BA CT U (by decide) U U H (by first |omega|(simp only [List.length_append,List.length_cons,List.length_nil];omega)) (fun F hA hR=>hR _ (List.mem_of_getElem? (i:=1) U)) (fun v45 w H=>?_))))))))))))
  replace H:=H.h1 (A:=Y Ag v45 ((zs++al)++bl))
  refine Ad U (Ac (Z (Ap (Aq U U ?_))))
  replace H:Hd w0 F0 w [Y Ag v45 (srt (xs++ys))] [Aa Ag (.slice A19 al.length c20) al,Aa Ag (.slice A25 bl.length c26) bl,Aa Ag (.slice A1 xs.length c2) xs,Aa Ag (.slice A6 ys.length c7) ys]:=by rw [←hz,PQ ha hb2 (by omega),←List.append_assoc];exact H
  replace H:=H.dropR|>.dropR
  exact Am U H
 refine Ah 4 U (Ac (Z ?_))
 replace H:Hd _ _ _ [Y Ag q zs] [Aa Ag (.slice A19 al.length c20) al,Aa Ag v bl,Aa Ag (.slice A1 xs.length c2) xs,Aa Ag (.slice A6 ys.length c7) ys]:=H
 refine B9 U (BM (AR (AR (BN (Z (Ab (Ae (Ah 2 U (CG (xs:=zs) (ys:=al) U U U BA CT U (by decide) U U H (by first |omega|(simp only [List.length_append,List.length_cons,List.length_nil];omega)) (fun F hA hR=>hR _ (List.mem_of_getElem? (i:=0) U)) (fun v46 w H=>(Ad U ?_)))))))))))
 obtain ⟨A47,c48,rfl,hc49,hm50,hp51⟩:=H.fR 1 rfl
 refine CG (xs:=zs++al) (ys:=bl) U U U BA CT U (by decide) U U H (by first |omega|(simp only [List.length_append,List.length_cons,List.length_nil];omega)) (fun F hA hR=>hR _ (List.mem_of_getElem? (i:=1) U)) (fun v52 w H=>(Ad U (Ac (Z ?_))))
 replace H:Hd _ _ _ [Y Ag v52 ((zs++al)++bl)] [Aa Ag (.slice A19 al.length c20) al,Aa Ag (.slice A47 bl.length c48) bl,Aa Ag (.slice A1 xs.length c2) xs,Aa Ag (.slice A6 ys.length c7) ys]:=H
 refine Ap (Aq U U ?_)
 replace H:Hd w0 F0 w [Y Ag v52 (srt (xs++ys))] [Aa Ag (.slice A19 al.length c20) al,Aa Ag (.slice A47 bl.length c48) bl,Aa Ag (.slice A1 xs.length c2) xs,Aa Ag (.slice A6 ys.length c7) ys]:=by rw [←hz,PQ ha hb2 (by omega),←List.append_assoc];exact H
 replace H:=H.dropR|>.dropR
 exact Am U H
theorem Q_ (vus:Value) (us:List (Value×List Al)) (hb:(BK us).length≤1000000):
    Cn Tryz.prog 138 [vus] [] [Aa (Ak Ag) vus us] (fun v Bs=>Bs=[Y Ag v (srt (BK us))]):=by
 intro w0 F0 H
 obtain ⟨A1,c2,rfl,hc3,hm4,hp5⟩:=H.fR 0 rfl
 refine enter Tryz.func138 U U (Nat.le_of_ble_eq_true U) (Ab (Ae (Ad U (Ac (Z ?_)))))
 replace H:Hd _ _ _ [] [Aa (Ak Ag) (.slice A1 us.length c2) us]:=H
 refine Ab (Ae (Ad U (Ac (Z (Ab (Ab (Ae (Ad U (V U U (A8 U Dz U) (Ad U (Ac (Z (AW ?_)))))))))))))
 replace H:=H.newnil Ag
 refine BT (σ:=Nat×Value) (fun (k,q)=>[(2,.slice none 0 0),(3,q),(6,.slice A1 us.length c2),(7,.int .i64 ((us.length:Nat):Int)),(8,.int .i64 ((k:Nat):Int))]) (fun (k,q) w=>(Hd w0 F0 w [Y Ag q (srt (BK (us.take k)))] [Aa (Ak Ag) (.slice A1 us.length c2) us])∧(k≤us.length)) (fun (k,q)=>us.length - k) (0,.slice none 0 0) ⟨rfl,rfl,rfl,rfl,rfl,trivial⟩ ⟨H,by (try dsimp only);omega⟩ ?_
 rintro ⟨k,q⟩ w ⟨H,hk⟩
 have hsl:=Fq (BK (us.take k))
 refine Ab (Ae (V U U (Bd U U U) (Ac (Z (Ab ?_)))))
 refine Az U (fun h6=>?_) (fun h6=>?_)
 ·refine Aw (Z (Ab (AW (Ab (Ae ?_)))))
  obtain ⟨⟨u9,x7⟩,hx8⟩:∃ z9,us[k]?=some z9:=⟨_,List.getElem?_eq_getElem (show k<us.length by omega)⟩
  obtain ⟨A10,c11,rfl,hc12,hm13⟩:=H.nestR 0 rfl hx8
  have th14:=H.thRd 0 rfl hx8
  refine V U U (Ba (p:=AT A1+k*1) U Ej U U (by omega) (by omega) th14 U) (V U U (Ao U DU U (H.elRd 0 U hx8 U)) (Ad U (Ac (Z ?_))))
  have hfl:=GW us (k+1)
  rw [Ig hx8,List.length_append] at hfl
  refine Ae (Ah 2 U (sc (Z6 q (srt (BK (us.take k))) (.slice A10 x7.length c11) x7 (by first |omega|decide|(simp only [List.length_append,List.length_cons,List.length_nil,Fq];omega))) H (lA 0 U BE (lX (fun F hA hR=>Gy (hR _ (List.mem_of_getElem? (i:=0) U)) hx8) l0)) U U (At Vh U U) ?_))
  rintro v15 _ w rfl H
  refine Ad U (Ac (A_ (Z ?_)))
  replace H:Hd _ _ _ [Y Ag v15 (srt ((srt (BK (us.take k)))++x7)),Y Ag q (srt (BK (us.take k)))] [Aa (Ak Ag) (.slice A1 us.length c2) us]:=H
  refine Ae (V U U (A0 (z:=((k+1:Nat):Int)) U U U (by rw [AF (by omega) (by omega)];omega)) (Ad U (Ac ?_)))
  replace H:=H.k1
  replace H:Hd w0 F0 w [Y Ag v15 (srt (BK (us.take (k+1))))] [Aa (Ak Ag) (.slice A1 us.length c2) us]:=by rw [Ig hx8,←Zx];exact H
  exact Bl (s:=(k,undef)) (k+1,v15) ⟨rfl,rfl,rfl,rfl,rfl,trivial⟩ ⟨H,by (try dsimp only);omega⟩ (by (try dsimp only);omega)
 refine BM (AR (AR (BN (Z (Ab (Ae (Ah 2 U (Ac (Z (Ap (Aq U U ?_)))))))))))
 replace H:Hd w0 F0 w [Y Ag q (srt (BK us))] [Aa (Ak Ag) (.slice A1 us.length c2) us]:=by rw [List.take_of_length_le (show us.length≤k by omega)] at H;exact H
 exact Am U H
theorem Wu (vS vM vC vR vK:Value) (J:AG) (hJ:B5 J) (s:Nat) (hs:s<J.us.length):
    Cn Tryz.prog 124 [.agg #[vS,.int .i64 J.parts,vM,vC,vR,.int .i64 J.chunk,.int .i64 J.window,.int .i64 J.fuel,vK],.int .i64 ((s:Nat):Int)] [] [Aa (Ak Ag) vS J.us,Aa Af vM J.map,Aa Af vC J.comb,Aa Af vR J.red,Aa (Ai .i64) vK J.marks,gl] (fun v Bs=>∃ u,v=.tuple #[u,.int .i64 (mapM dg J s).2]∧Bs=[Y Ag u (mapM dg J s).1]):=by
 intro w0 F0 H
 obtain ⟨A1,c2,rfl,hc3,hm4,hp5⟩:=H.fR 0 rfl
 obtain ⟨A6,c7,rfl,hc8,hm9,hp10⟩:=H.fR 1 rfl
 obtain ⟨A11,c12,rfl,hc13,hm14,hp15⟩:=H.fR 2 rfl
 obtain ⟨A16,c17,rfl,hc18,hm19,hp20⟩:=H.fR 3 rfl
 obtain ⟨A21,c22,rfl,hc23,hm24,hp25⟩:=H.fR 4 rfl
 have hus:=hJ.us
 have hpt:=hJ.parts
 have hfu:=hJ.fuel
 refine enter Tryz.func124 U U (Nat.le_of_ble_eq_true U) (Ab (Ae (Cy U U U U H (fun b26 w H=>(Ah 2 U (Ac (Z ?_)))))))
 replace H:Hd _ _ _ [blk b26 [.slice A1 J.us.length c2,.int .i64 J.parts,.slice A6 J.map.length c7,.slice A11 J.comb.length c12,.slice A16 J.red.length c17,.int .i64 J.chunk,.int .i64 J.window,.int .i64 J.fuel,.slice A21 J.marks.length c22] 26] [Aa (Ak Ag) (.slice A1 J.us.length c2) J.us,Aa Af (.slice A6 J.map.length c7) J.map,Aa Af (.slice A11 J.comb.length c12) J.comb,Aa Af (.slice A16 J.red.length c17) J.red,Aa (Ai .i64) (.slice A21 J.marks.length c22) J.marks,gl]:=H
 refine Ab (Ae (Ad U (Ac (Z (Ab (Ab (Ae (V U U (Aj U Dw U) (V U U (Ao U Dy U (H.cellI 0 U U)) (Ad U ?_))))))))))
 obtain ⟨⟨u29,x27⟩,hx28⟩:∃ z9,J.us[s]?=some z9:=⟨_,List.getElem?_eq_getElem (show s<J.us.length by omega)⟩
 obtain ⟨A30,c31,rfl,hc32,hm33⟩:=H.nestR 0 rfl hx28
 have th34:=H.thRd 0 rfl hx28
 refine V U U (Ba (p:=AT A1+s*1) U Ej U U (by omega) (by omega) th34 U) (V U U (Ao U DU U (H.elRd 0 U hx28 U)) (V U U (A8 U CH U) (Ad U (Ac (Z (AW ?_))))))
 have hrec:=Yv hx28
 have hrl:x27.length≤8:=(hJ.split _ (B6 hx28)).1
 replace H:=H.addR (R:=Aa Ag (.slice A30 x27.length c31) x27) fun _ h=>Gy (h _ (List.mem_of_getElem? (i:=0) rfl)) hx28
 replace H:=H.newnil Ag
 refine BT (σ:=Nat×Value×List Al) (fun (i,q,out)=>[(2,.pointer (some ⟨b26,0,none⟩)),(6,q),(15,.slice A30 x27.length c31),(16,.int .i64 ((x27.length:Nat):Int)),(17,.int .i64 ((i:Nat):Int))]) (fun (i,q,out) w=>(Hd w0 F0 w [Y Ag q out,blk b26 [.slice A1 J.us.length c2,.int .i64 J.parts,.slice A6 J.map.length c7,.slice A11 J.comb.length c12,.slice A16 J.red.length c17,.int .i64 J.chunk,.int .i64 J.window,.int .i64 J.fuel,.slice A21 J.marks.length c22] 26] [Aa Ag (.slice A30 x27.length c31) x27,Aa (Ak Ag) (.slice A1 J.us.length c2) J.us,Aa Af (.slice A6 J.map.length c7) J.map,Aa Af (.slice A11 J.comb.length c12) J.comb,Aa Af (.slice A16 J.red.length c17) J.red,Aa (Ai .i64) (.slice A21 J.marks.length c22) J.marks,gl])∧(i≤x27.length)∧(ET dg J.map J.fuel (x27.drop i) out=ET dg J.map J.fuel x27 [])∧(out.length≤40)) (fun (i,q,out)=>x27.length - i) (0,.slice none 0 0,[]) ⟨rfl,rfl,rfl,rfl,rfl,trivial⟩ ⟨H,Nat.zero_le _,rfl,Nat.zero_le _⟩ ?_
 rintro ⟨i,q,out⟩ w ⟨H,hi,hgo,ho⟩
 refine Ab (Ae (V U U (Bd U U U) (Ac (Z (Ab ?_)))))
 refine Az U (fun h35=>?_) (fun h35=>?_)
 ·refine Aw (Z (Ab (AW (Ab (Ae ?_)))))
  obtain ⟨x36,hx37⟩:∃ z9,x27[i]?=some z9:=⟨_,List.getElem?_eq_getElem (show i<x27.length by omega)⟩
  have th38:=H.thR 0 rfl hx37
  refine V U U (Ba (p:=AT A30+i*2) U BA U U (by omega) (by omega) th38 U) (V U U (Bu (cs:=[.string x36.key,.string x36.val]) U Cb U U (H.elsR 0 U hx37 U)) (Dr U U U CT H (fun b39 w H=>(Bo U U U Cb U U H U (Nat.le_of_ble_eq_true U) (fun u hu=>by simp [Value.cells] at hu;rcases hu with rfl|rfl<;>rfl) (fun w H=>?_)))))
  replace H:Hd _ _ _ [blk b39 [.string x36.key,.string x36.val] 106,Y Ag q out,blk b26 [.slice A1 J.us.length c2,.int .i64 J.parts,.slice A6 J.map.length c7,.slice A11 J.comb.length c12,.slice A16 J.red.length c17,.int .i64 J.chunk,.int .i64 J.window,.int .i64 J.fuel,.slice A21 J.marks.length c22] 26] [Aa Ag (.slice A30 x27.length c31) x27,Aa (Ak Ag) (.slice A1 J.us.length c2) J.us,Aa Af (.slice A6 J.map.length c7) J.map,Aa Af (.slice A11 J.comb.length c12) J.comb,Aa Af (.slice A16 J.red.length c17) J.red,Aa (Ai .i64) (.slice A21 J.marks.length c22) J.marks,gl]:=H
  refine Ac (Z (Ab (Ae (V U U (Aj U Ij U) (V U U (Ao U Ee U (H.cellI 2 U U)) (V U U (Aj U Fh U) (V U U (Ao U BV U (H.cellI 0 U U)) (V U U (Aj U Ih U) (V U U (Ao U BV U (H.cellI 0 U U)) (BU (parts:=[(0,.tmp 27)]) (vs:=[.string x36.val]) (cs:=[.string x36.val]) U U U Hj IW U (by decide) (by decide) U U H (fun b40 w H=>(V U U (Aj U Ja U) (V U U (Ao U AE U (H.cellI 3 U U)) (sc (RS (.slice A6 J.map.length c7) J.map x36.key (.slice (some ⟨b40,0,none⟩) 1 1) [x36.val] J.fuel hJ.map hJ.f64) H (lR 2 U (lA 0 U (fun F h=>Ch h rfl (by decide) (AZ.flat_eq.2 U)) (lR 6 U l0))) U U (At Pb U U) ?_))))))))))))))
  rintro _ _ w ⟨u41,rfl,rfl⟩ H
  replace H:=H.h2 (A:=Y Ag u41 ((Bz dg J.map x36.key [x36.val] J.fuel).1)) (B:=blk b40 [.string x36.val] 9)
  have hrt:=Q8 dg J.map x36.key [x36.val] J.fuel
  refine Ah 5 U (Ac (Z (Ab (Ab (Ae (Ad U (V U U (CN U U U) (Ac (Z ?_)))))))))
  refine Az U (fun h42=>?_) (fun h42=>?_)
  ·refine Ab (Ae (Ah 3 U (Ac (Z (Ap (AA (Bb (AA (AA (Bb (AA (Cm U U U ?_))))))))))))
   have e:mapM dg J s=([],(Bz dg J.map x36.key [x36.val] J.fuel).2):=by unfold mapM;rw [hrec];exact hgo.symm.trans (Wt hx37 h42)
   replace H:=H.nil|>.newnil Ag|>.dropR
   replace H:Hd _ _ _ [Y Ag (.slice none 0 0) []] [Aa (Ak Ag) (.slice A1 J.us.length c2) J.us,Aa Af (.slice A6 J.map.length c7) J.map,Aa Af (.slice A11 J.comb.length c12) J.comb,Aa Af (.slice A16 J.red.length c17) J.red,Aa (Ai .i64) (.slice A21 J.marks.length c22) J.marks,gl]:=H
   exact Am ⟨_,by rw [e]<;>rfl,by rw [e]<;>rfl⟩ H
  refine Aw (Z (Ab (Ae (Ah 2 U ?_))))
  replace H:=H.p3
  obtain ⟨A43,c44,rfl,hc45,hm46,hp47⟩:=H.fA 1 rfl
  refine CG (xs:=out) (ys:=(Bz dg J.map x36.key [x36.val] J.fuel).1) U U U BA CT U (by decide) U U H (by first |omega|(rw [List.length_append];omega)) (fun F hA hR=>BE F (hA _ (List.mem_of_getElem? (i:=0) U))) (fun v48 w H=>(Ad U (Ac (Z ?_))))
  replace H:Hd _ _ _ [Y Ag v48 (out++((Bz dg J.map x36.key [x36.val] J.fuel).1)),Y Ag (.slice A43 (((Bz dg J.map x36.key [x36.val] J.fuel).1).length) c44) ((Bz dg J.map x36.key [x36.val] J.fuel).1),blk b40 [.string x36.val] 9,blk b39 [.string x36.key,.string x36.val] 106,blk b26 [.slice A1 J.us.length c2,.int .i64 J.parts,.slice A6 J.map.length c7,.slice A11 J.comb.length c12,.slice A16 J.red.length c17,.int .i64 J.chunk,.int .i64 J.window,.int .i64 J.fuel,.slice A21 J.marks.length c22] 26] [Aa Ag (.slice A30 x27.length c31) x27,Aa (Ak Ag) (.slice A1 J.us.length c2) J.us,Aa Af (.slice A6 J.map.length c7) J.map,Aa Af (.slice A11 J.comb.length c12) J.comb,Aa Af (.slice A16 J.red.length c17) J.red,Aa (Ai .i64) (.slice A21 J.marks.length c22) J.marks,gl]:=H
  refine Ab (Ae (Ad U ?_))
  obtain ⟨A49,c50,rfl,hc51,hm52,hp53⟩:=H.fA 0 rfl
  refine V U U (A8 U CH U) (V U U (Ca U U U) (Ac (Z ?_)))
  refine Az U (fun h54=>?_) (fun h54=>?_)
  ·refine Ab (Ae (Ah 2 U (Ac (Z (Ap (Bb (AA (AA (Bb (AA (Cm U U U ?_)))))))))))
   have hap:(out++(Bz dg J.map x36.key [x36.val] J.fuel).1).length=out.length+(Bz dg J.map x36.key [x36.val] J.fuel).1.length:=List.length_append
   have e:mapM dg J s=([],5):=by unfold mapM;rw [hrec];exact hgo.symm.trans (Wq hx37 h42 (by omega))
   replace H:=H.nil|>.newnil Ag|>.dropR
   replace H:Hd _ _ _ [Y Ag (.slice none 0 0) []] [Aa (Ak Ag) (.slice A1 J.us.length c2) J.us,Aa Af (.slice A6 J.map.length c7) J.map,Aa Af (.slice A11 J.comb.length c12) J.comb,Aa Af (.slice A16 J.red.length c17) J.red,Aa (Ai .i64) (.slice A21 J.marks.length c22) J.marks,gl]:=H
   exact Am ⟨_,by rw [e]<;>rfl,by rw [e]<;>rfl⟩ H
  refine Aw (A_ (Z (Ae (V U U (A0 (z:=((i+1:Nat):Int)) U U U (by rw [AF (by omega) (by omega)];omega)) (Ad U (Ac ?_))))))
  replace H:=H.p4.p1.k2
  have hap:(out++(Bz dg J.map x36.key [x36.val] J.fuel).1).length=out.length+(Bz dg J.map x36.key [x36.val] J.fuel).1.length:=List.length_append
  have hl2:(out++(Bz dg J.map x36.key [x36.val] J.fuel).1).length≤40:=by omega
  have hg2:=(Wr (out:=out) hx37 h42 (by omega)).trans hgo
  exact Bl (s:=(i,undef,out)) (i+1,.slice A49 ((out++((Bz dg J.map x36.key [x36.val] J.fuel).1)).length) c50,out++(Bz dg J.map x36.key [x36.val] J.fuel).1) ⟨rfl,rfl,rfl,rfl,rfl,trivial⟩ ⟨H,by (try dsimp only);omega,hg2,hl2⟩ (by (try dsimp only);omega)
 refine BM (AR (AR (BN (Z (Ab (Ae (Ah 3 U (Ac (Z (Ap (Cm U U U ?_)))))))))))
 replace H:=H.k1
 have e:mapM dg J s=(out,0):=by unfold mapM;rw [hrec];exact hgo.symm.trans (Wp (by omega))
 replace H:=H.dropR
 replace H:Hd _ _ _ [Y Ag q out] [Aa (Ak Ag) (.slice A1 J.us.length c2) J.us,Aa Af (.slice A6 J.map.length c7) J.map,Aa Af (.slice A11 J.comb.length c12) J.comb,Aa Af (.slice A16 J.red.length c17) J.red,Aa (Ai .i64) (.slice A21 J.marks.length c22) J.marks,gl]:=H
 exact Am ⟨_,by rw [e]<;>rfl,by rw [e]<;>rfl⟩ H
theorem Rt (vS vM vC vR vK:Value) (J:AG) (hJ:B5 J) (s:Nat) (hs:s<J.us.length):
    Cn Tryz.prog 53 [.agg #[vS,.int .i64 J.parts,vM,vC,vR,.int .i64 J.chunk,.int .i64 J.window,.int .i64 J.fuel,vK],.int .i64 ((s:Nat):Int)] [] [Aa (Ak Ag) vS J.us,Aa Af vM J.map,Aa Af vC J.comb,Aa Af vR J.red,Aa (Ai .i64) vK J.marks,gl] (fun v Bs=>∃ u,v=.tuple #[u,.int .i64 (AB dg J s).2]∧Bs=[Y Ag u (AB dg J s).1]):=by
 intro w0 F0 H
 obtain ⟨A1,c2,rfl,hc3,hm4,hp5⟩:=H.fR 0 rfl
 obtain ⟨A6,c7,rfl,hc8,hm9,hp10⟩:=H.fR 1 rfl
 obtain ⟨A11,c12,rfl,hc13,hm14,hp15⟩:=H.fR 2 rfl
 obtain ⟨A16,c17,rfl,hc18,hm19,hp20⟩:=H.fR 3 rfl
 obtain ⟨A21,c22,rfl,hc23,hm24,hp25⟩:=H.fR 4 rfl
 have hus:=hJ.us
 have hpt:=hJ.parts
 have hfu:=hJ.fuel
 refine enter Tryz.func53 U U (Nat.le_of_ble_eq_true U) (Ab (Ae (Cy U U U U H (fun b26 w H=>(Ah 2 U (Ac (Z ?_)))))))
 replace H:Hd _ _ _ [blk b26 [.slice A1 J.us.length c2,.int .i64 J.parts,.slice A6 J.map.length c7,.slice A11 J.comb.length c12,.slice A16 J.red.length c17,.int .i64 J.chunk,.int .i64 J.window,.int .i64 J.fuel,.slice A21 J.marks.length c22] 26] [Aa (Ak Ag) (.slice A1 J.us.length c2) J.us,Aa Af (.slice A6 J.map.length c7) J.map,Aa Af (.slice A11 J.comb.length c12) J.comb,Aa Af (.slice A16 J.red.length c17) J.red,Aa (Ai .i64) (.slice A21 J.marks.length c22) J.marks,gl]:=H
 refine Ab (Ab (Ae (V U U (Bu (cs:=[.slice A1 J.us.length c2,.int .i64 J.parts,.slice A6 J.map.length c7,.slice A11 J.comb.length c12,.slice A16 J.red.length c17,.int .i64 J.chunk,.int .i64 J.window,.int .i64 J.fuel,.slice A21 J.marks.length c22]) U FW U U (H.cellsI 0 U U)) (sc (LT (.slice A1 J.us.length c2) (.slice A6 J.map.length c7) (.slice A11 J.comb.length c12) (.slice A16 J.red.length c17) (.slice A21 J.marks.length c22) J) H (lR 0 U (lR 1 U (lR 2 U (lR 3 U (lR 4 U l0))))) U U (At L9 U U) ?_))))
 rintro _ _ w ⟨rfl,rfl⟩ H
 refine V U U (DD U U) (Ad U ?_)
 refine AU (d:=11) U (fun h27=>?_) (fun h27=>?_)
 ·exact (h27 hJ.may).elim
 refine Ad U (V U U (Bd U U U) (Ah 2 U ?_))
 refine AU (d:=15) U (fun h28=>?_) (fun h28=>?_)
 ·exfalso;omega
 refine Ad U (V U U (Aj U Dw U) (V U U (Ao U Dy U (H.cellI 0 U U)) (V U U (A8 U Dz U) (V U U (Cw U U U) (Ad U (Ac (Z ?_)))))))
 refine Az U (fun h29=>?_) (fun h29=>?_)
 ·exfalso;omega
 refine Aw (Z (Ab (Ae (V U U (Bu (cs:=[.slice A1 J.us.length c2,.int .i64 J.parts,.slice A6 J.map.length c7,.slice A11 J.comb.length c12,.slice A16 J.red.length c17,.int .i64 J.chunk,.int .i64 J.window,.int .i64 J.fuel,.slice A21 J.marks.length c22]) U FW U U (H.cellsI 0 U U)) (Ad U (sc (Wu (.slice A1 J.us.length c2) (.slice A6 J.map.length c7) (.slice A11 J.comb.length c12) (.slice A16 J.red.length c17) (.slice A21 J.marks.length c22) J hJ s (by omega)) H (lR 0 U (lR 1 U (lR 2 U (lR 3 U (lR 4 U (lR 5 U l0)))))) U U (At U0 U U) ?_))))))
 rintro _ _ w ⟨u30,rfl,rfl⟩ H
 refine Ah 5 U (Ac (Z ?_))
 replace H:Hd _ _ _ [Y Ag u30 ((mapM dg J s).1),blk b26 [.slice A1 J.us.length c2,.int .i64 J.parts,.slice A6 J.map.length c7,.slice A11 J.comb.length c12,.slice A16 J.red.length c17,.int .i64 J.chunk,.int .i64 J.window,.int .i64 J.fuel,.slice A21 J.marks.length c22] 26] [Aa (Ak Ag) (.slice A1 J.us.length c2) J.us,Aa Af (.slice A6 J.map.length c7) J.map,Aa Af (.slice A11 J.comb.length c12) J.comb,Aa Af (.slice A16 J.red.length c17) J.red,Aa (Ai .i64) (.slice A21 J.marks.length c22) J.marks,gl]:=H
 refine Ab (Ab (Ae (Ad U (V U U (CN U U U) (Ac (Z ?_))))))
 refine Az U (fun h31=>?_) (fun h31=>?_)
 ·refine Ab (Ae (Ah 3 U (Ac (Z (Ap (AA (Cm U U U ?_)))))))
  have e:AB dg J s=([],(mapM dg J s).2):=if_pos h31
  replace H:=H.nil|>.newnil Ag
  exact Am ⟨_,by rw [e]<;>rfl,by rw [e]<;>rfl⟩ H
 refine Aw (Z (Ab (Ae (V U U (Aj U Ik U) (V U U (Ao U Ee U (H.cellI 1 U U)) (Ad U (V U U (Aj U Ja U) (V U U (Ao U AE U (H.cellI 1 U U)) ?_))))))))
 have hml:=PM dg J s
 refine sc (Ud (.slice A11 J.comb.length c12) J.comb u30 ((mapM dg J s).1) J.fuel hJ.comb hJ.f64 (by omega)) H (lR 2 U (lA 0 U BE (lR 5 U l0))) U U (At U1 U U) ?_
 rintro _ _ w ⟨u32,rfl,rfl⟩ H
 replace H:=H.h1 (A:=Y Ag u32 ((FI dg J.comb (mapM dg J s).1 J.fuel).1))
 refine Ah 4 U (Ac (Z (Ap (Cm U U U ?_))))
 have e:AB dg J s=FI dg J.comb (mapM dg J s).1 J.fuel:=if_neg h31
 replace H:=H.k1
 exact Am ⟨_,by rw [e]<;>rfl,by rw [e]<;>rfl⟩ H
theorem OY (vS vM vC vR vK:Value) (J:AG) (hJ:B5 J) (s:Nat) (p:Int) (hs:s<J.us.length):
    Cn Tryz.prog 54 [.agg #[vS,.int .i64 J.parts,vM,vC,vR,.int .i64 J.chunk,.int .i64 J.window,.int .i64 J.fuel,vK],.int .i64 ((s:Nat):Int),.int .i64 p] [] [Aa (Ak Ag) vS J.us,Aa Af vM J.map,Aa Af vC J.comb,Aa Af vR J.red,Aa (Ai .i64) vK J.marks,gl] (fun v Bs=>∃ u,v=.tuple #[u,.int .i64 (CD dg J s p).2]∧Bs=[Y Ag u (CD dg J s p).1]):=by
 intro w0 F0 H
 obtain ⟨A1,c2,rfl,hc3,hm4,hp5⟩:=H.fR 0 rfl
 obtain ⟨A6,c7,rfl,hc8,hm9,hp10⟩:=H.fR 1 rfl
 obtain ⟨A11,c12,rfl,hc13,hm14,hp15⟩:=H.fR 2 rfl
 obtain ⟨A16,c17,rfl,hc18,hm19,hp20⟩:=H.fR 3 rfl
 obtain ⟨A21,c22,rfl,hc23,hm24,hp25⟩:=H.fR 4 rfl
 have hus:=hJ.us
 have hpt:=hJ.parts
 have hfu:=hJ.fuel
 refine enter Tryz.func54 U U (Nat.le_of_ble_eq_true U) (Ab (Ae (Cy U U U U H (fun b26 w H=>(Ah 2 U (Ac (Z ?_)))))))
 replace H:Hd _ _ _ [blk b26 [.slice A1 J.us.length c2,.int .i64 J.parts,.slice A6 J.map.length c7,.slice A11 J.comb.length c12,.slice A16 J.red.length c17,.int .i64 J.chunk,.int .i64 J.window,.int .i64 J.fuel,.slice A21 J.marks.length c22] 26] [Aa (Ak Ag) (.slice A1 J.us.length c2) J.us,Aa Af (.slice A6 J.map.length c7) J.map,Aa Af (.slice A11 J.comb.length c12) J.comb,Aa Af (.slice A16 J.red.length c17) J.red,Aa (Ai .i64) (.slice A21 J.marks.length c22) J.marks,gl]:=H
 refine Ab (Ae (V U U (Bu (cs:=[.slice A1 J.us.length c2,.int .i64 J.parts,.slice A6 J.map.length c7,.slice A11 J.comb.length c12,.slice A16 J.red.length c17,.int .i64 J.chunk,.int .i64 J.window,.int .i64 J.fuel,.slice A21 J.marks.length c22]) U FW U U (H.cellsI 0 U U)) (Ad U (sc (Rt (.slice A1 J.us.length c2) (.slice A6 J.map.length c7) (.slice A11 J.comb.length c12) (.slice A16 J.red.length c17) (.slice A21 J.marks.length c22) J hJ s (by omega)) H (lR 0 U (lR 1 U (lR 2 U (lR 3 U (lR 4 U (lR 5 U l0)))))) U U (At Pt U U) ?_))))
 rintro _ _ w ⟨u27,rfl,rfl⟩ H
 replace H:=H.h1 (A:=Y Ag u27 ((AB dg J s).1))
 refine Ah 5 U (Ac (Z (Ab (Ab (Ae (Ad U (V U U (CN U U U) (Ac (Z ?_)))))))))
 refine Az U (fun h28=>?_) (fun h28=>?_)
 ·refine Ab (Ae (Ah 3 U (Ac (Z (Ap (AA (Cm U U U ?_)))))))
  have e:CD dg J s p=([],(AB dg J s).2):=if_pos h28
  replace H:=H.nil|>.newnil Ag
  exact Am ⟨_,by rw [e]<;>rfl,by rw [e]<;>rfl⟩ H
 refine Aw (Z (Ab (Ae (Ad U (V U U (Aj U GX U) (V U U (Ao U AE U (H.cellI 1 U U)) (Ad U ?_)))))))
 have hsl:=HP dg J s
 have hsk:∀ x∈(AB dg J s).1,x.key.size≤9223372036854775807:=fun x hx=>by have:=(HQ G8 hJ s x hx).1;omega
 refine sc (P7 u27 ((AB dg J s).1) J.parts p (by omega) (by omega) hsk) H (lA 0 U BE l0) U U (At O3 U U) ?_
 rintro u29 _ w rfl H
 replace H:=H.h1 (A:=Y Ag u29 (B0 dg J s p))
 refine Ah 2 U (Ac (Z (Ap (Cm U U U ?_))))
 have e:CD dg J s p=(B0 dg J s p,0):=if_neg h28
 replace H:=H.k1
 exact Am ⟨_,by rw [e]<;>rfl,by rw [e]<;>rfl⟩ H
theorem UI (v:Value) (xs:List Int) (x:Int):
    Cn Tryz.prog 184 [v,.int .i64 x] [] [Aa (Ai .i64) v xs] (fun v Bs=>v=.int .i64 (E3 (fun y=>decide (x=y)) xs)∧Bs=[]):=by
 intro w0 F0 H
 obtain ⟨A1,c2,rfl,hc3,hm4,hp5⟩:=H.fR 0 rfl
 refine enter Tryz.func184 U U (Nat.le_of_ble_eq_true U) (Ab (Ae (Ad U (Ac (Z ?_)))))
 replace H:Hd _ _ _ [] [Aa (Ai .i64) (.slice A1 xs.length c2) xs]:=H
 refine Ab (Ab (Ae (Ad U (V U U (A8 U DL U) (Ad U (Ac (Z (AW (BT (σ:=Nat) (fun k=>[(0,.slice A1 xs.length c2),(1,.int .i64 x),(7,.int .i64 ((xs.length:Nat):Int)),(8,.int .i64 ((k:Nat):Int))]) (fun k w=>(Hd w0 F0 w [] [Aa (Ai .i64) (.slice A1 xs.length c2) xs])∧(k≤xs.length)∧(∀ y∈xs.take k,(fun y=>decide (x=y)) y=false)) (fun k=>xs.length - k) 0 ⟨rfl,rfl,rfl,rfl,trivial⟩ ⟨H,by omega,by simp⟩ ?_)))))))))
 rintro k w ⟨H,hk,hn⟩
 refine Ab (Ae (V U U (Bd U U U) (Ac (Z (Ab ?_)))))
 refine Az U (fun h6=>?_) (fun h6=>?_)
 ·refine Aw (Z (Ab (AW (Ab (Ae (Ah 2 U (Ac (Z (Ab (Ae (Ah 3 U ?_)))))))))))
  obtain ⟨x7,hx8⟩:∃ z9,xs[k]?=some z9:=⟨_,List.getElem?_eq_getElem (show k<xs.length by omega)⟩
  have th9:=H.thR 0 rfl hx8
  refine V U U (Ba (p:=AT A1+k*1) U Ds U U (by omega) (by omega) th9 U) (V U U (Ao U AE U (H.elR 0 U hx8 (q:=0) U U)) (V U U (Bv U U U) (Ac (Z ?_))))
  refine Az U (fun h10=>?_) (fun h10=>?_)
  ·exact Ab (Ae (Ah 2 U (Ac (Z (Ap (Bb (AA (AA (Bb (AA (Aq U U (Am ⟨by rw [J0 (p:=(fun y=>decide (x=y))) hn hx8 (decide_eq_true h10)]<;>rfl,rfl⟩ H))))))))))))
  exact Aw (A_ (Z (Ae (V U U (A0 (z:=((k+1:Nat):Int)) U U U (by rw [AF (by omega) (by omega)];omega)) (Ad U (Ac (Bl (s:=k) (k+1) ⟨rfl,rfl,rfl,rfl,trivial⟩ ⟨H,by omega,KP (p:=(fun y=>decide (x=y))) hn hx8 (decide_eq_false h10)⟩ (by (try dsimp only);omega))))))))
 refine BM (AR (AR (BN (Z (Ab (Ae (Ad U (Ac (Z (Ap (Aq U U ?_)))))))))))
 have hn2:∀ y∈xs,(fun y=>decide (x=y)) y=false:=by rw [←Hm (xs:=xs) (k:=k) (by omega)];exact hn
 exact Am ⟨by rw [I8 hn2]<;>rfl,rfl⟩ H
theorem JT (v:Value) (xs:List Int) (x:Int):
    Cn Tryz.prog 136 [v,.int .i64 x] [] [Aa (Ai .i64) v xs] (fun v Bs=>v=.bool (decide (x∈xs))∧Bs=[]):=by
 intro w0 F0 H
 refine enter Tryz.func136 U U (Nat.le_of_ble_eq_true U) (Ab (Ae (Ad U (Ac (Z (Ab (Ae (Ah 2 U (sc (UI v xs x) H (lR 0 U l0) U U (At Vg U U) ?_)))))))))
 rintro _ _ w ⟨rfl,rfl⟩ H
 refine V U U (Cw U U U) (Ad U (Ac (Z (Ap (Aq U U ?_)))))
 have e:decide (0≤E3 (fun y=>decide (x=y)) xs)=decide (x∈xs):=by rw [J1];rw [Bool.eq_iff_iff];simp
 exact Am ⟨congrArg Value.bool e,rfl⟩ H
end Go.Proofs.YthgehekecfpikaaGreatDoor.X
