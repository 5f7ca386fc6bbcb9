/- WorkerTries: texts P3, XE, F2, XJob, J1, XJob2, XCfg, XRed, XOb, XRed2, C1, XStg, N1, N2, J2, J3, J4, joined by a program of ours; what nothing names is left out. -/
import Derived.Test.YthgehekecfpikaaGreatDoorWorkerTriesQ3
import Derived.KernelRfl
set_option linter.unusedVariables false
set_option linter.unusedSimpArgs false
set_option maxHeartbeats 8000000
namespace Go.Proofs.YthgehekecfpikaaGreatDoor.X
open Go
theorem Y5 (v1 v2:Value) (xs ys:List Ap):
    Cn Tryz.prog 25 [v1,v2] [] [Z Ag v1 xs,Z Ag v2 ys] (fun v Bs=>v=.bool (decide (xs=ys))∧Bs=[]):=by
 intro w0 F0 H
 obtain ⟨A1,c2,rfl,hc3,hm4,hp5⟩:=H.fR 0 rfl
 obtain ⟨A6,c7,rfl,hc8,hm9,hp10⟩:=H.fR 1 rfl
 refine enter Tryz.func25 U U (Nat.le_of_ble_eq_true U) (Ab (Ae (Ad U (Ac (Aa ?_)))))
 replace H:Hd _ _ _ [] [Z Ag (.slice A1 xs.length c2) xs,Z Ag (.slice A6 ys.length c7) ys]:=H
 refine Ab (Ab (Ae (Ad U (V U U (A8 U Db U) (Ad U (V U U (A8 U Db U) (V U U (CX U U U) (Ac (Aa ?_)))))))))
 refine Ax U (fun h11=>?_) (fun h11=>?_)
 ·refine Ab (Ae (Ad U (Ac (Aa (An (Az (Aq U U ?_)))))))
  have e:¬ xs=ys:=fun e=>h11 (by rw [e])
  exact Al ⟨by rw [decide_eq_false e]<;>rfl,rfl⟩ H
 refine Av (Aa (Ab (Ab (Ae (Ad U (Ac (Aa (AS ?_))))))))
 have hle:xs.length=ys.length:=by omega
 refine BQ (σ:=Nat) (fun k=>[(0,.slice A1 xs.length c2),(1,.slice A6 ys.length c7),(5,.int .i64 ((k:Nat):Int))]) (fun k w=>(Hd w0 F0 w [] [Z Ag (.slice A1 xs.length c2) xs,Z Ag (.slice A6 ys.length c7) ys])∧(k≤xs.length)∧(xs.length=ys.length)∧(xs.take k=ys.take k)) (fun k=>xs.length - k) 0 ⟨rfl,rfl,rfl,trivial⟩ ⟨H,by omega,hle,rfl⟩ ?_
 rintro k w ⟨H,hk,hle,ht⟩
 refine Ab (Ab (Ae (Ah 2 U (V U U (A8 U Db U) (V U U (Bd U U U) (Ac (Aa ?_)))))))
 refine Ax U (fun h12=>?_) (fun h12=>?_)
 ·refine Av (Aa (Ab (AS (Ab (Gp mo (by kernel_rfl) H (Jt 2 U ?_))))))
  obtain ⟨x13,hx14⟩:∃ z9,xs[k]?=some z9:=⟨_,List.getElem?_eq_getElem (show k<xs.length by omega)⟩
  have th15:=H.thR 0 rfl hx14
  refine By U U (fun w H=>AZ (p:=AP A1+k*2) U BB U U (by omega) (by omega) th15 U) (By U U (fun w H=>Bq (cs:=[.string x13.key,.string x13.val]) U Cj U U (H.elsR 0 U hx14 U)) (Jt 2 U ?_))
  obtain ⟨x16,hx17⟩:∃ z9,ys[k]?=some z9:=⟨_,List.getElem?_eq_getElem (show k<ys.length by omega)⟩
  have th18:=H.thR 1 rfl hx17
  refine By U U (fun w H=>AZ (p:=AP A6+k*2) U BB U U (by omega) (by omega) th18 U) (By U U (fun w H=>Bq (cs:=[.string x16.key,.string x16.val]) U Cj U U (H.elsR 1 U hx17 U)) (By U U (fun w H=>XZ (p:=x13) (q:=x16) U Tw U U) (GF (fun w H=>(Aa ?_)))))
  refine Ax U (fun h19=>?_) (fun h19=>?_)
  ·refine Ab (Ae (Ad U (Ac (Aa (An (A0 (Az (Az (A0 (Az (Aq U U ?_)))))))))))
   have e:¬ xs=ys:=fun e=>h19 (by rw [e,hx17] at hx14;exact (Option.some.inj hx14).symm)
   exact Al ⟨by rw [decide_eq_false e]<;>rfl,rfl⟩ H
  refine Av (AU (Aa (Ae (Ad U (V U U (AT (z:=((k+1:Nat):Int)) U U U (by rw [AC (by omega) (by omega)];omega)) (Ad U (Ac ?_)))))))
  have e:x13=x16:=Classical.not_not.1 h19
  subst e
  exact Bi (s:=k) (k+1) ⟨rfl,rfl,rfl,trivial⟩ ⟨H,by omega,hle,Rm hx14 hx17 ht⟩ (by (try dsimp only);omega)
 refine BC (AM (AM (BD (Aa (Ab (Ae (Ad U (Ac (Aa (An (Aq U U ?_)))))))))))
 have e:xs=ys:=by rw [←GD (xs:=xs) (k:=k) (by omega),←GD (xs:=ys) (k:=k) (by omega)];exact ht
 exact Al ⟨by rw [decide_eq_true e]<;>rfl,rfl⟩ H
theorem Ua (vxs:Value) (xs:List Ap) (n:Int):
    Cn Tryz.prog 23 [vxs,.int .i64 n] [] [Z Ag vxs xs] (fun v Bs=>v=.bool (Fi xs n)∧Bs=[]):=by
 intro w0 F0 H
 obtain ⟨A1,c2,rfl,hc3,hm4,hp5⟩:=H.fR 0 rfl
 refine enter Tryz.func23 U U (Nat.le_of_ble_eq_true U) (Ab (Ae (Ad U (Ac (Aa ?_)))))
 replace H:Hd _ _ _ [] [Z Ag (.slice A1 xs.length c2) xs]:=H
 refine Ab (Ab (Ae (Ad U (Ac (Aa (AS (BQ (σ:=Nat) (fun k=>[(0,.slice A1 xs.length c2),(1,.int .i64 n),(5,.int .i64 ((k:Nat):Int))]) (fun k w=>(Hd w0 F0 w [] [Z Ag (.slice A1 xs.length c2) xs])∧(k≤xs.length)∧(∀ y∈xs.take k,y.key.size≤100∧y.val.size≤100)) (fun k=>xs.length - k) 0 ⟨rfl,rfl,rfl,trivial⟩ ⟨H,by omega,by simp⟩ ?_)))))))
 rintro k w ⟨H,hk,hn⟩
 refine Ab (Ab (Ae (Ah 2 U (V U U (A8 U Db U) (V U U (Bd U U U) (Ad U ?_))))))
 refine AK (d:=10) U (fun h6=>?_) (fun h6=>?_)
 ·refine Ad U (V U U (A8 U Db U) (Ad U (V U U (Cz U U U) (Ad U (Ac (Aa ?_))))))
  refine Ax U (fun h7=>?_) (fun h7=>?_)
  ·refine Av (Aa (Ab (AS (Ab (Ae (Ah 2 U ?_))))))
   obtain ⟨x8,hx9⟩:∃ z9,xs[k]?=some z9:=⟨_,List.getElem?_eq_getElem (show k<xs.length by omega)⟩
   have th10:=H.thR 0 rfl hx9
   refine V U U (AZ (p:=AP A1+k*2) U BB U U (by omega) (by omega) th10 U) (V U U (Aj U Fg U) (V U U (Ak U BV U (H.elR 0 U hx9 (q:=0) U U)) (V U U (Dp U CF U) (V U U (Cp U U U) (Ad U ?_)))))
   refine AK (d:=25) U (fun h11=>?_) (fun h11=>?_)
   ·exact Ah 8 U (Ac (Aa (Cw U (Ab (Ae (Ad U (Ac (Aa (An (A0 (Az (Az (A0 (Az (Aq U U (Al ⟨congrArg Value.bool (OS hx9 (by omega)),rfl⟩ H))))))))))))))))
   refine Ah 2 U ?_
   have th12:=H.thR 0 rfl hx9
   refine V U U (AZ (p:=AP A1+k*2) U BB U U (by omega) (by omega) th12 U) (V U U (Aj U HN U) (V U U (Ak U BV U (H.elR 0 U hx9 (q:=1) U U)) (V U U (Dp U CF U) (V U U (Cp U U U) (Ad U (Ac (Aa ?_)))))))
   refine Ax U (fun h13=>?_) (fun h13=>?_)
   ·exact Ab (Ae (Ad U (Ac (Aa (An (A0 (Az (Az (A0 (Az (Aq U U (Al ⟨congrArg Value.bool (OS hx9 (by omega)),rfl⟩ H))))))))))))
   exact Av (AU (Aa (Ae (Ad U (V U U (AT (z:=((k+1:Nat):Int)) U U U (by rw [AC (by omega) (by omega)];omega)) (Ad U (Ac (Bi (s:=k) (k+1) ⟨rfl,rfl,rfl,trivial⟩ ⟨H,by (try dsimp only);omega,Hv hn hx9 (by omega)⟩ (by (try dsimp only);omega)))))))))
  exact BC (AM (AM (BD (Aa (Ab (Ae (Ad U (V U U (A8 U Db U) (Ad U (V U U (Cp U U U) (Ad U (Ac (Aa (An (Aq U U (Al ⟨congrArg Value.bool (OR hn (by omega)),rfl⟩ H))))))))))))))))
 exact Ah 5 U (Ac (Aa (B7 U (BC (AM (AM (BD (Aa (Ab (Ae (Ad U (V U U (A8 U Db U) (Ad U (V U U (Cp U U U) (Ad U (Ac (Aa (An (Aq U U (Al ⟨congrArg Value.bool (OR hn (by omega)),rfl⟩ H))))))))))))))))))))
theorem Xk (vxs:Value) (xs:List Ap) (key:ByteArray) (hb:xs.length≤1000000):
    Cn Tryz.prog 212 [vxs,.string key] [] [Z Ag vxs xs] (fun v Bs=>Bs=[Y Bk v (BT xs key)]):=by
 intro w0 F0 H
 obtain ⟨A1,c2,rfl,hc3,hm4,hp5⟩:=H.fR 0 rfl
 refine enter Tryz.func212 U U (Nat.le_of_ble_eq_true U) (Ab (Ae (Ad U (Ac (Aa ?_)))))
 replace H:Hd _ _ _ [] [Z Ag (.slice A1 xs.length c2) xs]:=H
 refine Ab (Ae (Ad U (Ac (Aa (Ab (Ab (Ae (Ad U (V U U (A8 U Db U) (Ad U (Ac (Aa (AS ?_)))))))))))))
 replace H:=H.newnil Bk
 refine BQ (σ:=Nat×Value) (fun (k,l)=>[(1,.string key),(4,.slice none 0 0),(5,l),(8,.slice A1 xs.length c2),(9,.int .i64 ((xs.length:Nat):Int)),(10,.int .i64 ((k:Nat):Int))]) (fun (k,l) w=>(Hd w0 F0 w [Y Bk l (BT (xs.take k) key)] [Z Ag (.slice A1 xs.length c2) xs])∧(k≤xs.length)) (fun (k,l)=>xs.length - k) (0,.slice none 0 0) ⟨rfl,rfl,rfl,rfl,rfl,rfl,trivial⟩ ⟨H,by (try dsimp only);omega⟩ ?_
 rintro ⟨k,l⟩ w ⟨H,hk⟩
 have hjl:=WT (xs.take k) key
 have hjt:(xs.take k).length≤xs.length:=by simp;omega
 refine Ab (Ae (V U U (Bd U U U) (Ac (Aa (Ab ?_)))))
 refine Ax U (fun h6=>?_) (fun h6=>?_)
 ·refine Av (Aa (Ab (AS (Ab (Ae ?_)))))
  obtain ⟨x7,hx8⟩:∃ z9,xs[k]?=some z9:=⟨_,List.getElem?_eq_getElem (show k<xs.length by omega)⟩
  have th9:=H.thR 0 rfl hx8
  refine V U U (AZ (p:=AP A1+k*2) U BB U U (by omega) (by omega) th9 U) (V U U (Bq (cs:=[.string x7.key,.string x7.val]) U Cj U U (H.elsR 0 U hx8 U)) (Dg U U U Dd H (fun b10 w H=>(BE U U U Cj U U H U (Nat.le_of_ble_eq_true U) (fun u hu=>by simp [Value.cells] at hu;rcases hu with rfl|rfl<;>rfl) (fun w H=>?_)))))
  replace H:=H.h2 (A:=blk b10 [.string x7.key,.string x7.val] 106) (B:=Y Bk l (BT (xs.take k) key))
  refine Ac (Aa (Ab (Ae (V U U (Aj U Fg U) (V U U (Ak U BV U (H.cellI 0 U U)) (Ad U (V U U (MC U U U) (Ac (Aa ?_)))))))))
  refine Ax U (fun h11=>?_) (fun h11=>?_)
  ·refine Ae (Ad U (V U U (Aj U HN U) (V U U (Ak U BV U (H.cellI 0 U U)) (BX (parts:=[(0,.tmp 20)]) (vs:=[.string x7.val]) (cs:=[.string x7.val]) U U U G5 IB U (by decide) (by decide) U U H (fun b12 w H=>?_)))))
   replace H:=H.p2
   refine Ct (xs:=BT (xs.take k) key) (ys:=[x7.val]) U U U G5 IB U (by decide) U U H (by omega) (fun F hA hR=>Cm (hA _ (List.mem_of_getElem? (i:=0) U)) U (by decide) (AW.flat_eq.2 U)) (fun v13 w H=>(Ad U (Ac (AU (Aa ?_)))))
   replace H:Hd _ _ _ [Y Bk v13 ((BT (xs.take k) key)++[x7.val]),blk b12 [.string x7.val] 9,blk b10 [.string x7.key,.string x7.val] 106] [Z Ag (.slice A1 xs.length c2) xs]:=H
   refine Ae (V U U (AT (z:=((k+1:Nat):Int)) U U U (by rw [AC (by omega) (by omega)];omega)) (Ad U (Ac ?_)))
   rw [←WX hx8 h11] at H
   replace H:=H.k1
   exact Bi (s:=(k,undef)) (k+1,v13) ⟨rfl,rfl,rfl,rfl,rfl,rfl,trivial⟩ ⟨H,by (try dsimp only);omega⟩ (by (try dsimp only);omega)
  refine Av (AU (Aa (Ae (V U U (AT (z:=((k+1:Nat):Int)) U U U (by rw [AC (by omega) (by omega)];omega)) (Ad U (Ac ?_))))))
  rw [←WW hx8 h11] at H
  replace H:=H.sel 2 [1] [0] rfl (by kernel_rfl)
  exact Bi (s:=(k,undef)) (k+1,l) ⟨rfl,rfl,rfl,rfl,rfl,rfl,trivial⟩ ⟨H,by (try dsimp only);omega⟩ (by (try dsimp only);omega)
 refine BC (AM (AM (BD (Aa (Ab (Ae (Ah 2 U (Ac (Aa (An (Aq U U ?_)))))))))))
 rw [List.take_of_length_le (show xs.length≤k by omega)] at H
 exact Al U H
theorem Xi (vxs:Value) (xs:List Ap) (hb:xs.length≤1000000):
    Cn Tryz.prog 211 [vxs] [] [Z Ag vxs xs] (fun v Bs=>Bs=[Y Bk v (DH xs)]):=by
 intro w0 F0 H
 obtain ⟨A1,c2,rfl,hc3,hm4,hp5⟩:=H.fR 0 rfl
 refine enter Tryz.func211 U U (Nat.le_of_ble_eq_true U) (Ab (Ae (Ad U (Ac (Aa ?_)))))
 replace H:Hd _ _ _ [] [Z Ag (.slice A1 xs.length c2) xs]:=H
 refine Ab (Ae (Ad U (Ac (Aa (Ab (Ab (Ae (Ad U (V U U (A8 U Db U) (Ad U (Ac (Aa (AS ?_)))))))))))))
 replace H:=H.newnil Bk
 refine BQ (σ:=Nat×Value) (fun (k,l)=>[(2,.slice none 0 0),(3,l),(6,.slice A1 xs.length c2),(7,.int .i64 ((xs.length:Nat):Int)),(8,.int .i64 ((k:Nat):Int))]) (fun (k,l) w=>(Hd w0 F0 w [Y Bk l ((xs.take k).map (·.key))] [Z Ag (.slice A1 xs.length c2) xs])∧(k≤xs.length)) (fun (k,l)=>xs.length - k) (0,.slice none 0 0) ⟨rfl,rfl,rfl,rfl,rfl,trivial⟩ ⟨H,by (try dsimp only);omega⟩ ?_
 rintro ⟨k,l⟩ w ⟨H,hk⟩
 have hjt:((xs.take k).map (·.key)).length≤xs.length:=by simp;omega
 refine Ab (Ae (V U U (Bd U U U) (Ac (Aa (Ab ?_)))))
 refine Ax U (fun h6=>?_) (fun h6=>?_)
 ·refine Av (Aa (Ab (AS (Ab (Ae ?_)))))
  obtain ⟨x7,hx8⟩:∃ z9,xs[k]?=some z9:=⟨_,List.getElem?_eq_getElem (show k<xs.length by omega)⟩
  have th9:=H.thR 0 rfl hx8
  refine V U U (AZ (p:=AP A1+k*2) U BB U U (by omega) (by omega) th9 U) (V U U (Bq (cs:=[.string x7.key,.string x7.val]) U Cj U U (H.elsR 0 U hx8 U)) (Dg U U U Dd H (fun b10 w H=>(BE U U U Cj U U H U (Nat.le_of_ble_eq_true U) (fun u hu=>by simp [Value.cells] at hu;rcases hu with rfl|rfl<;>rfl) (fun w H=>?_)))))
  replace H:=H.h2 (A:=blk b10 [.string x7.key,.string x7.val] 106) (B:=Y Bk l ((xs.take k).map (·.key)))
  refine Ac (Aa (Ae (Ad U (V U U (Aj U Fg U) (V U U (Ak U BV U (H.cellI 0 U U)) (BX (parts:=[(0,.tmp 14)]) (vs:=[.string x7.key]) (cs:=[.string x7.key]) U U U G5 IB U (by decide) (by decide) U U H (fun b11 w H=>?_)))))))
  replace H:=H.p2
  refine Ct (xs:=(xs.take k).map (·.key)) (ys:=[x7.key]) U U U G5 IB U (by decide) U U H (by omega) (fun F hA hR=>Cm (hA _ (List.mem_of_getElem? (i:=0) U)) U (by decide) (AW.flat_eq.2 U)) (fun v12 w H=>(Ad U (Ac (AU (Aa ?_)))))
  replace H:Hd _ _ _ [Y Bk v12 (((xs.take k).map (·.key))++[x7.key]),blk b11 [.string x7.key] 9,blk b10 [.string x7.key,.string x7.val] 106] [Z Ag (.slice A1 xs.length c2) xs]:=H
  refine Ae (V U U (AT (z:=((k+1:Nat):Int)) U U U (by rw [AC (by omega) (by omega)];omega)) (Ad U (Ac ?_)))
  rw [←UF hx8] at H
  replace H:=H.k1
  exact Bi (s:=(k,undef)) (k+1,v12) ⟨rfl,rfl,rfl,rfl,rfl,trivial⟩ ⟨H,by (try dsimp only);omega⟩ (by (try dsimp only);omega)
 refine BC (AM (AM (BD (Aa (Ab (Ae (Ad U (sc (Zf l ((xs.take k).map (·.key)) (by first |omega|(rw [MU];omega))) H l0 U U (At Vi U U) ?_))))))))
 rintro v13 _ w rfl H
 replace H:=H.h1 (A:=Y Bk l (FY ((xs.take k).map (·.key))))
 refine Ac (Aa (Ab (Ae (Ad U (sc (S0 l (FY ((xs.take k).map (·.key))) (by first |omega|(rw [MU];omega))) H l0 U U (At Vj U U) ?_)))))
 rintro v14 _ w rfl H
 replace H:=H.h1 (A:=Y Bk v14 (Gr (FY ((xs.take k).map (·.key)))))
 refine Ad U (Ac (Aa (An (Aq U U ?_))))
 rw [List.take_of_length_le (show xs.length≤k by omega)] at H
 exact Al U H
theorem Uu (f:FuncId) (cap:List Value) (Ex:List SP) (p:Ap→Bool) (hkf:AN Tryz.prog f) (hp:∀ x,Cn Tryz.prog f ([.agg #[.string x.key,.string x.val]]++cap) [] Ex (fun v Bs=>v=.bool (p x)∧Bs=[])) (v:Value) (xs:List Ap):
    Cn Tryz.prog 206 [v,.func (.func f) #[] (cap).toArray] [] (Z Ag v xs::Ex) (fun v Bs=>v=.int .i64 (Ff p xs)∧Bs=[]):=by
 intro w0 F0 H
 obtain ⟨A1,c2,rfl,hc3,hm4,hp5⟩:=H.fR 0 rfl
 refine enter Tryz.func206 U U (Nat.le_of_ble_eq_true U) (Ab (Ae (Ad U (Ac (Aa ?_)))))
 replace H:Hd _ _ _ [] (Z Ag (.slice A1 xs.length c2) xs::Ex):=H
 refine Ab (Ab (Ae (Ad U (V U U (A8 U Db U) (Ad U (Ac (Aa (AS (BQ (σ:=Nat) (fun k=>[(0,.slice A1 xs.length c2),(1,.func (.func f) #[] (cap).toArray),(7,.int .i64 ((xs.length:Nat):Int)),(8,.int .i64 ((k:Nat):Int))]) (fun k w=>(Hd w0 F0 w [] (Z Ag (.slice A1 xs.length c2) xs::Ex))∧(k≤xs.length)∧(∀ y∈xs.take k,p y=false)) (fun k=>xs.length - k) 0 ⟨rfl,rfl,rfl,rfl,trivial⟩ ⟨H,by omega,by simp⟩ ?_)))))))))
 rintro k w ⟨H,hk,hn⟩
 refine Ab (Ae (V U U (Bd U U U) (Ac (Aa (Ab ?_)))))
 refine Ax U (fun h6=>?_) (fun h6=>?_)
 ·refine Av (Aa (Ab (AS (Ab (Ae (Ah 2 U (Ac (Aa (Ab (Ae (Ah 3 U ?_)))))))))))
  obtain ⟨x7,hx8⟩:∃ z9,xs[k]?=some z9:=⟨_,List.getElem?_eq_getElem (show k<xs.length by omega)⟩
  have th9:=H.thR 0 rfl hx8
  refine V U U (AZ (p:=AP A1+k*2) U BB U U (by omega) (by omega) th9 U) (V U U (Bq (cs:=[.string x7.key,.string x7.val]) U Cj U U (H.elsR 0 U hx8 U)) (sc (hp x7) H (fun S hS F hA hR=>hR S (List.mem_cons_of_mem _ hS)) U U (F_ (vs:=[.agg #[.string x7.key,.string x7.val]]) (fs:=#[]) (cs:=cap.toArray) hkf U U U) ?_))
  rintro _ _ w ⟨rfl,rfl⟩ H
  refine Ac (Aa ?_)
  refine DN (b:=p x7) U (fun h10=>?_) (fun h10=>?_)
  ·exact Ab (Ae (Ah 2 U (Ac (Aa (An (A0 (Az (Az (A0 (Az (Aq U U (Al ⟨by rw [Lq hn hx8 h10]<;>rfl,rfl⟩ H))))))))))))
  exact Av (AU (Aa (Ae (V U U (AT (z:=((k+1:Nat):Int)) U U U (by rw [AC (by omega) (by omega)];omega)) (Ad U (Ac (Bi (s:=k) (k+1) ⟨rfl,rfl,rfl,rfl,trivial⟩ ⟨H,by omega,MY hn hx8 h10⟩ (by (try dsimp only);omega))))))))
 refine BC (AM (AM (BD (Aa (Ab (Ae (Ad U (Ac (Aa (An (Aq U U ?_)))))))))))
 have hn2:∀ y∈xs,p y=false:=by rw [←GD (xs:=xs) (k:=k) (by omega)];exact hn
 exact Al ⟨by rw [JM hn2]<;>rfl,rfl⟩ H
theorem N0 (f:FuncId) (cap:List Value) (Ex:List SP) (p:Ap→Bool) (hkf:AN Tryz.prog f) (hp:∀ x,Cn Tryz.prog f ([.agg #[.string x.key,.string x.val]]++cap) [] Ex (fun v Bs=>v=.bool (p x)∧Bs=[])) (v:Value) (xs:List Ap):
    Cn Tryz.prog 173 [v,.func (.func f) #[] (cap).toArray] [] (Z Ag v xs::Ex) (fun v Bs=>v=.bool (xs.any p)∧Bs=[]):=by
 intro w0 F0 H
 refine enter Tryz.func173 U U (Nat.le_of_ble_eq_true U) (Ab (Ae (Ad U (Ac (Aa (Ab (Ae (Ah 2 U (sc (Uu f cap Ex p hkf hp v xs) H L7 U U (At U7 U U) ?_)))))))))
 rintro _ _ w ⟨rfl,rfl⟩ H
 exact V U U (CR U U U) (Ad U (Ac (Aa (An (Aq U U (Al ⟨congrArg Value.bool (Lr p xs),rfl⟩ H))))))
theorem Wk (x:Ap):
    Cn Tryz.prog 174 [.agg #[.string x.key,.string x.val]] [] [] (fun v Bs=>v=.bool (!decide (C_ x))∧Bs=[]):=by
 intro w0 F0 H
 refine enter Tryz.func174 U U (Nat.le_of_ble_eq_true U) (Ab (Ae (CA U U U U H (fun b1 w H=>(Ad U (Ac (Aa ?_)))))))
 replace H:Hd _ _ _ [blk b1 [.string x.key,.string x.val] 106] []:=H
 refine Ab (Ae (V U U (Aj U Fg U) (V U U (Ak U BV U (H.cellI 0 U U)) (V U U (Dp U CF U) (V U U (Cp U U U) (Ad U ?_))))))
 refine AK (d:=7) U (fun h2=>?_) (fun h2=>?_)
 ·refine Ah 6 U (Ac (Aa (An (Aq U U ?_))))
  replace H:=H.nil
  exact Al ⟨by rw [decide_eq_false (by unfold C_;omega)];rfl,rfl⟩ H
 refine V U U (Aj U HN U) (V U U (Ak U BV U (H.cellI 0 U U)) (V U U (Dp U CF U) (V U U (Cp U U U) (Ah 2 U (Ac (Aa (An (Aq U U ?_))))))))
 replace H:=H.nil
 exact Al ⟨congrArg Value.bool (by rw [←decide_not];exact decide_eq_decide.2 (by unfold C_;omega)),rfl⟩ H
theorem Xj (vxs:Value) (xs:List Ap):
    Cn Tryz.prog 120 [vxs] [] [Z Ag vxs xs] (fun v Bs=>v=.bool (decide (Hn xs))∧Bs=[]):=by
 intro w0 F0 H
 obtain ⟨A1,c2,rfl,hc3,hm4,hp5⟩:=H.fR 0 rfl
 refine enter Tryz.func120 U U (Nat.le_of_ble_eq_true U) (Ab (Ae (Ad U (Ac (Aa ?_)))))
 replace H:Hd _ _ _ [] [Z Ag (.slice A1 xs.length c2) xs]:=H
 refine Ab (Ae (Ad U (sc (N0 174 [] [] (fun p=>!decide (C_ p)) U0 (fun x=>Wk x) (.slice A1 xs.length c2) xs) H (lR 0 U l0) U U (At Pj U U) ?_)))
 rintro _ _ w ⟨rfl,rfl⟩ H
 exact V U U (FW U U U) (Ad U (Ac (Aa (An (Aq U U (Al ⟨congrArg Value.bool (Wm xs),rfl⟩ H))))))
theorem Tk {told:List Ap} {k v:ByteArray} (h:told.length≤40):(DY told k v).2.length≤40:=by
 unfold DY
 split
 ·exact h
 ·split
  ·exact h
  ·simp only [List.length_append,List.length_cons,List.length_nil];omega
theorem P5 (m:VM):(GV m).1.told=m.told:=by
 rw [P6]
def TL (r:VM×Int):Prop:=r.1.told.length≤40
theorem D5 {c:Prop} [Decidable c] {x y:VM×Int} (hx:TL x) (hy:TL y):TL (if c then x else y):=by
 split
 ·exact hx
 ·exact hy
theorem RX {D:AV} {key:ByteArray} {m:VM} {i:BG} {v:List AQ} (h:m.told.length≤40):(Cc D key m i v).1.told.length≤40:=by
 have hn:TL (GV m):=by unfold TL;rw [P5];exact h
 have h20:TL (if (v.getD 0 CM).n≠0 then {m with pos:=i.a} else m,0):=by
  unfold TL
  dsimp only
  split<;>exact h
 exact D5 h (D5 h (D5 h (D5 h (D5 h (D5 h (D5 hn (D5 h (D5 h (D5 h (D5 h (D5 h (D5 h (D5 h (D5 h (D5 h (D5 h20 (D5 h (D5 h (D5 (Tk h) h)))))))))))))))))))
theorem N8 {D:AV} {key:ByteArray} {m:VM} {i:BG} (h:m.told.length≤40):(BK D key m i).1.told.length≤40:=by
 unfold BK
 split
 ·exact h
 ·exact RX h
theorem Qt {D:AV} {p:List BG} {key:ByteArray}:∀ (k:Nat) {m:VM},m.told.length≤40→(CO D p key k m).1.told.length≤40
 |0,m,h=>by
  unfold CO
  split<;>exact h
 |k+1,m,h=>by
  unfold CO
  split
  ·split
   ·split
    ·exact N8 h
    ·exact Qt k (N8 h)
   ·exact h
  ·exact h
theorem Q7 (D:AV) (p:List BG) (key:ByteArray) (vals:List ByteArray) (fuel:Int):(Bv D p key vals fuel).1.length≤40:=by
 unfold Bv
 split
 ·exact Nat.zero_le _
 ·split
  ·exact Nat.zero_le _
  ·exact Qt _ (Nat.zero_le _)
def I3 (k:ByteArray) (l:List Ap):Bool:=l.any fun x=>decide (x.key≠k)
def Ey (D:AV) (p:List BG) (ps:List Ap) (fuel:Int) (own:Bool):List ByteArray→List Ap→List Ap×Int
 |[],out=>(out,0)
 |k::ks,out=>
  if (Bv D p k (BT ps k) fuel).2≠0 then ([],(Bv D p k (BT ps k) fuel).2)
  else if own=true∧I3 k (Bv D p k (BT ps k) fuel).1=true then ([],6)
  else if 40<out.length+(Bv D p k (BT ps k) fuel).1.length then ([],5)
  else Ey D p ps fuel own ks (out++(Bv D p k (BT ps k) fuel).1)
def Du (D:AV) (p:List BG) (ps:List Ap) (fuel:Int) (own:Bool):List Ap×Int:=Ey D p ps fuel own (DH ps) []
def FO (D:AV) (p:List BG) (ps:List Ap) (fuel:Int):List Ap×Int:=if p.length=0 then (srt ps,0) else Du D p ps fuel true
section
variable {D:AV} {p:List BG} {ps:List Ap} {fuel:Int} {own:Bool} {ks:List ByteArray} {k:ByteArray} {out:List Ap} {i:Nat}
theorem T6 (h:ks.length≤i):Ey D p ps fuel own (ks.drop i) out=(out,0):=by
 rw [List.drop_eq_nil_of_le h];rfl
theorem T8 (hk:ks[i]?=some k) (h:(Bv D p k (BT ps k) fuel).2≠0):Ey D p ps fuel own (ks.drop i) out=([],(Bv D p k (BT ps k) fuel).2):=by
 rw [Fe hk];exact if_pos h
theorem T7 (hk:ks[i]?=some k) (h:¬ (Bv D p k (BT ps k) fuel).2≠0) (h2:own=true) (h3:I3 k (Bv D p k (BT ps k) fuel).1=true):Ey D p ps fuel own (ks.drop i) out=([],6):=by
 rw [Fe hk];unfold Ey;rw [if_neg h,if_pos ⟨h2,h3⟩]
theorem OO (hk:ks[i]?=some k) (h:¬ (Bv D p k (BT ps k) fuel).2≠0) (h2:¬ (own=true∧I3 k (Bv D p k (BT ps k) fuel).1=true)) (h3:40<out.length+(Bv D p k (BT ps k) fuel).1.length):Ey D p ps fuel own (ks.drop i) out=([],5):=by
 rw [Fe hk];unfold Ey;rw [if_neg h,if_neg h2,if_pos h3]
theorem OP (hk:ks[i]?=some k) (h:¬ (Bv D p k (BT ps k) fuel).2≠0) (h2:¬ (own=true∧I3 k (Bv D p k (BT ps k) fuel).1=true)) (h3:¬ 40<out.length+(Bv D p k (BT ps k) fuel).1.length):
  Ey D p ps fuel own (ks.drop (i+1)) (out++(Bv D p k (BT ps k) fuel).1)=Ey D p ps fuel own (ks.drop i) out:=by
 rw [Fe hk];conv=>rhs;unfold Ey
 rw [if_neg h,if_neg h2,if_neg h3]
end
theorem N_ (D:AV) (p:List BG) (ps:List Ap) (fuel:Int) (own:Bool):∀ (ks:List ByteArray) (out:List Ap),out.length≤40→(Ey D p ps fuel own ks out).1.length≤40
 |[],out,h=>h
 |k::ks,out,h=>by
  unfold Ey
  split
  ·exact Nat.zero_le _
  ·split
   ·exact Nat.zero_le _
   ·split
    ·exact Nat.zero_le _
    ·exact N_ D p ps fuel own ks _ (by simp only [List.length_append];omega)
def DP:List BG:=[⟨6,0,⟨#[]⟩⟩,⟨7,0,⟨#[]⟩⟩,⟨4,0,⟨#[]⟩⟩,⟨23,0,⟨#[]⟩⟩]
theorem LS:∀ i∈DP,AA i.a:=by
 intro i hi
 simp only [DP,List.mem_cons,List.not_mem_nil,or_false] at hi
 rcases hi with rfl|rfl|rfl|rfl<;>exact IR
theorem Th (x:Ap) (kb:Nat) (key:ByteArray):
    Cn Tryz.prog 213 [.agg #[.string x.key,.string x.val],.pointer (some ⟨kb,0,none⟩)] [] [blk kb [.string key] 9] (fun v Bs=>v=.bool (decide (x.key≠key))∧Bs=[]):=by
 intro w0 F0 H
 refine enter Tryz.func213 U U (Nat.le_of_ble_eq_true U) (Ab (Ae (CA U U U U H (fun b1 w H=>(Ad U (Ac (Aa ?_)))))))
 replace H:Hd _ _ _ [blk b1 [.string x.key,.string x.val] 106] [blk kb [.string key] 9]:=H
 refine Ab (Ae (V U U (Aj U Fg U) (V U U (Ak U BV U (H.cellI 0 U U)) (V U U (Ak U BV U (H.cellRI 0 U U)) (V U U (MD U U U) (Ad U (Ac (Aa (An (Aq U U ?_))))))))))
 replace H:=H.nil
 exact Al ⟨rfl,rfl⟩ H
theorem Oa (vp:Value) (p:List BG) (vps:Value) (ps:List Ap) (fuel:Int) (own:Bool) (hpa:∀ i∈p,AA i.a) (hfu:AA fuel) (hb:ps.length≤1000000):
    Cn Tryz.prog 177 [vp,vps,.int .i64 fuel,.bool own] [] [Z Af vp p,Z Ag vps ps,gl] (fun v Bs=>∃ u,v=.tuple #[u,.int .i64 (Du dg p ps fuel own).2]∧Bs=[Y Ag u (Du dg p ps fuel own).1]):=by
 intro w0 F0 H
 obtain ⟨A1,c2,rfl,hc3,hm4,hp5⟩:=H.fR 0 rfl
 obtain ⟨A6,c7,rfl,hc8,hm9,hp10⟩:=H.fR 1 rfl
 refine enter Tryz.func177 U U (Nat.le_of_ble_eq_true U) (Ab (Ae (Ah 2 U (Ac (Aa ?_)))))
 replace H:Hd _ _ _ [] [Z Af (.slice A1 p.length c2) p,Z Ag (.slice A6 ps.length c7) ps,gl]:=H
 refine Ab (Ae (Ad U (Ac (Aa (Ab (Ae (sc Zz H l0 U U (At U9 U U) ?_)))))))
 rintro _ _ w ⟨b11,rfl,rfl⟩ H
 replace H:=H.h1 (A:=blk b11 [.int .i64 0,.int .i64 0,.int .i64 0,.int .i64 0,.int .i64 0,.int .i64 0,.int .i64 0,.int .i64 0] 322)
 refine Ad U (Ac (Aa (Ab (Ab (Ae (Ad U (sc (Xi (.slice A6 ps.length c7) ps (by first |omega|decide)) H (lR 1 U l0) U U (At U_ U U) ?_)))))))
 rintro v12 _ w rfl H
 obtain ⟨A13,c14,rfl,hc15,hm16,hp17⟩:=H.fA 0 rfl
 refine V U U (A8 U RD U) (Ad U (Ac (Aa ?_)))
 replace H:Hd _ _ _ [Y Bk (.slice A13 ((DH ps).length) c14) (DH ps),blk b11 [.int .i64 0,.int .i64 0,.int .i64 0,.int .i64 0,.int .i64 0,.int .i64 0,.int .i64 0,.int .i64 0] 322] [Z Af (.slice A1 p.length c2) p,Z Ag (.slice A6 ps.length c7) ps,gl]:=H
 refine AS ?_
 replace H:=H.newnil Ag
 refine BQ (σ:=Nat×Value×List Ap) (fun (i,q,out)=>[(0,.slice A1 p.length c2),(1,.slice A6 ps.length c7),(2,.int .i64 fuel),(3,.bool own),(10,q),(11,.pointer (some ⟨b11,0,none⟩)),(18,.slice A13 ((DH ps).length) c14),(19,.int .i64 (((DH ps).length:Nat):Int)),(20,.int .i64 ((i:Nat):Int))]) (fun (i,q,out) w=>(Hd w0 F0 w [Y Ag q out,Y Bk (.slice A13 ((DH ps).length) c14) (DH ps),blk b11 [.int .i64 (out.length:Int),.int .i64 0,.int .i64 0,.int .i64 0,.int .i64 0,.int .i64 0,.int .i64 0,.int .i64 0] 322] [Z Af (.slice A1 p.length c2) p,Z Ag (.slice A6 ps.length c7) ps,gl])∧(i≤(DH ps).length)∧(Ey dg p ps fuel own ((DH ps).drop i) out=Du dg p ps fuel own)∧(out.length≤40)) (fun (i,q,out)=>(DH ps).length - i) (0,.slice none 0 0,[]) ⟨rfl,rfl,rfl,rfl,rfl,rfl,rfl,rfl,rfl,trivial⟩ ⟨H,Nat.zero_le _,rfl,Nat.zero_le _⟩ ?_
 rintro ⟨i,q,out⟩ w ⟨H,hi,hgo,ho⟩
 have hkl:=UG ps
 refine Ab (Ae (V U U (Bd U U U) (Ac (Aa (Ab ?_)))))
 refine Ax U (fun h18=>?_) (fun h18=>?_)
 ·refine Av (Aa (Ab (AS (Ab (Ae ?_)))))
  obtain ⟨x19,hx20⟩:∃ z9,(DH ps)[i]?=some z9:=⟨_,List.getElem?_eq_getElem (show i<(DH ps).length by omega)⟩
  have th21:=H.thA 1 rfl hx20
  refine V U U (AZ (p:=AP A13+i*1) U G5 U U (by omega) (by omega) th21 U) (V U U (Ak U BV U (H.elA 1 U hx20 (q:=0) U U)) (Dg U U U IB H (fun b22 w H=>(BE U U U BV U U H U (Nat.le_of_ble_eq_true U) (fun u hu=>by simp [Value.cells] at hu;subst hu;rfl) (fun w H=>?_)))))
  replace H:=H.h4 (A:=blk b22 [.string x19] 9) (B:=Y Ag q out) (D:=blk b11 [.int .i64 (out.length:Int),.int .i64 0,.int .i64 0,.int .i64 0,.int .i64 0,.int .i64 0,.int .i64 0,.int .i64 0] 322)
  refine Ac (Aa (Ab (BY (.e 0 (.e 1 (.e 2 (.e 3 (.e 5 (.m 4 (.m 6 (.e 7 (.e 8 (.e 9 (.e 10 (.e 11 .z)))))))))))) (fun w=>∃ Ar,Hd w0 F0 w (blk b22 [.string x19] 9::Y Ag q out::Y Bk (.slice A13 ((DH ps).length) c14) (DH ps)::blk b11 [.int .i64 (out.length:Int),.int .i64 0,.int .i64 0,.int .i64 0,.int .i64 0,.int .i64 0,.int .i64 0,.int .i64 0] 322::Ar) [Z Af (.slice A1 p.length c2) p,Z Ag (.slice A6 ps.length c7) ps,gl]) mo (by kernel_rfl) (fun w H=>⟨_,H⟩) H (fun w H=>(Au U (Ao U U U (fun w ⟨Ar,H⟩=>Ak U BV U (H.cellI 0 U U)) (Au U (Ao U U U (fun w ⟨Ar,H⟩=>Ak U BV U (H.cellI 0 U U)) (Au U (AO U (sc (Xk (.slice A6 ps.length c7) ps x19 (by first |omega|decide)) H (lR 1 U l0) U U (At Va U U) ?_)))))))))))
  rintro v23 _ w rfl H
  replace H:=H.h1 (A:=Y Bk v23 (BT ps x19))|>.p4|>.p4|>.p4|>.p4
  refine AE ⟨_,H⟩ (AO U (sc (RL (.slice A1 p.length c2) p x19 v23 (BT ps x19) fuel hpa hfu) H (lR 0 U (lA 4 U BJ (lR 2 U l0))) U U (At Pk U U) ?_))
  rintro _ _ w ⟨u24,rfl,rfl⟩ H
  replace H:=H.h1 (A:=Y Ag u24 ((Bv dg p x19 (BT ps x19) fuel).1))
  have hrt:=Q7 dg p x19 (BT ps x19) fuel
  replace H:=H.p4.p4.p4.p4
  refine AE ⟨_,H⟩ (Au U (Au U (Au U (Au U (Au U (BP (Aa (Ab (AS (Ab (Ae (Ad U (V U U (CX U U U) (Ad U (Ac (Aa ?_))))))))))))))))
  refine Ax U (fun h25=>?_) (fun h25=>?_)
  ·refine Ab (Ae (Ah 3 U (Ac (Aa (An (A0 (Az (A0 (Az (Az (A0 (Az (Cl U U U ?_)))))))))))))
   have e:Du dg p ps fuel own=([],(Bv dg p x19 (BT ps x19) fuel).2):=hgo.symm.trans (T8 hx20 h25)
   replace H:=H.nil|>.newnil Ag
   exact Al ⟨_,by rw [e]<;>rfl,by rw [e]<;>rfl⟩ H
  refine Ab (Ae (Ah 2 U ?_))
  refine E3 (d:=40) (b:=own) U (fun h26=>?_) (fun h26=>?_)
  ·refine Ad U (V U U (Hq (fs:=#[]) (cs:=#[.pointer (some ⟨b22,0,none⟩)]) U U U) (sc (N0 213 [.pointer (some ⟨b22,0,none⟩)] [blk b22 [.string x19] 9] (fun y=>decide (y.key≠x19)) Vb (fun y=>Th y b22 x19) u24 (Bv dg p x19 (BT ps x19) fuel).1) H (lA 4 U BJ (lA 0 U (fun _ h=>h) l0)) U U (At Pj U U) ?_))
   rintro _ _ w ⟨rfl,rfl⟩ H
   refine Ah 2 U (Ac (Aa ?_))
   refine DN (b:=I3 x19 (Bv dg p x19 (BT ps x19) fuel).1) U (fun h27=>?_) (fun h27=>?_)
   ·refine Ab (Ae (Ah 2 U (Ac (Aa (An (A0 (Az (A0 (Az (Az (A0 (Az (Cl U U U ?_)))))))))))))
    have e:Du dg p ps fuel own=([],6):=hgo.symm.trans (T7 hx20 h25 h26 h27)
    replace H:=H.nil|>.newnil Ag
    replace H:Hd _ _ _ [Y Ag (.slice none 0 0) []] [Z Af (.slice A1 p.length c2) p,Z Ag (.slice A6 ps.length c7) ps,gl]:=H
    exact Al ⟨_,by rw [e]<;>rfl,by rw [e]<;>rfl⟩ H
   refine Ab (Ae (Ah 2 U ?_))
   obtain ⟨A28,c29,rfl,hc30,hm31,hp32⟩:=H.fA 4 rfl
   refine V U U (A8 U Db U) ?_
   replace H:=H.p3
   replace H:Hd _ _ _ [blk b11 [.int .i64 (out.length:Int),.int .i64 0,.int .i64 0,.int .i64 0,.int .i64 0,.int .i64 0,.int .i64 0,.int .i64 0] 322,blk b22 [.string x19] 9,Y Ag q out,Y Bk (.slice A13 ((DH ps).length) c14) (DH ps),Y Ag (.slice A28 (((Bv dg p x19 (BT ps x19) fuel).1).length) c29) ((Bv dg p x19 (BT ps x19) fuel).1),Y Bk v23 (BT ps x19)] [Z Af (.slice A1 p.length c2) p,Z Ag (.slice A6 ps.length c7) ps,gl]:=H
   refine sc (Rn b11 (out.length:Int) 0 0 0 0 0 0 0 ((((Bv dg p x19 (BT ps x19) fuel).1).length:Nat):Int) (by omega) (by omega)) H l0 U U (At Pq U U) ?_
   rintro _ _ w ⟨rfl,rfl⟩ H
   replace H:=H.h1 (A:=blk b11 [.int .i64 (min ((out.length:Int)+((((Bv dg p x19 (BT ps x19) fuel).1).length:Nat):Int)) 1099511627776),.int .i64 0,.int .i64 0,.int .i64 0,.int .i64 0,.int .i64 0,.int .i64 0,.int .i64 0] 322)
   refine V U U (Cp U U U) (Ad U (Ac (Aa ?_)))
   refine Ax U (fun h33=>?_) (fun h33=>?_)
   ·refine Ab (Ae (Ah 2 U (Ac (Aa (An (A0 (Az (A0 (Az (Az (A0 (Az (Cl U U U ?_)))))))))))))
    have e:Du dg p ps fuel own=([],5):=hgo.symm.trans (OO hx20 h25 (fun h=>by rw [h.2] at h27;cases h27) (by omega))
    replace H:=H.nil|>.newnil Ag
    exact Al ⟨_,by rw [e]<;>rfl,by rw [e]<;>rfl⟩ H
   refine Av (AU (Aa (Ae (Ah 2 U ?_))))
   replace H:=H.p2
   refine Ct (xs:=out) (ys:=(Bv dg p x19 (BT ps x19) fuel).1) U U U BB Dd U (by decide) U U H (by omega) (fun F hA hR=>BJ F (hA _ (List.mem_of_getElem? (i:=3) U))) (fun v34 w H=>?_)
   replace H:=H.h1 (A:=Y Ag v34 (out++((Bv dg p x19 (BT ps x19) fuel).1)))
   refine Ad U (Ac (AU (Aa (Ae (V U U (AT (z:=((i+1:Nat):Int)) U U U (by rw [AC (by omega) (by omega)];omega)) (Ad U (Ac ?_)))))))
   replace H:=H.p3.p1.k3
   have hl2:((out++(Bv dg p x19 (BT ps x19) fuel).1).length:Int)=min ((out.length:Int)+((((Bv dg p x19 (BT ps x19) fuel).1).length:Nat):Int)) 1099511627776:=by rw [List.length_append];omega
   replace H:Hd w0 F0 w [Y Ag v34 (out++((Bv dg p x19 (BT ps x19) fuel).1)),Y Bk (.slice A13 ((DH ps).length) c14) (DH ps),blk b11 [.int .i64 ((out++(Bv dg p x19 (BT ps x19) fuel).1).length:Int),.int .i64 0,.int .i64 0,.int .i64 0,.int .i64 0,.int .i64 0,.int .i64 0,.int .i64 0] 322] [Z Af (.slice A1 p.length c2) p,Z Ag (.slice A6 ps.length c7) ps,gl]:=by rw [hl2];exact H
   have hg2:=(OP (out:=out) hx20 h25 (fun h=>by rw [h.2] at h27;cases h27) (by omega)).trans hgo
   have ho2:(out++(Bv dg p x19 (BT ps x19) fuel).1).length≤40:=by rw [List.length_append];omega
   exact Bi (s:=(i,undef,out)) (i+1,v34,out++(Bv dg p x19 (BT ps x19) fuel).1) ⟨rfl,rfl,rfl,rfl,rfl,rfl,rfl,rfl,rfl,trivial⟩ ⟨H,by (try dsimp only);omega,hg2,ho2⟩ (by (try dsimp only);omega)
  refine Ah 5 U (Ac (Aa (B7 U (Ab (Ae (Ah 2 U ?_))))))
  obtain ⟨A35,c36,rfl,hc37,hm38,hp39⟩:=H.fA 4 rfl
  refine V U U (A8 U Db U) ?_
  replace H:=H.p3
  refine sc (Rn b11 (out.length:Int) 0 0 0 0 0 0 0 ((((Bv dg p x19 (BT ps x19) fuel).1).length:Nat):Int) (by omega) (by omega)) H l0 U U (At Pq U U) ?_
  rintro _ _ w ⟨rfl,rfl⟩ H
  replace H:=H.h1 (A:=blk b11 [.int .i64 (min ((out.length:Int)+((((Bv dg p x19 (BT ps x19) fuel).1).length:Nat):Int)) 1099511627776),.int .i64 0,.int .i64 0,.int .i64 0,.int .i64 0,.int .i64 0,.int .i64 0,.int .i64 0] 322)
  refine V U U (Cp U U U) (Ad U (Ac (Aa ?_)))
  refine Ax U (fun h40=>?_) (fun h40=>?_)
  ·refine Ab (Ae (Ah 2 U (Ac (Aa (An (A0 (Az (A0 (Az (Az (A0 (Az (Cl U U U ?_)))))))))))))
   have e:Du dg p ps fuel own=([],5):=hgo.symm.trans (OO hx20 h25 (fun h=>by rw [h.1] at h26;cases h26) (by omega))
   replace H:=H.nil|>.newnil Ag
   exact Al ⟨_,by rw [e]<;>rfl,by rw [e]<;>rfl⟩ H
  refine Av (AU (Aa (Ae (Ah 2 U ?_))))
  replace H:=H.p2
  refine Ct (xs:=out) (ys:=(Bv dg p x19 (BT ps x19) fuel).1) U U U BB Dd U (by decide) U U H (by omega) (fun F hA hR=>BJ F (hA _ (List.mem_of_getElem? (i:=3) U))) (fun v41 w H=>?_)
  replace H:=H.h1 (A:=Y Ag v41 (out++((Bv dg p x19 (BT ps x19) fuel).1)))
  refine Ad U (Ac (AU (Aa (Ae (V U U (AT (z:=((i+1:Nat):Int)) U U U (by rw [AC (by omega) (by omega)];omega)) (Ad U (Ac ?_)))))))
  replace H:=H.p3.p1.k3
  have hl2:((out++(Bv dg p x19 (BT ps x19) fuel).1).length:Int)=min ((out.length:Int)+((((Bv dg p x19 (BT ps x19) fuel).1).length:Nat):Int)) 1099511627776:=by rw [List.length_append];omega
  replace H:Hd w0 F0 w [Y Ag v41 (out++((Bv dg p x19 (BT ps x19) fuel).1)),Y Bk (.slice A13 ((DH ps).length) c14) (DH ps),blk b11 [.int .i64 ((out++(Bv dg p x19 (BT ps x19) fuel).1).length:Int),.int .i64 0,.int .i64 0,.int .i64 0,.int .i64 0,.int .i64 0,.int .i64 0,.int .i64 0] 322] [Z Af (.slice A1 p.length c2) p,Z Ag (.slice A6 ps.length c7) ps,gl]:=by rw [hl2];exact H
  have hg2:=(OP (out:=out) hx20 h25 (fun h=>by rw [h.1] at h26;cases h26) (by omega)).trans hgo
  have ho2:(out++(Bv dg p x19 (BT ps x19) fuel).1).length≤40:=by rw [List.length_append];omega
  exact Bi (s:=(i,undef,out)) (i+1,v41,out++(Bv dg p x19 (BT ps x19) fuel).1) ⟨rfl,rfl,rfl,rfl,rfl,rfl,rfl,rfl,rfl,trivial⟩ ⟨H,by (try dsimp only);omega,hg2,ho2⟩ (by (try dsimp only);omega)
 refine BC (AM (AM (BD (Aa (Ab (Ae (Ah 3 U (Ac (Aa (An (Cl U U U ?_)))))))))))
 replace H:=H.k1
 have e:Du dg p ps fuel own=(out,0):=hgo.symm.trans (T6 (by omega))
 replace H:=H.h1 (A:=Y Ag q out)
 exact Al ⟨_,by rw [e]<;>rfl,by rw [e]<;>rfl⟩ H
theorem TY (vp:Value) (p:List BG) (vps:Value) (ps:List Ap) (fuel:Int) (hpa:∀ i∈p,AA i.a) (hfu:AA fuel) (hb:ps.length≤1000000):
    Cn Tryz.prog 137 [vp,vps,.int .i64 fuel] [] [Z Af vp p,Z Ag vps ps,gl] (fun v Bs=>∃ u,v=.tuple #[u,.int .i64 (Du dg p ps fuel false).2]∧Bs=[Y Ag u (Du dg p ps fuel false).1]):=by
 intro w0 F0 H
 refine enter Tryz.func137 U U (Nat.le_of_ble_eq_true U) (Ab (Ae (Ah 2 U (Ac (Aa (Ab (Ae (Ah 3 U (sc (Oa vp p vps ps fuel false hpa hfu hb) H (lR 0 U (lR 1 U (lR 2 U l0))) U U (At Pl U U) ?_)))))))))
 rintro _ _ w ⟨u1,rfl,rfl⟩ H
 refine Ah 4 U (Ac (Aa ?_))
 replace H:Hd _ _ _ [Y Ag u1 ((Du dg p ps fuel false).1)] [Z Af vp p,Z Ag vps ps,gl]:=H
 exact An (Cl U U U (Al ⟨_,rfl,rfl⟩ H))
theorem TX (vp:Value) (p:List BG) (vps:Value) (ps:List Ap) (fuel:Int) (hpa:∀ i∈p,AA i.a) (hfu:AA fuel) (hb:ps.length≤1000000):
    Cn Tryz.prog 125 [vp,vps,.int .i64 fuel] [] [Z Af vp p,Z Ag vps ps,gl] (fun v Bs=>∃ u,v=.tuple #[u,.int .i64 (FO dg p ps fuel).2]∧Bs=[Y Ag u (FO dg p ps fuel).1]):=by
 intro w0 F0 H
 obtain ⟨A1,c2,rfl,hc3,hm4,hp5⟩:=H.fR 0 rfl
 obtain ⟨A6,c7,rfl,hc8,hm9,hp10⟩:=H.fR 1 rfl
 refine enter Tryz.func125 U U (Nat.le_of_ble_eq_true U) (Ab (Ae (Ah 2 U (Ac (Aa ?_)))))
 replace H:Hd _ _ _ [] [Z Af (.slice A1 p.length c2) p,Z Ag (.slice A6 ps.length c7) ps,gl]:=H
 refine Ab (Ab (Ae (Ad U (V U U (A8 U FK U) (V U U (Bb U U U) (Ac (Aa ?_)))))))
 refine Ax U (fun h11=>?_) (fun h11=>?_)
 ·refine Ab (Ae (Ad U (sc (Mv (.slice A6 ps.length c7) ps (by first |omega|decide)) H (lR 1 U l0) U U (At LZ U U) ?_)))
  rintro v12 _ w rfl H
  replace H:=H.h1 (A:=Y Ag v12 (srt ps))
  refine Ah 2 U (Ac (Aa (An (Az (Cl U U U ?_)))))
  have e:FO dg p ps fuel=(srt ps,0):=if_pos (by omega)
  exact Al ⟨_,by rw [e]<;>rfl,by rw [e]<;>rfl⟩ H
 refine Av (Aa (Ab (Ae (Ah 3 U (sc (Oa (.slice A1 p.length c2) p (.slice A6 ps.length c7) ps fuel true hpa hfu hb) H (lR 0 U (lR 1 U (lR 2 U l0))) U U (At Pl U U) ?_)))))
 rintro _ _ w ⟨u13,rfl,rfl⟩ H
 replace H:=H.h1 (A:=Y Ag u13 ((Du dg p ps fuel true).1))
 refine Ah 4 U (Ac (Aa (An (Cl U U U ?_))))
 have e:FO dg p ps fuel=Du dg p ps fuel true:=if_neg (by omega)
 exact Al ⟨_,by rw [e]<;>rfl,by rw [e]<;>rfl⟩ H
theorem HX (vxs:Value) (xs:List BG):
    Cn Tryz.prog 87 [vxs] [] [Z Af vxs xs] (fun v Bs=>v=.bool (EO xs)∧Bs=[]):=by
 intro w0 F0 H
 obtain ⟨A1,c2,rfl,hc3,hm4,hp5⟩:=H.fR 0 rfl
 refine enter Tryz.func87 U U (Nat.le_of_ble_eq_true U) (Ab (Ae (Ad U (Ac (Aa ?_)))))
 replace H:Hd _ _ _ [] [Z Af (.slice A1 xs.length c2) xs]:=H
 refine Ab (Ab (Ae (Ad U (Ac (Aa (AS (BQ (σ:=Nat) (fun k=>[(0,.slice A1 xs.length c2),(3,.int .i64 ((k:Nat):Int))]) (fun k w=>(Hd w0 F0 w [] [Z Af (.slice A1 xs.length c2) xs])∧(k≤xs.length)∧(∀ y∈xs.take k,y.s.size≤100)) (fun k=>xs.length - k) 0 ⟨rfl,rfl,trivial⟩ ⟨H,by omega,by simp⟩ ?_)))))))
 rintro k w ⟨H,hk,hn⟩
 refine Ab (Ab (Ae (Ah 2 U (V U U (A8 U FK U) (V U U (Bd U U U) (Ad U ?_))))))
 refine AK (d:=8) U (fun h6=>?_) (fun h6=>?_)
 ·refine Ad U (V U U (A8 U FK U) (V U U (Cz U U U) (Ad U (Ac (Aa ?_)))))
  refine Ax U (fun h7=>?_) (fun h7=>?_)
  ·refine Av (Aa (Ab (AS (Ab (Ae (Ah 2 U ?_))))))
   obtain ⟨x8,hx9⟩:∃ z9,xs[k]?=some z9:=⟨_,List.getElem?_eq_getElem (show k<xs.length by omega)⟩
   have th10:=H.thR 0 rfl hx9
   refine V U U (AZ (p:=AP A1+k*3) U G3 U U (by omega) (by omega) th10 U) (V U U (Aj U EZ U) (V U U (Ak U BV U (H.elR 0 U hx9 (q:=2) U U)) (V U U (Dp U CF U) (V U U (Cp U U U) (Ac (Aa ?_))))))
   refine Ax U (fun h11=>?_) (fun h11=>?_)
   ·exact Ab (Ae (Ad U (Ac (Aa (An (A0 (Az (Az (A0 (Az (Aq U U (Al ⟨congrArg Value.bool (Ub hx9 (by omega)),rfl⟩ H))))))))))))
   exact Av (AU (Aa (Ae (Ad U (V U U (AT (z:=((k+1:Nat):Int)) U U U (by rw [AC (by omega) (by omega)];omega)) (Ad U (Ac (Bi (s:=k) (k+1) ⟨rfl,rfl,trivial⟩ ⟨H,by (try dsimp only);omega,Zx hn hx9 (by omega)⟩ (by (try dsimp only);omega)))))))))
  exact BC (AM (AM (BD (Aa (Ab (Ae (Ad U (V U U (A8 U FK U) (V U U (Cp U U U) (Ad U (Ac (Aa (An (Aq U U (Al ⟨congrArg Value.bool (OT hn (by omega)),rfl⟩ H)))))))))))))))
 exact Ah 4 U (Ac (Aa (B7 U (BC (AM (AM (BD (Aa (Ab (Ae (Ad U (V U U (A8 U FK U) (V U U (Cp U U U) (Ad U (Ac (Aa (An (Aq U U (Al ⟨congrArg Value.bool (OT hn (by omega)),rfl⟩ H)))))))))))))))))))
/-! ### What is told is small -/
def TS (r:VM×Int):Prop:=∀ q∈r.1.told,C_ q
theorem D6 {c:Prop} [Decidable c] {x y:VM×Int} (hx:TS x) (hy:TS y):TS (if c then x else y):=by
 split
 ·exact hx
 ·exact hy
theorem Tn {told:List Ap} {k v:ByteArray} (h:∀ q∈told,C_ q) (hv:v.size≤64):∀ q∈(DY told k v).2,C_ q:=by
 unfold DY
 split
 ·exact h
 ·split
  ·exact h
  ·intro q hq
   rcases List.mem_append.1 hq with h1|h1
   ·exact h q h1
   ·rw [List.mem_singleton.1 h1]
    exact ⟨by (try dsimp only);omega,hv⟩
theorem RW {D:AV} {key:ByteArray} {m:VM} {i:BG} {v:List AQ} (h:∀ q∈m.told,C_ q) (hv:(v.getD 1 CM).b.size≤64):TS (Cc D key m i v):=by
 have hn:TS (GV m):=by unfold TS;rw [P5];exact h
 have h20:TS (if (v.getD 0 CM).n≠0 then {m with pos:=i.a} else m,0):=by
  unfold TS
  dsimp only
  split<;>exact h
 exact D6 h (D6 h (D6 h (D6 h (D6 h (D6 h (D6 hn (D6 h (D6 h (D6 h (D6 h (D6 h (D6 h (D6 h (D6 h (D6 h (D6 h20 (D6 h (D6 h (D6 (Tn h hv) h)))))))))))))))))))
theorem N7 {D:AV} {key:ByteArray} {n:Int} {m:VM} {i:BG} (hm:Eu n m) (h:∀ q∈m.told,C_ q):TS (BK D key m i):=by
 by_cases hN:(Aw i.op m.stk).1≠0
 ·rw [Ll hN];exact h
 ·rw [Dl hN]
  obtain ⟨l1,l2,l3,l4⟩:=Mi (Classical.not_not.1 hN)
  exact RW h (Mn (fun x hx=>hm.ok.1 x (l3 x hx)) 1).2
theorem JA {p:List BG} (h:Dz p<0):p.length≤40∧∀ i∈p,BL i p.length:=by
 have hl:p.length≤40:=by
  apply Classical.byContradiction
  intro hn
  unfold Dz at h
  split at h
  ·omega
  ·rw [if_pos (by omega)] at h;omega
 exact ⟨hl,(NH hl).1 h⟩
theorem Qs {D:AV} (hD:∀ s:ByteArray,AA (D.num s)) {p:List BG} {key:ByteArray} (hp:Dz p<0) (ha:∀ i∈p,AA i.a):∀ (k:Nat) {m:VM},Eu p.length m→(∀ q∈m.told,C_ q)→TS (CO D p key k m)
 |0,m,hm,h=>by
  unfold CO
  split<;>exact h
 |k+1,m,hm,h=>by
  by_cases hc:m.pos<p.length∧m.halted=false
  ·obtain ⟨i,hi⟩:∃ i,p[m.pos.toNat]?=some i:=⟨_,List.getElem?_eq_getElem (by have:=hm.pos;omega)⟩
   have him:=Ce hi
   have hm1:Eu p.length {m with pos:=m.pos+1}:=⟨hm.ok,hm.len,hm.told,(by have h9:=hm.pos;constructor<;>(try dsimp only)<;>omega)⟩
   by_cases hw:(BK D key {m with pos:=m.pos+1} i).2≠0
   ·rw [Qp hc hi hw]
    exact N7 hm1 h
   ·rw [Qq hc hi hw]
    exact Qs hD hp ha k (O_ hD hm1 ((JA hp).2 i him) (ha i him) (Classical.not_not.1 hw)) (N7 hm1 h)
  ·rw [Mx _ hc];exact h
theorem Uz (n:Int) (hn:0≤n) (vals:List ByteArray):Eu n (Dy vals):=⟨⟨(fun v hv=>by cases hv),fun _=>Mp⟩,Nat.zero_le _,Nat.zero_le _,⟨Int.le_refl 0,hn⟩⟩
theorem Q6 {D:AV} (hD:∀ s:ByteArray,AA (D.num s)) {p:List BG} (ha:∀ i∈p,AA i.a) (key:ByteArray) (vals:List ByteArray) (fuel:Int):∀ q∈(Bv D p key vals fuel).1,C_ q:=by
 unfold Bv
 split
 ·intro q hq;cases hq
 ·rename_i hn
  split
  ·intro q hq;cases hq
  ·exact Qs hD (by omega) ha _ (Uz _ (by omega) _) (fun q hq=>by cases hq)
theorem Zj {xs:List Ap} (h:∀ q∈xs,C_ q):∀ q∈srt xs,C_ q:=fun q hq=>h q ((Gh xs).symm.mem hq)
theorem N9 {D:AV} (hD:∀ s:ByteArray,AA (D.num s)) {p:List BG} (ha:∀ i∈p,AA i.a) {ps:List Ap} {fuel:Int} {own:Bool}:∀ (ks:List ByteArray) (out:List Ap),(∀ q∈out,C_ q)→∀ q∈(Ey D p ps fuel own ks out).1,C_ q
 |[],out,h=>h
 |k::ks,out,h=>by
  unfold Ey
  split
  ·intro q hq;cases hq
  ·split
   ·intro q hq;cases hq
   ·split
    ·intro q hq;cases hq
    ·refine N9 hD ha ks _ fun q hq=>?_
     rcases List.mem_append.1 hq with h1|h1
     ·exact h q h1
     ·exact Q6 hD ha _ _ _ q h1
/-! ### In order -/
theorem SY {D:AV} (hD:∀ s:ByteArray,AA (D.num s)) {p:List BG} (ha:∀ i∈p,AA i.a) {ps:List Ap} {fuel:Int} (h:∀ q∈ps,C_ q):∀ q∈(FO D p ps fuel).1,C_ q:=by
 unfold FO
 split
 ·exact Zj h
 ·exact N9 hD ha _ _ fun q hq=>by cases hq
theorem SX (D:AV) (p:List BG) (ps:List Ap) (fuel:Int) (h:ps.length≤40):(FO D p ps fuel).1.length≤40:=by
 unfold FO
 split
 ·show (srt ps).length≤40
  rw [Gg];exact h
 ·exact N_ D p ps fuel true _ _ (Nat.zero_le _)
/-! ### Jobs -/
structure AD where
 us:List (Value×List Ap)
 parts:Int
 map:List BG
 comb:List BG
 red:List BG
 chunk:Int
 window:Int
 fuel:Int
 marks:List Int
def GW (x:List Ap):Prop:=x.length≤8∧Hn x
instance (x:List Ap):Decidable (GW x):=inferInstanceAs (Decidable (_∧_))
def Gu (n:Int):Int→List Int→Prop
 |_,[]=>True
 |l,m::ms=>(l+1≤m∧m≤n)∧Gu n m ms
instance marksUpD (n:Int):∀ (l:Int) (ms:List Int),Decidable (Gu n l ms)
 |_,[]=>isTrue trivial
 |_,m::ms=>haveI:=marksUpD n m ms;inferInstanceAs (Decidable (_∧_))
def Ee (J:AD):Prop:=
 (1≤(J.us.length:Int)∧(J.us.length:Int)≤6)∧(1≤J.parts∧J.parts≤4)∧J.marks.length≤4∧(∀ u∈J.us,GW u.2)∧Gu J.us.length 0 J.marks∧
 (0<J.map.length∧Dz J.map<0)∧(0<J.red.length∧Dz J.red<0)∧Dz J.comb<0∧(1≤J.chunk∧J.chunk≤7)∧(1≤J.window∧J.window≤4)∧1≤J.fuel∧J.fuel≤2000
instance mayJD (J:AD):Decidable (Ee J):=by unfold Ee;infer_instance
structure Cb (J:AD):Prop where
 may:Ee J
 map:∀ i∈J.map,AA i.a
 comb:∀ i∈J.comb,AA i.a
 red:∀ i∈J.red,AA i.a
theorem Cb.us {J:AD} (h:Cb J):1≤J.us.length∧J.us.length≤6:=by have:=h.may.1;omega
theorem Cb.parts {J:AD} (h:Cb J):1≤J.parts∧J.parts≤4:=h.may.2.1
theorem Cb.fuel {J:AD} (h:Cb J):1≤J.fuel∧J.fuel≤2000:=h.may.2.2.2.2.2.2.2.2.2.2
theorem Cb.split {J:AD} (h:Cb J):∀ u∈J.us,GW u.2:=h.may.2.2.2.1
theorem Cb.f64 {J:AD} (h:Cb J):AA J.fuel:=by have:=h.fuel;unfold AA;omega
def EQ (D:AV) (p:List BG) (fuel:Int):List Ap→List Ap→List Ap×Int
 |[],out=>(out,0)
 |r::rs,out=>
  if (Bv D p r.key [r.val] fuel).2≠0 then ([],(Bv D p r.key [r.val] fuel).2)
  else if 40<out.length+(Bv D p r.key [r.val] fuel).1.length then ([],5)
  else EQ D p fuel rs (out++(Bv D p r.key [r.val] fuel).1)
section
variable {D:AV} {p:List BG} {fuel:Int} {rs:List Ap} {r:Ap} {out:List Ap} {i:Nat}
theorem Wd (h:rs.length≤i):EQ D p fuel (rs.drop i) out=(out,0):=by
 rw [List.drop_eq_nil_of_le h];rfl
theorem Wi (hr:rs[i]?=some r) (h:(Bv D p r.key [r.val] fuel).2≠0):EQ D p fuel (rs.drop i) out=([],(Bv D p r.key [r.val] fuel).2):=by
 rw [Fe hr];exact if_pos h
theorem We (hr:rs[i]?=some r) (h:¬ (Bv D p r.key [r.val] fuel).2≠0) (h3:40<out.length+(Bv D p r.key [r.val] fuel).1.length):EQ D p fuel (rs.drop i) out=([],5):=by
 rw [Fe hr];unfold EQ;rw [if_neg h,if_pos h3]
theorem Wg (hr:rs[i]?=some r) (h:¬ (Bv D p r.key [r.val] fuel).2≠0) (h3:¬ 40<out.length+(Bv D p r.key [r.val] fuel).1.length):
  EQ D p fuel (rs.drop (i+1)) (out++(Bv D p r.key [r.val] fuel).1)=EQ D p fuel (rs.drop i) out:=by
 rw [Fe hr];conv=>rhs;unfold EQ
 rw [if_neg h,if_neg h3]
theorem PU (hD:∀ s:ByteArray,AA (D.num s)) (ha:∀ i∈p,AA i.a):∀ (rs out:List Ap),(∀ q∈out,C_ q)→∀ q∈(EQ D p fuel rs out).1,C_ q
 |[],out,h=>h
 |r::rs,out,h=>by
  unfold EQ
  split
  ·intro q hq;cases hq
  ·split
   ·intro q hq;cases hq
   ·refine PU hD ha rs _ fun q hq=>?_
    rcases List.mem_append.1 hq with h1|h1
    ·exact h q h1
    ·exact Q6 hD ha _ _ _ q h1
theorem PT:∀ (rs out:List Ap),out.length≤40→(EQ D p fuel rs out).1.length≤40
 |[],out,h=>h
 |r::rs,out,h=>by
  unfold EQ
  split
  ·exact Nat.zero_le _
  ·split
   ·exact Nat.zero_le _
   ·exact PT rs _ (by simp only [List.length_append];omega)
end
def recs (J:AD) (s:Nat):List Ap:=match J.us[s]? with
 |some u=>u.2
 |none=>[]
theorem Yg {J:AD} {s:Nat} {u:Value×List Ap} (h:J.us[s]?=some u):recs J s=u.2:=by unfold recs;rw [h]
def mapM (D:AV) (J:AD) (s:Nat):List Ap×Int:=EQ D J.map J.fuel (recs J s) []
def Ay (D:AV) (J:AD) (s:Nat):List Ap×Int:=if (mapM D J s).2≠0 then ([],(mapM D J s).2) else FO D J.comb (mapM D J s).1 J.fuel
theorem PR (D:AV) (J:AD) (s:Nat):(mapM D J s).1.length≤40:=PT _ _ (Nat.zero_le _)
theorem Ir (D:AV) (J:AD) (s:Nat):(Ay D J s).1.length≤40:=by
 unfold Ay
 split
 ·exact Nat.zero_le _
 ·exact SX _ _ _ _ (PR _ _ _)
theorem Jj {D:AV} (hD:∀ s:ByteArray,AA (D.num s)) {J:AD} (h:Cb J) (s:Nat):∀ q∈(Ay D J s).1,C_ q:=by
 unfold Ay
 split
 ·intro q hq;cases hq
 ·exact SY hD h.comb (PU hD h.map _ _ fun q hq=>by cases hq)
def Cy (D:AV) (J:AD) (s:Nat) (p:Int):List Ap:=E2 (Ay D J s).1 J.parts p
def IF (D:AV) (J:AD) (p:Int):Nat→List Ap
 |0=>[]
 |k+1=>IF D J p k++Cy D J k p
theorem I2 (D:AV) (J:AD) (s:Nat) (p:Int):(Cy D J s p).length≤40:=Nat.le_trans (Qf _ _ _) (Ir _ _ _)
def Ii (D:AV) (J:AD) (p:Int):List Ap×Int:=Du D J.red (srt (IF D J p J.us.length)) J.fuel false
def partsGo (D:AV) (J:AD):Nat→Nat→List (List Ap)→List (List Ap)×Int×Int
 |0,_,out=>(out,0,0)
 |k+1,p,out=>if (Ii D J p).2≠0 then ([],(Ii D J p).2,p) else partsGo D J k (p+1) (out++[(Ii D J p).1])
def wholeGo (D:AV) (J:AD):Nat→Nat→List (List Ap)×Int×Int
 |0,_=>partsGo D J J.parts.toNat 0 []
 |k+1,s=>if (Ay D J s).2≠0 then ([],(Ay D J s).2,s) else wholeGo D J k (s+1)
def M9 (D:AV) (J:AD):List (List Ap)×Int×Int:=wholeGo D J J.us.length 0
section
variable {D:AV} {J:AD} {s p:Nat} {out:List (List Ap)}
end
def MJ (D:AV) (J:AD) (s:Nat) (p:Int):List Ap×Int:=if (Ay D J s).2≠0 then ([],(Ay D J s).2) else (Cy D J s p,0)
def GR (J:AD):Bool:=decide (¬ (J.us.length≤8∧∀ u∈J.us,Fi u.2 10=false))||decide (10<(J.marks.length:Int))||EO J.map||EO J.comb||EO J.red
theorem T9 {J:AD} {k:Nat} {A:Value} {x:List Ap} (hx:J.us[k]?=some (A,x)) (h:Fi x 10=true):true=GR J:=by
 unfold GR
 rw [decide_eq_true (show ¬ (J.us.length≤8∧∀ u∈J.us,Fi u.2 10=false) from fun g=>by have:=g.2 _ (Ce hx);rw [h] at this;cases this)]
 simp
theorem GS {J:AD} (h:8<J.us.length∨10<J.marks.length∨EO J.map=true∨EO J.comb=true):true=GR J:=by
 unfold GR
 rcases h with h|h|h|h
 ·rw [decide_eq_true (show ¬ (J.us.length≤8∧∀ u∈J.us,Fi u.2 10=false) from fun g=>by omega)];simp
 ·rw [decide_eq_true (show 10<(J.marks.length:Int) by omega)];simp
 ·rw [h];simp
 ·rw [h];simp
theorem OQ {J:AD} {k:Nat} (hn:∀ u∈J.us.take k,Fi u.2 10=false) (h1:J.us.length≤k) (h2:J.us.length≤8) (h3:J.marks.length≤10) (h4:EO J.map=false) (h5:EO J.comb=false):EO J.red=GR J:=by
 unfold GR
 rw [List.take_of_length_le h1] at hn
 rw [decide_eq_false (show ¬ ¬ (J.us.length≤8∧∀ u∈J.us,Fi u.2 10=false) from fun g=>g ⟨h2,hn⟩),decide_eq_false (show ¬ 10<(J.marks.length:Int) by omega),h4,h5]
 simp
theorem Gl (n:Int) (l:Int) (m:Int):
    Cn Tryz.prog 89 [.int .i64 n,.int .i64 l,.int .i64 m] [] [] (fun v Bs=>v=.bool (decide (l≤n∧n≤m))∧Bs=[]):=by
 intro w0 F0 H
 refine enter Tryz.func89 U U (Nat.le_of_ble_eq_true U) (Ab (Ae (Ad U (Ac (Aa (Ab (Ae (Ah 2 U (V U U (CR U U U) (Ad U ?_))))))))))
 refine AK (d:=10) U (fun h1=>?_) (fun h1=>?_)
 ·exact Ah 2 U (V U U (Cz U U U) (Ah 2 U (Ac (Aa (An (Aq U U (Al ⟨congrArg Value.bool (decide_eq_decide.2 (by omega)),rfl⟩ H)))))))
 exact Ah 5 U (Ac (Aa (An (Aq U U (Al ⟨congrArg Value.bool ((decide_eq_false (by omega)).symm),rfl⟩ H)))))
theorem Pe (vxs:Value) (xs:List BG):
    Cn Tryz.prog 153 [vxs] [] [Z Af vxs xs] (fun v Bs=>v=.bool (decide (0<(xs).length∧Dz xs<0))∧Bs=[]):=by
 intro w0 F0 H
 obtain ⟨A1,c2,rfl,hc3,hm4,hp5⟩:=H.fR 0 rfl
 refine enter Tryz.func153 U U (Nat.le_of_ble_eq_true U) (Ab (Ae (Ad U (Ac (Aa ?_)))))
 replace H:Hd _ _ _ [] [Z Af (.slice A1 xs.length c2) xs]:=H
 refine Ab (Ae (Ad U (V U U (A8 U FK U) (V U U (Cp U U U) (Ad U ?_)))))
 refine AK (d:=6) U (fun h6=>?_) (fun h6=>?_)
 ·refine Ad U (sc (Ms (.slice A1 xs.length c2) xs) H (lR 0 U l0) U U (At LW U U) ?_)
  rintro _ _ w ⟨rfl,rfl⟩ H
  exact Ah 2 U (Ac (Aa (An (Aq U U (Al ⟨congrArg Value.bool (decide_eq_decide.2 (by omega)),rfl⟩ H)))))
 exact Ah 4 U (Ac (Aa (An (Aq U U (Al ⟨congrArg Value.bool ((decide_eq_false (by omega)).symm),rfl⟩ H)))))
theorem Pd (vS vM vC vR vK:Value) (J:AD):
    Cn Tryz.prog 88 [.agg #[vS,.int .i64 J.parts,vM,vC,vR,.int .i64 J.chunk,.int .i64 J.window,.int .i64 J.fuel,vK]] [] [Z (Am Ag) vS J.us,Z Af vM J.map,Z Af vC J.comb,Z Af vR J.red,Z (Ai .i64) vK J.marks] (fun v Bs=>v=.bool (decide (Ee J))∧Bs=[]):=by
 intro w0 F0 H
 obtain ⟨A1,c2,rfl,hc3,hm4,hp5⟩:=H.fR 0 rfl
 obtain ⟨A6,c7,rfl,hc8,hm9,hp10⟩:=H.fR 1 rfl
 obtain ⟨A11,c12,rfl,hc13,hm14,hp15⟩:=H.fR 2 rfl
 obtain ⟨A16,c17,rfl,hc18,hm19,hp20⟩:=H.fR 3 rfl
 obtain ⟨A21,c22,rfl,hc23,hm24,hp25⟩:=H.fR 4 rfl
 refine enter Tryz.func88 U U (Nat.le_of_ble_eq_true U) (Ab (Ae (CA U U U U H (fun b26 w H=>(Ad U (Ac (Aa ?_)))))))
 replace H:Hd _ _ _ [blk b26 [.slice A1 J.us.length c2,.int .i64 J.parts,.slice A6 J.map.length c7,.slice A11 J.comb.length c12,.slice A16 J.red.length c17,.int .i64 J.chunk,.int .i64 J.window,.int .i64 J.fuel,.slice A21 J.marks.length c22] 26] [Z (Am Ag) (.slice A1 J.us.length c2) J.us,Z Af (.slice A6 J.map.length c7) J.map,Z Af (.slice A11 J.comb.length c12) J.comb,Z Af (.slice A16 J.red.length c17) J.red,Z (Ai .i64) (.slice A21 J.marks.length c22) J.marks]:=H
 refine Ab (Ab (Ae (V U U (Aj U DQ U) (V U U (Ak U DU U (H.cellI 0 U U)) (V U U (A8 U Ej U) (sc (Gl ((J.us.length:Nat):Int) 1 6) H l0 U U (At Gd U U) ?_))))))
 rintro _ _ w ⟨rfl,rfl⟩ H
 refine V U U (D_ U U) (Ad U ?_)
 refine AK (d:=13) U (fun h27=>?_) (fun h27=>?_)
 ·refine Ah 11 U (Ac (Aa (Cw U (Ab (Ae (Ad U (Ac (Aa (An (Az (Aq U U ?_)))))))))))
  replace H:=H.nil
  have e:¬ Ee J:=by
    rintro ⟨g1,g2,g3,g4,g5,g6,g7,g8,g9,g10,g11⟩
    omega
  exact Al ⟨congrArg Value.bool (decide_eq_false e).symm,rfl⟩ H
 refine V U U (Aj U HQ U) (V U U (Ak U AB U (H.cellI 0 U U)) (sc (Gl J.parts 1 4) H l0 U U (At Gd U U) ?_))
 rintro _ _ w ⟨rfl,rfl⟩ H
 refine V U U (D_ U U) (Ah 2 U ?_)
 refine AK (d:=19) U (fun h28=>?_) (fun h28=>?_)
 ·refine Ah 5 U (Ac (Aa (Cw U (Ab (Ae (Ad U (Ac (Aa (An (Az (Aq U U ?_)))))))))))
  replace H:=H.nil
  have e:¬ Ee J:=by
    rintro ⟨g1,g2,g3,g4,g5,g6,g7,g8,g9,g10,g11⟩
    omega
  exact Al ⟨congrArg Value.bool (decide_eq_false e).symm,rfl⟩ H
 refine V U U (Aj U HU U) (V U U (Ak U E5 U (H.cellI 0 U U)) (V U U (A8 U Ea U) (V U U (Cp U U U) (Ad U (Ac (Aa ?_))))))
 refine Ax U (fun h29=>?_) (fun h29=>?_)
 ·refine Ab (Ae (Ad U (Ac (Aa (An (Az (Aq U U ?_)))))))
  replace H:=H.nil
  have e:¬ Ee J:=by
    rintro ⟨g1,g2,g3,g4,g5,g6,g7,g8,g9,g10,g11⟩
    omega
  exact Al ⟨congrArg Value.bool (decide_eq_false e).symm,rfl⟩ H
 refine Av (Aa (Ab (Ab (Ae (V U U (Aj U DQ U) (V U U (Ak U DU U (H.cellI 0 U U)) (V U U (A8 U Ej U) (Ad U (Ac (Aa (AS (BQ (σ:=Nat) (fun k=>[(1,.pointer (some ⟨b26,0,none⟩)),(26,.slice A1 J.us.length c2),(27,.int .i64 ((J.us.length:Nat):Int)),(28,.int .i64 ((k:Nat):Int))]) (fun k w=>(Hd w0 F0 w [blk b26 [.slice A1 J.us.length c2,.int .i64 J.parts,.slice A6 J.map.length c7,.slice A11 J.comb.length c12,.slice A16 J.red.length c17,.int .i64 J.chunk,.int .i64 J.window,.int .i64 J.fuel,.slice A21 J.marks.length c22] 26] [Z (Am Ag) (.slice A1 J.us.length c2) J.us,Z Af (.slice A6 J.map.length c7) J.map,Z Af (.slice A11 J.comb.length c12) J.comb,Z Af (.slice A16 J.red.length c17) J.red,Z (Ai .i64) (.slice A21 J.marks.length c22) J.marks])∧(k≤J.us.length)∧(∀ u∈J.us.take k,GW u.2)) (fun k=>J.us.length - k) 0 ⟨rfl,rfl,rfl,rfl,trivial⟩ ⟨H,by omega,by simp⟩ ?_))))))))))))
 rintro k w ⟨H,hk,hn⟩
 refine Ab (Ae (V U U (Bd U U U) (Ac (Aa (Ab ?_)))))
 refine Ax U (fun h30=>?_) (fun h30=>?_)
 ·refine Av (Aa (Ab (AS (Ab (Ae ?_)))))
  obtain ⟨⟨u33,x31⟩,hx32⟩:∃ z9,J.us[k]?=some z9:=⟨_,List.getElem?_eq_getElem (show k<J.us.length by omega)⟩
  obtain ⟨A34,c35,rfl,hc36,hm37⟩:=H.nestR 0 rfl hx32
  have th38:=H.thRd 0 rfl hx32
  refine V U U (AZ (p:=AP A1+k*1) U FG U U (by omega) (by omega) th38 U) (V U U (Ak U ET U (H.elRd 0 U hx32 U)) (Ad U (Ac (Aa (Ab (Ae (Ad U (V U U (A8 U Db U) (V U U (Cp U U U) (Ad U ?_))))))))))
  refine AK (d:=35) U (fun h39=>?_) (fun h39=>?_)
  ·refine Ah 4 U (Ac (Aa (Cw U (Ab (Ae (Ad U (Ac (Aa (An (A0 (Az (Az (A0 (Az (Aq U U ?_)))))))))))))))
   replace H:=H.nil
   have e:¬ Ee J:=by
     rintro ⟨g1,g2,g3,g4,g5,g6,g7,g8,g9,g10,g11⟩
     have g:=g4 _ (Ce hx32);have ga:x31.length≤8:=g.1;first |exact (h39 g.2).elim|omega
   exact Al ⟨congrArg Value.bool (decide_eq_false e).symm,rfl⟩ H
  refine Ad U (sc (Xj (.slice A34 x31.length c35) x31) H (lX (fun F hA hR=>Ic (hR _ (List.mem_of_getElem? (i:=0) U)) hx32) l0) U U (At UK U U) ?_)
  rintro _ _ w ⟨rfl,rfl⟩ H
  refine V U U (D_ U U) (Ad U (Ac (Aa ?_)))
  refine Ax U (fun h40=>?_) (fun h40=>?_)
  ·refine Ab (Ae (Ad U (Ac (Aa (An (A0 (Az (Az (A0 (Az (Aq U U ?_)))))))))))
   replace H:=H.nil
   have e:¬ Ee J:=by
     rintro ⟨g1,g2,g3,g4,g5,g6,g7,g8,g9,g10,g11⟩
     have g:=g4 _ (Ce hx32);have ga:x31.length≤8:=g.1;first |exact (h40 g.2).elim|omega
   exact Al ⟨congrArg Value.bool (decide_eq_false e).symm,rfl⟩ H
  refine Av (AU (Aa (Ae (V U U (AT (z:=((k+1:Nat):Int)) U U U (by rw [AC (by omega) (by omega)];omega)) (Ad U (Ac ?_))))))
  have hn2:=Hv (Q:=fun u:Value×List Ap=>GW u.2) hn hx32 ⟨(show x31.length≤8 by omega),Classical.not_not.1 h40⟩
  exact Bi (s:=k) (k+1) ⟨rfl,rfl,rfl,rfl,trivial⟩ ⟨H,by (try dsimp only);omega,hn2⟩ (by (try dsimp only);omega)
 refine BC (AM (AM (BD (Aa (Ab (Ae (Ad U (Ac (Aa (Ab (Ab (Ae (V U U (Aj U HU U) (V U U (Ak U E5 U (H.cellI 0 U U)) (V U U (A8 U Ea U) (Ad U (Ac (Aa (AS ?_)))))))))))))))))))
 have hal:∀ u∈J.us,GW u.2:=by rw [←GD (xs:=J.us) (k:=k) (by omega)];exact hn
 refine BQ (σ:=Nat×Int) (fun (j,last)=>[(1,.pointer (some ⟨b26,0,none⟩)),(5,.int .i64 last),(42,.slice A21 J.marks.length c22),(43,.int .i64 ((J.marks.length:Nat):Int)),(44,.int .i64 ((j:Nat):Int))]) (fun (j,last) w=>(Hd w0 F0 w [blk b26 [.slice A1 J.us.length c2,.int .i64 J.parts,.slice A6 J.map.length c7,.slice A11 J.comb.length c12,.slice A16 J.red.length c17,.int .i64 J.chunk,.int .i64 J.window,.int .i64 J.fuel,.slice A21 J.marks.length c22] 26] [Z (Am Ag) (.slice A1 J.us.length c2) J.us,Z Af (.slice A6 J.map.length c7) J.map,Z Af (.slice A11 J.comb.length c12) J.comb,Z Af (.slice A16 J.red.length c17) J.red,Z (Ai .i64) (.slice A21 J.marks.length c22) J.marks])∧(j≤J.marks.length∧0≤last∧last≤6)∧(Gu J.us.length last (J.marks.drop j)↔Gu J.us.length 0 J.marks)) (fun (j,last)=>J.marks.length - j) (0,0) ⟨rfl,rfl,rfl,rfl,rfl,trivial⟩ ⟨H,by (try dsimp only);omega,Iff.rfl⟩ ?_
 rintro ⟨j,last⟩ w ⟨H,hj,hm⟩
 refine Ab (Ae (V U U (Bd U U U) (Ac (Aa (Ab ?_)))))
 refine Ax U (fun h41=>?_) (fun h41=>?_)
 ·refine Av (Aa (Ab (AS (Ab (Ae ?_)))))
  obtain ⟨x42,hx43⟩:∃ z9,J.marks[j]?=some z9:=⟨_,List.getElem?_eq_getElem (show j<J.marks.length by omega)⟩
  have th44:=H.thR 4 rfl hx43
  refine V U U (AZ (p:=AP A21+j*1) U Dx U U (by omega) (by omega) th44 U) (V U U (Ak U AB U (H.elR 4 U hx43 (q:=0) U U)) (Ad U (Ac (Aa (Ab (Ab (Ae (Ah 2 U (V U U (AT (z:=last+1) U U U (AC (by omega) (by omega))) (V U U (Aj U DQ U) (V U U (Ak U DU U (H.cellI 0 U U)) (V U U (A8 U Ej U) (sc (Gl x42 (last+1) ((J.us.length:Nat):Int)) H l0 U U (At Gd U U) ?_)))))))))))))
  rintro _ _ w ⟨rfl,rfl⟩ H
  refine V U U (D_ U U) (Ac (Aa ?_))
  refine Ax U (fun h45=>?_) (fun h45=>?_)
  ·refine Ab (Ae (Ad U (Ac (Aa (An (Az (A0 (Az (Az (A0 (Az (Aq U U ?_))))))))))))
   replace H:=H.nil
   have e:¬ Ee J:=by
     rintro ⟨g1,g2,g3,g4,g5,g6,g7,g8,g9,g10,g11⟩
     have g:=hm.2 g5;rw [Fe hx43] at g;have g0:=g.1;omega
   exact Al ⟨congrArg Value.bool (decide_eq_false e).symm,rfl⟩ H
  refine Av (Aa (Ae (Ah 2 U (Ac (AU (Aa (Ae (V U U (AT (z:=((j+1:Nat):Int)) U U U (by rw [AC (by omega) (by omega)];omega)) (Ad U (Ac ?_))))))))))
  have hm2:Gu J.us.length x42 (J.marks.drop (j+1))↔Gu J.us.length 0 J.marks:=by rw [←hm,Fe hx43];exact ⟨fun g=>⟨by omega,g⟩,fun g=>g.2⟩
  exact Bi (s:=(j,last)) (j+1,x42) ⟨rfl,rfl,rfl,rfl,rfl,trivial⟩ ⟨H,by (try dsimp only);omega,hm2⟩ (by (try dsimp only);omega)
 refine BC (AM (AM (BD (Aa (Ab (Ae (V U U (Aj U HR U) (V U U (Ak U Ep U (H.cellI 0 U U)) (sc (Pe (.slice A6 J.map.length c7) J.map) H (lR 1 U l0) U U (At Pg U U) ?_)))))))))
 rintro _ _ w ⟨rfl,rfl⟩ H
 refine Ad U ?_
 refine AK (d:=61) U (fun h46=>?_) (fun h46=>?_)
 ·refine V U U (Aj U HT U) (V U U (Ak U Ep U (H.cellI 0 U U)) (sc (Pe (.slice A16 J.red.length c17) J.red) H (lR 3 U l0) U U (At Pg U U) ?_))
  rintro _ _ w ⟨rfl,rfl⟩ H
  refine Ah 2 U ?_
  refine AK (d:=66) U (fun h47=>?_) (fun h47=>?_)
  ·refine V U U (Aj U HS U) (V U U (Ak U Ep U (H.cellI 0 U U)) (sc (Ms (.slice A11 J.comb.length c12) J.comb) H (lR 2 U l0) U U (At LW U U) ?_))
   rintro _ _ w ⟨rfl,rfl⟩ H
   refine Ah 2 U ?_
   refine AK (d:=71) U (fun h48=>?_) (fun h48=>?_)
   ·refine V U U (Aj U OA U) (V U U (Ak U AB U (H.cellI 0 U U)) (sc (Gl J.chunk 1 7) H l0 U U (At Gd U U) ?_))
    rintro _ _ w ⟨rfl,rfl⟩ H
    refine Ah 2 U ?_
    refine AK (d:=76) U (fun h49=>?_) (fun h49=>?_)
    ·refine V U U (Aj U OB U) (V U U (Ak U AB U (H.cellI 0 U U)) (sc (Gl J.window 1 4) H l0 U U (At Gd U U) ?_))
     rintro _ _ w ⟨rfl,rfl⟩ H
     refine Ah 2 U ?_
     refine AK (d:=81) U (fun h50=>?_) (fun h50=>?_)
     ·refine V U U (Aj U JX U) (V U U (Ak U AB U (H.cellI 0 U U)) (sc (Gl J.fuel 1 2000) H l0 U U (At Gd U U) ?_))
      rintro _ _ w ⟨rfl,rfl⟩ H
      refine Ah 2 U (Ac (Aa (An (Aq U U ?_))))
      replace H:=H.nil
      have hmk:Gu J.us.length 0 J.marks:=hm.1 (by rw [List.drop_eq_nil_of_le (by omega)];trivial)
      have e:(1≤J.fuel∧J.fuel≤2000)↔Ee J:=⟨fun g=>⟨by omega,by omega,by omega,hal,hmk,by omega,by omega,by omega,by omega,by omega,by omega⟩,fun g=>by have g6:=g.2.2.2.2.2;omega⟩
      exact Al ⟨congrArg Value.bool (decide_eq_decide.2 e),rfl⟩ H
     refine Ah 5 U (Ac (Aa (An (Aq U U ?_))))
     replace H:=H.nil
     have e:¬ Ee J:=by
       rintro ⟨g1,g2,g3,g4,g5,g6,g7,g8,g9,g10,g11⟩
       omega
     exact Al ⟨congrArg Value.bool (decide_eq_false e).symm,rfl⟩ H
    refine Ah 10 U (Ac (Aa (An (Aq U U ?_))))
    replace H:=H.nil
    have e:¬ Ee J:=by
      rintro ⟨g1,g2,g3,g4,g5,g6,g7,g8,g9,g10,g11⟩
      omega
    exact Al ⟨congrArg Value.bool (decide_eq_false e).symm,rfl⟩ H
   refine Ah 12 U (Ah 3 U (Ac (Aa (An (Aq U U ?_)))))
   replace H:=H.nil
   have e:¬ Ee J:=by
     rintro ⟨g1,g2,g3,g4,g5,g6,g7,g8,g9,g10,g11⟩
     omega
   exact Al ⟨congrArg Value.bool (decide_eq_false e).symm,rfl⟩ H
  refine Ah 12 U (Ah 8 U (Ac (Aa (An (Aq U U ?_)))))
  replace H:=H.nil
  have e:¬ Ee J:=by
    rintro ⟨g1,g2,g3,g4,g5,g6,g7,g8,g9,g10,g11⟩
    omega
  exact Al ⟨congrArg Value.bool (decide_eq_false e).symm,rfl⟩ H
 refine Ah 12 U (Ah 12 U (Ad U (Ac (Aa (An (Aq U U ?_))))))
 replace H:=H.nil
 have e:¬ Ee J:=by
   rintro ⟨g1,g2,g3,g4,g5,g6,g7,g8,g9,g10,g11⟩
   omega
 exact Al ⟨congrArg Value.bool (decide_eq_false e).symm,rfl⟩ H
theorem T_ (vS vM vC vR vK:Value) (J:AD):
    Cn Tryz.prog 18 [.agg #[vS,.int .i64 J.parts,vM,vC,vR,.int .i64 J.chunk,.int .i64 J.window,.int .i64 J.fuel,vK]] [] [Z (Am Ag) vS J.us,Z Af vM J.map,Z Af vC J.comb,Z Af vR J.red,Z (Ai .i64) vK J.marks] (fun v Bs=>v=.bool (GR J)∧Bs=[]):=by
 intro w0 F0 H
 obtain ⟨A1,c2,rfl,hc3,hm4,hp5⟩:=H.fR 0 rfl
 obtain ⟨A6,c7,rfl,hc8,hm9,hp10⟩:=H.fR 1 rfl
 obtain ⟨A11,c12,rfl,hc13,hm14,hp15⟩:=H.fR 2 rfl
 obtain ⟨A16,c17,rfl,hc18,hm19,hp20⟩:=H.fR 3 rfl
 obtain ⟨A21,c22,rfl,hc23,hm24,hp25⟩:=H.fR 4 rfl
 refine enter Tryz.func18 U U (Nat.le_of_ble_eq_true U) (Ab (Ae (CA U U U U H (fun b26 w H=>(Ad U (Ac (Aa ?_)))))))
 replace H:Hd _ _ _ [blk b26 [.slice A1 J.us.length c2,.int .i64 J.parts,.slice A6 J.map.length c7,.slice A11 J.comb.length c12,.slice A16 J.red.length c17,.int .i64 J.chunk,.int .i64 J.window,.int .i64 J.fuel,.slice A21 J.marks.length c22] 26] [Z (Am Ag) (.slice A1 J.us.length c2) J.us,Z Af (.slice A6 J.map.length c7) J.map,Z Af (.slice A11 J.comb.length c12) J.comb,Z Af (.slice A16 J.red.length c17) J.red,Z (Ai .i64) (.slice A21 J.marks.length c22) J.marks]:=H
 refine Ab (Ab (Ae (Ad U (Ac (Aa (AS (BQ (σ:=Nat) (fun k=>[(1,.pointer (some ⟨b26,0,none⟩)),(3,.int .i64 ((k:Nat):Int))]) (fun k w=>(Hd w0 F0 w [blk b26 [.slice A1 J.us.length c2,.int .i64 J.parts,.slice A6 J.map.length c7,.slice A11 J.comb.length c12,.slice A16 J.red.length c17,.int .i64 J.chunk,.int .i64 J.window,.int .i64 J.fuel,.slice A21 J.marks.length c22] 26] [Z (Am Ag) (.slice A1 J.us.length c2) J.us,Z Af (.slice A6 J.map.length c7) J.map,Z Af (.slice A11 J.comb.length c12) J.comb,Z Af (.slice A16 J.red.length c17) J.red,Z (Ai .i64) (.slice A21 J.marks.length c22) J.marks])∧(k≤J.us.length)∧(∀ u∈J.us.take k,Fi u.2 10=false)) (fun k=>J.us.length - k) 0 ⟨rfl,rfl,trivial⟩ ⟨H,by omega,by simp⟩ ?_)))))))
 rintro k w ⟨H,hk,hn⟩
 refine Ab (Ab (Ae (Ad U (V U U (Aj U DQ U) (V U U (Ak U DU U (H.cellI 0 U U)) (V U U (A8 U Ej U) (V U U (Bd U U U) (Ad U ?_))))))))
 refine AK (d:=9) U (fun h27=>?_) (fun h27=>?_)
 ·refine V U U (Aj U DQ U) (V U U (Ak U DU U (H.cellI 0 U U)) (V U U (A8 U Ej U) (V U U (Cz U U U) (Ad U (Ac (Aa ?_))))))
  refine Ax U (fun h28=>?_) (fun h28=>?_)
  ·refine Av (Aa (Ab (AS (Ab (Ae (V U U (Aj U DQ U) (V U U (Ak U DU U (H.cellI 0 U U)) (Ad U ?_))))))))
   obtain ⟨⟨u31,x29⟩,hx30⟩:∃ z9,J.us[k]?=some z9:=⟨_,List.getElem?_eq_getElem (show k<J.us.length by omega)⟩
   obtain ⟨A32,c33,rfl,hc34,hm35⟩:=H.nestR 0 rfl hx30
   have th36:=H.thRd 0 rfl hx30
   refine V U U (AZ (p:=AP A1+k*1) U FG U U (by omega) (by omega) th36 U) (V U U (Ak U ET U (H.elRd 0 U hx30 U)) (sc (Ua (.slice A32 x29.length c33) x29 10) H (lX (fun F hA hR=>Ic (hR _ (List.mem_of_getElem? (i:=0) U)) hx30) l0) U U (At Ve U U) ?_))
   rintro _ _ w ⟨rfl,rfl⟩ H
   refine Ac (Aa ?_)
   refine DN (b:=Fi x29 10) U (fun h37=>?_) (fun h37=>?_)
   ·refine Ab (Ae (Ad U (Ac (Aa (An (A0 (Az (Az (A0 (Az (Aq U U ?_)))))))))))
    replace H:=H.nil
    exact Al ⟨congrArg Value.bool (T9 hx30 h37),rfl⟩ H
   refine Av (AU (Aa (Ae (Ad U (V U U (AT (z:=((k+1:Nat):Int)) U U U (by rw [AC (by omega) (by omega)];omega)) (Ad U (Ac ?_)))))))
   have hn2:=Hv (Q:=fun u:Value×List Ap=>Fi u.2 10=false) hn hx30 (show Fi x29 10=false by simpa using h37)
   exact Bi (s:=k) (k+1) ⟨rfl,rfl,trivial⟩ ⟨H,by (try dsimp only);omega,hn2⟩ (by (try dsimp only);omega)
  refine BC (AM (AM (BD (Aa (Ab (Ae (V U U (Aj U DQ U) (V U U (Ak U DU U (H.cellI 0 U U)) (V U U (A8 U Ej U) (V U U (Cp U U U) (Ad U ?_)))))))))))
  refine AK (d:=27) U (fun h38=>?_) (fun h38=>?_)
  ·refine Ah 12 U (Ah 9 U (Ac (Aa (An (Aq U U ?_)))))
   replace H:=H.nil
   exact Al ⟨congrArg Value.bool (GS (by first |exact .inl (by omega)|exact .inr (.inl (by omega))|exact .inr (.inr (.inl h38))|exact .inr (.inr (.inr h38)))),rfl⟩ H
  refine V U U (Aj U HU U) (V U U (Ak U E5 U (H.cellI 0 U U)) (V U U (A8 U Ea U) (V U U (Cp U U U) (Ah 2 U ?_))))
  refine AK (d:=33) U (fun h39=>?_) (fun h39=>?_)
  ·refine Ah 12 U (Ah 3 U (Ac (Aa (An (Aq U U ?_)))))
   replace H:=H.nil
   exact Al ⟨congrArg Value.bool (GS (by first |exact .inl (by omega)|exact .inr (.inl (by omega))|exact .inr (.inr (.inl h39))|exact .inr (.inr (.inr h39)))),rfl⟩ H
  refine V U U (Aj U HR U) (V U U (Ak U Ep U (H.cellI 0 U U)) (sc (HX (.slice A6 J.map.length c7) J.map) H (lR 1 U l0) U U (At Ib U U) ?_))
  rintro _ _ w ⟨rfl,rfl⟩ H
  refine Ah 2 U ?_
  refine E3 (d:=38) (b:=EO J.map) U (fun h40=>?_) (fun h40=>?_)
  ·refine Ah 10 U (Ac (Aa (An (Aq U U ?_))))
   replace H:=H.nil
   exact Al ⟨congrArg Value.bool (GS (by first |exact .inl (by omega)|exact .inr (.inl (by omega))|exact .inr (.inr (.inl h40))|exact .inr (.inr (.inr h40)))),rfl⟩ H
  refine V U U (Aj U HS U) (V U U (Ak U Ep U (H.cellI 0 U U)) (sc (HX (.slice A11 J.comb.length c12) J.comb) H (lR 2 U l0) U U (At Ib U U) ?_))
  rintro _ _ w ⟨rfl,rfl⟩ H
  refine Ah 2 U ?_
  refine E3 (d:=43) (b:=EO J.comb) U (fun h41=>?_) (fun h41=>?_)
  ·refine Ah 5 U (Ac (Aa (An (Aq U U ?_))))
   replace H:=H.nil
   exact Al ⟨congrArg Value.bool (GS (by first |exact .inl (by omega)|exact .inr (.inl (by omega))|exact .inr (.inr (.inl h41))|exact .inr (.inr (.inr h41)))),rfl⟩ H
  refine V U U (Aj U HT U) (V U U (Ak U Ep U (H.cellI 0 U U)) (sc (HX (.slice A16 J.red.length c17) J.red) H (lR 3 U l0) U U (At Ib U U) ?_))
  rintro _ _ w ⟨rfl,rfl⟩ H
  refine Ah 2 U (Ac (Aa (An (Aq U U ?_))))
  replace H:=H.nil
  exact Al ⟨congrArg Value.bool (OQ hn (by omega) (by omega) (by omega) (by simpa using h40) (by simpa using h41)),rfl⟩ H
 refine Ah 5 U (Ac (Aa (B7 U (BC (AM (AM (BD (Aa (Ab (Ae (V U U (Aj U DQ U) (V U U (Ak U DU U (H.cellI 0 U U)) (V U U (A8 U Ej U) (V U U (Cp U U U) (Ad U ?_)))))))))))))))
 refine AK (d:=27) U (fun h42=>?_) (fun h42=>?_)
 ·refine Ah 12 U (Ah 9 U (Ac (Aa (An (Aq U U ?_)))))
  replace H:=H.nil
  exact Al ⟨congrArg Value.bool (GS (by first |exact .inl (by omega)|exact .inr (.inl (by omega))|exact .inr (.inr (.inl h42))|exact .inr (.inr (.inr h42)))),rfl⟩ H
 refine V U U (Aj U HU U) (V U U (Ak U E5 U (H.cellI 0 U U)) (V U U (A8 U Ea U) (V U U (Cp U U U) (Ah 2 U ?_))))
 refine AK (d:=33) U (fun h43=>?_) (fun h43=>?_)
 ·refine Ah 12 U (Ah 3 U (Ac (Aa (An (Aq U U ?_)))))
  replace H:=H.nil
  exact Al ⟨congrArg Value.bool (GS (by first |exact .inl (by omega)|exact .inr (.inl (by omega))|exact .inr (.inr (.inl h43))|exact .inr (.inr (.inr h43)))),rfl⟩ H
 refine V U U (Aj U HR U) (V U U (Ak U Ep U (H.cellI 0 U U)) (sc (HX (.slice A6 J.map.length c7) J.map) H (lR 1 U l0) U U (At Ib U U) ?_))
 rintro _ _ w ⟨rfl,rfl⟩ H
 refine Ah 2 U ?_
 refine E3 (d:=38) (b:=EO J.map) U (fun h44=>?_) (fun h44=>?_)
 ·refine Ah 10 U (Ac (Aa (An (Aq U U ?_))))
  replace H:=H.nil
  exact Al ⟨congrArg Value.bool (GS (by first |exact .inl (by omega)|exact .inr (.inl (by omega))|exact .inr (.inr (.inl h44))|exact .inr (.inr (.inr h44)))),rfl⟩ H
 refine V U U (Aj U HS U) (V U U (Ak U Ep U (H.cellI 0 U U)) (sc (HX (.slice A11 J.comb.length c12) J.comb) H (lR 2 U l0) U U (At Ib U U) ?_))
 rintro _ _ w ⟨rfl,rfl⟩ H
 refine Ah 2 U ?_
 refine E3 (d:=43) (b:=EO J.comb) U (fun h45=>?_) (fun h45=>?_)
 ·refine Ah 5 U (Ac (Aa (An (Aq U U ?_))))
  replace H:=H.nil
  exact Al ⟨congrArg Value.bool (GS (by first |exact .inl (by omega)|exact .inr (.inl (by omega))|exact .inr (.inr (.inl h45))|exact .inr (.inr (.inr h45)))),rfl⟩ H
 refine V U U (Aj U HT U) (V U U (Ak U Ep U (H.cellI 0 U U)) (sc (HX (.slice A16 J.red.length c17) J.red) H (lR 3 U l0) U U (At Ib U U) ?_))
 rintro _ _ w ⟨rfl,rfl⟩ H
 refine Ah 2 U (Ac (Aa (An (Aq U U ?_))))
 replace H:=H.nil
 exact Al ⟨congrArg Value.bool (OQ hn (by omega) (by omega) (by omega) (by simpa using h44) (by simpa using h45)),rfl⟩ H
theorem Xv (key:ByteArray) (hb0:key.size≤9223372036854775807):
    Cn Tryz.prog 215 [.string key] [] [] (fun v Bs=>v=.int .u32 (El key key.size)∧Bs=[]):=by
 intro w0 F0 H
 refine enter Tryz.func215 U U (Nat.le_of_ble_eq_true U) (Ab (Ae (Ad U (Ac (Aa (Ab (Ae (Ad U (Ac (Aa (Ab (Ab (Ae (Ad U (V U U (Dp U CF U) (Ad U (Ac (Aa (AS (BQ (σ:=Nat) (fun k=>[(0,.string key),(2,.int .u32 0),(3,.int .u32 (El key k)),(6,.int .i64 ((key.size:Nat):Int)),(7,.int .i64 ((k:Nat):Int))]) (fun k w=>(Hd w0 F0 w [] [])∧(k≤key.size)) (fun k=>key.size - k) 0 ⟨rfl,rfl,rfl,rfl,rfl,trivial⟩ ⟨H,by (try dsimp only);omega⟩ ?_))))))))))))))))))))
 rintro k w ⟨H,hk⟩
 refine Ab (Ae (V U U (Bd U U U) (Ac (Aa (Ab ?_)))))
 refine Ax U (fun h1=>?_) (fun h1=>?_)
 ·refine Av (Aa (Ab (AS (Ab (Ae (Ah 2 U (Ac (Aa (Ae (Ad U (V U U (GX (z:=IntKind.u32.wrap (31*El key k)) U U U U) (Ah 2 U ?_))))))))))))
  obtain ⟨b,hb⟩:∃ b,key[k]?=some b:=⟨_,getElem?_pos key k (by omega)⟩
  exact V U U (I8 U CF U U (by omega) hb) (V U U (DK (z:=((b).toNat:Int)) U U Hy RC (bA b)) (V U U (AT (z:=IntKind.u32.wrap (IntKind.u32.wrap (31*El key k)+(b.toNat:Int))) U U U U) (Ad U (Ac (AU (Aa (Ae (V U U (AT (z:=((k+1:Nat):Int)) U U U (by rw [AC (by omega) (by omega)];omega)) (Ad U (Ac (Bi (s:=k) (k+1) ⟨rfl,rfl,congrArg (fun z=>some (Value.int .u32 z)) (WP hb).symm,rfl,rfl,trivial⟩ ⟨H,by (try dsimp only);omega⟩ (by (try dsimp only);omega))))))))))))
 refine BC (AM (AM (BD (Aa (Ab (Ae (Ah 2 U (Ac (Aa (An (Aq U U ?_)))))))))))
 obtain rfl:k=key.size:=by omega
 exact Al ⟨rfl,rfl⟩ H
theorem Xw (key:ByteArray) (n:Int) (hb0:key.size≤9223372036854775807) (hn:n≤9223372036854775807):
    Cn Tryz.prog 178 [.string key,.int .i64 n] [] [] (fun v Bs=>v=.int .i64 (Kr key n)∧Bs=[]):=by
 intro w0 F0 H
 refine enter Tryz.func178 U U (Nat.le_of_ble_eq_true U) (Ab (Ae (Ad U (Ac (Aa (Ab (Ab (Ae (Ad U (V U U (Bd U U U) (Ac (Aa ?_))))))))))))
 refine Ax U (fun h1=>?_) (fun h1=>?_)
 ·exact Ab (Ae (Ad U (Ac (Aa (An (Az (Aq U U (Al ⟨congrArg (Value.int .i64) (if_pos h1).symm,rfl⟩ H))))))))
 refine Av (Aa (Ab (Ae (Ad U (sc (Xv key (by first |omega|decide)) H l0 U U (At Vc U U) ?_)))))
 rintro _ _ w ⟨rfl,rfl⟩ H
 exact V U U (DK (z:=El key key.size) U U RC Hw (Fs (Mk key key.size).1 (by have:=(Mk key key.size).2;omega))) (Ad U (V U U (DK (z:=n) U U Dr Hw (Fs (by omega) (by omega))) (V U U (Ky (z:=(El key key.size)%n) U U U (by omega) (Int.tmod_eq_emod_of_nonneg (Mk key key.size).1)) (V U U (DK (z:=(El key key.size)%n) U U Hw Dr (AC (by have:=Int.emod_nonneg (El key key.size) (show n≠0 by omega);omega) (by have:=Int.emod_lt_of_pos (El key key.size) (show 0<n by omega);omega))) (Ad U (Ac (Aa (An (Aq U U (Al ⟨congrArg (Value.int .i64) (if_neg h1).symm,rfl⟩ H))))))))))
theorem W4 (vxs:Value) (xs:List Ap) (n:Int) (p:Int) (hb:xs.length≤1000000) (hn:n≤9223372036854775807) (hk:∀ x∈xs,x.key.size≤9223372036854775807):
    Cn Tryz.prog 126 [vxs,.int .i64 n,.int .i64 p] [] [Z Ag vxs xs] (fun v Bs=>Bs=[Y Ag v (E2 xs n p)]):=by
 intro w0 F0 H
 obtain ⟨A1,c2,rfl,hc3,hm4,hp5⟩:=H.fR 0 rfl
 refine enter Tryz.func126 U U (Nat.le_of_ble_eq_true U) (Ab (Ae (Ad U (Ac (Aa ?_)))))
 replace H:Hd _ _ _ [] [Z Ag (.slice A1 xs.length c2) xs]:=H
 refine Ab (Ae (Ad U (Ac (Aa (Ab (Ab (Ae (Ad U (V U U (A8 U Db U) (Ad U (Ac (Aa (AS ?_)))))))))))))
 replace H:=H.newnil Ag
 refine BQ (σ:=Nat×Value) (fun (k,l)=>[(1,.int .i64 n),(2,.int .i64 p),(6,.slice none 0 0),(7,l),(10,.slice A1 xs.length c2),(11,.int .i64 ((xs.length:Nat):Int)),(12,.int .i64 ((k:Nat):Int))]) (fun (k,l) w=>(Hd w0 F0 w [Y Ag l (E2 (xs.take k) n p)] [Z Ag (.slice A1 xs.length c2) xs])∧(k≤xs.length)) (fun (k,l)=>xs.length - k) (0,.slice none 0 0) ⟨rfl,rfl,rfl,rfl,rfl,rfl,rfl,trivial⟩ ⟨H,by (try dsimp only);omega⟩ ?_
 rintro ⟨k,l⟩ w ⟨H,hk0⟩
 have hjl:=Qf (xs.take k) n p
 have hjt:(xs.take k).length≤xs.length:=by simp;omega
 refine Ab (Ae (V U U (Bd U U U) (Ac (Aa (Ab ?_)))))
 refine Ax U (fun h6=>?_) (fun h6=>?_)
 ·refine Av (Aa (Ab (AS (Ab (Ae ?_)))))
  obtain ⟨x7,hx8⟩:∃ z9,xs[k]?=some z9:=⟨_,List.getElem?_eq_getElem (show k<xs.length by omega)⟩
  have th9:=H.thR 0 rfl hx8
  refine V U U (AZ (p:=AP A1+k*2) U BB U U (by omega) (by omega) th9 U) (V U U (Bq (cs:=[.string x7.key,.string x7.val]) U Cj U U (H.elsR 0 U hx8 U)) (Dg U U U Dd H (fun b10 w H=>(BE U U U Cj U U H U (Nat.le_of_ble_eq_true U) (fun u hu=>by simp [Value.cells] at hu;rcases hu with rfl|rfl<;>rfl) (fun w H=>?_)))))
  replace H:=H.h2 (A:=blk b10 [.string x7.key,.string x7.val] 106) (B:=Y Ag l (E2 (xs.take k) n p))
  refine Ac (Aa (Ab ?_))
  have hkx:=hk _ (Ce hx8)
  refine Ae (V U U (Aj U Fg U) (V U U (Ak U BV U (H.cellI 0 U U)) (Ad U (sc (Xw x7.key n (by first |omega|decide) (by first |omega|decide)) H l0 U U (At U1 U U) ?_))))
  rintro _ _ w ⟨rfl,rfl⟩ H
  refine Ad U (V U U (Bb U U U) (Ac (Aa ?_)))
  refine Ax U (fun h11=>?_) (fun h11=>?_)
  ·refine Ae (Ad U (V U U (Bq (cs:=[.string x7.key,.string x7.val]) U Cj U U (H.cellsI 0 U U)) (BX (parts:=[(0,.tmp 23)]) (vs:=[.agg #[.string x7.key,.string x7.val]]) (cs:=[.string x7.key,.string x7.val]) U U U BB Dd U (by decide) (by decide) U U H (fun b12 w H=>?_))))
   replace H:=H.p2
   refine Ct (xs:=E2 (xs.take k) n p) (ys:=[x7]) U U U BB Dd U (by decide) U U H (by omega) (fun F hA hR=>Cm (hA _ (List.mem_of_getElem? (i:=0) U)) U (by decide) (AW.flat_eq.2 U)) (fun v13 w H=>(Ad U (Ac (AU (Aa ?_)))))
   replace H:Hd _ _ _ [Y Ag v13 ((E2 (xs.take k) n p)++[x7]),blk b12 [.string x7.key,.string x7.val] 106,blk b10 [.string x7.key,.string x7.val] 106] [Z Ag (.slice A1 xs.length c2) xs]:=H
   refine Ae (V U U (AT (z:=((k+1:Nat):Int)) U U U (by rw [AC (by omega) (by omega)];omega)) (Ad U (Ac ?_)))
   rw [←W5 hx8 h11] at H
   replace H:=H.k1
   exact Bi (s:=(k,undef)) (k+1,v13) ⟨rfl,rfl,rfl,rfl,rfl,rfl,rfl,trivial⟩ ⟨H,by (try dsimp only);omega⟩ (by (try dsimp only);omega)
  refine Av (AU (Aa (Ae (V U U (AT (z:=((k+1:Nat):Int)) U U U (by rw [AC (by omega) (by omega)];omega)) (Ad U (Ac ?_))))))
  rw [←WZ hx8 h11] at H
  replace H:=H.sel 2 [1] [0] rfl (by kernel_rfl)
  exact Bi (s:=(k,undef)) (k+1,l) ⟨rfl,rfl,rfl,rfl,rfl,rfl,rfl,trivial⟩ ⟨H,by (try dsimp only);omega⟩ (by (try dsimp only);omega)
 refine BC (AM (AM (BD (Aa (Ab (Ae (Ah 2 U (Ac (Aa (An (Aq U U ?_)))))))))))
 rw [List.take_of_length_le (show xs.length≤k by omega)] at H
 exact Al U H
theorem Cn.heads0 {α:Type} {d:Kd α} {P:Program} {f:FuncId} {args:List Value} {v:Value} {ss:List (List α)} {Rs:List SP} {T:Value→List SP→Prop}
  (h:∀ us:List (Value×List α),us.map (·.2)=ss→Cn P f args [] (Z (Am d) v us::Z (Bg d) v ss::Rs) T):Cn P f args [] (Z (Bg d) v ss::Rs) T:=by
 intro w F H
 obtain ⟨us,hus,H2⟩:=H.heads 0 rfl
 refine (h us hus w F H2).mono ?_
 rintro e W' ⟨v,rfl,Bs,t,H⟩
 exact ⟨v,rfl,Bs,t,H.dropR⟩
theorem W9 {P:Program} {t s i c m:TypeId} {W1:List (List Ap)→Prop} {W2:List BG→Prop} {W3:List Int→Prop}
  (hs:Gi P t=some [(s,0,1),(i,1,1),(c,2,1),(c,3,1),(c,4,1),(i,5,1),(i,6,1),(i,7,1),(m,8,1)]) (hc:P.cellsOf t=9) (hi:P.underlying i=some (.int .i64))
  (h1:GK P s (Bg (Bg Ag)) W1) (h2:GK P c (Bg Af) W2) (h3:GK P m (Bg (Ai .i64)) W3)
  {H:Type} (enc:TypeId×Value→H) (w:World) (fuel:Nat) (cs:List Value) (x:DataW H×List MemPlace) (h:DataW.trod enc P w 0 (fun _=>true) true fuel t cs=some x):
  ∃ (vS:Value) (ss:List (List Ap)) (n1:Int) (vM:Value) (map:List BG) (vC:Value) (comb:List BG) (vR:Value) (red:List BG) (n5 n6 n7:Int) (vK:Value) (marks:List Int),
   cs=[vS,.int .i64 n1,vM,vC,vR,.int .i64 n5,.int .i64 n6,.int .i64 n7,vK]∧((Z (Bg Ag) vS ss).P w (E_ w)∧(Z Af vM map).P w (E_ w)∧(Z Af vC comb).P w (E_ w)∧(Z Af vR red).P w (E_ w)∧(Z (Ai .i64) vK marks).P w (E_ w))∧
   (W1 ss∧W2 map∧W2 comb∧W2 red∧W3 marks)∧(AA n1∧AA n5∧AA n6∧AA n7):=by
 obtain ⟨hl,n,hf⟩:=Kq hs h
 rw [hc] at hl
 match cs,hl with
 |[c0,c1,c2,c3,c4,c5,c6,c7,c8],_=>
  obtain ⟨y0,g0⟩:=hf 0 _ _ _ rfl
  obtain ⟨y1,g1⟩:=hf 1 _ _ _ rfl
  obtain ⟨y2,g2⟩:=hf 2 _ _ _ rfl
  obtain ⟨y3,g3⟩:=hf 3 _ _ _ rfl
  obtain ⟨y4,g4⟩:=hf 4 _ _ _ rfl
  obtain ⟨y5,g5⟩:=hf 5 _ _ _ rfl
  obtain ⟨y6,g6⟩:=hf 6 _ _ _ rfl
  obtain ⟨y7,g7⟩:=hf 7 _ _ _ rfl
  obtain ⟨y8,g8⟩:=hf 8 _ _ _ rfl
  obtain ⟨a0,r0,w0⟩:=h1 enc w n _ _ g0
  obtain ⟨a1,r1,w1⟩:=Fl hi enc w n _ _ g1
  obtain ⟨a2,r2,w2⟩:=h2 enc w n _ _ g2
  obtain ⟨a3,r3,w3⟩:=h2 enc w n _ _ g3
  obtain ⟨a4,r4,w4⟩:=h2 enc w n _ _ g4
  obtain ⟨a5,r5,w5⟩:=Fl hi enc w n _ _ g5
  obtain ⟨a6,r6,w6⟩:=Fl hi enc w n _ _ g6
  obtain ⟨a7,r7,w7⟩:=Fl hi enc w n _ _ g7
  obtain ⟨a8,r8,w8⟩:=h3 enc w n _ _ g8
  have q1:[c1]=[Value.int .i64 a1]:=r1
  have q5:[c5]=[Value.int .i64 a5]:=r5
  have q6:[c6]=[Value.int .i64 a6]:=r6
  have q7:[c7]=[Value.int .i64 a7]:=r7
  simp only [List.cons.injEq,and_true] at q1 q5 q6 q7
  subst q1 q5 q6 q7
  exact ⟨c0,a0,a1,c2,a2,c3,a3,c4,a4,a5,a6,a7,c8,a8,rfl,⟨r0,r2,r3,r4,r8⟩,⟨w0,w2,w3,w4,w8⟩,w1,w5,w6,w7⟩
structure Bf (A B:AD):Prop where
 us:A.us.map (·.2)=B.us.map (·.2)
 rest:A={ B with us:=A.us }
theorem Bf.refl (A:AD):Bf A A:=⟨rfl,rfl⟩
theorem Bf.symm {A B:AD} (h:Bf A B):Bf B A:=by
 obtain ⟨h1,h2⟩:=h
 refine ⟨h1.symm,?_⟩
 rw [h2]
theorem Bf.trans {A B C:AD} (h:Bf A B) (k:Bf B C):Bf A C:=by
 obtain ⟨h1,h2⟩:=h
 obtain ⟨k1,k2⟩:=k
 refine ⟨h1.trans k1,?_⟩
 rw [h2,k2]
section
variable {A B:AD} (h:Bf A B)
include h
theorem Bf.parts:A.parts=B.parts:=by rw [h.rest]
theorem Bf.map:A.map=B.map:=by rw [h.rest]
theorem Bf.comb:A.comb=B.comb:=by rw [h.rest]
theorem Bf.red:A.red=B.red:=by rw [h.rest]
theorem Bf.chunk:A.chunk=B.chunk:=by rw [h.rest]
theorem Bf.window:A.window=B.window:=by rw [h.rest]
theorem Bf.fuel:A.fuel=B.fuel:=by rw [h.rest]
theorem Bf.marks:A.marks=B.marks:=by rw [h.rest]
theorem Bf.len:A.us.length=B.us.length:=by have:=congrArg List.length h.us;simpa using this
theorem Bf.recs (s:Nat):recs A s=recs B s:=by
 have e:∀ J:AD,X.recs J s=((J.us.map (·.2))[s]?).getD []:=by
  intro J
  unfold X.recs
  rw [List.getElem?_map]
  cases J.us[s]?<;>rfl
 rw [e,e,h.us]
theorem Bf.split (D:AV) (s:Nat):Ay D A s=Ay D B s:=by
 unfold Ay mapM
 rw [h.recs,h.map,h.comb,h.fuel]
theorem Bf.only (D:AV) (s:Nat) (p:Int):Cy D A s p=Cy D B s p:=by
 unfold Cy
 rw [h.split,h.parts]
theorem Bf.all (D:AV) (p:Int):∀ k,IF D A p k=IF D B p k
 |0=>rfl
 |k+1=>by unfold IF;rw [Bf.all D p k,h.only]
theorem Bf.part (D:AV) (p:Int):Ii D A p=Ii D B p:=by
 unfold Ii
 rw [h.all,h.red,h.fuel,h.len]
theorem Bf.run (D:AV) (s:Nat) (p:Int):MJ D A s p=MJ D B s p:=by
 unfold MJ
 rw [h.split,h.only]
theorem Bf.partsGo (D:AV):∀ k p out,partsGo D A k p out=partsGo D B k p out
 |0,_,_=>rfl
 |k+1,p,out=>by unfold X.partsGo;rw [h.part,Bf.partsGo D k]
theorem Bf.wholeGo (D:AV):∀ k s,wholeGo D A k s=wholeGo D B k s
 |0,_=>by unfold X.wholeGo;rw [h.partsGo,h.parts]
 |k+1,s=>by unfold X.wholeGo;rw [h.split,Bf.wholeGo D k]
theorem Bf.whole (D:AV):M9 D A=M9 D B:=by
 unfold M9
 rw [h.wholeGo,h.len]
theorem Bf.may (m:Ee A):Ee B:=by
 obtain ⟨m1,m2,m3,m4,m5,m6,m7,m8,m9,m10,m11⟩:=m
 have hs:∀ u∈B.us,GW u.2:=by
  intro u hu
  have:u.2∈B.us.map (·.2):=List.mem_map_of_mem hu
  rw [←h.us] at this
  obtain ⟨v,hv,e⟩:=List.mem_map.1 this
  rw [←e];exact m4 v hv
 rw [h.len,h.marks] at m5
 rw [h.parts] at m2;rw [h.marks] at m3;rw [h.map] at m6;rw [h.red] at m7;rw [h.comb] at m8;rw [h.chunk] at m9;rw [h.window] at m10;rw [h.fuel] at m11
 exact ⟨by rw [←h.len];exact m1,m2,m3,hs,m5,m6,m7,m8,m9,m10,m11⟩
theorem Bf.ok (k:Cb A):Cb B:=⟨h.may k.may,by have:=k.map;rwa [h.map] at this,by have:=k.comb;rwa [h.comb] at this,by have:=k.red;rwa [h.red] at this⟩
end
theorem Cb.chunk1 {J:AD} (h:Cb J):1≤J.chunk∧J.chunk≤7:=h.may.2.2.2.2.2.2.2.2.1
theorem Cb.window1 {J:AD} (h:Cb J):1≤J.window∧J.window≤4:=h.may.2.2.2.2.2.2.2.2.2.1
structure Cf where
 J:AD
 w:Int
 t:Int
 o:Int
def C5 (C:Cf):Prop:=Ee C.J∧(1≤C.w∧C.w≤4)∧(1≤C.t∧C.t≤3)∧1≤C.o∧C.o≤50
instance mayCD (C:Cf):Decidable (C5 C):=by unfold C5;infer_instance
structure EW (A B:Cf):Prop where
 J:Bf A.J B.J
 w:A.w=B.w
 t:A.t=B.t
 o:A.o=B.o
theorem EW.refl (A:Cf):EW A A:=⟨Bf.refl _,rfl,rfl,rfl⟩
theorem EW.symm {A B:Cf} (h:EW A B):EW B A:=⟨h.J.symm,h.w.symm,h.t.symm,h.o.symm⟩
theorem EW.trans {A B C:Cf} (h:EW A B) (k:EW B C):EW A C:=⟨h.J.trans k.J,h.w.trans k.w,h.t.trans k.t,h.o.trans k.o⟩
structure HA (C:Cf):Prop where
 may:C5 C
 ok:Cb C.J
theorem EW.may {A B:Cf} (h:EW A B) (m:C5 A):C5 B:=⟨h.J.may m.1,by rw [←h.w];exact m.2.1,by rw [←h.t];exact m.2.2.1,by rw [←h.o];exact m.2.2.2⟩
theorem HA.w {C:Cf} (h:HA C):1≤C.w∧C.w≤4:=h.may.2.1
theorem HA.t {C:Cf} (h:HA C):1≤C.t∧C.t≤3:=h.may.2.2.1
theorem HA.o {C:Cf} (h:HA C):1≤C.o∧C.o≤50:=h.may.2.2.2
def C4 (C:Cf) (p:Int):Int:=if ¬ C5 C∨¬ (0≤p∧p≤C.J.parts - 1) then 0 else 1+p.tmod C.w
/-! ### Records and messages in plain words -/
structure DF where
 kind:Int
 part:Int
 sp:Int
 att:Int
 why:Int
 set:List Int
 pairs:List Ap
def Bu.p (r:Bu):DF:=⟨r.kind,r.part,r.sp,r.att,r.why,r.set,r.pairs⟩
structure Dt where
 kind:Int
 sp:Int
 att:Int
 part:Int
 seq:Int
 next:Int
 ep:Int
 why:Int
 set:List Int
 pairs:List Ap
def Wu:Dt:=⟨0,0,0,0,0,0,0,0,[],[]⟩
/-! ### Chunks that wait -/
abbrev DV:=List ((Int×Int)×List (List Ap))
def D0:DV→Int→Int→List (List Ap)
 |[],_,_=>[]
 |e::s,a,b=>if e.1.1=a∧e.1.2=b then e.2 else D0 s a b
def Je:DV→Int→Int→List Ap→DV
 |[],a,b,x=>[((a,b),[x])]
 |e::s,a,b,x=>if e.1.1=a∧e.1.2=b then (e.1,e.2++[x])::s else e::Je s a b x
def KK (s:DV) (a b:Int):Int:=((D0 s a b).length:Int)
def MP (s:DV) (a b q:Int):Prop:=q=KK s a b∧(0≤a∧a<6)∧(1≤b∧b≤3)∧q<40
instance (s:DV) (a b q:Int):Decidable (MP s a b q):=by unfold MP;infer_instance
def KL (s:DV) (a b q:Int) (x:List Ap):DV:=if MP s a b q then Je s a b x else s
def Y6 (s:DV) (a b n:Int):Option (List Ap):=if n<0∨KK s a b≠n then none else some (D0 s a b).flatten
def Jf (s:DV) (a:Int):DV:=s.filter fun e=>decide (e.1.1≠a)
/-! ### A reducer -/
structure Di where
 merged:Bool
 pairs:List Ap
 told:Bool
 att:Int
 cnt:Int
def Ji:Di:=⟨false,[],false,0,0⟩
def B3 {α:Type} (g:Nat→α) (k:Nat) (v:α):Nat→α:=fun j=>if j=k then v else g j
theorem GA {α:Type} (g:Nat→α) (k:Nat) (v:α):B3 g k v k=v:=if_pos rfl
theorem Gz {α:Type} (g:Nat→α) {k j:Nat} (v:α) (h:j≠k):B3 g k v j=g j:=if_neg h
structure AL where
 part:Int
 ep:Int
 g:Nat→Di
 st:DV
 sets:List (List Int)
def GY (part ep:Int):AL:=⟨part,ep,fun _=>Ji,[],[]⟩
def Dq (n:Nat) (R:AL) (x:DF):AL:=
 if x.part≠R.part then R else
 let R1:AL:=if x.kind=4∧(0≤x.sp∧x.sp<n)∧(R.g x.sp.toNat).merged=false then { R with g:=B3 R.g x.sp.toNat { R.g x.sp.toNat with merged:=true,pairs:=x.pairs } } else R
 if x.kind=5 then { R1 with sets:=R1.sets++[x.set] } else R1
def CJ (n:Nat) (part ep:Int) (rs:List DF):AL:=rs.foldl (Dq n) (GY part ep)
def CT (n:Nat) (R:AL):List Int:=((List.range n).filter fun i=>(R.g i).merged).map fun (i:Nat)=>(i:Int)
def Fp (n:Nat) (R:AL) (set:List Int):List Ap:=((List.range n).filter fun i=>(R.g i).merged && decide ((i:Int)∈set)).flatMap fun i=>(R.g i).pairs
def Mm (D:AV) (J:AD) (R:AL) (set:List Int):List Ap×Int:=Du D J.red (srt (Fp J.us.length R set)) J.fuel false
def DI (D:AV) (J:AD) (R:AL):List Ap×Int×Bool:=
 if (CT J.us.length R).length<J.us.length then ([],0,false) else ((Mm D J R (CT J.us.length R)).1,(Mm D J R (CT J.us.length R)).2,true)
theorem PW (n:Nat) (R:AL):(CT n R).length≤n:=by
 unfold CT
 rw [List.length_map]
 exact Nat.le_trans (List.length_filter_le _ _) (by simp)
theorem PZ (n:Nat) (R:AL):CT (n+1) R=CT n R++(if (R.g n).merged then [(n:Int)] else []):=by
 unfold CT
 rw [List.range_succ,List.filter_append,List.map_append]
 cases h:(R.g n).merged<;>simp [h]
theorem YM (n:Nat) (R:AL) (set:List Int):Fp (n+1) R set=Fp n R set++(if (R.g n).merged=true∧(n:Int)∈set then (R.g n).pairs else []):=by
 unfold Fp
 rw [List.range_succ,List.filter_append,List.flatMap_append]
 by_cases h:(R.g n).merged=true∧(n:Int)∈set
 ·rw [if_pos h];simp [h.1,h.2]
 ·rw [if_neg h]
  have:((R.g n).merged && decide ((n:Int)∈set))=false:=by
   cases h1:(R.g n).merged
   ·rfl
   ·simpa using fun h2=>h ⟨h1,h2⟩
  simp [this]
theorem P4 (n:Nat) (part ep:Int) (rs:List DF) (x:DF):CJ n part ep (rs++[x])=Dq n (CJ n part ep rs) x:=by
 unfold CJ;rw [List.foldl_append];rfl
theorem Yc (n:Nat) (R:AL) (x:DF):(Dq n R x).part=R.part∧(Dq n R x).ep=R.ep∧(Dq n R x).st=R.st:=by
 unfold Dq
 dsimp only
 split
 ·exact ⟨rfl,rfl,rfl⟩
 ·split<;>(split<;>exact ⟨rfl,rfl,rfl⟩)
theorem I0 (n:Nat) (part ep:Int) (rs:List DF):(CJ n part ep rs).part=part∧(CJ n part ep rs).ep=ep∧(CJ n part ep rs).st=[]:=by
 have:∀ (rs:List DF) (R:AL),(rs.foldl (Dq n) R).part=R.part∧(rs.foldl (Dq n) R).ep=R.ep∧(rs.foldl (Dq n) R).st=R.st:=by
  intro rs
  induction rs with
  |nil=>exact fun R=>⟨rfl,rfl,rfl⟩
  |cons x rs ih=>
   intro R
   obtain ⟨h1,h2,h3⟩:=ih (Dq n R x)
   obtain ⟨g1,g2,g3⟩:=Yc n R x
   exact ⟨h1.trans g1,h2.trans g2,h3.trans g3⟩
 exact this rs (GY part ep)
/-! ### What a part knows when it begins -/
/-! ### Records of all splits, in whatever order -/
/-! ### What it hears, what it tells -/
def Kg (J:AD) (R:AL) (n:Nat):AL×List DF:=
 if (R.g n).told=false then (R,[]) else
 match Y6 R.st n (R.g n).att (R.g n).cnt with
 |none=>(R,[])
 |some ps=>
  if 40<ps.length then (R,[]) else
  let R1:AL:={ R with g:=B3 R.g n { R.g n with merged:=true,pairs:=ps },st:=Jf R.st n }
  let l:=CT J.us.length R1
  if (l.length:Int)∈J.marks then ({ R1 with sets:=R1.sets++[l] },[⟨4,R.part,n,(R.g n).att,0,[],ps⟩,⟨5,R.part,0,0,0,l,[]⟩])
  else (R1,[⟨4,R.part,n,(R.g n).att,0,[],ps⟩])
def MA (J:AD) (R:AL) (m:Dt):Prop:=¬ (0≤m.sp∧m.sp<J.us.length)∨m.kind≠2∨m.part≠R.part
instance (J:AD) (R:AL) (m:Dt):Decidable (MA J R m):=by unfold MA;infer_instance
def MB (R:AL) (m:Dt):Prop:=(R.g m.sp.toNat).merged=false∧m.pairs.length≤8∧Hn m.pairs
instance (R:AL) (m:Dt):Decidable (MB R m):=by unfold MB;infer_instance
def I4 (J:AD) (R:AL) (m:Dt):AL×List DF:=
 if MB R m then Kg J { R with st:=KL R.st m.sp m.att m.seq m.pairs } m.sp.toNat else (R,[])
def RV (R:AL) (m:Dt):Dt:=
 ⟨3,m.sp,m.att,R.part,0,if (R.g m.sp.toNat).merged=true then 40 else KK R.st m.sp m.att,R.ep,0,[],[]⟩
def Qx (J:AD) (R:AL) (m:Dt):AL×Dt×List DF:=
 if MA J R m then (R,Wu,[]) else ((I4 J R m).1,RV (I4 J R m).1 m,(I4 J R m).2)
def M_ (J:AD) (t:Int) (R:AL) (sp att:Int):Prop:=¬ (0≤sp∧sp<J.us.length)∨(R.g sp.toNat).merged=true∨(R.g sp.toNat).told=true∨att<1∨t<att
instance (J:AD) (t:Int) (R:AL) (sp att:Int):Decidable (M_ J t R sp att):=by unfold M_;infer_instance
def RP (J:AD) (t:Int) (R:AL) (sp att cnt:Int):AL×List DF:=
 if M_ J t R sp att then (R,[]) else Kg J { R with g:=B3 R.g sp.toNat { R.g sp.toNat with told:=true,att:=att,cnt:=cnt } } sp.toNat
structure Nj where
 set:List Int
 why:Int
 pairs:List Ap
def AG (D:AV) (J:AD) (R:AL):Dt:=
 if (DI D J R).2.2=true then ⟨8,0,0,R.part,0,0,R.ep,(DI D J R).2.1,[],[]⟩ else ⟨6,0,0,R.part,0,0,R.ep,0,CT J.us.length R,[]⟩
section
variable {w0 w:World} {F0:AJ} {As Bs Rs:List SP} {A B:SP}
theorem Hd.exA {α:Sort _} {A:α→SP} (h:Hd w0 F0 w (ex A::As) Rs):∃ a,Hd w0 F0 w (A a::As) Rs:=by
 obtain ⟨F,G,⟨F1,F2,h1,h2,h3,⟨a,ha⟩,s⟩,r⟩:=h
 exact ⟨a,F,G,⟨F1,F2,h1,h2,h3,ha,s⟩,r⟩
theorem Hd.exI {α:Sort _} {A:α→SP} (a:α) (h:Hd w0 F0 w (A a::As) Rs):Hd w0 F0 w (ex A::As) Rs:=h.turn fun _ ha=>⟨a,ha⟩
theorem Hd.stA (h:Hd w0 F0 w (B5 Bs::As) Rs):Hd w0 F0 w (Bs++As) Rs:=h.open_ fun _ h=>h
theorem Hd.stI (h:Hd w0 F0 w (Bs++As) Rs):Hd w0 F0 w (B5 Bs::As) Rs:=h.shut fun _ h=>h
theorem Hd.puA {p:Prop} (h:Hd w0 F0 w (B1 p::As) Rs):p∧Hd w0 F0 w As Rs:=⟨h.fact (List.mem_cons_self ..) fun _ h=>h,h.drop⟩
theorem Hd.puI {p:Prop} (hp:p) (h:Hd w0 F0 w As Rs):Hd w0 F0 w (B1 p::As) Rs:=h.shut (Bs:=[]) fun _ _=>hp
def Bt {α:Type} (f:α→SP) (l:List α):SP:=B5 (l.map f)
theorem Hd.big0 {α:Type} (f:α→SP) (h:Hd w0 F0 w As Rs):Hd w0 F0 w (Bt f []::As) Rs:=h.shut (Bs:=[]) fun _ _=>trivial
theorem JL {α:Type}:∀ (l:List α) (i:Nat) {x:α},l[i]?=some x→l.Perm (x::l.eraseIdx i)
 |[],_,_,h=>by simp at h
 |y::l,0,x,h=>by
  obtain rfl:y=x:=by simpa using h
  exact List.Perm.refl _
 |y::l,i+1,x,h=>((JL l i (by simpa using h)).cons y).trans (List.Perm.swap _ _ _)
theorem Hd.bigO {α:Type} {f:α→SP} {l:List α} {x:α} (i:Nat) (hx:l[i]?=some x) (h:Hd w0 F0 w (Bt f l::As) Rs):Hd w0 F0 w (f x::Bt f (l.eraseIdx i)::As) Rs:=by
 have h1:=h.stA.perm (((JL l i hx).map f).append_right As)
 have h2:Hd w0 F0 w (((l.eraseIdx i).map f++As)++[f x]) Rs:=h1.perm (by rw [List.map_cons,List.cons_append];exact (List.perm_append_comm (l₁:=[f x])))
 have h3:Hd w0 F0 w ((l.eraseIdx i).map f++(As++[f x])) Rs:=by rw [←List.append_assoc];exact h2
 exact (show Hd w0 F0 w (Bt f (l.eraseIdx i)::(As++[f x])) Rs from h3.stI).perm (List.perm_append_comm (l₁:=Bt f (l.eraseIdx i)::As) (l₂:=[f x]))
theorem Hd.bigI {α:Type} {f:α→SP} {l:List α} {x:α} (i:Nat) (hi:i<l.length) (h:Hd w0 F0 w (f x::Bt f (l.eraseIdx i)::As) Rs):Hd w0 F0 w (Bt f (l.set i x)::As) Rs:=by
 have h1:Hd w0 F0 w (Bt f (l.eraseIdx i)::(As++[f x])) Rs:=h.perm (List.perm_append_comm (l₁:=[f x]) (l₂:=Bt f (l.eraseIdx i)::As))
 have h2:Hd w0 F0 w ((l.eraseIdx i).map f++As++[f x]) Rs:=by rw [List.append_assoc];exact h1.stA
 have h3:Hd w0 F0 w ((x::l.eraseIdx i).map f++As) Rs:=h2.perm (List.perm_append_comm (l₁:=(l.eraseIdx i).map f++As) (l₂:=[f x]))
 have hp:(l.set i x).Perm (x::l.eraseIdx i):=by
  have:=JL (l.set i x) i (x:=x) (by rw [List.getElem?_set_self hi])
  rwa [List.eraseIdx_set_eq] at this
 exact (h3.perm ((hp.symm.map f).append_right As)).stI
theorem Hd.bigN {α:Type} {f:α→SP} {l:List α} {x:α} (h:Hd w0 F0 w (f x::Bt f l::As) Rs):Hd w0 F0 w (Bt f (l++[x])::As) Rs:=by
 have h1:Hd w0 F0 w (Bt f l::(As++[f x])) Rs:=h.perm (List.perm_append_comm (l₁:=[f x]) (l₂:=Bt f l::As))
 have h2:Hd w0 F0 w (l.map f++As++[f x]) Rs:=by rw [List.append_assoc];exact h1.stA
 have h3:Hd w0 F0 w ((x::l).map f++As) Rs:=h2.perm (List.perm_append_comm (l₁:=l.map f++As) (l₂:=[f x]))
 exact (h3.perm (((List.perm_append_comm (l₁:=[x]) (l₂:=l)).map f).append_right As)).stI
end
def Bw (vS vM vC vR vK:Value) (J:AD) (w t o part ep:Int) (g:Nat→Di) (hv:Nat→Value) (sb:Nat) (vs:Value):List Value:=
 [vS,.int .i64 J.parts,vM,vC,vR,.int .i64 J.chunk,.int .i64 J.window,.int .i64 J.fuel,vK,.int .i64 w,.int .i64 t,.int .i64 o,.int .i64 part,.int .i64 ep,
  .bool (g 0).merged,hv 0,.bool (g 0).told,.int .i64 (g 0).att,.int .i64 (g 0).cnt,
  .bool (g 1).merged,hv 1,.bool (g 1).told,.int .i64 (g 1).att,.int .i64 (g 1).cnt,
  .bool (g 2).merged,hv 2,.bool (g 2).told,.int .i64 (g 2).att,.int .i64 (g 2).cnt,
  .bool (g 3).merged,hv 3,.bool (g 3).told,.int .i64 (g 3).att,.int .i64 (g 3).cnt,
  .bool (g 4).merged,hv 4,.bool (g 4).told,.int .i64 (g 4).att,.int .i64 (g 4).cnt,
  .bool (g 5).merged,hv 5,.bool (g 5).told,.int .i64 (g 5).att,.int .i64 (g 5).cnt,
  .pointer (some ⟨sb,0,none⟩),vs]
section
variable {vS vM vC vR vK vs:Value} {J:AD} {w t o part ep:Int} {g:Nat→Di} {hv:Nat→Value} {sb j:Nat}
theorem MG (h:j<6):(Bw vS vM vC vR vK J w t o part ep g hv sb vs)[14+j*5+0]?=some (.bool (g j).merged):=by
 match j,h with
 |0,_=>rfl
 |1,_=>rfl
 |2,_=>rfl
 |3,_=>rfl
 |4,_=>rfl
 |5,_=>rfl
theorem Yh (h:j<6):(Bw vS vM vC vR vK J w t o part ep g hv sb vs)[14+j*5+1]?=some (hv j):=by
 match j,h with
 |0,_=>rfl
 |1,_=>rfl
 |2,_=>rfl
 |3,_=>rfl
 |4,_=>rfl
 |5,_=>rfl
theorem Yj (h:j<6) (b:Bool):Es (Bw vS vM vC vR vK J w t o part ep g hv sb vs) (14+j*5+0) [.bool b]=Bw vS vM vC vR vK J w t o part ep (B3 g j { g j with merged:=b }) (hv) sb vs:=by
 match j,h with
 |0,_=>rfl
 |1,_=>rfl
 |2,_=>rfl
 |3,_=>rfl
 |4,_=>rfl
 |5,_=>rfl
theorem Yk (h:j<6) (v:Value):Es (Bw vS vM vC vR vK J w t o part ep g hv sb vs) (14+j*5+1) [v]=Bw vS vM vC vR vK J w t o part ep (g) (B3 hv j v) sb vs:=by
 match j,h with
 |0,_=>rfl
 |1,_=>rfl
 |2,_=>rfl
 |3,_=>rfl
 |4,_=>rfl
 |5,_=>rfl
end
def Hp (g:Nat→Di) (hv:Nat→Value):Nat→SP:=fun i=>Y Ag (hv i) (g i).pairs
def BN (g:Nat→Di) (hv:Nat→Value):SP:=Bt (Hp g hv) (List.range 6)
def My (g:Nat→Di) (hv:Nat→Value) (i:Nat):SP:=Bt (Hp g hv) ((List.range 6).eraseIdx i)
theorem QN {n i:Nat} (h:i<n):(List.range n)[i]?=some i:=by simp [h]
theorem Sn {α:Type} {f f':α→SP} {l:List α} (h:∀ x∈l,f x=f' x):Bt f l=Bt f' l:=by
 unfold Bt;rw [List.map_congr_left h]
theorem Tx {n i j:Nat} (hi:i<n) (h:j∈(List.range n).eraseIdx i):j≠i:=by
 intro e
 subst e
 have hn:((List.range n).eraseIdx j).Nodup:=(List.nodup_range (n:=n)).sublist (List.eraseIdx_sublist _ _)
 have hp:=JL (List.range n) j (QN hi)
 have:=hp.nodup_iff.1 List.nodup_range
 exact (List.nodup_cons.1 this).1 h
theorem NO {α:Type} {f:α→SP} {l:List α} {w:World} {F:AJ} (h:(Bt f l).P w F) {x:α} (hx:x∈l):(f x).P w F:=Cr.mem h (List.mem_map_of_mem hx)
section
variable {w0 w:World} {F0:AJ} {As Rs:List SP} {g:Nat→Di} {hv:Nat→Value} {i:Nat}
theorem Hd.prsO (hi:i<6) (H:Hd w0 F0 w (BN g hv::As) Rs):Hd w0 F0 w (Y Ag (hv i) (g i).pairs::My g hv i::As) Rs:=H.bigO (f:=Hp g hv) i (QN hi)
theorem Hd.bigGI {f f':Nat→SP} {n:Nat} (hi:i<n) (he:∀ j,j≠i→f j=f' j) (H:Hd w0 F0 w (f' i::Bt f ((List.range n).eraseIdx i)::As) Rs):Hd w0 F0 w (Bt f' (List.range n)::As) Rs:=by
 rw [Sn fun j hj=>he j (Tx hi hj)] at H
 have:=H.bigI (f:=f') i (by simpa using hi)
 rwa [show (List.range n).set i i=List.range n from ?_] at this
 apply List.ext_getElem? 
 intro k
 rw [List.getElem?_set]
 split
 ·rename_i e;subst e;simp [hi]
 ·rfl
theorem Hd.prsI (hi:i<6) {x:Di} {v:Value} (H:Hd w0 F0 w (Y Ag v x.pairs::My g hv i::As) Rs):Hd w0 F0 w (BN (B3 g i x) (B3 hv i v)::As) Rs:=by
 refine Hd.bigGI (f:=Hp g hv) (f':=Hp (B3 g i x) (B3 hv i v)) hi (fun j hj=>?_) ?_
 ·unfold Hp;rw [Gz g x hj,Gz hv v hj]
 ·show Hd w0 F0 w (Y Ag (B3 hv i v i) (B3 g i x i).pairs::My g hv i::As) Rs
  rw [GA,GA];exact H
theorem Qu {F:AJ} (hi:i<6) (h:(BN g hv).P w F):(Z Ag (hv i) (g i).pairs).P w F:=BJ F (NO h (x:=i) (List.mem_range.2 hi))
theorem XD:∀ {w:World} {F:AJ},(BN (fun _=>Ji) (fun _=>.slice none 0 0)).P w F:=by
 intro w F
 have:∀ l:List Nat,Cr (l.map (Hp (fun _=>Ji) (fun _=>.slice none 0 0))) w F:=by
  intro l
  induction l with
  |nil=>trivial
  |cons a l ih=>exact ⟨none_,F,fun _ h=>h.elim,fun _ h=>h,fun _ h=>h.elim,Mq Ag w none_ trivial,ih⟩
 exact this _
theorem Hd.prsN (H:Hd w0 F0 w As Rs):Hd w0 F0 w (BN (fun _=>Ji) (fun _=>.slice none 0 0)::As) Rs:=H.shut (Bs:=[]) fun _ _=>XD
theorem Ui {α:Type} {d:Kd α} {F:AJ} {v:Value} {us:List (Value×List α)} (h:(Z Dv v (us.map fun u=>FA u.1)).P w F) (hu:∀ p∈us,(Z d p.1 p.2).P w F):(Z (Am d) v us).P w F:=by
 obtain ⟨A,m,c,e,h1,h2,h3,cs,h4,h5⟩:=h
 refine ⟨A,m,c,e,by simpa using h1,h2,h3,cs,h4,?_⟩
 have hcs:cs=(us.map fun u=>FA u.1).flatMap IH:=AW.flat_eq.1 h5
 have:(us.map fun u=>FA u.1).flatMap IH=us.map (·.1):=by
  clear h5 hcs h1
  induction us with
  |nil=>rfl
  |cons p us ih=>
   obtain ⟨A,c,e,_⟩:=DZ (hu p (List.mem_cons_self ..))
   rw [List.map_cons,List.flatMap_cons,ih fun q hq=>hu q (List.mem_cons_of_mem _ hq),List.map_cons,e]
   rfl
 rw [hcs,this]
 exact QV hu
end
/-! ### A row of headers held, and each slice held: a slice of slices held -/
section
variable {α:Type} {d:Kd α} {w0 w:World} {F F0:AJ} {As Rs:List SP} {v:Value} {us:List (Value×List α)}
def Bo (us:List (Value×List α)):List EF:=us.map fun u=>FA u.1
def Ga (d:Kd α) (us:List (Value×List α)):SP:=Bt (fun u:Value×List α=>Y d u.1 u.2) us
theorem QX:∀ {us:List (Value×List α)} {F:AJ},(Ga d us).P w F→CI (Am d) w F us (us.map (·.1))
 |[],_,_=>rfl
 |u::us,F,⟨F1,F2,h1,h2,h3,a,s⟩=>⟨F1,F2,[u.1],us.map (·.1),h1,h2,h3,rfl,⟨rfl,a⟩,QX (us:=us) s⟩
theorem OW (h:∀ u∈us,∃ A n c,u.1=.slice A n c):(Bo us).flatMap IH=us.map (·.1):=by
 unfold Bo
 induction us with
 |nil=>rfl
 |cons p us ih=>
  obtain ⟨A,n,c,e⟩:=h p (List.mem_cons_self ..)
  rw [List.map_cons,List.flatMap_cons,ih fun q hq=>h q (List.mem_cons_of_mem _ hq),List.map_cons,e]
  rfl
theorem Ut {w:World} {F:AJ} (h:(Ga d us).P w F):∀ u∈us,∃ A n c,u.1=.slice A n c:=fun u hu=>by
 obtain ⟨A,c,e,_⟩:=DZ (BJ F (NO h hu))
 exact ⟨A,_,c,e⟩
theorem Hd.hdI (H:Hd w0 F0 w (Y Dv v (Bo us)::Ga d us::As) Rs):Hd w0 F0 w (Y (Am d) v us::As) Rs:=by
 refine H.turn2 fun F1 F2 hd h1 h2=>?_
 obtain ⟨A,n,c,e,hl,cs,G1,G2,s1,s2,dj,row,reps⟩:=h1
 have hcs:cs=us.map (·.1):=(AW.flat_eq.1 reps.toR).trans (OW (Ut h2))
 subst hcs
 exact ⟨A,n,c,e,by simpa [Bo] using hl,_,G1,F2,fun k hk=>.inl (s1 k hk),fun k hk=>.inr hk,fun k hk hg=>hd k (s1 k hk) hg,row,QX h2⟩
theorem Uj {F:AJ} (h:(Z (Am d) v us).P w F):(Z Dv v (Bo us)).P w F:=by
 obtain ⟨A,m,c,e,h1,h2,h3,cs,h4,h5⟩:=h
 refine ⟨A,m,c,e,by simpa [Bo] using h1,h2,h3,cs,h4,AW.flat_eq.2 ?_⟩
 have hall:=OV h5
 have:∀ {us:List (Value×List α)} {cs:List Value},AW (Am d) w F us cs→cs=us.map (·.1):=by
  intro us
  induction us with
  |nil=>intro cs h;exact h
  |cons u us ih=>rintro cs ⟨c,cs',e,h1,h2⟩;rw [e,h1.1,ih h2];rfl
 rw [this h5]
 exact (OW fun u hu=>by
  obtain ⟨A,c,e,_⟩:=DZ (hall u hu)
  exact ⟨A,_,c,e⟩).symm
end
/-! ### Told anew -/
section
variable {w0 w:World} {F0:AJ} {As Rs:List SP} {g g':Nat→Di} {hv:Nat→Value} {i:Nat}
theorem Yi {vS vM vC vR vK vs:Value} {J:AD} {w t o part ep:Int} {sb:Nat} (h:∀ i,(g' i).merged=(g i).merged∧(g' i).told=(g i).told∧(g' i).att=(g i).att∧(g' i).cnt=(g i).cnt):
  Bw vS vM vC vR vK J w t o part ep g hv sb vs=Bw vS vM vC vR vK J w t o part ep g' hv sb vs:=by
 unfold Bw
 rw [(h 0).1,(h 0).2.1,(h 0).2.2.1,(h 0).2.2.2,(h 1).1,(h 1).2.1,(h 1).2.2.1,(h 1).2.2.2,(h 2).1,(h 2).2.1,(h 2).2.2.1,(h 2).2.2.2,(h 3).1,(h 3).2.1,(h 3).2.2.1,(h 3).2.2.2,(h 4).1,(h 4).2.1,(h 4).2.2.1,(h 4).2.2.2,(h 5).1,(h 5).2.1,(h 5).2.2.1,(h 5).2.2.2]
theorem Hd.prsU (hi:i<6) {x:Di} {v:Value} (H:Hd w0 F0 w (Y Ag v x.pairs::BN g hv::As) Rs):Hd w0 F0 w (BN (B3 g i x) (B3 hv i v)::As) Rs:=by
 have h1:=(H.perm (List.Perm.swap _ _ _)).prsO hi
 exact Hd.prsI hi ((h1.drop.perm (List.Perm.swap _ _ _)))
def pick (g:Nat→Di) (set:List Int) (n:Nat):List Nat:=(List.range n).filter fun i=>(g i).merged && decide ((i:Int)∈set)
def DJ (g:Nat→Di) (hv:Nat→Value) (set:List Int) (n:Nat):List (Value×List Ap):=(pick g set n).map fun i=>(hv i,(g i).pairs)
theorem Mw (g:Nat→Di) (hv:Nat→Value) (set:List Int) (n:Nat):DJ g hv set (n+1)=DJ g hv set n++(if (g n).merged=true∧(n:Int)∈set then [(hv n,(g n).pairs)] else []):=by
 unfold DJ pick
 rw [List.range_succ,List.filter_append,List.map_append]
 by_cases h:(g n).merged=true∧(n:Int)∈set
 ·rw [if_pos h];simp [h.1,h.2]
 ·rw [if_neg h]
  have:((g n).merged && decide ((n:Int)∈set))=false:=by
   cases h1:(g n).merged
   ·rfl
   ·simpa using fun h2=>h ⟨h1,h2⟩
  simp [this]
theorem Qo (R:AL) (hv:Nat→Value) (set:List Int) (n:Nat):CP (DJ R.g hv set n)=Fp n R set:=by
 unfold CP DJ Fp pick
 rw [List.flatMap_map]
theorem Xz (g:Nat→Di) (hv:Nat→Value) (set:List Int) (n:Nat):(DJ g hv set n).length≤n:=by
 unfold DJ pick
 rw [List.length_map]
 exact Nat.le_trans (List.length_filter_le _ _) (by simp)
theorem XA {F:AJ} {set:List Int} {n:Nat} (hn:n≤6) (h:(BN g hv).P w F):∀ p∈DJ g hv set n,(Z Ag p.1 p.2).P w F:=by
 intro p hp
 obtain ⟨j,hj,rfl⟩:=List.mem_map.1 hp
 have:=List.mem_range.1 (List.mem_filter.1 hj).1
 exact Qu (by omega) h
theorem Q8 {R:AL} {set:List Int} {b:Nat} (h:∀ i,(R.g i).pairs.length≤b):∀ n,(Fp n R set).length≤n*b
 |0=>Nat.zero_le _
 |n+1=>by
  have ih:=Q8 (set:=set) h n
  have:=h n
  rw [YM,List.length_append,Nat.succ_mul]
  split
  ·omega
  ·simp only [List.length_nil];omega
end
theorem Hd.prsFormR {w0 w:World} {F0:AJ} {As Rs:List SP} {g:Nat→Di} {hv:Nat→Value} {i:Nat} (j:Nat) (hj:Rs[j]?=some (BN g hv)) (hi:i<6) (H:Hd w0 F0 w As Rs):∃ A c,hv i=.slice A (g i).pairs.length c∧(g i).pairs.length≤c∧c≤9223372036854775807∧Plain A:=
 H.factR (List.mem_of_getElem? hj) fun F h=>DZ (Qu hi h)
theorem Yd {n:Nat} {N:AL} {x:DF} (h1:x.part≠N.part):Dq n N x=N:=if_pos h1
theorem KA {n:Nat} {N:AL} {x:DF} (h1:x.part=N.part) (h4:¬ (x.kind=4∧(0≤x.sp∧x.sp<n)∧(N.g x.sp.toNat).merged=false)) (h5:x.kind≠5):Dq n N x=N:=by
 unfold Dq
 dsimp only
 rw [if_neg (fun h=>h h1),if_neg h5,if_neg h4]
theorem Yb {n:Nat} {N:AL} {x:DF} (h1:x.part=N.part) (h4:x.kind=4) (hr:0≤x.sp∧x.sp<n) (hm:(N.g x.sp.toNat).merged=false):Dq n N x={ N with g:=B3 N.g x.sp.toNat { N.g x.sp.toNat with merged:=true,pairs:=x.pairs } }:=by
 unfold Dq
 dsimp only
 rw [if_neg (fun h=>h h1),if_neg (show ¬ x.kind=5 by omega),if_pos ⟨h4,hr,hm⟩]
theorem Il {n:Nat} {N:AL} {x:DF} (h1:x.part=N.part) (h5:x.kind=5):Dq n N x={ N with sets:=N.sets++[x.set] }:=by
 unfold Dq
 dsimp only
 rw [if_neg (fun h=>h h1),if_pos h5,if_neg (fun h=>by have:=h.1;omega)]
theorem FC {n:Nat} {p ep:Int} {recs:List Bu} {k:Nat} {x:Bu} {R R2:AL} (hR:R=CJ n p ep ((recs.take k).map Bu.p)) (hx:recs[k]?=some x) (e:Dq n R x.p=R2):R2=CJ n p ep ((recs.take (k+1)).map Bu.p):=by
 rw [Eo hx,List.map_append]
 show R2=CJ n p ep (_++[x.p])
 rw [P4,←hR,e]
theorem WA {n:Nat} {p ep:Int} {b:Nat}:∀ {rs:List DF},(∀ r∈rs,r.pairs.length≤b)→∀ i,((CJ n p ep rs).g i).pairs.length≤b:=by
 have:∀ (rs:List DF) (R:AL),(∀ r∈rs,r.pairs.length≤b)→(∀ i,(R.g i).pairs.length≤b)→∀ i,((rs.foldl (Dq n) R).g i).pairs.length≤b:=by
  intro rs
  induction rs with
  |nil=>intro R _ h;exact h
  |cons x rs ih=>
   intro R hr h
   refine ih (Dq n R x) (fun r hr2=>hr r (List.mem_cons_of_mem _ hr2)) fun i=>?_
   have hx:=hr x (List.mem_cons_self ..)
   have key:∀ (R1:AL) (c:Prop) [Decidable c],(if c then { R1 with sets:=R1.sets++[x.set] } else R1).g=R1.g:=by
    intro R1 c _
    split<;>rfl
   unfold Dq
   dsimp only
   split
   ·exact h i
   ·rw [key]
    split
    ·dsimp only
     by_cases e:i=x.sp.toNat
     ·subst e;rw [GA];exact hx
     ·rw [Gz _ _ e];exact h i
    ·exact h i
 intro rs hr
 exact this rs (GY p ep) hr fun i=>Nat.zero_le _
theorem ZJ (p:Int) {w:Int} (hw:1≤w): -w<p.tmod w∧p.tmod w<w:=by
 have h1:=Int.lt_tmod_of_pos p (show (0:Int)<w by omega)
 have h2:=Int.tmod_lt_of_pos p (show (0:Int)<w by omega)
 omega
theorem IX (vS:Value) (vM:Value) (vC:Value) (vR:Value) (vK:Value) (C:Cf):
    Cn Tryz.prog 19 [.agg #[vS,.int .i64 C.J.parts,vM,vC,vR,.int .i64 C.J.chunk,.int .i64 C.J.window,.int .i64 C.J.fuel,vK,.int .i64 C.w,.int .i64 C.t,.int .i64 C.o]] [] [Z (Am Ag) vS C.J.us,Z Af vM C.J.map,Z Af vC C.J.comb,Z Af vR C.J.red,Z (Ai .i64) vK C.J.marks] (fun v Bs=>v=.bool (decide (C5 C))∧Bs=[]):=by
 intro w0 F0 H
 obtain ⟨A1,c2,rfl,hc3,hm4,hp5⟩:=H.fR 0 rfl
 obtain ⟨A6,c7,rfl,hc8,hm9,hp10⟩:=H.fR 1 rfl
 obtain ⟨A11,c12,rfl,hc13,hm14,hp15⟩:=H.fR 2 rfl
 obtain ⟨A16,c17,rfl,hc18,hm19,hp20⟩:=H.fR 3 rfl
 obtain ⟨A21,c22,rfl,hc23,hm24,hp25⟩:=H.fR 4 rfl
 refine enter Tryz.func19 U U (Nat.le_of_ble_eq_true U) (Ab (Ae (CA U U U U H (fun b26 w H=>(Ad U (Ac (Aa ?_)))))))
 replace H:Hd _ _ _ [blk b26 [.slice A1 C.J.us.length c2,.int .i64 C.J.parts,.slice A6 C.J.map.length c7,.slice A11 C.J.comb.length c12,.slice A16 C.J.red.length c17,.int .i64 C.J.chunk,.int .i64 C.J.window,.int .i64 C.J.fuel,.slice A21 C.J.marks.length c22,.int .i64 C.w,.int .i64 C.t,.int .i64 C.o] 28] [Z (Am Ag) (.slice A1 C.J.us.length c2) C.J.us,Z Af (.slice A6 C.J.map.length c7) C.J.map,Z Af (.slice A11 C.J.comb.length c12) C.J.comb,Z Af (.slice A16 C.J.red.length c17) C.J.red,Z (Ai .i64) (.slice A21 C.J.marks.length c22) C.J.marks]:=H
 refine Ab (Ae (V U U (Aj U C0 U) (V U U (Bq (cs:=[.slice A1 C.J.us.length c2,.int .i64 C.J.parts,.slice A6 C.J.map.length c7,.slice A11 C.J.comb.length c12,.slice A16 C.J.red.length c17,.int .i64 C.J.chunk,.int .i64 C.J.window,.int .i64 C.J.fuel,.slice A21 C.J.marks.length c22]) U Jr U U (H.cellsI 0 U U)) (sc (Pd (.slice A1 C.J.us.length c2) (.slice A6 C.J.map.length c7) (.slice A11 C.J.comb.length c12) (.slice A16 C.J.red.length c17) (.slice A21 C.J.marks.length c22) C.J) H (lR 0 U (lR 1 U (lR 2 U (lR 3 U (lR 4 U l0))))) U U (At PC U U) ?_))))
 rintro _ _ w ⟨rfl,rfl⟩ H
 refine Ad U ?_
 refine AK (d:=6) U (fun h27=>?_) (fun h27=>?_)
 ·refine V U U (Aj U IO U) (V U U (Ak U AB U (H.cellI 0 U U)) (sc (Gl C.w 1 4) H l0 U U (At Gd U U) ?_))
  rintro _ _ w ⟨rfl,rfl⟩ H
  refine Ah 2 U ?_
  refine AK (d:=11) U (fun h28=>?_) (fun h28=>?_)
  ·refine V U U (Aj U IP U) (V U U (Ak U AB U (H.cellI 0 U U)) (sc (Gl C.t 1 3) H l0 U U (At Gd U U) ?_))
   rintro _ _ w ⟨rfl,rfl⟩ H
   refine Ah 2 U ?_
   refine AK (d:=16) U (fun h29=>?_) (fun h29=>?_)
   ·refine V U U (Aj U TT U) (V U U (Ak U AB U (H.cellI 0 U U)) (sc (Gl C.o 1 50) H l0 U U (At Gd U U) ?_))
    rintro _ _ w ⟨rfl,rfl⟩ H
    refine Ah 2 U (Ac (Aa ?_))
    replace H:Hd _ _ _ [blk b26 [.slice A1 C.J.us.length c2,.int .i64 C.J.parts,.slice A6 C.J.map.length c7,.slice A11 C.J.comb.length c12,.slice A16 C.J.red.length c17,.int .i64 C.J.chunk,.int .i64 C.J.window,.int .i64 C.J.fuel,.slice A21 C.J.marks.length c22,.int .i64 C.w,.int .i64 C.t,.int .i64 C.o] 28] [Z (Am Ag) (.slice A1 C.J.us.length c2) C.J.us,Z Af (.slice A6 C.J.map.length c7) C.J.map,Z Af (.slice A11 C.J.comb.length c12) C.J.comb,Z Af (.slice A16 C.J.red.length c17) C.J.red,Z (Ai .i64) (.slice A21 C.J.marks.length c22) C.J.marks]:=H
    refine An (Aq U U ?_)
    replace H:=H.nil
    have e:(1≤C.o∧C.o≤50)↔C5 C:=⟨fun g=>⟨h27,by omega,by omega,by omega⟩,fun g=>by have g2:=g.2;omega⟩
    exact Al ⟨congrArg Value.bool (decide_eq_decide.2 e),rfl⟩ H
   refine Ah 5 U (Ac (Aa ?_))
   replace H:Hd _ _ _ [blk b26 [.slice A1 C.J.us.length c2,.int .i64 C.J.parts,.slice A6 C.J.map.length c7,.slice A11 C.J.comb.length c12,.slice A16 C.J.red.length c17,.int .i64 C.J.chunk,.int .i64 C.J.window,.int .i64 C.J.fuel,.slice A21 C.J.marks.length c22,.int .i64 C.w,.int .i64 C.t,.int .i64 C.o] 28] [Z (Am Ag) (.slice A1 C.J.us.length c2) C.J.us,Z Af (.slice A6 C.J.map.length c7) C.J.map,Z Af (.slice A11 C.J.comb.length c12) C.J.comb,Z Af (.slice A16 C.J.red.length c17) C.J.red,Z (Ai .i64) (.slice A21 C.J.marks.length c22) C.J.marks]:=H
   refine An (Aq U U ?_)
   replace H:=H.nil
   have e:¬ C5 C:=fun h=>by have h1:=h.1;have h2:=h.2;first |exact absurd h1 h27|omega
   exact Al ⟨congrArg Value.bool (decide_eq_false e).symm,rfl⟩ H
  refine Ah 10 U (Ac (Aa ?_))
  replace H:Hd _ _ _ [blk b26 [.slice A1 C.J.us.length c2,.int .i64 C.J.parts,.slice A6 C.J.map.length c7,.slice A11 C.J.comb.length c12,.slice A16 C.J.red.length c17,.int .i64 C.J.chunk,.int .i64 C.J.window,.int .i64 C.J.fuel,.slice A21 C.J.marks.length c22,.int .i64 C.w,.int .i64 C.t,.int .i64 C.o] 28] [Z (Am Ag) (.slice A1 C.J.us.length c2) C.J.us,Z Af (.slice A6 C.J.map.length c7) C.J.map,Z Af (.slice A11 C.J.comb.length c12) C.J.comb,Z Af (.slice A16 C.J.red.length c17) C.J.red,Z (Ai .i64) (.slice A21 C.J.marks.length c22) C.J.marks]:=H
  refine An (Aq U U ?_)
  replace H:=H.nil
  have e:¬ C5 C:=fun h=>by have h1:=h.1;have h2:=h.2;first |exact absurd h1 h27|omega
  exact Al ⟨congrArg Value.bool (decide_eq_false e).symm,rfl⟩ H
 refine Ah 12 U (Ah 3 U (Ac (Aa ?_)))
 replace H:Hd _ _ _ [blk b26 [.slice A1 C.J.us.length c2,.int .i64 C.J.parts,.slice A6 C.J.map.length c7,.slice A11 C.J.comb.length c12,.slice A16 C.J.red.length c17,.int .i64 C.J.chunk,.int .i64 C.J.window,.int .i64 C.J.fuel,.slice A21 C.J.marks.length c22,.int .i64 C.w,.int .i64 C.t,.int .i64 C.o] 28] [Z (Am Ag) (.slice A1 C.J.us.length c2) C.J.us,Z Af (.slice A6 C.J.map.length c7) C.J.map,Z Af (.slice A11 C.J.comb.length c12) C.J.comb,Z Af (.slice A16 C.J.red.length c17) C.J.red,Z (Ai .i64) (.slice A21 C.J.marks.length c22) C.J.marks]:=H
 refine An (Aq U U ?_)
 replace H:=H.nil
 have e:¬ C5 C:=fun h=>by have h1:=h.1;have h2:=h.2;first |exact absurd h1 h27|omega
 exact Al ⟨congrArg Value.bool (decide_eq_false e).symm,rfl⟩ H
theorem J0 (vS:Value) (vM:Value) (vC:Value) (vR:Value) (vK:Value) (C:Cf) (p:Int) (hp:AA p):
    Cn Tryz.prog 71 [.agg #[vS,.int .i64 C.J.parts,vM,vC,vR,.int .i64 C.J.chunk,.int .i64 C.J.window,.int .i64 C.J.fuel,vK,.int .i64 C.w,.int .i64 C.t,.int .i64 C.o],.int .i64 p] [] [Z (Am Ag) vS C.J.us,Z Af vM C.J.map,Z Af vC C.J.comb,Z Af vR C.J.red,Z (Ai .i64) vK C.J.marks] (fun v Bs=>v=.int .i64 (C4 C p)∧Bs=[]):=by
 intro w0 F0 H
 unfold AA at hp
 refine enter Tryz.func71 U U (Nat.le_of_ble_eq_true U) (Ab (Ae (CA U U U U H (fun b1 w H=>(Ad U (Ac (Aa ?_)))))))
 replace H:Hd _ _ _ [blk b1 [vS,.int .i64 C.J.parts,vM,vC,vR,.int .i64 C.J.chunk,.int .i64 C.J.window,.int .i64 C.J.fuel,vK,.int .i64 C.w,.int .i64 C.t,.int .i64 C.o] 28] [Z (Am Ag) vS C.J.us,Z Af vM C.J.map,Z Af vC C.J.comb,Z Af vR C.J.red,Z (Ai .i64) vK C.J.marks]:=H
 refine Ab (Ab (Ae (V U U (Bq (cs:=[vS,.int .i64 C.J.parts,vM,vC,vR,.int .i64 C.J.chunk,.int .i64 C.J.window,.int .i64 C.J.fuel,vK,.int .i64 C.w,.int .i64 C.t,.int .i64 C.o]) U DE U U (H.cellsI 0 U U)) (sc (IX vS vM vC vR vK C) H (lR 0 U (lR 1 U (lR 2 U (lR 3 U (lR 4 U l0))))) U U (At IU U U) ?_))))
 rintro _ _ w ⟨rfl,rfl⟩ H
 refine V U U (D_ U U) (Ad U ?_)
 refine AK (d:=8) U (fun h2=>?_) (fun h2=>?_)
 ·refine Ah 8 U (Ac (Aa ?_))
  replace H:Hd _ _ _ [blk b1 [vS,.int .i64 C.J.parts,vM,vC,vR,.int .i64 C.J.chunk,.int .i64 C.J.window,.int .i64 C.J.fuel,vK,.int .i64 C.w,.int .i64 C.t,.int .i64 C.o] 28] [Z (Am Ag) vS C.J.us,Z Af vM C.J.map,Z Af vC C.J.comb,Z Af vR C.J.red,Z (Ai .i64) vK C.J.marks]:=H
  refine Cw U (Ab (Ae (Ad U (Ac (Aa (An (Az (Aq U U ?_))))))))
  replace H:=H.nil
  exact Al ⟨congrArg (Value.int .i64) (if_pos (by first |exact .inl h2|exact .inr h2)).symm,rfl⟩ H
 have hmc:C5 C:=Classical.not_not.1 h2
 have hm1:=hmc.2
 have hmp:=hmc.1.2.1
 refine Ad U (V U U (Aj U C0 U) (V U U (Aj U HQ U) (V U U (Ak U AB U (H.cellI 0 U U)) (V U U (CK (z:=C.J.parts - 1) U U U (AC (by omega) (by omega))) (sc (Gl p 0 (C.J.parts - 1)) H l0 U U (At Gd U U) ?_)))))
 rintro _ _ w ⟨rfl,rfl⟩ H
 refine V U U (D_ U U) (Ad U (Ac (Aa ?_)))
 replace H:Hd _ _ _ [blk b1 [vS,.int .i64 C.J.parts,vM,vC,vR,.int .i64 C.J.chunk,.int .i64 C.J.window,.int .i64 C.J.fuel,vK,.int .i64 C.w,.int .i64 C.t,.int .i64 C.o] 28] [Z (Am Ag) vS C.J.us,Z Af vM C.J.map,Z Af vC C.J.comb,Z Af vR C.J.red,Z (Ai .i64) vK C.J.marks]:=H
 refine Ax U (fun h3=>?_) (fun h3=>?_)
 ·refine Ab (Ae (Ad U (Ac (Aa (An (Az (Aq U U ?_)))))))
  replace H:=H.nil
  exact Al ⟨congrArg (Value.int .i64) (if_pos (by first |exact .inl h3|exact .inr h3)).symm,rfl⟩ H
 refine Av (Aa (Ab (Ae (Ad U (V U U (Aj U IO U) (V U U (Ak U AB U (H.cellI 0 U U)) (V U U (Ky (z:=p.tmod C.w) U U U (by omega) U) (V U U (AT (z:=1+p.tmod C.w) U U U (by have h1:=ZJ p (show 1≤C.w by omega);exact AC (by omega) (by omega))) (Ad U (Ac (Aa (An (Aq U U ?_)))))))))))))
 replace H:=H.nil
 have e:C4 C p=1+p.tmod C.w:=if_neg (fun h=>h.elim (fun h=>h hmc) (fun h=>by omega))
 exact Al ⟨by rw [e]<;>rfl,rfl⟩ H
theorem Lf (vxs:Value) (xs:List BG) (hb:xs.length≤1000000):
    Cn Tryz.prog 158 [vxs] [] [Z Af vxs xs] (fun v Bs=>Bs=[Y Af v xs]):=by
 intro w0 F0 H
 obtain ⟨A1,c2,rfl,hc3,hm4,hp5⟩:=H.fR 0 rfl
 refine enter Tryz.func158 U U (Nat.le_of_ble_eq_true U) (Ab (Ae (Ad U (Ac (Aa ?_)))))
 replace H:Hd _ _ _ [] [Z Af (.slice A1 xs.length c2) xs]:=H
 refine Ab (Ab (Ae (Ad U (V U U (Kz U FK U U) (Ac (Aa ?_))))))
 refine DN (b:=(A1:Option Addr).isNone) U (fun h6=>?_) (fun h6=>?_)
 ·refine Ab (Ae (Ad U (Ac (Aa (An (Az (Aq U U ?_)))))))
  obtain rfl:=H.nilR 0 rfl h6
  replace H:=H.newnil Af
  exact Al U H
 refine Av (Aa (Ab (Ae (KF U U U G3 H (fun b7 w H=>(Ad U ?_))))))
 replace H:=H.newnilA Af (some ⟨b7,0,none⟩)
 refine Ct (xs:=[]) (ys:=xs) U U U G3 K7 U (by decide) U U H (by simp only [List.length_nil];omega) (fun F hA hR=>hR _ (List.mem_of_getElem? (i:=0) U)) (fun v8 w H=>?_)
 replace H:=H.h2 (A:=Y Af v8 ([]++xs)) (B:=blk b7 [] 223)
 refine Ad U (Ac (Aa (An (Aq U U ?_))))
 rw [List.nil_append] at H
 replace H:=H.k1
 exact Al U H
theorem HG (vxs:Value) (xs:List Int) (hb:xs.length≤1000000):
    Cn Tryz.prog 129 [vxs] [] [Z (Ai .i64) vxs xs] (fun v Bs=>Bs=[Y (Ai .i64) v xs]):=by
 intro w0 F0 H
 obtain ⟨A1,c2,rfl,hc3,hm4,hp5⟩:=H.fR 0 rfl
 refine enter Tryz.func129 U U (Nat.le_of_ble_eq_true U) (Ab (Ae (Ad U (Ac (Aa ?_)))))
 replace H:Hd _ _ _ [] [Z (Ai .i64) (.slice A1 xs.length c2) xs]:=H
 refine Ab (Ab (Ae (Ad U (V U U (Kz U Ea U U) (Ac (Aa ?_))))))
 refine DN (b:=(A1:Option Addr).isNone) U (fun h6=>?_) (fun h6=>?_)
 ·refine Ab (Ae (Ad U (Ac (Aa (An (Az (Aq U U ?_)))))))
  obtain rfl:=H.nilR 0 rfl h6
  replace H:=H.newnil (Ai .i64)
  exact Al U H
 refine Av (Aa (Ab (Ae (KF U U U Dx H (fun b7 w H=>(Ad U ?_))))))
 replace H:=H.newnilA (Ai .i64) (some ⟨b7,0,none⟩)
 refine Ct (xs:=[]) (ys:=xs) U U U Dx F7 U (by decide) U U H (by simp only [List.length_nil];omega) (fun F hA hR=>hR _ (List.mem_of_getElem? (i:=0) U)) (fun v8 w H=>?_)
 replace H:=H.h2 (A:=Y (Ai .i64) v8 ([]++xs)) (B:=blk b7 [] 3)
 refine Ad U (Ac (Aa (An (Aq U U ?_))))
 rw [List.nil_append] at H
 replace H:=H.k1
 exact Al U H
theorem SN (vxs:Value) (xs:List EF) (hb:xs.length≤1000000):
    Cn Tryz.prog 157 [vxs] [] [Z Dv vxs xs] (fun v Bs=>Bs=[Y Dv v xs]):=by
 intro w0 F0 H
 obtain ⟨A1,c2,rfl,hc3,hm4,hp5⟩:=H.fR 0 rfl
 refine enter Tryz.func157 U U (Nat.le_of_ble_eq_true U) (Ab (Ae (Ad U (Ac (Aa ?_)))))
 replace H:Hd _ _ _ [] [Z Dv (.slice A1 xs.length c2) xs]:=H
 refine Ab (Ab (Ae (Ad U (V U U (Kz U Ej U U) (Ac (Aa ?_))))))
 refine DN (b:=(A1:Option Addr).isNone) U (fun h6=>?_) (fun h6=>?_)
 ·refine Ab (Ae (Ad U (Ac (Aa (An (Az (Aq U U ?_)))))))
  obtain rfl:=H.nilR 0 rfl h6
  replace H:=H.newnil Dv
  exact Al U H
 refine Av (Aa (Ab (Ae (KF U U U FG H (fun b7 w H=>(Ad U ?_))))))
 replace H:=H.newnilA Dv (some ⟨b7,0,none⟩)
 refine Ct (xs:=[]) (ys:=xs) U U U FG K8 U (by decide) U U H (by simp only [List.length_nil];omega) (fun F hA hR=>hR _ (List.mem_of_getElem? (i:=0) U)) (fun v8 w H=>?_)
 replace H:=H.h2 (A:=Y Dv v8 ([]++xs)) (B:=blk b7 [] 35)
 refine Ad U (Ac (Aa (An (Aq U U ?_))))
 rw [List.nil_append] at H
 replace H:=H.k1
 exact Al U H
theorem Xf {us zs:List (Value×List Ap)} {i:Nat} {A:Option Addr} {c:Nat} {x:List Ap} (hz:zs.length=i) (h:us[i]?=some (.slice A x.length c,x)):(Bo zs++(Bo us).drop i)[i]?=some (⟨A,x.length,c⟩:EF):=by
 subst hz
 have hl:(Bo zs).length=zs.length:=by simp [Bo]
 rw [List.getElem?_append_right (by omega),hl,Nat.sub_self,List.getElem?_drop,Nat.add_zero]
 unfold Bo
 rw [List.getElem?_map,h]
 rfl
theorem Xg {us zs:List (Value×List Ap)} {i:Nat} {A:Option Addr} {n c:Nat} {x:List Ap} (hz:zs.length=i) (hi:i<us.length):(Bo zs++(Bo us).drop i).set i (⟨A,n,c⟩:EF)=Bo (zs++[(.slice A n c,x)])++(Bo us).drop (i+1):=by
 subst hz
 have hl:(Bo zs).length=zs.length:=by simp [Bo]
 have hu:(Bo us).length=us.length:=by simp [Bo]
 rw [List.set_append_right _ _ (by omega),hl,Nat.sub_self,List.drop_eq_getElem_cons (by omega),List.set_cons_zero]
 unfold Bo
 rw [List.map_append,List.append_assoc]
 rfl
theorem Xh {us zs:List (Value×List Ap)} {i:Nat} {v u:Value} {x:List Ap} (hz:zs.map (·.2)=(us.map (·.2)).take i) (h:us[i]?=some (v,x)):(zs++[(u,x)]).map (·.2)=(us.map (·.2)).take (i+1):=by
 rw [List.map_append,hz,Eo (x:=x) (by rw [List.getElem?_map,h];rfl)]
 rfl
theorem Mr (vS:Value) (vM:Value) (vC:Value) (vR:Value) (vK:Value) (C:Cf) (hC:C5 C):
    Cn Tryz.prog 94 [.agg #[vS,.int .i64 C.J.parts,vM,vC,vR,.int .i64 C.J.chunk,.int .i64 C.J.window,.int .i64 C.J.fuel,vK,.int .i64 C.w,.int .i64 C.t,.int .i64 C.o]] [] [Z (Am Ag) vS C.J.us,Z Af vM C.J.map,Z Af vC C.J.comb,Z Af vR C.J.red,Z (Ai .i64) vK C.J.marks] (fun v Bs=>∃ J2:AD,∃ vS2:Value,∃ vM2:Value,∃ vC2:Value,∃ vR2:Value,∃ vK2:Value,v=.agg #[vS2,.int .i64 J2.parts,vM2,vC2,vR2,.int .i64 J2.chunk,.int .i64 J2.window,.int .i64 J2.fuel,vK2,.int .i64 C.w,.int .i64 C.t,.int .i64 C.o]∧Bs=[Y (Am Ag) vS2 J2.us,Y Af vM2 J2.map,Y Af vC2 J2.comb,Y Af vR2 J2.red,Y (Ai .i64) vK2 J2.marks]∧(Bf J2 C.J)):=by
 intro w0 F0 H
 obtain ⟨A1,c2,rfl,hc3,hm4,hp5⟩:=H.fR 0 rfl
 obtain ⟨A6,c7,rfl,hc8,hm9,hp10⟩:=H.fR 1 rfl
 obtain ⟨A11,c12,rfl,hc13,hm14,hp15⟩:=H.fR 2 rfl
 obtain ⟨A16,c17,rfl,hc18,hm19,hp20⟩:=H.fR 3 rfl
 obtain ⟨A21,c22,rfl,hc23,hm24,hp25⟩:=H.fR 4 rfl
 have hsp:=hC.1.2.2.2.1
 have hus:=hC.1.1
 have hb1:=(JA hC.1.2.2.2.2.2.1.2).1
 have hb2:=(JA hC.1.2.2.2.2.2.2.1.2).1
 have hb3:=(JA hC.1.2.2.2.2.2.2.2.1).1
 have hb4:=hC.1.2.2.1
 have hul:(Bo C.J.us).length=C.J.us.length:=by simp [Bo]
 refine enter Tryz.func94 U U (Nat.le_of_ble_eq_true U) (Ab (Ae (CA U U U U H (fun b26 w H=>(Dg U U U RT H (fun b27 w H=>(Ac (Aa ?_))))))))
 replace H:Hd _ _ _ [blk b27 [.slice none 0 0,.int .i64 0,.slice none 0 0,.slice none 0 0,.slice none 0 0,.int .i64 0,.int .i64 0,.int .i64 0,.slice none 0 0,.int .i64 0,.int .i64 0,.int .i64 0] 28,blk b26 [.slice A1 C.J.us.length c2,.int .i64 C.J.parts,.slice A6 C.J.map.length c7,.slice A11 C.J.comb.length c12,.slice A16 C.J.red.length c17,.int .i64 C.J.chunk,.int .i64 C.J.window,.int .i64 C.J.fuel,.slice A21 C.J.marks.length c22,.int .i64 C.w,.int .i64 C.t,.int .i64 C.o] 28] [Z (Am Ag) (.slice A1 C.J.us.length c2) C.J.us,Z Af (.slice A6 C.J.map.length c7) C.J.map,Z Af (.slice A11 C.J.comb.length c12) C.J.comb,Z Af (.slice A16 C.J.red.length c17) C.J.red,Z (Ai .i64) (.slice A21 C.J.marks.length c22) C.J.marks]:=H
 refine Ab (Ae (V U U (Aj U C0 U) (V U U (Aj U DQ U) (V U U (Ak U DU U (H.cellI 1 U U)) (sc (SN (.slice A1 C.J.us.length c2) (Bo C.J.us) (by simp only [Bo,List.length_map];omega)) H (lX (fun F hA hR=>Uj (hR _ (List.mem_of_getElem? (i:=0) U))) l0) U U (At UX U U) ?_)))))
 rintro v28 _ w rfl H
 refine V U U (Aj U C0 U) (V U U (Aj U DQ U) ?_)
 obtain ⟨A29,c30,rfl,hc31,hm32,hp33⟩:=H.fA 0 rfl
 replace H:=H.p2
 refine BE U U U DU U U H U (Nat.le_of_ble_eq_true U) (fun u hu=>by simp [Value.cells] at hu;subst hu;rfl) (fun w H=>?_)
 replace H:Hd _ _ _ [blk b26 [.slice A29 ((Bo C.J.us).length) c30,.int .i64 C.J.parts,.slice A6 C.J.map.length c7,.slice A11 C.J.comb.length c12,.slice A16 C.J.red.length c17,.int .i64 C.J.chunk,.int .i64 C.J.window,.int .i64 C.J.fuel,.slice A21 C.J.marks.length c22,.int .i64 C.w,.int .i64 C.t,.int .i64 C.o] 28,Y Dv (.slice A29 ((Bo C.J.us).length) c30) (Bo C.J.us),blk b27 [.slice none 0 0,.int .i64 0,.slice none 0 0,.slice none 0 0,.slice none 0 0,.int .i64 0,.int .i64 0,.int .i64 0,.slice none 0 0,.int .i64 0,.int .i64 0,.int .i64 0] 28] [Z (Am Ag) (.slice A1 C.J.us.length c2) C.J.us,Z Af (.slice A6 C.J.map.length c7) C.J.map,Z Af (.slice A11 C.J.comb.length c12) C.J.comb,Z Af (.slice A16 C.J.red.length c17) C.J.red,Z (Ai .i64) (.slice A21 C.J.marks.length c22) C.J.marks]:=H
 refine Ac (Aa (Ab (Ab (Ae (V U U (Aj U C0 U) (V U U (Aj U DQ U) (V U U (Ak U DU U (H.cellI 0 U U)) (V U U (A8 U Ej U) (Ad U (Ac (Aa (AS ?_))))))))))))
 replace H:=H.p1.h1 (A:=Y Dv (.slice A29 ((Bo C.J.us).length) c30) (Bo ([]:List (Value×List Ap))++(Bo C.J.us).drop 0))|>.big0 (fun u:Value×List Ap=>Y Ag u.1 u.2)|>.h1 (A:=Ga Ag ([]:List (Value×List Ap)))
 refine BQ (σ:=Nat×List (Value×List Ap)) (fun (i,zs)=>[(1,.pointer (some ⟨b26,0,none⟩)),(2,.pointer (some ⟨b27,0,none⟩)),(13,.slice A29 ((Bo C.J.us).length) c30),(14,.int .i64 (((Bo C.J.us).length:Nat):Int)),(15,.int .i64 ((i:Nat):Int))]) (fun (i,zs) w=>(Hd w0 F0 w [Ga Ag zs,Y Dv (.slice A29 ((Bo C.J.us).length) c30) (Bo zs++(Bo C.J.us).drop i),blk b26 [.slice A29 ((Bo C.J.us).length) c30,.int .i64 C.J.parts,.slice A6 C.J.map.length c7,.slice A11 C.J.comb.length c12,.slice A16 C.J.red.length c17,.int .i64 C.J.chunk,.int .i64 C.J.window,.int .i64 C.J.fuel,.slice A21 C.J.marks.length c22,.int .i64 C.w,.int .i64 C.t,.int .i64 C.o] 28,blk b27 [.slice none 0 0,.int .i64 0,.slice none 0 0,.slice none 0 0,.slice none 0 0,.int .i64 0,.int .i64 0,.int .i64 0,.slice none 0 0,.int .i64 0,.int .i64 0,.int .i64 0] 28] [Z (Am Ag) (.slice A1 C.J.us.length c2) C.J.us,Z Af (.slice A6 C.J.map.length c7) C.J.map,Z Af (.slice A11 C.J.comb.length c12) C.J.comb,Z Af (.slice A16 C.J.red.length c17) C.J.red,Z (Ai .i64) (.slice A21 C.J.marks.length c22) C.J.marks])∧(zs.length=i∧zs.map (·.2)=(C.J.us.map (·.2)).take i)∧(i≤C.J.us.length)) (fun (i,zs)=>C.J.us.length - i) (0,[]) ⟨rfl,rfl,rfl,rfl,rfl,trivial⟩ ⟨H,⟨rfl,rfl⟩,Nat.zero_le _⟩ ?_
 rintro ⟨i,zs⟩ w ⟨H,hz,hi⟩
 refine Ab (Ae (V U U (Bd U U U) (Ac (Aa (Ab ?_)))))
 refine Ax U (fun h34=>?_) (fun h34=>?_)
 ·refine Av (Aa (Ab (AS (Ab ?_))))
  obtain ⟨⟨u37,x35⟩,hx36⟩:∃ z9,C.J.us[i]?=some z9:=⟨_,List.getElem?_eq_getElem (show i<C.J.us.length by omega)⟩
  obtain ⟨A38,c39,rfl,hc40,hm41⟩:=H.nestR 0 rfl hx36
  have hk42:=Xf (zs:=zs) hz.1 hx36
  have hxl:x35.length≤8:=(hsp _ (Ce hx36)).1
  refine Ae (Ad U ?_)
  have th43:=H.thA 1 rfl hk42
  refine V U U (AZ (p:=AP A29+i*1) U FG U U (by omega) (by omega) th43 U) (V U U (Ak U ET U (H.elA 1 U hk42 (q:=0) U U)) (Ah 2 U (Ac (Aa ?_))))
  replace H:=H.p3.p3.p2
  refine BY (.e 0 (.e 1 (.e 2 (.e 3 (.e 4 (.m 5 (.e 6 (.m 7 .z)))))))) (fun w=>∃ Ar,Hd w0 F0 w (Ga Ag zs::blk b26 [.slice A29 ((Bo C.J.us).length) c30,.int .i64 C.J.parts,.slice A6 C.J.map.length c7,.slice A11 C.J.comb.length c12,.slice A16 C.J.red.length c17,.int .i64 C.J.chunk,.int .i64 C.J.window,.int .i64 C.J.fuel,.slice A21 C.J.marks.length c22,.int .i64 C.w,.int .i64 C.t,.int .i64 C.o] 28::blk b27 [.slice none 0 0,.int .i64 0,.slice none 0 0,.slice none 0 0,.slice none 0 0,.int .i64 0,.int .i64 0,.int .i64 0,.slice none 0 0,.int .i64 0,.int .i64 0,.int .i64 0] 28::Ar) [Z (Am Ag) (.slice A1 C.J.us.length c2) C.J.us,Z Af (.slice A6 C.J.map.length c7) C.J.map,Z Af (.slice A11 C.J.comb.length c12) C.J.comb,Z Af (.slice A16 C.J.red.length c17) C.J.red,Z (Ai .i64) (.slice A21 C.J.marks.length c22) C.J.marks]) mo (by kernel_rfl) (fun w H=>⟨_,H⟩) H (fun w H=>?_)
  refine Ao U U U (fun w ⟨Ar,H⟩=>Aj U C0 U) (Ao U U U (fun w ⟨Ar,H⟩=>Aj U DQ U) (Ao U U U (fun w ⟨Ar,H⟩=>Ak U DU U (H.cellI 1 U U)) (Au U (Au U (AO U (sc (JF (.slice A38 x35.length c39) x35 (by first |omega|decide|assumption)) H (lX (fun F hA hR=>Ic (hR _ (List.mem_of_getElem? (i:=0) U)) hx36) l0) U U (At J3 U U) ?_))))))
  rintro v44 _ w rfl H
  replace H:=H.h1 (A:=Y Ag v44 x35)|>.p3|>.p3|>.p3
  refine AE ⟨_,H⟩ ?_
  have th45:=H.thA 4 rfl hk42
  refine Ao U U U (fun w ⟨Ar,H⟩=>AZ (p:=AP A29+i*1) U FG U U (by omega) (by omega) th45 U) (AO U ?_)
  obtain ⟨A46,c47,rfl,hc48,hm49,hp50⟩:=H.fA 3 rfl
  replace H:=H.p4
  refine Gy (i:=i) (a:=(⟨A46,x35.length,c47⟩:EF)) U U U ET U U U H (by simp only [List.length_append,List.length_drop,Bo,List.length_map];omega) U (fun w H=>?_)
  replace H:Hd _ _ _ [Y Dv (.slice A29 ((Bo C.J.us).length) c30) ((Bo zs++(Bo C.J.us).drop i).set i (⟨A46,x35.length,c47⟩:EF)),Ga Ag zs,blk b26 [.slice A29 ((Bo C.J.us).length) c30,.int .i64 C.J.parts,.slice A6 C.J.map.length c7,.slice A11 C.J.comb.length c12,.slice A16 C.J.red.length c17,.int .i64 C.J.chunk,.int .i64 C.J.window,.int .i64 C.J.fuel,.slice A21 C.J.marks.length c22,.int .i64 C.w,.int .i64 C.t,.int .i64 C.o] 28,blk b27 [.slice none 0 0,.int .i64 0,.slice none 0 0,.slice none 0 0,.slice none 0 0,.int .i64 0,.int .i64 0,.int .i64 0,.slice none 0 0,.int .i64 0,.int .i64 0,.int .i64 0] 28,Y Ag (.slice A46 x35.length c47) x35] [Z (Am Ag) (.slice A1 C.J.us.length c2) C.J.us,Z Af (.slice A6 C.J.map.length c7) C.J.map,Z Af (.slice A11 C.J.comb.length c12) C.J.comb,Z Af (.slice A16 C.J.red.length c17) C.J.red,Z (Ai .i64) (.slice A21 C.J.marks.length c22) C.J.marks]:=H
  replace H:=H.p3.p3.p3
  refine AE ⟨_,H⟩ (BP (AU (Aa (Ae (V U U (AT (z:=((i+1:Nat):Int)) U U U (by rw [AC (by omega) (by omega)];omega)) (Ad U (Ac ?_)))))))
  replace H:=H.p3.p1.p4.bigN (f:=fun u:Value×List Ap=>Y Ag u.1 u.2) (x:=(.slice A46 x35.length c47,x35))
  replace H:Hd w0 F0 w [Ga Ag (zs++[(.slice A46 x35.length c47,x35)]),Y Dv (.slice A29 ((Bo C.J.us).length) c30) (Bo (zs++[(.slice A46 x35.length c47,x35)])++(Bo C.J.us).drop (i+1)),blk b26 [.slice A29 ((Bo C.J.us).length) c30,.int .i64 C.J.parts,.slice A6 C.J.map.length c7,.slice A11 C.J.comb.length c12,.slice A16 C.J.red.length c17,.int .i64 C.J.chunk,.int .i64 C.J.window,.int .i64 C.J.fuel,.slice A21 C.J.marks.length c22,.int .i64 C.w,.int .i64 C.t,.int .i64 C.o] 28,blk b27 [.slice none 0 0,.int .i64 0,.slice none 0 0,.slice none 0 0,.slice none 0 0,.int .i64 0,.int .i64 0,.int .i64 0,.slice none 0 0,.int .i64 0,.int .i64 0,.int .i64 0] 28] [Z (Am Ag) (.slice A1 C.J.us.length c2) C.J.us,Z Af (.slice A6 C.J.map.length c7) C.J.map,Z Af (.slice A11 C.J.comb.length c12) C.J.comb,Z Af (.slice A16 C.J.red.length c17) C.J.red,Z (Ai .i64) (.slice A21 C.J.marks.length c22) C.J.marks]:=by rw [←Xg (x:=x35) hz.1 (by omega)];exact H
  exact Bi (s:=(i,zs)) (i+1,zs++[(.slice A46 x35.length c47,x35)]) ⟨rfl,rfl,rfl,rfl,rfl,trivial⟩ ⟨H,⟨by simp [hz.1],Xh hz.2 hx36⟩,by (try dsimp only);omega⟩ (by (try dsimp only);omega)
 refine BC (AM (AM (BD (Aa (Ab ?_)))))
 obtain rfl:i=C.J.us.length:=by omega
 replace H:=H.p1
 replace H:Hd w0 F0 w [Y Dv (.slice A29 ((Bo C.J.us).length) c30) (Bo zs),Ga Ag zs,blk b26 [.slice A29 ((Bo C.J.us).length) c30,.int .i64 C.J.parts,.slice A6 C.J.map.length c7,.slice A11 C.J.comb.length c12,.slice A16 C.J.red.length c17,.int .i64 C.J.chunk,.int .i64 C.J.window,.int .i64 C.J.fuel,.slice A21 C.J.marks.length c22,.int .i64 C.w,.int .i64 C.t,.int .i64 C.o] 28,blk b27 [.slice none 0 0,.int .i64 0,.slice none 0 0,.slice none 0 0,.slice none 0 0,.int .i64 0,.int .i64 0,.int .i64 0,.slice none 0 0,.int .i64 0,.int .i64 0,.int .i64 0] 28] [Z (Am Ag) (.slice A1 C.J.us.length c2) C.J.us,Z Af (.slice A6 C.J.map.length c7) C.J.map,Z Af (.slice A11 C.J.comb.length c12) C.J.comb,Z Af (.slice A16 C.J.red.length c17) C.J.red,Z (Ai .i64) (.slice A21 C.J.marks.length c22) C.J.marks]:=by rw [show Bo zs=Bo zs++(Bo C.J.us).drop C.J.us.length by simp [Bo]];exact H
 replace H:=H.hdI|>.h1 (A:=Y (Am Ag) (.slice A29 ((Bo C.J.us).length) c30) zs)
 have hsj:Bf ({ C.J with us:=zs }:AD) C.J:=⟨by rw [hz.2,List.take_of_length_le (by simp)],rfl⟩
 refine Sz (.e 0 (.e 1 (.e 2 (.e 4 (.e 5 (.e 6 (.e 8 (.e 9 (.e 10 (.m 3 (.e 12 (.e 13 (.m 7 (.m 11 (.w 14 (.e 15 (.e 16 (.m 17 (.e 18 (.e 19 (.m 20 .z))))))))))))))))))))) (fun w=>∃ Ar,Hd w0 F0 w (Y (Am Ag) (.slice A29 ((Bo C.J.us).length) c30) zs::blk b26 [.slice A29 ((Bo C.J.us).length) c30,.int .i64 C.J.parts,.slice A6 C.J.map.length c7,.slice A11 C.J.comb.length c12,.slice A16 C.J.red.length c17,.int .i64 C.J.chunk,.int .i64 C.J.window,.int .i64 C.J.fuel,.slice A21 C.J.marks.length c22,.int .i64 C.w,.int .i64 C.t,.int .i64 C.o] 28::blk b27 [.slice none 0 0,.int .i64 0,.slice none 0 0,.slice none 0 0,.slice none 0 0,.int .i64 0,.int .i64 0,.int .i64 0,.slice none 0 0,.int .i64 0,.int .i64 0,.int .i64 0] 28::Ar) [Z (Am Ag) (.slice A1 C.J.us.length c2) C.J.us,Z Af (.slice A6 C.J.map.length c7) C.J.map,Z Af (.slice A11 C.J.comb.length c12) C.J.comb,Z Af (.slice A16 C.J.red.length c17) C.J.red,Z (Ai .i64) (.slice A21 C.J.marks.length c22) C.J.marks]) (fun w=>∃ Ar,Hd w0 F0 w Ar [Z (Am Ag) (.slice A1 C.J.us.length c2) C.J.us,Z Af (.slice A6 C.J.map.length c7) C.J.map,Z Af (.slice A11 C.J.comb.length c12) C.J.comb,Z Af (.slice A16 C.J.red.length c17) C.J.red,Z (Ai .i64) (.slice A21 C.J.marks.length c22) C.J.marks]) mo (by kernel_rfl) (fun w H=>⟨_,H⟩) H (fun w H=>?_)
 refine Fz U U U (fun w ⟨Ar,H⟩=>Aj U C0 U) (Fz U U U (fun w ⟨Ar,H⟩=>Aj U HR U) (Fz U U U (fun w ⟨Ar,H⟩=>Ak U Ep U (H.cellI 1 U U)) (Fz U U U (fun w ⟨Ar,H⟩=>Aj U C0 U) (Fz U U U (fun w ⟨Ar,H⟩=>Aj U HS U) (Fz U U U (fun w ⟨Ar,H⟩=>Ak U Ep U (H.cellI 1 U U)) (Fz U U U (fun w ⟨Ar,H⟩=>Aj U C0 U) (Fz U U U (fun w ⟨Ar,H⟩=>Aj U HT U) (Fz U U U (fun w ⟨Ar,H⟩=>Ak U Ep U (H.cellI 1 U U)) (LL U (sc (Lf (.slice A6 C.J.map.length c7) C.J.map (by first |omega|decide|assumption)) H (lR 1 U l0) U U (At LX U U) ?_))))))))))
 rintro v51 _ w rfl H
 replace H:=H.h1 (A:=Y Af v51 C.J.map)|>.p3|>.p3|>.p3
 refine LK ⟨_,H⟩ (Fz U U U (fun w ⟨Ar,H⟩=>Aj U C0 U) (Fz U U U (fun w ⟨Ar,H⟩=>Aj U HR U) (LL U (sc (Lf (.slice A11 C.J.comb.length c12) C.J.comb (by first |omega|decide|assumption)) H (lR 2 U l0) U U (At LX U U) ?_))))
 rintro v52 _ w rfl H
 replace H:=H.h1 (A:=Y Af v52 C.J.comb)|>.p3|>.p3|>.p3
 refine LK ⟨_,H⟩ (LL U (sc (Lf (.slice A16 C.J.red.length c17) C.J.red (by first |omega|decide|assumption)) H (lR 3 U l0) U U (At LX U U) ?_))
 rintro v53 _ w rfl H
 replace H:=H.h1 (A:=Y Af v53 C.J.red)|>.p3|>.p3|>.p3
 refine LK ⟨_,H⟩ (T1 U ?_)
 obtain ⟨A54,c55,rfl,hc56,hm57,hp58⟩:=H.fA 5 rfl
 replace H:=H.p1
 refine BE U U U Ep U U H U (Nat.le_of_ble_eq_true U) (fun u hu=>by simp [Value.cells] at hu;subst hu;rfl) (fun w H=>?_)
 replace H:Hd _ _ _ [blk b26 [.slice A29 ((Bo C.J.us).length) c30,.int .i64 C.J.parts,.slice A54 C.J.map.length c55,.slice A11 C.J.comb.length c12,.slice A16 C.J.red.length c17,.int .i64 C.J.chunk,.int .i64 C.J.window,.int .i64 C.J.fuel,.slice A21 C.J.marks.length c22,.int .i64 C.w,.int .i64 C.t,.int .i64 C.o] 28,Y (Am Ag) (.slice A29 ((Bo C.J.us).length) c30) zs,blk b27 [.slice none 0 0,.int .i64 0,.slice none 0 0,.slice none 0 0,.slice none 0 0,.int .i64 0,.int .i64 0,.int .i64 0,.slice none 0 0,.int .i64 0,.int .i64 0,.int .i64 0] 28,Y Af v53 C.J.red,Y Af v52 C.J.comb,Y Af (.slice A54 C.J.map.length c55) C.J.map] [Z (Am Ag) (.slice A1 C.J.us.length c2) C.J.us,Z Af (.slice A6 C.J.map.length c7) C.J.map,Z Af (.slice A11 C.J.comb.length c12) C.J.comb,Z Af (.slice A16 C.J.red.length c17) C.J.red,Z (Ai .i64) (.slice A21 C.J.marks.length c22) C.J.marks]:=H
 refine AE ⟨_,H⟩ (Ao U U U (fun w ⟨Ar,H⟩=>Aj U C0 U) (Ao U U U (fun w ⟨Ar,H⟩=>Aj U HS U) (AO U ?_)))
 obtain ⟨A59,c60,rfl,hc61,hm62,hp63⟩:=H.fA 4 rfl
 refine BE U U U Ep U U H U (Nat.le_of_ble_eq_true U) (fun u hu=>by simp [Value.cells] at hu;subst hu;rfl) (fun w H=>?_)
 replace H:Hd _ _ _ [blk b26 [.slice A29 ((Bo C.J.us).length) c30,.int .i64 C.J.parts,.slice A54 C.J.map.length c55,.slice A59 C.J.comb.length c60,.slice A16 C.J.red.length c17,.int .i64 C.J.chunk,.int .i64 C.J.window,.int .i64 C.J.fuel,.slice A21 C.J.marks.length c22,.int .i64 C.w,.int .i64 C.t,.int .i64 C.o] 28,Y (Am Ag) (.slice A29 ((Bo C.J.us).length) c30) zs,blk b27 [.slice none 0 0,.int .i64 0,.slice none 0 0,.slice none 0 0,.slice none 0 0,.int .i64 0,.int .i64 0,.int .i64 0,.slice none 0 0,.int .i64 0,.int .i64 0,.int .i64 0] 28,Y Af v53 C.J.red,Y Af (.slice A59 C.J.comb.length c60) C.J.comb,Y Af (.slice A54 C.J.map.length c55) C.J.map] [Z (Am Ag) (.slice A1 C.J.us.length c2) C.J.us,Z Af (.slice A6 C.J.map.length c7) C.J.map,Z Af (.slice A11 C.J.comb.length c12) C.J.comb,Z Af (.slice A16 C.J.red.length c17) C.J.red,Z (Ai .i64) (.slice A21 C.J.marks.length c22) C.J.marks]:=H
 refine AE ⟨_,H⟩ (Ao U U U (fun w ⟨Ar,H⟩=>Aj U C0 U) (Ao U U U (fun w ⟨Ar,H⟩=>Aj U HT U) (AO U ?_)))
 obtain ⟨A64,c65,rfl,hc66,hm67,hp68⟩:=H.fA 3 rfl
 refine BE U U U Ep U U H U (Nat.le_of_ble_eq_true U) (fun u hu=>by simp [Value.cells] at hu;subst hu;rfl) (fun w H=>?_)
 replace H:Hd _ _ _ [blk b26 [.slice A29 ((Bo C.J.us).length) c30,.int .i64 C.J.parts,.slice A54 C.J.map.length c55,.slice A59 C.J.comb.length c60,.slice A64 C.J.red.length c65,.int .i64 C.J.chunk,.int .i64 C.J.window,.int .i64 C.J.fuel,.slice A21 C.J.marks.length c22,.int .i64 C.w,.int .i64 C.t,.int .i64 C.o] 28,Y (Am Ag) (.slice A29 ((Bo C.J.us).length) c30) zs,blk b27 [.slice none 0 0,.int .i64 0,.slice none 0 0,.slice none 0 0,.slice none 0 0,.int .i64 0,.int .i64 0,.int .i64 0,.slice none 0 0,.int .i64 0,.int .i64 0,.int .i64 0] 28,Y Af (.slice A64 C.J.red.length c65) C.J.red,Y Af (.slice A59 C.J.comb.length c60) C.J.comb,Y Af (.slice A54 C.J.map.length c55) C.J.map] [Z (Am Ag) (.slice A1 C.J.us.length c2) C.J.us,Z Af (.slice A6 C.J.map.length c7) C.J.map,Z Af (.slice A11 C.J.comb.length c12) C.J.comb,Z Af (.slice A16 C.J.red.length c17) C.J.red,Z (Ai .i64) (.slice A21 C.J.marks.length c22) C.J.marks]:=H
 refine AE ⟨_,H⟩ (BP (Aa (Ab (Ae (V U U (Aj U C0 U) (V U U (Aj U HU U) (V U U (Ak U E5 U (H.cellI 0 U U)) (sc (HG (.slice A21 C.J.marks.length c22) C.J.marks (by first |omega|decide|assumption)) H (lR 4 U l0) U U (At H0 U U) ?_))))))))
 rintro v69 _ w rfl H
 refine V U U (Aj U C0 U) (V U U (Aj U HU U) ?_)
 obtain ⟨A70,c71,rfl,hc72,hm73,hp74⟩:=H.fA 0 rfl
 replace H:=H.p1
 refine BE U U U E5 U U H U (Nat.le_of_ble_eq_true U) (fun u hu=>by simp [Value.cells] at hu;subst hu;rfl) (fun w H=>?_)
 replace H:Hd _ _ _ [blk b26 [.slice A29 ((Bo C.J.us).length) c30,.int .i64 C.J.parts,.slice A54 C.J.map.length c55,.slice A59 C.J.comb.length c60,.slice A64 C.J.red.length c65,.int .i64 C.J.chunk,.int .i64 C.J.window,.int .i64 C.J.fuel,.slice A70 C.J.marks.length c71,.int .i64 C.w,.int .i64 C.t,.int .i64 C.o] 28,Y (Ai .i64) (.slice A70 C.J.marks.length c71) C.J.marks,Y (Am Ag) (.slice A29 ((Bo C.J.us).length) c30) zs,blk b27 [.slice none 0 0,.int .i64 0,.slice none 0 0,.slice none 0 0,.slice none 0 0,.int .i64 0,.int .i64 0,.int .i64 0,.slice none 0 0,.int .i64 0,.int .i64 0,.int .i64 0] 28,Y Af (.slice A64 C.J.red.length c65) C.J.red,Y Af (.slice A59 C.J.comb.length c60) C.J.comb,Y Af (.slice A54 C.J.map.length c55) C.J.map] [Z (Am Ag) (.slice A1 C.J.us.length c2) C.J.us,Z Af (.slice A6 C.J.map.length c7) C.J.map,Z Af (.slice A11 C.J.comb.length c12) C.J.comb,Z Af (.slice A16 C.J.red.length c17) C.J.red,Z (Ai .i64) (.slice A21 C.J.marks.length c22) C.J.marks]:=H
 refine Ac (Aa (Ab (Ae (V U U (Bq (cs:=[.slice A29 ((Bo C.J.us).length) c30,.int .i64 C.J.parts,.slice A54 C.J.map.length c55,.slice A59 C.J.comb.length c60,.slice A64 C.J.red.length c65,.int .i64 C.J.chunk,.int .i64 C.J.window,.int .i64 C.J.fuel,.slice A70 C.J.marks.length c71,.int .i64 C.w,.int .i64 C.t,.int .i64 C.o]) U DE U U (H.cellsI 0 U U)) ?_))))
 replace H:=H.p3
 refine BE U U U DE U U H U (Nat.le_of_ble_eq_true U) (fun u hu=>by simp [Value.cells] at hu;rcases hu with rfl|rfl|rfl|rfl|rfl|rfl|rfl|rfl|rfl|rfl|rfl|rfl<;>rfl) (fun w H=>?_)
 replace H:=H.h1 (A:=blk b27 [.slice A29 ((Bo C.J.us).length) c30,.int .i64 C.J.parts,.slice A54 C.J.map.length c55,.slice A59 C.J.comb.length c60,.slice A64 C.J.red.length c65,.int .i64 C.J.chunk,.int .i64 C.J.window,.int .i64 C.J.fuel,.slice A70 C.J.marks.length c71,.int .i64 C.w,.int .i64 C.t,.int .i64 C.o] 28)
 refine Ac (Aa (An (FD (cs:=[.slice A29 ((Bo C.J.us).length) c30,.int .i64 C.J.parts,.slice A54 C.J.map.length c55,.slice A59 C.J.comb.length c60,.slice A64 C.J.red.length c65,.int .i64 C.J.chunk,.int .i64 C.J.window,.int .i64 C.J.fuel,.slice A70 C.J.marks.length c71,.int .i64 C.w,.int .i64 C.t,.int .i64 C.o]) U U DE U (H.cellsI 0 U U) ?_)))
 replace H:=H.p2.p4.p5.p6.p6.k5
 exact Al ⟨({ C.J with us:=zs }:AD),(.slice A29 ((Bo C.J.us).length) c30),(.slice A54 C.J.map.length c55),(.slice A59 C.J.comb.length c60),(.slice A64 C.J.red.length c65),(.slice A70 C.J.marks.length c71),rfl,rfl,hsj⟩ H
abbrev GL:=(Int×Int)×Value×List (Value×List Ap)
def Jm (e:GL):(Int×Int)×List (List Ap):=(e.1,e.2.2.map (·.2))
def Hu (e:GL):(Int×Int)×Value:=(e.1,e.2.1)
def G6 (e:GL):SP:=Y (Am Ag) e.2.1 e.2.2
def KN (mb:Nat) (st:DV):SP:=ex fun kvs:List GL=>B5 [B1 (kvs.map Jm=st),Bx Gc mb (kvs.map Hu),Bt G6 kvs]
def CL (t sb:Nat) (st:DV):SP:=ex fun mb:Nat=>B5 [blk sb [.map (some mb)] t,KN mb st]
section
variable {kvs:List GL} {k:Int×Int} {x:Value×List (Value×List Ap)}
end
section
variable {w0 w:World} {F0:AJ} {As Rs:List SP} {t sb mb:Nat} {st:DV} {kvs:List GL} {k:Int×Int} {v:Value} {us:List (Value×List Ap)}
theorem Hd.stgC (he:kvs.map Jm=st) (H:Hd w0 F0 w (blk sb [.map (some mb)] t::Bx Gc mb (kvs.map Hu)::Bt G6 kvs::As) Rs):Hd w0 F0 w (CL t sb st::As) Rs:=by
 have h3:Hd w0 F0 w (B1 (kvs.map Jm=st)::Bx Gc mb (kvs.map Hu)::Bt G6 kvs::blk sb [.map (some mb)] t::As) Rs:=
  (H.perm (((List.Perm.swap _ _ _).trans ((List.Perm.swap _ _ _).cons _)):(blk sb [.map (some mb)] t::Bx Gc mb (kvs.map Hu)::Bt G6 kvs::As).Perm (Bx Gc mb (kvs.map Hu)::Bt G6 kvs::blk sb [.map (some mb)] t::As))).puI he
 have h4:Hd w0 F0 w (KN mb st::blk sb [.map (some mb)] t::As) Rs:=Hd.exI (A:=fun kvs:List GL=>B5 [B1 (kvs.map Jm=st),Bx Gc mb (kvs.map Hu),Bt G6 kvs]) kvs (Hd.stI (Bs:=[B1 (kvs.map Jm=st),Bx Gc mb (kvs.map Hu),Bt G6 kvs]) h3)
 exact Hd.exI (A:=fun mb:Nat=>B5 [blk sb [.map (some mb)] t,KN mb st]) mb (Hd.stI (Bs:=[blk sb [.map (some mb)] t,KN mb st]) (h4.perm (List.Perm.swap _ _ _)))
theorem Hd.st0 (H:Hd w0 F0 w (blk sb [.map (some mb)] t::Bx Gc mb []::As) Rs):Hd w0 F0 w (CL t sb []::As) Rs:=
 Hd.stgC (kvs:=[]) rfl (((H.perm (List.Perm.swap _ _ _)).big0 G6).perm (((List.Perm.swap _ _ _).trans ((List.Perm.swap _ _ _).cons _)).trans (List.Perm.swap _ _ _)))
end
theorem Zo  :
    Cn Tryz.prog 128 [] [] [] (fun v Bs=>∃ b:Nat,v=.pointer (some ⟨b,0,none⟩)∧Bs=[CL 253 b ([])]):=by
 intro w0 F0 H
 refine enter Tryz.func128 U U (Nat.le_of_ble_eq_true U) (Ab (Ae (Ad U (Ac (Aa (Ab (Ae (Rb Gc U U U H (fun b1 w H=>(V U U (Co (parts:=[(0,.tmp 1)]) (vs:=[.map (some b1)]) (cs:=[.map (some b1)]) U Se U U) (CA U U U U H (fun b2 w H=>(Ad U (Ac (Aa ?_)))))))))))))))
 replace H:Hd _ _ _ [blk b2 [.map (some b1)] 253,Bx Gc b1 []] []:=H
 refine An (Aq U U ?_)
 replace H:=H.st0|>.h1 (A:=CL 253 b2 ([]))
 exact Al ⟨_,rfl,rfl⟩ H
theorem R7 (r:Nat) (A:Option Addr) (m:Nat) (c:Nat) (vM2:Value) (vC2:Value) (vR2:Value) (vK2:Value) (J2:AD) (cw:Int) (ct:Int) (co:Int) (part:Int) (ep:Int) (g:Nat→Di) (hv:Nat→Value) (sb:Nat) (vs:Value) (n:Int) (hn:0≤n∧n<(m:Int)) (hm:m≤6):
    Cn Tryz.prog 118 [.pointer (some ⟨r,0,none⟩),.int .i64 n] [] [blk r (Bw (.slice A m c) vM2 vC2 vR2 vK2 J2 cw ct co part ep g hv sb vs) 185] (fun v Bs=>v=.pointer (some ⟨r,14+(n).toNat*5,none⟩)∧Bs=[]):=by
 intro w0 F0 H
 refine enter Tryz.func118 U U (Nat.le_of_ble_eq_true U) (Ab (Ae (Ad U (Ac (Aa (Ab (Ab (Ae (Ad U (V U U (Dn U Jx U U) (Ah 2 U (V U U (Bd U U U) (Ah 2 U ?_)))))))))))))
 refine AK (d:=11) U (fun h1=>?_) (fun h1=>?_)
 ·exfalso;omega
 refine Ah 2 U (V U U (AH U U) (V U U (Aj U Hk U) (V U U (Aj U C0 U) (V U U (Aj U DQ U) (V U U (Ak U DU U (H.cellRI 0 U U)) (V U U (A8 U Ej U) (V U U (CR U U U) (Ad U (Ac (Aa ?_))))))))))
 refine Ax U (fun h2=>?_) (fun h2=>?_)
 ·exfalso;omega
 refine Av (Aa (Ab (Ae (Ah 2 U (V U U (AH U U) (V U U (Aj U IJ U) (V U U (FE (p:=14+(n).toNat*5) U Jv IS U U (by omega) (by omega) (by omega)) (Ad U (Ac (Aa (An (Aq U U ?_))))))))))))
 replace H:Hd _ _ _ [] [blk r (Bw (.slice A m c) vM2 vC2 vR2 vK2 J2 cw ct co part ep g hv sb vs) 185]:=H
 exact Al ⟨rfl,rfl⟩ H
theorem R6 (r:Nat) (A:Option Addr) (m:Nat) (c:Nat) (vM2:Value) (vC2:Value) (vR2:Value) (vK2:Value) (J2:AD) (cw:Int) (ct:Int) (co:Int) (part:Int) (ep:Int) (g:Nat→Di) (hv:Nat→Value) (sb:Nat) (vs:Value) (n:Int) (hn:¬ (0≤n∧n<(m:Int))):
    Cn Tryz.prog 118 [.pointer (some ⟨r,0,none⟩),.int .i64 n] [] [blk r (Bw (.slice A m c) vM2 vC2 vR2 vK2 J2 cw ct co part ep g hv sb vs) 185] (fun v Bs=>v=.pointer none∧Bs=[]):=by
 intro w0 F0 H
 refine enter Tryz.func118 U U (Nat.le_of_ble_eq_true U) (Ab (Ae (Ad U (Ac (Aa (Ab (Ab (Ae (Ad U (V U U (Dn U Jx U U) (Ah 2 U (V U U (Bd U U U) (Ah 2 U ?_)))))))))))))
 refine AK (d:=11) U (fun h1=>?_) (fun h1=>?_)
 ·refine Ah 10 U (Ac (Aa (Cw U (Ab (Ae (Ad U (Ac (Aa (An (Az (Aq U U ?_)))))))))))
  replace H:Hd _ _ _ [] [blk r (Bw (.slice A m c) vM2 vC2 vR2 vK2 J2 cw ct co part ep g hv sb vs) 185]:=H
  exact Al ⟨rfl,rfl⟩ H
 refine Ah 2 U (V U U (AH U U) (V U U (Aj U Hk U) (V U U (Aj U C0 U) (V U U (Aj U DQ U) (V U U (Ak U DU U (H.cellRI 0 U U)) (V U U (A8 U Ej U) (V U U (CR U U U) (Ad U (Ac (Aa ?_))))))))))
 refine Ax U (fun h2=>?_) (fun h2=>?_)
 ·refine Ab (Ae (Ad U (Ac (Aa (An (Az (Aq U U ?_)))))))
  replace H:Hd _ _ _ [] [blk r (Bw (.slice A m c) vM2 vC2 vR2 vK2 J2 cw ct co part ep g hv sb vs) 185]:=H
  exact Al ⟨rfl,rfl⟩ H
 exact Av (Aa (Ab (Ae (Ah 2 U (V U U (AH U U) (V U U (Aj U IJ U) (V U U (FE (p:=14+(n).toNat*5) U Jv IS U U (by omega) (by omega) (by omega)) (Ad U (Ac (Aa (An (Aq U U (absurd (by omega) hn)))))))))))))
theorem ZQ (vxs:Value) (xs:List Ap) (vys:Value) (ys:List Ap) (hb:xs.length+ys.length≤1000000):
    Cn Tryz.prog 185 [vxs,vys] [] [Z Ag vxs xs,Z Ag vys ys] (fun v Bs=>Bs=[Y Ag v (srt (xs++ys))]):=by
 intro w0 F0 H
 obtain ⟨A1,c2,rfl,hc3,hm4,hp5⟩:=H.fR 0 rfl
 obtain ⟨A6,c7,rfl,hc8,hm9,hp10⟩:=H.fR 1 rfl
 refine enter Tryz.func185 U U (Nat.le_of_ble_eq_true U) (Ab (Ae (Ad U (Ac (Aa ?_)))))
 replace H:Hd _ _ _ [] [Z Ag (.slice A1 xs.length c2) xs,Z Ag (.slice A6 ys.length c7) ys]:=H
 refine Ab (Ab (Ae (Ad U (sc (Ri (.slice A1 xs.length c2) xs (by first |omega|decide|(simp only [List.length_append,List.length_cons,List.length_nil,Gg];omega))) H (lR 0 U l0) U U (At Pr U U) ?_))))
 rintro _ _ w ⟨rfl,rfl⟩ H
 refine V U U (D_ U U) (Ad U ?_)
 refine AK (d:=9) U (fun h11=>?_) (fun h11=>?_)
 ·refine Ah 4 U (Ac (Aa (Cw U (Ab (Ae (Ad U ?_))))))
  replace H:=H.newnil Ag
  refine Ct (xs:=[]) (ys:=xs) U U U BB Dd U (by decide) U U H (by first |omega|(simp only [List.length_append,List.length_cons,List.length_nil];omega)) (fun F hA hR=>hR _ (List.mem_of_getElem? (i:=0) U)) (fun v12 w H=>(Ad U (Ct (xs:=[]++xs) (ys:=ys) U U U BB Dd U (by decide) U U H (by first |omega|(simp only [List.length_append,List.length_cons,List.length_nil];omega)) (fun F hA hR=>hR _ (List.mem_of_getElem? (i:=1) U)) (fun v13 w H=>?_))))
  replace H:Hd _ _ _ [Y Ag v13 (([]++xs)++ys)] [Z Ag (.slice A1 xs.length c2) xs,Z Ag (.slice A6 ys.length c7) ys]:=H
  refine sc (Mv v13 (([]++xs)++ys) (by first |omega|decide|(simp only [List.length_append,List.length_cons,List.length_nil,Gg];omega))) H (lA 0 U BJ l0) U U (At LZ U U) ?_
  rintro v14 _ w rfl H
  replace H:=H.h1 (A:=Y Ag v14 (srt (([]++xs)++ys)))
  refine Ad U (Ac (Aa (An (Az (Aq U U ?_)))))
  replace H:=H.k1.h1 (A:=Y Ag v14 (srt (xs++ys)))
  exact Al U H
 refine Ad U (sc (Ri (.slice A6 ys.length c7) ys (by first |omega|decide|(simp only [List.length_append,List.length_cons,List.length_nil,Gg];omega))) H (lR 1 U l0) U U (At Pr U U) ?_)
 rintro _ _ w ⟨rfl,rfl⟩ H
 refine V U U (D_ U U) (Ad U (Ac (Aa ?_)))
 refine Ax U (fun h15=>?_) (fun h15=>?_)
 ·refine Ab (Ae (Ad U ?_))
  replace H:=H.newnil Ag
  refine Ct (xs:=[]) (ys:=xs) U U U BB Dd U (by decide) U U H (by first |omega|(simp only [List.length_append,List.length_cons,List.length_nil];omega)) (fun F hA hR=>hR _ (List.mem_of_getElem? (i:=0) U)) (fun v16 w H=>(Ad U (Ct (xs:=[]++xs) (ys:=ys) U U U BB Dd U (by decide) U U H (by first |omega|(simp only [List.length_append,List.length_cons,List.length_nil];omega)) (fun F hA hR=>hR _ (List.mem_of_getElem? (i:=1) U)) (fun v17 w H=>?_))))
  replace H:Hd _ _ _ [Y Ag v17 (([]++xs)++ys)] [Z Ag (.slice A1 xs.length c2) xs,Z Ag (.slice A6 ys.length c7) ys]:=H
  refine sc (Mv v17 (([]++xs)++ys) (by first |omega|decide|(simp only [List.length_append,List.length_cons,List.length_nil,Gg];omega))) H (lA 0 U BJ l0) U U (At LZ U U) ?_
  rintro v18 _ w rfl H
  replace H:=H.h1 (A:=Y Ag v18 (srt (([]++xs)++ys)))
  refine Ad U (Ac (Aa (An (Az (Aq U U ?_)))))
  replace H:=H.k1.h1 (A:=Y Ag v18 (srt (xs++ys)))
  exact Al U H
 refine Av (Aa (Ab ?_))
 have hoxs:CZ xs:=Classical.not_not.1 h11
 have hoys:CZ ys:=Classical.not_not.1 h15
 refine Ae (Ad U (Ac (Aa (Ab (AS ?_)))))
 replace H:=H.newnil Ag|>.dupR 1 rfl|>.dupR 1 rfl
 refine BQ (σ:=Value×Value×List Ap×List Ap×Value×List Ap) (fun (u,v,al,bl,q,zs)=>[(0,u),(1,v),(4,.slice none 0 0),(5,q)]) (fun (u,v,al,bl,q,zs) w=>(Hd w0 F0 w [Y Ag q zs] [Z Ag u al,Z Ag v bl,Z Ag (.slice A1 xs.length c2) xs,Z Ag (.slice A6 ys.length c7) ys])∧(CZ al)∧(CZ bl)∧(zs.length+(al.length+bl.length)=xs.length+ys.length)∧(zs++srt (al++bl)=srt (xs++ys))) (fun (u,v,al,bl,q,zs)=>al.length+bl.length) (.slice A1 xs.length c2,.slice A6 ys.length c7,xs,ys,.slice none 0 0,[]) ⟨rfl,rfl,rfl,rfl,trivial⟩ ⟨H,hoxs,hoys,by (try dsimp only);simp only [List.length_nil];omega,rfl⟩ ?_
 rintro ⟨u,v,al,bl,q,zs⟩ w ⟨H,ha,hb2,hl,hz⟩
 refine Ab (Ab (Ae (Ad U ?_)))
 obtain ⟨A19,c20,rfl,hc21,hm22,hp23⟩:=H.fR 0 rfl
 refine V U U (A8 U Db U) (V U U (Cp U U U) (Ad U ?_))
 refine AK (d:=22) U (fun h24=>?_) (fun h24=>?_)
 ·refine Ad U ?_
  obtain ⟨A25,c26,rfl,hc27,hm28,hp29⟩:=H.fR 1 rfl
  refine V U U (A8 U Db U) (V U U (Cp U U U) (Ad U (Ac (Aa ?_))))
  replace H:Hd _ _ _ [Y Ag q zs] [Z Ag (.slice A19 al.length c20) al,Z Ag (.slice A25 bl.length c26) bl,Z Ag (.slice A1 xs.length c2) xs,Z Ag (.slice A6 ys.length c7) ys]:=H
  refine Ax U (fun h30=>?_) (fun h30=>?_)
  ·refine Av (Aa (AS (Ab (Ab (Gp mo (by kernel_rfl) H (Ei U ?_))))))
   obtain ⟨x31,hx32⟩:∃ z9,bl[0]?=some z9:=⟨_,List.getElem?_eq_getElem (show 0<bl.length by omega)⟩
   have th33:=H.thR 1 rfl hx32
   refine By U U (fun w H=>AZ (p:=AP A25+0*2) U BB U U (by omega) (by omega) th33 (by omega)) (By U U (fun w H=>Aj U Fg U) (By U U (fun w H=>Ak U BV U (H.elR 1 U hx32 (q:=0) U U)) (Ei U ?_)))
   obtain ⟨x34,hx35⟩:∃ z9,al[0]?=some z9:=⟨_,List.getElem?_eq_getElem (show 0<al.length by omega)⟩
   have th36:=H.thR 0 rfl hx35
   refine By U U (fun w H=>AZ (p:=AP A19+0*2) U BB U U (by omega) (by omega) th36 (by omega)) (By U U (fun w H=>Aj U Fg U) (By U U (fun w H=>Ak U BV U (H.elR 0 U hx35 (q:=0) U U)) (By U U (fun w H=>QI U U U) (GF (fun w H=>(Aa ?_))))))
   refine Ax U (fun h37=>?_) (fun h37=>?_)
   ·refine Ab (Ae (Ah 2 U ?_))
    have th38:=H.thR 1 rfl hx32
    refine V U U (AZ (p:=AP A25+0*2) U BB U U (by omega) (by omega) th38 (by omega)) (V U U (Bq (cs:=[.string x31.key,.string x31.val]) U Cj U U (H.elsR 1 U hx32 U)) (BX (parts:=[(0,.tmp 39)]) (vs:=[.agg #[.string x31.key,.string x31.val]]) (cs:=[.string x31.key,.string x31.val]) U U U BB Dd U (by decide) (by decide) U U H (fun b39 w H=>?_)))
    replace H:=H.p1
    refine Ct (xs:=zs) (ys:=[x31]) U U U BB Dd U (by decide) U U H (by first |omega|(simp only [List.length_append,List.length_cons,List.length_nil];omega)) (fun F hA hR=>Cm (hA _ (List.mem_of_getElem? (i:=0) U)) U (by decide) (AW.flat_eq.2 U)) (fun v40 w H=>(Ad U (Ac (Aa ?_))))
    replace H:Hd _ _ _ [Y Ag v40 (zs++[x31]),blk b39 [.string x31.key,.string x31.val] 106] [Z Ag (.slice A19 al.length c20) al,Z Ag (.slice A25 bl.length c26) bl,Z Ag (.slice A1 xs.length c2) xs,Z Ag (.slice A6 ys.length c7) ys]:=H
    refine Ab (Ae (Ad U (V U U (I7 U BB U U (by omega) (by omega) U) (Ad U (Ac (Aa (BC (AM (BD ?_)))))))))
    replace H:=H.k1.sufR 1 rfl (n:=1) (by omega)
    replace H:Hd w0 F0 w [Y Ag v40 (zs++[x31])] [Z Ag (.slice A19 al.length c20) al,Z Ag (.slice (DO A25 c26 1 2) (bl.length - 1) (c26 - 1)) (bl.drop 1),Z Ag (.slice A1 xs.length c2) xs,Z Ag (.slice A6 ys.length c7) ys]:=H.pickR [1,0,3,4]
    have hz2:(zs++[x31])++srt (al++bl.drop 1)=srt (xs++ys):=by rw [←hz,Wo hx35 hx32 ha hb2 h37,List.append_assoc];rfl
    exact Bi (s:=(undef,undef,al,bl,undef,zs)) (.slice A19 al.length c20,.slice (DO A25 c26 1 2) (bl.length - 1) (c26 - 1),al,bl.drop 1,v40,zs++[x31]) ⟨rfl,rfl,rfl,rfl,trivial⟩ ⟨H,ha,Qh hb2 1,by (try dsimp only);simp only [List.length_append,List.length_cons,List.length_nil,List.length_drop];omega,hz2⟩ (by (try dsimp only);simp only [List.length_drop];omega)
   refine Av (Aa (Ab (Ae (Ah 2 U ?_))))
   have th41:=H.thR 0 rfl hx35
   refine V U U (AZ (p:=AP A19+0*2) U BB U U (by omega) (by omega) th41 (by omega)) (V U U (Bq (cs:=[.string x34.key,.string x34.val]) U Cj U U (H.elsR 0 U hx35 U)) (BX (parts:=[(0,.tmp 47)]) (vs:=[.agg #[.string x34.key,.string x34.val]]) (cs:=[.string x34.key,.string x34.val]) U U U BB Dd U (by decide) (by decide) U U H (fun b42 w H=>?_)))
   replace H:=H.p1
   refine Ct (xs:=zs) (ys:=[x34]) U U U BB Dd U (by decide) U U H (by first |omega|(simp only [List.length_append,List.length_cons,List.length_nil];omega)) (fun F hA hR=>Cm (hA _ (List.mem_of_getElem? (i:=0) U)) U (by decide) (AW.flat_eq.2 U)) (fun v43 w H=>(Ad U (Ac (Aa ?_))))
   replace H:Hd _ _ _ [Y Ag v43 (zs++[x34]),blk b42 [.string x34.key,.string x34.val] 106] [Z Ag (.slice A19 al.length c20) al,Z Ag (.slice A25 bl.length c26) bl,Z Ag (.slice A1 xs.length c2) xs,Z Ag (.slice A6 ys.length c7) ys]:=H
   refine Ae (Ad U (V U U (I7 U BB U U (by omega) (by omega) U) (Ad U (Ac (AU ?_)))))
   replace H:=H.k1.sufR 0 rfl (n:=1) (by omega)
   replace H:Hd w0 F0 w [Y Ag v43 (zs++[x34])] [Z Ag (.slice (DO A19 c20 1 2) (al.length - 1) (c20 - 1)) (al.drop 1),Z Ag (.slice A25 bl.length c26) bl,Z Ag (.slice A1 xs.length c2) xs,Z Ag (.slice A6 ys.length c7) ys]:=H.pickR [0,2,3,4]
   have hz2:(zs++[x34])++srt (al.drop 1++bl)=srt (xs++ys):=by rw [←hz,Wn hx35 hx32 ha hb2 h37,List.append_assoc];rfl
   exact Bi (s:=(undef,undef,al,bl,undef,zs)) (.slice (DO A19 c20 1 2) (al.length - 1) (c20 - 1),.slice A25 bl.length c26,al.drop 1,bl,v43,zs++[x34]) ⟨rfl,rfl,rfl,rfl,trivial⟩ ⟨H,Qh ha 1,hb2,by (try dsimp only);simp only [List.length_append,List.length_cons,List.length_nil,List.length_drop];omega,hz2⟩ (by (try dsimp only);simp only [List.length_drop];omega)
  refine BC (AM (AM (BD (Aa (Ab (Ae (Ah 2 U (Ct (xs:=zs) (ys:=al) U U U BB Dd U (by decide) U U H (by first |omega|(simp only [List.length_append,List.length_cons,List.length_nil];omega)) (fun F hA hR=>hR _ (List.mem_of_getElem? (i:=0) U)) (fun v44 w H=>(Ad U (Ct (xs:=zs++al) (ys:=bl) U U U BB Dd U (by decide) U U H (by first |omega|(simp only [List.length_append,List.length_cons,List.length_nil];omega)) (fun F hA hR=>hR _ (List.mem_of_getElem? (i:=1) U)) (fun v45 w H=>?_))))))))))))
  replace H:=H.h1 (A:=Y Ag v45 ((zs++al)++bl))
  refine Ad U (Ac (Aa (An (Aq U U ?_))))
  replace H:Hd w0 F0 w [Y Ag v45 (srt (xs++ys))] [Z Ag (.slice A19 al.length c20) al,Z Ag (.slice A25 bl.length c26) bl,Z Ag (.slice A1 xs.length c2) xs,Z Ag (.slice A6 ys.length c7) ys]:=by rw [←hz,PV ha hb2 (by omega),←List.append_assoc];exact H
  replace H:=H.dropR|>.dropR
  exact Al U H
 refine Ah 4 U (Ac (Aa ?_))
 replace H:Hd _ _ _ [Y Ag q zs] [Z Ag (.slice A19 al.length c20) al,Z Ag v bl,Z Ag (.slice A1 xs.length c2) xs,Z Ag (.slice A6 ys.length c7) ys]:=H
 refine B7 U (BC (AM (AM (BD (Aa (Ab (Ae (Ah 2 U (Ct (xs:=zs) (ys:=al) U U U BB Dd U (by decide) U U H (by first |omega|(simp only [List.length_append,List.length_cons,List.length_nil];omega)) (fun F hA hR=>hR _ (List.mem_of_getElem? (i:=0) U)) (fun v46 w H=>(Ad U ?_)))))))))))
 obtain ⟨A47,c48,rfl,hc49,hm50,hp51⟩:=H.fR 1 rfl
 refine Ct (xs:=zs++al) (ys:=bl) U U U BB Dd U (by decide) U U H (by first |omega|(simp only [List.length_append,List.length_cons,List.length_nil];omega)) (fun F hA hR=>hR _ (List.mem_of_getElem? (i:=1) U)) (fun v52 w H=>(Ad U (Ac (Aa ?_))))
 replace H:Hd _ _ _ [Y Ag v52 ((zs++al)++bl)] [Z Ag (.slice A19 al.length c20) al,Z Ag (.slice A47 bl.length c48) bl,Z Ag (.slice A1 xs.length c2) xs,Z Ag (.slice A6 ys.length c7) ys]:=H
 refine An (Aq U U ?_)
 replace H:Hd w0 F0 w [Y Ag v52 (srt (xs++ys))] [Z Ag (.slice A19 al.length c20) al,Z Ag (.slice A47 bl.length c48) bl,Z Ag (.slice A1 xs.length c2) xs,Z Ag (.slice A6 ys.length c7) ys]:=by rw [←hz,PV ha hb2 (by omega),←List.append_assoc];exact H
 replace H:=H.dropR|>.dropR
 exact Al U H
theorem YL (vus:Value) (us:List (Value×List Ap)) (hb:(CP us).length≤1000000):
    Cn Tryz.prog 138 [vus] [] [Z (Am Ag) vus us] (fun v Bs=>Bs=[Y Ag v (srt (CP us))]):=by
 intro w0 F0 H
 obtain ⟨A1,c2,rfl,hc3,hm4,hp5⟩:=H.fR 0 rfl
 refine enter Tryz.func138 U U (Nat.le_of_ble_eq_true U) (Ab (Ae (Ad U (Ac (Aa ?_)))))
 replace H:Hd _ _ _ [] [Z (Am Ag) (.slice A1 us.length c2) us]:=H
 refine Ab (Ae (Ad U (Ac (Aa (Ab (Ab (Ae (Ad U (V U U (A8 U Ej U) (Ad U (Ac (Aa (AS ?_)))))))))))))
 replace H:=H.newnil Ag
 refine BQ (σ:=Nat×Value) (fun (k,q)=>[(2,.slice none 0 0),(3,q),(6,.slice A1 us.length c2),(7,.int .i64 ((us.length:Nat):Int)),(8,.int .i64 ((k:Nat):Int))]) (fun (k,q) w=>(Hd w0 F0 w [Y Ag q (srt (CP (us.take k)))] [Z (Am Ag) (.slice A1 us.length c2) us])∧(k≤us.length)) (fun (k,q)=>us.length - k) (0,.slice none 0 0) ⟨rfl,rfl,rfl,rfl,rfl,trivial⟩ ⟨H,by (try dsimp only);omega⟩ ?_
 rintro ⟨k,q⟩ w ⟨H,hk⟩
 have hsl:=Gg (CP (us.take k))
 refine Ab (Ae (V U U (Bd U U U) (Ac (Aa (Ab ?_)))))
 refine Ax U (fun h6=>?_) (fun h6=>?_)
 ·refine Av (Aa (Ab (AS (Ab (Ae ?_)))))
  obtain ⟨⟨u9,x7⟩,hx8⟩:∃ z9,us[k]?=some z9:=⟨_,List.getElem?_eq_getElem (show k<us.length by omega)⟩
  obtain ⟨A10,c11,rfl,hc12,hm13⟩:=H.nestR 0 rfl hx8
  have th14:=H.thRd 0 rfl hx8
  refine V U U (AZ (p:=AP A1+k*1) U FG U U (by omega) (by omega) th14 U) (V U U (Ak U ET U (H.elRd 0 U hx8 U)) (Ad U (Ac (Aa ?_))))
  have hfl:=On us (k+1)
  rw [Oo hx8,List.length_append] at hfl
  refine Ae (Ah 2 U (sc (ZQ q (srt (CP (us.take k))) (.slice A10 x7.length c11) x7 (by first |omega|decide|(simp only [List.length_append,List.length_cons,List.length_nil,Gg];omega))) H (lA 0 U BJ (lX (fun F hA hR=>Ic (hR _ (List.mem_of_getElem? (i:=0) U)) hx8) l0)) U U (At U5 U U) ?_))
  rintro v15 _ w rfl H
  refine Ad U (Ac (AU (Aa ?_)))
  replace H:Hd _ _ _ [Y Ag v15 (srt ((srt (CP (us.take k)))++x7)),Y Ag q (srt (CP (us.take k)))] [Z (Am Ag) (.slice A1 us.length c2) us]:=H
  refine Ae (V U U (AT (z:=((k+1:Nat):Int)) U U U (by rw [AC (by omega) (by omega)];omega)) (Ad U (Ac ?_)))
  replace H:=H.k1
  replace H:Hd w0 F0 w [Y Ag v15 (srt (CP (us.take (k+1))))] [Z (Am Ag) (.slice A1 us.length c2) us]:=by rw [Oo hx8,←Zh];exact H
  exact Bi (s:=(k,undef)) (k+1,v15) ⟨rfl,rfl,rfl,rfl,rfl,trivial⟩ ⟨H,by (try dsimp only);omega⟩ (by (try dsimp only);omega)
 refine BC (AM (AM (BD (Aa (Ab (Ae (Ah 2 U (Ac (Aa (An (Aq U U ?_)))))))))))
 replace H:Hd w0 F0 w [Y Ag q (srt (CP us))] [Z (Am Ag) (.slice A1 us.length c2) us]:=by rw [List.take_of_length_le (show us.length≤k by omega)] at H;exact H
 exact Al U H
theorem Wj (vS vM vC vR vK:Value) (J:AD) (hJ:Cb J) (s:Nat) (hs:s<J.us.length):
    Cn Tryz.prog 124 [.agg #[vS,.int .i64 J.parts,vM,vC,vR,.int .i64 J.chunk,.int .i64 J.window,.int .i64 J.fuel,vK],.int .i64 ((s:Nat):Int)] [] [Z (Am Ag) vS J.us,Z Af vM J.map,Z Af vC J.comb,Z Af vR J.red,Z (Ai .i64) vK J.marks,gl] (fun v Bs=>∃ u,v=.tuple #[u,.int .i64 (mapM dg J s).2]∧Bs=[Y Ag u (mapM dg J s).1]):=by
 intro w0 F0 H
 obtain ⟨A1,c2,rfl,hc3,hm4,hp5⟩:=H.fR 0 rfl
 obtain ⟨A6,c7,rfl,hc8,hm9,hp10⟩:=H.fR 1 rfl
 obtain ⟨A11,c12,rfl,hc13,hm14,hp15⟩:=H.fR 2 rfl
 obtain ⟨A16,c17,rfl,hc18,hm19,hp20⟩:=H.fR 3 rfl
 obtain ⟨A21,c22,rfl,hc23,hm24,hp25⟩:=H.fR 4 rfl
 have hus:=hJ.us
 have hpt:=hJ.parts
 have hfu:=hJ.fuel
 refine enter Tryz.func124 U U (Nat.le_of_ble_eq_true U) (Ab (Ae (CA U U U U H (fun b26 w H=>(Ah 2 U (Ac (Aa ?_)))))))
 replace H:Hd _ _ _ [blk b26 [.slice A1 J.us.length c2,.int .i64 J.parts,.slice A6 J.map.length c7,.slice A11 J.comb.length c12,.slice A16 J.red.length c17,.int .i64 J.chunk,.int .i64 J.window,.int .i64 J.fuel,.slice A21 J.marks.length c22] 26] [Z (Am Ag) (.slice A1 J.us.length c2) J.us,Z Af (.slice A6 J.map.length c7) J.map,Z Af (.slice A11 J.comb.length c12) J.comb,Z Af (.slice A16 J.red.length c17) J.red,Z (Ai .i64) (.slice A21 J.marks.length c22) J.marks,gl]:=H
 refine Ab (Ae (Ad U (Ac (Aa (Ab (Ab (Ae (V U U (Aj U DQ U) (V U U (Ak U DU U (H.cellI 0 U U)) (Ad U ?_))))))))))
 obtain ⟨⟨u29,x27⟩,hx28⟩:∃ z9,J.us[s]?=some z9:=⟨_,List.getElem?_eq_getElem (show s<J.us.length by omega)⟩
 obtain ⟨A30,c31,rfl,hc32,hm33⟩:=H.nestR 0 rfl hx28
 have th34:=H.thRd 0 rfl hx28
 refine V U U (AZ (p:=AP A1+s*1) U FG U U (by omega) (by omega) th34 U) (V U U (Ak U ET U (H.elRd 0 U hx28 U)) (V U U (A8 U Db U) (Ad U (Ac (Aa (AS ?_))))))
 have hrec:=Yg hx28
 have hrl:x27.length≤8:=(hJ.split _ (Ce hx28)).1
 replace H:=H.addR (R:=Z Ag (.slice A30 x27.length c31) x27) fun _ h=>Ic (h _ (List.mem_of_getElem? (i:=0) rfl)) hx28
 replace H:=H.newnil Ag
 refine BQ (σ:=Nat×Value×List Ap) (fun (i,q,out)=>[(2,.pointer (some ⟨b26,0,none⟩)),(6,q),(15,.slice A30 x27.length c31),(16,.int .i64 ((x27.length:Nat):Int)),(17,.int .i64 ((i:Nat):Int))]) (fun (i,q,out) w=>(Hd w0 F0 w [Y Ag q out,blk b26 [.slice A1 J.us.length c2,.int .i64 J.parts,.slice A6 J.map.length c7,.slice A11 J.comb.length c12,.slice A16 J.red.length c17,.int .i64 J.chunk,.int .i64 J.window,.int .i64 J.fuel,.slice A21 J.marks.length c22] 26] [Z Ag (.slice A30 x27.length c31) x27,Z (Am Ag) (.slice A1 J.us.length c2) J.us,Z Af (.slice A6 J.map.length c7) J.map,Z Af (.slice A11 J.comb.length c12) J.comb,Z Af (.slice A16 J.red.length c17) J.red,Z (Ai .i64) (.slice A21 J.marks.length c22) J.marks,gl])∧(i≤x27.length)∧(EQ dg J.map J.fuel (x27.drop i) out=EQ dg J.map J.fuel x27 [])∧(out.length≤40)) (fun (i,q,out)=>x27.length - i) (0,.slice none 0 0,[]) ⟨rfl,rfl,rfl,rfl,rfl,trivial⟩ ⟨H,Nat.zero_le _,rfl,Nat.zero_le _⟩ ?_
 rintro ⟨i,q,out⟩ w ⟨H,hi,hgo,ho⟩
 refine Ab (Ae (V U U (Bd U U U) (Ac (Aa (Ab ?_)))))
 refine Ax U (fun h35=>?_) (fun h35=>?_)
 ·refine Av (Aa (Ab (AS (Ab (Ae ?_)))))
  obtain ⟨x36,hx37⟩:∃ z9,x27[i]?=some z9:=⟨_,List.getElem?_eq_getElem (show i<x27.length by omega)⟩
  have th38:=H.thR 0 rfl hx37
  refine V U U (AZ (p:=AP A30+i*2) U BB U U (by omega) (by omega) th38 U) (V U U (Bq (cs:=[.string x36.key,.string x36.val]) U Cj U U (H.elsR 0 U hx37 U)) (Dg U U U Dd H (fun b39 w H=>(BE U U U Cj U U H U (Nat.le_of_ble_eq_true U) (fun u hu=>by simp [Value.cells] at hu;rcases hu with rfl|rfl<;>rfl) (fun w H=>?_)))))
  replace H:Hd _ _ _ [blk b39 [.string x36.key,.string x36.val] 106,Y Ag q out,blk b26 [.slice A1 J.us.length c2,.int .i64 J.parts,.slice A6 J.map.length c7,.slice A11 J.comb.length c12,.slice A16 J.red.length c17,.int .i64 J.chunk,.int .i64 J.window,.int .i64 J.fuel,.slice A21 J.marks.length c22] 26] [Z Ag (.slice A30 x27.length c31) x27,Z (Am Ag) (.slice A1 J.us.length c2) J.us,Z Af (.slice A6 J.map.length c7) J.map,Z Af (.slice A11 J.comb.length c12) J.comb,Z Af (.slice A16 J.red.length c17) J.red,Z (Ai .i64) (.slice A21 J.marks.length c22) J.marks,gl]:=H
  refine Ac (Aa (Ab (Ae (V U U (Aj U HR U) (V U U (Ak U Ep U (H.cellI 2 U U)) (V U U (Aj U Fg U) (V U U (Ak U BV U (H.cellI 0 U U)) (V U U (Aj U HN U) (V U U (Ak U BV U (H.cellI 0 U U)) (BX (parts:=[(0,.tmp 27)]) (vs:=[.string x36.val]) (cs:=[.string x36.val]) U U U G5 IB U (by decide) (by decide) U U H (fun b40 w H=>(V U U (Aj U JX U) (V U U (Ak U AB U (H.cellI 3 U U)) (sc (RL (.slice A6 J.map.length c7) J.map x36.key (.slice (some ⟨b40,0,none⟩) 1 1) [x36.val] J.fuel hJ.map hJ.f64) H (lR 2 U (lA 0 U (fun F h=>Cm h rfl (by decide) (AW.flat_eq.2 U)) (lR 6 U l0))) U U (At Pk U U) ?_))))))))))))))
  rintro _ _ w ⟨u41,rfl,rfl⟩ H
  replace H:=H.h2 (A:=Y Ag u41 ((Bv dg J.map x36.key [x36.val] J.fuel).1)) (B:=blk b40 [.string x36.val] 9)
  have hrt:=Q7 dg J.map x36.key [x36.val] J.fuel
  refine Ah 5 U (Ac (Aa (Ab (Ab (Ae (Ad U (V U U (CX U U U) (Ac (Aa ?_)))))))))
  refine Ax U (fun h42=>?_) (fun h42=>?_)
  ·refine Ab (Ae (Ah 3 U (Ac (Aa (An (Az (A0 (Az (Az (A0 (Az (Cl U U U ?_))))))))))))
   have e:mapM dg J s=([],(Bv dg J.map x36.key [x36.val] J.fuel).2):=by unfold mapM;rw [hrec];exact hgo.symm.trans (Wi hx37 h42)
   replace H:=H.nil|>.newnil Ag|>.dropR
   replace H:Hd _ _ _ [Y Ag (.slice none 0 0) []] [Z (Am Ag) (.slice A1 J.us.length c2) J.us,Z Af (.slice A6 J.map.length c7) J.map,Z Af (.slice A11 J.comb.length c12) J.comb,Z Af (.slice A16 J.red.length c17) J.red,Z (Ai .i64) (.slice A21 J.marks.length c22) J.marks,gl]:=H
   exact Al ⟨_,by rw [e]<;>rfl,by rw [e]<;>rfl⟩ H
  refine Av (Aa (Ab (Ae (Ah 2 U ?_))))
  replace H:=H.p3
  obtain ⟨A43,c44,rfl,hc45,hm46,hp47⟩:=H.fA 1 rfl
  refine Ct (xs:=out) (ys:=(Bv dg J.map x36.key [x36.val] J.fuel).1) U U U BB Dd U (by decide) U U H (by first |omega|(rw [List.length_append];omega)) (fun F hA hR=>BJ F (hA _ (List.mem_of_getElem? (i:=0) U))) (fun v48 w H=>(Ad U (Ac (Aa ?_))))
  replace H:Hd _ _ _ [Y Ag v48 (out++((Bv dg J.map x36.key [x36.val] J.fuel).1)),Y Ag (.slice A43 (((Bv dg J.map x36.key [x36.val] J.fuel).1).length) c44) ((Bv dg J.map x36.key [x36.val] J.fuel).1),blk b40 [.string x36.val] 9,blk b39 [.string x36.key,.string x36.val] 106,blk b26 [.slice A1 J.us.length c2,.int .i64 J.parts,.slice A6 J.map.length c7,.slice A11 J.comb.length c12,.slice A16 J.red.length c17,.int .i64 J.chunk,.int .i64 J.window,.int .i64 J.fuel,.slice A21 J.marks.length c22] 26] [Z Ag (.slice A30 x27.length c31) x27,Z (Am Ag) (.slice A1 J.us.length c2) J.us,Z Af (.slice A6 J.map.length c7) J.map,Z Af (.slice A11 J.comb.length c12) J.comb,Z Af (.slice A16 J.red.length c17) J.red,Z (Ai .i64) (.slice A21 J.marks.length c22) J.marks,gl]:=H
  refine Ab (Ae (Ad U ?_))
  obtain ⟨A49,c50,rfl,hc51,hm52,hp53⟩:=H.fA 0 rfl
  refine V U U (A8 U Db U) (V U U (Cp U U U) (Ac (Aa ?_)))
  refine Ax U (fun h54=>?_) (fun h54=>?_)
  ·refine Ab (Ae (Ah 2 U (Ac (Aa (An (A0 (Az (Az (A0 (Az (Cl U U U ?_)))))))))))
   have hap:(out++(Bv dg J.map x36.key [x36.val] J.fuel).1).length=out.length+(Bv dg J.map x36.key [x36.val] J.fuel).1.length:=List.length_append
   have e:mapM dg J s=([],5):=by unfold mapM;rw [hrec];exact hgo.symm.trans (We hx37 h42 (by omega))
   replace H:=H.nil|>.newnil Ag|>.dropR
   replace H:Hd _ _ _ [Y Ag (.slice none 0 0) []] [Z (Am Ag) (.slice A1 J.us.length c2) J.us,Z Af (.slice A6 J.map.length c7) J.map,Z Af (.slice A11 J.comb.length c12) J.comb,Z Af (.slice A16 J.red.length c17) J.red,Z (Ai .i64) (.slice A21 J.marks.length c22) J.marks,gl]:=H
   exact Al ⟨_,by rw [e]<;>rfl,by rw [e]<;>rfl⟩ H
  refine Av (AU (Aa (Ae (V U U (AT (z:=((i+1:Nat):Int)) U U U (by rw [AC (by omega) (by omega)];omega)) (Ad U (Ac ?_))))))
  replace H:=H.p4.p1.k2
  have hap:(out++(Bv dg J.map x36.key [x36.val] J.fuel).1).length=out.length+(Bv dg J.map x36.key [x36.val] J.fuel).1.length:=List.length_append
  have hl2:(out++(Bv dg J.map x36.key [x36.val] J.fuel).1).length≤40:=by omega
  have hg2:=(Wg (out:=out) hx37 h42 (by omega)).trans hgo
  exact Bi (s:=(i,undef,out)) (i+1,.slice A49 ((out++((Bv dg J.map x36.key [x36.val] J.fuel).1)).length) c50,out++(Bv dg J.map x36.key [x36.val] J.fuel).1) ⟨rfl,rfl,rfl,rfl,rfl,trivial⟩ ⟨H,by (try dsimp only);omega,hg2,hl2⟩ (by (try dsimp only);omega)
 refine BC (AM (AM (BD (Aa (Ab (Ae (Ah 3 U (Ac (Aa (An (Cl U U U ?_)))))))))))
 replace H:=H.k1
 have e:mapM dg J s=(out,0):=by unfold mapM;rw [hrec];exact hgo.symm.trans (Wd (by omega))
 replace H:=H.dropR
 replace H:Hd _ _ _ [Y Ag q out] [Z (Am Ag) (.slice A1 J.us.length c2) J.us,Z Af (.slice A6 J.map.length c7) J.map,Z Af (.slice A11 J.comb.length c12) J.comb,Z Af (.slice A16 J.red.length c17) J.red,Z (Ai .i64) (.slice A21 J.marks.length c22) J.marks,gl]:=H
 exact Al ⟨_,by rw [e]<;>rfl,by rw [e]<;>rfl⟩ H
theorem Zg (vS vM vC vR vK:Value) (J:AD) (hJ:Cb J) (s:Nat) (hs:s<J.us.length):
    Cn Tryz.prog 53 [.agg #[vS,.int .i64 J.parts,vM,vC,vR,.int .i64 J.chunk,.int .i64 J.window,.int .i64 J.fuel,vK],.int .i64 ((s:Nat):Int)] [] [Z (Am Ag) vS J.us,Z Af vM J.map,Z Af vC J.comb,Z Af vR J.red,Z (Ai .i64) vK J.marks,gl] (fun v Bs=>∃ u,v=.tuple #[u,.int .i64 (Ay dg J s).2]∧Bs=[Y Ag u (Ay dg J s).1]):=by
 intro w0 F0 H
 obtain ⟨A1,c2,rfl,hc3,hm4,hp5⟩:=H.fR 0 rfl
 obtain ⟨A6,c7,rfl,hc8,hm9,hp10⟩:=H.fR 1 rfl
 obtain ⟨A11,c12,rfl,hc13,hm14,hp15⟩:=H.fR 2 rfl
 obtain ⟨A16,c17,rfl,hc18,hm19,hp20⟩:=H.fR 3 rfl
 obtain ⟨A21,c22,rfl,hc23,hm24,hp25⟩:=H.fR 4 rfl
 have hus:=hJ.us
 have hpt:=hJ.parts
 have hfu:=hJ.fuel
 refine enter Tryz.func53 U U (Nat.le_of_ble_eq_true U) (Ab (Ae (CA U U U U H (fun b26 w H=>(Ah 2 U (Ac (Aa ?_)))))))
 replace H:Hd _ _ _ [blk b26 [.slice A1 J.us.length c2,.int .i64 J.parts,.slice A6 J.map.length c7,.slice A11 J.comb.length c12,.slice A16 J.red.length c17,.int .i64 J.chunk,.int .i64 J.window,.int .i64 J.fuel,.slice A21 J.marks.length c22] 26] [Z (Am Ag) (.slice A1 J.us.length c2) J.us,Z Af (.slice A6 J.map.length c7) J.map,Z Af (.slice A11 J.comb.length c12) J.comb,Z Af (.slice A16 J.red.length c17) J.red,Z (Ai .i64) (.slice A21 J.marks.length c22) J.marks,gl]:=H
 refine Ab (Ab (Ae (V U U (Bq (cs:=[.slice A1 J.us.length c2,.int .i64 J.parts,.slice A6 J.map.length c7,.slice A11 J.comb.length c12,.slice A16 J.red.length c17,.int .i64 J.chunk,.int .i64 J.window,.int .i64 J.fuel,.slice A21 J.marks.length c22]) U Jr U U (H.cellsI 0 U U)) (sc (Pd (.slice A1 J.us.length c2) (.slice A6 J.map.length c7) (.slice A11 J.comb.length c12) (.slice A16 J.red.length c17) (.slice A21 J.marks.length c22) J) H (lR 0 U (lR 1 U (lR 2 U (lR 3 U (lR 4 U l0))))) U U (At PC U U) ?_))))
 rintro _ _ w ⟨rfl,rfl⟩ H
 refine V U U (D_ U U) (Ad U ?_)
 refine AK (d:=11) U (fun h27=>?_) (fun h27=>?_)
 ·exact (h27 hJ.may).elim
 refine Ad U (V U U (Bd U U U) (Ah 2 U ?_))
 refine AK (d:=15) U (fun h28=>?_) (fun h28=>?_)
 ·exfalso;omega
 refine Ad U (V U U (Aj U DQ U) (V U U (Ak U DU U (H.cellI 0 U U)) (V U U (A8 U Ej U) (V U U (CR U U U) (Ad U (Ac (Aa ?_)))))))
 refine Ax U (fun h29=>?_) (fun h29=>?_)
 ·exfalso;omega
 refine Av (Aa (Ab (Ae (V U U (Bq (cs:=[.slice A1 J.us.length c2,.int .i64 J.parts,.slice A6 J.map.length c7,.slice A11 J.comb.length c12,.slice A16 J.red.length c17,.int .i64 J.chunk,.int .i64 J.window,.int .i64 J.fuel,.slice A21 J.marks.length c22]) U Jr U U (H.cellsI 0 U U)) (Ad U (sc (Wj (.slice A1 J.us.length c2) (.slice A6 J.map.length c7) (.slice A11 J.comb.length c12) (.slice A16 J.red.length c17) (.slice A21 J.marks.length c22) J hJ s (by omega)) H (lR 0 U (lR 1 U (lR 2 U (lR 3 U (lR 4 U (lR 5 U l0)))))) U U (At UL U U) ?_))))))
 rintro _ _ w ⟨u30,rfl,rfl⟩ H
 refine Ah 5 U (Ac (Aa ?_))
 replace H:Hd _ _ _ [Y Ag u30 ((mapM dg J s).1),blk b26 [.slice A1 J.us.length c2,.int .i64 J.parts,.slice A6 J.map.length c7,.slice A11 J.comb.length c12,.slice A16 J.red.length c17,.int .i64 J.chunk,.int .i64 J.window,.int .i64 J.fuel,.slice A21 J.marks.length c22] 26] [Z (Am Ag) (.slice A1 J.us.length c2) J.us,Z Af (.slice A6 J.map.length c7) J.map,Z Af (.slice A11 J.comb.length c12) J.comb,Z Af (.slice A16 J.red.length c17) J.red,Z (Ai .i64) (.slice A21 J.marks.length c22) J.marks,gl]:=H
 refine Ab (Ab (Ae (Ad U (V U U (CX U U U) (Ac (Aa ?_))))))
 refine Ax U (fun h31=>?_) (fun h31=>?_)
 ·refine Ab (Ae (Ah 3 U (Ac (Aa (An (Az (Cl U U U ?_)))))))
  have e:Ay dg J s=([],(mapM dg J s).2):=if_pos h31
  replace H:=H.nil|>.newnil Ag
  exact Al ⟨_,by rw [e]<;>rfl,by rw [e]<;>rfl⟩ H
 refine Av (Aa (Ab (Ae (V U U (Aj U HS U) (V U U (Ak U Ep U (H.cellI 1 U U)) (Ad U (V U U (Aj U JX U) (V U U (Ak U AB U (H.cellI 1 U U)) ?_))))))))
 have hml:=PR dg J s
 refine sc (TX (.slice A11 J.comb.length c12) J.comb u30 ((mapM dg J s).1) J.fuel hJ.comb hJ.f64 (by omega)) H (lR 2 U (lA 0 U BJ (lR 5 U l0))) U U (At UM U U) ?_
 rintro _ _ w ⟨u32,rfl,rfl⟩ H
 replace H:=H.h1 (A:=Y Ag u32 ((FO dg J.comb (mapM dg J s).1 J.fuel).1))
 refine Ah 4 U (Ac (Aa (An (Cl U U U ?_))))
 have e:Ay dg J s=FO dg J.comb (mapM dg J s).1 J.fuel:=if_neg h31
 replace H:=H.k1
 exact Al ⟨_,by rw [e]<;>rfl,by rw [e]<;>rfl⟩ H
theorem Uv (v:Value) (xs:List Int) (x:Int):
    Cn Tryz.prog 184 [v,.int .i64 x] [] [Z (Ai .i64) v xs] (fun v Bs=>v=.int .i64 (Ff (fun y=>decide (x=y)) xs)∧Bs=[]):=by
 intro w0 F0 H
 obtain ⟨A1,c2,rfl,hc3,hm4,hp5⟩:=H.fR 0 rfl
 refine enter Tryz.func184 U U (Nat.le_of_ble_eq_true U) (Ab (Ae (Ad U (Ac (Aa ?_)))))
 replace H:Hd _ _ _ [] [Z (Ai .i64) (.slice A1 xs.length c2) xs]:=H
 refine Ab (Ab (Ae (Ad U (V U U (A8 U Ea U) (Ad U (Ac (Aa (AS (BQ (σ:=Nat) (fun k=>[(0,.slice A1 xs.length c2),(1,.int .i64 x),(7,.int .i64 ((xs.length:Nat):Int)),(8,.int .i64 ((k:Nat):Int))]) (fun k w=>(Hd w0 F0 w [] [Z (Ai .i64) (.slice A1 xs.length c2) xs])∧(k≤xs.length)∧(∀ y∈xs.take k,(fun y=>decide (x=y)) y=false)) (fun k=>xs.length - k) 0 ⟨rfl,rfl,rfl,rfl,trivial⟩ ⟨H,by omega,by simp⟩ ?_)))))))))
 rintro k w ⟨H,hk,hn⟩
 refine Ab (Ae (V U U (Bd U U U) (Ac (Aa (Ab ?_)))))
 refine Ax U (fun h6=>?_) (fun h6=>?_)
 ·refine Av (Aa (Ab (AS (Ab (Ae (Ah 2 U (Ac (Aa (Ab (Ae (Ah 3 U ?_)))))))))))
  obtain ⟨x7,hx8⟩:∃ z9,xs[k]?=some z9:=⟨_,List.getElem?_eq_getElem (show k<xs.length by omega)⟩
  have th9:=H.thR 0 rfl hx8
  refine V U U (AZ (p:=AP A1+k*1) U Dx U U (by omega) (by omega) th9 U) (V U U (Ak U AB U (H.elR 0 U hx8 (q:=0) U U)) (V U U (Bb U U U) (Ac (Aa ?_))))
  refine Ax U (fun h10=>?_) (fun h10=>?_)
  ·exact Ab (Ae (Ah 2 U (Ac (Aa (An (A0 (Az (Az (A0 (Az (Aq U U (Al ⟨by rw [Lq (p:=(fun y=>decide (x=y))) hn hx8 (decide_eq_true h10)]<;>rfl,rfl⟩ H))))))))))))
  exact Av (AU (Aa (Ae (V U U (AT (z:=((k+1:Nat):Int)) U U U (by rw [AC (by omega) (by omega)];omega)) (Ad U (Ac (Bi (s:=k) (k+1) ⟨rfl,rfl,rfl,rfl,trivial⟩ ⟨H,by omega,MY (p:=(fun y=>decide (x=y))) hn hx8 (decide_eq_false h10)⟩ (by (try dsimp only);omega))))))))
 refine BC (AM (AM (BD (Aa (Ab (Ae (Ad U (Ac (Aa (An (Aq U U ?_)))))))))))
 have hn2:∀ y∈xs,(fun y=>decide (x=y)) y=false:=by rw [←GD (xs:=xs) (k:=k) (by omega)];exact hn
 exact Al ⟨by rw [JM hn2]<;>rfl,rfl⟩ H
theorem S3 (v:Value) (xs:List Int) (x:Int):
    Cn Tryz.prog 136 [v,.int .i64 x] [] [Z (Ai .i64) v xs] (fun v Bs=>v=.bool (decide (x∈xs))∧Bs=[]):=by
 intro w0 F0 H
 refine enter Tryz.func136 U U (Nat.le_of_ble_eq_true U) (Ab (Ae (Ad U (Ac (Aa (Ab (Ae (Ah 2 U (sc (Uv v xs x) H (lR 0 U l0) U U (At U4 U U) ?_)))))))))
 rintro _ _ w ⟨rfl,rfl⟩ H
 refine V U U (CR U U U) (Ad U (Ac (Aa (An (Aq U U ?_)))))
 have e:decide (0≤Ff (fun y=>decide (x=y)) xs)=decide (x∈xs):=by rw [Lr];rw [Bool.eq_iff_iff];simp
 exact Al ⟨congrArg Value.bool e,rfl⟩ H
end Go.Proofs.YthgehekecfpikaaGreatDoor.X
