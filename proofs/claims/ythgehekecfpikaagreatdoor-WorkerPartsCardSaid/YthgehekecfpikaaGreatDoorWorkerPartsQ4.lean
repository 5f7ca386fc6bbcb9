/- WorkerParts: texts P3, XE, F2, XJob, J1, XJob2, XCfg, XRed, XOb, XRed2, C1, XStg, N1, N2, J2, J3, J4, joined by a program of ours; what nothing names is left out. -/
import Derived.Test.YthgehekecfpikaaGreatDoorWorkerPartsQ3
import Derived.KernelRfl
set_option linter.unusedVariables false
set_option linter.unusedSimpArgs false
set_option maxHeartbeats 8000000
namespace Go.Proofs.YthgehekecfpikaaGreatDoor.X
open Go
theorem YO (v1 v2:Value) (xs ys:List Ap):
    Cn Tryz.prog 25 [v1,v2] [] [Aa Ag v1 xs,Aa Ag v2 ys] (fun v Bs=>v=.bool (decide (xs=ys))∧Bs=[]):=by
 intro w0 F0 H
 obtain ⟨A1,c2,rfl,hc3,hm4,hp5⟩:=H.fR 0 rfl
 obtain ⟨A6,c7,rfl,hc8,hm9,hp10⟩:=H.fR 1 rfl
 refine enter Tryz.func25 U U (Nat.le_of_ble_eq_true U) (Ab (Ae (Ad U (Ac (Z ?_)))))
 replace H:Hd _ _ _ [] [Aa Ag (.slice A1 xs.length c2) xs,Aa Ag (.slice A6 ys.length c7) ys]:=H
 refine Ab (Ab (Ae (Ad U (V U U (Bc U Da U) (Ad U (V U U (Bc U Da U) (V U U (C9 U U U) (Ac (Z ?_)))))))))
 refine Ax U (fun h11=>?_) (fun h11=>?_)
 ·refine Ab (Ae (Ad U (Ac (Z (An (Ay (Aq U U ?_)))))))
  have e:¬ xs=ys:=fun e=>h11 (by rw [e])
  exact Ak ⟨by rw [decide_eq_false e]<;>rfl,rfl⟩ H
 refine Av (Z (Ab (Ab (Ae (Ad U (Ac (Z (AQ ?_))))))))
 have hle:xs.length=ys.length:=by omega
 refine BL (σ:=Nat) (fun k=>[(0,.slice A1 xs.length c2),(1,.slice A6 ys.length c7),(5,.int .i64 ((k:Nat):Int))]) (fun k w=>(Hd w0 F0 w [] [Aa Ag (.slice A1 xs.length c2) xs,Aa Ag (.slice A6 ys.length c7) ys])∧(k≤xs.length)∧(xs.length=ys.length)∧(xs.take k=ys.take k)) (fun k=>xs.length - k) 0 ⟨rfl,rfl,rfl,trivial⟩ ⟨H,by omega,hle,rfl⟩ ?_
 rintro k w ⟨H,hk,hle,ht⟩
 refine Ab (Ab (Ae (Ah 2 U (V U U (Bc U Da U) (V U U (Bb U U U) (Ac (Z ?_)))))))
 refine Ax U (fun h12=>?_) (fun h12=>?_)
 ·refine Av (Z (Ab (AQ (Ab (Gj mo (by kernel_rfl) H (Jm 2 U ?_))))))
  obtain ⟨x13,hx14⟩:∃ z9,xs[k]?=some z9:=⟨_,List.getElem?_eq_getElem (show k<xs.length by omega)⟩
  have th15:=H.thR 0 rfl hx14
  refine Bu U U (fun w H=>AY (p:=AS A1+k*2) U By U U (by omega) (by omega) th15 U) (Bu U U (fun w H=>Bo (cs:=[.string x13.key,.string x13.val]) U Cc U U (H.elsR 0 U hx14 U)) (Jm 2 U ?_))
  obtain ⟨x16,hx17⟩:∃ z9,ys[k]?=some z9:=⟨_,List.getElem?_eq_getElem (show k<ys.length by omega)⟩
  have th18:=H.thR 1 rfl hx17
  refine Bu U U (fun w H=>AY (p:=AS A6+k*2) U By U U (by omega) (by omega) th18 U) (Bu U U (fun w H=>Bo (cs:=[.string x16.key,.string x16.val]) U Cc U U (H.elsR 1 U hx17 U)) (Bu U U (fun w H=>XL (p:=x13) (q:=x16) U S8 U U) (Gy (fun w H=>(Z ?_)))))
  refine Ax U (fun h19=>?_) (fun h19=>?_)
  ·refine Ab (Ae (Ad U (Ac (Z (An (AX (Ay (Ay (AX (Ay (Aq U U ?_)))))))))))
   have e:¬ xs=ys:=fun e=>h19 (by rw [e,hx17] at hx14;exact (Option.some.inj hx14).symm)
   exact Ak ⟨by rw [decide_eq_false e]<;>rfl,rfl⟩ H
  refine Av (AT (Z (Ae (Ad U (V U U (AU (z:=((k+1:Nat):Int)) U U U (by rw [AB (by omega) (by omega)];omega)) (Ad U (Ac ?_)))))))
  have e:x13=x16:=Classical.not_not.1 h19
  subst e
  exact Bf (s:=k) (k+1) ⟨rfl,rfl,rfl,trivial⟩ ⟨H,by omega,hle,Q5 hx14 hx17 ht⟩ (by (try dsimp only);omega)
 refine BD (AM (AM (BE (Z (Ab (Ae (Ad U (Ac (Z (An (Aq U U ?_)))))))))))
 have e:xs=ys:=by rw [←Gw (xs:=xs) (k:=k) (by omega),←Gw (xs:=ys) (k:=k) (by omega)];exact ht
 exact Ak ⟨by rw [decide_eq_true e]<;>rfl,rfl⟩ H
theorem TJ (vxs:Value) (xs:List Ap) (n:Int):
    Cn Tryz.prog 23 [vxs,.int .i64 n] [] [Aa Ag vxs xs] (fun v Bs=>v=.bool (E9 xs n)∧Bs=[]):=by
 intro w0 F0 H
 obtain ⟨A1,c2,rfl,hc3,hm4,hp5⟩:=H.fR 0 rfl
 refine enter Tryz.func23 U U (Nat.le_of_ble_eq_true U) (Ab (Ae (Ad U (Ac (Z ?_)))))
 replace H:Hd _ _ _ [] [Aa Ag (.slice A1 xs.length c2) xs]:=H
 refine Ab (Ab (Ae (Ad U (Ac (Z (AQ (BL (σ:=Nat) (fun k=>[(0,.slice A1 xs.length c2),(1,.int .i64 n),(5,.int .i64 ((k:Nat):Int))]) (fun k w=>(Hd w0 F0 w [] [Aa Ag (.slice A1 xs.length c2) xs])∧(k≤xs.length)∧(∀ y∈xs.take k,y.key.size≤100∧y.val.size≤100)) (fun k=>xs.length - k) 0 ⟨rfl,rfl,rfl,trivial⟩ ⟨H,by omega,by simp⟩ ?_)))))))
 rintro k w ⟨H,hk,hn⟩
 refine Ab (Ab (Ae (Ah 2 U (V U U (Bc U Da U) (V U U (Bb U U U) (Ad U ?_))))))
 refine AN (d:=10) U (fun h6=>?_) (fun h6=>?_)
 ·refine Ad U (V U U (Bc U Da U) (Ad U (V U U (Co U U U) (Ad U (Ac (Z ?_))))))
  refine Ax U (fun h7=>?_) (fun h7=>?_)
  ·refine Av (Z (Ab (AQ (Ab (Ae (Ah 2 U ?_))))))
   obtain ⟨x8,hx9⟩:∃ z9,xs[k]?=some z9:=⟨_,List.getElem?_eq_getElem (show k<xs.length by omega)⟩
   have th10:=H.thR 0 rfl hx9
   refine V U U (AY (p:=AS A1+k*2) U By U U (by omega) (by omega) th10 U) (V U U (Aj U E8 U) (V U U (Al U BS U (H.elR 0 U hx9 (q:=0) U U)) (V U U (Dp U CA U) (V U U (Ck U U U) (Ad U ?_)))))
   refine AN (d:=25) U (fun h11=>?_) (fun h11=>?_)
   ·exact Ah 8 U (Ac (Z (CG U (Ab (Ae (Ad U (Ac (Z (An (AX (Ay (Ay (AX (Ay (Aq U U (Ak ⟨congrArg Value.bool (OG hx9 (by omega)),rfl⟩ H))))))))))))))))
   refine Ah 2 U ?_
   have th12:=H.thR 0 rfl hx9
   refine V U U (AY (p:=AS A1+k*2) U By U U (by omega) (by omega) th12 U) (V U U (Aj U HJ U) (V U U (Al U BS U (H.elR 0 U hx9 (q:=1) U U)) (V U U (Dp U CA U) (V U U (Ck U U U) (Ad U (Ac (Z ?_)))))))
   refine Ax U (fun h13=>?_) (fun h13=>?_)
   ·exact Ab (Ae (Ad U (Ac (Z (An (AX (Ay (Ay (AX (Ay (Aq U U (Ak ⟨congrArg Value.bool (OG hx9 (by omega)),rfl⟩ H))))))))))))
   exact Av (AT (Z (Ae (Ad U (V U U (AU (z:=((k+1:Nat):Int)) U U U (by rw [AB (by omega) (by omega)];omega)) (Ad U (Ac (Bf (s:=k) (k+1) ⟨rfl,rfl,rfl,trivial⟩ ⟨H,by (try dsimp only);omega,Ho hn hx9 (by omega)⟩ (by (try dsimp only);omega)))))))))
  exact BD (AM (AM (BE (Z (Ab (Ae (Ad U (V U U (Bc U Da U) (Ad U (V U U (Ck U U U) (Ad U (Ac (Z (An (Aq U U (Ak ⟨congrArg Value.bool (OF hn (by omega)),rfl⟩ H))))))))))))))))
 exact Ah 5 U (Ac (Z (B2 U (BD (AM (AM (BE (Z (Ab (Ae (Ad U (V U U (Bc U Da U) (Ad U (V U U (Ck U U U) (Ad U (Ac (Z (An (Aq U U (Ak ⟨congrArg Value.bool (OF hn (by omega)),rfl⟩ H))))))))))))))))))))
theorem W4 (vxs:Value) (xs:List Ap) (key:ByteArray) (hb:xs.length≤1000000):
    Cn Tryz.prog 212 [vxs,.string key] [] [Aa Ag vxs xs] (fun v Bs=>Bs=[Y Bg v (BQ xs key)]):=by
 intro w0 F0 H
 obtain ⟨A1,c2,rfl,hc3,hm4,hp5⟩:=H.fR 0 rfl
 refine enter Tryz.func212 U U (Nat.le_of_ble_eq_true U) (Ab (Ae (Ad U (Ac (Z ?_)))))
 replace H:Hd _ _ _ [] [Aa Ag (.slice A1 xs.length c2) xs]:=H
 refine Ab (Ae (Ad U (Ac (Z (Ab (Ab (Ae (Ad U (V U U (Bc U Da U) (Ad U (Ac (Z (AQ ?_)))))))))))))
 replace H:=H.newnil Bg
 refine BL (σ:=Nat×Value) (fun (k,l)=>[(1,.string key),(4,.slice none 0 0),(5,l),(8,.slice A1 xs.length c2),(9,.int .i64 ((xs.length:Nat):Int)),(10,.int .i64 ((k:Nat):Int))]) (fun (k,l) w=>(Hd w0 F0 w [Y Bg l (BQ (xs.take k) key)] [Aa Ag (.slice A1 xs.length c2) xs])∧(k≤xs.length)) (fun (k,l)=>xs.length - k) (0,.slice none 0 0) ⟨rfl,rfl,rfl,rfl,rfl,rfl,trivial⟩ ⟨H,by (try dsimp only);omega⟩ ?_
 rintro ⟨k,l⟩ w ⟨H,hk⟩
 have hjl:=Ww (xs.take k) key
 have hjt:(xs.take k).length≤xs.length:=by simp;omega
 refine Ab (Ae (V U U (Bb U U U) (Ac (Z (Ab ?_)))))
 refine Ax U (fun h6=>?_) (fun h6=>?_)
 ·refine Av (Z (Ab (AQ (Ab (Ae ?_)))))
  obtain ⟨x7,hx8⟩:∃ z9,xs[k]?=some z9:=⟨_,List.getElem?_eq_getElem (show k<xs.length by omega)⟩
  have th9:=H.thR 0 rfl hx8
  refine V U U (AY (p:=AS A1+k*2) U By U U (by omega) (by omega) th9 U) (V U U (Bo (cs:=[.string x7.key,.string x7.val]) U Cc U U (H.elsR 0 U hx8 U)) (Dr U U U Dc H (fun b10 w H=>(BH U U U Cc U U H U (Nat.le_of_ble_eq_true U) (fun u hu=>by simp [Value.cells] at hu;rcases hu with rfl|rfl<;>rfl) (fun w H=>?_)))))
  replace H:=H.h2 (A:=blk b10 [.string x7.key,.string x7.val] 106) (B:=Y Bg l (BQ (xs.take k) key))
  refine Ac (Z (Ab (Ae (V U U (Aj U E8 U) (V U U (Al U BS U (H.cellI 0 U U)) (Ad U (V U U (Ms U U U) (Ac (Z ?_)))))))))
  refine Ax U (fun h11=>?_) (fun h11=>?_)
  ·refine Ae (Ad U (V U U (Aj U HJ U) (V U U (Al U BS U (H.cellI 0 U U)) (BX (parts:=[(0,.tmp 20)]) (vs:=[.string x7.val]) (cs:=[.string x7.val]) U U U G0 Is U (by decide) (by decide) U U H (fun b12 w H=>?_)))))
   replace H:=H.p2
   refine Cy (xs:=BQ (xs.take k) key) (ys:=[x7.val]) U U U G0 Is U (by decide) U U H (by omega) (fun F hA hR=>Cm (hA _ (List.mem_of_getElem? (i:=0) U)) U (by decide) (AV.flat_eq.2 U)) (fun v13 w H=>(Ad U (Ac (AT (Z ?_)))))
   replace H:Hd _ _ _ [Y Bg v13 ((BQ (xs.take k) key)++[x7.val]),blk b12 [.string x7.val] 9,blk b10 [.string x7.key,.string x7.val] 106] [Aa Ag (.slice A1 xs.length c2) xs]:=H
   refine Ae (V U U (AU (z:=((k+1:Nat):Int)) U U U (by rw [AB (by omega) (by omega)];omega)) (Ad U (Ac ?_)))
   rw [←Wz hx8 h11] at H
   replace H:=H.k1
   exact Bf (s:=(k,undef)) (k+1,v13) ⟨rfl,rfl,rfl,rfl,rfl,rfl,trivial⟩ ⟨H,by (try dsimp only);omega⟩ (by (try dsimp only);omega)
  refine Av (AT (Z (Ae (V U U (AU (z:=((k+1:Nat):Int)) U U U (by rw [AB (by omega) (by omega)];omega)) (Ad U (Ac ?_))))))
  rw [←Wy hx8 h11] at H
  replace H:=H.sel 2 [1] [0] rfl (by kernel_rfl)
  exact Bf (s:=(k,undef)) (k+1,l) ⟨rfl,rfl,rfl,rfl,rfl,rfl,trivial⟩ ⟨H,by (try dsimp only);omega⟩ (by (try dsimp only);omega)
 refine BD (AM (AM (BE (Z (Ab (Ae (Ah 2 U (Ac (Z (An (Aq U U ?_)))))))))))
 rw [List.take_of_length_le (show xs.length≤k by omega)] at H
 exact Ak U H
theorem WY (vxs:Value) (xs:List Ap) (hb:xs.length≤1000000):
    Cn Tryz.prog 211 [vxs] [] [Aa Ag vxs xs] (fun v Bs=>Bs=[Y Bg v (DF xs)]):=by
 intro w0 F0 H
 obtain ⟨A1,c2,rfl,hc3,hm4,hp5⟩:=H.fR 0 rfl
 refine enter Tryz.func211 U U (Nat.le_of_ble_eq_true U) (Ab (Ae (Ad U (Ac (Z ?_)))))
 replace H:Hd _ _ _ [] [Aa Ag (.slice A1 xs.length c2) xs]:=H
 refine Ab (Ae (Ad U (Ac (Z (Ab (Ab (Ae (Ad U (V U U (Bc U Da U) (Ad U (Ac (Z (AQ ?_)))))))))))))
 replace H:=H.newnil Bg
 refine BL (σ:=Nat×Value) (fun (k,l)=>[(2,.slice none 0 0),(3,l),(6,.slice A1 xs.length c2),(7,.int .i64 ((xs.length:Nat):Int)),(8,.int .i64 ((k:Nat):Int))]) (fun (k,l) w=>(Hd w0 F0 w [Y Bg l ((xs.take k).map (·.key))] [Aa Ag (.slice A1 xs.length c2) xs])∧(k≤xs.length)) (fun (k,l)=>xs.length - k) (0,.slice none 0 0) ⟨rfl,rfl,rfl,rfl,rfl,trivial⟩ ⟨H,by (try dsimp only);omega⟩ ?_
 rintro ⟨k,l⟩ w ⟨H,hk⟩
 have hjt:((xs.take k).map (·.key)).length≤xs.length:=by simp;omega
 refine Ab (Ae (V U U (Bb U U U) (Ac (Z (Ab ?_)))))
 refine Ax U (fun h6=>?_) (fun h6=>?_)
 ·refine Av (Z (Ab (AQ (Ab (Ae ?_)))))
  obtain ⟨x7,hx8⟩:∃ z9,xs[k]?=some z9:=⟨_,List.getElem?_eq_getElem (show k<xs.length by omega)⟩
  have th9:=H.thR 0 rfl hx8
  refine V U U (AY (p:=AS A1+k*2) U By U U (by omega) (by omega) th9 U) (V U U (Bo (cs:=[.string x7.key,.string x7.val]) U Cc U U (H.elsR 0 U hx8 U)) (Dr U U U Dc H (fun b10 w H=>(BH U U U Cc U U H U (Nat.le_of_ble_eq_true U) (fun u hu=>by simp [Value.cells] at hu;rcases hu with rfl|rfl<;>rfl) (fun w H=>?_)))))
  replace H:=H.h2 (A:=blk b10 [.string x7.key,.string x7.val] 106) (B:=Y Bg l ((xs.take k).map (·.key)))
  refine Ac (Z (Ae (Ad U (V U U (Aj U E8 U) (V U U (Al U BS U (H.cellI 0 U U)) (BX (parts:=[(0,.tmp 14)]) (vs:=[.string x7.key]) (cs:=[.string x7.key]) U U U G0 Is U (by decide) (by decide) U U H (fun b11 w H=>?_)))))))
  replace H:=H.p2
  refine Cy (xs:=(xs.take k).map (·.key)) (ys:=[x7.key]) U U U G0 Is U (by decide) U U H (by omega) (fun F hA hR=>Cm (hA _ (List.mem_of_getElem? (i:=0) U)) U (by decide) (AV.flat_eq.2 U)) (fun v12 w H=>(Ad U (Ac (AT (Z ?_)))))
  replace H:Hd _ _ _ [Y Bg v12 (((xs.take k).map (·.key))++[x7.key]),blk b11 [.string x7.key] 9,blk b10 [.string x7.key,.string x7.val] 106] [Aa Ag (.slice A1 xs.length c2) xs]:=H
  refine Ae (V U U (AU (z:=((k+1:Nat):Int)) U U U (by rw [AB (by omega) (by omega)];omega)) (Ad U (Ac ?_)))
  rw [←Ud hx8] at H
  replace H:=H.k1
  exact Bf (s:=(k,undef)) (k+1,v12) ⟨rfl,rfl,rfl,rfl,rfl,trivial⟩ ⟨H,by (try dsimp only);omega⟩ (by (try dsimp only);omega)
 refine BD (AM (AM (BE (Z (Ab (Ae (Ad U (sc (YZ l ((xs.take k).map (·.key)) (by first |omega|(rw [ML];omega))) H l0 U U (Au US U U) ?_))))))))
 rintro v13 _ w rfl H
 replace H:=H.h1 (A:=Y Bg l (FR ((xs.take k).map (·.key))))
 refine Ac (Z (Ab (Ae (Ad U (sc (Sz l (FR ((xs.take k).map (·.key))) (by first |omega|(rw [ML];omega))) H l0 U U (Au UT U U) ?_)))))
 rintro v14 _ w rfl H
 replace H:=H.h1 (A:=Y Bg v14 (Gl (FR ((xs.take k).map (·.key)))))
 refine Ad U (Ac (Z (An (Aq U U ?_))))
 rw [List.take_of_length_le (show xs.length≤k by omega)] at H
 exact Ak U H
theorem T3 (f:FuncId) (cap:List Value) (Ex:List SP) (p:Ap→Bool) (hkf:AL Tryz.prog f) (hp:∀ x,Cn Tryz.prog f ([.agg #[.string x.key,.string x.val]]++cap) [] Ex (fun v Bs=>v=.bool (p x)∧Bs=[])) (v:Value) (xs:List Ap):
    Cn Tryz.prog 206 [v,.func (.func f) #[] (cap).toArray] [] (Aa Ag v xs::Ex) (fun v Bs=>v=.int .i64 (E7 p xs)∧Bs=[]):=by
 intro w0 F0 H
 obtain ⟨A1,c2,rfl,hc3,hm4,hp5⟩:=H.fR 0 rfl
 refine enter Tryz.func206 U U (Nat.le_of_ble_eq_true U) (Ab (Ae (Ad U (Ac (Z ?_)))))
 replace H:Hd _ _ _ [] (Aa Ag (.slice A1 xs.length c2) xs::Ex):=H
 refine Ab (Ab (Ae (Ad U (V U U (Bc U Da U) (Ad U (Ac (Z (AQ (BL (σ:=Nat) (fun k=>[(0,.slice A1 xs.length c2),(1,.func (.func f) #[] (cap).toArray),(7,.int .i64 ((xs.length:Nat):Int)),(8,.int .i64 ((k:Nat):Int))]) (fun k w=>(Hd w0 F0 w [] (Aa Ag (.slice A1 xs.length c2) xs::Ex))∧(k≤xs.length)∧(∀ y∈xs.take k,p y=false)) (fun k=>xs.length - k) 0 ⟨rfl,rfl,rfl,rfl,trivial⟩ ⟨H,by omega,by simp⟩ ?_)))))))))
 rintro k w ⟨H,hk,hn⟩
 refine Ab (Ae (V U U (Bb U U U) (Ac (Z (Ab ?_)))))
 refine Ax U (fun h6=>?_) (fun h6=>?_)
 ·refine Av (Z (Ab (AQ (Ab (Ae (Ah 2 U (Ac (Z (Ab (Ae (Ah 3 U ?_)))))))))))
  obtain ⟨x7,hx8⟩:∃ z9,xs[k]?=some z9:=⟨_,List.getElem?_eq_getElem (show k<xs.length by omega)⟩
  have th9:=H.thR 0 rfl hx8
  refine V U U (AY (p:=AS A1+k*2) U By U U (by omega) (by omega) th9 U) (V U U (Bo (cs:=[.string x7.key,.string x7.val]) U Cc U U (H.elsR 0 U hx8 U)) (sc (hp x7) H (fun S hS F hA hR=>hR S (List.mem_cons_of_mem _ hS)) U U (FX (vs:=[.agg #[.string x7.key,.string x7.val]]) (fs:=#[]) (cs:=cap.toArray) hkf U U U) ?_))
  rintro _ _ w ⟨rfl,rfl⟩ H
  refine Ac (Z ?_)
  refine DQ (b:=p x7) U (fun h10=>?_) (fun h10=>?_)
  ·exact Ab (Ae (Ah 2 U (Ac (Z (An (AX (Ay (Ay (AX (Ay (Aq U U (Ak ⟨by rw [Le hn hx8 h10]<;>rfl,rfl⟩ H))))))))))))
  exact Av (AT (Z (Ae (V U U (AU (z:=((k+1:Nat):Int)) U U U (by rw [AB (by omega) (by omega)];omega)) (Ad U (Ac (Bf (s:=k) (k+1) ⟨rfl,rfl,rfl,rfl,trivial⟩ ⟨H,by omega,MP hn hx8 h10⟩ (by (try dsimp only);omega))))))))
 refine BD (AM (AM (BE (Z (Ab (Ae (Ad U (Ac (Z (An (Aq U U ?_)))))))))))
 have hn2:∀ y∈xs,p y=false:=by rw [←Gw (xs:=xs) (k:=k) (by omega)];exact hn
 exact Ak ⟨by rw [JE hn2]<;>rfl,rfl⟩ H
theorem NN (f:FuncId) (cap:List Value) (Ex:List SP) (p:Ap→Bool) (hkf:AL Tryz.prog f) (hp:∀ x,Cn Tryz.prog f ([.agg #[.string x.key,.string x.val]]++cap) [] Ex (fun v Bs=>v=.bool (p x)∧Bs=[])) (v:Value) (xs:List Ap):
    Cn Tryz.prog 173 [v,.func (.func f) #[] (cap).toArray] [] (Aa Ag v xs::Ex) (fun v Bs=>v=.bool (xs.any p)∧Bs=[]):=by
 intro w0 F0 H
 refine enter Tryz.func173 U U (Nat.le_of_ble_eq_true U) (Ab (Ae (Ad U (Ac (Z (Ab (Ae (Ah 2 U (sc (T3 f cap Ex p hkf hp v xs) H LY U U (Au UF U U) ?_)))))))))
 rintro _ _ w ⟨rfl,rfl⟩ H
 exact V U U (CL U U U) (Ad U (Ac (Z (An (Aq U U (Ak ⟨congrArg Value.bool (Lf p xs),rfl⟩ H))))))
theorem VZ (x:Ap):
    Cn Tryz.prog 174 [.agg #[.string x.key,.string x.val]] [] [] (fun v Bs=>v=.bool (!decide (C8 x))∧Bs=[]):=by
 intro w0 F0 H
 refine enter Tryz.func174 U U (Nat.le_of_ble_eq_true U) (Ab (Ae (Ct U U U U H (fun b1 w H=>(Ad U (Ac (Z ?_)))))))
 replace H:Hd _ _ _ [blk b1 [.string x.key,.string x.val] 106] []:=H
 refine Ab (Ae (V U U (Aj U E8 U) (V U U (Al U BS U (H.cellI 0 U U)) (V U U (Dp U CA U) (V U U (Ck U U U) (Ad U ?_))))))
 refine AN (d:=7) U (fun h2=>?_) (fun h2=>?_)
 ·refine Ah 6 U (Ac (Z (An (Aq U U ?_))))
  replace H:=H.nil
  exact Ak ⟨by rw [decide_eq_false (by unfold C8;omega)];rfl,rfl⟩ H
 refine V U U (Aj U HJ U) (V U U (Al U BS U (H.cellI 0 U U)) (V U U (Dp U CA U) (V U U (Ck U U U) (Ah 2 U (Ac (Z (An (Aq U U ?_))))))))
 replace H:=H.nil
 exact Ak ⟨congrArg Value.bool (by rw [←decide_not];exact decide_eq_decide.2 (by unfold C8;omega)),rfl⟩ H
theorem WZ (vxs:Value) (xs:List Ap):
    Cn Tryz.prog 120 [vxs] [] [Aa Ag vxs xs] (fun v Bs=>v=.bool (decide (He xs))∧Bs=[]):=by
 intro w0 F0 H
 obtain ⟨A1,c2,rfl,hc3,hm4,hp5⟩:=H.fR 0 rfl
 refine enter Tryz.func120 U U (Nat.le_of_ble_eq_true U) (Ab (Ae (Ad U (Ac (Z ?_)))))
 replace H:Hd _ _ _ [] [Aa Ag (.slice A1 xs.length c2) xs]:=H
 refine Ab (Ae (Ad U (sc (NN 174 [] [] (fun p=>!decide (C8 p)) Uy (fun x=>VZ x) (.slice A1 xs.length c2) xs) H (lR 0 U l0) U U (Au O3 U U) ?_)))
 rintro _ _ w ⟨rfl,rfl⟩ H
 exact V U U (FP U U U) (Ad U (Ac (Z (An (Aq U U (Ak ⟨congrArg Value.bool (V1 xs),rfl⟩ H))))))
theorem ST {told:List Ap} {k v:ByteArray} (h:told.length≤40):(DS told k v).2.length≤40:=by
 unfold DS
 split
 ·exact h
 ·split
  ·exact h
  ·simp only [List.length_append,List.length_cons,List.length_nil];omega
theorem PS (m:VM):(GR m).1.told=m.told:=by
 rw [PT]
def TL (r:VM×Int):Prop:=r.1.told.length≤40
theorem D0 {c:Prop} [Decidable c] {x y:VM×Int} (hx:TL x) (hy:TL y):TL (if c then x else y):=by
 split
 ·exact hx
 ·exact hy
theorem Rz {D:A8} {key:ByteArray} {m:VM} {i:BC} {v:List AP} (h:m.told.length≤40):(B9 D key m i v).1.told.length≤40:=by
 have hn:TL (GR m):=by unfold TL;rw [PS];exact h
 have h20:TL (if (v.getD 0 CE).n≠0 then {m with pos:=i.a} else m,0):=by
  unfold TL
  dsimp only
  split<;>exact h
 exact D0 h (D0 h (D0 h (D0 h (D0 h (D0 h (D0 hn (D0 h (D0 h (D0 h (D0 h (D0 h (D0 h (D0 h (D0 h (D0 h (D0 h20 (D0 h (D0 h (D0 (ST h) h)))))))))))))))))))
theorem NW {D:A8} {key:ByteArray} {m:VM} {i:BC} (h:m.told.length≤40):(BF D key m i).1.told.length≤40:=by
 unfold BF
 split
 ·exact h
 ·exact Rz h
theorem Qe {D:A8} {p:List BC} {key:ByteArray}:∀ (k:Nat) {m:VM},m.told.length≤40→(CI D p key k m).1.told.length≤40
 |0,m,h=>by
  unfold CI
  split<;>exact h
 |k+1,m,h=>by
  unfold CI
  split
  ·split
   ·split
    ·exact NW h
    ·exact Qe k (NW h)
   ·exact h
  ·exact h
theorem QQ (D:A8) (p:List BC) (key:ByteArray) (vals:List ByteArray) (fuel:Int):(Bp D p key vals fuel).1.length≤40:=by
 unfold Bp
 split
 ·exact Nat.zero_le _
 ·split
  ·exact Nat.zero_le _
  ·exact Qe _ (Nat.zero_le _)
def IW (k:ByteArray) (l:List Ap):Bool:=l.any fun x=>decide (x.key≠k)
def Es (D:A8) (p:List BC) (ps:List Ap) (fuel:Int) (own:Bool):List ByteArray→List Ap→List Ap×Int
 |[],out=>(out,0)
 |k::ks,out=>
  if (Bp D p k (BQ ps k) fuel).2≠0 then ([],(Bp D p k (BQ ps k) fuel).2)
  else if own=true∧IW k (Bp D p k (BQ ps k) fuel).1=true then ([],6)
  else if 40<out.length+(Bp D p k (BQ ps k) fuel).1.length then ([],5)
  else Es D p ps fuel own ks (out++(Bp D p k (BQ ps k) fuel).1)
def Dt (D:A8) (p:List BC) (ps:List Ap) (fuel:Int) (own:Bool):List Ap×Int:=Es D p ps fuel own (DF ps) []
def FH (D:A8) (p:List BC) (ps:List Ap) (fuel:Int):List Ap×Int:=if p.length=0 then (srt ps,0) else Dt D p ps fuel true
section
variable {D:A8} {p:List BC} {ps:List Ap} {fuel:Int} {own:Bool} {ks:List ByteArray} {k:ByteArray} {out:List Ap} {i:Nat}
theorem TE (h:ks.length≤i):Es D p ps fuel own (ks.drop i) out=(out,0):=by
 rw [List.drop_eq_nil_of_le h];rfl
theorem TG (hk:ks[i]?=some k) (h:(Bp D p k (BQ ps k) fuel).2≠0):Es D p ps fuel own (ks.drop i) out=([],(Bp D p k (BQ ps k) fuel).2):=by
 rw [E6 hk];exact if_pos h
theorem TF (hk:ks[i]?=some k) (h:¬ (Bp D p k (BQ ps k) fuel).2≠0) (h2:own=true) (h3:IW k (Bp D p k (BQ ps k) fuel).1=true):Es D p ps fuel own (ks.drop i) out=([],6):=by
 rw [E6 hk];unfold Es;rw [if_neg h,if_pos ⟨h2,h3⟩]
theorem OC (hk:ks[i]?=some k) (h:¬ (Bp D p k (BQ ps k) fuel).2≠0) (h2:¬ (own=true∧IW k (Bp D p k (BQ ps k) fuel).1=true)) (h3:40<out.length+(Bp D p k (BQ ps k) fuel).1.length):Es D p ps fuel own (ks.drop i) out=([],5):=by
 rw [E6 hk];unfold Es;rw [if_neg h,if_neg h2,if_pos h3]
theorem OD (hk:ks[i]?=some k) (h:¬ (Bp D p k (BQ ps k) fuel).2≠0) (h2:¬ (own=true∧IW k (Bp D p k (BQ ps k) fuel).1=true)) (h3:¬ 40<out.length+(Bp D p k (BQ ps k) fuel).1.length):
  Es D p ps fuel own (ks.drop (i+1)) (out++(Bp D p k (BQ ps k) fuel).1)=Es D p ps fuel own (ks.drop i) out:=by
 rw [E6 hk];conv=>rhs;unfold Es
 rw [if_neg h,if_neg h2,if_neg h3]
end
theorem NY (D:A8) (p:List BC) (ps:List Ap) (fuel:Int) (own:Bool):∀ (ks:List ByteArray) (out:List Ap),out.length≤40→(Es D p ps fuel own ks out).1.length≤40
 |[],out,h=>h
 |k::ks,out,h=>by
  unfold Es
  split
  ·exact Nat.zero_le _
  ·split
   ·exact Nat.zero_le _
   ·split
    ·exact Nat.zero_le _
    ·exact NY D p ps fuel own ks _ (by simp only [List.length_append];omega)
def DL:List BC:=[⟨6,0,⟨#[]⟩⟩,⟨7,0,⟨#[]⟩⟩,⟨4,0,⟨#[]⟩⟩,⟨23,0,⟨#[]⟩⟩]
theorem LJ:∀ i∈DL,AE i.a:=by
 intro i hi
 simp only [DL,List.mem_cons,List.not_mem_nil,or_false] at hi
 rcases hi with rfl|rfl|rfl|rfl<;>exact II
theorem SQ (x:Ap) (kb:Nat) (key:ByteArray):
    Cn Tryz.prog 213 [.agg #[.string x.key,.string x.val],.pointer (some ⟨kb,0,none⟩)] [] [blk kb [.string key] 9] (fun v Bs=>v=.bool (decide (x.key≠key))∧Bs=[]):=by
 intro w0 F0 H
 refine enter Tryz.func213 U U (Nat.le_of_ble_eq_true U) (Ab (Ae (Ct U U U U H (fun b1 w H=>(Ad U (Ac (Z ?_)))))))
 replace H:Hd _ _ _ [blk b1 [.string x.key,.string x.val] 106] [blk kb [.string key] 9]:=H
 refine Ab (Ae (V U U (Aj U E8 U) (V U U (Al U BS U (H.cellI 0 U U)) (V U U (Al U BS U (H.cellRI 0 U U)) (V U U (Mu U U U) (Ad U (Ac (Z (An (Aq U U ?_))))))))))
 replace H:=H.nil
 exact Ak ⟨rfl,rfl⟩ H
theorem NZ (vp:Value) (p:List BC) (vps:Value) (ps:List Ap) (fuel:Int) (own:Bool) (hpa:∀ i∈p,AE i.a) (hfu:AE fuel) (hb:ps.length≤1000000):
    Cn Tryz.prog 177 [vp,vps,.int .i64 fuel,.bool own] [] [Aa Af vp p,Aa Ag vps ps,gl] (fun v Bs=>∃ u,v=.tuple #[u,.int .i64 (Dt dg p ps fuel own).2]∧Bs=[Y Ag u (Dt dg p ps fuel own).1]):=by
 intro w0 F0 H
 obtain ⟨A1,c2,rfl,hc3,hm4,hp5⟩:=H.fR 0 rfl
 obtain ⟨A6,c7,rfl,hc8,hm9,hp10⟩:=H.fR 1 rfl
 refine enter Tryz.func177 U U (Nat.le_of_ble_eq_true U) (Ab (Ae (Ah 2 U (Ac (Z ?_)))))
 replace H:Hd _ _ _ [] [Aa Af (.slice A1 p.length c2) p,Aa Ag (.slice A6 ps.length c7) ps,gl]:=H
 refine Ab (Ae (Ad U (Ac (Z (Ab (Ae (sc Zi H l0 U U (Au UH U U) ?_)))))))
 rintro _ _ w ⟨b11,rfl,rfl⟩ H
 replace H:=H.h1 (A:=blk b11 [.int .i64 0,.int .i64 0,.int .i64 0,.int .i64 0,.int .i64 0,.int .i64 0,.int .i64 0,.int .i64 0] 322)
 refine Ad U (Ac (Z (Ab (Ab (Ae (Ad U (sc (WY (.slice A6 ps.length c7) ps (by first |omega|decide)) H (lR 1 U l0) U U (Au UI U U) ?_)))))))
 rintro v12 _ w rfl H
 obtain ⟨A13,c14,rfl,hc15,hm16,hp17⟩:=H.fA 0 rfl
 refine V U U (Bc U Re U) (Ad U (Ac (Z ?_)))
 replace H:Hd _ _ _ [Y Bg (.slice A13 ((DF ps).length) c14) (DF ps),blk b11 [.int .i64 0,.int .i64 0,.int .i64 0,.int .i64 0,.int .i64 0,.int .i64 0,.int .i64 0,.int .i64 0] 322] [Aa Af (.slice A1 p.length c2) p,Aa Ag (.slice A6 ps.length c7) ps,gl]:=H
 refine AQ ?_
 replace H:=H.newnil Ag
 refine BL (σ:=Nat×Value×List Ap) (fun (i,q,out)=>[(0,.slice A1 p.length c2),(1,.slice A6 ps.length c7),(2,.int .i64 fuel),(3,.bool own),(10,q),(11,.pointer (some ⟨b11,0,none⟩)),(18,.slice A13 ((DF ps).length) c14),(19,.int .i64 (((DF ps).length:Nat):Int)),(20,.int .i64 ((i:Nat):Int))]) (fun (i,q,out) w=>(Hd w0 F0 w [Y Ag q out,Y Bg (.slice A13 ((DF ps).length) c14) (DF ps),blk b11 [.int .i64 (out.length:Int),.int .i64 0,.int .i64 0,.int .i64 0,.int .i64 0,.int .i64 0,.int .i64 0,.int .i64 0] 322] [Aa Af (.slice A1 p.length c2) p,Aa Ag (.slice A6 ps.length c7) ps,gl])∧(i≤(DF ps).length)∧(Es dg p ps fuel own ((DF ps).drop i) out=Dt dg p ps fuel own)∧(out.length≤40)) (fun (i,q,out)=>(DF ps).length - i) (0,.slice none 0 0,[]) ⟨rfl,rfl,rfl,rfl,rfl,rfl,rfl,rfl,rfl,trivial⟩ ⟨H,Nat.zero_le _,rfl,Nat.zero_le _⟩ ?_
 rintro ⟨i,q,out⟩ w ⟨H,hi,hgo,ho⟩
 have hkl:=Ue ps
 refine Ab (Ae (V U U (Bb U U U) (Ac (Z (Ab ?_)))))
 refine Ax U (fun h18=>?_) (fun h18=>?_)
 ·refine Av (Z (Ab (AQ (Ab (Ae ?_)))))
  obtain ⟨x19,hx20⟩:∃ z9,(DF ps)[i]?=some z9:=⟨_,List.getElem?_eq_getElem (show i<(DF ps).length by omega)⟩
  have th21:=H.thA 1 rfl hx20
  refine V U U (AY (p:=AS A13+i*1) U G0 U U (by omega) (by omega) th21 U) (V U U (Al U BS U (H.elA 1 U hx20 (q:=0) U U)) (Dr U U U Is H (fun b22 w H=>(BH U U U BS U U H U (Nat.le_of_ble_eq_true U) (fun u hu=>by simp [Value.cells] at hu;subst hu;rfl) (fun w H=>?_)))))
  replace H:=H.h4 (A:=blk b22 [.string x19] 9) (B:=Y Ag q out) (D:=blk b11 [.int .i64 (out.length:Int),.int .i64 0,.int .i64 0,.int .i64 0,.int .i64 0,.int .i64 0,.int .i64 0,.int .i64 0] 322)
  refine Ac (Z (Ab (B3 (.e 0 (.e 1 (.e 2 (.e 3 (.e 5 (.m 4 (.m 6 (.e 7 (.e 8 (.e 9 (.e 10 (.e 11 .z)))))))))))) (fun w=>∃ Ar,Hd w0 F0 w (blk b22 [.string x19] 9::Y Ag q out::Y Bg (.slice A13 ((DF ps).length) c14) (DF ps)::blk b11 [.int .i64 (out.length:Int),.int .i64 0,.int .i64 0,.int .i64 0,.int .i64 0,.int .i64 0,.int .i64 0,.int .i64 0] 322::Ar) [Aa Af (.slice A1 p.length c2) p,Aa Ag (.slice A6 ps.length c7) ps,gl]) mo (by kernel_rfl) (fun w H=>⟨_,H⟩) H (fun w H=>(At U (Ao U U U (fun w ⟨Ar,H⟩=>Al U BS U (H.cellI 0 U U)) (At U (Ao U U U (fun w ⟨Ar,H⟩=>Al U BS U (H.cellI 0 U U)) (At U (AR U (sc (W4 (.slice A6 ps.length c7) ps x19 (by first |omega|decide)) H (lR 1 U l0) U U (Au UJ U U) ?_)))))))))))
  rintro v23 _ w rfl H
  replace H:=H.h1 (A:=Y Bg v23 (BQ ps x19))|>.p4|>.p4|>.p4|>.p4
  refine AI ⟨_,H⟩ (AR U (sc (Rk (.slice A1 p.length c2) p x19 v23 (BQ ps x19) fuel hpa hfu) H (lR 0 U (lA 4 U BI (lR 2 U l0))) U U (Au O4 U U) ?_))
  rintro _ _ w ⟨u24,rfl,rfl⟩ H
  replace H:=H.h1 (A:=Y Ag u24 ((Bp dg p x19 (BQ ps x19) fuel).1))
  have hrt:=QQ dg p x19 (BQ ps x19) fuel
  replace H:=H.p4.p4.p4.p4
  refine AI ⟨_,H⟩ (At U (At U (At U (At U (At U (BM (Z (Ab (AQ (Ab (Ae (Ad U (V U U (C9 U U U) (Ad U (Ac (Z ?_))))))))))))))))
  refine Ax U (fun h25=>?_) (fun h25=>?_)
  ·refine Ab (Ae (Ah 3 U (Ac (Z (An (AX (Ay (AX (Ay (Ay (AX (Ay (Ch U U U ?_)))))))))))))
   have e:Dt dg p ps fuel own=([],(Bp dg p x19 (BQ ps x19) fuel).2):=hgo.symm.trans (TG hx20 h25)
   replace H:=H.nil|>.newnil Ag
   exact Ak ⟨_,by rw [e]<;>rfl,by rw [e]<;>rfl⟩ H
  refine Ab (Ae (Ah 2 U ?_))
  refine Fe (d:=40) (b:=own) U (fun h26=>?_) (fun h26=>?_)
  ·refine Ad U (V U U (Hh (fs:=#[]) (cs:=#[.pointer (some ⟨b22,0,none⟩)]) U U U) (sc (NN 213 [.pointer (some ⟨b22,0,none⟩)] [blk b22 [.string x19] 9] (fun y=>decide (y.key≠x19)) UK (fun y=>SQ y b22 x19) u24 (Bp dg p x19 (BQ ps x19) fuel).1) H (lA 4 U BI (lA 0 U (fun _ h=>h) l0)) U U (Au O3 U U) ?_))
   rintro _ _ w ⟨rfl,rfl⟩ H
   refine Ah 2 U (Ac (Z ?_))
   refine DQ (b:=IW x19 (Bp dg p x19 (BQ ps x19) fuel).1) U (fun h27=>?_) (fun h27=>?_)
   ·refine Ab (Ae (Ah 2 U (Ac (Z (An (AX (Ay (AX (Ay (Ay (AX (Ay (Ch U U U ?_)))))))))))))
    have e:Dt dg p ps fuel own=([],6):=hgo.symm.trans (TF hx20 h25 h26 h27)
    replace H:=H.nil|>.newnil Ag
    replace H:Hd _ _ _ [Y Ag (.slice none 0 0) []] [Aa Af (.slice A1 p.length c2) p,Aa Ag (.slice A6 ps.length c7) ps,gl]:=H
    exact Ak ⟨_,by rw [e]<;>rfl,by rw [e]<;>rfl⟩ H
   refine Ab (Ae (Ah 2 U ?_))
   obtain ⟨A28,c29,rfl,hc30,hm31,hp32⟩:=H.fA 4 rfl
   refine V U U (Bc U Da U) ?_
   replace H:=H.p3
   replace H:Hd _ _ _ [blk b11 [.int .i64 (out.length:Int),.int .i64 0,.int .i64 0,.int .i64 0,.int .i64 0,.int .i64 0,.int .i64 0,.int .i64 0] 322,blk b22 [.string x19] 9,Y Ag q out,Y Bg (.slice A13 ((DF ps).length) c14) (DF ps),Y Ag (.slice A28 (((Bp dg p x19 (BQ ps x19) fuel).1).length) c29) ((Bp dg p x19 (BQ ps x19) fuel).1),Y Bg v23 (BQ ps x19)] [Aa Af (.slice A1 p.length c2) p,Aa Ag (.slice A6 ps.length c7) ps,gl]:=H
   refine sc (Q6 b11 (out.length:Int) 0 0 0 0 0 0 0 ((((Bp dg p x19 (BQ ps x19) fuel).1).length:Nat):Int) (by omega) (by omega)) H l0 U U (Au O_ U U) ?_
   rintro _ _ w ⟨rfl,rfl⟩ H
   replace H:=H.h1 (A:=blk b11 [.int .i64 (min ((out.length:Int)+((((Bp dg p x19 (BQ ps x19) fuel).1).length:Nat):Int)) 1099511627776),.int .i64 0,.int .i64 0,.int .i64 0,.int .i64 0,.int .i64 0,.int .i64 0,.int .i64 0] 322)
   refine V U U (Ck U U U) (Ad U (Ac (Z ?_)))
   refine Ax U (fun h33=>?_) (fun h33=>?_)
   ·refine Ab (Ae (Ah 2 U (Ac (Z (An (AX (Ay (AX (Ay (Ay (AX (Ay (Ch U U U ?_)))))))))))))
    have e:Dt dg p ps fuel own=([],5):=hgo.symm.trans (OC hx20 h25 (fun h=>by rw [h.2] at h27;cases h27) (by omega))
    replace H:=H.nil|>.newnil Ag
    exact Ak ⟨_,by rw [e]<;>rfl,by rw [e]<;>rfl⟩ H
   refine Av (AT (Z (Ae (Ah 2 U ?_))))
   replace H:=H.p2
   refine Cy (xs:=out) (ys:=(Bp dg p x19 (BQ ps x19) fuel).1) U U U By Dc U (by decide) U U H (by omega) (fun F hA hR=>BI F (hA _ (List.mem_of_getElem? (i:=3) U))) (fun v34 w H=>?_)
   replace H:=H.h1 (A:=Y Ag v34 (out++((Bp dg p x19 (BQ ps x19) fuel).1)))
   refine Ad U (Ac (AT (Z (Ae (V U U (AU (z:=((i+1:Nat):Int)) U U U (by rw [AB (by omega) (by omega)];omega)) (Ad U (Ac ?_)))))))
   replace H:=H.p3.p1.k3
   have hl2:((out++(Bp dg p x19 (BQ ps x19) fuel).1).length:Int)=min ((out.length:Int)+((((Bp dg p x19 (BQ ps x19) fuel).1).length:Nat):Int)) 1099511627776:=by rw [List.length_append];omega
   replace H:Hd w0 F0 w [Y Ag v34 (out++((Bp dg p x19 (BQ ps x19) fuel).1)),Y Bg (.slice A13 ((DF ps).length) c14) (DF ps),blk b11 [.int .i64 ((out++(Bp dg p x19 (BQ ps x19) fuel).1).length:Int),.int .i64 0,.int .i64 0,.int .i64 0,.int .i64 0,.int .i64 0,.int .i64 0,.int .i64 0] 322] [Aa Af (.slice A1 p.length c2) p,Aa Ag (.slice A6 ps.length c7) ps,gl]:=by rw [hl2];exact H
   have hg2:=(OD (out:=out) hx20 h25 (fun h=>by rw [h.2] at h27;cases h27) (by omega)).trans hgo
   have ho2:(out++(Bp dg p x19 (BQ ps x19) fuel).1).length≤40:=by rw [List.length_append];omega
   exact Bf (s:=(i,undef,out)) (i+1,v34,out++(Bp dg p x19 (BQ ps x19) fuel).1) ⟨rfl,rfl,rfl,rfl,rfl,rfl,rfl,rfl,rfl,trivial⟩ ⟨H,by (try dsimp only);omega,hg2,ho2⟩ (by (try dsimp only);omega)
  refine Ah 5 U (Ac (Z (B2 U (Ab (Ae (Ah 2 U ?_))))))
  obtain ⟨A35,c36,rfl,hc37,hm38,hp39⟩:=H.fA 4 rfl
  refine V U U (Bc U Da U) ?_
  replace H:=H.p3
  refine sc (Q6 b11 (out.length:Int) 0 0 0 0 0 0 0 ((((Bp dg p x19 (BQ ps x19) fuel).1).length:Nat):Int) (by omega) (by omega)) H l0 U U (Au O_ U U) ?_
  rintro _ _ w ⟨rfl,rfl⟩ H
  replace H:=H.h1 (A:=blk b11 [.int .i64 (min ((out.length:Int)+((((Bp dg p x19 (BQ ps x19) fuel).1).length:Nat):Int)) 1099511627776),.int .i64 0,.int .i64 0,.int .i64 0,.int .i64 0,.int .i64 0,.int .i64 0,.int .i64 0] 322)
  refine V U U (Ck U U U) (Ad U (Ac (Z ?_)))
  refine Ax U (fun h40=>?_) (fun h40=>?_)
  ·refine Ab (Ae (Ah 2 U (Ac (Z (An (AX (Ay (AX (Ay (Ay (AX (Ay (Ch U U U ?_)))))))))))))
   have e:Dt dg p ps fuel own=([],5):=hgo.symm.trans (OC hx20 h25 (fun h=>by rw [h.1] at h26;cases h26) (by omega))
   replace H:=H.nil|>.newnil Ag
   exact Ak ⟨_,by rw [e]<;>rfl,by rw [e]<;>rfl⟩ H
  refine Av (AT (Z (Ae (Ah 2 U ?_))))
  replace H:=H.p2
  refine Cy (xs:=out) (ys:=(Bp dg p x19 (BQ ps x19) fuel).1) U U U By Dc U (by decide) U U H (by omega) (fun F hA hR=>BI F (hA _ (List.mem_of_getElem? (i:=3) U))) (fun v41 w H=>?_)
  replace H:=H.h1 (A:=Y Ag v41 (out++((Bp dg p x19 (BQ ps x19) fuel).1)))
  refine Ad U (Ac (AT (Z (Ae (V U U (AU (z:=((i+1:Nat):Int)) U U U (by rw [AB (by omega) (by omega)];omega)) (Ad U (Ac ?_)))))))
  replace H:=H.p3.p1.k3
  have hl2:((out++(Bp dg p x19 (BQ ps x19) fuel).1).length:Int)=min ((out.length:Int)+((((Bp dg p x19 (BQ ps x19) fuel).1).length:Nat):Int)) 1099511627776:=by rw [List.length_append];omega
  replace H:Hd w0 F0 w [Y Ag v41 (out++((Bp dg p x19 (BQ ps x19) fuel).1)),Y Bg (.slice A13 ((DF ps).length) c14) (DF ps),blk b11 [.int .i64 ((out++(Bp dg p x19 (BQ ps x19) fuel).1).length:Int),.int .i64 0,.int .i64 0,.int .i64 0,.int .i64 0,.int .i64 0,.int .i64 0,.int .i64 0] 322] [Aa Af (.slice A1 p.length c2) p,Aa Ag (.slice A6 ps.length c7) ps,gl]:=by rw [hl2];exact H
  have hg2:=(OD (out:=out) hx20 h25 (fun h=>by rw [h.1] at h26;cases h26) (by omega)).trans hgo
  have ho2:(out++(Bp dg p x19 (BQ ps x19) fuel).1).length≤40:=by rw [List.length_append];omega
  exact Bf (s:=(i,undef,out)) (i+1,v41,out++(Bp dg p x19 (BQ ps x19) fuel).1) ⟨rfl,rfl,rfl,rfl,rfl,rfl,rfl,rfl,rfl,trivial⟩ ⟨H,by (try dsimp only);omega,hg2,ho2⟩ (by (try dsimp only);omega)
 refine BD (AM (AM (BE (Z (Ab (Ae (Ah 3 U (Ac (Z (An (Ch U U U ?_)))))))))))
 replace H:=H.k1
 have e:Dt dg p ps fuel own=(out,0):=hgo.symm.trans (TE (by omega))
 replace H:=H.h1 (A:=Y Ag q out)
 exact Ak ⟨_,by rw [e]<;>rfl,by rw [e]<;>rfl⟩ H
theorem Tw (vp:Value) (p:List BC) (vps:Value) (ps:List Ap) (fuel:Int) (hpa:∀ i∈p,AE i.a) (hfu:AE fuel) (hb:ps.length≤1000000):
    Cn Tryz.prog 137 [vp,vps,.int .i64 fuel] [] [Aa Af vp p,Aa Ag vps ps,gl] (fun v Bs=>∃ u,v=.tuple #[u,.int .i64 (Dt dg p ps fuel false).2]∧Bs=[Y Ag u (Dt dg p ps fuel false).1]):=by
 intro w0 F0 H
 refine enter Tryz.func137 U U (Nat.le_of_ble_eq_true U) (Ab (Ae (Ah 2 U (Ac (Z (Ab (Ae (Ah 3 U (sc (NZ vp p vps ps fuel false hpa hfu hb) H (lR 0 U (lR 1 U (lR 2 U l0))) U U (Au O5 U U) ?_)))))))))
 rintro _ _ w ⟨u1,rfl,rfl⟩ H
 refine Ah 4 U (Ac (Z ?_))
 replace H:Hd _ _ _ [Y Ag u1 ((Dt dg p ps fuel false).1)] [Aa Af vp p,Aa Ag vps ps,gl]:=H
 exact An (Ch U U U (Ak ⟨_,rfl,rfl⟩ H))
theorem Tv (vp:Value) (p:List BC) (vps:Value) (ps:List Ap) (fuel:Int) (hpa:∀ i∈p,AE i.a) (hfu:AE fuel) (hb:ps.length≤1000000):
    Cn Tryz.prog 125 [vp,vps,.int .i64 fuel] [] [Aa Af vp p,Aa Ag vps ps,gl] (fun v Bs=>∃ u,v=.tuple #[u,.int .i64 (FH dg p ps fuel).2]∧Bs=[Y Ag u (FH dg p ps fuel).1]):=by
 intro w0 F0 H
 obtain ⟨A1,c2,rfl,hc3,hm4,hp5⟩:=H.fR 0 rfl
 obtain ⟨A6,c7,rfl,hc8,hm9,hp10⟩:=H.fR 1 rfl
 refine enter Tryz.func125 U U (Nat.le_of_ble_eq_true U) (Ab (Ae (Ah 2 U (Ac (Z ?_)))))
 replace H:Hd _ _ _ [] [Aa Af (.slice A1 p.length c2) p,Aa Ag (.slice A6 ps.length c7) ps,gl]:=H
 refine Ab (Ab (Ae (Ad U (V U U (Bc U FD U) (V U U (A0 U U U) (Ac (Z ?_)))))))
 refine Ax U (fun h11=>?_) (fun h11=>?_)
 ·refine Ab (Ae (Ad U (sc (Mj (.slice A6 ps.length c7) ps (by first |omega|decide)) H (lR 1 U l0) U U (Au LR U U) ?_)))
  rintro v12 _ w rfl H
  replace H:=H.h1 (A:=Y Ag v12 (srt ps))
  refine Ah 2 U (Ac (Z (An (Ay (Ch U U U ?_)))))
  have e:FH dg p ps fuel=(srt ps,0):=if_pos (by omega)
  exact Ak ⟨_,by rw [e]<;>rfl,by rw [e]<;>rfl⟩ H
 refine Av (Z (Ab (Ae (Ah 3 U (sc (NZ (.slice A1 p.length c2) p (.slice A6 ps.length c7) ps fuel true hpa hfu hb) H (lR 0 U (lR 1 U (lR 2 U l0))) U U (Au O5 U U) ?_)))))
 rintro _ _ w ⟨u13,rfl,rfl⟩ H
 replace H:=H.h1 (A:=Y Ag u13 ((Dt dg p ps fuel true).1))
 refine Ah 4 U (Ac (Z (An (Ch U U U ?_))))
 have e:FH dg p ps fuel=Dt dg p ps fuel true:=if_neg (by omega)
 exact Ak ⟨_,by rw [e]<;>rfl,by rw [e]<;>rfl⟩ H
theorem HR (vxs:Value) (xs:List BC):
    Cn Tryz.prog 87 [vxs] [] [Aa Af vxs xs] (fun v Bs=>v=.bool (EJ xs)∧Bs=[]):=by
 intro w0 F0 H
 obtain ⟨A1,c2,rfl,hc3,hm4,hp5⟩:=H.fR 0 rfl
 refine enter Tryz.func87 U U (Nat.le_of_ble_eq_true U) (Ab (Ae (Ad U (Ac (Z ?_)))))
 replace H:Hd _ _ _ [] [Aa Af (.slice A1 xs.length c2) xs]:=H
 refine Ab (Ab (Ae (Ad U (Ac (Z (AQ (BL (σ:=Nat) (fun k=>[(0,.slice A1 xs.length c2),(3,.int .i64 ((k:Nat):Int))]) (fun k w=>(Hd w0 F0 w [] [Aa Af (.slice A1 xs.length c2) xs])∧(k≤xs.length)∧(∀ y∈xs.take k,y.s.size≤100)) (fun k=>xs.length - k) 0 ⟨rfl,rfl,trivial⟩ ⟨H,by omega,by simp⟩ ?_)))))))
 rintro k w ⟨H,hk,hn⟩
 refine Ab (Ab (Ae (Ah 2 U (V U U (Bc U FD U) (V U U (Bb U U U) (Ad U ?_))))))
 refine AN (d:=8) U (fun h6=>?_) (fun h6=>?_)
 ·refine Ad U (V U U (Bc U FD U) (V U U (Co U U U) (Ad U (Ac (Z ?_)))))
  refine Ax U (fun h7=>?_) (fun h7=>?_)
  ·refine Av (Z (Ab (AQ (Ab (Ae (Ah 2 U ?_))))))
   obtain ⟨x8,hx9⟩:∃ z9,xs[k]?=some z9:=⟨_,List.getElem?_eq_getElem (show k<xs.length by omega)⟩
   have th10:=H.thR 0 rfl hx9
   refine V U U (AY (p:=AS A1+k*3) U GY U U (by omega) (by omega) th10 U) (V U U (Aj U EV U) (V U U (Al U BS U (H.elR 0 U hx9 (q:=2) U U)) (V U U (Dp U CA U) (V U U (Ck U U U) (Ac (Z ?_))))))
   refine Ax U (fun h11=>?_) (fun h11=>?_)
   ·exact Ab (Ae (Ad U (Ac (Z (An (AX (Ay (Ay (AX (Ay (Aq U U (Ak ⟨congrArg Value.bool (TK hx9 (by omega)),rfl⟩ H))))))))))))
   exact Av (AT (Z (Ae (Ad U (V U U (AU (z:=((k+1:Nat):Int)) U U U (by rw [AB (by omega) (by omega)];omega)) (Ad U (Ac (Bf (s:=k) (k+1) ⟨rfl,rfl,trivial⟩ ⟨H,by (try dsimp only);omega,Zg hn hx9 (by omega)⟩ (by (try dsimp only);omega)))))))))
  exact BD (AM (AM (BE (Z (Ab (Ae (Ad U (V U U (Bc U FD U) (V U U (Ck U U U) (Ad U (Ac (Z (An (Aq U U (Ak ⟨congrArg Value.bool (OH hn (by omega)),rfl⟩ H)))))))))))))))
 exact Ah 4 U (Ac (Z (B2 U (BD (AM (AM (BE (Z (Ab (Ae (Ad U (V U U (Bc U FD U) (V U U (Ck U U U) (Ad U (Ac (Z (An (Aq U U (Ak ⟨congrArg Value.bool (OH hn (by omega)),rfl⟩ H)))))))))))))))))))
/-! ### What is told is small -/
def TS (r:VM×Int):Prop:=∀ q∈r.1.told,C8 q
theorem D1 {c:Prop} [Decidable c] {x y:VM×Int} (hx:TS x) (hy:TS y):TS (if c then x else y):=by
 split
 ·exact hx
 ·exact hy
theorem SW {told:List Ap} {k v:ByteArray} (h:∀ q∈told,C8 q) (hv:v.size≤64):∀ q∈(DS told k v).2,C8 q:=by
 unfold DS
 split
 ·exact h
 ·split
  ·exact h
  ·intro q hq
   rcases List.mem_append.1 hq with h1|h1
   ·exact h q h1
   ·rw [List.mem_singleton.1 h1]
    exact ⟨by (try dsimp only);omega,hv⟩
theorem Ry {D:A8} {key:ByteArray} {m:VM} {i:BC} {v:List AP} (h:∀ q∈m.told,C8 q) (hv:(v.getD 1 CE).b.size≤64):TS (B9 D key m i v):=by
 have hn:TS (GR m):=by unfold TS;rw [PS];exact h
 have h20:TS (if (v.getD 0 CE).n≠0 then {m with pos:=i.a} else m,0):=by
  unfold TS
  dsimp only
  split<;>exact h
 exact D1 h (D1 h (D1 h (D1 h (D1 h (D1 h (D1 hn (D1 h (D1 h (D1 h (D1 h (D1 h (D1 h (D1 h (D1 h (D1 h (D1 h20 (D1 h (D1 h (D1 (SW h hv) h)))))))))))))))))))
theorem NV {D:A8} {key:ByteArray} {n:Int} {m:VM} {i:BC} (hm:Eo n m) (h:∀ q∈m.told,C8 q):TS (BF D key m i):=by
 by_cases hN:(Aw i.op m.stk).1≠0
 ·rw [La hN];exact h
 ·rw [Dl hN]
  obtain ⟨l1,l2,l3,l4⟩:=L7 (Classical.not_not.1 hN)
  exact Ry h (Mb (fun x hx=>hm.ok.1 x (l3 x hx)) 1).2
theorem Jr {p:List BC} (h:Dx p<0):p.length≤40∧∀ i∈p,BG i p.length:=by
 have hl:p.length≤40:=by
  apply Classical.byContradiction
  intro hn
  unfold Dx at h
  split at h
  ·omega
  ·rw [if_pos (by omega)] at h;omega
 exact ⟨hl,(Nt hl).1 h⟩
theorem Qd {D:A8} (hD:∀ s:ByteArray,AE (D.num s)) {p:List BC} {key:ByteArray} (hp:Dx p<0) (ha:∀ i∈p,AE i.a):∀ (k:Nat) {m:VM},Eo p.length m→(∀ q∈m.told,C8 q)→TS (CI D p key k m)
 |0,m,hm,h=>by
  unfold CI
  split<;>exact h
 |k+1,m,hm,h=>by
  by_cases hc:m.pos<p.length∧m.halted=false
  ·obtain ⟨i,hi⟩:∃ i,p[m.pos.toNat]?=some i:=⟨_,List.getElem?_eq_getElem (by have:=hm.pos;omega)⟩
   have him:=Cb hi
   have hm1:Eo p.length {m with pos:=m.pos+1}:=⟨hm.ok,hm.len,hm.told,(by have h9:=hm.pos;constructor<;>(try dsimp only)<;>omega)⟩
   by_cases hw:(BF D key {m with pos:=m.pos+1} i).2≠0
   ·rw [Qa hc hi hw]
    exact NV hm1 h
   ·rw [Qb hc hi hw]
    exact Qd hD hp ha k (OV hD hm1 ((Jr hp).2 i him) (ha i him) (Classical.not_not.1 hw)) (NV hm1 h)
  ·rw [Mm _ hc];exact h
theorem T8 (n:Int) (hn:0≤n) (vals:List ByteArray):Eo n (Dw vals):=⟨⟨(fun v hv=>by cases hv),fun _=>Md⟩,Nat.zero_le _,Nat.zero_le _,⟨Int.le_refl 0,hn⟩⟩
theorem QP {D:A8} (hD:∀ s:ByteArray,AE (D.num s)) {p:List BC} (ha:∀ i∈p,AE i.a) (key:ByteArray) (vals:List ByteArray) (fuel:Int):∀ q∈(Bp D p key vals fuel).1,C8 q:=by
 unfold Bp
 split
 ·intro q hq;cases hq
 ·rename_i hn
  split
  ·intro q hq;cases hq
  ·exact Qd hD (by omega) ha _ (T8 _ (by omega) _) (fun q hq=>by cases hq)
theorem Y3 {xs:List Ap} (h:∀ q∈xs,C8 q):∀ q∈srt xs,C8 q:=fun q hq=>h q ((Gb xs).symm.mem hq)
theorem NX {D:A8} (hD:∀ s:ByteArray,AE (D.num s)) {p:List BC} (ha:∀ i∈p,AE i.a) {ps:List Ap} {fuel:Int} {own:Bool}:∀ (ks:List ByteArray) (out:List Ap),(∀ q∈out,C8 q)→∀ q∈(Es D p ps fuel own ks out).1,C8 q
 |[],out,h=>h
 |k::ks,out,h=>by
  unfold Es
  split
  ·intro q hq;cases hq
  ·split
   ·intro q hq;cases hq
   ·split
    ·intro q hq;cases hq
    ·refine NX hD ha ks _ fun q hq=>?_
     rcases List.mem_append.1 hq with h1|h1
     ·exact h q h1
     ·exact QP hD ha _ _ _ q h1
/-! ### In order -/
theorem Sx {D:A8} (hD:∀ s:ByteArray,AE (D.num s)) {p:List BC} (ha:∀ i∈p,AE i.a) {ps:List Ap} {fuel:Int} (h:∀ q∈ps,C8 q):∀ q∈(FH D p ps fuel).1,C8 q:=by
 unfold FH
 split
 ·exact Y3 h
 ·exact NX hD ha _ _ fun q hq=>by cases hq
theorem Sw (D:A8) (p:List BC) (ps:List Ap) (fuel:Int) (h:ps.length≤40):(FH D p ps fuel).1.length≤40:=by
 unfold FH
 split
 ·show (srt ps).length≤40
  rw [Ga];exact h
 ·exact NY D p ps fuel true _ _ (Nat.zero_le _)
/-! ### Jobs -/
structure AC where
 us:List (Value×List Ap)
 parts:Int
 map:List BC
 comb:List BC
 red:List BC
 chunk:Int
 window:Int
 fuel:Int
 marks:List Int
def GS (x:List Ap):Prop:=x.length≤8∧He x
instance (x:List Ap):Decidable (GS x):=inferInstanceAs (Decidable (_∧_))
def Gp (n:Int):Int→List Int→Prop
 |_,[]=>True
 |l,m::ms=>(l+1≤m∧m≤n)∧Gp n m ms
instance marksUpD (n:Int):∀ (l:Int) (ms:List Int),Decidable (Gp n l ms)
 |_,[]=>isTrue trivial
 |_,m::ms=>haveI:=marksUpD n m ms;inferInstanceAs (Decidable (_∧_))
def D8 (J:AC):Prop:=
 (1≤(J.us.length:Int)∧(J.us.length:Int)≤6)∧(1≤J.parts∧J.parts≤4)∧J.marks.length≤4∧(∀ u∈J.us,GS u.2)∧Gp J.us.length 0 J.marks∧
 (0<J.map.length∧Dx J.map<0)∧(0<J.red.length∧Dx J.red<0)∧Dx J.comb<0∧(1≤J.chunk∧J.chunk≤7)∧(1≤J.window∧J.window≤4)∧1≤J.fuel∧J.fuel≤2000
instance mayJD (J:AC):Decidable (D8 J):=by unfold D8;infer_instance
structure B8 (J:AC):Prop where
 may:D8 J
 map:∀ i∈J.map,AE i.a
 comb:∀ i∈J.comb,AE i.a
 red:∀ i∈J.red,AE i.a
theorem B8.us {J:AC} (h:B8 J):1≤J.us.length∧J.us.length≤6:=by have:=h.may.1;omega
theorem B8.parts {J:AC} (h:B8 J):1≤J.parts∧J.parts≤4:=h.may.2.1
theorem B8.fuel {J:AC} (h:B8 J):1≤J.fuel∧J.fuel≤2000:=h.may.2.2.2.2.2.2.2.2.2.2
theorem B8.split {J:AC} (h:B8 J):∀ u∈J.us,GS u.2:=h.may.2.2.2.1
theorem B8.f64 {J:AC} (h:B8 J):AE J.fuel:=by have:=h.fuel;unfold AE;omega
def EK (D:A8) (p:List BC) (fuel:Int):List Ap→List Ap→List Ap×Int
 |[],out=>(out,0)
 |r::rs,out=>
  if (Bp D p r.key [r.val] fuel).2≠0 then ([],(Bp D p r.key [r.val] fuel).2)
  else if 40<out.length+(Bp D p r.key [r.val] fuel).1.length then ([],5)
  else EK D p fuel rs (out++(Bp D p r.key [r.val] fuel).1)
section
variable {D:A8} {p:List BC} {fuel:Int} {rs:List Ap} {r:Ap} {out:List Ap} {i:Nat}
theorem VS (h:rs.length≤i):EK D p fuel (rs.drop i) out=(out,0):=by
 rw [List.drop_eq_nil_of_le h];rfl
theorem VX (hr:rs[i]?=some r) (h:(Bp D p r.key [r.val] fuel).2≠0):EK D p fuel (rs.drop i) out=([],(Bp D p r.key [r.val] fuel).2):=by
 rw [E6 hr];exact if_pos h
theorem VT (hr:rs[i]?=some r) (h:¬ (Bp D p r.key [r.val] fuel).2≠0) (h3:40<out.length+(Bp D p r.key [r.val] fuel).1.length):EK D p fuel (rs.drop i) out=([],5):=by
 rw [E6 hr];unfold EK;rw [if_neg h,if_pos h3]
theorem VV (hr:rs[i]?=some r) (h:¬ (Bp D p r.key [r.val] fuel).2≠0) (h3:¬ 40<out.length+(Bp D p r.key [r.val] fuel).1.length):
  EK D p fuel (rs.drop (i+1)) (out++(Bp D p r.key [r.val] fuel).1)=EK D p fuel (rs.drop i) out:=by
 rw [E6 hr];conv=>rhs;unfold EK
 rw [if_neg h,if_neg h3]
theorem PJ (hD:∀ s:ByteArray,AE (D.num s)) (ha:∀ i∈p,AE i.a):∀ (rs out:List Ap),(∀ q∈out,C8 q)→∀ q∈(EK D p fuel rs out).1,C8 q
 |[],out,h=>h
 |r::rs,out,h=>by
  unfold EK
  split
  ·intro q hq;cases hq
  ·split
   ·intro q hq;cases hq
   ·refine PJ hD ha rs _ fun q hq=>?_
    rcases List.mem_append.1 hq with h1|h1
    ·exact h q h1
    ·exact QP hD ha _ _ _ q h1
theorem PH:∀ (rs out:List Ap),out.length≤40→(EK D p fuel rs out).1.length≤40
 |[],out,h=>h
 |r::rs,out,h=>by
  unfold EK
  split
  ·exact Nat.zero_le _
  ·split
   ·exact Nat.zero_le _
   ·exact PH rs _ (by simp only [List.length_append];omega)
end
def recs (J:AC) (s:Nat):List Ap:=match J.us[s]? with
 |some u=>u.2
 |none=>[]
theorem X2 {J:AC} {s:Nat} {u:Value×List Ap} (h:J.us[s]?=some u):recs J s=u.2:=by unfold recs;rw [h]
def mapM (D:A8) (J:AC) (s:Nat):List Ap×Int:=EK D J.map J.fuel (recs J s) []
def Az (D:A8) (J:AC) (s:Nat):List Ap×Int:=if (mapM D J s).2≠0 then ([],(mapM D J s).2) else FH D J.comb (mapM D J s).1 J.fuel
theorem PG (D:A8) (J:AC) (s:Nat):(mapM D J s).1.length≤40:=PH _ _ (Nat.zero_le _)
theorem Ih (D:A8) (J:AC) (s:Nat):(Az D J s).1.length≤40:=by
 unfold Az
 split
 ·exact Nat.zero_le _
 ·exact Sw _ _ _ _ (PG _ _ _)
theorem Jc {D:A8} (hD:∀ s:ByteArray,AE (D.num s)) {J:AC} (h:B8 J) (s:Nat):∀ q∈(Az D J s).1,C8 q:=by
 unfold Az
 split
 ·intro q hq;cases hq
 ·exact Sx hD h.comb (PJ hD h.map _ _ fun q hq=>by cases hq)
def Cr (D:A8) (J:AC) (s:Nat) (p:Int):List Ap:=EW (Az D J s).1 J.parts p
def Iw (D:A8) (J:AC) (p:Int):Nat→List Ap
 |0=>[]
 |k+1=>Iw D J p k++Cr D J k p
theorem IV (D:A8) (J:AC) (s:Nat) (p:Int):(Cr D J s p).length≤40:=Nat.le_trans (P3 _ _ _) (Ih _ _ _)
def H8 (D:A8) (J:AC) (p:Int):List Ap×Int:=Dt D J.red (srt (Iw D J p J.us.length)) J.fuel false
def partsGo (D:A8) (J:AC):Nat→Nat→List (List Ap)→List (List Ap)×Int×Int
 |0,_,out=>(out,0,0)
 |k+1,p,out=>if (H8 D J p).2≠0 then ([],(H8 D J p).2,p) else partsGo D J k (p+1) (out++[(H8 D J p).1])
def wholeGo (D:A8) (J:AC):Nat→Nat→List (List Ap)×Int×Int
 |0,_=>partsGo D J J.parts.toNat 0 []
 |k+1,s=>if (Az D J s).2≠0 then ([],(Az D J s).2,s) else wholeGo D J k (s+1)
def MW (D:A8) (J:AC):List (List Ap)×Int×Int:=wholeGo D J J.us.length 0
section
variable {D:A8} {J:AC} {s p:Nat} {out:List (List Ap)}
end
def MA (D:A8) (J:AC) (s:Nat) (p:Int):List Ap×Int:=if (Az D J s).2≠0 then ([],(Az D J s).2) else (Cr D J s p,0)
def GN (J:AC):Bool:=decide (¬ (J.us.length≤8∧∀ u∈J.us,E9 u.2 10=false))||decide (10<(J.marks.length:Int))||EJ J.map||EJ J.comb||EJ J.red
theorem TH {J:AC} {k:Nat} {A:Value} {x:List Ap} (hx:J.us[k]?=some (A,x)) (h:E9 x 10=true):true=GN J:=by
 unfold GN
 rw [decide_eq_true (show ¬ (J.us.length≤8∧∀ u∈J.us,E9 u.2 10=false) from fun g=>by have:=g.2 _ (Cb hx);rw [h] at this;cases this)]
 simp
theorem GO {J:AC} (h:8<J.us.length∨10<J.marks.length∨EJ J.map=true∨EJ J.comb=true):true=GN J:=by
 unfold GN
 rcases h with h|h|h|h
 ·rw [decide_eq_true (show ¬ (J.us.length≤8∧∀ u∈J.us,E9 u.2 10=false) from fun g=>by omega)];simp
 ·rw [decide_eq_true (show 10<(J.marks.length:Int) by omega)];simp
 ·rw [h];simp
 ·rw [h];simp
theorem OE {J:AC} {k:Nat} (hn:∀ u∈J.us.take k,E9 u.2 10=false) (h1:J.us.length≤k) (h2:J.us.length≤8) (h3:J.marks.length≤10) (h4:EJ J.map=false) (h5:EJ J.comb=false):EJ J.red=GN J:=by
 unfold GN
 rw [List.take_of_length_le h1] at hn
 rw [decide_eq_false (show ¬ ¬ (J.us.length≤8∧∀ u∈J.us,E9 u.2 10=false) from fun g=>g ⟨h2,hn⟩),decide_eq_false (show ¬ 10<(J.marks.length:Int) by omega),h4,h5]
 simp
theorem Gg (n:Int) (l:Int) (m:Int):
    Cn Tryz.prog 89 [.int .i64 n,.int .i64 l,.int .i64 m] [] [] (fun v Bs=>v=.bool (decide (l≤n∧n≤m))∧Bs=[]):=by
 intro w0 F0 H
 refine enter Tryz.func89 U U (Nat.le_of_ble_eq_true U) (Ab (Ae (Ad U (Ac (Z (Ab (Ae (Ah 2 U (V U U (CL U U U) (Ad U ?_))))))))))
 refine AN (d:=10) U (fun h1=>?_) (fun h1=>?_)
 ·exact Ah 2 U (V U U (Co U U U) (Ah 2 U (Ac (Z (An (Aq U U (Ak ⟨congrArg Value.bool (decide_eq_decide.2 (by omega)),rfl⟩ H)))))))
 exact Ah 5 U (Ac (Z (An (Aq U U (Ak ⟨congrArg Value.bool ((decide_eq_false (by omega)).symm),rfl⟩ H)))))
theorem OY (vxs:Value) (xs:List BC):
    Cn Tryz.prog 153 [vxs] [] [Aa Af vxs xs] (fun v Bs=>v=.bool (decide (0<(xs).length∧Dx xs<0))∧Bs=[]):=by
 intro w0 F0 H
 obtain ⟨A1,c2,rfl,hc3,hm4,hp5⟩:=H.fR 0 rfl
 refine enter Tryz.func153 U U (Nat.le_of_ble_eq_true U) (Ab (Ae (Ad U (Ac (Z ?_)))))
 replace H:Hd _ _ _ [] [Aa Af (.slice A1 xs.length c2) xs]:=H
 refine Ab (Ae (Ad U (V U U (Bc U FD U) (V U U (Ck U U U) (Ad U ?_)))))
 refine AN (d:=6) U (fun h6=>?_) (fun h6=>?_)
 ·refine Ad U (sc (Mg (.slice A1 xs.length c2) xs) H (lR 0 U l0) U U (Au LO U U) ?_)
  rintro _ _ w ⟨rfl,rfl⟩ H
  exact Ah 2 U (Ac (Z (An (Aq U U (Ak ⟨congrArg Value.bool (decide_eq_decide.2 (by omega)),rfl⟩ H)))))
 exact Ah 4 U (Ac (Z (An (Aq U U (Ak ⟨congrArg Value.bool ((decide_eq_false (by omega)).symm),rfl⟩ H)))))
theorem OX (vS vM vC vR vK:Value) (J:AC):
    Cn Tryz.prog 88 [.agg #[vS,.int .i64 J.parts,vM,vC,vR,.int .i64 J.chunk,.int .i64 J.window,.int .i64 J.fuel,vK]] [] [Aa (Am Ag) vS J.us,Aa Af vM J.map,Aa Af vC J.comb,Aa Af vR J.red,Aa (Ai .i64) vK J.marks] (fun v Bs=>v=.bool (decide (D8 J))∧Bs=[]):=by
 intro w0 F0 H
 obtain ⟨A1,c2,rfl,hc3,hm4,hp5⟩:=H.fR 0 rfl
 obtain ⟨A6,c7,rfl,hc8,hm9,hp10⟩:=H.fR 1 rfl
 obtain ⟨A11,c12,rfl,hc13,hm14,hp15⟩:=H.fR 2 rfl
 obtain ⟨A16,c17,rfl,hc18,hm19,hp20⟩:=H.fR 3 rfl
 obtain ⟨A21,c22,rfl,hc23,hm24,hp25⟩:=H.fR 4 rfl
 refine enter Tryz.func88 U U (Nat.le_of_ble_eq_true U) (Ab (Ae (Ct U U U U H (fun b26 w H=>(Ad U (Ac (Z ?_)))))))
 replace H:Hd _ _ _ [blk b26 [.slice A1 J.us.length c2,.int .i64 J.parts,.slice A6 J.map.length c7,.slice A11 J.comb.length c12,.slice A16 J.red.length c17,.int .i64 J.chunk,.int .i64 J.window,.int .i64 J.fuel,.slice A21 J.marks.length c22] 26] [Aa (Am Ag) (.slice A1 J.us.length c2) J.us,Aa Af (.slice A6 J.map.length c7) J.map,Aa Af (.slice A11 J.comb.length c12) J.comb,Aa Af (.slice A16 J.red.length c17) J.red,Aa (Ai .i64) (.slice A21 J.marks.length c22) J.marks]:=H
 refine Ab (Ab (Ae (V U U (Aj U DT U) (V U U (Al U DX U (H.cellI 0 U U)) (V U U (Bc U Ei U) (sc (Gg ((J.us.length:Nat):Int) 1 6) H l0 U U (Au F5 U U) ?_))))))
 rintro _ _ w ⟨rfl,rfl⟩ H
 refine V U U (Ea U U) (Ad U ?_)
 refine AN (d:=13) U (fun h27=>?_) (fun h27=>?_)
 ·refine Ah 11 U (Ac (Z (CG U (Ab (Ae (Ad U (Ac (Z (An (Ay (Aq U U ?_)))))))))))
  replace H:=H.nil
  have e:¬ D8 J:=by
    rintro ⟨g1,g2,g3,g4,g5,g6,g7,g8,g9,g10,g11⟩
    omega
  exact Ak ⟨congrArg Value.bool (decide_eq_false e).symm,rfl⟩ H
 refine V U U (Aj U GL U) (V U U (Al U AA U (H.cellI 0 U U)) (sc (Gg J.parts 1 4) H l0 U U (Au F5 U U) ?_))
 rintro _ _ w ⟨rfl,rfl⟩ H
 refine V U U (Ea U U) (Ah 2 U ?_)
 refine AN (d:=19) U (fun h28=>?_) (fun h28=>?_)
 ·refine Ah 5 U (Ac (Z (CG U (Ab (Ae (Ad U (Ac (Z (An (Ay (Aq U U ?_)))))))))))
  replace H:=H.nil
  have e:¬ D8 J:=by
    rintro ⟨g1,g2,g3,g4,g5,g6,g7,g8,g9,g10,g11⟩
    omega
  exact Ak ⟨congrArg Value.bool (decide_eq_false e).symm,rfl⟩ H
 refine V U U (Aj U HP U) (V U U (Al U EY U (H.cellI 0 U U)) (V U U (Bc U EP U) (V U U (Ck U U U) (Ad U (Ac (Z ?_))))))
 refine Ax U (fun h29=>?_) (fun h29=>?_)
 ·refine Ab (Ae (Ad U (Ac (Z (An (Ay (Aq U U ?_)))))))
  replace H:=H.nil
  have e:¬ D8 J:=by
    rintro ⟨g1,g2,g3,g4,g5,g6,g7,g8,g9,g10,g11⟩
    omega
  exact Ak ⟨congrArg Value.bool (decide_eq_false e).symm,rfl⟩ H
 refine Av (Z (Ab (Ab (Ae (V U U (Aj U DT U) (V U U (Al U DX U (H.cellI 0 U U)) (V U U (Bc U Ei U) (Ad U (Ac (Z (AQ (BL (σ:=Nat) (fun k=>[(1,.pointer (some ⟨b26,0,none⟩)),(26,.slice A1 J.us.length c2),(27,.int .i64 ((J.us.length:Nat):Int)),(28,.int .i64 ((k:Nat):Int))]) (fun k w=>(Hd w0 F0 w [blk b26 [.slice A1 J.us.length c2,.int .i64 J.parts,.slice A6 J.map.length c7,.slice A11 J.comb.length c12,.slice A16 J.red.length c17,.int .i64 J.chunk,.int .i64 J.window,.int .i64 J.fuel,.slice A21 J.marks.length c22] 26] [Aa (Am Ag) (.slice A1 J.us.length c2) J.us,Aa Af (.slice A6 J.map.length c7) J.map,Aa Af (.slice A11 J.comb.length c12) J.comb,Aa Af (.slice A16 J.red.length c17) J.red,Aa (Ai .i64) (.slice A21 J.marks.length c22) J.marks])∧(k≤J.us.length)∧(∀ u∈J.us.take k,GS u.2)) (fun k=>J.us.length - k) 0 ⟨rfl,rfl,rfl,rfl,trivial⟩ ⟨H,by omega,by simp⟩ ?_))))))))))))
 rintro k w ⟨H,hk,hn⟩
 refine Ab (Ae (V U U (Bb U U U) (Ac (Z (Ab ?_)))))
 refine Ax U (fun h30=>?_) (fun h30=>?_)
 ·refine Av (Z (Ab (AQ (Ab (Ae ?_)))))
  obtain ⟨⟨u33,x31⟩,hx32⟩:∃ z9,J.us[k]?=some z9:=⟨_,List.getElem?_eq_getElem (show k<J.us.length by omega)⟩
  obtain ⟨A34,c35,rfl,hc36,hm37⟩:=H.nestR 0 rfl hx32
  have th38:=H.thRd 0 rfl hx32
  refine V U U (AY (p:=AS A1+k*1) U Fz U U (by omega) (by omega) th38 U) (V U U (Al U EO U (H.elRd 0 U hx32 U)) (Ad U (Ac (Z (Ab (Ae (Ad U (V U U (Bc U Da U) (V U U (Ck U U U) (Ad U ?_))))))))))
  refine AN (d:=35) U (fun h39=>?_) (fun h39=>?_)
  ·refine Ah 4 U (Ac (Z (CG U (Ab (Ae (Ad U (Ac (Z (An (AX (Ay (Ay (AX (Ay (Aq U U ?_)))))))))))))))
   replace H:=H.nil
   have e:¬ D8 J:=by
     rintro ⟨g1,g2,g3,g4,g5,g6,g7,g8,g9,g10,g11⟩
     have g:=g4 _ (Cb hx32);have ga:x31.length≤8:=g.1;first |exact (h39 g.2).elim|omega
   exact Ak ⟨congrArg Value.bool (decide_eq_false e).symm,rfl⟩ H
  refine Ad U (sc (WZ (.slice A34 x31.length c35) x31) H (lX (fun F hA hR=>HY (hR _ (List.mem_of_getElem? (i:=0) U)) hx32) l0) U U (Au Ui U U) ?_)
  rintro _ _ w ⟨rfl,rfl⟩ H
  refine V U U (Ea U U) (Ad U (Ac (Z ?_)))
  refine Ax U (fun h40=>?_) (fun h40=>?_)
  ·refine Ab (Ae (Ad U (Ac (Z (An (AX (Ay (Ay (AX (Ay (Aq U U ?_)))))))))))
   replace H:=H.nil
   have e:¬ D8 J:=by
     rintro ⟨g1,g2,g3,g4,g5,g6,g7,g8,g9,g10,g11⟩
     have g:=g4 _ (Cb hx32);have ga:x31.length≤8:=g.1;first |exact (h40 g.2).elim|omega
   exact Ak ⟨congrArg Value.bool (decide_eq_false e).symm,rfl⟩ H
  refine Av (AT (Z (Ae (V U U (AU (z:=((k+1:Nat):Int)) U U U (by rw [AB (by omega) (by omega)];omega)) (Ad U (Ac ?_))))))
  have hn2:=Ho (Q:=fun u:Value×List Ap=>GS u.2) hn hx32 ⟨(show x31.length≤8 by omega),Classical.not_not.1 h40⟩
  exact Bf (s:=k) (k+1) ⟨rfl,rfl,rfl,rfl,trivial⟩ ⟨H,by (try dsimp only);omega,hn2⟩ (by (try dsimp only);omega)
 refine BD (AM (AM (BE (Z (Ab (Ae (Ad U (Ac (Z (Ab (Ab (Ae (V U U (Aj U HP U) (V U U (Al U EY U (H.cellI 0 U U)) (V U U (Bc U EP U) (Ad U (Ac (Z (AQ ?_)))))))))))))))))))
 have hal:∀ u∈J.us,GS u.2:=by rw [←Gw (xs:=J.us) (k:=k) (by omega)];exact hn
 refine BL (σ:=Nat×Int) (fun (j,last)=>[(1,.pointer (some ⟨b26,0,none⟩)),(5,.int .i64 last),(42,.slice A21 J.marks.length c22),(43,.int .i64 ((J.marks.length:Nat):Int)),(44,.int .i64 ((j:Nat):Int))]) (fun (j,last) w=>(Hd w0 F0 w [blk b26 [.slice A1 J.us.length c2,.int .i64 J.parts,.slice A6 J.map.length c7,.slice A11 J.comb.length c12,.slice A16 J.red.length c17,.int .i64 J.chunk,.int .i64 J.window,.int .i64 J.fuel,.slice A21 J.marks.length c22] 26] [Aa (Am Ag) (.slice A1 J.us.length c2) J.us,Aa Af (.slice A6 J.map.length c7) J.map,Aa Af (.slice A11 J.comb.length c12) J.comb,Aa Af (.slice A16 J.red.length c17) J.red,Aa (Ai .i64) (.slice A21 J.marks.length c22) J.marks])∧(j≤J.marks.length∧0≤last∧last≤6)∧(Gp J.us.length last (J.marks.drop j)↔Gp J.us.length 0 J.marks)) (fun (j,last)=>J.marks.length - j) (0,0) ⟨rfl,rfl,rfl,rfl,rfl,trivial⟩ ⟨H,by (try dsimp only);omega,Iff.rfl⟩ ?_
 rintro ⟨j,last⟩ w ⟨H,hj,hm⟩
 refine Ab (Ae (V U U (Bb U U U) (Ac (Z (Ab ?_)))))
 refine Ax U (fun h41=>?_) (fun h41=>?_)
 ·refine Av (Z (Ab (AQ (Ab (Ae ?_)))))
  obtain ⟨x42,hx43⟩:∃ z9,J.marks[j]?=some z9:=⟨_,List.getElem?_eq_getElem (show j<J.marks.length by omega)⟩
  have th44:=H.thR 4 rfl hx43
  refine V U U (AY (p:=AS A21+j*1) U DI U U (by omega) (by omega) th44 U) (V U U (Al U AA U (H.elR 4 U hx43 (q:=0) U U)) (Ad U (Ac (Z (Ab (Ab (Ae (Ah 2 U (V U U (AU (z:=last+1) U U U (AB (by omega) (by omega))) (V U U (Aj U DT U) (V U U (Al U DX U (H.cellI 0 U U)) (V U U (Bc U Ei U) (sc (Gg x42 (last+1) ((J.us.length:Nat):Int)) H l0 U U (Au F5 U U) ?_)))))))))))))
  rintro _ _ w ⟨rfl,rfl⟩ H
  refine V U U (Ea U U) (Ac (Z ?_))
  refine Ax U (fun h45=>?_) (fun h45=>?_)
  ·refine Ab (Ae (Ad U (Ac (Z (An (Ay (AX (Ay (Ay (AX (Ay (Aq U U ?_))))))))))))
   replace H:=H.nil
   have e:¬ D8 J:=by
     rintro ⟨g1,g2,g3,g4,g5,g6,g7,g8,g9,g10,g11⟩
     have g:=hm.2 g5;rw [E6 hx43] at g;have g0:=g.1;omega
   exact Ak ⟨congrArg Value.bool (decide_eq_false e).symm,rfl⟩ H
  refine Av (Z (Ae (Ah 2 U (Ac (AT (Z (Ae (V U U (AU (z:=((j+1:Nat):Int)) U U U (by rw [AB (by omega) (by omega)];omega)) (Ad U (Ac ?_))))))))))
  have hm2:Gp J.us.length x42 (J.marks.drop (j+1))↔Gp J.us.length 0 J.marks:=by rw [←hm,E6 hx43];exact ⟨fun g=>⟨by omega,g⟩,fun g=>g.2⟩
  exact Bf (s:=(j,last)) (j+1,x42) ⟨rfl,rfl,rfl,rfl,rfl,trivial⟩ ⟨H,by (try dsimp only);omega,hm2⟩ (by (try dsimp only);omega)
 refine BD (AM (AM (BE (Z (Ab (Ae (V U U (Aj U HM U) (V U U (Al U Eh U (H.cellI 0 U U)) (sc (OY (.slice A6 J.map.length c7) J.map) H (lR 1 U l0) U U (Au O0 U U) ?_)))))))))
 rintro _ _ w ⟨rfl,rfl⟩ H
 refine Ad U ?_
 refine AN (d:=61) U (fun h46=>?_) (fun h46=>?_)
 ·refine V U U (Aj U HO U) (V U U (Al U Eh U (H.cellI 0 U U)) (sc (OY (.slice A16 J.red.length c17) J.red) H (lR 3 U l0) U U (Au O0 U U) ?_))
  rintro _ _ w ⟨rfl,rfl⟩ H
  refine Ah 2 U ?_
  refine AN (d:=66) U (fun h47=>?_) (fun h47=>?_)
  ·refine V U U (Aj U HN U) (V U U (Al U Eh U (H.cellI 0 U U)) (sc (Mg (.slice A11 J.comb.length c12) J.comb) H (lR 2 U l0) U U (Au LO U U) ?_))
   rintro _ _ w ⟨rfl,rfl⟩ H
   refine Ah 2 U ?_
   refine AN (d:=71) U (fun h48=>?_) (fun h48=>?_)
   ·refine V U U (Aj U Ol U) (V U U (Al U AA U (H.cellI 0 U U)) (sc (Gg J.chunk 1 7) H l0 U U (Au F5 U U) ?_))
    rintro _ _ w ⟨rfl,rfl⟩ H
    refine Ah 2 U ?_
    refine AN (d:=76) U (fun h49=>?_) (fun h49=>?_)
    ·refine V U U (Aj U Om U) (V U U (Al U AA U (H.cellI 0 U U)) (sc (Gg J.window 1 4) H l0 U U (Au F5 U U) ?_))
     rintro _ _ w ⟨rfl,rfl⟩ H
     refine Ah 2 U ?_
     refine AN (d:=81) U (fun h50=>?_) (fun h50=>?_)
     ·refine V U U (Aj U JP U) (V U U (Al U AA U (H.cellI 0 U U)) (sc (Gg J.fuel 1 2000) H l0 U U (Au F5 U U) ?_))
      rintro _ _ w ⟨rfl,rfl⟩ H
      refine Ah 2 U (Ac (Z (An (Aq U U ?_))))
      replace H:=H.nil
      have hmk:Gp J.us.length 0 J.marks:=hm.1 (by rw [List.drop_eq_nil_of_le (by omega)];trivial)
      have e:(1≤J.fuel∧J.fuel≤2000)↔D8 J:=⟨fun g=>⟨by omega,by omega,by omega,hal,hmk,by omega,by omega,by omega,by omega,by omega,by omega⟩,fun g=>by have g6:=g.2.2.2.2.2;omega⟩
      exact Ak ⟨congrArg Value.bool (decide_eq_decide.2 e),rfl⟩ H
     refine Ah 5 U (Ac (Z (An (Aq U U ?_))))
     replace H:=H.nil
     have e:¬ D8 J:=by
       rintro ⟨g1,g2,g3,g4,g5,g6,g7,g8,g9,g10,g11⟩
       omega
     exact Ak ⟨congrArg Value.bool (decide_eq_false e).symm,rfl⟩ H
    refine Ah 10 U (Ac (Z (An (Aq U U ?_))))
    replace H:=H.nil
    have e:¬ D8 J:=by
      rintro ⟨g1,g2,g3,g4,g5,g6,g7,g8,g9,g10,g11⟩
      omega
    exact Ak ⟨congrArg Value.bool (decide_eq_false e).symm,rfl⟩ H
   refine Ah 12 U (Ah 3 U (Ac (Z (An (Aq U U ?_)))))
   replace H:=H.nil
   have e:¬ D8 J:=by
     rintro ⟨g1,g2,g3,g4,g5,g6,g7,g8,g9,g10,g11⟩
     omega
   exact Ak ⟨congrArg Value.bool (decide_eq_false e).symm,rfl⟩ H
  refine Ah 12 U (Ah 8 U (Ac (Z (An (Aq U U ?_)))))
  replace H:=H.nil
  have e:¬ D8 J:=by
    rintro ⟨g1,g2,g3,g4,g5,g6,g7,g8,g9,g10,g11⟩
    omega
  exact Ak ⟨congrArg Value.bool (decide_eq_false e).symm,rfl⟩ H
 refine Ah 12 U (Ah 12 U (Ad U (Ac (Z (An (Aq U U ?_))))))
 replace H:=H.nil
 have e:¬ D8 J:=by
   rintro ⟨g1,g2,g3,g4,g5,g6,g7,g8,g9,g10,g11⟩
   omega
 exact Ak ⟨congrArg Value.bool (decide_eq_false e).symm,rfl⟩ H
theorem TI (vS vM vC vR vK:Value) (J:AC):
    Cn Tryz.prog 18 [.agg #[vS,.int .i64 J.parts,vM,vC,vR,.int .i64 J.chunk,.int .i64 J.window,.int .i64 J.fuel,vK]] [] [Aa (Am Ag) vS J.us,Aa Af vM J.map,Aa Af vC J.comb,Aa Af vR J.red,Aa (Ai .i64) vK J.marks] (fun v Bs=>v=.bool (GN J)∧Bs=[]):=by
 intro w0 F0 H
 obtain ⟨A1,c2,rfl,hc3,hm4,hp5⟩:=H.fR 0 rfl
 obtain ⟨A6,c7,rfl,hc8,hm9,hp10⟩:=H.fR 1 rfl
 obtain ⟨A11,c12,rfl,hc13,hm14,hp15⟩:=H.fR 2 rfl
 obtain ⟨A16,c17,rfl,hc18,hm19,hp20⟩:=H.fR 3 rfl
 obtain ⟨A21,c22,rfl,hc23,hm24,hp25⟩:=H.fR 4 rfl
 refine enter Tryz.func18 U U (Nat.le_of_ble_eq_true U) (Ab (Ae (Ct U U U U H (fun b26 w H=>(Ad U (Ac (Z ?_)))))))
 replace H:Hd _ _ _ [blk b26 [.slice A1 J.us.length c2,.int .i64 J.parts,.slice A6 J.map.length c7,.slice A11 J.comb.length c12,.slice A16 J.red.length c17,.int .i64 J.chunk,.int .i64 J.window,.int .i64 J.fuel,.slice A21 J.marks.length c22] 26] [Aa (Am Ag) (.slice A1 J.us.length c2) J.us,Aa Af (.slice A6 J.map.length c7) J.map,Aa Af (.slice A11 J.comb.length c12) J.comb,Aa Af (.slice A16 J.red.length c17) J.red,Aa (Ai .i64) (.slice A21 J.marks.length c22) J.marks]:=H
 refine Ab (Ab (Ae (Ad U (Ac (Z (AQ (BL (σ:=Nat) (fun k=>[(1,.pointer (some ⟨b26,0,none⟩)),(3,.int .i64 ((k:Nat):Int))]) (fun k w=>(Hd w0 F0 w [blk b26 [.slice A1 J.us.length c2,.int .i64 J.parts,.slice A6 J.map.length c7,.slice A11 J.comb.length c12,.slice A16 J.red.length c17,.int .i64 J.chunk,.int .i64 J.window,.int .i64 J.fuel,.slice A21 J.marks.length c22] 26] [Aa (Am Ag) (.slice A1 J.us.length c2) J.us,Aa Af (.slice A6 J.map.length c7) J.map,Aa Af (.slice A11 J.comb.length c12) J.comb,Aa Af (.slice A16 J.red.length c17) J.red,Aa (Ai .i64) (.slice A21 J.marks.length c22) J.marks])∧(k≤J.us.length)∧(∀ u∈J.us.take k,E9 u.2 10=false)) (fun k=>J.us.length - k) 0 ⟨rfl,rfl,trivial⟩ ⟨H,by omega,by simp⟩ ?_)))))))
 rintro k w ⟨H,hk,hn⟩
 refine Ab (Ab (Ae (Ad U (V U U (Aj U DT U) (V U U (Al U DX U (H.cellI 0 U U)) (V U U (Bc U Ei U) (V U U (Bb U U U) (Ad U ?_))))))))
 refine AN (d:=9) U (fun h27=>?_) (fun h27=>?_)
 ·refine V U U (Aj U DT U) (V U U (Al U DX U (H.cellI 0 U U)) (V U U (Bc U Ei U) (V U U (Co U U U) (Ad U (Ac (Z ?_))))))
  refine Ax U (fun h28=>?_) (fun h28=>?_)
  ·refine Av (Z (Ab (AQ (Ab (Ae (V U U (Aj U DT U) (V U U (Al U DX U (H.cellI 0 U U)) (Ad U ?_))))))))
   obtain ⟨⟨u31,x29⟩,hx30⟩:∃ z9,J.us[k]?=some z9:=⟨_,List.getElem?_eq_getElem (show k<J.us.length by omega)⟩
   obtain ⟨A32,c33,rfl,hc34,hm35⟩:=H.nestR 0 rfl hx30
   have th36:=H.thRd 0 rfl hx30
   refine V U U (AY (p:=AS A1+k*1) U Fz U U (by omega) (by omega) th36 U) (V U U (Al U EO U (H.elRd 0 U hx30 U)) (sc (TJ (.slice A32 x29.length c33) x29 10) H (lX (fun F hA hR=>HY (hR _ (List.mem_of_getElem? (i:=0) U)) hx30) l0) U U (Au UO U U) ?_))
   rintro _ _ w ⟨rfl,rfl⟩ H
   refine Ac (Z ?_)
   refine DQ (b:=E9 x29 10) U (fun h37=>?_) (fun h37=>?_)
   ·refine Ab (Ae (Ad U (Ac (Z (An (AX (Ay (Ay (AX (Ay (Aq U U ?_)))))))))))
    replace H:=H.nil
    exact Ak ⟨congrArg Value.bool (TH hx30 h37),rfl⟩ H
   refine Av (AT (Z (Ae (Ad U (V U U (AU (z:=((k+1:Nat):Int)) U U U (by rw [AB (by omega) (by omega)];omega)) (Ad U (Ac ?_)))))))
   have hn2:=Ho (Q:=fun u:Value×List Ap=>E9 u.2 10=false) hn hx30 (show E9 x29 10=false by simpa using h37)
   exact Bf (s:=k) (k+1) ⟨rfl,rfl,trivial⟩ ⟨H,by (try dsimp only);omega,hn2⟩ (by (try dsimp only);omega)
  refine BD (AM (AM (BE (Z (Ab (Ae (V U U (Aj U DT U) (V U U (Al U DX U (H.cellI 0 U U)) (V U U (Bc U Ei U) (V U U (Ck U U U) (Ad U ?_)))))))))))
  refine AN (d:=27) U (fun h38=>?_) (fun h38=>?_)
  ·refine Ah 12 U (Ah 9 U (Ac (Z (An (Aq U U ?_)))))
   replace H:=H.nil
   exact Ak ⟨congrArg Value.bool (GO (by first |exact .inl (by omega)|exact .inr (.inl (by omega))|exact .inr (.inr (.inl h38))|exact .inr (.inr (.inr h38)))),rfl⟩ H
  refine V U U (Aj U HP U) (V U U (Al U EY U (H.cellI 0 U U)) (V U U (Bc U EP U) (V U U (Ck U U U) (Ah 2 U ?_))))
  refine AN (d:=33) U (fun h39=>?_) (fun h39=>?_)
  ·refine Ah 12 U (Ah 3 U (Ac (Z (An (Aq U U ?_)))))
   replace H:=H.nil
   exact Ak ⟨congrArg Value.bool (GO (by first |exact .inl (by omega)|exact .inr (.inl (by omega))|exact .inr (.inr (.inl h39))|exact .inr (.inr (.inr h39)))),rfl⟩ H
  refine V U U (Aj U HM U) (V U U (Al U Eh U (H.cellI 0 U U)) (sc (HR (.slice A6 J.map.length c7) J.map) H (lR 1 U l0) U U (Au HX U U) ?_))
  rintro _ _ w ⟨rfl,rfl⟩ H
  refine Ah 2 U ?_
  refine Fe (d:=38) (b:=EJ J.map) U (fun h40=>?_) (fun h40=>?_)
  ·refine Ah 10 U (Ac (Z (An (Aq U U ?_))))
   replace H:=H.nil
   exact Ak ⟨congrArg Value.bool (GO (by first |exact .inl (by omega)|exact .inr (.inl (by omega))|exact .inr (.inr (.inl h40))|exact .inr (.inr (.inr h40)))),rfl⟩ H
  refine V U U (Aj U HN U) (V U U (Al U Eh U (H.cellI 0 U U)) (sc (HR (.slice A11 J.comb.length c12) J.comb) H (lR 2 U l0) U U (Au HX U U) ?_))
  rintro _ _ w ⟨rfl,rfl⟩ H
  refine Ah 2 U ?_
  refine Fe (d:=43) (b:=EJ J.comb) U (fun h41=>?_) (fun h41=>?_)
  ·refine Ah 5 U (Ac (Z (An (Aq U U ?_))))
   replace H:=H.nil
   exact Ak ⟨congrArg Value.bool (GO (by first |exact .inl (by omega)|exact .inr (.inl (by omega))|exact .inr (.inr (.inl h41))|exact .inr (.inr (.inr h41)))),rfl⟩ H
  refine V U U (Aj U HO U) (V U U (Al U Eh U (H.cellI 0 U U)) (sc (HR (.slice A16 J.red.length c17) J.red) H (lR 3 U l0) U U (Au HX U U) ?_))
  rintro _ _ w ⟨rfl,rfl⟩ H
  refine Ah 2 U (Ac (Z (An (Aq U U ?_))))
  replace H:=H.nil
  exact Ak ⟨congrArg Value.bool (OE hn (by omega) (by omega) (by omega) (by simpa using h40) (by simpa using h41)),rfl⟩ H
 refine Ah 5 U (Ac (Z (B2 U (BD (AM (AM (BE (Z (Ab (Ae (V U U (Aj U DT U) (V U U (Al U DX U (H.cellI 0 U U)) (V U U (Bc U Ei U) (V U U (Ck U U U) (Ad U ?_)))))))))))))))
 refine AN (d:=27) U (fun h42=>?_) (fun h42=>?_)
 ·refine Ah 12 U (Ah 9 U (Ac (Z (An (Aq U U ?_)))))
  replace H:=H.nil
  exact Ak ⟨congrArg Value.bool (GO (by first |exact .inl (by omega)|exact .inr (.inl (by omega))|exact .inr (.inr (.inl h42))|exact .inr (.inr (.inr h42)))),rfl⟩ H
 refine V U U (Aj U HP U) (V U U (Al U EY U (H.cellI 0 U U)) (V U U (Bc U EP U) (V U U (Ck U U U) (Ah 2 U ?_))))
 refine AN (d:=33) U (fun h43=>?_) (fun h43=>?_)
 ·refine Ah 12 U (Ah 3 U (Ac (Z (An (Aq U U ?_)))))
  replace H:=H.nil
  exact Ak ⟨congrArg Value.bool (GO (by first |exact .inl (by omega)|exact .inr (.inl (by omega))|exact .inr (.inr (.inl h43))|exact .inr (.inr (.inr h43)))),rfl⟩ H
 refine V U U (Aj U HM U) (V U U (Al U Eh U (H.cellI 0 U U)) (sc (HR (.slice A6 J.map.length c7) J.map) H (lR 1 U l0) U U (Au HX U U) ?_))
 rintro _ _ w ⟨rfl,rfl⟩ H
 refine Ah 2 U ?_
 refine Fe (d:=38) (b:=EJ J.map) U (fun h44=>?_) (fun h44=>?_)
 ·refine Ah 10 U (Ac (Z (An (Aq U U ?_))))
  replace H:=H.nil
  exact Ak ⟨congrArg Value.bool (GO (by first |exact .inl (by omega)|exact .inr (.inl (by omega))|exact .inr (.inr (.inl h44))|exact .inr (.inr (.inr h44)))),rfl⟩ H
 refine V U U (Aj U HN U) (V U U (Al U Eh U (H.cellI 0 U U)) (sc (HR (.slice A11 J.comb.length c12) J.comb) H (lR 2 U l0) U U (Au HX U U) ?_))
 rintro _ _ w ⟨rfl,rfl⟩ H
 refine Ah 2 U ?_
 refine Fe (d:=43) (b:=EJ J.comb) U (fun h45=>?_) (fun h45=>?_)
 ·refine Ah 5 U (Ac (Z (An (Aq U U ?_))))
  replace H:=H.nil
  exact Ak ⟨congrArg Value.bool (GO (by first |exact .inl (by omega)|exact .inr (.inl (by omega))|exact .inr (.inr (.inl h45))|exact .inr (.inr (.inr h45)))),rfl⟩ H
 refine V U U (Aj U HO U) (V U U (Al U Eh U (H.cellI 0 U U)) (sc (HR (.slice A16 J.red.length c17) J.red) H (lR 3 U l0) U U (Au HX U U) ?_))
 rintro _ _ w ⟨rfl,rfl⟩ H
 refine Ah 2 U (Ac (Z (An (Aq U U ?_))))
 replace H:=H.nil
 exact Ak ⟨congrArg Value.bool (OE hn (by omega) (by omega) (by omega) (by simpa using h44) (by simpa using h45)),rfl⟩ H
theorem Xd (key:ByteArray) (hb0:key.size≤9223372036854775807):
    Cn Tryz.prog 215 [.string key] [] [] (fun v Bs=>v=.int .u32 (Ed key key.size)∧Bs=[]):=by
 intro w0 F0 H
 refine enter Tryz.func215 U U (Nat.le_of_ble_eq_true U) (Ab (Ae (Ad U (Ac (Z (Ab (Ae (Ad U (Ac (Z (Ab (Ab (Ae (Ad U (V U U (Dp U CA U) (Ad U (Ac (Z (AQ (BL (σ:=Nat) (fun k=>[(0,.string key),(2,.int .u32 0),(3,.int .u32 (Ed key k)),(6,.int .i64 ((key.size:Nat):Int)),(7,.int .i64 ((k:Nat):Int))]) (fun k w=>(Hd w0 F0 w [] [])∧(k≤key.size)) (fun k=>key.size - k) 0 ⟨rfl,rfl,rfl,rfl,rfl,trivial⟩ ⟨H,by (try dsimp only);omega⟩ ?_))))))))))))))))))))
 rintro k w ⟨H,hk⟩
 refine Ab (Ae (V U U (Bb U U U) (Ac (Z (Ab ?_)))))
 refine Ax U (fun h1=>?_) (fun h1=>?_)
 ·refine Av (Z (Ab (AQ (Ab (Ae (Ah 2 U (Ac (Z (Ae (Ad U (V U U (GV (z:=IntKind.u32.wrap (31*Ed key k)) U U U U) (Ah 2 U ?_))))))))))))
  obtain ⟨b,hb⟩:∃ b,key[k]?=some b:=⟨_,getElem?_pos key k (by omega)⟩
  exact V U U (I1 U CA U U (by omega) hb) (V U U (DH (z:=((b).toNat:Int)) U U Ht Rd (aN b)) (V U U (AU (z:=IntKind.u32.wrap (IntKind.u32.wrap (31*Ed key k)+(b.toNat:Int))) U U U U) (Ad U (Ac (AT (Z (Ae (V U U (AU (z:=((k+1:Nat):Int)) U U U (by rw [AB (by omega) (by omega)];omega)) (Ad U (Ac (Bf (s:=k) (k+1) ⟨rfl,rfl,congrArg (fun z=>some (Value.int .u32 z)) (Ws hb).symm,rfl,rfl,trivial⟩ ⟨H,by (try dsimp only);omega⟩ (by (try dsimp only);omega))))))))))))
 refine BD (AM (AM (BE (Z (Ab (Ae (Ah 2 U (Ac (Z (An (Aq U U ?_)))))))))))
 obtain rfl:k=key.size:=by omega
 exact Ak ⟨rfl,rfl⟩ H
theorem Xe (key:ByteArray) (n:Int) (hb0:key.size≤9223372036854775807) (hn:n≤9223372036854775807):
    Cn Tryz.prog 178 [.string key,.int .i64 n] [] [] (fun v Bs=>v=.int .i64 (Kf key n)∧Bs=[]):=by
 intro w0 F0 H
 refine enter Tryz.func178 U U (Nat.le_of_ble_eq_true U) (Ab (Ae (Ad U (Ac (Z (Ab (Ab (Ae (Ad U (V U U (Bb U U U) (Ac (Z ?_))))))))))))
 refine Ax U (fun h1=>?_) (fun h1=>?_)
 ·exact Ab (Ae (Ad U (Ac (Z (An (Ay (Aq U U (Ak ⟨congrArg (Value.int .i64) (if_pos h1).symm,rfl⟩ H))))))))
 refine Av (Z (Ab (Ae (Ad U (sc (Xd key (by first |omega|decide)) H l0 U U (Au UL U U) ?_)))))
 rintro _ _ w ⟨rfl,rfl⟩ H
 exact V U U (DH (z:=Ed key key.size) U U Rd Hq (Fi (L_ key key.size).1 (by have:=(L_ key key.size).2;omega))) (Ad U (V U U (DH (z:=n) U U DD Hq (Fi (by omega) (by omega))) (V U U (Kk (z:=(Ed key key.size)%n) U U U (by omega) (Int.tmod_eq_emod_of_nonneg (L_ key key.size).1)) (V U U (DH (z:=(Ed key key.size)%n) U U Hq DD (AB (by have:=Int.emod_nonneg (Ed key key.size) (show n≠0 by omega);omega) (by have:=Int.emod_lt_of_pos (Ed key key.size) (show 0<n by omega);omega))) (Ad U (Ac (Z (An (Aq U U (Ak ⟨congrArg (Value.int .i64) (if_neg h1).symm,rfl⟩ H))))))))))
theorem WF (vxs:Value) (xs:List Ap) (n:Int) (p:Int) (hb:xs.length≤1000000) (hn:n≤9223372036854775807) (hk:∀ x∈xs,x.key.size≤9223372036854775807):
    Cn Tryz.prog 126 [vxs,.int .i64 n,.int .i64 p] [] [Aa Ag vxs xs] (fun v Bs=>Bs=[Y Ag v (EW xs n p)]):=by
 intro w0 F0 H
 obtain ⟨A1,c2,rfl,hc3,hm4,hp5⟩:=H.fR 0 rfl
 refine enter Tryz.func126 U U (Nat.le_of_ble_eq_true U) (Ab (Ae (Ad U (Ac (Z ?_)))))
 replace H:Hd _ _ _ [] [Aa Ag (.slice A1 xs.length c2) xs]:=H
 refine Ab (Ae (Ad U (Ac (Z (Ab (Ab (Ae (Ad U (V U U (Bc U Da U) (Ad U (Ac (Z (AQ ?_)))))))))))))
 replace H:=H.newnil Ag
 refine BL (σ:=Nat×Value) (fun (k,l)=>[(1,.int .i64 n),(2,.int .i64 p),(6,.slice none 0 0),(7,l),(10,.slice A1 xs.length c2),(11,.int .i64 ((xs.length:Nat):Int)),(12,.int .i64 ((k:Nat):Int))]) (fun (k,l) w=>(Hd w0 F0 w [Y Ag l (EW (xs.take k) n p)] [Aa Ag (.slice A1 xs.length c2) xs])∧(k≤xs.length)) (fun (k,l)=>xs.length - k) (0,.slice none 0 0) ⟨rfl,rfl,rfl,rfl,rfl,rfl,rfl,trivial⟩ ⟨H,by (try dsimp only);omega⟩ ?_
 rintro ⟨k,l⟩ w ⟨H,hk0⟩
 have hjl:=P3 (xs.take k) n p
 have hjt:(xs.take k).length≤xs.length:=by simp;omega
 refine Ab (Ae (V U U (Bb U U U) (Ac (Z (Ab ?_)))))
 refine Ax U (fun h6=>?_) (fun h6=>?_)
 ·refine Av (Z (Ab (AQ (Ab (Ae ?_)))))
  obtain ⟨x7,hx8⟩:∃ z9,xs[k]?=some z9:=⟨_,List.getElem?_eq_getElem (show k<xs.length by omega)⟩
  have th9:=H.thR 0 rfl hx8
  refine V U U (AY (p:=AS A1+k*2) U By U U (by omega) (by omega) th9 U) (V U U (Bo (cs:=[.string x7.key,.string x7.val]) U Cc U U (H.elsR 0 U hx8 U)) (Dr U U U Dc H (fun b10 w H=>(BH U U U Cc U U H U (Nat.le_of_ble_eq_true U) (fun u hu=>by simp [Value.cells] at hu;rcases hu with rfl|rfl<;>rfl) (fun w H=>?_)))))
  replace H:=H.h2 (A:=blk b10 [.string x7.key,.string x7.val] 106) (B:=Y Ag l (EW (xs.take k) n p))
  refine Ac (Z (Ab ?_))
  have hkx:=hk _ (Cb hx8)
  refine Ae (V U U (Aj U E8 U) (V U U (Al U BS U (H.cellI 0 U U)) (Ad U (sc (Xe x7.key n (by first |omega|decide) (by first |omega|decide)) H l0 U U (Au Uz U U) ?_))))
  rintro _ _ w ⟨rfl,rfl⟩ H
  refine Ad U (V U U (A0 U U U) (Ac (Z ?_)))
  refine Ax U (fun h11=>?_) (fun h11=>?_)
  ·refine Ae (Ad U (V U U (Bo (cs:=[.string x7.key,.string x7.val]) U Cc U U (H.cellsI 0 U U)) (BX (parts:=[(0,.tmp 23)]) (vs:=[.agg #[.string x7.key,.string x7.val]]) (cs:=[.string x7.key,.string x7.val]) U U U By Dc U (by decide) (by decide) U U H (fun b12 w H=>?_))))
   replace H:=H.p2
   refine Cy (xs:=EW (xs.take k) n p) (ys:=[x7]) U U U By Dc U (by decide) U U H (by omega) (fun F hA hR=>Cm (hA _ (List.mem_of_getElem? (i:=0) U)) U (by decide) (AV.flat_eq.2 U)) (fun v13 w H=>(Ad U (Ac (AT (Z ?_)))))
   replace H:Hd _ _ _ [Y Ag v13 ((EW (xs.take k) n p)++[x7]),blk b12 [.string x7.key,.string x7.val] 106,blk b10 [.string x7.key,.string x7.val] 106] [Aa Ag (.slice A1 xs.length c2) xs]:=H
   refine Ae (V U U (AU (z:=((k+1:Nat):Int)) U U U (by rw [AB (by omega) (by omega)];omega)) (Ad U (Ac ?_)))
   rw [←WH hx8 h11] at H
   replace H:=H.k1
   exact Bf (s:=(k,undef)) (k+1,v13) ⟨rfl,rfl,rfl,rfl,rfl,rfl,rfl,trivial⟩ ⟨H,by (try dsimp only);omega⟩ (by (try dsimp only);omega)
  refine Av (AT (Z (Ae (V U U (AU (z:=((k+1:Nat):Int)) U U U (by rw [AB (by omega) (by omega)];omega)) (Ad U (Ac ?_))))))
  rw [←WE hx8 h11] at H
  replace H:=H.sel 2 [1] [0] rfl (by kernel_rfl)
  exact Bf (s:=(k,undef)) (k+1,l) ⟨rfl,rfl,rfl,rfl,rfl,rfl,rfl,trivial⟩ ⟨H,by (try dsimp only);omega⟩ (by (try dsimp only);omega)
 refine BD (AM (AM (BE (Z (Ab (Ae (Ah 2 U (Ac (Z (An (Aq U U ?_)))))))))))
 rw [List.take_of_length_le (show xs.length≤k by omega)] at H
 exact Ak U H
theorem Cn.heads0 {α:Type} {d:Kd α} {P:Program} {f:FuncId} {args:List Value} {v:Value} {ss:List (List α)} {Rs:List SP} {T:Value→List SP→Prop}
  (h:∀ us:List (Value×List α),us.map (·.2)=ss→Cn P f args [] (Aa (Am d) v us::Aa (Bz d) v ss::Rs) T):Cn P f args [] (Aa (Bz d) v ss::Rs) T:=by
 intro w F H
 obtain ⟨us,hus,H2⟩:=H.heads 0 rfl
 refine (h us hus w F H2).mono ?_
 rintro e W' ⟨v,rfl,Bs,t,H⟩
 exact ⟨v,rfl,Bs,t,H.dropR⟩
theorem WM {P:Program} {t s i c m:TypeId} {W1:List (List Ap)→Prop} {W2:List BC→Prop} {W3:List Int→Prop}
  (hs:Gc P t=some [(s,0,1),(i,1,1),(c,2,1),(c,3,1),(c,4,1),(i,5,1),(i,6,1),(i,7,1),(m,8,1)]) (hc:P.cellsOf t=9) (hi:P.underlying i=some (.int .i64))
  (h1:GE P s (Bz (Bz Ag)) W1) (h2:GE P c (Bz Af) W2) (h3:GE P m (Bz (Ai .i64)) W3)
  {H:Type} (enc:TypeId×Value→H) (w:World) (fuel:Nat) (cs:List Value) (x:DataW H×List MemPlace) (h:DataW.trod enc P w 0 (fun _=>true) true fuel t cs=some x):
  ∃ (vS:Value) (ss:List (List Ap)) (n1:Int) (vM:Value) (map:List BC) (vC:Value) (comb:List BC) (vR:Value) (red:List BC) (n5 n6 n7:Int) (vK:Value) (marks:List Int),
   cs=[vS,.int .i64 n1,vM,vC,vR,.int .i64 n5,.int .i64 n6,.int .i64 n7,vK]∧((Aa (Bz Ag) vS ss).P w (E1 w)∧(Aa Af vM map).P w (E1 w)∧(Aa Af vC comb).P w (E1 w)∧(Aa Af vR red).P w (E1 w)∧(Aa (Ai .i64) vK marks).P w (E1 w))∧
   (W1 ss∧W2 map∧W2 comb∧W2 red∧W3 marks)∧(AE n1∧AE n5∧AE n6∧AE n7):=by
 obtain ⟨hl,n,hf⟩:=Kc hs h
 rw [hc] at hl
 match cs,hl with
 |[c0,c1,c2,c3,c4,c5,c6,c7,c8],_=>
  obtain ⟨y0,g0⟩:=hf 0 _ _ _ rfl
  obtain ⟨y1,g1⟩:=hf 1 _ _ _ rfl
  obtain ⟨y2,g2⟩:=hf 2 _ _ _ rfl
  obtain ⟨y3,g3⟩:=hf 3 _ _ _ rfl
  obtain ⟨y4,g4⟩:=hf 4 _ _ _ rfl
  obtain ⟨y5,g5⟩:=hf 5 _ _ _ rfl
  obtain ⟨y6,g6⟩:=hf 6 _ _ _ rfl
  obtain ⟨y7,g7⟩:=hf 7 _ _ _ rfl
  obtain ⟨y8,g8⟩:=hf 8 _ _ _ rfl
  obtain ⟨a0,r0,w0⟩:=h1 enc w n _ _ g0
  obtain ⟨a1,r1,w1⟩:=FM hi enc w n _ _ g1
  obtain ⟨a2,r2,w2⟩:=h2 enc w n _ _ g2
  obtain ⟨a3,r3,w3⟩:=h2 enc w n _ _ g3
  obtain ⟨a4,r4,w4⟩:=h2 enc w n _ _ g4
  obtain ⟨a5,r5,w5⟩:=FM hi enc w n _ _ g5
  obtain ⟨a6,r6,w6⟩:=FM hi enc w n _ _ g6
  obtain ⟨a7,r7,w7⟩:=FM hi enc w n _ _ g7
  obtain ⟨a8,r8,w8⟩:=h3 enc w n _ _ g8
  have q1:[c1]=[Value.int .i64 a1]:=r1
  have q5:[c5]=[Value.int .i64 a5]:=r5
  have q6:[c6]=[Value.int .i64 a6]:=r6
  have q7:[c7]=[Value.int .i64 a7]:=r7
  simp only [List.cons.injEq,and_true] at q1 q5 q6 q7
  subst q1 q5 q6 q7
  exact ⟨c0,a0,a1,c2,a2,c3,a3,c4,a4,a5,a6,a7,c8,a8,rfl,⟨r0,r2,r3,r4,r8⟩,⟨w0,w2,w3,w4,w8⟩,w1,w5,w6,w7⟩
structure Bd (A B:AC):Prop where
 us:A.us.map (·.2)=B.us.map (·.2)
 rest:A={ B with us:=A.us }
theorem Bd.refl (A:AC):Bd A A:=⟨rfl,rfl⟩
theorem Bd.symm {A B:AC} (h:Bd A B):Bd B A:=by
 obtain ⟨h1,h2⟩:=h
 refine ⟨h1.symm,?_⟩
 rw [h2]
theorem Bd.trans {A B C:AC} (h:Bd A B) (k:Bd B C):Bd A C:=by
 obtain ⟨h1,h2⟩:=h
 obtain ⟨k1,k2⟩:=k
 refine ⟨h1.trans k1,?_⟩
 rw [h2,k2]
section
variable {A B:AC} (h:Bd A B)
include h
theorem Bd.parts:A.parts=B.parts:=by rw [h.rest]
theorem Bd.map:A.map=B.map:=by rw [h.rest]
theorem Bd.comb:A.comb=B.comb:=by rw [h.rest]
theorem Bd.red:A.red=B.red:=by rw [h.rest]
theorem Bd.chunk:A.chunk=B.chunk:=by rw [h.rest]
theorem Bd.window:A.window=B.window:=by rw [h.rest]
theorem Bd.fuel:A.fuel=B.fuel:=by rw [h.rest]
theorem Bd.marks:A.marks=B.marks:=by rw [h.rest]
theorem Bd.len:A.us.length=B.us.length:=by have:=congrArg List.length h.us;simpa using this
theorem Bd.recs (s:Nat):recs A s=recs B s:=by
 have e:∀ J:AC,X.recs J s=((J.us.map (·.2))[s]?).getD []:=by
  intro J
  unfold X.recs
  rw [List.getElem?_map]
  cases J.us[s]?<;>rfl
 rw [e,e,h.us]
theorem Bd.split (D:A8) (s:Nat):Az D A s=Az D B s:=by
 unfold Az mapM
 rw [h.recs,h.map,h.comb,h.fuel]
theorem Bd.only (D:A8) (s:Nat) (p:Int):Cr D A s p=Cr D B s p:=by
 unfold Cr
 rw [h.split,h.parts]
theorem Bd.all (D:A8) (p:Int):∀ k,Iw D A p k=Iw D B p k
 |0=>rfl
 |k+1=>by unfold Iw;rw [Bd.all D p k,h.only]
theorem Bd.part (D:A8) (p:Int):H8 D A p=H8 D B p:=by
 unfold H8
 rw [h.all,h.red,h.fuel,h.len]
theorem Bd.run (D:A8) (s:Nat) (p:Int):MA D A s p=MA D B s p:=by
 unfold MA
 rw [h.split,h.only]
theorem Bd.partsGo (D:A8):∀ k p out,partsGo D A k p out=partsGo D B k p out
 |0,_,_=>rfl
 |k+1,p,out=>by unfold X.partsGo;rw [h.part,Bd.partsGo D k]
theorem Bd.wholeGo (D:A8):∀ k s,wholeGo D A k s=wholeGo D B k s
 |0,_=>by unfold X.wholeGo;rw [h.partsGo,h.parts]
 |k+1,s=>by unfold X.wholeGo;rw [h.split,Bd.wholeGo D k]
theorem Bd.whole (D:A8):MW D A=MW D B:=by
 unfold MW
 rw [h.wholeGo,h.len]
theorem Bd.may (m:D8 A):D8 B:=by
 obtain ⟨m1,m2,m3,m4,m5,m6,m7,m8,m9,m10,m11⟩:=m
 have hs:∀ u∈B.us,GS u.2:=by
  intro u hu
  have:u.2∈B.us.map (·.2):=List.mem_map_of_mem hu
  rw [←h.us] at this
  obtain ⟨v,hv,e⟩:=List.mem_map.1 this
  rw [←e];exact m4 v hv
 rw [h.len,h.marks] at m5
 rw [h.parts] at m2;rw [h.marks] at m3;rw [h.map] at m6;rw [h.red] at m7;rw [h.comb] at m8;rw [h.chunk] at m9;rw [h.window] at m10;rw [h.fuel] at m11
 exact ⟨by rw [←h.len];exact m1,m2,m3,hs,m5,m6,m7,m8,m9,m10,m11⟩
theorem Bd.ok (k:B8 A):B8 B:=⟨h.may k.may,by have:=k.map;rwa [h.map] at this,by have:=k.comb;rwa [h.comb] at this,by have:=k.red;rwa [h.red] at this⟩
end
theorem B8.chunk1 {J:AC} (h:B8 J):1≤J.chunk∧J.chunk≤7:=h.may.2.2.2.2.2.2.2.2.1
theorem B8.window1 {J:AC} (h:B8 J):1≤J.window∧J.window≤4:=h.may.2.2.2.2.2.2.2.2.2.1
structure Cf where
 J:AC
 w:Int
 t:Int
 o:Int
def CP (C:Cf):Prop:=D8 C.J∧(1≤C.w∧C.w≤4)∧(1≤C.t∧C.t≤3)∧1≤C.o∧C.o≤50
instance mayCD (C:Cf):Decidable (CP C):=by unfold CP;infer_instance
structure ER (A B:Cf):Prop where
 J:Bd A.J B.J
 w:A.w=B.w
 t:A.t=B.t
 o:A.o=B.o
theorem ER.refl (A:Cf):ER A A:=⟨Bd.refl _,rfl,rfl,rfl⟩
theorem ER.symm {A B:Cf} (h:ER A B):ER B A:=⟨h.J.symm,h.w.symm,h.t.symm,h.o.symm⟩
theorem ER.trans {A B C:Cf} (h:ER A B) (k:ER B C):ER A C:=⟨h.J.trans k.J,h.w.trans k.w,h.t.trans k.t,h.o.trans k.o⟩
structure Hx (C:Cf):Prop where
 may:CP C
 ok:B8 C.J
theorem ER.may {A B:Cf} (h:ER A B) (m:CP A):CP B:=⟨h.J.may m.1,by rw [←h.w];exact m.2.1,by rw [←h.t];exact m.2.2.1,by rw [←h.o];exact m.2.2.2⟩
theorem Hx.w {C:Cf} (h:Hx C):1≤C.w∧C.w≤4:=h.may.2.1
theorem Hx.t {C:Cf} (h:Hx C):1≤C.t∧C.t≤3:=h.may.2.2.1
theorem Hx.o {C:Cf} (h:Hx C):1≤C.o∧C.o≤50:=h.may.2.2.2
def CY (C:Cf) (p:Int):Int:=if ¬ CP C∨¬ (0≤p∧p≤C.J.parts - 1) then 0 else 1+p.tmod C.w
/-! ### Records and messages in plain words -/
structure DE where
 kind:Int
 part:Int
 sp:Int
 att:Int
 why:Int
 set:List Int
 pairs:List Ap
def Bm.p (r:Bm):DE:=⟨r.kind,r.part,r.sp,r.att,r.why,r.set,r.pairs⟩
structure Ds where
 kind:Int
 sp:Int
 att:Int
 part:Int
 seq:Int
 next:Int
 ep:Int
 why:Int
 set:List Int
 pairs:List Ap
def Wa:Ds:=⟨0,0,0,0,0,0,0,0,[],[]⟩
/-! ### Chunks that wait -/
abbrev DP:=List ((Int×Int)×List (List Ap))
def DV:DP→Int→Int→List (List Ap)
 |[],_,_=>[]
 |e::s,a,b=>if e.1.1=a∧e.1.2=b then e.2 else DV s a b
def I9:DP→Int→Int→List Ap→DP
 |[],a,b,x=>[((a,b),[x])]
 |e::s,a,b,x=>if e.1.1=a∧e.1.2=b then (e.1,e.2++[x])::s else e::I9 s a b x
def Kw (s:DP) (a b:Int):Int:=((DV s a b).length:Int)
def MG (s:DP) (a b q:Int):Prop:=q=Kw s a b∧(0≤a∧a<6)∧(1≤b∧b≤3)∧q<40
instance (s:DP) (a b q:Int):Decidable (MG s a b q):=by unfold MG;infer_instance
def Kx (s:DP) (a b q:Int) (x:List Ap):DP:=if MG s a b q then I9 s a b x else s
def YP (s:DP) (a b n:Int):Option (List Ap):=if n<0∨Kw s a b≠n then none else some (DV s a b).flatten
def I_ (s:DP) (a:Int):DP:=s.filter fun e=>decide (e.1.1≠a)
/-! ### A reducer -/
structure Dh where
 merged:Bool
 pairs:List Ap
 told:Bool
 att:Int
 cnt:Int
def Kz:Dh:=⟨false,[],false,0,0⟩
def CS {α:Type} (g:Nat→α) (k:Nat) (v:α):Nat→α:=fun j=>if j=k then v else g j
theorem Hl {α:Type} (g:Nat→α) (k:Nat) (v:α):CS g k v k=v:=if_pos rfl
theorem Hk {α:Type} (g:Nat→α) {k j:Nat} (v:α) (h:j≠k):CS g k v j=g j:=if_neg h
structure AK where
 part:Int
 ep:Int
 g:Nat→Dh
 st:DP
 sets:List (List Int)
def GW (part ep:Int):AK:=⟨part,ep,fun _=>Kz,[],[]⟩
def Dq (n:Nat) (R:AK) (x:DE):AK:=
 if x.part≠R.part then R else
 let R1:AK:=if x.kind=4∧(0≤x.sp∧x.sp<n)∧(R.g x.sp.toNat).merged=false then { R with g:=CS R.g x.sp.toNat { R.g x.sp.toNat with merged:=true,pairs:=x.pairs } } else R
 if x.kind=5 then { R1 with sets:=R1.sets++[x.set] } else R1
def CQ (n:Nat) (part ep:Int) (rs:List DE):AK:=rs.foldl (Dq n) (GW part ep)
def CZ (n:Nat) (R:AK):List Int:=((List.range n).filter fun i=>(R.g i).merged).map fun (i:Nat)=>(i:Int)
def Fd (n:Nat) (R:AK) (set:List Int):List Ap:=((List.range n).filter fun i=>(R.g i).merged && decide ((i:Int)∈set)).flatMap fun i=>(R.g i).pairs
def Ma (D:A8) (J:AC) (R:AK) (set:List Int):List Ap×Int:=Dt D J.red (srt (Fd J.us.length R set)) J.fuel false
def DM (D:A8) (J:AC) (R:AK):List Ap×Int×Bool:=
 if (CZ J.us.length R).length<J.us.length then ([],0,false) else ((Ma D J R (CZ J.us.length R)).1,(Ma D J R (CZ J.us.length R)).2,true)
theorem PL (n:Nat) (R:AK):(CZ n R).length≤n:=by
 unfold CZ
 rw [List.length_map]
 exact Nat.le_trans (List.length_filter_le _ _) (by simp)
theorem PN (n:Nat) (R:AK):CZ (n+1) R=CZ n R++(if (R.g n).merged then [(n:Int)] else []):=by
 unfold CZ
 rw [List.range_succ,List.filter_append,List.map_append]
 cases h:(R.g n).merged<;>simp [h]
theorem Yu (n:Nat) (R:AK) (set:List Int):Fd (n+1) R set=Fd n R set++(if (R.g n).merged=true∧(n:Int)∈set then (R.g n).pairs else []):=by
 unfold Fd
 rw [List.range_succ,List.filter_append,List.flatMap_append]
 by_cases h:(R.g n).merged=true∧(n:Int)∈set
 ·rw [if_pos h];simp [h.1,h.2]
 ·rw [if_neg h]
  have:((R.g n).merged && decide ((n:Int)∈set))=false:=by
   cases h1:(R.g n).merged
   ·rfl
   ·simpa using fun h2=>h ⟨h1,h2⟩
  simp [this]
theorem PQ (n:Nat) (part ep:Int) (rs:List DE) (x:DE):CQ n part ep (rs++[x])=Dq n (CQ n part ep rs) x:=by
 unfold CQ;rw [List.foldl_append];rfl
theorem XZ (n:Nat) (R:AK) (x:DE):(Dq n R x).part=R.part∧(Dq n R x).ep=R.ep∧(Dq n R x).st=R.st:=by
 unfold Dq
 dsimp only
 split
 ·exact ⟨rfl,rfl,rfl⟩
 ·split<;>(split<;>exact ⟨rfl,rfl,rfl⟩)
theorem IT (n:Nat) (part ep:Int) (rs:List DE):(CQ n part ep rs).part=part∧(CQ n part ep rs).ep=ep∧(CQ n part ep rs).st=[]:=by
 have:∀ (rs:List DE) (R:AK),(rs.foldl (Dq n) R).part=R.part∧(rs.foldl (Dq n) R).ep=R.ep∧(rs.foldl (Dq n) R).st=R.st:=by
  intro rs
  induction rs with
  |nil=>exact fun R=>⟨rfl,rfl,rfl⟩
  |cons x rs ih=>
   intro R
   obtain ⟨h1,h2,h3⟩:=ih (Dq n R x)
   obtain ⟨g1,g2,g3⟩:=XZ n R x
   exact ⟨h1.trans g1,h2.trans g2,h3.trans g3⟩
 exact this rs (GW part ep)
/-! ### What a part knows when it begins -/
/-! ### Records of all splits, in whatever order -/
/-! ### What it hears, what it tells -/
def J1 (J:AC) (R:AK) (n:Nat):AK×List DE:=
 if (R.g n).told=false then (R,[]) else
 match YP R.st n (R.g n).att (R.g n).cnt with
 |none=>(R,[])
 |some ps=>
  if 40<ps.length then (R,[]) else
  let R1:AK:={ R with g:=CS R.g n { R.g n with merged:=true,pairs:=ps },st:=I_ R.st n }
  let l:=CZ J.us.length R1
  if (l.length:Int)∈J.marks then ({ R1 with sets:=R1.sets++[l] },[⟨4,R.part,n,(R.g n).att,0,[],ps⟩,⟨5,R.part,0,0,0,l,[]⟩])
  else (R1,[⟨4,R.part,n,(R.g n).att,0,[],ps⟩])
def Mp (J:AC) (R:AK) (m:Ds):Prop:=¬ (0≤m.sp∧m.sp<J.us.length)∨m.kind≠2∨m.part≠R.part
instance (J:AC) (R:AK) (m:Ds):Decidable (Mp J R m):=by unfold Mp;infer_instance
def Mq (R:AK) (m:Ds):Prop:=(R.g m.sp.toNat).merged=false∧m.pairs.length≤8∧He m.pairs
instance (R:AK) (m:Ds):Decidable (Mq R m):=by unfold Mq;infer_instance
def IX (J:AC) (R:AK) (m:Ds):AK×List DE:=
 if Mq R m then J1 J { R with st:=Kx R.st m.sp m.att m.seq m.pairs } m.sp.toNat else (R,[])
def Rx (R:AK) (m:Ds):Ds:=
 ⟨3,m.sp,m.att,R.part,0,if (R.g m.sp.toNat).merged=true then 40 else Kw R.st m.sp m.att,R.ep,0,[],[]⟩
def Qi (J:AC) (R:AK) (m:Ds):AK×Ds×List DE:=
 if Mp J R m then (R,Wa,[]) else ((IX J R m).1,Rx (IX J R m).1 m,(IX J R m).2)
def MX (J:AC) (t:Int) (R:AK) (sp att:Int):Prop:=¬ (0≤sp∧sp<J.us.length)∨(R.g sp.toNat).merged=true∨(R.g sp.toNat).told=true∨att<1∨t<att
instance (J:AC) (t:Int) (R:AK) (sp att:Int):Decidable (MX J t R sp att):=by unfold MX;infer_instance
def Rr (J:AC) (t:Int) (R:AK) (sp att cnt:Int):AK×List DE:=
 if MX J t R sp att then (R,[]) else J1 J { R with g:=CS R.g sp.toNat { R.g sp.toNat with told:=true,att:=att,cnt:=cnt } } sp.toNat
structure M4 where
 set:List Int
 why:Int
 pairs:List Ap
def AF (D:A8) (J:AC) (R:AK):Ds:=
 if (DM D J R).2.2=true then ⟨8,0,0,R.part,0,0,R.ep,(DM D J R).2.1,[],[]⟩ else ⟨6,0,0,R.part,0,0,R.ep,0,CZ J.us.length R,[]⟩
section
variable {w0 w:World} {F0:AJ} {As Bs Rs:List SP} {A B:SP}
theorem Hd.exA {α:Sort _} {A:α→SP} (h:Hd w0 F0 w (ex A::As) Rs):∃ a,Hd w0 F0 w (A a::As) Rs:=by
 obtain ⟨F,G,⟨F1,F2,h1,h2,h3,⟨a,ha⟩,s⟩,r⟩:=h
 exact ⟨a,F,G,⟨F1,F2,h1,h2,h3,ha,s⟩,r⟩
theorem Hd.exI {α:Sort _} {A:α→SP} (a:α) (h:Hd w0 F0 w (A a::As) Rs):Hd w0 F0 w (ex A::As) Rs:=h.turn fun _ ha=>⟨a,ha⟩
theorem Hd.stA (h:Hd w0 F0 w (BZ Bs::As) Rs):Hd w0 F0 w (Bs++As) Rs:=h.open_ fun _ h=>h
theorem Hd.stI (h:Hd w0 F0 w (Bs++As) Rs):Hd w0 F0 w (BZ Bs::As) Rs:=h.shut fun _ h=>h
theorem Hd.puA {p:Prop} (h:Hd w0 F0 w (BW p::As) Rs):p∧Hd w0 F0 w As Rs:=⟨h.fact (List.mem_cons_self ..) fun _ h=>h,h.drop⟩
theorem Hd.puI {p:Prop} (hp:p) (h:Hd w0 F0 w As Rs):Hd w0 F0 w (BW p::As) Rs:=h.shut (Bs:=[]) fun _ _=>hp
def Bn {α:Type} (f:α→SP) (l:List α):SP:=BZ (l.map f)
theorem Hd.big0 {α:Type} (f:α→SP) (h:Hd w0 F0 w As Rs):Hd w0 F0 w (Bn f []::As) Rs:=h.shut (Bs:=[]) fun _ _=>trivial
theorem JD {α:Type}:∀ (l:List α) (i:Nat) {x:α},l[i]?=some x→l.Perm (x::l.eraseIdx i)
 |[],_,_,h=>by simp at h
 |y::l,0,x,h=>by
  obtain rfl:y=x:=by simpa using h
  exact List.Perm.refl _
 |y::l,i+1,x,h=>((JD l i (by simpa using h)).cons y).trans (List.Perm.swap _ _ _)
theorem Hd.bigO {α:Type} {f:α→SP} {l:List α} {x:α} (i:Nat) (hx:l[i]?=some x) (h:Hd w0 F0 w (Bn f l::As) Rs):Hd w0 F0 w (f x::Bn f (l.eraseIdx i)::As) Rs:=by
 have h1:=h.stA.perm (((JD l i hx).map f).append_right As)
 have h2:Hd w0 F0 w (((l.eraseIdx i).map f++As)++[f x]) Rs:=h1.perm (by rw [List.map_cons,List.cons_append];exact (List.perm_append_comm (l₁:=[f x])))
 have h3:Hd w0 F0 w ((l.eraseIdx i).map f++(As++[f x])) Rs:=by rw [←List.append_assoc];exact h2
 exact (show Hd w0 F0 w (Bn f (l.eraseIdx i)::(As++[f x])) Rs from h3.stI).perm (List.perm_append_comm (l₁:=Bn f (l.eraseIdx i)::As) (l₂:=[f x]))
theorem Hd.bigI {α:Type} {f:α→SP} {l:List α} {x:α} (i:Nat) (hi:i<l.length) (h:Hd w0 F0 w (f x::Bn f (l.eraseIdx i)::As) Rs):Hd w0 F0 w (Bn f (l.set i x)::As) Rs:=by
 have h1:Hd w0 F0 w (Bn f (l.eraseIdx i)::(As++[f x])) Rs:=h.perm (List.perm_append_comm (l₁:=[f x]) (l₂:=Bn f (l.eraseIdx i)::As))
 have h2:Hd w0 F0 w ((l.eraseIdx i).map f++As++[f x]) Rs:=by rw [List.append_assoc];exact h1.stA
 have h3:Hd w0 F0 w ((x::l.eraseIdx i).map f++As) Rs:=h2.perm (List.perm_append_comm (l₁:=(l.eraseIdx i).map f++As) (l₂:=[f x]))
 have hp:(l.set i x).Perm (x::l.eraseIdx i):=by
  have:=JD (l.set i x) i (x:=x) (by rw [List.getElem?_set_self hi])
  rwa [List.eraseIdx_set_eq] at this
 exact (h3.perm ((hp.symm.map f).append_right As)).stI
theorem Hd.bigN {α:Type} {f:α→SP} {l:List α} {x:α} (h:Hd w0 F0 w (f x::Bn f l::As) Rs):Hd w0 F0 w (Bn f (l++[x])::As) Rs:=by
 have h1:Hd w0 F0 w (Bn f l::(As++[f x])) Rs:=h.perm (List.perm_append_comm (l₁:=[f x]) (l₂:=Bn f l::As))
 have h2:Hd w0 F0 w (l.map f++As++[f x]) Rs:=by rw [List.append_assoc];exact h1.stA
 have h3:Hd w0 F0 w ((x::l).map f++As) Rs:=h2.perm (List.perm_append_comm (l₁:=l.map f++As) (l₂:=[f x]))
 exact (h3.perm (((List.perm_append_comm (l₁:=[x]) (l₂:=l)).map f).append_right As)).stI
end
def Br (vS vM vC vR vK:Value) (J:AC) (w t o part ep:Int) (g:Nat→Dh) (hv:Nat→Value) (sb:Nat) (vs:Value):List Value:=
 [vS,.int .i64 J.parts,vM,vC,vR,.int .i64 J.chunk,.int .i64 J.window,.int .i64 J.fuel,vK,.int .i64 w,.int .i64 t,.int .i64 o,.int .i64 part,.int .i64 ep,
  .bool (g 0).merged,hv 0,.bool (g 0).told,.int .i64 (g 0).att,.int .i64 (g 0).cnt,
  .bool (g 1).merged,hv 1,.bool (g 1).told,.int .i64 (g 1).att,.int .i64 (g 1).cnt,
  .bool (g 2).merged,hv 2,.bool (g 2).told,.int .i64 (g 2).att,.int .i64 (g 2).cnt,
  .bool (g 3).merged,hv 3,.bool (g 3).told,.int .i64 (g 3).att,.int .i64 (g 3).cnt,
  .bool (g 4).merged,hv 4,.bool (g 4).told,.int .i64 (g 4).att,.int .i64 (g 4).cnt,
  .bool (g 5).merged,hv 5,.bool (g 5).told,.int .i64 (g 5).att,.int .i64 (g 5).cnt,
  .pointer (some ⟨sb,0,none⟩),vs]
section
variable {vS vM vC vR vK vs:Value} {J:AC} {w t o part ep:Int} {g:Nat→Dh} {hv:Nat→Value} {sb j:Nat}
theorem My (h:j<6):(Br vS vM vC vR vK J w t o part ep g hv sb vs)[14+j*5+0]?=some (.bool (g j).merged):=by
 match j,h with
 |0,_=>rfl
 |1,_=>rfl
 |2,_=>rfl
 |3,_=>rfl
 |4,_=>rfl
 |5,_=>rfl
theorem X3 (h:j<6):(Br vS vM vC vR vK J w t o part ep g hv sb vs)[14+j*5+1]?=some (hv j):=by
 match j,h with
 |0,_=>rfl
 |1,_=>rfl
 |2,_=>rfl
 |3,_=>rfl
 |4,_=>rfl
 |5,_=>rfl
theorem X5 (h:j<6) (b:Bool):Eu (Br vS vM vC vR vK J w t o part ep g hv sb vs) (14+j*5+0) [.bool b]=Br vS vM vC vR vK J w t o part ep (CS g j { g j with merged:=b }) (hv) sb vs:=by
 match j,h with
 |0,_=>rfl
 |1,_=>rfl
 |2,_=>rfl
 |3,_=>rfl
 |4,_=>rfl
 |5,_=>rfl
theorem X6 (h:j<6) (v:Value):Eu (Br vS vM vC vR vK J w t o part ep g hv sb vs) (14+j*5+1) [v]=Br vS vM vC vR vK J w t o part ep (g) (CS hv j v) sb vs:=by
 match j,h with
 |0,_=>rfl
 |1,_=>rfl
 |2,_=>rfl
 |3,_=>rfl
 |4,_=>rfl
 |5,_=>rfl
end
def Hg (g:Nat→Dh) (hv:Nat→Value):Nat→SP:=fun i=>Y Ag (hv i) (g i).pairs
def BK (g:Nat→Dh) (hv:Nat→Value):SP:=Bn (Hg g hv) (List.range 6)
def Mn (g:Nat→Dh) (hv:Nat→Value) (i:Nat):SP:=Bn (Hg g hv) ((List.range 6).eraseIdx i)
theorem Qv {n i:Nat} (h:i<n):(List.range n)[i]?=some i:=by simp [h]
theorem RW {α:Type} {f f':α→SP} {l:List α} (h:∀ x∈l,f x=f' x):Bn f l=Bn f' l:=by
 unfold Bn;rw [List.map_congr_left h]
theorem S9 {n i j:Nat} (hi:i<n) (h:j∈(List.range n).eraseIdx i):j≠i:=by
 intro e
 subst e
 have hn:((List.range n).eraseIdx j).Nodup:=(List.nodup_range (n:=n)).sublist (List.eraseIdx_sublist _ _)
 have hp:=JD (List.range n) j (Qv hi)
 have:=hp.nodup_iff.1 List.nodup_range
 exact (List.nodup_cons.1 this).1 h
theorem NB {α:Type} {f:α→SP} {l:List α} {w:World} {F:AJ} (h:(Bn f l).P w F) {x:α} (hx:x∈l):(f x).P w F:=Cl.mem h (List.mem_map_of_mem hx)
section
variable {w0 w:World} {F0:AJ} {As Rs:List SP} {g:Nat→Dh} {hv:Nat→Value} {i:Nat}
theorem Hd.prsO (hi:i<6) (H:Hd w0 F0 w (BK g hv::As) Rs):Hd w0 F0 w (Y Ag (hv i) (g i).pairs::Mn g hv i::As) Rs:=H.bigO (f:=Hg g hv) i (Qv hi)
theorem Hd.bigGI {f f':Nat→SP} {n:Nat} (hi:i<n) (he:∀ j,j≠i→f j=f' j) (H:Hd w0 F0 w (f' i::Bn f ((List.range n).eraseIdx i)::As) Rs):Hd w0 F0 w (Bn f' (List.range n)::As) Rs:=by
 rw [RW fun j hj=>he j (S9 hi hj)] at H
 have:=H.bigI (f:=f') i (by simpa using hi)
 rwa [show (List.range n).set i i=List.range n from ?_] at this
 apply List.ext_getElem? 
 intro k
 rw [List.getElem?_set]
 split
 ·rename_i e;subst e;simp [hi]
 ·rfl
theorem Hd.prsI (hi:i<6) {x:Dh} {v:Value} (H:Hd w0 F0 w (Y Ag v x.pairs::Mn g hv i::As) Rs):Hd w0 F0 w (BK (CS g i x) (CS hv i v)::As) Rs:=by
 refine Hd.bigGI (f:=Hg g hv) (f':=Hg (CS g i x) (CS hv i v)) hi (fun j hj=>?_) ?_
 ·unfold Hg;rw [Hk g x hj,Hk hv v hj]
 ·show Hd w0 F0 w (Y Ag (CS hv i v i) (CS g i x i).pairs::Mn g hv i::As) Rs
  rw [Hl,Hl];exact H
theorem Qf {F:AJ} (hi:i<6) (h:(BK g hv).P w F):(Aa Ag (hv i) (g i).pairs).P w F:=BI F (NB h (x:=i) (List.mem_range.2 hi))
theorem Xm:∀ {w:World} {F:AJ},(BK (fun _=>Kz) (fun _=>.slice none 0 0)).P w F:=by
 intro w F
 have:∀ l:List Nat,Cl (l.map (Hg (fun _=>Kz) (fun _=>.slice none 0 0))) w F:=by
  intro l
  induction l with
  |nil=>trivial
  |cons a l ih=>exact ⟨none_,F,fun _ h=>h.elim,fun _ h=>h,fun _ h=>h.elim,Me Ag w none_ trivial,ih⟩
 exact this _
theorem Hd.prsN (H:Hd w0 F0 w As Rs):Hd w0 F0 w (BK (fun _=>Kz) (fun _=>.slice none 0 0)::As) Rs:=H.shut (Bs:=[]) fun _ _=>Xm
theorem TR {α:Type} {d:Kd α} {F:AJ} {v:Value} {us:List (Value×List α)} (h:(Aa Du v (us.map fun u=>Ft u.1)).P w F) (hu:∀ p∈us,(Aa d p.1 p.2).P w F):(Aa (Am d) v us).P w F:=by
 obtain ⟨A,m,c,e,h1,h2,h3,cs,h4,h5⟩:=h
 refine ⟨A,m,c,e,by simpa using h1,h2,h3,cs,h4,?_⟩
 have hcs:cs=(us.map fun u=>Ft u.1).flatMap Iy:=AV.flat_eq.1 h5
 have:(us.map fun u=>Ft u.1).flatMap Iy=us.map (·.1):=by
  clear h5 hcs h1
  induction us with
  |nil=>rfl
  |cons p us ih=>
   obtain ⟨A,c,e,_⟩:=DU (hu p (List.mem_cons_self ..))
   rw [List.map_cons,List.flatMap_cons,ih fun q hq=>hu q (List.mem_cons_of_mem _ hq),List.map_cons,e]
   rfl
 rw [hcs,this]
 exact QF hu
end
/-! ### A row of headers held, and each slice held: a slice of slices held -/
section
variable {α:Type} {d:Kd α} {w0 w:World} {F F0:AJ} {As Rs:List SP} {v:Value} {us:List (Value×List α)}
def Bl (us:List (Value×List α)):List EA:=us.map fun u=>Ft u.1
def FY (d:Kd α) (us:List (Value×List α)):SP:=Bn (fun u:Value×List α=>Y d u.1 u.2) us
theorem QH:∀ {us:List (Value×List α)} {F:AJ},(FY d us).P w F→CC (Am d) w F us (us.map (·.1))
 |[],_,_=>rfl
 |u::us,F,⟨F1,F2,h1,h2,h3,a,s⟩=>⟨F1,F2,[u.1],us.map (·.1),h1,h2,h3,rfl,⟨rfl,a⟩,QH (us:=us) s⟩
theorem OJ (h:∀ u∈us,∃ A n c,u.1=.slice A n c):(Bl us).flatMap Iy=us.map (·.1):=by
 unfold Bl
 induction us with
 |nil=>rfl
 |cons p us ih=>
  obtain ⟨A,n,c,e⟩:=h p (List.mem_cons_self ..)
  rw [List.map_cons,List.flatMap_cons,ih fun q hq=>h q (List.mem_cons_of_mem _ hq),List.map_cons,e]
  rfl
theorem T2 {w:World} {F:AJ} (h:(FY d us).P w F):∀ u∈us,∃ A n c,u.1=.slice A n c:=fun u hu=>by
 obtain ⟨A,c,e,_⟩:=DU (BI F (NB h hu))
 exact ⟨A,_,c,e⟩
theorem Hd.hdI (H:Hd w0 F0 w (Y Du v (Bl us)::FY d us::As) Rs):Hd w0 F0 w (Y (Am d) v us::As) Rs:=by
 refine H.turn2 fun F1 F2 hd h1 h2=>?_
 obtain ⟨A,n,c,e,hl,cs,G1,G2,s1,s2,dj,row,reps⟩:=h1
 have hcs:cs=us.map (·.1):=(AV.flat_eq.1 reps.toR).trans (OJ (T2 h2))
 subst hcs
 exact ⟨A,n,c,e,by simpa [Bl] using hl,_,G1,F2,fun k hk=>.inl (s1 k hk),fun k hk=>.inr hk,fun k hk hg=>hd k (s1 k hk) hg,row,QH h2⟩
theorem TT {F:AJ} (h:(Aa (Am d) v us).P w F):(Aa Du v (Bl us)).P w F:=by
 obtain ⟨A,m,c,e,h1,h2,h3,cs,h4,h5⟩:=h
 refine ⟨A,m,c,e,by simpa [Bl] using h1,h2,h3,cs,h4,AV.flat_eq.2 ?_⟩
 have hall:=OI h5
 have:∀ {us:List (Value×List α)} {cs:List Value},AV (Am d) w F us cs→cs=us.map (·.1):=by
  intro us
  induction us with
  |nil=>intro cs h;exact h
  |cons u us ih=>rintro cs ⟨c,cs',e,h1,h2⟩;rw [e,h1.1,ih h2];rfl
 rw [this h5]
 exact (OJ fun u hu=>by
  obtain ⟨A,c,e,_⟩:=DU (hall u hu)
  exact ⟨A,_,c,e⟩).symm
end
/-! ### Told anew -/
section
variable {w0 w:World} {F0:AJ} {As Rs:List SP} {g g':Nat→Dh} {hv:Nat→Value} {i:Nat}
theorem X4 {vS vM vC vR vK vs:Value} {J:AC} {w t o part ep:Int} {sb:Nat} (h:∀ i,(g' i).merged=(g i).merged∧(g' i).told=(g i).told∧(g' i).att=(g i).att∧(g' i).cnt=(g i).cnt):
  Br vS vM vC vR vK J w t o part ep g hv sb vs=Br vS vM vC vR vK J w t o part ep g' hv sb vs:=by
 unfold Br
 rw [(h 0).1,(h 0).2.1,(h 0).2.2.1,(h 0).2.2.2,(h 1).1,(h 1).2.1,(h 1).2.2.1,(h 1).2.2.2,(h 2).1,(h 2).2.1,(h 2).2.2.1,(h 2).2.2.2,(h 3).1,(h 3).2.1,(h 3).2.2.1,(h 3).2.2.2,(h 4).1,(h 4).2.1,(h 4).2.2.1,(h 4).2.2.2,(h 5).1,(h 5).2.1,(h 5).2.2.1,(h 5).2.2.2]
theorem Hd.prsU (hi:i<6) {x:Dh} {v:Value} (H:Hd w0 F0 w (Y Ag v x.pairs::BK g hv::As) Rs):Hd w0 F0 w (BK (CS g i x) (CS hv i v)::As) Rs:=by
 have h1:=(H.perm (List.Perm.swap _ _ _)).prsO hi
 exact Hd.prsI hi ((h1.drop.perm (List.Perm.swap _ _ _)))
def pick (g:Nat→Dh) (set:List Int) (n:Nat):List Nat:=(List.range n).filter fun i=>(g i).merged && decide ((i:Int)∈set)
def DG (g:Nat→Dh) (hv:Nat→Value) (set:List Int) (n:Nat):List (Value×List Ap):=(pick g set n).map fun i=>(hv i,(g i).pairs)
theorem Ml (g:Nat→Dh) (hv:Nat→Value) (set:List Int) (n:Nat):DG g hv set (n+1)=DG g hv set n++(if (g n).merged=true∧(n:Int)∈set then [(hv n,(g n).pairs)] else []):=by
 unfold DG pick
 rw [List.range_succ,List.filter_append,List.map_append]
 by_cases h:(g n).merged=true∧(n:Int)∈set
 ·rw [if_pos h];simp [h.1,h.2]
 ·rw [if_neg h]
  have:((g n).merged && decide ((n:Int)∈set))=false:=by
   cases h1:(g n).merged
   ·rfl
   ·simpa using fun h2=>h ⟨h1,h2⟩
  simp [this]
theorem P_ (R:AK) (hv:Nat→Value) (set:List Int) (n:Nat):CK (DG R.g hv set n)=Fd n R set:=by
 unfold CK DG Fd pick
 rw [List.flatMap_map]
theorem Xi (g:Nat→Dh) (hv:Nat→Value) (set:List Int) (n:Nat):(DG g hv set n).length≤n:=by
 unfold DG pick
 rw [List.length_map]
 exact Nat.le_trans (List.length_filter_le _ _) (by simp)
theorem Xj {F:AJ} {set:List Int} {n:Nat} (hn:n≤6) (h:(BK g hv).P w F):∀ p∈DG g hv set n,(Aa Ag p.1 p.2).P w F:=by
 intro p hp
 obtain ⟨j,hj,rfl⟩:=List.mem_map.1 hp
 have:=List.mem_range.1 (List.mem_filter.1 hj).1
 exact Qf (by omega) h
theorem QR {R:AK} {set:List Int} {b:Nat} (h:∀ i,(R.g i).pairs.length≤b):∀ n,(Fd n R set).length≤n*b
 |0=>Nat.zero_le _
 |n+1=>by
  have ih:=QR (set:=set) h n
  have:=h n
  rw [Yu,List.length_append,Nat.succ_mul]
  split
  ·omega
  ·simp only [List.length_nil];omega
end
theorem Hd.prsFormR {w0 w:World} {F0:AJ} {As Rs:List SP} {g:Nat→Dh} {hv:Nat→Value} {i:Nat} (j:Nat) (hj:Rs[j]?=some (BK g hv)) (hi:i<6) (H:Hd w0 F0 w As Rs):∃ A c,hv i=.slice A (g i).pairs.length c∧(g i).pairs.length≤c∧c≤9223372036854775807∧Plain A:=
 H.factR (List.mem_of_getElem? hj) fun F h=>DU (Qf hi h)
theorem X0 {n:Nat} {N:AK} {x:DE} (h1:x.part≠N.part):Dq n N x=N:=if_pos h1
theorem Km {n:Nat} {N:AK} {x:DE} (h1:x.part=N.part) (h4:¬ (x.kind=4∧(0≤x.sp∧x.sp<n)∧(N.g x.sp.toNat).merged=false)) (h5:x.kind≠5):Dq n N x=N:=by
 unfold Dq
 dsimp only
 rw [if_neg (fun h=>h h1),if_neg h5,if_neg h4]
theorem XY {n:Nat} {N:AK} {x:DE} (h1:x.part=N.part) (h4:x.kind=4) (hr:0≤x.sp∧x.sp<n) (hm:(N.g x.sp.toNat).merged=false):Dq n N x={ N with g:=CS N.g x.sp.toNat { N.g x.sp.toNat with merged:=true,pairs:=x.pairs } }:=by
 unfold Dq
 dsimp only
 rw [if_neg (fun h=>h h1),if_neg (show ¬ x.kind=5 by omega),if_pos ⟨h4,hr,hm⟩]
theorem Ia {n:Nat} {N:AK} {x:DE} (h1:x.part=N.part) (h5:x.kind=5):Dq n N x={ N with sets:=N.sets++[x.set] }:=by
 unfold Dq
 dsimp only
 rw [if_neg (fun h=>h h1),if_pos h5,if_neg (fun h=>by have:=h.1;omega)]
theorem Fw {n:Nat} {p ep:Int} {recs:List Bm} {k:Nat} {x:Bm} {R R2:AK} (hR:R=CQ n p ep ((recs.take k).map Bm.p)) (hx:recs[k]?=some x) (e:Dq n R x.p=R2):R2=CQ n p ep ((recs.take (k+1)).map Bm.p):=by
 rw [Eg hx,List.map_append]
 show R2=CQ n p ep (_++[x.p])
 rw [PQ,←hR,e]
theorem Wg {n:Nat} {p ep:Int} {b:Nat}:∀ {rs:List DE},(∀ r∈rs,r.pairs.length≤b)→∀ i,((CQ n p ep rs).g i).pairs.length≤b:=by
 have:∀ (rs:List DE) (R:AK),(∀ r∈rs,r.pairs.length≤b)→(∀ i,(R.g i).pairs.length≤b)→∀ i,((rs.foldl (Dq n) R).g i).pairs.length≤b:=by
  intro rs
  induction rs with
  |nil=>intro R _ h;exact h
  |cons x rs ih=>
   intro R hr h
   refine ih (Dq n R x) (fun r hr2=>hr r (List.mem_cons_of_mem _ hr2)) fun i=>?_
   have hx:=hr x (List.mem_cons_self ..)
   have key:∀ (R1:AK) (c:Prop) [Decidable c],(if c then { R1 with sets:=R1.sets++[x.set] } else R1).g=R1.g:=by
    intro R1 c _
    split<;>rfl
   unfold Dq
   dsimp only
   split
   ·exact h i
   ·rw [key]
    split
    ·dsimp only
     by_cases e:i=x.sp.toNat
     ·subst e;rw [Hl];exact hx
     ·rw [Hk _ _ e];exact h i
    ·exact h i
 intro rs hr
 exact this rs (GW p ep) hr fun i=>Nat.zero_le _
theorem Zq (p:Int) {w:Int} (hw:1≤w): -w<p.tmod w∧p.tmod w<w:=by
 have h1:=Int.lt_tmod_of_pos p (show (0:Int)<w by omega)
 have h2:=Int.tmod_lt_of_pos p (show (0:Int)<w by omega)
 omega
theorem IQ (vS:Value) (vM:Value) (vC:Value) (vR:Value) (vK:Value) (C:Cf):
    Cn Tryz.prog 19 [.agg #[vS,.int .i64 C.J.parts,vM,vC,vR,.int .i64 C.J.chunk,.int .i64 C.J.window,.int .i64 C.J.fuel,vK,.int .i64 C.w,.int .i64 C.t,.int .i64 C.o]] [] [Aa (Am Ag) vS C.J.us,Aa Af vM C.J.map,Aa Af vC C.J.comb,Aa Af vR C.J.red,Aa (Ai .i64) vK C.J.marks] (fun v Bs=>v=.bool (decide (CP C))∧Bs=[]):=by
 intro w0 F0 H
 obtain ⟨A1,c2,rfl,hc3,hm4,hp5⟩:=H.fR 0 rfl
 obtain ⟨A6,c7,rfl,hc8,hm9,hp10⟩:=H.fR 1 rfl
 obtain ⟨A11,c12,rfl,hc13,hm14,hp15⟩:=H.fR 2 rfl
 obtain ⟨A16,c17,rfl,hc18,hm19,hp20⟩:=H.fR 3 rfl
 obtain ⟨A21,c22,rfl,hc23,hm24,hp25⟩:=H.fR 4 rfl
 refine enter Tryz.func19 U U (Nat.le_of_ble_eq_true U) (Ab (Ae (Ct U U U U H (fun b26 w H=>(Ad U (Ac (Z ?_)))))))
 replace H:Hd _ _ _ [blk b26 [.slice A1 C.J.us.length c2,.int .i64 C.J.parts,.slice A6 C.J.map.length c7,.slice A11 C.J.comb.length c12,.slice A16 C.J.red.length c17,.int .i64 C.J.chunk,.int .i64 C.J.window,.int .i64 C.J.fuel,.slice A21 C.J.marks.length c22,.int .i64 C.w,.int .i64 C.t,.int .i64 C.o] 28] [Aa (Am Ag) (.slice A1 C.J.us.length c2) C.J.us,Aa Af (.slice A6 C.J.map.length c7) C.J.map,Aa Af (.slice A11 C.J.comb.length c12) C.J.comb,Aa Af (.slice A16 C.J.red.length c17) C.J.red,Aa (Ai .i64) (.slice A21 C.J.marks.length c22) C.J.marks]:=H
 refine Ab (Ae (V U U (Aj U CV U) (V U U (Bo (cs:=[.slice A1 C.J.us.length c2,.int .i64 C.J.parts,.slice A6 C.J.map.length c7,.slice A11 C.J.comb.length c12,.slice A16 C.J.red.length c17,.int .i64 C.J.chunk,.int .i64 C.J.window,.int .i64 C.J.fuel,.slice A21 C.J.marks.length c22]) U Jk U U (H.cellsI 0 U U)) (sc (OX (.slice A1 C.J.us.length c2) (.slice A6 C.J.map.length c7) (.slice A11 C.J.comb.length c12) (.slice A16 C.J.red.length c17) (.slice A21 C.J.marks.length c22) C.J) H (lR 0 U (lR 1 U (lR 2 U (lR 3 U (lR 4 U l0))))) U U (Au Pn U U) ?_))))
 rintro _ _ w ⟨rfl,rfl⟩ H
 refine Ad U ?_
 refine AN (d:=6) U (fun h27=>?_) (fun h27=>?_)
 ·refine V U U (Aj U IF U) (V U U (Al U AA U (H.cellI 0 U U)) (sc (Gg C.w 1 4) H l0 U U (Au F5 U U) ?_))
  rintro _ _ w ⟨rfl,rfl⟩ H
  refine Ah 2 U ?_
  refine AN (d:=11) U (fun h28=>?_) (fun h28=>?_)
  ·refine V U U (Aj U Lx U) (V U U (Al U AA U (H.cellI 0 U U)) (sc (Gg C.t 1 3) H l0 U U (Au F5 U U) ?_))
   rintro _ _ w ⟨rfl,rfl⟩ H
   refine Ah 2 U ?_
   refine AN (d:=16) U (fun h29=>?_) (fun h29=>?_)
   ·refine V U U (Aj U Tr U) (V U U (Al U AA U (H.cellI 0 U U)) (sc (Gg C.o 1 50) H l0 U U (Au F5 U U) ?_))
    rintro _ _ w ⟨rfl,rfl⟩ H
    refine Ah 2 U (Ac (Z ?_))
    replace H:Hd _ _ _ [blk b26 [.slice A1 C.J.us.length c2,.int .i64 C.J.parts,.slice A6 C.J.map.length c7,.slice A11 C.J.comb.length c12,.slice A16 C.J.red.length c17,.int .i64 C.J.chunk,.int .i64 C.J.window,.int .i64 C.J.fuel,.slice A21 C.J.marks.length c22,.int .i64 C.w,.int .i64 C.t,.int .i64 C.o] 28] [Aa (Am Ag) (.slice A1 C.J.us.length c2) C.J.us,Aa Af (.slice A6 C.J.map.length c7) C.J.map,Aa Af (.slice A11 C.J.comb.length c12) C.J.comb,Aa Af (.slice A16 C.J.red.length c17) C.J.red,Aa (Ai .i64) (.slice A21 C.J.marks.length c22) C.J.marks]:=H
    refine An (Aq U U ?_)
    replace H:=H.nil
    have e:(1≤C.o∧C.o≤50)↔CP C:=⟨fun g=>⟨h27,by omega,by omega,by omega⟩,fun g=>by have g2:=g.2;omega⟩
    exact Ak ⟨congrArg Value.bool (decide_eq_decide.2 e),rfl⟩ H
   refine Ah 5 U (Ac (Z ?_))
   replace H:Hd _ _ _ [blk b26 [.slice A1 C.J.us.length c2,.int .i64 C.J.parts,.slice A6 C.J.map.length c7,.slice A11 C.J.comb.length c12,.slice A16 C.J.red.length c17,.int .i64 C.J.chunk,.int .i64 C.J.window,.int .i64 C.J.fuel,.slice A21 C.J.marks.length c22,.int .i64 C.w,.int .i64 C.t,.int .i64 C.o] 28] [Aa (Am Ag) (.slice A1 C.J.us.length c2) C.J.us,Aa Af (.slice A6 C.J.map.length c7) C.J.map,Aa Af (.slice A11 C.J.comb.length c12) C.J.comb,Aa Af (.slice A16 C.J.red.length c17) C.J.red,Aa (Ai .i64) (.slice A21 C.J.marks.length c22) C.J.marks]:=H
   refine An (Aq U U ?_)
   replace H:=H.nil
   have e:¬ CP C:=fun h=>by have h1:=h.1;have h2:=h.2;first |exact absurd h1 h27|omega
   exact Ak ⟨congrArg Value.bool (decide_eq_false e).symm,rfl⟩ H
  refine Ah 10 U (Ac (Z ?_))
  replace H:Hd _ _ _ [blk b26 [.slice A1 C.J.us.length c2,.int .i64 C.J.parts,.slice A6 C.J.map.length c7,.slice A11 C.J.comb.length c12,.slice A16 C.J.red.length c17,.int .i64 C.J.chunk,.int .i64 C.J.window,.int .i64 C.J.fuel,.slice A21 C.J.marks.length c22,.int .i64 C.w,.int .i64 C.t,.int .i64 C.o] 28] [Aa (Am Ag) (.slice A1 C.J.us.length c2) C.J.us,Aa Af (.slice A6 C.J.map.length c7) C.J.map,Aa Af (.slice A11 C.J.comb.length c12) C.J.comb,Aa Af (.slice A16 C.J.red.length c17) C.J.red,Aa (Ai .i64) (.slice A21 C.J.marks.length c22) C.J.marks]:=H
  refine An (Aq U U ?_)
  replace H:=H.nil
  have e:¬ CP C:=fun h=>by have h1:=h.1;have h2:=h.2;first |exact absurd h1 h27|omega
  exact Ak ⟨congrArg Value.bool (decide_eq_false e).symm,rfl⟩ H
 refine Ah 12 U (Ah 3 U (Ac (Z ?_)))
 replace H:Hd _ _ _ [blk b26 [.slice A1 C.J.us.length c2,.int .i64 C.J.parts,.slice A6 C.J.map.length c7,.slice A11 C.J.comb.length c12,.slice A16 C.J.red.length c17,.int .i64 C.J.chunk,.int .i64 C.J.window,.int .i64 C.J.fuel,.slice A21 C.J.marks.length c22,.int .i64 C.w,.int .i64 C.t,.int .i64 C.o] 28] [Aa (Am Ag) (.slice A1 C.J.us.length c2) C.J.us,Aa Af (.slice A6 C.J.map.length c7) C.J.map,Aa Af (.slice A11 C.J.comb.length c12) C.J.comb,Aa Af (.slice A16 C.J.red.length c17) C.J.red,Aa (Ai .i64) (.slice A21 C.J.marks.length c22) C.J.marks]:=H
 refine An (Aq U U ?_)
 replace H:=H.nil
 have e:¬ CP C:=fun h=>by have h1:=h.1;have h2:=h.2;first |exact absurd h1 h27|omega
 exact Ak ⟨congrArg Value.bool (decide_eq_false e).symm,rfl⟩ H
theorem IH (vS:Value) (vM:Value) (vC:Value) (vR:Value) (vK:Value) (C:Cf) (p:Int) (hp:AE p):
    Cn Tryz.prog 71 [.agg #[vS,.int .i64 C.J.parts,vM,vC,vR,.int .i64 C.J.chunk,.int .i64 C.J.window,.int .i64 C.J.fuel,vK,.int .i64 C.w,.int .i64 C.t,.int .i64 C.o],.int .i64 p] [] [Aa (Am Ag) vS C.J.us,Aa Af vM C.J.map,Aa Af vC C.J.comb,Aa Af vR C.J.red,Aa (Ai .i64) vK C.J.marks] (fun v Bs=>v=.int .i64 (CY C p)∧Bs=[]):=by
 intro w0 F0 H
 unfold AE at hp
 refine enter Tryz.func71 U U (Nat.le_of_ble_eq_true U) (Ab (Ae (Ct U U U U H (fun b1 w H=>(Ad U (Ac (Z ?_)))))))
 replace H:Hd _ _ _ [blk b1 [vS,.int .i64 C.J.parts,vM,vC,vR,.int .i64 C.J.chunk,.int .i64 C.J.window,.int .i64 C.J.fuel,vK,.int .i64 C.w,.int .i64 C.t,.int .i64 C.o] 28] [Aa (Am Ag) vS C.J.us,Aa Af vM C.J.map,Aa Af vC C.J.comb,Aa Af vR C.J.red,Aa (Ai .i64) vK C.J.marks]:=H
 refine Ab (Ab (Ae (V U U (Bo (cs:=[vS,.int .i64 C.J.parts,vM,vC,vR,.int .i64 C.J.chunk,.int .i64 C.J.window,.int .i64 C.J.fuel,vK,.int .i64 C.w,.int .i64 C.t,.int .i64 C.o]) U DC U U (H.cellsI 0 U U)) (sc (IQ vS vM vC vR vK C) H (lR 0 U (lR 1 U (lR 2 U (lR 3 U (lR 4 U l0))))) U U (Au IL U U) ?_))))
 rintro _ _ w ⟨rfl,rfl⟩ H
 refine V U U (Ea U U) (Ad U ?_)
 refine AN (d:=8) U (fun h2=>?_) (fun h2=>?_)
 ·refine Ah 8 U (Ac (Z ?_))
  replace H:Hd _ _ _ [blk b1 [vS,.int .i64 C.J.parts,vM,vC,vR,.int .i64 C.J.chunk,.int .i64 C.J.window,.int .i64 C.J.fuel,vK,.int .i64 C.w,.int .i64 C.t,.int .i64 C.o] 28] [Aa (Am Ag) vS C.J.us,Aa Af vM C.J.map,Aa Af vC C.J.comb,Aa Af vR C.J.red,Aa (Ai .i64) vK C.J.marks]:=H
  refine CG U (Ab (Ae (Ad U (Ac (Z (An (Ay (Aq U U ?_))))))))
  replace H:=H.nil
  exact Ak ⟨congrArg (Value.int .i64) (if_pos (by first |exact .inl h2|exact .inr h2)).symm,rfl⟩ H
 have hmc:CP C:=Classical.not_not.1 h2
 have hm1:=hmc.2
 have hmp:=hmc.1.2.1
 refine Ad U (V U U (Aj U CV U) (V U U (Aj U GL U) (V U U (Al U AA U (H.cellI 0 U U)) (V U U (Cw (z:=C.J.parts - 1) U U U (AB (by omega) (by omega))) (sc (Gg p 0 (C.J.parts - 1)) H l0 U U (Au F5 U U) ?_)))))
 rintro _ _ w ⟨rfl,rfl⟩ H
 refine V U U (Ea U U) (Ad U (Ac (Z ?_)))
 replace H:Hd _ _ _ [blk b1 [vS,.int .i64 C.J.parts,vM,vC,vR,.int .i64 C.J.chunk,.int .i64 C.J.window,.int .i64 C.J.fuel,vK,.int .i64 C.w,.int .i64 C.t,.int .i64 C.o] 28] [Aa (Am Ag) vS C.J.us,Aa Af vM C.J.map,Aa Af vC C.J.comb,Aa Af vR C.J.red,Aa (Ai .i64) vK C.J.marks]:=H
 refine Ax U (fun h3=>?_) (fun h3=>?_)
 ·refine Ab (Ae (Ad U (Ac (Z (An (Ay (Aq U U ?_)))))))
  replace H:=H.nil
  exact Ak ⟨congrArg (Value.int .i64) (if_pos (by first |exact .inl h3|exact .inr h3)).symm,rfl⟩ H
 refine Av (Z (Ab (Ae (Ad U (V U U (Aj U IF U) (V U U (Al U AA U (H.cellI 0 U U)) (V U U (Kk (z:=p.tmod C.w) U U U (by omega) U) (V U U (AU (z:=1+p.tmod C.w) U U U (by have h1:=Zq p (show 1≤C.w by omega);exact AB (by omega) (by omega))) (Ad U (Ac (Z (An (Aq U U ?_)))))))))))))
 replace H:=H.nil
 have e:CY C p=1+p.tmod C.w:=if_neg (fun h=>h.elim (fun h=>h hmc) (fun h=>by omega))
 exact Ak ⟨by rw [e]<;>rfl,rfl⟩ H
theorem K6 (vxs:Value) (xs:List BC) (hb:xs.length≤1000000):
    Cn Tryz.prog 158 [vxs] [] [Aa Af vxs xs] (fun v Bs=>Bs=[Y Af v xs]):=by
 intro w0 F0 H
 obtain ⟨A1,c2,rfl,hc3,hm4,hp5⟩:=H.fR 0 rfl
 refine enter Tryz.func158 U U (Nat.le_of_ble_eq_true U) (Ab (Ae (Ad U (Ac (Z ?_)))))
 replace H:Hd _ _ _ [] [Aa Af (.slice A1 xs.length c2) xs]:=H
 refine Ab (Ab (Ae (Ad U (V U U (Kl U FD U U) (Ac (Z ?_))))))
 refine DQ (b:=(A1:Option Addr).isNone) U (fun h6=>?_) (fun h6=>?_)
 ·refine Ab (Ae (Ad U (Ac (Z (An (Ay (Aq U U ?_)))))))
  obtain rfl:=H.nilR 0 rfl h6
  replace H:=H.newnil Af
  exact Ak U H
 refine Av (Z (Ab (Ae (Kr U U U GY H (fun b7 w H=>(Ad U ?_))))))
 replace H:=H.newnilA Af (some ⟨b7,0,none⟩)
 refine Cy (xs:=[]) (ys:=xs) U U U GY KS U (by decide) U U H (by simp only [List.length_nil];omega) (fun F hA hR=>hR _ (List.mem_of_getElem? (i:=0) U)) (fun v8 w H=>?_)
 replace H:=H.h2 (A:=Y Af v8 ([]++xs)) (B:=blk b7 [] 223)
 refine Ad U (Ac (Z (An (Aq U U ?_))))
 rw [List.nil_append] at H
 replace H:=H.k1
 exact Ak U H
theorem HC (vxs:Value) (xs:List Int) (hb:xs.length≤1000000):
    Cn Tryz.prog 129 [vxs] [] [Aa (Ai .i64) vxs xs] (fun v Bs=>Bs=[Y (Ai .i64) v xs]):=by
 intro w0 F0 H
 obtain ⟨A1,c2,rfl,hc3,hm4,hp5⟩:=H.fR 0 rfl
 refine enter Tryz.func129 U U (Nat.le_of_ble_eq_true U) (Ab (Ae (Ad U (Ac (Z ?_)))))
 replace H:Hd _ _ _ [] [Aa (Ai .i64) (.slice A1 xs.length c2) xs]:=H
 refine Ab (Ab (Ae (Ad U (V U U (Kl U EP U U) (Ac (Z ?_))))))
 refine DQ (b:=(A1:Option Addr).isNone) U (fun h6=>?_) (fun h6=>?_)
 ·refine Ab (Ae (Ad U (Ac (Z (An (Ay (Aq U U ?_)))))))
  obtain rfl:=H.nilR 0 rfl h6
  replace H:=H.newnil (Ai .i64)
  exact Ak U H
 refine Av (Z (Ab (Ae (Kr U U U DI H (fun b7 w H=>(Ad U ?_))))))
 replace H:=H.newnilA (Ai .i64) (some ⟨b7,0,none⟩)
 refine Cy (xs:=[]) (ys:=xs) U U U DI FV U (by decide) U U H (by simp only [List.length_nil];omega) (fun F hA hR=>hR _ (List.mem_of_getElem? (i:=0) U)) (fun v8 w H=>?_)
 replace H:=H.h2 (A:=Y (Ai .i64) v8 ([]++xs)) (B:=blk b7 [] 3)
 refine Ad U (Ac (Z (An (Aq U U ?_))))
 rw [List.nil_append] at H
 replace H:=H.k1
 exact Ak U H
theorem Sm (vxs:Value) (xs:List EA) (hb:xs.length≤1000000):
    Cn Tryz.prog 157 [vxs] [] [Aa Du vxs xs] (fun v Bs=>Bs=[Y Du v xs]):=by
 intro w0 F0 H
 obtain ⟨A1,c2,rfl,hc3,hm4,hp5⟩:=H.fR 0 rfl
 refine enter Tryz.func157 U U (Nat.le_of_ble_eq_true U) (Ab (Ae (Ad U (Ac (Z ?_)))))
 replace H:Hd _ _ _ [] [Aa Du (.slice A1 xs.length c2) xs]:=H
 refine Ab (Ab (Ae (Ad U (V U U (Kl U Ei U U) (Ac (Z ?_))))))
 refine DQ (b:=(A1:Option Addr).isNone) U (fun h6=>?_) (fun h6=>?_)
 ·refine Ab (Ae (Ad U (Ac (Z (An (Ay (Aq U U ?_)))))))
  obtain rfl:=H.nilR 0 rfl h6
  replace H:=H.newnil Du
  exact Ak U H
 refine Av (Z (Ab (Ae (Kr U U U Fz H (fun b7 w H=>(Ad U ?_))))))
 replace H:=H.newnilA Du (some ⟨b7,0,none⟩)
 refine Cy (xs:=[]) (ys:=xs) U U U Fz KT U (by decide) U U H (by simp only [List.length_nil];omega) (fun F hA hR=>hR _ (List.mem_of_getElem? (i:=0) U)) (fun v8 w H=>?_)
 replace H:=H.h2 (A:=Y Du v8 ([]++xs)) (B:=blk b7 [] 35)
 refine Ad U (Ac (Z (An (Aq U U ?_))))
 rw [List.nil_append] at H
 replace H:=H.k1
 exact Ak U H
theorem WV {us zs:List (Value×List Ap)} {i:Nat} {A:Option Addr} {c:Nat} {x:List Ap} (hz:zs.length=i) (h:us[i]?=some (.slice A x.length c,x)):(Bl zs++(Bl us).drop i)[i]?=some (⟨A,x.length,c⟩:EA):=by
 subst hz
 have hl:(Bl zs).length=zs.length:=by simp [Bl]
 rw [List.getElem?_append_right (by omega),hl,Nat.sub_self,List.getElem?_drop,Nat.add_zero]
 unfold Bl
 rw [List.getElem?_map,h]
 rfl
theorem WW {us zs:List (Value×List Ap)} {i:Nat} {A:Option Addr} {n c:Nat} {x:List Ap} (hz:zs.length=i) (hi:i<us.length):(Bl zs++(Bl us).drop i).set i (⟨A,n,c⟩:EA)=Bl (zs++[(.slice A n c,x)])++(Bl us).drop (i+1):=by
 subst hz
 have hl:(Bl zs).length=zs.length:=by simp [Bl]
 have hu:(Bl us).length=us.length:=by simp [Bl]
 rw [List.set_append_right _ _ (by omega),hl,Nat.sub_self,List.drop_eq_getElem_cons (by omega),List.set_cons_zero]
 unfold Bl
 rw [List.map_append,List.append_assoc]
 rfl
theorem WX {us zs:List (Value×List Ap)} {i:Nat} {v u:Value} {x:List Ap} (hz:zs.map (·.2)=(us.map (·.2)).take i) (h:us[i]?=some (v,x)):(zs++[(u,x)]).map (·.2)=(us.map (·.2)).take (i+1):=by
 rw [List.map_append,hz,Eg (x:=x) (by rw [List.getElem?_map,h];rfl)]
 rfl
theorem Mf (vS:Value) (vM:Value) (vC:Value) (vR:Value) (vK:Value) (C:Cf) (hC:CP C):
    Cn Tryz.prog 94 [.agg #[vS,.int .i64 C.J.parts,vM,vC,vR,.int .i64 C.J.chunk,.int .i64 C.J.window,.int .i64 C.J.fuel,vK,.int .i64 C.w,.int .i64 C.t,.int .i64 C.o]] [] [Aa (Am Ag) vS C.J.us,Aa Af vM C.J.map,Aa Af vC C.J.comb,Aa Af vR C.J.red,Aa (Ai .i64) vK C.J.marks] (fun v Bs=>∃ J2:AC,∃ vS2:Value,∃ vM2:Value,∃ vC2:Value,∃ vR2:Value,∃ vK2:Value,v=.agg #[vS2,.int .i64 J2.parts,vM2,vC2,vR2,.int .i64 J2.chunk,.int .i64 J2.window,.int .i64 J2.fuel,vK2,.int .i64 C.w,.int .i64 C.t,.int .i64 C.o]∧Bs=[Y (Am Ag) vS2 J2.us,Y Af vM2 J2.map,Y Af vC2 J2.comb,Y Af vR2 J2.red,Y (Ai .i64) vK2 J2.marks]∧(Bd J2 C.J)):=by
 intro w0 F0 H
 obtain ⟨A1,c2,rfl,hc3,hm4,hp5⟩:=H.fR 0 rfl
 obtain ⟨A6,c7,rfl,hc8,hm9,hp10⟩:=H.fR 1 rfl
 obtain ⟨A11,c12,rfl,hc13,hm14,hp15⟩:=H.fR 2 rfl
 obtain ⟨A16,c17,rfl,hc18,hm19,hp20⟩:=H.fR 3 rfl
 obtain ⟨A21,c22,rfl,hc23,hm24,hp25⟩:=H.fR 4 rfl
 have hsp:=hC.1.2.2.2.1
 have hus:=hC.1.1
 have hb1:=(Jr hC.1.2.2.2.2.2.1.2).1
 have hb2:=(Jr hC.1.2.2.2.2.2.2.1.2).1
 have hb3:=(Jr hC.1.2.2.2.2.2.2.2.1).1
 have hb4:=hC.1.2.2.1
 have hul:(Bl C.J.us).length=C.J.us.length:=by simp [Bl]
 refine enter Tryz.func94 U U (Nat.le_of_ble_eq_true U) (Ab (Ae (Ct U U U U H (fun b26 w H=>(Dr U U U Rw H (fun b27 w H=>(Ac (Z ?_))))))))
 replace H:Hd _ _ _ [blk b27 [.slice none 0 0,.int .i64 0,.slice none 0 0,.slice none 0 0,.slice none 0 0,.int .i64 0,.int .i64 0,.int .i64 0,.slice none 0 0,.int .i64 0,.int .i64 0,.int .i64 0] 28,blk b26 [.slice A1 C.J.us.length c2,.int .i64 C.J.parts,.slice A6 C.J.map.length c7,.slice A11 C.J.comb.length c12,.slice A16 C.J.red.length c17,.int .i64 C.J.chunk,.int .i64 C.J.window,.int .i64 C.J.fuel,.slice A21 C.J.marks.length c22,.int .i64 C.w,.int .i64 C.t,.int .i64 C.o] 28] [Aa (Am Ag) (.slice A1 C.J.us.length c2) C.J.us,Aa Af (.slice A6 C.J.map.length c7) C.J.map,Aa Af (.slice A11 C.J.comb.length c12) C.J.comb,Aa Af (.slice A16 C.J.red.length c17) C.J.red,Aa (Ai .i64) (.slice A21 C.J.marks.length c22) C.J.marks]:=H
 refine Ab (Ae (V U U (Aj U CV U) (V U U (Aj U DT U) (V U U (Al U DX U (H.cellI 1 U U)) (sc (Sm (.slice A1 C.J.us.length c2) (Bl C.J.us) (by simp only [Bl,List.length_map];omega)) H (lX (fun F hA hR=>TT (hR _ (List.mem_of_getElem? (i:=0) U))) l0) U U (Au Uv U U) ?_)))))
 rintro v28 _ w rfl H
 refine V U U (Aj U CV U) (V U U (Aj U DT U) ?_)
 obtain ⟨A29,c30,rfl,hc31,hm32,hp33⟩:=H.fA 0 rfl
 replace H:=H.p2
 refine BH U U U DX U U H U (Nat.le_of_ble_eq_true U) (fun u hu=>by simp [Value.cells] at hu;subst hu;rfl) (fun w H=>?_)
 replace H:Hd _ _ _ [blk b26 [.slice A29 ((Bl C.J.us).length) c30,.int .i64 C.J.parts,.slice A6 C.J.map.length c7,.slice A11 C.J.comb.length c12,.slice A16 C.J.red.length c17,.int .i64 C.J.chunk,.int .i64 C.J.window,.int .i64 C.J.fuel,.slice A21 C.J.marks.length c22,.int .i64 C.w,.int .i64 C.t,.int .i64 C.o] 28,Y Du (.slice A29 ((Bl C.J.us).length) c30) (Bl C.J.us),blk b27 [.slice none 0 0,.int .i64 0,.slice none 0 0,.slice none 0 0,.slice none 0 0,.int .i64 0,.int .i64 0,.int .i64 0,.slice none 0 0,.int .i64 0,.int .i64 0,.int .i64 0] 28] [Aa (Am Ag) (.slice A1 C.J.us.length c2) C.J.us,Aa Af (.slice A6 C.J.map.length c7) C.J.map,Aa Af (.slice A11 C.J.comb.length c12) C.J.comb,Aa Af (.slice A16 C.J.red.length c17) C.J.red,Aa (Ai .i64) (.slice A21 C.J.marks.length c22) C.J.marks]:=H
 refine Ac (Z (Ab (Ab (Ae (V U U (Aj U CV U) (V U U (Aj U DT U) (V U U (Al U DX U (H.cellI 0 U U)) (V U U (Bc U Ei U) (Ad U (Ac (Z (AQ ?_))))))))))))
 replace H:=H.p1.h1 (A:=Y Du (.slice A29 ((Bl C.J.us).length) c30) (Bl ([]:List (Value×List Ap))++(Bl C.J.us).drop 0))|>.big0 (fun u:Value×List Ap=>Y Ag u.1 u.2)|>.h1 (A:=FY Ag ([]:List (Value×List Ap)))
 refine BL (σ:=Nat×List (Value×List Ap)) (fun (i,zs)=>[(1,.pointer (some ⟨b26,0,none⟩)),(2,.pointer (some ⟨b27,0,none⟩)),(13,.slice A29 ((Bl C.J.us).length) c30),(14,.int .i64 (((Bl C.J.us).length:Nat):Int)),(15,.int .i64 ((i:Nat):Int))]) (fun (i,zs) w=>(Hd w0 F0 w [FY Ag zs,Y Du (.slice A29 ((Bl C.J.us).length) c30) (Bl zs++(Bl C.J.us).drop i),blk b26 [.slice A29 ((Bl C.J.us).length) c30,.int .i64 C.J.parts,.slice A6 C.J.map.length c7,.slice A11 C.J.comb.length c12,.slice A16 C.J.red.length c17,.int .i64 C.J.chunk,.int .i64 C.J.window,.int .i64 C.J.fuel,.slice A21 C.J.marks.length c22,.int .i64 C.w,.int .i64 C.t,.int .i64 C.o] 28,blk b27 [.slice none 0 0,.int .i64 0,.slice none 0 0,.slice none 0 0,.slice none 0 0,.int .i64 0,.int .i64 0,.int .i64 0,.slice none 0 0,.int .i64 0,.int .i64 0,.int .i64 0] 28] [Aa (Am Ag) (.slice A1 C.J.us.length c2) C.J.us,Aa Af (.slice A6 C.J.map.length c7) C.J.map,Aa Af (.slice A11 C.J.comb.length c12) C.J.comb,Aa Af (.slice A16 C.J.red.length c17) C.J.red,Aa (Ai .i64) (.slice A21 C.J.marks.length c22) C.J.marks])∧(zs.length=i∧zs.map (·.2)=(C.J.us.map (·.2)).take i)∧(i≤C.J.us.length)) (fun (i,zs)=>C.J.us.length - i) (0,[]) ⟨rfl,rfl,rfl,rfl,rfl,trivial⟩ ⟨H,⟨rfl,rfl⟩,Nat.zero_le _⟩ ?_
 rintro ⟨i,zs⟩ w ⟨H,hz,hi⟩
 refine Ab (Ae (V U U (Bb U U U) (Ac (Z (Ab ?_)))))
 refine Ax U (fun h34=>?_) (fun h34=>?_)
 ·refine Av (Z (Ab (AQ (Ab ?_))))
  obtain ⟨⟨u37,x35⟩,hx36⟩:∃ z9,C.J.us[i]?=some z9:=⟨_,List.getElem?_eq_getElem (show i<C.J.us.length by omega)⟩
  obtain ⟨A38,c39,rfl,hc40,hm41⟩:=H.nestR 0 rfl hx36
  have hk42:=WV (zs:=zs) hz.1 hx36
  have hxl:x35.length≤8:=(hsp _ (Cb hx36)).1
  refine Ae (Ad U ?_)
  have th43:=H.thA 1 rfl hk42
  refine V U U (AY (p:=AS A29+i*1) U Fz U U (by omega) (by omega) th43 U) (V U U (Al U EO U (H.elA 1 U hk42 (q:=0) U U)) (Ah 2 U (Ac (Z ?_))))
  replace H:=H.p3.p3.p2
  refine B3 (.e 0 (.e 1 (.e 2 (.e 3 (.e 4 (.m 5 (.e 6 (.m 7 .z)))))))) (fun w=>∃ Ar,Hd w0 F0 w (FY Ag zs::blk b26 [.slice A29 ((Bl C.J.us).length) c30,.int .i64 C.J.parts,.slice A6 C.J.map.length c7,.slice A11 C.J.comb.length c12,.slice A16 C.J.red.length c17,.int .i64 C.J.chunk,.int .i64 C.J.window,.int .i64 C.J.fuel,.slice A21 C.J.marks.length c22,.int .i64 C.w,.int .i64 C.t,.int .i64 C.o] 28::blk b27 [.slice none 0 0,.int .i64 0,.slice none 0 0,.slice none 0 0,.slice none 0 0,.int .i64 0,.int .i64 0,.int .i64 0,.slice none 0 0,.int .i64 0,.int .i64 0,.int .i64 0] 28::Ar) [Aa (Am Ag) (.slice A1 C.J.us.length c2) C.J.us,Aa Af (.slice A6 C.J.map.length c7) C.J.map,Aa Af (.slice A11 C.J.comb.length c12) C.J.comb,Aa Af (.slice A16 C.J.red.length c17) C.J.red,Aa (Ai .i64) (.slice A21 C.J.marks.length c22) C.J.marks]) mo (by kernel_rfl) (fun w H=>⟨_,H⟩) H (fun w H=>?_)
  refine Ao U U U (fun w ⟨Ar,H⟩=>Aj U CV U) (Ao U U U (fun w ⟨Ar,H⟩=>Aj U DT U) (Ao U U U (fun w ⟨Ar,H⟩=>Al U DX U (H.cellI 1 U U)) (At U (At U (AR U (sc (Jx (.slice A38 x35.length c39) x35 (by first |omega|decide|assumption)) H (lX (fun F hA hR=>HY (hR _ (List.mem_of_getElem? (i:=0) U)) hx36) l0) U U (Au JU U U) ?_))))))
  rintro v44 _ w rfl H
  replace H:=H.h1 (A:=Y Ag v44 x35)|>.p3|>.p3|>.p3
  refine AI ⟨_,H⟩ ?_
  have th45:=H.thA 4 rfl hk42
  refine Ao U U U (fun w ⟨Ar,H⟩=>AY (p:=AS A29+i*1) U Fz U U (by omega) (by omega) th45 U) (AR U ?_)
  obtain ⟨A46,c47,rfl,hc48,hm49,hp50⟩:=H.fA 3 rfl
  replace H:=H.p4
  refine Gt (i:=i) (a:=(⟨A46,x35.length,c47⟩:EA)) U U U EO U U U H (by simp only [List.length_append,List.length_drop,Bl,List.length_map];omega) U (fun w H=>?_)
  replace H:Hd _ _ _ [Y Du (.slice A29 ((Bl C.J.us).length) c30) ((Bl zs++(Bl C.J.us).drop i).set i (⟨A46,x35.length,c47⟩:EA)),FY Ag zs,blk b26 [.slice A29 ((Bl C.J.us).length) c30,.int .i64 C.J.parts,.slice A6 C.J.map.length c7,.slice A11 C.J.comb.length c12,.slice A16 C.J.red.length c17,.int .i64 C.J.chunk,.int .i64 C.J.window,.int .i64 C.J.fuel,.slice A21 C.J.marks.length c22,.int .i64 C.w,.int .i64 C.t,.int .i64 C.o] 28,blk b27 [.slice none 0 0,.int .i64 0,.slice none 0 0,.slice none 0 0,.slice none 0 0,.int .i64 0,.int .i64 0,.int .i64 0,.slice none 0 0,.int .i64 0,.int .i64 0,.int .i64 0] 28,Y Ag (.slice A46 x35.length c47) x35] [Aa (Am Ag) (.slice A1 C.J.us.length c2) C.J.us,Aa Af (.slice A6 C.J.map.length c7) C.J.map,Aa Af (.slice A11 C.J.comb.length c12) C.J.comb,Aa Af (.slice A16 C.J.red.length c17) C.J.red,Aa (Ai .i64) (.slice A21 C.J.marks.length c22) C.J.marks]:=H
  replace H:=H.p3.p3.p3
  refine AI ⟨_,H⟩ (BM (AT (Z (Ae (V U U (AU (z:=((i+1:Nat):Int)) U U U (by rw [AB (by omega) (by omega)];omega)) (Ad U (Ac ?_)))))))
  replace H:=H.p3.p1.p4.bigN (f:=fun u:Value×List Ap=>Y Ag u.1 u.2) (x:=(.slice A46 x35.length c47,x35))
  replace H:Hd w0 F0 w [FY Ag (zs++[(.slice A46 x35.length c47,x35)]),Y Du (.slice A29 ((Bl C.J.us).length) c30) (Bl (zs++[(.slice A46 x35.length c47,x35)])++(Bl C.J.us).drop (i+1)),blk b26 [.slice A29 ((Bl C.J.us).length) c30,.int .i64 C.J.parts,.slice A6 C.J.map.length c7,.slice A11 C.J.comb.length c12,.slice A16 C.J.red.length c17,.int .i64 C.J.chunk,.int .i64 C.J.window,.int .i64 C.J.fuel,.slice A21 C.J.marks.length c22,.int .i64 C.w,.int .i64 C.t,.int .i64 C.o] 28,blk b27 [.slice none 0 0,.int .i64 0,.slice none 0 0,.slice none 0 0,.slice none 0 0,.int .i64 0,.int .i64 0,.int .i64 0,.slice none 0 0,.int .i64 0,.int .i64 0,.int .i64 0] 28] [Aa (Am Ag) (.slice A1 C.J.us.length c2) C.J.us,Aa Af (.slice A6 C.J.map.length c7) C.J.map,Aa Af (.slice A11 C.J.comb.length c12) C.J.comb,Aa Af (.slice A16 C.J.red.length c17) C.J.red,Aa (Ai .i64) (.slice A21 C.J.marks.length c22) C.J.marks]:=by rw [←WW (x:=x35) hz.1 (by omega)];exact H
  exact Bf (s:=(i,zs)) (i+1,zs++[(.slice A46 x35.length c47,x35)]) ⟨rfl,rfl,rfl,rfl,rfl,trivial⟩ ⟨H,⟨by simp [hz.1],WX hz.2 hx36⟩,by (try dsimp only);omega⟩ (by (try dsimp only);omega)
 refine BD (AM (AM (BE (Z (Ab ?_)))))
 obtain rfl:i=C.J.us.length:=by omega
 replace H:=H.p1
 replace H:Hd w0 F0 w [Y Du (.slice A29 ((Bl C.J.us).length) c30) (Bl zs),FY Ag zs,blk b26 [.slice A29 ((Bl C.J.us).length) c30,.int .i64 C.J.parts,.slice A6 C.J.map.length c7,.slice A11 C.J.comb.length c12,.slice A16 C.J.red.length c17,.int .i64 C.J.chunk,.int .i64 C.J.window,.int .i64 C.J.fuel,.slice A21 C.J.marks.length c22,.int .i64 C.w,.int .i64 C.t,.int .i64 C.o] 28,blk b27 [.slice none 0 0,.int .i64 0,.slice none 0 0,.slice none 0 0,.slice none 0 0,.int .i64 0,.int .i64 0,.int .i64 0,.slice none 0 0,.int .i64 0,.int .i64 0,.int .i64 0] 28] [Aa (Am Ag) (.slice A1 C.J.us.length c2) C.J.us,Aa Af (.slice A6 C.J.map.length c7) C.J.map,Aa Af (.slice A11 C.J.comb.length c12) C.J.comb,Aa Af (.slice A16 C.J.red.length c17) C.J.red,Aa (Ai .i64) (.slice A21 C.J.marks.length c22) C.J.marks]:=by rw [show Bl zs=Bl zs++(Bl C.J.us).drop C.J.us.length by simp [Bl]];exact H
 replace H:=H.hdI|>.h1 (A:=Y (Am Ag) (.slice A29 ((Bl C.J.us).length) c30) zs)
 have hsj:Bd ({ C.J with us:=zs }:AC) C.J:=⟨by rw [hz.2,List.take_of_length_le (by simp)],rfl⟩
 refine R9 (.e 0 (.e 1 (.e 2 (.e 4 (.e 5 (.e 6 (.e 8 (.e 9 (.e 10 (.m 3 (.e 12 (.e 13 (.m 7 (.m 11 (.w 14 (.e 15 (.e 16 (.m 17 (.e 18 (.e 19 (.m 20 .z))))))))))))))))))))) (fun w=>∃ Ar,Hd w0 F0 w (Y (Am Ag) (.slice A29 ((Bl C.J.us).length) c30) zs::blk b26 [.slice A29 ((Bl C.J.us).length) c30,.int .i64 C.J.parts,.slice A6 C.J.map.length c7,.slice A11 C.J.comb.length c12,.slice A16 C.J.red.length c17,.int .i64 C.J.chunk,.int .i64 C.J.window,.int .i64 C.J.fuel,.slice A21 C.J.marks.length c22,.int .i64 C.w,.int .i64 C.t,.int .i64 C.o] 28::blk b27 [.slice none 0 0,.int .i64 0,.slice none 0 0,.slice none 0 0,.slice none 0 0,.int .i64 0,.int .i64 0,.int .i64 0,.slice none 0 0,.int .i64 0,.int .i64 0,.int .i64 0] 28::Ar) [Aa (Am Ag) (.slice A1 C.J.us.length c2) C.J.us,Aa Af (.slice A6 C.J.map.length c7) C.J.map,Aa Af (.slice A11 C.J.comb.length c12) C.J.comb,Aa Af (.slice A16 C.J.red.length c17) C.J.red,Aa (Ai .i64) (.slice A21 C.J.marks.length c22) C.J.marks]) (fun w=>∃ Ar,Hd w0 F0 w Ar [Aa (Am Ag) (.slice A1 C.J.us.length c2) C.J.us,Aa Af (.slice A6 C.J.map.length c7) C.J.map,Aa Af (.slice A11 C.J.comb.length c12) C.J.comb,Aa Af (.slice A16 C.J.red.length c17) C.J.red,Aa (Ai .i64) (.slice A21 C.J.marks.length c22) C.J.marks]) mo (by kernel_rfl) (fun w H=>⟨_,H⟩) H (fun w H=>?_)
 refine Fs U U U (fun w ⟨Ar,H⟩=>Aj U CV U) (Fs U U U (fun w ⟨Ar,H⟩=>Aj U HM U) (Fs U U U (fun w ⟨Ar,H⟩=>Al U Eh U (H.cellI 1 U U)) (Fs U U U (fun w ⟨Ar,H⟩=>Aj U CV U) (Fs U U U (fun w ⟨Ar,H⟩=>Aj U HN U) (Fs U U U (fun w ⟨Ar,H⟩=>Al U Eh U (H.cellI 1 U U)) (Fs U U U (fun w ⟨Ar,H⟩=>Aj U CV U) (Fs U U U (fun w ⟨Ar,H⟩=>Aj U HO U) (Fs U U U (fun w ⟨Ar,H⟩=>Al U Eh U (H.cellI 1 U U)) (LB U (sc (K6 (.slice A6 C.J.map.length c7) C.J.map (by first |omega|decide|assumption)) H (lR 1 U l0) U U (Au LP U U) ?_))))))))))
 rintro v51 _ w rfl H
 replace H:=H.h1 (A:=Y Af v51 C.J.map)|>.p3|>.p3|>.p3
 refine LA ⟨_,H⟩ (Fs U U U (fun w ⟨Ar,H⟩=>Aj U CV U) (Fs U U U (fun w ⟨Ar,H⟩=>Aj U HM U) (LB U (sc (K6 (.slice A11 C.J.comb.length c12) C.J.comb (by first |omega|decide|assumption)) H (lR 2 U l0) U U (Au LP U U) ?_))))
 rintro v52 _ w rfl H
 replace H:=H.h1 (A:=Y Af v52 C.J.comb)|>.p3|>.p3|>.p3
 refine LA ⟨_,H⟩ (LB U (sc (K6 (.slice A16 C.J.red.length c17) C.J.red (by first |omega|decide|assumption)) H (lR 3 U l0) U U (Au LP U U) ?_))
 rintro v53 _ w rfl H
 replace H:=H.h1 (A:=Y Af v53 C.J.red)|>.p3|>.p3|>.p3
 refine LA ⟨_,H⟩ (Tz U ?_)
 obtain ⟨A54,c55,rfl,hc56,hm57,hp58⟩:=H.fA 5 rfl
 replace H:=H.p1
 refine BH U U U Eh U U H U (Nat.le_of_ble_eq_true U) (fun u hu=>by simp [Value.cells] at hu;subst hu;rfl) (fun w H=>?_)
 replace H:Hd _ _ _ [blk b26 [.slice A29 ((Bl C.J.us).length) c30,.int .i64 C.J.parts,.slice A54 C.J.map.length c55,.slice A11 C.J.comb.length c12,.slice A16 C.J.red.length c17,.int .i64 C.J.chunk,.int .i64 C.J.window,.int .i64 C.J.fuel,.slice A21 C.J.marks.length c22,.int .i64 C.w,.int .i64 C.t,.int .i64 C.o] 28,Y (Am Ag) (.slice A29 ((Bl C.J.us).length) c30) zs,blk b27 [.slice none 0 0,.int .i64 0,.slice none 0 0,.slice none 0 0,.slice none 0 0,.int .i64 0,.int .i64 0,.int .i64 0,.slice none 0 0,.int .i64 0,.int .i64 0,.int .i64 0] 28,Y Af v53 C.J.red,Y Af v52 C.J.comb,Y Af (.slice A54 C.J.map.length c55) C.J.map] [Aa (Am Ag) (.slice A1 C.J.us.length c2) C.J.us,Aa Af (.slice A6 C.J.map.length c7) C.J.map,Aa Af (.slice A11 C.J.comb.length c12) C.J.comb,Aa Af (.slice A16 C.J.red.length c17) C.J.red,Aa (Ai .i64) (.slice A21 C.J.marks.length c22) C.J.marks]:=H
 refine AI ⟨_,H⟩ (Ao U U U (fun w ⟨Ar,H⟩=>Aj U CV U) (Ao U U U (fun w ⟨Ar,H⟩=>Aj U HN U) (AR U ?_)))
 obtain ⟨A59,c60,rfl,hc61,hm62,hp63⟩:=H.fA 4 rfl
 refine BH U U U Eh U U H U (Nat.le_of_ble_eq_true U) (fun u hu=>by simp [Value.cells] at hu;subst hu;rfl) (fun w H=>?_)
 replace H:Hd _ _ _ [blk b26 [.slice A29 ((Bl C.J.us).length) c30,.int .i64 C.J.parts,.slice A54 C.J.map.length c55,.slice A59 C.J.comb.length c60,.slice A16 C.J.red.length c17,.int .i64 C.J.chunk,.int .i64 C.J.window,.int .i64 C.J.fuel,.slice A21 C.J.marks.length c22,.int .i64 C.w,.int .i64 C.t,.int .i64 C.o] 28,Y (Am Ag) (.slice A29 ((Bl C.J.us).length) c30) zs,blk b27 [.slice none 0 0,.int .i64 0,.slice none 0 0,.slice none 0 0,.slice none 0 0,.int .i64 0,.int .i64 0,.int .i64 0,.slice none 0 0,.int .i64 0,.int .i64 0,.int .i64 0] 28,Y Af v53 C.J.red,Y Af (.slice A59 C.J.comb.length c60) C.J.comb,Y Af (.slice A54 C.J.map.length c55) C.J.map] [Aa (Am Ag) (.slice A1 C.J.us.length c2) C.J.us,Aa Af (.slice A6 C.J.map.length c7) C.J.map,Aa Af (.slice A11 C.J.comb.length c12) C.J.comb,Aa Af (.slice A16 C.J.red.length c17) C.J.red,Aa (Ai .i64) (.slice A21 C.J.marks.length c22) C.J.marks]:=H
 refine AI ⟨_,H⟩ (Ao U U U (fun w ⟨Ar,H⟩=>Aj U CV U) (Ao U U U (fun w ⟨Ar,H⟩=>Aj U HO U) (AR U ?_)))
 obtain ⟨A64,c65,rfl,hc66,hm67,hp68⟩:=H.fA 3 rfl
 refine BH U U U Eh U U H U (Nat.le_of_ble_eq_true U) (fun u hu=>by simp [Value.cells] at hu;subst hu;rfl) (fun w H=>?_)
 replace H:Hd _ _ _ [blk b26 [.slice A29 ((Bl C.J.us).length) c30,.int .i64 C.J.parts,.slice A54 C.J.map.length c55,.slice A59 C.J.comb.length c60,.slice A64 C.J.red.length c65,.int .i64 C.J.chunk,.int .i64 C.J.window,.int .i64 C.J.fuel,.slice A21 C.J.marks.length c22,.int .i64 C.w,.int .i64 C.t,.int .i64 C.o] 28,Y (Am Ag) (.slice A29 ((Bl C.J.us).length) c30) zs,blk b27 [.slice none 0 0,.int .i64 0,.slice none 0 0,.slice none 0 0,.slice none 0 0,.int .i64 0,.int .i64 0,.int .i64 0,.slice none 0 0,.int .i64 0,.int .i64 0,.int .i64 0] 28,Y Af (.slice A64 C.J.red.length c65) C.J.red,Y Af (.slice A59 C.J.comb.length c60) C.J.comb,Y Af (.slice A54 C.J.map.length c55) C.J.map] [Aa (Am Ag) (.slice A1 C.J.us.length c2) C.J.us,Aa Af (.slice A6 C.J.map.length c7) C.J.map,Aa Af (.slice A11 C.J.comb.length c12) C.J.comb,Aa Af (.slice A16 C.J.red.length c17) C.J.red,Aa (Ai .i64) (.slice A21 C.J.marks.length c22) C.J.marks]:=H
 refine AI ⟨_,H⟩ (BM (Z (Ab (Ae (V U U (Aj U CV U) (V U U (Aj U HP U) (V U U (Al U EY U (H.cellI 0 U U)) (sc (HC (.slice A21 C.J.marks.length c22) C.J.marks (by first |omega|decide|assumption)) H (lR 4 U l0) U U (Au HT U U) ?_))))))))
 rintro v69 _ w rfl H
 refine V U U (Aj U CV U) (V U U (Aj U HP U) ?_)
 obtain ⟨A70,c71,rfl,hc72,hm73,hp74⟩:=H.fA 0 rfl
 replace H:=H.p1
 refine BH U U U EY U U H U (Nat.le_of_ble_eq_true U) (fun u hu=>by simp [Value.cells] at hu;subst hu;rfl) (fun w H=>?_)
 replace H:Hd _ _ _ [blk b26 [.slice A29 ((Bl C.J.us).length) c30,.int .i64 C.J.parts,.slice A54 C.J.map.length c55,.slice A59 C.J.comb.length c60,.slice A64 C.J.red.length c65,.int .i64 C.J.chunk,.int .i64 C.J.window,.int .i64 C.J.fuel,.slice A70 C.J.marks.length c71,.int .i64 C.w,.int .i64 C.t,.int .i64 C.o] 28,Y (Ai .i64) (.slice A70 C.J.marks.length c71) C.J.marks,Y (Am Ag) (.slice A29 ((Bl C.J.us).length) c30) zs,blk b27 [.slice none 0 0,.int .i64 0,.slice none 0 0,.slice none 0 0,.slice none 0 0,.int .i64 0,.int .i64 0,.int .i64 0,.slice none 0 0,.int .i64 0,.int .i64 0,.int .i64 0] 28,Y Af (.slice A64 C.J.red.length c65) C.J.red,Y Af (.slice A59 C.J.comb.length c60) C.J.comb,Y Af (.slice A54 C.J.map.length c55) C.J.map] [Aa (Am Ag) (.slice A1 C.J.us.length c2) C.J.us,Aa Af (.slice A6 C.J.map.length c7) C.J.map,Aa Af (.slice A11 C.J.comb.length c12) C.J.comb,Aa Af (.slice A16 C.J.red.length c17) C.J.red,Aa (Ai .i64) (.slice A21 C.J.marks.length c22) C.J.marks]:=H
 refine Ac (Z (Ab (Ae (V U U (Bo (cs:=[.slice A29 ((Bl C.J.us).length) c30,.int .i64 C.J.parts,.slice A54 C.J.map.length c55,.slice A59 C.J.comb.length c60,.slice A64 C.J.red.length c65,.int .i64 C.J.chunk,.int .i64 C.J.window,.int .i64 C.J.fuel,.slice A70 C.J.marks.length c71,.int .i64 C.w,.int .i64 C.t,.int .i64 C.o]) U DC U U (H.cellsI 0 U U)) ?_))))
 replace H:=H.p3
 refine BH U U U DC U U H U (Nat.le_of_ble_eq_true U) (fun u hu=>by simp [Value.cells] at hu;rcases hu with rfl|rfl|rfl|rfl|rfl|rfl|rfl|rfl|rfl|rfl|rfl|rfl<;>rfl) (fun w H=>?_)
 replace H:=H.h1 (A:=blk b27 [.slice A29 ((Bl C.J.us).length) c30,.int .i64 C.J.parts,.slice A54 C.J.map.length c55,.slice A59 C.J.comb.length c60,.slice A64 C.J.red.length c65,.int .i64 C.J.chunk,.int .i64 C.J.window,.int .i64 C.J.fuel,.slice A70 C.J.marks.length c71,.int .i64 C.w,.int .i64 C.t,.int .i64 C.o] 28)
 refine Ac (Z (An (Fx (cs:=[.slice A29 ((Bl C.J.us).length) c30,.int .i64 C.J.parts,.slice A54 C.J.map.length c55,.slice A59 C.J.comb.length c60,.slice A64 C.J.red.length c65,.int .i64 C.J.chunk,.int .i64 C.J.window,.int .i64 C.J.fuel,.slice A70 C.J.marks.length c71,.int .i64 C.w,.int .i64 C.t,.int .i64 C.o]) U U DC U (H.cellsI 0 U U) ?_)))
 replace H:=H.p2.p4.p5.p6.p6.k5
 exact Ak ⟨({ C.J with us:=zs }:AC),(.slice A29 ((Bl C.J.us).length) c30),(.slice A54 C.J.map.length c55),(.slice A59 C.J.comb.length c60),(.slice A64 C.J.red.length c65),(.slice A70 C.J.marks.length c71),rfl,rfl,hsj⟩ H
abbrev GF:=(Int×Int)×Value×List (Value×List Ap)
def Jf (e:GF):(Int×Int)×List (List Ap):=(e.1,e.2.2.map (·.2))
def Hn (e:GF):(Int×Int)×Value:=(e.1,e.2.1)
def G3 (e:GF):SP:=Y (Am Ag) e.2.1 e.2.2
def KA (mb:Nat) (st:DP):SP:=ex fun kvs:List GF=>BZ [BW (kvs.map Jf=st),Bq FZ mb (kvs.map Hn),Bn G3 kvs]
def CD (t sb:Nat) (st:DP):SP:=ex fun mb:Nat=>BZ [blk sb [.map (some mb)] t,KA mb st]
section
variable {kvs:List GF} {k:Int×Int} {x:Value×List (Value×List Ap)}
end
section
variable {w0 w:World} {F0:AJ} {As Rs:List SP} {t sb mb:Nat} {st:DP} {kvs:List GF} {k:Int×Int} {v:Value} {us:List (Value×List Ap)}
theorem Hd.stgC (he:kvs.map Jf=st) (H:Hd w0 F0 w (blk sb [.map (some mb)] t::Bq FZ mb (kvs.map Hn)::Bn G3 kvs::As) Rs):Hd w0 F0 w (CD t sb st::As) Rs:=by
 have h3:Hd w0 F0 w (BW (kvs.map Jf=st)::Bq FZ mb (kvs.map Hn)::Bn G3 kvs::blk sb [.map (some mb)] t::As) Rs:=
  (H.perm (((List.Perm.swap _ _ _).trans ((List.Perm.swap _ _ _).cons _)):(blk sb [.map (some mb)] t::Bq FZ mb (kvs.map Hn)::Bn G3 kvs::As).Perm (Bq FZ mb (kvs.map Hn)::Bn G3 kvs::blk sb [.map (some mb)] t::As))).puI he
 have h4:Hd w0 F0 w (KA mb st::blk sb [.map (some mb)] t::As) Rs:=Hd.exI (A:=fun kvs:List GF=>BZ [BW (kvs.map Jf=st),Bq FZ mb (kvs.map Hn),Bn G3 kvs]) kvs (Hd.stI (Bs:=[BW (kvs.map Jf=st),Bq FZ mb (kvs.map Hn),Bn G3 kvs]) h3)
 exact Hd.exI (A:=fun mb:Nat=>BZ [blk sb [.map (some mb)] t,KA mb st]) mb (Hd.stI (Bs:=[blk sb [.map (some mb)] t,KA mb st]) (h4.perm (List.Perm.swap _ _ _)))
theorem Hd.st0 (H:Hd w0 F0 w (blk sb [.map (some mb)] t::Bq FZ mb []::As) Rs):Hd w0 F0 w (CD t sb []::As) Rs:=
 Hd.stgC (kvs:=[]) rfl (((H.perm (List.Perm.swap _ _ _)).big0 G3).perm (((List.Perm.swap _ _ _).trans ((List.Perm.swap _ _ _).cons _)).trans (List.Perm.swap _ _ _)))
end
theorem Y8  :
    Cn Tryz.prog 128 [] [] [] (fun v Bs=>∃ b:Nat,v=.pointer (some ⟨b,0,none⟩)∧Bs=[CD 253 b ([])]):=by
 intro w0 F0 H
 refine enter Tryz.func128 U U (Nat.le_of_ble_eq_true U) (Ab (Ae (Ad U (Ac (Z (Ab (Ae (QV FZ U U U H (fun b1 w H=>(V U U (CR (parts:=[(0,.tmp 1)]) (vs:=[.map (some b1)]) (cs:=[.map (some b1)]) U RO U U) (Ct U U U U H (fun b2 w H=>(Ad U (Ac (Z ?_)))))))))))))))
 replace H:Hd _ _ _ [blk b2 [.map (some b1)] 253,Bq FZ b1 []] []:=H
 refine An (Aq U U ?_)
 replace H:=H.st0|>.h1 (A:=CD 253 b2 ([]))
 exact Ak ⟨_,rfl,rfl⟩ H
theorem RG (r:Nat) (A:Option Addr) (m:Nat) (c:Nat) (vM2:Value) (vC2:Value) (vR2:Value) (vK2:Value) (J2:AC) (cw:Int) (ct:Int) (co:Int) (part:Int) (ep:Int) (g:Nat→Dh) (hv:Nat→Value) (sb:Nat) (vs:Value) (n:Int) (hn:0≤n∧n<(m:Int)) (hm:m≤6):
    Cn Tryz.prog 118 [.pointer (some ⟨r,0,none⟩),.int .i64 n] [] [blk r (Br (.slice A m c) vM2 vC2 vR2 vK2 J2 cw ct co part ep g hv sb vs) 185] (fun v Bs=>v=.pointer (some ⟨r,14+(n).toNat*5,none⟩)∧Bs=[]):=by
 intro w0 F0 H
 refine enter Tryz.func118 U U (Nat.le_of_ble_eq_true U) (Ab (Ae (Ad U (Ac (Z (Ab (Ab (Ae (Ad U (V U U (Dn U Io U U) (Ah 2 U (V U U (Bb U U U) (Ah 2 U ?_)))))))))))))
 refine AN (d:=11) U (fun h1=>?_) (fun h1=>?_)
 ·exfalso;omega
 refine Ah 2 U (V U U (AH U U) (V U U (Aj U Hb U) (V U U (Aj U CV U) (V U U (Aj U DT U) (V U U (Al U DX U (H.cellRI 0 U U)) (V U U (Bc U Ei U) (V U U (CL U U U) (Ad U (Ac (Z ?_))))))))))
 refine Ax U (fun h2=>?_) (fun h2=>?_)
 ·exfalso;omega
 refine Av (Z (Ab (Ae (Ah 2 U (V U U (AH U U) (V U U (Aj U IA U) (V U U (GU (p:=14+(n).toNat*5) U Jo IJ U U (by omega) (by omega) (by omega)) (Ad U (Ac (Z (An (Aq U U ?_))))))))))))
 replace H:Hd _ _ _ [] [blk r (Br (.slice A m c) vM2 vC2 vR2 vK2 J2 cw ct co part ep g hv sb vs) 185]:=H
 exact Ak ⟨rfl,rfl⟩ H
theorem RF (r:Nat) (A:Option Addr) (m:Nat) (c:Nat) (vM2:Value) (vC2:Value) (vR2:Value) (vK2:Value) (J2:AC) (cw:Int) (ct:Int) (co:Int) (part:Int) (ep:Int) (g:Nat→Dh) (hv:Nat→Value) (sb:Nat) (vs:Value) (n:Int) (hn:¬ (0≤n∧n<(m:Int))):
    Cn Tryz.prog 118 [.pointer (some ⟨r,0,none⟩),.int .i64 n] [] [blk r (Br (.slice A m c) vM2 vC2 vR2 vK2 J2 cw ct co part ep g hv sb vs) 185] (fun v Bs=>v=.pointer none∧Bs=[]):=by
 intro w0 F0 H
 refine enter Tryz.func118 U U (Nat.le_of_ble_eq_true U) (Ab (Ae (Ad U (Ac (Z (Ab (Ab (Ae (Ad U (V U U (Dn U Io U U) (Ah 2 U (V U U (Bb U U U) (Ah 2 U ?_)))))))))))))
 refine AN (d:=11) U (fun h1=>?_) (fun h1=>?_)
 ·refine Ah 10 U (Ac (Z (CG U (Ab (Ae (Ad U (Ac (Z (An (Ay (Aq U U ?_)))))))))))
  replace H:Hd _ _ _ [] [blk r (Br (.slice A m c) vM2 vC2 vR2 vK2 J2 cw ct co part ep g hv sb vs) 185]:=H
  exact Ak ⟨rfl,rfl⟩ H
 refine Ah 2 U (V U U (AH U U) (V U U (Aj U Hb U) (V U U (Aj U CV U) (V U U (Aj U DT U) (V U U (Al U DX U (H.cellRI 0 U U)) (V U U (Bc U Ei U) (V U U (CL U U U) (Ad U (Ac (Z ?_))))))))))
 refine Ax U (fun h2=>?_) (fun h2=>?_)
 ·refine Ab (Ae (Ad U (Ac (Z (An (Ay (Aq U U ?_)))))))
  replace H:Hd _ _ _ [] [blk r (Br (.slice A m c) vM2 vC2 vR2 vK2 J2 cw ct co part ep g hv sb vs) 185]:=H
  exact Ak ⟨rfl,rfl⟩ H
 exact Av (Z (Ab (Ae (Ah 2 U (V U U (AH U U) (V U U (Aj U IA U) (V U U (GU (p:=14+(n).toNat*5) U Jo IJ U U (by omega) (by omega) (by omega)) (Ad U (Ac (Z (An (Aq U U (absurd (by omega) hn)))))))))))))
theorem Zw (vxs:Value) (xs:List Ap) (vys:Value) (ys:List Ap) (hb:xs.length+ys.length≤1000000):
    Cn Tryz.prog 185 [vxs,vys] [] [Aa Ag vxs xs,Aa Ag vys ys] (fun v Bs=>Bs=[Y Ag v (srt (xs++ys))]):=by
 intro w0 F0 H
 obtain ⟨A1,c2,rfl,hc3,hm4,hp5⟩:=H.fR 0 rfl
 obtain ⟨A6,c7,rfl,hc8,hm9,hp10⟩:=H.fR 1 rfl
 refine enter Tryz.func185 U U (Nat.le_of_ble_eq_true U) (Ab (Ae (Ad U (Ac (Z ?_)))))
 replace H:Hd _ _ _ [] [Aa Ag (.slice A1 xs.length c2) xs,Aa Ag (.slice A6 ys.length c7) ys]:=H
 refine Ab (Ab (Ae (Ad U (sc (Q1 (.slice A1 xs.length c2) xs (by first |omega|decide|(simp only [List.length_append,List.length_cons,List.length_nil,Ga];omega))) H (lR 0 U l0) U U (Au Pa U U) ?_))))
 rintro _ _ w ⟨rfl,rfl⟩ H
 refine V U U (Ea U U) (Ad U ?_)
 refine AN (d:=9) U (fun h11=>?_) (fun h11=>?_)
 ·refine Ah 4 U (Ac (Z (CG U (Ab (Ae (Ad U ?_))))))
  replace H:=H.newnil Ag
  refine Cy (xs:=[]) (ys:=xs) U U U By Dc U (by decide) U U H (by first |omega|(simp only [List.length_append,List.length_cons,List.length_nil];omega)) (fun F hA hR=>hR _ (List.mem_of_getElem? (i:=0) U)) (fun v12 w H=>(Ad U (Cy (xs:=[]++xs) (ys:=ys) U U U By Dc U (by decide) U U H (by first |omega|(simp only [List.length_append,List.length_cons,List.length_nil];omega)) (fun F hA hR=>hR _ (List.mem_of_getElem? (i:=1) U)) (fun v13 w H=>?_))))
  replace H:Hd _ _ _ [Y Ag v13 (([]++xs)++ys)] [Aa Ag (.slice A1 xs.length c2) xs,Aa Ag (.slice A6 ys.length c7) ys]:=H
  refine sc (Mj v13 (([]++xs)++ys) (by first |omega|decide|(simp only [List.length_append,List.length_cons,List.length_nil,Ga];omega))) H (lA 0 U BI l0) U U (Au LR U U) ?_
  rintro v14 _ w rfl H
  replace H:=H.h1 (A:=Y Ag v14 (srt (([]++xs)++ys)))
  refine Ad U (Ac (Z (An (Ay (Aq U U ?_)))))
  replace H:=H.k1.h1 (A:=Y Ag v14 (srt (xs++ys)))
  exact Ak U H
 refine Ad U (sc (Q1 (.slice A6 ys.length c7) ys (by first |omega|decide|(simp only [List.length_append,List.length_cons,List.length_nil,Ga];omega))) H (lR 1 U l0) U U (Au Pa U U) ?_)
 rintro _ _ w ⟨rfl,rfl⟩ H
 refine V U U (Ea U U) (Ad U (Ac (Z ?_)))
 refine Ax U (fun h15=>?_) (fun h15=>?_)
 ·refine Ab (Ae (Ad U ?_))
  replace H:=H.newnil Ag
  refine Cy (xs:=[]) (ys:=xs) U U U By Dc U (by decide) U U H (by first |omega|(simp only [List.length_append,List.length_cons,List.length_nil];omega)) (fun F hA hR=>hR _ (List.mem_of_getElem? (i:=0) U)) (fun v16 w H=>(Ad U (Cy (xs:=[]++xs) (ys:=ys) U U U By Dc U (by decide) U U H (by first |omega|(simp only [List.length_append,List.length_cons,List.length_nil];omega)) (fun F hA hR=>hR _ (List.mem_of_getElem? (i:=1) U)) (fun v17 w H=>?_))))
  replace H:Hd _ _ _ [Y Ag v17 (([]++xs)++ys)] [Aa Ag (.slice A1 xs.length c2) xs,Aa Ag (.slice A6 ys.length c7) ys]:=H
  refine sc (Mj v17 (([]++xs)++ys) (by first |omega|decide|(simp only [List.length_append,List.length_cons,List.length_nil,Ga];omega))) H (lA 0 U BI l0) U U (Au LR U U) ?_
  rintro v18 _ w rfl H
  replace H:=H.h1 (A:=Y Ag v18 (srt (([]++xs)++ys)))
  refine Ad U (Ac (Z (An (Ay (Aq U U ?_)))))
  replace H:=H.k1.h1 (A:=Y Ag v18 (srt (xs++ys)))
  exact Ak U H
 refine Av (Z (Ab ?_))
 have hoxs:CX xs:=Classical.not_not.1 h11
 have hoys:CX ys:=Classical.not_not.1 h15
 refine Ae (Ad U (Ac (Z (Ab (AQ ?_)))))
 replace H:=H.newnil Ag|>.dupR 1 rfl|>.dupR 1 rfl
 refine BL (σ:=Value×Value×List Ap×List Ap×Value×List Ap) (fun (u,v,al,bl,q,zs)=>[(0,u),(1,v),(4,.slice none 0 0),(5,q)]) (fun (u,v,al,bl,q,zs) w=>(Hd w0 F0 w [Y Ag q zs] [Aa Ag u al,Aa Ag v bl,Aa Ag (.slice A1 xs.length c2) xs,Aa Ag (.slice A6 ys.length c7) ys])∧(CX al)∧(CX bl)∧(zs.length+(al.length+bl.length)=xs.length+ys.length)∧(zs++srt (al++bl)=srt (xs++ys))) (fun (u,v,al,bl,q,zs)=>al.length+bl.length) (.slice A1 xs.length c2,.slice A6 ys.length c7,xs,ys,.slice none 0 0,[]) ⟨rfl,rfl,rfl,rfl,trivial⟩ ⟨H,hoxs,hoys,by (try dsimp only);simp only [List.length_nil];omega,rfl⟩ ?_
 rintro ⟨u,v,al,bl,q,zs⟩ w ⟨H,ha,hb2,hl,hz⟩
 refine Ab (Ab (Ae (Ad U ?_)))
 obtain ⟨A19,c20,rfl,hc21,hm22,hp23⟩:=H.fR 0 rfl
 refine V U U (Bc U Da U) (V U U (Ck U U U) (Ad U ?_))
 refine AN (d:=22) U (fun h24=>?_) (fun h24=>?_)
 ·refine Ad U ?_
  obtain ⟨A25,c26,rfl,hc27,hm28,hp29⟩:=H.fR 1 rfl
  refine V U U (Bc U Da U) (V U U (Ck U U U) (Ad U (Ac (Z ?_))))
  replace H:Hd _ _ _ [Y Ag q zs] [Aa Ag (.slice A19 al.length c20) al,Aa Ag (.slice A25 bl.length c26) bl,Aa Ag (.slice A1 xs.length c2) xs,Aa Ag (.slice A6 ys.length c7) ys]:=H
  refine Ax U (fun h30=>?_) (fun h30=>?_)
  ·refine Av (Z (AQ (Ab (Ab (Gj mo (by kernel_rfl) H (Eb U ?_))))))
   obtain ⟨x31,hx32⟩:∃ z9,bl[0]?=some z9:=⟨_,List.getElem?_eq_getElem (show 0<bl.length by omega)⟩
   have th33:=H.thR 1 rfl hx32
   refine Bu U U (fun w H=>AY (p:=AS A25+0*2) U By U U (by omega) (by omega) th33 (by omega)) (Bu U U (fun w H=>Aj U E8 U) (Bu U U (fun w H=>Al U BS U (H.elR 1 U hx32 (q:=0) U U)) (Eb U ?_)))
   obtain ⟨x34,hx35⟩:∃ z9,al[0]?=some z9:=⟨_,List.getElem?_eq_getElem (show 0<al.length by omega)⟩
   have th36:=H.thR 0 rfl hx35
   refine Bu U U (fun w H=>AY (p:=AS A19+0*2) U By U U (by omega) (by omega) th36 (by omega)) (Bu U U (fun w H=>Aj U E8 U) (Bu U U (fun w H=>Al U BS U (H.elR 0 U hx35 (q:=0) U U)) (Bu U U (fun w H=>Qr U U U) (Gy (fun w H=>(Z ?_))))))
   refine Ax U (fun h37=>?_) (fun h37=>?_)
   ·refine Ab (Ae (Ah 2 U ?_))
    have th38:=H.thR 1 rfl hx32
    refine V U U (AY (p:=AS A25+0*2) U By U U (by omega) (by omega) th38 (by omega)) (V U U (Bo (cs:=[.string x31.key,.string x31.val]) U Cc U U (H.elsR 1 U hx32 U)) (BX (parts:=[(0,.tmp 39)]) (vs:=[.agg #[.string x31.key,.string x31.val]]) (cs:=[.string x31.key,.string x31.val]) U U U By Dc U (by decide) (by decide) U U H (fun b39 w H=>?_)))
    replace H:=H.p1
    refine Cy (xs:=zs) (ys:=[x31]) U U U By Dc U (by decide) U U H (by first |omega|(simp only [List.length_append,List.length_cons,List.length_nil];omega)) (fun F hA hR=>Cm (hA _ (List.mem_of_getElem? (i:=0) U)) U (by decide) (AV.flat_eq.2 U)) (fun v40 w H=>(Ad U (Ac (Z ?_))))
    replace H:Hd _ _ _ [Y Ag v40 (zs++[x31]),blk b39 [.string x31.key,.string x31.val] 106] [Aa Ag (.slice A19 al.length c20) al,Aa Ag (.slice A25 bl.length c26) bl,Aa Ag (.slice A1 xs.length c2) xs,Aa Ag (.slice A6 ys.length c7) ys]:=H
    refine Ab (Ae (Ad U (V U U (I0 U By U U (by omega) (by omega) U) (Ad U (Ac (Z (BD (AM (BE ?_)))))))))
    replace H:=H.k1.sufR 1 rfl (n:=1) (by omega)
    replace H:Hd w0 F0 w [Y Ag v40 (zs++[x31])] [Aa Ag (.slice A19 al.length c20) al,Aa Ag (.slice (DK A25 c26 1 2) (bl.length - 1) (c26 - 1)) (bl.drop 1),Aa Ag (.slice A1 xs.length c2) xs,Aa Ag (.slice A6 ys.length c7) ys]:=H.pickR [1,0,3,4]
    have hz2:(zs++[x31])++srt (al++bl.drop 1)=srt (xs++ys):=by rw [←hz,V3 hx35 hx32 ha hb2 h37,List.append_assoc];rfl
    exact Bf (s:=(undef,undef,al,bl,undef,zs)) (.slice A19 al.length c20,.slice (DK A25 c26 1 2) (bl.length - 1) (c26 - 1),al,bl.drop 1,v40,zs++[x31]) ⟨rfl,rfl,rfl,rfl,trivial⟩ ⟨H,ha,P5 hb2 1,by (try dsimp only);simp only [List.length_append,List.length_cons,List.length_nil,List.length_drop];omega,hz2⟩ (by (try dsimp only);simp only [List.length_drop];omega)
   refine Av (Z (Ab (Ae (Ah 2 U ?_))))
   have th41:=H.thR 0 rfl hx35
   refine V U U (AY (p:=AS A19+0*2) U By U U (by omega) (by omega) th41 (by omega)) (V U U (Bo (cs:=[.string x34.key,.string x34.val]) U Cc U U (H.elsR 0 U hx35 U)) (BX (parts:=[(0,.tmp 47)]) (vs:=[.agg #[.string x34.key,.string x34.val]]) (cs:=[.string x34.key,.string x34.val]) U U U By Dc U (by decide) (by decide) U U H (fun b42 w H=>?_)))
   replace H:=H.p1
   refine Cy (xs:=zs) (ys:=[x34]) U U U By Dc U (by decide) U U H (by first |omega|(simp only [List.length_append,List.length_cons,List.length_nil];omega)) (fun F hA hR=>Cm (hA _ (List.mem_of_getElem? (i:=0) U)) U (by decide) (AV.flat_eq.2 U)) (fun v43 w H=>(Ad U (Ac (Z ?_))))
   replace H:Hd _ _ _ [Y Ag v43 (zs++[x34]),blk b42 [.string x34.key,.string x34.val] 106] [Aa Ag (.slice A19 al.length c20) al,Aa Ag (.slice A25 bl.length c26) bl,Aa Ag (.slice A1 xs.length c2) xs,Aa Ag (.slice A6 ys.length c7) ys]:=H
   refine Ae (Ad U (V U U (I0 U By U U (by omega) (by omega) U) (Ad U (Ac (AT ?_)))))
   replace H:=H.k1.sufR 0 rfl (n:=1) (by omega)
   replace H:Hd w0 F0 w [Y Ag v43 (zs++[x34])] [Aa Ag (.slice (DK A19 c20 1 2) (al.length - 1) (c20 - 1)) (al.drop 1),Aa Ag (.slice A25 bl.length c26) bl,Aa Ag (.slice A1 xs.length c2) xs,Aa Ag (.slice A6 ys.length c7) ys]:=H.pickR [0,2,3,4]
   have hz2:(zs++[x34])++srt (al.drop 1++bl)=srt (xs++ys):=by rw [←hz,V2 hx35 hx32 ha hb2 h37,List.append_assoc];rfl
   exact Bf (s:=(undef,undef,al,bl,undef,zs)) (.slice (DK A19 c20 1 2) (al.length - 1) (c20 - 1),.slice A25 bl.length c26,al.drop 1,bl,v43,zs++[x34]) ⟨rfl,rfl,rfl,rfl,trivial⟩ ⟨H,P5 ha 1,hb2,by (try dsimp only);simp only [List.length_append,List.length_cons,List.length_nil,List.length_drop];omega,hz2⟩ (by (try dsimp only);simp only [List.length_drop];omega)
  refine BD (AM (AM (BE (Z (Ab (Ae (Ah 2 U (Cy (xs:=zs) (ys:=al) U U U By Dc U (by decide) U U H (by first |omega|(simp only [List.length_append,List.length_cons,List.length_nil];omega)) (fun F hA hR=>hR _ (List.mem_of_getElem? (i:=0) U)) (fun v44 w H=>(Ad U (Cy (xs:=zs++al) (ys:=bl) U U U By Dc U (by decide) U U H (by first |omega|(simp only [List.length_append,List.length_cons,List.length_nil];omega)) (fun F hA hR=>hR _ (List.mem_of_getElem? (i:=1) U)) (fun v45 w H=>?_))))))))))))
  replace H:=H.h1 (A:=Y Ag v45 ((zs++al)++bl))
  refine Ad U (Ac (Z (An (Aq U U ?_))))
  replace H:Hd w0 F0 w [Y Ag v45 (srt (xs++ys))] [Aa Ag (.slice A19 al.length c20) al,Aa Ag (.slice A25 bl.length c26) bl,Aa Ag (.slice A1 xs.length c2) xs,Aa Ag (.slice A6 ys.length c7) ys]:=by rw [←hz,PK ha hb2 (by omega),←List.append_assoc];exact H
  replace H:=H.dropR|>.dropR
  exact Ak U H
 refine Ah 4 U (Ac (Z ?_))
 replace H:Hd _ _ _ [Y Ag q zs] [Aa Ag (.slice A19 al.length c20) al,Aa Ag v bl,Aa Ag (.slice A1 xs.length c2) xs,Aa Ag (.slice A6 ys.length c7) ys]:=H
 refine B2 U (BD (AM (AM (BE (Z (Ab (Ae (Ah 2 U (Cy (xs:=zs) (ys:=al) U U U By Dc U (by decide) U U H (by first |omega|(simp only [List.length_append,List.length_cons,List.length_nil];omega)) (fun F hA hR=>hR _ (List.mem_of_getElem? (i:=0) U)) (fun v46 w H=>(Ad U ?_)))))))))))
 obtain ⟨A47,c48,rfl,hc49,hm50,hp51⟩:=H.fR 1 rfl
 refine Cy (xs:=zs++al) (ys:=bl) U U U By Dc U (by decide) U U H (by first |omega|(simp only [List.length_append,List.length_cons,List.length_nil];omega)) (fun F hA hR=>hR _ (List.mem_of_getElem? (i:=1) U)) (fun v52 w H=>(Ad U (Ac (Z ?_))))
 replace H:Hd _ _ _ [Y Ag v52 ((zs++al)++bl)] [Aa Ag (.slice A19 al.length c20) al,Aa Ag (.slice A47 bl.length c48) bl,Aa Ag (.slice A1 xs.length c2) xs,Aa Ag (.slice A6 ys.length c7) ys]:=H
 refine An (Aq U U ?_)
 replace H:Hd w0 F0 w [Y Ag v52 (srt (xs++ys))] [Aa Ag (.slice A19 al.length c20) al,Aa Ag (.slice A47 bl.length c48) bl,Aa Ag (.slice A1 xs.length c2) xs,Aa Ag (.slice A6 ys.length c7) ys]:=by rw [←hz,PK ha hb2 (by omega),←List.append_assoc];exact H
 replace H:=H.dropR|>.dropR
 exact Ak U H
theorem Yt (vus:Value) (us:List (Value×List Ap)) (hb:(CK us).length≤1000000):
    Cn Tryz.prog 138 [vus] [] [Aa (Am Ag) vus us] (fun v Bs=>Bs=[Y Ag v (srt (CK us))]):=by
 intro w0 F0 H
 obtain ⟨A1,c2,rfl,hc3,hm4,hp5⟩:=H.fR 0 rfl
 refine enter Tryz.func138 U U (Nat.le_of_ble_eq_true U) (Ab (Ae (Ad U (Ac (Z ?_)))))
 replace H:Hd _ _ _ [] [Aa (Am Ag) (.slice A1 us.length c2) us]:=H
 refine Ab (Ae (Ad U (Ac (Z (Ab (Ab (Ae (Ad U (V U U (Bc U Ei U) (Ad U (Ac (Z (AQ ?_)))))))))))))
 replace H:=H.newnil Ag
 refine BL (σ:=Nat×Value) (fun (k,q)=>[(2,.slice none 0 0),(3,q),(6,.slice A1 us.length c2),(7,.int .i64 ((us.length:Nat):Int)),(8,.int .i64 ((k:Nat):Int))]) (fun (k,q) w=>(Hd w0 F0 w [Y Ag q (srt (CK (us.take k)))] [Aa (Am Ag) (.slice A1 us.length c2) us])∧(k≤us.length)) (fun (k,q)=>us.length - k) (0,.slice none 0 0) ⟨rfl,rfl,rfl,rfl,rfl,trivial⟩ ⟨H,by (try dsimp only);omega⟩ ?_
 rintro ⟨k,q⟩ w ⟨H,hk⟩
 have hsl:=Ga (CK (us.take k))
 refine Ab (Ae (V U U (Bb U U U) (Ac (Z (Ab ?_)))))
 refine Ax U (fun h6=>?_) (fun h6=>?_)
 ·refine Av (Z (Ab (AQ (Ab (Ae ?_)))))
  obtain ⟨⟨u9,x7⟩,hx8⟩:∃ z9,us[k]?=some z9:=⟨_,List.getElem?_eq_getElem (show k<us.length by omega)⟩
  obtain ⟨A10,c11,rfl,hc12,hm13⟩:=H.nestR 0 rfl hx8
  have th14:=H.thRd 0 rfl hx8
  refine V U U (AY (p:=AS A1+k*1) U Fz U U (by omega) (by omega) th14 U) (V U U (Al U EO U (H.elRd 0 U hx8 U)) (Ad U (Ac (Z ?_))))
  have hfl:=Ob us (k+1)
  rw [Oc hx8,List.length_append] at hfl
  refine Ae (Ah 2 U (sc (Zw q (srt (CK (us.take k))) (.slice A10 x7.length c11) x7 (by first |omega|decide|(simp only [List.length_append,List.length_cons,List.length_nil,Ga];omega))) H (lA 0 U BI (lX (fun F hA hR=>HY (hR _ (List.mem_of_getElem? (i:=0) U)) hx8) l0)) U U (Au UD U U) ?_))
  rintro v15 _ w rfl H
  refine Ad U (Ac (AT (Z ?_)))
  replace H:Hd _ _ _ [Y Ag v15 (srt ((srt (CK (us.take k)))++x7)),Y Ag q (srt (CK (us.take k)))] [Aa (Am Ag) (.slice A1 us.length c2) us]:=H
  refine Ae (V U U (AU (z:=((k+1:Nat):Int)) U U U (by rw [AB (by omega) (by omega)];omega)) (Ad U (Ac ?_)))
  replace H:=H.k1
  replace H:Hd w0 F0 w [Y Ag v15 (srt (CK (us.take (k+1))))] [Aa (Am Ag) (.slice A1 us.length c2) us]:=by rw [Oc hx8,←Y1];exact H
  exact Bf (s:=(k,undef)) (k+1,v15) ⟨rfl,rfl,rfl,rfl,rfl,trivial⟩ ⟨H,by (try dsimp only);omega⟩ (by (try dsimp only);omega)
 refine BD (AM (AM (BE (Z (Ab (Ae (Ah 2 U (Ac (Z (An (Aq U U ?_)))))))))))
 replace H:Hd w0 F0 w [Y Ag q (srt (CK us))] [Aa (Am Ag) (.slice A1 us.length c2) us]:=by rw [List.take_of_length_le (show us.length≤k by omega)] at H;exact H
 exact Ak U H
theorem VY (vS vM vC vR vK:Value) (J:AC) (hJ:B8 J) (s:Nat) (hs:s<J.us.length):
    Cn Tryz.prog 124 [.agg #[vS,.int .i64 J.parts,vM,vC,vR,.int .i64 J.chunk,.int .i64 J.window,.int .i64 J.fuel,vK],.int .i64 ((s:Nat):Int)] [] [Aa (Am Ag) vS J.us,Aa Af vM J.map,Aa Af vC J.comb,Aa Af vR J.red,Aa (Ai .i64) vK J.marks,gl] (fun v Bs=>∃ u,v=.tuple #[u,.int .i64 (mapM dg J s).2]∧Bs=[Y Ag u (mapM dg J s).1]):=by
 intro w0 F0 H
 obtain ⟨A1,c2,rfl,hc3,hm4,hp5⟩:=H.fR 0 rfl
 obtain ⟨A6,c7,rfl,hc8,hm9,hp10⟩:=H.fR 1 rfl
 obtain ⟨A11,c12,rfl,hc13,hm14,hp15⟩:=H.fR 2 rfl
 obtain ⟨A16,c17,rfl,hc18,hm19,hp20⟩:=H.fR 3 rfl
 obtain ⟨A21,c22,rfl,hc23,hm24,hp25⟩:=H.fR 4 rfl
 have hus:=hJ.us
 have hpt:=hJ.parts
 have hfu:=hJ.fuel
 refine enter Tryz.func124 U U (Nat.le_of_ble_eq_true U) (Ab (Ae (Ct U U U U H (fun b26 w H=>(Ah 2 U (Ac (Z ?_)))))))
 replace H:Hd _ _ _ [blk b26 [.slice A1 J.us.length c2,.int .i64 J.parts,.slice A6 J.map.length c7,.slice A11 J.comb.length c12,.slice A16 J.red.length c17,.int .i64 J.chunk,.int .i64 J.window,.int .i64 J.fuel,.slice A21 J.marks.length c22] 26] [Aa (Am Ag) (.slice A1 J.us.length c2) J.us,Aa Af (.slice A6 J.map.length c7) J.map,Aa Af (.slice A11 J.comb.length c12) J.comb,Aa Af (.slice A16 J.red.length c17) J.red,Aa (Ai .i64) (.slice A21 J.marks.length c22) J.marks,gl]:=H
 refine Ab (Ae (Ad U (Ac (Z (Ab (Ab (Ae (V U U (Aj U DT U) (V U U (Al U DX U (H.cellI 0 U U)) (Ad U ?_))))))))))
 obtain ⟨⟨u29,x27⟩,hx28⟩:∃ z9,J.us[s]?=some z9:=⟨_,List.getElem?_eq_getElem (show s<J.us.length by omega)⟩
 obtain ⟨A30,c31,rfl,hc32,hm33⟩:=H.nestR 0 rfl hx28
 have th34:=H.thRd 0 rfl hx28
 refine V U U (AY (p:=AS A1+s*1) U Fz U U (by omega) (by omega) th34 U) (V U U (Al U EO U (H.elRd 0 U hx28 U)) (V U U (Bc U Da U) (Ad U (Ac (Z (AQ ?_))))))
 have hrec:=X2 hx28
 have hrl:x27.length≤8:=(hJ.split _ (Cb hx28)).1
 replace H:=H.addR (R:=Aa Ag (.slice A30 x27.length c31) x27) fun _ h=>HY (h _ (List.mem_of_getElem? (i:=0) rfl)) hx28
 replace H:=H.newnil Ag
 refine BL (σ:=Nat×Value×List Ap) (fun (i,q,out)=>[(2,.pointer (some ⟨b26,0,none⟩)),(6,q),(15,.slice A30 x27.length c31),(16,.int .i64 ((x27.length:Nat):Int)),(17,.int .i64 ((i:Nat):Int))]) (fun (i,q,out) w=>(Hd w0 F0 w [Y Ag q out,blk b26 [.slice A1 J.us.length c2,.int .i64 J.parts,.slice A6 J.map.length c7,.slice A11 J.comb.length c12,.slice A16 J.red.length c17,.int .i64 J.chunk,.int .i64 J.window,.int .i64 J.fuel,.slice A21 J.marks.length c22] 26] [Aa Ag (.slice A30 x27.length c31) x27,Aa (Am Ag) (.slice A1 J.us.length c2) J.us,Aa Af (.slice A6 J.map.length c7) J.map,Aa Af (.slice A11 J.comb.length c12) J.comb,Aa Af (.slice A16 J.red.length c17) J.red,Aa (Ai .i64) (.slice A21 J.marks.length c22) J.marks,gl])∧(i≤x27.length)∧(EK dg J.map J.fuel (x27.drop i) out=EK dg J.map J.fuel x27 [])∧(out.length≤40)) (fun (i,q,out)=>x27.length - i) (0,.slice none 0 0,[]) ⟨rfl,rfl,rfl,rfl,rfl,trivial⟩ ⟨H,Nat.zero_le _,rfl,Nat.zero_le _⟩ ?_
 rintro ⟨i,q,out⟩ w ⟨H,hi,hgo,ho⟩
 refine Ab (Ae (V U U (Bb U U U) (Ac (Z (Ab ?_)))))
 refine Ax U (fun h35=>?_) (fun h35=>?_)
 ·refine Av (Z (Ab (AQ (Ab (Ae ?_)))))
  obtain ⟨x36,hx37⟩:∃ z9,x27[i]?=some z9:=⟨_,List.getElem?_eq_getElem (show i<x27.length by omega)⟩
  have th38:=H.thR 0 rfl hx37
  refine V U U (AY (p:=AS A30+i*2) U By U U (by omega) (by omega) th38 U) (V U U (Bo (cs:=[.string x36.key,.string x36.val]) U Cc U U (H.elsR 0 U hx37 U)) (Dr U U U Dc H (fun b39 w H=>(BH U U U Cc U U H U (Nat.le_of_ble_eq_true U) (fun u hu=>by simp [Value.cells] at hu;rcases hu with rfl|rfl<;>rfl) (fun w H=>?_)))))
  replace H:Hd _ _ _ [blk b39 [.string x36.key,.string x36.val] 106,Y Ag q out,blk b26 [.slice A1 J.us.length c2,.int .i64 J.parts,.slice A6 J.map.length c7,.slice A11 J.comb.length c12,.slice A16 J.red.length c17,.int .i64 J.chunk,.int .i64 J.window,.int .i64 J.fuel,.slice A21 J.marks.length c22] 26] [Aa Ag (.slice A30 x27.length c31) x27,Aa (Am Ag) (.slice A1 J.us.length c2) J.us,Aa Af (.slice A6 J.map.length c7) J.map,Aa Af (.slice A11 J.comb.length c12) J.comb,Aa Af (.slice A16 J.red.length c17) J.red,Aa (Ai .i64) (.slice A21 J.marks.length c22) J.marks,gl]:=H
  refine Ac (Z (Ab (Ae (V U U (Aj U HM U) (V U U (Al U Eh U (H.cellI 2 U U)) (V U U (Aj U E8 U) (V U U (Al U BS U (H.cellI 0 U U)) (V U U (Aj U HJ U) (V U U (Al U BS U (H.cellI 0 U U)) (BX (parts:=[(0,.tmp 27)]) (vs:=[.string x36.val]) (cs:=[.string x36.val]) U U U G0 Is U (by decide) (by decide) U U H (fun b40 w H=>(V U U (Aj U JP U) (V U U (Al U AA U (H.cellI 3 U U)) (sc (Rk (.slice A6 J.map.length c7) J.map x36.key (.slice (some ⟨b40,0,none⟩) 1 1) [x36.val] J.fuel hJ.map hJ.f64) H (lR 2 U (lA 0 U (fun F h=>Cm h rfl (by decide) (AV.flat_eq.2 U)) (lR 6 U l0))) U U (Au O4 U U) ?_))))))))))))))
  rintro _ _ w ⟨u41,rfl,rfl⟩ H
  replace H:=H.h2 (A:=Y Ag u41 ((Bp dg J.map x36.key [x36.val] J.fuel).1)) (B:=blk b40 [.string x36.val] 9)
  have hrt:=QQ dg J.map x36.key [x36.val] J.fuel
  refine Ah 5 U (Ac (Z (Ab (Ab (Ae (Ad U (V U U (C9 U U U) (Ac (Z ?_)))))))))
  refine Ax U (fun h42=>?_) (fun h42=>?_)
  ·refine Ab (Ae (Ah 3 U (Ac (Z (An (Ay (AX (Ay (Ay (AX (Ay (Ch U U U ?_))))))))))))
   have e:mapM dg J s=([],(Bp dg J.map x36.key [x36.val] J.fuel).2):=by unfold mapM;rw [hrec];exact hgo.symm.trans (VX hx37 h42)
   replace H:=H.nil|>.newnil Ag|>.dropR
   replace H:Hd _ _ _ [Y Ag (.slice none 0 0) []] [Aa (Am Ag) (.slice A1 J.us.length c2) J.us,Aa Af (.slice A6 J.map.length c7) J.map,Aa Af (.slice A11 J.comb.length c12) J.comb,Aa Af (.slice A16 J.red.length c17) J.red,Aa (Ai .i64) (.slice A21 J.marks.length c22) J.marks,gl]:=H
   exact Ak ⟨_,by rw [e]<;>rfl,by rw [e]<;>rfl⟩ H
  refine Av (Z (Ab (Ae (Ah 2 U ?_))))
  replace H:=H.p3
  obtain ⟨A43,c44,rfl,hc45,hm46,hp47⟩:=H.fA 1 rfl
  refine Cy (xs:=out) (ys:=(Bp dg J.map x36.key [x36.val] J.fuel).1) U U U By Dc U (by decide) U U H (by first |omega|(rw [List.length_append];omega)) (fun F hA hR=>BI F (hA _ (List.mem_of_getElem? (i:=0) U))) (fun v48 w H=>(Ad U (Ac (Z ?_))))
  replace H:Hd _ _ _ [Y Ag v48 (out++((Bp dg J.map x36.key [x36.val] J.fuel).1)),Y Ag (.slice A43 (((Bp dg J.map x36.key [x36.val] J.fuel).1).length) c44) ((Bp dg J.map x36.key [x36.val] J.fuel).1),blk b40 [.string x36.val] 9,blk b39 [.string x36.key,.string x36.val] 106,blk b26 [.slice A1 J.us.length c2,.int .i64 J.parts,.slice A6 J.map.length c7,.slice A11 J.comb.length c12,.slice A16 J.red.length c17,.int .i64 J.chunk,.int .i64 J.window,.int .i64 J.fuel,.slice A21 J.marks.length c22] 26] [Aa Ag (.slice A30 x27.length c31) x27,Aa (Am Ag) (.slice A1 J.us.length c2) J.us,Aa Af (.slice A6 J.map.length c7) J.map,Aa Af (.slice A11 J.comb.length c12) J.comb,Aa Af (.slice A16 J.red.length c17) J.red,Aa (Ai .i64) (.slice A21 J.marks.length c22) J.marks,gl]:=H
  refine Ab (Ae (Ad U ?_))
  obtain ⟨A49,c50,rfl,hc51,hm52,hp53⟩:=H.fA 0 rfl
  refine V U U (Bc U Da U) (V U U (Ck U U U) (Ac (Z ?_)))
  refine Ax U (fun h54=>?_) (fun h54=>?_)
  ·refine Ab (Ae (Ah 2 U (Ac (Z (An (AX (Ay (Ay (AX (Ay (Ch U U U ?_)))))))))))
   have hap:(out++(Bp dg J.map x36.key [x36.val] J.fuel).1).length=out.length+(Bp dg J.map x36.key [x36.val] J.fuel).1.length:=List.length_append
   have e:mapM dg J s=([],5):=by unfold mapM;rw [hrec];exact hgo.symm.trans (VT hx37 h42 (by omega))
   replace H:=H.nil|>.newnil Ag|>.dropR
   replace H:Hd _ _ _ [Y Ag (.slice none 0 0) []] [Aa (Am Ag) (.slice A1 J.us.length c2) J.us,Aa Af (.slice A6 J.map.length c7) J.map,Aa Af (.slice A11 J.comb.length c12) J.comb,Aa Af (.slice A16 J.red.length c17) J.red,Aa (Ai .i64) (.slice A21 J.marks.length c22) J.marks,gl]:=H
   exact Ak ⟨_,by rw [e]<;>rfl,by rw [e]<;>rfl⟩ H
  refine Av (AT (Z (Ae (V U U (AU (z:=((i+1:Nat):Int)) U U U (by rw [AB (by omega) (by omega)];omega)) (Ad U (Ac ?_))))))
  replace H:=H.p4.p1.k2
  have hap:(out++(Bp dg J.map x36.key [x36.val] J.fuel).1).length=out.length+(Bp dg J.map x36.key [x36.val] J.fuel).1.length:=List.length_append
  have hl2:(out++(Bp dg J.map x36.key [x36.val] J.fuel).1).length≤40:=by omega
  have hg2:=(VV (out:=out) hx37 h42 (by omega)).trans hgo
  exact Bf (s:=(i,undef,out)) (i+1,.slice A49 ((out++((Bp dg J.map x36.key [x36.val] J.fuel).1)).length) c50,out++(Bp dg J.map x36.key [x36.val] J.fuel).1) ⟨rfl,rfl,rfl,rfl,rfl,trivial⟩ ⟨H,by (try dsimp only);omega,hg2,hl2⟩ (by (try dsimp only);omega)
 refine BD (AM (AM (BE (Z (Ab (Ae (Ah 3 U (Ac (Z (An (Ch U U U ?_)))))))))))
 replace H:=H.k1
 have e:mapM dg J s=(out,0):=by unfold mapM;rw [hrec];exact hgo.symm.trans (VS (by omega))
 replace H:=H.dropR
 replace H:Hd _ _ _ [Y Ag q out] [Aa (Am Ag) (.slice A1 J.us.length c2) J.us,Aa Af (.slice A6 J.map.length c7) J.map,Aa Af (.slice A11 J.comb.length c12) J.comb,Aa Af (.slice A16 J.red.length c17) J.red,Aa (Ai .i64) (.slice A21 J.marks.length c22) J.marks,gl]:=H
 exact Ak ⟨_,by rw [e]<;>rfl,by rw [e]<;>rfl⟩ H
theorem Y0 (vS vM vC vR vK:Value) (J:AC) (hJ:B8 J) (s:Nat) (hs:s<J.us.length):
    Cn Tryz.prog 53 [.agg #[vS,.int .i64 J.parts,vM,vC,vR,.int .i64 J.chunk,.int .i64 J.window,.int .i64 J.fuel,vK],.int .i64 ((s:Nat):Int)] [] [Aa (Am Ag) vS J.us,Aa Af vM J.map,Aa Af vC J.comb,Aa Af vR J.red,Aa (Ai .i64) vK J.marks,gl] (fun v Bs=>∃ u,v=.tuple #[u,.int .i64 (Az dg J s).2]∧Bs=[Y Ag u (Az dg J s).1]):=by
 intro w0 F0 H
 obtain ⟨A1,c2,rfl,hc3,hm4,hp5⟩:=H.fR 0 rfl
 obtain ⟨A6,c7,rfl,hc8,hm9,hp10⟩:=H.fR 1 rfl
 obtain ⟨A11,c12,rfl,hc13,hm14,hp15⟩:=H.fR 2 rfl
 obtain ⟨A16,c17,rfl,hc18,hm19,hp20⟩:=H.fR 3 rfl
 obtain ⟨A21,c22,rfl,hc23,hm24,hp25⟩:=H.fR 4 rfl
 have hus:=hJ.us
 have hpt:=hJ.parts
 have hfu:=hJ.fuel
 refine enter Tryz.func53 U U (Nat.le_of_ble_eq_true U) (Ab (Ae (Ct U U U U H (fun b26 w H=>(Ah 2 U (Ac (Z ?_)))))))
 replace H:Hd _ _ _ [blk b26 [.slice A1 J.us.length c2,.int .i64 J.parts,.slice A6 J.map.length c7,.slice A11 J.comb.length c12,.slice A16 J.red.length c17,.int .i64 J.chunk,.int .i64 J.window,.int .i64 J.fuel,.slice A21 J.marks.length c22] 26] [Aa (Am Ag) (.slice A1 J.us.length c2) J.us,Aa Af (.slice A6 J.map.length c7) J.map,Aa Af (.slice A11 J.comb.length c12) J.comb,Aa Af (.slice A16 J.red.length c17) J.red,Aa (Ai .i64) (.slice A21 J.marks.length c22) J.marks,gl]:=H
 refine Ab (Ab (Ae (V U U (Bo (cs:=[.slice A1 J.us.length c2,.int .i64 J.parts,.slice A6 J.map.length c7,.slice A11 J.comb.length c12,.slice A16 J.red.length c17,.int .i64 J.chunk,.int .i64 J.window,.int .i64 J.fuel,.slice A21 J.marks.length c22]) U Jk U U (H.cellsI 0 U U)) (sc (OX (.slice A1 J.us.length c2) (.slice A6 J.map.length c7) (.slice A11 J.comb.length c12) (.slice A16 J.red.length c17) (.slice A21 J.marks.length c22) J) H (lR 0 U (lR 1 U (lR 2 U (lR 3 U (lR 4 U l0))))) U U (Au Pn U U) ?_))))
 rintro _ _ w ⟨rfl,rfl⟩ H
 refine V U U (Ea U U) (Ad U ?_)
 refine AN (d:=11) U (fun h27=>?_) (fun h27=>?_)
 ·exact (h27 hJ.may).elim
 refine Ad U (V U U (Bb U U U) (Ah 2 U ?_))
 refine AN (d:=15) U (fun h28=>?_) (fun h28=>?_)
 ·exfalso;omega
 refine Ad U (V U U (Aj U DT U) (V U U (Al U DX U (H.cellI 0 U U)) (V U U (Bc U Ei U) (V U U (CL U U U) (Ad U (Ac (Z ?_)))))))
 refine Ax U (fun h29=>?_) (fun h29=>?_)
 ·exfalso;omega
 refine Av (Z (Ab (Ae (V U U (Bo (cs:=[.slice A1 J.us.length c2,.int .i64 J.parts,.slice A6 J.map.length c7,.slice A11 J.comb.length c12,.slice A16 J.red.length c17,.int .i64 J.chunk,.int .i64 J.window,.int .i64 J.fuel,.slice A21 J.marks.length c22]) U Jk U U (H.cellsI 0 U U)) (Ad U (sc (VY (.slice A1 J.us.length c2) (.slice A6 J.map.length c7) (.slice A11 J.comb.length c12) (.slice A16 J.red.length c17) (.slice A21 J.marks.length c22) J hJ s (by omega)) H (lR 0 U (lR 1 U (lR 2 U (lR 3 U (lR 4 U (lR 5 U l0)))))) U U (Au Uj U U) ?_))))))
 rintro _ _ w ⟨u30,rfl,rfl⟩ H
 refine Ah 5 U (Ac (Z ?_))
 replace H:Hd _ _ _ [Y Ag u30 ((mapM dg J s).1),blk b26 [.slice A1 J.us.length c2,.int .i64 J.parts,.slice A6 J.map.length c7,.slice A11 J.comb.length c12,.slice A16 J.red.length c17,.int .i64 J.chunk,.int .i64 J.window,.int .i64 J.fuel,.slice A21 J.marks.length c22] 26] [Aa (Am Ag) (.slice A1 J.us.length c2) J.us,Aa Af (.slice A6 J.map.length c7) J.map,Aa Af (.slice A11 J.comb.length c12) J.comb,Aa Af (.slice A16 J.red.length c17) J.red,Aa (Ai .i64) (.slice A21 J.marks.length c22) J.marks,gl]:=H
 refine Ab (Ab (Ae (Ad U (V U U (C9 U U U) (Ac (Z ?_))))))
 refine Ax U (fun h31=>?_) (fun h31=>?_)
 ·refine Ab (Ae (Ah 3 U (Ac (Z (An (Ay (Ch U U U ?_)))))))
  have e:Az dg J s=([],(mapM dg J s).2):=if_pos h31
  replace H:=H.nil|>.newnil Ag
  exact Ak ⟨_,by rw [e]<;>rfl,by rw [e]<;>rfl⟩ H
 refine Av (Z (Ab (Ae (V U U (Aj U HN U) (V U U (Al U Eh U (H.cellI 1 U U)) (Ad U (V U U (Aj U JP U) (V U U (Al U AA U (H.cellI 1 U U)) ?_))))))))
 have hml:=PG dg J s
 refine sc (Tv (.slice A11 J.comb.length c12) J.comb u30 ((mapM dg J s).1) J.fuel hJ.comb hJ.f64 (by omega)) H (lR 2 U (lA 0 U BI (lR 5 U l0))) U U (Au Uk U U) ?_
 rintro _ _ w ⟨u32,rfl,rfl⟩ H
 replace H:=H.h1 (A:=Y Ag u32 ((FH dg J.comb (mapM dg J s).1 J.fuel).1))
 refine Ah 4 U (Ac (Z (An (Ch U U U ?_))))
 have e:Az dg J s=FH dg J.comb (mapM dg J s).1 J.fuel:=if_neg h31
 replace H:=H.k1
 exact Ak ⟨_,by rw [e]<;>rfl,by rw [e]<;>rfl⟩ H
theorem T4 (v:Value) (xs:List Int) (x:Int):
    Cn Tryz.prog 184 [v,.int .i64 x] [] [Aa (Ai .i64) v xs] (fun v Bs=>v=.int .i64 (E7 (fun y=>decide (x=y)) xs)∧Bs=[]):=by
 intro w0 F0 H
 obtain ⟨A1,c2,rfl,hc3,hm4,hp5⟩:=H.fR 0 rfl
 refine enter Tryz.func184 U U (Nat.le_of_ble_eq_true U) (Ab (Ae (Ad U (Ac (Z ?_)))))
 replace H:Hd _ _ _ [] [Aa (Ai .i64) (.slice A1 xs.length c2) xs]:=H
 refine Ab (Ab (Ae (Ad U (V U U (Bc U EP U) (Ad U (Ac (Z (AQ (BL (σ:=Nat) (fun k=>[(0,.slice A1 xs.length c2),(1,.int .i64 x),(7,.int .i64 ((xs.length:Nat):Int)),(8,.int .i64 ((k:Nat):Int))]) (fun k w=>(Hd w0 F0 w [] [Aa (Ai .i64) (.slice A1 xs.length c2) xs])∧(k≤xs.length)∧(∀ y∈xs.take k,(fun y=>decide (x=y)) y=false)) (fun k=>xs.length - k) 0 ⟨rfl,rfl,rfl,rfl,trivial⟩ ⟨H,by omega,by simp⟩ ?_)))))))))
 rintro k w ⟨H,hk,hn⟩
 refine Ab (Ae (V U U (Bb U U U) (Ac (Z (Ab ?_)))))
 refine Ax U (fun h6=>?_) (fun h6=>?_)
 ·refine Av (Z (Ab (AQ (Ab (Ae (Ah 2 U (Ac (Z (Ab (Ae (Ah 3 U ?_)))))))))))
  obtain ⟨x7,hx8⟩:∃ z9,xs[k]?=some z9:=⟨_,List.getElem?_eq_getElem (show k<xs.length by omega)⟩
  have th9:=H.thR 0 rfl hx8
  refine V U U (AY (p:=AS A1+k*1) U DI U U (by omega) (by omega) th9 U) (V U U (Al U AA U (H.elR 0 U hx8 (q:=0) U U)) (V U U (A0 U U U) (Ac (Z ?_))))
  refine Ax U (fun h10=>?_) (fun h10=>?_)
  ·exact Ab (Ae (Ah 2 U (Ac (Z (An (AX (Ay (Ay (AX (Ay (Aq U U (Ak ⟨by rw [Le (p:=(fun y=>decide (x=y))) hn hx8 (decide_eq_true h10)]<;>rfl,rfl⟩ H))))))))))))
  exact Av (AT (Z (Ae (V U U (AU (z:=((k+1:Nat):Int)) U U U (by rw [AB (by omega) (by omega)];omega)) (Ad U (Ac (Bf (s:=k) (k+1) ⟨rfl,rfl,rfl,rfl,trivial⟩ ⟨H,by omega,MP (p:=(fun y=>decide (x=y))) hn hx8 (decide_eq_false h10)⟩ (by (try dsimp only);omega))))))))
 refine BD (AM (AM (BE (Z (Ab (Ae (Ad U (Ac (Z (An (Aq U U ?_)))))))))))
 have hn2:∀ y∈xs,(fun y=>decide (x=y)) y=false:=by rw [←Gw (xs:=xs) (k:=k) (by omega)];exact hn
 exact Ak ⟨by rw [JE hn2]<;>rfl,rfl⟩ H
theorem SA (v:Value) (xs:List Int) (x:Int):
    Cn Tryz.prog 136 [v,.int .i64 x] [] [Aa (Ai .i64) v xs] (fun v Bs=>v=.bool (decide (x∈xs))∧Bs=[]):=by
 intro w0 F0 H
 refine enter Tryz.func136 U U (Nat.le_of_ble_eq_true U) (Ab (Ae (Ad U (Ac (Z (Ab (Ae (Ah 2 U (sc (T4 v xs x) H (lR 0 U l0) U U (Au UC U U) ?_)))))))))
 rintro _ _ w ⟨rfl,rfl⟩ H
 refine V U U (CL U U U) (Ad U (Ac (Z (An (Aq U U ?_)))))
 have e:decide (0≤E7 (fun y=>decide (x=y)) xs)=decide (x∈xs):=by rw [Lf];rw [Bool.eq_iff_iff];simp
 exact Ak ⟨congrArg Value.bool e,rfl⟩ H
end Go.Proofs.YthgehekecfpikaaGreatDoor.X
