/- MapperScript: texts P3, XE, F2, XJob, J1, XJob2, XCfg, XRed, XOb, XRed2, C1, XStg, N1, N2, J2, J3, J4, N3, N4, XOrd, N5, XRecO, XTwo, XOkR, XRedL, XRedO, XAct, L1, XWin, XCode, XMpr, joined by a program of ours; what nothing names is left out. -/
import Derived.Test.YthgehekecfpikaaGreatDoorMapperScriptQ3
import Derived.KernelRfl
set_option linter.unusedVariables false
set_option linter.unusedSimpArgs false
set_option maxHeartbeats 8000000
namespace Go.Proofs.YthgehekecfpikaaGreatDoor.X
open Go
theorem RM (v1 v2:Value) (xs ys:List An):
    Cn Tryz.prog 25 [v1,v2] [] [Af Al v1 xs,Af Al v2 ys] (fun v Bs=>v=.bool (decide (xs=ys))∧Bs=[]):=by
 intro w0 F0 H
 obtain ⟨A1,c2,rfl,hc3,hm4,hp5⟩:=H.fR 0 rfl
 obtain ⟨A6,c7,rfl,hc8,hm9,hp10⟩:=H.fR 1 rfl
 refine enter Tryz.func25 U U (Nat.le_of_ble_eq_true U) (Z (Ac (Ab U (Aa (Y (Z (Z (Ac (Ab U (V U U (AO U B_ U) (Ab U (V U U (AO U B_ U) (V U U (CL U U U) (Aa (Y ?_)))))))))))))))
 refine Aq U (fun h11=>?_) (fun h11=>?_)
 ·refine Z (Ac (Ab U (Aa (Y (Ai (Ao (Am U U ?_)))))))
  have e:¬ xs=ys:=fun e=>h11 (by rw [e])
  exact Ag ⟨by rw [decide_eq_false e]<;>rfl,rfl⟩ H
 refine Av (Y (Z (Z (Ac (Ab U (Aa (Y (AK ?_))))))))
 have hle:xs.length=ys.length:=by omega
 refine Br (σ:=Nat) (fun k=>[(0,.slice A1 xs.length c2),(1,.slice A6 ys.length c7),(5,.int .i64 ((k:Nat):Int))]) (fun k w=>(Hd w0 F0 w [] [Af Al (.slice A1 xs.length c2) xs,Af Al (.slice A6 ys.length c7) ys])∧(k≤xs.length)∧(xs.length=ys.length)∧(xs.take k=ys.take k)) (fun k=>xs.length - k) 0 ⟨rfl,rfl,rfl,trivial⟩ ⟨H,by omega,hle,rfl⟩ ?_
 rintro k w ⟨H,hk,hle,ht⟩
 refine Z (Z (Ac (Ad 2 U (V U U (AO U B_ U) (V U U (AQ U U U) (Aa (Y ?_)))))))
 refine Aq U (fun h12=>?_) (fun h12=>?_)
 ·refine Av (Y (Z (AK (Z (Et mo (by kernel_rfl) H (DW 2 U ?_))))))
  obtain ⟨x13,hx14⟩:∃ z9,xs[k]?=some z9:=⟨_,List.getElem?_eq_getElem (show k<xs.length by omega)⟩
  have th15:=H.thR 0 rfl hx14
  refine Ba U U (fun w H=>AG (p:=AA A1+k*2) U Bq U U (by omega) (by omega) th15 U) (Ba U U (fun w H=>Bp (cs:=[.string x13.key,.string x13.val]) U B8 U U (H.elsR 0 U hx14 U)) (DW 2 U ?_))
  obtain ⟨x16,hx17⟩:∃ z9,ys[k]?=some z9:=⟨_,List.getElem?_eq_getElem (show k<ys.length by omega)⟩
  have th18:=H.thR 1 rfl hx17
  refine Ba U U (fun w H=>AG (p:=AA A6+k*2) U Bq U U (by omega) (by omega) th18 U) (Ba U U (fun w H=>Bp (cs:=[.string x16.key,.string x16.val]) U B8 U U (H.elsR 1 U hx17 U)) (Ba U U (fun w H=>YE (p:=x13) (q:=x16) U TZ U U) (El (fun w H=>(Y ?_)))))
  refine Aq U (fun h19=>?_) (fun h19=>?_)
  ·refine Z (Ac (Ab U (Aa (Y (Ai (Ax (Ao (Ao (Ax (Ao (Am U U ?_)))))))))))
   have e:¬ xs=ys:=fun e=>h19 (by rw [e,hx17] at hx14;exact (Option.some.inj hx14).symm)
   exact Ag ⟨by rw [decide_eq_false e]<;>rfl,rfl⟩ H
  refine Av (AS (Y (Ac (Ab U (V U U (AP (z:=((k+1:Nat):Int)) U U U (by rw [Ay (by omega) (by omega)];omega)) (Ab U (Aa ?_)))))))
  have e:x13=x16:=Classical.not_not.1 h19
  subst e
  exact Bb (s:=k) (k+1) ⟨rfl,rfl,rfl,trivial⟩ ⟨H,by omega,hle,R4 hx14 hx17 ht⟩ (by (try dsimp only);omega)
 refine Bj (AE (AE (Bk (Y (Z (Ac (Ab U (Aa (Y (Ai (Am U U ?_)))))))))))
 have e:xs=ys:=by rw [←Gy (xs:=xs) (k:=k) (by omega),←Gy (xs:=ys) (k:=k) (by omega)];exact ht
 exact Ag ⟨by rw [decide_eq_true e]<;>rfl,rfl⟩ H
theorem Qx (v:Value) (xs:List An) (hb:xs.length≤1000000):
    Cn Tryz.prog 43 [v] [Ae Al v xs] [] (fun _ Bs=>Bs=[]):=by
 intro w0 F0 H
 obtain ⟨A1,c2,rfl,hc3,hm4,hp5⟩:=H.fA 0 rfl
 refine enter Tryz.func43 U U (Nat.le_of_ble_eq_true U) (Z (Z (Ac (Ab U (Aa (Y (AK (Br (σ:=Nat×List An) (fun (k,ys)=>[(0,.slice A1 xs.length c2),(2,.int .i64 ((k:Nat):Int))]) (fun (k,ys) w=>(Hd w0 F0 w [Ae Al (.slice A1 xs.length c2) ys] [])∧(k≤xs.length)∧(ys.length=xs.length)) (fun (k,ys)=>xs.length - k) (0,xs) ⟨rfl,rfl,trivial⟩ ⟨H,by omega,rfl⟩ ?_))))))))
 rintro ⟨k,ys⟩ w ⟨H,hk,hl⟩
 refine Z (Z (Ac (Ad 2 U (V U U (AO U B_ U) (V U U (AQ U U U) (Aa (Y ?_)))))))
 refine Aq U (fun h6=>?_) (fun h6=>?_)
 ·refine Av (Y (Z (AK (Ac (Ad 2 U (V U U (CV (parts:=[(0,.const (.string ⟨#[111,118,101,114]⟩))]) (vs:=[.string ⟨#[111,118,101,114]⟩]) (cs:=[.string ⟨#[111,118,101,114]⟩,.string ⟨#[]⟩]) U G4 U U) ?_))))))
  obtain ⟨x7,hx8⟩:∃ z9,ys[k]?=some z9:=⟨_,List.getElem?_eq_getElem (show k<ys.length by omega)⟩
  have th9:=H.thA 0 rfl hx8
  refine V U U (AG (p:=AA A1+k*2) U Bq U U (by omega) (by omega) th9 U) (FN (i:=k) (a:=(⟨⟨#[111,118,101,114]⟩,⟨#[]⟩⟩:An)) U U U B8 U U U H (by omega) U (fun w H=>(Aa (AS (Y (Ac (Ab U (V U U (AP (z:=((k+1:Nat):Int)) U U U (by rw [Ay (by omega) (by omega)];omega)) (Ab U (Aa ?_))))))))))
  have hl2:(ys.set k (⟨⟨#[111,118,101,114]⟩,⟨#[]⟩⟩:An)).length=xs.length:=by rw [List.length_set];exact hl
  exact Bb (s:=(k,ys)) (k+1,ys.set k (⟨⟨#[111,118,101,114]⟩,⟨#[]⟩⟩:An)) ⟨rfl,rfl,trivial⟩ ⟨H,by omega,hl2⟩ (by (try dsimp only);omega)
 refine Bj (AE (AE (Bk (Y (Ac (Ab U (V U U (CV (parts:=[(0,.const (.string ⟨#[111,118,101,114]⟩))]) (vs:=[.string ⟨#[111,118,101,114]⟩]) (cs:=[.string ⟨#[111,118,101,114]⟩,.string ⟨#[]⟩]) U G4 U U) (Bv (parts:=[(0,.tmp 14)]) (vs:=[.agg #[.string ⟨#[111,118,101,114]⟩,.string ⟨#[]⟩]]) (cs:=[.string ⟨#[111,118,101,114]⟩,.string ⟨#[]⟩]) U U U Bq CJ U (by decide) (by decide) U U H (fun b10 w H=>?_)))))))))
 replace H:=H.p1
 refine BY (xs:=ys) (ys:=[(⟨⟨#[111,118,101,114]⟩,⟨#[]⟩⟩:An)]) U U U Bq CJ U (by decide) U U H (by omega) (fun F hA hR=>BZ (hA _ (List.mem_of_getElem? (i:=0) U)) U (by decide) (AX.flat_eq.2 U)) (fun v11 w H=>(Aa (Dg U ?_)))
 replace H:=H.nil
 exact Ag U H
theorem Uw (vxs:Value) (xs:List An) (n:Int):
    Cn Tryz.prog 23 [vxs,.int .i64 n] [] [Af Al vxs xs] (fun v Bs=>v=.bool (E3 xs n)∧Bs=[]):=by
 intro w0 F0 H
 obtain ⟨A1,c2,rfl,hc3,hm4,hp5⟩:=H.fR 0 rfl
 refine enter Tryz.func23 U U (Nat.le_of_ble_eq_true U) (Z (Ac (Ab U (Aa (Y (Z (Z (Ac (Ab U (Aa (Y (AK (Br (σ:=Nat) (fun k=>[(0,.slice A1 xs.length c2),(1,.int .i64 n),(5,.int .i64 ((k:Nat):Int))]) (fun k w=>(Hd w0 F0 w [] [Af Al (.slice A1 xs.length c2) xs])∧(k≤xs.length)∧(∀ y∈xs.take k,y.key.size≤100∧y.val.size≤100)) (fun k=>xs.length - k) 0 ⟨rfl,rfl,rfl,trivial⟩ ⟨H,by omega,by simp⟩ ?_)))))))))))))
 rintro k w ⟨H,hk,hn⟩
 refine Z (Z (Ac (Ad 2 U (V U U (AO U B_ U) (V U U (AQ U U U) (Ab U ?_))))))
 refine AD (d:=10) U (fun h6=>?_) (fun h6=>?_)
 ·refine Ab U (V U U (AO U B_ U) (Ab U (V U U (BX U U U) (Ab U (Aa (Y ?_))))))
  refine Aq U (fun h7=>?_) (fun h7=>?_)
  ·refine Av (Y (Z (AK (Z (Ac (Ad 2 U ?_))))))
   obtain ⟨x8,hx9⟩:∃ z9,xs[k]?=some z9:=⟨_,List.getElem?_eq_getElem (show k<xs.length by omega)⟩
   have th10:=H.thR 0 rfl hx9
   refine V U U (AG (p:=AA A1+k*2) U Bq U U (by omega) (by omega) th10 U) (V U U (Ah U DO U) (V U U (Aj U Bd U (H.elR 0 U hx9 (q:=0) U U)) (V U U (Cl U BJ U) (V U U (BP U U U) (Ab U ?_)))))
   refine AD (d:=25) U (fun h11=>?_) (fun h11=>?_)
   ·exact Ad 8 U (Aa (Y (BM U (Z (Ac (Ab U (Aa (Y (Ai (Ax (Ao (Ao (Ax (Ao (Am U U (Ag ⟨congrArg Value.bool (OW hx9 (by omega)),rfl⟩ H))))))))))))))))
   refine Ad 2 U ?_
   have th12:=H.thR 0 rfl hx9
   refine V U U (AG (p:=AA A1+k*2) U Bq U U (by omega) (by omega) th12 U) (V U U (Ah U Gm U) (V U U (Aj U Bd U (H.elR 0 U hx9 (q:=1) U U)) (V U U (Cl U BJ U) (V U U (BP U U U) (Ab U (Aa (Y ?_)))))))
   refine Aq U (fun h13=>?_) (fun h13=>?_)
   ·exact Z (Ac (Ab U (Aa (Y (Ai (Ax (Ao (Ao (Ax (Ao (Am U U (Ag ⟨congrArg Value.bool (OW hx9 (by omega)),rfl⟩ H))))))))))))
   exact Av (AS (Y (Ac (Ab U (V U U (AP (z:=((k+1:Nat):Int)) U U U (by rw [Ay (by omega) (by omega)];omega)) (Ab U (Aa (Bb (s:=k) (k+1) ⟨rfl,rfl,rfl,trivial⟩ ⟨H,by (try dsimp only);omega,Fd hn hx9 (by omega)⟩ (by (try dsimp only);omega)))))))))
  exact Bj (AE (AE (Bk (Y (Z (Ac (Ab U (V U U (AO U B_ U) (Ab U (V U U (BP U U U) (Ab U (Aa (Y (Ai (Am U U (Ag ⟨congrArg Value.bool (OV hn (by omega)),rfl⟩ H))))))))))))))))
 exact Ad 5 U (Aa (Y (B0 U (Bj (AE (AE (Bk (Y (Z (Ac (Ab U (V U U (AO U B_ U) (Ab U (V U U (BP U U U) (Ab U (Aa (Y (Ai (Am U U (Ag ⟨congrArg Value.bool (OV hn (by omega)),rfl⟩ H))))))))))))))))))))
theorem XF (vxs:Value) (xs:List An) (key:ByteArray) (hb:xs.length≤1000000):
    Cn Tryz.prog 212 [vxs,.string key] [] [Af Al vxs xs] (fun v Bs=>Bs=[Ae AZ v (Be xs key)]):=by
 intro w0 F0 H
 obtain ⟨A1,c2,rfl,hc3,hm4,hp5⟩:=H.fR 0 rfl
 refine enter Tryz.func212 U U (Nat.le_of_ble_eq_true U) (Z (Ac (Ab U (Aa (Y (Z (Ac (Ab U (Aa (Y (Z (Z (Ac (Ab U (V U U (AO U B_ U) (Ab U (Aa (Y (AK ?_)))))))))))))))))))
 replace H:=H.newnil AZ
 refine Br (σ:=Nat×Value) (fun (k,l)=>[(1,.string key),(4,.slice none 0 0),(5,l),(8,.slice A1 xs.length c2),(9,.int .i64 ((xs.length:Nat):Int)),(10,.int .i64 ((k:Nat):Int))]) (fun (k,l) w=>(Hd w0 F0 w [Ae AZ l (Be (xs.take k) key)] [Af Al (.slice A1 xs.length c2) xs])∧(k≤xs.length)) (fun (k,l)=>xs.length - k) (0,.slice none 0 0) ⟨rfl,rfl,rfl,rfl,rfl,rfl,trivial⟩ ⟨H,by (try dsimp only);omega⟩ ?_
 rintro ⟨k,l⟩ w ⟨H,hk⟩
 have hjl:=Qm (xs.take k) key
 have hjt:(xs.take k).length≤xs.length:=by simp;omega
 refine Z (Ac (V U U (AQ U U U) (Aa (Y (Z ?_)))))
 refine Aq U (fun h6=>?_) (fun h6=>?_)
 ·refine Av (Y (Z (AK (Z (Ac ?_)))))
  obtain ⟨x7,hx8⟩:∃ z9,xs[k]?=some z9:=⟨_,List.getElem?_eq_getElem (show k<xs.length by omega)⟩
  have th9:=H.thR 0 rfl hx8
  refine V U U (AG (p:=AA A1+k*2) U Bq U U (by omega) (by omega) th9 U) (V U U (Bp (cs:=[.string x7.key,.string x7.val]) U B8 U U (H.elsR 0 U hx8 U)) (Do U U U CJ H (fun b10 w H=>(By U U U B8 U U H U (Nat.le_of_ble_eq_true U) (fun u hu=>by simp [Value.cells] at hu;rcases hu with rfl|rfl<;>rfl) (fun w H=>(Aa (Y (Z (Ac (V U U (Ah U DO U) (V U U (Aj U Bd U (H.cellI 0 U U)) (Ab U (V U U (EB U U U) (Aa (Y ?_)))))))))))))))
  refine Aq U (fun h11=>?_) (fun h11=>?_)
  ·refine Ac (Ab U (V U U (Ah U Gm U) (V U U (Aj U Bd U (H.cellI 0 U U)) (Bv (parts:=[(0,.tmp 20)]) (vs:=[.string x7.val]) (cs:=[.string x7.val]) U U U Ck Dc U (by decide) (by decide) U U H (fun b12 w H=>?_)))))
   replace H:=H.p2
   refine BY (xs:=Be (xs.take k) key) (ys:=[x7.val]) U U U Ck Dc U (by decide) U U H (by omega) (fun F hA hR=>BZ (hA _ (List.mem_of_getElem? (i:=0) U)) U (by decide) (AX.flat_eq.2 U)) (fun v13 w H=>(Ab U (Aa (AS (Y (Ac (V U U (AP (z:=((k+1:Nat):Int)) U U U (by rw [Ay (by omega) (by omega)];omega)) (Ab U (Aa ?_)))))))))
   rw [←Qo hx8 h11] at H
   replace H:=H.k1
   exact Bb (s:=(k,undef)) (k+1,v13) ⟨rfl,rfl,rfl,rfl,rfl,rfl,trivial⟩ ⟨H,by (try dsimp only);omega⟩ (by (try dsimp only);omega)
  refine Av (AS (Y (Ac (V U U (AP (z:=((k+1:Nat):Int)) U U U (by rw [Ay (by omega) (by omega)];omega)) (Ab U (Aa ?_))))))
  rw [←Qn hx8 h11] at H
  replace H:=H.sel 2 [1] [0] rfl (by kernel_rfl)
  exact Bb (s:=(k,undef)) (k+1,l) ⟨rfl,rfl,rfl,rfl,rfl,rfl,trivial⟩ ⟨H,by (try dsimp only);omega⟩ (by (try dsimp only);omega)
 refine Bj (AE (AE (Bk (Y (Z (Ac (Ad 2 U (Aa (Y (Ai (Am U U ?_)))))))))))
 rw [List.take_of_length_le (show xs.length≤k by omega)] at H
 exact Ag U H
theorem QX (vxs:Value) (xs:List An) (key:ByteArray) (hb:xs.length≤1000000):
    Cn Tryz.prog 239 [vxs,.string key] [] [Af Al vxs xs] (fun v Bs=>Bs=[Ae AZ v (Be xs key)]):=by
 intro w0 F0 H
 obtain ⟨A1,c2,rfl,hc3,hm4,hp5⟩:=H.fR 0 rfl
 refine enter Tryz.func239 U U (Nat.le_of_ble_eq_true U) (Z (Ac (Ab U (Aa (Y (Z (Ac (Ab U (Aa (Y (Z (Z (Ac (Ab U (Aa (Y (AK ?_)))))))))))))))))
 replace H:=H.newnil AZ
 refine Br (σ:=Nat×Value) (fun (k,l)=>[(0,.slice A1 xs.length c2),(1,.string key),(4,.slice none 0 0),(5,l),(6,.int .i64 ((k:Nat):Int))]) (fun (k,l) w=>(Hd w0 F0 w [Ae AZ l (Be (xs.take k) key)] [Af Al (.slice A1 xs.length c2) xs])∧(k≤xs.length)) (fun (k,l)=>xs.length - k) (0,.slice none 0 0) ⟨rfl,rfl,rfl,rfl,rfl,trivial⟩ ⟨H,by (try dsimp only);omega⟩ ?_
 rintro ⟨k,l⟩ w ⟨H,hk⟩
 have hjl:=Qm (xs.take k) key
 have hjt:(xs.take k).length≤xs.length:=by simp;omega
 refine Z (Z (Ac (Ad 2 U (V U U (AO U B_ U) (V U U (AQ U U U) (Aa (Y ?_)))))))
 refine Aq U (fun h6=>?_) (fun h6=>?_)
 ·refine Av (Y (Z (AK (Z (Ac (Ad 2 U ?_))))))
  obtain ⟨x7,hx8⟩:∃ z9,xs[k]?=some z9:=⟨_,List.getElem?_eq_getElem (show k<xs.length by omega)⟩
  have th9:=H.thR 0 rfl hx8
  refine V U U (AG (p:=AA A1+k*2) U Bq U U (by omega) (by omega) th9 U) (V U U (Ah U DO U) (V U U (Aj U Bd U (H.elR 0 U hx8 (q:=0) U U)) (Ab U (V U U (EB U U U) (Aa (Y ?_))))))
  refine Aq U (fun h10=>?_) (fun h10=>?_)
  ·refine Ac (Ad 3 U ?_)
   have th11:=H.thR 0 rfl hx8
   refine V U U (AG (p:=AA A1+k*2) U Bq U U (by omega) (by omega) th11 U) (V U U (Ah U Gm U) (V U U (Aj U Bd U (H.elR 0 U hx8 (q:=1) U U)) (Bv (parts:=[(0,.tmp 25)]) (vs:=[.string x7.val]) (cs:=[.string x7.val]) U U U Ck Dc U (by decide) (by decide) U U H (fun b12 w H=>?_))))
   replace H:=H.p1
   refine BY (xs:=Be (xs.take k) key) (ys:=[x7.val]) U U U Ck Dc U (by decide) U U H (by omega) (fun F hA hR=>BZ (hA _ (List.mem_of_getElem? (i:=0) U)) U (by decide) (AX.flat_eq.2 U)) (fun v13 w H=>(Ab U (Aa (AS (Y (Ac (Ab U (V U U (AP (z:=((k+1:Nat):Int)) U U U (by rw [Ay (by omega) (by omega)];omega)) (Ab U (Aa ?_))))))))))
   rw [←Qo hx8 h10] at H
   replace H:=H.k1
   exact Bb (s:=(k,undef)) (k+1,v13) ⟨rfl,rfl,rfl,rfl,rfl,trivial⟩ ⟨H,by (try dsimp only);omega⟩ (by (try dsimp only);omega)
  refine Av (AS (Y (Ac (Ab U (V U U (AP (z:=((k+1:Nat):Int)) U U U (by rw [Ay (by omega) (by omega)];omega)) (Ab U (Aa ?_)))))))
  rw [←Qn hx8 h10] at H
  exact Bb (s:=(k,undef)) (k+1,l) ⟨rfl,rfl,rfl,rfl,rfl,trivial⟩ ⟨H,by (try dsimp only);omega⟩ (by (try dsimp only);omega)
 refine Bj (AE (AE (Bk (Y (Z (Ac (Ad 2 U (Aa (Y (Ai (Am U U ?_)))))))))))
 rw [List.take_of_length_le (show xs.length≤k by omega)] at H
 exact Ag U H
theorem XD (vxs:Value) (xs:List An) (hb:xs.length≤1000000):
    Cn Tryz.prog 211 [vxs] [] [Af Al vxs xs] (fun v Bs=>Bs=[Ae AZ v (Cy xs)]):=by
 intro w0 F0 H
 obtain ⟨A1,c2,rfl,hc3,hm4,hp5⟩:=H.fR 0 rfl
 refine enter Tryz.func211 U U (Nat.le_of_ble_eq_true U) (Z (Ac (Ab U (Aa (Y (Z (Ac (Ab U (Aa (Y (Z (Z (Ac (Ab U (V U U (AO U B_ U) (Ab U (Aa (Y (AK ?_)))))))))))))))))))
 replace H:=H.newnil AZ
 refine Br (σ:=Nat×Value) (fun (k,l)=>[(2,.slice none 0 0),(3,l),(6,.slice A1 xs.length c2),(7,.int .i64 ((xs.length:Nat):Int)),(8,.int .i64 ((k:Nat):Int))]) (fun (k,l) w=>(Hd w0 F0 w [Ae AZ l ((xs.take k).map (·.key))] [Af Al (.slice A1 xs.length c2) xs])∧(k≤xs.length)) (fun (k,l)=>xs.length - k) (0,.slice none 0 0) ⟨rfl,rfl,rfl,rfl,rfl,trivial⟩ ⟨H,by (try dsimp only);omega⟩ ?_
 rintro ⟨k,l⟩ w ⟨H,hk⟩
 have hjt:((xs.take k).map (·.key)).length≤xs.length:=by simp;omega
 refine Z (Ac (V U U (AQ U U U) (Aa (Y (Z ?_)))))
 refine Aq U (fun h6=>?_) (fun h6=>?_)
 ·refine Av (Y (Z (AK (Z (Ac ?_)))))
  obtain ⟨x7,hx8⟩:∃ z9,xs[k]?=some z9:=⟨_,List.getElem?_eq_getElem (show k<xs.length by omega)⟩
  have th9:=H.thR 0 rfl hx8
  refine V U U (AG (p:=AA A1+k*2) U Bq U U (by omega) (by omega) th9 U) (V U U (Bp (cs:=[.string x7.key,.string x7.val]) U B8 U U (H.elsR 0 U hx8 U)) (Do U U U CJ H (fun b10 w H=>(By U U U B8 U U H U (Nat.le_of_ble_eq_true U) (fun u hu=>by simp [Value.cells] at hu;rcases hu with rfl|rfl<;>rfl) (fun w H=>(Aa (Y (Ac (Ab U (V U U (Ah U DO U) (V U U (Aj U Bd U (H.cellI 0 U U)) (Bv (parts:=[(0,.tmp 14)]) (vs:=[.string x7.key]) (cs:=[.string x7.key]) U U U Ck Dc U (by decide) (by decide) U U H (fun b11 w H=>?_)))))))))))))
  replace H:=H.p2
  refine BY (xs:=(xs.take k).map (·.key)) (ys:=[x7.key]) U U U Ck Dc U (by decide) U U H (by omega) (fun F hA hR=>BZ (hA _ (List.mem_of_getElem? (i:=0) U)) U (by decide) (AX.flat_eq.2 U)) (fun v12 w H=>(Ab U (Aa (AS (Y (Ac (V U U (AP (z:=((k+1:Nat):Int)) U U U (by rw [Ay (by omega) (by omega)];omega)) (Ab U (Aa ?_)))))))))
  rw [←Pc hx8] at H
  replace H:=H.k1
  exact Bb (s:=(k,undef)) (k+1,v12) ⟨rfl,rfl,rfl,rfl,rfl,trivial⟩ ⟨H,by (try dsimp only);omega⟩ (by (try dsimp only);omega)
 refine Bj (AE (AE (Bk (Y (Z (Ac (Ab U (sc (ZD l ((xs.take k).map (·.key)) (by first |omega|(rw [M6];omega))) H l0 U U (At VF U U) ?_))))))))
 rintro v13 _ w rfl H
 refine Aa (Y (Z (Ac (Ab U (sc (To l (Fb ((xs.take k).map (·.key))) (by first |omega|(rw [M6];omega))) H l0 U U (At VG U U) ?_)))))
 rintro v14 _ w rfl H
 refine Ab U (Aa (Y (Ai (Am U U ?_))))
 rw [List.take_of_length_le (show xs.length≤k by omega)] at H
 exact Ag U H
theorem UH (f:FuncId) (cap:List Value) (Ex:List SP) (p:An→Bool) (hkf:AJ Tryz.prog f) (hp:∀ x,Cn Tryz.prog f ([.agg #[.string x.key,.string x.val]]++cap) [] Ex (fun v Bs=>v=.bool (p x)∧Bs=[])) (v:Value) (xs:List An):
    Cn Tryz.prog 206 [v,.func (.func f) #[] (cap).toArray] [] (Af Al v xs::Ex) (fun v Bs=>v=.int .i64 (FA p xs)∧Bs=[]):=by
 intro w0 F0 H
 obtain ⟨A1,c2,rfl,hc3,hm4,hp5⟩:=H.fR 0 rfl
 refine enter Tryz.func206 U U (Nat.le_of_ble_eq_true U) (Z (Ac (Ab U (Aa (Y (Z (Z (Ac (Ab U (V U U (AO U B_ U) (Ab U (Aa (Y (AK (Br (σ:=Nat) (fun k=>[(0,.slice A1 xs.length c2),(1,.func (.func f) #[] (cap).toArray),(7,.int .i64 ((xs.length:Nat):Int)),(8,.int .i64 ((k:Nat):Int))]) (fun k w=>(Hd w0 F0 w [] (Af Al (.slice A1 xs.length c2) xs::Ex))∧(k≤xs.length)∧(∀ y∈xs.take k,p y=false)) (fun k=>xs.length - k) 0 ⟨rfl,rfl,rfl,rfl,trivial⟩ ⟨H,by omega,by simp⟩ ?_)))))))))))))))
 rintro k w ⟨H,hk,hn⟩
 refine Z (Ac (V U U (AQ U U U) (Aa (Y (Z ?_)))))
 refine Aq U (fun h6=>?_) (fun h6=>?_)
 ·refine Av (Y (Z (AK (Z (Ac (Ad 2 U (Aa (Y (Z (Ac (Ad 3 U ?_)))))))))))
  obtain ⟨x7,hx8⟩:∃ z9,xs[k]?=some z9:=⟨_,List.getElem?_eq_getElem (show k<xs.length by omega)⟩
  have th9:=H.thR 0 rfl hx8
  refine V U U (AG (p:=AA A1+k*2) U Bq U U (by omega) (by omega) th9 U) (V U U (Bp (cs:=[.string x7.key,.string x7.val]) U B8 U U (H.elsR 0 U hx8 U)) (sc (hp x7) H (fun S hS F hA hR=>hR S (List.mem_cons_of_mem _ hS)) U U (Gk (vs:=[.agg #[.string x7.key,.string x7.val]]) (fs:=#[]) (cs:=cap.toArray) hkf U U U) ?_))
  rintro _ _ w ⟨rfl,rfl⟩ H
  refine Aa (Y ?_)
  refine DJ (b:=p x7) U (fun h10=>?_) (fun h10=>?_)
  ·exact Z (Ac (Ad 2 U (Aa (Y (Ai (Ax (Ao (Ao (Ax (Ao (Am U U (Ag ⟨by rw [Ol hn hx8 h10]<;>rfl,rfl⟩ H))))))))))))
  exact Av (AS (Y (Ac (V U U (AP (z:=((k+1:Nat):Int)) U U U (by rw [Ay (by omega) (by omega)];omega)) (Ab U (Aa (Bb (s:=k) (k+1) ⟨rfl,rfl,rfl,rfl,trivial⟩ ⟨H,by omega,R3 hn hx8 h10⟩ (by (try dsimp only);omega))))))))
 refine Bj (AE (AE (Bk (Y (Z (Ac (Ab U (Aa (Y (Ai (Am U U ?_)))))))))))
 have hn2:∀ y∈xs,p y=false:=by rw [←Gy (xs:=xs) (k:=k) (by omega)];exact hn
 exact Ag ⟨by rw [LA hn2]<;>rfl,rfl⟩ H
theorem NZ (f:FuncId) (cap:List Value) (Ex:List SP) (p:An→Bool) (hkf:AJ Tryz.prog f) (hp:∀ x,Cn Tryz.prog f ([.agg #[.string x.key,.string x.val]]++cap) [] Ex (fun v Bs=>v=.bool (p x)∧Bs=[])) (v:Value) (xs:List An):
    Cn Tryz.prog 173 [v,.func (.func f) #[] (cap).toArray] [] (Af Al v xs::Ex) (fun v Bs=>v=.bool (xs.any p)∧Bs=[]):=by
 intro w0 F0 H
 refine enter Tryz.func173 U U (Nat.le_of_ble_eq_true U) (Z (Ac (Ab U (Aa (Y (Z (Ac (Ad 2 U (sc (UH f cap Ex p hkf hp v xs) H Mi U U (At Vq U U) ?_)))))))))
 rintro _ _ w ⟨rfl,rfl⟩ H
 exact V U U (BN U U U) (Ab U (Aa (Y (Ai (Am U U (Ag ⟨congrArg Value.bool (Om p xs),rfl⟩ H))))))
theorem WN (x:An):
    Cn Tryz.prog 174 [.agg #[.string x.key,.string x.val]] [] [] (fun v Bs=>v=.bool (!decide (CG x))∧Bs=[]):=by
 intro w0 F0 H
 refine enter Tryz.func174 U U (Nat.le_of_ble_eq_true U) (Z (Ac (B4 U U U U H (fun b1 w H=>(Ab U (Aa (Y (Z (Ac (V U U (Ah U DO U) (V U U (Aj U Bd U (H.cellI 0 U U)) (V U U (Cl U BJ U) (V U U (BP U U U) (Ab U ?_))))))))))))))
 refine AD (d:=7) U (fun h2=>?_) (fun h2=>?_)
 ·refine Ad 6 U (Aa (Y (Ai (Am U U ?_))))
  replace H:=H.nil
  exact Ag ⟨by rw [decide_eq_false (by unfold CG;omega)];rfl,rfl⟩ H
 refine V U U (Ah U Gm U) (V U U (Aj U Bd U (H.cellI 0 U U)) (V U U (Cl U BJ U) (V U U (BP U U U) (Ad 2 U (Aa (Y (Ai (Am U U ?_))))))))
 replace H:=H.nil
 exact Ag ⟨congrArg Value.bool (by rw [←decide_not];exact decide_eq_decide.2 (by unfold CG;omega)),rfl⟩ H
theorem XE (vxs:Value) (xs:List An):
    Cn Tryz.prog 120 [vxs] [] [Af Al vxs xs] (fun v Bs=>v=.bool (decide (GN xs))∧Bs=[]):=by
 intro w0 F0 H
 obtain ⟨A1,c2,rfl,hc3,hm4,hp5⟩:=H.fR 0 rfl
 refine enter Tryz.func120 U U (Nat.le_of_ble_eq_true U) (Z (Ac (Ab U (Aa (Y (Z (Ac (Ab U (sc (NZ 174 [] [] (fun p=>!decide (CG p)) Vf (fun x=>WN x) (.slice A1 xs.length c2) xs) H (lR 0 U l0) U U (At Pm U U) ?_)))))))))
 rintro _ _ w ⟨rfl,rfl⟩ H
 exact V U U (E9 U U U) (Ab U (Aa (Y (Ai (Am U U (Ag ⟨congrArg Value.bool (WO xs),rfl⟩ H))))))
theorem Yi (vxs:Value) (xs:List An):
    Cn Tryz.prog 190 [vxs] [] [Af Al vxs xs] (fun v Bs=>v=.bool (decide (GN xs))∧Bs=[]):=by
 intro w0 F0 H
 obtain ⟨A1,c2,rfl,hc3,hm4,hp5⟩:=H.fR 0 rfl
 refine enter Tryz.func190 U U (Nat.le_of_ble_eq_true U) (Z (Ac (Ab U (Aa (Y (Z (Z (Ac (Ab U (Aa (Y (AK (Br (σ:=Nat) (fun k=>[(0,.slice A1 xs.length c2),(3,.int .i64 ((k:Nat):Int))]) (fun k w=>(Hd w0 F0 w [] [Af Al (.slice A1 xs.length c2) xs])∧(k≤xs.length)∧(∀ y∈xs.take k,CG y)) (fun k=>xs.length - k) 0 ⟨rfl,rfl,trivial⟩ ⟨H,by omega,by simp⟩ ?_)))))))))))))
 rintro k w ⟨H,hk,hn⟩
 refine Z (Z (Ac (Ad 2 U (V U U (AO U B_ U) (V U U (AQ U U U) (Aa (Y ?_)))))))
 refine Aq U (fun h6=>?_) (fun h6=>?_)
 ·refine Av (Y (Z (AK (Z (Ac (Ad 2 U ?_))))))
  obtain ⟨x7,hx8⟩:∃ z9,xs[k]?=some z9:=⟨_,List.getElem?_eq_getElem (show k<xs.length by omega)⟩
  have th9:=H.thR 0 rfl hx8
  refine V U U (AG (p:=AA A1+k*2) U Bq U U (by omega) (by omega) th9 U) (V U U (Ah U DO U) (V U U (Aj U Bd U (H.elR 0 U hx8 (q:=0) U U)) (V U U (Cl U BJ U) (V U U (BP U U U) (Ab U ?_)))))
  refine AD (d:=17) U (fun h10=>?_) (fun h10=>?_)
  ·exact Ad 8 U (Aa (Y (BM U (Z (Ac (Ab U (Aa (Y (Ai (Ax (Ao (Ao (Ax (Ao (Am U U (Ag ⟨congrArg Value.bool (decide_eq_false (fun h=>by have:=h _ (List.mem_of_getElem? hx8);unfold CG at this;omega)).symm,rfl⟩ H))))))))))))))))
  refine Ad 2 U ?_
  have th11:=H.thR 0 rfl hx8
  refine V U U (AG (p:=AA A1+k*2) U Bq U U (by omega) (by omega) th11 U) (V U U (Ah U Gm U) (V U U (Aj U Bd U (H.elR 0 U hx8 (q:=1) U U)) (V U U (Cl U BJ U) (V U U (BP U U U) (Ab U (Aa (Y ?_)))))))
  refine Aq U (fun h12=>?_) (fun h12=>?_)
  ·exact Z (Ac (Ab U (Aa (Y (Ai (Ax (Ao (Ao (Ax (Ao (Am U U (Ag ⟨congrArg Value.bool (decide_eq_false (fun h=>by have:=h _ (List.mem_of_getElem? hx8);unfold CG at this;omega)).symm,rfl⟩ H))))))))))))
  exact Av (AS (Y (Ac (Ab U (V U U (AP (z:=((k+1:Nat):Int)) U U U (by rw [Ay (by omega) (by omega)];omega)) (Ab U (Aa (Bb (s:=k) (k+1) ⟨rfl,rfl,trivial⟩ ⟨H,by (try dsimp only);omega,Fd hn hx8 (by unfold CG;omega)⟩ (by (try dsimp only);omega)))))))))
 exact Bj (AE (AE (Bk (Y (Z (Ac (Ab U (Aa (Y (Ai (Am U U (Ag ⟨congrArg Value.bool (decide_eq_true (by rw [List.take_of_length_le (by omega)] at hn;exact hn)).symm,rfl⟩ H))))))))))))
theorem QU (vxs:Value) (xs:List An) (hb:xs.length≤1000000):
    Cn Tryz.prog 238 [vxs] [] [Af Al vxs xs] (fun v Bs=>Bs=[Ae AZ v (B6 [] (xs.map (·.key)))]):=by
 intro w0 F0 H
 obtain ⟨A1,c2,rfl,hc3,hm4,hp5⟩:=H.fR 0 rfl
 refine enter Tryz.func238 U U (Nat.le_of_ble_eq_true U) (Z (Ac (Ab U (Aa (Y (Z (Ac (Ab U (Aa (Y (Z (Z (Ac (Ab U (Aa (Y (AK ?_)))))))))))))))))
 replace H:=H.newnil AZ
 refine Br (σ:=Nat×Value) (fun (i,l)=>[(0,.slice A1 xs.length c2),(2,.slice none 0 0),(3,l),(4,.int .i64 ((i:Nat):Int))]) (fun (i,l) w=>(Hd w0 F0 w [Ae AZ l (B2 xs i)] [Af Al (.slice A1 xs.length c2) xs])∧(i≤xs.length)) (fun (i,l)=>xs.length - i) (0,.slice none 0 0) ⟨rfl,rfl,rfl,rfl,trivial⟩ ⟨H,by (try dsimp only);omega⟩ ?_
 rintro ⟨i,l⟩ w ⟨H,hi⟩
 have hol:=Qv xs i
 obtain ⟨A6,c7,rfl,hc8,hm9,hp10⟩:=H.fA 0 rfl
 refine Z (Z (Ac (Ad 2 U (V U U (AO U B_ U) (V U U (AQ U U U) (Aa (Y ?_)))))))
 refine Aq U (fun h11=>?_) (fun h11=>?_)
 ·refine Av (Y (Z (AK (Z (Ac (Ab U (Aa (Y (Z (AK ?_))))))))))
  obtain ⟨x12,hx13⟩:∃ z9,xs[i]?=some z9:=⟨_,List.getElem?_eq_getElem (show i<xs.length by omega)⟩
  refine Br (σ:=Nat) (fun k=>[(0,.slice A1 xs.length c2),(2,.slice none 0 0),(3,.slice A6 ((B2 xs i).length) c7),(4,.int .i64 ((i:Nat):Int)),(5,.int .i64 ((k:Nat):Int))]) (fun k w=>(Hd w0 F0 w [Ae AZ (.slice A6 ((B2 xs i).length) c7) (B2 xs i)] [Af Al (.slice A1 xs.length c2) xs])∧(k≤(B2 xs i).length)∧(∀ y∈(B2 xs i).take k,Bi y x12.key=true)) (fun k=>(B2 xs i).length - k) 0 ⟨rfl,rfl,rfl,rfl,rfl,trivial⟩ ⟨H,by omega,by simp⟩ ?_
  rintro k w ⟨H,hk,hn⟩
  refine Z (Z (Et mo (by kernel_rfl) H (DW 2 U (Ba U U (fun w H=>AO U GB U) (Ba U U (fun w H=>AQ U U U) (C7 U ?_))))))
  refine Ni (d:=16) U (fun h14=>?_) (fun h14=>?_)
  ·refine DW 2 U ?_
   obtain ⟨x15,hx16⟩:∃ z9,(B2 xs i)[k]?=some z9:=⟨_,List.getElem?_eq_getElem (show k<(B2 xs i).length by omega)⟩
   have th17:=H.thA 0 rfl hx16
   refine Ba U U (fun w H=>AG (p:=AA A6+k*1) U Ck U U (by omega) (by omega) th17 U) (Ba U U (fun w H=>Aj U Bd U (H.elA 0 U hx16 (q:=0) U U)) (DW 2 U ?_))
   have th18:=H.thR 0 rfl hx13
   refine Ba U U (fun w H=>AG (p:=AA A1+i*2) U Bq U U (by omega) (by omega) th18 U) (Ba U U (fun w H=>Ah U DO U) (Ba U U (fun w H=>Aj U Bd U (H.elR 0 U hx13 (q:=0) U U)) (Ba U U (fun w H=>Q5 U U U) (C7 U (El (fun w H=>(Y ?_)))))))
   refine Aq U (fun h19=>?_) (fun h19=>?_)
   ·exact Av (Y (AK (Ac (Ab U (V U U (AP (z:=((k+1:Nat):Int)) U U U (by rw [Ay (by omega) (by omega)];omega)) (Ab U (Aa (AS (Bb (s:=k) (k+1) ⟨rfl,rfl,rfl,rfl,rfl,trivial⟩ ⟨H,by (try dsimp only);omega,Fd hn hx16 h19⟩ (by (try dsimp only);omega))))))))))
   refine Bj (AE (AE (Bk (Y (Z (Z (Et mo (by kernel_rfl) H (DW 2 U (Ba U U (fun w H=>AO U GB U) (Ba U U (fun w H=>AQ U U U) (C7 U ?_)))))))))))
   refine Ni (d:=34) U (fun h20=>?_) (fun h20=>?_)
   ·refine DW 2 U ?_
    have th21:=H.thA 0 rfl hx16
    refine Ba U U (fun w H=>AG (p:=AA A6+k*1) U Ck U U (by omega) (by omega) th21 U) (Ba U U (fun w H=>Aj U Bd U (H.elA 0 U hx16 (q:=0) U U)) (DW 2 U ?_))
    have th22:=H.thR 0 rfl hx13
    refine Ba U U (fun w H=>AG (p:=AA A1+i*2) U Bq U U (by omega) (by omega) th22 U) (Ba U U (fun w H=>Ah U DO U) (Ba U U (fun w H=>Aj U Bd U (H.elR 0 U hx13 (q:=0) U U)) (Ba U U (fun w H=>EB U U U) (C7 U (El (fun w H=>(Y ?_)))))))
    refine Aq U (fun h23=>?_) (fun h23=>?_)
    ·have hhit:(B2 xs i)[k]?=some x12.key:=by rw [hx16,h23]
     refine Bj (AE (Bk (Y (Ac (Ab U (V U U (AP (z:=((i+1:Nat):Int)) U U U (by rw [Ay (by omega) (by omega)];omega)) (Ab U (Aa ?_))))))))
     replace H:Hd w0 F0 w [Ae AZ (.slice A6 ((B2 xs i).length) c7) (B2 xs (i+1))] [Af Al (.slice A1 xs.length c2) xs]:=by rw [HY hx13,O2 (k:=k) hn hhit];exact H
     exact Bb (s:=(i,undef)) (i+1,.slice A6 ((B2 xs i).length) c7) ⟨rfl,rfl,rfl,rfl,trivial⟩ ⟨H,by (try dsimp only);omega⟩ (by (try dsimp only);omega)
    refine Av (Y (BD (.e 0 (.e 1 (.e 2 (.e 4 (.e 5 (.e 6 (.e 7 (.e 8 (.e 11 (.e 12 (.e 13 (.b 3 9 (.m 9 (.m 10 (.m 14 (.e 15 .z)))) (.m 3 (.m 10 (.m 14 (.e 15 .z)))))))))))))))) (fun w=>∃ Ar,Hd w0 F0 w (Ae AZ (.slice A6 ((B2 xs i).length) c7) (B2 xs i)::Ar) [Af Al (.slice A1 xs.length c2) xs]) mo (by kernel_rfl) (fun w H=>⟨_,H⟩) H (fun w H=>(Ap U (Ap U (Ak U U U (fun w ⟨Ar,H⟩=>H7 U Ck U U (by omega) (by omega) U) (Ap U (Ap U ?_))))))))
    have th24:=H.thR 0 rfl hx13
    refine Ak U U U (fun w ⟨Ar,H⟩=>AG (p:=AA A1+i*2) U Bq U U (by omega) (by omega) th24 U) (Ak U U U (fun w ⟨Ar,H⟩=>Ah U DO U) (Ak U U U (fun w ⟨Ar,H⟩=>Aj U Bd U (H.elR 0 U hx13 (q:=0) U U)) (Ap U (Ap U (Ak U U U (fun w ⟨Ar,H⟩=>H8 U Ck U U (by omega) (by omega) U) ?_)))))
    refine Jn U U ?_ ?_
    ·replace H:=H.newnil AZ
     refine BY (xs:=[]) (ys:=(B2 xs i).take k) U U U Ck Dc U (by decide) U U H (by first |omega|(simp only [List.length_append,List.length_cons,List.length_nil,List.length_take,List.length_drop];omega)) (fun F hA hR=>Ib (BI F (hA _ (List.mem_of_getElem? (i:=0) U))) (i:=k) (by omega)) (fun v25 w H=>?_)
     replace H:=H.p1
     refine AH ⟨_,H⟩ (AL U (Bv (parts:=[(0,.tmp 54)]) (vs:=[.string x12.key]) (cs:=[.string x12.key]) U U U Ck Dc U (by decide) (by decide) U U H (fun b26 w H=>?_)))
     replace H:=H.p1
     refine AH ⟨_,H⟩ (AL U ?_)
     replace H:=H.p2
     refine BY (xs:=[]++((B2 xs i).take k)) (ys:=[x12.key]) U U U Ck Dc U (by decide) U U H (by first |omega|(simp only [List.length_append,List.length_cons,List.length_nil,List.length_take,List.length_drop];omega)) (fun F hA hR=>BZ (hA _ (List.mem_of_getElem? (i:=1) U)) U (by decide) (AX.flat_eq.2 U)) (fun v27 w H=>?_)
     replace H:=H.p1
     refine AH ⟨_,H⟩ (AL U ?_)
     replace H:=H.p1
     refine BY (xs:=([]++((B2 xs i).take k))++[x12.key]) (ys:=(B2 xs i).drop k) U U U Ck Dc U (by decide) U U H (by first |omega|(simp only [List.length_append,List.length_cons,List.length_nil,List.length_take,List.length_drop];omega)) (fun F hA hR=>F_ (BI F (hA _ (List.mem_of_getElem? (i:=0) U))) (i:=k) (by omega)) (fun v28 w H=>?_)
     replace H:=H.p1
     refine AH ⟨_,H⟩ (Ap U (Bx (AS (Y (Ac (Ab U (V U U (AP (z:=((i+1:Nat):Int)) U U U (by rw [Ay (by omega) (by omega)];omega)) (Ab U (Aa ?_)))))))))
     replace H:=H.p1.k1
     replace H:Hd w0 F0 w [Ae AZ v28 (B2 xs (i+1))] [Af Al (.slice A1 xs.length c2) xs]:=by rw [HY hx13,Ix (k:=k) (by omega) hn (.inr ⟨x15,hx16,h19,h23⟩)];exact H
     exact Bb (s:=(i,undef)) (i+1,v28) ⟨rfl,rfl,rfl,rfl,trivial⟩ ⟨H,by (try dsimp only);omega⟩ (by (try dsimp only);omega)
    refine Bv (parts:=[(0,.tmp 54)]) (vs:=[.string x12.key]) (cs:=[.string x12.key]) U U U Ck Dc U (by decide) (by decide) U U H (fun b29 w H=>?_)
    replace H:=H.p1
    refine AH ⟨_,H⟩ (AL U ?_)
    replace H:=H.newnil AZ
    refine BY (xs:=[]) (ys:=(B2 xs i).take k) U U U Ck Dc U (by decide) U U H (by first |omega|(simp only [List.length_append,List.length_cons,List.length_nil,List.length_take,List.length_drop];omega)) (fun F hA hR=>Ib (BI F (hA _ (List.mem_of_getElem? (i:=0) U))) (i:=k) (by omega)) (fun v30 w H=>?_)
    replace H:=H.p1
    refine AH ⟨_,H⟩ (AL U ?_)
    replace H:=H.p1
    refine BY (xs:=[]++((B2 xs i).take k)) (ys:=[x12.key]) U U U Ck Dc U (by decide) U U H (by first |omega|(simp only [List.length_append,List.length_cons,List.length_nil,List.length_take,List.length_drop];omega)) (fun F hA hR=>BZ (hA _ (List.mem_of_getElem? (i:=1) U)) U (by decide) (AX.flat_eq.2 U)) (fun v31 w H=>?_)
    replace H:=H.p1
    refine AH ⟨_,H⟩ (AL U ?_)
    replace H:=H.p1
    refine BY (xs:=([]++((B2 xs i).take k))++[x12.key]) (ys:=(B2 xs i).drop k) U U U Ck Dc U (by decide) U U H (by first |omega|(simp only [List.length_append,List.length_cons,List.length_nil,List.length_take,List.length_drop];omega)) (fun F hA hR=>F_ (BI F (hA _ (List.mem_of_getElem? (i:=0) U))) (i:=k) (by omega)) (fun v32 w H=>?_)
    replace H:=H.p1
    refine AH ⟨_,H⟩ (Ap U (Bx (AS (Y (Ac (Ab U (V U U (AP (z:=((i+1:Nat):Int)) U U U (by rw [Ay (by omega) (by omega)];omega)) (Ab U (Aa ?_)))))))))
    replace H:=H.p1.k1
    replace H:Hd w0 F0 w [Ae AZ v32 (B2 xs (i+1))] [Af Al (.slice A1 xs.length c2) xs]:=by rw [HY hx13,Ix (k:=k) (by omega) hn (.inr ⟨x15,hx16,h19,h23⟩)];exact H
    exact Bb (s:=(i,undef)) (i+1,v32) ⟨rfl,rfl,rfl,rfl,trivial⟩ ⟨H,by (try dsimp only);omega⟩ (by (try dsimp only);omega)
   exfalso;omega
  refine DW 11 U (El (fun w H=>(Y (B0 U (Bj (AE (AE (Bk (Y (Z (Z (Et mo (by kernel_rfl) H (DW 2 U (Ba U U (fun w H=>AO U GB U) (Ba U U (fun w H=>AQ U U U) (C7 U ?_))))))))))))))))
  refine Ni (d:=34) U (fun h33=>?_) (fun h33=>?_)
  ·exfalso;omega
  refine DW 11 U (El (fun w H=>(Y (B0 U (Av (Y (BD (.e 0 (.e 1 (.e 2 (.e 4 (.e 5 (.e 6 (.e 7 (.e 8 (.e 11 (.e 12 (.e 13 (.b 3 9 (.m 9 (.m 10 (.m 14 (.e 15 .z)))) (.m 3 (.m 10 (.m 14 (.e 15 .z)))))))))))))))) (fun w=>∃ Ar,Hd w0 F0 w (Ae AZ (.slice A6 ((B2 xs i).length) c7) (B2 xs i)::Ar) [Af Al (.slice A1 xs.length c2) xs]) mo (by kernel_rfl) (fun w H=>⟨_,H⟩) H (fun w H=>(Ap U (Ap U (Ak U U U (fun w ⟨Ar,H⟩=>H7 U Ck U U (by omega) (by omega) U) (Ap U (Ap U ?_)))))))))))))
  have th34:=H.thR 0 rfl hx13
  refine Ak U U U (fun w ⟨Ar,H⟩=>AG (p:=AA A1+i*2) U Bq U U (by omega) (by omega) th34 U) (Ak U U U (fun w ⟨Ar,H⟩=>Ah U DO U) (Ak U U U (fun w ⟨Ar,H⟩=>Aj U Bd U (H.elR 0 U hx13 (q:=0) U U)) (Ap U (Ap U (Ak U U U (fun w ⟨Ar,H⟩=>H8 U Ck U U (by omega) (by omega) U) ?_)))))
  refine Jn U U ?_ ?_
  ·replace H:=H.newnil AZ
   refine BY (xs:=[]) (ys:=(B2 xs i).take k) U U U Ck Dc U (by decide) U U H (by first |omega|(simp only [List.length_append,List.length_cons,List.length_nil,List.length_take,List.length_drop];omega)) (fun F hA hR=>Ib (BI F (hA _ (List.mem_of_getElem? (i:=0) U))) (i:=k) (by omega)) (fun v35 w H=>?_)
   replace H:=H.p1
   refine AH ⟨_,H⟩ (AL U (Bv (parts:=[(0,.tmp 54)]) (vs:=[.string x12.key]) (cs:=[.string x12.key]) U U U Ck Dc U (by decide) (by decide) U U H (fun b36 w H=>?_)))
   replace H:=H.p1
   refine AH ⟨_,H⟩ (AL U ?_)
   replace H:=H.p2
   refine BY (xs:=[]++((B2 xs i).take k)) (ys:=[x12.key]) U U U Ck Dc U (by decide) U U H (by first |omega|(simp only [List.length_append,List.length_cons,List.length_nil,List.length_take,List.length_drop];omega)) (fun F hA hR=>BZ (hA _ (List.mem_of_getElem? (i:=1) U)) U (by decide) (AX.flat_eq.2 U)) (fun v37 w H=>?_)
   replace H:=H.p1
   refine AH ⟨_,H⟩ (AL U ?_)
   replace H:=H.p1
   refine BY (xs:=([]++((B2 xs i).take k))++[x12.key]) (ys:=(B2 xs i).drop k) U U U Ck Dc U (by decide) U U H (by first |omega|(simp only [List.length_append,List.length_cons,List.length_nil,List.length_take,List.length_drop];omega)) (fun F hA hR=>F_ (BI F (hA _ (List.mem_of_getElem? (i:=0) U))) (i:=k) (by omega)) (fun v38 w H=>?_)
   replace H:=H.p1
   refine AH ⟨_,H⟩ (Ap U (Bx (AS (Y (Ac (Ab U (V U U (AP (z:=((i+1:Nat):Int)) U U U (by rw [Ay (by omega) (by omega)];omega)) (Ab U (Aa ?_)))))))))
   replace H:=H.p1.k1
   replace H:Hd w0 F0 w [Ae AZ v38 (B2 xs (i+1))] [Af Al (.slice A1 xs.length c2) xs]:=by rw [HY hx13,Ix (k:=k) (by omega) hn (.inl (by omega))];exact H
   exact Bb (s:=(i,undef)) (i+1,v38) ⟨rfl,rfl,rfl,rfl,trivial⟩ ⟨H,by (try dsimp only);omega⟩ (by (try dsimp only);omega)
  refine Bv (parts:=[(0,.tmp 54)]) (vs:=[.string x12.key]) (cs:=[.string x12.key]) U U U Ck Dc U (by decide) (by decide) U U H (fun b39 w H=>?_)
  replace H:=H.p1
  refine AH ⟨_,H⟩ (AL U ?_)
  replace H:=H.newnil AZ
  refine BY (xs:=[]) (ys:=(B2 xs i).take k) U U U Ck Dc U (by decide) U U H (by first |omega|(simp only [List.length_append,List.length_cons,List.length_nil,List.length_take,List.length_drop];omega)) (fun F hA hR=>Ib (BI F (hA _ (List.mem_of_getElem? (i:=0) U))) (i:=k) (by omega)) (fun v40 w H=>?_)
  replace H:=H.p1
  refine AH ⟨_,H⟩ (AL U ?_)
  replace H:=H.p1
  refine BY (xs:=[]++((B2 xs i).take k)) (ys:=[x12.key]) U U U Ck Dc U (by decide) U U H (by first |omega|(simp only [List.length_append,List.length_cons,List.length_nil,List.length_take,List.length_drop];omega)) (fun F hA hR=>BZ (hA _ (List.mem_of_getElem? (i:=1) U)) U (by decide) (AX.flat_eq.2 U)) (fun v41 w H=>?_)
  replace H:=H.p1
  refine AH ⟨_,H⟩ (AL U ?_)
  replace H:=H.p1
  refine BY (xs:=([]++((B2 xs i).take k))++[x12.key]) (ys:=(B2 xs i).drop k) U U U Ck Dc U (by decide) U U H (by first |omega|(simp only [List.length_append,List.length_cons,List.length_nil,List.length_take,List.length_drop];omega)) (fun F hA hR=>F_ (BI F (hA _ (List.mem_of_getElem? (i:=0) U))) (i:=k) (by omega)) (fun v42 w H=>?_)
  replace H:=H.p1
  refine AH ⟨_,H⟩ (Ap U (Bx (AS (Y (Ac (Ab U (V U U (AP (z:=((i+1:Nat):Int)) U U U (by rw [Ay (by omega) (by omega)];omega)) (Ab U (Aa ?_)))))))))
  replace H:=H.p1.k1
  replace H:Hd w0 F0 w [Ae AZ v42 (B2 xs (i+1))] [Af Al (.slice A1 xs.length c2) xs]:=by rw [HY hx13,Ix (k:=k) (by omega) hn (.inl (by omega))];exact H
  exact Bb (s:=(i,undef)) (i+1,v42) ⟨rfl,rfl,rfl,rfl,trivial⟩ ⟨H,by (try dsimp only);omega⟩ (by (try dsimp only);omega)
 refine Bj (AE (AE (Bk (Y (Z (Ac (Ad 2 U (Aa (Y (Ai (Am U U ?_)))))))))))
 have e:B2 xs i=B6 [] (xs.map (·.key)):=by unfold B2;rw [List.take_of_length_le (by omega)]
 replace H:Hd w0 F0 w [Ae AZ (.slice A6 ((B2 xs i).length) c7) (B6 [] (xs.map (·.key)))] [Af Al (.slice A1 xs.length c2) xs]:=by rw [←e];exact H
 exact Ag U H
theorem Yt (vxs:Value) (xs:List An) (hb:xs.length≤1000000):
    Cn Tryz.prog 200 [vxs] [] [Af Al vxs xs] (fun v Bs=>Bs=[Ae Al v (srt xs)]):=by
 intro w0 F0 H
 obtain ⟨A1,c2,rfl,hc3,hm4,hp5⟩:=H.fR 0 rfl
 refine enter Tryz.func200 U U (Nat.le_of_ble_eq_true U) (Z (Ac (Ab U (Aa (Y (Z (Ac (Ab U (Aa (Y (Z (Ac (Ab U (sc (QU (.slice A1 xs.length c2) xs (by first |omega|decide)) H (lR 0 U l0) U U (At Pv U U) ?_))))))))))))))
 rintro v6 _ w rfl H
 refine Ab U (Aa (Y (Z (Z (Ac (Ab U (Aa (Y (AK ?_)))))))))
 replace H:=H.newnil Al
 refine Br (σ:=Nat×Value) (fun (i,l)=>[(0,.slice A1 xs.length c2),(2,.slice none 0 0),(3,l),(4,v6),(5,.int .i64 ((i:Nat):Int))]) (fun (i,l) w=>(Hd w0 F0 w [Ae Al l (Dw xs ((B6 [] (xs.map (·.key))).take i)),Ae AZ v6 (B6 [] (xs.map (·.key)))] [Af Al (.slice A1 xs.length c2) xs])∧(i≤(B6 [] (xs.map (·.key))).length)) (fun (i,l)=>(B6 [] (xs.map (·.key))).length - i) (0,.slice none 0 0) ⟨rfl,rfl,rfl,rfl,rfl,trivial⟩ ⟨H,by (try dsimp only);omega⟩ ?_
 rintro ⟨i,l⟩ w ⟨H,hi⟩
 have hfl:=Ot xs i
 refine Z (Z (Ac (Ad 2 U ?_)))
 obtain ⟨A7,c8,rfl,hc9,hm10,hp11⟩:=H.fA 1 rfl
 refine V U U (AO U GB U) (V U U (AQ U U U) (Aa (Y ?_)))
 refine Aq U (fun h12=>?_) (fun h12=>?_)
 ·refine Av (Y (Z (AK (Z (Ac (Ad 3 U ?_))))))
  obtain ⟨x13,hx14⟩:∃ z9,(B6 [] (xs.map (·.key)))[i]?=some z9:=⟨_,List.getElem?_eq_getElem (show i<(B6 [] (xs.map (·.key))).length by omega)⟩
  have th15:=H.thA 1 rfl hx14
  refine V U U (AG (p:=AA A7+i*1) U Ck U U (by omega) (by omega) th15 U) (V U U (Aj U Bd U (H.elA 1 U hx14 (q:=0) U U)) (sc (QX (.slice A1 xs.length c2) xs x13 (by first |omega|decide)) H (lR 0 U l0) U U (At Pw U U) ?_))
  rintro v16 _ w rfl H
  refine Ab U (Aa (Y (Z (Ac (Ab U (Aa (Y (AK ?_))))))))
  obtain ⟨A17,c18,rfl,hc19,hm20,hp21⟩:=H.fA 0 rfl
  have hpl:=Ot xs (i+1)
  rw [Ou hx14,List.length_append,XP] at hpl
  replace H:=H.p1
  replace H:Hd w0 F0 w [Ae Al l (Dw xs ((B6 [] (xs.map (·.key))).take i)++(Dn xs x13).take 0),Ae AZ (.slice A17 ((Be xs x13).length) c18) (Be xs x13),Ae AZ (.slice A7 ((B6 [] (xs.map (·.key))).length) c8) (B6 [] (xs.map (·.key)))] [Af Al (.slice A1 xs.length c2) xs]:=by rw [List.take_zero,List.append_nil];exact H
  replace H:=H.p2.p1
  refine Br (σ:=Nat×Value) (fun (k,q)=>[(0,.slice A1 xs.length c2),(2,.slice none 0 0),(3,q),(4,.slice A7 ((B6 [] (xs.map (·.key))).length) c8),(5,.int .i64 ((i:Nat):Int)),(6,.slice A17 ((Be xs x13).length) c18),(7,.int .i64 ((k:Nat):Int))]) (fun (k,q) w=>(Hd w0 F0 w [Ae Al q (Dw xs ((B6 [] (xs.map (·.key))).take i)++(Dn xs x13).take k),Ae AZ (.slice A7 ((B6 [] (xs.map (·.key))).length) c8) (B6 [] (xs.map (·.key))),Ae AZ (.slice A17 ((Be xs x13).length) c18) (Be xs x13)] [Af Al (.slice A1 xs.length c2) xs])∧(k≤(Be xs x13).length)) (fun (k,q)=>(Be xs x13).length - k) (0,l) ⟨rfl,rfl,rfl,rfl,rfl,rfl,rfl,trivial⟩ ⟨H,by (try dsimp only);omega⟩ ?_
  rintro ⟨k,q⟩ w ⟨H,hk⟩
  have hpt:((Dn xs x13).take k).length≤k:=by simp;omega
  have hpa:(Dw xs ((B6 [] (xs.map (·.key))).take i)++(Dn xs x13).take k).length=(Dw xs ((B6 [] (xs.map (·.key))).take i)).length+((Dn xs x13).take k).length:=List.length_append
  refine Z (Z (Ac (Ad 2 U (V U U (AO U GB U) (V U U (AQ U U U) (Aa (Y ?_)))))))
  refine Aq U (fun h22=>?_) (fun h22=>?_)
  ·refine Av (Y (Z (AK ?_)))
   replace H:=H.p2.p2.h3 (C:=Ae Al q (Dw xs ((B6 [] (xs.map (·.key))).take i)++(Dn xs x13).take k))
   refine BD (.e 0 (.e 1 (.e 2 (.e 3 (.e 4 (.e 5 (.e 6 (.e 7 (.e 8 (.e 9 (.m 10 (.m 11 (.e 12 .z))))))))))))) (fun w=>∃ Ar,Hd w0 F0 w (Ae AZ (.slice A7 ((B6 [] (xs.map (·.key))).length) c8) (B6 [] (xs.map (·.key)))::Ae AZ (.slice A17 ((Be xs x13).length) c18) (Be xs x13)::Ar) [Af Al (.slice A1 xs.length c2) xs]) mo (by kernel_rfl) (fun w H=>⟨_,H⟩) H (fun w H=>(Ap U (Ap U (Ap U ?_))))
   have th23:=H.thA 0 rfl hx14
   refine Ak U U U (fun w ⟨Ar,H⟩=>AG (p:=AA A7+i*1) U Ck U U (by omega) (by omega) th23 U) (Ak U U U (fun w ⟨Ar,H⟩=>Aj U Bd U (H.elA 0 U hx14 (q:=0) U U)) (Ap U (Ap U ?_)))
   obtain ⟨x24,hx25⟩:∃ z9,(Be xs x13)[k]?=some z9:=⟨_,List.getElem?_eq_getElem (show k<(Be xs x13).length by omega)⟩
   have th26:=H.thA 1 rfl hx25
   refine Ak U U U (fun w ⟨Ar,H⟩=>AG (p:=AA A17+k*1) U Ck U U (by omega) (by omega) th26 U) (Ak U U U (fun w ⟨Ar,H⟩=>Aj U Bd U (H.elA 1 U hx25 (q:=0) U U)) (Ak U U U (fun w ⟨Ar,H⟩=>CV (parts:=[(0,.tmp 32),(1,.tmp 36)]) (vs:=[.string x13,.string x24]) (cs:=[.string x13,.string x24]) U G4 U U) (AL U (Bv (parts:=[(0,.tmp 37)]) (vs:=[.agg #[.string x13,.string x24]]) (cs:=[.string x13,.string x24]) U U U Bq CJ U (by decide) (by decide) U U H (fun b27 w H=>?_)))))
   replace H:=H.p2|>.p2
   refine AH ⟨_,H⟩ (AL U ?_)
   replace H:=H.p3
   refine BY (xs:=Dw xs ((B6 [] (xs.map (·.key))).take i)++(Dn xs x13).take k) (ys:=[(⟨x13,x24⟩:An)]) U U U Bq CJ U (by decide) U U H (by omega) (fun F hA hR=>BZ (hA _ (List.mem_of_getElem? (i:=2) U)) U (by decide) (AX.flat_eq.2 U)) (fun v28 w H=>?_)
   replace H:=H.p2|>.p2
   refine AH ⟨_,H⟩ (Ap U (Bx (AS (Y (Ac (Ab U (V U U (AP (z:=((k+1:Nat):Int)) U U U (by rw [Ay (by omega) (by omega)];omega)) (Ab U (Aa ?_)))))))))
   replace H:=H.p2.k3
   replace H:Hd w0 F0 w [Ae Al v28 (Dw xs ((B6 [] (xs.map (·.key))).take i)++(Dn xs x13).take (k+1)),Ae AZ (.slice A7 ((B6 [] (xs.map (·.key))).length) c8) (B6 [] (xs.map (·.key))),Ae AZ (.slice A17 ((Be xs x13).length) c18) (Be xs x13)] [Af Al (.slice A1 xs.length c2) xs]:=by rw [XQ hx25,←List.append_assoc];exact H
   exact Bb (s:=(k,undef)) (k+1,v28) ⟨rfl,rfl,rfl,rfl,rfl,rfl,rfl,trivial⟩ ⟨H,by (try dsimp only);omega⟩ (by (try dsimp only);omega)
  refine Bj (AE (AE (Bk (AS (Y (Ac (Ab U (V U U (AP (z:=((i+1:Nat):Int)) U U U (by rw [Ay (by omega) (by omega)];omega)) (Ab U (Aa ?_))))))))))
  replace H:=H.k2
  replace H:Hd w0 F0 w [Ae Al q (Dw xs ((B6 [] (xs.map (·.key))).take (i+1))),Ae AZ (.slice A7 ((B6 [] (xs.map (·.key))).length) c8) (B6 [] (xs.map (·.key)))] [Af Al (.slice A1 xs.length c2) xs]:=by rw [Ou hx14];rw [XO (by omega)] at H;exact H
  exact Bb (s:=(i,undef)) (i+1,q) ⟨rfl,rfl,rfl,rfl,rfl,trivial⟩ ⟨H,by (try dsimp only);omega⟩ (by (try dsimp only);omega)
 refine Bj (AE (AE (Bk (Y (Z (Ac (Ad 2 U (Aa (Y (Ai (Am U U ?_)))))))))))
 replace H:=H.k1
 replace H:Hd w0 F0 w [Ae Al l (srt xs)] [Af Al (.slice A1 xs.length c2) xs]:=by rw [List.take_of_length_le (show (B6 [] (xs.map (·.key))).length≤i by omega),Ow] at H;exact H
 exact Ag U H
theorem TR {told:List An} {k v:ByteArray} (h:told.length≤40):(C_ told k v).2.length≤40:=by
 unfold C_
 split
 ·exact h
 ·split
  ·exact h
  ·simp only [List.length_append,List.length_cons,List.length_nil];omega
theorem Qc (m:VM):(F7 m).1.told=m.told:=by
 rw [Qd]
def TL (r:VM×Int):Prop:=r.1.told.length≤40
theorem DQ {c:Prop} [Decidable c] {x y:VM×Int} (hx:TL x) (hy:TL y):TL (if c then x else y):=by
 split
 ·exact hx
 ·exact hy
theorem Sx {D:Bc} {key:ByteArray} {m:VM} {i:Bm} {v:List Az} (h:m.told.length≤40):(BS D key m i v).1.told.length≤40:=by
 have hn:TL (F7 m):=by unfold TL;rw [Qc];exact h
 have h20:TL (if (v.getD 0 Bt).n≠0 then {m with pos:=i.a} else m,0):=by
  unfold TL
  dsimp only
  split<;>exact h
 exact DQ h (DQ h (DQ h (DQ h (DQ h (DQ h (DQ hn (DQ h (DQ h (DQ h (DQ h (DQ h (DQ h (DQ h (DQ h (DQ h (DQ h20 (DQ h (DQ h (DQ (TR h) h)))))))))))))))))))
theorem N4 {D:Bc} {key:ByteArray} {m:VM} {i:Bm} (h:m.told.length≤40):(BC D key m i).1.told.length≤40:=by
 unfold BC
 split
 ·exact h
 ·exact Sx h
theorem QF {D:Bc} {p:List Bm} {key:ByteArray}:∀ (k:Nat) {m:VM},m.told.length≤40→(Cd D p key k m).1.told.length≤40
 |0,m,h=>by
  unfold Cd
  split<;>exact h
 |k+1,m,h=>by
  unfold Cd
  split
  ·split
   ·split
    ·exact N4 h
    ·exact QF k (N4 h)
   ·exact h
  ·exact h
theorem Kq (D:Bc) (p:List Bm) (key:ByteArray) (vals:List ByteArray) (fuel:Int):(A_ D p key vals fuel).1.length≤40:=by
 unfold A_
 split
 ·exact Nat.zero_le _
 ·split
  ·exact Nat.zero_le _
  ·exact QF _ (Nat.zero_le _)
def F8 (k:ByteArray) (l:List An):Bool:=l.any fun x=>decide (x.key≠k)
def DK (D:Bc) (p:List Bm) (ps:List An) (fuel:Int) (own:Bool):List ByteArray→List An→List An×Int
 |[],out=>(out,0)
 |k::ks,out=>
  if (A_ D p k (Be ps k) fuel).2≠0 then ([],(A_ D p k (Be ps k) fuel).2)
  else if own=true∧F8 k (A_ D p k (Be ps k) fuel).1=true then ([],6)
  else if 40<out.length+(A_ D p k (Be ps k) fuel).1.length then ([],5)
  else DK D p ps fuel own ks (out++(A_ D p k (Be ps k) fuel).1)
def DC (D:Bc) (p:List Bm) (ps:List An) (fuel:Int) (own:Bool):List An×Int:=DK D p ps fuel own (Cy ps) []
def Eu (D:Bc) (p:List Bm) (ps:List An) (fuel:Int):List An×Int:=if p.length=0 then (srt ps,0) else DC D p ps fuel true
section
variable {D:Bc} {p:List Bm} {ps:List An} {fuel:Int} {own:Bool} {ks:List ByteArray} {k:ByteArray} {out:List An} {i:Nat}
theorem OR (h:ks.length≤i):DK D p ps fuel own (ks.drop i) out=(out,0):=by
 rw [List.drop_eq_nil_of_le h];rfl
theorem OT (hk:ks[i]?=some k) (h:(A_ D p k (Be ps k) fuel).2≠0):DK D p ps fuel own (ks.drop i) out=([],(A_ D p k (Be ps k) fuel).2):=by
 rw [Dv hk];exact if_pos h
theorem OS (hk:ks[i]?=some k) (h:¬ (A_ D p k (Be ps k) fuel).2≠0) (h2:own=true) (h3:F8 k (A_ D p k (Be ps k) fuel).1=true):DK D p ps fuel own (ks.drop i) out=([],6):=by
 rw [Dv hk];unfold DK;rw [if_neg h,if_pos ⟨h2,h3⟩]
theorem JK (hk:ks[i]?=some k) (h:¬ (A_ D p k (Be ps k) fuel).2≠0) (h2:¬ (own=true∧F8 k (A_ D p k (Be ps k) fuel).1=true)) (h3:40<out.length+(A_ D p k (Be ps k) fuel).1.length):DK D p ps fuel own (ks.drop i) out=([],5):=by
 rw [Dv hk];unfold DK;rw [if_neg h,if_neg h2,if_pos h3]
theorem JL (hk:ks[i]?=some k) (h:¬ (A_ D p k (Be ps k) fuel).2≠0) (h2:¬ (own=true∧F8 k (A_ D p k (Be ps k) fuel).1=true)) (h3:¬ 40<out.length+(A_ D p k (Be ps k) fuel).1.length):
  DK D p ps fuel own (ks.drop (i+1)) (out++(A_ D p k (Be ps k) fuel).1)=DK D p ps fuel own (ks.drop i) out:=by
 rw [Dv hk];conv=>rhs;unfold DK
 rw [if_neg h,if_neg h2,if_neg h3]
end
theorem N7 (D:Bc) (p:List Bm) (ps:List An) (fuel:Int) (own:Bool):∀ (ks:List ByteArray) (out:List An),out.length≤40→(DK D p ps fuel own ks out).1.length≤40
 |[],out,h=>h
 |k::ks,out,h=>by
  unfold DK
  split
  ·exact Nat.zero_le _
  ·split
   ·exact Nat.zero_le _
   ·split
    ·exact Nat.zero_le _
    ·exact N7 D p ps fuel own ks _ (by simp only [List.length_append];omega)
def DD:List Bm:=[⟨6,0,⟨#[]⟩⟩,⟨7,0,⟨#[]⟩⟩,⟨4,0,⟨#[]⟩⟩,⟨23,0,⟨#[]⟩⟩]
theorem JM:∀ i∈DD,AF i.a:=by
 intro i hi
 simp only [DD,List.mem_cons,List.not_mem_nil,or_false] at hi
 rcases hi with rfl|rfl|rfl|rfl<;>exact Hb
theorem TP (x:An) (kb:Nat) (key:ByteArray):
    Cn Tryz.prog 213 [.agg #[.string x.key,.string x.val],.pointer (some ⟨kb,0,none⟩)] [] [blk kb [.string key] 9] (fun v Bs=>v=.bool (decide (x.key≠key))∧Bs=[]):=by
 intro w0 F0 H
 refine enter Tryz.func213 U U (Nat.le_of_ble_eq_true U) (Z (Ac (B4 U U U U H (fun b1 w H=>(Ab U (Aa (Y (Z (Ac (V U U (Ah U DO U) (V U U (Aj U Bd U (H.cellI 0 U U)) (V U U (Aj U Bd U (H.cellRI 0 U U)) (V U U (Kh U U U) (Ab U (Aa (Y (Ai (Am U U ?_))))))))))))))))))
 replace H:=H.nil
 exact Ag ⟨rfl,rfl⟩ H
theorem TQ (vp:Value) (p:List Bm) (vps:Value) (ps:List An) (fuel:Int) (own:Bool) (hpa:∀ i∈p,AF i.a) (hfu:AF fuel) (hb:ps.length≤1000000):
    Cn Tryz.prog 177 [vp,vps,.int .i64 fuel,.bool own] [] [Af Au vp p,Af Al vps ps,gl] (fun v Bs=>∃ u,v=.tuple #[u,.int .i64 (DC dg p ps fuel own).2]∧Bs=[Ae Al u (DC dg p ps fuel own).1]):=by
 intro w0 F0 H
 obtain ⟨A1,c2,rfl,hc3,hm4,hp5⟩:=H.fR 0 rfl
 obtain ⟨A6,c7,rfl,hc8,hm9,hp10⟩:=H.fR 1 rfl
 refine enter Tryz.func177 U U (Nat.le_of_ble_eq_true U) (Z (Ac (Ad 2 U (Aa (Y (Z (Ac (Ab U (Aa (Y (Z (Ac (sc ZZ H l0 U U (At Vs U U) ?_)))))))))))))
 rintro _ _ w ⟨b11,rfl,rfl⟩ H
 refine Ab U (Aa (Y (Z (Z (Ac (Ab U (sc (XD (.slice A6 ps.length c7) ps (by first |omega|decide)) H (lR 1 U l0) U U (At Vt U U) ?_)))))))
 rintro v12 _ w rfl H
 obtain ⟨A13,c14,rfl,hc15,hm16,hp17⟩:=H.fA 0 rfl
 refine V U U (AO U GB U) (Ab U (Aa (Y (AK ?_))))
 replace H:=H.newnil Al
 refine Br (σ:=Nat×Value×List An) (fun (i,q,out)=>[(0,.slice A1 p.length c2),(1,.slice A6 ps.length c7),(2,.int .i64 fuel),(3,.bool own),(10,q),(11,.pointer (some ⟨b11,0,none⟩)),(18,.slice A13 ((Cy ps).length) c14),(19,.int .i64 (((Cy ps).length:Nat):Int)),(20,.int .i64 ((i:Nat):Int))]) (fun (i,q,out) w=>(Hd w0 F0 w [Ae Al q out,Ae AZ (.slice A13 ((Cy ps).length) c14) (Cy ps),blk b11 [.int .i64 (out.length:Int),.int .i64 0,.int .i64 0,.int .i64 0,.int .i64 0,.int .i64 0,.int .i64 0,.int .i64 0] 322] [Af Au (.slice A1 p.length c2) p,Af Al (.slice A6 ps.length c7) ps,gl])∧(i≤(Cy ps).length)∧(DK dg p ps fuel own ((Cy ps).drop i) out=DC dg p ps fuel own)∧(out.length≤40)) (fun (i,q,out)=>(Cy ps).length - i) (0,.slice none 0 0,[]) ⟨rfl,rfl,rfl,rfl,rfl,rfl,rfl,rfl,rfl,trivial⟩ ⟨H,Nat.zero_le _,rfl,Nat.zero_le _⟩ ?_
 rintro ⟨i,q,out⟩ w ⟨H,hi,hgo,ho⟩
 have hkl:=Pd ps
 refine Z (Ac (V U U (AQ U U U) (Aa (Y (Z ?_)))))
 refine Aq U (fun h18=>?_) (fun h18=>?_)
 ·refine Av (Y (Z (AK (Z (Ac ?_)))))
  obtain ⟨x19,hx20⟩:∃ z9,(Cy ps)[i]?=some z9:=⟨_,List.getElem?_eq_getElem (show i<(Cy ps).length by omega)⟩
  have th21:=H.thA 1 rfl hx20
  refine V U U (AG (p:=AA A13+i*1) U Ck U U (by omega) (by omega) th21 U) (V U U (Aj U Bd U (H.elA 1 U hx20 (q:=0) U U)) (Do U U U Dc H (fun b22 w H=>(By U U U Bd U U H U (Nat.le_of_ble_eq_true U) (fun u hu=>by simp [Value.cells] at hu;subst hu;rfl) (fun w H=>(Aa (Y (Z (BD (.e 0 (.e 1 (.e 2 (.e 3 (.e 5 (.m 4 (.m 6 (.e 7 (.e 8 (.e 9 (.e 10 (.e 11 .z)))))))))))) (fun w=>∃ Ar,Hd w0 F0 w (blk b22 [.string x19] 9::Ae Al q out::Ae AZ (.slice A13 ((Cy ps).length) c14) (Cy ps)::blk b11 [.int .i64 (out.length:Int),.int .i64 0,.int .i64 0,.int .i64 0,.int .i64 0,.int .i64 0,.int .i64 0,.int .i64 0] 322::Ar) [Af Au (.slice A1 p.length c2) p,Af Al (.slice A6 ps.length c7) ps,gl]) mo (by kernel_rfl) (fun w H=>⟨_,H⟩) H (fun w H=>(Ap U (Ak U U U (fun w ⟨Ar,H⟩=>Aj U Bd U (H.cellI 0 U U)) (Ap U (Ak U U U (fun w ⟨Ar,H⟩=>Aj U Bd U (H.cellI 0 U U)) (Ap U (AL U (sc (XF (.slice A6 ps.length c7) ps x19 (by first |omega|decide)) H (lR 1 U l0) U U (At Vu U U) ?_)))))))))))))))))
  rintro v23 _ w rfl H
  replace H:=H.p4|>.p4|>.p4|>.p4
  refine AH ⟨_,H⟩ (AL U (sc (Sh (.slice A1 p.length c2) p x19 v23 (Be ps x19) fuel hpa hfu) H (lR 0 U (lA 4 U BI (lR 2 U l0))) U U (At Pn U U) ?_))
  rintro _ _ w ⟨u24,rfl,rfl⟩ H
  have hrt:=Kq dg p x19 (Be ps x19) fuel
  replace H:=H.p4.p4.p4.p4
  refine AH ⟨_,H⟩ (Ap U (Ap U (Ap U (Ap U (Ap U (Bx (Y (Z (AK (Z (Ac (Ab U (V U U (CL U U U) (Ab U (Aa (Y ?_))))))))))))))))
  refine Aq U (fun h25=>?_) (fun h25=>?_)
  ·refine Z (Ac (Ad 3 U (Aa (Y (Ai (Ax (Ao (Ax (Ao (Ao (Ax (Ao (Bg U U U ?_)))))))))))))
   have e:DC dg p ps fuel own=([],(A_ dg p x19 (Be ps x19) fuel).2):=hgo.symm.trans (OT hx20 h25)
   replace H:=H.nil|>.newnil Al
   exact Ag ⟨_,by rw [e]<;>rfl,by rw [e]<;>rfl⟩ H
  refine Z (Ac (Ad 2 U ?_))
  refine EC (d:=40) (b:=own) U (fun h26=>?_) (fun h26=>?_)
  ·refine Ab U (V U U (Hh (fs:=#[]) (cs:=#[.pointer (some ⟨b22,0,none⟩)]) U U U) (sc (NZ 213 [.pointer (some ⟨b22,0,none⟩)] [blk b22 [.string x19] 9] (fun y=>decide (y.key≠x19)) Vv (fun y=>TP y b22 x19) u24 (A_ dg p x19 (Be ps x19) fuel).1) H (lA 4 U BI (lA 0 U (fun _ h=>h) l0)) U U (At Pm U U) ?_))
   rintro _ _ w ⟨rfl,rfl⟩ H
   refine Ad 2 U (Aa (Y ?_))
   refine DJ (b:=F8 x19 (A_ dg p x19 (Be ps x19) fuel).1) U (fun h27=>?_) (fun h27=>?_)
   ·refine Z (Ac (Ad 2 U (Aa (Y (Ai (Ax (Ao (Ax (Ao (Ao (Ax (Ao (Bg U U U ?_)))))))))))))
    have e:DC dg p ps fuel own=([],6):=hgo.symm.trans (OS hx20 h25 h26 h27)
    replace H:=H.nil|>.newnil Al
    exact Ag ⟨_,by rw [e]<;>rfl,by rw [e]<;>rfl⟩ H
   refine Z (Ac (Ad 2 U ?_))
   obtain ⟨A28,c29,rfl,hc30,hm31,hp32⟩:=H.fA 4 rfl
   refine V U U (AO U B_ U) ?_
   replace H:=H.p3
   refine sc (R5 b11 (out.length:Int) 0 0 0 0 0 0 0 ((((A_ dg p x19 (Be ps x19) fuel).1).length:Nat):Int) (by omega) (by omega)) H l0 U U (At Pu U U) ?_
   rintro _ _ w ⟨rfl,rfl⟩ H
   refine V U U (BP U U U) (Ab U (Aa (Y ?_)))
   refine Aq U (fun h33=>?_) (fun h33=>?_)
   ·refine Z (Ac (Ad 2 U (Aa (Y (Ai (Ax (Ao (Ax (Ao (Ao (Ax (Ao (Bg U U U ?_)))))))))))))
    have e:DC dg p ps fuel own=([],5):=hgo.symm.trans (JK hx20 h25 (fun h=>by rw [h.2] at h27;cases h27) (by omega))
    replace H:=H.nil|>.newnil Al
    exact Ag ⟨_,by rw [e]<;>rfl,by rw [e]<;>rfl⟩ H
   refine Av (AS (Y (Ac (Ad 2 U ?_))))
   replace H:=H.p2
   refine BY (xs:=out) (ys:=(A_ dg p x19 (Be ps x19) fuel).1) U U U Bq CJ U (by decide) U U H (by omega) (fun F hA hR=>BI F (hA _ (List.mem_of_getElem? (i:=3) U))) (fun v34 w H=>(Ab U (Aa (AS (Y (Ac (V U U (AP (z:=((i+1:Nat):Int)) U U U (by rw [Ay (by omega) (by omega)];omega)) (Ab U (Aa ?_)))))))))
   replace H:=H.p3.p1.k3
   have hl2:((out++(A_ dg p x19 (Be ps x19) fuel).1).length:Int)=min ((out.length:Int)+((((A_ dg p x19 (Be ps x19) fuel).1).length:Nat):Int)) 1099511627776:=by rw [List.length_append];omega
   replace H:Hd w0 F0 w [Ae Al v34 (out++((A_ dg p x19 (Be ps x19) fuel).1)),Ae AZ (.slice A13 ((Cy ps).length) c14) (Cy ps),blk b11 [.int .i64 ((out++(A_ dg p x19 (Be ps x19) fuel).1).length:Int),.int .i64 0,.int .i64 0,.int .i64 0,.int .i64 0,.int .i64 0,.int .i64 0,.int .i64 0] 322] [Af Au (.slice A1 p.length c2) p,Af Al (.slice A6 ps.length c7) ps,gl]:=by rw [hl2];exact H
   have hg2:=(JL (out:=out) hx20 h25 (fun h=>by rw [h.2] at h27;cases h27) (by omega)).trans hgo
   have ho2:(out++(A_ dg p x19 (Be ps x19) fuel).1).length≤40:=by rw [List.length_append];omega
   exact Bb (s:=(i,undef,out)) (i+1,v34,out++(A_ dg p x19 (Be ps x19) fuel).1) ⟨rfl,rfl,rfl,rfl,rfl,rfl,rfl,rfl,rfl,trivial⟩ ⟨H,by (try dsimp only);omega,hg2,ho2⟩ (by (try dsimp only);omega)
  refine Ad 5 U (Aa (Y (B0 U (Z (Ac (Ad 2 U ?_))))))
  obtain ⟨A35,c36,rfl,hc37,hm38,hp39⟩:=H.fA 4 rfl
  refine V U U (AO U B_ U) ?_
  replace H:=H.p3
  refine sc (R5 b11 (out.length:Int) 0 0 0 0 0 0 0 ((((A_ dg p x19 (Be ps x19) fuel).1).length:Nat):Int) (by omega) (by omega)) H l0 U U (At Pu U U) ?_
  rintro _ _ w ⟨rfl,rfl⟩ H
  refine V U U (BP U U U) (Ab U (Aa (Y ?_)))
  refine Aq U (fun h40=>?_) (fun h40=>?_)
  ·refine Z (Ac (Ad 2 U (Aa (Y (Ai (Ax (Ao (Ax (Ao (Ao (Ax (Ao (Bg U U U ?_)))))))))))))
   have e:DC dg p ps fuel own=([],5):=hgo.symm.trans (JK hx20 h25 (fun h=>by rw [h.1] at h26;cases h26) (by omega))
   replace H:=H.nil|>.newnil Al
   exact Ag ⟨_,by rw [e]<;>rfl,by rw [e]<;>rfl⟩ H
  refine Av (AS (Y (Ac (Ad 2 U ?_))))
  replace H:=H.p2
  refine BY (xs:=out) (ys:=(A_ dg p x19 (Be ps x19) fuel).1) U U U Bq CJ U (by decide) U U H (by omega) (fun F hA hR=>BI F (hA _ (List.mem_of_getElem? (i:=3) U))) (fun v41 w H=>(Ab U (Aa (AS (Y (Ac (V U U (AP (z:=((i+1:Nat):Int)) U U U (by rw [Ay (by omega) (by omega)];omega)) (Ab U (Aa ?_)))))))))
  replace H:=H.p3.p1.k3
  have hl2:((out++(A_ dg p x19 (Be ps x19) fuel).1).length:Int)=min ((out.length:Int)+((((A_ dg p x19 (Be ps x19) fuel).1).length:Nat):Int)) 1099511627776:=by rw [List.length_append];omega
  replace H:Hd w0 F0 w [Ae Al v41 (out++((A_ dg p x19 (Be ps x19) fuel).1)),Ae AZ (.slice A13 ((Cy ps).length) c14) (Cy ps),blk b11 [.int .i64 ((out++(A_ dg p x19 (Be ps x19) fuel).1).length:Int),.int .i64 0,.int .i64 0,.int .i64 0,.int .i64 0,.int .i64 0,.int .i64 0,.int .i64 0] 322] [Af Au (.slice A1 p.length c2) p,Af Al (.slice A6 ps.length c7) ps,gl]:=by rw [hl2];exact H
  have hg2:=(JL (out:=out) hx20 h25 (fun h=>by rw [h.1] at h26;cases h26) (by omega)).trans hgo
  have ho2:(out++(A_ dg p x19 (Be ps x19) fuel).1).length≤40:=by rw [List.length_append];omega
  exact Bb (s:=(i,undef,out)) (i+1,v41,out++(A_ dg p x19 (Be ps x19) fuel).1) ⟨rfl,rfl,rfl,rfl,rfl,rfl,rfl,rfl,rfl,trivial⟩ ⟨H,by (try dsimp only);omega,hg2,ho2⟩ (by (try dsimp only);omega)
 refine Bj (AE (AE (Bk (Y (Z (Ac (Ad 3 U (Aa (Y (Ai (Bg U U U ?_)))))))))))
 replace H:=H.k1
 have e:DC dg p ps fuel own=(out,0):=hgo.symm.trans (OR (by omega))
 exact Ag ⟨_,by rw [e]<;>rfl,by rw [e]<;>rfl⟩ H
theorem Um (vp:Value) (p:List Bm) (vps:Value) (ps:List An) (fuel:Int) (hpa:∀ i∈p,AF i.a) (hfu:AF fuel) (hb:ps.length≤1000000):
    Cn Tryz.prog 125 [vp,vps,.int .i64 fuel] [] [Af Au vp p,Af Al vps ps,gl] (fun v Bs=>∃ u,v=.tuple #[u,.int .i64 (Eu dg p ps fuel).2]∧Bs=[Ae Al u (Eu dg p ps fuel).1]):=by
 intro w0 F0 H
 obtain ⟨A1,c2,rfl,hc3,hm4,hp5⟩:=H.fR 0 rfl
 obtain ⟨A6,c7,rfl,hc8,hm9,hp10⟩:=H.fR 1 rfl
 refine enter Tryz.func125 U U (Nat.le_of_ble_eq_true U) (Z (Ac (Ad 2 U (Aa (Y (Z (Z (Ac (Ab U (V U U (AO U DX U) (V U U (AT U U U) (Aa (Y ?_)))))))))))))
 refine Aq U (fun h11=>?_) (fun h11=>?_)
 ·refine Z (Ac (Ab U (sc (XN (.slice A6 ps.length c7) ps (by first |omega|decide)) H (lR 1 U l0) U U (At Vg U U) ?_)))
  rintro v12 _ w rfl H
  refine Ad 2 U (Aa (Y (Ai (Ao (Bg U U U ?_)))))
  have e:Eu dg p ps fuel=(srt ps,0):=if_pos (by omega)
  exact Ag ⟨_,by rw [e]<;>rfl,by rw [e]<;>rfl⟩ H
 refine Av (Y (Z (Ac (Ad 3 U (sc (TQ (.slice A1 p.length c2) p (.slice A6 ps.length c7) ps fuel true hpa hfu hb) H (lR 0 U (lR 1 U (lR 2 U l0))) U U (At Vh U U) ?_)))))
 rintro _ _ w ⟨u13,rfl,rfl⟩ H
 refine Ad 4 U (Aa (Y (Ai (Bg U U U ?_))))
 have e:Eu dg p ps fuel=DC dg p ps fuel true:=if_neg (by omega)
 exact Ag ⟨_,by rw [e]<;>rfl,by rw [e]<;>rfl⟩ H
theorem HM (vxs:Value) (xs:List Bm):
    Cn Tryz.prog 87 [vxs] [] [Af Au vxs xs] (fun v Bs=>v=.bool (EI xs)∧Bs=[]):=by
 intro w0 F0 H
 obtain ⟨A1,c2,rfl,hc3,hm4,hp5⟩:=H.fR 0 rfl
 refine enter Tryz.func87 U U (Nat.le_of_ble_eq_true U) (Z (Ac (Ab U (Aa (Y (Z (Z (Ac (Ab U (Aa (Y (AK (Br (σ:=Nat) (fun k=>[(0,.slice A1 xs.length c2),(3,.int .i64 ((k:Nat):Int))]) (fun k w=>(Hd w0 F0 w [] [Af Au (.slice A1 xs.length c2) xs])∧(k≤xs.length)∧(∀ y∈xs.take k,y.s.size≤100)) (fun k=>xs.length - k) 0 ⟨rfl,rfl,trivial⟩ ⟨H,by omega,by simp⟩ ?_)))))))))))))
 rintro k w ⟨H,hk,hn⟩
 refine Z (Z (Ac (Ad 2 U (V U U (AO U DX U) (V U U (AQ U U U) (Ab U ?_))))))
 refine AD (d:=8) U (fun h6=>?_) (fun h6=>?_)
 ·refine Ab U (V U U (AO U DX U) (V U U (BX U U U) (Ab U (Aa (Y ?_)))))
  refine Aq U (fun h7=>?_) (fun h7=>?_)
  ·refine Av (Y (Z (AK (Z (Ac (Ad 2 U ?_))))))
   obtain ⟨x8,hx9⟩:∃ z9,xs[k]?=some z9:=⟨_,List.getElem?_eq_getElem (show k<xs.length by omega)⟩
   have th10:=H.thR 0 rfl hx9
   refine V U U (AG (p:=AA A1+k*3) U FO U U (by omega) (by omega) th10 U) (V U U (Ah U Dx U) (V U U (Aj U Bd U (H.elR 0 U hx9 (q:=2) U U)) (V U U (Cl U BJ U) (V U U (BP U U U) (Aa (Y ?_))))))
   refine Aq U (fun h11=>?_) (fun h11=>?_)
   ·exact Z (Ac (Ab U (Aa (Y (Ai (Ax (Ao (Ao (Ax (Ao (Am U U (Ag ⟨congrArg Value.bool (Ux hx9 (by omega)),rfl⟩ H))))))))))))
   exact Av (AS (Y (Ac (Ab U (V U U (AP (z:=((k+1:Nat):Int)) U U U (by rw [Ay (by omega) (by omega)];omega)) (Ab U (Aa (Bb (s:=k) (k+1) ⟨rfl,rfl,trivial⟩ ⟨H,by (try dsimp only);omega,ZX hn hx9 (by omega)⟩ (by (try dsimp only);omega)))))))))
  exact Bj (AE (AE (Bk (Y (Z (Ac (Ab U (V U U (AO U DX U) (V U U (BP U U U) (Ab U (Aa (Y (Ai (Am U U (Ag ⟨congrArg Value.bool (OX hn (by omega)),rfl⟩ H)))))))))))))))
 exact Ad 4 U (Aa (Y (B0 U (Bj (AE (AE (Bk (Y (Z (Ac (Ab U (V U U (AO U DX U) (V U U (BP U U U) (Ab U (Aa (Y (Ai (Am U U (Ag ⟨congrArg Value.bool (OX hn (by omega)),rfl⟩ H)))))))))))))))))))
/-! ### What is told is small -/
def TS (r:VM×Int):Prop:=∀ q∈r.1.told,CG q
theorem DR {c:Prop} [Decidable c] {x y:VM×Int} (hx:TS x) (hy:TS y):TS (if c then x else y):=by
 split
 ·exact hx
 ·exact hy
theorem TU {told:List An} {k v:ByteArray} (h:∀ q∈told,CG q) (hv:v.size≤64):∀ q∈(C_ told k v).2,CG q:=by
 unfold C_
 split
 ·exact h
 ·split
  ·exact h
  ·intro q hq
   rcases List.mem_append.1 hq with h1|h1
   ·exact h q h1
   ·rw [List.mem_singleton.1 h1]
    exact ⟨by (try dsimp only);omega,hv⟩
theorem Sw {D:Bc} {key:ByteArray} {m:VM} {i:Bm} {v:List Az} (h:∀ q∈m.told,CG q) (hv:(v.getD 1 Bt).b.size≤64):TS (BS D key m i v):=by
 have hn:TS (F7 m):=by unfold TS;rw [Qc];exact h
 have h20:TS (if (v.getD 0 Bt).n≠0 then {m with pos:=i.a} else m,0):=by
  unfold TS
  dsimp only
  split<;>exact h
 exact DR h (DR h (DR h (DR h (DR h (DR h (DR hn (DR h (DR h (DR h (DR h (DR h (DR h (DR h (DR h (DR h (DR h20 (DR h (DR h (DR (TU h hv) h)))))))))))))))))))
theorem N3 {D:Bc} {key:ByteArray} {n:Int} {m:VM} {i:Bm} (hm:DZ n m) (h:∀ q∈m.told,CG q):TS (BC D key m i):=by
 by_cases hN:(AC i.op m.stk).1≠0
 ·rw [Is hN];exact h
 ·rw [CR hN]
  obtain ⟨l1,l2,l3,l4⟩:=Mo (Classical.not_not.1 hN)
  exact Sw h (Mv (fun x hx=>hm.ok.1 x (l3 x hx)) 1).2
theorem Jf {p:List Bm} (h:C3 p<0):p.length≤40∧∀ i∈p,Bf i p.length:=by
 have hl:p.length≤40:=by
  apply Classical.byContradiction
  intro hn
  unfold C3 at h
  split at h
  ·omega
  ·rw [if_pos (by omega)] at h;omega
 exact ⟨hl,(NH hl).1 h⟩
theorem QE {D:Bc} (hD:∀ s:ByteArray,AF (D.num s)) {p:List Bm} {key:ByteArray} (hp:C3 p<0) (ha:∀ i∈p,AF i.a):∀ (k:Nat) {m:VM},DZ p.length m→(∀ q∈m.told,CG q)→TS (Cd D p key k m)
 |0,m,hm,h=>by
  unfold Cd
  split<;>exact h
 |k+1,m,hm,h=>by
  by_cases hc:m.pos<p.length∧m.halted=false
  ·obtain ⟨i,hi⟩:∃ i,p[m.pos.toNat]?=some i:=⟨_,List.getElem?_eq_getElem (by have:=hm.pos;omega)⟩
   have him:=Bl hi
   have hm1:DZ p.length {m with pos:=m.pos+1}:=⟨hm.ok,hm.len,hm.told,(by have h9:=hm.pos;constructor<;>(try dsimp only)<;>omega)⟩
   by_cases hw:(BC D key {m with pos:=m.pos+1} i).2≠0
   ·rw [MF hc hi hw]
    exact N3 hm1 h
   ·rw [II hc hi hw]
    exact QE hD hp ha k (JN hD hm1 ((Jf hp).2 i him) (ha i him) (Classical.not_not.1 hw)) (N3 hm1 h)
  ·rw [IJ _ hc];exact h
theorem UJ (n:Int) (hn:0≤n) (vals:List ByteArray):DZ n (C1 vals):=⟨⟨(fun v hv=>by cases hv),fun _=>Mx⟩,Nat.zero_le _,Nat.zero_le _,⟨Int.le_refl 0,hn⟩⟩
theorem RG {D:Bc} (hD:∀ s:ByteArray,AF (D.num s)) {p:List Bm} (ha:∀ i∈p,AF i.a) (key:ByteArray) (vals:List ByteArray) (fuel:Int):∀ q∈(A_ D p key vals fuel).1,CG q:=by
 unfold A_
 split
 ·intro q hq;cases hq
 ·rename_i hn
  split
  ·intro q hq;cases hq
  ·exact QE hD (by omega) ha _ (UJ _ (by omega) _) (fun q hq=>by cases hq)
theorem ZH {xs:List An} (h:∀ q∈xs,CG q):∀ q∈srt xs,CG q:=fun q hq=>h q ((Kz xs).symm.mem hq)
theorem N5 {D:Bc} (hD:∀ s:ByteArray,AF (D.num s)) {p:List Bm} (ha:∀ i∈p,AF i.a) {ps:List An} {fuel:Int} {own:Bool}:∀ (ks:List ByteArray) (out:List An),(∀ q∈out,CG q)→∀ q∈(DK D p ps fuel own ks out).1,CG q
 |[],out,h=>h
 |k::ks,out,h=>by
  unfold DK
  split
  ·intro q hq;cases hq
  ·split
   ·intro q hq;cases hq
   ·split
    ·intro q hq;cases hq
    ·refine N5 hD ha ks _ fun q hq=>?_
     rcases List.mem_append.1 hq with h1|h1
     ·exact h q h1
     ·exact RG hD ha _ _ _ q h1
/-! ### In order -/
theorem Tm {D:Bc} (hD:∀ s:ByteArray,AF (D.num s)) {p:List Bm} (ha:∀ i∈p,AF i.a) {ps:List An} {fuel:Int} (h:∀ q∈ps,CG q):∀ q∈(Eu D p ps fuel).1,CG q:=by
 unfold Eu
 split
 ·exact ZH h
 ·exact N5 hD ha _ _ fun q hq=>by cases hq
theorem Tl (D:Bc) (p:List Bm) (ps:List An) (fuel:Int) (h:ps.length≤40):(Eu D p ps fuel).1.length≤40:=by
 unfold Eu
 split
 ·show (srt ps).length≤40
  rw [Ky];exact h
 ·exact N7 D p ps fuel true _ _ (Nat.zero_le _)
/-! ### Jobs -/
structure AR where
 us:List (Value×List An)
 parts:Int
 map:List Bm
 comb:List Bm
 red:List Bm
 chunk:Int
 window:Int
 fuel:Int
 marks:List Int
def FI (x:List An):Prop:=x.length≤8∧GN x
instance (x:List An):Decidable (FI x):=inferInstanceAs (Decidable (_∧_))
def Ey (n:Int):Int→List Int→Prop
 |_,[]=>True
 |l,m::ms=>(l+1≤m∧m≤n)∧Ey n m ms
instance marksUpD (n:Int):∀ (l:Int) (ms:List Int),Decidable (Ey n l ms)
 |_,[]=>isTrue trivial
 |_,m::ms=>haveI:=marksUpD n m ms;inferInstanceAs (Decidable (_∧_))
def Cv (J:AR):Prop:=
 (1≤(J.us.length:Int)∧(J.us.length:Int)≤6)∧(1≤J.parts∧J.parts≤4)∧J.marks.length≤4∧(∀ u∈J.us,FI u.2)∧Ey J.us.length 0 J.marks∧
 (0<J.map.length∧C3 J.map<0)∧(0<J.red.length∧C3 J.red<0)∧C3 J.comb<0∧(1≤J.chunk∧J.chunk≤7)∧(1≤J.window∧J.window≤4)∧1≤J.fuel∧J.fuel≤2000
instance mayJD (J:AR):Decidable (Cv J):=by unfold Cv;infer_instance
structure B3 (J:AR):Prop where
 may:Cv J
 map:∀ i∈J.map,AF i.a
 comb:∀ i∈J.comb,AF i.a
 red:∀ i∈J.red,AF i.a
theorem B3.us {J:AR} (h:B3 J):1≤J.us.length∧J.us.length≤6:=by have:=h.may.1;omega
theorem B3.parts {J:AR} (h:B3 J):1≤J.parts∧J.parts≤4:=h.may.2.1
theorem B3.fuel {J:AR} (h:B3 J):1≤J.fuel∧J.fuel≤2000:=h.may.2.2.2.2.2.2.2.2.2.2
theorem B3.split {J:AR} (h:B3 J):∀ u∈J.us,FI u.2:=h.may.2.2.2.1
theorem B3.f64 {J:AR} (h:B3 J):AF J.fuel:=by have:=h.fuel;unfold AF;omega
def Ef (D:Bc) (p:List Bm) (fuel:Int):List An→List An→List An×Int
 |[],out=>(out,0)
 |r::rs,out=>
  if (A_ D p r.key [r.val] fuel).2≠0 then ([],(A_ D p r.key [r.val] fuel).2)
  else if 40<out.length+(A_ D p r.key [r.val] fuel).1.length then ([],5)
  else Ef D p fuel rs (out++(A_ D p r.key [r.val] fuel).1)
section
variable {D:Bc} {p:List Bm} {fuel:Int} {rs:List An} {r:An} {out:List An} {i:Nat}
theorem P4 (h:rs.length≤i):Ef D p fuel (rs.drop i) out=(out,0):=by
 rw [List.drop_eq_nil_of_le h];rfl
theorem P9 (hr:rs[i]?=some r) (h:(A_ D p r.key [r.val] fuel).2≠0):Ef D p fuel (rs.drop i) out=([],(A_ D p r.key [r.val] fuel).2):=by
 rw [Dv hr];exact if_pos h
theorem P6 (hr:rs[i]?=some r) (h:¬ (A_ D p r.key [r.val] fuel).2≠0) (h3:40<out.length+(A_ D p r.key [r.val] fuel).1.length):Ef D p fuel (rs.drop i) out=([],5):=by
 rw [Dv hr];unfold Ef;rw [if_neg h,if_pos h3]
theorem P7 (hr:rs[i]?=some r) (h:¬ (A_ D p r.key [r.val] fuel).2≠0) (h3:¬ 40<out.length+(A_ D p r.key [r.val] fuel).1.length):
  Ef D p fuel (rs.drop (i+1)) (out++(A_ D p r.key [r.val] fuel).1)=Ef D p fuel (rs.drop i) out:=by
 rw [Dv hr];conv=>rhs;unfold Ef
 rw [if_neg h,if_neg h3]
theorem P8 (hD:∀ s:ByteArray,AF (D.num s)) (ha:∀ i∈p,AF i.a):∀ (rs out:List An),(∀ q∈out,CG q)→∀ q∈(Ef D p fuel rs out).1,CG q
 |[],out,h=>h
 |r::rs,out,h=>by
  unfold Ef
  split
  ·intro q hq;cases hq
  ·split
   ·intro q hq;cases hq
   ·refine P8 hD ha rs _ fun q hq=>?_
    rcases List.mem_append.1 hq with h1|h1
    ·exact h q h1
    ·exact RG hD ha _ _ _ q h1
theorem P5:∀ (rs out:List An),out.length≤40→(Ef D p fuel rs out).1.length≤40
 |[],out,h=>h
 |r::rs,out,h=>by
  unfold Ef
  split
  ·exact Nat.zero_le _
  ·split
   ·exact Nat.zero_le _
   ·exact P5 rs _ (by simp only [List.length_append];omega)
end
def recs (J:AR) (s:Nat):List An:=match J.us[s]? with
 |some u=>u.2
 |none=>[]
theorem Rb {J:AR} {s:Nat} {u:Value×List An} (h:J.us[s]?=some u):recs J s=u.2:=by unfold recs;rw [h]
def mapM (D:Bc) (J:AR) (s:Nat):List An×Int:=Ef D J.map J.fuel (recs J s) []
def AB (D:Bc) (J:AR) (s:Nat):List An×Int:=if (mapM D J s).2≠0 then ([],(mapM D J s).2) else Eu D J.comb (mapM D J s).1 J.fuel
theorem P3 (D:Bc) (J:AR) (s:Nat):(mapM D J s).1.length≤40:=P5 _ _ (Nat.zero_le _)
theorem Hl (D:Bc) (J:AR) (s:Nat):(AB D J s).1.length≤40:=by
 unfold AB
 split
 ·exact Nat.zero_le _
 ·exact Tl _ _ _ _ (P3 _ _ _)
theorem Id {D:Bc} (hD:∀ s:ByteArray,AF (D.num s)) {J:AR} (h:B3 J) (s:Nat):∀ q∈(AB D J s).1,CG q:=by
 unfold AB
 split
 ·intro q hq;cases hq
 ·exact Tm hD h.comb (P8 hD h.map _ _ fun q hq=>by cases hq)
def BE (D:Bc) (J:AR) (s:Nat) (p:Int):List An:=EA (AB D J s).1 J.parts p
def Ip (D:Bc) (J:AR) (p:Int):Nat→List An
 |0=>[]
 |k+1=>Ip D J p k++BE D J k p
theorem GQ (D:Bc) (J:AR) (s:Nat) (p:Int):(BE D J s p).length≤40:=Nat.le_trans (My _ _ _) (Hl _ _ _)
def ME (D:Bc) (J:AR) (p:Int):List An×Int:=DC D J.red (srt (Ip D J p J.us.length)) J.fuel false
section
variable {D:Bc} {J:AR} {s p:Nat} {out:List (List An)}
end
def GS (D:Bc) (J:AR) (s:Nat) (p:Int):List An×Int:=if (AB D J s).2≠0 then ([],(AB D J s).2) else (BE D J s p,0)
def GJ (J:AR):Bool:=decide (¬ (J.us.length≤8∧∀ u∈J.us,E3 u.2 10=false))||decide (10<(J.marks.length:Int))||EI J.map||EI J.comb||EI J.red
theorem Uu {J:AR} {k:Nat} {A:Value} {x:List An} (hx:J.us[k]?=some (A,x)) (h:E3 x 10=true):true=GJ J:=by
 unfold GJ
 rw [decide_eq_true (show ¬ (J.us.length≤8∧∀ u∈J.us,E3 u.2 10=false) from fun g=>by have:=g.2 _ (Bl hx);rw [h] at this;cases this)]
 simp
theorem GK {J:AR} (h:8<J.us.length∨10<J.marks.length∨EI J.map=true∨EI J.comb=true):true=GJ J:=by
 unfold GJ
 rcases h with h|h|h|h
 ·rw [decide_eq_true (show ¬ (J.us.length≤8∧∀ u∈J.us,E3 u.2 10=false) from fun g=>by omega)];simp
 ·rw [decide_eq_true (show 10<(J.marks.length:Int) by omega)];simp
 ·rw [h];simp
 ·rw [h];simp
theorem OU {J:AR} {k:Nat} (hn:∀ u∈J.us.take k,E3 u.2 10=false) (h1:J.us.length≤k) (h2:J.us.length≤8) (h3:J.marks.length≤10) (h4:EI J.map=false) (h5:EI J.comb=false):EI J.red=GJ J:=by
 unfold GJ
 rw [List.take_of_length_le h1] at hn
 rw [decide_eq_false (show ¬ ¬ (J.us.length≤8∧∀ u∈J.us,E3 u.2 10=false) from fun g=>g ⟨h2,hn⟩),decide_eq_false (show ¬ 10<(J.marks.length:Int) by omega),h4,h5]
 simp
theorem GC (n:Int) (l:Int) (m:Int):
    Cn Tryz.prog 89 [.int .i64 n,.int .i64 l,.int .i64 m] [] [] (fun v Bs=>v=.bool (decide (l≤n∧n≤m))∧Bs=[]):=by
 intro w0 F0 H
 refine enter Tryz.func89 U U (Nat.le_of_ble_eq_true U) (Z (Ac (Ab U (Aa (Y (Z (Ac (Ad 2 U (V U U (BN U U U) (Ab U ?_))))))))))
 refine AD (d:=10) U (fun h1=>?_) (fun h1=>?_)
 ·exact Ad 2 U (V U U (BX U U U) (Ad 2 U (Aa (Y (Ai (Am U U (Ag ⟨congrArg Value.bool (decide_eq_decide.2 (by omega)),rfl⟩ H)))))))
 exact Ad 5 U (Aa (Y (Ai (Am U U (Ag ⟨congrArg Value.bool ((decide_eq_false (by omega)).symm),rfl⟩ H)))))
theorem Pa (vxs:Value) (xs:List Bm):
    Cn Tryz.prog 153 [vxs] [] [Af Au vxs xs] (fun v Bs=>v=.bool (decide (0<(xs).length∧C3 xs<0))∧Bs=[]):=by
 intro w0 F0 H
 obtain ⟨A1,c2,rfl,hc3,hm4,hp5⟩:=H.fR 0 rfl
 refine enter Tryz.func153 U U (Nat.le_of_ble_eq_true U) (Z (Ac (Ab U (Aa (Y (Z (Ac (Ab U (V U U (AO U DX U) (V U U (BP U U U) (Ab U ?_)))))))))))
 refine AD (d:=6) U (fun h6=>?_) (fun h6=>?_)
 ·refine Ab U (sc (MB (.slice A1 xs.length c2) xs) H (lR 0 U l0) U U (At Mc U U) ?_)
  rintro _ _ w ⟨rfl,rfl⟩ H
  exact Ad 2 U (Aa (Y (Ai (Am U U (Ag ⟨congrArg Value.bool (decide_eq_decide.2 (by omega)),rfl⟩ H)))))
 exact Ad 4 U (Aa (Y (Ai (Am U U (Ag ⟨congrArg Value.bool ((decide_eq_false (by omega)).symm),rfl⟩ H)))))
theorem O_ (vS vM vC vR vK:Value) (J:AR):
    Cn Tryz.prog 88 [.agg #[vS,.int .i64 J.parts,vM,vC,vR,.int .i64 J.chunk,.int .i64 J.window,.int .i64 J.fuel,vK]] [] [Af (AU Al) vS J.us,Af Au vM J.map,Af Au vC J.comb,Af Au vR J.red,Af (AN .i64) vK J.marks] (fun v Bs=>v=.bool (decide (Cv J))∧Bs=[]):=by
 intro w0 F0 H
 obtain ⟨A1,c2,rfl,hc3,hm4,hp5⟩:=H.fR 0 rfl
 obtain ⟨A6,c7,rfl,hc8,hm9,hp10⟩:=H.fR 1 rfl
 obtain ⟨A11,c12,rfl,hc13,hm14,hp15⟩:=H.fR 2 rfl
 obtain ⟨A16,c17,rfl,hc18,hm19,hp20⟩:=H.fR 3 rfl
 obtain ⟨A21,c22,rfl,hc23,hm24,hp25⟩:=H.fR 4 rfl
 refine enter Tryz.func88 U U (Nat.le_of_ble_eq_true U) (Z (Ac (B4 U U U U H (fun b26 w H=>(Ab U (Aa (Y (Z (Z (Ac (V U U (Ah U C4 U) (V U U (Aj U CM U (H.cellI 0 U U)) (V U U (AO U D4 U) (sc (GC ((J.us.length:Nat):Int) 1 6) H l0 U U (At Gs U U) ?_))))))))))))))
 rintro _ _ w ⟨rfl,rfl⟩ H
 refine V U U (CX U U) (Ab U ?_)
 refine AD (d:=13) U (fun h27=>?_) (fun h27=>?_)
 ·refine Ad 11 U (Aa (Y (BM U (Z (Ac (Ab U (Aa (Y (Ai (Ao (Am U U ?_)))))))))))
  replace H:=H.nil
  have e:¬ Cv J:=by
    rintro ⟨g1,g2,g3,g4,g5,g6,g7,g8,g9,g10,g11⟩
    omega
  exact Ag ⟨congrArg Value.bool (decide_eq_false e).symm,rfl⟩ H
 refine V U U (Ah U G9 U) (V U U (Aj U Aw U (H.cellI 0 U U)) (sc (GC J.parts 1 4) H l0 U U (At Gs U U) ?_))
 rintro _ _ w ⟨rfl,rfl⟩ H
 refine V U U (CX U U) (Ad 2 U ?_)
 refine AD (d:=19) U (fun h28=>?_) (fun h28=>?_)
 ·refine Ad 5 U (Aa (Y (BM U (Z (Ac (Ab U (Aa (Y (Ai (Ao (Am U U ?_)))))))))))
  replace H:=H.nil
  have e:¬ Cv J:=by
    rintro ⟨g1,g2,g3,g4,g5,g6,g7,g8,g9,g10,g11⟩
    omega
  exact Ag ⟨congrArg Value.bool (decide_eq_false e).symm,rfl⟩ H
 refine V U U (Ah U FB U) (V U U (Aj U EY U (H.cellI 0 U U)) (V U U (AO U EO U) (V U U (BP U U U) (Ab U (Aa (Y ?_))))))
 refine Aq U (fun h29=>?_) (fun h29=>?_)
 ·refine Z (Ac (Ab U (Aa (Y (Ai (Ao (Am U U ?_)))))))
  replace H:=H.nil
  have e:¬ Cv J:=by
    rintro ⟨g1,g2,g3,g4,g5,g6,g7,g8,g9,g10,g11⟩
    omega
  exact Ag ⟨congrArg Value.bool (decide_eq_false e).symm,rfl⟩ H
 refine Av (Y (Z (Z (Ac (V U U (Ah U C4 U) (V U U (Aj U CM U (H.cellI 0 U U)) (V U U (AO U D4 U) (Ab U (Aa (Y (AK (Br (σ:=Nat) (fun k=>[(1,.pointer (some ⟨b26,0,none⟩)),(26,.slice A1 J.us.length c2),(27,.int .i64 ((J.us.length:Nat):Int)),(28,.int .i64 ((k:Nat):Int))]) (fun k w=>(Hd w0 F0 w [blk b26 [.slice A1 J.us.length c2,.int .i64 J.parts,.slice A6 J.map.length c7,.slice A11 J.comb.length c12,.slice A16 J.red.length c17,.int .i64 J.chunk,.int .i64 J.window,.int .i64 J.fuel,.slice A21 J.marks.length c22] 26] [Af (AU Al) (.slice A1 J.us.length c2) J.us,Af Au (.slice A6 J.map.length c7) J.map,Af Au (.slice A11 J.comb.length c12) J.comb,Af Au (.slice A16 J.red.length c17) J.red,Af (AN .i64) (.slice A21 J.marks.length c22) J.marks])∧(k≤J.us.length)∧(∀ u∈J.us.take k,FI u.2)) (fun k=>J.us.length - k) 0 ⟨rfl,rfl,rfl,rfl,trivial⟩ ⟨H,by omega,by simp⟩ ?_))))))))))))
 rintro k w ⟨H,hk,hn⟩
 refine Z (Ac (V U U (AQ U U U) (Aa (Y (Z ?_)))))
 refine Aq U (fun h30=>?_) (fun h30=>?_)
 ·refine Av (Y (Z (AK (Z (Ac ?_)))))
  obtain ⟨⟨u33,x31⟩,hx32⟩:∃ z9,J.us[k]?=some z9:=⟨_,List.getElem?_eq_getElem (show k<J.us.length by omega)⟩
  obtain ⟨A34,c35,rfl,hc36,hm37⟩:=H.nestR 0 rfl hx32
  have th38:=H.thRd 0 rfl hx32
  refine V U U (AG (p:=AA A1+k*1) U Ei U U (by omega) (by omega) th38 U) (V U U (Aj U Db U (H.elRd 0 U hx32 U)) (Ab U (Aa (Y (Z (Ac (Ab U (V U U (AO U B_ U) (V U U (BP U U U) (Ab U ?_))))))))))
  refine AD (d:=35) U (fun h39=>?_) (fun h39=>?_)
  ·refine Ad 4 U (Aa (Y (BM U (Z (Ac (Ab U (Aa (Y (Ai (Ax (Ao (Ao (Ax (Ao (Am U U ?_)))))))))))))))
   replace H:=H.nil
   have e:¬ Cv J:=by
     rintro ⟨g1,g2,g3,g4,g5,g6,g7,g8,g9,g10,g11⟩
     have g:=g4 _ (Bl hx32);have ga:x31.length≤8:=g.1;first |exact (h39 g.2).elim|omega
   exact Ag ⟨congrArg Value.bool (decide_eq_false e).symm,rfl⟩ H
  refine Ab U (sc (XE (.slice A34 x31.length c35) x31) H (lX (fun F hA hR=>GP (hR _ (List.mem_of_getElem? (i:=0) U)) hx32) l0) U U (At U5 U U) ?_)
  rintro _ _ w ⟨rfl,rfl⟩ H
  refine V U U (CX U U) (Ab U (Aa (Y ?_)))
  refine Aq U (fun h40=>?_) (fun h40=>?_)
  ·refine Z (Ac (Ab U (Aa (Y (Ai (Ax (Ao (Ao (Ax (Ao (Am U U ?_)))))))))))
   replace H:=H.nil
   have e:¬ Cv J:=by
     rintro ⟨g1,g2,g3,g4,g5,g6,g7,g8,g9,g10,g11⟩
     have g:=g4 _ (Bl hx32);have ga:x31.length≤8:=g.1;first |exact (h40 g.2).elim|omega
   exact Ag ⟨congrArg Value.bool (decide_eq_false e).symm,rfl⟩ H
  refine Av (AS (Y (Ac (V U U (AP (z:=((k+1:Nat):Int)) U U U (by rw [Ay (by omega) (by omega)];omega)) (Ab U (Aa ?_))))))
  have hn2:=Fd (Q:=fun u:Value×List An=>FI u.2) hn hx32 ⟨(show x31.length≤8 by omega),Classical.not_not.1 h40⟩
  exact Bb (s:=k) (k+1) ⟨rfl,rfl,rfl,rfl,trivial⟩ ⟨H,by (try dsimp only);omega,hn2⟩ (by (try dsimp only);omega)
 refine Bj (AE (AE (Bk (Y (Z (Ac (Ab U (Aa (Y (Z (Z (Ac (V U U (Ah U FB U) (V U U (Aj U EY U (H.cellI 0 U U)) (V U U (AO U EO U) (Ab U (Aa (Y (AK ?_)))))))))))))))))))
 have hal:∀ u∈J.us,FI u.2:=by rw [←Gy (xs:=J.us) (k:=k) (by omega)];exact hn
 refine Br (σ:=Nat×Int) (fun (j,last)=>[(1,.pointer (some ⟨b26,0,none⟩)),(5,.int .i64 last),(42,.slice A21 J.marks.length c22),(43,.int .i64 ((J.marks.length:Nat):Int)),(44,.int .i64 ((j:Nat):Int))]) (fun (j,last) w=>(Hd w0 F0 w [blk b26 [.slice A1 J.us.length c2,.int .i64 J.parts,.slice A6 J.map.length c7,.slice A11 J.comb.length c12,.slice A16 J.red.length c17,.int .i64 J.chunk,.int .i64 J.window,.int .i64 J.fuel,.slice A21 J.marks.length c22] 26] [Af (AU Al) (.slice A1 J.us.length c2) J.us,Af Au (.slice A6 J.map.length c7) J.map,Af Au (.slice A11 J.comb.length c12) J.comb,Af Au (.slice A16 J.red.length c17) J.red,Af (AN .i64) (.slice A21 J.marks.length c22) J.marks])∧(j≤J.marks.length∧0≤last∧last≤6)∧(Ey J.us.length last (J.marks.drop j)↔Ey J.us.length 0 J.marks)) (fun (j,last)=>J.marks.length - j) (0,0) ⟨rfl,rfl,rfl,rfl,rfl,trivial⟩ ⟨H,by (try dsimp only);omega,Iff.rfl⟩ ?_
 rintro ⟨j,last⟩ w ⟨H,hj,hm⟩
 refine Z (Ac (V U U (AQ U U U) (Aa (Y (Z ?_)))))
 refine Aq U (fun h41=>?_) (fun h41=>?_)
 ·refine Av (Y (Z (AK (Z (Ac ?_)))))
  obtain ⟨x42,hx43⟩:∃ z9,J.marks[j]?=some z9:=⟨_,List.getElem?_eq_getElem (show j<J.marks.length by omega)⟩
  have th44:=H.thR 4 rfl hx43
  refine V U U (AG (p:=AA A21+j*1) U CZ U U (by omega) (by omega) th44 U) (V U U (Aj U Aw U (H.elR 4 U hx43 (q:=0) U U)) (Ab U (Aa (Y (Z (Z (Ac (Ad 2 U (V U U (AP (z:=last+1) U U U (Ay (by omega) (by omega))) (V U U (Ah U C4 U) (V U U (Aj U CM U (H.cellI 0 U U)) (V U U (AO U D4 U) (sc (GC x42 (last+1) ((J.us.length:Nat):Int)) H l0 U U (At Gs U U) ?_)))))))))))))
  rintro _ _ w ⟨rfl,rfl⟩ H
  refine V U U (CX U U) (Aa (Y ?_))
  refine Aq U (fun h45=>?_) (fun h45=>?_)
  ·refine Z (Ac (Ab U (Aa (Y (Ai (Ao (Ax (Ao (Ao (Ax (Ao (Am U U ?_))))))))))))
   replace H:=H.nil
   have e:¬ Cv J:=by
     rintro ⟨g1,g2,g3,g4,g5,g6,g7,g8,g9,g10,g11⟩
     have g:=hm.2 g5;rw [Dv hx43] at g;have g0:=g.1;omega
   exact Ag ⟨congrArg Value.bool (decide_eq_false e).symm,rfl⟩ H
  refine Av (Y (Ac (Ad 2 U (Aa (AS (Y (Ac (V U U (AP (z:=((j+1:Nat):Int)) U U U (by rw [Ay (by omega) (by omega)];omega)) (Ab U (Aa ?_))))))))))
  have hm2:Ey J.us.length x42 (J.marks.drop (j+1))↔Ey J.us.length 0 J.marks:=by rw [←hm,Dv hx43];exact ⟨fun g=>⟨by omega,g⟩,fun g=>g.2⟩
  exact Bb (s:=(j,last)) (j+1,x42) ⟨rfl,rfl,rfl,rfl,rfl,trivial⟩ ⟨H,by (try dsimp only);omega,hm2⟩ (by (try dsimp only);omega)
 refine Bj (AE (AE (Bk (Y (Z (Ac (V U U (Ah U Gn U) (V U U (Aj U Dk U (H.cellI 0 U U)) (sc (Pa (.slice A6 J.map.length c7) J.map) H (lR 1 U l0) U U (At Ph U U) ?_)))))))))
 rintro _ _ w ⟨rfl,rfl⟩ H
 refine Ab U ?_
 refine AD (d:=61) U (fun h46=>?_) (fun h46=>?_)
 ·refine V U U (Ah U G_ U) (V U U (Aj U Dk U (H.cellI 0 U U)) (sc (Pa (.slice A16 J.red.length c17) J.red) H (lR 3 U l0) U U (At Ph U U) ?_))
  rintro _ _ w ⟨rfl,rfl⟩ H
  refine Ad 2 U ?_
  refine AD (d:=66) U (fun h47=>?_) (fun h47=>?_)
  ·refine V U U (Ah U GI U) (V U U (Aj U Dk U (H.cellI 0 U U)) (sc (MB (.slice A11 J.comb.length c12) J.comb) H (lR 2 U l0) U U (At Mc U U) ?_))
   rintro _ _ w ⟨rfl,rfl⟩ H
   refine Ad 2 U ?_
   refine AD (d:=71) U (fun h48=>?_) (fun h48=>?_)
   ·refine V U U (Ah U JC U) (V U U (Aj U Aw U (H.cellI 0 U U)) (sc (GC J.chunk 1 7) H l0 U U (At Gs U U) ?_))
    rintro _ _ w ⟨rfl,rfl⟩ H
    refine Ad 2 U ?_
    refine AD (d:=76) U (fun h49=>?_) (fun h49=>?_)
    ·refine V U U (Ah U JD U) (V U U (Aj U Aw U (H.cellI 0 U U)) (sc (GC J.window 1 4) H l0 U U (At Gs U U) ?_))
     rintro _ _ w ⟨rfl,rfl⟩ H
     refine Ad 2 U ?_
     refine AD (d:=81) U (fun h50=>?_) (fun h50=>?_)
     ·refine V U U (Ah U HI U) (V U U (Aj U Aw U (H.cellI 0 U U)) (sc (GC J.fuel 1 2000) H l0 U U (At Gs U U) ?_))
      rintro _ _ w ⟨rfl,rfl⟩ H
      refine Ad 2 U (Aa (Y (Ai (Am U U ?_))))
      replace H:=H.nil
      have hmk:Ey J.us.length 0 J.marks:=hm.1 (by rw [List.drop_eq_nil_of_le (by omega)];trivial)
      have e:(1≤J.fuel∧J.fuel≤2000)↔Cv J:=⟨fun g=>⟨by omega,by omega,by omega,hal,hmk,by omega,by omega,by omega,by omega,by omega,by omega⟩,fun g=>by have g6:=g.2.2.2.2.2;omega⟩
      exact Ag ⟨congrArg Value.bool (decide_eq_decide.2 e),rfl⟩ H
     refine Ad 5 U (Aa (Y (Ai (Am U U ?_))))
     replace H:=H.nil
     have e:¬ Cv J:=by
       rintro ⟨g1,g2,g3,g4,g5,g6,g7,g8,g9,g10,g11⟩
       omega
     exact Ag ⟨congrArg Value.bool (decide_eq_false e).symm,rfl⟩ H
    refine Ad 10 U (Aa (Y (Ai (Am U U ?_))))
    replace H:=H.nil
    have e:¬ Cv J:=by
      rintro ⟨g1,g2,g3,g4,g5,g6,g7,g8,g9,g10,g11⟩
      omega
    exact Ag ⟨congrArg Value.bool (decide_eq_false e).symm,rfl⟩ H
   refine Ad 12 U (Ad 3 U (Aa (Y (Ai (Am U U ?_)))))
   replace H:=H.nil
   have e:¬ Cv J:=by
     rintro ⟨g1,g2,g3,g4,g5,g6,g7,g8,g9,g10,g11⟩
     omega
   exact Ag ⟨congrArg Value.bool (decide_eq_false e).symm,rfl⟩ H
  refine Ad 12 U (Ad 8 U (Aa (Y (Ai (Am U U ?_)))))
  replace H:=H.nil
  have e:¬ Cv J:=by
    rintro ⟨g1,g2,g3,g4,g5,g6,g7,g8,g9,g10,g11⟩
    omega
  exact Ag ⟨congrArg Value.bool (decide_eq_false e).symm,rfl⟩ H
 refine Ad 12 U (Ad 12 U (Ab U (Aa (Y (Ai (Am U U ?_))))))
 replace H:=H.nil
 have e:¬ Cv J:=by
   rintro ⟨g1,g2,g3,g4,g5,g6,g7,g8,g9,g10,g11⟩
   omega
 exact Ag ⟨congrArg Value.bool (decide_eq_false e).symm,rfl⟩ H
theorem Uv (vS vM vC vR vK:Value) (J:AR):
    Cn Tryz.prog 18 [.agg #[vS,.int .i64 J.parts,vM,vC,vR,.int .i64 J.chunk,.int .i64 J.window,.int .i64 J.fuel,vK]] [] [Af (AU Al) vS J.us,Af Au vM J.map,Af Au vC J.comb,Af Au vR J.red,Af (AN .i64) vK J.marks] (fun v Bs=>v=.bool (GJ J)∧Bs=[]):=by
 intro w0 F0 H
 obtain ⟨A1,c2,rfl,hc3,hm4,hp5⟩:=H.fR 0 rfl
 obtain ⟨A6,c7,rfl,hc8,hm9,hp10⟩:=H.fR 1 rfl
 obtain ⟨A11,c12,rfl,hc13,hm14,hp15⟩:=H.fR 2 rfl
 obtain ⟨A16,c17,rfl,hc18,hm19,hp20⟩:=H.fR 3 rfl
 obtain ⟨A21,c22,rfl,hc23,hm24,hp25⟩:=H.fR 4 rfl
 refine enter Tryz.func18 U U (Nat.le_of_ble_eq_true U) (Z (Ac (B4 U U U U H (fun b26 w H=>(Ab U (Aa (Y (Z (Z (Ac (Ab U (Aa (Y (AK (Br (σ:=Nat) (fun k=>[(1,.pointer (some ⟨b26,0,none⟩)),(3,.int .i64 ((k:Nat):Int))]) (fun k w=>(Hd w0 F0 w [blk b26 [.slice A1 J.us.length c2,.int .i64 J.parts,.slice A6 J.map.length c7,.slice A11 J.comb.length c12,.slice A16 J.red.length c17,.int .i64 J.chunk,.int .i64 J.window,.int .i64 J.fuel,.slice A21 J.marks.length c22] 26] [Af (AU Al) (.slice A1 J.us.length c2) J.us,Af Au (.slice A6 J.map.length c7) J.map,Af Au (.slice A11 J.comb.length c12) J.comb,Af Au (.slice A16 J.red.length c17) J.red,Af (AN .i64) (.slice A21 J.marks.length c22) J.marks])∧(k≤J.us.length)∧(∀ u∈J.us.take k,E3 u.2 10=false)) (fun k=>J.us.length - k) 0 ⟨rfl,rfl,trivial⟩ ⟨H,by omega,by simp⟩ ?_)))))))))))))))
 rintro k w ⟨H,hk,hn⟩
 refine Z (Z (Ac (Ab U (V U U (Ah U C4 U) (V U U (Aj U CM U (H.cellI 0 U U)) (V U U (AO U D4 U) (V U U (AQ U U U) (Ab U ?_))))))))
 refine AD (d:=9) U (fun h27=>?_) (fun h27=>?_)
 ·refine V U U (Ah U C4 U) (V U U (Aj U CM U (H.cellI 0 U U)) (V U U (AO U D4 U) (V U U (BX U U U) (Ab U (Aa (Y ?_))))))
  refine Aq U (fun h28=>?_) (fun h28=>?_)
  ·refine Av (Y (Z (AK (Z (Ac (V U U (Ah U C4 U) (V U U (Aj U CM U (H.cellI 0 U U)) (Ab U ?_))))))))
   obtain ⟨⟨u31,x29⟩,hx30⟩:∃ z9,J.us[k]?=some z9:=⟨_,List.getElem?_eq_getElem (show k<J.us.length by omega)⟩
   obtain ⟨A32,c33,rfl,hc34,hm35⟩:=H.nestR 0 rfl hx30
   have th36:=H.thRd 0 rfl hx30
   refine V U U (AG (p:=AA A1+k*1) U Ei U U (by omega) (by omega) th36 U) (V U U (Aj U Db U (H.elRd 0 U hx30 U)) (sc (Uw (.slice A32 x29.length c33) x29 10) H (lX (fun F hA hR=>GP (hR _ (List.mem_of_getElem? (i:=0) U)) hx30) l0) U U (At Vy U U) ?_))
   rintro _ _ w ⟨rfl,rfl⟩ H
   refine Aa (Y ?_)
   refine DJ (b:=E3 x29 10) U (fun h37=>?_) (fun h37=>?_)
   ·refine Z (Ac (Ab U (Aa (Y (Ai (Ax (Ao (Ao (Ax (Ao (Am U U ?_)))))))))))
    replace H:=H.nil
    exact Ag ⟨congrArg Value.bool (Uu hx30 h37),rfl⟩ H
   refine Av (AS (Y (Ac (Ab U (V U U (AP (z:=((k+1:Nat):Int)) U U U (by rw [Ay (by omega) (by omega)];omega)) (Ab U (Aa ?_)))))))
   have hn2:=Fd (Q:=fun u:Value×List An=>E3 u.2 10=false) hn hx30 (show E3 x29 10=false by simpa using h37)
   exact Bb (s:=k) (k+1) ⟨rfl,rfl,trivial⟩ ⟨H,by (try dsimp only);omega,hn2⟩ (by (try dsimp only);omega)
  refine Bj (AE (AE (Bk (Y (Z (Ac (V U U (Ah U C4 U) (V U U (Aj U CM U (H.cellI 0 U U)) (V U U (AO U D4 U) (V U U (BP U U U) (Ab U ?_)))))))))))
  refine AD (d:=27) U (fun h38=>?_) (fun h38=>?_)
  ·refine Ad 12 U (Ad 9 U (Aa (Y (Ai (Am U U ?_)))))
   replace H:=H.nil
   exact Ag ⟨congrArg Value.bool (GK (by first |exact .inl (by omega)|exact .inr (.inl (by omega))|exact .inr (.inr (.inl h38))|exact .inr (.inr (.inr h38)))),rfl⟩ H
  refine V U U (Ah U FB U) (V U U (Aj U EY U (H.cellI 0 U U)) (V U U (AO U EO U) (V U U (BP U U U) (Ad 2 U ?_))))
  refine AD (d:=33) U (fun h39=>?_) (fun h39=>?_)
  ·refine Ad 12 U (Ad 3 U (Aa (Y (Ai (Am U U ?_)))))
   replace H:=H.nil
   exact Ag ⟨congrArg Value.bool (GK (by first |exact .inl (by omega)|exact .inr (.inl (by omega))|exact .inr (.inr (.inl h39))|exact .inr (.inr (.inr h39)))),rfl⟩ H
  refine V U U (Ah U Gn U) (V U U (Aj U Dk U (H.cellI 0 U U)) (sc (HM (.slice A6 J.map.length c7) J.map) H (lR 1 U l0) U U (At HQ U U) ?_))
  rintro _ _ w ⟨rfl,rfl⟩ H
  refine Ad 2 U ?_
  refine EC (d:=38) (b:=EI J.map) U (fun h40=>?_) (fun h40=>?_)
  ·refine Ad 10 U (Aa (Y (Ai (Am U U ?_))))
   replace H:=H.nil
   exact Ag ⟨congrArg Value.bool (GK (by first |exact .inl (by omega)|exact .inr (.inl (by omega))|exact .inr (.inr (.inl h40))|exact .inr (.inr (.inr h40)))),rfl⟩ H
  refine V U U (Ah U GI U) (V U U (Aj U Dk U (H.cellI 0 U U)) (sc (HM (.slice A11 J.comb.length c12) J.comb) H (lR 2 U l0) U U (At HQ U U) ?_))
  rintro _ _ w ⟨rfl,rfl⟩ H
  refine Ad 2 U ?_
  refine EC (d:=43) (b:=EI J.comb) U (fun h41=>?_) (fun h41=>?_)
  ·refine Ad 5 U (Aa (Y (Ai (Am U U ?_))))
   replace H:=H.nil
   exact Ag ⟨congrArg Value.bool (GK (by first |exact .inl (by omega)|exact .inr (.inl (by omega))|exact .inr (.inr (.inl h41))|exact .inr (.inr (.inr h41)))),rfl⟩ H
  refine V U U (Ah U G_ U) (V U U (Aj U Dk U (H.cellI 0 U U)) (sc (HM (.slice A16 J.red.length c17) J.red) H (lR 3 U l0) U U (At HQ U U) ?_))
  rintro _ _ w ⟨rfl,rfl⟩ H
  refine Ad 2 U (Aa (Y (Ai (Am U U ?_))))
  replace H:=H.nil
  exact Ag ⟨congrArg Value.bool (OU hn (by omega) (by omega) (by omega) (by simpa using h40) (by simpa using h41)),rfl⟩ H
 refine Ad 5 U (Aa (Y (B0 U (Bj (AE (AE (Bk (Y (Z (Ac (V U U (Ah U C4 U) (V U U (Aj U CM U (H.cellI 0 U U)) (V U U (AO U D4 U) (V U U (BP U U U) (Ab U ?_)))))))))))))))
 refine AD (d:=27) U (fun h42=>?_) (fun h42=>?_)
 ·refine Ad 12 U (Ad 9 U (Aa (Y (Ai (Am U U ?_)))))
  replace H:=H.nil
  exact Ag ⟨congrArg Value.bool (GK (by first |exact .inl (by omega)|exact .inr (.inl (by omega))|exact .inr (.inr (.inl h42))|exact .inr (.inr (.inr h42)))),rfl⟩ H
 refine V U U (Ah U FB U) (V U U (Aj U EY U (H.cellI 0 U U)) (V U U (AO U EO U) (V U U (BP U U U) (Ad 2 U ?_))))
 refine AD (d:=33) U (fun h43=>?_) (fun h43=>?_)
 ·refine Ad 12 U (Ad 3 U (Aa (Y (Ai (Am U U ?_)))))
  replace H:=H.nil
  exact Ag ⟨congrArg Value.bool (GK (by first |exact .inl (by omega)|exact .inr (.inl (by omega))|exact .inr (.inr (.inl h43))|exact .inr (.inr (.inr h43)))),rfl⟩ H
 refine V U U (Ah U Gn U) (V U U (Aj U Dk U (H.cellI 0 U U)) (sc (HM (.slice A6 J.map.length c7) J.map) H (lR 1 U l0) U U (At HQ U U) ?_))
 rintro _ _ w ⟨rfl,rfl⟩ H
 refine Ad 2 U ?_
 refine EC (d:=38) (b:=EI J.map) U (fun h44=>?_) (fun h44=>?_)
 ·refine Ad 10 U (Aa (Y (Ai (Am U U ?_))))
  replace H:=H.nil
  exact Ag ⟨congrArg Value.bool (GK (by first |exact .inl (by omega)|exact .inr (.inl (by omega))|exact .inr (.inr (.inl h44))|exact .inr (.inr (.inr h44)))),rfl⟩ H
 refine V U U (Ah U GI U) (V U U (Aj U Dk U (H.cellI 0 U U)) (sc (HM (.slice A11 J.comb.length c12) J.comb) H (lR 2 U l0) U U (At HQ U U) ?_))
 rintro _ _ w ⟨rfl,rfl⟩ H
 refine Ad 2 U ?_
 refine EC (d:=43) (b:=EI J.comb) U (fun h45=>?_) (fun h45=>?_)
 ·refine Ad 5 U (Aa (Y (Ai (Am U U ?_))))
  replace H:=H.nil
  exact Ag ⟨congrArg Value.bool (GK (by first |exact .inl (by omega)|exact .inr (.inl (by omega))|exact .inr (.inr (.inl h45))|exact .inr (.inr (.inr h45)))),rfl⟩ H
 refine V U U (Ah U G_ U) (V U U (Aj U Dk U (H.cellI 0 U U)) (sc (HM (.slice A16 J.red.length c17) J.red) H (lR 3 U l0) U U (At HQ U U) ?_))
 rintro _ _ w ⟨rfl,rfl⟩ H
 refine Ad 2 U (Aa (Y (Ai (Am U U ?_))))
 replace H:=H.nil
 exact Ag ⟨congrArg Value.bool (OU hn (by omega) (by omega) (by omega) (by simpa using h44) (by simpa using h45)),rfl⟩ H
theorem XU (key:ByteArray) (hb0:key.size≤9223372036854775807):
    Cn Tryz.prog 215 [.string key] [] [] (fun v Bs=>v=.int .u32 (CU key key.size)∧Bs=[]):=by
 intro w0 F0 H
 refine enter Tryz.func215 U U (Nat.le_of_ble_eq_true U) (Z (Ac (Ab U (Aa (Y (Z (Ac (Ab U (Aa (Y (Z (Z (Ac (Ab U (V U U (Cl U BJ U) (Ab U (Aa (Y (AK (Br (σ:=Nat) (fun k=>[(0,.string key),(2,.int .u32 0),(3,.int .u32 (CU key k)),(6,.int .i64 ((key.size:Nat):Int)),(7,.int .i64 ((k:Nat):Int))]) (fun k w=>(Hd w0 F0 w [] [])∧(k≤key.size)) (fun k=>key.size - k) 0 ⟨rfl,rfl,rfl,rfl,rfl,trivial⟩ ⟨H,by (try dsimp only);omega⟩ ?_))))))))))))))))))))
 rintro k w ⟨H,hk⟩
 refine Z (Ac (V U U (AQ U U U) (Aa (Y (Z ?_)))))
 refine Aq U (fun h1=>?_) (fun h1=>?_)
 ·refine Av (Y (Z (AK (Z (Ac (Ad 2 U (Aa (Y (Ac (Ab U (V U U (Fs (z:=IntKind.u32.wrap (31*CU key k)) U U U U) (Ad 2 U ?_))))))))))))
  obtain ⟨b,hb⟩:∃ b,key[k]?=some b:=⟨_,getElem?_pos key k (by omega)⟩
  exact V U U (E8 U BJ U U (by omega) hb) (V U U (CW (z:=((b).toNat:Int)) U U Ge KG (Sn b)) (V U U (AP (z:=IntKind.u32.wrap (IntKind.u32.wrap (31*CU key k)+(b.toNat:Int))) U U U U) (Ab U (Aa (AS (Y (Ac (V U U (AP (z:=((k+1:Nat):Int)) U U U (by rw [Ay (by omega) (by omega)];omega)) (Ab U (Aa (Bb (s:=k) (k+1) ⟨rfl,rfl,congrArg (fun z=>some (Value.int .u32 z)) (Qh hb).symm,rfl,rfl,trivial⟩ ⟨H,by (try dsimp only);omega⟩ (by (try dsimp only);omega))))))))))))
 refine Bj (AE (AE (Bk (Y (Z (Ac (Ad 2 U (Aa (Y (Ai (Am U U ?_)))))))))))
 obtain rfl:k=key.size:=by omega
 exact Ag ⟨rfl,rfl⟩ H
theorem XV (key:ByteArray) (n:Int) (hb0:key.size≤9223372036854775807) (hn:n≤9223372036854775807):
    Cn Tryz.prog 178 [.string key,.int .i64 n] [] [] (fun v Bs=>v=.int .i64 (H0 key n)∧Bs=[]):=by
 intro w0 F0 H
 refine enter Tryz.func178 U U (Nat.le_of_ble_eq_true U) (Z (Ac (Ab U (Aa (Y (Z (Z (Ac (Ab U (V U U (AQ U U U) (Aa (Y ?_))))))))))))
 refine Aq U (fun h1=>?_) (fun h1=>?_)
 ·exact Z (Ac (Ab U (Aa (Y (Ai (Ao (Am U U (Ag ⟨congrArg (Value.int .i64) (if_pos h1).symm,rfl⟩ H))))))))
 refine Av (Y (Z (Ac (Ab U (sc (XU key (by first |omega|decide)) H l0 U U (At Vw U U) ?_)))))
 rintro _ _ w ⟨rfl,rfl⟩ H
 exact V U U (CW (z:=CU key key.size) U U KG Fv (D5 (HV key key.size).1 (by have:=(HV key key.size).2;omega))) (Ab U (V U U (CW (z:=n) U U Dl Fv (D5 (by omega) (by omega))) (V U U (IQ (z:=(CU key key.size)%n) U U U (by omega) (Int.tmod_eq_emod_of_nonneg (HV key key.size).1)) (V U U (CW (z:=(CU key key.size)%n) U U Fv Dl (Ay (by have:=Int.emod_nonneg (CU key key.size) (show n≠0 by omega);omega) (by have:=Int.emod_lt_of_pos (CU key key.size) (show 0<n by omega);omega))) (Ab U (Aa (Y (Ai (Am U U (Ag ⟨congrArg (Value.int .i64) (if_neg h1).symm,rfl⟩ H))))))))))
theorem Xn (vxs:Value) (xs:List An) (n:Int) (p:Int) (hb:xs.length≤1000000) (hn:n≤9223372036854775807) (hk:∀ x∈xs,x.key.size≤9223372036854775807):
    Cn Tryz.prog 126 [vxs,.int .i64 n,.int .i64 p] [] [Af Al vxs xs] (fun v Bs=>Bs=[Ae Al v (EA xs n p)]):=by
 intro w0 F0 H
 obtain ⟨A1,c2,rfl,hc3,hm4,hp5⟩:=H.fR 0 rfl
 refine enter Tryz.func126 U U (Nat.le_of_ble_eq_true U) (Z (Ac (Ab U (Aa (Y (Z (Ac (Ab U (Aa (Y (Z (Z (Ac (Ab U (V U U (AO U B_ U) (Ab U (Aa (Y (AK ?_)))))))))))))))))))
 replace H:=H.newnil Al
 refine Br (σ:=Nat×Value) (fun (k,l)=>[(1,.int .i64 n),(2,.int .i64 p),(6,.slice none 0 0),(7,l),(10,.slice A1 xs.length c2),(11,.int .i64 ((xs.length:Nat):Int)),(12,.int .i64 ((k:Nat):Int))]) (fun (k,l) w=>(Hd w0 F0 w [Ae Al l (EA (xs.take k) n p)] [Af Al (.slice A1 xs.length c2) xs])∧(k≤xs.length)) (fun (k,l)=>xs.length - k) (0,.slice none 0 0) ⟨rfl,rfl,rfl,rfl,rfl,rfl,rfl,trivial⟩ ⟨H,by (try dsimp only);omega⟩ ?_
 rintro ⟨k,l⟩ w ⟨H,hk0⟩
 have hjl:=My (xs.take k) n p
 have hjt:(xs.take k).length≤xs.length:=by simp;omega
 refine Z (Ac (V U U (AQ U U U) (Aa (Y (Z ?_)))))
 refine Aq U (fun h6=>?_) (fun h6=>?_)
 ·refine Av (Y (Z (AK (Z (Ac ?_)))))
  obtain ⟨x7,hx8⟩:∃ z9,xs[k]?=some z9:=⟨_,List.getElem?_eq_getElem (show k<xs.length by omega)⟩
  have th9:=H.thR 0 rfl hx8
  refine V U U (AG (p:=AA A1+k*2) U Bq U U (by omega) (by omega) th9 U) (V U U (Bp (cs:=[.string x7.key,.string x7.val]) U B8 U U (H.elsR 0 U hx8 U)) (Do U U U CJ H (fun b10 w H=>(By U U U B8 U U H U (Nat.le_of_ble_eq_true U) (fun u hu=>by simp [Value.cells] at hu;rcases hu with rfl|rfl<;>rfl) (fun w H=>(Aa (Y (Z ?_))))))))
  have hkx:=hk _ (Bl hx8)
  refine Ac (V U U (Ah U DO U) (V U U (Aj U Bd U (H.cellI 0 U U)) (Ab U (sc (XV x7.key n (by first |omega|decide) (by first |omega|decide)) H l0 U U (At Vi U U) ?_))))
  rintro _ _ w ⟨rfl,rfl⟩ H
  refine Ab U (V U U (AT U U U) (Aa (Y ?_)))
  refine Aq U (fun h11=>?_) (fun h11=>?_)
  ·refine Ac (Ab U (V U U (Bp (cs:=[.string x7.key,.string x7.val]) U B8 U U (H.cellsI 0 U U)) (Bv (parts:=[(0,.tmp 23)]) (vs:=[.agg #[.string x7.key,.string x7.val]]) (cs:=[.string x7.key,.string x7.val]) U U U Bq CJ U (by decide) (by decide) U U H (fun b12 w H=>?_))))
   replace H:=H.p2
   refine BY (xs:=EA (xs.take k) n p) (ys:=[x7]) U U U Bq CJ U (by decide) U U H (by omega) (fun F hA hR=>BZ (hA _ (List.mem_of_getElem? (i:=0) U)) U (by decide) (AX.flat_eq.2 U)) (fun v13 w H=>(Ab U (Aa (AS (Y (Ac (V U U (AP (z:=((k+1:Nat):Int)) U U U (by rw [Ay (by omega) (by omega)];omega)) (Ab U (Aa ?_)))))))))
   rw [←Qs hx8 h11] at H
   replace H:=H.k1
   exact Bb (s:=(k,undef)) (k+1,v13) ⟨rfl,rfl,rfl,rfl,rfl,rfl,rfl,trivial⟩ ⟨H,by (try dsimp only);omega⟩ (by (try dsimp only);omega)
  refine Av (AS (Y (Ac (V U U (AP (z:=((k+1:Nat):Int)) U U U (by rw [Ay (by omega) (by omega)];omega)) (Ab U (Aa ?_))))))
  rw [←Qr hx8 h11] at H
  replace H:=H.sel 2 [1] [0] rfl (by kernel_rfl)
  exact Bb (s:=(k,undef)) (k+1,l) ⟨rfl,rfl,rfl,rfl,rfl,rfl,rfl,trivial⟩ ⟨H,by (try dsimp only);omega⟩ (by (try dsimp only);omega)
 refine Bj (AE (AE (Bk (Y (Z (Ac (Ad 2 U (Aa (Y (Ai (Am U U ?_)))))))))))
 rw [List.take_of_length_le (show xs.length≤k by omega)] at H
 exact Ag U H
theorem Cn.heads0 {α:Type} {d:Kd α} {P:Program} {f:FuncId} {args:List Value} {v:Value} {ss:List (List α)} {Rs:List SP} {T:Value→List SP→Prop}
  (h:∀ us:List (Value×List α),us.map (·.2)=ss→Cn P f args [] (Af (AU d) v us::Af (BK d) v ss::Rs) T):Cn P f args [] (Af (BK d) v ss::Rs) T:=by
 intro w F H
 obtain ⟨us,hus,H2⟩:=H.heads 0 rfl
 refine (h us hus w F H2).mono ?_
 rintro e W' ⟨v,rfl,Bs,t,H⟩
 exact ⟨v,rfl,Bs,t,H.dropR⟩
theorem Xu {P:Program} {t s i c m:TypeId} {W1:List (List An)→Prop} {W2:List Bm→Prop} {W3:List Int→Prop}
  (hs:Ft P t=some [(s,0,1),(i,1,1),(c,2,1),(c,3,1),(c,4,1),(i,5,1),(i,6,1),(i,7,1),(m,8,1)]) (hc:P.cellsOf t=9) (hi:P.underlying i=some (.int .i64))
  (h1:Gi P s (BK (BK Al)) W1) (h2:Gi P c (BK Au) W2) (h3:Gi P m (BK (AN .i64)) W3)
  {H:Type} (enc:TypeId×Value→H) (w:World) (fuel:Nat) (cs:List Value) (x:DataW H×List MemPlace) (h:DataW.trod enc P w 0 (fun _=>true) true fuel t cs=some x):
  ∃ (vS:Value) (ss:List (List An)) (n1:Int) (vM:Value) (map:List Bm) (vC:Value) (comb:List Bm) (vR:Value) (red:List Bm) (n5 n6 n7:Int) (vK:Value) (marks:List Int),
   cs=[vS,.int .i64 n1,vM,vC,vR,.int .i64 n5,.int .i64 n6,.int .i64 n7,vK]∧((Af (BK Al) vS ss).P w (E0 w)∧(Af Au vM map).P w (E0 w)∧(Af Au vC comb).P w (E0 w)∧(Af Au vR red).P w (E0 w)∧(Af (AN .i64) vK marks).P w (E0 w))∧
   (W1 ss∧W2 map∧W2 comb∧W2 red∧W3 marks)∧(AF n1∧AF n5∧AF n6∧AF n7):=by
 obtain ⟨hl,n,hf⟩:=IF hs h
 rw [hc] at hl
 match cs,hl with
 |[c0,c1,c2,c3,c4,c5,c6,c7,c8],_=>
  obtain ⟨y0,g0⟩:=hf 0 _ _ _ rfl
  obtain ⟨y1,g1⟩:=hf 1 _ _ _ rfl
  obtain ⟨y2,g2⟩:=hf 2 _ _ _ rfl
  obtain ⟨y3,g3⟩:=hf 3 _ _ _ rfl
  obtain ⟨y4,g4⟩:=hf 4 _ _ _ rfl
  obtain ⟨y5,g5⟩:=hf 5 _ _ _ rfl
  obtain ⟨y6,g6⟩:=hf 6 _ _ _ rfl
  obtain ⟨y7,g7⟩:=hf 7 _ _ _ rfl
  obtain ⟨y8,g8⟩:=hf 8 _ _ _ rfl
  obtain ⟨a0,r0,w0⟩:=h1 enc w n _ _ g0
  obtain ⟨a1,r1,w1⟩:=EK hi enc w n _ _ g1
  obtain ⟨a2,r2,w2⟩:=h2 enc w n _ _ g2
  obtain ⟨a3,r3,w3⟩:=h2 enc w n _ _ g3
  obtain ⟨a4,r4,w4⟩:=h2 enc w n _ _ g4
  obtain ⟨a5,r5,w5⟩:=EK hi enc w n _ _ g5
  obtain ⟨a6,r6,w6⟩:=EK hi enc w n _ _ g6
  obtain ⟨a7,r7,w7⟩:=EK hi enc w n _ _ g7
  obtain ⟨a8,r8,w8⟩:=h3 enc w n _ _ g8
  have q1:[c1]=[Value.int .i64 a1]:=r1
  have q5:[c5]=[Value.int .i64 a5]:=r5
  have q6:[c6]=[Value.int .i64 a6]:=r6
  have q7:[c7]=[Value.int .i64 a7]:=r7
  simp only [List.cons.injEq,and_true] at q1 q5 q6 q7
  subst q1 q5 q6 q7
  exact ⟨c0,a0,a1,c2,a2,c3,a3,c4,a4,a5,a6,a7,c8,a8,rfl,⟨r0,r2,r3,r4,r8⟩,⟨w0,w2,w3,w4,w8⟩,w1,w5,w6,w7⟩
structure BL (A B:AR):Prop where
 us:A.us.map (·.2)=B.us.map (·.2)
 rest:A={ B with us:=A.us }
theorem BL.refl (A:AR):BL A A:=⟨rfl,rfl⟩
theorem BL.symm {A B:AR} (h:BL A B):BL B A:=by
 obtain ⟨h1,h2⟩:=h
 refine ⟨h1.symm,?_⟩
 rw [h2]
theorem BL.trans {A B C:AR} (h:BL A B) (k:BL B C):BL A C:=by
 obtain ⟨h1,h2⟩:=h
 obtain ⟨k1,k2⟩:=k
 refine ⟨h1.trans k1,?_⟩
 rw [h2,k2]
section
variable {A B:AR} (h:BL A B)
include h
theorem BL.parts:A.parts=B.parts:=by rw [h.rest]
theorem BL.map:A.map=B.map:=by rw [h.rest]
theorem BL.comb:A.comb=B.comb:=by rw [h.rest]
theorem BL.red:A.red=B.red:=by rw [h.rest]
theorem BL.chunk:A.chunk=B.chunk:=by rw [h.rest]
theorem BL.window:A.window=B.window:=by rw [h.rest]
theorem BL.fuel:A.fuel=B.fuel:=by rw [h.rest]
theorem BL.marks:A.marks=B.marks:=by rw [h.rest]
theorem BL.len:A.us.length=B.us.length:=by have:=congrArg List.length h.us;simpa using this
theorem BL.recs (s:Nat):recs A s=recs B s:=by
 have e:∀ J:AR,X.recs J s=((J.us.map (·.2))[s]?).getD []:=by
  intro J
  unfold X.recs
  rw [List.getElem?_map]
  cases J.us[s]?<;>rfl
 rw [e,e,h.us]
theorem BL.split (D:Bc) (s:Nat):AB D A s=AB D B s:=by
 unfold AB mapM
 rw [h.recs,h.map,h.comb,h.fuel]
theorem BL.only (D:Bc) (s:Nat) (p:Int):BE D A s p=BE D B s p:=by
 unfold BE
 rw [h.split,h.parts]
theorem BL.all (D:Bc) (p:Int):∀ k,Ip D A p k=Ip D B p k
 |0=>rfl
 |k+1=>by unfold Ip;rw [BL.all D p k,h.only]
theorem BL.part (D:Bc) (p:Int):ME D A p=ME D B p:=by
 unfold ME
 rw [h.all,h.red,h.fuel,h.len]
theorem BL.run (D:Bc) (s:Nat) (p:Int):GS D A s p=GS D B s p:=by
 unfold GS
 rw [h.split,h.only]
theorem BL.may (m:Cv A):Cv B:=by
 obtain ⟨m1,m2,m3,m4,m5,m6,m7,m8,m9,m10,m11⟩:=m
 have hs:∀ u∈B.us,FI u.2:=by
  intro u hu
  have:u.2∈B.us.map (·.2):=List.mem_map_of_mem hu
  rw [←h.us] at this
  obtain ⟨v,hv,e⟩:=List.mem_map.1 this
  rw [←e];exact m4 v hv
 rw [h.len,h.marks] at m5
 rw [h.parts] at m2;rw [h.marks] at m3;rw [h.map] at m6;rw [h.red] at m7;rw [h.comb] at m8;rw [h.chunk] at m9;rw [h.window] at m10;rw [h.fuel] at m11
 exact ⟨by rw [←h.len];exact m1,m2,m3,hs,m5,m6,m7,m8,m9,m10,m11⟩
theorem BL.ok (k:B3 A):B3 B:=⟨h.may k.may,by have:=k.map;rwa [h.map] at this,by have:=k.comb;rwa [h.comb] at this,by have:=k.red;rwa [h.red] at this⟩
end
theorem B3.chunk1 {J:AR} (h:B3 J):1≤J.chunk∧J.chunk≤7:=h.may.2.2.2.2.2.2.2.2.1
theorem B3.window1 {J:AR} (h:B3 J):1≤J.window∧J.window≤4:=h.may.2.2.2.2.2.2.2.2.2.1
structure Cf where
 J:AR
 w:Int
 t:Int
 o:Int
def Dm (C:Cf):Prop:=Cv C.J∧(1≤C.w∧C.w≤4)∧(1≤C.t∧C.t≤3)∧1≤C.o∧C.o≤50
instance mayCD (C:Cf):Decidable (Dm C):=by unfold Dm;infer_instance
structure Fx (A B:Cf):Prop where
 J:BL A.J B.J
 w:A.w=B.w
 t:A.t=B.t
 o:A.o=B.o
theorem Fx.refl (A:Cf):Fx A A:=⟨BL.refl _,rfl,rfl,rfl⟩
theorem Fx.symm {A B:Cf} (h:Fx A B):Fx B A:=⟨h.J.symm,h.w.symm,h.t.symm,h.o.symm⟩
theorem Fx.trans {A B C:Cf} (h:Fx A B) (k:Fx B C):Fx A C:=⟨h.J.trans k.J,h.w.trans k.w,h.t.trans k.t,h.o.trans k.o⟩
structure Hu (C:Cf):Prop where
 may:Dm C
 ok:B3 C.J
theorem Fx.may {A B:Cf} (h:Fx A B) (m:Dm A):Dm B:=⟨h.J.may m.1,by rw [←h.w];exact m.2.1,by rw [←h.t];exact m.2.2.1,by rw [←h.o];exact m.2.2.2⟩
theorem Hu.w {C:Cf} (h:Hu C):1≤C.w∧C.w≤4:=h.may.2.1
theorem Hu.t {C:Cf} (h:Hu C):1≤C.t∧C.t≤3:=h.may.2.2.1
theorem Hu.o {C:Cf} (h:Hu C):1≤C.o∧C.o≤50:=h.may.2.2.2
/-! ### Records and messages in plain words -/
structure D0 where
 kind:Int
 part:Int
 sp:Int
 att:Int
 why:Int
 set:List Int
 pairs:List An
def FU.p (r:FU):D0:=⟨r.kind,r.part,r.sp,r.att,r.why,r.set,r.pairs⟩
structure DF where
 kind:Int
 sp:Int
 att:Int
 part:Int
 seq:Int
 next:Int
 ep:Int
 why:Int
 set:List Int
 pairs:List An
def WZ:DF:=⟨0,0,0,0,0,0,0,0,[],[]⟩
/-! ### Chunks that wait -/
abbrev D6:=List ((Int×Int)×List (List An))
def DE:D6→Int→Int→List (List An)
 |[],_,_=>[]
 |e::s,a,b=>if e.1.1=a∧e.1.2=b then e.2 else DE s a b
def I0:D6→Int→Int→List An→D6
 |[],a,b,x=>[((a,b),[x])]
 |e::s,a,b,x=>if e.1.1=a∧e.1.2=b then (e.1,e.2++[x])::s else e::I0 s a b x
def Kv (s:D6) (a b:Int):Int:=((DE s a b).length:Int)
def M0 (s:D6) (a b q:Int):Prop:=q=Kv s a b∧(0≤a∧a<6)∧(1≤b∧b≤3)∧q<40
instance (s:D6) (a b q:Int):Decidable (M0 s a b q):=by unfold M0;infer_instance
def Kw (s:D6) (a b q:Int) (x:List An):D6:=if M0 s a b q then I0 s a b x else s
def Zu (s:D6) (a b n:Int):Option (List An):=if n<0∨Kv s a b≠n then none else some (DE s a b).flatten
def I1 (s:D6) (a:Int):D6:=s.filter fun e=>decide (e.1.1≠a)
/-! ### A reducer -/
structure GE where
 merged:Bool
 pairs:List An
 told:Bool
 att:Int
 cnt:Int
def ZE:GE:=⟨false,[],false,0,0⟩
def GU {α:Type} (g:Nat→α) (k:Nat) (v:α):Nat→α:=fun j=>if j=k then v else g j
theorem MX {α:Type} (g:Nat→α) (k:Nat) (v:α):GU g k v k=v:=if_pos rfl
theorem MW {α:Type} (g:Nat→α) {k j:Nat} (v:α) (h:j≠k):GU g k v j=g j:=if_neg h
structure B7 where
 part:Int
 ep:Int
 g:Nat→GE
 st:D6
 sets:List (List Int)
def IT (part ep:Int):B7:=⟨part,ep,fun _=>ZE,[],[]⟩
def Ea (n:Nat) (R:B7) (x:D0):B7:=
 if x.part≠R.part then R else
 let R1:B7:=if x.kind=4∧(0≤x.sp∧x.sp<n)∧(R.g x.sp.toNat).merged=false then { R with g:=GU R.g x.sp.toNat { R.g x.sp.toNat with merged:=true,pairs:=x.pairs } } else R
 if x.kind=5 then { R1 with sets:=R1.sets++[x.set] } else R1
def E5 (n:Nat) (part ep:Int) (rs:List D0):B7:=rs.foldl (Ea n) (IT part ep)
def HR (n:Nat) (R:B7):List Int:=((List.range n).filter fun i=>(R.g i).merged).map fun (i:Nat)=>(i:Int)
def Y5 (n:Nat) (R:B7) (set:List Int):List An:=((List.range n).filter fun i=>(R.g i).merged && decide ((i:Int)∈set)).flatMap fun i=>(R.g i).pairs
def Ms (D:Bc) (J:AR) (R:B7) (set:List Int):List An×Int:=DC D J.red (srt (Y5 J.us.length R set)) J.fuel false
def MA (D:Bc) (J:AR) (R:B7):List An×Int×Bool:=
 if (HR J.us.length R).length<J.us.length then ([],0,false) else ((Ms D J R (HR J.us.length R)).1,(Ms D J R (HR J.us.length R)).2,true)
theorem WV (n:Nat) (R:B7):(HR n R).length≤n:=by
 unfold HR
 rw [List.length_map]
 exact Nat.le_trans (List.length_filter_le _ _) (by simp)
theorem W_ (n:Nat) (part ep:Int) (rs:List D0) (x:D0):E5 n part ep (rs++[x])=Ea n (E5 n part ep rs) x:=by
 unfold E5;rw [List.foldl_append];rfl
theorem YQ (n:Nat) (R:B7) (x:D0):(Ea n R x).part=R.part∧(Ea n R x).ep=R.ep∧(Ea n R x).st=R.st:=by
 unfold Ea
 dsimp only
 split
 ·exact ⟨rfl,rfl,rfl⟩
 ·split<;>(split<;>exact ⟨rfl,rfl,rfl⟩)
theorem W9 (n:Nat) (part ep:Int) (rs:List D0):(E5 n part ep rs).part=part∧(E5 n part ep rs).ep=ep∧(E5 n part ep rs).st=[]:=by
 have:∀ (rs:List D0) (R:B7),(rs.foldl (Ea n) R).part=R.part∧(rs.foldl (Ea n) R).ep=R.ep∧(rs.foldl (Ea n) R).st=R.st:=by
  intro rs
  induction rs with
  |nil=>exact fun R=>⟨rfl,rfl,rfl⟩
  |cons x rs ih=>
   intro R
   obtain ⟨h1,h2,h3⟩:=ih (Ea n R x)
   obtain ⟨g1,g2,g3⟩:=YQ n R x
   exact ⟨h1.trans g1,h2.trans g2,h3.trans g3⟩
 exact this rs (IT part ep)
/-! ### What a part knows when it begins -/
/-! ### Records of all splits, in whatever order -/
/-! ### What it hears, what it tells -/
def JZ (J:AR) (R:B7) (n:Nat):B7×List D0:=
 if (R.g n).told=false then (R,[]) else
 match Zu R.st n (R.g n).att (R.g n).cnt with
 |none=>(R,[])
 |some ps=>
  if 40<ps.length then (R,[]) else
  let R1:B7:={ R with g:=GU R.g n { R.g n with merged:=true,pairs:=ps },st:=I1 R.st n }
  let l:=HR J.us.length R1
  if (l.length:Int)∈J.marks then ({ R1 with sets:=R1.sets++[l] },[⟨4,R.part,n,(R.g n).att,0,[],ps⟩,⟨5,R.part,0,0,0,l,[]⟩])
  else (R1,[⟨4,R.part,n,(R.g n).att,0,[],ps⟩])
def MG (J:AR) (R:B7) (m:DF):Prop:=¬ (0≤m.sp∧m.sp<J.us.length)∨m.kind≠2∨m.part≠R.part
instance (J:AR) (R:B7) (m:DF):Decidable (MG J R m):=by unfold MG;infer_instance
def MH (R:B7) (m:DF):Prop:=(R.g m.sp.toNat).merged=false∧m.pairs.length≤8∧GN m.pairs
instance (R:B7) (m:DF):Decidable (MH R m):=by unfold MH;infer_instance
def IL (J:AR) (R:B7) (m:DF):B7×List D0:=
 if MH R m then JZ J { R with st:=Kw R.st m.sp m.att m.seq m.pairs } m.sp.toNat else (R,[])
def Sr (R:B7) (m:DF):DF:=
 ⟨3,m.sp,m.att,R.part,0,if (R.g m.sp.toNat).merged=true then 40 else Kv R.st m.sp m.att,R.ep,0,[],[]⟩
def QK (J:AR) (R:B7) (m:DF):B7×DF×List D0:=
 if MG J R m then (R,WZ,[]) else ((IL J R m).1,Sr (IL J R m).1 m,(IL J R m).2)
def No (J:AR) (t:Int) (R:B7) (sp att:Int):Prop:=¬ (0≤sp∧sp<J.us.length)∨(R.g sp.toNat).merged=true∨(R.g sp.toNat).told=true∨att<1∨t<att
instance (J:AR) (t:Int) (R:B7) (sp att:Int):Decidable (No J t R sp att):=by unfold No;infer_instance
def Sj (J:AR) (t:Int) (R:B7) (sp att cnt:Int):B7×List D0:=
 if No J t R sp att then (R,[]) else JZ J { R with g:=GU R.g sp.toNat { R.g sp.toNat with told:=true,att:=att,cnt:=cnt } } sp.toNat
structure Nu where
 set:List Int
 why:Int
 pairs:List An
section
variable {w0 w:World} {F0:AV} {As Bs Rs:List SP} {A B:SP}
theorem Hd.exA {α:Sort _} {A:α→SP} (h:Hd w0 F0 w (ex A::As) Rs):∃ a,Hd w0 F0 w (A a::As) Rs:=by
 obtain ⟨F,G,⟨F1,F2,h1,h2,h3,⟨a,ha⟩,s⟩,r⟩:=h
 exact ⟨a,F,G,⟨F1,F2,h1,h2,h3,ha,s⟩,r⟩
theorem Hd.exI {α:Sort _} {A:α→SP} (a:α) (h:Hd w0 F0 w (A a::As) Rs):Hd w0 F0 w (ex A::As) Rs:=h.turn fun _ ha=>⟨a,ha⟩
theorem Hd.stA (h:Hd w0 F0 w (Cz Bs::As) Rs):Hd w0 F0 w (Bs++As) Rs:=h.open_ fun _ h=>h
theorem Hd.stI (h:Hd w0 F0 w (Bs++As) Rs):Hd w0 F0 w (Cz Bs::As) Rs:=h.shut fun _ h=>h
theorem Hd.puA {p:Prop} (h:Hd w0 F0 w (CH p::As) Rs):p∧Hd w0 F0 w As Rs:=⟨h.fact (List.mem_cons_self ..) fun _ h=>h,h.drop⟩
theorem Hd.puI {p:Prop} (hp:p) (h:Hd w0 F0 w As Rs):Hd w0 F0 w (CH p::As) Rs:=h.shut (Bs:=[]) fun _ _=>hp
def BB {α:Type} (f:α→SP) (l:List α):SP:=Cz (l.map f)
theorem Hd.big0 {α:Type} (f:α→SP) (h:Hd w0 F0 w As Rs):Hd w0 F0 w (BB f []::As) Rs:=h.shut (Bs:=[]) fun _ _=>trivial
theorem Ly {α:Type}:∀ (l:List α) (i:Nat) {x:α},l[i]?=some x→l.Perm (x::l.eraseIdx i)
 |[],_,_,h=>by simp at h
 |y::l,0,x,h=>by
  obtain rfl:y=x:=by simpa using h
  exact List.Perm.refl _
 |y::l,i+1,x,h=>((Ly l i (by simpa using h)).cons y).trans (List.Perm.swap _ _ _)
theorem Hd.bigO {α:Type} {f:α→SP} {l:List α} {x:α} (i:Nat) (hx:l[i]?=some x) (h:Hd w0 F0 w (BB f l::As) Rs):Hd w0 F0 w (f x::BB f (l.eraseIdx i)::As) Rs:=by
 have h1:=h.stA.perm (((Ly l i hx).map f).append_right As)
 have h2:Hd w0 F0 w (((l.eraseIdx i).map f++As)++[f x]) Rs:=h1.perm (by rw [List.map_cons,List.cons_append];exact (List.perm_append_comm (l₁:=[f x])))
 have h3:Hd w0 F0 w ((l.eraseIdx i).map f++(As++[f x])) Rs:=by rw [←List.append_assoc];exact h2
 exact (show Hd w0 F0 w (BB f (l.eraseIdx i)::(As++[f x])) Rs from h3.stI).perm (List.perm_append_comm (l₁:=BB f (l.eraseIdx i)::As) (l₂:=[f x]))
theorem Hd.bigI {α:Type} {f:α→SP} {l:List α} {x:α} (i:Nat) (hi:i<l.length) (h:Hd w0 F0 w (f x::BB f (l.eraseIdx i)::As) Rs):Hd w0 F0 w (BB f (l.set i x)::As) Rs:=by
 have h1:Hd w0 F0 w (BB f (l.eraseIdx i)::(As++[f x])) Rs:=h.perm (List.perm_append_comm (l₁:=[f x]) (l₂:=BB f (l.eraseIdx i)::As))
 have h2:Hd w0 F0 w ((l.eraseIdx i).map f++As++[f x]) Rs:=by rw [List.append_assoc];exact h1.stA
 have h3:Hd w0 F0 w ((x::l.eraseIdx i).map f++As) Rs:=h2.perm (List.perm_append_comm (l₁:=(l.eraseIdx i).map f++As) (l₂:=[f x]))
 have hp:(l.set i x).Perm (x::l.eraseIdx i):=by
  have:=Ly (l.set i x) i (x:=x) (by rw [List.getElem?_set_self hi])
  rwa [List.eraseIdx_set_eq] at this
 exact (h3.perm ((hp.symm.map f).append_right As)).stI
theorem Hd.bigN {α:Type} {f:α→SP} {l:List α} {x:α} (h:Hd w0 F0 w (f x::BB f l::As) Rs):Hd w0 F0 w (BB f (l++[x])::As) Rs:=by
 have h1:Hd w0 F0 w (BB f l::(As++[f x])) Rs:=h.perm (List.perm_append_comm (l₁:=[f x]) (l₂:=BB f l::As))
 have h2:Hd w0 F0 w (l.map f++As++[f x]) Rs:=by rw [List.append_assoc];exact h1.stA
 have h3:Hd w0 F0 w ((x::l).map f++As) Rs:=h2.perm (List.perm_append_comm (l₁:=l.map f++As) (l₂:=[f x]))
 exact (h3.perm (((List.perm_append_comm (l₁:=[x]) (l₂:=l)).map f).append_right As)).stI
end
section
variable {vS vM vC vR vK vs:Value} {J:AR} {w t o part ep:Int} {g:Nat→GE} {hv:Nat→Value} {sb j:Nat}
end
theorem SM {α:Type} {f:α→SP} {l:List α} {w:World} {F:AV} (h:(BB f l).P w F) {x:α} (hx:x∈l):(f x).P w F:=Cj.mem h (List.mem_map_of_mem hx)
section
variable {w0 w:World} {F0:AV} {As Rs:List SP} {g:Nat→GE} {hv:Nat→Value} {i:Nat}
end
/-! ### A row of headers held, and each slice held: a slice of slices held -/
section
variable {α:Type} {d:Kd α} {w0 w:World} {F F0:AV} {As Rs:List SP} {v:Value} {us:List (Value×List α)}
def B1 (us:List (Value×List α)):List Ff:=us.map fun u=>Ha u.1
def GL (d:Kd α) (us:List (Value×List α)):SP:=BB (fun u:Value×List α=>Ae d u.1 u.2) us
theorem Rh:∀ {us:List (Value×List α)} {F:AV},(GL d us).P w F→Cr (AU d) w F us (us.map (·.1))
 |[],_,_=>rfl
 |u::us,F,⟨F1,F2,h1,h2,h3,a,s⟩=>⟨F1,F2,[u.1],us.map (·.1),h1,h2,h3,rfl,⟨rfl,a⟩,Rh (us:=us) s⟩
theorem OZ (h:∀ u∈us,∃ A n c,u.1=.slice A n c):(B1 us).flatMap Lx=us.map (·.1):=by
 unfold B1
 induction us with
 |nil=>rfl
 |cons p us ih=>
  obtain ⟨A,n,c,e⟩:=h p (List.mem_cons_self ..)
  rw [List.map_cons,List.flatMap_cons,ih fun q hq=>h q (List.mem_cons_of_mem _ hq),List.map_cons,e]
  rfl
theorem UG {w:World} {F:AV} (h:(GL d us).P w F):∀ u∈us,∃ A n c,u.1=.slice A n c:=fun u hu=>by
 obtain ⟨A,c,e,_⟩:=FM (BI F (SM h hu))
 exact ⟨A,_,c,e⟩
theorem Hd.hdI (H:Hd w0 F0 w (Ae F5 v (B1 us)::GL d us::As) Rs):Hd w0 F0 w (Ae (AU d) v us::As) Rs:=by
 refine H.turn2 fun F1 F2 hd h1 h2=>?_
 obtain ⟨A,n,c,e,hl,cs,G1,G2,s1,s2,dj,row,reps⟩:=h1
 have hcs:cs=us.map (·.1):=(AX.flat_eq.1 reps.toR).trans (OZ (UG h2))
 subst hcs
 exact ⟨A,n,c,e,by simpa [B1] using hl,_,G1,F2,fun k hk=>.inl (s1 k hk),fun k hk=>.inr hk,fun k hk hg=>hd k (s1 k hk) hg,row,Rh h2⟩
theorem UD {F:AV} (h:(Af (AU d) v us).P w F):(Af F5 v (B1 us)).P w F:=by
 obtain ⟨A,m,c,e,h1,h2,h3,cs,h4,h5⟩:=h
 refine ⟨A,m,c,e,by simpa [B1] using h1,h2,h3,cs,h4,AX.flat_eq.2 ?_⟩
 have hall:=OY h5
 have:∀ {us:List (Value×List α)} {cs:List Value},AX (AU d) w F us cs→cs=us.map (·.1):=by
  intro us
  induction us with
  |nil=>intro cs h;exact h
  |cons u us ih=>rintro cs ⟨c,cs',e,h1,h2⟩;rw [e,h1.1,ih h2];rfl
 rw [this h5]
 exact (OZ fun u hu=>by
  obtain ⟨A,c,e,_⟩:=FM (hall u hu)
  exact ⟨A,_,c,e⟩).symm
end
/-! ### Told anew -/
section
variable {w0 w:World} {F0:AV} {As Rs:List SP} {g g':Nat→GE} {hv:Nat→Value} {i:Nat}
def pick (g:Nat→GE) (set:List Int) (n:Nat):List Nat:=(List.range n).filter fun i=>(g i).merged && decide ((i:Int)∈set)
end
theorem W8 {n:Nat} {p ep:Int} {b:Nat}:∀ {rs:List D0},(∀ r∈rs,r.pairs.length≤b)→∀ i,((E5 n p ep rs).g i).pairs.length≤b:=by
 have:∀ (rs:List D0) (R:B7),(∀ r∈rs,r.pairs.length≤b)→(∀ i,(R.g i).pairs.length≤b)→∀ i,((rs.foldl (Ea n) R).g i).pairs.length≤b:=by
  intro rs
  induction rs with
  |nil=>intro R _ h;exact h
  |cons x rs ih=>
   intro R hr h
   refine ih (Ea n R x) (fun r hr2=>hr r (List.mem_cons_of_mem _ hr2)) fun i=>?_
   have hx:=hr x (List.mem_cons_self ..)
   have key:∀ (R1:B7) (c:Prop) [Decidable c],(if c then { R1 with sets:=R1.sets++[x.set] } else R1).g=R1.g:=by
    intro R1 c _
    split<;>rfl
   unfold Ea
   dsimp only
   split
   ·exact h i
   ·rw [key]
    split
    ·dsimp only
     by_cases e:i=x.sp.toNat
     ·subst e;rw [MX];exact hx
     ·rw [MW _ _ e];exact h i
    ·exact h i
 intro rs hr
 exact this rs (IT p ep) hr fun i=>Nat.zero_le _
theorem P_ (vS:Value) (vM:Value) (vC:Value) (vR:Value) (vK:Value) (C:Cf):
    Cn Tryz.prog 19 [.agg #[vS,.int .i64 C.J.parts,vM,vC,vR,.int .i64 C.J.chunk,.int .i64 C.J.window,.int .i64 C.J.fuel,vK,.int .i64 C.w,.int .i64 C.t,.int .i64 C.o]] [] [Af (AU Al) vS C.J.us,Af Au vM C.J.map,Af Au vC C.J.comb,Af Au vR C.J.red,Af (AN .i64) vK C.J.marks] (fun v Bs=>v=.bool (decide (Dm C))∧Bs=[]):=by
 intro w0 F0 H
 obtain ⟨A1,c2,rfl,hc3,hm4,hp5⟩:=H.fR 0 rfl
 obtain ⟨A6,c7,rfl,hc8,hm9,hp10⟩:=H.fR 1 rfl
 obtain ⟨A11,c12,rfl,hc13,hm14,hp15⟩:=H.fR 2 rfl
 obtain ⟨A16,c17,rfl,hc18,hm19,hp20⟩:=H.fR 3 rfl
 obtain ⟨A21,c22,rfl,hc23,hm24,hp25⟩:=H.fR 4 rfl
 refine enter Tryz.func19 U U (Nat.le_of_ble_eq_true U) (Z (Ac (B4 U U U U H (fun b26 w H=>(Ab U (Aa (Y (Z (Ac (V U U (Ah U CP U) (V U U (Bp (cs:=[.slice A1 C.J.us.length c2,.int .i64 C.J.parts,.slice A6 C.J.map.length c7,.slice A11 C.J.comb.length c12,.slice A16 C.J.red.length c17,.int .i64 C.J.chunk,.int .i64 C.J.window,.int .i64 C.J.fuel,.slice A21 C.J.marks.length c22]) U Gc U U (H.cellsI 0 U U)) (sc (O_ (.slice A1 C.J.us.length c2) (.slice A6 C.J.map.length c7) (.slice A11 C.J.comb.length c12) (.slice A16 C.J.red.length c17) (.slice A21 C.J.marks.length c22) C.J) H (lR 0 U (lR 1 U (lR 2 U (lR 3 U (lR 4 U l0))))) U U (At PO U U) ?_))))))))))))
 rintro _ _ w ⟨rfl,rfl⟩ H
 refine Ab U ?_
 refine AD (d:=6) U (fun h27=>?_) (fun h27=>?_)
 ·refine V U U (Ah U OB U) (V U U (Aj U Aw U (H.cellI 0 U U)) (sc (GC C.w 1 4) H l0 U U (At Gs U U) ?_))
  rintro _ _ w ⟨rfl,rfl⟩ H
  refine Ad 2 U ?_
  refine AD (d:=11) U (fun h28=>?_) (fun h28=>?_)
  ·refine V U U (Ah U HK U) (V U U (Aj U Aw U (H.cellI 0 U U)) (sc (GC C.t 1 3) H l0 U U (At Gs U U) ?_))
   rintro _ _ w ⟨rfl,rfl⟩ H
   refine Ad 2 U ?_
   refine AD (d:=16) U (fun h29=>?_) (fun h29=>?_)
   ·refine V U U (Ah U OC U) (V U U (Aj U Aw U (H.cellI 0 U U)) (sc (GC C.o 1 50) H l0 U U (At Gs U U) ?_))
    rintro _ _ w ⟨rfl,rfl⟩ H
    refine Ad 2 U (Aa (Y (Ai (Am U U ?_))))
    replace H:=H.nil
    have e:(1≤C.o∧C.o≤50)↔Dm C:=⟨fun g=>⟨h27,by omega,by omega,by omega⟩,fun g=>by have g2:=g.2;omega⟩
    exact Ag ⟨congrArg Value.bool (decide_eq_decide.2 e),rfl⟩ H
   refine Ad 5 U (Aa (Y (Ai (Am U U ?_))))
   replace H:=H.nil
   have e:¬ Dm C:=fun h=>by have h1:=h.1;have h2:=h.2;first |exact absurd h1 h27|omega
   exact Ag ⟨congrArg Value.bool (decide_eq_false e).symm,rfl⟩ H
  refine Ad 10 U (Aa (Y (Ai (Am U U ?_))))
  replace H:=H.nil
  have e:¬ Dm C:=fun h=>by have h1:=h.1;have h2:=h.2;first |exact absurd h1 h27|omega
  exact Ag ⟨congrArg Value.bool (decide_eq_false e).symm,rfl⟩ H
 refine Ad 12 U (Ad 3 U (Aa (Y (Ai (Am U U ?_)))))
 replace H:=H.nil
 have e:¬ Dm C:=fun h=>by have h1:=h.1;have h2:=h.2;first |exact absurd h1 h27|omega
 exact Ag ⟨congrArg Value.bool (decide_eq_false e).symm,rfl⟩ H
theorem Lk (vxs:Value) (xs:List Bm) (hb:xs.length≤1000000):
    Cn Tryz.prog 158 [vxs] [] [Af Au vxs xs] (fun v Bs=>Bs=[Ae Au v xs]):=by
 intro w0 F0 H
 obtain ⟨A1,c2,rfl,hc3,hm4,hp5⟩:=H.fR 0 rfl
 refine enter Tryz.func158 U U (Nat.le_of_ble_eq_true U) (Z (Ac (Ab U (Aa (Y (Z (Z (Ac (Ab U (V U U (Ki U DX U U) (Aa (Y ?_))))))))))))
 refine DJ (b:=(A1:Option Addr).isNone) U (fun h6=>?_) (fun h6=>?_)
 ·refine Z (Ac (Ab U (Aa (Y (Ai (Ao (Am U U ?_)))))))
  obtain rfl:=H.nilR 0 rfl h6
  replace H:=H.newnil Au
  exact Ag U H
 refine Av (Y (Z (Ac (Ks U U U FO H (fun b7 w H=>(Ab U ?_))))))
 replace H:=H.newnilA Au (some ⟨b7,0,none⟩)
 refine BY (xs:=[]) (ys:=xs) U U U FO KP U (by decide) U U H (by simp only [List.length_nil];omega) (fun F hA hR=>hR _ (List.mem_of_getElem? (i:=0) U)) (fun v8 w H=>(Ab U (Aa (Y (Ai (Am U U ?_))))))
 rw [List.nil_append] at H
 replace H:=H.k1
 exact Ag U H
theorem Te (vxs:Value) (xs:List Int) (hb:xs.length≤1000000):
    Cn Tryz.prog 129 [vxs] [] [Af (AN .i64) vxs xs] (fun v Bs=>Bs=[Ae (AN .i64) v xs]):=by
 intro w0 F0 H
 obtain ⟨A1,c2,rfl,hc3,hm4,hp5⟩:=H.fR 0 rfl
 refine enter Tryz.func129 U U (Nat.le_of_ble_eq_true U) (Z (Ac (Ab U (Aa (Y (Z (Z (Ac (Ab U (V U U (Ki U EO U U) (Aa (Y ?_))))))))))))
 refine DJ (b:=(A1:Option Addr).isNone) U (fun h6=>?_) (fun h6=>?_)
 ·refine Z (Ac (Ab U (Aa (Y (Ai (Ao (Am U U ?_)))))))
  obtain rfl:=H.nilR 0 rfl h6
  replace H:=H.newnil (AN .i64)
  exact Ag U H
 refine Av (Y (Z (Ac (Ks U U U CZ H (fun b7 w H=>(Ab U ?_))))))
 replace H:=H.newnilA (AN .i64) (some ⟨b7,0,none⟩)
 refine BY (xs:=[]) (ys:=xs) U U U CZ EQ U (by decide) U U H (by simp only [List.length_nil];omega) (fun F hA hR=>hR _ (List.mem_of_getElem? (i:=0) U)) (fun v8 w H=>(Ab U (Aa (Y (Ai (Am U U ?_))))))
 rw [List.nil_append] at H
 replace H:=H.k1
 exact Ag U H
theorem Td (vxs:Value) (xs:List Ff) (hb:xs.length≤1000000):
    Cn Tryz.prog 157 [vxs] [] [Af F5 vxs xs] (fun v Bs=>Bs=[Ae F5 v xs]):=by
 intro w0 F0 H
 obtain ⟨A1,c2,rfl,hc3,hm4,hp5⟩:=H.fR 0 rfl
 refine enter Tryz.func157 U U (Nat.le_of_ble_eq_true U) (Z (Ac (Ab U (Aa (Y (Z (Z (Ac (Ab U (V U U (Ki U D4 U U) (Aa (Y ?_))))))))))))
 refine DJ (b:=(A1:Option Addr).isNone) U (fun h6=>?_) (fun h6=>?_)
 ·refine Z (Ac (Ab U (Aa (Y (Ai (Ao (Am U U ?_)))))))
  obtain rfl:=H.nilR 0 rfl h6
  replace H:=H.newnil F5
  exact Ag U H
 refine Av (Y (Z (Ac (Ks U U U Ei H (fun b7 w H=>(Ab U ?_))))))
 replace H:=H.newnilA F5 (some ⟨b7,0,none⟩)
 refine BY (xs:=[]) (ys:=xs) U U U Ei KQ U (by decide) U U H (by simp only [List.length_nil];omega) (fun F hA hR=>hR _ (List.mem_of_getElem? (i:=0) U)) (fun v8 w H=>(Ab U (Aa (Y (Ai (Am U U ?_))))))
 rw [List.nil_append] at H
 replace H:=H.k1
 exact Ag U H
theorem Xz {us zs:List (Value×List An)} {i:Nat} {A:Option Addr} {c:Nat} {x:List An} (hz:zs.length=i) (h:us[i]?=some (.slice A x.length c,x)):(B1 zs++(B1 us).drop i)[i]?=some (⟨A,x.length,c⟩:Ff):=by
 subst hz
 have hl:(B1 zs).length=zs.length:=by simp [B1]
 rw [List.getElem?_append_right (by omega),hl,Nat.sub_self,List.getElem?_drop,Nat.add_zero]
 unfold B1
 rw [List.getElem?_map,h]
 rfl
theorem XB {us zs:List (Value×List An)} {i:Nat} {A:Option Addr} {n c:Nat} {x:List An} (hz:zs.length=i) (hi:i<us.length):(B1 zs++(B1 us).drop i).set i (⟨A,n,c⟩:Ff)=B1 (zs++[(.slice A n c,x)])++(B1 us).drop (i+1):=by
 subst hz
 have hl:(B1 zs).length=zs.length:=by simp [B1]
 have hu:(B1 us).length=us.length:=by simp [B1]
 rw [List.set_append_right _ _ (by omega),hl,Nat.sub_self,List.drop_eq_getElem_cons (by omega),List.set_cons_zero]
 unfold B1
 rw [List.map_append,List.append_assoc]
 rfl
theorem XC {us zs:List (Value×List An)} {i:Nat} {v u:Value} {x:List An} (hz:zs.map (·.2)=(us.map (·.2)).take i) (h:us[i]?=some (v,x)):(zs++[(u,x)]).map (·.2)=(us.map (·.2)).take (i+1):=by
 rw [List.map_append,hz,DV (x:=x) (by rw [List.getElem?_map,h];rfl)]
 rfl
theorem XA (vS:Value) (vM:Value) (vC:Value) (vR:Value) (vK:Value) (C:Cf) (hC:Dm C):
    Cn Tryz.prog 94 [.agg #[vS,.int .i64 C.J.parts,vM,vC,vR,.int .i64 C.J.chunk,.int .i64 C.J.window,.int .i64 C.J.fuel,vK,.int .i64 C.w,.int .i64 C.t,.int .i64 C.o]] [] [Af (AU Al) vS C.J.us,Af Au vM C.J.map,Af Au vC C.J.comb,Af Au vR C.J.red,Af (AN .i64) vK C.J.marks] (fun v Bs=>∃ J2:AR,∃ vS2:Value,∃ vM2:Value,∃ vC2:Value,∃ vR2:Value,∃ vK2:Value,v=.agg #[vS2,.int .i64 J2.parts,vM2,vC2,vR2,.int .i64 J2.chunk,.int .i64 J2.window,.int .i64 J2.fuel,vK2,.int .i64 C.w,.int .i64 C.t,.int .i64 C.o]∧Bs=[Ae (AU Al) vS2 J2.us,Ae Au vM2 J2.map,Ae Au vC2 J2.comb,Ae Au vR2 J2.red,Ae (AN .i64) vK2 J2.marks]∧(BL J2 C.J)):=by
 intro w0 F0 H
 obtain ⟨A1,c2,rfl,hc3,hm4,hp5⟩:=H.fR 0 rfl
 obtain ⟨A6,c7,rfl,hc8,hm9,hp10⟩:=H.fR 1 rfl
 obtain ⟨A11,c12,rfl,hc13,hm14,hp15⟩:=H.fR 2 rfl
 obtain ⟨A16,c17,rfl,hc18,hm19,hp20⟩:=H.fR 3 rfl
 obtain ⟨A21,c22,rfl,hc23,hm24,hp25⟩:=H.fR 4 rfl
 have hsp:=hC.1.2.2.2.1
 have hus:=hC.1.1
 have hb1:=(Jf hC.1.2.2.2.2.2.1.2).1
 have hb2:=(Jf hC.1.2.2.2.2.2.2.1.2).1
 have hb3:=(Jf hC.1.2.2.2.2.2.2.2.1).1
 have hb4:=hC.1.2.2.1
 have hul:(B1 C.J.us).length=C.J.us.length:=by simp [B1]
 refine enter Tryz.func94 U U (Nat.le_of_ble_eq_true U) (Z (Ac (B4 U U U U H (fun b26 w H=>(Do U U U Sp H (fun b27 w H=>(Aa (Y (Z (Ac (V U U (Ah U CP U) (V U U (Ah U C4 U) (V U U (Aj U CM U (H.cellI 1 U U)) (sc (Td (.slice A1 C.J.us.length c2) (B1 C.J.us) (by simp only [B1,List.length_map];omega)) H (lX (fun F hA hR=>UD (hR _ (List.mem_of_getElem? (i:=0) U))) l0) U U (At U_ U U) ?_))))))))))))))
 rintro v28 _ w rfl H
 refine V U U (Ah U CP U) (V U U (Ah U C4 U) ?_)
 obtain ⟨A29,c30,rfl,hc31,hm32,hp33⟩:=H.fA 0 rfl
 replace H:=H.p2
 refine By U U U CM U U H U (Nat.le_of_ble_eq_true U) (fun u hu=>by simp [Value.cells] at hu;subst hu;rfl) (fun w H=>(Aa (Y (Z (Z (Ac (V U U (Ah U CP U) (V U U (Ah U C4 U) (V U U (Aj U CM U (H.cellI 0 U U)) (V U U (AO U D4 U) (Ab U (Aa (Y (AK ?_))))))))))))))
 replace H:=H.p1|>.big0 (fun u:Value×List An=>Ae Al u.1 u.2)|>.h1 (A:=GL Al ([]:List (Value×List An)))
 refine Br (σ:=Nat×List (Value×List An)) (fun (i,zs)=>[(1,.pointer (some ⟨b26,0,none⟩)),(2,.pointer (some ⟨b27,0,none⟩)),(13,.slice A29 ((B1 C.J.us).length) c30),(14,.int .i64 (((B1 C.J.us).length:Nat):Int)),(15,.int .i64 ((i:Nat):Int))]) (fun (i,zs) w=>(Hd w0 F0 w [GL Al zs,Ae F5 (.slice A29 ((B1 C.J.us).length) c30) (B1 zs++(B1 C.J.us).drop i),blk b26 [.slice A29 ((B1 C.J.us).length) c30,.int .i64 C.J.parts,.slice A6 C.J.map.length c7,.slice A11 C.J.comb.length c12,.slice A16 C.J.red.length c17,.int .i64 C.J.chunk,.int .i64 C.J.window,.int .i64 C.J.fuel,.slice A21 C.J.marks.length c22,.int .i64 C.w,.int .i64 C.t,.int .i64 C.o] 28,blk b27 [.slice none 0 0,.int .i64 0,.slice none 0 0,.slice none 0 0,.slice none 0 0,.int .i64 0,.int .i64 0,.int .i64 0,.slice none 0 0,.int .i64 0,.int .i64 0,.int .i64 0] 28] [Af (AU Al) (.slice A1 C.J.us.length c2) C.J.us,Af Au (.slice A6 C.J.map.length c7) C.J.map,Af Au (.slice A11 C.J.comb.length c12) C.J.comb,Af Au (.slice A16 C.J.red.length c17) C.J.red,Af (AN .i64) (.slice A21 C.J.marks.length c22) C.J.marks])∧(zs.length=i∧zs.map (·.2)=(C.J.us.map (·.2)).take i)∧(i≤C.J.us.length)) (fun (i,zs)=>C.J.us.length - i) (0,[]) ⟨rfl,rfl,rfl,rfl,rfl,trivial⟩ ⟨H,⟨rfl,rfl⟩,Nat.zero_le _⟩ ?_
 rintro ⟨i,zs⟩ w ⟨H,hz,hi⟩
 refine Z (Ac (V U U (AQ U U U) (Aa (Y (Z ?_)))))
 refine Aq U (fun h34=>?_) (fun h34=>?_)
 ·refine Av (Y (Z (AK (Z ?_))))
  obtain ⟨⟨u37,x35⟩,hx36⟩:∃ z9,C.J.us[i]?=some z9:=⟨_,List.getElem?_eq_getElem (show i<C.J.us.length by omega)⟩
  obtain ⟨A38,c39,rfl,hc40,hm41⟩:=H.nestR 0 rfl hx36
  have hk42:=Xz (zs:=zs) hz.1 hx36
  have hxl:x35.length≤8:=(hsp _ (Bl hx36)).1
  refine Ac (Ab U ?_)
  have th43:=H.thA 1 rfl hk42
  refine V U U (AG (p:=AA A29+i*1) U Ei U U (by omega) (by omega) th43 U) (V U U (Aj U Db U (H.elA 1 U hk42 (q:=0) U U)) (Ad 2 U (Aa (Y ?_))))
  replace H:=H.p3.p3.p2
  refine BD (.e 0 (.e 1 (.e 2 (.e 3 (.e 4 (.m 5 (.e 6 (.m 7 .z)))))))) (fun w=>∃ Ar,Hd w0 F0 w (GL Al zs::blk b26 [.slice A29 ((B1 C.J.us).length) c30,.int .i64 C.J.parts,.slice A6 C.J.map.length c7,.slice A11 C.J.comb.length c12,.slice A16 C.J.red.length c17,.int .i64 C.J.chunk,.int .i64 C.J.window,.int .i64 C.J.fuel,.slice A21 C.J.marks.length c22,.int .i64 C.w,.int .i64 C.t,.int .i64 C.o] 28::blk b27 [.slice none 0 0,.int .i64 0,.slice none 0 0,.slice none 0 0,.slice none 0 0,.int .i64 0,.int .i64 0,.int .i64 0,.slice none 0 0,.int .i64 0,.int .i64 0,.int .i64 0] 28::Ar) [Af (AU Al) (.slice A1 C.J.us.length c2) C.J.us,Af Au (.slice A6 C.J.map.length c7) C.J.map,Af Au (.slice A11 C.J.comb.length c12) C.J.comb,Af Au (.slice A16 C.J.red.length c17) C.J.red,Af (AN .i64) (.slice A21 C.J.marks.length c22) C.J.marks]) mo (by kernel_rfl) (fun w H=>⟨_,H⟩) H (fun w H=>(Ak U U U (fun w ⟨Ar,H⟩=>Ah U CP U) (Ak U U U (fun w ⟨Ar,H⟩=>Ah U C4 U) (Ak U U U (fun w ⟨Ar,H⟩=>Aj U CM U (H.cellI 1 U U)) (Ap U (Ap U (AL U (sc (Ll (.slice A38 x35.length c39) x35 (by first |omega|decide|assumption)) H (lX (fun F hA hR=>GP (hR _ (List.mem_of_getElem? (i:=0) U)) hx36) l0) U U (At L_ U U) ?_))))))))
  rintro v44 _ w rfl H
  replace H:=H.p3|>.p3|>.p3
  refine AH ⟨_,H⟩ ?_
  have th45:=H.thA 4 rfl hk42
  refine Ak U U U (fun w ⟨Ar,H⟩=>AG (p:=AA A29+i*1) U Ei U U (by omega) (by omega) th45 U) (AL U ?_)
  obtain ⟨A46,c47,rfl,hc48,hm49,hp50⟩:=H.fA 3 rfl
  replace H:=H.p4
  refine FN (i:=i) (a:=(⟨A46,x35.length,c47⟩:Ff)) U U U Db U U U H (by simp only [List.length_append,List.length_drop,B1,List.length_map];omega) U (fun w H=>?_)
  replace H:=H.p3.p3.p3
  refine AH ⟨_,H⟩ (Bx (AS (Y (Ac (V U U (AP (z:=((i+1:Nat):Int)) U U U (by rw [Ay (by omega) (by omega)];omega)) (Ab U (Aa ?_)))))))
  replace H:=H.p3.p1.p4.bigN (f:=fun u:Value×List An=>Ae Al u.1 u.2) (x:=(.slice A46 x35.length c47,x35))
  replace H:Hd w0 F0 w [GL Al (zs++[(.slice A46 x35.length c47,x35)]),Ae F5 (.slice A29 ((B1 C.J.us).length) c30) (B1 (zs++[(.slice A46 x35.length c47,x35)])++(B1 C.J.us).drop (i+1)),blk b26 [.slice A29 ((B1 C.J.us).length) c30,.int .i64 C.J.parts,.slice A6 C.J.map.length c7,.slice A11 C.J.comb.length c12,.slice A16 C.J.red.length c17,.int .i64 C.J.chunk,.int .i64 C.J.window,.int .i64 C.J.fuel,.slice A21 C.J.marks.length c22,.int .i64 C.w,.int .i64 C.t,.int .i64 C.o] 28,blk b27 [.slice none 0 0,.int .i64 0,.slice none 0 0,.slice none 0 0,.slice none 0 0,.int .i64 0,.int .i64 0,.int .i64 0,.slice none 0 0,.int .i64 0,.int .i64 0,.int .i64 0] 28] [Af (AU Al) (.slice A1 C.J.us.length c2) C.J.us,Af Au (.slice A6 C.J.map.length c7) C.J.map,Af Au (.slice A11 C.J.comb.length c12) C.J.comb,Af Au (.slice A16 C.J.red.length c17) C.J.red,Af (AN .i64) (.slice A21 C.J.marks.length c22) C.J.marks]:=by rw [←XB (x:=x35) hz.1 (by omega)];exact H
  exact Bb (s:=(i,zs)) (i+1,zs++[(.slice A46 x35.length c47,x35)]) ⟨rfl,rfl,rfl,rfl,rfl,trivial⟩ ⟨H,⟨by simp [hz.1],XC hz.2 hx36⟩,by (try dsimp only);omega⟩ (by (try dsimp only);omega)
 refine Bj (AE (AE (Bk (Y (Z ?_)))))
 obtain rfl:i=C.J.us.length:=by omega
 replace H:=H.p1
 replace H:Hd w0 F0 w [Ae F5 (.slice A29 ((B1 C.J.us).length) c30) (B1 zs),GL Al zs,blk b26 [.slice A29 ((B1 C.J.us).length) c30,.int .i64 C.J.parts,.slice A6 C.J.map.length c7,.slice A11 C.J.comb.length c12,.slice A16 C.J.red.length c17,.int .i64 C.J.chunk,.int .i64 C.J.window,.int .i64 C.J.fuel,.slice A21 C.J.marks.length c22,.int .i64 C.w,.int .i64 C.t,.int .i64 C.o] 28,blk b27 [.slice none 0 0,.int .i64 0,.slice none 0 0,.slice none 0 0,.slice none 0 0,.int .i64 0,.int .i64 0,.int .i64 0,.slice none 0 0,.int .i64 0,.int .i64 0,.int .i64 0] 28] [Af (AU Al) (.slice A1 C.J.us.length c2) C.J.us,Af Au (.slice A6 C.J.map.length c7) C.J.map,Af Au (.slice A11 C.J.comb.length c12) C.J.comb,Af Au (.slice A16 C.J.red.length c17) C.J.red,Af (AN .i64) (.slice A21 C.J.marks.length c22) C.J.marks]:=by rw [show B1 zs=B1 zs++(B1 C.J.us).drop C.J.us.length by simp [B1]];exact H
 replace H:=H.hdI|>.h1 (A:=Ae (AU Al) (.slice A29 ((B1 C.J.us).length) c30) zs)
 have hsj:BL ({ C.J with us:=zs }:AR) C.J:=⟨by rw [hz.2,List.take_of_length_le (by simp)],rfl⟩
 refine SX (.e 0 (.e 1 (.e 2 (.e 4 (.e 5 (.e 6 (.e 8 (.e 9 (.e 10 (.m 3 (.e 12 (.e 13 (.m 7 (.m 11 (.w 14 (.e 15 (.e 16 (.m 17 (.e 18 (.e 19 (.m 20 .z))))))))))))))))))))) (fun w=>∃ Ar,Hd w0 F0 w (Ae (AU Al) (.slice A29 ((B1 C.J.us).length) c30) zs::blk b26 [.slice A29 ((B1 C.J.us).length) c30,.int .i64 C.J.parts,.slice A6 C.J.map.length c7,.slice A11 C.J.comb.length c12,.slice A16 C.J.red.length c17,.int .i64 C.J.chunk,.int .i64 C.J.window,.int .i64 C.J.fuel,.slice A21 C.J.marks.length c22,.int .i64 C.w,.int .i64 C.t,.int .i64 C.o] 28::blk b27 [.slice none 0 0,.int .i64 0,.slice none 0 0,.slice none 0 0,.slice none 0 0,.int .i64 0,.int .i64 0,.int .i64 0,.slice none 0 0,.int .i64 0,.int .i64 0,.int .i64 0] 28::Ar) [Af (AU Al) (.slice A1 C.J.us.length c2) C.J.us,Af Au (.slice A6 C.J.map.length c7) C.J.map,Af Au (.slice A11 C.J.comb.length c12) C.J.comb,Af Au (.slice A16 C.J.red.length c17) C.J.red,Af (AN .i64) (.slice A21 C.J.marks.length c22) C.J.marks]) (fun w=>∃ Ar,Hd w0 F0 w Ar [Af (AU Al) (.slice A1 C.J.us.length c2) C.J.us,Af Au (.slice A6 C.J.map.length c7) C.J.map,Af Au (.slice A11 C.J.comb.length c12) C.J.comb,Af Au (.slice A16 C.J.red.length c17) C.J.red,Af (AN .i64) (.slice A21 C.J.marks.length c22) C.J.marks]) mo (by kernel_rfl) (fun w H=>⟨_,H⟩) H (fun w H=>(Fm U U U (fun w ⟨Ar,H⟩=>Ah U CP U) (Fm U U U (fun w ⟨Ar,H⟩=>Ah U Gn U) (Fm U U U (fun w ⟨Ar,H⟩=>Aj U Dk U (H.cellI 1 U U)) (Fm U U U (fun w ⟨Ar,H⟩=>Ah U CP U) (Fm U U U (fun w ⟨Ar,H⟩=>Ah U GI U) (Fm U U U (fun w ⟨Ar,H⟩=>Aj U Dk U (H.cellI 1 U U)) (Fm U U U (fun w ⟨Ar,H⟩=>Ah U CP U) (Fm U U U (fun w ⟨Ar,H⟩=>Ah U G_ U) (Fm U U U (fun w ⟨Ar,H⟩=>Aj U Dk U (H.cellI 1 U U)) (LW U (sc (Lk (.slice A6 C.J.map.length c7) C.J.map (by first |omega|decide|assumption)) H (lR 1 U l0) U U (At Md U U) ?_))))))))))))
 rintro v51 _ w rfl H
 replace H:=H.p3|>.p3|>.p3
 refine LV ⟨_,H⟩ (Fm U U U (fun w ⟨Ar,H⟩=>Ah U CP U) (Fm U U U (fun w ⟨Ar,H⟩=>Ah U Gn U) (LW U (sc (Lk (.slice A11 C.J.comb.length c12) C.J.comb (by first |omega|decide|assumption)) H (lR 2 U l0) U U (At Md U U) ?_))))
 rintro v52 _ w rfl H
 replace H:=H.p3|>.p3|>.p3
 refine LV ⟨_,H⟩ (LW U (sc (Lk (.slice A16 C.J.red.length c17) C.J.red (by first |omega|decide|assumption)) H (lR 3 U l0) U U (At Md U U) ?_))
 rintro v53 _ w rfl H
 replace H:=H.p3|>.p3|>.p3
 refine LV ⟨_,H⟩ (Up U ?_)
 obtain ⟨A54,c55,rfl,hc56,hm57,hp58⟩:=H.fA 5 rfl
 replace H:=H.p1
 refine By U U U Dk U U H U (Nat.le_of_ble_eq_true U) (fun u hu=>by simp [Value.cells] at hu;subst hu;rfl) (fun w H=>(AH ⟨_,H⟩ (Ak U U U (fun w ⟨Ar,H⟩=>Ah U CP U) (Ak U U U (fun w ⟨Ar,H⟩=>Ah U GI U) (AL U ?_)))))
 obtain ⟨A59,c60,rfl,hc61,hm62,hp63⟩:=H.fA 4 rfl
 refine By U U U Dk U U H U (Nat.le_of_ble_eq_true U) (fun u hu=>by simp [Value.cells] at hu;subst hu;rfl) (fun w H=>(AH ⟨_,H⟩ (Ak U U U (fun w ⟨Ar,H⟩=>Ah U CP U) (Ak U U U (fun w ⟨Ar,H⟩=>Ah U G_ U) (AL U ?_)))))
 obtain ⟨A64,c65,rfl,hc66,hm67,hp68⟩:=H.fA 3 rfl
 refine By U U U Dk U U H U (Nat.le_of_ble_eq_true U) (fun u hu=>by simp [Value.cells] at hu;subst hu;rfl) (fun w H=>(AH ⟨_,H⟩ (Bx (Y (Z (Ac (V U U (Ah U CP U) (V U U (Ah U FB U) (V U U (Aj U EY U (H.cellI 0 U U)) (sc (Te (.slice A21 C.J.marks.length c22) C.J.marks (by first |omega|decide|assumption)) H (lR 4 U l0) U U (At U9 U U) ?_))))))))))
 rintro v69 _ w rfl H
 refine V U U (Ah U CP U) (V U U (Ah U FB U) ?_)
 obtain ⟨A70,c71,rfl,hc72,hm73,hp74⟩:=H.fA 0 rfl
 replace H:=H.p1
 refine By U U U EY U U H U (Nat.le_of_ble_eq_true U) (fun u hu=>by simp [Value.cells] at hu;subst hu;rfl) (fun w H=>(Aa (Y (Z (Ac (V U U (Bp (cs:=[.slice A29 ((B1 C.J.us).length) c30,.int .i64 C.J.parts,.slice A54 C.J.map.length c55,.slice A59 C.J.comb.length c60,.slice A64 C.J.red.length c65,.int .i64 C.J.chunk,.int .i64 C.J.window,.int .i64 C.J.fuel,.slice A70 C.J.marks.length c71,.int .i64 C.w,.int .i64 C.t,.int .i64 C.o]) U Ej U U (H.cellsI 0 U U)) ?_))))))
 replace H:=H.p3
 refine By U U U Ej U U H U (Nat.le_of_ble_eq_true U) (fun u hu=>by simp [Value.cells] at hu;rcases hu with rfl|rfl|rfl|rfl|rfl|rfl|rfl|rfl|rfl|rfl|rfl|rfl<;>rfl) (fun w H=>(Aa (Y (Ai (EW (cs:=[.slice A29 ((B1 C.J.us).length) c30,.int .i64 C.J.parts,.slice A54 C.J.map.length c55,.slice A59 C.J.comb.length c60,.slice A64 C.J.red.length c65,.int .i64 C.J.chunk,.int .i64 C.J.window,.int .i64 C.J.fuel,.slice A70 C.J.marks.length c71,.int .i64 C.w,.int .i64 C.t,.int .i64 C.o]) U U Ej U (H.cellsI 0 U U) ?_)))))
 replace H:=H.p2.p4.p5.p6.p6.k5
 exact Ag ⟨({ C.J with us:=zs }:AR),(.slice A29 ((B1 C.J.us).length) c30),(.slice A54 C.J.map.length c55),(.slice A59 C.J.comb.length c60),(.slice A64 C.J.red.length c65),(.slice A70 C.J.marks.length c71),rfl,rfl,hsj⟩ H
abbrev Nv:=(Int×Int)×Value×List (Value×List An)
section
variable {kvs:List Nv} {k:Int×Int} {x:Value×List (Value×List An)}
end
section
variable {w0 w:World} {F0:AV} {As Rs:List SP} {t sb mb:Nat} {st:D6} {kvs:List Nv} {k:Int×Int} {v:Value} {us:List (Value×List An)}
end
theorem WJ (vS vM vC vR vK:Value) (J:AR) (hJ:B3 J) (s:Nat) (hs:s<J.us.length):
    Cn Tryz.prog 124 [.agg #[vS,.int .i64 J.parts,vM,vC,vR,.int .i64 J.chunk,.int .i64 J.window,.int .i64 J.fuel,vK],.int .i64 ((s:Nat):Int)] [] [Af (AU Al) vS J.us,Af Au vM J.map,Af Au vC J.comb,Af Au vR J.red,Af (AN .i64) vK J.marks,gl] (fun v Bs=>∃ u,v=.tuple #[u,.int .i64 (mapM dg J s).2]∧Bs=[Ae Al u (mapM dg J s).1]):=by
 intro w0 F0 H
 obtain ⟨A1,c2,rfl,hc3,hm4,hp5⟩:=H.fR 0 rfl
 obtain ⟨A6,c7,rfl,hc8,hm9,hp10⟩:=H.fR 1 rfl
 obtain ⟨A11,c12,rfl,hc13,hm14,hp15⟩:=H.fR 2 rfl
 obtain ⟨A16,c17,rfl,hc18,hm19,hp20⟩:=H.fR 3 rfl
 obtain ⟨A21,c22,rfl,hc23,hm24,hp25⟩:=H.fR 4 rfl
 have hus:=hJ.us
 have hpt:=hJ.parts
 have hfu:=hJ.fuel
 refine enter Tryz.func124 U U (Nat.le_of_ble_eq_true U) (Z (Ac (B4 U U U U H (fun b26 w H=>(Ad 2 U (Aa (Y (Z (Ac (Ab U (Aa (Y (Z (Z (Ac (V U U (Ah U C4 U) (V U U (Aj U CM U (H.cellI 0 U U)) (Ab U ?_))))))))))))))))))
 obtain ⟨⟨u29,x27⟩,hx28⟩:∃ z9,J.us[s]?=some z9:=⟨_,List.getElem?_eq_getElem (show s<J.us.length by omega)⟩
 obtain ⟨A30,c31,rfl,hc32,hm33⟩:=H.nestR 0 rfl hx28
 have th34:=H.thRd 0 rfl hx28
 refine V U U (AG (p:=AA A1+s*1) U Ei U U (by omega) (by omega) th34 U) (V U U (Aj U Db U (H.elRd 0 U hx28 U)) (V U U (AO U B_ U) (Ab U (Aa (Y (AK ?_))))))
 have hrec:=Rb hx28
 have hrl:x27.length≤8:=(hJ.split _ (Bl hx28)).1
 replace H:=H.addR (R:=Af Al (.slice A30 x27.length c31) x27) fun _ h=>GP (h _ (List.mem_of_getElem? (i:=0) rfl)) hx28
 replace H:=H.newnil Al
 refine Br (σ:=Nat×Value×List An) (fun (i,q,out)=>[(2,.pointer (some ⟨b26,0,none⟩)),(6,q),(15,.slice A30 x27.length c31),(16,.int .i64 ((x27.length:Nat):Int)),(17,.int .i64 ((i:Nat):Int))]) (fun (i,q,out) w=>(Hd w0 F0 w [Ae Al q out,blk b26 [.slice A1 J.us.length c2,.int .i64 J.parts,.slice A6 J.map.length c7,.slice A11 J.comb.length c12,.slice A16 J.red.length c17,.int .i64 J.chunk,.int .i64 J.window,.int .i64 J.fuel,.slice A21 J.marks.length c22] 26] [Af Al (.slice A30 x27.length c31) x27,Af (AU Al) (.slice A1 J.us.length c2) J.us,Af Au (.slice A6 J.map.length c7) J.map,Af Au (.slice A11 J.comb.length c12) J.comb,Af Au (.slice A16 J.red.length c17) J.red,Af (AN .i64) (.slice A21 J.marks.length c22) J.marks,gl])∧(i≤x27.length)∧(Ef dg J.map J.fuel (x27.drop i) out=Ef dg J.map J.fuel x27 [])∧(out.length≤40)) (fun (i,q,out)=>x27.length - i) (0,.slice none 0 0,[]) ⟨rfl,rfl,rfl,rfl,rfl,trivial⟩ ⟨H,Nat.zero_le _,rfl,Nat.zero_le _⟩ ?_
 rintro ⟨i,q,out⟩ w ⟨H,hi,hgo,ho⟩
 refine Z (Ac (V U U (AQ U U U) (Aa (Y (Z ?_)))))
 refine Aq U (fun h35=>?_) (fun h35=>?_)
 ·refine Av (Y (Z (AK (Z (Ac ?_)))))
  obtain ⟨x36,hx37⟩:∃ z9,x27[i]?=some z9:=⟨_,List.getElem?_eq_getElem (show i<x27.length by omega)⟩
  have th38:=H.thR 0 rfl hx37
  refine V U U (AG (p:=AA A30+i*2) U Bq U U (by omega) (by omega) th38 U) (V U U (Bp (cs:=[.string x36.key,.string x36.val]) U B8 U U (H.elsR 0 U hx37 U)) (Do U U U CJ H (fun b39 w H=>(By U U U B8 U U H U (Nat.le_of_ble_eq_true U) (fun u hu=>by simp [Value.cells] at hu;rcases hu with rfl|rfl<;>rfl) (fun w H=>(Aa (Y (Z (Ac (V U U (Ah U Gn U) (V U U (Aj U Dk U (H.cellI 2 U U)) (V U U (Ah U DO U) (V U U (Aj U Bd U (H.cellI 0 U U)) (V U U (Ah U Gm U) (V U U (Aj U Bd U (H.cellI 0 U U)) (Bv (parts:=[(0,.tmp 27)]) (vs:=[.string x36.val]) (cs:=[.string x36.val]) U U U Ck Dc U (by decide) (by decide) U U H (fun b40 w H=>(V U U (Ah U HI U) (V U U (Aj U Aw U (H.cellI 3 U U)) (sc (Sh (.slice A6 J.map.length c7) J.map x36.key (.slice (some ⟨b40,0,none⟩) 1 1) [x36.val] J.fuel hJ.map hJ.f64) H (lR 2 U (lA 0 U (fun F h=>BZ h rfl (by decide) (AX.flat_eq.2 U)) (lR 6 U l0))) U U (At Pn U U) ?_))))))))))))))))))))
  rintro _ _ w ⟨u41,rfl,rfl⟩ H
  have hrt:=Kq dg J.map x36.key [x36.val] J.fuel
  refine Ad 5 U (Aa (Y (Z (Z (Ac (Ab U (V U U (CL U U U) (Aa (Y ?_)))))))))
  refine Aq U (fun h42=>?_) (fun h42=>?_)
  ·refine Z (Ac (Ad 3 U (Aa (Y (Ai (Ao (Ax (Ao (Ao (Ax (Ao (Bg U U U ?_))))))))))))
   have e:mapM dg J s=([],(A_ dg J.map x36.key [x36.val] J.fuel).2):=by unfold mapM;rw [hrec];exact hgo.symm.trans (P9 hx37 h42)
   replace H:=H.nil|>.newnil Al|>.dropR
   exact Ag ⟨_,by rw [e]<;>rfl,by rw [e]<;>rfl⟩ H
  refine Av (Y (Z (Ac (Ad 2 U ?_))))
  replace H:=H.p3
  obtain ⟨A43,c44,rfl,hc45,hm46,hp47⟩:=H.fA 1 rfl
  refine BY (xs:=out) (ys:=(A_ dg J.map x36.key [x36.val] J.fuel).1) U U U Bq CJ U (by decide) U U H (by first |omega|(rw [List.length_append];omega)) (fun F hA hR=>BI F (hA _ (List.mem_of_getElem? (i:=0) U))) (fun v48 w H=>(Ab U (Aa (Y (Z (Ac (Ab U ?_)))))))
  obtain ⟨A49,c50,rfl,hc51,hm52,hp53⟩:=H.fA 0 rfl
  refine V U U (AO U B_ U) (V U U (BP U U U) (Aa (Y ?_)))
  refine Aq U (fun h54=>?_) (fun h54=>?_)
  ·refine Z (Ac (Ad 2 U (Aa (Y (Ai (Ax (Ao (Ao (Ax (Ao (Bg U U U ?_)))))))))))
   have hap:(out++(A_ dg J.map x36.key [x36.val] J.fuel).1).length=out.length+(A_ dg J.map x36.key [x36.val] J.fuel).1.length:=List.length_append
   have e:mapM dg J s=([],5):=by unfold mapM;rw [hrec];exact hgo.symm.trans (P6 hx37 h42 (by omega))
   replace H:=H.nil|>.newnil Al|>.dropR
   exact Ag ⟨_,by rw [e]<;>rfl,by rw [e]<;>rfl⟩ H
  refine Av (AS (Y (Ac (V U U (AP (z:=((i+1:Nat):Int)) U U U (by rw [Ay (by omega) (by omega)];omega)) (Ab U (Aa ?_))))))
  replace H:=H.p4.p1.k2
  have hap:(out++(A_ dg J.map x36.key [x36.val] J.fuel).1).length=out.length+(A_ dg J.map x36.key [x36.val] J.fuel).1.length:=List.length_append
  have hl2:(out++(A_ dg J.map x36.key [x36.val] J.fuel).1).length≤40:=by omega
  have hg2:=(P7 (out:=out) hx37 h42 (by omega)).trans hgo
  exact Bb (s:=(i,undef,out)) (i+1,.slice A49 ((out++((A_ dg J.map x36.key [x36.val] J.fuel).1)).length) c50,out++(A_ dg J.map x36.key [x36.val] J.fuel).1) ⟨rfl,rfl,rfl,rfl,rfl,trivial⟩ ⟨H,by (try dsimp only);omega,hg2,hl2⟩ (by (try dsimp only);omega)
 refine Bj (AE (AE (Bk (Y (Z (Ac (Ad 3 U (Aa (Y (Ai (Bg U U U ?_)))))))))))
 replace H:=H.k1
 have e:mapM dg J s=(out,0):=by unfold mapM;rw [hrec];exact hgo.symm.trans (P4 (by omega))
 replace H:=H.dropR
 exact Ag ⟨_,by rw [e]<;>rfl,by rw [e]<;>rfl⟩ H
theorem ZG (vS vM vC vR vK:Value) (J:AR) (hJ:B3 J) (s:Nat) (hs:s<J.us.length):
    Cn Tryz.prog 53 [.agg #[vS,.int .i64 J.parts,vM,vC,vR,.int .i64 J.chunk,.int .i64 J.window,.int .i64 J.fuel,vK],.int .i64 ((s:Nat):Int)] [] [Af (AU Al) vS J.us,Af Au vM J.map,Af Au vC J.comb,Af Au vR J.red,Af (AN .i64) vK J.marks,gl] (fun v Bs=>∃ u,v=.tuple #[u,.int .i64 (AB dg J s).2]∧Bs=[Ae Al u (AB dg J s).1]):=by
 intro w0 F0 H
 obtain ⟨A1,c2,rfl,hc3,hm4,hp5⟩:=H.fR 0 rfl
 obtain ⟨A6,c7,rfl,hc8,hm9,hp10⟩:=H.fR 1 rfl
 obtain ⟨A11,c12,rfl,hc13,hm14,hp15⟩:=H.fR 2 rfl
 obtain ⟨A16,c17,rfl,hc18,hm19,hp20⟩:=H.fR 3 rfl
 obtain ⟨A21,c22,rfl,hc23,hm24,hp25⟩:=H.fR 4 rfl
 have hus:=hJ.us
 have hpt:=hJ.parts
 have hfu:=hJ.fuel
 refine enter Tryz.func53 U U (Nat.le_of_ble_eq_true U) (Z (Ac (B4 U U U U H (fun b26 w H=>(Ad 2 U (Aa (Y (Z (Z (Ac (V U U (Bp (cs:=[.slice A1 J.us.length c2,.int .i64 J.parts,.slice A6 J.map.length c7,.slice A11 J.comb.length c12,.slice A16 J.red.length c17,.int .i64 J.chunk,.int .i64 J.window,.int .i64 J.fuel,.slice A21 J.marks.length c22]) U Gc U U (H.cellsI 0 U U)) (sc (O_ (.slice A1 J.us.length c2) (.slice A6 J.map.length c7) (.slice A11 J.comb.length c12) (.slice A16 J.red.length c17) (.slice A21 J.marks.length c22) J) H (lR 0 U (lR 1 U (lR 2 U (lR 3 U (lR 4 U l0))))) U U (At PO U U) ?_))))))))))))
 rintro _ _ w ⟨rfl,rfl⟩ H
 refine V U U (CX U U) (Ab U ?_)
 refine AD (d:=11) U (fun h27=>?_) (fun h27=>?_)
 ·exact (h27 hJ.may).elim
 refine Ab U (V U U (AQ U U U) (Ad 2 U ?_))
 refine AD (d:=15) U (fun h28=>?_) (fun h28=>?_)
 ·exfalso;omega
 refine Ab U (V U U (Ah U C4 U) (V U U (Aj U CM U (H.cellI 0 U U)) (V U U (AO U D4 U) (V U U (BN U U U) (Ab U (Aa (Y ?_)))))))
 refine Aq U (fun h29=>?_) (fun h29=>?_)
 ·exfalso;omega
 refine Av (Y (Z (Ac (V U U (Bp (cs:=[.slice A1 J.us.length c2,.int .i64 J.parts,.slice A6 J.map.length c7,.slice A11 J.comb.length c12,.slice A16 J.red.length c17,.int .i64 J.chunk,.int .i64 J.window,.int .i64 J.fuel,.slice A21 J.marks.length c22]) U Gc U U (H.cellsI 0 U U)) (Ab U (sc (WJ (.slice A1 J.us.length c2) (.slice A6 J.map.length c7) (.slice A11 J.comb.length c12) (.slice A16 J.red.length c17) (.slice A21 J.marks.length c22) J hJ s (by omega)) H (lR 0 U (lR 1 U (lR 2 U (lR 3 U (lR 4 U (lR 5 U l0)))))) U U (At U6 U U) ?_))))))
 rintro _ _ w ⟨u30,rfl,rfl⟩ H
 refine Ad 5 U (Aa (Y (Z (Z (Ac (Ab U (V U U (CL U U U) (Aa (Y ?_)))))))))
 refine Aq U (fun h31=>?_) (fun h31=>?_)
 ·refine Z (Ac (Ad 3 U (Aa (Y (Ai (Ao (Bg U U U ?_)))))))
  have e:AB dg J s=([],(mapM dg J s).2):=if_pos h31
  replace H:=H.nil|>.newnil Al
  exact Ag ⟨_,by rw [e]<;>rfl,by rw [e]<;>rfl⟩ H
 refine Av (Y (Z (Ac (V U U (Ah U GI U) (V U U (Aj U Dk U (H.cellI 1 U U)) (Ab U (V U U (Ah U HI U) (V U U (Aj U Aw U (H.cellI 1 U U)) ?_))))))))
 have hml:=P3 dg J s
 refine sc (Um (.slice A11 J.comb.length c12) J.comb u30 ((mapM dg J s).1) J.fuel hJ.comb hJ.f64 (by omega)) H (lR 2 U (lA 0 U BI (lR 5 U l0))) U U (At U7 U U) ?_
 rintro _ _ w ⟨u32,rfl,rfl⟩ H
 refine Ad 4 U (Aa (Y (Ai (Bg U U U ?_))))
 have e:AB dg J s=Eu dg J.comb (mapM dg J s).1 J.fuel:=if_neg h31
 replace H:=H.k1
 exact Ag ⟨_,by rw [e]<;>rfl,by rw [e]<;>rfl⟩ H
section
variable {w:World} {F:AV}
end
theorem BL.out {A B:AR} (h:BL A B) (D:Bc) (R:B7):MA D A R=MA D B R:=by
 unfold MA Ms
 rw [h.len,h.red,h.fuel]
theorem Xr {P:Program} {t j i:TypeId}
  (hs:Ft P t=some [(j,0,9),(i,9,1),(i,10,1),(i,11,1)]) (hc:P.cellsOf t=12) (hi:P.underlying i=some (.int .i64))
  {H:Type} (enc:TypeId×Value→H) (w:World) (fuel:Nat) (cs:List Value) (x:DataW H×List MemPlace) (h:DataW.trod enc P w 0 (fun _=>true) true fuel t cs=some x):
  ∃ (js:List Value) (m:Nat) (y:DataW H×List MemPlace) (n1 n2 n3:Int),cs=js++[.int .i64 n1,.int .i64 n2,.int .i64 n3]∧DataW.trod enc P w 0 (fun _=>true) true m j js=some y∧js.length=9∧(AF n1∧AF n2∧AF n3):=by
 obtain ⟨hl,n,hf⟩:=IF hs h
 rw [hc] at hl
 match cs,hl with
 |[c0,c1,c2,c3,c4,c5,c6,c7,c8,c9,c10,c11],_=>
  obtain ⟨y0,g0⟩:=hf 0 _ _ _ rfl
  obtain ⟨y1,g1⟩:=hf 1 _ _ _ rfl
  obtain ⟨y2,g2⟩:=hf 2 _ _ _ rfl
  obtain ⟨y3,g3⟩:=hf 3 _ _ _ rfl
  obtain ⟨a1,r1,w1⟩:=EK hi enc w n _ _ g1
  obtain ⟨a2,r2,w2⟩:=EK hi enc w n _ _ g2
  obtain ⟨a3,r3,w3⟩:=EK hi enc w n _ _ g3
  have q1:[c9]=[Value.int .i64 a1]:=r1
  have q2:[c10]=[Value.int .i64 a2]:=r2
  have q3:[c11]=[Value.int .i64 a3]:=r3
  simp only [List.cons.injEq,and_true] at q1 q2 q3
  subst q1 q2 q3
  exact ⟨[c0,c1,c2,c3,c4,c5,c6,c7,c8],n,y0,a1,a2,a3,rfl,g0,rfl,w1,w2,w3⟩
theorem Kt (v1 v2:Value) (xs ys:List Int):
    Cn Tryz.prog 33 [v1,v2] [] [Af (AN .i64) v1 xs,Af (AN .i64) v2 ys] (fun v Bs=>v=.bool (decide (xs=ys))∧Bs=[]):=by
 intro w0 F0 H
 obtain ⟨A1,c2,rfl,hc3,hm4,hp5⟩:=H.fR 0 rfl
 obtain ⟨A6,c7,rfl,hc8,hm9,hp10⟩:=H.fR 1 rfl
 refine enter Tryz.func33 U U (Nat.le_of_ble_eq_true U) (Z (Ac (Ab U (Aa (Y (Z (Z (Ac (Ab U (V U U (AO U EO U) (Ab U (V U U (AO U EO U) (V U U (CL U U U) (Aa (Y ?_)))))))))))))))
 refine Aq U (fun h11=>?_) (fun h11=>?_)
 ·refine Z (Ac (Ab U (Aa (Y (Ai (Ao (Am U U ?_)))))))
  have e:¬ xs=ys:=fun e=>h11 (by rw [e])
  exact Ag ⟨by rw [decide_eq_false e]<;>rfl,rfl⟩ H
 refine Av (Y (Z (Z (Ac (Ab U (Aa (Y (AK ?_))))))))
 have hle:xs.length=ys.length:=by omega
 refine Br (σ:=Nat) (fun k=>[(0,.slice A1 xs.length c2),(1,.slice A6 ys.length c7),(5,.int .i64 ((k:Nat):Int))]) (fun k w=>(Hd w0 F0 w [] [Af (AN .i64) (.slice A1 xs.length c2) xs,Af (AN .i64) (.slice A6 ys.length c7) ys])∧(k≤xs.length)∧(xs.length=ys.length)∧(xs.take k=ys.take k)) (fun k=>xs.length - k) 0 ⟨rfl,rfl,rfl,trivial⟩ ⟨H,by omega,hle,rfl⟩ ?_
 rintro k w ⟨H,hk,hle,ht⟩
 refine Z (Z (Ac (Ad 2 U (V U U (AO U EO U) (V U U (AQ U U U) (Aa (Y ?_)))))))
 refine Aq U (fun h12=>?_) (fun h12=>?_)
 ·refine Av (Y (Z (AK (Z (Et mo (by kernel_rfl) H (DW 2 U ?_))))))
  obtain ⟨x13,hx14⟩:∃ z9,xs[k]?=some z9:=⟨_,List.getElem?_eq_getElem (show k<xs.length by omega)⟩
  have th15:=H.thR 0 rfl hx14
  refine Ba U U (fun w H=>AG (p:=AA A1+k*1) U CZ U U (by omega) (by omega) th15 U) (Ba U U (fun w H=>Aj U Aw U (H.elR 0 U hx14 (q:=0) U U)) (DW 2 U ?_))
  obtain ⟨x16,hx17⟩:∃ z9,ys[k]?=some z9:=⟨_,List.getElem?_eq_getElem (show k<ys.length by omega)⟩
  have th18:=H.thR 1 rfl hx17
  refine Ba U U (fun w H=>AG (p:=AA A6+k*1) U CZ U U (by omega) (by omega) th18 U) (Ba U U (fun w H=>Aj U Aw U (H.elR 1 U hx17 (q:=0) U U)) (Ba U U (fun w H=>CL U U U) (El (fun w H=>(Y ?_)))))
  refine Aq U (fun h19=>?_) (fun h19=>?_)
  ·refine Z (Ac (Ab U (Aa (Y (Ai (Ax (Ao (Ao (Ax (Ao (Am U U ?_)))))))))))
   have e:¬ xs=ys:=fun e=>h19 (by rw [e,hx17] at hx14;exact (Option.some.inj hx14).symm)
   exact Ag ⟨by rw [decide_eq_false e]<;>rfl,rfl⟩ H
  refine Av (AS (Y (Ac (Ab U (V U U (AP (z:=((k+1:Nat):Int)) U U U (by rw [Ay (by omega) (by omega)];omega)) (Ab U (Aa ?_)))))))
  have e:x13=x16:=Classical.not_not.1 h19
  subst e
  exact Bb (s:=k) (k+1) ⟨rfl,rfl,rfl,trivial⟩ ⟨H,by omega,hle,R4 hx14 hx17 ht⟩ (by (try dsimp only);omega)
 refine Bj (AE (AE (Bk (Y (Z (Ac (Ab U (Aa (Y (Ai (Am U U ?_)))))))))))
 have e:xs=ys:=by rw [←Gy (xs:=xs) (k:=k) (by omega),←Gy (xs:=ys) (k:=k) (by omega)];exact ht
 exact Ag ⟨by rw [decide_eq_true e]<;>rfl,rfl⟩ H
section
variable {w0 w:World} {F F0:AV} {As Rs:List SP} {v:Value} {us:List FU}
end
structure FV (α:Type) where
 sz:Nat
 enc:α→Value→Value→List Value
 len:∀ a s p,(enc a s p).length=sz
 one:∀ a s p,∀ c∈enc a s p,c=s∨c=p∨c.oneCell'=true
 pos:0<sz
structure BU (α:Type) where
 h:α
 sv:Value
 set:List Int
 pv:Value
 pairs:List An
structure GF (α:Type) where
 h:α
 hs:Ff
 hp:Ff
section
variable {α:Type}
def FV.e (S:FV α) (x:BU α):List Value:=S.enc x.h x.sv x.pv
def FV.f (S:FV α) (x:GF α):List Value:=S.enc x.h (.slice x.hs.A x.hs.n x.hs.c) (.slice x.hp.A x.hp.n x.hp.c)
def E4 (S:FV α):Kd (BU α) where
 sz:=S.sz
 O w F x cs:=cs=S.e x∧∃ F1 F2:AV,(∀ k,F1 k→F k)∧(∀ k,F2 k→F k)∧(∀ k,F1 k→¬ F2 k)∧(BK (AN .i64)).O w F1 x.set [x.sv]∧(BK Al).O w F2 x.pairs [x.pv]
 R w F x cs:=cs=S.e x∧(BK (AN .i64)).R w F x.set [x.sv]∧(BK Al).R w F x.pairs [x.pv]
 O_loc:=fun ⟨e,F1,F2,s1,s2,dj,h1,h2⟩ hk=>⟨e,F1,F2,s1,s2,dj,(BK _).O_loc h1 (fun k x=>hk k (s1 k x)),(BK _).O_loc h2 (fun k x=>hk k (s2 k x))⟩
 O_mono:=fun ⟨e,F1,F2,s1,s2,dj,h1,h2⟩ hk=>⟨e,F1,F2,fun k x=>hk k (s1 k x),fun k x=>hk k (s2 k x),dj,h1,h2⟩
 R_loc:=fun ⟨e,h1,h2⟩ hk=>⟨e,(BK _).R_loc h1 hk,(BK _).R_loc h2 hk⟩
 R_mono:=fun ⟨e,h1,h2⟩ hk=>⟨e,(BK _).R_mono h1 hk,(BK _).R_mono h2 hk⟩
 O_R:=fun ⟨e,F1,F2,s1,s2,dj,h1,h2⟩=>⟨e,(BK _).R_mono ((BK _).O_R h1) s1,(BK _).R_mono ((BK _).O_R h2) s2⟩
 len h:=by rw [h.1];exact S.len _ _ _
 one:=fun ⟨e,h1,h2⟩ c hc=>by
  have g1:=(BK _).one h1
  have g2:=(BK _).one h2
  subst e
  rcases S.one _ _ _ c hc with rfl|rfl|h
  ·exact g1 _ (List.mem_cons_self ..)
  ·exact g2 _ (List.mem_cons_self ..)
  ·exact h
 pos:=S.pos
def JP (S:FV α):Kd (GF α):=flat S.f S.sz S.pos (fun x=>S.len _ _ _) (fun x c hc=>by
 rcases S.one _ _ _ c hc with rfl|rfl|h
 ·rfl
 ·rfl
 ·exact h)
def CD (r:BU α):GF α:=⟨r.h,Ha r.sv,Ha r.pv⟩
variable {S:FV α} {w w0:World} {F F0:AV} {As Rs:List SP} {A:Option Addr} {m c:Nat}
theorem KC {us:List (BU α)} (h:(Af (E4 S) (.slice A m c) us).P w F) {i:Nat} {x:BU α} (hx:us[i]?=some x):
  FW A∧(∀ q u,(S.e x)[q]?=some u→w.cell? ⟨Er A,AA A+i*S.sz+q,none⟩=some u)∧(Af (AN .i64) x.sv x.set).P w F∧(Af Al x.pv x.pairs).P w F:=by
 obtain ⟨b,off,cs,e,hl,hc,h1,h2,h3⟩:=Kn h hx
 subst h1 e
 exact ⟨rfl,hc,h2,h3⟩
theorem Nf {us:List (BU α)} (h:(Af (E4 S) (.slice A m c) us).P w F) {i:Nat} {a:α} {sv pv:Value} {set:List Int} {pairs:List An} (hx:us[i]?=some ⟨a,sv,set,pv,pairs⟩):(Af (AN .i64) sv set).P w F:=(KC h hx).2.2.1
theorem Nd {us:List (BU α)} (h:(Af (E4 S) (.slice A m c) us).P w F) {i:Nat} {a:α} {sv pv:Value} {set:List Int} {pairs:List An} (hx:us[i]?=some ⟨a,sv,set,pv,pairs⟩):(Af Al pv pairs).P w F:=(KC h hx).2.2.2
theorem Hd.thRt {us:List (BU α)} (H:Hd w0 F0 w As Rs) (j:Nat) (hj:Rs[j]?=some (Af (E4 S) (.slice A m c) us)) {i:Nat} {x:BU α} (hx:us[i]?=some x):FW A:=H.factR (List.mem_of_getElem? hj) fun _ h=>(KC h hx).1
theorem XW {l cs:List Value} {d n q:Nat} {v:Value} (h:(l.drop d).take n=cs) (hq:cs[q]?=some v):l[d+q]?=some v:=by
 subst h
 rw [List.getElem?_take] at hq
 split at hq
 ·rwa [List.getElem?_drop] at hq
 ·cases hq
theorem Hd.elsRt {us:List (BU α)} (H:Hd w0 F0 w As Rs) (j:Nat) (hj:Rs[j]?=some (Af (E4 S) (.slice A m c) us)) {i:Nat} {x:BU α} (hx:us[i]?=some x) {p:Nat} (d n:Nat) {cs:List Value} (hc:((S.e x).drop d).take n=cs) (hpj:AA A+i*S.sz+d=p):∀ q v,cs[q]?=some v→w.cell? ((⟨Er A,p,none⟩:Addr).add q)=some v:=by
 intro q v hq
 rw [Eo,←hpj,Nat.add_assoc]
 exact H.factR (List.mem_of_getElem? hj) fun F h=>(KC h hx).2.1 _ v (XW hc hq)
theorem Hd.nestRt {us:List (BU α)} (H:Hd w0 F0 w As Rs) (j:Nat) (hj:Rs[j]?=some (Af (E4 S) (.slice A m c) us)) {i:Nat} {a:α} {sv pv:Value} {set:List Int} {pairs:List An} (hx:us[i]?=some ⟨a,sv,set,pv,pairs⟩):
  ∃ A1 c1 A2 c2,sv=.slice A1 set.length c1∧pv=.slice A2 pairs.length c2∧set.length≤c1∧c1≤9223372036854775807∧pairs.length≤c2∧c2≤9223372036854775807:=by
 refine H.factR (List.mem_of_getElem? hj) fun _ h=>?_
 obtain ⟨A1,c1,e1,g1,g2,_⟩:=FM (Nf h hx)
 obtain ⟨A2,c2,e2,g3,g4,_⟩:=FM (Nd h hx)
 exact ⟨A1,c1,A2,c2,e1,e2,g1,g2,g3,g4⟩
/-! ### Held: the cells in one row, the slices apart -/
theorem Z5 {r:BU α} {A1 A2:Option Addr} {n1 c1 n2 c2:Nat} (e1:r.sv=.slice A1 n1 c1) (e2:r.pv=.slice A2 n2 c2):S.e r=S.f (CD r):=by
 simp [FV.e,FV.f,CD,Ha,e1,e2]
def Hn (r:BU α):SP:=Cz [Ae (AN .i64) r.sv r.set,Ae Al r.pv r.pairs]
def Dp (us:List (BU α)):SP:=BB Hn us
theorem R8 {r:BU α} (h:(Hn r).P w F):S.e r=S.f (CD r):=by
 obtain ⟨F1,F2,_,_,_,a,F3,F4,_,_,_,b,_⟩:=h
 obtain ⟨A1,c1,e1,_⟩:=FM (BI _ a)
 obtain ⟨A2,c2,e2,_⟩:=FM (BI _ b)
 exact Z5 e1 e2
theorem Z3 {r:BU α} (h:(Hn r).P w F):(E4 S).O w F r (S.f (CD r)):=by
 have e:=R8 (S:=S) h
 obtain ⟨F1,F2,h1,h2,h3,a,F3,F4,g1,g2,g3,b,_⟩:=h
 exact ⟨e.symm,F1,F3,h1,fun k hk=>h2 k (g1 k hk),fun k hk hk2=>h3 k hk (g1 k hk2),a,b⟩
theorem Z4 {r:BU α} {cs:List Value} (h:(E4 S).O w F r cs):(Hn r).P w F∧cs=S.e r:=by
 obtain ⟨e,F1,F2,h1,h2,h3,a,b⟩:=h
 exact ⟨⟨F1,F2,h1,h2,h3,a,F2,none_,fun _ q=>q,fun _ q=>q.elim,fun _ _ q=>q,b,trivial⟩,e⟩
theorem Rj:∀ {us:List (BU α)} {F:AV},(Dp us).P w F→Cr (E4 S) w F us ((us.map CD).flatMap S.f)
 |[],_,_=>rfl
 |u::us,F,⟨F1,F2,h1,h2,h3,a,s⟩=>⟨F1,F2,S.f (CD u),(us.map CD).flatMap S.f,h1,h2,h3,rfl,Z3 a,Rj (us:=us) s⟩
variable {v:Value} {us:List (BU α)}
theorem Hd.twI (H:Hd w0 F0 w (Ae (JP S) v (us.map CD)::Dp us::As) Rs):Hd w0 F0 w (Ae (E4 S) v us::As) Rs:=by
 refine H.turn2 fun F1 F2 hd h1 h2=>?_
 obtain ⟨A,n,c,e,hl,cs,G1,G2,s1,s2,dj,row,reps⟩:=h1
 have hcs:cs=(us.map CD).flatMap S.f:=AX.flat_eq.1 reps.toR
 subst hcs
 exact ⟨A,n,c,e,by simpa using hl,_,G1,F2,fun k hk=>.inl (s1 k hk),fun k hk=>.inr hk,fun k hk hg=>hd k (s1 k hk) hg,row,Rj h2⟩
theorem Rk:∀ {us:List (BU α)} {F:AV} {cs:List Value},Cr (E4 S) w F us cs→(Dp us).P w F∧cs=(us.map CD).flatMap S.f
 |[],_,_,h=>⟨trivial,h⟩
 |u::us,F,cs,⟨F1,F2,c,cs',h1,h2,h3,e,a,s⟩=>by
  obtain ⟨g1,g2⟩:=Rk s
  obtain ⟨b1,b2⟩:=Z4 a
  refine ⟨⟨F1,F2,h1,h2,h3,b1,g1⟩,?_⟩
  rw [e,b2,g2,R8 b1];rfl
theorem Hd.twO (H:Hd w0 F0 w (Ae (E4 S) v us::As) Rs):Hd w0 F0 w (Ae (JP S) v (us.map CD)::Dp us::As) Rs:=by
 have:Hd w0 F0 w ([Ae (JP S) v (us.map CD),Dp us]++As) Rs:=H.open_ fun F h=>by
  obtain ⟨A,n,c,e,hl,cs,G1,G2,s1,s2,dj,row,reps⟩:=h
  obtain ⟨g1,rfl⟩:=Rk reps
  exact ⟨G1,G2,s1,s2,dj,⟨A,n,c,e,by simpa using hl,_,G1,none_,fun _ h=>h,fun _ h=>h.elim,fun _ _ h=>h,row,Cr.flatR (F:=none_) (AX.flat_eq.2 U)⟩,G2,none_,fun _ h=>h,fun _ h=>h.elim,fun _ _ h=>h,g1,trivial⟩
 exact this
theorem Hd.twN {r:BU α} (H:Hd w0 F0 w (Ae (AN .i64) r.sv r.set::Ae Al r.pv r.pairs::Dp us::As) Rs):Hd w0 F0 w (Dp (us++[r])::As) Rs:=
 Hd.bigN (f:=Hn) (x:=r) (Hd.stI (Bs:=[Ae (AN .i64) r.sv r.set,Ae Al r.pv r.pairs]) H)
theorem Hd.tw0 (H:Hd w0 F0 w As Rs):Hd w0 F0 w (Dp ([]:List (BU α))::As) Rs:=H.big0 Hn
end
/-! ### Messages, letters, acts, snapshots -/
structure BQ where
 kind:Int
 sp:Int
 att:Int
 part:Int
 seq:Int
 next:Int
 ep:Int
 why:Int
def RP:FV BQ where
 sz:=10
 enc m s p:=[.int .i64 m.kind,.int .i64 m.sp,.int .i64 m.att,.int .i64 m.part,.int .i64 m.seq,.int .i64 m.next,.int .i64 m.ep,.int .i64 m.why,s,p]
 len _ _ _:=rfl
 one _ _ _ c h:=by
  simp only [List.mem_cons,List.not_mem_nil,or_false] at h
  rcases h with rfl|rfl|rfl|rfl|rfl|rfl|rfl|rfl|rfl|rfl<;>first |exact .inr (.inr rfl)|exact .inl rfl|exact .inr (.inl rfl)
 pos:=by omega
structure bK where
 won:Bool
 m:BQ
 n:Int
structure bL where
 hear:Bool
 fr:Int
 m:BQ
structure bQ where
 fr:Int
 to:Int
 m:BQ
abbrev Gq:=E4 RP
abbrev EU:=JP RP
def BQ.p (m:BQ) (set:List Int) (ps:List An):DF:=⟨m.kind,m.sp,m.att,m.part,m.seq,m.next,m.ep,m.why,set,ps⟩
def C5 (x:BU BQ):DF:=x.h.p x.set x.pairs
theorem Fo {a b:DF}:a=b↔a.kind=b.kind∧a.sp=b.sp∧a.att=b.att∧a.part=b.part∧a.seq=b.seq∧a.next=b.next∧a.ep=b.ep∧a.why=b.why∧a.set=b.set∧a.pairs=b.pairs:=by
 constructor
 ·rintro rfl;exact ⟨rfl,rfl,rfl,rfl,rfl,rfl,rfl,rfl,rfl,rfl⟩
 ·rintro ⟨h1,h2,h3,h4,h5,h6,h7,h8,h9,h10⟩
  cases a;cases b
  simp only at h1 h2 h3 h4 h5 h6 h7 h8 h9 h10
  subst h1 h2 h3 h4 h5 h6 h7 h8 h9 h10
  rfl
instance msgD (a b:DF):Decidable (a=b):=decidable_of_iff _ Fo.symm
/-! ### How they come in -/
section
variable {P:Program} {t:TypeId}
end
/-! ### A result in cells, and another one -/
section
variable {P:Program} {fn:Func} {R:Ending→World→Prop} {n:Nat} {l:BA} {w:World} {t:TypeId} {a:Act}
end
def Hm (st:D6):Prop:=∀ a b,(DE st a b).length≤40∧∀ x∈DE st a b,x.length≤8
structure DG (n:Nat) (R:B7):Prop where
 pairs:∀ i,(R.g i).pairs.length≤1000
 st:Hm R.st
 sets:R.sets.length≤n
 setl:∀ s∈R.sets,s.length≤1000
theorem DG.mono {n m:Nat} {R:B7} (h:DG n R) (hm:n≤m):DG m R:=⟨h.pairs,h.st,Nat.le_trans h.sets hm,h.setl⟩
theorem Uc {l:List (List An)} {n m:Nat} (h1:l.length≤n) (h2:∀ x∈l,x.length≤m):l.flatten.length≤n*m:=by
 have:∀ l:List (List An),(∀ x∈l,x.length≤m)→l.flatten.length≤l.length*m:=by
  intro l
  induction l with
  |nil=>intro _;simp
  |cons x l ih=>
   intro h
   have h3:=ih fun y hy=>h y (List.mem_cons_of_mem _ hy)
   have h4:=h x (List.mem_cons_self ..)
   rw [List.flatten_cons,List.length_append,List.length_cons,Nat.succ_mul]
   omega
 exact Nat.le_trans (this l h2) (Nat.mul_le_mul_right _ h1)
theorem DG.flat {n:Nat} {R:B7} (h:DG n R) (a b:Int):(DE R.st a b).flatten.length≤320:=Uc (h.st a b).1 (h.st a b).2
theorem RO (c a b:Int):∀ st:D6,DE (I1 st c) a b=if a=c then [] else DE st a b
 |[]=>by unfold I1;simp [DE]
 |e::s=>by
  have ih:=RO c a b s
  unfold I1 at ih ⊢
  by_cases h:e.1.1=c
  ·rw [List.filter_cons_of_neg (by simpa using h),ih]
   by_cases h2:a=c
   ·rw [if_pos h2,if_pos h2]
   ·rw [if_neg h2,if_neg h2]
    exact (if_neg (fun h3=>h2 (h3.1.symm.trans h))).symm
  ·rw [List.filter_cons_of_pos (p:=fun e:(Int×Int)×List (List An)=>decide (e.1.1≠c)) (decide_eq_true h)]
   show (if e.1.1=a∧e.1.2=b then e.2 else DE (List.filter _ s) a b)=if a=c then [] else (if e.1.1=a∧e.1.2=b then e.2 else DE s a b)
   rw [ih]
   by_cases h2:a=c
   ·rw [if_pos h2,if_pos h2,if_neg fun h3=>h (h3.1.trans h2)]
   ·rw [if_neg h2,if_neg h2]
theorem RN (c d a b:Int) (x:List An):∀ st:D6,DE (I0 st c d x) a b=if c=a∧d=b then DE st a b++[x] else DE st a b
 |[]=>by
  show (if c=a∧d=b then [x] else DE [] a b)=_
  split<;>rfl
 |e::s=>by
  have ih:=RN c d a b x s
  show DE (if e.1.1=c∧e.1.2=d then (e.1,e.2++[x])::s else e::I0 s c d x) a b=if c=a∧d=b then (if e.1.1=a∧e.1.2=b then e.2 else DE s a b)++[x] else (if e.1.1=a∧e.1.2=b then e.2 else DE s a b)
  by_cases h:e.1.1=c∧e.1.2=d
  ·rw [if_pos h]
   show (if e.1.1=a∧e.1.2=b then e.2++[x] else DE s a b)=_
   by_cases h2:c=a∧d=b
   ·have h3:e.1.1=a∧e.1.2=b:=⟨h.1.trans h2.1,h.2.trans h2.2⟩
    rw [if_pos h2,if_pos h3,if_pos h3]
   ·have h3:¬ (e.1.1=a∧e.1.2=b):=fun h4=>h2 ⟨h.1.symm.trans h4.1,h.2.symm.trans h4.2⟩
    rw [if_neg h2,if_neg h3,if_neg h3]
  ·rw [if_neg h]
   show (if e.1.1=a∧e.1.2=b then e.2 else DE (I0 s c d x) a b)=_
   rw [ih]
   by_cases h2:c=a∧d=b
   ·have h3:¬ (e.1.1=a∧e.1.2=b):=fun h4=>h ⟨h4.1.trans h2.1.symm,h4.2.trans h2.2.symm⟩
    rw [if_pos h2,if_neg h3,if_neg h3,if_pos h2]
   ·rw [if_neg h2,if_neg h2]
theorem Hm.drop {st:D6} (h:Hm st) (c:Int):Hm (I1 st c):=by
 intro a b
 rw [RO]
 split
 ·exact ⟨by simp,fun x hx=>by cases hx⟩
 ·exact h a b
theorem Hm.put {st:D6} (h:Hm st) {a b q:Int} {x:List An} (hx:x.length≤8):Hm (Kw st a b q x):=by
 unfold Kw
 split
 ·rename_i hm
  intro c d
  rw [RN]
  split
  ·rename_i e
   obtain ⟨rfl,rfl⟩:=e
   have h1:=hm.1
   have h2:=hm.2.2.2
   unfold Kv at h1
   refine ⟨by rw [List.length_append,List.length_singleton];omega,fun y hy=>?_⟩
   rcases List.mem_append.1 hy with hy|hy
   ·exact (h _ _).2 y hy
   ·rw [List.mem_singleton.1 hy];exact hx
  ·exact h c d
 ·exact h
theorem DG.looks {n:Nat} {J:AR} {R:B7} (h:DG n R) (h6:J.us.length≤6) (k:Nat):DG (n+1) (JZ J R k).1:=by
 have hg:∀ ps:List An,ps.length≤40→∀ i,((GU R.g k { R.g k with merged:=true,pairs:=ps }:Nat→GE) i).pairs.length≤1000:=fun ps hps i=>by
  by_cases e:i=k
  ·subst e
   rw [MX]
   show ps.length≤1000
   omega
  ·rw [MW _ _ e]
   exact h.pairs i
 have h':DG (n+1) R:=h.mono (Nat.le_succ n)
 unfold JZ
 split
 ·exact h'
 ·split
  ·exact h'
  ·split
   ·exact h'
   ·rename_i hl
    dsimp only
    split
    ·refine ⟨hg _ (by omega),h.st.drop _,by show (R.sets++[_]).length≤n+1;rw [List.length_append,List.length_singleton];have:=h.sets;omega,fun s hs=>?_⟩
     rcases List.mem_append.1 hs with hs|hs
     ·exact h.setl s hs
     ·rw [List.mem_singleton.1 hs]
      exact Nat.le_trans (WV _ _) (by omega)
    ·exact ⟨hg _ (by omega),h.st.drop _,Nat.le_succ_of_le h.sets,h.setl⟩
theorem DG.push {n:Nat} {J:AR} {R:B7} (h:DG n R) (h6:J.us.length≤6) (m:DF):DG (n+1) (QK J R m).1:=by
 unfold QK
 split
 ·exact h.mono (Nat.le_succ n)
 ·show DG (n+1) (IL J R m).1
  unfold IL
  split
  ·rename_i ht
   exact DG.looks (R:={ R with st:=Kw R.st m.sp m.att m.seq m.pairs }) ⟨h.pairs,h.st.put ht.2.1,h.sets,h.setl⟩ h6 _
  ·exact h.mono (Nat.le_succ n)
theorem DG.won {n:Nat} {J:AR} {t:Int} {R:B7} (h:DG n R) (h6:J.us.length≤6) (sp att cnt:Int):DG (n+1) (Sj J t R sp att cnt).1:=by
 unfold Sj
 split
 ·exact h.mono (Nat.le_succ n)
 ·refine DG.looks (R:={ R with g:=GU R.g sp.toNat { R.g sp.toNat with told:=true,att:=att,cnt:=cnt } }) ⟨fun i=>?_,h.st,h.sets,h.setl⟩ h6 _
  show ((GU R.g sp.toNat { R.g sp.toNat with told:=true,att:=att,cnt:=cnt }:Nat→GE) i).pairs.length≤1000
  by_cases e:i=sp.toNat
  ·subst e;rw [MX];exact h.pairs _
  ·rw [MW _ _ e];exact h.pairs i
theorem Xc (n:Nat) (p ep:Int) (rs:List D0):(E5 n p ep rs).sets.length≤rs.length:=by
 have key:∀ rs:List D0,(E5 n p ep rs.reverse).sets.length≤rs.length:=by
  intro rs
  induction rs with
  |nil=>simp [E5,IT]
  |cons x rs ih=>
   rw [List.reverse_cons,W_,List.length_cons]
   have hx:∀ R:B7,(Ea n R x).sets.length≤R.sets.length+1:=by
    intro R
    unfold Ea
    dsimp only
    split
    ·omega
    ·split<;>split<;>simp
   have:=hx (E5 n p ep rs.reverse)
   omega
 have:=key rs.reverse
 rwa [List.reverse_reverse,List.length_reverse] at this
theorem Xb (n:Nat) (p ep:Int) (b:Nat) (rs:List D0) (h:∀ r∈rs,r.set.length≤b):∀ s∈(E5 n p ep rs).sets,s.length≤b:=by
 have key:∀ (rs:List D0) (R:B7),(∀ r∈rs,r.set.length≤b)→(∀ s∈R.sets,s.length≤b)→∀ s∈(rs.foldl (Ea n) R).sets,s.length≤b:=by
  intro rs
  induction rs with
  |nil=>intro R _ h;exact h
  |cons x rs ih=>
   intro R hr hR
   refine ih (Ea n R x) (fun r hq=>hr r (List.mem_cons_of_mem _ hq)) ?_
   have hx:=hr x (List.mem_cons_self ..)
   have hc:∀ R1:B7,R1.sets=R.sets→∀ s∈(if x.kind=5 then ({ R1 with sets:=R1.sets++[x.set] }:B7) else R1).sets,s.length≤b:=by
    intro R1 e s hs
    split at hs
    ·rcases List.mem_append.1 hs with hs|hs
     ·rw [e] at hs;exact hR s hs
     ·rw [List.mem_singleton.1 hs];exact hx
    ·rw [e] at hs;exact hR s hs
   unfold Ea
   dsimp only
   split
   ·exact hR
   ·refine hc _ ?_
    split<;>rfl
 exact key rs (IT p ep) h fun s hs=>by cases hs
theorem DG.new {n:Nat} {p ep:Int} {rs:List D0} (h:∀ r∈rs,r.pairs.length≤1000∧r.set.length≤1000):DG rs.length (E5 n p ep rs):=⟨W8 fun r hr=>(h r hr).1,by rw [(W9 n p ep rs).2.2];exact fun a b=>⟨by simp [DE],fun x hx=>by cases hx⟩,Xc n p ep rs,Xb n p ep 1000 rs fun r hr=>(h r hr).2⟩
section
variable {J:AR} {R R1:B7} {k:Nat} {n:Int} {ps:List An}
end
/-! ### Once -/
/-! ### Records -/
structure bR (n:Nat) (R N:B7):Prop where
 part:N.part=R.part
 g:∀ s,s<n→(N.g s).merged=(R.g s).merged∧(N.g s).pairs=(R.g s).pairs
 sets:N.sets=R.sets
/-! ### Six slices in a row -/
section
variable {α:Type} {J:AR} {rs:List FU} {acts:List (BU α)} {most:Int}
end
/-! ### Lists of structs held against one another -/
theorem ZB {a b:Nu}:a=b↔a.why=b.why∧a.set=b.set∧a.pairs=b.pairs:=by
 constructor
 ·rintro rfl;exact ⟨rfl,rfl,rfl⟩
 ·rintro ⟨h1,h2,h3⟩
  cases a;cases b
  simp only at h1 h2 h3
  subst h1 h2 h3
  rfl
instance snapPD (a b:Nu):Decidable (a=b):=decidable_of_iff _ ZB.symm
theorem WF {α β γ:Type} {f:α→γ} {g:β→γ} {a:List α} {b:List β} {k:Nat} {x:α} {y:β} (hx:a[k]?=some x) (hy:b[k]?=some y) (e:f x=g y) (h:(a.take k).map f=(b.take k).map g):(a.take (k+1)).map f=(b.take (k+1)).map g:=by
 rw [DV hx,DV hy,List.map_append,List.map_append,h]
 simp [e]
theorem WH {α β γ:Type} {f:α→γ} {g:β→γ} {a:List α} {b:List β} {k:Nat} {x:α} {y:β} (hx:a[k]?=some x) (hy:b[k]?=some y) (e:a.map f=b.map g):f x=g y:=by
 have h:=congrArg (·[k]?) e
 simp only [List.getElem?_map,hx,hy,Option.map_some] at h
 exact Option.some.inj h
/-! ### A small configuration -/
theorem Zt (x:BQ) (xsv:Value) (xse:List Int) (xpv:Value) (xpr:List An) (y:BQ) (ysv:Value) (yse:List Int) (ypv:Value) (ypr:List An):
    Cn Tryz.prog 63 [.agg #[.int .i64 x.kind,.int .i64 x.sp,.int .i64 x.att,.int .i64 x.part,.int .i64 x.seq,.int .i64 x.next,.int .i64 x.ep,.int .i64 x.why,xsv,xpv],.agg #[.int .i64 y.kind,.int .i64 y.sp,.int .i64 y.att,.int .i64 y.part,.int .i64 y.seq,.int .i64 y.next,.int .i64 y.ep,.int .i64 y.why,ysv,ypv]] [] [Af (AN .i64) xsv xse,Af Al xpv xpr,Af (AN .i64) ysv yse,Af Al ypv ypr] (fun v Bs=>v=.bool (decide (x.p xse xpr=y.p yse ypr))∧Bs=[]):=by
 intro w0 F0 H
 obtain ⟨A1,c2,rfl,hc3,hm4,hp5⟩:=H.fR 0 rfl
 obtain ⟨A6,c7,rfl,hc8,hm9,hp10⟩:=H.fR 1 rfl
 obtain ⟨A11,c12,rfl,hc13,hm14,hp15⟩:=H.fR 2 rfl
 obtain ⟨A16,c17,rfl,hc18,hm19,hp20⟩:=H.fR 3 rfl
 refine enter Tryz.func63 U U (Nat.le_of_ble_eq_true U) (Z (Ac (B4 U U U U H (fun b21 w H=>(B4 U U U U H (fun b22 w H=>(Ab U (Aa (Y (Z (Ac (V U U (Ah U OH U) (V U U (Aj U Aw U (H.cellI 1 U U)) (V U U (Ah U OH U) (V U U (Aj U Aw U (H.cellI 0 U U)) (V U U (AT U U U) (Ab U ?_)))))))))))))))))
 refine AD (d:=11) U (fun h23=>?_) (fun h23=>?_)
 ·refine V U U (Ah U OI U) (V U U (Aj U Aw U (H.cellI 1 U U)) (V U U (Ah U OI U) (V U U (Aj U Aw U (H.cellI 0 U U)) (V U U (AT U U U) (Ad 2 U ?_)))))
  refine AD (d:=18) U (fun h24=>?_) (fun h24=>?_)
  ·refine V U U (Ah U OJ U) (V U U (Aj U Aw U (H.cellI 1 U U)) (V U U (Ah U OJ U) (V U U (Aj U Aw U (H.cellI 0 U U)) (V U U (AT U U U) (Ad 2 U ?_)))))
   refine AD (d:=25) U (fun h25=>?_) (fun h25=>?_)
   ·refine V U U (Ah U OK U) (V U U (Aj U Aw U (H.cellI 1 U U)) (V U U (Ah U OK U) (V U U (Aj U Aw U (H.cellI 0 U U)) (V U U (AT U U U) (Ad 2 U ?_)))))
    refine AD (d:=32) U (fun h26=>?_) (fun h26=>?_)
    ·refine V U U (Ah U OL U) (V U U (Aj U Aw U (H.cellI 1 U U)) (V U U (Ah U OL U) (V U U (Aj U Aw U (H.cellI 0 U U)) (V U U (AT U U U) (Ad 2 U ?_)))))
     refine AD (d:=39) U (fun h27=>?_) (fun h27=>?_)
     ·refine V U U (Ah U OM U) (V U U (Aj U Aw U (H.cellI 1 U U)) (V U U (Ah U OM U) (V U U (Aj U Aw U (H.cellI 0 U U)) (V U U (AT U U U) (Ad 2 U (Aa (Y (Z (Ac (Ad 2 U ?_))))))))))
      refine AD (d:=47) U (fun h28=>?_) (fun h28=>?_)
      ·refine V U U (Ah U ON U) (V U U (Aj U Aw U (H.cellI 1 U U)) (V U U (Ah U ON U) (V U U (Aj U Aw U (H.cellI 0 U U)) (V U U (AT U U U) (Ad 2 U ?_)))))
       refine AD (d:=54) U (fun h29=>?_) (fun h29=>?_)
       ·refine V U U (Ah U OO U) (V U U (Aj U Aw U (H.cellI 1 U U)) (V U U (Ah U OO U) (V U U (Aj U Aw U (H.cellI 0 U U)) (V U U (AT U U U) (Ad 2 U ?_)))))
        refine AD (d:=61) U (fun h30=>?_) (fun h30=>?_)
        ·refine V U U (Ah U LT U) (V U U (Aj U EY U (H.cellI 1 U U)) (V U U (Ah U LT U) (V U U (Aj U EY U (H.cellI 0 U U)) (sc (Kt (.slice A1 xse.length c2) (.slice A11 yse.length c12) xse yse) H (lR 0 U (lR 2 U l0)) U U (At JW U U) ?_))))
         rintro _ _ w ⟨rfl,rfl⟩ H
         refine Ad 2 U ?_
         refine AD (d:=68) U (fun h31=>?_) (fun h31=>?_)
         ·refine V U U (Ah U LU U) (V U U (Aj U Db U (H.cellI 1 U U)) (V U U (Ah U LU U) (V U U (Aj U Db U (H.cellI 0 U U)) (sc (RM (.slice A6 xpr.length c7) (.slice A16 ypr.length c17) xpr ypr) H (lR 1 U (lR 3 U l0)) U U (At Px U U) ?_))))
          rintro _ _ w ⟨rfl,rfl⟩ H
          refine Ad 2 U (Aa (Y (Ai (Am U U ?_))))
          have e:xpr=ypr↔x.p xse xpr=y.p yse ypr:=⟨fun h=>Fo.2 ⟨by assumption,by assumption,by assumption,by assumption,by assumption,by assumption,by assumption,by assumption,by assumption,h⟩,fun h=>(Fo.1 h).2.2.2.2.2.2.2.2.2⟩
          replace H:=H.nil
          exact Ag ⟨congrArg Value.bool (decide_eq_decide.2 e),rfl⟩ H
         refine Ad 7 U (Aa (Y (Ai (Am U U ?_))))
         have e:¬ x.p xse xpr=y.p yse ypr:=fun h=>by obtain ⟨g1,g2,g3,g4,g5,g6,g7,g8,g9,g10⟩:=Fo.1 h;first |exact absurd g1 h31|exact absurd g2 h31|exact absurd g3 h31|exact absurd g4 h31|exact absurd g5 h31|exact absurd g6 h31|exact absurd g7 h31|exact absurd g8 h31|exact absurd g9 h31|exact absurd g10 h31
         replace H:=H.nil
         exact Ag ⟨congrArg Value.bool (decide_eq_false e).symm,rfl⟩ H
        refine Ad 12 U (Ad 2 U (Aa (Y (Ai (Am U U ?_)))))
        have e:¬ x.p xse xpr=y.p yse ypr:=fun h=>by obtain ⟨g1,g2,g3,g4,g5,g6,g7,g8,g9,g10⟩:=Fo.1 h;first |exact absurd g1 h30|exact absurd g2 h30|exact absurd g3 h30|exact absurd g4 h30|exact absurd g5 h30|exact absurd g6 h30|exact absurd g7 h30|exact absurd g8 h30|exact absurd g9 h30|exact absurd g10 h30
        replace H:=H.nil
        exact Ag ⟨congrArg Value.bool (decide_eq_false e).symm,rfl⟩ H
       refine Ad 12 U (Ad 9 U (Aa (Y (Ai (Am U U ?_)))))
       have e:¬ x.p xse xpr=y.p yse ypr:=fun h=>by obtain ⟨g1,g2,g3,g4,g5,g6,g7,g8,g9,g10⟩:=Fo.1 h;first |exact absurd g1 h29|exact absurd g2 h29|exact absurd g3 h29|exact absurd g4 h29|exact absurd g5 h29|exact absurd g6 h29|exact absurd g7 h29|exact absurd g8 h29|exact absurd g9 h29|exact absurd g10 h29
       replace H:=H.nil
       exact Ag ⟨congrArg Value.bool (decide_eq_false e).symm,rfl⟩ H
      refine Ad 12 U (Ad 12 U (Ad 4 U (Aa (Y (Ai (Am U U ?_))))))
      have e:¬ x.p xse xpr=y.p yse ypr:=fun h=>by obtain ⟨g1,g2,g3,g4,g5,g6,g7,g8,g9,g10⟩:=Fo.1 h;first |exact absurd g1 h28|exact absurd g2 h28|exact absurd g3 h28|exact absurd g4 h28|exact absurd g5 h28|exact absurd g6 h28|exact absurd g7 h28|exact absurd g8 h28|exact absurd g9 h28|exact absurd g10 h28
      replace H:=H.nil
      exact Ag ⟨congrArg Value.bool (decide_eq_false e).symm,rfl⟩ H
     refine Ad 7 U (Aa (Y (Z (Ac (Ad 12 U (Ad 12 U (Ad 6 U (Aa (Y (Ai (Am U U ?_)))))))))))
     have e:¬ x.p xse xpr=y.p yse ypr:=fun h=>by obtain ⟨g1,g2,g3,g4,g5,g6,g7,g8,g9,g10⟩:=Fo.1 h;first |exact absurd g1 h27|exact absurd g2 h27|exact absurd g3 h27|exact absurd g4 h27|exact absurd g5 h27|exact absurd g6 h27|exact absurd g7 h27|exact absurd g8 h27|exact absurd g9 h27|exact absurd g10 h27
     replace H:=H.nil
     exact Ag ⟨congrArg Value.bool (decide_eq_false e).symm,rfl⟩ H
    refine Ad 12 U (Ad 2 U (Aa (Y (Z (Ac (Ad 12 U (Ad 12 U (Ad 6 U (Aa (Y (Ai (Am U U ?_))))))))))))
    have e:¬ x.p xse xpr=y.p yse ypr:=fun h=>by obtain ⟨g1,g2,g3,g4,g5,g6,g7,g8,g9,g10⟩:=Fo.1 h;first |exact absurd g1 h26|exact absurd g2 h26|exact absurd g3 h26|exact absurd g4 h26|exact absurd g5 h26|exact absurd g6 h26|exact absurd g7 h26|exact absurd g8 h26|exact absurd g9 h26|exact absurd g10 h26
    replace H:=H.nil
    exact Ag ⟨congrArg Value.bool (decide_eq_false e).symm,rfl⟩ H
   refine Ad 12 U (Ad 9 U (Aa (Y (Z (Ac (Ad 12 U (Ad 12 U (Ad 6 U (Aa (Y (Ai (Am U U ?_))))))))))))
   have e:¬ x.p xse xpr=y.p yse ypr:=fun h=>by obtain ⟨g1,g2,g3,g4,g5,g6,g7,g8,g9,g10⟩:=Fo.1 h;first |exact absurd g1 h25|exact absurd g2 h25|exact absurd g3 h25|exact absurd g4 h25|exact absurd g5 h25|exact absurd g6 h25|exact absurd g7 h25|exact absurd g8 h25|exact absurd g9 h25|exact absurd g10 h25
   replace H:=H.nil
   exact Ag ⟨congrArg Value.bool (decide_eq_false e).symm,rfl⟩ H
  refine Ad 12 U (Ad 12 U (Ad 4 U (Aa (Y (Z (Ac (Ad 12 U (Ad 12 U (Ad 6 U (Aa (Y (Ai (Am U U ?_)))))))))))))
  have e:¬ x.p xse xpr=y.p yse ypr:=fun h=>by obtain ⟨g1,g2,g3,g4,g5,g6,g7,g8,g9,g10⟩:=Fo.1 h;first |exact absurd g1 h24|exact absurd g2 h24|exact absurd g3 h24|exact absurd g4 h24|exact absurd g5 h24|exact absurd g6 h24|exact absurd g7 h24|exact absurd g8 h24|exact absurd g9 h24|exact absurd g10 h24
  replace H:=H.nil
  exact Ag ⟨congrArg Value.bool (decide_eq_false e).symm,rfl⟩ H
 refine Ad 12 U (Ad 12 U (Ad 11 U (Aa (Y (Z (Ac (Ad 12 U (Ad 12 U (Ad 6 U (Aa (Y (Ai (Am U U ?_)))))))))))))
 have e:¬ x.p xse xpr=y.p yse ypr:=fun h=>by obtain ⟨g1,g2,g3,g4,g5,g6,g7,g8,g9,g10⟩:=Fo.1 h;first |exact absurd g1 h23|exact absurd g2 h23|exact absurd g3 h23|exact absurd g4 h23|exact absurd g5 h23|exact absurd g6 h23|exact absurd g7 h23|exact absurd g8 h23|exact absurd g9 h23|exact absurd g10 h23
 replace H:=H.nil
 exact Ag ⟨congrArg Value.bool (decide_eq_false e).symm,rfl⟩ H
def En (c n:Int):Int:=min (max n 0) c
def FX (c e x ep n:Int):Bool:=decide (max e 1≤ep∧¬ (ep=e∧En c n≤x))
def G0 (c e x ep n:Int):Int:=if FX c e x ep n=true then ep else e
def G3 (c e x ep n:Int):Int:=if FX c e x ep n=true then En c n else x
theorem Im {c e x ep n:Int} (h:max e 1≤ep∧¬ (ep=e∧En c n≤x)):FX c e x ep n=true∧G0 c e x ep n=ep∧G3 c e x ep n=En c n:=by
 have hb:FX c e x ep n=true:=decide_eq_true h
 exact ⟨hb,if_pos hb,if_pos hb⟩
theorem Hz {c e x ep n:Int} (h:¬ (max e 1≤ep∧¬ (ep=e∧En c n≤x))):FX c e x ep n=false∧G0 c e x ep n=e∧G3 c e x ep n=x:=by
 have hb:FX c e x ep n=false:=decide_eq_false h
 exact ⟨hb,if_neg (by rw [hb];decide),if_neg (by rw [hb];decide)⟩
theorem Sv {c e x ep n:Int} (hc:0≤c) (hx:0≤x∧x≤c) (he:0≤e) (h1:e≤9223372036854775807) (h2:AF ep):
  (0≤G3 c e x ep n∧G3 c e x ep n≤c)∧0≤G0 c e x ep n∧G0 c e x ep n≤9223372036854775807:=by
 unfold AF at h2
 by_cases h:max e 1≤ep∧¬ (ep=e∧En c n≤x)
 ·obtain ⟨_,a,b⟩:=Im h
  rw [a,b]
  unfold En at *
  omega
 ·obtain ⟨_,a,b⟩:=Hz h
  rw [a,b]
  omega
def Gf (x:Int) (k:Nat):List Int:=(List.range k).map fun (i:Nat)=>x+(i:Int)
theorem KJ (x:Int) (k:Nat):(Gf x k).length=k:=by simp [Gf]
theorem Sf (x:Int) (k:Nat):Gf x (k+1)=Gf x k++[x+(k:Int)]:=by simp [Gf,List.range_succ]
def CQ (c s x:Int):List Int:=Gf x (min s (c - x)).toNat
theorem Xp (c s x:Int):(CQ c s x).length=(min s (c - x)).toNat:=KJ _ _
def Ct (n:Nat):List UInt8:=(List.range 8).map fun i=>UInt8.ofNat (n / 256^(7 - i))
def EM (l:List UInt8):Nat:=l.foldl (fun n x=>n*256+x.toNat) 0
theorem Fy (n:Nat):(Ct n).length=8:=by simp [Ct]
theorem SK (n:Nat):Ct n=[UInt8.ofNat (n / 72057594037927936),UInt8.ofNat (n / 281474976710656),UInt8.ofNat (n / 1099511627776),UInt8.ofNat (n / 4294967296),UInt8.ofNat (n / 16777216),UInt8.ofNat (n / 65536),UInt8.ofNat (n / 256),UInt8.ofNat (n / 1)]:=rfl
theorem YJ {n:Nat} (h:n<18446744073709551616):EM (Ct n)=n:=by
 rw [SK]
 simp only [EM,List.foldl_cons,List.foldl_nil,UInt8.toNat_ofNat']
 omega
theorem YK:∀ (l:List UInt8) (k:Nat),EM l<256^l.length:=by
 intro l _
 have:∀ (l:List UInt8) (n m:Nat),n<256^m→l.foldl (fun n x=>n*256+x.toNat) n<256^(m+l.length):=by
  intro l
  induction l with
  |nil=>intro n m h;exact h
  |cons x l ih=>
   intro n m h
   have hx:=UInt8.toNat_lt x
   have:=ih (n*256+x.toNat) (m+1) (by rw [Nat.pow_succ];omega)
   rw [List.foldl_cons,List.length_cons,show m+(l.length+1)=m+1+l.length by omega]
   exact this
 have:=this l 0 0 (by decide)
 rwa [Nat.zero_add] at this
theorem YL (l:List UInt8) (x:UInt8):EM (l++[x])=EM l*256+x.toNat:=by
 unfold EM;rw [List.foldl_append];rfl
def Cu (s:ByteArray):List UInt8:=s.data.toList
def Da (s:ByteArray):List UInt8:=Ct s.size++Cu s
theorem Gj (s:ByteArray):(Cu s).length=s.size:=by unfold Cu;exact Array.length_toList
theorem If (s:ByteArray):(Da s).length=8+s.size:=by unfold Da;rw [List.length_append,Fy,Gj]
def FP (l:List UInt8):ByteArray:=⟨l.toArray⟩
theorem ZS (s:ByteArray):FP (Cu s)=s:=by cases s;simp [FP,Cu]
theorem SW (l:List UInt8):Cu (FP l)=l:=by simp [FP,Cu]
def Gw (b:List UInt8) (at_:Int):Option (Int×Int):=
 if at_<0∨(b.length:Int)<at_∨(b.length:Int) - at_<8 then none else some (IntKind.i64.wrap (EM ((b.drop at_.toNat).take 8):Nat),at_+8)
def IS (b:List UInt8) (at_:Int):Option (ByteArray×Int):=
 match Gw b at_ with
 |none=>none
 |some (n,next)=>if n<0∨(b.length:Int) - next<n then none else some (FP ((b.drop next.toNat).take n.toNat),next+n)
theorem Q8 {a c:List UInt8} {n k:Nat} (hn:n<9223372036854775808) (hk:a.length=k):Gw (a++(Ct n++c)) (k:Int)=some ((n:Int),((k+8:Nat):Int)):=by
 subst hk
 unfold Gw
 rw [if_neg (by rw [List.length_append,List.length_append,Fy];omega)]
 have h1:((a++(Ct n++c)).drop ((a.length:Nat):Int).toNat).take 8=Ct n:=by
  rw [Int.toNat_natCast,List.drop_left,←Fy n,List.take_left]
 rw [h1,YJ (by omega),Ay (by omega) (by omega)]
 rfl
theorem Q9 {a c:List UInt8} {s:ByteArray} {k:Nat} (hs:s.size<9223372036854775808) (hk:a.length=k):IS (a++(Da s++c)) (k:Int)=some (s,((k+8+s.size:Nat):Int)):=by
 unfold IS
 have h:a++(Da s++c)=a++(Ct s.size++(Cu s++c)):=by unfold Da;rw [List.append_assoc]
 rw [h,Q8 hs hk]
 dsimp only
 rw [if_neg (by rw [List.length_append,List.length_append,List.length_append,Fy,Gj];omega)]
 have h2:(a++(Ct s.size++(Cu s++c))).drop ((k+8:Nat):Int).toNat=Cu s++c:=by
  rw [Int.toNat_natCast,←List.append_assoc,show k+8=(a++Ct s.size).length by rw [List.length_append,Fy,hk],List.drop_left]
 rw [h2,Int.toNat_natCast,←Gj s,List.take_left,ZS,Gj]
 rfl
def CC (ps:List An):List UInt8:=ps.flatMap fun p=>Da p.key++Da p.val
def FK (ps:List An):List UInt8:=Ct ps.length++CC ps
theorem Qy (ps:List An) (p:An):CC (ps++[p])=CC ps++(Da p.key++Da p.val):=by unfold CC;rw [List.flatMap_append];simp
theorem Qz {ps:List An} {k:Nat} {p:An} (h:ps[k]?=some p):CC ps=CC (ps.take k)++(Da p.key++(Da p.val++CC (ps.drop (k+1)))):=by
 obtain ⟨hl,e⟩:=List.getElem?_eq_some_iff.1 h
 have:ps=ps.take k++p::ps.drop (k+1):=by rw [←e,←List.drop_eq_getElem_cons hl,List.take_append_drop]
 conv=>lhs;rw [this]
 unfold CC
 rw [List.flatMap_append,List.flatMap_cons,List.append_assoc]
def ET (x:UInt8):List Value:=[.int .u8 x.toNat]
def Cx:Kd UInt8:=flat ET 1 (by omega) (fun _=>rfl) (fun _ c h=>by simp [ET] at h;subst h;rfl)
structure Bh where
 c:Int
 s:Int
 e:Int
 x:Int
def Fp (w:Bh):Prop:=(0≤w.c∧w.c≤40∧1≤w.s∧w.s≤4)∧(0≤w.x∧w.x≤w.c)∧0≤w.e∧w.e≤9223372036854775807
def Fk (w:Bh) (ep n:Int):Bh:=⟨w.c,w.s,G0 w.c w.e w.x ep n,G3 w.c w.e w.x ep n⟩
theorem St {w:Bh} {ep n:Int} (h:Fp w) (he:AF ep):Fp (Fk w ep n):=by
 obtain ⟨h1,h2,h3,h4⟩:=h
 have:=Sv (n:=n) h1.1 h2 h3 h4 he
 exact ⟨h1,this.1,this.2⟩
def CA (chunk att:Int):Int:=if att.tmod 2≠0 then chunk+1 else chunk
def CK (n size:Int):Int:=if n<1∨size<1 then 0 else (n - 1).tdiv size+1
def C9 (ps:List An) (size q:Int):List An:=if q<0∨CK ps.length size≤q then [] else (ps.drop (q*size).toNat).take size.toNat
def BO (D:Bc) (J:AR) (s:Nat) (att:Int):List Int:=
 if (AB D J s).2≠0 then [] else (List.range J.parts.toNat).map fun (p:Nat)=>CK ((BE D J s p).length:Nat) (CA J.chunk att)
structure Ca where
 sp:Nat
 att:Int
 ws:List Bh
def Df (D:Bc) (J:AR) (s:Nat) (att:Int):Ca:=⟨s,att,(BO D J s att).map fun n=>⟨n,J.window,0,0⟩⟩
def BF (D:Bc) (J:AR) (s:Nat) (att p q:Int):List An:=if p<0 then [] else C9 (BE D J s p) (CA J.chunk att) q
def Dz (D:Bc) (J:AR) (s:Nat) (att:Int) (w:Bh) (p:Nat):List DF:=
 (CQ w.c w.s w.x).map fun q=>⟨2,s,att,p,q,0,0,0,[],BF D J s att p q⟩
def C6 (D:Bc) (J:AR) (s:Nat) (att:Int):List Bh→Nat→List DF
 |[],_=>[]
 |w::ws,p=>Dz D J s att w p++C6 D J s att ws (p+1)
def Hg (D:Bc) (J:AR) (m:Ca):List DF:=C6 D J m.sp m.att m.ws 0
def Il (m:Ca) (p:Int):Prop:=0≤p∧p<m.ws.length
instance (m:Ca) (p:Int):Decidable (Il m p):=by unfold Il;infer_instance
def D7 (m:Ca) (p ep n:Int):Ca×Bool:=
 if Il m p then match m.ws[p.toNat]? with
  |some w=>({ m with ws:=m.ws.set p.toNat (Fk w ep n) },FX w.c w.e w.x ep n)
  |none=>(m,false)
 else (m,false)
def E2 (m:Ca):Bool:=m.ws.all fun w=>decide (w.x=w.c)
theorem Tc {n size:Int} (h1:1≤n) (h2:1≤size):1≤CK n size∧CK n size≤n:=by
 unfold CK
 rw [if_neg (by omega)]
 have h3:(n - 1).tdiv size=(n - 1) / size:=Int.tdiv_eq_ediv_of_nonneg (by omega)
 rw [h3]
 have h4:0≤(n - 1) / size:=Int.ediv_nonneg (by omega) (by omega)
 have h5:(n - 1) / size≤n - 1:=Int.ediv_le_self _ (by omega)
 omega
theorem NT {n size:Int} (h:0≤n):0≤CK n size∧CK n size≤n:=by
 by_cases h1:n<1∨size<1
 ·unfold CK;rw [if_pos h1];omega
 ·have:=Tc (n:=n) (size:=size) (by omega) (by omega);omega
theorem Ls {chunk att:Int} (h:1≤chunk∧chunk≤7):1≤CA chunk att∧CA chunk att≤8:=by
 unfold CA;split<;>omega
theorem Lo (D:Bc) (J:AR) (s:Nat) (att:Int):(BO D J s att).length=if (AB D J s).2≠0 then 0 else J.parts.toNat:=by
 unfold BO
 split
 ·rfl
 ·simp
theorem N0 {D:Bc} {J:AR} {s:Nat} {att n:Int} (h:n∈BO D J s att):0≤n∧n≤40:=by
 unfold BO at h
 split at h
 ·cases h
 ·obtain ⟨p,_,rfl⟩:=List.mem_map.1 h
  have h1:=NT (n:=((BE D J s p).length:Nat)) (size:=CA J.chunk att) (by omega)
  have h2:=GQ D J s p
  omega
theorem W6 {D:Bc} {J:AR} (hJ:B3 J) (s:Nat) (att:Int):∀ w∈(Df D J s att).ws,Fp w:=by
 intro w hw
 obtain ⟨n,hn,rfl⟩:=List.mem_map.1 hw
 have:=N0 hn
 have:=hJ.window1
 exact ⟨⟨by (try dsimp only);omega,by (try dsimp only);omega,by (try dsimp only);omega,by (try dsimp only);omega⟩,⟨by (try dsimp only);omega,by (try dsimp only);omega⟩,by (try dsimp only);omega,by (try dsimp only);omega⟩
end Go.Proofs.YthgehekecfpikaaGreatDoor.X
