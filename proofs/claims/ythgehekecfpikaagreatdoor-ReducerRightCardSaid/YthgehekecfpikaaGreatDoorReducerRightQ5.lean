/- ReducerRight: texts N3, N4, XOrd, N5, XRecO, XTwo, XOkR, XRedL, XRedO, XAct, L1, XCat, S1, S2, N7, joined by a program of ours; what nothing names is left out. -/
import Derived.Test.YthgehekecfpikaaGreatDoorReducerRightQ4
import Derived.KernelRfl
set_option linter.unusedVariables false
set_option linter.unusedSimpArgs false
set_option maxHeartbeats 8000000
namespace Go.Proofs.YthgehekecfpikaaGreatDoor.X
open Go
theorem HL (r:Nat) (A:Option Addr) (c:Nat) (vM2:Value) (vC2:Value) (vR2:Value) (vK2:Value) (J2:AG) (cw:Int) (ct:Int) (co:Int) (part:Int) (ep:Int) (R:AC) (hv:Nat→Value) (sb:Nat) (vs:Value) (hus6:J2.us.length≤6):
    Cn Tryz.prog 51 [.pointer (some ⟨r,0,none⟩)] [] [blk r (AJ (.slice A J2.us.length c) vM2 vC2 vR2 vK2 J2 cw ct co part ep R.g hv sb vs) 185] (fun v Bs=>Bs=[Y (Ai .i64) v (Av J2.us.length R)]):=by
 intro w0 F0 H
 refine enter Tryz.func51 U U (Nat.le_of_ble_eq_true U) (Ab (Ae (Ad U (Ac (Z (Ab (Ab (Ae (Ad U (V U U (C5 U HZ U U) (Ac (Z (B9 U (Aw (Z (Ab (Ae (Ad U (Ac (Z (Ab (Ab (Ae (Ad U (V U U (AI U U) (V U U (Aj U Gs U) (V U U (Aj U Cu U) (V U U (Aj U Dw U) (V U U (Ao U Dy U (H.cellRI 0 U U)) (V U U (A8 U Dz U) (Ad U (Ac (Z (AW ?_))))))))))))))))))))))))))))))))))
 replace H:=H.newnil (Ai .i64)
 refine BT (σ:=Nat×Value) (fun (k,q)=>[(0,.pointer (some ⟨r,0,none⟩)),(2,.slice none 0 0),(3,q),(13,.int .i64 ((J2.us.length:Nat):Int)),(14,.int .i64 ((k:Nat):Int))]) (fun (k,q) w=>(Hd w0 F0 w [Y (Ai .i64) q (Av k R)] [blk r (AJ (.slice A J2.us.length c) vM2 vC2 vR2 vK2 J2 cw ct co part ep R.g hv sb vs) 185])∧(k≤J2.us.length)) (fun (k,q)=>J2.us.length - k) (0,.slice none 0 0) ⟨rfl,rfl,rfl,rfl,rfl,trivial⟩ ⟨H,Nat.zero_le _⟩ ?_
 rintro ⟨k,q⟩ w ⟨H,hk⟩
 have hml:=Jl k R
 refine Ab (Ae (V U U (Bd U U U) (Ac (Z (Ab ?_)))))
 refine Az U (fun h1=>?_) (fun h1=>?_)
 ·refine Aw (Z (Ab (AW (Ab (Ae (Ah 2 U (Ac (Z (Ab (Ae (Ah 2 U (V U U (AI U U) (V U U (Aj U I9 U) (V U U (Hc (p:=14+k*5) U JH Jg U U (by omega) (by omega) (by omega)) (V U U (Aj U FL U) (V U U (Ao U DE U (H.cellRI 0 U (GF (by omega)))) (Ac (Z ?_))))))))))))))))))
  refine Dv (b:=(R.g k).merged) U (fun h2=>?_) (fun h2=>?_)
  ·refine Ae (Ah 2 U (BU (parts:=[(0,.tmp 25)]) (vs:=[.int .i64 ((k:Nat):Int)]) (cs:=[.int .i64 ((k:Nat):Int)]) U U U Ds GK U (by decide) (by decide) U U H (fun b3 w H=>?_)))
   replace H:=H.p1
   refine CG (xs:=Av k R) (ys:=[((k:Nat):Int)]) U U U Ds GK U (by decide) U U H (by first |omega|(simp only [List.length_append,List.length_cons,List.length_nil];omega)) (fun F hA hR=>Ch (hA _ (List.mem_of_getElem? (i:=0) U)) U (by decide) (AZ.flat_eq.2 U)) (fun v4 w H=>(Ad U (Ac (A_ (Z ?_)))))
   replace H:Hd _ _ _ [Y (Ai .i64) v4 ((Av k R)++[((k:Nat):Int)]),blk b3 [.int .i64 ((k:Nat):Int)] 3] [blk r (AJ (.slice A J2.us.length c) vM2 vC2 vR2 vK2 J2 cw ct co part ep R.g hv sb vs) 185]:=H
   refine Ae (V U U (A0 (z:=((k+1:Nat):Int)) U U U (by rw [AF (by omega) (by omega)];omega)) (Ad U (Ac ?_)))
   replace H:=H.k1
   replace H:Hd w0 F0 w [Y (Ai .i64) v4 (Av (k+1) R)] [blk r (AJ (.slice A J2.us.length c) vM2 vC2 vR2 vK2 J2 cw ct co part ep R.g hv sb vs) 185]:=by rw [PR,if_pos h2];exact H
   exact Bl (s:=(k,undef)) (k+1,v4) ⟨rfl,rfl,rfl,rfl,rfl,trivial⟩ ⟨H,by (try dsimp only);omega⟩ (by (try dsimp only);omega)
  refine Aw (A_ (Z (Ae (V U U (A0 (z:=((k+1:Nat):Int)) U U U (by rw [AF (by omega) (by omega)];omega)) (Ad U (Ac ?_))))))
  replace H:Hd w0 F0 w [Y (Ai .i64) q (Av (k+1) R)] [blk r (AJ (.slice A J2.us.length c) vM2 vC2 vR2 vK2 J2 cw ct co part ep R.g hv sb vs) 185]:=by rw [PR,if_neg (by rw [h2];exact Bool.false_ne_true),List.append_nil];exact H
  exact Bl (s:=(k,undef)) (k+1,q) ⟨rfl,rfl,rfl,rfl,rfl,trivial⟩ ⟨H,by (try dsimp only);omega⟩ (by (try dsimp only);omega)
 refine BM (AR (AR (BN (Z (Ab (Ae (Ah 2 U (Ac (Z (Ap (Aq U U ?_)))))))))))
 have hkk:k=J2.us.length:=by omega
 replace H:Hd w0 F0 w [Y (Ai .i64) q (Av J2.us.length R)] [blk r (AJ (.slice A J2.us.length c) vM2 vC2 vR2 vK2 J2 cw ct co part ep R.g hv sb vs) 185]:=by rw [hkk] at H;exact H
 exact Am U H
theorem Zs (vp:Value) (p:List BG) (fuel:Int) (vus:Value) (us:List (Value×List Al)) (hpa:∀ i∈p,Ax i.a) (hfu:Ax fuel) (hb:(BK us).length≤1000000):
    Cn Tryz.prog 180 [vp,.int .i64 fuel,vus] [] [Aa Af vp p,Aa (Ak Ag) vus us,gl] (fun v Bs=>∃ u:Value,v=.tuple #[u,.int .i64 ((BX dg p (srt (BK us)) fuel false).2)]∧Bs=[Y Ag u ((BX dg p (srt (BK us)) fuel false).1)]):=by
 intro w0 F0 H
 obtain ⟨A1,c2,rfl,hc3,hm4,hp5⟩:=H.fR 0 rfl
 obtain ⟨A6,c7,rfl,hc8,hm9,hp10⟩:=H.fR 1 rfl
 refine enter Tryz.func180 U U (Nat.le_of_ble_eq_true U) (Ab (Ae (Ah 2 U (Ac (Z ?_)))))
 replace H:Hd _ _ _ [] [Aa Af (.slice A1 p.length c2) p,Aa (Ak Ag) (.slice A6 us.length c7) us,gl]:=H
 refine Ab (Ae (Ah 2 U (sc (Q_ (.slice A6 us.length c7) us (by first |omega|decide|exact Nat.le_trans (GW _ _) (by omega)|exact Nat.le_trans (Oq _ _) (by omega)|(simp only [BK,List.flatMap_cons,List.flatMap_nil,List.append_nil,Fq];omega))) H (lR 1 U l0) U U (At O7 U U) ?_)))
 rintro v11 _ w rfl H
 replace H:=H.h1 (A:=Y Ag v11 (srt (BK us)))
 refine Ad U (sc (OF (.slice A1 p.length c2) p v11 (srt (BK us)) fuel (by first |exact hpa|exact C8|assumption) (by first |assumption|(unfold Ax;omega)) (by first |omega|(simp only [Fq];omega))) H (lR 0 U (lA 0 U BE (lR 2 U l0))) U U (At O6 U U) ?_)
 rintro _ _ w ⟨u12,rfl,rfl⟩ H
 replace H:=H.h1 (A:=Y Ag u12 ((BX dg p (srt (BK us)) fuel false).1))
 refine Ah 4 U (Ac (Z (Ap (Cm U U U ?_))))
 replace H:=H.k1
 exact Am ⟨u12,rfl,rfl⟩ H
theorem P3 (r:Nat) (A:Option Addr) (c:Nat) (vM2:Value) (vC2:Value) (vR2:Value) (vK2:Value) (J2:AG) (cw:Int) (ct:Int) (co:Int) (part:Int) (ep:Int) (R:AC) (hv:Nat→Value) (sb:Nat) (vs:Value) (vset:Value) (set:List Int) (hred:∀ i∈J2.red,Ax i.a) (hf64:Ax J2.fuel) (hus6:J2.us.length≤6) (hbp:∀ i,(R.g i).pairs.length≤1000):
    Cn Tryz.prog 131 [.pointer (some ⟨r,0,none⟩),vset] [] [blk r (AJ (.slice A J2.us.length c) vM2 vC2 vR2 vK2 J2 cw ct co part ep R.g hv sb vs) 185,AO (R.g) hv,Aa (Ai .i64) vset set,Aa Af vR2 J2.red,gl] (fun v Bs=>∃ u:Value,v=.tuple #[u,.int .i64 ((BX dg J2.red (srt (Ck J2.us.length R set)) J2.fuel false).2)]∧Bs=[Y Ag u ((BX dg J2.red (srt (Ck J2.us.length R set)) J2.fuel false).1)]):=by
 intro w0 F0 H
 obtain ⟨A1,c2,rfl,hc3,hm4,hp5⟩:=H.fR 2 rfl
 obtain ⟨A6,c7,rfl,hc8,hm9,hp10⟩:=H.fR 3 rfl
 refine enter Tryz.func131 U U (Nat.le_of_ble_eq_true U) (Ab (Ae (Ah 2 U (Ac (Z ?_)))))
 replace H:Hd _ _ _ [] [blk r (AJ (.slice A J2.us.length c) vM2 vC2 (.slice A6 J2.red.length c7) vK2 J2 cw ct co part ep R.g hv sb vs) 185,AO (R.g) hv,Aa (Ai .i64) (.slice A1 set.length c2) set,Aa Af (.slice A6 J2.red.length c7) J2.red,gl]:=H
 refine Ab (Ae (Ad U (Ac (Z (Ab (Ab (Ae (Ad U (V U U (AI U U) (V U U (Aj U Gs U) (V U U (Aj U Cu U) (V U U (Aj U Dw U) (V U U (Ao U Dy U (H.cellRI 0 U U)) (V U U (A8 U Dz U) (Ad U (Ac (Z (AW ?_))))))))))))))))))
 replace H:=H.newnil Dq|>.h1 (A:=Y Dq (.slice none 0 0) (Br (DB R.g hv set 0)))
 refine BT (σ:=Nat×Value) (fun (k,q)=>[(0,.pointer (some ⟨r,0,none⟩)),(1,.slice A1 set.length c2),(4,.slice none 0 0),(5,.int .i64 0),(6,q),(14,.int .i64 ((J2.us.length:Nat):Int)),(15,.int .i64 ((k:Nat):Int))]) (fun (k,q) w=>(Hd w0 F0 w [Y Dq q (Br (DB R.g hv set k))] [blk r (AJ (.slice A J2.us.length c) vM2 vC2 (.slice A6 J2.red.length c7) vK2 J2 cw ct co part ep R.g hv sb vs) 185,AO (R.g) hv,Aa (Ai .i64) (.slice A1 set.length c2) set,Aa Af (.slice A6 J2.red.length c7) J2.red,gl])∧(k≤J2.us.length)) (fun (k,q)=>J2.us.length - k) (0,.slice none 0 0) ⟨rfl,rfl,rfl,rfl,rfl,rfl,rfl,trivial⟩ ⟨H,Nat.zero_le _⟩ ?_
 rintro ⟨k,q⟩ w ⟨H,hk⟩
 have hpl:=XK R.g hv set k
 have hhl:(Br (DB R.g hv set k)).length=(DB R.g hv set k).length:=by simp [Br]
 refine Ab (Ae (V U U (Bd U U U) (Ac (Z (Ab ?_)))))
 refine Az U (fun h11=>?_) (fun h11=>?_)
 ·refine Aw (Z (Ab (AW (Ab (Ae (Ah 2 U (Ac (Z (Ab (Ae (Ah 2 U (V U U (AI U U) (V U U (Aj U I9 U) (V U U (Hc (p:=14+k*5) U JH Jg U U (by omega) (by omega) (by omega)) (V U U (Aj U FL U) (V U U (Ao U DE U (H.cellRI 0 U (GF (by omega)))) (Ad U ?_)))))))))))))))))
  refine Es (d:=25) (b:=(R.g k).merged) U (fun h12=>?_) (fun h12=>?_)
  ·refine Ah 2 U (sc (JT (.slice A1 set.length c2) set ((k:Nat):Int)) H (lR 2 U l0) U U (At Kc U U) ?_)
   rintro _ _ w ⟨rfl,rfl⟩ H
   refine Ad U (Ac (Z ?_))
   refine Az U (fun h13=>?_) (fun h13=>?_)
   ·refine Ae (Ah 3 U (V U U (AI U U) (V U U (Aj U I9 U) (V U U (Hc (p:=14+k*5) U JH Jg U U (by omega) (by omega) (by omega)) (V U U (Aj U J7 U) ?_)))))
    obtain ⟨A14,c15,e16,_,_,_⟩:=H.prsFormR (i:=k) 1 rfl (by omega)
    refine V U U (Ao U DU U (H.cellRI 0 U ((QK (by omega)).trans (congrArg some e16)))) (BU (parts:=[(0,.tmp 37)]) (vs:=[.slice A14 ((R.g k).pairs.length) c15]) (cs:=[.slice A14 ((R.g k).pairs.length) c15]) U U U Ej Hr U (by decide) (by decide) U U H (fun b17 w H=>?_))
    replace H:=H.p1
    refine CG (xs:=Br (DB R.g hv set k)) (ys:=[(⟨A14,(R.g k).pairs.length,c15⟩:EJ)]) U U U Ej Hr U (by decide) U U H (by first |omega|(simp only [List.length_append,List.length_cons,List.length_nil];omega)) (fun F hA hR=>Ch (hA _ (List.mem_of_getElem? (i:=0) U)) U (by decide) (AZ.flat_eq.2 U)) (fun v18 w H=>(Ad U (Ac (A_ (Z ?_)))))
    replace H:Hd _ _ _ [Y Dq v18 ((Br (DB R.g hv set k))++[(⟨A14,(R.g k).pairs.length,c15⟩:EJ)]),blk b17 [.slice A14 ((R.g k).pairs.length) c15] 35] [blk r (AJ (.slice A J2.us.length c) vM2 vC2 (.slice A6 J2.red.length c7) vK2 J2 cw ct co part ep R.g hv sb vs) 185,AO (R.g) hv,Aa (Ai .i64) (.slice A1 set.length c2) set,Aa Af (.slice A6 J2.red.length c7) J2.red,gl]:=H
    refine Ae (V U U (A0 (z:=((k+1:Nat):Int)) U U U (by rw [AF (by omega) (by omega)];omega)) (Ad U (Ac ?_)))
    replace H:=H.k1
    replace H:Hd w0 F0 w [Y Dq v18 (Br (DB R.g hv set (k+1)))] [blk r (AJ (.slice A J2.us.length c) vM2 vC2 (.slice A6 J2.red.length c7) vK2 J2 cw ct co part ep R.g hv sb vs) 185,AO (R.g) hv,Aa (Ai .i64) (.slice A1 set.length c2) set,Aa Af (.slice A6 J2.red.length c7) J2.red,gl]:=by rw [Mz,if_pos ⟨h12,h13⟩,show Br (DB R.g hv set k++[(hv k,(R.g k).pairs)])=Br (DB R.g hv set k)++[⟨A14,(R.g k).pairs.length,c15⟩] by simp [Br,FB,e16]];exact H
    exact Bl (s:=(k,undef)) (k+1,v18) ⟨rfl,rfl,rfl,rfl,rfl,rfl,rfl,trivial⟩ ⟨H,by (try dsimp only);omega⟩ (by (try dsimp only);omega)
   refine Aw (A_ (Z (Ae (V U U (A0 (z:=((k+1:Nat):Int)) U U U (by rw [AF (by omega) (by omega)];omega)) (Ad U (Ac ?_))))))
   replace H:Hd w0 F0 w [Y Dq q (Br (DB R.g hv set (k+1)))] [blk r (AJ (.slice A J2.us.length c) vM2 vC2 (.slice A6 J2.red.length c7) vK2 J2 cw ct co part ep R.g hv sb vs) 185,AO (R.g) hv,Aa (Ai .i64) (.slice A1 set.length c2) set,Aa Af (.slice A6 J2.red.length c7) J2.red,gl]:=by rw [Mz,if_neg (fun h=>by first |exact h13 h.2|(rw [h12] at h;cases h.1)),List.append_nil];exact H
   exact Bl (s:=(k,undef)) (k+1,q) ⟨rfl,rfl,rfl,rfl,rfl,rfl,rfl,trivial⟩ ⟨H,by (try dsimp only);omega⟩ (by (try dsimp only);omega)
  refine Ah 4 U (Ac (Z (B9 U (Aw (A_ (Z (Ae (V U U (A0 (z:=((k+1:Nat):Int)) U U U (by rw [AF (by omega) (by omega)];omega)) (Ad U (Ac ?_))))))))))
  replace H:Hd w0 F0 w [Y Dq q (Br (DB R.g hv set (k+1)))] [blk r (AJ (.slice A J2.us.length c) vM2 vC2 (.slice A6 J2.red.length c7) vK2 J2 cw ct co part ep R.g hv sb vs) 185,AO (R.g) hv,Aa (Ai .i64) (.slice A1 set.length c2) set,Aa Af (.slice A6 J2.red.length c7) J2.red,gl]:=by rw [Mz,if_neg (fun h=>by first |exact h12 h.2|(rw [h12] at h;cases h.1)),List.append_nil];exact H
  exact Bl (s:=(k,undef)) (k+1,q) ⟨rfl,rfl,rfl,rfl,rfl,rfl,rfl,trivial⟩ ⟨H,by (try dsimp only);omega⟩ (by (try dsimp only);omega)
 refine BM (AR (AR (BN (Z (Ab (BP (.e 0 (.e 1 (.e 2 (.e 3 (.e 4 (.e 5 (.e 6 (.e 7 (.e 8 (.e 9 (.e 10 (.e 11 (.e 12 (.m 13 (.e 14 (.e 15 (.e 16 (.e 17 .z)))))))))))))))))) (fun w=>∃ Ar,Hd w0 F0 w (Ar) [blk r (AJ (.slice A J2.us.length c) vM2 vC2 (.slice A6 J2.red.length c7) vK2 J2 cw ct co part ep R.g hv sb vs) 185,AO (R.g) hv,Aa (Ai .i64) (.slice A1 set.length c2) set,Aa Af (.slice A6 J2.red.length c7) J2.red,gl]) mo (by kernel_rfl) (fun w H=>⟨_,H⟩) H (fun w H=>(Au U (An U U U (fun w ⟨Ar,H⟩=>AI U U) (An U U U (fun w ⟨Ar,H⟩=>Aj U Gs U) (An U U U (fun w ⟨Ar,H⟩=>Aj U Cu U) (An U U U (fun w ⟨Ar,H⟩=>Aj U HD U) (An U U U (fun w ⟨Ar,H⟩=>Ao U Ee U (H.cellRI 0 U U)) (Au U (An U U U (fun w ⟨Ar,H⟩=>AI U U) ?_)))))))))))))))
 refine An U U U (fun w ⟨Ar,H⟩=>Aj U Gs U) (An U U U (fun w ⟨Ar,H⟩=>Aj U Cu U) (An U U U (fun w ⟨Ar,H⟩=>Aj U Ja U) (An U U U (fun w ⟨Ar,H⟩=>Ao U AE U (H.cellRI 0 U U)) (Au U (AK U ?_)))))
 have hkk:k=J2.us.length:=by omega
 replace H:Hd w0 F0 w [Y Dq q (Br (DB R.g hv set J2.us.length))] [blk r (AJ (.slice A J2.us.length c) vM2 vC2 (.slice A6 J2.red.length c7) vK2 J2 cw ct co part ep R.g hv sb vs) 185,AO (R.g) hv,Aa (Ai .i64) (.slice A1 set.length c2) set,Aa Af (.slice A6 J2.red.length c7) J2.red,gl]:=by rw [hkk] at H;exact H
 have hrb:=Q9 (set:=set) hbp J2.us.length
 have hfl:(BK (DB R.g hv set J2.us.length)).length≤1000000:=by rw [Qh];omega
 refine sc (Zs (.slice A6 J2.red.length c7) J2.red J2.fuel q (DB R.g hv set J2.us.length) hred hf64 hfl) H (lX (fun F hA hR=>hR _ (List.mem_of_getElem? (i:=3) U)) (lX (fun F hA hR=>UA (BE F (hA _ (List.mem_of_getElem? (i:=0) U))) (XL hus6 (hR _ (List.mem_of_getElem? (i:=1) U)))) (lR 4 U l0))) U U (At Vd U U) ?_
 rintro _ _ w ⟨u19,rfl,rfl⟩ H
 rw [Qh] at H ⊢
 replace H:Hd _ _ _ [Y Ag u19 ((BX dg J2.red (srt (Ck J2.us.length R set)) J2.fuel false).1),Y Dq q (Br (DB R.g hv set J2.us.length))] [blk r (AJ (.slice A J2.us.length c) vM2 vC2 (.slice A6 J2.red.length c7) vK2 J2 cw ct co part ep R.g hv sb vs) 185,AO (R.g) hv,Aa (Ai .i64) (.slice A1 set.length c2) set,Aa Af (.slice A6 J2.red.length c7) J2.red,gl]:=H
 refine AH ⟨_,H⟩ (Au U (Au U (Au U (Au U (BH (Z (Ap (Cm U U U ?_))))))))
 replace H:=H.k1
 exact Am ⟨u19,rfl,rfl⟩ H
theorem Mu (r:Nat) (A:Option Addr) (c:Nat) (vM2:Value) (vC2:Value) (vR2:Value) (vK2:Value) (J2:AG) (cw:Int) (ct:Int) (co:Int) (part:Int) (ep:Int) (R:AC) (hv:Nat→Value) (sb:Nat) (vs:Value) (hred:∀ i∈J2.red,Ax i.a) (hf64:Ax J2.fuel) (hus6:J2.us.length≤6) (hbp:∀ i,(R.g i).pairs.length≤1000):
    Cn Tryz.prog 60 [.pointer (some ⟨r,0,none⟩)] [] [blk r (AJ (.slice A J2.us.length c) vM2 vC2 vR2 vK2 J2 cw ct co part ep R.g hv sb vs) 185,AO (R.g) hv,Aa Af vR2 J2.red,gl] (fun v Bs=>∃ u:Value,v=.tuple #[u,.int .i64 ((D3 dg J2 R).2.1),.bool ((D3 dg J2 R).2.2)]∧Bs=[Y Ag u ((D3 dg J2 R).1)]):=by
 intro w0 F0 H
 obtain ⟨A1,c2,rfl,hc3,hm4,hp5⟩:=H.fR 2 rfl
 refine enter Tryz.func60 U U (Nat.le_of_ble_eq_true U) (Ab (Ae (Ah 3 U (Ac (Z ?_)))))
 replace H:Hd _ _ _ [] [blk r (AJ (.slice A J2.us.length c) vM2 vC2 (.slice A1 J2.red.length c2) vK2 J2 cw ct co part ep R.g hv sb vs) 185,AO (R.g) hv,Aa Af (.slice A1 J2.red.length c2) J2.red,gl]:=H
 refine Ab (Ae (Ad U (sc (HL r A c vM2 vC2 (.slice A1 J2.red.length c2) vK2 J2 cw ct co part ep R hv sb vs (by first |assumption|omega)) H (lR 0 U l0) U U (At HK U U) ?_)))
 rintro v6 _ w rfl H
 replace H:=H.h1 (A:=Y (Ai .i64) v6 (Av J2.us.length R))
 refine Ad U (Ac (Z (Ab (Ab (Ae (Ad U (V U U (C5 U HZ U U) (Ah 2 U ?_))))))))
 obtain ⟨A7,c8,rfl,hc9,hm10,hp11⟩:=H.fA 0 rfl
 refine V U U (A8 U DL U) (Ad U (V U U (AI U U) (V U U (Aj U Gs U) (V U U (Aj U Cu U) (V U U (Aj U Dw U) (V U U (Ao U Dy U (H.cellRI 0 U U)) (V U U (A8 U Dz U) (V U U (Bd U U U) (Ad U (Ac (Z ?_)))))))))))
 refine Az U (fun h12=>?_) (fun h12=>?_)
 ·refine Ab (Ae (Ah 3 U (Ac (Z (Ap (AA (Ge U U U U ?_)))))))
  have e:D3 dg J2 R=([],0,false):=if_pos (by omega)
  replace H:=H.newnil Ag|>.k1
  exact Am ⟨(.slice none 0 0),by rw [e]<;>rfl,by rw [e]<;>rfl⟩ H
 refine Aw (Z (Ab (Ae (Ah 2 U (sc (P3 r A c vM2 vC2 (.slice A1 J2.red.length c2) vK2 J2 cw ct co part ep R hv sb vs (.slice A7 ((Av J2.us.length R).length) c8) (Av J2.us.length R) (by first |assumption|omega) (by first |assumption|omega) (by first |assumption|omega) (by first |assumption|omega)) H (lR 0 U (lR 1 U (lA 0 U BE (lR 2 U (lR 3 U l0))))) U U (At O4 U U) ?_)))))
 rintro _ _ w ⟨u13,rfl,rfl⟩ H
 replace H:=H.h1 (A:=Y Ag u13 ((BX dg J2.red (srt (Ck J2.us.length R (Av J2.us.length R))) J2.fuel false).1))
 refine Ah 5 U (Ac (Z (Ab (Ae (Ah 5 U (Ac (Z (Ap (Ge U U U U ?_)))))))))
 have e:D3 dg J2 R=((BX dg J2.red (srt (Ck J2.us.length R (Av J2.us.length R))) J2.fuel false).1,(BX dg J2.red (srt (Ck J2.us.length R (Av J2.us.length R))) J2.fuel false).2,true):=if_neg (by omega)
 replace H:=H.k1
 exact Am ⟨u13,by rw [e]<;>rfl,by rw [e]<;>rfl⟩ H
theorem QQ (vS:Value) (vM:Value) (vC:Value) (vR:Value) (vK:Value) (C:Cf) (p:Int) (ep:Int) (vr:Value) (recs:List AX) (hC:D1 C) (hp:Ax p) (he:Ax ep) (hgo:Io C p≠0∧1≤ep) (hrs:∀ r∈recs,(Ax r.sp∧r.set.length≤1000)∧r.pairs.length≤1000) (hrl:recs.length≤100000):
    Cn Tryz.prog 56 [.agg #[vS,.int .i64 C.J.parts,vM,vC,vR,.int .i64 C.J.chunk,.int .i64 C.J.window,.int .i64 C.J.fuel,vK,.int .i64 C.w,.int .i64 C.t,.int .i64 C.o],.int .i64 p,.int .i64 ep,vr] [] [Aa (Ak Ag) vS C.J.us,Aa Af vM C.J.map,Aa Af vC C.J.comb,Aa Af vR C.J.red,Aa (Ai .i64) vK C.J.marks,Aa Bp vr recs] (fun v Bs=>∃ r:Nat,∃ vS2:Value,∃ vM2:Value,∃ vC2:Value,∃ vR2:Value,∃ vK2:Value,∃ J2:AG,∃ hv:Nat→Value,∃ sb:Nat,∃ vs:Value,∃ us:List (Value×List Int),v=.tuple #[.pointer (some ⟨r,0,none⟩),.int .i64 0]∧Bs=[blk r (AJ vS2 vM2 vC2 vR2 vK2 J2 C.w C.t C.o p ep ((C2 J2.us.length p ep (recs.map AX.p)).g) hv sb vs) 185,Y (Ak Ag) vS2 J2.us,Y Af vM2 J2.map,Y Af vC2 J2.comb,Y Af vR2 J2.red,Y (Ai .i64) vK2 J2.marks,AO ((C2 J2.us.length p ep (recs.map AX.p)).g) hv,Y (Ak (Ai .i64)) vs us,AV 253 sb ([])]∧(BC J2 C.J)∧(us.map (·.2)=(C2 J2.us.length p ep (recs.map AX.p)).sets)):=by
 intro w0 F0 H
 obtain ⟨A1,c2,rfl,hc3,hm4,hp5⟩:=H.fR 0 rfl
 obtain ⟨A6,c7,rfl,hc8,hm9,hp10⟩:=H.fR 1 rfl
 obtain ⟨A11,c12,rfl,hc13,hm14,hp15⟩:=H.fR 2 rfl
 obtain ⟨A16,c17,rfl,hc18,hm19,hp20⟩:=H.fR 3 rfl
 obtain ⟨A21,c22,rfl,hc23,hm24,hp25⟩:=H.fR 4 rfl
 obtain ⟨A26,c27,rfl,hc28,hm29,hp30⟩:=H.fR 5 rfl
 refine enter Tryz.func56 U U (Nat.le_of_ble_eq_true U) (Ab (Ae (Cy U U U U H (fun b31 w H=>(Ah 2 U (Ac (Z ?_)))))))
 replace H:Hd _ _ _ [blk b31 [.slice A1 C.J.us.length c2,.int .i64 C.J.parts,.slice A6 C.J.map.length c7,.slice A11 C.J.comb.length c12,.slice A16 C.J.red.length c17,.int .i64 C.J.chunk,.int .i64 C.J.window,.int .i64 C.J.fuel,.slice A21 C.J.marks.length c22,.int .i64 C.w,.int .i64 C.t,.int .i64 C.o] 28] [Aa (Ak Ag) (.slice A1 C.J.us.length c2) C.J.us,Aa Af (.slice A6 C.J.map.length c7) C.J.map,Aa Af (.slice A11 C.J.comb.length c12) C.J.comb,Aa Af (.slice A16 C.J.red.length c17) C.J.red,Aa (Ai .i64) (.slice A21 C.J.marks.length c22) C.J.marks,Aa Bp (.slice A26 recs.length c27) recs]:=H
 refine Ab (Ab (Ae (V U U (Bu (cs:=[.slice A1 C.J.us.length c2,.int .i64 C.J.parts,.slice A6 C.J.map.length c7,.slice A11 C.J.comb.length c12,.slice A16 C.J.red.length c17,.int .i64 C.J.chunk,.int .i64 C.J.window,.int .i64 C.J.fuel,.slice A21 C.J.marks.length c22,.int .i64 C.w,.int .i64 C.t,.int .i64 C.o]) U Ek U U (H.cellsI 0 U U)) (Ad U (sc (UD (.slice A1 C.J.us.length c2) (.slice A6 C.J.map.length c7) (.slice A11 C.J.comb.length c12) (.slice A16 C.J.red.length c17) (.slice A21 C.J.marks.length c22) C p (by first |assumption|omega)) H (lR 0 U (lR 1 U (lR 2 U (lR 3 U (lR 4 U l0))))) U U (At VY U U) ?_)))))
 rintro _ _ w ⟨rfl,rfl⟩ H
 refine V U U (Bv U U U) (Ad U ?_)
 refine AU (d:=18) U (fun h32=>?_) (fun h32=>?_)
 ·exact (hgo.1 h32).elim
 refine Ad U (V U U (Bd U U U) (Ad U (Ac (Z ?_))))
 replace H:Hd _ _ _ [blk b31 [.slice A1 C.J.us.length c2,.int .i64 C.J.parts,.slice A6 C.J.map.length c7,.slice A11 C.J.comb.length c12,.slice A16 C.J.red.length c17,.int .i64 C.J.chunk,.int .i64 C.J.window,.int .i64 C.J.fuel,.slice A21 C.J.marks.length c22,.int .i64 C.w,.int .i64 C.t,.int .i64 C.o] 28] [Aa (Ak Ag) (.slice A1 C.J.us.length c2) C.J.us,Aa Af (.slice A6 C.J.map.length c7) C.J.map,Aa Af (.slice A11 C.J.comb.length c12) C.J.comb,Aa Af (.slice A16 C.J.red.length c17) C.J.red,Aa (Ai .i64) (.slice A21 C.J.marks.length c22) C.J.marks,Aa Bp (.slice A26 recs.length c27) recs]:=H
 refine Az U (fun h33=>?_) (fun h33=>?_)
 ·exfalso;omega
 refine Aw (Z (Ab (Ae (V U U (Bu (cs:=[.slice A1 C.J.us.length c2,.int .i64 C.J.parts,.slice A6 C.J.map.length c7,.slice A11 C.J.comb.length c12,.slice A16 C.J.red.length c17,.int .i64 C.J.chunk,.int .i64 C.J.window,.int .i64 C.J.fuel,.slice A21 C.J.marks.length c22,.int .i64 C.w,.int .i64 C.t,.int .i64 C.o]) U Ek U U (H.cellsI 0 U U)) (sc (P_ (.slice A1 C.J.us.length c2) (.slice A6 C.J.map.length c7) (.slice A11 C.J.comb.length c12) (.slice A16 C.J.red.length c17) (.slice A21 C.J.marks.length c22) C (by first |assumption|omega)) H (lR 0 U (lR 1 U (lR 2 U (lR 3 U (lR 4 U l0))))) U U (At Py U U) ?_)))))
 rintro _ _ w ⟨J34,vS35,vM36,vC37,vR38,vK39,rfl,rfl,hf40⟩ H
 replace H:=H.h5 (A:=Y (Ak Ag) vS35 J34.us) (B:=Y Af vM36 J34.map) (C:=Y Af vC37 J34.comb) (D:=Y Af vR38 J34.red) (E:=Y (Ai .i64) vK39 J34.marks)
 have hsj:=hf40
 refine Ah 2 U (sc (ZF) H l0 U U (At U3 U U) ?_)
 rintro _ _ w ⟨b41,rfl,rfl⟩ H
 obtain ⟨A42,c43,rfl,hc44,hm45,hp46⟩:=H.fA 1 rfl
 obtain ⟨A47,c48,rfl,hc49,hm50,hp51⟩:=H.fA 2 rfl
 obtain ⟨A52,c53,rfl,hc54,hm55,hp56⟩:=H.fA 3 rfl
 obtain ⟨A57,c58,rfl,hc59,hm60,hp61⟩:=H.fA 4 rfl
 obtain ⟨A62,c63,rfl,hc64,hm65,hp66⟩:=H.fA 5 rfl
 refine V U U (CM (parts:=[(0,.tmp 23),(1,.tmp 24),(2,.tmp 25),(4,.tmp 26)]) (vs:=[.agg #[.slice A42 J34.us.length c43,.int .i64 J34.parts,.slice A47 J34.map.length c48,.slice A52 J34.comb.length c53,.slice A57 J34.red.length c58,.int .i64 J34.chunk,.int .i64 J34.window,.int .i64 J34.fuel,.slice A62 J34.marks.length c63,.int .i64 C.w,.int .i64 C.t,.int .i64 C.o],.int .i64 p,.int .i64 ep,.pointer (some ⟨b41,0,none⟩)]) (cs:=[.slice A42 J34.us.length c43,.int .i64 J34.parts,.slice A47 J34.map.length c48,.slice A52 J34.comb.length c53,.slice A57 J34.red.length c58,.int .i64 J34.chunk,.int .i64 J34.window,.int .i64 J34.fuel,.slice A62 J34.marks.length c63,.int .i64 C.w,.int .i64 C.t,.int .i64 C.o,.int .i64 p,.int .i64 ep,.bool false,.slice none 0 0,.bool false,.int .i64 0,.int .i64 0,.bool false,.slice none 0 0,.bool false,.int .i64 0,.int .i64 0,.bool false,.slice none 0 0,.bool false,.int .i64 0,.int .i64 0,.bool false,.slice none 0 0,.bool false,.int .i64 0,.int .i64 0,.bool false,.slice none 0 0,.bool false,.int .i64 0,.int .i64 0,.bool false,.slice none 0 0,.bool false,.int .i64 0,.int .i64 0,.pointer (some ⟨b41,0,none⟩),.slice none 0 0]) U Sh U U) ?_
 refine Cy U U U U H (fun b67 w H=>(Ad U (Ac (Z ?_))))
 replace H:Hd _ _ _ [blk b67 [.slice A42 J34.us.length c43,.int .i64 J34.parts,.slice A47 J34.map.length c48,.slice A52 J34.comb.length c53,.slice A57 J34.red.length c58,.int .i64 J34.chunk,.int .i64 J34.window,.int .i64 J34.fuel,.slice A62 J34.marks.length c63,.int .i64 C.w,.int .i64 C.t,.int .i64 C.o,.int .i64 p,.int .i64 ep,.bool false,.slice none 0 0,.bool false,.int .i64 0,.int .i64 0,.bool false,.slice none 0 0,.bool false,.int .i64 0,.int .i64 0,.bool false,.slice none 0 0,.bool false,.int .i64 0,.int .i64 0,.bool false,.slice none 0 0,.bool false,.int .i64 0,.int .i64 0,.bool false,.slice none 0 0,.bool false,.int .i64 0,.int .i64 0,.bool false,.slice none 0 0,.bool false,.int .i64 0,.int .i64 0,.pointer (some ⟨b41,0,none⟩),.slice none 0 0] 185,AV 253 b41 ([]),Y (Ak Ag) (.slice A42 J34.us.length c43) J34.us,Y Af (.slice A47 J34.map.length c48) J34.map,Y Af (.slice A52 J34.comb.length c53) J34.comb,Y Af (.slice A57 J34.red.length c58) J34.red,Y (Ai .i64) (.slice A62 J34.marks.length c63) J34.marks,blk b31 [.slice A1 C.J.us.length c2,.int .i64 C.J.parts,.slice A6 C.J.map.length c7,.slice A11 C.J.comb.length c12,.slice A16 C.J.red.length c17,.int .i64 C.J.chunk,.int .i64 C.J.window,.int .i64 C.J.fuel,.slice A21 C.J.marks.length c22,.int .i64 C.w,.int .i64 C.t,.int .i64 C.o] 28] [Aa (Ak Ag) (.slice A1 C.J.us.length c2) C.J.us,Aa Af (.slice A6 C.J.map.length c7) C.J.map,Aa Af (.slice A11 C.J.comb.length c12) C.J.comb,Aa Af (.slice A16 C.J.red.length c17) C.J.red,Aa (Ai .i64) (.slice A21 C.J.marks.length c22) C.J.marks,Aa Bp (.slice A26 recs.length c27) recs]:=H
 refine Ab (Ab ?_)
 have hlen:J34.us.length≤6:=by have:=hC.1.1;have:=hsj.len;omega
 replace H:=(H.newnil (Ak (Ai .i64))).prsN
 replace H:=H.h2 (A:=AO ((GE p ep).g) (fun _=>.slice none 0 0)) (B:=Y (Ak (Ai .i64)) (.slice none 0 0) [])|>.p8|>.p8|>.p8|>.p8|>.p8|>.p7|>.k9|>.h1 (A:=blk b67 (AJ (.slice A42 J34.us.length c43) (.slice A47 J34.map.length c48) (.slice A52 J34.comb.length c53) (.slice A57 J34.red.length c58) (.slice A62 J34.marks.length c63) J34 C.w C.t C.o p ep ((GE p ep).g) (fun _=>.slice none 0 0) b41 (.slice none 0 0)) 185)
 refine Ae (Ad U (V U U (A8 U KX U) (Ad U (Ac (Z (AW (BT (σ:=Nat×AC×(Nat→Value)×Value×List (Value×List Int)) (fun (k,R,hv,vs,us)=>[(1,.int .i64 p),(8,.pointer none),(9,.int .i64 0),(10,.pointer (some ⟨b67,0,none⟩)),(29,.slice A26 recs.length c27),(30,.int .i64 ((recs.length:Nat):Int)),(31,.int .i64 ((k:Nat):Int))]) (fun (k,R,hv,vs,us) w=>(Hd w0 F0 w [blk b67 (AJ (.slice A42 J34.us.length c43) (.slice A47 J34.map.length c48) (.slice A52 J34.comb.length c53) (.slice A57 J34.red.length c58) (.slice A62 J34.marks.length c63) J34 C.w C.t C.o p ep R.g hv b41 vs) 185,Y (Ak Ag) (.slice A42 J34.us.length c43) J34.us,Y Af (.slice A47 J34.map.length c48) J34.map,Y Af (.slice A52 J34.comb.length c53) J34.comb,Y Af (.slice A57 J34.red.length c58) J34.red,Y (Ai .i64) (.slice A62 J34.marks.length c63) J34.marks,AO (R.g) hv,Y (Ak (Ai .i64)) vs us,AV 253 b41 ([])] [Aa (Ak Ag) (.slice A1 C.J.us.length c2) C.J.us,Aa Af (.slice A6 C.J.map.length c7) C.J.map,Aa Af (.slice A11 C.J.comb.length c12) C.J.comb,Aa Af (.slice A16 C.J.red.length c17) C.J.red,Aa (Ai .i64) (.slice A21 C.J.marks.length c22) C.J.marks,Aa Bp (.slice A26 recs.length c27) recs])∧(R=C2 J34.us.length p ep ((recs.take k).map AX.p))∧(R.part=p)∧(us.map (·.2)=R.sets)∧(k≤recs.length)∧(us.length≤k)) (fun (k,R,hv,vs,us)=>recs.length - k) (0,GE p ep,(fun _=>.slice none 0 0),.slice none 0 0,[]) ⟨rfl,rfl,rfl,rfl,rfl,rfl,rfl,trivial⟩ ⟨H,rfl,rfl,rfl,Nat.zero_le _,Nat.le_refl _⟩ ?_)))))))
 rintro ⟨k,R,hv,vs,us⟩ w ⟨H,hR,hRp,hus,hk,hul⟩
 refine Ab (Ae (V U U (Bd U U U) (Ac (Z (Ab ?_)))))
 refine Az U (fun h68=>?_) (fun h68=>?_)
 ·refine Aw (Z (Ab (AW (Ab ?_))))
  obtain ⟨⟨a71,a72,a73,a74,a75,sv76,se77,pv78,pr79⟩,hx70⟩:∃ z9,recs[k]?=some z9:=⟨_,List.getElem?_eq_getElem (show k<recs.length by omega)⟩
  obtain ⟨A80,c81,A82,c83,rfl,rfl,m84,m85,m86,m87⟩:=H.nestRr 5 rfl hx70
  have hr1:=hrs _ (B6 hx70)
  unfold Ax at hr1
  dsimp only at hr1
  refine Ae ?_
  have th88:=H.thRr 5 rfl hx70
  refine V U U (Ba (p:=AT A26+k*7) U Hk U U (by omega) (by omega) th88 U) (V U U (Bu (cs:=[.int .i64 a71,.int .i64 a72,.int .i64 a73,.int .i64 a74,.int .i64 a75,.slice A80 se77.length c81,.slice A82 pr79.length c83]) U RE U U (H.elsRr 5 U hx70 U)) (Dr U U U Hs H (fun b89 w H=>(Bo U U U RE U U H U (Nat.le_of_ble_eq_true U) (fun u hu=>by simp [Value.cells] at hu;rcases hu with rfl|rfl|rfl|rfl|rfl|rfl|rfl<;>rfl) (fun w H=>?_)))))
  replace H:Hd _ _ _ [blk b89 [.int .i64 a71,.int .i64 a72,.int .i64 a73,.int .i64 a74,.int .i64 a75,.slice A80 se77.length c81,.slice A82 pr79.length c83] 37,blk b67 (AJ (.slice A42 J34.us.length c43) (.slice A47 J34.map.length c48) (.slice A52 J34.comb.length c53) (.slice A57 J34.red.length c58) (.slice A62 J34.marks.length c63) J34 C.w C.t C.o p ep R.g hv b41 vs) 185,Y (Ak Ag) (.slice A42 J34.us.length c43) J34.us,Y Af (.slice A47 J34.map.length c48) J34.map,Y Af (.slice A52 J34.comb.length c53) J34.comb,Y Af (.slice A57 J34.red.length c58) J34.red,Y (Ai .i64) (.slice A62 J34.marks.length c63) J34.marks,AO (R.g) hv,Y (Ak (Ai .i64)) vs us,AV 253 b41 ([])] [Aa (Ak Ag) (.slice A1 C.J.us.length c2) C.J.us,Aa Af (.slice A6 C.J.map.length c7) C.J.map,Aa Af (.slice A11 C.J.comb.length c12) C.J.comb,Aa Af (.slice A16 C.J.red.length c17) C.J.red,Aa (Ai .i64) (.slice A21 C.J.marks.length c22) C.J.marks,Aa Bp (.slice A26 recs.length c27) recs]:=H
  refine Ac (Z (Ab (Ab (Ae (V U U (Aj U T9 U) (V U U (Ao U AE U (H.cellI 0 U U)) (Ad U (V U U (CN U U U) (Ac (Z ?_))))))))))
  refine Az U (fun h90=>?_) (fun h90=>?_)
  ·refine BM (AR (BN (Z (Ae (V U U (A0 (z:=((k+1:Nat):Int)) U U U (by rw [AF (by omega) (by omega)];omega)) (Ad U (Ac ?_)))))))
   have hpart:(AX.p (⟨a71,a72,a73,a74,a75,.slice A80 se77.length c81,se77,.slice A82 pr79.length c83,pr79⟩:AX)).part≠R.part:=by rw [hRp];exact h90
   have hR2:=FC hR hx70 (Yq hpart)
   replace H:=H.p9.p9.p9.p9.p9.p9.p9.p9.p9.k9
   exact Bl (s:=(k,R,hv,undef,us)) (k+1,R,hv,vs,us) ⟨rfl,rfl,rfl,rfl,rfl,rfl,rfl,trivial⟩ ⟨H,hR2,hRp,by (try dsimp only);exact hus,by (try dsimp only);omega,by (try dsimp only);omega⟩ (by (try dsimp only);omega)
  refine Aw (Z (Ab (Ab ?_)))
  by_cases hin91:0≤a73∧a73<((J34.us.length:Nat):Int)
  ·refine Ae (Ad U (V U U (Aj U OC U) (V U U (Ao U AE U (H.cellI 0 U U)) (sc (JK b67 A42 J34.us.length c43 (.slice A47 J34.map.length c48) (.slice A52 J34.comb.length c53) (.slice A57 J34.red.length c58) (.slice A62 J34.marks.length c63) J34 C.w C.t C.o p ep R.g hv b41 vs a73 (by first |assumption|omega) (by first |assumption|omega)) H (lA 1 U (fun _ h=>h) l0) U U (At G3 U U) ?_))))
   rintro _ _ w ⟨rfl,rfl⟩ H
   refine Ad U (Ac (Z (Ab (Ae (V U U (Aj U HF U) (V U U (Ao U AE U (H.cellI 0 U U)) (V U U (Bv U U U) (Ad U ?_))))))))
   refine AU (d:=46) U (fun h92=>?_) (fun h92=>?_)
   ·refine Ad U (V U U (QC U Hn U U) (Ah 3 U (V U U (AI U U) (V U U (Aj U FL U) (V U U (Ao U DE U (H.cellI 1 U (GF (by omega)))) (V U U (Ep U U U) (Ad U (Ac (Z ?_)))))))))
    refine Dv (b:=!((R.g ((a73).toNat)).merged)) U (fun h93=>?_) (fun h93=>?_)
    ·refine Ae (Ah 2 U (V U U (Aj U T_ U) (V U U (Ao U DU U (H.cellI 0 U U)) (sc (Hx (.slice A82 pr79.length c83) pr79 (by first |assumption|omega)) H (lX (fun F hA hR=>QJ (hR _ (List.mem_of_getElem? (i:=5) U)) hx70) l0) U U (At HJ U U) ?_))))
     rintro v94 _ w rfl H
     refine V U U (AI U U) (V U U (Aj U FL U) ?_)
     replace H:=H.p2
     refine Bo U U U DE U U H U (by show 14+((a73).toNat)*5+0+1≤46;omega) (fun u hu=>by simp [Value.cells] at hu;subst hu;rfl) (fun w H=>?_)
     replace H:Hd w0 F0 w [blk b67 (AJ (.slice A42 J34.us.length c43) (.slice A47 J34.map.length c48) (.slice A52 J34.comb.length c53) (.slice A57 J34.red.length c58) (.slice A62 J34.marks.length c63) J34 C.w C.t C.o p ep (AQ R.g ((a73).toNat) { R.g ((a73).toNat) with merged:=true }) hv b41 vs) 185,Y Ag v94 pr79,blk b89 [.int .i64 a71,.int .i64 a72,.int .i64 a73,.int .i64 a74,.int .i64 a75,.slice A80 se77.length c81,.slice A82 pr79.length c83] 37,Y (Ak Ag) (.slice A42 J34.us.length c43) J34.us,Y Af (.slice A47 J34.map.length c48) J34.map,Y Af (.slice A52 J34.comb.length c53) J34.comb,Y Af (.slice A57 J34.red.length c58) J34.red,Y (Ai .i64) (.slice A62 J34.marks.length c63) J34.marks,AO (R.g) hv,Y (Ak (Ai .i64)) vs us,AV 253 b41 ([])] [Aa (Ak Ag) (.slice A1 C.J.us.length c2) C.J.us,Aa Af (.slice A6 C.J.map.length c7) C.J.map,Aa Af (.slice A11 C.J.comb.length c12) C.J.comb,Aa Af (.slice A16 C.J.red.length c17) C.J.red,Aa (Ai .i64) (.slice A21 C.J.marks.length c22) C.J.marks,Aa Bp (.slice A26 recs.length c27) recs]:=by rw [←QO (show (a73).toNat<6 by omega) true];exact H
     refine V U U (AI U U) (V U U (Aj U J7 U) ?_)
     obtain ⟨A95,c96,rfl,hc97,hm98,hp99⟩:=H.fA 1 rfl
     refine Bo U U U DU U U H U (by show 14+((a73).toNat)*5+1+1≤46;omega) (fun u hu=>by simp [Value.cells] at hu;subst hu;rfl) (fun w H=>?_)
     replace H:Hd w0 F0 w [blk b67 (AJ (.slice A42 J34.us.length c43) (.slice A47 J34.map.length c48) (.slice A52 J34.comb.length c53) (.slice A57 J34.red.length c58) (.slice A62 J34.marks.length c63) J34 C.w C.t C.o p ep (AQ R.g ((a73).toNat) { R.g ((a73).toNat) with merged:=true }) (AQ hv ((a73).toNat) (.slice A95 pr79.length c96:Value)) b41 vs) 185,Y Ag (.slice A95 pr79.length c96) pr79,blk b89 [.int .i64 a71,.int .i64 a72,.int .i64 a73,.int .i64 a74,.int .i64 a75,.slice A80 se77.length c81,.slice A82 pr79.length c83] 37,Y (Ak Ag) (.slice A42 J34.us.length c43) J34.us,Y Af (.slice A47 J34.map.length c48) J34.map,Y Af (.slice A52 J34.comb.length c53) J34.comb,Y Af (.slice A57 J34.red.length c58) J34.red,Y (Ai .i64) (.slice A62 J34.marks.length c63) J34.marks,AO (R.g) hv,Y (Ak (Ai .i64)) vs us,AV 253 b41 ([])] [Aa (Ak Ag) (.slice A1 C.J.us.length c2) C.J.us,Aa Af (.slice A6 C.J.map.length c7) C.J.map,Aa Af (.slice A11 C.J.comb.length c12) C.J.comb,Aa Af (.slice A16 C.J.red.length c17) C.J.red,Aa (Ai .i64) (.slice A21 C.J.marks.length c22) C.J.marks,Aa Bp (.slice A26 recs.length c27) recs]:=by rw [←QP (show (a73).toNat<6 by omega) (.slice A95 pr79.length c96:Value)];exact H
     refine Ac (Z (Ab (Ae (V U U (Aj U HF U) (V U U (Ao U AE U (H.cellI 2 U U)) (V U U (Bv U U U) (Ac (Z ?_))))))))
     refine Az U (fun h100=>?_) (fun h100=>?_)
     ·exfalso;omega
     refine Aw (A_ (Z (Ae (V U U (A0 (z:=((k+1:Nat):Int)) U U U (by rw [AF (by omega) (by omega)];omega)) (Ad U (Ac ?_))))))
     have hpart:(AX.p (⟨a71,a72,a73,a74,a75,.slice A80 se77.length c81,se77,.slice A82 pr79.length c83,pr79⟩:AX)).part=R.part:=by rw [hRp];exact Classical.not_not.1 h90
     replace H:=H.pick 10 rfl|>.pick 10 rfl|>.p9|>.p9|>.p9|>.p9|>.p9|>.p7|>.pick 10 rfl|>.p9|>.k10|>.prsU (i:=(a73).toNat) (x:=({ R.g (a73).toNat with merged:=true,pairs:=pr79 }:CV)) (by omega)
     replace H:Hd w0 F0 w [AO (({ R with g:=AQ R.g (a73).toNat ({ R.g (a73).toNat with merged:=true,pairs:=pr79 }:CV) }:AC).g) (AQ hv (a73).toNat (.slice A95 pr79.length c96:Value)),blk b67 (AJ (.slice A42 J34.us.length c43) (.slice A47 J34.map.length c48) (.slice A52 J34.comb.length c53) (.slice A57 J34.red.length c58) (.slice A62 J34.marks.length c63) J34 C.w C.t C.o p ep (({ R with g:=AQ R.g (a73).toNat ({ R.g (a73).toNat with merged:=true,pairs:=pr79 }:CV) }:AC).g) (AQ hv (a73).toNat (.slice A95 pr79.length c96:Value)) b41 vs) 185,Y (Ak Ag) (.slice A42 J34.us.length c43) J34.us,Y Af (.slice A47 J34.map.length c48) J34.map,Y Af (.slice A52 J34.comb.length c53) J34.comb,Y Af (.slice A57 J34.red.length c58) J34.red,Y (Ai .i64) (.slice A62 J34.marks.length c63) J34.marks,Y (Ak (Ai .i64)) vs us,AV 253 b41 ([])] [Aa (Ak Ag) (.slice A1 C.J.us.length c2) C.J.us,Aa Af (.slice A6 C.J.map.length c7) C.J.map,Aa Af (.slice A11 C.J.comb.length c12) C.J.comb,Aa Af (.slice A16 C.J.red.length c17) C.J.red,Aa (Ai .i64) (.slice A21 C.J.marks.length c22) C.J.marks,Aa Bp (.slice A26 recs.length c27) recs]:=by
       rw [←QN (g:=AQ R.g (a73).toNat { R.g (a73).toNat with merged:=true }) (g':=({ R with g:=AQ R.g (a73).toNat ({ R.g (a73).toNat with merged:=true,pairs:=pr79 }:CV) }:AC).g) (fun j=>by dsimp only;by_cases e:j=(a73).toNat<;>first |(subst e;rw [DR,DR];exact ⟨rfl,rfl,rfl,rfl⟩)|(rw [Eb _ _ e,Eb _ _ e];exact ⟨rfl,rfl,rfl,rfl⟩))]
       exact H
     have hR2:=FC hR hx70 (Yo hpart h92 hin91 (by simpa [AX.p] using h93))
     replace H:=H.sel 9 [1,2,3,4,5,6,0,7,8] [] rfl (by kernel_rfl)
     replace H:Hd _ _ _ [blk b67 (AJ (.slice A42 J34.us.length c43) (.slice A47 J34.map.length c48) (.slice A52 J34.comb.length c53) (.slice A57 J34.red.length c58) (.slice A62 J34.marks.length c63) J34 C.w C.t C.o p ep (({ R with g:=AQ R.g (a73).toNat ({ R.g (a73).toNat with merged:=true,pairs:=pr79 }:CV) }:AC).g) (AQ hv (a73).toNat (.slice A95 pr79.length c96:Value)) b41 vs) 185,Y (Ak Ag) (.slice A42 J34.us.length c43) J34.us,Y Af (.slice A47 J34.map.length c48) J34.map,Y Af (.slice A52 J34.comb.length c53) J34.comb,Y Af (.slice A57 J34.red.length c58) J34.red,Y (Ai .i64) (.slice A62 J34.marks.length c63) J34.marks,AO (({ R with g:=AQ R.g (a73).toNat ({ R.g (a73).toNat with merged:=true,pairs:=pr79 }:CV) }:AC).g) (AQ hv (a73).toNat (.slice A95 pr79.length c96:Value)),Y (Ak (Ai .i64)) vs us,AV 253 b41 ([])] [Aa (Ak Ag) (.slice A1 C.J.us.length c2) C.J.us,Aa Af (.slice A6 C.J.map.length c7) C.J.map,Aa Af (.slice A11 C.J.comb.length c12) C.J.comb,Aa Af (.slice A16 C.J.red.length c17) C.J.red,Aa (Ai .i64) (.slice A21 C.J.marks.length c22) C.J.marks,Aa Bp (.slice A26 recs.length c27) recs]:=H
     exact Bl (s:=(k,R,hv,undef,us)) (k+1,({ R with g:=AQ R.g (a73).toNat ({ R.g (a73).toNat with merged:=true,pairs:=pr79 }:CV) }:AC),AQ hv (a73).toNat (.slice A95 pr79.length c96:Value),vs,us) ⟨rfl,rfl,rfl,rfl,rfl,rfl,rfl,trivial⟩ ⟨H,hR2,hRp,by (try dsimp only);exact hus,by (try dsimp only);omega,by (try dsimp only);omega⟩ (by (try dsimp only);omega)
    refine Aw (Z (Ab (Ae (V U U (Aj U HF U) (V U U (Ao U AE U (H.cellI 0 U U)) (V U U (Bv U U U) (Ac (Z ?_))))))))
    refine Az U (fun h101=>?_) (fun h101=>?_)
    ·exfalso;omega
    refine Aw (A_ (Z (Ae (V U U (A0 (z:=((k+1:Nat):Int)) U U U (by rw [AF (by omega) (by omega)];omega)) (Ad U (Ac ?_))))))
    have hpart:(AX.p (⟨a71,a72,a73,a74,a75,.slice A80 se77.length c81,se77,.slice A82 pr79.length c83,pr79⟩:AX)).part=R.part:=by rw [hRp];exact Classical.not_not.1 h90
    have hR2:=FC hR hx70 (KA hpart (fun h=>by have h2:=h.2.2;have h3:=h93;dsimp only [AX.p] at h2;rw [h2] at h3;exact absurd h3 (by decide)) h101)
    replace H:=H.p9.p9.p9.p9.p9.p9.p9.p9.p9.k9
    exact Bl (s:=(k,R,hv,undef,us)) (k+1,R,hv,vs,us) ⟨rfl,rfl,rfl,rfl,rfl,rfl,rfl,trivial⟩ ⟨H,hR2,hRp,by (try dsimp only);exact hus,by (try dsimp only);omega,by (try dsimp only);omega⟩ (by (try dsimp only);omega)
   refine Ah 10 U (Ac (Z (B9 U (Aw (Z (Ab (Ae (V U U (Aj U HF U) (V U U (Ao U AE U (H.cellI 0 U U)) (V U U (Bv U U U) (Ac (Z ?_))))))))))))
   refine Az U (fun h102=>?_) (fun h102=>?_)
   ·replace H:=H.p9.p8.p8.p8.p8.p8.p8.p7
    refine BP (.e 0 (.e 1 (.e 2 (.e 3 (.e 5 (.e 6 (.b 4 7 (.m 7 (.m 8 (.m 9 (.e 10 (.e 11 (.m 12 .z)))))) (.b 4 8 (.m 8 (.m 9 (.e 10 (.e 11 (.m 12 .z))))) (.m 4 (.m 9 (.e 10 (.e 11 (.m 12 .z))))))))))))) (fun w=>∃ Ar,Hd w0 F0 w (blk b89 [.int .i64 a71,.int .i64 a72,.int .i64 a73,.int .i64 a74,.int .i64 a75,.slice A80 se77.length c81,.slice A82 pr79.length c83] 37::Y (Ak Ag) (.slice A42 J34.us.length c43) J34.us::Y Af (.slice A47 J34.map.length c48) J34.map::Y Af (.slice A52 J34.comb.length c53) J34.comb::Y Af (.slice A57 J34.red.length c58) J34.red::Y (Ai .i64) (.slice A62 J34.marks.length c63) J34.marks::AO (R.g) hv::AV 253 b41 ([])::Ar) [Aa (Ak Ag) (.slice A1 C.J.us.length c2) C.J.us,Aa Af (.slice A6 C.J.map.length c7) C.J.map,Aa Af (.slice A11 C.J.comb.length c12) C.J.comb,Aa Af (.slice A16 C.J.red.length c17) C.J.red,Aa (Ai .i64) (.slice A21 C.J.marks.length c22) C.J.marks,Aa Bp (.slice A26 recs.length c27) recs]) mo (by kernel_rfl) (fun w H=>⟨_,H⟩) H (fun w H=>?_)
    refine Au U (Au U (An U U U (fun w ⟨Ar,H⟩=>AI U U) (An U U U (fun w ⟨Ar,H⟩=>Aj U Fi U) (An U U U (fun w ⟨Ar,H⟩=>Aj U OD U) (An U U U (fun w ⟨Ar,H⟩=>Ao U EH U (H.cellI 0 U U)) ?_)))))
    refine Hy U U ?_ ?_
    ·refine V U U (Ao U Ed U (H.cellI 8 U U)) (AH ⟨_,H⟩ (AK U (sc (GS (.slice A80 se77.length c81) se77 (by first |assumption|omega)) H (lX (fun F hA hR=>Jx (hR _ (List.mem_of_getElem? (i:=5) U)) hx70) l0) U U (At G4 U U) ?_)))
     rintro v103 _ w rfl H
     replace H:=H.h1 (A:=Y (Ai .i64) v103 se77)|>.p8|>.p8|>.p8|>.p8|>.p8|>.p8|>.p8|>.p8
     refine AH ⟨_,H⟩ (AK U ?_)
     obtain ⟨A105,c106,rfl,hc107,hm108,hp109⟩:=H.fA 8 rfl
     refine BU (parts:=[(0,.tmp 76)]) (vs:=[.slice A105 se77.length c106]) (cs:=[.slice A105 se77.length c106]) U U U Ec El U (by decide) (by decide) U U H (fun b104 w H=>?_)
     replace H:Hd _ _ _ [blk b104 [.slice A105 se77.length c106] 24,blk b89 [.int .i64 a71,.int .i64 a72,.int .i64 a73,.int .i64 a74,.int .i64 a75,.slice A80 se77.length c81,.slice A82 pr79.length c83] 37,Y (Ak Ag) (.slice A42 J34.us.length c43) J34.us,Y Af (.slice A47 J34.map.length c48) J34.map,Y Af (.slice A52 J34.comb.length c53) J34.comb,Y Af (.slice A57 J34.red.length c58) J34.red,Y (Ai .i64) (.slice A62 J34.marks.length c63) J34.marks,AO (R.g) hv,AV 253 b41 ([]),Y (Ai .i64) (.slice A105 se77.length c106) se77,blk b67 (AJ (.slice A42 J34.us.length c43) (.slice A47 J34.map.length c48) (.slice A52 J34.comb.length c53) (.slice A57 J34.red.length c58) (.slice A62 J34.marks.length c63) J34 C.w C.t C.o p ep R.g hv b41 vs) 185,Y (Ak (Ai .i64)) vs us] [Aa (Ak Ag) (.slice A1 C.J.us.length c2) C.J.us,Aa Af (.slice A6 C.J.map.length c7) C.J.map,Aa Af (.slice A11 C.J.comb.length c12) C.J.comb,Aa Af (.slice A16 C.J.red.length c17) C.J.red,Aa (Ai .i64) (.slice A21 C.J.marks.length c22) C.J.marks,Aa Bp (.slice A26 recs.length c27) recs]:=H
     replace H:=H.p8.p8.p8.p8.p8.p8.p8.p8
     refine AH ⟨_,H⟩ (AK U ?_)
     replace H:=H.pick 11 rfl|>.pick 10 rfl|>.pick 10 rfl|>.p2
     refine FS U U U Ec El U (by decide) U U H (by first |omega|(simp only [List.length_append,List.length_cons,List.length_nil];omega)) (fun v110 w H=>?_)
     replace H:=H.h1 (A:=Y (Ak (Ai .i64)) v110 (us++[((.slice A105 se77.length c106:Value),se77)]))|>.p8|>.p8|>.p8|>.p8|>.p8|>.p8|>.p8|>.p8
     refine AH ⟨_,H⟩ (An U U U (fun w ⟨Ar,H⟩=>AI U U) (An U U U (fun w ⟨Ar,H⟩=>Aj U Fi U) (AK U ?_)))
     obtain ⟨A111,c112,rfl,hc113,hm114,hp115⟩:=H.fA 8 rfl
     replace H:=H.p9
     refine Bo U U U Ed U U H U (Nat.le_of_ble_eq_true U) (fun u hu=>by simp [Value.cells] at hu;subst hu;rfl) (fun w H=>?_)
     replace H:Hd _ _ _ [blk b67 (AJ (.slice A42 J34.us.length c43) (.slice A47 J34.map.length c48) (.slice A52 J34.comb.length c53) (.slice A57 J34.red.length c58) (.slice A62 J34.marks.length c63) J34 C.w C.t C.o p ep R.g hv b41 (.slice A111 ((us++[((.slice A105 se77.length c106:Value),se77)]).length) c112)) 185,blk b89 [.int .i64 a71,.int .i64 a72,.int .i64 a73,.int .i64 a74,.int .i64 a75,.slice A80 se77.length c81,.slice A82 pr79.length c83] 37,Y (Ak Ag) (.slice A42 J34.us.length c43) J34.us,Y Af (.slice A47 J34.map.length c48) J34.map,Y Af (.slice A52 J34.comb.length c53) J34.comb,Y Af (.slice A57 J34.red.length c58) J34.red,Y (Ai .i64) (.slice A62 J34.marks.length c63) J34.marks,AO (R.g) hv,AV 253 b41 ([]),Y (Ak (Ai .i64)) (.slice A111 ((us++[((.slice A105 se77.length c106:Value),se77)]).length) c112) (us++[((.slice A105 se77.length c106:Value),se77)])] [Aa (Ak Ag) (.slice A1 C.J.us.length c2) C.J.us,Aa Af (.slice A6 C.J.map.length c7) C.J.map,Aa Af (.slice A11 C.J.comb.length c12) C.J.comb,Aa Af (.slice A16 C.J.red.length c17) C.J.red,Aa (Ai .i64) (.slice A21 C.J.marks.length c22) C.J.marks,Aa Bp (.slice A26 recs.length c27) recs]:=H
     replace H:=H.p8.p8.p8.p8.p8.p8.p8.p8
     refine AH ⟨_,H⟩ (BH (A_ (Z (Ae (V U U (A0 (z:=((k+1:Nat):Int)) U U U (by rw [AF (by omega) (by omega)];omega)) (Ad U (Ac ?_)))))))
     have hpart:(AX.p (⟨a71,a72,a73,a74,a75,.slice A80 se77.length c81,se77,.slice A82 pr79.length c83,pr79⟩:AX)).part=R.part:=by rw [hRp];exact Classical.not_not.1 h90
     have hR2:=FC hR hx70 (ID hpart h102)
     replace H:=H.p7.p9.p8.p8.p8.p8.p8.p8.p9.k9.h7 (A:=blk b67 (AJ (.slice A42 J34.us.length c43) (.slice A47 J34.map.length c48) (.slice A52 J34.comb.length c53) (.slice A57 J34.red.length c58) (.slice A62 J34.marks.length c63) J34 C.w C.t C.o p ep (({ R with sets:=R.sets++[se77] }:AC).g) hv b41 (.slice A111 ((us++[((.slice A105 se77.length c106:Value),se77)]).length) c112)) 185) (G:=AO (({ R with sets:=R.sets++[se77] }:AC).g) hv)
     exact Bl (s:=(k,R,hv,undef,us)) (k+1,({ R with sets:=R.sets++[se77] }:AC),hv,.slice A111 ((us++[((.slice A105 se77.length c106:Value),se77)]).length) c112,us++[((.slice A105 se77.length c106:Value),se77)]) ⟨rfl,rfl,rfl,rfl,rfl,rfl,rfl,trivial⟩ ⟨H,hR2,hRp,by (try dsimp only);rw [List.map_append,hus];rfl,by (try dsimp only);omega,by (try dsimp only);rw [List.length_append];simp only [List.length_cons,List.length_nil];omega⟩ (by (try dsimp only);omega)
    refine sc (GS (.slice A80 se77.length c81) se77 (by first |assumption|omega)) H (lX (fun F hA hR=>Jx (hR _ (List.mem_of_getElem? (i:=5) U)) hx70) l0) U U (At G4 U U) ?_
    rintro v116 _ w rfl H
    replace H:=H.h1 (A:=Y (Ai .i64) v116 se77)|>.p8|>.p8|>.p8|>.p8|>.p8|>.p8|>.p8|>.p8
    refine AH ⟨_,H⟩ ?_
    refine Hy U U ?_ ?_
    ·refine V U U (Ao U Ed U (H.cellI 9 U U)) (AH ⟨_,H⟩ (AK U ?_))
     obtain ⟨A118,c119,rfl,hc120,hm121,hp122⟩:=H.fA 8 rfl
     refine BU (parts:=[(0,.tmp 76)]) (vs:=[.slice A118 se77.length c119]) (cs:=[.slice A118 se77.length c119]) U U U Ec El U (by decide) (by decide) U U H (fun b117 w H=>?_)
     replace H:Hd _ _ _ [blk b117 [.slice A118 se77.length c119] 24,blk b89 [.int .i64 a71,.int .i64 a72,.int .i64 a73,.int .i64 a74,.int .i64 a75,.slice A80 se77.length c81,.slice A82 pr79.length c83] 37,Y (Ak Ag) (.slice A42 J34.us.length c43) J34.us,Y Af (.slice A47 J34.map.length c48) J34.map,Y Af (.slice A52 J34.comb.length c53) J34.comb,Y Af (.slice A57 J34.red.length c58) J34.red,Y (Ai .i64) (.slice A62 J34.marks.length c63) J34.marks,AO (R.g) hv,AV 253 b41 ([]),Y (Ai .i64) (.slice A118 se77.length c119) se77,blk b67 (AJ (.slice A42 J34.us.length c43) (.slice A47 J34.map.length c48) (.slice A52 J34.comb.length c53) (.slice A57 J34.red.length c58) (.slice A62 J34.marks.length c63) J34 C.w C.t C.o p ep R.g hv b41 vs) 185,Y (Ak (Ai .i64)) vs us] [Aa (Ak Ag) (.slice A1 C.J.us.length c2) C.J.us,Aa Af (.slice A6 C.J.map.length c7) C.J.map,Aa Af (.slice A11 C.J.comb.length c12) C.J.comb,Aa Af (.slice A16 C.J.red.length c17) C.J.red,Aa (Ai .i64) (.slice A21 C.J.marks.length c22) C.J.marks,Aa Bp (.slice A26 recs.length c27) recs]:=H
     replace H:=H.p8.p8.p8.p8.p8.p8.p8.p8
     refine AH ⟨_,H⟩ (AK U ?_)
     replace H:=H.pick 11 rfl|>.pick 10 rfl|>.pick 10 rfl|>.p2
     refine FS U U U Ec El U (by decide) U U H (by first |omega|(simp only [List.length_append,List.length_cons,List.length_nil];omega)) (fun v123 w H=>?_)
     replace H:=H.h1 (A:=Y (Ak (Ai .i64)) v123 (us++[((.slice A118 se77.length c119:Value),se77)]))|>.p8|>.p8|>.p8|>.p8|>.p8|>.p8|>.p8|>.p8
     refine AH ⟨_,H⟩ (An U U U (fun w ⟨Ar,H⟩=>AI U U) (An U U U (fun w ⟨Ar,H⟩=>Aj U Fi U) (AK U ?_)))
     obtain ⟨A124,c125,rfl,hc126,hm127,hp128⟩:=H.fA 8 rfl
     replace H:=H.p9
     refine Bo U U U Ed U U H U (Nat.le_of_ble_eq_true U) (fun u hu=>by simp [Value.cells] at hu;subst hu;rfl) (fun w H=>?_)
     replace H:Hd _ _ _ [blk b67 (AJ (.slice A42 J34.us.length c43) (.slice A47 J34.map.length c48) (.slice A52 J34.comb.length c53) (.slice A57 J34.red.length c58) (.slice A62 J34.marks.length c63) J34 C.w C.t C.o p ep R.g hv b41 (.slice A124 ((us++[((.slice A118 se77.length c119:Value),se77)]).length) c125)) 185,blk b89 [.int .i64 a71,.int .i64 a72,.int .i64 a73,.int .i64 a74,.int .i64 a75,.slice A80 se77.length c81,.slice A82 pr79.length c83] 37,Y (Ak Ag) (.slice A42 J34.us.length c43) J34.us,Y Af (.slice A47 J34.map.length c48) J34.map,Y Af (.slice A52 J34.comb.length c53) J34.comb,Y Af (.slice A57 J34.red.length c58) J34.red,Y (Ai .i64) (.slice A62 J34.marks.length c63) J34.marks,AO (R.g) hv,AV 253 b41 ([]),Y (Ak (Ai .i64)) (.slice A124 ((us++[((.slice A118 se77.length c119:Value),se77)]).length) c125) (us++[((.slice A118 se77.length c119:Value),se77)])] [Aa (Ak Ag) (.slice A1 C.J.us.length c2) C.J.us,Aa Af (.slice A6 C.J.map.length c7) C.J.map,Aa Af (.slice A11 C.J.comb.length c12) C.J.comb,Aa Af (.slice A16 C.J.red.length c17) C.J.red,Aa (Ai .i64) (.slice A21 C.J.marks.length c22) C.J.marks,Aa Bp (.slice A26 recs.length c27) recs]:=H
     replace H:=H.p8.p8.p8.p8.p8.p8.p8.p8
     refine AH ⟨_,H⟩ (BH (A_ (Z (Ae (V U U (A0 (z:=((k+1:Nat):Int)) U U U (by rw [AF (by omega) (by omega)];omega)) (Ad U (Ac ?_)))))))
     have hpart:(AX.p (⟨a71,a72,a73,a74,a75,.slice A80 se77.length c81,se77,.slice A82 pr79.length c83,pr79⟩:AX)).part=R.part:=by rw [hRp];exact Classical.not_not.1 h90
     have hR2:=FC hR hx70 (ID hpart h102)
     replace H:=H.p7.p9.p8.p8.p8.p8.p8.p8.p9.k9.h7 (A:=blk b67 (AJ (.slice A42 J34.us.length c43) (.slice A47 J34.map.length c48) (.slice A52 J34.comb.length c53) (.slice A57 J34.red.length c58) (.slice A62 J34.marks.length c63) J34 C.w C.t C.o p ep (({ R with sets:=R.sets++[se77] }:AC).g) hv b41 (.slice A124 ((us++[((.slice A118 se77.length c119:Value),se77)]).length) c125)) 185) (G:=AO (({ R with sets:=R.sets++[se77] }:AC).g) hv)
     exact Bl (s:=(k,R,hv,undef,us)) (k+1,({ R with sets:=R.sets++[se77] }:AC),hv,.slice A124 ((us++[((.slice A118 se77.length c119:Value),se77)]).length) c125,us++[((.slice A118 se77.length c119:Value),se77)]) ⟨rfl,rfl,rfl,rfl,rfl,rfl,rfl,trivial⟩ ⟨H,hR2,hRp,by (try dsimp only);rw [List.map_append,hus];rfl,by (try dsimp only);omega,by (try dsimp only);rw [List.length_append];simp only [List.length_cons,List.length_nil];omega⟩ (by (try dsimp only);omega)
    obtain ⟨A130,c131,rfl,hc132,hm133,hp134⟩:=H.fA 8 rfl
    refine BU (parts:=[(0,.tmp 76)]) (vs:=[.slice A130 se77.length c131]) (cs:=[.slice A130 se77.length c131]) U U U Ec El U (by decide) (by decide) U U H (fun b129 w H=>?_)
    replace H:Hd _ _ _ [blk b129 [.slice A130 se77.length c131] 24,blk b89 [.int .i64 a71,.int .i64 a72,.int .i64 a73,.int .i64 a74,.int .i64 a75,.slice A80 se77.length c81,.slice A82 pr79.length c83] 37,Y (Ak Ag) (.slice A42 J34.us.length c43) J34.us,Y Af (.slice A47 J34.map.length c48) J34.map,Y Af (.slice A52 J34.comb.length c53) J34.comb,Y Af (.slice A57 J34.red.length c58) J34.red,Y (Ai .i64) (.slice A62 J34.marks.length c63) J34.marks,AO (R.g) hv,AV 253 b41 ([]),Y (Ai .i64) (.slice A130 se77.length c131) se77,blk b67 (AJ (.slice A42 J34.us.length c43) (.slice A47 J34.map.length c48) (.slice A52 J34.comb.length c53) (.slice A57 J34.red.length c58) (.slice A62 J34.marks.length c63) J34 C.w C.t C.o p ep R.g hv b41 vs) 185,Y (Ak (Ai .i64)) vs us] [Aa (Ak Ag) (.slice A1 C.J.us.length c2) C.J.us,Aa Af (.slice A6 C.J.map.length c7) C.J.map,Aa Af (.slice A11 C.J.comb.length c12) C.J.comb,Aa Af (.slice A16 C.J.red.length c17) C.J.red,Aa (Ai .i64) (.slice A21 C.J.marks.length c22) C.J.marks,Aa Bp (.slice A26 recs.length c27) recs]:=H
    replace H:=H.p8.p8.p8.p8.p8.p8.p8.p8
    refine AH ⟨_,H⟩ (AK U (V U U (Ao U Ed U (H.cellI 10 U U)) (AH ⟨_,H⟩ (AK U ?_))))
    replace H:=H.pick 11 rfl|>.pick 10 rfl|>.pick 10 rfl|>.p2
    refine FS U U U Ec El U (by decide) U U H (by first |omega|(simp only [List.length_append,List.length_cons,List.length_nil];omega)) (fun v135 w H=>?_)
    replace H:=H.h1 (A:=Y (Ak (Ai .i64)) v135 (us++[((.slice A130 se77.length c131:Value),se77)]))|>.p8|>.p8|>.p8|>.p8|>.p8|>.p8|>.p8|>.p8
    refine AH ⟨_,H⟩ (An U U U (fun w ⟨Ar,H⟩=>AI U U) (An U U U (fun w ⟨Ar,H⟩=>Aj U Fi U) (AK U ?_)))
    obtain ⟨A136,c137,rfl,hc138,hm139,hp140⟩:=H.fA 8 rfl
    replace H:=H.p9
    refine Bo U U U Ed U U H U (Nat.le_of_ble_eq_true U) (fun u hu=>by simp [Value.cells] at hu;subst hu;rfl) (fun w H=>?_)
    replace H:Hd _ _ _ [blk b67 (AJ (.slice A42 J34.us.length c43) (.slice A47 J34.map.length c48) (.slice A52 J34.comb.length c53) (.slice A57 J34.red.length c58) (.slice A62 J34.marks.length c63) J34 C.w C.t C.o p ep R.g hv b41 (.slice A136 ((us++[((.slice A130 se77.length c131:Value),se77)]).length) c137)) 185,blk b89 [.int .i64 a71,.int .i64 a72,.int .i64 a73,.int .i64 a74,.int .i64 a75,.slice A80 se77.length c81,.slice A82 pr79.length c83] 37,Y (Ak Ag) (.slice A42 J34.us.length c43) J34.us,Y Af (.slice A47 J34.map.length c48) J34.map,Y Af (.slice A52 J34.comb.length c53) J34.comb,Y Af (.slice A57 J34.red.length c58) J34.red,Y (Ai .i64) (.slice A62 J34.marks.length c63) J34.marks,AO (R.g) hv,AV 253 b41 ([]),Y (Ak (Ai .i64)) (.slice A136 ((us++[((.slice A130 se77.length c131:Value),se77)]).length) c137) (us++[((.slice A130 se77.length c131:Value),se77)])] [Aa (Ak Ag) (.slice A1 C.J.us.length c2) C.J.us,Aa Af (.slice A6 C.J.map.length c7) C.J.map,Aa Af (.slice A11 C.J.comb.length c12) C.J.comb,Aa Af (.slice A16 C.J.red.length c17) C.J.red,Aa (Ai .i64) (.slice A21 C.J.marks.length c22) C.J.marks,Aa Bp (.slice A26 recs.length c27) recs]:=H
    replace H:=H.p8.p8.p8.p8.p8.p8.p8.p8
    refine AH ⟨_,H⟩ (BH (A_ (Z (Ae (V U U (A0 (z:=((k+1:Nat):Int)) U U U (by rw [AF (by omega) (by omega)];omega)) (Ad U (Ac ?_)))))))
    have hpart:(AX.p (⟨a71,a72,a73,a74,a75,.slice A80 se77.length c81,se77,.slice A82 pr79.length c83,pr79⟩:AX)).part=R.part:=by rw [hRp];exact Classical.not_not.1 h90
    have hR2:=FC hR hx70 (ID hpart h102)
    replace H:=H.p7.p9.p8.p8.p8.p8.p8.p8.p9.k9.h7 (A:=blk b67 (AJ (.slice A42 J34.us.length c43) (.slice A47 J34.map.length c48) (.slice A52 J34.comb.length c53) (.slice A57 J34.red.length c58) (.slice A62 J34.marks.length c63) J34 C.w C.t C.o p ep (({ R with sets:=R.sets++[se77] }:AC).g) hv b41 (.slice A136 ((us++[((.slice A130 se77.length c131:Value),se77)]).length) c137)) 185) (G:=AO (({ R with sets:=R.sets++[se77] }:AC).g) hv)
    exact Bl (s:=(k,R,hv,undef,us)) (k+1,({ R with sets:=R.sets++[se77] }:AC),hv,.slice A136 ((us++[((.slice A130 se77.length c131:Value),se77)]).length) c137,us++[((.slice A130 se77.length c131:Value),se77)]) ⟨rfl,rfl,rfl,rfl,rfl,rfl,rfl,trivial⟩ ⟨H,hR2,hRp,by (try dsimp only);rw [List.map_append,hus];rfl,by (try dsimp only);omega,by (try dsimp only);rw [List.length_append];simp only [List.length_cons,List.length_nil];omega⟩ (by (try dsimp only);omega)
   refine Aw (A_ (Z (Ae (V U U (A0 (z:=((k+1:Nat):Int)) U U U (by rw [AF (by omega) (by omega)];omega)) (Ad U (Ac ?_))))))
   have hpart:(AX.p (⟨a71,a72,a73,a74,a75,.slice A80 se77.length c81,se77,.slice A82 pr79.length c83,pr79⟩:AX)).part=R.part:=by rw [hRp];exact Classical.not_not.1 h90
   have hR2:=FC hR hx70 (KA hpart (fun h=>h92 h.1) h102)
   replace H:=H.p9.p9.p9.p9.p9.p9.p9.p9.p9.k9
   exact Bl (s:=(k,R,hv,undef,us)) (k+1,R,hv,vs,us) ⟨rfl,rfl,rfl,rfl,rfl,rfl,rfl,trivial⟩ ⟨H,hR2,hRp,by (try dsimp only);exact hus,by (try dsimp only);omega,by (try dsimp only);omega⟩ (by (try dsimp only);omega)
  refine Ae (Ad U (V U U (Aj U OC U) (V U U (Ao U AE U (H.cellI 0 U U)) (sc (JJ b67 A42 J34.us.length c43 (.slice A47 J34.map.length c48) (.slice A52 J34.comb.length c53) (.slice A57 J34.red.length c58) (.slice A62 J34.marks.length c63) J34 C.w C.t C.o p ep R.g hv b41 vs a73 (by first |assumption|omega)) H (lA 1 U (fun _ h=>h) l0) U U (At G3 U U) ?_))))
  rintro _ _ w ⟨rfl,rfl⟩ H
  refine Ad U (Ac (Z (Ab (Ae (V U U (Aj U HF U) (V U U (Ao U AE U (H.cellI 0 U U)) (V U U (Bv U U U) (Ad U ?_))))))))
  refine AU (d:=46) U (fun h141=>?_) (fun h141=>?_)
  ·refine Ad U (V U U (QC U Hn U U) (Ah 8 U (Ac (Z (B9 U (Aw (Z (Ab (Ae (V U U (Aj U HF U) (V U U (Ao U AE U (H.cellI 0 U U)) (V U U (Bv U U U) (Ac (Z ?_))))))))))))))
   refine Az U (fun h142=>?_) (fun h142=>?_)
   ·exfalso;omega
   refine Aw (A_ (Z (Ae (V U U (A0 (z:=((k+1:Nat):Int)) U U U (by rw [AF (by omega) (by omega)];omega)) (Ad U (Ac ?_))))))
   have hpart:(AX.p (⟨a71,a72,a73,a74,a75,.slice A80 se77.length c81,se77,.slice A82 pr79.length c83,pr79⟩:AX)).part=R.part:=by rw [hRp];exact Classical.not_not.1 h90
   have hR2:=FC hR hx70 (KA hpart (fun h=>hin91 h.2.1) h142)
   replace H:=H.p9.p9.p9.p9.p9.p9.p9.p9.p9.k9
   exact Bl (s:=(k,R,hv,undef,us)) (k+1,R,hv,vs,us) ⟨rfl,rfl,rfl,rfl,rfl,rfl,rfl,trivial⟩ ⟨H,hR2,hRp,by (try dsimp only);exact hus,by (try dsimp only);omega,by (try dsimp only);omega⟩ (by (try dsimp only);omega)
  refine Ah 10 U (Ac (Z (B9 U (Aw (Z (Ab (Ae (V U U (Aj U HF U) (V U U (Ao U AE U (H.cellI 0 U U)) (V U U (Bv U U U) (Ac (Z ?_))))))))))))
  refine Az U (fun h143=>?_) (fun h143=>?_)
  ·replace H:=H.p9.p8.p8.p8.p8.p8.p8.p7
   refine BP (.e 0 (.e 1 (.e 2 (.e 3 (.e 5 (.e 6 (.b 4 7 (.m 7 (.m 8 (.m 9 (.e 10 (.e 11 (.m 12 .z)))))) (.b 4 8 (.m 8 (.m 9 (.e 10 (.e 11 (.m 12 .z))))) (.m 4 (.m 9 (.e 10 (.e 11 (.m 12 .z))))))))))))) (fun w=>∃ Ar,Hd w0 F0 w (blk b89 [.int .i64 a71,.int .i64 a72,.int .i64 a73,.int .i64 a74,.int .i64 a75,.slice A80 se77.length c81,.slice A82 pr79.length c83] 37::Y (Ak Ag) (.slice A42 J34.us.length c43) J34.us::Y Af (.slice A47 J34.map.length c48) J34.map::Y Af (.slice A52 J34.comb.length c53) J34.comb::Y Af (.slice A57 J34.red.length c58) J34.red::Y (Ai .i64) (.slice A62 J34.marks.length c63) J34.marks::AO (R.g) hv::AV 253 b41 ([])::Ar) [Aa (Ak Ag) (.slice A1 C.J.us.length c2) C.J.us,Aa Af (.slice A6 C.J.map.length c7) C.J.map,Aa Af (.slice A11 C.J.comb.length c12) C.J.comb,Aa Af (.slice A16 C.J.red.length c17) C.J.red,Aa (Ai .i64) (.slice A21 C.J.marks.length c22) C.J.marks,Aa Bp (.slice A26 recs.length c27) recs]) mo (by kernel_rfl) (fun w H=>⟨_,H⟩) H (fun w H=>?_)
   refine Au U (Au U (An U U U (fun w ⟨Ar,H⟩=>AI U U) (An U U U (fun w ⟨Ar,H⟩=>Aj U Fi U) (An U U U (fun w ⟨Ar,H⟩=>Aj U OD U) (An U U U (fun w ⟨Ar,H⟩=>Ao U EH U (H.cellI 0 U U)) ?_)))))
   refine Hy U U ?_ ?_
   ·refine V U U (Ao U Ed U (H.cellI 8 U U)) (AH ⟨_,H⟩ (AK U (sc (GS (.slice A80 se77.length c81) se77 (by first |assumption|omega)) H (lX (fun F hA hR=>Jx (hR _ (List.mem_of_getElem? (i:=5) U)) hx70) l0) U U (At G4 U U) ?_)))
    rintro v144 _ w rfl H
    replace H:=H.h1 (A:=Y (Ai .i64) v144 se77)|>.p8|>.p8|>.p8|>.p8|>.p8|>.p8|>.p8|>.p8
    refine AH ⟨_,H⟩ (AK U ?_)
    obtain ⟨A146,c147,rfl,hc148,hm149,hp150⟩:=H.fA 8 rfl
    refine BU (parts:=[(0,.tmp 76)]) (vs:=[.slice A146 se77.length c147]) (cs:=[.slice A146 se77.length c147]) U U U Ec El U (by decide) (by decide) U U H (fun b145 w H=>?_)
    replace H:Hd _ _ _ [blk b145 [.slice A146 se77.length c147] 24,blk b89 [.int .i64 a71,.int .i64 a72,.int .i64 a73,.int .i64 a74,.int .i64 a75,.slice A80 se77.length c81,.slice A82 pr79.length c83] 37,Y (Ak Ag) (.slice A42 J34.us.length c43) J34.us,Y Af (.slice A47 J34.map.length c48) J34.map,Y Af (.slice A52 J34.comb.length c53) J34.comb,Y Af (.slice A57 J34.red.length c58) J34.red,Y (Ai .i64) (.slice A62 J34.marks.length c63) J34.marks,AO (R.g) hv,AV 253 b41 ([]),Y (Ai .i64) (.slice A146 se77.length c147) se77,blk b67 (AJ (.slice A42 J34.us.length c43) (.slice A47 J34.map.length c48) (.slice A52 J34.comb.length c53) (.slice A57 J34.red.length c58) (.slice A62 J34.marks.length c63) J34 C.w C.t C.o p ep R.g hv b41 vs) 185,Y (Ak (Ai .i64)) vs us] [Aa (Ak Ag) (.slice A1 C.J.us.length c2) C.J.us,Aa Af (.slice A6 C.J.map.length c7) C.J.map,Aa Af (.slice A11 C.J.comb.length c12) C.J.comb,Aa Af (.slice A16 C.J.red.length c17) C.J.red,Aa (Ai .i64) (.slice A21 C.J.marks.length c22) C.J.marks,Aa Bp (.slice A26 recs.length c27) recs]:=H
    replace H:=H.p8.p8.p8.p8.p8.p8.p8.p8
    refine AH ⟨_,H⟩ (AK U ?_)
    replace H:=H.pick 11 rfl|>.pick 10 rfl|>.pick 10 rfl|>.p2
    refine FS U U U Ec El U (by decide) U U H (by first |omega|(simp only [List.length_append,List.length_cons,List.length_nil];omega)) (fun v151 w H=>?_)
    replace H:=H.h1 (A:=Y (Ak (Ai .i64)) v151 (us++[((.slice A146 se77.length c147:Value),se77)]))|>.p8|>.p8|>.p8|>.p8|>.p8|>.p8|>.p8|>.p8
    refine AH ⟨_,H⟩ (An U U U (fun w ⟨Ar,H⟩=>AI U U) (An U U U (fun w ⟨Ar,H⟩=>Aj U Fi U) (AK U ?_)))
    obtain ⟨A152,c153,rfl,hc154,hm155,hp156⟩:=H.fA 8 rfl
    replace H:=H.p9
    refine Bo U U U Ed U U H U (Nat.le_of_ble_eq_true U) (fun u hu=>by simp [Value.cells] at hu;subst hu;rfl) (fun w H=>?_)
    replace H:Hd _ _ _ [blk b67 (AJ (.slice A42 J34.us.length c43) (.slice A47 J34.map.length c48) (.slice A52 J34.comb.length c53) (.slice A57 J34.red.length c58) (.slice A62 J34.marks.length c63) J34 C.w C.t C.o p ep R.g hv b41 (.slice A152 ((us++[((.slice A146 se77.length c147:Value),se77)]).length) c153)) 185,blk b89 [.int .i64 a71,.int .i64 a72,.int .i64 a73,.int .i64 a74,.int .i64 a75,.slice A80 se77.length c81,.slice A82 pr79.length c83] 37,Y (Ak Ag) (.slice A42 J34.us.length c43) J34.us,Y Af (.slice A47 J34.map.length c48) J34.map,Y Af (.slice A52 J34.comb.length c53) J34.comb,Y Af (.slice A57 J34.red.length c58) J34.red,Y (Ai .i64) (.slice A62 J34.marks.length c63) J34.marks,AO (R.g) hv,AV 253 b41 ([]),Y (Ak (Ai .i64)) (.slice A152 ((us++[((.slice A146 se77.length c147:Value),se77)]).length) c153) (us++[((.slice A146 se77.length c147:Value),se77)])] [Aa (Ak Ag) (.slice A1 C.J.us.length c2) C.J.us,Aa Af (.slice A6 C.J.map.length c7) C.J.map,Aa Af (.slice A11 C.J.comb.length c12) C.J.comb,Aa Af (.slice A16 C.J.red.length c17) C.J.red,Aa (Ai .i64) (.slice A21 C.J.marks.length c22) C.J.marks,Aa Bp (.slice A26 recs.length c27) recs]:=H
    replace H:=H.p8.p8.p8.p8.p8.p8.p8.p8
    refine AH ⟨_,H⟩ (BH (A_ (Z (Ae (V U U (A0 (z:=((k+1:Nat):Int)) U U U (by rw [AF (by omega) (by omega)];omega)) (Ad U (Ac ?_)))))))
    have hpart:(AX.p (⟨a71,a72,a73,a74,a75,.slice A80 se77.length c81,se77,.slice A82 pr79.length c83,pr79⟩:AX)).part=R.part:=by rw [hRp];exact Classical.not_not.1 h90
    have hR2:=FC hR hx70 (ID hpart h143)
    replace H:=H.p7.p9.p8.p8.p8.p8.p8.p8.p9.k9.h7 (A:=blk b67 (AJ (.slice A42 J34.us.length c43) (.slice A47 J34.map.length c48) (.slice A52 J34.comb.length c53) (.slice A57 J34.red.length c58) (.slice A62 J34.marks.length c63) J34 C.w C.t C.o p ep (({ R with sets:=R.sets++[se77] }:AC).g) hv b41 (.slice A152 ((us++[((.slice A146 se77.length c147:Value),se77)]).length) c153)) 185) (G:=AO (({ R with sets:=R.sets++[se77] }:AC).g) hv)
    exact Bl (s:=(k,R,hv,undef,us)) (k+1,({ R with sets:=R.sets++[se77] }:AC),hv,.slice A152 ((us++[((.slice A146 se77.length c147:Value),se77)]).length) c153,us++[((.slice A146 se77.length c147:Value),se77)]) ⟨rfl,rfl,rfl,rfl,rfl,rfl,rfl,trivial⟩ ⟨H,hR2,hRp,by (try dsimp only);rw [List.map_append,hus];rfl,by (try dsimp only);omega,by (try dsimp only);rw [List.length_append];simp only [List.length_cons,List.length_nil];omega⟩ (by (try dsimp only);omega)
   refine sc (GS (.slice A80 se77.length c81) se77 (by first |assumption|omega)) H (lX (fun F hA hR=>Jx (hR _ (List.mem_of_getElem? (i:=5) U)) hx70) l0) U U (At G4 U U) ?_
   rintro v157 _ w rfl H
   replace H:=H.h1 (A:=Y (Ai .i64) v157 se77)|>.p8|>.p8|>.p8|>.p8|>.p8|>.p8|>.p8|>.p8
   refine AH ⟨_,H⟩ ?_
   refine Hy U U ?_ ?_
   ·refine V U U (Ao U Ed U (H.cellI 9 U U)) (AH ⟨_,H⟩ (AK U ?_))
    obtain ⟨A159,c160,rfl,hc161,hm162,hp163⟩:=H.fA 8 rfl
    refine BU (parts:=[(0,.tmp 76)]) (vs:=[.slice A159 se77.length c160]) (cs:=[.slice A159 se77.length c160]) U U U Ec El U (by decide) (by decide) U U H (fun b158 w H=>?_)
    replace H:Hd _ _ _ [blk b158 [.slice A159 se77.length c160] 24,blk b89 [.int .i64 a71,.int .i64 a72,.int .i64 a73,.int .i64 a74,.int .i64 a75,.slice A80 se77.length c81,.slice A82 pr79.length c83] 37,Y (Ak Ag) (.slice A42 J34.us.length c43) J34.us,Y Af (.slice A47 J34.map.length c48) J34.map,Y Af (.slice A52 J34.comb.length c53) J34.comb,Y Af (.slice A57 J34.red.length c58) J34.red,Y (Ai .i64) (.slice A62 J34.marks.length c63) J34.marks,AO (R.g) hv,AV 253 b41 ([]),Y (Ai .i64) (.slice A159 se77.length c160) se77,blk b67 (AJ (.slice A42 J34.us.length c43) (.slice A47 J34.map.length c48) (.slice A52 J34.comb.length c53) (.slice A57 J34.red.length c58) (.slice A62 J34.marks.length c63) J34 C.w C.t C.o p ep R.g hv b41 vs) 185,Y (Ak (Ai .i64)) vs us] [Aa (Ak Ag) (.slice A1 C.J.us.length c2) C.J.us,Aa Af (.slice A6 C.J.map.length c7) C.J.map,Aa Af (.slice A11 C.J.comb.length c12) C.J.comb,Aa Af (.slice A16 C.J.red.length c17) C.J.red,Aa (Ai .i64) (.slice A21 C.J.marks.length c22) C.J.marks,Aa Bp (.slice A26 recs.length c27) recs]:=H
    replace H:=H.p8.p8.p8.p8.p8.p8.p8.p8
    refine AH ⟨_,H⟩ (AK U ?_)
    replace H:=H.pick 11 rfl|>.pick 10 rfl|>.pick 10 rfl|>.p2
    refine FS U U U Ec El U (by decide) U U H (by first |omega|(simp only [List.length_append,List.length_cons,List.length_nil];omega)) (fun v164 w H=>?_)
    replace H:=H.h1 (A:=Y (Ak (Ai .i64)) v164 (us++[((.slice A159 se77.length c160:Value),se77)]))|>.p8|>.p8|>.p8|>.p8|>.p8|>.p8|>.p8|>.p8
    refine AH ⟨_,H⟩ (An U U U (fun w ⟨Ar,H⟩=>AI U U) (An U U U (fun w ⟨Ar,H⟩=>Aj U Fi U) (AK U ?_)))
    obtain ⟨A165,c166,rfl,hc167,hm168,hp169⟩:=H.fA 8 rfl
    replace H:=H.p9
    refine Bo U U U Ed U U H U (Nat.le_of_ble_eq_true U) (fun u hu=>by simp [Value.cells] at hu;subst hu;rfl) (fun w H=>?_)
    replace H:Hd _ _ _ [blk b67 (AJ (.slice A42 J34.us.length c43) (.slice A47 J34.map.length c48) (.slice A52 J34.comb.length c53) (.slice A57 J34.red.length c58) (.slice A62 J34.marks.length c63) J34 C.w C.t C.o p ep R.g hv b41 (.slice A165 ((us++[((.slice A159 se77.length c160:Value),se77)]).length) c166)) 185,blk b89 [.int .i64 a71,.int .i64 a72,.int .i64 a73,.int .i64 a74,.int .i64 a75,.slice A80 se77.length c81,.slice A82 pr79.length c83] 37,Y (Ak Ag) (.slice A42 J34.us.length c43) J34.us,Y Af (.slice A47 J34.map.length c48) J34.map,Y Af (.slice A52 J34.comb.length c53) J34.comb,Y Af (.slice A57 J34.red.length c58) J34.red,Y (Ai .i64) (.slice A62 J34.marks.length c63) J34.marks,AO (R.g) hv,AV 253 b41 ([]),Y (Ak (Ai .i64)) (.slice A165 ((us++[((.slice A159 se77.length c160:Value),se77)]).length) c166) (us++[((.slice A159 se77.length c160:Value),se77)])] [Aa (Ak Ag) (.slice A1 C.J.us.length c2) C.J.us,Aa Af (.slice A6 C.J.map.length c7) C.J.map,Aa Af (.slice A11 C.J.comb.length c12) C.J.comb,Aa Af (.slice A16 C.J.red.length c17) C.J.red,Aa (Ai .i64) (.slice A21 C.J.marks.length c22) C.J.marks,Aa Bp (.slice A26 recs.length c27) recs]:=H
    replace H:=H.p8.p8.p8.p8.p8.p8.p8.p8
    refine AH ⟨_,H⟩ (BH (A_ (Z (Ae (V U U (A0 (z:=((k+1:Nat):Int)) U U U (by rw [AF (by omega) (by omega)];omega)) (Ad U (Ac ?_)))))))
    have hpart:(AX.p (⟨a71,a72,a73,a74,a75,.slice A80 se77.length c81,se77,.slice A82 pr79.length c83,pr79⟩:AX)).part=R.part:=by rw [hRp];exact Classical.not_not.1 h90
    have hR2:=FC hR hx70 (ID hpart h143)
    replace H:=H.p7.p9.p8.p8.p8.p8.p8.p8.p9.k9.h7 (A:=blk b67 (AJ (.slice A42 J34.us.length c43) (.slice A47 J34.map.length c48) (.slice A52 J34.comb.length c53) (.slice A57 J34.red.length c58) (.slice A62 J34.marks.length c63) J34 C.w C.t C.o p ep (({ R with sets:=R.sets++[se77] }:AC).g) hv b41 (.slice A165 ((us++[((.slice A159 se77.length c160:Value),se77)]).length) c166)) 185) (G:=AO (({ R with sets:=R.sets++[se77] }:AC).g) hv)
    exact Bl (s:=(k,R,hv,undef,us)) (k+1,({ R with sets:=R.sets++[se77] }:AC),hv,.slice A165 ((us++[((.slice A159 se77.length c160:Value),se77)]).length) c166,us++[((.slice A159 se77.length c160:Value),se77)]) ⟨rfl,rfl,rfl,rfl,rfl,rfl,rfl,trivial⟩ ⟨H,hR2,hRp,by (try dsimp only);rw [List.map_append,hus];rfl,by (try dsimp only);omega,by (try dsimp only);rw [List.length_append];simp only [List.length_cons,List.length_nil];omega⟩ (by (try dsimp only);omega)
   obtain ⟨A171,c172,rfl,hc173,hm174,hp175⟩:=H.fA 8 rfl
   refine BU (parts:=[(0,.tmp 76)]) (vs:=[.slice A171 se77.length c172]) (cs:=[.slice A171 se77.length c172]) U U U Ec El U (by decide) (by decide) U U H (fun b170 w H=>?_)
   replace H:Hd _ _ _ [blk b170 [.slice A171 se77.length c172] 24,blk b89 [.int .i64 a71,.int .i64 a72,.int .i64 a73,.int .i64 a74,.int .i64 a75,.slice A80 se77.length c81,.slice A82 pr79.length c83] 37,Y (Ak Ag) (.slice A42 J34.us.length c43) J34.us,Y Af (.slice A47 J34.map.length c48) J34.map,Y Af (.slice A52 J34.comb.length c53) J34.comb,Y Af (.slice A57 J34.red.length c58) J34.red,Y (Ai .i64) (.slice A62 J34.marks.length c63) J34.marks,AO (R.g) hv,AV 253 b41 ([]),Y (Ai .i64) (.slice A171 se77.length c172) se77,blk b67 (AJ (.slice A42 J34.us.length c43) (.slice A47 J34.map.length c48) (.slice A52 J34.comb.length c53) (.slice A57 J34.red.length c58) (.slice A62 J34.marks.length c63) J34 C.w C.t C.o p ep R.g hv b41 vs) 185,Y (Ak (Ai .i64)) vs us] [Aa (Ak Ag) (.slice A1 C.J.us.length c2) C.J.us,Aa Af (.slice A6 C.J.map.length c7) C.J.map,Aa Af (.slice A11 C.J.comb.length c12) C.J.comb,Aa Af (.slice A16 C.J.red.length c17) C.J.red,Aa (Ai .i64) (.slice A21 C.J.marks.length c22) C.J.marks,Aa Bp (.slice A26 recs.length c27) recs]:=H
   replace H:=H.p8.p8.p8.p8.p8.p8.p8.p8
   refine AH ⟨_,H⟩ (AK U (V U U (Ao U Ed U (H.cellI 10 U U)) (AH ⟨_,H⟩ (AK U ?_))))
   replace H:=H.pick 11 rfl|>.pick 10 rfl|>.pick 10 rfl|>.p2
   refine FS U U U Ec El U (by decide) U U H (by first |omega|(simp only [List.length_append,List.length_cons,List.length_nil];omega)) (fun v176 w H=>?_)
   replace H:=H.h1 (A:=Y (Ak (Ai .i64)) v176 (us++[((.slice A171 se77.length c172:Value),se77)]))|>.p8|>.p8|>.p8|>.p8|>.p8|>.p8|>.p8|>.p8
   refine AH ⟨_,H⟩ (An U U U (fun w ⟨Ar,H⟩=>AI U U) (An U U U (fun w ⟨Ar,H⟩=>Aj U Fi U) (AK U ?_)))
   obtain ⟨A177,c178,rfl,hc179,hm180,hp181⟩:=H.fA 8 rfl
   replace H:=H.p9
   refine Bo U U U Ed U U H U (Nat.le_of_ble_eq_true U) (fun u hu=>by simp [Value.cells] at hu;subst hu;rfl) (fun w H=>?_)
   replace H:Hd _ _ _ [blk b67 (AJ (.slice A42 J34.us.length c43) (.slice A47 J34.map.length c48) (.slice A52 J34.comb.length c53) (.slice A57 J34.red.length c58) (.slice A62 J34.marks.length c63) J34 C.w C.t C.o p ep R.g hv b41 (.slice A177 ((us++[((.slice A171 se77.length c172:Value),se77)]).length) c178)) 185,blk b89 [.int .i64 a71,.int .i64 a72,.int .i64 a73,.int .i64 a74,.int .i64 a75,.slice A80 se77.length c81,.slice A82 pr79.length c83] 37,Y (Ak Ag) (.slice A42 J34.us.length c43) J34.us,Y Af (.slice A47 J34.map.length c48) J34.map,Y Af (.slice A52 J34.comb.length c53) J34.comb,Y Af (.slice A57 J34.red.length c58) J34.red,Y (Ai .i64) (.slice A62 J34.marks.length c63) J34.marks,AO (R.g) hv,AV 253 b41 ([]),Y (Ak (Ai .i64)) (.slice A177 ((us++[((.slice A171 se77.length c172:Value),se77)]).length) c178) (us++[((.slice A171 se77.length c172:Value),se77)])] [Aa (Ak Ag) (.slice A1 C.J.us.length c2) C.J.us,Aa Af (.slice A6 C.J.map.length c7) C.J.map,Aa Af (.slice A11 C.J.comb.length c12) C.J.comb,Aa Af (.slice A16 C.J.red.length c17) C.J.red,Aa (Ai .i64) (.slice A21 C.J.marks.length c22) C.J.marks,Aa Bp (.slice A26 recs.length c27) recs]:=H
   replace H:=H.p8.p8.p8.p8.p8.p8.p8.p8
   refine AH ⟨_,H⟩ (BH (A_ (Z (Ae (V U U (A0 (z:=((k+1:Nat):Int)) U U U (by rw [AF (by omega) (by omega)];omega)) (Ad U (Ac ?_)))))))
   have hpart:(AX.p (⟨a71,a72,a73,a74,a75,.slice A80 se77.length c81,se77,.slice A82 pr79.length c83,pr79⟩:AX)).part=R.part:=by rw [hRp];exact Classical.not_not.1 h90
   have hR2:=FC hR hx70 (ID hpart h143)
   replace H:=H.p7.p9.p8.p8.p8.p8.p8.p8.p9.k9.h7 (A:=blk b67 (AJ (.slice A42 J34.us.length c43) (.slice A47 J34.map.length c48) (.slice A52 J34.comb.length c53) (.slice A57 J34.red.length c58) (.slice A62 J34.marks.length c63) J34 C.w C.t C.o p ep (({ R with sets:=R.sets++[se77] }:AC).g) hv b41 (.slice A177 ((us++[((.slice A171 se77.length c172:Value),se77)]).length) c178)) 185) (G:=AO (({ R with sets:=R.sets++[se77] }:AC).g) hv)
   exact Bl (s:=(k,R,hv,undef,us)) (k+1,({ R with sets:=R.sets++[se77] }:AC),hv,.slice A177 ((us++[((.slice A171 se77.length c172:Value),se77)]).length) c178,us++[((.slice A171 se77.length c172:Value),se77)]) ⟨rfl,rfl,rfl,rfl,rfl,rfl,rfl,trivial⟩ ⟨H,hR2,hRp,by (try dsimp only);rw [List.map_append,hus];rfl,by (try dsimp only);omega,by (try dsimp only);rw [List.length_append];simp only [List.length_cons,List.length_nil];omega⟩ (by (try dsimp only);omega)
  refine Aw (A_ (Z (Ae (V U U (A0 (z:=((k+1:Nat):Int)) U U U (by rw [AF (by omega) (by omega)];omega)) (Ad U (Ac ?_))))))
  have hpart:(AX.p (⟨a71,a72,a73,a74,a75,.slice A80 se77.length c81,se77,.slice A82 pr79.length c83,pr79⟩:AX)).part=R.part:=by rw [hRp];exact Classical.not_not.1 h90
  have hR2:=FC hR hx70 (KA hpart (fun h=>h141 h.1) h143)
  replace H:=H.p9.p9.p9.p9.p9.p9.p9.p9.p9.k9
  exact Bl (s:=(k,R,hv,undef,us)) (k+1,R,hv,vs,us) ⟨rfl,rfl,rfl,rfl,rfl,rfl,rfl,trivial⟩ ⟨H,hR2,hRp,by (try dsimp only);exact hus,by (try dsimp only);omega,by (try dsimp only);omega⟩ (by (try dsimp only);omega)
 refine BM (AR (AR (BN (Z (Ab (Ae (Ah 3 U (Ac (Z (Ap (Cm U U U ?_)))))))))))
 have hkk:R=C2 J34.us.length p ep (recs.map AX.p):=by rw [hR,List.take_of_length_le (by omega)]
 clear hR
 subst hkk
 replace H:=H.h8 (A:=blk b67 (AJ (.slice A42 J34.us.length c43) (.slice A47 J34.map.length c48) (.slice A52 J34.comb.length c53) (.slice A57 J34.red.length c58) (.slice A62 J34.marks.length c63) J34 C.w C.t C.o p ep ((C2 J34.us.length p ep (recs.map AX.p)).g) hv b41 vs) 185) (G:=AO ((C2 J34.us.length p ep (recs.map AX.p)).g) hv) (I:=Y (Ak (Ai .i64)) vs us)
 exact Am ⟨b67,(.slice A42 J34.us.length c43),(.slice A47 J34.map.length c48),(.slice A52 J34.comb.length c53),(.slice A57 J34.red.length c58),(.slice A62 J34.marks.length c63),J34,hv,b41,vs,us,rfl,rfl,hsj,hus⟩ H
section
variable {w:World} {F:AN}
end
theorem BC.out {A B:AG} (h:BC A B) (D:Bg) (R:AC):D3 D A R=D3 D B R:=by
 unfold D3 DH
 rw [h.len,h.red,h.fuel]
theorem CL {C:Cf} {p:Int} (hC:D1 C) (h0:0≤p) (h1:p<C.J.parts):Io C p≠0:=by
 have e:Io C p=1+p.tmod C.w:=if_neg (fun h=>h.elim (fun h=>h hC) (fun h=>by omega))
 have:=Int.tmod_nonneg C.w h0
 omega
theorem Xf {P:Program} {t j i:TypeId}
  (hs:Gh P t=some [(j,0,9),(i,9,1),(i,10,1),(i,11,1)]) (hc:P.cellsOf t=12) (hi:P.underlying i=some (.int .i64))
  {H:Type} (enc:TypeId×Value→H) (w:World) (fuel:Nat) (cs:List Value) (x:DataW H×List MemPlace) (h:DataW.trod enc P w 0 (fun _=>true) true fuel t cs=some x):
  ∃ (js:List Value) (m:Nat) (y:DataW H×List MemPlace) (n1 n2 n3:Int),cs=js++[.int .i64 n1,.int .i64 n2,.int .i64 n3]∧DataW.trod enc P w 0 (fun _=>true) true m j js=some y∧js.length=9∧(Ax n1∧Ax n2∧Ax n3):=by
 obtain ⟨hl,n,hf⟩:=Ku hs h
 rw [hc] at hl
 match cs,hl with
 |[c0,c1,c2,c3,c4,c5,c6,c7,c8,c9,c10,c11],_=>
  obtain ⟨y0,g0⟩:=hf 0 _ _ _ rfl
  obtain ⟨y1,g1⟩:=hf 1 _ _ _ rfl
  obtain ⟨y2,g2⟩:=hf 2 _ _ _ rfl
  obtain ⟨y3,g3⟩:=hf 3 _ _ _ rfl
  obtain ⟨a1,r1,w1⟩:=Fl hi enc w n _ _ g1
  obtain ⟨a2,r2,w2⟩:=Fl hi enc w n _ _ g2
  obtain ⟨a3,r3,w3⟩:=Fl hi enc w n _ _ g3
  have q1:[c9]=[Value.int .i64 a1]:=r1
  have q2:[c10]=[Value.int .i64 a2]:=r2
  have q3:[c11]=[Value.int .i64 a3]:=r3
  simp only [List.cons.injEq,and_true] at q1 q2 q3
  subst q1 q2 q3
  exact ⟨[c0,c1,c2,c3,c4,c5,c6,c7,c8],n,y0,a1,a2,a3,rfl,g0,rfl,w1,w2,w3⟩
theorem Za (v1 v2:Value) (xs ys:List Int):
    Cn Tryz.prog 33 [v1,v2] [] [Aa (Ai .i64) v1 xs,Aa (Ai .i64) v2 ys] (fun v Bs=>v=.bool (decide (xs=ys))∧Bs=[]):=by
 intro w0 F0 H
 obtain ⟨A1,c2,rfl,hc3,hm4,hp5⟩:=H.fR 0 rfl
 obtain ⟨A6,c7,rfl,hc8,hm9,hp10⟩:=H.fR 1 rfl
 refine enter Tryz.func33 U U (Nat.le_of_ble_eq_true U) (Ab (Ae (Ad U (Ac (Z ?_)))))
 replace H:Hd _ _ _ [] [Aa (Ai .i64) (.slice A1 xs.length c2) xs,Aa (Ai .i64) (.slice A6 ys.length c7) ys]:=H
 refine Ab (Ab (Ae (Ad U (V U U (A8 U DL U) (Ad U (V U U (A8 U DL U) (V U U (CN U U U) (Ac (Z ?_)))))))))
 refine Az U (fun h11=>?_) (fun h11=>?_)
 ·refine Ab (Ae (Ad U (Ac (Z (Ap (AA (Aq U U ?_)))))))
  have e:¬ xs=ys:=fun e=>h11 (by rw [e])
  exact Am ⟨by rw [decide_eq_false e]<;>rfl,rfl⟩ H
 refine Aw (Z (Ab (Ab (Ae (Ad U (Ac (Z (AW ?_))))))))
 have hle:xs.length=ys.length:=by omega
 refine BT (σ:=Nat) (fun k=>[(0,.slice A1 xs.length c2),(1,.slice A6 ys.length c7),(5,.int .i64 ((k:Nat):Int))]) (fun k w=>(Hd w0 F0 w [] [Aa (Ai .i64) (.slice A1 xs.length c2) xs,Aa (Ai .i64) (.slice A6 ys.length c7) ys])∧(k≤xs.length)∧(xs.length=ys.length)∧(xs.take k=ys.take k)) (fun k=>xs.length - k) 0 ⟨rfl,rfl,rfl,trivial⟩ ⟨H,by omega,hle,rfl⟩ ?_
 rintro k w ⟨H,hk,hle,ht⟩
 refine Ab (Ab (Ae (Ah 2 U (V U U (A8 U DL U) (V U U (Bd U U U) (Ac (Z ?_)))))))
 refine Az U (fun h12=>?_) (fun h12=>?_)
 ·refine Aw (Z (Ab (AW (Ab (F8 mo (by kernel_rfl) H (Gi 2 U ?_))))))
  obtain ⟨x13,hx14⟩:∃ z9,xs[k]?=some z9:=⟨_,List.getElem?_eq_getElem (show k<xs.length by omega)⟩
  have th15:=H.thR 0 rfl hx14
  refine Bw U U (fun w H=>Ba (p:=AT A1+k*1) U Ds U U (by omega) (by omega) th15 U) (Bw U U (fun w H=>Ao U AE U (H.elR 0 U hx14 (q:=0) U U)) (Gi 2 U ?_))
  obtain ⟨x16,hx17⟩:∃ z9,ys[k]?=some z9:=⟨_,List.getElem?_eq_getElem (show k<ys.length by omega)⟩
  have th18:=H.thR 1 rfl hx17
  refine Bw U U (fun w H=>Ba (p:=AT A6+k*1) U Ds U U (by omega) (by omega) th18 U) (Bw U U (fun w H=>Ao U AE U (H.elR 1 U hx17 (q:=0) U U)) (Bw U U (fun w H=>CN U U U) (FX (fun w H=>(Z ?_)))))
  refine Az U (fun h19=>?_) (fun h19=>?_)
  ·refine Ab (Ae (Ad U (Ac (Z (Ap (Bb (AA (AA (Bb (AA (Aq U U ?_)))))))))))
   have e:¬ xs=ys:=fun e=>h19 (by rw [e,hx17] at hx14;exact (Option.some.inj hx14).symm)
   exact Am ⟨by rw [decide_eq_false e]<;>rfl,rfl⟩ H
  refine Aw (A_ (Z (Ae (Ad U (V U U (A0 (z:=((k+1:Nat):Int)) U U U (by rw [AF (by omega) (by omega)];omega)) (Ad U (Ac ?_)))))))
  have e:x13=x16:=Classical.not_not.1 h19
  subst e
  exact Bl (s:=k) (k+1) ⟨rfl,rfl,rfl,trivial⟩ ⟨H,by omega,hle,RA hx14 hx17 ht⟩ (by (try dsimp only);omega)
 refine BM (AR (AR (BN (Z (Ab (Ae (Ad U (Ac (Z (Ap (Aq U U ?_)))))))))))
 have e:xs=ys:=by rw [←Hm (xs:=xs) (k:=k) (by omega),←Hm (xs:=ys) (k:=k) (by omega)];exact ht
 exact Am ⟨by rw [decide_eq_true e]<;>rfl,rfl⟩ H
theorem Mb (x:Int) (n:Int) (hx:Ax x) (h0:0<n) (hn:n≤9223372036854775807):
    Cn Tryz.prog 22 [.int .i64 x,.int .i64 n] [] [] (fun v Bs=>v=.int .i64 (IntKind.u64.wrap x%n)∧Bs=[]):=by
 intro w0 F0 H
 exact enter Tryz.func22 U U (Nat.le_of_ble_eq_true U) (Ab (Ae (Ad U (Ac (Z (Ab (Ae (Ad U (V U U (DC (z:=IntKind.u64.wrap x) U U Dj Fb U) (Ad U (V U U (DC (z:=n) U U Dj Fb (Fs (by omega) (by omega))) (V U U (Hf (z:=(IntKind.u64.wrap x)%n) U U U (by omega) (Int.tmod_eq_emod_of_nonneg (bC x).1)) (V U U (DC (z:=(IntKind.u64.wrap x)%n) U U Fb Dj (AF (by have:=Int.emod_nonneg (IntKind.u64.wrap x) (show n≠0 by omega);omega) (by have:=Int.emod_lt_of_pos (IntKind.u64.wrap x) h0;omega))) (Ad U (Ac (Z (Ap (Aq U U (Am ⟨rfl,rfl⟩ H)))))))))))))))))))
def Jw (r:AX):SP:=CO [Y (Ai .i64) r.sv r.set,Y Ag r.pv r.pairs]
def EF (us:List AX):SP:=Bf Jw us
section
variable {w0 w:World} {F F0:AN} {As Rs:List SP} {v:Value} {us:List AX}
theorem Yt {r:AX} (h:(Jw r).P w F):GV r=FK (Eu r):=by
 obtain ⟨F1,F2,_,_,_,a,F3,F4,_,_,_,b,_⟩:=h
 obtain ⟨A1,c1,e1,_⟩:=Er (BE _ a)
 obtain ⟨A2,c2,e2,_⟩:=Er (BE _ b)
 simp [GV,FK,Eu,FB,e1,e2]
theorem Yr {r:AX} (h:(Jw r).P w F):Bp.O w F r (FK (Eu r)):=by
 have e:=Yt h
 obtain ⟨F1,F2,h1,h2,h3,a,F3,F4,g1,g2,g3,b,_⟩:=h
 exact ⟨e.symm,F1,F3,h1,fun k hk=>h2 k (g1 k hk),fun k hk hk2=>h3 k hk (g1 k hk2),a,b⟩
theorem QW:∀ {us:List AX} {F:AN},(EF us).P w F→CA Bp w F us ((us.map Eu).flatMap FK)
 |[],_,_=>rfl
 |u::us,F,⟨F1,F2,h1,h2,h3,a,s⟩=>⟨F1,F2,FK (Eu u),(us.map Eu).flatMap FK,h1,h2,h3,rfl,Yr a,QW (us:=us) s⟩
theorem Hd.recI (H:Hd w0 F0 w (Y ES v (us.map Eu)::EF us::As) Rs):Hd w0 F0 w (Y Bp v us::As) Rs:=by
 refine H.turn2 fun F1 F2 hd h1 h2=>?_
 obtain ⟨A,n,c,e,hl,cs,G1,G2,s1,s2,dj,row,reps⟩:=h1
 have hcs:cs=(us.map Eu).flatMap FK:=AZ.flat_eq.1 reps.toR
 subst hcs
 exact ⟨A,n,c,e,by simpa using hl,_,G1,F2,fun k hk=>.inl (s1 k hk),fun k hk=>.inr hk,fun k hk hg=>hd k (s1 k hk) hg,row,QW h2⟩
theorem Hd.recN {r:AX} (H:Hd w0 F0 w (Y (Ai .i64) r.sv r.set::Y Ag r.pv r.pairs::EF us::As) Rs):Hd w0 F0 w (EF (us++[r])::As) Rs:=
 Hd.bigN (f:=Jw) (x:=r) (Hd.stI (Bs:=[Y (Ai .i64) r.sv r.set,Y Ag r.pv r.pairs]) H)
theorem Hd.rec0 (H:Hd w0 F0 w As Rs):Hd w0 F0 w (EF []::As) Rs:=H.big0 Jw
end
structure F7 (α:Type) where
 sz:Nat
 enc:α→Value→Value→List Value
 len:∀ a s p,(enc a s p).length=sz
 one:∀ a s p,∀ c∈enc a s p,c=s∨c=p∨c.oneCell'=true
 pos:0<sz
structure CF (α:Type) where
 h:α
 sv:Value
 set:List Int
 pv:Value
 pairs:List Al
structure I0 (α:Type) where
 h:α
 hs:EJ
 hp:EJ
section
variable {α:Type}
def F7.e (S:F7 α) (x:CF α):List Value:=S.enc x.h x.sv x.pv
def F7.f (S:F7 α) (x:I0 α):List Value:=S.enc x.h (.slice x.hs.A x.hs.n x.hs.c) (.slice x.hp.A x.hp.n x.hp.c)
def Gb (S:F7 α):Kd (CF α) where
 sz:=S.sz
 O w F x cs:=cs=S.e x∧∃ F1 F2:AN,(∀ k,F1 k→F k)∧(∀ k,F2 k→F k)∧(∀ k,F1 k→¬ F2 k)∧(BB (Ai .i64)).O w F1 x.set [x.sv]∧(BB Ag).O w F2 x.pairs [x.pv]
 R w F x cs:=cs=S.e x∧(BB (Ai .i64)).R w F x.set [x.sv]∧(BB Ag).R w F x.pairs [x.pv]
 O_loc:=fun ⟨e,F1,F2,s1,s2,dj,h1,h2⟩ hk=>⟨e,F1,F2,s1,s2,dj,(BB _).O_loc h1 (fun k x=>hk k (s1 k x)),(BB _).O_loc h2 (fun k x=>hk k (s2 k x))⟩
 O_mono:=fun ⟨e,F1,F2,s1,s2,dj,h1,h2⟩ hk=>⟨e,F1,F2,fun k x=>hk k (s1 k x),fun k x=>hk k (s2 k x),dj,h1,h2⟩
 R_loc:=fun ⟨e,h1,h2⟩ hk=>⟨e,(BB _).R_loc h1 hk,(BB _).R_loc h2 hk⟩
 R_mono:=fun ⟨e,h1,h2⟩ hk=>⟨e,(BB _).R_mono h1 hk,(BB _).R_mono h2 hk⟩
 O_R:=fun ⟨e,F1,F2,s1,s2,dj,h1,h2⟩=>⟨e,(BB _).R_mono ((BB _).O_R h1) s1,(BB _).R_mono ((BB _).O_R h2) s2⟩
 len h:=by rw [h.1];exact S.len _ _ _
 one:=fun ⟨e,h1,h2⟩ c hc=>by
  have g1:=(BB _).one h1
  have g2:=(BB _).one h2
  subst e
  rcases S.one _ _ _ c hc with rfl|rfl|h
  ·exact g1 _ (List.mem_cons_self ..)
  ·exact g2 _ (List.mem_cons_self ..)
  ·exact h
 pos:=S.pos
def O0 (S:F7 α):Kd (I0 α):=flat S.f S.sz S.pos (fun x=>S.len _ _ _) (fun x c hc=>by
 rcases S.one _ _ _ c hc with rfl|rfl|h
 ·rfl
 ·rfl
 ·exact h)
def Ev (r:CF α):I0 α:=⟨r.h,FB r.sv,FB r.pv⟩
variable {S:F7 α} {w w0:World} {F F0:AN} {As Rs:List SP} {A:Option Addr} {m c:Nat}
theorem KQ {us:List (CF α)} (h:(Aa (Gb S) (.slice A m c) us).P w F) {i:Nat} {x:CF α} (hx:us[i]?=some x):
  Fw A∧(∀ q u,(S.e x)[q]?=some u→w.cell? ⟨Ef A,AT A+i*S.sz+q,none⟩=some u)∧(Aa (Ai .i64) x.sv x.set).P w F∧(Aa Ag x.pv x.pairs).P w F:=by
 obtain ⟨b,off,cs,e,hl,hc,h1,h2,h3⟩:=Jy h hx
 subst h1 e
 exact ⟨rfl,hc,h2,h3⟩
theorem KR {us:List (CF α)} (h:(Aa (Gb S) (.slice A m c) us).P w F) {i:Nat} {a:α} {sv pv:Value} {set:List Int} {pairs:List Al} (hx:us[i]?=some ⟨a,sv,set,pv,pairs⟩):(Aa (Ai .i64) sv set).P w F:=(KQ h hx).2.2.1
theorem RD {us:List (CF α)} (h:(Aa (Gb S) (.slice A m c) us).P w F) {i:Nat} {a:α} {sv pv:Value} {set:List Int} {pairs:List Al} (hx:us[i]?=some ⟨a,sv,set,pv,pairs⟩):(Aa Ag pv pairs).P w F:=(KQ h hx).2.2.2
theorem Hd.thAt {us:List (CF α)} (H:Hd w0 F0 w As Rs) (j:Nat) (hj:As[j]?=some (Y (Gb S) (.slice A m c) us)) {i:Nat} {x:CF α} (hx:us[i]?=some x):Fw A:=H.fact (List.mem_of_getElem? hj) fun F h=>(KQ (BE F h) hx).1
theorem Hd.elAt {us:List (CF α)} (H:Hd w0 F0 w As Rs) (j:Nat) (hj:As[j]?=some (Y (Gb S) (.slice A m c) us)) {i:Nat} {x:CF α} (hx:us[i]?=some x) {q p:Nat} {u:Value} (hu:(S.e x)[q]?=some u) (hp:AT A+i*S.sz+q=p):w.cell? ⟨Ef A,p,none⟩=some u:=by
 subst hp
 exact H.fact (List.mem_of_getElem? hj) fun F h=>(KQ (BE F h) hx).2.1 q u hu
theorem Hd.nestAt {us:List (CF α)} (H:Hd w0 F0 w As Rs) (j:Nat) (hj:As[j]?=some (Y (Gb S) (.slice A m c) us)) {i:Nat} {a:α} {sv pv:Value} {set:List Int} {pairs:List Al} (hx:us[i]?=some ⟨a,sv,set,pv,pairs⟩):
  ∃ A1 c1 A2 c2,sv=.slice A1 set.length c1∧pv=.slice A2 pairs.length c2∧set.length≤c1∧c1≤9223372036854775807∧pairs.length≤c2∧c2≤9223372036854775807:=by
 refine H.fact (List.mem_of_getElem? hj) fun F h=>?_
 obtain ⟨A1,c1,e1,g1,g2,_⟩:=Er (KR (BE F h) hx)
 obtain ⟨A2,c2,e2,g3,g4,_⟩:=Er (RD (BE F h) hx)
 exact ⟨A1,c1,A2,c2,e1,e2,g1,g2,g3,g4⟩
/-! ### Held: the cells in one row, the slices apart -/
theorem Z5 {r:CF α} {A1 A2:Option Addr} {n1 c1 n2 c2:Nat} (e1:r.sv=.slice A1 n1 c1) (e2:r.pv=.slice A2 n2 c2):S.e r=S.f (Ev r):=by
 simp [F7.e,F7.f,Ev,FB,e1,e2]
def JE (r:CF α):SP:=CO [Y (Ai .i64) r.sv r.set,Y Ag r.pv r.pairs]
def FV (us:List (CF α)):SP:=Bf JE us
theorem Z4 {r:CF α} (h:(JE r).P w F):S.e r=S.f (Ev r):=by
 obtain ⟨F1,F2,_,_,_,a,F3,F4,_,_,_,b,_⟩:=h
 obtain ⟨A1,c1,e1,_⟩:=Er (BE _ a)
 obtain ⟨A2,c2,e2,_⟩:=Er (BE _ b)
 exact Z5 e1 e2
theorem Z3 {r:CF α} (h:(JE r).P w F):(Gb S).O w F r (S.f (Ev r)):=by
 have e:=Z4 (S:=S) h
 obtain ⟨F1,F2,h1,h2,h3,a,F3,F4,g1,g2,g3,b,_⟩:=h
 exact ⟨e.symm,F1,F3,h1,fun k hk=>h2 k (g1 k hk),fun k hk hk2=>h3 k hk (g1 k hk2),a,b⟩
theorem QX:∀ {us:List (CF α)} {F:AN},(FV us).P w F→CA (Gb S) w F us ((us.map Ev).flatMap S.f)
 |[],_,_=>rfl
 |u::us,F,⟨F1,F2,h1,h2,h3,a,s⟩=>⟨F1,F2,S.f (Ev u),(us.map Ev).flatMap S.f,h1,h2,h3,rfl,Z3 a,QX (us:=us) s⟩
variable {v:Value} {us:List (CF α)}
theorem Hd.twI (H:Hd w0 F0 w (Y (O0 S) v (us.map Ev)::FV us::As) Rs):Hd w0 F0 w (Y (Gb S) v us::As) Rs:=by
 refine H.turn2 fun F1 F2 hd h1 h2=>?_
 obtain ⟨A,n,c,e,hl,cs,G1,G2,s1,s2,dj,row,reps⟩:=h1
 have hcs:cs=(us.map Ev).flatMap S.f:=AZ.flat_eq.1 reps.toR
 subst hcs
 exact ⟨A,n,c,e,by simpa using hl,_,G1,F2,fun k hk=>.inl (s1 k hk),fun k hk=>.inr hk,fun k hk hg=>hd k (s1 k hk) hg,row,QX h2⟩
theorem Hd.twN {r:CF α} (H:Hd w0 F0 w (Y (Ai .i64) r.sv r.set::Y Ag r.pv r.pairs::FV us::As) Rs):Hd w0 F0 w (FV (us++[r])::As) Rs:=
 Hd.bigN (f:=JE) (x:=r) (Hd.stI (Bs:=[Y (Ai .i64) r.sv r.set,Y Ag r.pv r.pairs]) H)
theorem Hd.tw0 (H:Hd w0 F0 w As Rs):Hd w0 F0 w (FV ([]:List (CF α))::As) Rs:=H.big0 JE
end
/-! ### Messages, letters, acts, snapshots -/
structure IZ where
 kind:Int
 sp:Int
 att:Int
 part:Int
 seq:Int
 next:Int
 ep:Int
 why:Int
structure bG where
 won:Bool
 m:IZ
 n:Int
structure bH where
 hear:Bool
 fr:Int
 m:IZ
structure bK where
 fr:Int
 to:Int
 m:IZ
def Rn:F7 Int where
 sz:=3
 enc a s p:=[s,.int .i64 a,p]
 len _ _ _:=rfl
 one _ _ _ c h:=by
  simp only [List.mem_cons,List.not_mem_nil,or_false] at h
  rcases h with rfl|rfl|rfl<;>first |exact .inr (.inr rfl)|exact .inl rfl|exact .inr (.inl rfl)
 pos:=by omega
abbrev E6:=Gb Rn
abbrev HI:=O0 Rn
def IZ.p (m:IZ) (set:List Int) (ps:List Al):Bt:=⟨m.kind,m.sp,m.att,m.part,m.seq,m.next,m.ep,m.why,set,ps⟩
def HO (x:CF Int):GP:=⟨x.set,x.h,x.pairs⟩
theorem WI {a b:Bt}:a=b↔a.kind=b.kind∧a.sp=b.sp∧a.att=b.att∧a.part=b.part∧a.seq=b.seq∧a.next=b.next∧a.ep=b.ep∧a.why=b.why∧a.set=b.set∧a.pairs=b.pairs:=by
 constructor
 ·rintro rfl;exact ⟨rfl,rfl,rfl,rfl,rfl,rfl,rfl,rfl,rfl,rfl⟩
 ·rintro ⟨h1,h2,h3,h4,h5,h6,h7,h8,h9,h10⟩
  cases a;cases b
  simp only at h1 h2 h3 h4 h5 h6 h7 h8 h9 h10
  subst h1 h2 h3 h4 h5 h6 h7 h8 h9 h10
  rfl
instance msgD (a b:Bt):Decidable (a=b):=decidable_of_iff _ WI.symm
/-! ### How they come in -/
section
variable {P:Program} {t:TypeId}
end
/-! ### A result in cells, and another one -/
section
variable {P:Program} {fn:Func} {R:Ending→World→Prop} {n:Nat} {l:BF} {w:World} {t:TypeId} {a:Act}
theorem YE {s u:Tmp} {sz:Nat} {p:Addr} {cs:List Value} {v:Value} (hr:fn.results=#[.cell s t,.tmp u]) (ha:Cp n l a) (hs:lk l s=some (.pointer (some p))) (hu:lk l u=some v) (ht:B7 P t=some (true,sz)) (hz:cs.length=sz) (hc:∀ j v,cs[j]?=some v→w.cell? (p.add j)=some v):
  (results fn a.tmps).run P w=.ok (.tuple #[.agg cs.toArray,v]) w:=by
 have hl:=run_loadCells_list (P:=P) w p cs hc
 have hg:=(ha.get s _ hs).1
 have e2:=(ha.get u _ hu).1
 simp [results,hr]
 simp only [←Array.getD_eq_getD_getElem?,hg,e2]
 simp [asAddr,loadVar,II ht,KE ht,←hz,hl]
theorem FR {s u:Tmp} {sz:Nat} {p:Addr} {cs:List Value} {v:Value} (hr:fn.results=#[.cell s t,.tmp u]) (hs:lk l s=some (.pointer (some p))) (hu:lk l u=some v) (ht:B7 P t=some (true,sz)) (hz:cs.length=sz) (hc:∀ j v,cs[j]?=some v→w.cell? (p.add j)=some v) (h:R (.returned (.tuple #[.agg cs.toArray,v])) w):WQ (bodyPost P fn R) .ret n l w:=
 fun a ha=>bodyPost_ret (YE hr ha hs hu ht hz hc) ha.defers h
end
def HR (st:CW):Prop:=∀ a b,(B3 st a b).length≤40∧∀ x∈B3 st a b,x.length≤8
structure AS (n:Nat) (R:AC):Prop where
 pairs:∀ i,(R.g i).pairs.length≤1000
 st:HR R.st
 sets:R.sets.length≤n
 setl:∀ s∈R.sets,s.length≤1000
theorem AS.mono {n m:Nat} {R:AC} (h:AS n R) (hm:n≤m):AS m R:=⟨h.pairs,h.st,Nat.le_trans h.sets hm,h.setl⟩
theorem TZ {l:List (List Al)} {n m:Nat} (h1:l.length≤n) (h2:∀ x∈l,x.length≤m):l.flatten.length≤n*m:=by
 have:∀ l:List (List Al),(∀ x∈l,x.length≤m)→l.flatten.length≤l.length*m:=by
  intro l
  induction l with
  |nil=>intro _;simp
  |cons x l ih=>
   intro h
   have h3:=ih fun y hy=>h y (List.mem_cons_of_mem _ hy)
   have h4:=h x (List.mem_cons_self ..)
   rw [List.flatten_cons,List.length_append,List.length_cons,Nat.succ_mul]
   omega
 exact Nat.le_trans (this l h2) (Nat.mul_le_mul_right _ h1)
theorem AS.flat {n:Nat} {R:AC} (h:AS n R) (a b:Int):(B3 R.st a b).flatten.length≤320:=TZ (h.st a b).1 (h.st a b).2
theorem Rl (c a b:Int):∀ st:CW,B3 (D4 st c) a b=if a=c then [] else B3 st a b
 |[]=>by unfold D4;simp [B3]
 |e::s=>by
  have ih:=Rl c a b s
  unfold D4 at ih ⊢
  by_cases h:e.1.1=c
  ·rw [List.filter_cons_of_neg (by simpa using h),ih]
   by_cases h2:a=c
   ·rw [if_pos h2,if_pos h2]
   ·rw [if_neg h2,if_neg h2]
    exact (if_neg (fun h3=>h2 (h3.1.symm.trans h))).symm
  ·rw [List.filter_cons_of_pos (p:=fun e:(Int×Int)×List (List Al)=>decide (e.1.1≠c)) (decide_eq_true h)]
   show (if e.1.1=a∧e.1.2=b then e.2 else B3 (List.filter _ s) a b)=if a=c then [] else (if e.1.1=a∧e.1.2=b then e.2 else B3 s a b)
   rw [ih]
   by_cases h2:a=c
   ·rw [if_pos h2,if_pos h2,if_neg fun h3=>h (h3.1.trans h2)]
   ·rw [if_neg h2,if_neg h2]
theorem Rk (c d a b:Int) (x:List Al):∀ st:CW,B3 (Ei st c d x) a b=if c=a∧d=b then B3 st a b++[x] else B3 st a b
 |[]=>by
  show (if c=a∧d=b then [x] else B3 [] a b)=_
  split<;>rfl
 |e::s=>by
  have ih:=Rk c d a b x s
  show B3 (if e.1.1=c∧e.1.2=d then (e.1,e.2++[x])::s else e::Ei s c d x) a b=if c=a∧d=b then (if e.1.1=a∧e.1.2=b then e.2 else B3 s a b)++[x] else (if e.1.1=a∧e.1.2=b then e.2 else B3 s a b)
  by_cases h:e.1.1=c∧e.1.2=d
  ·rw [if_pos h]
   show (if e.1.1=a∧e.1.2=b then e.2++[x] else B3 s a b)=_
   by_cases h2:c=a∧d=b
   ·have h3:e.1.1=a∧e.1.2=b:=⟨h.1.trans h2.1,h.2.trans h2.2⟩
    rw [if_pos h2,if_pos h3,if_pos h3]
   ·have h3:¬ (e.1.1=a∧e.1.2=b):=fun h4=>h2 ⟨h.1.symm.trans h4.1,h.2.symm.trans h4.2⟩
    rw [if_neg h2,if_neg h3,if_neg h3]
  ·rw [if_neg h]
   show (if e.1.1=a∧e.1.2=b then e.2 else B3 (Ei s c d x) a b)=_
   rw [ih]
   by_cases h2:c=a∧d=b
   ·have h3:¬ (e.1.1=a∧e.1.2=b):=fun h4=>h ⟨h4.1.trans h2.1.symm,h4.2.trans h2.2.symm⟩
    rw [if_pos h2,if_neg h3,if_neg h3,if_pos h2]
   ·rw [if_neg h2,if_neg h2]
theorem HR.drop {st:CW} (h:HR st) (c:Int):HR (D4 st c):=by
 intro a b
 rw [Rl]
 split
 ·exact ⟨by simp,fun x hx=>by cases hx⟩
 ·exact h a b
theorem HR.put {st:CW} (h:HR st) {a b q:Int} {x:List Al} (hx:x.length≤8):HR (C3 st a b q x):=by
 unfold C3
 split
 ·rename_i hm
  intro c d
  rw [Rk]
  split
  ·rename_i e
   obtain ⟨rfl,rfl⟩:=e
   have h1:=hm.1
   have h2:=hm.2.2.2
   unfold Co at h1
   refine ⟨by rw [List.length_append,List.length_singleton];omega,fun y hy=>?_⟩
   rcases List.mem_append.1 hy with hy|hy
   ·exact (h _ _).2 y hy
   ·rw [List.mem_singleton.1 hy];exact hx
  ·exact h c d
 ·exact h
theorem AS.looks {n:Nat} {J:AG} {R:AC} (h:AS n R) (h6:J.us.length≤6) (k:Nat):AS (n+1) (CZ J R k).1:=by
 have hg:∀ ps:List Al,ps.length≤40→∀ i,((AQ R.g k { R.g k with merged:=true,pairs:=ps }:Nat→CV) i).pairs.length≤1000:=fun ps hps i=>by
  by_cases e:i=k
  ·subst e
   rw [DR]
   show ps.length≤1000
   omega
  ·rw [Eb _ _ e]
   exact h.pairs i
 have h':AS (n+1) R:=h.mono (Nat.le_succ n)
 unfold CZ
 split
 ·exact h'
 ·split
  ·exact h'
  ·split
   ·exact h'
   ·rename_i hl
    dsimp only
    split
    ·refine ⟨hg _ (by omega),h.st.drop _,by show (R.sets++[_]).length≤n+1;rw [List.length_append,List.length_singleton];have:=h.sets;omega,fun s hs=>?_⟩
     rcases List.mem_append.1 hs with hs|hs
     ·exact h.setl s hs
     ·rw [List.mem_singleton.1 hs]
      exact Nat.le_trans (Jl _ _) (by omega)
    ·exact ⟨hg _ (by omega),h.st.drop _,Nat.le_succ_of_le h.sets,h.setl⟩
theorem AS.push {n:Nat} {J:AG} {R:AC} (h:AS n R) (h6:J.us.length≤6) (m:Bt):AS (n+1) (Bm J R m).1:=by
 unfold Bm
 split
 ·exact h.mono (Nat.le_succ n)
 ·show AS (n+1) (EW J R m).1
  unfold EW
  split
  ·rename_i ht
   exact AS.looks (R:={ R with st:=C3 R.st m.sp m.att m.seq m.pairs }) ⟨h.pairs,h.st.put ht.2.1,h.sets,h.setl⟩ h6 _
  ·exact h.mono (Nat.le_succ n)
theorem AS.won {n:Nat} {J:AG} {t:Int} {R:AC} (h:AS n R) (h6:J.us.length≤6) (sp att cnt:Int):AS (n+1) (Dp J t R sp att cnt).1:=by
 unfold Dp
 split
 ·exact h.mono (Nat.le_succ n)
 ·refine AS.looks (R:={ R with g:=AQ R.g sp.toNat { R.g sp.toNat with told:=true,att:=att,cnt:=cnt } }) ⟨fun i=>?_,h.st,h.sets,h.setl⟩ h6 _
  show ((AQ R.g sp.toNat { R.g sp.toNat with told:=true,att:=att,cnt:=cnt }:Nat→CV) i).pairs.length≤1000
  by_cases e:i=sp.toNat
  ·subst e;rw [DR];exact h.pairs _
  ·rw [Eb _ _ e];exact h.pairs i
theorem WR (n:Nat) (p ep:Int) (rs:List Dl):(C2 n p ep rs).sets.length≤rs.length:=by
 have key:∀ rs:List Dl,(C2 n p ep rs.reverse).sets.length≤rs.length:=by
  intro rs
  induction rs with
  |nil=>simp [C2,GE]
  |cons x rs ih=>
   rw [List.reverse_cons,PV,List.length_cons]
   have hx:∀ R:AC,(Do n R x).sets.length≤R.sets.length+1:=by
    intro R
    unfold Do
    dsimp only
    split
    ·omega
    ·split<;>split<;>simp
   have:=hx (C2 n p ep rs.reverse)
   omega
 have:=key rs.reverse
 rwa [List.reverse_reverse,List.length_reverse] at this
theorem WP (n:Nat) (p ep:Int) (b:Nat) (rs:List Dl) (h:∀ r∈rs,r.set.length≤b):∀ s∈(C2 n p ep rs).sets,s.length≤b:=by
 have key:∀ (rs:List Dl) (R:AC),(∀ r∈rs,r.set.length≤b)→(∀ s∈R.sets,s.length≤b)→∀ s∈(rs.foldl (Do n) R).sets,s.length≤b:=by
  intro rs
  induction rs with
  |nil=>intro R _ h;exact h
  |cons x rs ih=>
   intro R hr hR
   refine ih (Do n R x) (fun r hq=>hr r (List.mem_cons_of_mem _ hq)) ?_
   have hx:=hr x (List.mem_cons_self ..)
   have hc:∀ R1:AC,R1.sets=R.sets→∀ s∈(if x.kind=5 then ({ R1 with sets:=R1.sets++[x.set] }:AC) else R1).sets,s.length≤b:=by
    intro R1 e s hs
    split at hs
    ·rcases List.mem_append.1 hs with hs|hs
     ·rw [e] at hs;exact hR s hs
     ·rw [List.mem_singleton.1 hs];exact hx
    ·rw [e] at hs;exact hR s hs
   unfold Do
   dsimp only
   split
   ·exact hR
   ·refine hc _ ?_
    split<;>rfl
 exact key rs (GE p ep) h fun s hs=>by cases hs
theorem AS.new {n:Nat} {p ep:Int} {rs:List Dl} (h:∀ r∈rs,r.pairs.length≤1000∧r.set.length≤1000):AS rs.length (C2 n p ep rs):=⟨WO fun r hr=>(h r hr).1,by rw [(Gz n p ep rs).2.2];exact fun a b=>⟨by simp [B3],fun x hx=>by cases hx⟩,WR n p ep rs,WP n p ep 1000 rs fun r hr=>(h r hr).2⟩
theorem Rq {α:Type} {o:Option α} (d:α) (h:o.isSome=true):o=some (o.getD d):=by
 cases o with
 |none=>cases h
 |some x=>rfl
theorem WZ {α:Type} {o:Option α} (h:¬ o.isSome=true):o=none:=by
 cases o with
 |none=>rfl
 |some x=>exact absurd rfl h
section
variable {J:AG} {R R1:AC} {k:Nat} {n:Int} {ps:List Al}
theorem V9 (h:¬ (R.g k).told=true):CZ J R k=(R,[]):=by
 unfold CZ
 rw [if_pos (by simpa using h)]
theorem V_ (hn:((k:Nat):Int)=n) (h:AD R.st n (R.g k).att (R.g k).cnt=none):CZ J R k=(R,[]):=by
 unfold CZ
 rw [hn,h]
 split<;>rfl
theorem Wa (hn:((k:Nat):Int)=n) (h:AD R.st n (R.g k).att (R.g k).cnt=some ps) (hl:40<ps.length):CZ J R k=(R,[]):=by
 unfold CZ
 rw [hn,h]
 dsimp only
 rw [if_pos hl]
 split<;>rfl
theorem Wb (hn:((k:Nat):Int)=n) (ht:(R.g k).told=true) (h:AD R.st n (R.g k).att (R.g k).cnt=some ps) (hl:ps.length≤40) (h1:R1={ R with g:=AQ R.g k { R.g k with merged:=true,pairs:=ps },st:=D4 R.st n }) (hm:¬ ((Av J.us.length R1).length:Int)∈J.marks):
  CZ J R k=(R1,[⟨4,R.part,n,(R.g k).att,0,[],ps⟩]):=by
 unfold CZ
 rw [if_neg (by rw [ht];decide),hn,h]
 dsimp only
 rw [if_neg (by omega),←h1,if_neg hm]
theorem Ma (hn:((k:Nat):Int)=n) (ht:(R.g k).told=true) (h:AD R.st n (R.g k).att (R.g k).cnt=some ps) (hl:ps.length≤40) (h1:R1={ R with g:=AQ R.g k { R.g k with merged:=true,pairs:=ps },st:=D4 R.st n }) (hm:((Av J.us.length R1).length:Int)∈J.marks):
  CZ J R k=({ R1 with sets:=R1.sets++[Av J.us.length R1] },[⟨4,R.part,n,(R.g k).att,0,[],ps⟩,⟨5,R.part,0,0,0,Av J.us.length R1,[]⟩]):=by
 unfold CZ
 rw [if_neg (by rw [ht];decide),hn,h]
 dsimp only
 rw [if_neg (by omega),←h1,if_pos hm]
 subst h1
 rfl
end
theorem XO {g g':Nat→CV} {hv:Nat→Value} (h:∀ i,(g i).pairs=(g' i).pairs):AO g hv=AO g' hv:=by
 unfold AO
 exact NG fun i _=>by unfold G_;rw [h i]
theorem Ze {α:Type} (g:Nat→α) (k:Nat) (a b:α):AQ (AQ g k a) k b=AQ g k b:=by
 funext j
 by_cases e:j=k
 ·subst e;rw [DR,DR]
 ·rw [Eb _ _ e,Eb _ _ e,Eb _ _ e]
theorem Rd {g:Nat→CV} {k:Nat} {x:CV} (h:x.pairs=(g k).pairs) (i:Nat):(g i).pairs=(AQ g k x i).pairs:=by
 by_cases e:i=k
 ·subst e;rw [DR,h]
 ·rw [Eb _ _ e]
/-! ### Once -/
theorem Kp {n:Nat} {R:AC} {x:Int}:x∈Av n R↔∃ i,i<n∧(R.g i).merged=true∧x=(i:Int):=by
 unfold Av
 rw [List.mem_map]
 constructor
 ·rintro ⟨i,hi,rfl⟩
  obtain ⟨h1,h2⟩:=List.mem_filter.1 hi
  exact ⟨i,List.mem_range.1 h1,h2,rfl⟩
 ·rintro ⟨i,h1,h2,rfl⟩
  exact ⟨i,List.mem_filter.2 ⟨List.mem_range.2 h1,h2⟩,rfl⟩
/-! ### Records -/
structure bM (n:Nat) (R N:AC):Prop where
 part:N.part=R.part
 g:∀ s,s<n→(N.g s).merged=(R.g s).merged∧(N.g s).pairs=(R.g s).pairs
 sets:N.sets=R.sets
theorem Kl (J:AG) (R:AC) (k:Nat):(CZ J R k).1.part=R.part∧(CZ J R k).1.ep=R.ep:=by
 unfold CZ
 split
 ·exact ⟨rfl,rfl⟩
 ·split
  ·exact ⟨rfl,rfl⟩
  ·split
   ·exact ⟨rfl,rfl⟩
   ·dsimp only
    split<;>exact ⟨rfl,rfl⟩
theorem XW (J:AG) (R:AC) (m:Bt):(Bm J R m).1.part=R.part∧(Bm J R m).1.ep=R.ep:=by
 unfold Bm
 split
 ·exact ⟨rfl,rfl⟩
 ·show (EW J R m).1.part=R.part∧_
  unfold EW
  split
  ·exact Kl J { R with st:=_ } _
  ·exact ⟨rfl,rfl⟩
theorem a_ (J:AG) (t:Int) (R:AC) (sp att cnt:Int):(Dp J t R sp att cnt).1.part=R.part∧(Dp J t R sp att cnt).1.ep=R.ep:=by
 unfold Dp
 split
 ·exact ⟨rfl,rfl⟩
 ·exact Kl J { R with g:=_ } _
def G9 (n:Nat) (R:AC) (s:Int):List Al:=if 0≤s∧s<(n:Int) then (R.g s.toNat).pairs else []
theorem Qd {n:Nat} {R:AC} {s:Int} (h:0≤s∧s<(n:Int)):G9 n R s=(R.g s.toNat).pairs:=if_pos h
theorem XA {n:Nat} {R:AC} {s:Int} (h:¬ (0≤s∧s<(n:Int))):G9 n R s=[]:=if_neg h
theorem MD {J:AG} {R:AC} {m:Bt} (h:EV J R m):Bm J R m=(R,Jm,[]):=if_pos h
theorem Ha {J:AG} {R:AC} {m:Bt} (h:¬ EV J R m):Bm J R m=((EW J R m).1,La (EW J R m).1 m,(EW J R m).2):=if_neg h
theorem Iz {J:AG} {R:AC} {m:Bt} (h:¬ Fo R m):EW J R m=(R,[]):=if_neg h
theorem Qo {J:AG} {R:AC} {m:Bt} (h:Fo R m):EW J R m=CZ J { R with st:=C3 R.st m.sp m.att m.seq m.pairs } m.sp.toNat:=if_pos h
theorem GQ {R:AC} {m:Bt} {part ep nx:Int} (h1:R.part=part) (h2:R.ep=ep) (h3:(if (R.g m.sp.toNat).merged=true then 40 else Co R.st m.sp m.att)=nx):La R m=⟨3,m.sp,m.att,part,0,nx,ep,0,[],[]⟩:=by
 subst h1 h2 h3;rfl
theorem Zu {D:Bg} {J:AG} {R:AC} {us:List (Value×List Int)} (hs:us.map (fun u=>u.2)=R.sets) {k:Nat} {v:Value} {set:List Int} (h:us[k]?=some (v,set)):(Et D J R).take (k+1)=(Et D J R).take k++[⟨set,(DH D J R set).2,(DH D J R set).1⟩]:=by
 have hx:R.sets[k]?=some set:=by rw [←hs,List.getElem?_map,h];rfl
 exact Fr (by unfold Et;rw [List.getElem?_map,hx];rfl)
theorem Ro {D:Bg} {J:AG} {R:AC} {us:List (Value×List Int)} (hs:us.map (fun u=>u.2)=R.sets):(Et D J R).length=us.length:=by
 unfold Et;rw [List.length_map,←hs,List.length_map]
theorem RQ {n:Nat} {R:AC} {us:List (Value×List Int)} (hs:us.map (fun u=>u.2)=R.sets) (h:AS n R) (hn:n≤100000):us.length≤100000:=by
 have:=h.sets
 rw [←hs,List.length_map] at this
 omega
theorem RR {n:Nat} {R:AC} {us:List (Value×List Int)} (hs:us.map (fun u=>u.2)=R.sets) (h:AS n R):∀ u∈us,u.2.length≤1000:=fun u hu=>h.setl u.2 (by rw [←hs];exact List.mem_map_of_mem hu)
/-! ### Six slices in a row -/
section
variable {α:Type} {J:AG} {rs:List AX} {acts:List (CF α)} {most:Int}
end
/-! ### Lists of structs held against one another -/
theorem Zt {a b:GP}:a=b↔a.why=b.why∧a.set=b.set∧a.pairs=b.pairs:=by
 constructor
 ·rintro rfl;exact ⟨rfl,rfl,rfl⟩
 ·rintro ⟨h1,h2,h3⟩
  cases a;cases b
  simp only at h1 h2 h3
  subst h1 h2 h3
  rfl
instance snapPD (a b:GP):Decidable (a=b):=decidable_of_iff _ Zt.symm
/-! ### A small configuration -/
def Dh:List Al:=[⟨⟨#[98]⟩,⟨#[49]⟩⟩]
def A9 (u:Value):Cf:=⟨⟨[(u,Dh),(FD,[])],1,DA,[],DA,1,1,9,[1]⟩,1,2,1⟩
theorem C_ (u:Value):D1 (A9 u):=by
 refine ⟨⟨(show 1≤((2:Nat):Int)∧((2:Nat):Int)≤6 by decide),(show (1:Int)≤1∧(1:Int)≤4 by decide),(show 1≤4 by decide),?_,?_,(show 0<DA.length∧Du DA<0 by decide+kernel),(show 0<DA.length∧Du DA<0 by decide+kernel),(show Du []<0 by decide+kernel),
  (show (1:Int)≤1∧(1:Int)≤7 by decide),(show (1:Int)≤1∧(1:Int)≤4 by decide),(show (1:Int)≤9∧(9:Int)≤2000 by decide)⟩,(show (1:Int)≤1∧(1:Int)≤4 by decide),(show (1:Int)≤2∧(2:Int)≤3 by decide),(show (1:Int)≤1∧(1:Int)≤50 by decide)⟩
 ·intro x hx
  rcases List.mem_cons.1 hx with rfl|hx
  ·show GC Dh
   decide
  ·rw [List.mem_singleton.1 hx]
   show GC []
   decide
 ·show Gx ((2:Nat):Int) 0 [1]
  decide
theorem Di (u:Value):Io (A9 u) 0≠0:=CL (C_ u) (by decide) (show (0:Int)<1 by decide)
def JL:AC:=C2 2 0 1 []
def H9 (J:AG):AC×List Dl:=Dp J 2 JL 1 1 0
def Sa:Bt:=⟨2,0,1,0,0,0,0,0,[],Dh⟩
def Hu (J:AG):AC×Bt×List Dl:=Bm J (H9 J).1 Sa
def Fx (J:AG):AC×List Dl:=Dp J 2 (Hu J).1 0 1 1
theorem NA {J:AG} {u:Value} (h:BC J (A9 u).J):∃ a b,J=⟨[(a,Dh),(b,[])],1,DA,[],DA,1,1,9,[1]⟩:=by
 obtain ⟨h1,h2⟩:=h
 have hl:J.us.length=2:=by have:=congrArg List.length h1;simpa [A9] using this
 match hu:J.us,hl with
 |[(a,x),(b,y)],_=>
  rw [hu] at h1
  have h3:[x,y]=[Dh,[]]:=h1
  simp only [List.cons.injEq,and_true] at h3
  obtain ⟨rfl,rfl⟩:=h3
  refine ⟨a,b,h2.trans ?_⟩
  rw [hu]
  rfl
theorem Nz {J:AG} {u:Value} (h:BC J (A9 u).J):(H9 J).2.length=2∧(Hu J).2.1.next=1∧(Hu J).2.2.length=0∧(Fx J).2.length=1∧Av J.us.length (Fx J).1=[0,1]∧(Fx J).1.sets.length=1:=by
 obtain ⟨a,b,rfl⟩:=NA h
 exact ⟨by kernel_rfl,by kernel_rfl,by kernel_rfl,by kernel_rfl,by kernel_rfl,by kernel_rfl⟩
theorem Sd {D:Bg} {J:AG} {u:Value} (h:BC J (A9 u).J):(D3 D J (Fx J).1).1=Dh∧(D3 D J (Fx J).1).2.2=true:=by
 have h5:=(Nz h).2.2.2.2.1
 obtain ⟨a,b,rfl⟩:=NA h
 unfold D3
 rw [h5,if_neg (by show ¬ (2:Nat)<2;decide)]
 refine ⟨?_,rfl⟩
 unfold DH
 have e:srt (Ck ([(a,Dh),(b,[])]:List (Value×List Al)).length (Fx ⟨[(a,Dh),(b,[])],1,DA,[],DA,1,1,9,[1]⟩).1 [0,1])=Dh:=by
  have e1:Ck ([(a,Dh),(b,[])]:List (Value×List Al)).length (Fx ⟨[(a,Dh),(b,[])],1,DA,[],DA,1,1,9,[1]⟩).1 [0,1]=Dh:=by kernel_rfl
  rw [e1]
  decide
 show (BX D DA (srt (Ck ([(a,Dh),(b,[])]:List (Value×List Al)).length (Fx ⟨[(a,Dh),(b,[])],1,DA,[],DA,1,1,9,[1]⟩).1 [0,1])) 9 false).1=Dh
 rw [e]
 unfold BX
 rw [show Dm Dh=[⟨#[98]⟩] from (UV _).trans (by decide)]
 kernel_rfl
theorem Sc:AS 0 JL:=AS.new (rs:=[]) fun r h=>by cases h
theorem Sb {J:AG} (h6:J.us.length≤6):AS 99000 JL∧AS 99000 (H9 J).1∧AS 99000 (Hu J).1∧AS 99000 (Fx J).1:=by
 have h0:=Sc
 have h1:AS 1 (H9 J).1:=h0.won h6 _ _ _
 have h2:AS 2 (Hu J).1:=h1.push h6 _
 have h3:AS 3 (Fx J).1:=h2.won h6 _ _ _
 exact ⟨h0.mono (by omega),h1.mono (by omega),h2.mono (by omega),h3.mono (by omega)⟩
section
variable {P:Program} {ops:Array Oper} {Q:Exit→Act→World→Prop} {rest:List Oper} {n:Nat} {l:BF} {w0 w:World} {F0:AN} {o:Oper} {As Rs:List SP} {x y:Operand} {t ti:TypeId}
theorem YO {e size bytes:Nat} {ty:TypeId} {z:Value} {m:Nat} (hs:C6 P t=some (e,size,bytes)) (hz:CJ P e=some z) (hzs:z.cells.size=size) (hsp:0<size) (hb0:0<bytes) (hti:P.underlying ti=some (.int .i64)) (hm:0<m) (hb:m*bytes≤140737488355328):
  ∃ A c w' C,(Builtin.append_ #[t,ti] ty #[.slice none 0 0,.int .i64 (m:Int)]).run P w=.ok (.slice (some A) m c) w'∧A=⟨w.heap.size,0,none⟩∧m≤c∧c≤9223372036854775807∧w'=w.drew.alloc (.cells C e)∧C.size=c*size:=by
 obtain ⟨hu,i,hi,rfl,rfl⟩:=E_ hs
 obtain ⟨i',hi',hz'⟩:=Option.bind_eq_some_iff.1 hz
 rw [hi] at hi'
 cases hi'
 have hsmall:m≤140737488355328:=Nat.le_trans (Nat.le_mul_of_pos_right _ hb0) hb
 have hw:IntKind.i64.wrap (m:Int)=(m:Int):=AF (by omega) (by omega)
 have hng:¬ ((m:Int)<0):=by omega
 have hb2:¬ ((m:Int)*(i.bytes:Int)>2^48):=by
  have:((m*i.bytes:Nat):Int)≤140737488355328:=by omega
  rw [Int.natCast_mul] at this
  omega
 have hfit:¬ 281474976710656<Builtin.nextslicecap m 0*i.bytes:=by
  have:=growslice_fits (need:=m) (old:=0) (bytes:=i.bytes) (by omega) hb
  omega
 have hge:=grownCap_ge w m 0 e
 have hle:grownCap w m 0 e≤9223372036854775807:=by
  have:=grownCap_le_maxLen w m 0 e (by simp only [maxLen];omega)
  simpa [maxLen] using this
 have hms:¬ (m*i.size=0):=by have:=Nat.mul_pos hm hsp;omega
 have hb3:¬ (281474976710656<(m:Int)*(i.bytes:Int)):=by omega
 have hm0:¬ (m=0):=by omega
 have hbz:¬ i.bytes=0:=by omega
 have hbig':¬ (9223372036854775807<(m:Int)):=by omega
 refine ⟨⟨w.heap.size,0,none⟩,grownCap w m 0 e,w.drew.alloc (.cells (Builtin.zeroCells z.cells m++Builtin.zeroCells z.cells (grownCap w m 0 e - m)) e),Builtin.zeroCells z.cells m++Builtin.zeroCells z.cells (grownCap w m 0 e - m),?_,rfl,hge,hle,rfl,?_⟩
 ·simp [Builtin.append_,run_underlying hu,run_underlying hti,sizeOf,zeroValue,typeInfo,hi,hz',hw,hng,hb3,asInt,asIntOf,hms,hm0,hfit,hbz,hbig',newRow,grownCap,Question.forced,Builtin.firstCells]
 ·simp only [Array.size_append,size_zeroCells,hzs,←Nat.add_mul]
  congr 1
  omega
theorem YW {α:Type} (d:Kd α) {e bytes:Nat} {z:Value} {m:Nat} (hg:gd ops l o=some true) (hd:Cl n o.dst=true) (ho:o.op=.call { callee:=.builtin .append,args:=#[x,y],argTypes:=#[t,ti] }) (hs:C6 P t=some (e,d.sz,bytes)) (hz:CJ P e=some z) (hzs:z.cells.size=d.sz) (hb0:0<bytes) (hti:P.underlying ti=some (.int .i64))
  (hx:ev l x=some (.slice none 0 0)) (hy:ev l y=some (.int .i64 (m:Int))) (hm:0<m) (hb:m*bytes≤140737488355328) (H:Hd w0 F0 w As Rs)
  (h:∀ A c w',m≤c→Hd w0 F0 w' (Y d (.slice A 0 c) []::As) Rs→WL P ops Q rest n (Cc l o.dst (.slice A m c)) w'):WL P ops Q (o::rest) n l w:=by
 obtain ⟨A,c,w',C,hrun,rfl,h1,h2,rfl,hC⟩:=YO (P:=P) (w:=w) (ty:=o.type) hs hz hzs d.pos hb0 hti hm hb
 refine V hg hd (v:=.slice (some ⟨w.heap.size,0,none⟩) m c) (fun a ha=>?_) (h _ _ _ h1 (H.new (F':=fun k=>k=w.heap.size) ?_ ⟨_,0,c,rfl,rfl,[],fun k=>k=w.heap.size,none_,fun _ q=>q,fun _ q=>q.elim,fun _ _ q=>q,⟨Nat.zero_le _,h2,by simp,.inr ⟨w.heap.size,C,e,rfl,rfl,heap_alloc_new w.drew _,hC,by simp⟩⟩,rfl⟩ ?_))
 ·simp [execOp,ho,resolve,ha.eval hx,ha.eval hy,invoke,builtin,hrun]
 ·exact (B1.drewN none_ w 1).trans (B1.alloc none_ w.drew _) fun _ _ q=>q
 ·intro k hk
  subst hk
  simp
end
section
variable {w0 w:World} {F0:AN} {As Rs:List SP} {t sb mb:Nat} {st:CW} {kvs:List CI} {k:Int×Int} {v:Value} {us:List (Value×List Al)}
theorem Ri {κ:Type} [DecidableEq κ] {k:κ} {u v:Value}:∀ kvs:List (κ×Value),DJ k v (DJ k u kvs)=DJ k v kvs
 |[]=>by simp [DJ]
 |p::r=>by
  by_cases h:p.1=k
  ·simp [DJ,h]
  ·simp [DJ,h,Ri r]
theorem Hd.stgOpen (k:Int×Int) (H:Hd w0 F0 w (AV t sb st::As) Rs):∃ mb kvs v us,kvs.map DS=st∧D6 (kvs.map BO)∧Dx k kvs=(v,us)∧(EE k (kvs.map BO)).getD FD=v∧us.map (·.2)=B3 st k.1 k.2∧
  Hd w0 F0 w (blk sb [.map (some mb)] t::Cv BW mb (kvs.map BO)::Y (Ak Ag) v us::Bf Ce (CE k kvs)::As) Rs:=by
 obtain ⟨mb,kvs,he,hn,H1⟩:=H.stgA
 have H2:=(show Hd w0 F0 w (Bf Ce kvs::blk sb [.map (some mb)] t::Cv BW mb (kvs.map BO)::As) Rs from H1.perm (((List.Perm.swap _ _ _).cons _).trans (List.Perm.swap _ _ _))).stgO k hn
 refine ⟨mb,kvs,(Dx k kvs).1,(Dx k kvs).2,he,hn,rfl,Rw kvs,by rw [Rx,he],?_⟩
 exact H2.perm (List.perm_append_comm (l₁:=[Y (Ak Ag) (Dx k kvs).1 (Dx k kvs).2,Bf Ce (CE k kvs)]) (l₂:=[blk sb [.map (some mb)] t,Cv BW mb (kvs.map BO)])|>.append_right As)
theorem Hd.stgShut (he:kvs.map DS=st) (hn:D6 (kvs.map BO)) (hw:Dx k kvs=(v,us)) (H:Hd w0 F0 w (blk sb [.map (some mb)] t::Cv BW mb (kvs.map BO)::Y (Ak Ag) v us::Bf Ce (CE k kvs)::As) Rs):Hd w0 F0 w (AV t sb st::As) Rs:=by
 have H1:Hd w0 F0 w (Y (Ak Ag) (Dx k kvs).1 (Dx k kvs).2::Bf Ce (CE k kvs)::blk sb [.map (some mb)] t::Cv BW mb (kvs.map BO)::As) Rs:=by
  rw [hw]
  exact H.perm ((List.perm_append_comm (l₁:=[blk sb [.map (some mb)] t,Cv BW mb (kvs.map BO)]) (l₂:=[Y (Ak Ag) v us,Bf Ce (CE k kvs)])).append_right As)
 exact Hd.stgC he ((Hd.stgI0 hn H1).perm ((List.Perm.swap _ _ _).trans ((List.Perm.swap _ _ _).cons _)))
theorem Hd.stgPut {x:List Al} {v':Value} {us':List (Value×List Al)} (he:kvs.map DS=st) (hn:D6 (kvs.map BO)) (ho:us.map (·.2)=B3 st k.1 k.2) (hu:us'.map (·.2)=us.map (·.2)++[x])
  (H:Hd w0 F0 w (blk sb [.map (some mb)] t::Cv BW mb (DJ k v' (kvs.map BO))::Y (Ak Ag) v' us'::Bf Ce (CE k kvs)::As) Rs):Hd w0 F0 w (AV t sb (Ei st k.1 k.2 x)::As) Rs:=by
 have H1:=Hd.stgI_ hn (H.perm ((List.perm_append_comm (l₁:=[blk sb [.map (some mb)] t,Cv BW mb (DJ k v' (kvs.map BO))]) (l₂:=[Y (Ak Ag) v' us',Bf Ce (CE k kvs)])).append_right As))
 refine Hd.stgC (kvs:=FT k (v',us') kvs) ?_ ((?_:Hd w0 F0 w (Bf Ce (FT k (v',us') kvs)::blk sb [.map (some mb)] t::Cv BW mb ((FT k (v',us') kvs).map BO)::As) Rs).perm ((List.Perm.swap _ _ _).trans ((List.Perm.swap _ _ _).cons _)))
 ·rw [Re,he]
  show IL st k (us'.map (·.2))=_
  rw [hu,ho,Rm]
 ·rw [Rf]
  exact H1
theorem Rv (k:Int×Int) (kvs:List CI):Gq k (kvs.map BO)=(CE k kvs).map BO:=by
 unfold Gq CE
 rw [List.filter_map]
 rfl
theorem Hd.stgX (k:Int×Int) (hn:D6 (kvs.map BO)) (H:Hd w0 F0 w (Bf Ce kvs::As) Rs):Hd w0 F0 w (Bf Ce (CE k kvs)::As) Rs:=(H.stgO k hn).drop
def GB (a:Int) (kvs:List CI):List CI:=kvs.filter fun e=>decide (e.1.1≠a)
theorem W8 (a:Int) (kvs:List CI):(GB a kvs).map DS=D4 (kvs.map DS) a:=by
 unfold GB D4
 rw [List.filter_map]
 rfl
theorem W_ {a:Int} {kvs:List CI} {k:Int×Int} (hk:k.1=a):GB a (CE k kvs)=GB a kvs:=by
 unfold GB CE
 rw [List.filter_filter]
 refine List.filter_congr fun e _=>?_
 by_cases h:e.1.1=a
 ·simp [h]
 ·have:e.1≠k:=fun h2=>h (by rw [h2,hk])
  simp [h,this]
theorem W9 {a:Int} {kvs:List CI} (h:∀ e∈kvs,e.1.1≠a):GB a kvs=kvs:=List.filter_eq_self.2 fun e he=>decide_eq_true (h e he)
def Ho (kvs:List CI) (ps:List (Nat×(Int×Int))):Nat:=(kvs.filter fun e=>decide (e.1∉ps.map (fun q=>q.2))).length
theorem RN {kvs kvs2:List CI} {ps:List (Nat×(Int×Int))} {p:(Int×Int)×Value} {s:Nat} (hp:p∈kvs.map BO) (hn:p.1∉ps.map (fun q=>q.2)) (h2:kvs2=kvs∨kvs2=CE p.1 kvs):Ho kvs2 (ps++[(s,p.1)])<Ho kvs ps:=by
 have hsub:kvs2.Sublist kvs:=by
  rcases h2 with rfl|rfl
  ·exact List.Sublist.refl _
  ·exact List.filter_sublist
 have h1:Ho kvs2 (ps++[(s,p.1)])≤Ho kvs (ps++[(s,p.1)]):=(hsub.filter _).length_le
 have h3:Ho kvs (ps++[(s,p.1)])<Ho kvs ps:=by
  obtain ⟨e,he,rfl⟩:=List.mem_map.1 hp
  unfold Ho
  have e1:(kvs.filter fun e'=>decide (e'.1∉(ps++[(s,(BO e).1)]).map (fun q=>q.2)))=((kvs.filter fun e'=>decide (e'.1∉ps.map (fun q=>q.2))).filter fun e'=>decide (e'.1≠e.1)):=by
   rw [List.filter_filter]
   refine List.filter_congr fun x _=>?_
   rw [←Bool.decide_and]
   exact decide_eq_decide.2 (by rw [List.map_append,List.mem_append,not_or,and_comm];simp [BO])
  rw [e1]
  refine List.length_filter_lt_length_iff_exists.2 ⟨e,List.mem_filter.2 ⟨he,decide_eq_true hn⟩,by simp⟩
 omega
def IJ (a:Int) (kvs:List CI) (ps:List (Nat×(Int×Int))):Prop:=∀ e∈kvs,e.1∈ps.map (fun q=>q.2)→e.1.1≠a
theorem Zd {a:Int} {kvs:List CI} {ps:List (Nat×(Int×Int))} {k:Int×Int} {s:Nat} (h:IJ a kvs ps) (hk:k.1≠a):IJ a kvs (ps++[(s,k)]):=by
 intro e he hm
 rw [List.map_append,List.mem_append] at hm
 rcases hm with hm|hm
 ·exact h e he hm
 ·rw [show e.1=k by simpa using hm];exact hk
theorem Zb {a:Int} {kvs:List CI} {ps:List (Nat×(Int×Int))} {k:Int×Int} {s:Nat} (h:IJ a kvs ps):IJ a (CE k kvs) (ps++[(s,k)]):=by
 intro e he hm
 obtain ⟨he1,he2⟩:=List.mem_filter.1 he
 rw [List.map_append,List.mem_append] at hm
 rcases hm with hm|hm
 ·exact h e he1 hm
 ·exact absurd (by simpa using hm) (of_decide_eq_true he2)
theorem Zc {a:Int} {kvs:List CI} {ps:List (Nat×(Int×Int))} (h:IJ a kvs ps) (hall:∀ p∈kvs.map BO,p.1∈ps.map (fun q=>q.2)):GB a kvs=kvs:=W9 fun e he=>h e he (hall (BO e) (List.mem_map.2 ⟨e,he,rfl⟩))
end
theorem Us (m:Nat) (hm:m≤1000000):
    Cn Tryz.prog 216 [.slice none 0 0,.int .i64 ((m:Nat):Int)] [] [] (fun v Bs=>Bs=[Y Ag v []]):=by
 intro w0 F0 H
 refine enter Tryz.func216 U U (Nat.le_of_ble_eq_true U) (Ab (Ae (Ad U (Ac (Z (Ab (Ab (Ae (Ad U (V U U (Bd U U U) (Ac (Z ?_))))))))))))
 refine Az U (fun h1=>?_) (fun h1=>?_)
 ·exfalso;omega
 refine Aw (Z (Ab (Ab (Ae (Ah 2 U (V U U (Qr U CH U) (Ad U (V U U (A8 U CH U) (V U U (Cj (z:=0) U U U U) (V U U (Cj (z:=(m:Int)) U U U ((congrArg IntKind.i64.wrap (Int.sub_zero _)).trans (AF (by omega) (by omega)))) (Ad U (Ac (Z (Ab (Ae (Ad U (V U U (Ca U U U) (Ac (Z ?_)))))))))))))))))))
 refine Az U (fun h2=>?_) (fun h2=>?_)
 ·refine Ae (Ah 2 U (V U U (Qr U CH U) (V U U (Jr U BA U U (by omega) (by omega) U) (Ad U (YW Ag U U U BA CT U (by decide) Dj U U (by omega) (by omega) H (fun A3 c4 w hc5 H=>(Ad U (V U U (A8 U CH U) (V U U (Jr U BA U U (by omega) (by omega) U) (Ad U (Ac (Z ?_))))))))))))
  replace H:Hd _ _ _ [Y Ag (.slice A3 0 c4) []] []:=H
  exact Ab (Ae (Ah 2 U (Ac (Z (Ap (Aq U U (Am U H)))))))
 refine Aw (Z (Ab (Ae (Ah 2 U (Ac (Z (Ap (Aq U U ?_))))))))
 replace H:=H.newnil Ag
 replace H:Hd _ _ _ [Y Ag (.slice none 0 0) []] []:=H
 exact Am U H
theorem Ta (vus:Value) (us:List (Value×List Al)) (hb:(BK us).length≤1000000) (hul:us.length≤1000000):
    Cn Tryz.prog 179 [vus] [] [Aa (Ak Ag) vus us] (fun v Bs=>Bs=[Y Ag v (BK us)]):=by
 intro w0 F0 H
 obtain ⟨A1,c2,rfl,hc3,hm4,hp5⟩:=H.fR 0 rfl
 refine enter Tryz.func179 U U (Nat.le_of_ble_eq_true U) (Ab (Ae (Ad U (Ac (Z ?_)))))
 replace H:Hd _ _ _ [] [Aa (Ak Ag) (.slice A1 us.length c2) us]:=H
 refine Ab (Ae (Ad U (Ac (Z (Ab (Ab (Ae (Ad U (V U U (A8 U Dz U) (Ad U (Ac (Z (AW (BT (σ:=Nat) (fun i=>[(0,.slice A1 us.length c2),(2,.slice none 0 0),(3,.int .i64 (((BK (us.take i)).length:Nat):Int)),(9,.slice A1 us.length c2),(10,.int .i64 ((us.length:Nat):Int)),(11,.int .i64 ((i:Nat):Int))]) (fun i w=>(Hd w0 F0 w [] [Aa (Ak Ag) (.slice A1 us.length c2) us])∧(i≤us.length)) (fun i=>us.length - i) 0 ⟨rfl,rfl,rfl,rfl,rfl,rfl,trivial⟩ ⟨H,Nat.zero_le _⟩ ?_))))))))))))))
 rintro i w ⟨H,hi⟩
 have hfl:=GW us i
 refine Ab (Ae (V U U (Bd U U U) (Ac (Z (Ab ?_)))))
 refine Az U (fun h6=>?_) (fun h6=>?_)
 ·refine Aw (Z (Ab (AW (Ab (Ae ?_)))))
  obtain ⟨⟨u9,x7⟩,hx8⟩:∃ z9,us[i]?=some z9:=⟨_,List.getElem?_eq_getElem (show i<us.length by omega)⟩
  obtain ⟨A10,c11,rfl,hc12,hm13⟩:=H.nestR 0 rfl hx8
  have th14:=H.thRd 0 rfl hx8
  refine V U U (Ba (p:=AT A1+i*1) U Ej U U (by omega) (by omega) th14 U) (V U U (Ao U DU U (H.elRd 0 U hx8 U)) (Ad U (Ac (Z (Ab ?_)))))
  have hf0:=GW us (i+1)
  rw [Ig hx8,List.length_append] at hf0
  refine Ae (Ah 2 U (V U U (A8 U CH U) (V U U (A0 (z:=(((BK (us.take i)).length+x7.length:Nat):Int)) U U U (by rw [AF (by omega) (by omega)];omega)) (Ad U (Ac (Z (Ab (Ae (Ad U (V U U (Bd U U U) (Ac (Z ?_))))))))))))
  refine Az U (fun h15=>?_) (fun h15=>?_)
  ·exfalso;omega
  refine Aw (A_ (Z (Ae (V U U (A0 (z:=((i+1:Nat):Int)) U U U (by rw [AF (by omega) (by omega)];omega)) (Ad U (Ac ?_))))))
  have hf1:=Ig hx8
  have hf2:(BK (us.take (i+1))).length=(BK (us.take i)).length+x7.length:=by rw [hf1,List.length_append]
  exact Bl (s:=i) (i+1) ⟨rfl,rfl,(by (try dsimp only);rw [hf2];first |rfl|(congr 2;omega)),rfl,rfl,rfl,trivial⟩ ⟨H,by (try dsimp only);omega⟩ (by (try dsimp only);omega)
 refine BM (AR (AR (BN (Z (Ab ?_)))))
 have hfl2:=GW us i
 refine Ae (Ad U (sc (Us ((BK (us.take i)).length) (by first |assumption|omega)) H l0 U U (At Vq U U) ?_))
 rintro v16 _ w rfl H
 replace H:=H.h1 (A:=Y Ag v16 [])
 refine Ad U (Ac (Z (Ab (Ab (Ae (Ad U (V U U (A8 U Dz U) (Ad U (Ac (Z (AW ?_)))))))))))
 replace H:=H.h1 (A:=Y Ag v16 (BK (us.take 0)))
 refine BT (σ:=Nat×Value) (fun (j,q)=>[(2,.slice none 0 0),(6,q),(25,.slice A1 us.length c2),(26,.int .i64 ((us.length:Nat):Int)),(27,.int .i64 ((j:Nat):Int))]) (fun (j,q) w=>(Hd w0 F0 w [Y Ag q (BK (us.take j))] [Aa (Ak Ag) (.slice A1 us.length c2) us])∧(j≤us.length)) (fun (j,q)=>us.length - j) (0,v16) ⟨rfl,rfl,rfl,rfl,rfl,trivial⟩ ⟨H,Nat.zero_le _⟩ ?_
 rintro ⟨j,q⟩ w ⟨H,hj⟩
 have hfl:=GW us j
 refine Ab (Ae (V U U (Bd U U U) (Ac (Z (Ab ?_)))))
 refine Az U (fun h17=>?_) (fun h17=>?_)
 ·refine Aw (Z (Ab (AW (Ab (Ae ?_)))))
  obtain ⟨⟨u20,x18⟩,hx19⟩:∃ z9,us[j]?=some z9:=⟨_,List.getElem?_eq_getElem (show j<us.length by omega)⟩
  obtain ⟨A21,c22,rfl,hc23,hm24⟩:=H.nestR 0 rfl hx19
  have th25:=H.thRd 0 rfl hx19
  refine V U U (Ba (p:=AT A1+j*1) U Ej U U (by omega) (by omega) th25 U) (V U U (Ao U DU U (H.elRd 0 U hx19 U)) (Ad U (Ac (Z ?_))))
  have hf0:=GW us (j+1)
  rw [Ig hx19,List.length_append] at hf0
  refine Ae (Ah 2 U (CG (xs:=BK (us.take j)) (ys:=x18) U U U BA CT U (by decide) U U H (by omega) (fun F hA hR=>Gy (hR _ (List.mem_of_getElem? (i:=0) U)) hx19) (fun v26 w H=>(Ad U (Ac (A_ (Z ?_)))))))
  replace H:Hd _ _ _ [Y Ag v26 ((BK (us.take j))++x18)] [Aa (Ak Ag) (.slice A1 us.length c2) us]:=H
  refine Ae (V U U (A0 (z:=((j+1:Nat):Int)) U U U (by rw [AF (by omega) (by omega)];omega)) (Ad U (Ac ?_)))
  replace H:Hd w0 F0 w [Y Ag v26 (BK (us.take (j+1)))] [Aa (Ak Ag) (.slice A1 us.length c2) us]:=by rw [Ig hx19];exact H
  exact Bl (s:=(j,undef)) (j+1,v26) ⟨rfl,rfl,rfl,rfl,rfl,trivial⟩ ⟨H,by (try dsimp only);omega⟩ (by (try dsimp only);omega)
 refine BM (AR (AR (BN (Z (Ab (Ae (Ah 2 U (Ac (Z (Ap (Aq U U ?_)))))))))))
 replace H:Hd w0 F0 w [Y Ag q (BK us)] [Aa (Ak Ag) (.slice A1 us.length c2) us]:=by rw [List.take_of_length_le (show us.length≤j by omega)] at H;exact H
 exact Am U H
theorem UQ (vus:Value) (us:List (Value×List Al)) (hb:(BK us).length≤1000000) (hul:us.length≤1000000):
    Cn Tryz.prog 127 [vus] [] [Aa (Ak Ag) vus us] (fun v Bs=>Bs=[Y Ag v (BK us)]):=by
 intro w0 F0 H
 obtain ⟨A1,c2,rfl,hc3,hm4,hp5⟩:=H.fR 0 rfl
 refine enter Tryz.func127 U U (Nat.le_of_ble_eq_true U) (Ab (Ae (Ad U (Ac (Z ?_)))))
 replace H:Hd _ _ _ [] [Aa (Ak Ag) (.slice A1 us.length c2) us]:=H
 refine Ab (Ae (Ad U (sc (Ta (.slice A1 us.length c2) us (by first |assumption|omega) (by first |assumption|omega)) H (lR 0 U l0) U U (At Vb U U) ?_)))
 rintro v6 _ w rfl H
 replace H:=H.h1 (A:=Y Ag v6 (BK us))
 exact Ad U (Ac (Z (Ap (Aq U U (Am U H)))))
theorem IM (sb:Nat) (st:CW) (a:Int) (b:Int):
    Cn Tryz.prog 122 [.pointer (some ⟨sb,0,none⟩),.int .i64 a,.int .i64 b] [AV 253 sb (st)] [] (fun v Bs=>v=.int .i64 (Co st a b)∧Bs=[AV 253 sb (st)]):=by
 intro w0 F0 H
 refine enter Tryz.func122 U U (Nat.le_of_ble_eq_true U) (Ab (Ae (Ad U (Ac (Z (Ab (Ab (Ae (Ad U (V U U (C5 U KW U U) (Ac (Z (B9 U (Aw (Z (Ab ?_))))))))))))))))
 obtain ⟨mb1,kvs2,v3,us4,hst5,hnd6,hwk7,hlk8,hof9,H⟩:=H.stgOpen (a,b)
 replace H:Hd _ _ _ [blk sb [.map (some mb1)] 253,Cv BW mb1 (kvs2.map BO),Y (Ak Ag) v3 us4,Bf Ce (CE (a,b) kvs2)] []:=H
 obtain ⟨A10,c11,rfl,hc12,hm13,hp14⟩:=H.fA 2 rfl
 refine Ae (Ad U (V U U (AI U U) (V U U (Aj U HC U) (V U U (Ao U HT U (H.cellI 0 U U)) (Ah 2 U (V U U (CM (parts:=[(0,.tmp 13),(1,.tmp 14)]) (vs:=[.int .i64 a,.int .i64 b]) (cs:=[.int .i64 a,.int .i64 b]) U Lc U U) (V U U (Qx IV U HV M9 U (a,b) U H 1 U (hlk8)) (V U U (A8 U Dz U) (Ad U (Ac (Z (Ap (Aq U U ?_)))))))))))))
 have e:((us4.length:Nat):Int)=Co st a b:=by unfold Co;rw [←hof9];simp
 replace H:=Hd.stgShut hst5 hnd6 hwk7 H
 replace H:=H.h1 (A:=AV 253 sb (st))
 exact Am ⟨by rw [e]<;>rfl,rfl⟩ H
theorem Rj (a b:Int) (x:List Al):∀ st:CW,B3 (Ei st a b x) a b=B3 st a b++[x]
 |[]=>by simp [Ei,B3]
 |e::s=>by
  show B3 (if e.1.1=a∧e.1.2=b then (e.1,e.2++[x])::s else e::Ei s a b x) a b=(if e.1.1=a∧e.1.2=b then e.2 else B3 s a b)++[x]
  by_cases h:e.1.1=a∧e.1.2=b
  ·rw [if_pos h,if_pos h];exact if_pos h
  ·rw [if_neg h,if_neg h];exact (if_neg h).trans (Rj a b x s)
theorem Zk (st:CW) (a b:Int) (x:List Al):Co (Ei st a b x) a b=Co st a b+1:=by
 unfold Co
 rw [Rj,List.length_append]
 simp
theorem ZG (sb:Nat) (st:CW) (a:Int) (b:Int) (q:Int) (vps:Value) (ps:List Al) (hps:ps.length≤1000000):
    Cn Tryz.prog 121 [.pointer (some ⟨sb,0,none⟩),.int .i64 a,.int .i64 b,.int .i64 q,vps] [AV 253 sb (st)] [Aa Ag vps ps] (fun v Bs=>v=.int .i64 (Co (C3 st a b q ps) a b)∧Bs=[AV 253 sb (C3 st a b q ps)]):=by
 intro w0 F0 H
 obtain ⟨A1,c2,rfl,hc3,hm4,hp5⟩:=H.fR 0 rfl
 refine enter Tryz.func121 U U (Nat.le_of_ble_eq_true U) (Ab (Ae (Ad U (Ac (Z ?_)))))
 replace H:Hd _ _ _ [AV 253 sb (st)] [Aa Ag (.slice A1 ps.length c2) ps]:=H
 refine Ab (Ae (Ah 2 U (V U U (CM (parts:=[(0,.tmp 13),(1,.tmp 14)]) (vs:=[.int .i64 a,.int .i64 b]) (cs:=[.int .i64 a,.int .i64 b]) U Lc U U) (Dr U U U RZ H (fun b6 w H=>(Bo U U U KV U U H U (Nat.le_of_ble_eq_true U) (fun u hu=>by simp [Value.cells] at hu;rcases hu with rfl|rfl<;>rfl) (fun w H=>?_)))))))
 replace H:=H.h1 (A:=blk b6 [.int .i64 a,.int .i64 b] 250)
 refine Ac (Z (Ab (Ae (Ah 3 U ?_))))
 replace H:=H.p1
 refine sc (IM sb st a b) H l0 U U (At Ip U U) ?_
 rintro _ _ w ⟨rfl,rfl⟩ H
 refine Ad U (Ac (Z (Ab (Ab (Ae (Ad U (V U U (C5 U KW U U) (Ah 3 U (V U U (CN U U U) (Ah 2 U ?_))))))))))
 refine AU (d:=27) U (fun h7=>?_) (fun h7=>?_)
 ·refine Ah 12 U (Ah 7 U (Ac (Z (B8 U (Ab (Ae (Ah 2 U (Ac (Z (Ap (AA (Aq U U ?_))))))))))))
  have e:C3 st a b q ps=st:=if_neg (fun h=>by obtain ⟨h1,h2,h3,h4⟩:=h;omega)
  replace H:=H.k1
  exact Am ⟨by rw [e]<;>rfl,by rw [e]<;>rfl⟩ H
 refine Ad U (V U U (Bd U U U) (Ah 2 U ?_))
 refine AU (d:=31) U (fun h8=>?_) (fun h8=>?_)
 ·refine Ah 12 U (Ah 3 U (Ac (Z (B8 U (Ab (Ae (Ah 2 U (Ac (Z (Ap (AA (Aq U U ?_))))))))))))
  have e:C3 st a b q ps=st:=if_neg (fun h=>by obtain ⟨h1,h2,h3,h4⟩:=h;omega)
  replace H:=H.k1
  exact Am ⟨by rw [e]<;>rfl,by rw [e]<;>rfl⟩ H
 refine Ad U (V U U (Cw U U U) (Ah 2 U ?_))
 refine AU (d:=35) U (fun h9=>?_) (fun h9=>?_)
 ·refine Ah 11 U (Ac (Z (B8 U (Ab (Ae (Ah 2 U (Ac (Z (Ap (AA (Aq U U ?_)))))))))))
  have e:C3 st a b q ps=st:=if_neg (fun h=>by obtain ⟨h1,h2,h3,h4⟩:=h;omega)
  replace H:=H.k1
  exact Am ⟨by rw [e]<;>rfl,by rw [e]<;>rfl⟩ H
 refine Ad U (V U U (Bd U U U) (Ah 2 U ?_))
 refine AU (d:=39) U (fun h10=>?_) (fun h10=>?_)
 ·refine Ah 7 U (Ac (Z (B8 U (Ab (Ae (Ah 2 U (Ac (Z (Ap (AA (Aq U U ?_)))))))))))
  have e:C3 st a b q ps=st:=if_neg (fun h=>by obtain ⟨h1,h2,h3,h4⟩:=h;omega)
  replace H:=H.k1
  exact Am ⟨by rw [e]<;>rfl,by rw [e]<;>rfl⟩ H
 refine Ad U (V U U (Ca U U U) (Ah 2 U ?_))
 refine AU (d:=43) U (fun h11=>?_) (fun h11=>?_)
 ·refine Ah 3 U (Ac (Z (B8 U (Ab (Ae (Ah 2 U (Ac (Z (Ap (AA (Aq U U ?_)))))))))))
  have e:C3 st a b q ps=st:=if_neg (fun h=>by obtain ⟨h1,h2,h3,h4⟩:=h;omega)
  replace H:=H.k1
  exact Am ⟨by rw [e]<;>rfl,by rw [e]<;>rfl⟩ H
 refine Ad U (V U U (Cw U U U) (Ad U (Ac (Z ?_))))
 refine Az U (fun h12=>?_) (fun h12=>?_)
 ·refine Ab (Ae (Ah 2 U (Ac (Z (Ap (AA (Aq U U ?_)))))))
  have e:C3 st a b q ps=st:=if_neg (fun h=>by obtain ⟨h1,h2,h3,h4⟩:=h;omega)
  replace H:=H.k1
  exact Am ⟨by rw [e]<;>rfl,by rw [e]<;>rfl⟩ H
 refine Aw (Z (Ab ?_))
 have hmay:KJ st a b q:=⟨by omega,by omega,by omega,by omega⟩
 have hq0:=hmay.1
 have hq1:=hmay.2.2.2
 unfold Co at hq0
 obtain ⟨mb13,kvs14,v15,us16,hst17,hnd18,hwk19,hlk20,hof21,H⟩:=H.stgOpen (a,b)
 replace H:=H.h4 (A:=blk sb [.map (some mb13)] 253) (B:=Cv BW mb13 (kvs14.map BO)) (C:=Y (Ak Ag) v15 us16) (D:=Bf Ce (CE (a,b) kvs14))
 have hul:us16.length=(B3 st a b).length:=by have:=congrArg List.length hof21;simpa using this
 obtain ⟨A22,c23,rfl,hc24,hm25,hp26⟩:=H.fA 2 rfl
 replace H:=H.p4.p4.p2
 refine BP (.e 0 (.e 1 (.e 2 (.e 3 (.e 4 (.e 5 (.m 6 (.m 7 (.m 8 (.e 9 (.e 11 (.m 10 (.m 12 .z))))))))))))) (fun w=>∃ Ar,Hd w0 F0 w (blk sb [.map (some mb13)] 253::Bf Ce (CE (a,b) kvs14)::blk b6 [.int .i64 a,.int .i64 b] 250::Ar) [Aa Ag (.slice A1 ps.length c2) ps]) mo (by kernel_rfl) (fun w H=>⟨_,H⟩) H (fun w H=>(Au U (An U U U (fun w ⟨Ar,H⟩=>AI U U) (An U U U (fun w ⟨Ar,H⟩=>Aj U HC U) (An U U U (fun w ⟨Ar,H⟩=>Ao U HT U (H.cellI 0 U U)) (An U U U (fun w ⟨Ar,H⟩=>Bu (cs:=[.int .i64 a,.int .i64 b]) U KV U U (H.cellsI 2 U U)) (Au U (AK U (sc (Hx (.slice A1 ps.length c2) ps (by first |assumption|omega)) H (lR 0 U l0) U U (At HJ U U) ?_)))))))))
 rintro v27 _ w rfl H
 replace H:=H.h1 (A:=Y Ag v27 ps)|>.p3|>.p3|>.p3
 refine AH ⟨_,H⟩ (AK U ?_)
 obtain ⟨A29,c30,rfl,hc31,hm32,hp33⟩:=H.fA 3 rfl
 refine BU (parts:=[(0,.tmp 55)]) (vs:=[.slice A29 ps.length c30]) (cs:=[.slice A29 ps.length c30]) U U U Ej Hr U (by decide) (by decide) U U H (fun b28 w H=>?_)
 replace H:Hd _ _ _ [blk b28 [.slice A29 ps.length c30] 35,blk sb [.map (some mb13)] 253,Bf Ce (CE (a,b) kvs14),blk b6 [.int .i64 a,.int .i64 b] 250,Y Ag (.slice A29 ps.length c30) ps,Cv BW mb13 (kvs14.map BO),Y (Ak Ag) (.slice A22 us16.length c23) us16] [Aa Ag (.slice A1 ps.length c2) ps]:=H
 replace H:=H.p3.p3.p3
 refine AH ⟨_,H⟩ (AK U ?_)
 replace H:=H.p5
 refine Y1 IV U U U HV M9 U (a,b) U H (fun st34 w H=>?_)
 rw [show (EE (a,b) (kvs14.map BO)).getD (.slice none 0 0)=(.slice A22 us16.length c23) from hlk20] at H ⊢
 replace H:Hd _ _ _ [Mf BW mb13 (DJ (a,b) (.slice A22 us16.length c23) (kvs14.map BO)) (a,b) st34,blk sb [.map (some mb13)] 253,Bf Ce (CE (a,b) kvs14),blk b6 [.int .i64 a,.int .i64 b] 250,blk b28 [.slice A29 ps.length c30] 35,Y Ag (.slice A29 ps.length c30) ps,Y (Ak Ag) (.slice A22 us16.length c23) us16] [Aa Ag (.slice A1 ps.length c2) ps]:=H
 replace H:=H.p3.p3.p3
 refine AH ⟨_,H⟩ (Au U (Au U (AK U ?_)))
 replace H:=H.p6.p6.p6.p2
 refine FS U U U Ej Hr U (by decide) U U H (by first |omega|(simp only [List.length_append,List.length_cons,List.length_nil];omega)) (fun v35 w H=>?_)
 replace H:=H.h1 (A:=Y (Ak Ag) v35 (us16++[((.slice A29 ps.length c30:Value),ps)]))|>.p3|>.p3|>.p3
 refine AH ⟨_,H⟩ (AK U ?_)
 replace H:=H.p4
 refine Y5 U U U U (a,b) U U IV.inj H (fun w H=>?_)
 replace H:=H.h1 (A:=Cv BW mb13 (DJ (a,b) v35 (DJ (a,b) (.slice A22 us16.length c23) (kvs14.map BO))))
 rw [Ri] at H
 replace H:Hd _ _ _ [Cv BW mb13 (DJ (a,b) v35 (kvs14.map BO)),blk sb [.map (some mb13)] 253,Bf Ce (CE (a,b) kvs14),blk b6 [.int .i64 a,.int .i64 b] 250,Y (Ak Ag) v35 (us16++[((.slice A29 ps.length c30:Value),ps)])] [Aa Ag (.slice A1 ps.length c2) ps]:=H
 replace H:=H.p3.p3.p3
 refine AH ⟨_,H⟩ (BH (Z (Ab (Ae (Ad U (V U U (A0 (z:=(Co st a b)+1) U U U (AF (by omega) (by omega))) (Ad U (Ac (Z (Ap (Aq U U ?_)))))))))))
 replace H:=H.p1.p4.p4.p3
 replace H:=Hd.stgPut (k:=(a,b)) (x:=ps) hst17 hnd18 hof21 (by simp) H
 replace H:=H.h1 (A:=AV 253 sb (Ei st a b ps))|>.k1
 have e:C3 st a b q ps=Ei st a b ps:=if_pos hmay
 have e2:Co (Ei st a b ps) a b=Co st a b+1:=Zk st a b ps
 exact Am ⟨by rw [e,e2]<;>rfl,by rw [e]<;>rfl⟩ H
theorem ZH (sb:Nat) (st:CW) (a:Int) (b:Int) (n:Int) (hb:(B3 st a b).flatten.length≤1000000) (hb2:(B3 st a b).length≤1000000):
    Cn Tryz.prog 171 [.pointer (some ⟨sb,0,none⟩),.int .i64 a,.int .i64 b,.int .i64 n] [AV 253 sb (st)] [] (fun v Bs=>∃ u:Value,v=.tuple #[u,.bool ((AD st a b n).isSome)]∧Bs=[Y Ag u ((AD st a b n).getD []),AV 253 sb (st)]):=by
 intro w0 F0 H
 refine enter Tryz.func171 U U (Nat.le_of_ble_eq_true U) (Ab (Ae (Ah 2 U (Ac (Z (Ab (Ab (Ae (Ad U (V U U (C5 U KW U U) (Ah 2 U (V U U (Bd U U U) (Ah 2 U ?_)))))))))))))
 refine AU (d:=16) U (fun h1=>?_) (fun h1=>?_)
 ·refine Ah 7 U (Ac (Z (B8 U (Ab (Ae (Ah 2 U (Ac (Z (Ap (AA (Cm U U U ?_)))))))))))
  have e:AD st a b n=none:=if_pos (by omega)
  replace H:=H.newnil Ag
  replace H:Hd _ _ _ [Y Ag (.slice none 0 0) [],AV 253 sb (st)] []:=H
  replace H:Hd w0 F0 w0 [Y Ag (.slice none 0 0) ((AD st a b n).getD []),AV 253 sb (st)] []:=by rw [e];exact H
  replace H:Hd _ _ _ [Y Ag (.slice none 0 0) ((AD st a b n).getD []),AV 253 sb (st)] []:=H
  exact Am ⟨_,by rw [e];rfl,rfl⟩ H
 refine Ah 3 U (sc (IM sb st a b) H l0 U U (At Ip U U) ?_)
 rintro _ _ w ⟨rfl,rfl⟩ H
 refine Ad U (V U U (CN U U U) (Ad U (Ac (Z ?_))))
 replace H:Hd _ _ _ [AV 253 sb (st)] []:=H
 refine Az U (fun h2=>?_) (fun h2=>?_)
 ·refine Ab (Ae (Ah 2 U (Ac (Z (Ap (AA (Cm U U U ?_)))))))
  have e:AD st a b n=none:=if_pos (by omega)
  replace H:=H.newnil Ag
  replace H:Hd w0 F0 w [Y Ag (.slice none 0 0) ((AD st a b n).getD []),AV 253 sb (st)] []:=by rw [e];exact H
  exact Am ⟨_,by rw [e];rfl,rfl⟩ H
 refine Aw (Z (Ab ?_))
 obtain ⟨mb3,kvs4,v5,us6,hst7,hnd8,hwk9,hlk10,hof11,H⟩:=H.stgOpen (a,b)
 replace H:=H.h4 (A:=blk sb [.map (some mb3)] 253) (B:=Cv BW mb3 (kvs4.map BO)) (C:=Y (Ak Ag) v5 us6) (D:=Bf Ce (CE (a,b) kvs4))
 have hul:us6.length=(B3 st a b).length:=by have:=congrArg List.length hof11;simpa using this
 have hfl:BK us6=(B3 st a b).flatten:=by rw [←hof11];rfl
 have hfb:(BK us6).length≤1000000:=by rw [hfl];exact hb
 obtain ⟨A12,c13,rfl,hc14,hm15,hp16⟩:=H.fA 2 rfl
 refine Ae (Ad U (V U U (AI U U) (V U U (Aj U HC U) (V U U (Ao U HT U (H.cellI 0 U U)) (Ah 2 U (V U U (CM (parts:=[(0,.tmp 28),(1,.tmp 29)]) (vs:=[.int .i64 a,.int .i64 b]) (cs:=[.int .i64 a,.int .i64 b]) U Lc U U) (V U U (Qx IV U HV M9 U (a,b) U H 1 U (hlk10)) (sc (UQ (.slice A12 us6.length c13) us6 (by first |assumption|omega) (by first |assumption|omega)) H (lA 2 U BE l0) U U (At U2 U U) ?_))))))))
 rintro v17 _ w rfl H
 replace H:=H.h1 (A:=Y Ag v17 (BK us6))
 refine Ah 2 U (Ac (Z (Ap (Cm U U U ?_))))
 replace H:=H.p4.p4.p4.p4
 replace H:=Hd.stgShut hst7 hnd8 hwk9 H
 replace H:=H.h1 (A:=AV 253 sb (st))
 have e:AD st a b n=some (B3 st a b).flatten:=if_neg (by omega)
 replace H:Hd w0 F0 w [AV 253 sb (st),Y Ag v17 ((AD st a b n).getD [])] []:=by rw [e,Option.getD_some,←hfl];exact H
 replace H:=H.p1
 exact Am ⟨_,by rw [e];rfl,rfl⟩ H
theorem ZE (sb:Nat) (st:CW) (a:Int):
    Cn Tryz.prog 172 [.pointer (some ⟨sb,0,none⟩),.int .i64 a] [AV 253 sb (st)] [] (fun v Bs=>∃ z:Int,v=.int .i64 z∧Bs=[AV 253 sb (D4 st a)]):=by
 intro w0 F0 H
 refine enter Tryz.func172 U U (Nat.le_of_ble_eq_true U) (Ab (Ae (Ad U (Ac (Z (Ab (Ab (Ae (Ad U (V U U (C5 U KW U U) (Ac (Z (B9 U (Aw (Z (Ab ?_))))))))))))))))
 obtain ⟨mb1,kvs2,hst3,hnd4,H⟩:=H.stgA
 replace H:Hd _ _ _ [blk sb [.map (some mb1)] 253,Cv BW mb1 (kvs2.map BO),Bf Ce kvs2] []:=H
 refine Ae (Ad U (V U U (AI U U) (V U U (Aj U HC U) (V U U (Ao U HT U (H.cellI 0 U U)) (V U U (Qw U HV U H 1 U) (Ad U (Ac (Z (Ab (Ab (Ae (Ad U (V U U (AI U U) (V U U (Aj U HC U) (V U U (Ao U HT U (H.cellI 0 U U)) ?_)))))))))))))))
 replace H:=H.p1
 refine Y9 U U U HV U H (fun it5 w H=>?_)
 replace H:=H.h1 (A:=E7 BW mb1 it5 (kvs2.map BO) [])
 refine Ac (Z (AW ?_))
 replace H:=H.p1
 refine BT (σ:=List CI×List (Nat×(Int×Int))) (fun (kvs,ps)=>[(0,.pointer (some ⟨sb,0,none⟩)),(1,.int .i64 a),(4,.int .i64 0),(5,.int .i64 (((kvs2.map BO).length:Nat):Int)),(18,.pointer (some ⟨it5,0,none⟩))]) (fun (kvs,ps) w=>(Hd w0 F0 w [blk sb [.map (some mb1)] 253,E7 BW mb1 it5 (kvs.map BO) ps,Bf Ce kvs] [])∧(D6 (kvs.map BO))∧(GB a kvs=GB a kvs2)∧(IJ a kvs ps)) (fun (kvs,ps)=>Ho kvs ps) (kvs2,[]) ⟨rfl,rfl,rfl,rfl,rfl,trivial⟩ ⟨H,hnd4,rfl,fun e _ h=>by cases h⟩ ?_
 rintro ⟨kvs,ps⟩ w ⟨H,hn,ho,hs⟩
 refine Ab (Ae ?_)
 replace H:=H.p1.h3 (A:=E7 BW mb1 it5 (kvs.map BO) ps) (C:=Bf Ce kvs)
 refine Y7 IV.inj U U U U H (fun r6 ps7 w hr8 H=>?_)
 replace H:=H.h1 (A:=E7 BW mb1 it5 (kvs.map BO) ps7)
 refine V U U (Yd (enc:=BW) U U) (Ac (Z (Ab ?_)))
 refine Dv (b:=r6.isSome) U (fun h9=>?_) (fun h9=>?_)
 ·obtain ⟨⟨⟨ka10,kb11⟩,pv12⟩,rfl⟩:=Option.isSome_iff_exists.1 h9
  obtain ⟨hpm13,hpn14,s15,rfl⟩:=hr8
  refine Aw (Z (AW (Ab (Ae (V U U ((show Bx _ _ _ _ _ (.tuple #[.agg #[.int .i64 ka10,.int .i64 kb11],pv12]) _ from X4 (p:=((ka10,kb11),pv12)) U U hpm13 H 0 U)) (Ad U (Dr U U U RZ H (fun b16 w H=>(Bo U U U KV U U H U (Nat.le_of_ble_eq_true U) (fun u hu=>by simp [Value.cells] at hu;rcases hu with rfl|rfl<;>rfl) (fun w H=>?_))))))))))
  replace H:=H.h1 (A:=blk b16 [.int .i64 ka10,.int .i64 kb11] 250)
  refine Ac (Z (Ab (Ae (V U U (Aj U T4 U) (V U U (Ao U AE U (H.cellI 0 U U)) (Ad U (V U U (Bv U U U) (Ac (Z ?_)))))))))
  refine Az U (fun h17=>?_) (fun h17=>?_)
  ·replace H:=H.p3.p3.p2
   refine BP (.e 0 (.e 1 (.e 2 (.e 3 (.e 4 (.m 5 .z)))))) (fun w=>∃ Ar,Hd w0 F0 w (blk b16 [.int .i64 ka10,.int .i64 kb11] 250::blk sb [.map (some mb1)] 253::Bf Ce kvs::Ar) []) mo (by kernel_rfl) (fun w H=>⟨_,H⟩) H (fun w H=>(Au U (An U U U (fun w ⟨Ar,H⟩=>AI U U) (An U U U (fun w ⟨Ar,H⟩=>Aj U HC U) (An U U U (fun w ⟨Ar,H⟩=>Ao U HT U (H.cellI 1 U U)) (An U U U (fun w ⟨Ar,H⟩=>Bu (cs:=[.int .i64 ka10,.int .i64 kb11]) U KV U U (H.cellsI 0 U U)) (AK U ?_)))))))
   replace H:=H.p3
   refine Y0 IV U U U HV U (ka10,kb11) U H (fun w H=>?_)
   replace H:=H.h1 (A:=E7 BW mb1 it5 (Gq (ka10,kb11) (kvs.map BO)) (ps++[(s15,(ka10,kb11))]))|>.p3|>.p3|>.p3
   refine AH ⟨_,H⟩ (BH (A_ ?_))
   replace H:=H.p3.p2.p3.k3
   replace H:=Hd.stgX (ka10,kb11) hn H
   rw [Rv] at H
   replace H:Hd _ _ _ [Bf Ce (CE (ka10,kb11) kvs),blk sb [.map (some mb1)] 253,E7 BW mb1 it5 ((CE (ka10,kb11) kvs).map BO) (ps++[(s15,(ka10,kb11))])] []:=H
   replace H:=H.p2.p2
   have hn2:D6 ((CE (ka10,kb11) kvs).map BO):=by rw [←Rv];exact Ll hn
   exact Bl (s:=(kvs,ps)) (CE (ka10,kb11) kvs,ps++[(s15,(ka10,kb11))]) ⟨rfl,rfl,rfl,rfl,rfl,trivial⟩ ⟨H,hn2,(W_ h17).trans ho,Zb hs⟩ (by exact RN hpm13 hpn14 (.inr U))
  refine Aw (A_ ?_)
  replace H:=H.p3.p2.p3.k3
  exact Bl (s:=(kvs,ps)) (kvs,ps++[(s15,(ka10,kb11))]) ⟨rfl,rfl,rfl,rfl,rfl,trivial⟩ ⟨H,hn,ho,Zd hs h17⟩ (by exact RN hpm13 hpn14 (.inl U))
 obtain rfl:r6=none:=by cases r6 with |none=>rfl|some _=>cases h9
 have hall:=hr8.2
 rw [hr8.1] at H
 replace H:Hd _ _ _ [E7 BW mb1 it5 (kvs.map BO) ps,blk sb [.map (some mb1)] 253,Bf Ce kvs] []:=H
 refine BM (AR (AR (BN (Z (Ab ?_)))))
 replace H:=H.mapRK|>.h1 (A:=Cv BW mb1 (kvs.map BO))
 have hend:kvs.map DS=D4 st a:=by rw [←Zc hs hall,ho,W8,hst3]
 refine Ae (Ah 2 U (V U U (AI U U) (V U U (Aj U HC U) (V U U (Ao U HT U (H.cellI 1 U U)) (V U U (Qw U HV U H 0 U) (V U U (Cj (z:=IntKind.i64.wrap ((((kvs2.map BO).length:Nat):Int) - (((kvs.map BO).length:Nat):Int))) U U U U) (Ad U (Ac (Z (Ap (Aq U U ?_)))))))))))
 replace H:=H.p2.p1.p2
 replace H:=Hd.stgC (st:=D4 st a) hend H
 replace H:=H.h1 (A:=AV 253 sb (D4 st a))
 exact Am ⟨_,rfl,rfl⟩ H
def Bn (r:Nat) (vS:Value) (vM:Value) (vC:Value) (vR:Value) (vK:Value) (J:AG) (cw:Int) (ct:Int) (co:Int) (sb:Nat) (R:AC):SP:=ex fun hv:Nat→Value=>ex fun vs:Value=>ex fun us:List (Value×List Int)=>CO [C0 ((us.map (fun u=>u.2)=R.sets)),blk r (AJ vS vM vC vR vK J cw ct co R.part R.ep R.g hv sb vs) 185,Y (Ak Ag) vS J.us,Y Af vM J.map,Y Af vC J.comb,Y Af vR J.red,Y (Ai .i64) vK J.marks,AO (R.g) hv,Y (Ak (Ai .i64)) vs us,AV 253 sb (R.st)]
theorem EY (r:Nat) (vS:Value) (vM:Value) (vC:Value) (vR:Value) (vK:Value) (J:AG) (cw:Int) (ct:Int) (co:Int) (sb:Nat) (R:AC) {w0 w:World} {F0:AN} {As Rs:List SP} (H:Hd w0 F0 w (Bn r vS vM vC vR vK J cw ct co sb R::As) Rs):∃ hv:Nat→Value,∃ vs:Value,∃ us:List (Value×List Int),((us.map (fun u=>u.2)=R.sets))∧Hd w0 F0 w ([blk r (AJ vS vM vC vR vK J cw ct co R.part R.ep R.g hv sb vs) 185,Y (Ak Ag) vS J.us,Y Af vM J.map,Y Af vC J.comb,Y Af vR J.red,Y (Ai .i64) vK J.marks,AO (R.g) hv,Y (Ak (Ai .i64)) vs us,AV 253 sb (R.st)]++As) Rs:=by
 obtain ⟨hv,H⟩:=Hd.exA H
 obtain ⟨vs,H⟩:=Hd.exA H
 obtain ⟨us,H⟩:=Hd.exA H
 exact ⟨hv,vs,us,H.stA.puA⟩
theorem Cx (r:Nat) (vS:Value) (vM:Value) (vC:Value) (vR:Value) (vK:Value) (J:AG) (cw:Int) (ct:Int) (co:Int) (sb:Nat) (R:AC) (hv:Nat→Value) (vs:Value) (us:List (Value×List Int)) {w0 w:World} {F0:AN} {As Rs:List SP} (hp:(us.map (fun u=>u.2)=R.sets)) (H:Hd w0 F0 w ([blk r (AJ vS vM vC vR vK J cw ct co R.part R.ep R.g hv sb vs) 185,Y (Ak Ag) vS J.us,Y Af vM J.map,Y Af vC J.comb,Y Af vR J.red,Y (Ai .i64) vK J.marks,AO (R.g) hv,Y (Ak (Ai .i64)) vs us,AV 253 sb (R.st)]++As) Rs):Hd w0 F0 w (Bn r vS vM vC vR vK J cw ct co sb R::As) Rs:=by
 have H1:=(show Hd w0 F0 w ([C0 ((us.map (fun u=>u.2)=R.sets)),blk r (AJ vS vM vC vR vK J cw ct co R.part R.ep R.g hv sb vs) 185,Y (Ak Ag) vS J.us,Y Af vM J.map,Y Af vC J.comb,Y Af vR J.red,Y (Ai .i64) vK J.marks,AO (R.g) hv,Y (Ak (Ai .i64)) vs us,AV 253 sb (R.st)]++As) Rs from H.puI hp).stI
 replace H1:=Hd.exI (A:=fun us:List (Value×List Int)=>CO [C0 ((us.map (fun u=>u.2)=R.sets)),blk r (AJ vS vM vC vR vK J cw ct co R.part R.ep R.g hv sb vs) 185,Y (Ak Ag) vS J.us,Y Af vM J.map,Y Af vC J.comb,Y Af vR J.red,Y (Ai .i64) vK J.marks,AO (R.g) hv,Y (Ak (Ai .i64)) vs us,AV 253 sb (R.st)]) us H1
 replace H1:=Hd.exI (A:=fun vs:Value=>ex fun us:List (Value×List Int)=>CO [C0 ((us.map (fun u=>u.2)=R.sets)),blk r (AJ vS vM vC vR vK J cw ct co R.part R.ep R.g hv sb vs) 185,Y (Ak Ag) vS J.us,Y Af vM J.map,Y Af vC J.comb,Y Af vR J.red,Y (Ai .i64) vK J.marks,AO (R.g) hv,Y (Ak (Ai .i64)) vs us,AV 253 sb (R.st)]) vs H1
 replace H1:=Hd.exI (A:=fun hv:Nat→Value=>ex fun vs:Value=>ex fun us:List (Value×List Int)=>CO [C0 ((us.map (fun u=>u.2)=R.sets)),blk r (AJ vS vM vC vR vK J cw ct co R.part R.ep R.g hv sb vs) 185,Y (Ak Ag) vS J.us,Y Af vM J.map,Y Af vC J.comb,Y Af vR J.red,Y (Ai .i64) vK J.marks,AO (R.g) hv,Y (Ak (Ai .i64)) vs us,AV 253 sb (R.st)]) hv H1
 exact H1
theorem N9 (vmarks:Value) (marks:List Int) (n:Int):
    Cn Tryz.prog 134 [vmarks,.int .i64 n] [] [Aa (Ai .i64) vmarks marks] (fun v Bs=>v=.bool (decide (n∈marks))∧Bs=[]):=by
 intro w0 F0 H
 obtain ⟨A1,c2,rfl,hc3,hm4,hp5⟩:=H.fR 0 rfl
 refine enter Tryz.func134 U U (Nat.le_of_ble_eq_true U) (Ab (Ae (Ad U (Ac (Z ?_)))))
 replace H:Hd _ _ _ [] [Aa (Ai .i64) (.slice A1 marks.length c2) marks]:=H
 refine Ab (Ae (Ah 2 U (sc (JT (.slice A1 marks.length c2) marks n) H (lR 0 U l0) U U (At Kc U U) ?_)))
 rintro _ _ w ⟨rfl,rfl⟩ H
 exact Ad U (Ac (Z (Ap (Aq U U (Am ⟨rfl,rfl⟩ H)))))
theorem PF (r:Nat) (vS:Value) (vM:Value) (vC:Value) (vR:Value) (vK:Value) (J:AG) (cw:Int) (ct:Int) (co:Int) (sb:Nat) (R:AC) (n:Int) (hn:0≤n∧n<(J.us.length:Int)) (h6:J.us.length≤6) (hB:AS 100000 R) (hmk:J.marks.length≤1000):
    Cn Tryz.prog 119 [.pointer (some ⟨r,0,none⟩),.int .i64 n,.pointer (some ⟨r,14+(n).toNat*5,none⟩)] [Bn r vS vM vC vR vK J cw ct co sb R] [] (fun v Bs=>∃ rs:List AX,Bs=[Y Bp v rs,Bn r vS vM vC vR vK J cw ct co sb ((CZ J R (n).toNat).1)]∧(rs.map AX.p=(CZ J R (n).toNat).2)):=by
 intro w0 F0 H
 obtain ⟨hv1,vs2,us3,hsets4,H⟩:=EY r vS vM vC vR vK J cw ct co sb R H
 replace H:Hd _ _ _ [blk r (AJ vS vM vC vR vK J cw ct co R.part R.ep R.g hv1 sb vs2) 185,Y (Ak Ag) vS J.us,Y Af vM J.map,Y Af vC J.comb,Y Af vR J.red,Y (Ai .i64) vK J.marks,AO (R.g) hv1,Y (Ak (Ai .i64)) vs2 us3,AV 253 sb (R.st)] []:=H
 obtain ⟨A5,c6,rfl,hc7,hm8,hp9⟩:=H.fA 1 rfl
 refine enter Tryz.func119 U U (Nat.le_of_ble_eq_true U) (Ab (Ae (Ad U (Ac (Z (Ab (Ab (Ae (Ad U (V U U (AI U U) (V U U (Aj U LC U) (V U U (Ao U DE U (H.cellI 0 U (QL (by omega)))) (V U U (Ep U U U) (Ac (Z ?_)))))))))))))))
 refine Dv (b:=!((R.g ((n).toNat)).told)) U (fun h10=>?_) (fun h10=>?_)
 ·refine Ab (Ae (Ad U (Ac (Z (Ap (AA (Aq U U ?_)))))))
  have e:CZ J R (n).toNat=(R,[]):=V9 (by simpa using h10)
  replace H:=H.newnil Bp|>.p9|>.p9|>.p9|>.p9|>.p9|>.p9|>.p9|>.p9|>.p9
  replace H:=Cx r (.slice A5 J.us.length c6) vM vC vR vK J cw ct co sb R hv1 vs2 us3 hsets4 H
  replace H:=H.h1 (A:=Bn r (.slice A5 J.us.length c6) vM vC vR vK J cw ct co sb R)|>.p1
  exact Am ⟨[],by rw [e]<;>rfl,by rw [e];rfl⟩ H
 refine Aw (Z (Ab ?_))
 have hfl:=hB.flat n (R.g (n).toNat).att
 have hsl:=(hB.st n (R.g (n).toNat).att).1
 have hnn:(((n).toNat:Nat):Int)=n:=Int.toNat_of_nonneg hn.1
 refine BP (.e 0 (.e 1 (.e 2 (.e 3 (.e 4 (.e 5 (.e 6 (.e 7 (.e 8 (.e 9 (.e 10 (.e 11 (.e 12 (.m 13 (.e 14 (.e 15 (.e 16 (.e 17 (.e 18 .z))))))))))))))))))) (fun w=>∃ Ar,Hd w0 F0 w (blk r (AJ (.slice A5 J.us.length c6) vM vC vR vK J cw ct co R.part R.ep R.g hv1 sb vs2) 185::Y (Ak Ag) (.slice A5 J.us.length c6) J.us::Y Af vM J.map::Y Af vC J.comb::Y Af vR J.red::Y (Ai .i64) vK J.marks::AO (R.g) hv1::Y (Ak (Ai .i64)) vs2 us3::AV 253 sb (R.st)::Ar) []) mo (by kernel_rfl) (fun w H=>⟨_,H⟩) H (fun w H=>(Au U (An U U U (fun w ⟨Ar,H⟩=>AI U U) (An U U U (fun w ⟨Ar,H⟩=>Aj U HB U) (An U U U (fun w ⟨Ar,H⟩=>Ao U HS U (H.cellI 0 U U)) (Au U (Au U (An U U U (fun w ⟨Ar,H⟩=>AI U U) (An U U U (fun w ⟨Ar,H⟩=>Aj U LD U) ?_)))))))))
 refine An U U U (fun w ⟨Ar,H⟩=>Ao U AE U (H.cellI 0 U (QM (by omega)))) (Au U (An U U U (fun w ⟨Ar,H⟩=>AI U U) (An U U U (fun w ⟨Ar,H⟩=>Aj U Ou U) (An U U U (fun w ⟨Ar,H⟩=>Ao U AE U (H.cellI 0 U (Yw (by omega)))) (AK U ?_)))))
 replace H:=H.p8
 refine sc (ZH sb R.st n ((R.g ((n).toNat)).att) ((R.g ((n).toNat)).cnt) (by first |assumption|omega) (by first |assumption|omega)) H l0 U U (At U8 U U) ?_
 rintro _ _ w ⟨u11,rfl,rfl⟩ H
 replace H:=H.h1 (A:=Y Ag u11 ((AD R.st n ((R.g ((n).toNat)).att) ((R.g ((n).toNat)).cnt)).getD []))|>.p1|>.p9|>.p9|>.p9|>.p9|>.p9|>.p9|>.p9|>.p9
 refine AH ⟨_,H⟩ (Au U (Au U (Au U (Au U (Au U (BH (Z (Ab (Ab (Ae (Ad U (V U U (Ep U U U) (Ad U ?_)))))))))))))
 refine Es (d:=35) (b:=!((AD R.st n ((R.g ((n).toNat)).att) ((R.g ((n).toNat)).cnt)).isSome)) U (fun h12=>?_) (fun h12=>?_)
 ·refine Ah 4 U (Ac (Z (B8 U (Ab (Ae (Ad U (Ac (Z (Ap (AA (Aq U U ?_)))))))))))
  have e:CZ J R (n).toNat=(R,[]):=V_ hnn (WZ (by simpa using h12))
  replace H:=H.newnil Bp|>.p9|>.p9|>.p9|>.p9|>.p9|>.p9|>.p9|>.p9|>.p9|>.k10
  replace H:=Cx r (.slice A5 J.us.length c6) vM vC vR vK J cw ct co sb R hv1 vs2 us3 hsets4 H
  replace H:=H.h1 (A:=Bn r (.slice A5 J.us.length c6) vM vC vR vK J cw ct co sb R)|>.p1
  exact Am ⟨[],by rw [e]<;>rfl,by rw [e];rfl⟩ H
 refine Ad U ?_
 obtain ⟨A13,c14,rfl,hc15,hm16,hp17⟩:=H.fA 9 rfl
 refine V U U (A8 U CH U) (V U U (Ca U U U) (Ad U (Ac (Z ?_))))
 refine Az U (fun h18=>?_) (fun h18=>?_)
 ·refine Ab (Ae (Ad U (Ac (Z (Ap (AA (Aq U U ?_)))))))
  have e:CZ J R (n).toNat=(R,[]):=Wa hnn (Rq ([]:List Al) (by simpa using h12)) (by omega)
  replace H:=H.newnil Bp|>.p9|>.p9|>.p9|>.p9|>.p9|>.p9|>.p9|>.p9|>.p9|>.k10
  replace H:=Cx r (.slice A5 J.us.length c6) vM vC vR vK J cw ct co sb R hv1 vs2 us3 hsets4 H
  replace H:=H.h1 (A:=Bn r (.slice A5 J.us.length c6) vM vC vR vK J cw ct co sb R)|>.p1
  exact Am ⟨[],by rw [e]<;>rfl,by rw [e];rfl⟩ H
 refine Aw (Z (Ab ?_))
 have htk:=Rq ([]:List Al) (by simpa using h12)
 have hto:(R.g (n).toNat).told=true:=by simpa using h10
 have hpl:((AD R.st n (R.g (n).toNat).att (R.g (n).toNat).cnt).getD []).length≤40:=by omega
 refine Ae (Ah 3 U (V U U (AI U U) (V U U (Aj U FL U) (Bo U U U DE U U H U (by show 14+((n).toNat)*5+0+1≤46;omega) (fun u hu=>by simp [Value.cells] at hu;subst hu;rfl) (fun w H=>?_)))))
 replace H:Hd w0 F0 w [blk r (AJ (.slice A5 J.us.length c6) vM vC vR vK J cw ct co R.part R.ep (AQ R.g ((n).toNat) { R.g ((n).toNat) with merged:=true }) hv1 sb vs2) 185,Y (Ak Ag) (.slice A5 J.us.length c6) J.us,Y Af vM J.map,Y Af vC J.comb,Y Af vR J.red,Y (Ai .i64) vK J.marks,AO (R.g) hv1,Y (Ak (Ai .i64)) vs2 us3,AV 253 sb (R.st),Y Ag (.slice A13 (((AD R.st n ((R.g ((n).toNat)).att) ((R.g ((n).toNat)).cnt)).getD []).length) c14) ((AD R.st n ((R.g ((n).toNat)).att) ((R.g ((n).toNat)).cnt)).getD [])] []:=by rw [←QO (show (n).toNat<6 by omega) true];exact H
 refine V U U (AI U U) (V U U (Aj U J7 U) (Bo U U U DU U U H U (by show 14+((n).toNat)*5+1+1≤46;omega) (fun u hu=>by simp [Value.cells] at hu;subst hu;rfl) (fun w H=>?_)))
 replace H:Hd w0 F0 w [blk r (AJ (.slice A5 J.us.length c6) vM vC vR vK J cw ct co R.part R.ep (AQ R.g ((n).toNat) { R.g ((n).toNat) with merged:=true }) (AQ hv1 ((n).toNat) (.slice A13 (((AD R.st n ((R.g ((n).toNat)).att) ((R.g ((n).toNat)).cnt)).getD []).length) c14:Value)) sb vs2) 185,Y (Ak Ag) (.slice A5 J.us.length c6) J.us,Y Af vM J.map,Y Af vC J.comb,Y Af vR J.red,Y (Ai .i64) vK J.marks,AO (R.g) hv1,Y (Ak (Ai .i64)) vs2 us3,AV 253 sb (R.st),Y Ag (.slice A13 (((AD R.st n ((R.g ((n).toNat)).att) ((R.g ((n).toNat)).cnt)).getD []).length) c14) ((AD R.st n ((R.g ((n).toNat)).att) ((R.g ((n).toNat)).cnt)).getD [])] []:=by rw [←QP (show (n).toNat<6 by omega) (.slice A13 (((AD R.st n ((R.g ((n).toNat)).att) ((R.g ((n).toNat)).cnt)).getD []).length) c14:Value)];exact H
 refine Ac (Z (Ab (Ae (Ad U (V U U (AI U U) (V U U (Aj U HB U) (V U U (Ao U HS U (H.cellI 0 U U)) (Ad U ?_))))))))
 replace H:=H.p8
 refine sc (ZE sb R.st n) H l0 U U (At U9 U U) ?_
 rintro _ _ w ⟨z19,rfl,rfl⟩ H
 replace H:=H.h1 (A:=AV 253 sb (D4 R.st n))
 refine Ac (Z (Ab (BP (.e 0 (.e 1 (.e 2 (.e 3 (.e 4 (.e 5 (.e 6 (.e 7 (.e 8 (.e 9 (.m 10 (.e 11 (.m 12 (.e 13 .z)))))))))))))) (fun w=>∃ Ar,Hd w0 F0 w (AV 253 sb (D4 R.st n)::blk r (AJ (.slice A5 J.us.length c6) vM vC vR vK J cw ct co R.part R.ep (AQ R.g ((n).toNat) { R.g ((n).toNat) with merged:=true }) (AQ hv1 ((n).toNat) (.slice A13 (((AD R.st n ((R.g ((n).toNat)).att) ((R.g ((n).toNat)).cnt)).getD []).length) c14:Value)) sb vs2) 185::Y (Ak Ag) (.slice A5 J.us.length c6) J.us::Y Af vM J.map::Y Af vC J.comb::Y Af vR J.red::Y (Ai .i64) vK J.marks::AO (R.g) hv1::Y (Ak (Ai .i64)) vs2 us3::Y Ag (.slice A13 (((AD R.st n ((R.g ((n).toNat)).att) ((R.g ((n).toNat)).cnt)).getD []).length) c14) ((AD R.st n ((R.g ((n).toNat)).att) ((R.g ((n).toNat)).cnt)).getD [])::Ar) []) mo (by kernel_rfl) (fun w H=>⟨_,H⟩) H (fun w H=>?_))))
 refine Au U (An U U U (fun w ⟨Ar,H⟩=>AI U U) (An U U U (fun w ⟨Ar,H⟩=>Aj U Ii U) (An U U U (fun w ⟨Ar,H⟩=>Ao U AE U (H.cellI 1 U U)) (Au U (Au U (An U U U (fun w ⟨Ar,H⟩=>AI U U) (An U U U (fun w ⟨Ar,H⟩=>Aj U LD U) (An U U U (fun w ⟨Ar,H⟩=>Ao U AE U (H.cellI 1 U ((QM (by omega)).trans (congrArg some (by rw [DR]))))) (Au U (AK U (sc (Hx (.slice A13 (((AD R.st n ((R.g ((n).toNat)).att) ((R.g ((n).toNat)).cnt)).getD []).length) c14) ((AD R.st n ((R.g ((n).toNat)).att) ((R.g ((n).toNat)).cnt)).getD []) (by first |assumption|omega)) H (lA 9 U BE l0) U U (At HJ U U) ?_)))))))))))
 rintro v20 _ w rfl H
 obtain ⟨A21,c22,rfl,hc23,hm24,hp25⟩:=H.fA 0 rfl
 replace H:Hd _ _ _ [Y Ag (.slice A21 (((AD R.st n ((R.g ((n).toNat)).att) ((R.g ((n).toNat)).cnt)).getD []).length) c22) ((AD R.st n ((R.g ((n).toNat)).att) ((R.g ((n).toNat)).cnt)).getD []),AV 253 sb (D4 R.st n),blk r (AJ (.slice A5 J.us.length c6) vM vC vR vK J cw ct co R.part R.ep (AQ R.g ((n).toNat) { R.g ((n).toNat) with merged:=true }) (AQ hv1 ((n).toNat) (.slice A13 (((AD R.st n ((R.g ((n).toNat)).att) ((R.g ((n).toNat)).cnt)).getD []).length) c14:Value)) sb vs2) 185,Y (Ak Ag) (.slice A5 J.us.length c6) J.us,Y Af vM J.map,Y Af vC J.comb,Y Af vR J.red,Y (Ai .i64) vK J.marks,AO (R.g) hv1,Y (Ak (Ai .i64)) vs2 us3,Y Ag (.slice A13 (((AD R.st n ((R.g ((n).toNat)).att) ((R.g ((n).toNat)).cnt)).getD []).length) c14) ((AD R.st n ((R.g ((n).toNat)).att) ((R.g ((n).toNat)).cnt)).getD [])] []:=H
 replace H:=H.pick 10 rfl|>.pick 10 rfl|>.pick 10 rfl|>.pick 10 rfl|>.pick 10 rfl|>.pick 10 rfl|>.pick 10 rfl|>.pick 10 rfl|>.pick 10 rfl|>.pick 10 rfl
 refine AH ⟨_,H⟩ (An U U U (fun w ⟨Ar,H⟩=>CM (parts:=[(0,.const (.int .i64 4)),(1,.tmp 56),(2,.tmp 57),(3,.tmp 61),(6,.tmp 63)]) (vs:=[.int .i64 4,.int .i64 R.part,.int .i64 n,.int .i64 ((R.g (n).toNat).att),.slice A21 (((AD R.st n ((R.g ((n).toNat)).att) ((R.g ((n).toNat)).cnt)).getD []).length) c22]) (cs:=[.int .i64 4,.int .i64 R.part,.int .i64 n,.int .i64 ((R.g (n).toNat).att),.int .i64 0,.slice none 0 0,.slice A21 (((AD R.st n ((R.g ((n).toNat)).att) ((R.g ((n).toNat)).cnt)).getD []).length) c22]) U JP U U) (AK U (BU (parts:=[(0,.tmp 64)]) (vs:=[.agg #[.int .i64 4,.int .i64 R.part,.int .i64 n,.int .i64 ((R.g (n).toNat).att),.int .i64 0,.slice none 0 0,.slice A21 (((AD R.st n ((R.g ((n).toNat)).att) ((R.g ((n).toNat)).cnt)).getD []).length) c22]]) (cs:=[.int .i64 4,.int .i64 R.part,.int .i64 n,.int .i64 ((R.g (n).toNat).att),.int .i64 0,.slice none 0 0,.slice A21 (((AD R.st n ((R.g ((n).toNat)).att) ((R.g ((n).toNat)).cnt)).getD []).length) c22]) U U U Hk Hs U (by decide) (by decide) U U H (fun b26 w H=>?_))))
 replace H:=H.h1 (A:=blk b26 [.int .i64 4,.int .i64 R.part,.int .i64 n,.int .i64 ((R.g (n).toNat).att),.int .i64 0,.slice none 0 0,.slice A21 (((AD R.st n ((R.g ((n).toNat)).att) ((R.g ((n).toNat)).cnt)).getD []).length) c22] 37)|>.pick 10 rfl|>.pick 10 rfl|>.pick 10 rfl|>.pick 10 rfl|>.pick 10 rfl|>.pick 10 rfl|>.pick 10 rfl|>.pick 10 rfl|>.pick 10 rfl|>.pick 10 rfl
 refine AH ⟨_,H⟩ (Au U (BH (Z (Ab (Ab ?_)))))
 obtain ⟨R1,hR1⟩:∃ R1:AC,R1={ R with g:=AQ R.g (n).toNat { R.g (n).toNat with merged:=true,pairs:=(AD R.st n (R.g (n).toNat).att (R.g (n).toNat).cnt).getD [] },st:=D4 R.st n }:=⟨_,rfl⟩
 replace H:=H.pick 11 rfl|>.p1|>.p9|>.p8|>.p8|>.p8|>.p8|>.p8|>.p8|>.p9|>.pick 10 rfl|>.prsU (i:=(n).toNat) (x:=({ R.g (n).toNat with merged:=true,pairs:=(AD R.st n (R.g (n).toNat).att (R.g (n).toNat).cnt).getD [] }:CV)) (by omega)
 replace H:Hd w0 F0 w [AO (R1.g) (AQ hv1 ((n).toNat) (.slice A13 (((AD R.st n ((R.g ((n).toNat)).att) ((R.g ((n).toNat)).cnt)).getD []).length) c14:Value)),blk r (AJ (.slice A5 J.us.length c6) vM vC vR vK J cw ct co R1.part R1.ep R1.g (AQ hv1 ((n).toNat) (.slice A13 (((AD R.st n ((R.g ((n).toNat)).att) ((R.g ((n).toNat)).cnt)).getD []).length) c14:Value)) sb vs2) 185,Y (Ak Ag) (.slice A5 J.us.length c6) J.us,Y Af vM J.map,Y Af vC J.comb,Y Af vR J.red,Y (Ai .i64) vK J.marks,Y (Ak (Ai .i64)) vs2 us3,AV 253 sb (R1.st),Y Ag (.slice A21 (((AD R.st n ((R.g ((n).toNat)).att) ((R.g ((n).toNat)).cnt)).getD []).length) c22) ((AD R.st n ((R.g ((n).toNat)).att) ((R.g ((n).toNat)).cnt)).getD []),blk b26 [.int .i64 4,.int .i64 R.part,.int .i64 n,.int .i64 ((R.g (n).toNat).att),.int .i64 0,.slice none 0 0,.slice A21 (((AD R.st n ((R.g ((n).toNat)).att) ((R.g ((n).toNat)).cnt)).getD []).length) c22] 37] []:=by
   rw [hR1]
   rw [←QN (g:=AQ R.g (n).toNat { R.g (n).toNat with merged:=true }) (g':=AQ R.g (n).toNat ({ R.g (n).toNat with merged:=true,pairs:=(AD R.st n (R.g (n).toNat).att (R.g (n).toNat).cnt).getD [] }:CV)) (fun j=>by by_cases e:j=(n).toNat<;>first |(subst e;rw [DR,DR];exact ⟨rfl,rfl,rfl,rfl⟩)|(rw [Eb _ _ e,Eb _ _ e];exact ⟨rfl,rfl,rfl,rfl⟩))]
   exact H
 have hs1:R1.sets=R.sets:=by rw [hR1]
 have hul:=congrArg List.length hsets4
 rw [List.length_map] at hul
 have hbs:=hB.sets
 refine Ae (Ad U (sc (HL r A5 c6 vM vC vR vK J cw ct co R1.part R1.ep R1 (AQ hv1 ((n).toNat) (.slice A13 (((AD R.st n ((R.g ((n).toNat)).att) ((R.g ((n).toNat)).cnt)).getD []).length) c14:Value)) sb vs2 (by first |assumption|omega)) H (lA 1 U (fun _ h=>h) l0) U U (At HK U U) ?_))
 rintro v27 _ w rfl H
 obtain ⟨A28,c29,rfl,hc30,hm31,hp32⟩:=H.fA 0 rfl
 have hml:=Jl J.us.length R1
 refine Ad U (Ac (Z ?_))
 replace H:Hd _ _ _ [Y (Ai .i64) (.slice A28 ((Av J.us.length R1).length) c29) (Av J.us.length R1),AO (R1.g) (AQ hv1 ((n).toNat) (.slice A13 (((AD R.st n ((R.g ((n).toNat)).att) ((R.g ((n).toNat)).cnt)).getD []).length) c14:Value)),blk r (AJ (.slice A5 J.us.length c6) vM vC vR vK J cw ct co R1.part R1.ep R1.g (AQ hv1 ((n).toNat) (.slice A13 (((AD R.st n ((R.g ((n).toNat)).att) ((R.g ((n).toNat)).cnt)).getD []).length) c14:Value)) sb vs2) 185,Y (Ak Ag) (.slice A5 J.us.length c6) J.us,Y Af vM J.map,Y Af vC J.comb,Y Af vR J.red,Y (Ai .i64) vK J.marks,Y (Ak (Ai .i64)) vs2 us3,AV 253 sb (R1.st),Y Ag (.slice A21 (((AD R.st n ((R.g ((n).toNat)).att) ((R.g ((n).toNat)).cnt)).getD []).length) c22) ((AD R.st n ((R.g ((n).toNat)).att) ((R.g ((n).toNat)).cnt)).getD []),blk b26 [.int .i64 4,.int .i64 R.part,.int .i64 n,.int .i64 ((R.g (n).toNat).att),.int .i64 0,.slice none 0 0,.slice A21 (((AD R.st n ((R.g ((n).toNat)).att) ((R.g ((n).toNat)).cnt)).getD []).length) c22] 37] []:=H
 refine Ab (Ae (Ad U (V U U (AI U U) (V U U (Aj U Gs U) (V U U (Aj U Cu U) (V U U (Aj U GY U) (V U U (Ao U EH U (H.cellI 2 U U)) (Ad U (V U U (A8 U DL U) (sc (N9 vK J.marks (((Av J.us.length R1).length:Nat):Int)) H (lA 7 U BE l0) U U (At O5 U U) ?_))))))))))
 rintro _ _ w ⟨rfl,rfl⟩ H
 refine Ac (Z ?_)
 refine Az U (fun h33=>?_) (fun h33=>?_)
 ·refine Ab ?_
  replace H:=H.sel 12 [0,1,3,4,5,6,7,9,10,11,2,8] [] rfl (by kernel_rfl)
  replace H:Hd _ _ _ [Y (Ai .i64) (.slice A28 ((Av J.us.length R1).length) c29) (Av J.us.length R1),AO (R1.g) (AQ hv1 ((n).toNat) (.slice A13 (((AD R.st n ((R.g ((n).toNat)).att) ((R.g ((n).toNat)).cnt)).getD []).length) c14:Value)),Y (Ak Ag) (.slice A5 J.us.length c6) J.us,Y Af vM J.map,Y Af vC J.comb,Y Af vR J.red,Y (Ai .i64) vK J.marks,AV 253 sb (R1.st),Y Ag (.slice A21 (((AD R.st n ((R.g ((n).toNat)).att) ((R.g ((n).toNat)).cnt)).getD []).length) c22) ((AD R.st n ((R.g ((n).toNat)).att) ((R.g ((n).toNat)).cnt)).getD []),blk b26 [.int .i64 4,.int .i64 R.part,.int .i64 n,.int .i64 ((R.g (n).toNat).att),.int .i64 0,.slice none 0 0,.slice A21 (((AD R.st n ((R.g ((n).toNat)).att) ((R.g ((n).toNat)).cnt)).getD []).length) c22] 37,blk r (AJ (.slice A5 J.us.length c6) vM vC vR vK J cw ct co R1.part R1.ep R1.g (AQ hv1 ((n).toNat) (.slice A13 (((AD R.st n ((R.g ((n).toNat)).att) ((R.g ((n).toNat)).cnt)).getD []).length) c14:Value)) sb vs2) 185,Y (Ak (Ai .i64)) vs2 us3] []:=H
  refine BP (.e 0 (.e 1 (.e 2 (.e 3 (.e 5 (.b 4 6 (.m 6 (.m 7 (.m 8 (.e 9 (.e 10 (.m 11 .z)))))) (.b 4 7 (.m 7 (.m 8 (.e 9 (.e 10 (.m 11 .z))))) (.m 4 (.m 8 (.e 9 (.e 10 (.m 11 .z)))))))))))) (fun w=>∃ Ar,Hd w0 F0 w (Y (Ai .i64) (.slice A28 ((Av J.us.length R1).length) c29) (Av J.us.length R1)::AO (R1.g) (AQ hv1 ((n).toNat) (.slice A13 (((AD R.st n ((R.g ((n).toNat)).att) ((R.g ((n).toNat)).cnt)).getD []).length) c14:Value))::Y (Ak Ag) (.slice A5 J.us.length c6) J.us::Y Af vM J.map::Y Af vC J.comb::Y Af vR J.red::Y (Ai .i64) vK J.marks::AV 253 sb (R1.st)::Y Ag (.slice A21 (((AD R.st n ((R.g ((n).toNat)).att) ((R.g ((n).toNat)).cnt)).getD []).length) c22) ((AD R.st n ((R.g ((n).toNat)).att) ((R.g ((n).toNat)).cnt)).getD [])::blk b26 [.int .i64 4,.int .i64 R.part,.int .i64 n,.int .i64 ((R.g (n).toNat).att),.int .i64 0,.slice none 0 0,.slice A21 (((AD R.st n ((R.g ((n).toNat)).att) ((R.g ((n).toNat)).cnt)).getD []).length) c22] 37::Ar) []) mo (by kernel_rfl) (fun w H=>⟨_,H⟩) H (fun w H=>?_)
  refine Au U (Au U (An U U U (fun w ⟨Ar,H⟩=>AI U U) (An U U U (fun w ⟨Ar,H⟩=>Aj U Fi U) (Au U ?_))))
  refine Hy U U ?_ ?_
  ·refine V U U (Ao U Ed U (H.cellI 10 U U)) (AH ⟨_,H⟩ (AK U (sc (GS (.slice A28 ((Av J.us.length R1).length) c29) (Av J.us.length R1) (by first |assumption|omega)) H (lA 0 U BE l0) U U (At G4 U U) ?_)))
   rintro v34 _ w rfl H
   replace H:=H.h1 (A:=Y (Ai .i64) v34 (Av J.us.length R1))|>.pick 10 rfl|>.pick 10 rfl|>.pick 10 rfl|>.pick 10 rfl|>.pick 10 rfl|>.pick 10 rfl|>.pick 10 rfl|>.pick 10 rfl|>.pick 10 rfl|>.pick 10 rfl
   refine AH ⟨_,H⟩ (AK U ?_)
   obtain ⟨A36,c37,rfl,hc38,hm39,hp40⟩:=H.fA 10 rfl
   refine BU (parts:=[(0,.tmp 83)]) (vs:=[.slice A36 ((Av J.us.length R1).length) c37]) (cs:=[.slice A36 ((Av J.us.length R1).length) c37]) U U U Ec El U (by decide) (by decide) U U H (fun b35 w H=>?_)
   replace H:Hd _ _ _ [blk b35 [.slice A36 ((Av J.us.length R1).length) c37] 24,Y (Ai .i64) (.slice A28 ((Av J.us.length R1).length) c29) (Av J.us.length R1),AO (R1.g) (AQ hv1 ((n).toNat) (.slice A13 (((AD R.st n ((R.g ((n).toNat)).att) ((R.g ((n).toNat)).cnt)).getD []).length) c14:Value)),Y (Ak Ag) (.slice A5 J.us.length c6) J.us,Y Af vM J.map,Y Af vC J.comb,Y Af vR J.red,Y (Ai .i64) vK J.marks,AV 253 sb (R1.st),Y Ag (.slice A21 (((AD R.st n ((R.g ((n).toNat)).att) ((R.g ((n).toNat)).cnt)).getD []).length) c22) ((AD R.st n ((R.g ((n).toNat)).att) ((R.g ((n).toNat)).cnt)).getD []),blk b26 [.int .i64 4,.int .i64 R.part,.int .i64 n,.int .i64 ((R.g (n).toNat).att),.int .i64 0,.slice none 0 0,.slice A21 (((AD R.st n ((R.g ((n).toNat)).att) ((R.g ((n).toNat)).cnt)).getD []).length) c22] 37,Y (Ai .i64) (.slice A36 ((Av J.us.length R1).length) c37) (Av J.us.length R1),blk r (AJ (.slice A5 J.us.length c6) vM vC vR vK J cw ct co R1.part R1.ep R1.g (AQ hv1 ((n).toNat) (.slice A13 (((AD R.st n ((R.g ((n).toNat)).att) ((R.g ((n).toNat)).cnt)).getD []).length) c14:Value)) sb vs2) 185,Y (Ak (Ai .i64)) vs2 us3] []:=H
   replace H:=H.pick 10 rfl|>.pick 10 rfl|>.pick 10 rfl|>.pick 10 rfl|>.pick 10 rfl|>.pick 10 rfl|>.pick 10 rfl|>.pick 10 rfl|>.pick 10 rfl|>.pick 10 rfl
   refine AH ⟨_,H⟩ (AK U ?_)
   replace H:=H.pick 13 rfl|>.pick 12 rfl|>.pick 12 rfl|>.p2
   refine FS U U U Ec El U (by decide) U U H (by first |omega|(simp only [List.length_append,List.length_cons,List.length_nil];omega)) (fun v41 w H=>?_)
   replace H:=H.h1 (A:=Y (Ak (Ai .i64)) v41 (us3++[((.slice A36 ((Av J.us.length R1).length) c37:Value),Av J.us.length R1)]))|>.pick 10 rfl|>.pick 10 rfl|>.pick 10 rfl|>.pick 10 rfl|>.pick 10 rfl|>.pick 10 rfl|>.pick 10 rfl|>.pick 10 rfl|>.pick 10 rfl|>.pick 10 rfl
   refine AH ⟨_,H⟩ (An U U U (fun w ⟨Ar,H⟩=>AI U U) (An U U U (fun w ⟨Ar,H⟩=>Aj U Fi U) (AK U ?_)))
   obtain ⟨A42,c43,rfl,hc44,hm45,hp46⟩:=H.fA 10 rfl
   replace H:=H.pick 11 rfl
   refine Bo U U U Ed U U H U (Nat.le_of_ble_eq_true U) (fun u hu=>by simp [Value.cells] at hu;subst hu;rfl) (fun w H=>?_)
   replace H:Hd _ _ _ [blk r (AJ (.slice A5 J.us.length c6) vM vC vR vK J cw ct co R1.part R1.ep R1.g (AQ hv1 ((n).toNat) (.slice A13 (((AD R.st n ((R.g ((n).toNat)).att) ((R.g ((n).toNat)).cnt)).getD []).length) c14:Value)) sb (.slice A42 ((us3++[((.slice A36 ((Av J.us.length R1).length) c37:Value),Av J.us.length R1)]).length) c43)) 185,Y (Ai .i64) (.slice A28 ((Av J.us.length R1).length) c29) (Av J.us.length R1),AO (R1.g) (AQ hv1 ((n).toNat) (.slice A13 (((AD R.st n ((R.g ((n).toNat)).att) ((R.g ((n).toNat)).cnt)).getD []).length) c14:Value)),Y (Ak Ag) (.slice A5 J.us.length c6) J.us,Y Af vM J.map,Y Af vC J.comb,Y Af vR J.red,Y (Ai .i64) vK J.marks,AV 253 sb (R1.st),Y Ag (.slice A21 (((AD R.st n ((R.g ((n).toNat)).att) ((R.g ((n).toNat)).cnt)).getD []).length) c22) ((AD R.st n ((R.g ((n).toNat)).att) ((R.g ((n).toNat)).cnt)).getD []),blk b26 [.int .i64 4,.int .i64 R.part,.int .i64 n,.int .i64 ((R.g (n).toNat).att),.int .i64 0,.slice none 0 0,.slice A21 (((AD R.st n ((R.g ((n).toNat)).att) ((R.g ((n).toNat)).cnt)).getD []).length) c22] 37,Y (Ak (Ai .i64)) (.slice A42 ((us3++[((.slice A36 ((Av J.us.length R1).length) c37:Value),Av J.us.length R1)]).length) c43) (us3++[((.slice A36 ((Av J.us.length R1).length) c37:Value),Av J.us.length R1)])] []:=H
   replace H:=H.pick 10 rfl|>.pick 10 rfl|>.pick 10 rfl|>.pick 10 rfl|>.pick 10 rfl|>.pick 10 rfl|>.pick 10 rfl|>.pick 10 rfl|>.pick 10 rfl|>.pick 10 rfl
   refine AH ⟨_,H⟩ (BH (Z (Ae (Ah 2 U (V U U (AI U U) (V U U (Aj U Ii U) (V U U (Ao U AE U (H.cellI 10 U U)) (Ad U (V U U (CM (parts:=[(0,.const (.int .i64 5)),(1,.tmp 92),(5,.tmp 93)]) (vs:=[.int .i64 5,.int .i64 R1.part,.slice A28 ((Av J.us.length R1).length) c29]) (cs:=[.int .i64 5,.int .i64 R1.part,.int .i64 0,.int .i64 0,.int .i64 0,.slice A28 ((Av J.us.length R1).length) c29,.slice none 0 0]) U JP U U) (BU (parts:=[(0,.tmp 94)]) (vs:=[.agg #[.int .i64 5,.int .i64 R1.part,.int .i64 0,.int .i64 0,.int .i64 0,.slice A28 ((Av J.us.length R1).length) c29,.slice none 0 0]]) (cs:=[.int .i64 5,.int .i64 R1.part,.int .i64 0,.int .i64 0,.int .i64 0,.slice A28 ((Av J.us.length R1).length) c29,.slice none 0 0]) U U U Hk Hs U (by decide) (by decide) U U H (fun b47 w H=>?_)))))))))))
   replace H:=H.h1 (A:=blk b47 [.int .i64 5,.int .i64 R1.part,.int .i64 0,.int .i64 0,.int .i64 0,.slice A28 ((Av J.us.length R1).length) c29,.slice none 0 0] 37)|>.pick 10 rfl
   replace H:Hd w0 F0 w [Y ES (.slice (some ⟨b26,0,none⟩) 1 1) [(⟨4,R.part,n,(R.g (n).toNat).att,0,⟨none,0,0⟩,⟨A21,((AD R.st n ((R.g ((n).toNat)).att) ((R.g ((n).toNat)).cnt)).getD []).length,c22⟩⟩:DW)],blk b47 [.int .i64 5,.int .i64 R1.part,.int .i64 0,.int .i64 0,.int .i64 0,.slice A28 ((Av J.us.length R1).length) c29,.slice none 0 0] 37,Y (Ai .i64) (.slice A28 ((Av J.us.length R1).length) c29) (Av J.us.length R1),AO (R1.g) (AQ hv1 ((n).toNat) (.slice A13 (((AD R.st n ((R.g ((n).toNat)).att) ((R.g ((n).toNat)).cnt)).getD []).length) c14:Value)),Y (Ak Ag) (.slice A5 J.us.length c6) J.us,Y Af vM J.map,Y Af vC J.comb,Y Af vR J.red,Y (Ai .i64) vK J.marks,AV 253 sb (R1.st),Y Ag (.slice A21 (((AD R.st n ((R.g ((n).toNat)).att) ((R.g ((n).toNat)).cnt)).getD []).length) c22) ((AD R.st n ((R.g ((n).toNat)).att) ((R.g ((n).toNat)).cnt)).getD []),blk r (AJ (.slice A5 J.us.length c6) vM vC vR vK J cw ct co R1.part R1.ep R1.g (AQ hv1 ((n).toNat) (.slice A13 (((AD R.st n ((R.g ((n).toNat)).att) ((R.g ((n).toNat)).cnt)).getD []).length) c14:Value)) sb (.slice A42 ((us3++[((.slice A36 ((Av J.us.length R1).length) c37:Value),Av J.us.length R1)]).length) c43)) 185,Y (Ak (Ai .i64)) (.slice A42 ((us3++[((.slice A36 ((Av J.us.length R1).length) c37:Value),Av J.us.length R1)]).length) c43) (us3++[((.slice A36 ((Av J.us.length R1).length) c37:Value),Av J.us.length R1)])] []:=H.turn (fun F h=>GR h rfl (by decide) rfl)
   refine CG (xs:=[(⟨4,R.part,n,(R.g (n).toNat).att,0,⟨none,0,0⟩,⟨A21,((AD R.st n ((R.g ((n).toNat)).att) ((R.g ((n).toNat)).cnt)).getD []).length,c22⟩⟩:DW)]) (ys:=[(⟨5,R1.part,0,0,0,⟨A28,(Av J.us.length R1).length,c29⟩,⟨none,0,0⟩⟩:DW)]) U U U Hk Hs U (by decide) U U H (by first |omega|(simp only [List.length_append,List.length_cons,List.length_nil];omega)) (fun F hA hR=>Ch (hA _ (List.mem_of_getElem? (i:=0) U)) U (by decide) (AZ.flat_eq.2 U)) (fun v48 w H=>?_)
   replace H:=H.h1 (A:=Y ES v48 ([(⟨4,R.part,n,(R.g (n).toNat).att,0,⟨none,0,0⟩,⟨A21,((AD R.st n ((R.g ((n).toNat)).att) ((R.g ((n).toNat)).cnt)).getD []).length,c22⟩⟩:DW)]++[(⟨5,R1.part,0,0,0,⟨A28,(Av J.us.length R1).length,c29⟩,⟨none,0,0⟩⟩:DW)]))
   refine Ad U (Ac (Z (Ab (Ae (Ah 2 U (Ac (Z (Ap (Aq U U ?_)))))))))
   have e:=Ma hnn hto htk hpl hR1 h33
   replace H:=H.p2.pick 10 rfl|>.p2|>.pick 10 rfl|>.pick 12 rfl|>.p6|>.pick 11 rfl|>.pick 11 rfl|>.pick 11 rfl|>.pick 11 rfl|>.pick 11 rfl|>.pick 12 rfl|>.keep 12|>.h9 (A:=blk r (AJ (.slice A5 J.us.length c6) vM vC vR vK J cw ct co (({ R1 with sets:=R1.sets++[Av J.us.length R1] }:AC).part) (({ R1 with sets:=R1.sets++[Av J.us.length R1] }:AC).ep) (({ R1 with sets:=R1.sets++[Av J.us.length R1] }:AC).g) (AQ hv1 ((n).toNat) (.slice A13 (((AD R.st n ((R.g ((n).toNat)).att) ((R.g ((n).toNat)).cnt)).getD []).length) c14:Value)) sb (.slice A42 ((us3++[((.slice A36 ((Av J.us.length R1).length) c37:Value),Av J.us.length R1)]).length) c43)) 185) (G:=AO (({ R1 with sets:=R1.sets++[Av J.us.length R1] }:AC).g) (AQ hv1 ((n).toNat) (.slice A13 (((AD R.st n ((R.g ((n).toNat)).att) ((R.g ((n).toNat)).cnt)).getD []).length) c14:Value))) (J:=AV 253 sb (({ R1 with sets:=R1.sets++[Av J.us.length R1] }:AC).st))
   replace H:=Cx r (.slice A5 J.us.length c6) vM vC vR vK J cw ct co sb ({ R1 with sets:=R1.sets++[Av J.us.length R1] }:AC) (AQ hv1 ((n).toNat) (.slice A13 (((AD R.st n ((R.g ((n).toNat)).att) ((R.g ((n).toNat)).cnt)).getD []).length) c14:Value)) (.slice A42 ((us3++[((.slice A36 ((Av J.us.length R1).length) c37:Value),Av J.us.length R1)]).length) c43) (us3++[((.slice A36 ((Av J.us.length R1).length) c37:Value),Av J.us.length R1)]) (by rw [List.map_append,hsets4,←hs1];rfl) H
   replace H:=H.h1 (A:=Bn r (.slice A5 J.us.length c6) vM vC vR vK J cw ct co sb ({ R1 with sets:=R1.sets++[Av J.us.length R1] }:AC))|>.rec0|>.h1 (A:=EF [])|>.p3
   replace H:=Hd.recN (r:=(⟨4,R.part,n,(R.g (n).toNat).att,0,.slice none 0 0,[],.slice A21 (((AD R.st n ((R.g ((n).toNat)).att) ((R.g ((n).toNat)).cnt)).getD []).length) c22,(AD R.st n (R.g (n).toNat).att (R.g (n).toNat).cnt).getD []⟩:AX)) (H.newnil (Ai .i64))
   replace H:=H.h1 (A:=EF ([]++[(⟨4,R.part,n,(R.g (n).toNat).att,0,.slice none 0 0,[],.slice A21 (((AD R.st n ((R.g ((n).toNat)).att) ((R.g ((n).toNat)).cnt)).getD []).length) c22,(AD R.st n (R.g (n).toNat).att (R.g (n).toNat).cnt).getD []⟩:AX)]))|>.newnil Ag|>.p4
   replace H:=Hd.recN (r:=(⟨5,R1.part,0,0,0,.slice A28 ((Av J.us.length R1).length) c29,Av J.us.length R1,.slice none 0 0,[]⟩:AX)) H
   replace H:=H.h1 (A:=EF ([]++[(⟨4,R.part,n,(R.g (n).toNat).att,0,.slice none 0 0,[],.slice A21 (((AD R.st n ((R.g ((n).toNat)).att) ((R.g ((n).toNat)).cnt)).getD []).length) c22,(AD R.st n (R.g (n).toNat).att (R.g (n).toNat).cnt).getD []⟩:AX)]++[(⟨5,R1.part,0,0,0,.slice A28 ((Av J.us.length R1).length) c29,Av J.us.length R1,.slice none 0 0,[]⟩:AX)]))|>.p2|>.h1 (A:=Y ES v48 (([]++[(⟨4,R.part,n,(R.g (n).toNat).att,0,.slice none 0 0,[],.slice A21 (((AD R.st n ((R.g ((n).toNat)).att) ((R.g ((n).toNat)).cnt)).getD []).length) c22,(AD R.st n (R.g (n).toNat).att (R.g (n).toNat).cnt).getD []⟩:AX)]++[(⟨5,R1.part,0,0,0,.slice A28 ((Av J.us.length R1).length) c29,Av J.us.length R1,.slice none 0 0,[]⟩:AX)]).map Eu))|>.recI|>.h1 (A:=Y Bp v48 ([]++[(⟨4,R.part,n,(R.g (n).toNat).att,0,.slice none 0 0,[],.slice A21 (((AD R.st n ((R.g ((n).toNat)).att) ((R.g ((n).toNat)).cnt)).getD []).length) c22,(AD R.st n (R.g (n).toNat).att (R.g (n).toNat).cnt).getD []⟩:AX)]++[(⟨5,R1.part,0,0,0,.slice A28 ((Av J.us.length R1).length) c29,Av J.us.length R1,.slice none 0 0,[]⟩:AX)]))
   exact Am ⟨[]++[(⟨4,R.part,n,(R.g (n).toNat).att,0,.slice none 0 0,[],.slice A21 (((AD R.st n ((R.g ((n).toNat)).att) ((R.g ((n).toNat)).cnt)).getD []).length) c22,(AD R.st n (R.g (n).toNat).att (R.g (n).toNat).cnt).getD []⟩:AX)]++[(⟨5,R1.part,0,0,0,.slice A28 ((Av J.us.length R1).length) c29,Av J.us.length R1,.slice none 0 0,[]⟩:AX)],by rw [e]<;>rfl,by rw [e,hR1];rfl⟩ H
  refine sc (GS (.slice A28 ((Av J.us.length R1).length) c29) (Av J.us.length R1) (by first |assumption|omega)) H (lA 0 U BE l0) U U (At G4 U U) ?_
  rintro v49 _ w rfl H
  replace H:=H.h1 (A:=Y (Ai .i64) v49 (Av J.us.length R1))|>.pick 10 rfl|>.pick 10 rfl|>.pick 10 rfl|>.pick 10 rfl|>.pick 10 rfl|>.pick 10 rfl|>.pick 10 rfl|>.pick 10 rfl|>.pick 10 rfl|>.pick 10 rfl
  refine AH ⟨_,H⟩ ?_
  refine Hy U U ?_ ?_
  ·refine V U U (Ao U Ed U (H.cellI 11 U U)) (AH ⟨_,H⟩ (AK U ?_))
   obtain ⟨A51,c52,rfl,hc53,hm54,hp55⟩:=H.fA 10 rfl
   refine BU (parts:=[(0,.tmp 83)]) (vs:=[.slice A51 ((Av J.us.length R1).length) c52]) (cs:=[.slice A51 ((Av J.us.length R1).length) c52]) U U U Ec El U (by decide) (by decide) U U H (fun b50 w H=>?_)
   replace H:Hd _ _ _ [blk b50 [.slice A51 ((Av J.us.length R1).length) c52] 24,Y (Ai .i64) (.slice A28 ((Av J.us.length R1).length) c29) (Av J.us.length R1),AO (R1.g) (AQ hv1 ((n).toNat) (.slice A13 (((AD R.st n ((R.g ((n).toNat)).att) ((R.g ((n).toNat)).cnt)).getD []).length) c14:Value)),Y (Ak Ag) (.slice A5 J.us.length c6) J.us,Y Af vM J.map,Y Af vC J.comb,Y Af vR J.red,Y (Ai .i64) vK J.marks,AV 253 sb (R1.st),Y Ag (.slice A21 (((AD R.st n ((R.g ((n).toNat)).att) ((R.g ((n).toNat)).cnt)).getD []).length) c22) ((AD R.st n ((R.g ((n).toNat)).att) ((R.g ((n).toNat)).cnt)).getD []),blk b26 [.int .i64 4,.int .i64 R.part,.int .i64 n,.int .i64 ((R.g (n).toNat).att),.int .i64 0,.slice none 0 0,.slice A21 (((AD R.st n ((R.g ((n).toNat)).att) ((R.g ((n).toNat)).cnt)).getD []).length) c22] 37,Y (Ai .i64) (.slice A51 ((Av J.us.length R1).length) c52) (Av J.us.length R1),blk r (AJ (.slice A5 J.us.length c6) vM vC vR vK J cw ct co R1.part R1.ep R1.g (AQ hv1 ((n).toNat) (.slice A13 (((AD R.st n ((R.g ((n).toNat)).att) ((R.g ((n).toNat)).cnt)).getD []).length) c14:Value)) sb vs2) 185,Y (Ak (Ai .i64)) vs2 us3] []:=H
   replace H:=H.pick 10 rfl|>.pick 10 rfl|>.pick 10 rfl|>.pick 10 rfl|>.pick 10 rfl|>.pick 10 rfl|>.pick 10 rfl|>.pick 10 rfl|>.pick 10 rfl|>.pick 10 rfl
   refine AH ⟨_,H⟩ (AK U ?_)
   replace H:=H.pick 13 rfl|>.pick 12 rfl|>.pick 12 rfl|>.p2
   refine FS U U U Ec El U (by decide) U U H (by first |omega|(simp only [List.length_append,List.length_cons,List.length_nil];omega)) (fun v56 w H=>?_)
   replace H:=H.h1 (A:=Y (Ak (Ai .i64)) v56 (us3++[((.slice A51 ((Av J.us.length R1).length) c52:Value),Av J.us.length R1)]))|>.pick 10 rfl|>.pick 10 rfl|>.pick 10 rfl|>.pick 10 rfl|>.pick 10 rfl|>.pick 10 rfl|>.pick 10 rfl|>.pick 10 rfl|>.pick 10 rfl|>.pick 10 rfl
   refine AH ⟨_,H⟩ (An U U U (fun w ⟨Ar,H⟩=>AI U U) (An U U U (fun w ⟨Ar,H⟩=>Aj U Fi U) (AK U ?_)))
   obtain ⟨A57,c58,rfl,hc59,hm60,hp61⟩:=H.fA 10 rfl
   replace H:=H.pick 11 rfl
   refine Bo U U U Ed U U H U (Nat.le_of_ble_eq_true U) (fun u hu=>by simp [Value.cells] at hu;subst hu;rfl) (fun w H=>?_)
   replace H:Hd _ _ _ [blk r (AJ (.slice A5 J.us.length c6) vM vC vR vK J cw ct co R1.part R1.ep R1.g (AQ hv1 ((n).toNat) (.slice A13 (((AD R.st n ((R.g ((n).toNat)).att) ((R.g ((n).toNat)).cnt)).getD []).length) c14:Value)) sb (.slice A57 ((us3++[((.slice A51 ((Av J.us.length R1).length) c52:Value),Av J.us.length R1)]).length) c58)) 185,Y (Ai .i64) (.slice A28 ((Av J.us.length R1).length) c29) (Av J.us.length R1),AO (R1.g) (AQ hv1 ((n).toNat) (.slice A13 (((AD R.st n ((R.g ((n).toNat)).att) ((R.g ((n).toNat)).cnt)).getD []).length) c14:Value)),Y (Ak Ag) (.slice A5 J.us.length c6) J.us,Y Af vM J.map,Y Af vC J.comb,Y Af vR J.red,Y (Ai .i64) vK J.marks,AV 253 sb (R1.st),Y Ag (.slice A21 (((AD R.st n ((R.g ((n).toNat)).att) ((R.g ((n).toNat)).cnt)).getD []).length) c22) ((AD R.st n ((R.g ((n).toNat)).att) ((R.g ((n).toNat)).cnt)).getD []),blk b26 [.int .i64 4,.int .i64 R.part,.int .i64 n,.int .i64 ((R.g (n).toNat).att),.int .i64 0,.slice none 0 0,.slice A21 (((AD R.st n ((R.g ((n).toNat)).att) ((R.g ((n).toNat)).cnt)).getD []).length) c22] 37,Y (Ak (Ai .i64)) (.slice A57 ((us3++[((.slice A51 ((Av J.us.length R1).length) c52:Value),Av J.us.length R1)]).length) c58) (us3++[((.slice A51 ((Av J.us.length R1).length) c52:Value),Av J.us.length R1)])] []:=H
   replace H:=H.pick 10 rfl|>.pick 10 rfl|>.pick 10 rfl|>.pick 10 rfl|>.pick 10 rfl|>.pick 10 rfl|>.pick 10 rfl|>.pick 10 rfl|>.pick 10 rfl|>.pick 10 rfl
   refine AH ⟨_,H⟩ (BH (Z (Ae (Ah 2 U (V U U (AI U U) (V U U (Aj U Ii U) (V U U (Ao U AE U (H.cellI 10 U U)) (Ad U (V U U (CM (parts:=[(0,.const (.int .i64 5)),(1,.tmp 92),(5,.tmp 93)]) (vs:=[.int .i64 5,.int .i64 R1.part,.slice A28 ((Av J.us.length R1).length) c29]) (cs:=[.int .i64 5,.int .i64 R1.part,.int .i64 0,.int .i64 0,.int .i64 0,.slice A28 ((Av J.us.length R1).length) c29,.slice none 0 0]) U JP U U) (BU (parts:=[(0,.tmp 94)]) (vs:=[.agg #[.int .i64 5,.int .i64 R1.part,.int .i64 0,.int .i64 0,.int .i64 0,.slice A28 ((Av J.us.length R1).length) c29,.slice none 0 0]]) (cs:=[.int .i64 5,.int .i64 R1.part,.int .i64 0,.int .i64 0,.int .i64 0,.slice A28 ((Av J.us.length R1).length) c29,.slice none 0 0]) U U U Hk Hs U (by decide) (by decide) U U H (fun b62 w H=>?_)))))))))))
   replace H:=H.h1 (A:=blk b62 [.int .i64 5,.int .i64 R1.part,.int .i64 0,.int .i64 0,.int .i64 0,.slice A28 ((Av J.us.length R1).length) c29,.slice none 0 0] 37)|>.pick 10 rfl
   replace H:Hd w0 F0 w [Y ES (.slice (some ⟨b26,0,none⟩) 1 1) [(⟨4,R.part,n,(R.g (n).toNat).att,0,⟨none,0,0⟩,⟨A21,((AD R.st n ((R.g ((n).toNat)).att) ((R.g ((n).toNat)).cnt)).getD []).length,c22⟩⟩:DW)],blk b62 [.int .i64 5,.int .i64 R1.part,.int .i64 0,.int .i64 0,.int .i64 0,.slice A28 ((Av J.us.length R1).length) c29,.slice none 0 0] 37,Y (Ai .i64) (.slice A28 ((Av J.us.length R1).length) c29) (Av J.us.length R1),AO (R1.g) (AQ hv1 ((n).toNat) (.slice A13 (((AD R.st n ((R.g ((n).toNat)).att) ((R.g ((n).toNat)).cnt)).getD []).length) c14:Value)),Y (Ak Ag) (.slice A5 J.us.length c6) J.us,Y Af vM J.map,Y Af vC J.comb,Y Af vR J.red,Y (Ai .i64) vK J.marks,AV 253 sb (R1.st),Y Ag (.slice A21 (((AD R.st n ((R.g ((n).toNat)).att) ((R.g ((n).toNat)).cnt)).getD []).length) c22) ((AD R.st n ((R.g ((n).toNat)).att) ((R.g ((n).toNat)).cnt)).getD []),blk r (AJ (.slice A5 J.us.length c6) vM vC vR vK J cw ct co R1.part R1.ep R1.g (AQ hv1 ((n).toNat) (.slice A13 (((AD R.st n ((R.g ((n).toNat)).att) ((R.g ((n).toNat)).cnt)).getD []).length) c14:Value)) sb (.slice A57 ((us3++[((.slice A51 ((Av J.us.length R1).length) c52:Value),Av J.us.length R1)]).length) c58)) 185,Y (Ak (Ai .i64)) (.slice A57 ((us3++[((.slice A51 ((Av J.us.length R1).length) c52:Value),Av J.us.length R1)]).length) c58) (us3++[((.slice A51 ((Av J.us.length R1).length) c52:Value),Av J.us.length R1)])] []:=H.turn (fun F h=>GR h rfl (by decide) rfl)
   refine CG (xs:=[(⟨4,R.part,n,(R.g (n).toNat).att,0,⟨none,0,0⟩,⟨A21,((AD R.st n ((R.g ((n).toNat)).att) ((R.g ((n).toNat)).cnt)).getD []).length,c22⟩⟩:DW)]) (ys:=[(⟨5,R1.part,0,0,0,⟨A28,(Av J.us.length R1).length,c29⟩,⟨none,0,0⟩⟩:DW)]) U U U Hk Hs U (by decide) U U H (by first |omega|(simp only [List.length_append,List.length_cons,List.length_nil];omega)) (fun F hA hR=>Ch (hA _ (List.mem_of_getElem? (i:=0) U)) U (by decide) (AZ.flat_eq.2 U)) (fun v63 w H=>?_)
   replace H:=H.h1 (A:=Y ES v63 ([(⟨4,R.part,n,(R.g (n).toNat).att,0,⟨none,0,0⟩,⟨A21,((AD R.st n ((R.g ((n).toNat)).att) ((R.g ((n).toNat)).cnt)).getD []).length,c22⟩⟩:DW)]++[(⟨5,R1.part,0,0,0,⟨A28,(Av J.us.length R1).length,c29⟩,⟨none,0,0⟩⟩:DW)]))
   refine Ad U (Ac (Z (Ab (Ae (Ah 2 U (Ac (Z (Ap (Aq U U ?_)))))))))
   have e:=Ma hnn hto htk hpl hR1 h33
   replace H:=H.p2.pick 10 rfl|>.p2|>.pick 10 rfl|>.pick 12 rfl|>.p6|>.pick 11 rfl|>.pick 11 rfl|>.pick 11 rfl|>.pick 11 rfl|>.pick 11 rfl|>.pick 12 rfl|>.keep 12|>.h9 (A:=blk r (AJ (.slice A5 J.us.length c6) vM vC vR vK J cw ct co (({ R1 with sets:=R1.sets++[Av J.us.length R1] }:AC).part) (({ R1 with sets:=R1.sets++[Av J.us.length R1] }:AC).ep) (({ R1 with sets:=R1.sets++[Av J.us.length R1] }:AC).g) (AQ hv1 ((n).toNat) (.slice A13 (((AD R.st n ((R.g ((n).toNat)).att) ((R.g ((n).toNat)).cnt)).getD []).length) c14:Value)) sb (.slice A57 ((us3++[((.slice A51 ((Av J.us.length R1).length) c52:Value),Av J.us.length R1)]).length) c58)) 185) (G:=AO (({ R1 with sets:=R1.sets++[Av J.us.length R1] }:AC).g) (AQ hv1 ((n).toNat) (.slice A13 (((AD R.st n ((R.g ((n).toNat)).att) ((R.g ((n).toNat)).cnt)).getD []).length) c14:Value))) (J:=AV 253 sb (({ R1 with sets:=R1.sets++[Av J.us.length R1] }:AC).st))
   replace H:=Cx r (.slice A5 J.us.length c6) vM vC vR vK J cw ct co sb ({ R1 with sets:=R1.sets++[Av J.us.length R1] }:AC) (AQ hv1 ((n).toNat) (.slice A13 (((AD R.st n ((R.g ((n).toNat)).att) ((R.g ((n).toNat)).cnt)).getD []).length) c14:Value)) (.slice A57 ((us3++[((.slice A51 ((Av J.us.length R1).length) c52:Value),Av J.us.length R1)]).length) c58) (us3++[((.slice A51 ((Av J.us.length R1).length) c52:Value),Av J.us.length R1)]) (by rw [List.map_append,hsets4,←hs1];rfl) H
   replace H:=H.h1 (A:=Bn r (.slice A5 J.us.length c6) vM vC vR vK J cw ct co sb ({ R1 with sets:=R1.sets++[Av J.us.length R1] }:AC))|>.rec0|>.h1 (A:=EF [])|>.p3
   replace H:=Hd.recN (r:=(⟨4,R.part,n,(R.g (n).toNat).att,0,.slice none 0 0,[],.slice A21 (((AD R.st n ((R.g ((n).toNat)).att) ((R.g ((n).toNat)).cnt)).getD []).length) c22,(AD R.st n (R.g (n).toNat).att (R.g (n).toNat).cnt).getD []⟩:AX)) (H.newnil (Ai .i64))
   replace H:=H.h1 (A:=EF ([]++[(⟨4,R.part,n,(R.g (n).toNat).att,0,.slice none 0 0,[],.slice A21 (((AD R.st n ((R.g ((n).toNat)).att) ((R.g ((n).toNat)).cnt)).getD []).length) c22,(AD R.st n (R.g (n).toNat).att (R.g (n).toNat).cnt).getD []⟩:AX)]))|>.newnil Ag|>.p4
   replace H:=Hd.recN (r:=(⟨5,R1.part,0,0,0,.slice A28 ((Av J.us.length R1).length) c29,Av J.us.length R1,.slice none 0 0,[]⟩:AX)) H
   replace H:=H.h1 (A:=EF ([]++[(⟨4,R.part,n,(R.g (n).toNat).att,0,.slice none 0 0,[],.slice A21 (((AD R.st n ((R.g ((n).toNat)).att) ((R.g ((n).toNat)).cnt)).getD []).length) c22,(AD R.st n (R.g (n).toNat).att (R.g (n).toNat).cnt).getD []⟩:AX)]++[(⟨5,R1.part,0,0,0,.slice A28 ((Av J.us.length R1).length) c29,Av J.us.length R1,.slice none 0 0,[]⟩:AX)]))|>.p2|>.h1 (A:=Y ES v63 (([]++[(⟨4,R.part,n,(R.g (n).toNat).att,0,.slice none 0 0,[],.slice A21 (((AD R.st n ((R.g ((n).toNat)).att) ((R.g ((n).toNat)).cnt)).getD []).length) c22,(AD R.st n (R.g (n).toNat).att (R.g (n).toNat).cnt).getD []⟩:AX)]++[(⟨5,R1.part,0,0,0,.slice A28 ((Av J.us.length R1).length) c29,Av J.us.length R1,.slice none 0 0,[]⟩:AX)]).map Eu))|>.recI|>.h1 (A:=Y Bp v63 ([]++[(⟨4,R.part,n,(R.g (n).toNat).att,0,.slice none 0 0,[],.slice A21 (((AD R.st n ((R.g ((n).toNat)).att) ((R.g ((n).toNat)).cnt)).getD []).length) c22,(AD R.st n (R.g (n).toNat).att (R.g (n).toNat).cnt).getD []⟩:AX)]++[(⟨5,R1.part,0,0,0,.slice A28 ((Av J.us.length R1).length) c29,Av J.us.length R1,.slice none 0 0,[]⟩:AX)]))
   exact Am ⟨[]++[(⟨4,R.part,n,(R.g (n).toNat).att,0,.slice none 0 0,[],.slice A21 (((AD R.st n ((R.g ((n).toNat)).att) ((R.g ((n).toNat)).cnt)).getD []).length) c22,(AD R.st n (R.g (n).toNat).att (R.g (n).toNat).cnt).getD []⟩:AX)]++[(⟨5,R1.part,0,0,0,.slice A28 ((Av J.us.length R1).length) c29,Av J.us.length R1,.slice none 0 0,[]⟩:AX)],by rw [e]<;>rfl,by rw [e,hR1];rfl⟩ H
  obtain ⟨A65,c66,rfl,hc67,hm68,hp69⟩:=H.fA 10 rfl
  refine BU (parts:=[(0,.tmp 83)]) (vs:=[.slice A65 ((Av J.us.length R1).length) c66]) (cs:=[.slice A65 ((Av J.us.length R1).length) c66]) U U U Ec El U (by decide) (by decide) U U H (fun b64 w H=>?_)
  replace H:Hd _ _ _ [blk b64 [.slice A65 ((Av J.us.length R1).length) c66] 24,Y (Ai .i64) (.slice A28 ((Av J.us.length R1).length) c29) (Av J.us.length R1),AO (R1.g) (AQ hv1 ((n).toNat) (.slice A13 (((AD R.st n ((R.g ((n).toNat)).att) ((R.g ((n).toNat)).cnt)).getD []).length) c14:Value)),Y (Ak Ag) (.slice A5 J.us.length c6) J.us,Y Af vM J.map,Y Af vC J.comb,Y Af vR J.red,Y (Ai .i64) vK J.marks,AV 253 sb (R1.st),Y Ag (.slice A21 (((AD R.st n ((R.g ((n).toNat)).att) ((R.g ((n).toNat)).cnt)).getD []).length) c22) ((AD R.st n ((R.g ((n).toNat)).att) ((R.g ((n).toNat)).cnt)).getD []),blk b26 [.int .i64 4,.int .i64 R.part,.int .i64 n,.int .i64 ((R.g (n).toNat).att),.int .i64 0,.slice none 0 0,.slice A21 (((AD R.st n ((R.g ((n).toNat)).att) ((R.g ((n).toNat)).cnt)).getD []).length) c22] 37,Y (Ai .i64) (.slice A65 ((Av J.us.length R1).length) c66) (Av J.us.length R1),blk r (AJ (.slice A5 J.us.length c6) vM vC vR vK J cw ct co R1.part R1.ep R1.g (AQ hv1 ((n).toNat) (.slice A13 (((AD R.st n ((R.g ((n).toNat)).att) ((R.g ((n).toNat)).cnt)).getD []).length) c14:Value)) sb vs2) 185,Y (Ak (Ai .i64)) vs2 us3] []:=H
  replace H:=H.pick 10 rfl|>.pick 10 rfl|>.pick 10 rfl|>.pick 10 rfl|>.pick 10 rfl|>.pick 10 rfl|>.pick 10 rfl|>.pick 10 rfl|>.pick 10 rfl|>.pick 10 rfl
  refine AH ⟨_,H⟩ (AK U (V U U (Ao U Ed U (H.cellI 12 U U)) (AH ⟨_,H⟩ (AK U ?_))))
  replace H:=H.pick 13 rfl|>.pick 12 rfl|>.pick 12 rfl|>.p2
  refine FS U U U Ec El U (by decide) U U H (by first |omega|(simp only [List.length_append,List.length_cons,List.length_nil];omega)) (fun v70 w H=>?_)
  replace H:=H.h1 (A:=Y (Ak (Ai .i64)) v70 (us3++[((.slice A65 ((Av J.us.length R1).length) c66:Value),Av J.us.length R1)]))|>.pick 10 rfl|>.pick 10 rfl|>.pick 10 rfl|>.pick 10 rfl|>.pick 10 rfl|>.pick 10 rfl|>.pick 10 rfl|>.pick 10 rfl|>.pick 10 rfl|>.pick 10 rfl
  refine AH ⟨_,H⟩ (An U U U (fun w ⟨Ar,H⟩=>AI U U) (An U U U (fun w ⟨Ar,H⟩=>Aj U Fi U) (AK U ?_)))
  obtain ⟨A71,c72,rfl,hc73,hm74,hp75⟩:=H.fA 10 rfl
  replace H:=H.pick 11 rfl
  refine Bo U U U Ed U U H U (Nat.le_of_ble_eq_true U) (fun u hu=>by simp [Value.cells] at hu;subst hu;rfl) (fun w H=>?_)
  replace H:Hd _ _ _ [blk r (AJ (.slice A5 J.us.length c6) vM vC vR vK J cw ct co R1.part R1.ep R1.g (AQ hv1 ((n).toNat) (.slice A13 (((AD R.st n ((R.g ((n).toNat)).att) ((R.g ((n).toNat)).cnt)).getD []).length) c14:Value)) sb (.slice A71 ((us3++[((.slice A65 ((Av J.us.length R1).length) c66:Value),Av J.us.length R1)]).length) c72)) 185,Y (Ai .i64) (.slice A28 ((Av J.us.length R1).length) c29) (Av J.us.length R1),AO (R1.g) (AQ hv1 ((n).toNat) (.slice A13 (((AD R.st n ((R.g ((n).toNat)).att) ((R.g ((n).toNat)).cnt)).getD []).length) c14:Value)),Y (Ak Ag) (.slice A5 J.us.length c6) J.us,Y Af vM J.map,Y Af vC J.comb,Y Af vR J.red,Y (Ai .i64) vK J.marks,AV 253 sb (R1.st),Y Ag (.slice A21 (((AD R.st n ((R.g ((n).toNat)).att) ((R.g ((n).toNat)).cnt)).getD []).length) c22) ((AD R.st n ((R.g ((n).toNat)).att) ((R.g ((n).toNat)).cnt)).getD []),blk b26 [.int .i64 4,.int .i64 R.part,.int .i64 n,.int .i64 ((R.g (n).toNat).att),.int .i64 0,.slice none 0 0,.slice A21 (((AD R.st n ((R.g ((n).toNat)).att) ((R.g ((n).toNat)).cnt)).getD []).length) c22] 37,Y (Ak (Ai .i64)) (.slice A71 ((us3++[((.slice A65 ((Av J.us.length R1).length) c66:Value),Av J.us.length R1)]).length) c72) (us3++[((.slice A65 ((Av J.us.length R1).length) c66:Value),Av J.us.length R1)])] []:=H
  replace H:=H.pick 10 rfl|>.pick 10 rfl|>.pick 10 rfl|>.pick 10 rfl|>.pick 10 rfl|>.pick 10 rfl|>.pick 10 rfl|>.pick 10 rfl|>.pick 10 rfl|>.pick 10 rfl
  refine AH ⟨_,H⟩ (BH (Z (Ae (Ah 2 U (V U U (AI U U) (V U U (Aj U Ii U) (V U U (Ao U AE U (H.cellI 10 U U)) (Ad U (V U U (CM (parts:=[(0,.const (.int .i64 5)),(1,.tmp 92),(5,.tmp 93)]) (vs:=[.int .i64 5,.int .i64 R1.part,.slice A28 ((Av J.us.length R1).length) c29]) (cs:=[.int .i64 5,.int .i64 R1.part,.int .i64 0,.int .i64 0,.int .i64 0,.slice A28 ((Av J.us.length R1).length) c29,.slice none 0 0]) U JP U U) (BU (parts:=[(0,.tmp 94)]) (vs:=[.agg #[.int .i64 5,.int .i64 R1.part,.int .i64 0,.int .i64 0,.int .i64 0,.slice A28 ((Av J.us.length R1).length) c29,.slice none 0 0]]) (cs:=[.int .i64 5,.int .i64 R1.part,.int .i64 0,.int .i64 0,.int .i64 0,.slice A28 ((Av J.us.length R1).length) c29,.slice none 0 0]) U U U Hk Hs U (by decide) (by decide) U U H (fun b76 w H=>?_)))))))))))
  replace H:=H.h1 (A:=blk b76 [.int .i64 5,.int .i64 R1.part,.int .i64 0,.int .i64 0,.int .i64 0,.slice A28 ((Av J.us.length R1).length) c29,.slice none 0 0] 37)|>.pick 10 rfl
  replace H:Hd w0 F0 w [Y ES (.slice (some ⟨b26,0,none⟩) 1 1) [(⟨4,R.part,n,(R.g (n).toNat).att,0,⟨none,0,0⟩,⟨A21,((AD R.st n ((R.g ((n).toNat)).att) ((R.g ((n).toNat)).cnt)).getD []).length,c22⟩⟩:DW)],blk b76 [.int .i64 5,.int .i64 R1.part,.int .i64 0,.int .i64 0,.int .i64 0,.slice A28 ((Av J.us.length R1).length) c29,.slice none 0 0] 37,Y (Ai .i64) (.slice A28 ((Av J.us.length R1).length) c29) (Av J.us.length R1),AO (R1.g) (AQ hv1 ((n).toNat) (.slice A13 (((AD R.st n ((R.g ((n).toNat)).att) ((R.g ((n).toNat)).cnt)).getD []).length) c14:Value)),Y (Ak Ag) (.slice A5 J.us.length c6) J.us,Y Af vM J.map,Y Af vC J.comb,Y Af vR J.red,Y (Ai .i64) vK J.marks,AV 253 sb (R1.st),Y Ag (.slice A21 (((AD R.st n ((R.g ((n).toNat)).att) ((R.g ((n).toNat)).cnt)).getD []).length) c22) ((AD R.st n ((R.g ((n).toNat)).att) ((R.g ((n).toNat)).cnt)).getD []),blk r (AJ (.slice A5 J.us.length c6) vM vC vR vK J cw ct co R1.part R1.ep R1.g (AQ hv1 ((n).toNat) (.slice A13 (((AD R.st n ((R.g ((n).toNat)).att) ((R.g ((n).toNat)).cnt)).getD []).length) c14:Value)) sb (.slice A71 ((us3++[((.slice A65 ((Av J.us.length R1).length) c66:Value),Av J.us.length R1)]).length) c72)) 185,Y (Ak (Ai .i64)) (.slice A71 ((us3++[((.slice A65 ((Av J.us.length R1).length) c66:Value),Av J.us.length R1)]).length) c72) (us3++[((.slice A65 ((Av J.us.length R1).length) c66:Value),Av J.us.length R1)])] []:=H.turn (fun F h=>GR h rfl (by decide) rfl)
  refine CG (xs:=[(⟨4,R.part,n,(R.g (n).toNat).att,0,⟨none,0,0⟩,⟨A21,((AD R.st n ((R.g ((n).toNat)).att) ((R.g ((n).toNat)).cnt)).getD []).length,c22⟩⟩:DW)]) (ys:=[(⟨5,R1.part,0,0,0,⟨A28,(Av J.us.length R1).length,c29⟩,⟨none,0,0⟩⟩:DW)]) U U U Hk Hs U (by decide) U U H (by first |omega|(simp only [List.length_append,List.length_cons,List.length_nil];omega)) (fun F hA hR=>Ch (hA _ (List.mem_of_getElem? (i:=0) U)) U (by decide) (AZ.flat_eq.2 U)) (fun v77 w H=>?_)
  replace H:=H.h1 (A:=Y ES v77 ([(⟨4,R.part,n,(R.g (n).toNat).att,0,⟨none,0,0⟩,⟨A21,((AD R.st n ((R.g ((n).toNat)).att) ((R.g ((n).toNat)).cnt)).getD []).length,c22⟩⟩:DW)]++[(⟨5,R1.part,0,0,0,⟨A28,(Av J.us.length R1).length,c29⟩,⟨none,0,0⟩⟩:DW)]))
  refine Ad U (Ac (Z (Ab (Ae (Ah 2 U (Ac (Z (Ap (Aq U U ?_)))))))))
  have e:=Ma hnn hto htk hpl hR1 h33
  replace H:=H.p2.pick 10 rfl|>.p2|>.pick 10 rfl|>.pick 12 rfl|>.p6|>.pick 11 rfl|>.pick 11 rfl|>.pick 11 rfl|>.pick 11 rfl|>.pick 11 rfl|>.pick 12 rfl|>.keep 12|>.h9 (A:=blk r (AJ (.slice A5 J.us.length c6) vM vC vR vK J cw ct co (({ R1 with sets:=R1.sets++[Av J.us.length R1] }:AC).part) (({ R1 with sets:=R1.sets++[Av J.us.length R1] }:AC).ep) (({ R1 with sets:=R1.sets++[Av J.us.length R1] }:AC).g) (AQ hv1 ((n).toNat) (.slice A13 (((AD R.st n ((R.g ((n).toNat)).att) ((R.g ((n).toNat)).cnt)).getD []).length) c14:Value)) sb (.slice A71 ((us3++[((.slice A65 ((Av J.us.length R1).length) c66:Value),Av J.us.length R1)]).length) c72)) 185) (G:=AO (({ R1 with sets:=R1.sets++[Av J.us.length R1] }:AC).g) (AQ hv1 ((n).toNat) (.slice A13 (((AD R.st n ((R.g ((n).toNat)).att) ((R.g ((n).toNat)).cnt)).getD []).length) c14:Value))) (J:=AV 253 sb (({ R1 with sets:=R1.sets++[Av J.us.length R1] }:AC).st))
  replace H:=Cx r (.slice A5 J.us.length c6) vM vC vR vK J cw ct co sb ({ R1 with sets:=R1.sets++[Av J.us.length R1] }:AC) (AQ hv1 ((n).toNat) (.slice A13 (((AD R.st n ((R.g ((n).toNat)).att) ((R.g ((n).toNat)).cnt)).getD []).length) c14:Value)) (.slice A71 ((us3++[((.slice A65 ((Av J.us.length R1).length) c66:Value),Av J.us.length R1)]).length) c72) (us3++[((.slice A65 ((Av J.us.length R1).length) c66:Value),Av J.us.length R1)]) (by rw [List.map_append,hsets4,←hs1];rfl) H
  replace H:=H.h1 (A:=Bn r (.slice A5 J.us.length c6) vM vC vR vK J cw ct co sb ({ R1 with sets:=R1.sets++[Av J.us.length R1] }:AC))|>.rec0|>.h1 (A:=EF [])|>.p3
  replace H:=Hd.recN (r:=(⟨4,R.part,n,(R.g (n).toNat).att,0,.slice none 0 0,[],.slice A21 (((AD R.st n ((R.g ((n).toNat)).att) ((R.g ((n).toNat)).cnt)).getD []).length) c22,(AD R.st n (R.g (n).toNat).att (R.g (n).toNat).cnt).getD []⟩:AX)) (H.newnil (Ai .i64))
  replace H:=H.h1 (A:=EF ([]++[(⟨4,R.part,n,(R.g (n).toNat).att,0,.slice none 0 0,[],.slice A21 (((AD R.st n ((R.g ((n).toNat)).att) ((R.g ((n).toNat)).cnt)).getD []).length) c22,(AD R.st n (R.g (n).toNat).att (R.g (n).toNat).cnt).getD []⟩:AX)]))|>.newnil Ag|>.p4
  replace H:=Hd.recN (r:=(⟨5,R1.part,0,0,0,.slice A28 ((Av J.us.length R1).length) c29,Av J.us.length R1,.slice none 0 0,[]⟩:AX)) H
  replace H:=H.h1 (A:=EF ([]++[(⟨4,R.part,n,(R.g (n).toNat).att,0,.slice none 0 0,[],.slice A21 (((AD R.st n ((R.g ((n).toNat)).att) ((R.g ((n).toNat)).cnt)).getD []).length) c22,(AD R.st n (R.g (n).toNat).att (R.g (n).toNat).cnt).getD []⟩:AX)]++[(⟨5,R1.part,0,0,0,.slice A28 ((Av J.us.length R1).length) c29,Av J.us.length R1,.slice none 0 0,[]⟩:AX)]))|>.p2|>.h1 (A:=Y ES v77 (([]++[(⟨4,R.part,n,(R.g (n).toNat).att,0,.slice none 0 0,[],.slice A21 (((AD R.st n ((R.g ((n).toNat)).att) ((R.g ((n).toNat)).cnt)).getD []).length) c22,(AD R.st n (R.g (n).toNat).att (R.g (n).toNat).cnt).getD []⟩:AX)]++[(⟨5,R1.part,0,0,0,.slice A28 ((Av J.us.length R1).length) c29,Av J.us.length R1,.slice none 0 0,[]⟩:AX)]).map Eu))|>.recI|>.h1 (A:=Y Bp v77 ([]++[(⟨4,R.part,n,(R.g (n).toNat).att,0,.slice none 0 0,[],.slice A21 (((AD R.st n ((R.g ((n).toNat)).att) ((R.g ((n).toNat)).cnt)).getD []).length) c22,(AD R.st n (R.g (n).toNat).att (R.g (n).toNat).cnt).getD []⟩:AX)]++[(⟨5,R1.part,0,0,0,.slice A28 ((Av J.us.length R1).length) c29,Av J.us.length R1,.slice none 0 0,[]⟩:AX)]))
  exact Am ⟨[]++[(⟨4,R.part,n,(R.g (n).toNat).att,0,.slice none 0 0,[],.slice A21 (((AD R.st n ((R.g ((n).toNat)).att) ((R.g ((n).toNat)).cnt)).getD []).length) c22,(AD R.st n (R.g (n).toNat).att (R.g (n).toNat).cnt).getD []⟩:AX)]++[(⟨5,R1.part,0,0,0,.slice A28 ((Av J.us.length R1).length) c29,Av J.us.length R1,.slice none 0 0,[]⟩:AX)],by rw [e]<;>rfl,by rw [e,hR1];rfl⟩ H
 refine Aw (Z (Ab (Ae (Ah 2 U (Ac (Z (Ap (Aq U U ?_))))))))
 replace H:=H.pick 11 rfl
 replace H:Hd _ _ _ [blk b26 [.int .i64 4,.int .i64 R.part,.int .i64 n,.int .i64 ((R.g (n).toNat).att),.int .i64 0,.slice none 0 0,.slice A21 (((AD R.st n ((R.g ((n).toNat)).att) ((R.g ((n).toNat)).cnt)).getD []).length) c22] 37,Y (Ai .i64) (.slice A28 ((Av J.us.length R1).length) c29) (Av J.us.length R1),AO (R1.g) (AQ hv1 ((n).toNat) (.slice A13 (((AD R.st n ((R.g ((n).toNat)).att) ((R.g ((n).toNat)).cnt)).getD []).length) c14:Value)),blk r (AJ (.slice A5 J.us.length c6) vM vC vR vK J cw ct co R1.part R1.ep R1.g (AQ hv1 ((n).toNat) (.slice A13 (((AD R.st n ((R.g ((n).toNat)).att) ((R.g ((n).toNat)).cnt)).getD []).length) c14:Value)) sb vs2) 185,Y (Ak Ag) (.slice A5 J.us.length c6) J.us,Y Af vM J.map,Y Af vC J.comb,Y Af vR J.red,Y (Ai .i64) vK J.marks,Y (Ak (Ai .i64)) vs2 us3,AV 253 sb (R1.st),Y Ag (.slice A21 (((AD R.st n ((R.g ((n).toNat)).att) ((R.g ((n).toNat)).cnt)).getD []).length) c22) ((AD R.st n ((R.g ((n).toNat)).att) ((R.g ((n).toNat)).cnt)).getD [])] []:=H
 replace H:Hd w0 F0 w [Y ES (.slice (some ⟨b26,0,none⟩) 1 1) [(⟨4,R.part,n,(R.g (n).toNat).att,0,⟨none,0,0⟩,⟨A21,((AD R.st n ((R.g ((n).toNat)).att) ((R.g ((n).toNat)).cnt)).getD []).length,c22⟩⟩:DW)],Y (Ai .i64) (.slice A28 ((Av J.us.length R1).length) c29) (Av J.us.length R1),AO (R1.g) (AQ hv1 ((n).toNat) (.slice A13 (((AD R.st n ((R.g ((n).toNat)).att) ((R.g ((n).toNat)).cnt)).getD []).length) c14:Value)),blk r (AJ (.slice A5 J.us.length c6) vM vC vR vK J cw ct co R1.part R1.ep R1.g (AQ hv1 ((n).toNat) (.slice A13 (((AD R.st n ((R.g ((n).toNat)).att) ((R.g ((n).toNat)).cnt)).getD []).length) c14:Value)) sb vs2) 185,Y (Ak Ag) (.slice A5 J.us.length c6) J.us,Y Af vM J.map,Y Af vC J.comb,Y Af vR J.red,Y (Ai .i64) vK J.marks,Y (Ak (Ai .i64)) vs2 us3,AV 253 sb (R1.st),Y Ag (.slice A21 (((AD R.st n ((R.g ((n).toNat)).att) ((R.g ((n).toNat)).cnt)).getD []).length) c22) ((AD R.st n ((R.g ((n).toNat)).att) ((R.g ((n).toNat)).cnt)).getD [])] []:=H.turn (fun F h=>GR h rfl (by decide) rfl)
 have e:=Wb hnn hto htk hpl hR1 h33
 replace H:=H.pick 11 rfl|>.p1|>.pick 11 rfl|>.pick 11 rfl|>.p5|>.pick 11 rfl|>.pick 11 rfl|>.pick 11 rfl|>.pick 11 rfl|>.pick 11 rfl|>.pick 11 rfl|>.keep 11
 replace H:=Cx r (.slice A5 J.us.length c6) vM vC vR vK J cw ct co sb R1 (AQ hv1 ((n).toNat) (.slice A13 (((AD R.st n ((R.g ((n).toNat)).att) ((R.g ((n).toNat)).cnt)).getD []).length) c14:Value)) vs2 us3 (hsets4.trans hs1.symm) H
 replace H:=H.h1 (A:=Bn r (.slice A5 J.us.length c6) vM vC vR vK J cw ct co sb R1)|>.rec0|>.h1 (A:=EF [])|>.p3
 replace H:=Hd.recN (r:=(⟨4,R.part,n,(R.g (n).toNat).att,0,.slice none 0 0,[],.slice A21 (((AD R.st n ((R.g ((n).toNat)).att) ((R.g ((n).toNat)).cnt)).getD []).length) c22,(AD R.st n (R.g (n).toNat).att (R.g (n).toNat).cnt).getD []⟩:AX)) (H.newnil (Ai .i64))
 replace H:=H.h1 (A:=EF ([]++[(⟨4,R.part,n,(R.g (n).toNat).att,0,.slice none 0 0,[],.slice A21 (((AD R.st n ((R.g ((n).toNat)).att) ((R.g ((n).toNat)).cnt)).getD []).length) c22,(AD R.st n (R.g (n).toNat).att (R.g (n).toNat).cnt).getD []⟩:AX)]))|>.p2|>.h1 (A:=Y ES (.slice (some ⟨b26,0,none⟩) 1 1) (([]++[(⟨4,R.part,n,(R.g (n).toNat).att,0,.slice none 0 0,[],.slice A21 (((AD R.st n ((R.g ((n).toNat)).att) ((R.g ((n).toNat)).cnt)).getD []).length) c22,(AD R.st n (R.g (n).toNat).att (R.g (n).toNat).cnt).getD []⟩:AX)]).map Eu))|>.recI|>.h1 (A:=Y Bp (.slice (some ⟨b26,0,none⟩) 1 1) ([]++[(⟨4,R.part,n,(R.g (n).toNat).att,0,.slice none 0 0,[],.slice A21 (((AD R.st n ((R.g ((n).toNat)).att) ((R.g ((n).toNat)).cnt)).getD []).length) c22,(AD R.st n (R.g (n).toNat).att (R.g (n).toNat).cnt).getD []⟩:AX)]))
 exact Am ⟨[]++[(⟨4,R.part,n,(R.g (n).toNat).att,0,.slice none 0 0,[],.slice A21 (((AD R.st n ((R.g ((n).toNat)).att) ((R.g ((n).toNat)).cnt)).getD []).length) c22,(AD R.st n (R.g (n).toNat).att (R.g (n).toNat).cnt).getD []⟩:AX)],by rw [e]<;>rfl,by rw [e,hR1];rfl⟩ H
end Go.Proofs.YthgehekecfpikaaGreatDoor.X
