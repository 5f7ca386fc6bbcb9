/- WorkerParts: texts N3, N4, XOrd, N5, XRecO, XTwo, XOkR, XRedL, XRedO, XAct, L1, XWin, XCode, XMpr, XByte, XMprI, XWrk, XWrk2, XWrk3, XF2, LW1, M1, K1, joined by a program of ours; what nothing names is left out. -/
import Derived.Test.YthgehekecfpikaaGreatDoorWorkerPartsQ4
import Derived.KernelRfl
set_option linter.unusedVariables false
set_option linter.unusedSimpArgs false
set_option maxHeartbeats 8000000
namespace Go.Proofs.YthgehekecfpikaaGreatDoor.X
open Go
theorem PM (r:Nat) (A:Option Addr) (c:Nat) (vM2:Value) (vC2:Value) (vR2:Value) (vK2:Value) (J2:AC) (cw:Int) (ct:Int) (co:Int) (part:Int) (ep:Int) (R:AK) (hv:Nat→Value) (sb:Nat) (vs:Value) (hus6:J2.us.length≤6):
    Cn Tryz.prog 51 [.pointer (some ⟨r,0,none⟩)] [] [blk r (Br (.slice A J2.us.length c) vM2 vC2 vR2 vK2 J2 cw ct co part ep R.g hv sb vs) 185] (fun v Bs=>Bs=[Y (Ai .i64) v (CZ J2.us.length R)]):=by
 intro w0 F0 H
 refine enter Tryz.func51 U U (Nat.le_of_ble_eq_true U) (Ab (Ae (Ad U (Ac (Z (Ab (Ab (Ae (Ad U (V U U (Dn U Io U U) (Ac (Z (B2 U (Av (Z (Ab (Ae (Ad U (Ac (Z (Ab (Ab (Ae (Ad U (V U U (AH U U) (V U U (Aj U Hb U) (V U U (Aj U CV U) (V U U (Aj U DT U) (V U U (Al U DX U (H.cellRI 0 U U)) (V U U (Bc U Ei U) (Ad U (Ac (Z (AQ ?_))))))))))))))))))))))))))))))))))
 replace H:=H.newnil (Ai .i64)
 refine BL (σ:=Nat×Value) (fun (k,q)=>[(0,.pointer (some ⟨r,0,none⟩)),(2,.slice none 0 0),(3,q),(13,.int .i64 ((J2.us.length:Nat):Int)),(14,.int .i64 ((k:Nat):Int))]) (fun (k,q) w=>(Hd w0 F0 w [Y (Ai .i64) q (CZ k R)] [blk r (Br (.slice A J2.us.length c) vM2 vC2 vR2 vK2 J2 cw ct co part ep R.g hv sb vs) 185])∧(k≤J2.us.length)) (fun (k,q)=>J2.us.length - k) (0,.slice none 0 0) ⟨rfl,rfl,rfl,rfl,rfl,trivial⟩ ⟨H,Nat.zero_le _⟩ ?_
 rintro ⟨k,q⟩ w ⟨H,hk⟩
 have hml:=PL k R
 refine Ab (Ae (V U U (Bb U U U) (Ac (Z (Ab ?_)))))
 refine Ax U (fun h1=>?_) (fun h1=>?_)
 ·refine Av (Z (Ab (AQ (Ab (Ae (Ah 2 U (Ac (Z (Ab (Ae (Ah 2 U (V U U (AH U U) (V U U (Aj U IA U) (V U U (GU (p:=14+k*5) U Jo IJ U U (by omega) (by omega) (by omega)) (V U U (Aj U JK U) (V U U (Al U Fg U (H.cellRI 0 U (My (by omega)))) (Ac (Z ?_))))))))))))))))))
  refine DQ (b:=(R.g k).merged) U (fun h2=>?_) (fun h2=>?_)
  ·refine Ae (Ah 2 U (BX (parts:=[(0,.tmp 25)]) (vs:=[.int .i64 ((k:Nat):Int)]) (cs:=[.int .i64 ((k:Nat):Int)]) U U U DI FV U (by decide) (by decide) U U H (fun b3 w H=>?_)))
   replace H:=H.p1
   refine Cy (xs:=CZ k R) (ys:=[((k:Nat):Int)]) U U U DI FV U (by decide) U U H (by first |omega|(simp only [List.length_append,List.length_cons,List.length_nil];omega)) (fun F hA hR=>Cm (hA _ (List.mem_of_getElem? (i:=0) U)) U (by decide) (AV.flat_eq.2 U)) (fun v4 w H=>(Ad U (Ac (AT (Z ?_)))))
   replace H:Hd _ _ _ [Y (Ai .i64) v4 ((CZ k R)++[((k:Nat):Int)]),blk b3 [.int .i64 ((k:Nat):Int)] 3] [blk r (Br (.slice A J2.us.length c) vM2 vC2 vR2 vK2 J2 cw ct co part ep R.g hv sb vs) 185]:=H
   refine Ae (V U U (AU (z:=((k+1:Nat):Int)) U U U (by rw [AB (by omega) (by omega)];omega)) (Ad U (Ac ?_)))
   replace H:=H.k1
   replace H:Hd w0 F0 w [Y (Ai .i64) v4 (CZ (k+1) R)] [blk r (Br (.slice A J2.us.length c) vM2 vC2 vR2 vK2 J2 cw ct co part ep R.g hv sb vs) 185]:=by rw [PN,if_pos h2];exact H
   exact Bf (s:=(k,undef)) (k+1,v4) ⟨rfl,rfl,rfl,rfl,rfl,trivial⟩ ⟨H,by (try dsimp only);omega⟩ (by (try dsimp only);omega)
  refine Av (AT (Z (Ae (V U U (AU (z:=((k+1:Nat):Int)) U U U (by rw [AB (by omega) (by omega)];omega)) (Ad U (Ac ?_))))))
  replace H:Hd w0 F0 w [Y (Ai .i64) q (CZ (k+1) R)] [blk r (Br (.slice A J2.us.length c) vM2 vC2 vR2 vK2 J2 cw ct co part ep R.g hv sb vs) 185]:=by rw [PN,if_neg (by rw [h2];exact Bool.false_ne_true),List.append_nil];exact H
  exact Bf (s:=(k,undef)) (k+1,q) ⟨rfl,rfl,rfl,rfl,rfl,trivial⟩ ⟨H,by (try dsimp only);omega⟩ (by (try dsimp only);omega)
 refine BD (AM (AM (BE (Z (Ab (Ae (Ah 2 U (Ac (Z (An (Aq U U ?_)))))))))))
 have hkk:k=J2.us.length:=by omega
 replace H:Hd w0 F0 w [Y (Ai .i64) q (CZ J2.us.length R)] [blk r (Br (.slice A J2.us.length c) vM2 vC2 vR2 vK2 J2 cw ct co part ep R.g hv sb vs) 185]:=by rw [hkk] at H;exact H
 exact Ak U H
theorem YW (vp:Value) (p:List BC) (fuel:Int) (vus:Value) (us:List (Value×List Ap)) (hpa:∀ i∈p,AE i.a) (hfu:AE fuel) (hb:(CK us).length≤1000000):
    Cn Tryz.prog 180 [vp,.int .i64 fuel,vus] [] [Aa Af vp p,Aa (Am Ag) vus us,gl] (fun v Bs=>∃ u:Value,v=.tuple #[u,.int .i64 ((Dt dg p (srt (CK us)) fuel false).2)]∧Bs=[Y Ag u ((Dt dg p (srt (CK us)) fuel false).1)]):=by
 intro w0 F0 H
 obtain ⟨A1,c2,rfl,hc3,hm4,hp5⟩:=H.fR 0 rfl
 obtain ⟨A6,c7,rfl,hc8,hm9,hp10⟩:=H.fR 1 rfl
 refine enter Tryz.func180 U U (Nat.le_of_ble_eq_true U) (Ab (Ae (Ah 2 U (Ac (Z ?_)))))
 replace H:Hd _ _ _ [] [Aa Af (.slice A1 p.length c2) p,Aa (Am Ag) (.slice A6 us.length c7) us,gl]:=H
 refine Ab (Ae (Ah 2 U (sc (Yt (.slice A6 us.length c7) us (by first |omega|decide|exact Nat.le_trans (Ob _ _) (by omega)|exact Nat.le_trans (Tj _ _) (by omega)|(simp only [CK,List.flatMap_cons,List.flatMap_nil,List.append_nil,Ga];omega))) H (lR 1 U l0) U U (Au Uq U U) ?_)))
 rintro v11 _ w rfl H
 replace H:=H.h1 (A:=Y Ag v11 (srt (CK us)))
 refine Ad U (sc (Tw (.slice A1 p.length c2) p v11 (srt (CK us)) fuel (by first |exact hpa|exact LJ|assumption) (by first |assumption|(unfold AE;omega)) (by first |omega|(simp only [Ga];omega))) H (lR 0 U (lA 0 U BI (lR 2 U l0))) U U (Au Up U U) ?_)
 rintro _ _ w ⟨u12,rfl,rfl⟩ H
 replace H:=H.h1 (A:=Y Ag u12 ((Dt dg p (srt (CK us)) fuel false).1))
 refine Ah 4 U (Ac (Z (An (Ch U U U ?_))))
 replace H:=H.k1
 exact Ak ⟨u12,rfl,rfl⟩ H
theorem Wx (r:Nat) (A:Option Addr) (c:Nat) (vM2:Value) (vC2:Value) (vR2:Value) (vK2:Value) (J2:AC) (cw:Int) (ct:Int) (co:Int) (part:Int) (ep:Int) (R:AK) (hv:Nat→Value) (sb:Nat) (vs:Value) (vset:Value) (set:List Int) (hred:∀ i∈J2.red,AE i.a) (hf64:AE J2.fuel) (hus6:J2.us.length≤6) (hbp:∀ i,(R.g i).pairs.length≤1000):
    Cn Tryz.prog 131 [.pointer (some ⟨r,0,none⟩),vset] [] [blk r (Br (.slice A J2.us.length c) vM2 vC2 vR2 vK2 J2 cw ct co part ep R.g hv sb vs) 185,BK (R.g) hv,Aa (Ai .i64) vset set,Aa Af vR2 J2.red,gl] (fun v Bs=>∃ u:Value,v=.tuple #[u,.int .i64 ((Dt dg J2.red (srt (Fd J2.us.length R set)) J2.fuel false).2)]∧Bs=[Y Ag u ((Dt dg J2.red (srt (Fd J2.us.length R set)) J2.fuel false).1)]):=by
 intro w0 F0 H
 obtain ⟨A1,c2,rfl,hc3,hm4,hp5⟩:=H.fR 2 rfl
 obtain ⟨A6,c7,rfl,hc8,hm9,hp10⟩:=H.fR 3 rfl
 refine enter Tryz.func131 U U (Nat.le_of_ble_eq_true U) (Ab (Ae (Ah 2 U (Ac (Z ?_)))))
 replace H:Hd _ _ _ [] [blk r (Br (.slice A J2.us.length c) vM2 vC2 (.slice A6 J2.red.length c7) vK2 J2 cw ct co part ep R.g hv sb vs) 185,BK (R.g) hv,Aa (Ai .i64) (.slice A1 set.length c2) set,Aa Af (.slice A6 J2.red.length c7) J2.red,gl]:=H
 refine Ab (Ae (Ad U (Ac (Z (Ab (Ab (Ae (Ad U (V U U (AH U U) (V U U (Aj U Hb U) (V U U (Aj U CV U) (V U U (Aj U DT U) (V U U (Al U DX U (H.cellRI 0 U U)) (V U U (Bc U Ei U) (Ad U (Ac (Z (AQ ?_))))))))))))))))))
 replace H:=H.newnil Du|>.h1 (A:=Y Du (.slice none 0 0) (Bl (DG R.g hv set 0)))
 refine BL (σ:=Nat×Value) (fun (k,q)=>[(0,.pointer (some ⟨r,0,none⟩)),(1,.slice A1 set.length c2),(4,.slice none 0 0),(5,.int .i64 0),(6,q),(14,.int .i64 ((J2.us.length:Nat):Int)),(15,.int .i64 ((k:Nat):Int))]) (fun (k,q) w=>(Hd w0 F0 w [Y Du q (Bl (DG R.g hv set k))] [blk r (Br (.slice A J2.us.length c) vM2 vC2 (.slice A6 J2.red.length c7) vK2 J2 cw ct co part ep R.g hv sb vs) 185,BK (R.g) hv,Aa (Ai .i64) (.slice A1 set.length c2) set,Aa Af (.slice A6 J2.red.length c7) J2.red,gl])∧(k≤J2.us.length)) (fun (k,q)=>J2.us.length - k) (0,.slice none 0 0) ⟨rfl,rfl,rfl,rfl,rfl,rfl,rfl,trivial⟩ ⟨H,Nat.zero_le _⟩ ?_
 rintro ⟨k,q⟩ w ⟨H,hk⟩
 have hpl:=Xi R.g hv set k
 have hhl:(Bl (DG R.g hv set k)).length=(DG R.g hv set k).length:=by simp [Bl]
 refine Ab (Ae (V U U (Bb U U U) (Ac (Z (Ab ?_)))))
 refine Ax U (fun h11=>?_) (fun h11=>?_)
 ·refine Av (Z (Ab (AQ (Ab (Ae (Ah 2 U (Ac (Z (Ab (Ae (Ah 2 U (V U U (AH U U) (V U U (Aj U IA U) (V U U (GU (p:=14+k*5) U Jo IJ U U (by omega) (by omega) (by omega)) (V U U (Aj U JK U) (V U U (Al U Fg U (H.cellRI 0 U (My (by omega)))) (Ad U ?_)))))))))))))))))
  refine Fe (d:=25) (b:=(R.g k).merged) U (fun h12=>?_) (fun h12=>?_)
  ·refine Ah 2 U (sc (SA (.slice A1 set.length c2) set ((k:Nat):Int)) H (lR 2 U l0) U U (Au Uo U U) ?_)
   rintro _ _ w ⟨rfl,rfl⟩ H
   refine Ad U (Ac (Z ?_))
   refine Ax U (fun h13=>?_) (fun h13=>?_)
   ·refine Ae (Ah 3 U (V U U (AH U U) (V U U (Aj U IA U) (V U U (GU (p:=14+k*5) U Jo IJ U U (by omega) (by omega) (by omega)) (V U U (Aj U Of U) ?_)))))
    obtain ⟨A14,c15,e16,_,_,_⟩:=H.prsFormR (i:=k) 1 rfl (by omega)
    refine V U U (Al U EO U (H.cellRI 0 U ((X3 (by omega)).trans (congrArg some e16)))) (BX (parts:=[(0,.tmp 37)]) (vs:=[.slice A14 ((R.g k).pairs.length) c15]) (cs:=[.slice A14 ((R.g k).pairs.length) c15]) U U U Fz KT U (by decide) (by decide) U U H (fun b17 w H=>?_))
    replace H:=H.p1
    refine Cy (xs:=Bl (DG R.g hv set k)) (ys:=[(⟨A14,(R.g k).pairs.length,c15⟩:EA)]) U U U Fz KT U (by decide) U U H (by first |omega|(simp only [List.length_append,List.length_cons,List.length_nil];omega)) (fun F hA hR=>Cm (hA _ (List.mem_of_getElem? (i:=0) U)) U (by decide) (AV.flat_eq.2 U)) (fun v18 w H=>(Ad U (Ac (AT (Z ?_)))))
    replace H:Hd _ _ _ [Y Du v18 ((Bl (DG R.g hv set k))++[(⟨A14,(R.g k).pairs.length,c15⟩:EA)]),blk b17 [.slice A14 ((R.g k).pairs.length) c15] 35] [blk r (Br (.slice A J2.us.length c) vM2 vC2 (.slice A6 J2.red.length c7) vK2 J2 cw ct co part ep R.g hv sb vs) 185,BK (R.g) hv,Aa (Ai .i64) (.slice A1 set.length c2) set,Aa Af (.slice A6 J2.red.length c7) J2.red,gl]:=H
    refine Ae (V U U (AU (z:=((k+1:Nat):Int)) U U U (by rw [AB (by omega) (by omega)];omega)) (Ad U (Ac ?_)))
    replace H:=H.k1
    replace H:Hd w0 F0 w [Y Du v18 (Bl (DG R.g hv set (k+1)))] [blk r (Br (.slice A J2.us.length c) vM2 vC2 (.slice A6 J2.red.length c7) vK2 J2 cw ct co part ep R.g hv sb vs) 185,BK (R.g) hv,Aa (Ai .i64) (.slice A1 set.length c2) set,Aa Af (.slice A6 J2.red.length c7) J2.red,gl]:=by rw [Ml,if_pos ⟨h12,h13⟩,show Bl (DG R.g hv set k++[(hv k,(R.g k).pairs)])=Bl (DG R.g hv set k)++[⟨A14,(R.g k).pairs.length,c15⟩] by simp [Bl,Ft,e16]];exact H
    exact Bf (s:=(k,undef)) (k+1,v18) ⟨rfl,rfl,rfl,rfl,rfl,rfl,rfl,trivial⟩ ⟨H,by (try dsimp only);omega⟩ (by (try dsimp only);omega)
   refine Av (AT (Z (Ae (V U U (AU (z:=((k+1:Nat):Int)) U U U (by rw [AB (by omega) (by omega)];omega)) (Ad U (Ac ?_))))))
   replace H:Hd w0 F0 w [Y Du q (Bl (DG R.g hv set (k+1)))] [blk r (Br (.slice A J2.us.length c) vM2 vC2 (.slice A6 J2.red.length c7) vK2 J2 cw ct co part ep R.g hv sb vs) 185,BK (R.g) hv,Aa (Ai .i64) (.slice A1 set.length c2) set,Aa Af (.slice A6 J2.red.length c7) J2.red,gl]:=by rw [Ml,if_neg (fun h=>by first |exact h13 h.2|(rw [h12] at h;cases h.1)),List.append_nil];exact H
   exact Bf (s:=(k,undef)) (k+1,q) ⟨rfl,rfl,rfl,rfl,rfl,rfl,rfl,trivial⟩ ⟨H,by (try dsimp only);omega⟩ (by (try dsimp only);omega)
  refine Ah 4 U (Ac (Z (B2 U (Av (AT (Z (Ae (V U U (AU (z:=((k+1:Nat):Int)) U U U (by rw [AB (by omega) (by omega)];omega)) (Ad U (Ac ?_))))))))))
  replace H:Hd w0 F0 w [Y Du q (Bl (DG R.g hv set (k+1)))] [blk r (Br (.slice A J2.us.length c) vM2 vC2 (.slice A6 J2.red.length c7) vK2 J2 cw ct co part ep R.g hv sb vs) 185,BK (R.g) hv,Aa (Ai .i64) (.slice A1 set.length c2) set,Aa Af (.slice A6 J2.red.length c7) J2.red,gl]:=by rw [Ml,if_neg (fun h=>by first |exact h12 h.2|(rw [h12] at h;cases h.1)),List.append_nil];exact H
  exact Bf (s:=(k,undef)) (k+1,q) ⟨rfl,rfl,rfl,rfl,rfl,rfl,rfl,trivial⟩ ⟨H,by (try dsimp only);omega⟩ (by (try dsimp only);omega)
 refine BD (AM (AM (BE (Z (Ab (B3 (.e 0 (.e 1 (.e 2 (.e 3 (.e 4 (.e 5 (.e 6 (.e 7 (.e 8 (.e 9 (.e 10 (.e 11 (.e 12 (.m 13 (.e 14 (.e 15 (.e 16 (.e 17 .z)))))))))))))))))) (fun w=>∃ Ar,Hd w0 F0 w (Ar) [blk r (Br (.slice A J2.us.length c) vM2 vC2 (.slice A6 J2.red.length c7) vK2 J2 cw ct co part ep R.g hv sb vs) 185,BK (R.g) hv,Aa (Ai .i64) (.slice A1 set.length c2) set,Aa Af (.slice A6 J2.red.length c7) J2.red,gl]) mo (by kernel_rfl) (fun w H=>⟨_,H⟩) H (fun w H=>(At U (Ao U U U (fun w ⟨Ar,H⟩=>AH U U) (Ao U U U (fun w ⟨Ar,H⟩=>Aj U Hb U) (Ao U U U (fun w ⟨Ar,H⟩=>Aj U CV U) (Ao U U U (fun w ⟨Ar,H⟩=>Aj U HO U) (Ao U U U (fun w ⟨Ar,H⟩=>Al U Eh U (H.cellRI 0 U U)) (At U (Ao U U U (fun w ⟨Ar,H⟩=>AH U U) ?_)))))))))))))))
 refine Ao U U U (fun w ⟨Ar,H⟩=>Aj U Hb U) (Ao U U U (fun w ⟨Ar,H⟩=>Aj U CV U) (Ao U U U (fun w ⟨Ar,H⟩=>Aj U JP U) (Ao U U U (fun w ⟨Ar,H⟩=>Al U AA U (H.cellRI 0 U U)) (At U (AR U ?_)))))
 have hkk:k=J2.us.length:=by omega
 replace H:Hd w0 F0 w [Y Du q (Bl (DG R.g hv set J2.us.length))] [blk r (Br (.slice A J2.us.length c) vM2 vC2 (.slice A6 J2.red.length c7) vK2 J2 cw ct co part ep R.g hv sb vs) 185,BK (R.g) hv,Aa (Ai .i64) (.slice A1 set.length c2) set,Aa Af (.slice A6 J2.red.length c7) J2.red,gl]:=by rw [hkk] at H;exact H
 have hrb:=QR (set:=set) hbp J2.us.length
 have hfl:(CK (DG R.g hv set J2.us.length)).length≤1000000:=by rw [P_];omega
 refine sc (YW (.slice A6 J2.red.length c7) J2.red J2.fuel q (DG R.g hv set J2.us.length) hred hf64 hfl) H (lX (fun F hA hR=>hR _ (List.mem_of_getElem? (i:=3) U)) (lX (fun F hA hR=>TR (BI F (hA _ (List.mem_of_getElem? (i:=0) U))) (Xj hus6 (hR _ (List.mem_of_getElem? (i:=1) U)))) (lR 4 U l0))) U U (Au UB U U) ?_
 rintro _ _ w ⟨u19,rfl,rfl⟩ H
 rw [P_] at H ⊢
 replace H:Hd _ _ _ [Y Ag u19 ((Dt dg J2.red (srt (Fd J2.us.length R set)) J2.fuel false).1),Y Du q (Bl (DG R.g hv set J2.us.length))] [blk r (Br (.slice A J2.us.length c) vM2 vC2 (.slice A6 J2.red.length c7) vK2 J2 cw ct co part ep R.g hv sb vs) 185,BK (R.g) hv,Aa (Ai .i64) (.slice A1 set.length c2) set,Aa Af (.slice A6 J2.red.length c7) J2.red,gl]:=H
 refine AI ⟨_,H⟩ (At U (At U (At U (At U (BM (Z (An (Ch U U U ?_))))))))
 replace H:=H.k1
 exact Ak ⟨u19,rfl,rfl⟩ H
theorem WS (r:Nat) (A:Option Addr) (c:Nat) (vM2:Value) (vC2:Value) (vR2:Value) (vK2:Value) (J2:AC) (cw:Int) (ct:Int) (co:Int) (part:Int) (ep:Int) (R:AK) (hv:Nat→Value) (sb:Nat) (vs:Value) (hred:∀ i∈J2.red,AE i.a) (hf64:AE J2.fuel) (hus6:J2.us.length≤6) (hbp:∀ i,(R.g i).pairs.length≤1000):
    Cn Tryz.prog 60 [.pointer (some ⟨r,0,none⟩)] [] [blk r (Br (.slice A J2.us.length c) vM2 vC2 vR2 vK2 J2 cw ct co part ep R.g hv sb vs) 185,BK (R.g) hv,Aa Af vR2 J2.red,gl] (fun v Bs=>∃ u:Value,v=.tuple #[u,.int .i64 ((DM dg J2 R).2.1),.bool ((DM dg J2 R).2.2)]∧Bs=[Y Ag u ((DM dg J2 R).1)]):=by
 intro w0 F0 H
 obtain ⟨A1,c2,rfl,hc3,hm4,hp5⟩:=H.fR 2 rfl
 refine enter Tryz.func60 U U (Nat.le_of_ble_eq_true U) (Ab (Ae (Ah 3 U (Ac (Z ?_)))))
 replace H:Hd _ _ _ [] [blk r (Br (.slice A J2.us.length c) vM2 vC2 (.slice A1 J2.red.length c2) vK2 J2 cw ct co part ep R.g hv sb vs) 185,BK (R.g) hv,Aa Af (.slice A1 J2.red.length c2) J2.red,gl]:=H
 refine Ab (Ae (Ad U (sc (PM r A c vM2 vC2 (.slice A1 J2.red.length c2) vK2 J2 cw ct co part ep R hv sb vs (by first |assumption|omega)) H (lR 0 U l0) U U (Au Pi U U) ?_)))
 rintro v6 _ w rfl H
 replace H:=H.h1 (A:=Y (Ai .i64) v6 (CZ J2.us.length R))
 refine Ad U (Ac (Z (Ab (Ab (Ae (Ad U (V U U (Dn U Io U U) (Ah 2 U ?_))))))))
 obtain ⟨A7,c8,rfl,hc9,hm10,hp11⟩:=H.fA 0 rfl
 refine V U U (Bc U EP U) (Ad U (V U U (AH U U) (V U U (Aj U Hb U) (V U U (Aj U CV U) (V U U (Aj U DT U) (V U U (Al U DX U (H.cellRI 0 U U)) (V U U (Bc U Ei U) (V U U (Bb U U U) (Ad U (Ac (Z ?_)))))))))))
 refine Ax U (fun h12=>?_) (fun h12=>?_)
 ·refine Ab (Ae (Ah 3 U (Ac (Z (An (Ay (F9 U U U U ?_)))))))
  have e:DM dg J2 R=([],0,false):=if_pos (by omega)
  replace H:=H.newnil Ag|>.k1
  exact Ak ⟨(.slice none 0 0),by rw [e]<;>rfl,by rw [e]<;>rfl⟩ H
 refine Av (Z (Ab (Ae (Ah 2 U (sc (Wx r A c vM2 vC2 (.slice A1 J2.red.length c2) vK2 J2 cw ct co part ep R hv sb vs (.slice A7 ((CZ J2.us.length R).length) c8) (CZ J2.us.length R) (by first |assumption|omega) (by first |assumption|omega) (by first |assumption|omega) (by first |assumption|omega)) H (lR 0 U (lR 1 U (lA 0 U BI (lR 2 U (lR 3 U l0))))) U U (Au Un U U) ?_)))))
 rintro _ _ w ⟨u13,rfl,rfl⟩ H
 replace H:=H.h1 (A:=Y Ag u13 ((Dt dg J2.red (srt (Fd J2.us.length R (CZ J2.us.length R))) J2.fuel false).1))
 refine Ah 5 U (Ac (Z (Ab (Ae (Ah 5 U (Ac (Z (An (F9 U U U U ?_)))))))))
 have e:DM dg J2 R=((Dt dg J2.red (srt (Fd J2.us.length R (CZ J2.us.length R))) J2.fuel false).1,(Dt dg J2.red (srt (Fd J2.us.length R (CZ J2.us.length R))) J2.fuel false).2,true):=if_neg (by omega)
 replace H:=H.k1
 exact Ak ⟨u13,by rw [e]<;>rfl,by rw [e]<;>rfl⟩ H
theorem X9 (vS:Value) (vM:Value) (vC:Value) (vR:Value) (vK:Value) (C:Cf) (p:Int) (ep:Int) (vr:Value) (recs:List Bm) (hC:CP C) (hp:AE p) (he:AE ep) (hgo:CY C p≠0∧1≤ep) (hrs:∀ r∈recs,(AE r.sp∧r.set.length≤1000)∧r.pairs.length≤1000) (hrl:recs.length≤100000):
    Cn Tryz.prog 56 [.agg #[vS,.int .i64 C.J.parts,vM,vC,vR,.int .i64 C.J.chunk,.int .i64 C.J.window,.int .i64 C.J.fuel,vK,.int .i64 C.w,.int .i64 C.t,.int .i64 C.o],.int .i64 p,.int .i64 ep,vr] [] [Aa (Am Ag) vS C.J.us,Aa Af vM C.J.map,Aa Af vC C.J.comb,Aa Af vR C.J.red,Aa (Ai .i64) vK C.J.marks,Aa B4 vr recs] (fun v Bs=>∃ r:Nat,∃ vS2:Value,∃ vM2:Value,∃ vC2:Value,∃ vR2:Value,∃ vK2:Value,∃ J2:AC,∃ hv:Nat→Value,∃ sb:Nat,∃ vs:Value,∃ us:List (Value×List Int),v=.tuple #[.pointer (some ⟨r,0,none⟩),.int .i64 0]∧Bs=[blk r (Br vS2 vM2 vC2 vR2 vK2 J2 C.w C.t C.o p ep ((CQ J2.us.length p ep (recs.map Bm.p)).g) hv sb vs) 185,Y (Am Ag) vS2 J2.us,Y Af vM2 J2.map,Y Af vC2 J2.comb,Y Af vR2 J2.red,Y (Ai .i64) vK2 J2.marks,BK ((CQ J2.us.length p ep (recs.map Bm.p)).g) hv,Y (Am (Ai .i64)) vs us,CD 253 sb ([])]∧(Bd J2 C.J)∧(us.map (·.2)=(CQ J2.us.length p ep (recs.map Bm.p)).sets)):=by
 intro w0 F0 H
 obtain ⟨A1,c2,rfl,hc3,hm4,hp5⟩:=H.fR 0 rfl
 obtain ⟨A6,c7,rfl,hc8,hm9,hp10⟩:=H.fR 1 rfl
 obtain ⟨A11,c12,rfl,hc13,hm14,hp15⟩:=H.fR 2 rfl
 obtain ⟨A16,c17,rfl,hc18,hm19,hp20⟩:=H.fR 3 rfl
 obtain ⟨A21,c22,rfl,hc23,hm24,hp25⟩:=H.fR 4 rfl
 obtain ⟨A26,c27,rfl,hc28,hm29,hp30⟩:=H.fR 5 rfl
 refine enter Tryz.func56 U U (Nat.le_of_ble_eq_true U) (Ab (Ae (Ct U U U U H (fun b31 w H=>(Ah 2 U (Ac (Z ?_)))))))
 replace H:Hd _ _ _ [blk b31 [.slice A1 C.J.us.length c2,.int .i64 C.J.parts,.slice A6 C.J.map.length c7,.slice A11 C.J.comb.length c12,.slice A16 C.J.red.length c17,.int .i64 C.J.chunk,.int .i64 C.J.window,.int .i64 C.J.fuel,.slice A21 C.J.marks.length c22,.int .i64 C.w,.int .i64 C.t,.int .i64 C.o] 28] [Aa (Am Ag) (.slice A1 C.J.us.length c2) C.J.us,Aa Af (.slice A6 C.J.map.length c7) C.J.map,Aa Af (.slice A11 C.J.comb.length c12) C.J.comb,Aa Af (.slice A16 C.J.red.length c17) C.J.red,Aa (Ai .i64) (.slice A21 C.J.marks.length c22) C.J.marks,Aa B4 (.slice A26 recs.length c27) recs]:=H
 refine Ab (Ab (Ae (V U U (Bo (cs:=[.slice A1 C.J.us.length c2,.int .i64 C.J.parts,.slice A6 C.J.map.length c7,.slice A11 C.J.comb.length c12,.slice A16 C.J.red.length c17,.int .i64 C.J.chunk,.int .i64 C.J.window,.int .i64 C.J.fuel,.slice A21 C.J.marks.length c22,.int .i64 C.w,.int .i64 C.t,.int .i64 C.o]) U DC U U (H.cellsI 0 U U)) (Ad U (sc (IH (.slice A1 C.J.us.length c2) (.slice A6 C.J.map.length c7) (.slice A11 C.J.comb.length c12) (.slice A16 C.J.red.length c17) (.slice A21 C.J.marks.length c22) C p (by first |assumption|omega)) H (lR 0 U (lR 1 U (lR 2 U (lR 3 U (lR 4 U l0))))) U U (Au IM U U) ?_)))))
 rintro _ _ w ⟨rfl,rfl⟩ H
 refine V U U (A0 U U U) (Ad U ?_)
 refine AN (d:=18) U (fun h32=>?_) (fun h32=>?_)
 ·exact (hgo.1 h32).elim
 refine Ad U (V U U (Bb U U U) (Ad U (Ac (Z ?_))))
 replace H:Hd _ _ _ [blk b31 [.slice A1 C.J.us.length c2,.int .i64 C.J.parts,.slice A6 C.J.map.length c7,.slice A11 C.J.comb.length c12,.slice A16 C.J.red.length c17,.int .i64 C.J.chunk,.int .i64 C.J.window,.int .i64 C.J.fuel,.slice A21 C.J.marks.length c22,.int .i64 C.w,.int .i64 C.t,.int .i64 C.o] 28] [Aa (Am Ag) (.slice A1 C.J.us.length c2) C.J.us,Aa Af (.slice A6 C.J.map.length c7) C.J.map,Aa Af (.slice A11 C.J.comb.length c12) C.J.comb,Aa Af (.slice A16 C.J.red.length c17) C.J.red,Aa (Ai .i64) (.slice A21 C.J.marks.length c22) C.J.marks,Aa B4 (.slice A26 recs.length c27) recs]:=H
 refine Ax U (fun h33=>?_) (fun h33=>?_)
 ·exfalso;omega
 refine Av (Z (Ab (Ae (V U U (Bo (cs:=[.slice A1 C.J.us.length c2,.int .i64 C.J.parts,.slice A6 C.J.map.length c7,.slice A11 C.J.comb.length c12,.slice A16 C.J.red.length c17,.int .i64 C.J.chunk,.int .i64 C.J.window,.int .i64 C.J.fuel,.slice A21 C.J.marks.length c22,.int .i64 C.w,.int .i64 C.t,.int .i64 C.o]) U DC U U (H.cellsI 0 U U)) (sc (Mf (.slice A1 C.J.us.length c2) (.slice A6 C.J.map.length c7) (.slice A11 C.J.comb.length c12) (.slice A16 C.J.red.length c17) (.slice A21 C.J.marks.length c22) C (by first |assumption|omega)) H (lR 0 U (lR 1 U (lR 2 U (lR 3 U (lR 4 U l0))))) U U (Au LX U U) ?_)))))
 rintro _ _ w ⟨J34,vS35,vM36,vC37,vR38,vK39,rfl,rfl,hf40⟩ H
 replace H:=H.h5 (A:=Y (Am Ag) vS35 J34.us) (B:=Y Af vM36 J34.map) (C:=Y Af vC37 J34.comb) (D:=Y Af vR38 J34.red) (E:=Y (Ai .i64) vK39 J34.marks)
 have hsj:=hf40
 refine Ah 2 U (sc (Y8) H l0 U U (Au Um U U) ?_)
 rintro _ _ w ⟨b41,rfl,rfl⟩ H
 obtain ⟨A42,c43,rfl,hc44,hm45,hp46⟩:=H.fA 1 rfl
 obtain ⟨A47,c48,rfl,hc49,hm50,hp51⟩:=H.fA 2 rfl
 obtain ⟨A52,c53,rfl,hc54,hm55,hp56⟩:=H.fA 3 rfl
 obtain ⟨A57,c58,rfl,hc59,hm60,hp61⟩:=H.fA 4 rfl
 obtain ⟨A62,c63,rfl,hc64,hm65,hp66⟩:=H.fA 5 rfl
 refine V U U (CR (parts:=[(0,.tmp 23),(1,.tmp 24),(2,.tmp 25),(4,.tmp 26)]) (vs:=[.agg #[.slice A42 J34.us.length c43,.int .i64 J34.parts,.slice A47 J34.map.length c48,.slice A52 J34.comb.length c53,.slice A57 J34.red.length c58,.int .i64 J34.chunk,.int .i64 J34.window,.int .i64 J34.fuel,.slice A62 J34.marks.length c63,.int .i64 C.w,.int .i64 C.t,.int .i64 C.o],.int .i64 p,.int .i64 ep,.pointer (some ⟨b41,0,none⟩)]) (cs:=[.slice A42 J34.us.length c43,.int .i64 J34.parts,.slice A47 J34.map.length c48,.slice A52 J34.comb.length c53,.slice A57 J34.red.length c58,.int .i64 J34.chunk,.int .i64 J34.window,.int .i64 J34.fuel,.slice A62 J34.marks.length c63,.int .i64 C.w,.int .i64 C.t,.int .i64 C.o,.int .i64 p,.int .i64 ep,.bool false,.slice none 0 0,.bool false,.int .i64 0,.int .i64 0,.bool false,.slice none 0 0,.bool false,.int .i64 0,.int .i64 0,.bool false,.slice none 0 0,.bool false,.int .i64 0,.int .i64 0,.bool false,.slice none 0 0,.bool false,.int .i64 0,.int .i64 0,.bool false,.slice none 0 0,.bool false,.int .i64 0,.int .i64 0,.bool false,.slice none 0 0,.bool false,.int .i64 0,.int .i64 0,.pointer (some ⟨b41,0,none⟩),.slice none 0 0]) U RK U U) ?_
 refine Ct U U U U H (fun b67 w H=>(Ad U (Ac (Z ?_))))
 replace H:Hd _ _ _ [blk b67 [.slice A42 J34.us.length c43,.int .i64 J34.parts,.slice A47 J34.map.length c48,.slice A52 J34.comb.length c53,.slice A57 J34.red.length c58,.int .i64 J34.chunk,.int .i64 J34.window,.int .i64 J34.fuel,.slice A62 J34.marks.length c63,.int .i64 C.w,.int .i64 C.t,.int .i64 C.o,.int .i64 p,.int .i64 ep,.bool false,.slice none 0 0,.bool false,.int .i64 0,.int .i64 0,.bool false,.slice none 0 0,.bool false,.int .i64 0,.int .i64 0,.bool false,.slice none 0 0,.bool false,.int .i64 0,.int .i64 0,.bool false,.slice none 0 0,.bool false,.int .i64 0,.int .i64 0,.bool false,.slice none 0 0,.bool false,.int .i64 0,.int .i64 0,.bool false,.slice none 0 0,.bool false,.int .i64 0,.int .i64 0,.pointer (some ⟨b41,0,none⟩),.slice none 0 0] 185,CD 253 b41 ([]),Y (Am Ag) (.slice A42 J34.us.length c43) J34.us,Y Af (.slice A47 J34.map.length c48) J34.map,Y Af (.slice A52 J34.comb.length c53) J34.comb,Y Af (.slice A57 J34.red.length c58) J34.red,Y (Ai .i64) (.slice A62 J34.marks.length c63) J34.marks,blk b31 [.slice A1 C.J.us.length c2,.int .i64 C.J.parts,.slice A6 C.J.map.length c7,.slice A11 C.J.comb.length c12,.slice A16 C.J.red.length c17,.int .i64 C.J.chunk,.int .i64 C.J.window,.int .i64 C.J.fuel,.slice A21 C.J.marks.length c22,.int .i64 C.w,.int .i64 C.t,.int .i64 C.o] 28] [Aa (Am Ag) (.slice A1 C.J.us.length c2) C.J.us,Aa Af (.slice A6 C.J.map.length c7) C.J.map,Aa Af (.slice A11 C.J.comb.length c12) C.J.comb,Aa Af (.slice A16 C.J.red.length c17) C.J.red,Aa (Ai .i64) (.slice A21 C.J.marks.length c22) C.J.marks,Aa B4 (.slice A26 recs.length c27) recs]:=H
 refine Ab (Ab ?_)
 have hlen:J34.us.length≤6:=by have:=hC.1.1;have:=hsj.len;omega
 replace H:=(H.newnil (Am (Ai .i64))).prsN
 replace H:=H.h2 (A:=BK ((GW p ep).g) (fun _=>.slice none 0 0)) (B:=Y (Am (Ai .i64)) (.slice none 0 0) [])|>.p8|>.p8|>.p8|>.p8|>.p8|>.p7|>.k9|>.h1 (A:=blk b67 (Br (.slice A42 J34.us.length c43) (.slice A47 J34.map.length c48) (.slice A52 J34.comb.length c53) (.slice A57 J34.red.length c58) (.slice A62 J34.marks.length c63) J34 C.w C.t C.o p ep ((GW p ep).g) (fun _=>.slice none 0 0) b41 (.slice none 0 0)) 185)
 refine Ae (Ad U (V U U (Bc U MR U) (Ad U (Ac (Z (AQ (BL (σ:=Nat×AK×(Nat→Value)×Value×List (Value×List Int)) (fun (k,R,hv,vs,us)=>[(1,.int .i64 p),(8,.pointer none),(9,.int .i64 0),(10,.pointer (some ⟨b67,0,none⟩)),(29,.slice A26 recs.length c27),(30,.int .i64 ((recs.length:Nat):Int)),(31,.int .i64 ((k:Nat):Int))]) (fun (k,R,hv,vs,us) w=>(Hd w0 F0 w [blk b67 (Br (.slice A42 J34.us.length c43) (.slice A47 J34.map.length c48) (.slice A52 J34.comb.length c53) (.slice A57 J34.red.length c58) (.slice A62 J34.marks.length c63) J34 C.w C.t C.o p ep R.g hv b41 vs) 185,Y (Am Ag) (.slice A42 J34.us.length c43) J34.us,Y Af (.slice A47 J34.map.length c48) J34.map,Y Af (.slice A52 J34.comb.length c53) J34.comb,Y Af (.slice A57 J34.red.length c58) J34.red,Y (Ai .i64) (.slice A62 J34.marks.length c63) J34.marks,BK (R.g) hv,Y (Am (Ai .i64)) vs us,CD 253 b41 ([])] [Aa (Am Ag) (.slice A1 C.J.us.length c2) C.J.us,Aa Af (.slice A6 C.J.map.length c7) C.J.map,Aa Af (.slice A11 C.J.comb.length c12) C.J.comb,Aa Af (.slice A16 C.J.red.length c17) C.J.red,Aa (Ai .i64) (.slice A21 C.J.marks.length c22) C.J.marks,Aa B4 (.slice A26 recs.length c27) recs])∧(R=CQ J34.us.length p ep ((recs.take k).map Bm.p))∧(R.part=p)∧(us.map (·.2)=R.sets)∧(k≤recs.length)∧(us.length≤k)) (fun (k,R,hv,vs,us)=>recs.length - k) (0,GW p ep,(fun _=>.slice none 0 0),.slice none 0 0,[]) ⟨rfl,rfl,rfl,rfl,rfl,rfl,rfl,trivial⟩ ⟨H,rfl,rfl,rfl,Nat.zero_le _,Nat.le_refl _⟩ ?_)))))))
 rintro ⟨k,R,hv,vs,us⟩ w ⟨H,hR,hRp,hus,hk,hul⟩
 refine Ab (Ae (V U U (Bb U U U) (Ac (Z (Ab ?_)))))
 refine Ax U (fun h68=>?_) (fun h68=>?_)
 ·refine Av (Z (Ab (AQ (Ab ?_))))
  obtain ⟨⟨a71,a72,a73,a74,a75,sv76,se77,pv78,pr79⟩,hx70⟩:∃ z9,recs[k]?=some z9:=⟨_,List.getElem?_eq_getElem (show k<recs.length by omega)⟩
  obtain ⟨A80,c81,A82,c83,rfl,rfl,m84,m85,m86,m87⟩:=H.nestRr 5 rfl hx70
  have hr1:=hrs _ (Cb hx70)
  unfold AE at hr1
  dsimp only at hr1
  refine Ae ?_
  have th88:=H.thRr 5 rfl hx70
  refine V U U (AY (p:=AS A26+k*7) U Jb U U (by omega) (by omega) th88 U) (V U U (Bo (cs:=[.int .i64 a71,.int .i64 a72,.int .i64 a73,.int .i64 a74,.int .i64 a75,.slice A80 se77.length c81,.slice A82 pr79.length c83]) U KJ U U (H.elsRr 5 U hx70 U)) (Dr U U U Jq H (fun b89 w H=>(BH U U U KJ U U H U (Nat.le_of_ble_eq_true U) (fun u hu=>by simp [Value.cells] at hu;rcases hu with rfl|rfl|rfl|rfl|rfl|rfl|rfl<;>rfl) (fun w H=>?_)))))
  replace H:Hd _ _ _ [blk b89 [.int .i64 a71,.int .i64 a72,.int .i64 a73,.int .i64 a74,.int .i64 a75,.slice A80 se77.length c81,.slice A82 pr79.length c83] 37,blk b67 (Br (.slice A42 J34.us.length c43) (.slice A47 J34.map.length c48) (.slice A52 J34.comb.length c53) (.slice A57 J34.red.length c58) (.slice A62 J34.marks.length c63) J34 C.w C.t C.o p ep R.g hv b41 vs) 185,Y (Am Ag) (.slice A42 J34.us.length c43) J34.us,Y Af (.slice A47 J34.map.length c48) J34.map,Y Af (.slice A52 J34.comb.length c53) J34.comb,Y Af (.slice A57 J34.red.length c58) J34.red,Y (Ai .i64) (.slice A62 J34.marks.length c63) J34.marks,BK (R.g) hv,Y (Am (Ai .i64)) vs us,CD 253 b41 ([])] [Aa (Am Ag) (.slice A1 C.J.us.length c2) C.J.us,Aa Af (.slice A6 C.J.map.length c7) C.J.map,Aa Af (.slice A11 C.J.comb.length c12) C.J.comb,Aa Af (.slice A16 C.J.red.length c17) C.J.red,Aa (Ai .i64) (.slice A21 C.J.marks.length c22) C.J.marks,Aa B4 (.slice A26 recs.length c27) recs]:=H
  refine Ac (Z (Ab (Ab (Ae (V U U (Aj U Tt U) (V U U (Al U AA U (H.cellI 0 U U)) (Ad U (V U U (C9 U U U) (Ac (Z ?_))))))))))
  refine Ax U (fun h90=>?_) (fun h90=>?_)
  ·refine BD (AM (BE (Z (Ae (V U U (AU (z:=((k+1:Nat):Int)) U U U (by rw [AB (by omega) (by omega)];omega)) (Ad U (Ac ?_)))))))
   have hpart:(Bm.p (⟨a71,a72,a73,a74,a75,.slice A80 se77.length c81,se77,.slice A82 pr79.length c83,pr79⟩:Bm)).part≠R.part:=by rw [hRp];exact h90
   have hR2:=Fw hR hx70 (X0 hpart)
   replace H:=H.p9.p9.p9.p9.p9.p9.p9.p9.p9.k9
   exact Bf (s:=(k,R,hv,undef,us)) (k+1,R,hv,vs,us) ⟨rfl,rfl,rfl,rfl,rfl,rfl,rfl,trivial⟩ ⟨H,hR2,hRp,by (try dsimp only);exact hus,by (try dsimp only);omega,by (try dsimp only);omega⟩ (by (try dsimp only);omega)
  refine Av (Z (Ab (Ab ?_)))
  by_cases hin91:0≤a73∧a73<((J34.us.length:Nat):Int)
  ·refine Ae (Ad U (V U U (Aj U Ot U) (V U U (Al U AA U (H.cellI 0 U U)) (sc (RG b67 A42 J34.us.length c43 (.slice A47 J34.map.length c48) (.slice A52 J34.comb.length c53) (.slice A57 J34.red.length c58) (.slice A62 J34.marks.length c63) J34 C.w C.t C.o p ep R.g hv b41 vs a73 (by first |assumption|omega) (by first |assumption|omega)) H (lA 1 U (fun _ h=>h) l0) U U (Au OZ U U) ?_))))
   rintro _ _ w ⟨rfl,rfl⟩ H
   refine Ad U (Ac (Z (Ab (Ae (V U U (Aj U GM U) (V U U (Al U AA U (H.cellI 0 U U)) (V U U (A0 U U U) (Ad U ?_))))))))
   refine AN (d:=46) U (fun h92=>?_) (fun h92=>?_)
   ·refine Ad U (V U U (I2 U Rc U U) (Ah 3 U (V U U (AH U U) (V U U (Aj U JK U) (V U U (Al U Fg U (H.cellI 1 U (My (by omega)))) (V U U (FP U U U) (Ad U (Ac (Z ?_)))))))))
    refine DQ (b:=!((R.g ((a73).toNat)).merged)) U (fun h93=>?_) (fun h93=>?_)
    ·refine Ae (Ah 2 U (V U U (Aj U Tu U) (V U U (Al U EO U (H.cellI 0 U U)) (sc (Jx (.slice A82 pr79.length c83) pr79 (by first |assumption|omega)) H (lX (fun F hA hR=>QB (hR _ (List.mem_of_getElem? (i:=5) U)) hx70) l0) U U (Au JU U U) ?_))))
     rintro v94 _ w rfl H
     refine V U U (AH U U) (V U U (Aj U JK U) ?_)
     replace H:=H.p2
     refine BH U U U Fg U U H U (by show 14+((a73).toNat)*5+0+1≤46;omega) (fun u hu=>by simp [Value.cells] at hu;subst hu;rfl) (fun w H=>?_)
     replace H:Hd w0 F0 w [blk b67 (Br (.slice A42 J34.us.length c43) (.slice A47 J34.map.length c48) (.slice A52 J34.comb.length c53) (.slice A57 J34.red.length c58) (.slice A62 J34.marks.length c63) J34 C.w C.t C.o p ep (CS R.g ((a73).toNat) { R.g ((a73).toNat) with merged:=true }) hv b41 vs) 185,Y Ag v94 pr79,blk b89 [.int .i64 a71,.int .i64 a72,.int .i64 a73,.int .i64 a74,.int .i64 a75,.slice A80 se77.length c81,.slice A82 pr79.length c83] 37,Y (Am Ag) (.slice A42 J34.us.length c43) J34.us,Y Af (.slice A47 J34.map.length c48) J34.map,Y Af (.slice A52 J34.comb.length c53) J34.comb,Y Af (.slice A57 J34.red.length c58) J34.red,Y (Ai .i64) (.slice A62 J34.marks.length c63) J34.marks,BK (R.g) hv,Y (Am (Ai .i64)) vs us,CD 253 b41 ([])] [Aa (Am Ag) (.slice A1 C.J.us.length c2) C.J.us,Aa Af (.slice A6 C.J.map.length c7) C.J.map,Aa Af (.slice A11 C.J.comb.length c12) C.J.comb,Aa Af (.slice A16 C.J.red.length c17) C.J.red,Aa (Ai .i64) (.slice A21 C.J.marks.length c22) C.J.marks,Aa B4 (.slice A26 recs.length c27) recs]:=by rw [←X5 (show (a73).toNat<6 by omega) true];exact H
     refine V U U (AH U U) (V U U (Aj U Of U) ?_)
     obtain ⟨A95,c96,rfl,hc97,hm98,hp99⟩:=H.fA 1 rfl
     refine BH U U U EO U U H U (by show 14+((a73).toNat)*5+1+1≤46;omega) (fun u hu=>by simp [Value.cells] at hu;subst hu;rfl) (fun w H=>?_)
     replace H:Hd w0 F0 w [blk b67 (Br (.slice A42 J34.us.length c43) (.slice A47 J34.map.length c48) (.slice A52 J34.comb.length c53) (.slice A57 J34.red.length c58) (.slice A62 J34.marks.length c63) J34 C.w C.t C.o p ep (CS R.g ((a73).toNat) { R.g ((a73).toNat) with merged:=true }) (CS hv ((a73).toNat) (.slice A95 pr79.length c96:Value)) b41 vs) 185,Y Ag (.slice A95 pr79.length c96) pr79,blk b89 [.int .i64 a71,.int .i64 a72,.int .i64 a73,.int .i64 a74,.int .i64 a75,.slice A80 se77.length c81,.slice A82 pr79.length c83] 37,Y (Am Ag) (.slice A42 J34.us.length c43) J34.us,Y Af (.slice A47 J34.map.length c48) J34.map,Y Af (.slice A52 J34.comb.length c53) J34.comb,Y Af (.slice A57 J34.red.length c58) J34.red,Y (Ai .i64) (.slice A62 J34.marks.length c63) J34.marks,BK (R.g) hv,Y (Am (Ai .i64)) vs us,CD 253 b41 ([])] [Aa (Am Ag) (.slice A1 C.J.us.length c2) C.J.us,Aa Af (.slice A6 C.J.map.length c7) C.J.map,Aa Af (.slice A11 C.J.comb.length c12) C.J.comb,Aa Af (.slice A16 C.J.red.length c17) C.J.red,Aa (Ai .i64) (.slice A21 C.J.marks.length c22) C.J.marks,Aa B4 (.slice A26 recs.length c27) recs]:=by rw [←X6 (show (a73).toNat<6 by omega) (.slice A95 pr79.length c96:Value)];exact H
     refine Ac (Z (Ab (Ae (V U U (Aj U GM U) (V U U (Al U AA U (H.cellI 2 U U)) (V U U (A0 U U U) (Ac (Z ?_))))))))
     refine Ax U (fun h100=>?_) (fun h100=>?_)
     ·exfalso;omega
     refine Av (AT (Z (Ae (V U U (AU (z:=((k+1:Nat):Int)) U U U (by rw [AB (by omega) (by omega)];omega)) (Ad U (Ac ?_))))))
     have hpart:(Bm.p (⟨a71,a72,a73,a74,a75,.slice A80 se77.length c81,se77,.slice A82 pr79.length c83,pr79⟩:Bm)).part=R.part:=by rw [hRp];exact Classical.not_not.1 h90
     replace H:=H.pick 10 rfl|>.pick 10 rfl|>.p9|>.p9|>.p9|>.p9|>.p9|>.p7|>.pick 10 rfl|>.p9|>.k10|>.prsU (i:=(a73).toNat) (x:=({ R.g (a73).toNat with merged:=true,pairs:=pr79 }:Dh)) (by omega)
     replace H:Hd w0 F0 w [BK (({ R with g:=CS R.g (a73).toNat ({ R.g (a73).toNat with merged:=true,pairs:=pr79 }:Dh) }:AK).g) (CS hv (a73).toNat (.slice A95 pr79.length c96:Value)),blk b67 (Br (.slice A42 J34.us.length c43) (.slice A47 J34.map.length c48) (.slice A52 J34.comb.length c53) (.slice A57 J34.red.length c58) (.slice A62 J34.marks.length c63) J34 C.w C.t C.o p ep (({ R with g:=CS R.g (a73).toNat ({ R.g (a73).toNat with merged:=true,pairs:=pr79 }:Dh) }:AK).g) (CS hv (a73).toNat (.slice A95 pr79.length c96:Value)) b41 vs) 185,Y (Am Ag) (.slice A42 J34.us.length c43) J34.us,Y Af (.slice A47 J34.map.length c48) J34.map,Y Af (.slice A52 J34.comb.length c53) J34.comb,Y Af (.slice A57 J34.red.length c58) J34.red,Y (Ai .i64) (.slice A62 J34.marks.length c63) J34.marks,Y (Am (Ai .i64)) vs us,CD 253 b41 ([])] [Aa (Am Ag) (.slice A1 C.J.us.length c2) C.J.us,Aa Af (.slice A6 C.J.map.length c7) C.J.map,Aa Af (.slice A11 C.J.comb.length c12) C.J.comb,Aa Af (.slice A16 C.J.red.length c17) C.J.red,Aa (Ai .i64) (.slice A21 C.J.marks.length c22) C.J.marks,Aa B4 (.slice A26 recs.length c27) recs]:=by
       rw [←X4 (g:=CS R.g (a73).toNat { R.g (a73).toNat with merged:=true }) (g':=({ R with g:=CS R.g (a73).toNat ({ R.g (a73).toNat with merged:=true,pairs:=pr79 }:Dh) }:AK).g) (fun j=>by dsimp only;by_cases e:j=(a73).toNat<;>first |(subst e;rw [Hl,Hl];exact ⟨rfl,rfl,rfl,rfl⟩)|(rw [Hk _ _ e,Hk _ _ e];exact ⟨rfl,rfl,rfl,rfl⟩))]
       exact H
     have hR2:=Fw hR hx70 (XY hpart h92 hin91 (by simpa [Bm.p] using h93))
     replace H:=H.sel 9 [1,2,3,4,5,6,0,7,8] [] rfl (by kernel_rfl)
     replace H:Hd _ _ _ [blk b67 (Br (.slice A42 J34.us.length c43) (.slice A47 J34.map.length c48) (.slice A52 J34.comb.length c53) (.slice A57 J34.red.length c58) (.slice A62 J34.marks.length c63) J34 C.w C.t C.o p ep (({ R with g:=CS R.g (a73).toNat ({ R.g (a73).toNat with merged:=true,pairs:=pr79 }:Dh) }:AK).g) (CS hv (a73).toNat (.slice A95 pr79.length c96:Value)) b41 vs) 185,Y (Am Ag) (.slice A42 J34.us.length c43) J34.us,Y Af (.slice A47 J34.map.length c48) J34.map,Y Af (.slice A52 J34.comb.length c53) J34.comb,Y Af (.slice A57 J34.red.length c58) J34.red,Y (Ai .i64) (.slice A62 J34.marks.length c63) J34.marks,BK (({ R with g:=CS R.g (a73).toNat ({ R.g (a73).toNat with merged:=true,pairs:=pr79 }:Dh) }:AK).g) (CS hv (a73).toNat (.slice A95 pr79.length c96:Value)),Y (Am (Ai .i64)) vs us,CD 253 b41 ([])] [Aa (Am Ag) (.slice A1 C.J.us.length c2) C.J.us,Aa Af (.slice A6 C.J.map.length c7) C.J.map,Aa Af (.slice A11 C.J.comb.length c12) C.J.comb,Aa Af (.slice A16 C.J.red.length c17) C.J.red,Aa (Ai .i64) (.slice A21 C.J.marks.length c22) C.J.marks,Aa B4 (.slice A26 recs.length c27) recs]:=H
     exact Bf (s:=(k,R,hv,undef,us)) (k+1,({ R with g:=CS R.g (a73).toNat ({ R.g (a73).toNat with merged:=true,pairs:=pr79 }:Dh) }:AK),CS hv (a73).toNat (.slice A95 pr79.length c96:Value),vs,us) ⟨rfl,rfl,rfl,rfl,rfl,rfl,rfl,trivial⟩ ⟨H,hR2,hRp,by (try dsimp only);exact hus,by (try dsimp only);omega,by (try dsimp only);omega⟩ (by (try dsimp only);omega)
    refine Av (Z (Ab (Ae (V U U (Aj U GM U) (V U U (Al U AA U (H.cellI 0 U U)) (V U U (A0 U U U) (Ac (Z ?_))))))))
    refine Ax U (fun h101=>?_) (fun h101=>?_)
    ·exfalso;omega
    refine Av (AT (Z (Ae (V U U (AU (z:=((k+1:Nat):Int)) U U U (by rw [AB (by omega) (by omega)];omega)) (Ad U (Ac ?_))))))
    have hpart:(Bm.p (⟨a71,a72,a73,a74,a75,.slice A80 se77.length c81,se77,.slice A82 pr79.length c83,pr79⟩:Bm)).part=R.part:=by rw [hRp];exact Classical.not_not.1 h90
    have hR2:=Fw hR hx70 (Km hpart (fun h=>by have h2:=h.2.2;have h3:=h93;dsimp only [Bm.p] at h2;rw [h2] at h3;exact absurd h3 (by decide)) h101)
    replace H:=H.p9.p9.p9.p9.p9.p9.p9.p9.p9.k9
    exact Bf (s:=(k,R,hv,undef,us)) (k+1,R,hv,vs,us) ⟨rfl,rfl,rfl,rfl,rfl,rfl,rfl,trivial⟩ ⟨H,hR2,hRp,by (try dsimp only);exact hus,by (try dsimp only);omega,by (try dsimp only);omega⟩ (by (try dsimp only);omega)
   refine Ah 10 U (Ac (Z (B2 U (Av (Z (Ab (Ae (V U U (Aj U GM U) (V U U (Al U AA U (H.cellI 0 U U)) (V U U (A0 U U U) (Ac (Z ?_))))))))))))
   refine Ax U (fun h102=>?_) (fun h102=>?_)
   ·replace H:=H.p9.p8.p8.p8.p8.p8.p8.p7
    refine B3 (.e 0 (.e 1 (.e 2 (.e 3 (.e 5 (.e 6 (.b 4 7 (.m 7 (.m 8 (.m 9 (.e 10 (.e 11 (.m 12 .z)))))) (.b 4 8 (.m 8 (.m 9 (.e 10 (.e 11 (.m 12 .z))))) (.m 4 (.m 9 (.e 10 (.e 11 (.m 12 .z))))))))))))) (fun w=>∃ Ar,Hd w0 F0 w (blk b89 [.int .i64 a71,.int .i64 a72,.int .i64 a73,.int .i64 a74,.int .i64 a75,.slice A80 se77.length c81,.slice A82 pr79.length c83] 37::Y (Am Ag) (.slice A42 J34.us.length c43) J34.us::Y Af (.slice A47 J34.map.length c48) J34.map::Y Af (.slice A52 J34.comb.length c53) J34.comb::Y Af (.slice A57 J34.red.length c58) J34.red::Y (Ai .i64) (.slice A62 J34.marks.length c63) J34.marks::BK (R.g) hv::CD 253 b41 ([])::Ar) [Aa (Am Ag) (.slice A1 C.J.us.length c2) C.J.us,Aa Af (.slice A6 C.J.map.length c7) C.J.map,Aa Af (.slice A11 C.J.comb.length c12) C.J.comb,Aa Af (.slice A16 C.J.red.length c17) C.J.red,Aa (Ai .i64) (.slice A21 C.J.marks.length c22) C.J.marks,Aa B4 (.slice A26 recs.length c27) recs]) mo (by kernel_rfl) (fun w H=>⟨_,H⟩) H (fun w H=>?_)
    refine At U (At U (Ao U U U (fun w ⟨Ar,H⟩=>AH U U) (Ao U U U (fun w ⟨Ar,H⟩=>Aj U GK U) (Ao U U U (fun w ⟨Ar,H⟩=>Aj U Ou U) (Ao U U U (fun w ⟨Ar,H⟩=>Al U EY U (H.cellI 0 U U)) ?_)))))
    refine HE U U ?_ ?_
    ·refine V U U (Al U FB U (H.cellI 8 U U)) (AI ⟨_,H⟩ (AR U (sc (HC (.slice A80 se77.length c81) se77 (by first |assumption|omega)) H (lX (fun F hA hR=>I5 (hR _ (List.mem_of_getElem? (i:=5) U)) hx70) l0) U U (Au HT U U) ?_)))
     rintro v103 _ w rfl H
     replace H:=H.h1 (A:=Y (Ai .i64) v103 se77)|>.p8|>.p8|>.p8|>.p8|>.p8|>.p8|>.p8|>.p8
     refine AI ⟨_,H⟩ (AR U ?_)
     obtain ⟨A105,c106,rfl,hc107,hm108,hp109⟩:=H.fA 8 rfl
     refine BX (parts:=[(0,.tmp 76)]) (vs:=[.slice A105 se77.length c106]) (cs:=[.slice A105 se77.length c106]) U U U Fy FE U (by decide) (by decide) U U H (fun b104 w H=>?_)
     replace H:Hd _ _ _ [blk b104 [.slice A105 se77.length c106] 24,blk b89 [.int .i64 a71,.int .i64 a72,.int .i64 a73,.int .i64 a74,.int .i64 a75,.slice A80 se77.length c81,.slice A82 pr79.length c83] 37,Y (Am Ag) (.slice A42 J34.us.length c43) J34.us,Y Af (.slice A47 J34.map.length c48) J34.map,Y Af (.slice A52 J34.comb.length c53) J34.comb,Y Af (.slice A57 J34.red.length c58) J34.red,Y (Ai .i64) (.slice A62 J34.marks.length c63) J34.marks,BK (R.g) hv,CD 253 b41 ([]),Y (Ai .i64) (.slice A105 se77.length c106) se77,blk b67 (Br (.slice A42 J34.us.length c43) (.slice A47 J34.map.length c48) (.slice A52 J34.comb.length c53) (.slice A57 J34.red.length c58) (.slice A62 J34.marks.length c63) J34 C.w C.t C.o p ep R.g hv b41 vs) 185,Y (Am (Ai .i64)) vs us] [Aa (Am Ag) (.slice A1 C.J.us.length c2) C.J.us,Aa Af (.slice A6 C.J.map.length c7) C.J.map,Aa Af (.slice A11 C.J.comb.length c12) C.J.comb,Aa Af (.slice A16 C.J.red.length c17) C.J.red,Aa (Ai .i64) (.slice A21 C.J.marks.length c22) C.J.marks,Aa B4 (.slice A26 recs.length c27) recs]:=H
     replace H:=H.p8.p8.p8.p8.p8.p8.p8.p8
     refine AI ⟨_,H⟩ (AR U ?_)
     replace H:=H.pick 11 rfl|>.pick 10 rfl|>.pick 10 rfl|>.p2
     refine If U U U Fy FE U (by decide) U U H (by first |omega|(simp only [List.length_append,List.length_cons,List.length_nil];omega)) (fun v110 w H=>?_)
     replace H:=H.h1 (A:=Y (Am (Ai .i64)) v110 (us++[((.slice A105 se77.length c106:Value),se77)]))|>.p8|>.p8|>.p8|>.p8|>.p8|>.p8|>.p8|>.p8
     refine AI ⟨_,H⟩ (Ao U U U (fun w ⟨Ar,H⟩=>AH U U) (Ao U U U (fun w ⟨Ar,H⟩=>Aj U GK U) (AR U ?_)))
     obtain ⟨A111,c112,rfl,hc113,hm114,hp115⟩:=H.fA 8 rfl
     replace H:=H.p9
     refine BH U U U FB U U H U (Nat.le_of_ble_eq_true U) (fun u hu=>by simp [Value.cells] at hu;subst hu;rfl) (fun w H=>?_)
     replace H:Hd _ _ _ [blk b67 (Br (.slice A42 J34.us.length c43) (.slice A47 J34.map.length c48) (.slice A52 J34.comb.length c53) (.slice A57 J34.red.length c58) (.slice A62 J34.marks.length c63) J34 C.w C.t C.o p ep R.g hv b41 (.slice A111 ((us++[((.slice A105 se77.length c106:Value),se77)]).length) c112)) 185,blk b89 [.int .i64 a71,.int .i64 a72,.int .i64 a73,.int .i64 a74,.int .i64 a75,.slice A80 se77.length c81,.slice A82 pr79.length c83] 37,Y (Am Ag) (.slice A42 J34.us.length c43) J34.us,Y Af (.slice A47 J34.map.length c48) J34.map,Y Af (.slice A52 J34.comb.length c53) J34.comb,Y Af (.slice A57 J34.red.length c58) J34.red,Y (Ai .i64) (.slice A62 J34.marks.length c63) J34.marks,BK (R.g) hv,CD 253 b41 ([]),Y (Am (Ai .i64)) (.slice A111 ((us++[((.slice A105 se77.length c106:Value),se77)]).length) c112) (us++[((.slice A105 se77.length c106:Value),se77)])] [Aa (Am Ag) (.slice A1 C.J.us.length c2) C.J.us,Aa Af (.slice A6 C.J.map.length c7) C.J.map,Aa Af (.slice A11 C.J.comb.length c12) C.J.comb,Aa Af (.slice A16 C.J.red.length c17) C.J.red,Aa (Ai .i64) (.slice A21 C.J.marks.length c22) C.J.marks,Aa B4 (.slice A26 recs.length c27) recs]:=H
     replace H:=H.p8.p8.p8.p8.p8.p8.p8.p8
     refine AI ⟨_,H⟩ (BM (AT (Z (Ae (V U U (AU (z:=((k+1:Nat):Int)) U U U (by rw [AB (by omega) (by omega)];omega)) (Ad U (Ac ?_)))))))
     have hpart:(Bm.p (⟨a71,a72,a73,a74,a75,.slice A80 se77.length c81,se77,.slice A82 pr79.length c83,pr79⟩:Bm)).part=R.part:=by rw [hRp];exact Classical.not_not.1 h90
     have hR2:=Fw hR hx70 (Ia hpart h102)
     replace H:=H.p7.p9.p8.p8.p8.p8.p8.p8.p9.k9.h7 (A:=blk b67 (Br (.slice A42 J34.us.length c43) (.slice A47 J34.map.length c48) (.slice A52 J34.comb.length c53) (.slice A57 J34.red.length c58) (.slice A62 J34.marks.length c63) J34 C.w C.t C.o p ep (({ R with sets:=R.sets++[se77] }:AK).g) hv b41 (.slice A111 ((us++[((.slice A105 se77.length c106:Value),se77)]).length) c112)) 185) (G:=BK (({ R with sets:=R.sets++[se77] }:AK).g) hv)
     exact Bf (s:=(k,R,hv,undef,us)) (k+1,({ R with sets:=R.sets++[se77] }:AK),hv,.slice A111 ((us++[((.slice A105 se77.length c106:Value),se77)]).length) c112,us++[((.slice A105 se77.length c106:Value),se77)]) ⟨rfl,rfl,rfl,rfl,rfl,rfl,rfl,trivial⟩ ⟨H,hR2,hRp,by (try dsimp only);rw [List.map_append,hus];rfl,by (try dsimp only);omega,by (try dsimp only);rw [List.length_append];simp only [List.length_cons,List.length_nil];omega⟩ (by (try dsimp only);omega)
    refine sc (HC (.slice A80 se77.length c81) se77 (by first |assumption|omega)) H (lX (fun F hA hR=>I5 (hR _ (List.mem_of_getElem? (i:=5) U)) hx70) l0) U U (Au HT U U) ?_
    rintro v116 _ w rfl H
    replace H:=H.h1 (A:=Y (Ai .i64) v116 se77)|>.p8|>.p8|>.p8|>.p8|>.p8|>.p8|>.p8|>.p8
    refine AI ⟨_,H⟩ ?_
    refine HE U U ?_ ?_
    ·refine V U U (Al U FB U (H.cellI 9 U U)) (AI ⟨_,H⟩ (AR U ?_))
     obtain ⟨A118,c119,rfl,hc120,hm121,hp122⟩:=H.fA 8 rfl
     refine BX (parts:=[(0,.tmp 76)]) (vs:=[.slice A118 se77.length c119]) (cs:=[.slice A118 se77.length c119]) U U U Fy FE U (by decide) (by decide) U U H (fun b117 w H=>?_)
     replace H:Hd _ _ _ [blk b117 [.slice A118 se77.length c119] 24,blk b89 [.int .i64 a71,.int .i64 a72,.int .i64 a73,.int .i64 a74,.int .i64 a75,.slice A80 se77.length c81,.slice A82 pr79.length c83] 37,Y (Am Ag) (.slice A42 J34.us.length c43) J34.us,Y Af (.slice A47 J34.map.length c48) J34.map,Y Af (.slice A52 J34.comb.length c53) J34.comb,Y Af (.slice A57 J34.red.length c58) J34.red,Y (Ai .i64) (.slice A62 J34.marks.length c63) J34.marks,BK (R.g) hv,CD 253 b41 ([]),Y (Ai .i64) (.slice A118 se77.length c119) se77,blk b67 (Br (.slice A42 J34.us.length c43) (.slice A47 J34.map.length c48) (.slice A52 J34.comb.length c53) (.slice A57 J34.red.length c58) (.slice A62 J34.marks.length c63) J34 C.w C.t C.o p ep R.g hv b41 vs) 185,Y (Am (Ai .i64)) vs us] [Aa (Am Ag) (.slice A1 C.J.us.length c2) C.J.us,Aa Af (.slice A6 C.J.map.length c7) C.J.map,Aa Af (.slice A11 C.J.comb.length c12) C.J.comb,Aa Af (.slice A16 C.J.red.length c17) C.J.red,Aa (Ai .i64) (.slice A21 C.J.marks.length c22) C.J.marks,Aa B4 (.slice A26 recs.length c27) recs]:=H
     replace H:=H.p8.p8.p8.p8.p8.p8.p8.p8
     refine AI ⟨_,H⟩ (AR U ?_)
     replace H:=H.pick 11 rfl|>.pick 10 rfl|>.pick 10 rfl|>.p2
     refine If U U U Fy FE U (by decide) U U H (by first |omega|(simp only [List.length_append,List.length_cons,List.length_nil];omega)) (fun v123 w H=>?_)
     replace H:=H.h1 (A:=Y (Am (Ai .i64)) v123 (us++[((.slice A118 se77.length c119:Value),se77)]))|>.p8|>.p8|>.p8|>.p8|>.p8|>.p8|>.p8|>.p8
     refine AI ⟨_,H⟩ (Ao U U U (fun w ⟨Ar,H⟩=>AH U U) (Ao U U U (fun w ⟨Ar,H⟩=>Aj U GK U) (AR U ?_)))
     obtain ⟨A124,c125,rfl,hc126,hm127,hp128⟩:=H.fA 8 rfl
     replace H:=H.p9
     refine BH U U U FB U U H U (Nat.le_of_ble_eq_true U) (fun u hu=>by simp [Value.cells] at hu;subst hu;rfl) (fun w H=>?_)
     replace H:Hd _ _ _ [blk b67 (Br (.slice A42 J34.us.length c43) (.slice A47 J34.map.length c48) (.slice A52 J34.comb.length c53) (.slice A57 J34.red.length c58) (.slice A62 J34.marks.length c63) J34 C.w C.t C.o p ep R.g hv b41 (.slice A124 ((us++[((.slice A118 se77.length c119:Value),se77)]).length) c125)) 185,blk b89 [.int .i64 a71,.int .i64 a72,.int .i64 a73,.int .i64 a74,.int .i64 a75,.slice A80 se77.length c81,.slice A82 pr79.length c83] 37,Y (Am Ag) (.slice A42 J34.us.length c43) J34.us,Y Af (.slice A47 J34.map.length c48) J34.map,Y Af (.slice A52 J34.comb.length c53) J34.comb,Y Af (.slice A57 J34.red.length c58) J34.red,Y (Ai .i64) (.slice A62 J34.marks.length c63) J34.marks,BK (R.g) hv,CD 253 b41 ([]),Y (Am (Ai .i64)) (.slice A124 ((us++[((.slice A118 se77.length c119:Value),se77)]).length) c125) (us++[((.slice A118 se77.length c119:Value),se77)])] [Aa (Am Ag) (.slice A1 C.J.us.length c2) C.J.us,Aa Af (.slice A6 C.J.map.length c7) C.J.map,Aa Af (.slice A11 C.J.comb.length c12) C.J.comb,Aa Af (.slice A16 C.J.red.length c17) C.J.red,Aa (Ai .i64) (.slice A21 C.J.marks.length c22) C.J.marks,Aa B4 (.slice A26 recs.length c27) recs]:=H
     replace H:=H.p8.p8.p8.p8.p8.p8.p8.p8
     refine AI ⟨_,H⟩ (BM (AT (Z (Ae (V U U (AU (z:=((k+1:Nat):Int)) U U U (by rw [AB (by omega) (by omega)];omega)) (Ad U (Ac ?_)))))))
     have hpart:(Bm.p (⟨a71,a72,a73,a74,a75,.slice A80 se77.length c81,se77,.slice A82 pr79.length c83,pr79⟩:Bm)).part=R.part:=by rw [hRp];exact Classical.not_not.1 h90
     have hR2:=Fw hR hx70 (Ia hpart h102)
     replace H:=H.p7.p9.p8.p8.p8.p8.p8.p8.p9.k9.h7 (A:=blk b67 (Br (.slice A42 J34.us.length c43) (.slice A47 J34.map.length c48) (.slice A52 J34.comb.length c53) (.slice A57 J34.red.length c58) (.slice A62 J34.marks.length c63) J34 C.w C.t C.o p ep (({ R with sets:=R.sets++[se77] }:AK).g) hv b41 (.slice A124 ((us++[((.slice A118 se77.length c119:Value),se77)]).length) c125)) 185) (G:=BK (({ R with sets:=R.sets++[se77] }:AK).g) hv)
     exact Bf (s:=(k,R,hv,undef,us)) (k+1,({ R with sets:=R.sets++[se77] }:AK),hv,.slice A124 ((us++[((.slice A118 se77.length c119:Value),se77)]).length) c125,us++[((.slice A118 se77.length c119:Value),se77)]) ⟨rfl,rfl,rfl,rfl,rfl,rfl,rfl,trivial⟩ ⟨H,hR2,hRp,by (try dsimp only);rw [List.map_append,hus];rfl,by (try dsimp only);omega,by (try dsimp only);rw [List.length_append];simp only [List.length_cons,List.length_nil];omega⟩ (by (try dsimp only);omega)
    obtain ⟨A130,c131,rfl,hc132,hm133,hp134⟩:=H.fA 8 rfl
    refine BX (parts:=[(0,.tmp 76)]) (vs:=[.slice A130 se77.length c131]) (cs:=[.slice A130 se77.length c131]) U U U Fy FE U (by decide) (by decide) U U H (fun b129 w H=>?_)
    replace H:Hd _ _ _ [blk b129 [.slice A130 se77.length c131] 24,blk b89 [.int .i64 a71,.int .i64 a72,.int .i64 a73,.int .i64 a74,.int .i64 a75,.slice A80 se77.length c81,.slice A82 pr79.length c83] 37,Y (Am Ag) (.slice A42 J34.us.length c43) J34.us,Y Af (.slice A47 J34.map.length c48) J34.map,Y Af (.slice A52 J34.comb.length c53) J34.comb,Y Af (.slice A57 J34.red.length c58) J34.red,Y (Ai .i64) (.slice A62 J34.marks.length c63) J34.marks,BK (R.g) hv,CD 253 b41 ([]),Y (Ai .i64) (.slice A130 se77.length c131) se77,blk b67 (Br (.slice A42 J34.us.length c43) (.slice A47 J34.map.length c48) (.slice A52 J34.comb.length c53) (.slice A57 J34.red.length c58) (.slice A62 J34.marks.length c63) J34 C.w C.t C.o p ep R.g hv b41 vs) 185,Y (Am (Ai .i64)) vs us] [Aa (Am Ag) (.slice A1 C.J.us.length c2) C.J.us,Aa Af (.slice A6 C.J.map.length c7) C.J.map,Aa Af (.slice A11 C.J.comb.length c12) C.J.comb,Aa Af (.slice A16 C.J.red.length c17) C.J.red,Aa (Ai .i64) (.slice A21 C.J.marks.length c22) C.J.marks,Aa B4 (.slice A26 recs.length c27) recs]:=H
    replace H:=H.p8.p8.p8.p8.p8.p8.p8.p8
    refine AI ⟨_,H⟩ (AR U (V U U (Al U FB U (H.cellI 10 U U)) (AI ⟨_,H⟩ (AR U ?_))))
    replace H:=H.pick 11 rfl|>.pick 10 rfl|>.pick 10 rfl|>.p2
    refine If U U U Fy FE U (by decide) U U H (by first |omega|(simp only [List.length_append,List.length_cons,List.length_nil];omega)) (fun v135 w H=>?_)
    replace H:=H.h1 (A:=Y (Am (Ai .i64)) v135 (us++[((.slice A130 se77.length c131:Value),se77)]))|>.p8|>.p8|>.p8|>.p8|>.p8|>.p8|>.p8|>.p8
    refine AI ⟨_,H⟩ (Ao U U U (fun w ⟨Ar,H⟩=>AH U U) (Ao U U U (fun w ⟨Ar,H⟩=>Aj U GK U) (AR U ?_)))
    obtain ⟨A136,c137,rfl,hc138,hm139,hp140⟩:=H.fA 8 rfl
    replace H:=H.p9
    refine BH U U U FB U U H U (Nat.le_of_ble_eq_true U) (fun u hu=>by simp [Value.cells] at hu;subst hu;rfl) (fun w H=>?_)
    replace H:Hd _ _ _ [blk b67 (Br (.slice A42 J34.us.length c43) (.slice A47 J34.map.length c48) (.slice A52 J34.comb.length c53) (.slice A57 J34.red.length c58) (.slice A62 J34.marks.length c63) J34 C.w C.t C.o p ep R.g hv b41 (.slice A136 ((us++[((.slice A130 se77.length c131:Value),se77)]).length) c137)) 185,blk b89 [.int .i64 a71,.int .i64 a72,.int .i64 a73,.int .i64 a74,.int .i64 a75,.slice A80 se77.length c81,.slice A82 pr79.length c83] 37,Y (Am Ag) (.slice A42 J34.us.length c43) J34.us,Y Af (.slice A47 J34.map.length c48) J34.map,Y Af (.slice A52 J34.comb.length c53) J34.comb,Y Af (.slice A57 J34.red.length c58) J34.red,Y (Ai .i64) (.slice A62 J34.marks.length c63) J34.marks,BK (R.g) hv,CD 253 b41 ([]),Y (Am (Ai .i64)) (.slice A136 ((us++[((.slice A130 se77.length c131:Value),se77)]).length) c137) (us++[((.slice A130 se77.length c131:Value),se77)])] [Aa (Am Ag) (.slice A1 C.J.us.length c2) C.J.us,Aa Af (.slice A6 C.J.map.length c7) C.J.map,Aa Af (.slice A11 C.J.comb.length c12) C.J.comb,Aa Af (.slice A16 C.J.red.length c17) C.J.red,Aa (Ai .i64) (.slice A21 C.J.marks.length c22) C.J.marks,Aa B4 (.slice A26 recs.length c27) recs]:=H
    replace H:=H.p8.p8.p8.p8.p8.p8.p8.p8
    refine AI ⟨_,H⟩ (BM (AT (Z (Ae (V U U (AU (z:=((k+1:Nat):Int)) U U U (by rw [AB (by omega) (by omega)];omega)) (Ad U (Ac ?_)))))))
    have hpart:(Bm.p (⟨a71,a72,a73,a74,a75,.slice A80 se77.length c81,se77,.slice A82 pr79.length c83,pr79⟩:Bm)).part=R.part:=by rw [hRp];exact Classical.not_not.1 h90
    have hR2:=Fw hR hx70 (Ia hpart h102)
    replace H:=H.p7.p9.p8.p8.p8.p8.p8.p8.p9.k9.h7 (A:=blk b67 (Br (.slice A42 J34.us.length c43) (.slice A47 J34.map.length c48) (.slice A52 J34.comb.length c53) (.slice A57 J34.red.length c58) (.slice A62 J34.marks.length c63) J34 C.w C.t C.o p ep (({ R with sets:=R.sets++[se77] }:AK).g) hv b41 (.slice A136 ((us++[((.slice A130 se77.length c131:Value),se77)]).length) c137)) 185) (G:=BK (({ R with sets:=R.sets++[se77] }:AK).g) hv)
    exact Bf (s:=(k,R,hv,undef,us)) (k+1,({ R with sets:=R.sets++[se77] }:AK),hv,.slice A136 ((us++[((.slice A130 se77.length c131:Value),se77)]).length) c137,us++[((.slice A130 se77.length c131:Value),se77)]) ⟨rfl,rfl,rfl,rfl,rfl,rfl,rfl,trivial⟩ ⟨H,hR2,hRp,by (try dsimp only);rw [List.map_append,hus];rfl,by (try dsimp only);omega,by (try dsimp only);rw [List.length_append];simp only [List.length_cons,List.length_nil];omega⟩ (by (try dsimp only);omega)
   refine Av (AT (Z (Ae (V U U (AU (z:=((k+1:Nat):Int)) U U U (by rw [AB (by omega) (by omega)];omega)) (Ad U (Ac ?_))))))
   have hpart:(Bm.p (⟨a71,a72,a73,a74,a75,.slice A80 se77.length c81,se77,.slice A82 pr79.length c83,pr79⟩:Bm)).part=R.part:=by rw [hRp];exact Classical.not_not.1 h90
   have hR2:=Fw hR hx70 (Km hpart (fun h=>h92 h.1) h102)
   replace H:=H.p9.p9.p9.p9.p9.p9.p9.p9.p9.k9
   exact Bf (s:=(k,R,hv,undef,us)) (k+1,R,hv,vs,us) ⟨rfl,rfl,rfl,rfl,rfl,rfl,rfl,trivial⟩ ⟨H,hR2,hRp,by (try dsimp only);exact hus,by (try dsimp only);omega,by (try dsimp only);omega⟩ (by (try dsimp only);omega)
  refine Ae (Ad U (V U U (Aj U Ot U) (V U U (Al U AA U (H.cellI 0 U U)) (sc (RF b67 A42 J34.us.length c43 (.slice A47 J34.map.length c48) (.slice A52 J34.comb.length c53) (.slice A57 J34.red.length c58) (.slice A62 J34.marks.length c63) J34 C.w C.t C.o p ep R.g hv b41 vs a73 (by first |assumption|omega)) H (lA 1 U (fun _ h=>h) l0) U U (Au OZ U U) ?_))))
  rintro _ _ w ⟨rfl,rfl⟩ H
  refine Ad U (Ac (Z (Ab (Ae (V U U (Aj U GM U) (V U U (Al U AA U (H.cellI 0 U U)) (V U U (A0 U U U) (Ad U ?_))))))))
  refine AN (d:=46) U (fun h141=>?_) (fun h141=>?_)
  ·refine Ad U (V U U (I2 U Rc U U) (Ah 8 U (Ac (Z (B2 U (Av (Z (Ab (Ae (V U U (Aj U GM U) (V U U (Al U AA U (H.cellI 0 U U)) (V U U (A0 U U U) (Ac (Z ?_))))))))))))))
   refine Ax U (fun h142=>?_) (fun h142=>?_)
   ·exfalso;omega
   refine Av (AT (Z (Ae (V U U (AU (z:=((k+1:Nat):Int)) U U U (by rw [AB (by omega) (by omega)];omega)) (Ad U (Ac ?_))))))
   have hpart:(Bm.p (⟨a71,a72,a73,a74,a75,.slice A80 se77.length c81,se77,.slice A82 pr79.length c83,pr79⟩:Bm)).part=R.part:=by rw [hRp];exact Classical.not_not.1 h90
   have hR2:=Fw hR hx70 (Km hpart (fun h=>hin91 h.2.1) h142)
   replace H:=H.p9.p9.p9.p9.p9.p9.p9.p9.p9.k9
   exact Bf (s:=(k,R,hv,undef,us)) (k+1,R,hv,vs,us) ⟨rfl,rfl,rfl,rfl,rfl,rfl,rfl,trivial⟩ ⟨H,hR2,hRp,by (try dsimp only);exact hus,by (try dsimp only);omega,by (try dsimp only);omega⟩ (by (try dsimp only);omega)
  refine Ah 10 U (Ac (Z (B2 U (Av (Z (Ab (Ae (V U U (Aj U GM U) (V U U (Al U AA U (H.cellI 0 U U)) (V U U (A0 U U U) (Ac (Z ?_))))))))))))
  refine Ax U (fun h143=>?_) (fun h143=>?_)
  ·replace H:=H.p9.p8.p8.p8.p8.p8.p8.p7
   refine B3 (.e 0 (.e 1 (.e 2 (.e 3 (.e 5 (.e 6 (.b 4 7 (.m 7 (.m 8 (.m 9 (.e 10 (.e 11 (.m 12 .z)))))) (.b 4 8 (.m 8 (.m 9 (.e 10 (.e 11 (.m 12 .z))))) (.m 4 (.m 9 (.e 10 (.e 11 (.m 12 .z))))))))))))) (fun w=>∃ Ar,Hd w0 F0 w (blk b89 [.int .i64 a71,.int .i64 a72,.int .i64 a73,.int .i64 a74,.int .i64 a75,.slice A80 se77.length c81,.slice A82 pr79.length c83] 37::Y (Am Ag) (.slice A42 J34.us.length c43) J34.us::Y Af (.slice A47 J34.map.length c48) J34.map::Y Af (.slice A52 J34.comb.length c53) J34.comb::Y Af (.slice A57 J34.red.length c58) J34.red::Y (Ai .i64) (.slice A62 J34.marks.length c63) J34.marks::BK (R.g) hv::CD 253 b41 ([])::Ar) [Aa (Am Ag) (.slice A1 C.J.us.length c2) C.J.us,Aa Af (.slice A6 C.J.map.length c7) C.J.map,Aa Af (.slice A11 C.J.comb.length c12) C.J.comb,Aa Af (.slice A16 C.J.red.length c17) C.J.red,Aa (Ai .i64) (.slice A21 C.J.marks.length c22) C.J.marks,Aa B4 (.slice A26 recs.length c27) recs]) mo (by kernel_rfl) (fun w H=>⟨_,H⟩) H (fun w H=>?_)
   refine At U (At U (Ao U U U (fun w ⟨Ar,H⟩=>AH U U) (Ao U U U (fun w ⟨Ar,H⟩=>Aj U GK U) (Ao U U U (fun w ⟨Ar,H⟩=>Aj U Ou U) (Ao U U U (fun w ⟨Ar,H⟩=>Al U EY U (H.cellI 0 U U)) ?_)))))
   refine HE U U ?_ ?_
   ·refine V U U (Al U FB U (H.cellI 8 U U)) (AI ⟨_,H⟩ (AR U (sc (HC (.slice A80 se77.length c81) se77 (by first |assumption|omega)) H (lX (fun F hA hR=>I5 (hR _ (List.mem_of_getElem? (i:=5) U)) hx70) l0) U U (Au HT U U) ?_)))
    rintro v144 _ w rfl H
    replace H:=H.h1 (A:=Y (Ai .i64) v144 se77)|>.p8|>.p8|>.p8|>.p8|>.p8|>.p8|>.p8|>.p8
    refine AI ⟨_,H⟩ (AR U ?_)
    obtain ⟨A146,c147,rfl,hc148,hm149,hp150⟩:=H.fA 8 rfl
    refine BX (parts:=[(0,.tmp 76)]) (vs:=[.slice A146 se77.length c147]) (cs:=[.slice A146 se77.length c147]) U U U Fy FE U (by decide) (by decide) U U H (fun b145 w H=>?_)
    replace H:Hd _ _ _ [blk b145 [.slice A146 se77.length c147] 24,blk b89 [.int .i64 a71,.int .i64 a72,.int .i64 a73,.int .i64 a74,.int .i64 a75,.slice A80 se77.length c81,.slice A82 pr79.length c83] 37,Y (Am Ag) (.slice A42 J34.us.length c43) J34.us,Y Af (.slice A47 J34.map.length c48) J34.map,Y Af (.slice A52 J34.comb.length c53) J34.comb,Y Af (.slice A57 J34.red.length c58) J34.red,Y (Ai .i64) (.slice A62 J34.marks.length c63) J34.marks,BK (R.g) hv,CD 253 b41 ([]),Y (Ai .i64) (.slice A146 se77.length c147) se77,blk b67 (Br (.slice A42 J34.us.length c43) (.slice A47 J34.map.length c48) (.slice A52 J34.comb.length c53) (.slice A57 J34.red.length c58) (.slice A62 J34.marks.length c63) J34 C.w C.t C.o p ep R.g hv b41 vs) 185,Y (Am (Ai .i64)) vs us] [Aa (Am Ag) (.slice A1 C.J.us.length c2) C.J.us,Aa Af (.slice A6 C.J.map.length c7) C.J.map,Aa Af (.slice A11 C.J.comb.length c12) C.J.comb,Aa Af (.slice A16 C.J.red.length c17) C.J.red,Aa (Ai .i64) (.slice A21 C.J.marks.length c22) C.J.marks,Aa B4 (.slice A26 recs.length c27) recs]:=H
    replace H:=H.p8.p8.p8.p8.p8.p8.p8.p8
    refine AI ⟨_,H⟩ (AR U ?_)
    replace H:=H.pick 11 rfl|>.pick 10 rfl|>.pick 10 rfl|>.p2
    refine If U U U Fy FE U (by decide) U U H (by first |omega|(simp only [List.length_append,List.length_cons,List.length_nil];omega)) (fun v151 w H=>?_)
    replace H:=H.h1 (A:=Y (Am (Ai .i64)) v151 (us++[((.slice A146 se77.length c147:Value),se77)]))|>.p8|>.p8|>.p8|>.p8|>.p8|>.p8|>.p8|>.p8
    refine AI ⟨_,H⟩ (Ao U U U (fun w ⟨Ar,H⟩=>AH U U) (Ao U U U (fun w ⟨Ar,H⟩=>Aj U GK U) (AR U ?_)))
    obtain ⟨A152,c153,rfl,hc154,hm155,hp156⟩:=H.fA 8 rfl
    replace H:=H.p9
    refine BH U U U FB U U H U (Nat.le_of_ble_eq_true U) (fun u hu=>by simp [Value.cells] at hu;subst hu;rfl) (fun w H=>?_)
    replace H:Hd _ _ _ [blk b67 (Br (.slice A42 J34.us.length c43) (.slice A47 J34.map.length c48) (.slice A52 J34.comb.length c53) (.slice A57 J34.red.length c58) (.slice A62 J34.marks.length c63) J34 C.w C.t C.o p ep R.g hv b41 (.slice A152 ((us++[((.slice A146 se77.length c147:Value),se77)]).length) c153)) 185,blk b89 [.int .i64 a71,.int .i64 a72,.int .i64 a73,.int .i64 a74,.int .i64 a75,.slice A80 se77.length c81,.slice A82 pr79.length c83] 37,Y (Am Ag) (.slice A42 J34.us.length c43) J34.us,Y Af (.slice A47 J34.map.length c48) J34.map,Y Af (.slice A52 J34.comb.length c53) J34.comb,Y Af (.slice A57 J34.red.length c58) J34.red,Y (Ai .i64) (.slice A62 J34.marks.length c63) J34.marks,BK (R.g) hv,CD 253 b41 ([]),Y (Am (Ai .i64)) (.slice A152 ((us++[((.slice A146 se77.length c147:Value),se77)]).length) c153) (us++[((.slice A146 se77.length c147:Value),se77)])] [Aa (Am Ag) (.slice A1 C.J.us.length c2) C.J.us,Aa Af (.slice A6 C.J.map.length c7) C.J.map,Aa Af (.slice A11 C.J.comb.length c12) C.J.comb,Aa Af (.slice A16 C.J.red.length c17) C.J.red,Aa (Ai .i64) (.slice A21 C.J.marks.length c22) C.J.marks,Aa B4 (.slice A26 recs.length c27) recs]:=H
    replace H:=H.p8.p8.p8.p8.p8.p8.p8.p8
    refine AI ⟨_,H⟩ (BM (AT (Z (Ae (V U U (AU (z:=((k+1:Nat):Int)) U U U (by rw [AB (by omega) (by omega)];omega)) (Ad U (Ac ?_)))))))
    have hpart:(Bm.p (⟨a71,a72,a73,a74,a75,.slice A80 se77.length c81,se77,.slice A82 pr79.length c83,pr79⟩:Bm)).part=R.part:=by rw [hRp];exact Classical.not_not.1 h90
    have hR2:=Fw hR hx70 (Ia hpart h143)
    replace H:=H.p7.p9.p8.p8.p8.p8.p8.p8.p9.k9.h7 (A:=blk b67 (Br (.slice A42 J34.us.length c43) (.slice A47 J34.map.length c48) (.slice A52 J34.comb.length c53) (.slice A57 J34.red.length c58) (.slice A62 J34.marks.length c63) J34 C.w C.t C.o p ep (({ R with sets:=R.sets++[se77] }:AK).g) hv b41 (.slice A152 ((us++[((.slice A146 se77.length c147:Value),se77)]).length) c153)) 185) (G:=BK (({ R with sets:=R.sets++[se77] }:AK).g) hv)
    exact Bf (s:=(k,R,hv,undef,us)) (k+1,({ R with sets:=R.sets++[se77] }:AK),hv,.slice A152 ((us++[((.slice A146 se77.length c147:Value),se77)]).length) c153,us++[((.slice A146 se77.length c147:Value),se77)]) ⟨rfl,rfl,rfl,rfl,rfl,rfl,rfl,trivial⟩ ⟨H,hR2,hRp,by (try dsimp only);rw [List.map_append,hus];rfl,by (try dsimp only);omega,by (try dsimp only);rw [List.length_append];simp only [List.length_cons,List.length_nil];omega⟩ (by (try dsimp only);omega)
   refine sc (HC (.slice A80 se77.length c81) se77 (by first |assumption|omega)) H (lX (fun F hA hR=>I5 (hR _ (List.mem_of_getElem? (i:=5) U)) hx70) l0) U U (Au HT U U) ?_
   rintro v157 _ w rfl H
   replace H:=H.h1 (A:=Y (Ai .i64) v157 se77)|>.p8|>.p8|>.p8|>.p8|>.p8|>.p8|>.p8|>.p8
   refine AI ⟨_,H⟩ ?_
   refine HE U U ?_ ?_
   ·refine V U U (Al U FB U (H.cellI 9 U U)) (AI ⟨_,H⟩ (AR U ?_))
    obtain ⟨A159,c160,rfl,hc161,hm162,hp163⟩:=H.fA 8 rfl
    refine BX (parts:=[(0,.tmp 76)]) (vs:=[.slice A159 se77.length c160]) (cs:=[.slice A159 se77.length c160]) U U U Fy FE U (by decide) (by decide) U U H (fun b158 w H=>?_)
    replace H:Hd _ _ _ [blk b158 [.slice A159 se77.length c160] 24,blk b89 [.int .i64 a71,.int .i64 a72,.int .i64 a73,.int .i64 a74,.int .i64 a75,.slice A80 se77.length c81,.slice A82 pr79.length c83] 37,Y (Am Ag) (.slice A42 J34.us.length c43) J34.us,Y Af (.slice A47 J34.map.length c48) J34.map,Y Af (.slice A52 J34.comb.length c53) J34.comb,Y Af (.slice A57 J34.red.length c58) J34.red,Y (Ai .i64) (.slice A62 J34.marks.length c63) J34.marks,BK (R.g) hv,CD 253 b41 ([]),Y (Ai .i64) (.slice A159 se77.length c160) se77,blk b67 (Br (.slice A42 J34.us.length c43) (.slice A47 J34.map.length c48) (.slice A52 J34.comb.length c53) (.slice A57 J34.red.length c58) (.slice A62 J34.marks.length c63) J34 C.w C.t C.o p ep R.g hv b41 vs) 185,Y (Am (Ai .i64)) vs us] [Aa (Am Ag) (.slice A1 C.J.us.length c2) C.J.us,Aa Af (.slice A6 C.J.map.length c7) C.J.map,Aa Af (.slice A11 C.J.comb.length c12) C.J.comb,Aa Af (.slice A16 C.J.red.length c17) C.J.red,Aa (Ai .i64) (.slice A21 C.J.marks.length c22) C.J.marks,Aa B4 (.slice A26 recs.length c27) recs]:=H
    replace H:=H.p8.p8.p8.p8.p8.p8.p8.p8
    refine AI ⟨_,H⟩ (AR U ?_)
    replace H:=H.pick 11 rfl|>.pick 10 rfl|>.pick 10 rfl|>.p2
    refine If U U U Fy FE U (by decide) U U H (by first |omega|(simp only [List.length_append,List.length_cons,List.length_nil];omega)) (fun v164 w H=>?_)
    replace H:=H.h1 (A:=Y (Am (Ai .i64)) v164 (us++[((.slice A159 se77.length c160:Value),se77)]))|>.p8|>.p8|>.p8|>.p8|>.p8|>.p8|>.p8|>.p8
    refine AI ⟨_,H⟩ (Ao U U U (fun w ⟨Ar,H⟩=>AH U U) (Ao U U U (fun w ⟨Ar,H⟩=>Aj U GK U) (AR U ?_)))
    obtain ⟨A165,c166,rfl,hc167,hm168,hp169⟩:=H.fA 8 rfl
    replace H:=H.p9
    refine BH U U U FB U U H U (Nat.le_of_ble_eq_true U) (fun u hu=>by simp [Value.cells] at hu;subst hu;rfl) (fun w H=>?_)
    replace H:Hd _ _ _ [blk b67 (Br (.slice A42 J34.us.length c43) (.slice A47 J34.map.length c48) (.slice A52 J34.comb.length c53) (.slice A57 J34.red.length c58) (.slice A62 J34.marks.length c63) J34 C.w C.t C.o p ep R.g hv b41 (.slice A165 ((us++[((.slice A159 se77.length c160:Value),se77)]).length) c166)) 185,blk b89 [.int .i64 a71,.int .i64 a72,.int .i64 a73,.int .i64 a74,.int .i64 a75,.slice A80 se77.length c81,.slice A82 pr79.length c83] 37,Y (Am Ag) (.slice A42 J34.us.length c43) J34.us,Y Af (.slice A47 J34.map.length c48) J34.map,Y Af (.slice A52 J34.comb.length c53) J34.comb,Y Af (.slice A57 J34.red.length c58) J34.red,Y (Ai .i64) (.slice A62 J34.marks.length c63) J34.marks,BK (R.g) hv,CD 253 b41 ([]),Y (Am (Ai .i64)) (.slice A165 ((us++[((.slice A159 se77.length c160:Value),se77)]).length) c166) (us++[((.slice A159 se77.length c160:Value),se77)])] [Aa (Am Ag) (.slice A1 C.J.us.length c2) C.J.us,Aa Af (.slice A6 C.J.map.length c7) C.J.map,Aa Af (.slice A11 C.J.comb.length c12) C.J.comb,Aa Af (.slice A16 C.J.red.length c17) C.J.red,Aa (Ai .i64) (.slice A21 C.J.marks.length c22) C.J.marks,Aa B4 (.slice A26 recs.length c27) recs]:=H
    replace H:=H.p8.p8.p8.p8.p8.p8.p8.p8
    refine AI ⟨_,H⟩ (BM (AT (Z (Ae (V U U (AU (z:=((k+1:Nat):Int)) U U U (by rw [AB (by omega) (by omega)];omega)) (Ad U (Ac ?_)))))))
    have hpart:(Bm.p (⟨a71,a72,a73,a74,a75,.slice A80 se77.length c81,se77,.slice A82 pr79.length c83,pr79⟩:Bm)).part=R.part:=by rw [hRp];exact Classical.not_not.1 h90
    have hR2:=Fw hR hx70 (Ia hpart h143)
    replace H:=H.p7.p9.p8.p8.p8.p8.p8.p8.p9.k9.h7 (A:=blk b67 (Br (.slice A42 J34.us.length c43) (.slice A47 J34.map.length c48) (.slice A52 J34.comb.length c53) (.slice A57 J34.red.length c58) (.slice A62 J34.marks.length c63) J34 C.w C.t C.o p ep (({ R with sets:=R.sets++[se77] }:AK).g) hv b41 (.slice A165 ((us++[((.slice A159 se77.length c160:Value),se77)]).length) c166)) 185) (G:=BK (({ R with sets:=R.sets++[se77] }:AK).g) hv)
    exact Bf (s:=(k,R,hv,undef,us)) (k+1,({ R with sets:=R.sets++[se77] }:AK),hv,.slice A165 ((us++[((.slice A159 se77.length c160:Value),se77)]).length) c166,us++[((.slice A159 se77.length c160:Value),se77)]) ⟨rfl,rfl,rfl,rfl,rfl,rfl,rfl,trivial⟩ ⟨H,hR2,hRp,by (try dsimp only);rw [List.map_append,hus];rfl,by (try dsimp only);omega,by (try dsimp only);rw [List.length_append];simp only [List.length_cons,List.length_nil];omega⟩ (by (try dsimp only);omega)
   obtain ⟨A171,c172,rfl,hc173,hm174,hp175⟩:=H.fA 8 rfl
   refine BX (parts:=[(0,.tmp 76)]) (vs:=[.slice A171 se77.length c172]) (cs:=[.slice A171 se77.length c172]) U U U Fy FE U (by decide) (by decide) U U H (fun b170 w H=>?_)
   replace H:Hd _ _ _ [blk b170 [.slice A171 se77.length c172] 24,blk b89 [.int .i64 a71,.int .i64 a72,.int .i64 a73,.int .i64 a74,.int .i64 a75,.slice A80 se77.length c81,.slice A82 pr79.length c83] 37,Y (Am Ag) (.slice A42 J34.us.length c43) J34.us,Y Af (.slice A47 J34.map.length c48) J34.map,Y Af (.slice A52 J34.comb.length c53) J34.comb,Y Af (.slice A57 J34.red.length c58) J34.red,Y (Ai .i64) (.slice A62 J34.marks.length c63) J34.marks,BK (R.g) hv,CD 253 b41 ([]),Y (Ai .i64) (.slice A171 se77.length c172) se77,blk b67 (Br (.slice A42 J34.us.length c43) (.slice A47 J34.map.length c48) (.slice A52 J34.comb.length c53) (.slice A57 J34.red.length c58) (.slice A62 J34.marks.length c63) J34 C.w C.t C.o p ep R.g hv b41 vs) 185,Y (Am (Ai .i64)) vs us] [Aa (Am Ag) (.slice A1 C.J.us.length c2) C.J.us,Aa Af (.slice A6 C.J.map.length c7) C.J.map,Aa Af (.slice A11 C.J.comb.length c12) C.J.comb,Aa Af (.slice A16 C.J.red.length c17) C.J.red,Aa (Ai .i64) (.slice A21 C.J.marks.length c22) C.J.marks,Aa B4 (.slice A26 recs.length c27) recs]:=H
   replace H:=H.p8.p8.p8.p8.p8.p8.p8.p8
   refine AI ⟨_,H⟩ (AR U (V U U (Al U FB U (H.cellI 10 U U)) (AI ⟨_,H⟩ (AR U ?_))))
   replace H:=H.pick 11 rfl|>.pick 10 rfl|>.pick 10 rfl|>.p2
   refine If U U U Fy FE U (by decide) U U H (by first |omega|(simp only [List.length_append,List.length_cons,List.length_nil];omega)) (fun v176 w H=>?_)
   replace H:=H.h1 (A:=Y (Am (Ai .i64)) v176 (us++[((.slice A171 se77.length c172:Value),se77)]))|>.p8|>.p8|>.p8|>.p8|>.p8|>.p8|>.p8|>.p8
   refine AI ⟨_,H⟩ (Ao U U U (fun w ⟨Ar,H⟩=>AH U U) (Ao U U U (fun w ⟨Ar,H⟩=>Aj U GK U) (AR U ?_)))
   obtain ⟨A177,c178,rfl,hc179,hm180,hp181⟩:=H.fA 8 rfl
   replace H:=H.p9
   refine BH U U U FB U U H U (Nat.le_of_ble_eq_true U) (fun u hu=>by simp [Value.cells] at hu;subst hu;rfl) (fun w H=>?_)
   replace H:Hd _ _ _ [blk b67 (Br (.slice A42 J34.us.length c43) (.slice A47 J34.map.length c48) (.slice A52 J34.comb.length c53) (.slice A57 J34.red.length c58) (.slice A62 J34.marks.length c63) J34 C.w C.t C.o p ep R.g hv b41 (.slice A177 ((us++[((.slice A171 se77.length c172:Value),se77)]).length) c178)) 185,blk b89 [.int .i64 a71,.int .i64 a72,.int .i64 a73,.int .i64 a74,.int .i64 a75,.slice A80 se77.length c81,.slice A82 pr79.length c83] 37,Y (Am Ag) (.slice A42 J34.us.length c43) J34.us,Y Af (.slice A47 J34.map.length c48) J34.map,Y Af (.slice A52 J34.comb.length c53) J34.comb,Y Af (.slice A57 J34.red.length c58) J34.red,Y (Ai .i64) (.slice A62 J34.marks.length c63) J34.marks,BK (R.g) hv,CD 253 b41 ([]),Y (Am (Ai .i64)) (.slice A177 ((us++[((.slice A171 se77.length c172:Value),se77)]).length) c178) (us++[((.slice A171 se77.length c172:Value),se77)])] [Aa (Am Ag) (.slice A1 C.J.us.length c2) C.J.us,Aa Af (.slice A6 C.J.map.length c7) C.J.map,Aa Af (.slice A11 C.J.comb.length c12) C.J.comb,Aa Af (.slice A16 C.J.red.length c17) C.J.red,Aa (Ai .i64) (.slice A21 C.J.marks.length c22) C.J.marks,Aa B4 (.slice A26 recs.length c27) recs]:=H
   replace H:=H.p8.p8.p8.p8.p8.p8.p8.p8
   refine AI ⟨_,H⟩ (BM (AT (Z (Ae (V U U (AU (z:=((k+1:Nat):Int)) U U U (by rw [AB (by omega) (by omega)];omega)) (Ad U (Ac ?_)))))))
   have hpart:(Bm.p (⟨a71,a72,a73,a74,a75,.slice A80 se77.length c81,se77,.slice A82 pr79.length c83,pr79⟩:Bm)).part=R.part:=by rw [hRp];exact Classical.not_not.1 h90
   have hR2:=Fw hR hx70 (Ia hpart h143)
   replace H:=H.p7.p9.p8.p8.p8.p8.p8.p8.p9.k9.h7 (A:=blk b67 (Br (.slice A42 J34.us.length c43) (.slice A47 J34.map.length c48) (.slice A52 J34.comb.length c53) (.slice A57 J34.red.length c58) (.slice A62 J34.marks.length c63) J34 C.w C.t C.o p ep (({ R with sets:=R.sets++[se77] }:AK).g) hv b41 (.slice A177 ((us++[((.slice A171 se77.length c172:Value),se77)]).length) c178)) 185) (G:=BK (({ R with sets:=R.sets++[se77] }:AK).g) hv)
   exact Bf (s:=(k,R,hv,undef,us)) (k+1,({ R with sets:=R.sets++[se77] }:AK),hv,.slice A177 ((us++[((.slice A171 se77.length c172:Value),se77)]).length) c178,us++[((.slice A171 se77.length c172:Value),se77)]) ⟨rfl,rfl,rfl,rfl,rfl,rfl,rfl,trivial⟩ ⟨H,hR2,hRp,by (try dsimp only);rw [List.map_append,hus];rfl,by (try dsimp only);omega,by (try dsimp only);rw [List.length_append];simp only [List.length_cons,List.length_nil];omega⟩ (by (try dsimp only);omega)
  refine Av (AT (Z (Ae (V U U (AU (z:=((k+1:Nat):Int)) U U U (by rw [AB (by omega) (by omega)];omega)) (Ad U (Ac ?_))))))
  have hpart:(Bm.p (⟨a71,a72,a73,a74,a75,.slice A80 se77.length c81,se77,.slice A82 pr79.length c83,pr79⟩:Bm)).part=R.part:=by rw [hRp];exact Classical.not_not.1 h90
  have hR2:=Fw hR hx70 (Km hpart (fun h=>h141 h.1) h143)
  replace H:=H.p9.p9.p9.p9.p9.p9.p9.p9.p9.k9
  exact Bf (s:=(k,R,hv,undef,us)) (k+1,R,hv,vs,us) ⟨rfl,rfl,rfl,rfl,rfl,rfl,rfl,trivial⟩ ⟨H,hR2,hRp,by (try dsimp only);exact hus,by (try dsimp only);omega,by (try dsimp only);omega⟩ (by (try dsimp only);omega)
 refine BD (AM (AM (BE (Z (Ab (Ae (Ah 3 U (Ac (Z (An (Ch U U U ?_)))))))))))
 have hkk:R=CQ J34.us.length p ep (recs.map Bm.p):=by rw [hR,List.take_of_length_le (by omega)]
 clear hR
 subst hkk
 replace H:=H.h8 (A:=blk b67 (Br (.slice A42 J34.us.length c43) (.slice A47 J34.map.length c48) (.slice A52 J34.comb.length c53) (.slice A57 J34.red.length c58) (.slice A62 J34.marks.length c63) J34 C.w C.t C.o p ep ((CQ J34.us.length p ep (recs.map Bm.p)).g) hv b41 vs) 185) (G:=BK ((CQ J34.us.length p ep (recs.map Bm.p)).g) hv) (I:=Y (Am (Ai .i64)) vs us)
 exact Ak ⟨b67,(.slice A42 J34.us.length c43),(.slice A47 J34.map.length c48),(.slice A52 J34.comb.length c53),(.slice A57 J34.red.length c58),(.slice A62 J34.marks.length c63),J34,hv,b41,vs,us,rfl,rfl,hsj,hus⟩ H
section
variable {w:World} {F:AJ}
theorem QA {v:Value} {us:List Bm} (h:(Aa Dy v (us.map Cz)).P w F) (hu:∀ r∈us,(Aa (Ai .i64) r.sv r.set).P w F∧(Aa Ag r.pv r.pairs).P w F):(Aa B4 v us).P w F:=by
 obtain ⟨A,m,c,e,h1,h2,h3,cs,h4,h5⟩:=h
 refine ⟨A,m,c,e,by simpa using h1,h2,h3,cs,h4,?_⟩
 have hcs:cs=(us.map Cz).flatMap GJ:=AV.flat_eq.1 h5
 subst hcs
 clear h5 h4 h1 e
 induction us with
 |nil=>rfl
 |cons r us ih=>
  obtain ⟨g1,g2⟩:=hu r (List.mem_cons_self ..)
  obtain ⟨A1,c1,e1,_⟩:=DU g1
  obtain ⟨A2,c2,e2,_⟩:=DU g2
  refine ⟨GJ (Cz r),(us.map Cz).flatMap GJ,rfl,⟨?_,g1,g2⟩,ih fun q hq=>hu q (List.mem_cons_of_mem _ hq)⟩
  simp [G_,GJ,Cz,Ft,e1,e2]
def PV:Value:=.slice none 0 0
end
theorem Bd.out {A B:AC} (h:Bd A B) (D:A8) (R:AK):DM D A R=DM D B R:=by
 unfold DM Ma
 rw [h.len,h.red,h.fuel]
theorem WJ {P:Program} {t j i:TypeId}
  (hs:Gc P t=some [(j,0,9),(i,9,1),(i,10,1),(i,11,1)]) (hc:P.cellsOf t=12) (hi:P.underlying i=some (.int .i64))
  {H:Type} (enc:TypeId×Value→H) (w:World) (fuel:Nat) (cs:List Value) (x:DataW H×List MemPlace) (h:DataW.trod enc P w 0 (fun _=>true) true fuel t cs=some x):
  ∃ (js:List Value) (m:Nat) (y:DataW H×List MemPlace) (n1 n2 n3:Int),cs=js++[.int .i64 n1,.int .i64 n2,.int .i64 n3]∧DataW.trod enc P w 0 (fun _=>true) true m j js=some y∧js.length=9∧(AE n1∧AE n2∧AE n3):=by
 obtain ⟨hl,n,hf⟩:=Kc hs h
 rw [hc] at hl
 match cs,hl with
 |[c0,c1,c2,c3,c4,c5,c6,c7,c8,c9,c10,c11],_=>
  obtain ⟨y0,g0⟩:=hf 0 _ _ _ rfl
  obtain ⟨y1,g1⟩:=hf 1 _ _ _ rfl
  obtain ⟨y2,g2⟩:=hf 2 _ _ _ rfl
  obtain ⟨y3,g3⟩:=hf 3 _ _ _ rfl
  obtain ⟨a1,r1,w1⟩:=FM hi enc w n _ _ g1
  obtain ⟨a2,r2,w2⟩:=FM hi enc w n _ _ g2
  obtain ⟨a3,r3,w3⟩:=FM hi enc w n _ _ g3
  have q1:[c9]=[Value.int .i64 a1]:=r1
  have q2:[c10]=[Value.int .i64 a2]:=r2
  have q3:[c11]=[Value.int .i64 a3]:=r3
  simp only [List.cons.injEq,and_true] at q1 q2 q3
  subst q1 q2 q3
  exact ⟨[c0,c1,c2,c3,c4,c5,c6,c7,c8],n,y0,a1,a2,a3,rfl,g0,rfl,w1,w2,w3⟩
theorem YL (v1 v2:Value) (xs ys:List Int):
    Cn Tryz.prog 33 [v1,v2] [] [Aa (Ai .i64) v1 xs,Aa (Ai .i64) v2 ys] (fun v Bs=>v=.bool (decide (xs=ys))∧Bs=[]):=by
 intro w0 F0 H
 obtain ⟨A1,c2,rfl,hc3,hm4,hp5⟩:=H.fR 0 rfl
 obtain ⟨A6,c7,rfl,hc8,hm9,hp10⟩:=H.fR 1 rfl
 refine enter Tryz.func33 U U (Nat.le_of_ble_eq_true U) (Ab (Ae (Ad U (Ac (Z ?_)))))
 replace H:Hd _ _ _ [] [Aa (Ai .i64) (.slice A1 xs.length c2) xs,Aa (Ai .i64) (.slice A6 ys.length c7) ys]:=H
 refine Ab (Ab (Ae (Ad U (V U U (Bc U EP U) (Ad U (V U U (Bc U EP U) (V U U (C9 U U U) (Ac (Z ?_)))))))))
 refine Ax U (fun h11=>?_) (fun h11=>?_)
 ·refine Ab (Ae (Ad U (Ac (Z (An (Ay (Aq U U ?_)))))))
  have e:¬ xs=ys:=fun e=>h11 (by rw [e])
  exact Ak ⟨by rw [decide_eq_false e]<;>rfl,rfl⟩ H
 refine Av (Z (Ab (Ab (Ae (Ad U (Ac (Z (AQ ?_))))))))
 have hle:xs.length=ys.length:=by omega
 refine BL (σ:=Nat) (fun k=>[(0,.slice A1 xs.length c2),(1,.slice A6 ys.length c7),(5,.int .i64 ((k:Nat):Int))]) (fun k w=>(Hd w0 F0 w [] [Aa (Ai .i64) (.slice A1 xs.length c2) xs,Aa (Ai .i64) (.slice A6 ys.length c7) ys])∧(k≤xs.length)∧(xs.length=ys.length)∧(xs.take k=ys.take k)) (fun k=>xs.length - k) 0 ⟨rfl,rfl,rfl,trivial⟩ ⟨H,by omega,hle,rfl⟩ ?_
 rintro k w ⟨H,hk,hle,ht⟩
 refine Ab (Ab (Ae (Ah 2 U (V U U (Bc U EP U) (V U U (Bb U U U) (Ac (Z ?_)))))))
 refine Ax U (fun h12=>?_) (fun h12=>?_)
 ·refine Av (Z (Ab (AQ (Ab (Gj mo (by kernel_rfl) H (Jm 2 U ?_))))))
  obtain ⟨x13,hx14⟩:∃ z9,xs[k]?=some z9:=⟨_,List.getElem?_eq_getElem (show k<xs.length by omega)⟩
  have th15:=H.thR 0 rfl hx14
  refine Bu U U (fun w H=>AY (p:=AS A1+k*1) U DI U U (by omega) (by omega) th15 U) (Bu U U (fun w H=>Al U AA U (H.elR 0 U hx14 (q:=0) U U)) (Jm 2 U ?_))
  obtain ⟨x16,hx17⟩:∃ z9,ys[k]?=some z9:=⟨_,List.getElem?_eq_getElem (show k<ys.length by omega)⟩
  have th18:=H.thR 1 rfl hx17
  refine Bu U U (fun w H=>AY (p:=AS A6+k*1) U DI U U (by omega) (by omega) th18 U) (Bu U U (fun w H=>Al U AA U (H.elR 1 U hx17 (q:=0) U U)) (Bu U U (fun w H=>C9 U U U) (Gy (fun w H=>(Z ?_)))))
  refine Ax U (fun h19=>?_) (fun h19=>?_)
  ·refine Ab (Ae (Ad U (Ac (Z (An (AX (Ay (Ay (AX (Ay (Aq U U ?_)))))))))))
   have e:¬ xs=ys:=fun e=>h19 (by rw [e,hx17] at hx14;exact (Option.some.inj hx14).symm)
   exact Ak ⟨by rw [decide_eq_false e]<;>rfl,rfl⟩ H
  refine Av (AT (Z (Ae (Ad U (V U U (AU (z:=((k+1:Nat):Int)) U U U (by rw [AB (by omega) (by omega)];omega)) (Ad U (Ac ?_)))))))
  have e:x13=x16:=Classical.not_not.1 h19
  subst e
  exact Bf (s:=k) (k+1) ⟨rfl,rfl,rfl,trivial⟩ ⟨H,by omega,hle,Q5 hx14 hx17 ht⟩ (by (try dsimp only);omega)
 refine BD (AM (AM (BE (Z (Ab (Ae (Ad U (Ac (Z (An (Aq U U ?_)))))))))))
 have e:xs=ys:=by rw [←Gw (xs:=xs) (k:=k) (by omega),←Gw (xs:=ys) (k:=k) (by omega)];exact ht
 exact Ak ⟨by rw [decide_eq_true e]<;>rfl,rfl⟩ H
theorem VB (x:Int) (n:Int) (hx:AE x) (h0:0<n) (hn:n≤9223372036854775807):
    Cn Tryz.prog 22 [.int .i64 x,.int .i64 n] [] [] (fun v Bs=>v=.int .i64 (IntKind.u64.wrap x%n)∧Bs=[]):=by
 intro w0 F0 H
 exact enter Tryz.func22 U U (Nat.le_of_ble_eq_true U) (Ab (Ae (Ad U (Ac (Z (Ab (Ae (Ad U (V U U (DH (z:=IntKind.u64.wrap x) U U DD EZ U) (Ad U (V U U (DH (z:=n) U U DD EZ (Fi (by omega) (by omega))) (V U U (Kk (z:=(IntKind.u64.wrap x)%n) U U U (by omega) (Int.tmod_eq_emod_of_nonneg (aM x).1)) (V U U (DH (z:=(IntKind.u64.wrap x)%n) U U EZ DD (AB (by have:=Int.emod_nonneg (IntKind.u64.wrap x) (show n≠0 by omega);omega) (by have:=Int.emod_lt_of_pos (IntKind.u64.wrap x) h0;omega))) (Ad U (Ac (Z (An (Aq U U (Ak ⟨rfl,rfl⟩ H)))))))))))))))))))
section
variable {w0 w:World} {F F0:AJ} {As Rs:List SP} {v:Value} {us:List Bm}
end
structure FF (α:Type) where
 sz:Nat
 enc:α→Value→Value→List Value
 len:∀ a s p,(enc a s p).length=sz
 one:∀ a s p,∀ c∈enc a s p,c=s∨c=p∨c.oneCell'=true
 pos:0<sz
structure Bi (α:Type) where
 h:α
 sv:Value
 set:List Int
 pv:Value
 pairs:List Ap
structure E4 (α:Type) where
 h:α
 hs:EA
 hp:EA
section
variable {α:Type}
def FF.e (S:FF α) (x:Bi α):List Value:=S.enc x.h x.sv x.pv
def FF.f (S:FF α) (x:E4 α):List Value:=S.enc x.h (.slice x.hs.A x.hs.n x.hs.c) (.slice x.hp.A x.hp.n x.hp.c)
def D6 (S:FF α):Kd (Bi α) where
 sz:=S.sz
 O w F x cs:=cs=S.e x∧∃ F1 F2:AJ,(∀ k,F1 k→F k)∧(∀ k,F2 k→F k)∧(∀ k,F1 k→¬ F2 k)∧(Bz (Ai .i64)).O w F1 x.set [x.sv]∧(Bz Ag).O w F2 x.pairs [x.pv]
 R w F x cs:=cs=S.e x∧(Bz (Ai .i64)).R w F x.set [x.sv]∧(Bz Ag).R w F x.pairs [x.pv]
 O_loc:=fun ⟨e,F1,F2,s1,s2,dj,h1,h2⟩ hk=>⟨e,F1,F2,s1,s2,dj,(Bz _).O_loc h1 (fun k x=>hk k (s1 k x)),(Bz _).O_loc h2 (fun k x=>hk k (s2 k x))⟩
 O_mono:=fun ⟨e,F1,F2,s1,s2,dj,h1,h2⟩ hk=>⟨e,F1,F2,fun k x=>hk k (s1 k x),fun k x=>hk k (s2 k x),dj,h1,h2⟩
 R_loc:=fun ⟨e,h1,h2⟩ hk=>⟨e,(Bz _).R_loc h1 hk,(Bz _).R_loc h2 hk⟩
 R_mono:=fun ⟨e,h1,h2⟩ hk=>⟨e,(Bz _).R_mono h1 hk,(Bz _).R_mono h2 hk⟩
 O_R:=fun ⟨e,F1,F2,s1,s2,dj,h1,h2⟩=>⟨e,(Bz _).R_mono ((Bz _).O_R h1) s1,(Bz _).R_mono ((Bz _).O_R h2) s2⟩
 len h:=by rw [h.1];exact S.len _ _ _
 one:=fun ⟨e,h1,h2⟩ c hc=>by
  have g1:=(Bz _).one h1
  have g2:=(Bz _).one h2
  subst e
  rcases S.one _ _ _ c hc with rfl|rfl|h
  ·exact g1 _ (List.mem_cons_self ..)
  ·exact g2 _ (List.mem_cons_self ..)
  ·exact h
 pos:=S.pos
def HS (S:FF α):Kd (E4 α):=flat S.f S.sz S.pos (fun x=>S.len _ _ _) (fun x c hc=>by
 rcases S.one _ _ _ c hc with rfl|rfl|h
 ·rfl
 ·rfl
 ·exact h)
def Bw (r:Bi α):E4 α:=⟨r.h,Ft r.sv,Ft r.pv⟩
variable {S:FF α} {w w0:World} {F F0:AJ} {As Rs:List SP} {A:Option Addr} {m c:Nat}
theorem Hp {us:List (Bi α)} (h:(Aa (D6 S) (.slice A m c) us).P w F) {i:Nat} {x:Bi α} (hx:us[i]?=some x):
  E3 A∧(∀ q u,(S.e x)[q]?=some u→w.cell? ⟨DY A,AS A+i*S.sz+q,none⟩=some u)∧(Aa (Ai .i64) x.sv x.set).P w F∧(Aa Ag x.pv x.pairs).P w F:=by
 obtain ⟨b,off,cs,e,hl,hc,h1,h2,h3⟩:=I6 h hx
 subst h1 e
 exact ⟨rfl,hc,h2,h3⟩
theorem KF {us:List (Bi α)} (h:(Aa (D6 S) (.slice A m c) us).P w F) {i:Nat} {a:α} {sv pv:Value} {set:List Int} {pairs:List Ap} (hx:us[i]?=some ⟨a,sv,set,pv,pairs⟩):(Aa (Ai .i64) sv set).P w F:=(Hp h hx).2.2.1
theorem KE {us:List (Bi α)} (h:(Aa (D6 S) (.slice A m c) us).P w F) {i:Nat} {a:α} {sv pv:Value} {set:List Int} {pairs:List Ap} (hx:us[i]?=some ⟨a,sv,set,pv,pairs⟩):(Aa Ag pv pairs).P w F:=(Hp h hx).2.2.2
theorem Hd.thRt {us:List (Bi α)} (H:Hd w0 F0 w As Rs) (j:Nat) (hj:Rs[j]?=some (Aa (D6 S) (.slice A m c) us)) {i:Nat} {x:Bi α} (hx:us[i]?=some x):E3 A:=H.factR (List.mem_of_getElem? hj) fun _ h=>(Hp h hx).1
theorem Hd.thAt {us:List (Bi α)} (H:Hd w0 F0 w As Rs) (j:Nat) (hj:As[j]?=some (Y (D6 S) (.slice A m c) us)) {i:Nat} {x:Bi α} (hx:us[i]?=some x):E3 A:=H.fact (List.mem_of_getElem? hj) fun F h=>(Hp (BI F h) hx).1
theorem Hd.elRt {us:List (Bi α)} (H:Hd w0 F0 w As Rs) (j:Nat) (hj:Rs[j]?=some (Aa (D6 S) (.slice A m c) us)) {i:Nat} {x:Bi α} (hx:us[i]?=some x) {q p:Nat} {u:Value} (hu:(S.e x)[q]?=some u) (hp:AS A+i*S.sz+q=p):w.cell? ⟨DY A,p,none⟩=some u:=by
 subst hp
 exact H.factR (List.mem_of_getElem? hj) fun _ h=>(Hp h hx).2.1 q u hu
theorem Hd.elAt {us:List (Bi α)} (H:Hd w0 F0 w As Rs) (j:Nat) (hj:As[j]?=some (Y (D6 S) (.slice A m c) us)) {i:Nat} {x:Bi α} (hx:us[i]?=some x) {q p:Nat} {u:Value} (hu:(S.e x)[q]?=some u) (hp:AS A+i*S.sz+q=p):w.cell? ⟨DY A,p,none⟩=some u:=by
 subst hp
 exact H.fact (List.mem_of_getElem? hj) fun F h=>(Hp (BI F h) hx).2.1 q u hu
theorem Xg {l cs:List Value} {d n q:Nat} {v:Value} (h:(l.drop d).take n=cs) (hq:cs[q]?=some v):l[d+q]?=some v:=by
 subst h
 rw [List.getElem?_take] at hq
 split at hq
 ·rwa [List.getElem?_drop] at hq
 ·cases hq
theorem Hd.elsRt {us:List (Bi α)} (H:Hd w0 F0 w As Rs) (j:Nat) (hj:Rs[j]?=some (Aa (D6 S) (.slice A m c) us)) {i:Nat} {x:Bi α} (hx:us[i]?=some x) {p:Nat} (d n:Nat) {cs:List Value} (hc:((S.e x).drop d).take n=cs) (hpj:AS A+i*S.sz+d=p):∀ q v,cs[q]?=some v→w.cell? ((⟨DY A,p,none⟩:Addr).add q)=some v:=by
 intro q v hq
 rw [Ej,←hpj,Nat.add_assoc]
 exact H.factR (List.mem_of_getElem? hj) fun F h=>(Hp h hx).2.1 _ v (Xg hc hq)
theorem Hd.nestRt {us:List (Bi α)} (H:Hd w0 F0 w As Rs) (j:Nat) (hj:Rs[j]?=some (Aa (D6 S) (.slice A m c) us)) {i:Nat} {a:α} {sv pv:Value} {set:List Int} {pairs:List Ap} (hx:us[i]?=some ⟨a,sv,set,pv,pairs⟩):
  ∃ A1 c1 A2 c2,sv=.slice A1 set.length c1∧pv=.slice A2 pairs.length c2∧set.length≤c1∧c1≤9223372036854775807∧pairs.length≤c2∧c2≤9223372036854775807:=by
 refine H.factR (List.mem_of_getElem? hj) fun _ h=>?_
 obtain ⟨A1,c1,e1,g1,g2,_⟩:=DU (KF h hx)
 obtain ⟨A2,c2,e2,g3,g4,_⟩:=DU (KE h hx)
 exact ⟨A1,c1,A2,c2,e1,e2,g1,g2,g3,g4⟩
theorem Hd.nestAt {us:List (Bi α)} (H:Hd w0 F0 w As Rs) (j:Nat) (hj:As[j]?=some (Y (D6 S) (.slice A m c) us)) {i:Nat} {a:α} {sv pv:Value} {set:List Int} {pairs:List Ap} (hx:us[i]?=some ⟨a,sv,set,pv,pairs⟩):
  ∃ A1 c1 A2 c2,sv=.slice A1 set.length c1∧pv=.slice A2 pairs.length c2∧set.length≤c1∧c1≤9223372036854775807∧pairs.length≤c2∧c2≤9223372036854775807:=by
 refine H.fact (List.mem_of_getElem? hj) fun F h=>?_
 obtain ⟨A1,c1,e1,g1,g2,_⟩:=DU (KF (BI F h) hx)
 obtain ⟨A2,c2,e2,g3,g4,_⟩:=DU (KE (BI F h) hx)
 exact ⟨A1,c1,A2,c2,e1,e2,g1,g2,g3,g4⟩
/-! ### Held: the cells in one row, the slices apart -/
theorem Q9 {r:Bi α} {A1 A2:Option Addr} {n1 c1 n2 c2:Nat} (e1:r.sv=.slice A1 n1 c1) (e2:r.pv=.slice A2 n2 c2):S.e r=S.f (Bw r):=by
 simp [FF.e,FF.f,Bw,Ft,e1,e2]
theorem Zv {v:Value} {us:List (Bi α)} (h:(Aa (HS S) v (us.map Bw)).P w F) (hu:∀ r∈us,(Aa (Ai .i64) r.sv r.set).P w F∧(Aa Ag r.pv r.pairs).P w F):(Aa (D6 S) v us).P w F:=by
 obtain ⟨A,m,c,e,h1,h2,h3,cs,h4,h5⟩:=h
 refine ⟨A,m,c,e,by simpa using h1,h2,h3,cs,h4,?_⟩
 have hcs:cs=(us.map Bw).flatMap S.f:=AV.flat_eq.1 h5
 subst hcs
 clear h5 h4 h1 e
 induction us with
 |nil=>rfl
 |cons r us ih=>
  obtain ⟨g1,g2⟩:=hu r (List.mem_cons_self ..)
  obtain ⟨A1,c1,e1,_⟩:=DU g1
  obtain ⟨A2,c2,e2,_⟩:=DU g2
  exact ⟨S.f (Bw r),(us.map Bw).flatMap S.f,rfl,⟨(Q9 e1 e2).symm,g1,g2⟩,ih fun q hq=>hu q (List.mem_cons_of_mem _ hq)⟩
def Ey (r:Bi α):SP:=BZ [Y (Ai .i64) r.sv r.set,Y Ag r.pv r.pairs]
def B0 (us:List (Bi α)):SP:=Bn Ey us
theorem Q8 {r:Bi α} (h:(Ey r).P w F):S.e r=S.f (Bw r):=by
 obtain ⟨F1,F2,_,_,_,a,F3,F4,_,_,_,b,_⟩:=h
 obtain ⟨A1,c1,e1,_⟩:=DU (BI _ a)
 obtain ⟨A2,c2,e2,_⟩:=DU (BI _ b)
 exact Q9 e1 e2
theorem Zs {r:Bi α} (h:(Ey r).P w F):(D6 S).O w F r (S.f (Bw r)):=by
 have e:=Q8 (S:=S) h
 obtain ⟨F1,F2,h1,h2,h3,a,F3,F4,g1,g2,g3,b,_⟩:=h
 exact ⟨e.symm,F1,F3,h1,fun k hk=>h2 k (g1 k hk),fun k hk hk2=>h3 k hk (g1 k hk2),a,b⟩
theorem Zt {r:Bi α} {cs:List Value} (h:(D6 S).O w F r cs):(Ey r).P w F∧cs=S.e r:=by
 obtain ⟨e,F1,F2,h1,h2,h3,a,b⟩:=h
 exact ⟨⟨F1,F2,h1,h2,h3,a,F2,none_,fun _ q=>q,fun _ q=>q.elim,fun _ _ q=>q,b,trivial⟩,e⟩
theorem QJ:∀ {us:List (Bi α)} {F:AJ},(B0 us).P w F→CC (D6 S) w F us ((us.map Bw).flatMap S.f)
 |[],_,_=>rfl
 |u::us,F,⟨F1,F2,h1,h2,h3,a,s⟩=>⟨F1,F2,S.f (Bw u),(us.map Bw).flatMap S.f,h1,h2,h3,rfl,Zs a,QJ (us:=us) s⟩
variable {v:Value} {us:List (Bi α)}
theorem Hd.twI (H:Hd w0 F0 w (Y (HS S) v (us.map Bw)::B0 us::As) Rs):Hd w0 F0 w (Y (D6 S) v us::As) Rs:=by
 refine H.turn2 fun F1 F2 hd h1 h2=>?_
 obtain ⟨A,n,c,e,hl,cs,G1,G2,s1,s2,dj,row,reps⟩:=h1
 have hcs:cs=(us.map Bw).flatMap S.f:=AV.flat_eq.1 reps.toR
 subst hcs
 exact ⟨A,n,c,e,by simpa using hl,_,G1,F2,fun k hk=>.inl (s1 k hk),fun k hk=>.inr hk,fun k hk hg=>hd k (s1 k hk) hg,row,QJ h2⟩
theorem QK:∀ {us:List (Bi α)} {F:AJ} {cs:List Value},CC (D6 S) w F us cs→(B0 us).P w F∧cs=(us.map Bw).flatMap S.f
 |[],_,_,h=>⟨trivial,h⟩
 |u::us,F,cs,⟨F1,F2,c,cs',h1,h2,h3,e,a,s⟩=>by
  obtain ⟨g1,g2⟩:=QK s
  obtain ⟨b1,b2⟩:=Zt a
  refine ⟨⟨F1,F2,h1,h2,h3,b1,g1⟩,?_⟩
  rw [e,b2,g2,Q8 b1];rfl
theorem Hd.twO (H:Hd w0 F0 w (Y (D6 S) v us::As) Rs):Hd w0 F0 w (Y (HS S) v (us.map Bw)::B0 us::As) Rs:=by
 have:Hd w0 F0 w ([Y (HS S) v (us.map Bw),B0 us]++As) Rs:=H.open_ fun F h=>by
  obtain ⟨A,n,c,e,hl,cs,G1,G2,s1,s2,dj,row,reps⟩:=h
  obtain ⟨g1,rfl⟩:=QK reps
  exact ⟨G1,G2,s1,s2,dj,⟨A,n,c,e,by simpa using hl,_,G1,none_,fun _ h=>h,fun _ h=>h.elim,fun _ _ h=>h,row,CC.flatR (F:=none_) (AV.flat_eq.2 U)⟩,G2,none_,fun _ h=>h,fun _ h=>h.elim,fun _ _ h=>h,g1,trivial⟩
 exact this
theorem Hd.twN {r:Bi α} (H:Hd w0 F0 w (Y (Ai .i64) r.sv r.set::Y Ag r.pv r.pairs::B0 us::As) Rs):Hd w0 F0 w (B0 (us++[r])::As) Rs:=
 Hd.bigN (f:=Ey) (x:=r) (Hd.stI (Bs:=[Y (Ai .i64) r.sv r.set,Y Ag r.pv r.pairs]) H)
theorem Hd.tw0 (H:Hd w0 F0 w As Rs):Hd w0 F0 w (B0 ([]:List (Bi α))::As) Rs:=H.big0 Ey
end
/-! ### Messages, letters, acts, snapshots -/
structure CF where
 kind:Int
 sp:Int
 att:Int
 part:Int
 seq:Int
 next:Int
 ep:Int
 why:Int
def Q0:FF CF where
 sz:=10
 enc m s p:=[.int .i64 m.kind,.int .i64 m.sp,.int .i64 m.att,.int .i64 m.part,.int .i64 m.seq,.int .i64 m.next,.int .i64 m.ep,.int .i64 m.why,s,p]
 len _ _ _:=rfl
 one _ _ _ c h:=by
  simp only [List.mem_cons,List.not_mem_nil,or_false] at h
  rcases h with rfl|rfl|rfl|rfl|rfl|rfl|rfl|rfl|rfl|rfl<;>first |exact .inr (.inr rfl)|exact .inl rfl|exact .inr (.inl rfl)
 pos:=by omega
structure aQ where
 won:Bool
 m:CF
 n:Int
structure aR where
 hear:Bool
 fr:Int
 m:CF
structure Cj where
 fr:Int
 to:Int
 m:CF
def QZ:FF Cj where
 sz:=12
 enc a s p:=[.int .i64 a.fr,.int .i64 a.to,.int .i64 a.m.kind,.int .i64 a.m.sp,.int .i64 a.m.att,.int .i64 a.m.part,.int .i64 a.m.seq,.int .i64 a.m.next,.int .i64 a.m.ep,.int .i64 a.m.why,s,p]
 len _ _ _:=rfl
 one _ _ _ c h:=by
  simp only [List.mem_cons,List.not_mem_nil,or_false] at h
  rcases h with rfl|rfl|rfl|rfl|rfl|rfl|rfl|rfl|rfl|rfl|rfl|rfl<;>first |exact .inr (.inr rfl)|exact .inl rfl|exact .inr (.inl rfl)
 pos:=by omega
abbrev LK:=D6 Q0
abbrev Ek:=HS Q0
abbrev C3:=D6 QZ
abbrev De:=HS QZ
def CF.p (m:CF) (set:List Int) (ps:List Ap):Ds:=⟨m.kind,m.sp,m.att,m.part,m.seq,m.next,m.ep,m.why,set,ps⟩
def F7 (x:Bi CF):Ds:=x.h.p x.set x.pairs
theorem Fv {a b:Ds}:a=b↔a.kind=b.kind∧a.sp=b.sp∧a.att=b.att∧a.part=b.part∧a.seq=b.seq∧a.next=b.next∧a.ep=b.ep∧a.why=b.why∧a.set=b.set∧a.pairs=b.pairs:=by
 constructor
 ·rintro rfl;exact ⟨rfl,rfl,rfl,rfl,rfl,rfl,rfl,rfl,rfl,rfl⟩
 ·rintro ⟨h1,h2,h3,h4,h5,h6,h7,h8,h9,h10⟩
  cases a;cases b
  simp only at h1 h2 h3 h4 h5 h6 h7 h8 h9 h10
  subst h1 h2 h3 h4 h5 h6 h7 h8 h9 h10
  rfl
instance msgD (a b:Ds):Decidable (a=b):=decidable_of_iff _ Fv.symm
/-! ### How they come in -/
section
variable {P:Program} {t:TypeId}
end
/-! ### A result in cells, and another one -/
section
variable {P:Program} {fn:Func} {R:Ending→World→Prop} {n:Nat} {l:BB} {w:World} {t:TypeId} {a:Act}
end
def Hm (st:DP):Prop:=∀ a b,(DV st a b).length≤40∧∀ x∈DV st a b,x.length≤8
structure CJ (n:Nat) (R:AK):Prop where
 pairs:∀ i,(R.g i).pairs.length≤1000
 st:Hm R.st
 sets:R.sets.length≤n
 setl:∀ s∈R.sets,s.length≤1000
theorem CJ.mono {n m:Nat} {R:AK} (h:CJ n R) (hm:n≤m):CJ m R:=⟨h.pairs,h.st,Nat.le_trans h.sets hm,h.setl⟩
theorem Tk {l:List (List Ap)} {n m:Nat} (h1:l.length≤n) (h2:∀ x∈l,x.length≤m):l.flatten.length≤n*m:=by
 have:∀ l:List (List Ap),(∀ x∈l,x.length≤m)→l.flatten.length≤l.length*m:=by
  intro l
  induction l with
  |nil=>intro _;simp
  |cons x l ih=>
   intro h
   have h3:=ih fun y hy=>h y (List.mem_cons_of_mem _ hy)
   have h4:=h x (List.mem_cons_self ..)
   rw [List.flatten_cons,List.length_append,List.length_cons,Nat.succ_mul]
   omega
 exact Nat.le_trans (this l h2) (Nat.mul_le_mul_right _ h1)
theorem CJ.flat {n:Nat} {R:AK} (h:CJ n R) (a b:Int):(DV R.st a b).flatten.length≤320:=Tk (h.st a b).1 (h.st a b).2
theorem QY (c a b:Int):∀ st:DP,DV (I_ st c) a b=if a=c then [] else DV st a b
 |[]=>by unfold I_;simp [DV]
 |e::s=>by
  have ih:=QY c a b s
  unfold I_ at ih ⊢
  by_cases h:e.1.1=c
  ·rw [List.filter_cons_of_neg (by simpa using h),ih]
   by_cases h2:a=c
   ·rw [if_pos h2,if_pos h2]
   ·rw [if_neg h2,if_neg h2]
    exact (if_neg (fun h3=>h2 (h3.1.symm.trans h))).symm
  ·rw [List.filter_cons_of_pos (p:=fun e:(Int×Int)×List (List Ap)=>decide (e.1.1≠c)) (decide_eq_true h)]
   show (if e.1.1=a∧e.1.2=b then e.2 else DV (List.filter _ s) a b)=if a=c then [] else (if e.1.1=a∧e.1.2=b then e.2 else DV s a b)
   rw [ih]
   by_cases h2:a=c
   ·rw [if_pos h2,if_pos h2,if_neg fun h3=>h (h3.1.trans h2)]
   ·rw [if_neg h2,if_neg h2]
theorem QX (c d a b:Int) (x:List Ap):∀ st:DP,DV (I9 st c d x) a b=if c=a∧d=b then DV st a b++[x] else DV st a b
 |[]=>by
  show (if c=a∧d=b then [x] else DV [] a b)=_
  split<;>rfl
 |e::s=>by
  have ih:=QX c d a b x s
  show DV (if e.1.1=c∧e.1.2=d then (e.1,e.2++[x])::s else e::I9 s c d x) a b=if c=a∧d=b then (if e.1.1=a∧e.1.2=b then e.2 else DV s a b)++[x] else (if e.1.1=a∧e.1.2=b then e.2 else DV s a b)
  by_cases h:e.1.1=c∧e.1.2=d
  ·rw [if_pos h]
   show (if e.1.1=a∧e.1.2=b then e.2++[x] else DV s a b)=_
   by_cases h2:c=a∧d=b
   ·have h3:e.1.1=a∧e.1.2=b:=⟨h.1.trans h2.1,h.2.trans h2.2⟩
    rw [if_pos h2,if_pos h3,if_pos h3]
   ·have h3:¬ (e.1.1=a∧e.1.2=b):=fun h4=>h2 ⟨h.1.symm.trans h4.1,h.2.symm.trans h4.2⟩
    rw [if_neg h2,if_neg h3,if_neg h3]
  ·rw [if_neg h]
   show (if e.1.1=a∧e.1.2=b then e.2 else DV (I9 s c d x) a b)=_
   rw [ih]
   by_cases h2:c=a∧d=b
   ·have h3:¬ (e.1.1=a∧e.1.2=b):=fun h4=>h ⟨h4.1.trans h2.1.symm,h4.2.trans h2.2.symm⟩
    rw [if_pos h2,if_neg h3,if_neg h3,if_pos h2]
   ·rw [if_neg h2,if_neg h2]
theorem Hm.drop {st:DP} (h:Hm st) (c:Int):Hm (I_ st c):=by
 intro a b
 rw [QY]
 split
 ·exact ⟨by simp,fun x hx=>by cases hx⟩
 ·exact h a b
theorem Hm.put {st:DP} (h:Hm st) {a b q:Int} {x:List Ap} (hx:x.length≤8):Hm (Kx st a b q x):=by
 unfold Kx
 split
 ·rename_i hm
  intro c d
  rw [QX]
  split
  ·rename_i e
   obtain ⟨rfl,rfl⟩:=e
   have h1:=hm.1
   have h2:=hm.2.2.2
   unfold Kw at h1
   refine ⟨by rw [List.length_append,List.length_singleton];omega,fun y hy=>?_⟩
   rcases List.mem_append.1 hy with hy|hy
   ·exact (h _ _).2 y hy
   ·rw [List.mem_singleton.1 hy];exact hx
  ·exact h c d
 ·exact h
theorem CJ.looks {n:Nat} {J:AC} {R:AK} (h:CJ n R) (h6:J.us.length≤6) (k:Nat):CJ (n+1) (J1 J R k).1:=by
 have hg:∀ ps:List Ap,ps.length≤40→∀ i,((CS R.g k { R.g k with merged:=true,pairs:=ps }:Nat→Dh) i).pairs.length≤1000:=fun ps hps i=>by
  by_cases e:i=k
  ·subst e
   rw [Hl]
   show ps.length≤1000
   omega
  ·rw [Hk _ _ e]
   exact h.pairs i
 have h':CJ (n+1) R:=h.mono (Nat.le_succ n)
 unfold J1
 split
 ·exact h'
 ·split
  ·exact h'
  ·split
   ·exact h'
   ·rename_i hl
    dsimp only
    split
    ·refine ⟨hg _ (by omega),h.st.drop _,by show (R.sets++[_]).length≤n+1;rw [List.length_append,List.length_singleton];have:=h.sets;omega,fun s hs=>?_⟩
     rcases List.mem_append.1 hs with hs|hs
     ·exact h.setl s hs
     ·rw [List.mem_singleton.1 hs]
      exact Nat.le_trans (PL _ _) (by omega)
    ·exact ⟨hg _ (by omega),h.st.drop _,Nat.le_succ_of_le h.sets,h.setl⟩
theorem CJ.push {n:Nat} {J:AC} {R:AK} (h:CJ n R) (h6:J.us.length≤6) (m:Ds):CJ (n+1) (Qi J R m).1:=by
 unfold Qi
 split
 ·exact h.mono (Nat.le_succ n)
 ·show CJ (n+1) (IX J R m).1
  unfold IX
  split
  ·rename_i ht
   exact CJ.looks (R:={ R with st:=Kx R.st m.sp m.att m.seq m.pairs }) ⟨h.pairs,h.st.put ht.2.1,h.sets,h.setl⟩ h6 _
  ·exact h.mono (Nat.le_succ n)
theorem CJ.won {n:Nat} {J:AC} {t:Int} {R:AK} (h:CJ n R) (h6:J.us.length≤6) (sp att cnt:Int):CJ (n+1) (Rr J t R sp att cnt).1:=by
 unfold Rr
 split
 ·exact h.mono (Nat.le_succ n)
 ·refine CJ.looks (R:={ R with g:=CS R.g sp.toNat { R.g sp.toNat with told:=true,att:=att,cnt:=cnt } }) ⟨fun i=>?_,h.st,h.sets,h.setl⟩ h6 _
  show ((CS R.g sp.toNat { R.g sp.toNat with told:=true,att:=att,cnt:=cnt }:Nat→Dh) i).pairs.length≤1000
  by_cases e:i=sp.toNat
  ·subst e;rw [Hl];exact h.pairs _
  ·rw [Hk _ _ e];exact h.pairs i
theorem Wl (n:Nat) (p ep:Int) (rs:List DE):(CQ n p ep rs).sets.length≤rs.length:=by
 have key:∀ rs:List DE,(CQ n p ep rs.reverse).sets.length≤rs.length:=by
  intro rs
  induction rs with
  |nil=>simp [CQ,GW]
  |cons x rs ih=>
   rw [List.reverse_cons,PQ,List.length_cons]
   have hx:∀ R:AK,(Dq n R x).sets.length≤R.sets.length+1:=by
    intro R
    unfold Dq
    dsimp only
    split
    ·omega
    ·split<;>split<;>simp
   have:=hx (CQ n p ep rs.reverse)
   omega
 have:=key rs.reverse
 rwa [List.reverse_reverse,List.length_reverse] at this
theorem Wk (n:Nat) (p ep:Int) (b:Nat) (rs:List DE) (h:∀ r∈rs,r.set.length≤b):∀ s∈(CQ n p ep rs).sets,s.length≤b:=by
 have key:∀ (rs:List DE) (R:AK),(∀ r∈rs,r.set.length≤b)→(∀ s∈R.sets,s.length≤b)→∀ s∈(rs.foldl (Dq n) R).sets,s.length≤b:=by
  intro rs
  induction rs with
  |nil=>intro R _ h;exact h
  |cons x rs ih=>
   intro R hr hR
   refine ih (Dq n R x) (fun r hq=>hr r (List.mem_cons_of_mem _ hq)) ?_
   have hx:=hr x (List.mem_cons_self ..)
   have hc:∀ R1:AK,R1.sets=R.sets→∀ s∈(if x.kind=5 then ({ R1 with sets:=R1.sets++[x.set] }:AK) else R1).sets,s.length≤b:=by
    intro R1 e s hs
    split at hs
    ·rcases List.mem_append.1 hs with hs|hs
     ·rw [e] at hs;exact hR s hs
     ·rw [List.mem_singleton.1 hs];exact hx
    ·rw [e] at hs;exact hR s hs
   unfold Dq
   dsimp only
   split
   ·exact hR
   ·refine hc _ ?_
    split<;>rfl
 exact key rs (GW p ep) h fun s hs=>by cases hs
theorem CJ.new {n:Nat} {p ep:Int} {rs:List DE} (h:∀ r∈rs,r.pairs.length≤1000∧r.set.length≤1000):CJ rs.length (CQ n p ep rs):=⟨Wg fun r hr=>(h r hr).1,by rw [(IT n p ep rs).2.2];exact fun a b=>⟨by simp [DV],fun x hx=>by cases hx⟩,Wl n p ep rs,Wk n p ep 1000 rs fun r hr=>(h r hr).2⟩
section
variable {J:AC} {R R1:AK} {k:Nat} {n:Int} {ps:List Ap}
end
/-! ### Once -/
/-! ### Records -/
structure aV (n:Nat) (R N:AK):Prop where
 part:N.part=R.part
 g:∀ s,s<n→(N.g s).merged=(R.g s).merged∧(N.g s).pairs=(R.g s).pairs
 sets:N.sets=R.sets
theorem TX {D:A8} {J:AC} {R:AK} (h:(DM D J R).2.2=true):AF D J R=⟨8,0,0,R.part,0,0,R.ep,(DM D J R).2.1,[],[]⟩:=if_pos h
theorem TU {D:A8} {J:AC} {R:AK} (h:¬ (DM D J R).2.2=true):AF D J R=⟨6,0,0,R.part,0,0,R.ep,0,CZ J.us.length R,[]⟩:=if_neg h
/-! ### Six slices in a row -/
section
variable {α:Type} {J:AC} {rs:List Bm} {acts:List (Bi α)} {most:Int}
end
/-! ### Lists of structs held against one another -/
theorem YX {a b:M4}:a=b↔a.why=b.why∧a.set=b.set∧a.pairs=b.pairs:=by
 constructor
 ·rintro rfl;exact ⟨rfl,rfl,rfl⟩
 ·rintro ⟨h1,h2,h3⟩
  cases a;cases b
  simp only at h1 h2 h3
  subst h1 h2 h3
  rfl
instance snapPD (a b:M4):Decidable (a=b):=decidable_of_iff _ YX.symm
theorem VU {α β γ:Type} {f:α→γ} {g:β→γ} {a:List α} {b:List β} {k:Nat} {x:α} {y:β} (hx:a[k]?=some x) (hy:b[k]?=some y) (e:f x=g y) (h:(a.take k).map f=(b.take k).map g):(a.take (k+1)).map f=(b.take (k+1)).map g:=by
 rw [Eg hx,Eg hy,List.map_append,List.map_append,h]
 simp [e]
theorem L5 {α β γ:Type} {f:α→γ} {g:β→γ} {a:List α} {b:List β} {k:Nat} {x:α} {y:β} (hx:a[k]?=some x) (hy:b[k]?=some y) (e:a.map f=b.map g):f x=g y:=by
 have h:=congrArg (·[k]?) e
 simp only [List.getElem?_map,hx,hy,Option.map_some] at h
 exact Option.some.inj h
/-! ### A small configuration -/
def Dz:List Ap:=[⟨⟨#[98]⟩,⟨#[49]⟩⟩]
theorem YN (x:CF) (xsv:Value) (xse:List Int) (xpv:Value) (xpr:List Ap) (y:CF) (ysv:Value) (yse:List Int) (ypv:Value) (ypr:List Ap):
    Cn Tryz.prog 63 [.agg #[.int .i64 x.kind,.int .i64 x.sp,.int .i64 x.att,.int .i64 x.part,.int .i64 x.seq,.int .i64 x.next,.int .i64 x.ep,.int .i64 x.why,xsv,xpv],.agg #[.int .i64 y.kind,.int .i64 y.sp,.int .i64 y.att,.int .i64 y.part,.int .i64 y.seq,.int .i64 y.next,.int .i64 y.ep,.int .i64 y.why,ysv,ypv]] [] [Aa (Ai .i64) xsv xse,Aa Ag xpv xpr,Aa (Ai .i64) ysv yse,Aa Ag ypv ypr] (fun v Bs=>v=.bool (decide (x.p xse xpr=y.p yse ypr))∧Bs=[]):=by
 intro w0 F0 H
 obtain ⟨A1,c2,rfl,hc3,hm4,hp5⟩:=H.fR 0 rfl
 obtain ⟨A6,c7,rfl,hc8,hm9,hp10⟩:=H.fR 1 rfl
 obtain ⟨A11,c12,rfl,hc13,hm14,hp15⟩:=H.fR 2 rfl
 obtain ⟨A16,c17,rfl,hc18,hm19,hp20⟩:=H.fR 3 rfl
 refine enter Tryz.func63 U U (Nat.le_of_ble_eq_true U) (Ab (Ae (Ct U U U U H (fun b21 w H=>(Ct U U U U H (fun b22 w H=>(Ad U (Ac (Z ?_)))))))))
 replace H:Hd _ _ _ [blk b22 [.int .i64 y.kind,.int .i64 y.sp,.int .i64 y.att,.int .i64 y.part,.int .i64 y.seq,.int .i64 y.next,.int .i64 y.ep,.int .i64 y.why,.slice A11 yse.length c12,.slice A16 ypr.length c17] 64,blk b21 [.int .i64 x.kind,.int .i64 x.sp,.int .i64 x.att,.int .i64 x.part,.int .i64 x.seq,.int .i64 x.next,.int .i64 x.ep,.int .i64 x.why,.slice A1 xse.length c2,.slice A6 xpr.length c7] 64] [Aa (Ai .i64) (.slice A1 xse.length c2) xse,Aa Ag (.slice A6 xpr.length c7) xpr,Aa (Ai .i64) (.slice A11 yse.length c12) yse,Aa Ag (.slice A16 ypr.length c17) ypr]:=H
 refine Ab (Ae (V U U (Aj U Fr U) (V U U (Al U AA U (H.cellI 1 U U)) (V U U (Aj U Fr U) (V U U (Al U AA U (H.cellI 0 U U)) (V U U (A0 U U U) (Ad U ?_)))))))
 refine AN (d:=11) U (fun h23=>?_) (fun h23=>?_)
 ·refine V U U (Aj U Ly U) (V U U (Al U AA U (H.cellI 1 U U)) (V U U (Aj U Ly U) (V U U (Al U AA U (H.cellI 0 U U)) (V U U (A0 U U U) (Ah 2 U ?_)))))
  refine AN (d:=18) U (fun h24=>?_) (fun h24=>?_)
  ·refine V U U (Aj U Lz U) (V U U (Al U AA U (H.cellI 1 U U)) (V U U (Aj U Lz U) (V U U (Al U AA U (H.cellI 0 U U)) (V U U (A0 U U U) (Ah 2 U ?_)))))
   refine AN (d:=25) U (fun h25=>?_) (fun h25=>?_)
   ·refine V U U (Aj U JS U) (V U U (Al U AA U (H.cellI 1 U U)) (V U U (Aj U JS U) (V U U (Al U AA U (H.cellI 0 U U)) (V U U (A0 U U U) (Ah 2 U ?_)))))
    refine AN (d:=32) U (fun h26=>?_) (fun h26=>?_)
    ·refine V U U (Aj U Ov U) (V U U (Al U AA U (H.cellI 1 U U)) (V U U (Aj U Ov U) (V U U (Al U AA U (H.cellI 0 U U)) (V U U (A0 U U U) (Ah 2 U ?_)))))
     refine AN (d:=39) U (fun h27=>?_) (fun h27=>?_)
     ·refine V U U (Aj U Ow U) (V U U (Al U AA U (H.cellI 1 U U)) (V U U (Aj U Ow U) (V U U (Al U AA U (H.cellI 0 U U)) (V U U (A0 U U U) (Ah 2 U (Ac (Z (Ab (Ae (Ah 2 U ?_))))))))))
      refine AN (d:=47) U (fun h28=>?_) (fun h28=>?_)
      ·refine V U U (Aj U Ox U) (V U U (Al U AA U (H.cellI 1 U U)) (V U U (Aj U Ox U) (V U U (Al U AA U (H.cellI 0 U U)) (V U U (A0 U U U) (Ah 2 U ?_)))))
       refine AN (d:=54) U (fun h29=>?_) (fun h29=>?_)
       ·refine V U U (Aj U Oy U) (V U U (Al U AA U (H.cellI 1 U U)) (V U U (Aj U Oy U) (V U U (Al U AA U (H.cellI 0 U U)) (V U U (A0 U U U) (Ah 2 U ?_)))))
        refine AN (d:=61) U (fun h30=>?_) (fun h30=>?_)
        ·refine V U U (Aj U Oz U) (V U U (Al U EY U (H.cellI 1 U U)) (V U U (Aj U Oz U) (V U U (Al U EY U (H.cellI 0 U U)) (sc (YL (.slice A1 xse.length c2) (.slice A11 yse.length c12) xse yse) H (lR 0 U (lR 2 U l0)) U U (Au Ve U U) ?_))))
         rintro _ _ w ⟨rfl,rfl⟩ H
         refine Ah 2 U ?_
         refine AN (d:=68) U (fun h31=>?_) (fun h31=>?_)
         ·refine V U U (Aj U OA U) (V U U (Al U EO U (H.cellI 1 U U)) (V U U (Aj U OA U) (V U U (Al U EO U (H.cellI 0 U U)) (sc (YO (.slice A6 xpr.length c7) (.slice A16 ypr.length c17) xpr ypr) H (lR 1 U (lR 3 U l0)) U U (Au UW U U) ?_))))
          rintro _ _ w ⟨rfl,rfl⟩ H
          refine Ah 2 U (Ac (Z (An (Aq U U ?_))))
          have e:xpr=ypr↔x.p xse xpr=y.p yse ypr:=⟨fun h=>Fv.2 ⟨by assumption,by assumption,by assumption,by assumption,by assumption,by assumption,by assumption,by assumption,by assumption,h⟩,fun h=>(Fv.1 h).2.2.2.2.2.2.2.2.2⟩
          replace H:=H.nil
          replace H:Hd _ _ _ [] [Aa (Ai .i64) (.slice A1 xse.length c2) xse,Aa Ag (.slice A6 xpr.length c7) xpr,Aa (Ai .i64) (.slice A11 yse.length c12) yse,Aa Ag (.slice A16 ypr.length c17) ypr]:=H
          exact Ak ⟨congrArg Value.bool (decide_eq_decide.2 e),rfl⟩ H
         refine Ah 7 U (Ac (Z (An (Aq U U ?_))))
         have e:¬ x.p xse xpr=y.p yse ypr:=fun h=>by obtain ⟨g1,g2,g3,g4,g5,g6,g7,g8,g9,g10⟩:=Fv.1 h;first |exact absurd g1 h31|exact absurd g2 h31|exact absurd g3 h31|exact absurd g4 h31|exact absurd g5 h31|exact absurd g6 h31|exact absurd g7 h31|exact absurd g8 h31|exact absurd g9 h31|exact absurd g10 h31
         replace H:=H.nil
         replace H:Hd _ _ _ [] [Aa (Ai .i64) (.slice A1 xse.length c2) xse,Aa Ag (.slice A6 xpr.length c7) xpr,Aa (Ai .i64) (.slice A11 yse.length c12) yse,Aa Ag (.slice A16 ypr.length c17) ypr]:=H
         exact Ak ⟨congrArg Value.bool (decide_eq_false e).symm,rfl⟩ H
        refine Ah 12 U (Ah 2 U (Ac (Z (An (Aq U U ?_)))))
        have e:¬ x.p xse xpr=y.p yse ypr:=fun h=>by obtain ⟨g1,g2,g3,g4,g5,g6,g7,g8,g9,g10⟩:=Fv.1 h;first |exact absurd g1 h30|exact absurd g2 h30|exact absurd g3 h30|exact absurd g4 h30|exact absurd g5 h30|exact absurd g6 h30|exact absurd g7 h30|exact absurd g8 h30|exact absurd g9 h30|exact absurd g10 h30
        replace H:=H.nil
        exact Ak ⟨congrArg Value.bool (decide_eq_false e).symm,rfl⟩ H
       refine Ah 12 U (Ah 9 U (Ac (Z (An (Aq U U ?_)))))
       have e:¬ x.p xse xpr=y.p yse ypr:=fun h=>by obtain ⟨g1,g2,g3,g4,g5,g6,g7,g8,g9,g10⟩:=Fv.1 h;first |exact absurd g1 h29|exact absurd g2 h29|exact absurd g3 h29|exact absurd g4 h29|exact absurd g5 h29|exact absurd g6 h29|exact absurd g7 h29|exact absurd g8 h29|exact absurd g9 h29|exact absurd g10 h29
       replace H:=H.nil
       exact Ak ⟨congrArg Value.bool (decide_eq_false e).symm,rfl⟩ H
      refine Ah 12 U (Ah 12 U (Ah 4 U (Ac (Z (An (Aq U U ?_))))))
      have e:¬ x.p xse xpr=y.p yse ypr:=fun h=>by obtain ⟨g1,g2,g3,g4,g5,g6,g7,g8,g9,g10⟩:=Fv.1 h;first |exact absurd g1 h28|exact absurd g2 h28|exact absurd g3 h28|exact absurd g4 h28|exact absurd g5 h28|exact absurd g6 h28|exact absurd g7 h28|exact absurd g8 h28|exact absurd g9 h28|exact absurd g10 h28
      replace H:=H.nil
      exact Ak ⟨congrArg Value.bool (decide_eq_false e).symm,rfl⟩ H
     refine Ah 7 U (Ac (Z (Ab (Ae (Ah 12 U (Ah 12 U (Ah 6 U (Ac (Z (An (Aq U U ?_)))))))))))
     have e:¬ x.p xse xpr=y.p yse ypr:=fun h=>by obtain ⟨g1,g2,g3,g4,g5,g6,g7,g8,g9,g10⟩:=Fv.1 h;first |exact absurd g1 h27|exact absurd g2 h27|exact absurd g3 h27|exact absurd g4 h27|exact absurd g5 h27|exact absurd g6 h27|exact absurd g7 h27|exact absurd g8 h27|exact absurd g9 h27|exact absurd g10 h27
     replace H:=H.nil
     exact Ak ⟨congrArg Value.bool (decide_eq_false e).symm,rfl⟩ H
    refine Ah 12 U (Ah 2 U (Ac (Z (Ab (Ae (Ah 12 U (Ah 12 U (Ah 6 U (Ac (Z (An (Aq U U ?_))))))))))))
    have e:¬ x.p xse xpr=y.p yse ypr:=fun h=>by obtain ⟨g1,g2,g3,g4,g5,g6,g7,g8,g9,g10⟩:=Fv.1 h;first |exact absurd g1 h26|exact absurd g2 h26|exact absurd g3 h26|exact absurd g4 h26|exact absurd g5 h26|exact absurd g6 h26|exact absurd g7 h26|exact absurd g8 h26|exact absurd g9 h26|exact absurd g10 h26
    replace H:=H.nil
    exact Ak ⟨congrArg Value.bool (decide_eq_false e).symm,rfl⟩ H
   refine Ah 12 U (Ah 9 U (Ac (Z (Ab (Ae (Ah 12 U (Ah 12 U (Ah 6 U (Ac (Z (An (Aq U U ?_))))))))))))
   have e:¬ x.p xse xpr=y.p yse ypr:=fun h=>by obtain ⟨g1,g2,g3,g4,g5,g6,g7,g8,g9,g10⟩:=Fv.1 h;first |exact absurd g1 h25|exact absurd g2 h25|exact absurd g3 h25|exact absurd g4 h25|exact absurd g5 h25|exact absurd g6 h25|exact absurd g7 h25|exact absurd g8 h25|exact absurd g9 h25|exact absurd g10 h25
   replace H:=H.nil
   exact Ak ⟨congrArg Value.bool (decide_eq_false e).symm,rfl⟩ H
  refine Ah 12 U (Ah 12 U (Ah 4 U (Ac (Z (Ab (Ae (Ah 12 U (Ah 12 U (Ah 6 U (Ac (Z (An (Aq U U ?_)))))))))))))
  have e:¬ x.p xse xpr=y.p yse ypr:=fun h=>by obtain ⟨g1,g2,g3,g4,g5,g6,g7,g8,g9,g10⟩:=Fv.1 h;first |exact absurd g1 h24|exact absurd g2 h24|exact absurd g3 h24|exact absurd g4 h24|exact absurd g5 h24|exact absurd g6 h24|exact absurd g7 h24|exact absurd g8 h24|exact absurd g9 h24|exact absurd g10 h24
  replace H:=H.nil
  exact Ak ⟨congrArg Value.bool (decide_eq_false e).symm,rfl⟩ H
 refine Ah 12 U (Ah 12 U (Ah 11 U (Ac (Z (Ab (Ae (Ah 12 U (Ah 12 U (Ah 6 U (Ac (Z (An (Aq U U ?_)))))))))))))
 have e:¬ x.p xse xpr=y.p yse ypr:=fun h=>by obtain ⟨g1,g2,g3,g4,g5,g6,g7,g8,g9,g10⟩:=Fv.1 h;first |exact absurd g1 h23|exact absurd g2 h23|exact absurd g3 h23|exact absurd g4 h23|exact absurd g5 h23|exact absurd g6 h23|exact absurd g7 h23|exact absurd g8 h23|exact absurd g9 h23|exact absurd g10 h23
 replace H:=H.nil
 exact Ak ⟨congrArg Value.bool (decide_eq_false e).symm,rfl⟩ H
def GB (x:Int) (k:Nat):List Int:=(List.range k).map fun (i:Nat)=>x+(i:Int)
theorem Rj (x:Int) (k:Nat):(GB x k).length=k:=by simp [GB]
theorem ZO (x:Int) (k:Nat):GB x (k+1)=GB x k++[x+(k:Int)]:=by simp [GB,List.range_succ]
def Dv (c s x:Int):List Int:=GB x (min s (c - x)).toNat
theorem WI (c s x:Int):(Dv c s x).length=(min s (c - x)).toNat:=Rj _ _
def Ce (n:Nat):List UInt8:=(List.range 8).map fun i=>UInt8.ofNat (n / 256^(7 - i))
def EM (l:List UInt8):Nat:=l.foldl (fun n x=>n*256+x.toNat) 0
theorem FG (n:Nat):(Ce n).length=8:=by simp [Ce]
theorem RU (n:Nat):Ce n=[UInt8.ofNat (n / 72057594037927936),UInt8.ofNat (n / 281474976710656),UInt8.ofNat (n / 1099511627776),UInt8.ofNat (n / 4294967296),UInt8.ofNat (n / 16777216),UInt8.ofNat (n / 65536),UInt8.ofNat (n / 256),UInt8.ofNat (n / 1)]:=rfl
theorem XR {n:Nat} (h:n<18446744073709551616):EM (Ce n)=n:=by
 rw [RU]
 simp only [EM,List.foldl_cons,List.foldl_nil,UInt8.toNat_ofNat']
 omega
theorem XS:∀ (l:List UInt8) (k:Nat),EM l<256^l.length:=by
 intro l _
 have:∀ (l:List UInt8) (n m:Nat),n<256^m→l.foldl (fun n x=>n*256+x.toNat) n<256^(m+l.length):=by
  intro l
  induction l with
  |nil=>intro n m h;exact h
  |cons x l ih=>
   intro n m h
   have hx:=UInt8.toNat_lt x
   have:=ih (n*256+x.toNat) (m+1) (by rw [Nat.pow_succ];omega)
   rw [List.foldl_cons,List.length_cons,show m+(l.length+1)=m+1+l.length by omega]
   exact this
 have:=this l 0 0 (by decide)
 rwa [Nat.zero_add] at this
theorem XT (l:List UInt8) (x:UInt8):EM (l++[x])=EM l*256+x.toNat:=by
 unfold EM;rw [List.foldl_append];rfl
def Cv (s:ByteArray):List UInt8:=s.data.toList
def Dg (s:ByteArray):List UInt8:=Ce s.size++Cv s
theorem Gi (s:ByteArray):(Cv s).length=s.size:=by unfold Cv;exact Array.length_toList
theorem Ij (s:ByteArray):(Dg s).length=8+s.size:=by unfold Dg;rw [List.length_append,FG,Gi]
def FS (l:List UInt8):ByteArray:=⟨l.toArray⟩
theorem Zb (s:ByteArray):FS (Cv s)=s:=by cases s;simp [FS,Cv]
theorem R8 (l:List UInt8):Cv (FS l)=l:=by simp [FS,Cv]
def Gs (b:List UInt8) (at_:Int):Option (Int×Int):=
 if at_<0∨(b.length:Int)<at_∨(b.length:Int) - at_<8 then none else some (IntKind.i64.wrap (EM ((b.drop at_.toNat).take 8):Nat),at_+8)
def I4 (b:List UInt8) (at_:Int):Option (ByteArray×Int):=
 match Gs b at_ with
 |none=>none
 |some (n,next)=>if n<0∨(b.length:Int) - next<n then none else some (FS ((b.drop next.toNat).take n.toNat),next+n)
theorem Qw {a c:List UInt8} {n k:Nat} (hn:n<9223372036854775808) (hk:a.length=k):Gs (a++(Ce n++c)) (k:Int)=some ((n:Int),((k+8:Nat):Int)):=by
 subst hk
 unfold Gs
 rw [if_neg (by rw [List.length_append,List.length_append,FG];omega)]
 have h1:((a++(Ce n++c)).drop ((a.length:Nat):Int).toNat).take 8=Ce n:=by
  rw [Int.toNat_natCast,List.drop_left,←FG n,List.take_left]
 rw [h1,XR (by omega),AB (by omega) (by omega)]
 rfl
theorem Qx {a c:List UInt8} {s:ByteArray} {k:Nat} (hs:s.size<9223372036854775808) (hk:a.length=k):I4 (a++(Dg s++c)) (k:Int)=some (s,((k+8+s.size:Nat):Int)):=by
 unfold I4
 have h:a++(Dg s++c)=a++(Ce s.size++(Cv s++c)):=by unfold Dg;rw [List.append_assoc]
 rw [h,Qw hs hk]
 dsimp only
 rw [if_neg (by rw [List.length_append,List.length_append,List.length_append,FG,Gi];omega)]
 have h2:(a++(Ce s.size++(Cv s++c))).drop ((k+8:Nat):Int).toNat=Cv s++c:=by
  rw [Int.toNat_natCast,←List.append_assoc,show k+8=(a++Ce s.size).length by rw [List.length_append,FG,hk],List.drop_left]
 rw [h2,Int.toNat_natCast,←Gi s,List.take_left,Zb,Gi]
 rfl
def CH (ps:List Ap):List UInt8:=ps.flatMap fun p=>Dg p.key++Dg p.val
def FO (ps:List Ap):List UInt8:=Ce ps.length++CH ps
theorem P7 (ps:List Ap) (p:Ap):CH (ps++[p])=CH ps++(Dg p.key++Dg p.val):=by unfold CH;rw [List.flatMap_append];simp
theorem P8 {ps:List Ap} {k:Nat} {p:Ap} (h:ps[k]?=some p):CH ps=CH (ps.take k)++(Dg p.key++(Dg p.val++CH (ps.drop (k+1)))):=by
 obtain ⟨hl,e⟩:=List.getElem?_eq_some_iff.1 h
 have:ps=ps.take k++p::ps.drop (k+1):=by rw [←e,←List.drop_eq_getElem_cons hl,List.take_append_drop]
 conv=>lhs;rw [this]
 unfold CH
 rw [List.flatMap_append,List.flatMap_cons,List.append_assoc]
def EG (x:UInt8):List Value:=[.int .u8 x.toNat]
def B6:Kd UInt8:=flat EG 1 (by omega) (fun _=>rfl) (fun _ c h=>by simp [EG] at h;subst h;rfl)
structure B5 where
 c:Int
 s:Int
 e:Int
 x:Int
def IU (w:B5):Prop:=(0≤w.c∧w.c≤40∧1≤w.s∧w.s≤4)∧(0≤w.x∧w.x≤w.c)∧0≤w.e∧w.e≤9223372036854775807
def Dk (chunk att:Int):Int:=if att.tmod 2≠0 then chunk+1 else chunk
def Dj (n size:Int):Int:=if n<1∨size<1 then 0 else (n - 1).tdiv size+1
def E5 (ps:List Ap) (size q:Int):List Ap:=if q<0∨Dj ps.length size≤q then [] else (ps.drop (q*size).toNat).take size.toNat
def Bt (D:A8) (J:AC) (s:Nat) (att:Int):List Int:=
 if (Az D J s).2≠0 then [] else (List.range J.parts.toNat).map fun (p:Nat)=>Dj ((Cr D J s p).length:Nat) (Dk J.chunk att)
structure BO where
 sp:Nat
 att:Int
 ws:List B5
def Df (D:A8) (J:AC) (s:Nat) (att:Int):BO:=⟨s,att,(Bt D J s att).map fun n=>⟨n,J.window,0,0⟩⟩
def C6 (D:A8) (J:AC) (s:Nat) (att p q:Int):List Ap:=if p<0 then [] else E5 (Cr D J s p) (Dk J.chunk att) q
def D9 (D:A8) (J:AC) (s:Nat) (att:Int) (w:B5) (p:Nat):List Ds:=
 (Dv w.c w.s w.x).map fun q=>⟨2,s,att,p,q,0,0,0,[],C6 D J s att p q⟩
def DA (D:A8) (J:AC) (s:Nat) (att:Int):List B5→Nat→List Ds
 |[],_=>[]
 |w::ws,p=>D9 D J s att w p++DA D J s att ws (p+1)
def GT (D:A8) (J:AC) (m:BO):List Ds:=DA D J m.sp m.att m.ws 0
def M5 (m:BO) (p:Int):Prop:=0≤p∧p<m.ws.length
instance (m:BO) (p:Int):Decidable (M5 m p):=by unfold M5;infer_instance
theorem Sl {n size:Int} (h1:1≤n) (h2:1≤size):1≤Dj n size∧Dj n size≤n:=by
 unfold Dj
 rw [if_neg (by omega)]
 have h3:(n - 1).tdiv size=(n - 1) / size:=Int.tdiv_eq_ediv_of_nonneg (by omega)
 rw [h3]
 have h4:0≤(n - 1) / size:=Int.ediv_nonneg (by omega) (by omega)
 have h5:(n - 1) / size≤n - 1:=Int.ediv_le_self _ (by omega)
 omega
theorem Sk {n size:Int} (h:0≤n):0≤Dj n size∧Dj n size≤n:=by
 by_cases h1:n<1∨size<1
 ·unfold Dj;rw [if_pos h1];omega
 ·have:=Sl (n:=n) (size:=size) (by omega) (by omega);omega
theorem SF {chunk att:Int} (h:1≤chunk∧chunk≤7):1≤Dk chunk att∧Dk chunk att≤8:=by
 unfold Dk;split<;>omega
theorem NP (D:A8) (J:AC) (s:Nat) (att:Int):(Bt D J s att).length=if (Az D J s).2≠0 then 0 else J.parts.toNat:=by
 unfold Bt
 split
 ·rfl
 ·simp
theorem NO {D:A8} {J:AC} {s:Nat} {att n:Int} (h:n∈Bt D J s att):0≤n∧n≤40:=by
 unfold Bt at h
 split at h
 ·cases h
 ·obtain ⟨p,_,rfl⟩:=List.mem_map.1 h
  have h1:=Sk (n:=((Cr D J s p).length:Nat)) (size:=Dk J.chunk att) (by omega)
  have h2:=IV D J s p
  omega
theorem Wf {D:A8} {J:AC} (hJ:B8 J) (s:Nat) (att:Int):∀ w∈(Df D J s att).ws,IU w:=by
 intro w hw
 obtain ⟨n,hn,rfl⟩:=List.mem_map.1 hw
 have:=NO hn
 have:=hJ.window1
 exact ⟨⟨by (try dsimp only);omega,by (try dsimp only);omega,by (try dsimp only);omega,by (try dsimp only);omega⟩,⟨by (try dsimp only);omega,by (try dsimp only);omega⟩,by (try dsimp only);omega,by (try dsimp only);omega⟩
theorem GI:∀ l:List UInt8,l.flatMap EG=l.map fun b=>Value.int .u8 b.toNat
 |[]=>rfl
 |x::l=>by rw [List.flatMap_cons,GI l];rfl
section
variable {P:Program} {ops:Array Oper} {Q:Exit→Act→World→Prop} {rest:List Oper} {n:Nat} {l:BB} {w0 w:World} {F F0:AJ} {o:Oper} {v:Value} {As Rs:List SP} {x y z:Operand} {t:TypeId}
section
variable {α:Type} {enc:α→List Value} {sz:Nat} {hp:0<sz} {hl:∀ x,(enc x).length=sz} {h1:∀ x,∀ c∈enc x,c.oneCell'=true}
theorem YE {e bytes:Nat} {b bt:Nat} {xs ys:List α} {B:Option Addr} {m c c2:Nat} (hg:gd ops l o=some true) (hd:CM n o.dst=true) (ho:o.op=.call { callee:=.builtin .copy,args:=#[x,y],argTypes:=#[t,t] }) (hs:C5 P t=some (e,sz,bytes))
  (hx:ev l x=some (.slice (some ⟨b,0,none⟩) m c)) (hy:ev l y=some (.slice B m c2)) (H:Hd w0 F0 w (Ic enc b bt xs::As) Rs) (hc:xs.length=c) (hmc:m≤c)
  (hn:∀ F,(∀ A∈As,A.P w F)→(∀ R∈Rs,R.P w F)→(Aa (flat enc sz hp hl h1) (.slice B m c2) ys).P w F)
  (h:∀ w',Hd w0 F0 w' (Ic enc b bt (ys++xs.drop m)::As) Rs→WL P ops Q rest n (Cu l o.dst (.int .i64 (m:Int))) w'):WL P ops Q (o::rest) n l w:=by
 obtain ⟨F,hF1,hF2⟩:∃ F,(∀ A∈As,A.P w F)∧(∀ R∈Rs,R.P w F):=H.read fun F a r=>⟨F,fun A hA=>a A (List.mem_cons_of_mem _ hA),r⟩
 obtain ⟨hyl,_,_,news,hnr,hnR⟩:MJ (flat enc sz hp hl h1) w F ys B m c2:=by
  obtain ⟨A',n',c',e',h'⟩:=hn F hF1 hF2
  cases e'
  exact h'
 have hnl:news.length=m*sz:=by rw [hnR.len,hyl];rfl
 have hm0:B=none→m=0:=by
  intro hB
  rcases hnr.2 with rfl|⟨b,off,C,t',fr,e',_⟩
  ·have:m*sz=0:=by rw [←hnl];rfl
   exact (Nat.mul_eq_zero.1 this).resolve_right (by omega)
  ·rw [hB] at e';cases e'
 obtain ⟨hu,i,hi,hi1,hi2⟩:=Ff hs
 have hfc:=Li (P:=P) (c:=c2) hnr hnl hm0
 have hnews:news=ys.flatMap enc:=AV.flat_eq.1 hnR
 obtain ⟨F1,hb⟩:∃ F,(Ic enc b bt xs).P w F:=H.fact (List.mem_cons_self ..) fun F hb=>⟨F,hb⟩
 have hfit:0+0+news.length≤(xs.flatMap enc).length:=by rw [hnl,Gm hl,Nat.add_zero,Nat.zero_add];exact Nat.mul_le_mul_right _ (by omega)
 obtain ⟨w',hr,_,_⟩:=I7 (P:=P) news (xs.flatMap enc) 0 0 w hb hfit hnR.one
 have hnew:Eu (xs.flatMap enc) (0+0) news=(ys++xs.drop m).flatMap enc:=by
  rw [Nat.add_zero,IY _ _ _ (by rw [Nat.zero_add] at hfit ⊢;simpa using hfit),hnews,List.take_zero,Gm hl,hyl,Nat.zero_add,JG hl]
  simp
 refine V hg hd (v:=.int .i64 (m:Int)) (w':=w') (fun a ha=>?_) (h w' (H.write fun F' hb'=>?_))
 ·simp [execOp,ho,resolve,ha.eval hx,ha.eval hy,invoke,builtin,Builtin.copy_,run_underlying hu,sizeOf,typeInfo,hi,hi1,Builtin.lenOf,hfc w rfl,hr,goInt]
 ·obtain ⟨w'',hr',h2,h3⟩:=I7 (P:=P) news (xs.flatMap enc) 0 0 w hb' hfit hnR.one
  rw [hr] at hr'
  cases hr'
  refine ⟨?_,h3⟩
  show (blk b _ bt).P w' F'
  rw [←hnew]
  exact h2
end
theorem YB {e bytes:Nat} {zv u:Value} {xs:List UInt8} {s:ByteArray} {ts:TypeId}
  (hg:gd ops l o=some true) (hd:CM n o.dst=true) (ho:o.op=.call { callee:=.builtin .append,args:=#[x,y],argTypes:=#[t,ts] }) (hs:C5 P t=some (e,1,bytes)) (hz:C1 P e=some zv) (hzs:zv.cells.size=1) (hb0:0<bytes) (hts:P.underlying ts=some .string)
  (hx:ev l x=some u) (hy:ev l y=some (.string s)) (H:Hd w0 F0 w (Y B6 u xs::As) Rs) (hb:(xs.length+s.size)*bytes≤140737488355328)
  (h:∀ u' w',Hd w0 F0 w' (Y B6 u' (xs++Cv s)::As) Rs→WL P ops Q rest n (Cu l o.dst u') w'):WL P ops Q (o::rest) n l w:=by
 obtain ⟨hu,i,hi,hi1,hi2⟩:=Ff hs
 have hfc:∀ w':World,w'.heap=w.heap→(Builtin.firstCells 1 s.size (.string s)).run P w'=.ok ((Cv s).flatMap EG).toArray w':=by
  intro w' _
  have e1:s.extract 0 s.size=s:=by simp
  simp only [Builtin.firstCells,e1,Sem.run_pure]
  rw [GI]
  congr 1
  apply Array.ext'
  simp [Cv]
 have hnl:((Cv s).flatMap EG).length=s.size*1:=by rw [GI,List.length_map,Gi,Nat.mul_one]
 have h1:∀ c∈(Cv s).flatMap EG,c.oneCell'=true:=by
  rw [GI]
  intro c hc
  obtain ⟨b,_,rfl⟩:=List.mem_map.1 hc
  rfl
 have key:∀ F1,(Y B6 u xs).P w F1→(∀ k,F1 k→k<w.heap.size)→∃ A c A' c' w' F',u=.slice A xs.length c∧(Builtin.append_ #[t,ts] o.type #[u,.string s]).run P w=.ok (.slice A' (xs.length+s.size) c') w'∧(Y B6 (.slice A' (xs.length+s.size) c') (xs++Cv s)).P w' F'∧Ca F1 w w'∧(∀ k,F' k→k<w'.heap.size∧(F1 k∨w.heap.size≤k)):=by
  rintro F1 ⟨A,n',c,e',hxl,cs,G1,G2,g1,g2,gd,hr,hR⟩ hlt
  cases e'
  subst hxl
  obtain ⟨A',c',w',F',hrun,hrow,hupd,hF'⟩:=MB (P:=P) (tx:=ts) (ty:=o.type) (x:=.string s) (m:=s.size) (news:=(Cv s).flatMap EG) hs hz hzs hts (.inr rfl) hr (fun k hk=>hlt k (g1 k hk)) (by simp [Builtin.lenOf]) hfc hnl h1 hb0 hb
  refine ⟨A,c,A',c',w',F',rfl,hrun,?_,⟨hupd.os,hupd.tape,hupd.output,hupd.size,fun k hk hn'=>hupd.block k hk (fun q=>hn' (g1 k q))⟩,fun k hk=>⟨(hF' k hk).1,(hF' k hk).2.imp (g1 k) id⟩⟩
  exact ⟨A',_,c',rfl,by rw [List.length_append,Gi],cs++(Cv s).flatMap EG,F',none_,fun _ q=>q,fun _ q=>q.elim,fun _ _ q=>q,hrow,CC.flatR (F:=none_) (AV.flat_eq.2 (by rw [AV.flat_eq.1 hR.toR];simp))⟩
 have hall:∃ F1,(Y B6 u xs).P w F1∧∀ k,F1 k→k<w.heap.size:=by
  obtain ⟨F,G,⟨F1,F2,a1,a2,a3,a,s⟩,r,d,f,g,u⟩:=H
  exact ⟨F1,a,fun k hk=>(f k (a1 k hk)).1⟩
 obtain ⟨F1,hO,hlt⟩:=hall
 obtain ⟨A,c,A',c',w',F',hue,hrun,_,_,_⟩:=key F1 hO hlt
 refine V hg hd (v:=.slice A' (xs.length+s.size) c') (w':=w') (fun a ha=>?_) (h _ _ (H.grow fun F2 hO2 hlt2=>?_))
 ·simp [execOp,ho,resolve,ha.eval hx,ha.eval hy,invoke,builtin,hrun]
 ·obtain ⟨A3,c3,A4,c4,w4,F4,_,hrun4,h4,h5,h6⟩:=key F2 hO2 hlt2
  rw [hrun] at hrun4
  cases hrun4
  exact ⟨F4,h4,h5,h6⟩
theorem YK {src dst e:TypeId} {s:ByteArray} (hg:gd ops l o=some true) (hd:CM n o.dst=true) (ho:o.op=.convert src dst x) (hs:P.underlying src=some .string) (hd':P.underlying dst=some (.slice e)) (he:P.underlying e=some (.int .u8)) (hx:ev l x=some (.string s))
  (hb:s.size≤140737488355328) (H:Hd w0 F0 w As Rs)
  (h:∀ b c w',s.size≤c→c≤9223372036854775807→Hd w0 F0 w' As (Aa B6 (.slice (some ⟨b,0,none⟩) s.size c) (Cv s)::Rs)→WL P ops Q rest n (Cu l o.dst (.slice (some ⟨b,0,none⟩) s.size c)) w'):WL P ops Q (o::rest) n l w:=by
 have hr:=run_bytes_of_string w src dst e s hs hd' he
 have hge:=grownCap_ge w s.size 0 e
 have hle:grownCap w s.size 0 e≤9223372036854775807:=by
  have:=grownCap_le_maxLen w s.size 0 e (by simp only [maxLen];omega)
  simpa [maxLen] using this
 generalize hc:grownCap w s.size 0 e=c at hr hge hle
 generalize hC:bytesRow s c=C at hr
 have hCl:C.toList.take s.size=(Cv s).flatMap EG:=by
  rw [←hC,GI]
  unfold bytesRow
  rw [Array.toList_append,List.take_append_of_le_length (by simp)]
  rw [List.take_of_length_le (by simp)]
  simp [Cv]
 refine V hg hd (v:=.slice (some ⟨w.heap.size,0,none⟩) s.size c) (w':=w.drew.alloc (.cells C e (C.size,C.size+1))) (fun a ha=>?_) (h _ c _ hge hle (Hd.lend (A:=Aa B6 (.slice (some ⟨w.heap.size,0,none⟩) s.size c) (Cv s)) (H.new (F':=fun k=>k=w.heap.size) ?_ ?_ ?_) fun _ h=>h))
 ·simp [execOp,ho,ha.eval hx,hr]
 ·exact (Ca.alloc none_ w.drew _).trans (Ca.refl none_ _) (fun _ _ x=>x)|>fun u=>⟨u.os,u.tape,u.output,u.size,u.block⟩
 ·refine ⟨_,_,_,rfl,Gi s,hge,hle,(Cv s).flatMap EG,⟨trivial,.inr ⟨w.heap.size,0,C,e,(C.size,C.size+1),rfl,rfl,?_,?_⟩⟩,AV.flat_eq.2 rfl⟩
  ·show (w.heap.push _)[w.heap.size]?=_
   simp
  ·rw [List.drop_zero,show ((Cv s).flatMap EG).length=s.size by rw [GI,List.length_map,Gi]]
   exact hCl
 ·intro k hk
  subst hk
  simp
theorem Qm {src dst e:TypeId} {A:Option Addr} {m c:Nat} {bs:List UInt8} (ho:o.op=.convert src dst x) (hs:P.underlying src=some (.slice e)) (he:P.underlying e=some (.int .u8)) (hd:P.underlying dst=some .string) (hx:ev l x=some (.slice A m c)) {r:ByteArray} (hr:FS bs=r) (h:(Aa B6 (.slice A m c) bs).P w F):Bv P n l w o (.string r) w:=by
 subst hr
 obtain ⟨A',c',e',_,_,_,cs,h4,h5⟩:=Mz h
 cases e'
 have hcs:cs=bs.flatMap EG:=AV.flat_eq.1 h5
 intro a ha
 cases A with
 |none=>
  have:bs=[]:=by
   rcases h4.2 with h6|⟨b,off,C,t',fr,e',_⟩
   ·rw [hcs,GI] at h6;simpa using h6
   ·cases e'
  subst this
  have:=run_convert_bytes_nil (P:=P) w src e hs he 0 c dst hd
  simp [execOp,ho,ha.eval hx,this]
  rfl
 |some ad=>
  have:=run_convert_bytes_back (P:=P) w src dst e ad c bs hs he hd (fun j hj=>by
   have hv:cs[j]?=some (.int .u8 (bs[j].toNat:Int)):=by rw [hcs,GI,List.getElem?_map,List.getElem?_eq_getElem hj];rfl
   obtain ⟨b,off,e1,h6⟩:=h4.cell hv
   cases e1
   rw [Ej]
   exact h6)
  simp [execOp,ho,ha.eval hx,this,FS]
theorem Hd.rd {p:Prop} (H:Hd w0 F0 w As Rs) {S:SP} (hS:∀ F,(∀ A∈As,A.P w F)→(∀ R∈Rs,R.P w F)→S.P w F) (h:∀ F,S.P w F→p):p:=H.read fun F a r=>h F (hS F a r)
theorem Qn {tt e size bytes:TypeId} {A:Option Addr} {m c i' j' m':Nat} {k k':IntKind} {i j:Int} (ho:o.op=.slice tt x (some y) (some z) none) (hs:C5 P tt=some (e,size,bytes)) (hx:ev l x=some (.slice A m c)) (hy:ev l y=some (.int k i)) (hz:ev l z=some (.int k' j))
  (h0:0≤i) (h1:i≤j) (h2:j≤(c:Int)) (hi':i.toNat=i') (hj':j.toNat=j') (hm':j' - i'=m'):Bv P n l w o (.slice (DK A c i' size) m' (c - i')) w:=by
 intro a ha
 obtain ⟨hu,inf,hi,hzz,_⟩:=Ff hs
 subst hi' hj' hm'
 have h3:0≤j:=by omega
 have h4:i≤max j 0:=by omega
 have hb:(Instr.sliceBounds true m c (some (.int k i)) (some (.int k' j)) none).run P w=.ok (i.toNat,j.toNat,c) w:=by
  simp [Instr.sliceBounds,Instr.sliceBound,asIntOf,h0,h2,h3,h4]
 unfold DK
 by_cases e1:c=i.toNat
 ·rw [e1] at hb
  cases A<;>simp [execOp,ho,ha.eval hx,ha.eval hy,ha.eval hz,Instr.sliceAt,Instr.slice,hb,run_underlying hu,sizeOf,typeInfo,hi,hzz,e1]
 ·cases A<;>simp [execOp,ho,ha.eval hx,ha.eval hy,ha.eval hz,Instr.sliceAt,Instr.slice,hb,run_underlying hu,sizeOf,typeInfo,hi,hzz,e1]
end
theorem Kp {α:Type} {d:Kd α} {w:World} {F:AJ} {A:Option Addr} {m c:Nat} {xs:List α} (h:(Aa d (.slice A m c) xs).P w F) {i m':Nat} (hi:i+m'≤m):(Aa d (.slice (DK A c i d.sz) m' (c - i)) ((xs.drop i).take m')).P w F:=Ym (Id h (i:=i) (by omega)) (by omega)
theorem TY:∀ x,(EG x).length=1:=fun _=>rfl
/-! ### Numbers, byte by byte -/
theorem YR (n:Nat) {i:Nat} (h:i<8):((n:Nat):Int).fdiv (2^(min ((8:Int)*(7 - ((i:Nat):Int))).toNat IntKind.u64.bits))=((n / 256^(7 - i):Nat):Int):=by
 have e:(2:Int)^(min ((8:Int)*(7 - ((i:Nat):Int))).toNat IntKind.u64.bits)=((256^(7 - i):Nat):Int):=by
  match i,h with
  |0,_=>decide
  |1,_=>decide
  |2,_=>decide
  |3,_=>decide
  |4,_=>decide
  |5,_=>decide
  |6,_=>decide
  |7,_=>decide
 rw [e,Int.fdiv_eq_ediv_of_nonneg _ (Int.natCast_nonneg _),Int.natCast_ediv]
theorem aL (m:Nat):IntKind.u8.wrap ((m:Nat):Int)=((UInt8.ofNat m).toNat:Int):=by
 unfold IntKind.wrap
 simp [IntKind.bits,IntKind.signed,UInt8.toNat_ofNat']
theorem YQ {m:Nat} (h:m<72057594037927936):IntKind.u64.wrap (((m:Nat):Int)*2^(min (8:Int).toNat IntKind.u64.bits))=((m*256:Nat):Int):=by
 have e:(2:Int)^(min (8:Int).toNat IntKind.u64.bits)=256:=by decide
 rw [e,Fi (by omega) (by omega)]
 omega
theorem WO {P:Program} {w:World} {m:Nat} (h:m<72057594037927936) (x:UInt8):(Op.intBits .or .u64 ((m*256:Nat):Int) ((x.toNat:Nat):Int)).run P w=.ok (.int .u64 ((m*256+x.toNat:Nat):Int)) w:=by
 have hx:=UInt8.toNat_lt x
 have h1:m*256|||x.toNat=m*256+x.toNat:=by
  have:=Nat.shiftLeft_add_eq_or_of_lt (b:=x.toNat) (i:=8) (by omega) m
  rw [Nat.shiftLeft_eq] at this
  exact this.symm
 have h2:(BitVec.ofInt 64 ((m*256:Nat):Int)|||BitVec.ofInt 64 ((x.toNat:Nat):Int)).toNat=m*256+x.toNat:=by
  rw [BitVec.toNat_or]
  simp only [BitVec.ofInt_natCast,BitVec.toNat_ofNat]
  rw [Nat.mod_eq_of_lt (by omega),Nat.mod_eq_of_lt (by omega),h1]
 unfold Op.intBits
 show (pure (Value.int .u64 (IntKind.u64.wrap ((BitVec.ofInt 64 ((m*256:Nat):Int)|||BitVec.ofInt 64 ((x.toNat:Nat):Int)).toNat:Nat))):Sem Value).run P w=_
 rw [h2,Fi (by omega) (by omega)]
 rfl
/-! ### What the program tells of bytes -/
def Cx (b:List UInt8) (at_:Int):Int×Int×Bool:=match Gs b at_ with
 |some x=>(x.1,x.2,true)
 |none=>(0,0,false)
def Fb (b:List UInt8) (at_:Int):ByteArray×Int×Bool:=match I4 b at_ with
 |some x=>(x.1,x.2,true)
 |none=>(⟨#[]⟩,0,false)
theorem I3 {b:List UInt8} {at_:Int} (h:at_<0∨(b.length:Int)<at_∨(b.length:Int) - at_<8):Cx b at_=(0,0,false):=by
 unfold Cx Gs;rw [if_pos h]
theorem Mw {b:List UInt8} {at_:Int} (h:¬ (at_<0∨(b.length:Int)<at_∨(b.length:Int) - at_<8)):Cx b at_=(IntKind.i64.wrap (EM ((b.drop at_.toNat).take 8):Nat),at_+8,true):=by
 unfold Cx Gs;rw [if_neg h]
theorem XX {b:List UInt8} {at_:Int} (h:(Cx b at_).2.2=false):Fb b at_=(⟨#[]⟩,0,false):=by
 unfold Cx at h
 unfold Fb I4
 cases e:Gs b at_ with
 |none=>rfl
 |some x=>rw [e] at h;cases h
theorem Mx {b:List UInt8} {at_:Int} (h:(Cx b at_).2.2=true):Fb b at_=if (Cx b at_).1<0∨(b.length:Int) - (Cx b at_).2.1<(Cx b at_).1 then (⟨#[]⟩,0,false) else (FS ((b.drop (Cx b at_).2.1.toNat).take (Cx b at_).1.toNat),(Cx b at_).2.1+(Cx b at_).1,true):=by
 unfold Cx at h ⊢
 unfold Fb I4
 cases e:Gs b at_ with
 |none=>rw [e] at h;cases h
 |some x=>
  dsimp only
  by_cases g:x.1<0∨(b.length:Int) - x.2<x.1
  ·rw [if_pos g,if_pos g]
  ·rw [if_neg g,if_neg g]
theorem XW {b:List UInt8} {at_:Int} (h:(Cx b at_).2.2=true):8≤(Cx b at_).2.1∧(Cx b at_).2.1≤(b.length:Int)∧(Cx b at_).2.1=at_+8∧0≤at_:=by
 by_cases g:at_<0∨(b.length:Int)<at_∨(b.length:Int) - at_<8
 ·rw [I3 g] at h;cases h
 ·rw [Mw g];dsimp only;omega
theorem XV {b:List UInt8} {at_:Int}: -9223372036854775808≤(Cx b at_).1∧(Cx b at_).1≤9223372036854775807:=by
 by_cases g:at_<0∨(b.length:Int)<at_∨(b.length:Int) - at_<8
 ·rw [I3 g];decide
 ·rw [Mw g]
  dsimp only
  unfold IntKind.wrap
  simp [IntKind.bits,IntKind.signed]
  omega
theorem RT (n:Nat) {i:Nat} (h:i<8):(Ce n)[i]?=some (UInt8.ofNat (n / 256^(7 - i))):=by
 unfold Ce;rw [List.getElem?_map,List.getElem?_range h];rfl
theorem RV (n:Nat) {i:Nat} (h:i<8):(Ce n).take (i+1)=(Ce n).take i++[UInt8.ofNat (n / 256^(7 - i))]:=Eg (RT n h)
theorem XU {l:List UInt8} {i:Nat} {x:UInt8} (h:l[i]?=some x):EM (l.take (i+1))=EM (l.take i)*256+x.toNat:=by rw [Eg h,XT]
def N1 (b:Nat):List Value:=[.pointer (some ⟨b,0,none⟩)]
def Cq:Kd Nat:=flat N1 1 (by omega) (fun _=>rfl) (fun _ c h=>by simp [N1] at h;subst h;rfl)
def Ci (t:Nat) (e:Nat×B5):SP:=blk e.1 [.int .i64 e.2.c,.int .i64 e.2.s,.int .i64 e.2.e,.int .i64 e.2.x] t
def AZ (ps:List Ap):ByteArray:=FS (FO ps)
theorem Zc (l:List UInt8):(FS l).size=l.length:=by simp [FS,ByteArray.size]
theorem Mh {ps:List Ap} (h:∀ p∈ps,p.key.size≤100∧p.val.size≤100):(CH ps).length≤ps.length*216:=by
 induction ps with
 |nil=>exact Nat.zero_le _
 |cons p ps ih=>
  have h1:=h p (List.mem_cons_self ..)
  have h2:=ih fun q hq=>h q (List.mem_cons_of_mem _ hq)
  have e:CH (p::ps)=(Dg p.key++Dg p.val)++CH ps:=by unfold CH;rw [List.flatMap_cons]
  rw [e,List.length_append,List.length_append,Ij,Ij,List.length_cons,Nat.succ_mul]
  omega
theorem W7 {ps:List Ap} (h:∀ p∈ps,p.key.size≤100∧p.val.size≤100) (hl:ps.length≤1000):(AZ ps).size≤300000:=by
 have:=Mh h
 unfold AZ
 rw [Zc]
 unfold FO
 rw [List.length_append,FG]
 omega
theorem Mi (ps:List Ap):Cv (AZ ps)=FO ps:=R8 _
def DN (ps:List Ap) (k:Nat):Nat:=8+(CH (ps.take k)).length
theorem W6 {ps:List Ap} {k:Nat} {p:Ap} (h:ps[k]?=some p):DN ps (k+1)=DN ps k+8+p.key.size+8+p.val.size:=by
 unfold DN
 rw [Eg h,P7,List.length_append,List.length_append,Ij,Ij]
 omega
theorem W9 {ps:List Ap} (hl:ps.length<9223372036854775808):Cx (FO ps) 0=(((ps.length:Nat):Int),8,true):=by
 have h:=Qw (a:=[]) (c:=CH ps) (n:=ps.length) (k:=0) hl rfl
 unfold Cx FO
 have h2:Gs (Ce ps.length++CH ps) 0=some (((ps.length:Nat):Int),((0+8:Nat):Int)):=h
 rw [h2]
 rfl
theorem W8 {ps:List Ap} {k:Nat} {p:Ap} (h:ps[k]?=some p) (hk:p.key.size<9223372036854775808):Fb (FO ps) (DN ps k:Nat)=(p.key,((DN ps k+8+p.key.size:Nat):Int),true):=by
 have e:FO ps=(Ce ps.length++CH (ps.take k))++(Dg p.key++(Dg p.val++CH (ps.drop (k+1)))):=by unfold FO;rw [P8 h,List.append_assoc]
 have h1:=Qx (a:=Ce ps.length++CH (ps.take k)) (c:=Dg p.val++CH (ps.drop (k+1))) (s:=p.key) (k:=DN ps k) hk (by rw [List.length_append,FG];rfl)
 unfold Fb
 rw [e,h1]
theorem W_ {ps:List Ap} {k:Nat} {p:Ap} (h:ps[k]?=some p) (hk:p.val.size<9223372036854775808):Fb (FO ps) ((DN ps k+8+p.key.size:Nat):Int)=(p.val,((DN ps (k+1):Nat):Int),true):=by
 have e:FO ps=(Ce ps.length++CH (ps.take k)++Dg p.key)++(Dg p.val++CH (ps.drop (k+1))):=by unfold FO;rw [P8 h];simp only [List.append_assoc]
 have h1:=Qx (a:=Ce ps.length++CH (ps.take k)++Dg p.key) (c:=CH (ps.drop (k+1))) (s:=p.val) (k:=DN ps k+8+p.key.size) hk (by rw [List.length_append,List.length_append,FG,Ij];unfold DN;omega)
 unfold Fb
 rw [e,h1,W6 h]
theorem W5 {ps:List Ap} (h:∀ p∈ps,p.key.size≤100∧p.val.size≤100) (hl:ps.length≤1000) (i:Nat):DN ps i≤300000:=by
 have h1:=Mh (ps:=ps.take i) fun p hp=>h p (List.mem_of_mem_take hp)
 have h2:(ps.take i).length≤ps.length:=by rw [List.length_take];omega
 unfold DN
 omega
def DZ (D:A8) (J:AC) (s:Nat) (att:Int) (k:Nat):List Int:=(List.range k).map fun (p:Nat)=>Dj ((Cr D J s p).length:Nat) (Dk J.chunk att)
theorem NH (D:A8) (J:AC) (s:Nat) (att:Int) (k:Nat):DZ D J s att (k+1)=DZ D J s att k++[Dj ((Cr D J s k).length:Nat) (Dk J.chunk att)]:=by
 unfold DZ;rw [List.range_succ,List.map_append];rfl
theorem NG (D:A8) (J:AC) (s:Nat) (att:Int) (k:Nat):(DZ D J s att k).length=k:=by simp [DZ]
theorem NS {D:A8} {J:AC} {s:Nat} {att:Int} (h:(Az D J s).2=0):Bt D J s att=DZ D J s att J.parts.toNat:=by
 unfold Bt;rw [if_neg (fun g=>g h)];rfl
theorem NQ {D:A8} {J:AC} {s:Nat} {att:Int} (h:(Az D J s).2≠0):Bt D J s att=[]:=by
 unfold Bt;rw [if_pos h]
/-! ### Windows, in a row of pointers -/
def Rp (J:AC) (n:Int):B5:=⟨n,J.window,0,0⟩
theorem aH {ws:List (Nat×B5)} {k:Nat} {e:Nat×B5} (h:ws[k]?=some e):(ws.map Prod.snd)[k]?=some e.2:=by rw [List.getElem?_map,h];rfl
theorem aG {ws:List (Nat×B5)} {k:Nat} {e:Nat×B5} (h:ws[k]?=some e):ws.set k e=ws:=Ku h
theorem Sj {n size q:Int} (h0:0≤q) (h1:q<Dj n size) (hs:1≤size):0≤q*size∧q*size≤n - 1:=by
 unfold Dj at h1
 by_cases h:n<1∨size<1
 ·rw [if_pos h] at h1;omega
 ·rw [if_neg h,Int.tdiv_eq_ediv_of_nonneg (by omega)] at h1
  exact ⟨Int.mul_nonneg h0 (by omega),(Int.le_ediv_iff_mul_le (by omega)).1 (by omega)⟩
theorem SD {ps:List Ap} {size q:Int} {m k:Nat} (h0:0≤q) (h1:q<Dj ps.length size) (hs:1≤size) (hm:q*size=(m:Int)) (hk:min size (((ps.length - m:Nat):Int))=(k:Int)):E5 ps size q=(ps.drop m).take k:=by
 unfold E5
 rw [if_neg (by omega),hm,Int.toNat_natCast]
 refine (List.take_eq_take_iff).2 ?_
 rw [List.length_drop]
 omega
theorem NT {ps:List Ap} {size q:Int} (h:q<0∨Dj ps.length size≤q):E5 ps size q=[]:=if_pos h
theorem Zk {n size:Int} (h:0≤n) (hs:1≤size):0≤n.tdiv size∧n.tdiv size≤n:=by
 rw [Int.tdiv_eq_ediv_of_nonneg h]
 exact ⟨Int.ediv_nonneg h (by omega),Int.ediv_le_self _ h⟩
/-! ### What is pushed, window by window -/
theorem Qh (D:A8) (J:AC) (s:Nat) (att:Int):∀ (a b:List B5) (p:Nat),DA D J s att (a++b) p=DA D J s att a p++DA D J s att b (p+a.length)
 |[],b,p=>rfl
 |w::a,b,p=>by
  show D9 D J s att w p++DA D J s att (a++b) (p+1)=D9 D J s att w p++DA D J s att a (p+1)++_
  rw [Qh D J s att a b (p+1),List.append_assoc,List.length_cons,show p+1+a.length=p+(a.length+1) by omega]
theorem Xo {D:A8} {J:AC} {s:Nat} {att:Int} {ws:List B5} {k:Nat} {w:B5} (h:ws[k]?=some w):DA D J s att (ws.take (k+1)) 0=DA D J s att (ws.take k) 0++D9 D J s att w k:=by
 rw [Eg h,Qh,List.length_take,Nat.zero_add,Nat.min_eq_left (Nat.le_of_lt (J4 h))]
 show _++(D9 D J s att w k++[])=_
 rw [List.append_nil]
theorem Mo (D:A8) (J:AC) (s:Nat) (att:Int) (w:B5) (p:Nat):(D9 D J s att w p).length=(Dv w.c w.s w.x).length:=by unfold D9;rw [List.length_map]
theorem Xn {D:A8} {J:AC} {s:Nat} {att:Int} {w:B5} {p j:Nat} {q:Int} (h:(Dv w.c w.s w.x)[j]?=some q):(D9 D J s att w p).take (j+1)=(D9 D J s att w p).take j++[⟨2,s,att,p,q,0,0,0,[],C6 D J s att p q⟩]:=
 Eg (by unfold D9;rw [List.getElem?_map,h];rfl)
theorem P4 {w:B5} (h:IU w):(Dv w.c w.s w.x).length≤4:=by
 rw [WI]
 have:=h.1
 have:=h.2.1
 omega
theorem Kg {D:A8} {J:AC} {s:Nat} {att:Int}:∀ {ws:List B5} (p:Nat),(∀ w∈ws,IU w)→(DA D J s att ws p).length≤4*ws.length
 |[],_,_=>Nat.zero_le _
 |w::ws,p,h=>by
  have h1:=P4 (h w (List.mem_cons_self ..))
  have h2:=Kg (D:=D) (J:=J) (s:=s) (att:=att) (p+1) fun x hx=>h x (List.mem_cons_of_mem _ hx)
  show (D9 D J s att w p++DA D J s att ws (p+1)).length≤_
  rw [List.length_append,Mo,List.length_cons]
  omega
theorem NR {A B:AC} (h:Bd A B) (D:A8) (s:Nat) (att:Int):Bt D A s att=Bt D B s att:=by
 unfold Bt
 rw [h.split,h.parts,h.chunk]
 simp only [h.only]
theorem PP {A B:AC} (h:Bd A B) (D:A8) (s:Nat) (att:Int):Df D A s att=Df D B s att:=by
 unfold Df Bt
 rw [h.split,h.parts,h.chunk,h.window]
 simp only [h.only]
theorem Wm {A B:AC} (h:Bd A B) {D:A8} {s:Nat} {att:Int} {ws:List (Nat×B5)} {k:Nat} (hw:ws.map Prod.snd=((Bt D A s att).take k).map (Rp A)) (hk:(Bt D A s att).length≤k):ws.map Prod.snd=(Df D B s att).ws:=by
 rw [hw,List.take_of_length_le hk,←PP h];rfl
theorem Qk {A B:AC} (h:Bd A B) (D:A8) (s:Nat) (att:Int):∀ (ws:List B5) (p:Nat),DA D A s att ws p=DA D B s att ws p
 |[],_=>rfl
 |w::ws,p=>by
  show D9 D A s att w p++DA D A s att ws (p+1)=D9 D B s att w p++DA D B s att ws (p+1)
  rw [Qk h D s att ws]
  unfold D9 C6
  rw [h.chunk]
  simp only [h.only]
theorem aF {ws:List (Nat×B5)} {k x:Nat} (h:(ws.map Prod.fst)[k]?=some x):∃ wd,ws[k]?=some (x,wd):=by
 rw [List.getElem?_map] at h
 obtain ⟨e,he,rfl⟩:=Option.map_eq_some_iff.1 h
 exact ⟨e.2,he⟩
def F8 (M:BO):Prop:=(∀ w∈M.ws,IU w)∧M.ws.length≤1000
theorem WA {D:A8} {J:AC} (hJ:B8 J) (s:Nat) (att:Int):F8 (Df D J s att):=by
 refine ⟨Wf hJ s att,?_⟩
 have:=hJ.parts
 show ((Bt D J s att).map _).length≤_
 rw [List.length_map,NP]
 split<;>omega
theorem Hd.tellK {α:Type} {w0 w:World} {F0:AJ} {K:Kd α} {v:Value} {xs ys:List α} {As Rs:List SP} (H:Hd w0 F0 w (Y K v xs::As) Rs) (e:ys=xs):Hd w0 F0 w (Y K v ys::As) Rs:=by rw [e];exact H
structure EB where
 fr:Int
 to:Int
 m:Ds
def C4 (x:Bi Cj):EB:=⟨x.h.fr,x.h.to,x.h.m.p x.set x.pairs⟩
theorem IN {a b:EB}:a=b↔a.fr=b.fr∧a.to=b.to∧a.m=b.m:=by
 constructor
 ·rintro rfl;exact ⟨rfl,rfl,rfl⟩
 ·rintro ⟨h1,h2,h3⟩
  cases a;cases b
  simp only at h1 h2 h3
  subst h1 h2 h3
  rfl
instance letPD (a b:EB):Decidable (a=b):=decidable_of_iff _ IN.symm
structure Di where
 ep:Int
 rs:List AK
 ts:List BO
 over:Bool
def CO (r:Bm):Bool:=decide (r.kind=6)
def Iz (recs:List Bm):Int:=((1+cnt CO recs:Nat):Int)
def Ec (C:Cf) (id:Int) (k:Nat):List Nat:=(List.range k).filter fun (p:Nat)=>decide (CY C (p:Int)=id)
def Ef (C:Cf) (id:Int) (recs:List Bm) (k:Nat):List AK:=(Ec C id k).map fun (p:Nat)=>CQ C.J.us.length p (Iz recs) (recs.map Bm.p)
def EL (C:Cf) (id:Int) (recs:List Bm):Di:=⟨Iz recs,Ef C id recs C.J.parts.toNat,[],false⟩
theorem OQ {C:Cf} {id:Int} {k:Nat} (h:CY C (k:Int)=id):Ec C id (k+1)=Ec C id k++[k]:=by
 unfold Ec
 rw [List.range_succ,List.filter_append]
 congr 1
 exact List.filter_cons_of_pos (decide_eq_true h)
theorem T0 {C:Cf} {id:Int} {k:Nat} (h:¬ CY C (k:Int)=id):Ec C id (k+1)=Ec C id k:=by
 unfold Ec
 rw [List.range_succ,List.filter_append]
 have e:[k].filter (fun (p:Nat)=>decide (CY C (p:Int)=id))=[]:=List.filter_cons_of_neg (by rw [decide_eq_false h];decide)
 rw [e,List.append_nil]
theorem TZ {C:Cf} {id:Int} {k p:Nat} (h:p∈Ec C id k):p<k:=List.mem_range.1 (List.mem_filter.1 h).1
theorem LI {C:Cf} {id:Int} {k p:Nat}:p∈Ec C id k↔p<k∧CY C (p:Int)=id:=by
 unfold Ec
 rw [List.mem_filter,List.mem_range,decide_eq_true_eq]
theorem OP (C:Cf) (id:Int) (k:Nat):(Ec C id k).length≤k:=Nat.le_trans (List.length_filter_le _ _) (by simp)
theorem Ye {C:Cf} {id:Int} {recs:List Bm} {k:Nat} (h:CY C (k:Int)=id):Ef C id recs (k+1)=Ef C id recs k++[CQ C.J.us.length k (Iz recs) (recs.map Bm.p)]:=by
 unfold Ef;rw [OQ h,List.map_append];rfl
theorem Yd {C:Cf} {id:Int} {recs:List Bm} {k:Nat} (h:¬ CY C (k:Int)=id):Ef C id recs (k+1)=Ef C id recs k:=by
 unfold Ef;rw [T0 h]
def CW (R:AK):Int:=R.part
theorem QE (C:Cf) (id:Int) (recs:List Bm) (k:Nat):(Ef C id recs k).map CW=(Ec C id k).map fun (p:Nat)=>(p:Int):=by
 unfold Ef
 rw [List.map_map]
 exact List.map_congr_left fun p _=>(IT _ _ _ _).1
theorem Yb (C:Cf) (id:Int) (recs:List Bm) (k:Nat):(Ef C id recs k).length≤k:=by
 unfold Ef;rw [List.length_map];exact OP C id k
/-! ### What it does -/
def FJ (sp att:Int) (M:BO):Bool:=decide ((M.sp:Int)=sp) && decide (M.att=att)
def ET (ts:List BO) (sp att:Int):Bool:=ts.any (FJ sp att)
def Ie (C:Cf) (sp att:Int):Prop:=0≤sp∧sp<((C.J.us.length:Nat):Int)∧1≤att∧att≤C.t
instance runMayD (C:Cf) (sp att:Int):Decidable (Ie C sp att):=by unfold Ie;infer_instance
def F_ (D:A8) (C:Cf) (W:Di) (sp att:Int):Di:=if (W.over||ET W.ts sp att)=true then W else if Ie C sp att then { W with ts:=W.ts++[Df D C.J sp.toNat att] } else W
def Fu (D:A8) (C:Cf) (W:Di) (fr kind sp att:Int):Di:=if fr≠0 then W else if kind=1 then F_ D C W sp att else { W with ts:=[],over:=true }
def doneL (D:A8) (J:AC) (M:BO):EB:=
 if (Az D J M.sp).2≠0 then ⟨0,0,⟨5,M.sp,M.att,0,0,0,0,(Az D J M.sp).2,[],[]⟩⟩ else ⟨0,0,⟨4,M.sp,M.att,0,0,0,0,0,Bt D J M.sp M.att,[]⟩⟩
def Xp (C:Cf) (m:Ds):EB:=⟨0,CY C m.part,m⟩
def Gd (D:A8) (C:Cf) (M:BO):List EB:=doneL D C.J M::(GT D C.J M).map (Xp C)
def JT (D:A8) (J:AC) (R:AK):EB:=⟨0,0,AF D J R⟩
def Hu (D:A8) (C:Cf) (W:Di):List EB:=if W.over=true then [] else W.ts.flatMap (Gd D C)++W.rs.map (JT D C.J)
/-! ### In memory -/
def BA (b:Bool):Int:=if b then 1 else 0
theorem WT (b:Bool):decide (BA b≠0)=b:=by cases b<;>rfl
structure E2 where
 sp:Int
 att:Int
 b:Nat
def N2 (t:E2):List Value:=[.int .i64 t.sp,.int .i64 t.att,.pointer (some ⟨t.b,0,none⟩)]
def B7:Kd E2:=flat N2 3 (by omega) (fun _=>rfl) (fun _ c h=>by simp [N2] at h;rcases h with rfl|rfl|rfl<;>rfl)
def AG (e:Nat×BO):E2:=⟨(e.2.sp:Int),e.2.att,e.1⟩
def AD (e:Nat×AK):Int:=e.2.part
def BN (e:Nat×AK):Int×Value:=(e.2.part,.pointer (some ⟨e.1,0,none⟩))
def Ib (rl:List (Nat×AK)) (p:Int):Option Addr:=match rl.find? (fun e=>decide (e.2.part=p)) with
 |some e=>some ⟨e.1,0,none⟩
 |none=>none
theorem IP (p:Int):∀ rl:List (Nat×AK),(FL p (rl.map BN)).getD (.pointer none)=.pointer (Ib rl p)
 |[]=>rfl
 |e::rl=>by
  have ih:=IP p rl
  rw [List.map_cons]
  unfold Ib at ih ⊢
  by_cases h:e.2.part=p
  ·have h1:(BN e).1=p:=h
   unfold FL
   rw [if_pos h1,List.find?_cons_of_pos (p:=fun e:Nat×AK=>decide (e.2.part=p)) (decide_eq_true h)]
   rfl
  ·have h1:¬ (BN e).1=p:=h
   unfold FL
   rw [if_neg h1,List.find?_cons_of_neg (p:=fun e:Nat×AK=>decide (e.2.part=p)) (by rw [decide_eq_false h];decide)]
   exact ih
theorem Ya (rl:List (Nat×AK)) (p:Int):(Ib rl p).isNone=!decide (p∈rl.map AD):=by
 unfold Ib
 cases h:rl.find? (fun e=>decide (e.2.part=p)) with
 |none=>
  have h1:=List.find?_eq_none.1 h
  have h2:¬ p∈rl.map AD:=fun g=>by
   obtain ⟨e,he,e2⟩:=List.mem_map.1 g
   exact h1 e he (decide_eq_true e2)
  rw [decide_eq_false h2];rfl
 |some e=>
  have h1:=List.find?_some h
  have h2:=List.mem_of_find?_eq_some h
  have h3:p∈rl.map AD:=List.mem_map.2 ⟨e,h2,of_decide_eq_true h1⟩
  rw [decide_eq_true h3];rfl
theorem X_ {rl:List (Nat×AK)} {i:Nat} {e:Nat×AK} (hn:((rl.map BN).map fun p=>p.1).Nodup) (h:rl[i]?=some e):Ib rl (e.2.part)=some ⟨e.1,0,none⟩:=by
 have h1:(rl.map BN)[i]?=some (e.2.part,.pointer (some ⟨e.1,0,none⟩)):=by rw [List.getElem?_map,h];rfl
 have h2:=L0 hn h1
 have h3:=IP e.2.part rl
 rw [h2] at h3
 simpa using h3.symm
theorem Vs {rl:List (Nat×AK)} {b:Nat} {R:AK} {p:Int} (hp:R.part=p) (h:¬ p∈rl.map AD):Gu p (.pointer (some ⟨b,0,none⟩)) (rl.map BN)=(rl++[(b,R)]).map BN:=by
 rw [Kt]
 ·rw [List.map_append]
  subst hp
  rfl
 ·intro q hq
  obtain ⟨e,he,rfl⟩:=List.mem_map.1 hq
  exact fun g=>h (List.mem_map.2 ⟨e,he,g⟩)
theorem Mk {rl:List (Nat×AK)} {rs:List AK} (h:rl.map Prod.snd=rs):rl.map AD=rs.map CW:=by
 rw [←h,List.map_map];rfl
theorem Su {ts:List BO} {sp att:Int} {k:Nat} {M:BO} (hx:ts[k]?=some M) (h:FJ sp att M=true):ET ts sp att=true:=List.any_eq_true.2 ⟨M,Cb hx,h⟩
theorem Tg {ts:List BO} {sp att:Int} (h:∀ M∈ts,FJ sp att M=false):ET ts sp att=false:=by
 unfold ET
 rw [List.any_eq_false]
 exact fun M hM=>by rw [h M hM];decide
theorem Bd.doneL {A B:AC} (h:Bd A B) (D:A8) (M:BO):doneL D A M=doneL D B M:=by
 unfold X.doneL
 rw [h.split,NR h]
theorem ER.home {A B:Cf} (h:ER A B) (p:Int):CY A p=CY B p:=by
 unfold CY
 have h1:CP A↔CP B:=⟨h.may,h.symm.may⟩
 rw [h.J.parts,h.w]
 by_cases g:¬ CP B∨¬ (0≤p∧p≤B.J.parts - 1)
 ·rw [if_pos g,if_pos (by rw [h1];exact g)]
 ·rw [if_neg g,if_neg (by rw [h1];exact g)]
def Cp (J:AC) (C:Cf):Cf:=⟨J,C.w,C.t,C.o⟩
theorem I8 {J:AC} {C:Cf} (h:Bd J C.J):ER (Cp J C) C:=⟨h,rfl,rfl,rfl⟩
def lf (C:Cf) (m:Bi CF):Bi Cj:=⟨⟨0,CY C m.h.part,m.h⟩,m.sv,m.set,m.pv,m.pairs⟩
theorem Zr (C:Cf) (zs:List (Bi CF)):B0 (zs.map (lf C))=B0 zs:=by
 unfold B0 Bn
 rw [List.map_map]
 rfl
section
variable {w0 w:World} {F0:AJ} {As Rs:List SP}
theorem Hd.bigC {α:Type} {f:α→SP} {l:List α} {x:α} (h:Hd w0 F0 w (f x::Bn f l::As) Rs):Hd w0 F0 w (Bn f (x::l)::As) Rs:=by
 have h1:Hd w0 F0 w (Bn f l::(As++[f x])) Rs:=h.perm (List.perm_append_comm (l₁:=[f x]) (l₂:=Bn f l::As))
 have h2:Hd w0 F0 w (l.map f++As++[f x]) Rs:=by rw [List.append_assoc];exact h1.stA
 have h3:Hd w0 F0 w ((x::l).map f++As) Rs:=h2.perm (List.perm_append_comm (l₁:=l.map f++As) (l₂:=[f x]))
 exact h3.stI
theorem Hd.twC {α:Type} {r:Bi α} {us:List (Bi α)} (H:Hd w0 F0 w (Y (Ai .i64) r.sv r.set::Y Ag r.pv r.pairs::B0 us::As) Rs):Hd w0 F0 w (B0 (r::us)::As) Rs:=
 Hd.bigC (f:=Ey) (show Hd w0 F0 w (Ey r::Bn Ey us::As) Rs from Hd.stI (Bs:=[Y (Ai .i64) r.sv r.set,Y Ag r.pv r.pairs]) H)
theorem Zu {α:Type} {a b:List (Bi α)} (H:Hd w0 F0 w (B0 a::B0 b::As) Rs):Hd w0 F0 w (B0 (a++b)::As) Rs:=by
 have h1:Hd w0 F0 w (a.map Ey++(B0 b::As)) Rs:=Hd.stA (Bs:=a.map Ey) H
 have h2:Hd w0 F0 w (B0 b::(a.map Ey++As)) Rs:=h1.perm List.perm_middle
 have h3:Hd w0 F0 w (b.map Ey++(a.map Ey++As)) Rs:=Hd.stA (Bs:=b.map Ey) h2
 have h4:Hd w0 F0 w ((a++b).map Ey++As) Rs:=h3.perm (by
  rw [List.map_append,List.append_assoc]
  exact (List.perm_append_comm_assoc _ _ _))
 exact h4.stI
end
theorem V8 {zs:List (Bi CF)} {k:Nat} {x:E4 CF} (hx:(zs.map Bw)[k]?=some x):∃ m,zs[k]?=some m∧x=Bw m:=by
 rw [List.getElem?_map] at hx
 obtain ⟨m,hm,rfl⟩:=Option.map_eq_some_iff.1 hx
 exact ⟨m,hm,rfl⟩
theorem Qj (D:A8) (J:AC) (s:Nat) (att:Int):∀ (ws:List B5) (p:Nat) (m:Ds),m∈DA D J s att ws p→∃ q:Nat,m.part=(q:Int)∧q<p+ws.length
 |[],_,_,h=>by cases h
 |w::ws,p,m,h=>by
  have h':m∈D9 D J s att w p++DA D J s att ws (p+1):=h
  rcases List.mem_append.1 h' with g|g
  ·obtain ⟨q,_,rfl⟩:=List.mem_map.1 g
   exact ⟨p,rfl,by rw [List.length_cons];omega⟩
  ·obtain ⟨q,h1,h2⟩:=Qj D J s att ws (p+1) m g
   exact ⟨q,h1,by rw [List.length_cons];omega⟩
theorem Xu {D:A8} {J:AC} {M:BO} (hM:F8 M) {zs:List (Bi CF)} (hz:zs.map F7=GT D J M) {k:Nat} {m:Bi CF} (hm:zs[k]?=some m):AE m.h.part:=by
 have h1:F7 m∈GT D J M:=by rw [←hz];exact List.mem_map_of_mem (List.mem_of_getElem? hm)
 obtain ⟨q,h2,h3⟩:=Qj D J M.sp M.att M.ws 0 _ h1
 have h4:=hM.2
 have h5:m.h.part=(q:Int):=h2
 unfold AE
 omega
theorem V9 {D:A8} {J:AC} {M:BO} (hM:F8 M) {zs:List (Bi CF)} (hz:zs.map F7=GT D J M):zs.length≤4000:=by
 have h1:=congrArg List.length hz
 rw [List.length_map] at h1
 have h2:=Kg (D:=D) (J:=J) (s:=M.sp) (att:=M.att) 0 hM.1
 have h3:=hM.2
 have h4:(GT D J M).length=(DA D J M.sp M.att M.ws 0).length:=rfl
 omega
theorem Zl {D:A8} {C:Cf} {M:BO} {z0:Bi Cj} {zs:List (Bi CF)} (h0:C4 z0=doneL D C.J M) (hz:zs.map F7=GT D C.J M):(z0::zs.map (lf C)).map C4=Gd D C M:=by
 unfold Gd
 rw [List.map_cons,h0,←hz,List.map_map,List.map_map]
 rfl
theorem Zm {D:A8} {C:Cf} {M:BO} (hM:F8 M):(Gd D C M).length≤4001:=by
 have h2:=Kg (D:=D) (J:=C.J) (s:=M.sp) (att:=M.att) 0 hM.1
 have h3:=hM.2
 have h4:(GT D C.J M).length=(DA D C.J M.sp M.att M.ws 0).length:=rfl
 unfold Gd
 rw [List.length_cons,List.length_map]
 omega
theorem Bd.hello {A B:AC} (h:Bd A B) (D:A8) (R:AK):AF D A R=AF D B R:=by
 unfold AF
 rw [h.out,h.len]
theorem Tl {α β:Type} {f:α→List β} {l:List α} {k:Nat} {x:α} (h:l[k]?=some x):(l.take (k+1)).flatMap f=(l.take k).flatMap f++f x:=by
 rw [Eg h,List.flatMap_append]
 simp
theorem PI {α β:Type} {f:α→β} {l:List α} {k:Nat} {x:α} (h:l[k]?=some x):(l.take (k+1)).map f=(l.take k).map f++[f x]:=by
 rw [Eg h,List.map_append]
 rfl
theorem TW {D:A8} {J:AC} {R:AK}:(AF D J R).pairs=[]:=by
 unfold AF
 split<;>rfl
theorem Wb {m:Ds} (h:m.pairs=[]):(⟨m.kind,m.sp,m.att,m.part,m.seq,m.next,m.ep,m.why,m.set,[]⟩:Ds)=m:=by
 cases m
 simp only at h
 subst h
 rfl
theorem Xf {rl:List (Nat×AK)} {rs:List AK} (hrl:rl.map Prod.snd=rs) {k:Nat} {x:Int} (hx:(rl.map AD)[k]?=some x):∃ e,rl[k]?=some e∧rs[k]?=some e.2∧x=AD e:=by
 rw [List.getElem?_map] at hx
 obtain ⟨e,he,rfl⟩:=Option.map_eq_some_iff.1 hx
 exact ⟨e,he,by rw [←hrl,List.getElem?_map,he];rfl,rfl⟩
theorem Yc {C:Cf} {id:Int} {recs:List Bm} {p:Nat} {rl:List (Nat×AK)} (hrl:rl.map Prod.snd=Ef C id recs p):¬ ((p:Nat):Int)∈rl.map AD:=fun h=>by
 rw [Mk hrl,QE] at h
 obtain ⟨q,hq,e⟩:=List.mem_map.1 h
 have:=TZ hq
 omega
def CN (u:Value):Cf:=⟨⟨[(u,Dz)],1,DL,[],DL,1,1,9,[]⟩,1,2,1⟩
theorem MK (u:Value):CP (CN u):=by
 refine ⟨⟨(show 1≤((1:Nat):Int)∧((1:Nat):Int)≤6 by decide),(show (1:Int)≤1∧(1:Int)≤4 by decide),(show 0≤4 by decide),?_,?_,(show 0<DL.length∧Dx DL<0 by decide+kernel),(show 0<DL.length∧Dx DL<0 by decide+kernel),(show Dx []<0 by decide+kernel),
  (show (1:Int)≤1∧(1:Int)≤7 by decide),(show (1:Int)≤1∧(1:Int)≤4 by decide),(show (1:Int)≤9∧(9:Int)≤2000 by decide)⟩,(show (1:Int)≤1∧(1:Int)≤4 by decide),(show (1:Int)≤2∧(2:Int)≤3 by decide),(show (1:Int)≤1∧(1:Int)≤50 by decide)⟩
 ·intro x hx
  rw [List.mem_singleton.1 hx]
  show GS Dz
  decide
 ·show Gp ((1:Nat):Int) 0 []
  decide
theorem YU (u:Value):B8 (CN u).J:=⟨(MK u).1,LJ,(fun i h=>by cases h),LJ⟩
theorem Yw (D:A8) (a:Value):mapM D ⟨[(a,Dz)],1,DL,[],DL,1,1,9,[]⟩ 0=(Dz,0):=by kernel_rfl
theorem QT (D:A8) (a:Value):Az D (CN a).J 0=(Dz,0):=by
 show Az D ⟨[(a,Dz)],1,DL,[],DL,1,1,9,[]⟩ 0=_
 unfold Az
 rw [Yw]
 show (srt Dz,(0:Int))=_
 rw [show srt Dz=Dz by decide]
theorem Yy (D:A8) (a:Value):(Cr D (CN a).J 0 0).length=1:=by
 unfold Cr
 rw [QT]
 kernel_rfl
theorem Yv {D:A8} {u:Value} (att:Int):Bt D (CN u).J 0 att=[Dj 1 (Dk 1 att)]:=by
 unfold Bt
 rw [QT]
 show [Dj ((Cr D (CN u).J 0 0).length:Nat) (Dk 1 att)]=_
 rw [Yy]
 rfl
theorem Yx {D:A8} {u:Value}:Df D (CN u).J 0 1=⟨0,1,[⟨1,1,0,0⟩]⟩:=by
 unfold Df
 rw [Yv]
 rfl
theorem QS (u:Value):CY (CN u) 0=1:=by
 unfold CY
 rw [if_neg (fun h=>h.elim (fun g=>g (MK u)) (fun g=>g ⟨by decide,show (0:Int)≤1 - 1 by decide⟩))]
 rfl
def BV:Bm:=⟨6,0,0,0,0,PV,[],PV,[]⟩
theorem Pt {w:World} {F:AJ} {n:Nat}:∀ r∈List.replicate n BV,(Aa (Ai .i64) r.sv r.set).P w F∧(Aa Ag r.pv r.pairs).P w F:=fun r hr=>by
 rw [List.eq_of_mem_replicate hr]
 exact ⟨Hj _ _ _ trivial (by decide),Hj _ _ _ trivial (by decide)⟩
theorem Pu {n:Nat}:∀ r∈List.replicate n BV,(AE r.sp∧r.set.length≤1000)∧r.pairs.length≤1000:=fun r hr=>by
 rw [List.eq_of_mem_replicate hr]
 exact ⟨⟨by unfold AE BV;decide,Nat.zero_le _⟩,Nat.zero_le _⟩
theorem Ps:∀ n:Nat,cnt CO (List.replicate n BV)=n
 |0=>rfl
 |n+1=>by
  have ih:=Ps n
  unfold cnt at ih ⊢
  rw [List.replicate_succ,List.filter_cons_of_pos (show CO BV=true from rfl),List.length_cons,ih]
theorem Vy (n:Nat):Iz (List.replicate n BV)=((n+1:Nat):Int):=by
 unfold Iz
 rw [Ps,Nat.add_comm]
theorem Z2 (u:Value):EL (CN u) 1 [BV]=⟨2,[CQ 1 0 2 [BV.p]],[],false⟩:=by
 have h:Ec (CN u) 1 1=[0]:=OQ (k:=0) (QS u)
 unfold EL Ef
 rw [show (CN u).J.parts.toNat=1 from rfl,h]
 rfl
theorem Z3 (D:A8) (u:Value):Hu D (CN u) ⟨2,[CQ 1 0 2 [BV.p]],[],false⟩=[⟨0,0,⟨6,0,0,0,0,0,2,0,[],[]⟩⟩]:=rfl
theorem Z1 (D:A8) (u:Value) (R:List AK):Fu D (CN u) ⟨2,R,[],false⟩ 0 1 0 1=⟨2,R,[Df D (CN u).J 0 1],false⟩:=rfl
theorem Z4 (D:A8) (u:Value):∃ a y c,Hu D (CN u) ⟨2,[CQ 1 0 2 [BV.p]],[Df D (CN u).J 0 1],false⟩=[a,y,c]∧y.to=1∧y.m.kind=2:=by
 rw [Yx]
 exact ⟨_,_,_,rfl,QS u,rfl⟩
theorem Pr {zs:List (Bi Cj)} {l:List EB} (h:zs.map C4=l) {k:Nat} {x:Bi Cj} (hx:zs[k]?=some x):l[k]?=some (C4 x):=by
 rw [←h,List.getElem?_map,hx];rfl
/-! ### Each part has one home -/
theorem OO {C:Cf} (hC:CP C) {p:Nat} (hp:(p:Int)<C.J.parts):1≤CY C p∧CY C p≤C.w:=by
 have e:CY C (p:Int)=1+((p:Nat):Int).tmod C.w:=if_neg (fun h=>h.elim (fun h=>h hC) (fun h=>by omega))
 have hw:=hC.2.1
 have h1:=Int.tmod_nonneg C.w (Int.natCast_nonneg p)
 have h2:=Int.tmod_lt_of_pos ((p:Nat):Int) (show (0:Int)<C.w by omega)
 omega
def Ge (C:Cf) (m:Int):Nat:=((List.range C.J.parts.toNat).filter fun (p:Nat)=>decide (CY C (p:Int)≤m)).length
theorem ZN (C:Cf) (m:Int):Ge C (m+1)=Ge C m+(Ec C (m+1) C.J.parts.toNat).length:=by
 unfold Ge Ec
 generalize List.range C.J.parts.toNat=l
 induction l with
 |nil=>rfl
 |cons p l ih=>
  simp only [List.filter_cons,decide_eq_true_eq]
  split<;>split<;>split<;>(try simp only [List.length_cons])<;>omega
theorem ZK {C:Cf} (hC:CP C):Ge C 0=0:=by
 unfold Ge
 rw [List.length_eq_zero_iff,List.filter_eq_nil_iff]
 intro p hp
 have:=OO hC (p:=p) (by have:=List.mem_range.1 hp;omega)
 rw [decide_eq_true_eq]
 omega
theorem ZL {C:Cf} (hC:CP C):Ge C C.w=C.J.parts.toNat:=by
 unfold Ge
 rw [List.filter_eq_self.2 fun p hp=>by
  have:=OO hC (p:=p) (by have:=List.mem_range.1 hp;omega)
  rw [decide_eq_true_eq]
  omega]
 exact List.length_range
theorem ZM (C:Cf) (m:Int):Ge C m≤C.J.parts.toNat:=by
 unfold Ge
 exact Nat.le_trans (List.length_filter_le _ _) (by simp)
theorem L9 (C:Cf) (id:Int) (recs:List Bm):(EL C id recs).rs.map CW=(Ec C id C.J.parts.toNat).map fun (p:Nat)=>(p:Int):=QE C id recs _
theorem Wi {C:Cf} {id:Int} {recs:List Bm} {p:Nat} (hp:(p:Int)<C.J.parts):decide ((p:Int)∈(EL C id recs).rs.map CW)=decide (CY C (p:Int)=id):=by
 rw [L9]
 apply decide_eq_decide.2
 constructor
 ·intro h
  obtain ⟨q,hq,e⟩:=List.mem_map.1 h
  obtain rfl:q=p:=by omega
  exact (LI.1 hq).2
 ·intro h
  exact List.mem_map.2 ⟨p,LI.2 ⟨by omega,h⟩,rfl⟩
theorem Wh {C:Cf} {id:Int} {recs:List Bm} {k:Nat} {x:Int} (h:((EL C id recs).rs.map CW)[k]?=some x):CY C x=id∧0≤x∧x<C.J.parts:=by
 rw [L9] at h
 obtain ⟨q,hq,rfl⟩:=List.mem_map.1 (List.mem_of_getElem? h)
 obtain ⟨h1,h2⟩:=LI.1 hq
 exact ⟨h2,by omega,by omega⟩
theorem Wj {C:Cf} {id:Int} {recs:List Bm} {i j:Nat} {x y:Int} (hij:i<j) (hx:((EL C id recs).rs.map CW)[i]?=some x) (hy:((EL C id recs).rs.map CW)[j]?=some y):x<y:=by
 rw [L9] at hx hy
 have hp:((Ec C id C.J.parts.toNat).map fun (p:Nat)=>(p:Int)).Pairwise (·<·):=by
  rw [List.pairwise_map]
  exact ((List.pairwise_lt_range (n:=C.J.parts.toNat)).filter _).imp fun h=>by omega
 obtain ⟨l1,e1⟩:=List.getElem?_eq_some_iff.1 hx
 obtain ⟨l2,e2⟩:=List.getElem?_eq_some_iff.1 hy
 have:=List.pairwise_iff_getElem.1 hp i j l1 l2 hij
 rw [e1,e2] at this
 exact this
theorem PR (C:Cf) (id:Int) (recs:List Bm):(EL C id recs).rs.length=(Ec C id C.J.parts.toNat).length:=by
 show (Ef C id recs C.J.parts.toNat).length=_
 unfold Ef
 rw [List.length_map]
theorem Js:D5 Tryz.prog 121=some (#[.int .i64 0,.int .i64 0,.int .i64 0,.int .i64 0,.int .i64 0,.int .i64 0,.int .i64 0,.int .i64 0,.int .i64 0,.int .i64 0,.slice none 0 0,.slice none 0 0],#[(0,1),(1,1),(2,10)]):=by kernel_rfl
theorem RL:D5 Tryz.prog 210=some (#[.slice none 0 0,.int .i64 0,.slice none 0 0,.slice none 0 0,.slice none 0 0,.int .i64 0,.int .i64 0,.int .i64 0,.slice none 0 0,.int .i64 0,.int .i64 0,.int .i64 0,.int .i64 0,.slice none 0 0,.map none,.slice none 0 0,.int .u32 0],#[(0,12),(12,1),(13,1),(14,1),(15,1),(16,1)]):=by kernel_rfl
theorem RM:D5 Tryz.prog 215=some (#[.int .i64 0,.int .i64 0,.pointer none],#[(0,1),(1,1),(2,1)]):=by kernel_rfl
theorem Od:Bj Tryz.prog 121 0=some 0:=by kernel_rfl
theorem Ln:Bj Tryz.prog 121 1=some 1:=by kernel_rfl
theorem Lo:Bj Tryz.prog 121 2=some 2:=by kernel_rfl
theorem IB:Bj Tryz.prog 210 0=some 0:=by kernel_rfl
theorem JL:Bj Tryz.prog 210 1=some 12:=by kernel_rfl
theorem JM:Bj Tryz.prog 210 2=some 13:=by kernel_rfl
theorem JN:Bj Tryz.prog 210 3=some 14:=by kernel_rfl
theorem HL:Bj Tryz.prog 210 4=some 15:=by kernel_rfl
theorem Oi:Bj Tryz.prog 210 5=some 16:=by kernel_rfl
theorem Lq:Bj Tryz.prog 215 0=some 0:=by kernel_rfl
theorem Lr:Bj Tryz.prog 215 1=some 1:=by kernel_rfl
theorem IC:Bj Tryz.prog 215 2=some 2:=by kernel_rfl
theorem Ur:AL Tryz.prog 139:=AO Tryz.func139 rfl rfl
theorem Us:AL Tryz.prog 140:=AO Tryz.func140 rfl rfl
theorem Ut:AL Tryz.prog 141:=AO Tryz.func141 rfl rfl
theorem Uu:AL Tryz.prog 143:=AO Tryz.func143 rfl rfl
theorem LV:AL Tryz.prog 68:=AO Tryz.func68 rfl rfl
theorem Pj:AL Tryz.prog 69:=AO Tryz.func69 rfl rfl
theorem Vl:AL Tryz.prog 70:=AO Tryz.func70 rfl rfl
theorem Pk:AL Tryz.prog 72:=AO Tryz.func72 rfl rfl
theorem Pl:AL Tryz.prog 73:=AO Tryz.func73 rfl rfl
theorem Vm:AL Tryz.prog 74:=AO Tryz.func74 rfl rfl
theorem Vn:AL Tryz.prog 75:=AO Tryz.func75 rfl rfl
theorem LW:AL Tryz.prog 76:=AO Tryz.func76 rfl rfl
theorem Pm:AL Tryz.prog 77:=AO Tryz.func77 rfl rfl
theorem Vo:AL Tryz.prog 78:=AO Tryz.func78 rfl rfl
theorem EN:C5 Tryz.prog 115=some (121,12,128):=by kernel_rfl
theorem Ky:C5 Tryz.prog 203=some (215,3,24):=by kernel_rfl
theorem KH:Cd Tryz.prog 202=some (false,1):=by kernel_rfl
theorem Ik:Cd Tryz.prog 203=some (false,1):=by kernel_rfl
theorem Jj:Cd Tryz.prog 215=some (true,3):=by kernel_rfl
theorem Gz:Tryz.prog.underlying 112=some (.pointer 210):=by kernel_rfl
theorem KK:Tryz.prog.underlying 115=some (.slice 121):=by kernel_rfl
theorem KL:Tryz.prog.underlying 202=some (.map 3 75):=by kernel_rfl
theorem MQ:Tryz.prog.underlying 203=some (.slice 215):=by kernel_rfl
theorem Hw:C1 Tryz.prog 121=some (.agg #[.int .i64 0,.int .i64 0,.int .i64 0,.int .i64 0,.int .i64 0,.int .i64 0,.int .i64 0,.int .i64 0,.int .i64 0,.int .i64 0,.slice none 0 0,.slice none 0 0]):=by kernel_rfl
theorem KR:C1 Tryz.prog 215=some (.agg #[.int .i64 0,.int .i64 0,.pointer none]):=by kernel_rfl
theorem M1:C1 Tryz.prog 75=some (.pointer none):=by kernel_rfl
theorem KO:G8 Tryz.prog 3 BJ:=Uc DD
theorem YM (va:Value) (a:List (Bi Cj)) (vb:Value) (b:List (Bi Cj)):
    Cn Tryz.prog 75 [va,vb] [] [Aa C3 va a,Aa C3 vb b] (fun v Bs=>v=.bool (decide (a.map C4=b.map C4))∧Bs=[]):=by
 intro w0 F0 H
 obtain ⟨A1,c2,rfl,hc3,hm4,hp5⟩:=H.fR 0 rfl
 obtain ⟨A6,c7,rfl,hc8,hm9,hp10⟩:=H.fR 1 rfl
 refine enter Tryz.func75 U U (Nat.le_of_ble_eq_true U) (Ab (Ae (Ad U (Ac (Z ?_)))))
 replace H:Hd _ _ _ [] [Aa C3 (.slice A1 a.length c2) a,Aa C3 (.slice A6 b.length c7) b]:=H
 refine Ab (Ab (Ae (Ad U (V U U (Bc U KK U) (Ad U (V U U (Bc U KK U) (V U U (C9 U U U) (Ac (Z ?_)))))))))
 refine Ax U (fun h11=>?_) (fun h11=>?_)
 ·refine Ab (Ae (Ad U (Ac (Z (An (Ay (Aq U U ?_)))))))
  have e:¬ a.map C4=b.map C4:=fun e=>by have:=congrArg List.length e;rw [List.length_map,List.length_map] at this;omega
  exact Ak ⟨by rw [decide_eq_false e]<;>rfl,rfl⟩ H
 refine Av (Z (Ab (Ab (Ae (Ad U (Ac (Z (AQ ?_))))))))
 have hle:a.length=b.length:=by omega
 refine BL (σ:=Nat) (fun k=>[(0,.slice A1 a.length c2),(1,.slice A6 b.length c7),(5,.int .i64 ((k:Nat):Int))]) (fun k w=>(Hd w0 F0 w [] [Aa C3 (.slice A1 a.length c2) a,Aa C3 (.slice A6 b.length c7) b])∧(k≤a.length)∧(a.length=b.length)∧((a.take k).map C4=(b.take k).map C4)) (fun k=>a.length - k) 0 ⟨rfl,rfl,rfl,trivial⟩ ⟨H,by omega,hle,rfl⟩ ?_
 rintro k w ⟨H,hk,hle,ht⟩
 refine Ab (Ab (Ae (Ah 2 U (V U U (Bc U KK U) (V U U (Bb U U U) (Ac (Z ?_)))))))
 refine Ax U (fun h12=>?_) (fun h12=>?_)
 ·refine Av (Z (Ab (AQ (Ab (B3 (.e 0 (.e 1 (.e 2 (.e 3 (.e 4 (.e 5 (.e 6 (.e 7 (.e 8 (.e 9 (.e 10 (.e 11 (.e 12 (.e 13 (.e 14 (.e 15 (.e 16 (.e 17 (.e 18 (.e 19 (.e 20 (.e 21 (.e 22 (.e 23 (.e 24 (.e 25 (.e 26 (.e 27 (.e 28 (.e 29 (.e 30 (.e 31 (.e 32 (.e 33 (.e 34 (.m 35 (.e 36 (.e 37 .z)))))))))))))))))))))))))))))))))))))) (fun w=>∃ Ar,Hd w0 F0 w (Ar) [Aa C3 (.slice A1 a.length c2) a,Aa C3 (.slice A6 b.length c7) b]) mo (by kernel_rfl) (fun w H=>⟨_,H⟩) H (fun w H=>(At U (At U ?_))))))))
  obtain ⟨⟨⟨a15,a16,⟨a17,a18,a19,a20,a21,a22,a23,a24⟩⟩,sv25,se26,pv27,pr28⟩,hx14⟩:∃ z9,a[k]?=some z9:=⟨_,List.getElem?_eq_getElem (show k<a.length by omega)⟩
  obtain ⟨A29,c30,A31,c32,rfl,rfl,m33,m34,m35,m36⟩:=H.nestRt 0 rfl hx14
  have th37:=H.thRt 0 rfl hx14
  refine Ao U U U (fun w ⟨Ar,H⟩=>AY (p:=AS A1+k*12) U EN U U (by omega) (by omega) th37 U) (Ao U U U (fun w ⟨Ar,H⟩=>Aj U Od U) (Ao U U U (fun w ⟨Ar,H⟩=>Al U AA U (H.elRt 0 U hx14 (q:=0) U U)) (At U (At U ?_))))
  obtain ⟨⟨⟨a40,a41,⟨a42,a43,a44,a45,a46,a47,a48,a49⟩⟩,sv50,se51,pv52,pr53⟩,hx39⟩:∃ z9,b[k]?=some z9:=⟨_,List.getElem?_eq_getElem (show k<b.length by omega)⟩
  obtain ⟨A54,c55,A56,c57,rfl,rfl,m58,m59,m60,m61⟩:=H.nestRt 1 rfl hx39
  have th62:=H.thRt 1 rfl hx39
  refine Ao U U U (fun w ⟨Ar,H⟩=>AY (p:=AS A6+k*12) U EN U U (by omega) (by omega) th62 U) (Ao U U U (fun w ⟨Ar,H⟩=>Aj U Od U) (Ao U U U (fun w ⟨Ar,H⟩=>Al U AA U (H.elRt 1 U hx39 (q:=0) U U)) (Ao U U U (fun w ⟨Ar,H⟩=>C9 U U U) (At U ?_))))
  refine Ix (d:=28) U (fun h63=>?_) (fun h63=>?_)
  ·refine At U (At U (At U (At U (At U (At U (At U (At U (At U (At U (At U (At U (At U (At U (At U (At U (At U (At U (At U (At U (At U (At U (At U (K8 U ⟨_,H⟩ U U (At U (At U (BM (Z (CG U (Ab (Ae (Ad U (Ac (Z (An (AX (Ay (Ay (AX (Ay (Aq U U ?_))))))))))))))))))))))))))))))))))))))))
   have e:¬ a.map C4=b.map C4:=fun e=>by obtain ⟨g1,g2,g3⟩:=IN.1 (L5 hx14 hx39 e);first |exact absurd g1 h63|exact absurd g2 h63|exact absurd g3 h63
   replace H:Hd _ _ _ [] [Aa C3 (.slice A1 a.length c2) a,Aa C3 (.slice A6 b.length c7) b]:=H
   exact Ak ⟨by rw [decide_eq_false e]<;>rfl,rfl⟩ H
  refine At U (At U ?_)
  have th64:=H.thRt 0 rfl hx14
  refine Ao U U U (fun w ⟨Ar,H⟩=>AY (p:=AS A1+k*12) U EN U U (by omega) (by omega) th64 U) (Ao U U U (fun w ⟨Ar,H⟩=>Aj U Ln U) (Ao U U U (fun w ⟨Ar,H⟩=>Al U AA U (H.elRt 0 U hx14 (q:=1) U U)) (At U (At U ?_))))
  have th65:=H.thRt 1 rfl hx39
  refine Ao U U U (fun w ⟨Ar,H⟩=>AY (p:=AS A6+k*12) U EN U U (by omega) (by omega) th65 U) (Ao U U U (fun w ⟨Ar,H⟩=>Aj U Ln U) (Ao U U U (fun w ⟨Ar,H⟩=>Al U AA U (H.elRt 1 U hx39 (q:=1) U U)) (Ao U U U (fun w ⟨Ar,H⟩=>C9 U U U) (At U (At U ?_)))))
  refine Ix (d:=41) U (fun h66=>?_) (fun h66=>?_)
  ·refine At U (At U (At U (At U (At U (At U (At U (At U (At U (At U (K8 U ⟨_,H⟩ U U (At U (At U (BM (Z (CG U (Ab (Ae (Ad U (Ac (Z (An (AX (Ay (Ay (AX (Ay (Aq U U ?_)))))))))))))))))))))))))))
   have e:¬ a.map C4=b.map C4:=fun e=>by obtain ⟨g1,g2,g3⟩:=IN.1 (L5 hx14 hx39 e);first |exact absurd g1 h66|exact absurd g2 h66|exact absurd g3 h66
   replace H:Hd _ _ _ [] [Aa C3 (.slice A1 a.length c2) a,Aa C3 (.slice A6 b.length c7) b]:=H
   exact Ak ⟨by rw [decide_eq_false e]<;>rfl,rfl⟩ H
  refine At U (At U ?_)
  have th67:=H.thRt 0 rfl hx14
  refine Ao U U U (fun w ⟨Ar,H⟩=>AY (p:=AS A1+k*12) U EN U U (by omega) (by omega) th67 U) (Ao U U U (fun w ⟨Ar,H⟩=>Aj U Lo U) (Ao U U U (fun w ⟨Ar,H⟩=>Bo (cs:=[.int .i64 a17,.int .i64 a18,.int .i64 a19,.int .i64 a20,.int .i64 a21,.int .i64 a22,.int .i64 a23,.int .i64 a24,.slice A29 se26.length c30,.slice A31 pr28.length c32]) U Fh U U (H.elsRt 0 U hx14 2 10 U U)) (At U (At U ?_))))
  have th68:=H.thRt 1 rfl hx39
  refine Ao U U U (fun w ⟨Ar,H⟩=>AY (p:=AS A6+k*12) U EN U U (by omega) (by omega) th68 U) (Ao U U U (fun w ⟨Ar,H⟩=>Aj U Lo U) (Ao U U U (fun w ⟨Ar,H⟩=>Bo (cs:=[.int .i64 a42,.int .i64 a43,.int .i64 a44,.int .i64 a45,.int .i64 a46,.int .i64 a47,.int .i64 a48,.int .i64 a49,.slice A54 se51.length c55,.slice A56 pr53.length c57]) U Fh U U (H.elsRt 1 U hx39 2 10 U U)) (AR U (sc (YN (⟨a17,a18,a19,a20,a21,a22,a23,a24⟩:CF) (.slice A29 se26.length c30) se26 (.slice A31 pr28.length c32) pr28 (⟨a42,a43,a44,a45,a46,a47,a48,a49⟩:CF) (.slice A54 se51.length c55) se51 (.slice A56 pr53.length c57) pr53) H (lX (fun F hA hR=>KF (hR _ (List.mem_of_getElem? (i:=0) U)) hx14) (lX (fun F hA hR=>KE (hR _ (List.mem_of_getElem? (i:=0) U)) hx14) (lX (fun F hA hR=>KF (hR _ (List.mem_of_getElem? (i:=1) U)) hx39) (lX (fun F hA hR=>KE (hR _ (List.mem_of_getElem? (i:=1) U)) hx39) l0)))) U U (Au Vk U U) ?_))))
  rintro _ _ w ⟨rfl,rfl⟩ H
  replace H:Hd _ _ _ [] [Aa C3 (.slice A1 a.length c2) a,Aa C3 (.slice A6 b.length c7) b]:=H
  refine AI ⟨_,H⟩ (Ao U U U (fun w ⟨Ar,H⟩=>Ea U U) (At U (BM (Z ?_))))
  refine Ax U (fun h69=>?_) (fun h69=>?_)
  ·refine Ab (Ae (Ad U (Ac (Z (An (AX (Ay (Ay (AX (Ay (Aq U U ?_)))))))))))
   have e:¬ a.map C4=b.map C4:=fun e=>by obtain ⟨g1,g2,g3⟩:=IN.1 (L5 hx14 hx39 e);first |exact absurd g1 h69|exact absurd g2 h69|exact absurd g3 h69
   exact Ak ⟨by rw [decide_eq_false e]<;>rfl,rfl⟩ H
  refine Av (AT (Z (Ae (Ad U (V U U (AU (z:=((k+1:Nat):Int)) U U U (by rw [AB (by omega) (by omega)];omega)) (Ad U (Ac ?_)))))))
  have e3:C4 (⟨⟨a15,a16,⟨a17,a18,a19,a20,a21,a22,a23,a24⟩⟩,.slice A29 se26.length c30,se26,.slice A31 pr28.length c32,pr28⟩:Bi Cj)=C4 (⟨⟨a40,a41,⟨a42,a43,a44,a45,a46,a47,a48,a49⟩⟩,.slice A54 se51.length c55,se51,.slice A56 pr53.length c57,pr53⟩:Bi Cj):=IN.2 ⟨by first |assumption|exact Classical.not_not.1 (by assumption),by first |assumption|exact Classical.not_not.1 (by assumption),by first |assumption|exact Classical.not_not.1 (by assumption)⟩
  exact Bf (s:=k) (k+1) ⟨rfl,rfl,rfl,trivial⟩ ⟨H,by (try dsimp only);omega,hle,VU hx14 hx39 e3 ht⟩ (by (try dsimp only);omega)
 refine BD (AM (AM (BE (Z (Ab (Ae (Ad U (Ac (Z (An (Aq U U ?_)))))))))))
 have e:a.map C4=b.map C4:=by rw [←Gw (xs:=a) (k:=k) (by omega),←Gw (xs:=b) (k:=k) (by omega)];exact ht
 exact Ak ⟨by rw [decide_eq_true e]<;>rfl,rfl⟩ H
theorem SE (c:Int) (a:Int) (hc:1≤c∧c≤7):
    Cn Tryz.prog 168 [.int .i64 c,.int .i64 a] [] [] (fun v Bs=>v=.int .i64 (Dk c a)∧Bs=[]):=by
 intro w0 F0 H
 refine enter Tryz.func168 U U (Nat.le_of_ble_eq_true U) (Ab (Ae (Ad U (Ac (Z (Ab (Ab (Ae (Ad U (V U U (Kk (z:=a.tmod 2) U U U (by omega) U) (V U U (C9 U U U) (Ac (Z ?_)))))))))))))
 refine Ax U (fun h1=>?_) (fun h1=>?_)
 ·refine Ab (Ae (Ad U (V U U (AU (z:=c+1) U U U (AB (by omega) (by omega))) (Ad U (Ac (Z (An (Ay (Aq U U ?_)))))))))
  replace H:Hd _ _ _ [] []:=H
  exact Ak ⟨congrArg (Value.int .i64) (if_pos h1).symm,rfl⟩ H
 refine Av (Z (Ab (Ae (Ah 2 U (Ac (Z (An (Aq U U ?_))))))))
 replace H:Hd _ _ _ [] []:=H
 exact Ak ⟨congrArg (Value.int .i64) (if_neg h1).symm,rfl⟩ H
theorem K7 (n:Int) (size:Int) (hn:0≤n∧n≤1000000):
    Cn Tryz.prog 105 [.int .i64 n,.int .i64 size] [] [] (fun v Bs=>v=.int .i64 (Dj n size)∧Bs=[]):=by
 intro w0 F0 H
 refine enter Tryz.func105 U U (Nat.le_of_ble_eq_true U) (Ab (Ae (Ad U (Ac (Z (Ab (Ab (Ae (Ad U (V U U (Bb U U U) (Ad U ?_)))))))))))
 refine AN (d:=7) U (fun h1=>?_) (fun h1=>?_)
 ·refine Ah 3 U (Ac (Z (CG U (Ab (Ae (Ad U (Ac (Z (An (Ay (Aq U U ?_)))))))))))
  replace H:Hd _ _ _ [] []:=H
  exact Ak ⟨congrArg (Value.int .i64) (if_pos (by omega)).symm,rfl⟩ H
 refine Ad U (V U U (Bb U U U) (Ad U (Ac (Z ?_))))
 refine Ax U (fun h2=>?_) (fun h2=>?_)
 ·refine Ab (Ae (Ad U (Ac (Z (An (Ay (Aq U U ?_)))))))
  replace H:Hd _ _ _ [] []:=H
  exact Ak ⟨congrArg (Value.int .i64) (if_pos (by omega)).symm,rfl⟩ H
 refine Av (Z (Ab ?_))
 have htd:=Zk (n:=n - 1) (size:=size) (by omega) (by omega)
 refine Ae (Ad U (V U U (Cw (z:=n - 1) U U U (AB (by omega) (by omega))) (Ad U (V U U (XP (z:=(n - 1).tdiv size) U U U (by omega) (AB (by omega) (by omega))) (V U U (AU (z:=((n - 1).tdiv size)+1) U U U (AB (by omega) (by omega))) (Ad U (Ac (Z (An (Aq U U ?_))))))))))
 replace H:Hd _ _ _ [] []:=H
 exact Ak ⟨congrArg (Value.int .i64) (if_neg (by omega)).symm,rfl⟩ H
theorem SC (vps:Value) (ps:List Ap) (size:Int) (q:Int) (hl:ps.length≤1000) (hs:1≤size∧size≤8):
    Cn Tryz.prog 113 [vps,.int .i64 size,.int .i64 q] [] [Aa Ag vps ps] (fun v Bs=>Bs=[Y Ag v (E5 ps size q)]):=by
 intro w0 F0 H
 obtain ⟨A1,c2,rfl,hc3,hm4,hp5⟩:=H.fR 0 rfl
 refine enter Tryz.func113 U U (Nat.le_of_ble_eq_true U) (Ab (Ae (Ad U (Ac (Z ?_)))))
 replace H:Hd _ _ _ [] [Aa Ag (.slice A1 ps.length c2) ps]:=H
 refine Ab (Ab (Ae (Ad U (V U U (Bb U U U) (Ad U ?_)))))
 refine AN (d:=10) U (fun h6=>?_) (fun h6=>?_)
 ·refine Ah 7 U (Ac (Z (CG U (Ab (Ae (Ad U (Ac (Z (An (Ay (Aq U U ?_)))))))))))
  replace H:=H.newnil Ag|>.tellK (ys:=E5 ps size q) (by rw [NT (by omega)])|>.h1 (A:=Y Ag (.slice none 0 0) (E5 ps size q))
  exact Ak U H
 refine Ah 2 U (V U U (Bc U Da U) (Ad U (sc (K7 ((ps.length:Nat):Int) size (by first |assumption|omega|(simp only [List.length_take,List.length_drop];omega))) H l0 U U (Au LL U U) ?_)))
 rintro _ _ w ⟨rfl,rfl⟩ H
 refine V U U (CL U U U) (Ad U (Ac (Z ?_)))
 refine Ax U (fun h7=>?_) (fun h7=>?_)
 ·refine Ab (Ae (Ad U (Ac (Z (An (Ay (Aq U U ?_)))))))
  replace H:=H.newnil Ag|>.tellK (ys:=E5 ps size q) (by rw [NT (by omega)])|>.h1 (A:=Y Ag (.slice none 0 0) (E5 ps size q))
  exact Ak U H
 refine Av (Z (Ab ?_))
 have hlo:=Sj (n:=ps.length) (size:=size) (q:=q) (by omega) (by omega) hs.1
 obtain ⟨m,hm⟩:∃ m:Nat,q*size=(m:Int):=⟨(q*size).toNat,by omega⟩
 obtain ⟨k,hk⟩:∃ k:Nat,min size (((ps.length - m:Nat):Int))=(k:Int):=⟨(min size (((ps.length - m:Nat):Int))).toNat,by omega⟩
 refine Ae (Ah 3 U (V U U (GV (z:=((m:Nat):Int)) U U U (by rw [hm];exact AB (by omega) (by omega))) (V U U (I0 U By U U (by omega) (by omega) U) (Ad U (Ac (Z (Ab (Ae (Ah 3 U (V U U (Bc U Da U) (V U U (Hi (z:=((k:Nat):Int)) U U U hk) (V U U (Mr U By U U (by omega) (by omega) U) (sc (Jx (.slice (DK A1 c2 m 2) k (c2 - m)) ((ps.drop m).take k) (by first |assumption|omega|(simp only [List.length_take,List.length_drop];omega))) H (lX (fun F hA hR=>Kp (hR _ (List.mem_of_getElem? (i:=0) U)) (i:=m) (m':=k) (by omega)) l0) U U (Au JU U U) ?_)))))))))))))
 rintro v8 _ w rfl H
 replace H:=H.h1 (A:=Y Ag v8 ((ps.drop m).take k))
 refine Ad U (Ac (Z (An (Aq U U ?_))))
 replace H:=H.tellK (ys:=E5 ps size q) (by rw [SD (by omega) (by omega) hs.1 hm hk])|>.h1 (A:=Y Ag v8 (E5 ps size q))
 exact Ak U H
theorem NK (vb:Value) (bs:List UInt8) (n:Nat) (hb:bs.length≤1000000) (hn:n<9223372036854775808):
    Cn Tryz.prog 159 [vb,.int .i64 ((n:Nat):Int)] [] [Aa B6 vb bs] (fun v Bs=>Bs=[Y B6 v (bs++Ce n)]):=by
 intro w0 F0 H
 obtain ⟨A1,c2,rfl,hc3,hm4,hp5⟩:=H.fR 0 rfl
 refine enter Tryz.func159 U U (Nat.le_of_ble_eq_true U) (Ab (Ae (Ad U (Ac (Z ?_)))))
 replace H:Hd _ _ _ [] [Aa B6 (.slice A1 bs.length c2) bs]:=H
 refine Ab (Ae (Ad U (V U U (Bc U GA U) (Ad U (V U U (Bc U GA U) (V U U (AU (z:=((bs.length+8:Nat):Int)) U U U (by rw [AB (by omega) (by omega)];omega)) (YF (m:=bs.length) (c:=bs.length+8) (a0:=(0:UInt8)) (enc:=EG) U U U GZ KU U (by decide) TY U U (by omega) (by omega) (by omega) H (fun b6 w H=>?_))))))))
 replace H:=H.h1 (A:=Ic EG b6 5 (List.replicate (bs.length+8) (0:UInt8)))
 refine Ad U (Ac (Z (Ab (Ae (Ah 2 U (YE (ys:=bs) U U U GZ U U H (by simp) (by omega) (fun F hA hR=>hR _ (List.mem_of_getElem? (i:=0) U)) (fun w H=>?_)))))))
 replace H:Hd w0 F0 w [Y B6 (.slice (some ⟨b6,0,none⟩) bs.length (bs.length+8)) bs] [Aa B6 (.slice A1 bs.length c2) bs]:=H.turn (fun F h=>Yk h (by simp) rfl (by simp) (by omega))
 refine Ac (Z (Ab (Ab (Ae (Ad U (Ac (Z (AQ ?_))))))))
 replace H:Hd w0 F0 w [Y B6 (.slice (some ⟨b6,0,none⟩) bs.length (bs.length+8)) (bs++(Ce n).take 0)] [Aa B6 (.slice A1 bs.length c2) bs]:=by rw [List.take_zero,List.append_nil];exact H
 refine BL (σ:=Nat×Value) (fun (i,q)=>[(1,.int .i64 ((n:Nat):Int)),(4,.slice none 0 0),(5,q),(16,.int .i64 ((i:Nat):Int))]) (fun (i,q) w=>(Hd w0 F0 w [Y B6 q (bs++(Ce n).take i)] [Aa B6 (.slice A1 bs.length c2) bs])∧(i≤8)) (fun (i,q)=>8 - i) (0,.slice (some ⟨b6,0,none⟩) bs.length (bs.length+8)) ⟨rfl,rfl,rfl,rfl,trivial⟩ ⟨H,Nat.zero_le _⟩ ?_
 rintro ⟨i,q⟩ w ⟨H,hi⟩
 have hbl:=FG n
 have htl:((Ce n).take i).length≤8:=by rw [List.length_take];omega
 refine Ab (Ae (V U U (Bb U U U) (Ac (Z (Ab ?_)))))
 refine Ax U (fun h7=>?_) (fun h7=>?_)
 ·refine Av (Z (Ab (AQ (Ab (Ae (Ah 2 U (Ac (Z (Ae (Ah 2 U (V U U (DH (z:=((n:Nat):Int)) U U DD Hq (Fi (by omega) (by omega))) (Ad U (V U U (Cw (z:=7 - ((i:Nat):Int)) U U U (AB (by omega) (by omega))) (V U U (GV (z:=8*(7 - ((i:Nat):Int))) U U U (AB (by omega) (by omega))) (V U U (DH (z:=8*(7 - ((i:Nat):Int))) U U DD EZ (Fi (by omega) (by omega))) (V U U (H_ (z:=((n / 256^(7 - i):Nat):Int)) U U U (by omega) (YR n (by omega))) (V U U (DH (z:=((UInt8.ofNat (n / 256^(7 - i))).toNat:Int)) U U Hq Ht (aL _)) (BX (parts:=[(0,.tmp 27)]) (vs:=[.int .u8 ((UInt8.ofNat (n / 256^(7 - i))).toNat:Int)]) (cs:=[.int .u8 ((UInt8.ofNat (n / 256^(7 - i))).toNat:Int)]) U U U GZ KU U (by decide) (by decide) U U H (fun b8 w H=>?_)))))))))))))))))))
  replace H:=H.p1
  refine Cy (xs:=bs++(Ce n).take i) (ys:=[UInt8.ofNat (n / 256^(7 - i))]) U U U GZ KU U (by decide) U U H (by first |omega|(simp only [List.length_append,List.length_cons,List.length_nil];omega)) (fun F hA hR=>Cm (hA _ (List.mem_of_getElem? (i:=0) U)) U (by decide) (AV.flat_eq.2 U)) (fun v9 w H=>(Ad U (Ac (AT (Z ?_)))))
  replace H:Hd _ _ _ [Y B6 v9 ((bs++(Ce n).take i)++[UInt8.ofNat (n / 256^(7 - i))]),blk b8 [.int .u8 ((UInt8.ofNat (n / 256^(7 - i))).toNat:Int)] 5] [Aa B6 (.slice A1 bs.length c2) bs]:=H
  refine Ae (V U U (AU (z:=((i+1:Nat):Int)) U U U (by rw [AB (by omega) (by omega)];omega)) (Ad U (Ac ?_)))
  replace H:=H.k1
  replace H:Hd w0 F0 w [Y B6 v9 (bs++(Ce n).take (i+1))] [Aa B6 (.slice A1 bs.length c2) bs]:=by rw [RV n (by omega),←List.append_assoc];exact H
  exact Bf (s:=(i,undef)) (i+1,v9) ⟨rfl,rfl,rfl,rfl,trivial⟩ ⟨H,by (try dsimp only);omega⟩ (by (try dsimp only);omega)
 refine BD (AM (AM (BE (Z (Ab (Ae (Ah 2 U (Ac (Z (An (Aq U U ?_)))))))))))
 replace H:=H.h1 (A:=Y B6 q (bs++(Ce n).take i))
 replace H:Hd w0 F0 w [Y B6 q (bs++Ce n)] [Aa B6 (.slice A1 bs.length c2) bs]:=by rw [List.take_of_length_le (by omega)] at H;exact H
 exact Ak U H
theorem NL (vb:Value) (bs:List UInt8) (s:ByteArray) (hb:bs.length≤900000) (hs:s.size≤900000):
    Cn Tryz.prog 160 [vb,.string s] [] [Aa B6 vb bs] (fun v Bs=>Bs=[Y B6 v (bs++Dg s)]):=by
 intro w0 F0 H
 refine enter Tryz.func160 U U (Nat.le_of_ble_eq_true U) (Ab (Ae (Ad U (Ac (Z (Ab (Ae (Ah 2 U (V U U (Dp U CA U) (sc (NK vb bs s.size (by first |assumption|omega) (by first |assumption|omega)) H (lR 0 U l0) U U (Au O1 U U) ?_))))))))))
 rintro v1 _ w rfl H
 refine Ad U (YB U U U GZ KU U (by decide) CA U U H (by rw [List.length_append,FG];omega) (fun v2 w H=>(Ad U (Ac (Z ?_)))))
 replace H:Hd _ _ _ [Y B6 v2 ((bs++Ce s.size)++Cv s)] [Aa B6 vb bs]:=H
 refine An (Aq U U ?_)
 replace H:Hd w0 F0 w [Y B6 v2 (bs++Dg s)] [Aa B6 vb bs]:=by unfold Dg;rw [←List.append_assoc];exact H
 exact Ak U H
theorem Qy (vb:Value) (bs:List UInt8) (a:Int) (hb:bs.length≤1000000) (ha:AE a):
    Cn Tryz.prog 203 [vb,.int .i64 a] [] [Aa B6 vb bs] (fun v Bs=>v=.tuple #[.int .i64 ((Cx bs a).1),.int .i64 ((Cx bs a).2.1),.bool ((Cx bs a).2.2)]∧Bs=[]):=by
 intro w0 F0 H
 obtain ⟨A1,c2,rfl,hc3,hm4,hp5⟩:=H.fR 0 rfl
 unfold AE at ha
 refine enter Tryz.func203 U U (Nat.le_of_ble_eq_true U) (Ab (Ae (Ah 3 U (Ac (Z ?_)))))
 replace H:Hd _ _ _ [] [Aa B6 (.slice A1 bs.length c2) bs]:=H
 refine Ab (Ab (Ae (Ad U (V U U (Bb U U U) (Ad U ?_)))))
 refine AN (d:=12) U (fun h6=>?_) (fun h6=>?_)
 ·refine Ah 12 U (Ac (Z (CG U (Ab (Ae (Ah 3 U (Ac (Z (An (Ay (F9 U U U U ?_)))))))))))
  have e:=I3 (b:=bs) (at_:=a) (by omega)
  exact Ak ⟨by rw [e]<;>rfl,rfl⟩ H
 refine Ah 2 U (V U U (Bc U GA U) (V U U (Ck U U U) (Ah 2 U ?_)))
 refine AN (d:=18) U (fun h7=>?_) (fun h7=>?_)
 ·refine Ah 6 U (Ac (Z (CG U (Ab (Ae (Ah 3 U (Ac (Z (An (Ay (F9 U U U U ?_)))))))))))
  have e:=I3 (b:=bs) (at_:=a) (by omega)
  exact Ak ⟨by rw [e]<;>rfl,rfl⟩ H
 refine Ad U (V U U (Bc U GA U) (Ad U (V U U (Cw (z:=((bs.length:Nat):Int) - a) U U U (AB (by omega) (by omega))) (V U U (Bb U U U) (Ad U (Ac (Z ?_)))))))
 refine Ax U (fun h8=>?_) (fun h8=>?_)
 ·refine Ab (Ae (Ah 3 U (Ac (Z (An (Ay (F9 U U U U ?_)))))))
  have e:=I3 (b:=bs) (at_:=a) (by omega)
  exact Ak ⟨by rw [e]<;>rfl,rfl⟩ H
 refine Av (Z (Ab (Ae (Ad U (Ac (Z (Ab (Ab (Ae (Ah 3 U (V U U (AU (z:=a+8) U U U (AB (by omega) (by omega))) (V U U (Qn (i':=(a).toNat) (j':=(a+8).toNat) (m':=8) U GZ U U U (by omega) (by omega) (by omega) U U (by omega)) (V U U (Bc U GA U) (Ad U (Ac (Z (AQ (BL (σ:=Nat) (fun i=>[(1,.int .i64 a),(4,.int .i64 0),(5,.int .i64 0),(6,.bool false),(7,.int .u64 ((EM (((bs.drop (a).toNat).take 8).take i):Nat):Int)),(29,.slice (DK A1 c2 ((a).toNat) 1) 8 (c2 - ((a).toNat))),(30,.int .i64 ((8:Nat):Int)),(31,.int .i64 ((i:Nat):Int))]) (fun i w=>(Hd w0 F0 w [] [Aa B6 (.slice A1 bs.length c2) bs])∧(i≤8)) (fun i=>8 - i) 0 ⟨rfl,rfl,rfl,rfl,rfl,rfl,rfl,rfl,trivial⟩ ⟨H,Nat.zero_le _⟩ ?_))))))))))))))))))
 rintro i w ⟨H,hi⟩
 have hlt:=XS (((bs.drop (a).toNat).take 8).take i) 0
 have hle8:(((bs.drop (a).toNat).take 8).take i).length≤i:=by rw [List.length_take];omega
 refine Ab (Ae (V U U (Bb U U U) (Ac (Z (Ab ?_)))))
 refine Ax U (fun h9=>?_) (fun h9=>?_)
 ·refine Av (Z (Ab (AQ (Ab (Ae ?_)))))
  obtain ⟨x10,hx11⟩:∃ z9,((bs.drop ((a).toNat)).take 8)[i]?=some z9:=⟨_,List.getElem?_eq_getElem (show i<((bs.drop ((a).toNat)).take 8).length by simp only [List.length_take,List.length_drop];omega)⟩
  have th12:=H.thX (fun F hA hR=>Kp (hR _ (List.mem_of_getElem? (i:=0) rfl)) (i:=(a).toNat) (m':=8) (by omega)) hx11
  refine V U U (AY (p:=AS (DK A1 c2 ((a).toNat) 1)+i*1) U GZ U U (by omega) (by omega) th12 U) (V U U (Al U Zz U (H.elX (fun F hA hR=>Kp (hR _ (List.mem_of_getElem? (i:=0) U)) (i:=(a).toNat) (m':=8) (by omega)) hx11 (q:=0) U U)) (Ad U (Ac (Z ?_))))
  have hx8:=UInt8.toNat_lt x10
  have hm7:EM (((bs.drop (a).toNat).take 8).take i)<72057594037927936:=Nat.lt_of_lt_of_le hlt (Nat.le_trans (Nat.pow_le_pow_right (by omega) (show _≤7 by omega)) (by decide))
  refine Ae (Ad U (V U U (XQ (z:=((EM (((bs.drop (a).toNat).take 8).take i)*256:Nat):Int)) U U U (by omega) (YQ hm7)) (Ad U (V U U (DH (z:=((x10.toNat:Nat):Int)) U U Ht Hq (Fi (by omega) (by omega))) (V U U (XB (z:=((EM (((bs.drop (a).toNat).take 8).take i)*256+x10.toNat:Nat):Int)) U (by simp) U U (WO hm7 _)) (Ad U (Ac (AT (Z (Ae (V U U (AU (z:=((i+1:Nat):Int)) U U U (by rw [AB (by omega) (by omega)];omega)) (Ad U (Ac ?_)))))))))))))
  have hst:=XU hx11
  exact Bf (s:=i) (i+1) ⟨rfl,rfl,rfl,rfl,(by (try dsimp only);rw [hst];rfl),rfl,rfl,rfl,trivial⟩ ⟨H,by (try dsimp only);omega⟩ (by (try dsimp only);omega)
 refine BD (AM (AM (BE (Z (Ab (Ae (Ad U (V U U (DH (z:=IntKind.i64.wrap ((EM ((bs.drop (a).toNat).take 8):Nat):Int)) U U Hq DD (by rw [List.take_of_length_le (by rw [List.length_take];omega)])) (Ad U (V U U (AU (z:=a+8) U U U (AB (by omega) (by omega))) (Ah 3 U (Ac (Z (An (F9 U U U U ?_)))))))))))))))
 have e:=Mw (b:=bs) (at_:=a) (by omega)
 exact Ak ⟨by rw [e]<;>rfl,rfl⟩ H
theorem Qz (vb:Value) (bs:List UInt8) (a:Int) (hb:bs.length≤1000000) (ha:AE a):
    Cn Tryz.prog 204 [vb,.int .i64 a] [] [Aa B6 vb bs] (fun v Bs=>v=.tuple #[.string ((Fb bs a).1),.int .i64 ((Fb bs a).2.1),.bool ((Fb bs a).2.2)]∧Bs=[]):=by
 intro w0 F0 H
 obtain ⟨A1,c2,rfl,hc3,hm4,hp5⟩:=H.fR 0 rfl
 refine enter Tryz.func204 U U (Nat.le_of_ble_eq_true U) (Ab (Ae (Ah 3 U (Ac (Z ?_)))))
 replace H:Hd _ _ _ [] [Aa B6 (.slice A1 bs.length c2) bs]:=H
 refine Ab (Ae (Ah 2 U (sc (Qy (.slice A1 bs.length c2) bs a (by first |assumption|omega) (by first |assumption|omega)) H (lR 0 U l0) U U (Au O6 U U) ?_)))
 rintro _ _ w ⟨rfl,rfl⟩ H
 refine Ah 7 U (Ac (Z (Ab (Ab ?_))))
 have hi6:=@XV bs a
 have hin:=@XW bs a
 refine Ae (Ad U (V U U (FP U U U) (Ad U ?_)))
 refine Fe (d:=19) (b:=!((Cx bs a).2.2)) U (fun h6=>?_) (fun h6=>?_)
 ·refine Ah 11 U (Ac (Z (CG U (Ab (Ae (Ah 3 U (Ac (Z (An (Ay (F9 U U U U ?_)))))))))))
  have e:=XX (b:=bs) (at_:=a) (by simpa using h6)
  exact Ak ⟨by rw [e]<;>rfl,rfl⟩ H
 have hii:=hin (by simpa using h6)
 refine Ad U (V U U (Bb U U U) (Ah 2 U ?_))
 refine AN (d:=23) U (fun h7=>?_) (fun h7=>?_)
 ·refine Ah 7 U (Ac (Z (CG U (Ab (Ae (Ah 3 U (Ac (Z (An (Ay (F9 U U U U ?_)))))))))))
  have e:=(Mx (b:=bs) (at_:=a) (by simpa using h6)).trans (if_pos (by omega))
  exact Ak ⟨by rw [e]<;>rfl,rfl⟩ H
 refine Ah 2 U (V U U (Bc U GA U) (Ad U (V U U (Cw (z:=((bs.length:Nat):Int) - ((Cx bs a).2.1)) U U U (AB (by omega) (by omega))) (V U U (Ck U U U) (Ad U (Ac (Z ?_)))))))
 refine Ax U (fun h8=>?_) (fun h8=>?_)
 ·refine Ab (Ae (Ah 3 U (Ac (Z (An (Ay (F9 U U U U ?_)))))))
  have e:=(Mx (b:=bs) (at_:=a) (by simpa using h6)).trans (if_pos (by omega))
  exact Ak ⟨by rw [e]<;>rfl,rfl⟩ H
 refine Av (Z (Ab (Ae (Ah 4 U (V U U (AU (z:=((Cx bs a).2.1)+((Cx bs a).1)) U U U (AB (by omega) (by omega))) (V U U (Qn (i':=((Cx bs a).2.1).toNat) (j':=((Cx bs a).2.1+(Cx bs a).1).toNat) (m':=((Cx bs a).1).toNat) U GZ U U U (by omega) (by omega) (by omega) U U (by omega)) (V U U (H.read fun F hA hR=>Qm U GA Ht CA U U (Kp (hR _ (List.mem_of_getElem? (i:=0) U)) (i:=((Cx bs a).2.1).toNat) (m':=((Cx bs a).1).toNat) (by omega))) (Ah 2 U (V U U (AU (z:=((Cx bs a).2.1)+((Cx bs a).1)) U U U (AB (by omega) (by omega))) (Ah 3 U (Ac (Z (An (F9 U U U U ?_))))))))))))))
 have e:=(Mx (b:=bs) (at_:=a) (by simpa using h6)).trans (if_neg (by omega))
 exact Ak ⟨by rw [e]<;>rfl,rfl⟩ H
end Go.Proofs.YthgehekecfpikaaGreatDoor.X
