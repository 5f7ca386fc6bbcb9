/- WorkerTries: texts N3, N4, XOrd, N5, XRecO, XTwo, XOkR, XRedL, XRedO, XAct, L1, XWin, XCode, XMpr, XByte, XMprI, XWrk, XWrk2, XWrk3, XF2, LW1, M1, K1, K2, joined by a program of ours; what nothing names is left out. -/
import Derived.Test.YthgehekecfpikaaGreatDoorWorkerTriesQ4
import Derived.KernelRfl
set_option linter.unusedVariables false
set_option linter.unusedSimpArgs false
set_option maxHeartbeats 8000000
namespace Go.Proofs.YthgehekecfpikaaGreatDoor.X
open Go
theorem PY (r:Nat) (A:Option Addr) (c:Nat) (vM2:Value) (vC2:Value) (vR2:Value) (vK2:Value) (J2:AD) (cw:Int) (ct:Int) (co:Int) (part:Int) (ep:Int) (R:AL) (hv:Nat→Value) (sb:Nat) (vs:Value) (hus6:J2.us.length≤6):
    Cn Tryz.prog 51 [.pointer (some ⟨r,0,none⟩)] [] [blk r (Bw (.slice A J2.us.length c) vM2 vC2 vR2 vK2 J2 cw ct co part ep R.g hv sb vs) 185] (fun v Bs=>Bs=[Y (Ai .i64) v (CT J2.us.length R)]):=by
 intro w0 F0 H
 refine enter Tryz.func51 U U (Nat.le_of_ble_eq_true U) (Ab (Ae (Ad U (Ac (Aa (Ab (Ab (Ae (Ad U (V U U (Dn U Jx U U) (Ac (Aa (B7 U (Av (Aa (Ab (Ae (Ad U (Ac (Aa (Ab (Ab (Ae (Ad U (V U U (AH U U) (V U U (Aj U Hk U) (V U U (Aj U C0 U) (V U U (Aj U DQ U) (V U U (Ak U DU U (H.cellRI 0 U U)) (V U U (A8 U Ej U) (Ad U (Ac (Aa (AS ?_))))))))))))))))))))))))))))))))))
 replace H:=H.newnil (Ai .i64)
 refine BQ (σ:=Nat×Value) (fun (k,q)=>[(0,.pointer (some ⟨r,0,none⟩)),(2,.slice none 0 0),(3,q),(13,.int .i64 ((J2.us.length:Nat):Int)),(14,.int .i64 ((k:Nat):Int))]) (fun (k,q) w=>(Hd w0 F0 w [Y (Ai .i64) q (CT k R)] [blk r (Bw (.slice A J2.us.length c) vM2 vC2 vR2 vK2 J2 cw ct co part ep R.g hv sb vs) 185])∧(k≤J2.us.length)) (fun (k,q)=>J2.us.length - k) (0,.slice none 0 0) ⟨rfl,rfl,rfl,rfl,rfl,trivial⟩ ⟨H,Nat.zero_le _⟩ ?_
 rintro ⟨k,q⟩ w ⟨H,hk⟩
 have hml:=PW k R
 refine Ab (Ae (V U U (Bd U U U) (Ac (Aa (Ab ?_)))))
 refine Ax U (fun h1=>?_) (fun h1=>?_)
 ·refine Av (Aa (Ab (AS (Ab (Ae (Ah 2 U (Ac (Aa (Ab (Ae (Ah 2 U (V U U (AH U U) (V U U (Aj U IJ U) (V U U (FE (p:=14+k*5) U Jv IS U U (by omega) (by omega) (by omega)) (V U U (Aj U JT U) (V U U (Ak U EU U (H.cellRI 0 U (MG (by omega)))) (Ac (Aa ?_))))))))))))))))))
  refine DN (b:=(R.g k).merged) U (fun h2=>?_) (fun h2=>?_)
  ·refine Ae (Ah 2 U (BX (parts:=[(0,.tmp 25)]) (vs:=[.int .i64 ((k:Nat):Int)]) (cs:=[.int .i64 ((k:Nat):Int)]) U U U Dx F7 U (by decide) (by decide) U U H (fun b3 w H=>?_)))
   replace H:=H.p1
   refine Ct (xs:=CT k R) (ys:=[((k:Nat):Int)]) U U U Dx F7 U (by decide) U U H (by first |omega|(simp only [List.length_append,List.length_cons,List.length_nil];omega)) (fun F hA hR=>Cm (hA _ (List.mem_of_getElem? (i:=0) U)) U (by decide) (AW.flat_eq.2 U)) (fun v4 w H=>(Ad U (Ac (AU (Aa ?_)))))
   replace H:Hd _ _ _ [Y (Ai .i64) v4 ((CT k R)++[((k:Nat):Int)]),blk b3 [.int .i64 ((k:Nat):Int)] 3] [blk r (Bw (.slice A J2.us.length c) vM2 vC2 vR2 vK2 J2 cw ct co part ep R.g hv sb vs) 185]:=H
   refine Ae (V U U (AT (z:=((k+1:Nat):Int)) U U U (by rw [AC (by omega) (by omega)];omega)) (Ad U (Ac ?_)))
   replace H:=H.k1
   replace H:Hd w0 F0 w [Y (Ai .i64) v4 (CT (k+1) R)] [blk r (Bw (.slice A J2.us.length c) vM2 vC2 vR2 vK2 J2 cw ct co part ep R.g hv sb vs) 185]:=by rw [PZ,if_pos h2];exact H
   exact Bi (s:=(k,undef)) (k+1,v4) ⟨rfl,rfl,rfl,rfl,rfl,trivial⟩ ⟨H,by (try dsimp only);omega⟩ (by (try dsimp only);omega)
  refine Av (AU (Aa (Ae (V U U (AT (z:=((k+1:Nat):Int)) U U U (by rw [AC (by omega) (by omega)];omega)) (Ad U (Ac ?_))))))
  replace H:Hd w0 F0 w [Y (Ai .i64) q (CT (k+1) R)] [blk r (Bw (.slice A J2.us.length c) vM2 vC2 vR2 vK2 J2 cw ct co part ep R.g hv sb vs) 185]:=by rw [PZ,if_neg (by rw [h2];exact Bool.false_ne_true),List.append_nil];exact H
  exact Bi (s:=(k,undef)) (k+1,q) ⟨rfl,rfl,rfl,rfl,rfl,trivial⟩ ⟨H,by (try dsimp only);omega⟩ (by (try dsimp only);omega)
 refine BC (AM (AM (BD (Aa (Ab (Ae (Ah 2 U (Ac (Aa (An (Aq U U ?_)))))))))))
 have hkk:k=J2.us.length:=by omega
 replace H:Hd w0 F0 w [Y (Ai .i64) q (CT J2.us.length R)] [blk r (Bw (.slice A J2.us.length c) vM2 vC2 vR2 vK2 J2 cw ct co part ep R.g hv sb vs) 185]:=by rw [hkk] at H;exact H
 exact Al U H
theorem Zc (vp:Value) (p:List BG) (fuel:Int) (vus:Value) (us:List (Value×List Ap)) (hpa:∀ i∈p,AA i.a) (hfu:AA fuel) (hb:(CP us).length≤1000000):
    Cn Tryz.prog 180 [vp,.int .i64 fuel,vus] [] [Z Af vp p,Z (Am Ag) vus us,gl] (fun v Bs=>∃ u:Value,v=.tuple #[u,.int .i64 ((Du dg p (srt (CP us)) fuel false).2)]∧Bs=[Y Ag u ((Du dg p (srt (CP us)) fuel false).1)]):=by
 intro w0 F0 H
 obtain ⟨A1,c2,rfl,hc3,hm4,hp5⟩:=H.fR 0 rfl
 obtain ⟨A6,c7,rfl,hc8,hm9,hp10⟩:=H.fR 1 rfl
 refine enter Tryz.func180 U U (Nat.le_of_ble_eq_true U) (Ab (Ae (Ah 2 U (Ac (Aa ?_)))))
 replace H:Hd _ _ _ [] [Z Af (.slice A1 p.length c2) p,Z (Am Ag) (.slice A6 us.length c7) us,gl]:=H
 refine Ab (Ae (Ah 2 U (sc (YL (.slice A6 us.length c7) us (by first |omega|decide|exact Nat.le_trans (On _ _) (by omega)|exact Nat.le_trans (TJ _ _) (by omega)|(simp only [CP,List.flatMap_cons,List.flatMap_nil,List.append_nil,Gg];omega))) H (lR 1 U l0) U U (At US U U) ?_)))
 rintro v11 _ w rfl H
 replace H:=H.h1 (A:=Y Ag v11 (srt (CP us)))
 refine Ad U (sc (TY (.slice A1 p.length c2) p v11 (srt (CP us)) fuel (by first |exact hpa|exact LS|assumption) (by first |assumption|(unfold AA;omega)) (by first |omega|(simp only [Gg];omega))) H (lR 0 U (lA 0 U BJ (lR 2 U l0))) U U (At UR U U) ?_)
 rintro _ _ w ⟨u12,rfl,rfl⟩ H
 replace H:=H.h1 (A:=Y Ag u12 ((Du dg p (srt (CP us)) fuel false).1))
 refine Ah 4 U (Ac (Aa (An (Cl U U U ?_))))
 replace H:=H.k1
 exact Al ⟨u12,rfl,rfl⟩ H
theorem WV (r:Nat) (A:Option Addr) (c:Nat) (vM2:Value) (vC2:Value) (vR2:Value) (vK2:Value) (J2:AD) (cw:Int) (ct:Int) (co:Int) (part:Int) (ep:Int) (R:AL) (hv:Nat→Value) (sb:Nat) (vs:Value) (vset:Value) (set:List Int) (hred:∀ i∈J2.red,AA i.a) (hf64:AA J2.fuel) (hus6:J2.us.length≤6) (hbp:∀ i,(R.g i).pairs.length≤1000):
    Cn Tryz.prog 131 [.pointer (some ⟨r,0,none⟩),vset] [] [blk r (Bw (.slice A J2.us.length c) vM2 vC2 vR2 vK2 J2 cw ct co part ep R.g hv sb vs) 185,BN (R.g) hv,Z (Ai .i64) vset set,Z Af vR2 J2.red,gl] (fun v Bs=>∃ u:Value,v=.tuple #[u,.int .i64 ((Du dg J2.red (srt (Fp J2.us.length R set)) J2.fuel false).2)]∧Bs=[Y Ag u ((Du dg J2.red (srt (Fp J2.us.length R set)) J2.fuel false).1)]):=by
 intro w0 F0 H
 obtain ⟨A1,c2,rfl,hc3,hm4,hp5⟩:=H.fR 2 rfl
 obtain ⟨A6,c7,rfl,hc8,hm9,hp10⟩:=H.fR 3 rfl
 refine enter Tryz.func131 U U (Nat.le_of_ble_eq_true U) (Ab (Ae (Ah 2 U (Ac (Aa ?_)))))
 replace H:Hd _ _ _ [] [blk r (Bw (.slice A J2.us.length c) vM2 vC2 (.slice A6 J2.red.length c7) vK2 J2 cw ct co part ep R.g hv sb vs) 185,BN (R.g) hv,Z (Ai .i64) (.slice A1 set.length c2) set,Z Af (.slice A6 J2.red.length c7) J2.red,gl]:=H
 refine Ab (Ae (Ad U (Ac (Aa (Ab (Ab (Ae (Ad U (V U U (AH U U) (V U U (Aj U Hk U) (V U U (Aj U C0 U) (V U U (Aj U DQ U) (V U U (Ak U DU U (H.cellRI 0 U U)) (V U U (A8 U Ej U) (Ad U (Ac (Aa (AS ?_))))))))))))))))))
 replace H:=H.newnil Dv|>.h1 (A:=Y Dv (.slice none 0 0) (Bo (DJ R.g hv set 0)))
 refine BQ (σ:=Nat×Value) (fun (k,q)=>[(0,.pointer (some ⟨r,0,none⟩)),(1,.slice A1 set.length c2),(4,.slice none 0 0),(5,.int .i64 0),(6,q),(14,.int .i64 ((J2.us.length:Nat):Int)),(15,.int .i64 ((k:Nat):Int))]) (fun (k,q) w=>(Hd w0 F0 w [Y Dv q (Bo (DJ R.g hv set k))] [blk r (Bw (.slice A J2.us.length c) vM2 vC2 (.slice A6 J2.red.length c7) vK2 J2 cw ct co part ep R.g hv sb vs) 185,BN (R.g) hv,Z (Ai .i64) (.slice A1 set.length c2) set,Z Af (.slice A6 J2.red.length c7) J2.red,gl])∧(k≤J2.us.length)) (fun (k,q)=>J2.us.length - k) (0,.slice none 0 0) ⟨rfl,rfl,rfl,rfl,rfl,rfl,rfl,trivial⟩ ⟨H,Nat.zero_le _⟩ ?_
 rintro ⟨k,q⟩ w ⟨H,hk⟩
 have hpl:=Xz R.g hv set k
 have hhl:(Bo (DJ R.g hv set k)).length=(DJ R.g hv set k).length:=by simp [Bo]
 refine Ab (Ae (V U U (Bd U U U) (Ac (Aa (Ab ?_)))))
 refine Ax U (fun h11=>?_) (fun h11=>?_)
 ·refine Av (Aa (Ab (AS (Ab (Ae (Ah 2 U (Ac (Aa (Ab (Ae (Ah 2 U (V U U (AH U U) (V U U (Aj U IJ U) (V U U (FE (p:=14+k*5) U Jv IS U U (by omega) (by omega) (by omega)) (V U U (Aj U JT U) (V U U (Ak U EU U (H.cellRI 0 U (MG (by omega)))) (Ad U ?_)))))))))))))))))
  refine E3 (d:=25) (b:=(R.g k).merged) U (fun h12=>?_) (fun h12=>?_)
  ·refine Ah 2 U (sc (S3 (.slice A1 set.length c2) set ((k:Nat):Int)) H (lR 2 U l0) U U (At UQ U U) ?_)
   rintro _ _ w ⟨rfl,rfl⟩ H
   refine Ad U (Ac (Aa ?_))
   refine Ax U (fun h13=>?_) (fun h13=>?_)
   ·refine Ae (Ah 3 U (V U U (AH U U) (V U U (Aj U IJ U) (V U U (FE (p:=14+k*5) U Jv IS U U (by omega) (by omega) (by omega)) (V U U (Aj U Ou U) ?_)))))
    obtain ⟨A14,c15,e16,_,_,_⟩:=H.prsFormR (i:=k) 1 rfl (by omega)
    refine V U U (Ak U ET U (H.cellRI 0 U ((Yh (by omega)).trans (congrArg some e16)))) (BX (parts:=[(0,.tmp 37)]) (vs:=[.slice A14 ((R.g k).pairs.length) c15]) (cs:=[.slice A14 ((R.g k).pairs.length) c15]) U U U FG K8 U (by decide) (by decide) U U H (fun b17 w H=>?_))
    replace H:=H.p1
    refine Ct (xs:=Bo (DJ R.g hv set k)) (ys:=[(⟨A14,(R.g k).pairs.length,c15⟩:EF)]) U U U FG K8 U (by decide) U U H (by first |omega|(simp only [List.length_append,List.length_cons,List.length_nil];omega)) (fun F hA hR=>Cm (hA _ (List.mem_of_getElem? (i:=0) U)) U (by decide) (AW.flat_eq.2 U)) (fun v18 w H=>(Ad U (Ac (AU (Aa ?_)))))
    replace H:Hd _ _ _ [Y Dv v18 ((Bo (DJ R.g hv set k))++[(⟨A14,(R.g k).pairs.length,c15⟩:EF)]),blk b17 [.slice A14 ((R.g k).pairs.length) c15] 35] [blk r (Bw (.slice A J2.us.length c) vM2 vC2 (.slice A6 J2.red.length c7) vK2 J2 cw ct co part ep R.g hv sb vs) 185,BN (R.g) hv,Z (Ai .i64) (.slice A1 set.length c2) set,Z Af (.slice A6 J2.red.length c7) J2.red,gl]:=H
    refine Ae (V U U (AT (z:=((k+1:Nat):Int)) U U U (by rw [AC (by omega) (by omega)];omega)) (Ad U (Ac ?_)))
    replace H:=H.k1
    replace H:Hd w0 F0 w [Y Dv v18 (Bo (DJ R.g hv set (k+1)))] [blk r (Bw (.slice A J2.us.length c) vM2 vC2 (.slice A6 J2.red.length c7) vK2 J2 cw ct co part ep R.g hv sb vs) 185,BN (R.g) hv,Z (Ai .i64) (.slice A1 set.length c2) set,Z Af (.slice A6 J2.red.length c7) J2.red,gl]:=by rw [Mw,if_pos ⟨h12,h13⟩,show Bo (DJ R.g hv set k++[(hv k,(R.g k).pairs)])=Bo (DJ R.g hv set k)++[⟨A14,(R.g k).pairs.length,c15⟩] by simp [Bo,FA,e16]];exact H
    exact Bi (s:=(k,undef)) (k+1,v18) ⟨rfl,rfl,rfl,rfl,rfl,rfl,rfl,trivial⟩ ⟨H,by (try dsimp only);omega⟩ (by (try dsimp only);omega)
   refine Av (AU (Aa (Ae (V U U (AT (z:=((k+1:Nat):Int)) U U U (by rw [AC (by omega) (by omega)];omega)) (Ad U (Ac ?_))))))
   replace H:Hd w0 F0 w [Y Dv q (Bo (DJ R.g hv set (k+1)))] [blk r (Bw (.slice A J2.us.length c) vM2 vC2 (.slice A6 J2.red.length c7) vK2 J2 cw ct co part ep R.g hv sb vs) 185,BN (R.g) hv,Z (Ai .i64) (.slice A1 set.length c2) set,Z Af (.slice A6 J2.red.length c7) J2.red,gl]:=by rw [Mw,if_neg (fun h=>by first |exact h13 h.2|(rw [h12] at h;cases h.1)),List.append_nil];exact H
   exact Bi (s:=(k,undef)) (k+1,q) ⟨rfl,rfl,rfl,rfl,rfl,rfl,rfl,trivial⟩ ⟨H,by (try dsimp only);omega⟩ (by (try dsimp only);omega)
  refine Ah 4 U (Ac (Aa (B7 U (Av (AU (Aa (Ae (V U U (AT (z:=((k+1:Nat):Int)) U U U (by rw [AC (by omega) (by omega)];omega)) (Ad U (Ac ?_))))))))))
  replace H:Hd w0 F0 w [Y Dv q (Bo (DJ R.g hv set (k+1)))] [blk r (Bw (.slice A J2.us.length c) vM2 vC2 (.slice A6 J2.red.length c7) vK2 J2 cw ct co part ep R.g hv sb vs) 185,BN (R.g) hv,Z (Ai .i64) (.slice A1 set.length c2) set,Z Af (.slice A6 J2.red.length c7) J2.red,gl]:=by rw [Mw,if_neg (fun h=>by first |exact h12 h.2|(rw [h12] at h;cases h.1)),List.append_nil];exact H
  exact Bi (s:=(k,undef)) (k+1,q) ⟨rfl,rfl,rfl,rfl,rfl,rfl,rfl,trivial⟩ ⟨H,by (try dsimp only);omega⟩ (by (try dsimp only);omega)
 refine BC (AM (AM (BD (Aa (Ab (BY (.e 0 (.e 1 (.e 2 (.e 3 (.e 4 (.e 5 (.e 6 (.e 7 (.e 8 (.e 9 (.e 10 (.e 11 (.e 12 (.m 13 (.e 14 (.e 15 (.e 16 (.e 17 .z)))))))))))))))))) (fun w=>∃ Ar,Hd w0 F0 w (Ar) [blk r (Bw (.slice A J2.us.length c) vM2 vC2 (.slice A6 J2.red.length c7) vK2 J2 cw ct co part ep R.g hv sb vs) 185,BN (R.g) hv,Z (Ai .i64) (.slice A1 set.length c2) set,Z Af (.slice A6 J2.red.length c7) J2.red,gl]) mo (by kernel_rfl) (fun w H=>⟨_,H⟩) H (fun w H=>(Au U (Ao U U U (fun w ⟨Ar,H⟩=>AH U U) (Ao U U U (fun w ⟨Ar,H⟩=>Aj U Hk U) (Ao U U U (fun w ⟨Ar,H⟩=>Aj U C0 U) (Ao U U U (fun w ⟨Ar,H⟩=>Aj U HT U) (Ao U U U (fun w ⟨Ar,H⟩=>Ak U Ep U (H.cellRI 0 U U)) (Au U (Ao U U U (fun w ⟨Ar,H⟩=>AH U U) ?_)))))))))))))))
 refine Ao U U U (fun w ⟨Ar,H⟩=>Aj U Hk U) (Ao U U U (fun w ⟨Ar,H⟩=>Aj U C0 U) (Ao U U U (fun w ⟨Ar,H⟩=>Aj U JX U) (Ao U U U (fun w ⟨Ar,H⟩=>Ak U AB U (H.cellRI 0 U U)) (Au U (AO U ?_)))))
 have hkk:k=J2.us.length:=by omega
 replace H:Hd w0 F0 w [Y Dv q (Bo (DJ R.g hv set J2.us.length))] [blk r (Bw (.slice A J2.us.length c) vM2 vC2 (.slice A6 J2.red.length c7) vK2 J2 cw ct co part ep R.g hv sb vs) 185,BN (R.g) hv,Z (Ai .i64) (.slice A1 set.length c2) set,Z Af (.slice A6 J2.red.length c7) J2.red,gl]:=by rw [hkk] at H;exact H
 have hrb:=Q8 (set:=set) hbp J2.us.length
 have hfl:(CP (DJ R.g hv set J2.us.length)).length≤1000000:=by rw [Qo];omega
 refine sc (Zc (.slice A6 J2.red.length c7) J2.red J2.fuel q (DJ R.g hv set J2.us.length) hred hf64 hfl) H (lX (fun F hA hR=>hR _ (List.mem_of_getElem? (i:=3) U)) (lX (fun F hA hR=>Ui (BJ F (hA _ (List.mem_of_getElem? (i:=0) U))) (XA hus6 (hR _ (List.mem_of_getElem? (i:=1) U)))) (lR 4 U l0))) U U (At U3 U U) ?_
 rintro _ _ w ⟨u19,rfl,rfl⟩ H
 rw [Qo] at H ⊢
 replace H:Hd _ _ _ [Y Ag u19 ((Du dg J2.red (srt (Fp J2.us.length R set)) J2.fuel false).1),Y Dv q (Bo (DJ R.g hv set J2.us.length))] [blk r (Bw (.slice A J2.us.length c) vM2 vC2 (.slice A6 J2.red.length c7) vK2 J2 cw ct co part ep R.g hv sb vs) 185,BN (R.g) hv,Z (Ai .i64) (.slice A1 set.length c2) set,Z Af (.slice A6 J2.red.length c7) J2.red,gl]:=H
 refine AE ⟨_,H⟩ (Au U (Au U (Au U (Au U (BP (Aa (An (Cl U U U ?_))))))))
 replace H:=H.k1
 exact Al ⟨u19,rfl,rfl⟩ H
theorem Xd (r:Nat) (A:Option Addr) (c:Nat) (vM2:Value) (vC2:Value) (vR2:Value) (vK2:Value) (J2:AD) (cw:Int) (ct:Int) (co:Int) (part:Int) (ep:Int) (R:AL) (hv:Nat→Value) (sb:Nat) (vs:Value) (hred:∀ i∈J2.red,AA i.a) (hf64:AA J2.fuel) (hus6:J2.us.length≤6) (hbp:∀ i,(R.g i).pairs.length≤1000):
    Cn Tryz.prog 60 [.pointer (some ⟨r,0,none⟩)] [] [blk r (Bw (.slice A J2.us.length c) vM2 vC2 vR2 vK2 J2 cw ct co part ep R.g hv sb vs) 185,BN (R.g) hv,Z Af vR2 J2.red,gl] (fun v Bs=>∃ u:Value,v=.tuple #[u,.int .i64 ((DI dg J2 R).2.1),.bool ((DI dg J2 R).2.2)]∧Bs=[Y Ag u ((DI dg J2 R).1)]):=by
 intro w0 F0 H
 obtain ⟨A1,c2,rfl,hc3,hm4,hp5⟩:=H.fR 2 rfl
 refine enter Tryz.func60 U U (Nat.le_of_ble_eq_true U) (Ab (Ae (Ah 3 U (Ac (Aa ?_)))))
 replace H:Hd _ _ _ [] [blk r (Bw (.slice A J2.us.length c) vM2 vC2 (.slice A1 J2.red.length c2) vK2 J2 cw ct co part ep R.g hv sb vs) 185,BN (R.g) hv,Z Af (.slice A1 J2.red.length c2) J2.red,gl]:=H
 refine Ab (Ae (Ad U (sc (PY r A c vM2 vC2 (.slice A1 J2.red.length c2) vK2 J2 cw ct co part ep R hv sb vs (by first |assumption|omega)) H (lR 0 U l0) U U (At Pz U U) ?_)))
 rintro v6 _ w rfl H
 replace H:=H.h1 (A:=Y (Ai .i64) v6 (CT J2.us.length R))
 refine Ad U (Ac (Aa (Ab (Ab (Ae (Ad U (V U U (Dn U Jx U U) (Ah 2 U ?_))))))))
 obtain ⟨A7,c8,rfl,hc9,hm10,hp11⟩:=H.fA 0 rfl
 refine V U U (A8 U Ea U) (Ad U (V U U (AH U U) (V U U (Aj U Hk U) (V U U (Aj U C0 U) (V U U (Aj U DQ U) (V U U (Ak U DU U (H.cellRI 0 U U)) (V U U (A8 U Ej U) (V U U (Bd U U U) (Ad U (Ac (Aa ?_)))))))))))
 refine Ax U (fun h12=>?_) (fun h12=>?_)
 ·refine Ab (Ae (Ah 3 U (Ac (Aa (An (Az (Gf U U U U ?_)))))))
  have e:DI dg J2 R=([],0,false):=if_pos (by omega)
  replace H:=H.newnil Ag|>.k1
  exact Al ⟨(.slice none 0 0),by rw [e]<;>rfl,by rw [e]<;>rfl⟩ H
 refine Av (Aa (Ab (Ae (Ah 2 U (sc (WV r A c vM2 vC2 (.slice A1 J2.red.length c2) vK2 J2 cw ct co part ep R hv sb vs (.slice A7 ((CT J2.us.length R).length) c8) (CT J2.us.length R) (by first |assumption|omega) (by first |assumption|omega) (by first |assumption|omega) (by first |assumption|omega)) H (lR 0 U (lR 1 U (lA 0 U BJ (lR 2 U (lR 3 U l0))))) U U (At UP U U) ?_)))))
 rintro _ _ w ⟨u13,rfl,rfl⟩ H
 replace H:=H.h1 (A:=Y Ag u13 ((Du dg J2.red (srt (Fp J2.us.length R (CT J2.us.length R))) J2.fuel false).1))
 refine Ah 5 U (Ac (Aa (Ab (Ae (Ah 5 U (Ac (Aa (An (Gf U U U U ?_)))))))))
 have e:DI dg J2 R=((Du dg J2.red (srt (Fp J2.us.length R (CT J2.us.length R))) J2.fuel false).1,(Du dg J2.red (srt (Fp J2.us.length R (CT J2.us.length R))) J2.fuel false).2,true):=if_neg (by omega)
 replace H:=H.k1
 exact Al ⟨u13,by rw [e]<;>rfl,by rw [e]<;>rfl⟩ H
theorem Yn (vS:Value) (vM:Value) (vC:Value) (vR:Value) (vK:Value) (C:Cf) (p:Int) (ep:Int) (vr:Value) (recs:List Bu) (hC:C5 C) (hp:AA p) (he:AA ep) (hgo:C4 C p≠0∧1≤ep) (hrs:∀ r∈recs,(AA r.sp∧r.set.length≤1000)∧r.pairs.length≤1000) (hrl:recs.length≤100000):
    Cn Tryz.prog 56 [.agg #[vS,.int .i64 C.J.parts,vM,vC,vR,.int .i64 C.J.chunk,.int .i64 C.J.window,.int .i64 C.J.fuel,vK,.int .i64 C.w,.int .i64 C.t,.int .i64 C.o],.int .i64 p,.int .i64 ep,vr] [] [Z (Am Ag) vS C.J.us,Z Af vM C.J.map,Z Af vC C.J.comb,Z Af vR C.J.red,Z (Ai .i64) vK C.J.marks,Z B8 vr recs] (fun v Bs=>∃ r:Nat,∃ vS2:Value,∃ vM2:Value,∃ vC2:Value,∃ vR2:Value,∃ vK2:Value,∃ J2:AD,∃ hv:Nat→Value,∃ sb:Nat,∃ vs:Value,∃ us:List (Value×List Int),v=.tuple #[.pointer (some ⟨r,0,none⟩),.int .i64 0]∧Bs=[blk r (Bw vS2 vM2 vC2 vR2 vK2 J2 C.w C.t C.o p ep ((CJ J2.us.length p ep (recs.map Bu.p)).g) hv sb vs) 185,Y (Am Ag) vS2 J2.us,Y Af vM2 J2.map,Y Af vC2 J2.comb,Y Af vR2 J2.red,Y (Ai .i64) vK2 J2.marks,BN ((CJ J2.us.length p ep (recs.map Bu.p)).g) hv,Y (Am (Ai .i64)) vs us,CL 253 sb ([])]∧(Bf J2 C.J)∧(us.map (·.2)=(CJ J2.us.length p ep (recs.map Bu.p)).sets)):=by
 intro w0 F0 H
 obtain ⟨A1,c2,rfl,hc3,hm4,hp5⟩:=H.fR 0 rfl
 obtain ⟨A6,c7,rfl,hc8,hm9,hp10⟩:=H.fR 1 rfl
 obtain ⟨A11,c12,rfl,hc13,hm14,hp15⟩:=H.fR 2 rfl
 obtain ⟨A16,c17,rfl,hc18,hm19,hp20⟩:=H.fR 3 rfl
 obtain ⟨A21,c22,rfl,hc23,hm24,hp25⟩:=H.fR 4 rfl
 obtain ⟨A26,c27,rfl,hc28,hm29,hp30⟩:=H.fR 5 rfl
 refine enter Tryz.func56 U U (Nat.le_of_ble_eq_true U) (Ab (Ae (CA U U U U H (fun b31 w H=>(Ah 2 U (Ac (Aa ?_)))))))
 replace H:Hd _ _ _ [blk b31 [.slice A1 C.J.us.length c2,.int .i64 C.J.parts,.slice A6 C.J.map.length c7,.slice A11 C.J.comb.length c12,.slice A16 C.J.red.length c17,.int .i64 C.J.chunk,.int .i64 C.J.window,.int .i64 C.J.fuel,.slice A21 C.J.marks.length c22,.int .i64 C.w,.int .i64 C.t,.int .i64 C.o] 28] [Z (Am Ag) (.slice A1 C.J.us.length c2) C.J.us,Z Af (.slice A6 C.J.map.length c7) C.J.map,Z Af (.slice A11 C.J.comb.length c12) C.J.comb,Z Af (.slice A16 C.J.red.length c17) C.J.red,Z (Ai .i64) (.slice A21 C.J.marks.length c22) C.J.marks,Z B8 (.slice A26 recs.length c27) recs]:=H
 refine Ab (Ab (Ae (V U U (Bq (cs:=[.slice A1 C.J.us.length c2,.int .i64 C.J.parts,.slice A6 C.J.map.length c7,.slice A11 C.J.comb.length c12,.slice A16 C.J.red.length c17,.int .i64 C.J.chunk,.int .i64 C.J.window,.int .i64 C.J.fuel,.slice A21 C.J.marks.length c22,.int .i64 C.w,.int .i64 C.t,.int .i64 C.o]) U DE U U (H.cellsI 0 U U)) (Ad U (sc (J0 (.slice A1 C.J.us.length c2) (.slice A6 C.J.map.length c7) (.slice A11 C.J.comb.length c12) (.slice A16 C.J.red.length c17) (.slice A21 C.J.marks.length c22) C p (by first |assumption|omega)) H (lR 0 U (lR 1 U (lR 2 U (lR 3 U (lR 4 U l0))))) U U (At J_ U U) ?_)))))
 rintro _ _ w ⟨rfl,rfl⟩ H
 refine V U U (Bb U U U) (Ad U ?_)
 refine AK (d:=18) U (fun h32=>?_) (fun h32=>?_)
 ·exact (hgo.1 h32).elim
 refine Ad U (V U U (Bd U U U) (Ad U (Ac (Aa ?_))))
 replace H:Hd _ _ _ [blk b31 [.slice A1 C.J.us.length c2,.int .i64 C.J.parts,.slice A6 C.J.map.length c7,.slice A11 C.J.comb.length c12,.slice A16 C.J.red.length c17,.int .i64 C.J.chunk,.int .i64 C.J.window,.int .i64 C.J.fuel,.slice A21 C.J.marks.length c22,.int .i64 C.w,.int .i64 C.t,.int .i64 C.o] 28] [Z (Am Ag) (.slice A1 C.J.us.length c2) C.J.us,Z Af (.slice A6 C.J.map.length c7) C.J.map,Z Af (.slice A11 C.J.comb.length c12) C.J.comb,Z Af (.slice A16 C.J.red.length c17) C.J.red,Z (Ai .i64) (.slice A21 C.J.marks.length c22) C.J.marks,Z B8 (.slice A26 recs.length c27) recs]:=H
 refine Ax U (fun h33=>?_) (fun h33=>?_)
 ·exfalso;omega
 refine Av (Aa (Ab (Ae (V U U (Bq (cs:=[.slice A1 C.J.us.length c2,.int .i64 C.J.parts,.slice A6 C.J.map.length c7,.slice A11 C.J.comb.length c12,.slice A16 C.J.red.length c17,.int .i64 C.J.chunk,.int .i64 C.J.window,.int .i64 C.J.fuel,.slice A21 C.J.marks.length c22,.int .i64 C.w,.int .i64 C.t,.int .i64 C.o]) U DE U U (H.cellsI 0 U U)) (sc (Mr (.slice A1 C.J.us.length c2) (.slice A6 C.J.map.length c7) (.slice A11 C.J.comb.length c12) (.slice A16 C.J.red.length c17) (.slice A21 C.J.marks.length c22) C (by first |assumption|omega)) H (lR 0 U (lR 1 U (lR 2 U (lR 3 U (lR 4 U l0))))) U U (At L6 U U) ?_)))))
 rintro _ _ w ⟨J34,vS35,vM36,vC37,vR38,vK39,rfl,rfl,hf40⟩ H
 replace H:=H.h5 (A:=Y (Am Ag) vS35 J34.us) (B:=Y Af vM36 J34.map) (C:=Y Af vC37 J34.comb) (D:=Y Af vR38 J34.red) (E:=Y (Ai .i64) vK39 J34.marks)
 have hsj:=hf40
 refine Ah 2 U (sc (Zo) H l0 U U (At UO U U) ?_)
 rintro _ _ w ⟨b41,rfl,rfl⟩ H
 obtain ⟨A42,c43,rfl,hc44,hm45,hp46⟩:=H.fA 1 rfl
 obtain ⟨A47,c48,rfl,hc49,hm50,hp51⟩:=H.fA 2 rfl
 obtain ⟨A52,c53,rfl,hc54,hm55,hp56⟩:=H.fA 3 rfl
 obtain ⟨A57,c58,rfl,hc59,hm60,hp61⟩:=H.fA 4 rfl
 obtain ⟨A62,c63,rfl,hc64,hm65,hp66⟩:=H.fA 5 rfl
 refine V U U (Co (parts:=[(0,.tmp 23),(1,.tmp 24),(2,.tmp 25),(4,.tmp 26)]) (vs:=[.agg #[.slice A42 J34.us.length c43,.int .i64 J34.parts,.slice A47 J34.map.length c48,.slice A52 J34.comb.length c53,.slice A57 J34.red.length c58,.int .i64 J34.chunk,.int .i64 J34.window,.int .i64 J34.fuel,.slice A62 J34.marks.length c63,.int .i64 C.w,.int .i64 C.t,.int .i64 C.o],.int .i64 p,.int .i64 ep,.pointer (some ⟨b41,0,none⟩)]) (cs:=[.slice A42 J34.us.length c43,.int .i64 J34.parts,.slice A47 J34.map.length c48,.slice A52 J34.comb.length c53,.slice A57 J34.red.length c58,.int .i64 J34.chunk,.int .i64 J34.window,.int .i64 J34.fuel,.slice A62 J34.marks.length c63,.int .i64 C.w,.int .i64 C.t,.int .i64 C.o,.int .i64 p,.int .i64 ep,.bool false,.slice none 0 0,.bool false,.int .i64 0,.int .i64 0,.bool false,.slice none 0 0,.bool false,.int .i64 0,.int .i64 0,.bool false,.slice none 0 0,.bool false,.int .i64 0,.int .i64 0,.bool false,.slice none 0 0,.bool false,.int .i64 0,.int .i64 0,.bool false,.slice none 0 0,.bool false,.int .i64 0,.int .i64 0,.bool false,.slice none 0 0,.bool false,.int .i64 0,.int .i64 0,.pointer (some ⟨b41,0,none⟩),.slice none 0 0]) U Sa U U) ?_
 refine CA U U U U H (fun b67 w H=>(Ad U (Ac (Aa ?_))))
 replace H:Hd _ _ _ [blk b67 [.slice A42 J34.us.length c43,.int .i64 J34.parts,.slice A47 J34.map.length c48,.slice A52 J34.comb.length c53,.slice A57 J34.red.length c58,.int .i64 J34.chunk,.int .i64 J34.window,.int .i64 J34.fuel,.slice A62 J34.marks.length c63,.int .i64 C.w,.int .i64 C.t,.int .i64 C.o,.int .i64 p,.int .i64 ep,.bool false,.slice none 0 0,.bool false,.int .i64 0,.int .i64 0,.bool false,.slice none 0 0,.bool false,.int .i64 0,.int .i64 0,.bool false,.slice none 0 0,.bool false,.int .i64 0,.int .i64 0,.bool false,.slice none 0 0,.bool false,.int .i64 0,.int .i64 0,.bool false,.slice none 0 0,.bool false,.int .i64 0,.int .i64 0,.bool false,.slice none 0 0,.bool false,.int .i64 0,.int .i64 0,.pointer (some ⟨b41,0,none⟩),.slice none 0 0] 185,CL 253 b41 ([]),Y (Am Ag) (.slice A42 J34.us.length c43) J34.us,Y Af (.slice A47 J34.map.length c48) J34.map,Y Af (.slice A52 J34.comb.length c53) J34.comb,Y Af (.slice A57 J34.red.length c58) J34.red,Y (Ai .i64) (.slice A62 J34.marks.length c63) J34.marks,blk b31 [.slice A1 C.J.us.length c2,.int .i64 C.J.parts,.slice A6 C.J.map.length c7,.slice A11 C.J.comb.length c12,.slice A16 C.J.red.length c17,.int .i64 C.J.chunk,.int .i64 C.J.window,.int .i64 C.J.fuel,.slice A21 C.J.marks.length c22,.int .i64 C.w,.int .i64 C.t,.int .i64 C.o] 28] [Z (Am Ag) (.slice A1 C.J.us.length c2) C.J.us,Z Af (.slice A6 C.J.map.length c7) C.J.map,Z Af (.slice A11 C.J.comb.length c12) C.J.comb,Z Af (.slice A16 C.J.red.length c17) C.J.red,Z (Ai .i64) (.slice A21 C.J.marks.length c22) C.J.marks,Z B8 (.slice A26 recs.length c27) recs]:=H
 refine Ab (Ab ?_)
 have hlen:J34.us.length≤6:=by have:=hC.1.1;have:=hsj.len;omega
 replace H:=(H.newnil (Am (Ai .i64))).prsN
 replace H:=H.h2 (A:=BN ((GY p ep).g) (fun _=>.slice none 0 0)) (B:=Y (Am (Ai .i64)) (.slice none 0 0) [])|>.p8|>.p8|>.p8|>.p8|>.p8|>.p7|>.k9|>.h1 (A:=blk b67 (Bw (.slice A42 J34.us.length c43) (.slice A47 J34.map.length c48) (.slice A52 J34.comb.length c53) (.slice A57 J34.red.length c58) (.slice A62 J34.marks.length c63) J34 C.w C.t C.o p ep ((GY p ep).g) (fun _=>.slice none 0 0) b41 (.slice none 0 0)) 185)
 refine Ae (Ad U (V U U (A8 U RF U) (Ad U (Ac (Aa (AS (BQ (σ:=Nat×AL×(Nat→Value)×Value×List (Value×List Int)) (fun (k,R,hv,vs,us)=>[(1,.int .i64 p),(8,.pointer none),(9,.int .i64 0),(10,.pointer (some ⟨b67,0,none⟩)),(29,.slice A26 recs.length c27),(30,.int .i64 ((recs.length:Nat):Int)),(31,.int .i64 ((k:Nat):Int))]) (fun (k,R,hv,vs,us) w=>(Hd w0 F0 w [blk b67 (Bw (.slice A42 J34.us.length c43) (.slice A47 J34.map.length c48) (.slice A52 J34.comb.length c53) (.slice A57 J34.red.length c58) (.slice A62 J34.marks.length c63) J34 C.w C.t C.o p ep R.g hv b41 vs) 185,Y (Am Ag) (.slice A42 J34.us.length c43) J34.us,Y Af (.slice A47 J34.map.length c48) J34.map,Y Af (.slice A52 J34.comb.length c53) J34.comb,Y Af (.slice A57 J34.red.length c58) J34.red,Y (Ai .i64) (.slice A62 J34.marks.length c63) J34.marks,BN (R.g) hv,Y (Am (Ai .i64)) vs us,CL 253 b41 ([])] [Z (Am Ag) (.slice A1 C.J.us.length c2) C.J.us,Z Af (.slice A6 C.J.map.length c7) C.J.map,Z Af (.slice A11 C.J.comb.length c12) C.J.comb,Z Af (.slice A16 C.J.red.length c17) C.J.red,Z (Ai .i64) (.slice A21 C.J.marks.length c22) C.J.marks,Z B8 (.slice A26 recs.length c27) recs])∧(R=CJ J34.us.length p ep ((recs.take k).map Bu.p))∧(R.part=p)∧(us.map (·.2)=R.sets)∧(k≤recs.length)∧(us.length≤k)) (fun (k,R,hv,vs,us)=>recs.length - k) (0,GY p ep,(fun _=>.slice none 0 0),.slice none 0 0,[]) ⟨rfl,rfl,rfl,rfl,rfl,rfl,rfl,trivial⟩ ⟨H,rfl,rfl,rfl,Nat.zero_le _,Nat.le_refl _⟩ ?_)))))))
 rintro ⟨k,R,hv,vs,us⟩ w ⟨H,hR,hRp,hus,hk,hul⟩
 refine Ab (Ae (V U U (Bd U U U) (Ac (Aa (Ab ?_)))))
 refine Ax U (fun h68=>?_) (fun h68=>?_)
 ·refine Av (Aa (Ab (AS (Ab ?_))))
  obtain ⟨⟨a71,a72,a73,a74,a75,sv76,se77,pv78,pr79⟩,hx70⟩:∃ z9,recs[k]?=some z9:=⟨_,List.getElem?_eq_getElem (show k<recs.length by omega)⟩
  obtain ⟨A80,c81,A82,c83,rfl,rfl,m84,m85,m86,m87⟩:=H.nestRr 5 rfl hx70
  have hr1:=hrs _ (Ce hx70)
  unfold AA at hr1
  dsimp only at hr1
  refine Ae ?_
  have th88:=H.thRr 5 rfl hx70
  refine V U U (AZ (p:=AP A26+k*7) U MR U U (by omega) (by omega) th88 U) (V U U (Bq (cs:=[.int .i64 a71,.int .i64 a72,.int .i64 a73,.int .i64 a74,.int .i64 a75,.slice A80 se77.length c81,.slice A82 pr79.length c83]) U KV U U (H.elsRr 5 U hx70 U)) (Dg U U U Ng H (fun b89 w H=>(BE U U U KV U U H U (Nat.le_of_ble_eq_true U) (fun u hu=>by simp [Value.cells] at hu;rcases hu with rfl|rfl|rfl|rfl|rfl|rfl|rfl<;>rfl) (fun w H=>?_)))))
  replace H:Hd _ _ _ [blk b89 [.int .i64 a71,.int .i64 a72,.int .i64 a73,.int .i64 a74,.int .i64 a75,.slice A80 se77.length c81,.slice A82 pr79.length c83] 37,blk b67 (Bw (.slice A42 J34.us.length c43) (.slice A47 J34.map.length c48) (.slice A52 J34.comb.length c53) (.slice A57 J34.red.length c58) (.slice A62 J34.marks.length c63) J34 C.w C.t C.o p ep R.g hv b41 vs) 185,Y (Am Ag) (.slice A42 J34.us.length c43) J34.us,Y Af (.slice A47 J34.map.length c48) J34.map,Y Af (.slice A52 J34.comb.length c53) J34.comb,Y Af (.slice A57 J34.red.length c58) J34.red,Y (Ai .i64) (.slice A62 J34.marks.length c63) J34.marks,BN (R.g) hv,Y (Am (Ai .i64)) vs us,CL 253 b41 ([])] [Z (Am Ag) (.slice A1 C.J.us.length c2) C.J.us,Z Af (.slice A6 C.J.map.length c7) C.J.map,Z Af (.slice A11 C.J.comb.length c12) C.J.comb,Z Af (.slice A16 C.J.red.length c17) C.J.red,Z (Ai .i64) (.slice A21 C.J.marks.length c22) C.J.marks,Z B8 (.slice A26 recs.length c27) recs]:=H
  refine Ac (Aa (Ab (Ab (Ae (V U U (Aj U TV U) (V U U (Ak U AB U (H.cellI 0 U U)) (Ad U (V U U (CX U U U) (Ac (Aa ?_))))))))))
  refine Ax U (fun h90=>?_) (fun h90=>?_)
  ·refine BC (AM (BD (Aa (Ae (V U U (AT (z:=((k+1:Nat):Int)) U U U (by rw [AC (by omega) (by omega)];omega)) (Ad U (Ac ?_)))))))
   have hpart:(Bu.p (⟨a71,a72,a73,a74,a75,.slice A80 se77.length c81,se77,.slice A82 pr79.length c83,pr79⟩:Bu)).part≠R.part:=by rw [hRp];exact h90
   have hR2:=FC hR hx70 (Yd hpart)
   replace H:=H.p9.p9.p9.p9.p9.p9.p9.p9.p9.k9
   exact Bi (s:=(k,R,hv,undef,us)) (k+1,R,hv,vs,us) ⟨rfl,rfl,rfl,rfl,rfl,rfl,rfl,trivial⟩ ⟨H,hR2,hRp,by (try dsimp only);exact hus,by (try dsimp only);omega,by (try dsimp only);omega⟩ (by (try dsimp only);omega)
  refine Av (Aa (Ab (Ab ?_)))
  by_cases hin91:0≤a73∧a73<((J34.us.length:Nat):Int)
  ·refine Ae (Ad U (V U U (Aj U OF U) (V U U (Ak U AB U (H.cellI 0 U U)) (sc (R7 b67 A42 J34.us.length c43 (.slice A47 J34.map.length c48) (.slice A52 J34.comb.length c53) (.slice A57 J34.red.length c58) (.slice A62 J34.marks.length c63) J34 C.w C.t C.o p ep R.g hv b41 vs a73 (by first |assumption|omega) (by first |assumption|omega)) H (lA 1 U (fun _ h=>h) l0) U U (At Pf U U) ?_))))
   rintro _ _ w ⟨rfl,rfl⟩ H
   refine Ad U (Ac (Aa (Ab (Ae (V U U (Aj U GQ U) (V U U (Ak U AB U (H.cellI 0 U U)) (V U U (Bb U U U) (Ad U ?_))))))))
   refine AK (d:=46) U (fun h92=>?_) (fun h92=>?_)
   ·refine Ad U (V U U (Kx U RB U U) (Ah 3 U (V U U (AH U U) (V U U (Aj U JT U) (V U U (Ak U EU U (H.cellI 1 U (MG (by omega)))) (V U U (FW U U U) (Ad U (Ac (Aa ?_)))))))))
    refine DN (b:=!((R.g ((a73).toNat)).merged)) U (fun h93=>?_) (fun h93=>?_)
    ·refine Ae (Ah 2 U (V U U (Aj U TW U) (V U U (Ak U ET U (H.cellI 0 U U)) (sc (JF (.slice A82 pr79.length c83) pr79 (by first |assumption|omega)) H (lX (fun F hA hR=>QS (hR _ (List.mem_of_getElem? (i:=5) U)) hx70) l0) U U (At J3 U U) ?_))))
     rintro v94 _ w rfl H
     refine V U U (AH U U) (V U U (Aj U JT U) ?_)
     replace H:=H.p2
     refine BE U U U EU U U H U (by show 14+((a73).toNat)*5+0+1≤46;omega) (fun u hu=>by simp [Value.cells] at hu;subst hu;rfl) (fun w H=>?_)
     replace H:Hd w0 F0 w [blk b67 (Bw (.slice A42 J34.us.length c43) (.slice A47 J34.map.length c48) (.slice A52 J34.comb.length c53) (.slice A57 J34.red.length c58) (.slice A62 J34.marks.length c63) J34 C.w C.t C.o p ep (B3 R.g ((a73).toNat) { R.g ((a73).toNat) with merged:=true }) hv b41 vs) 185,Y Ag v94 pr79,blk b89 [.int .i64 a71,.int .i64 a72,.int .i64 a73,.int .i64 a74,.int .i64 a75,.slice A80 se77.length c81,.slice A82 pr79.length c83] 37,Y (Am Ag) (.slice A42 J34.us.length c43) J34.us,Y Af (.slice A47 J34.map.length c48) J34.map,Y Af (.slice A52 J34.comb.length c53) J34.comb,Y Af (.slice A57 J34.red.length c58) J34.red,Y (Ai .i64) (.slice A62 J34.marks.length c63) J34.marks,BN (R.g) hv,Y (Am (Ai .i64)) vs us,CL 253 b41 ([])] [Z (Am Ag) (.slice A1 C.J.us.length c2) C.J.us,Z Af (.slice A6 C.J.map.length c7) C.J.map,Z Af (.slice A11 C.J.comb.length c12) C.J.comb,Z Af (.slice A16 C.J.red.length c17) C.J.red,Z (Ai .i64) (.slice A21 C.J.marks.length c22) C.J.marks,Z B8 (.slice A26 recs.length c27) recs]:=by rw [←Yj (show (a73).toNat<6 by omega) true];exact H
     refine V U U (AH U U) (V U U (Aj U Ou U) ?_)
     obtain ⟨A95,c96,rfl,hc97,hm98,hp99⟩:=H.fA 1 rfl
     refine BE U U U ET U U H U (by show 14+((a73).toNat)*5+1+1≤46;omega) (fun u hu=>by simp [Value.cells] at hu;subst hu;rfl) (fun w H=>?_)
     replace H:Hd w0 F0 w [blk b67 (Bw (.slice A42 J34.us.length c43) (.slice A47 J34.map.length c48) (.slice A52 J34.comb.length c53) (.slice A57 J34.red.length c58) (.slice A62 J34.marks.length c63) J34 C.w C.t C.o p ep (B3 R.g ((a73).toNat) { R.g ((a73).toNat) with merged:=true }) (B3 hv ((a73).toNat) (.slice A95 pr79.length c96:Value)) b41 vs) 185,Y Ag (.slice A95 pr79.length c96) pr79,blk b89 [.int .i64 a71,.int .i64 a72,.int .i64 a73,.int .i64 a74,.int .i64 a75,.slice A80 se77.length c81,.slice A82 pr79.length c83] 37,Y (Am Ag) (.slice A42 J34.us.length c43) J34.us,Y Af (.slice A47 J34.map.length c48) J34.map,Y Af (.slice A52 J34.comb.length c53) J34.comb,Y Af (.slice A57 J34.red.length c58) J34.red,Y (Ai .i64) (.slice A62 J34.marks.length c63) J34.marks,BN (R.g) hv,Y (Am (Ai .i64)) vs us,CL 253 b41 ([])] [Z (Am Ag) (.slice A1 C.J.us.length c2) C.J.us,Z Af (.slice A6 C.J.map.length c7) C.J.map,Z Af (.slice A11 C.J.comb.length c12) C.J.comb,Z Af (.slice A16 C.J.red.length c17) C.J.red,Z (Ai .i64) (.slice A21 C.J.marks.length c22) C.J.marks,Z B8 (.slice A26 recs.length c27) recs]:=by rw [←Yk (show (a73).toNat<6 by omega) (.slice A95 pr79.length c96:Value)];exact H
     refine Ac (Aa (Ab (Ae (V U U (Aj U GQ U) (V U U (Ak U AB U (H.cellI 2 U U)) (V U U (Bb U U U) (Ac (Aa ?_))))))))
     refine Ax U (fun h100=>?_) (fun h100=>?_)
     ·exfalso;omega
     refine Av (AU (Aa (Ae (V U U (AT (z:=((k+1:Nat):Int)) U U U (by rw [AC (by omega) (by omega)];omega)) (Ad U (Ac ?_))))))
     have hpart:(Bu.p (⟨a71,a72,a73,a74,a75,.slice A80 se77.length c81,se77,.slice A82 pr79.length c83,pr79⟩:Bu)).part=R.part:=by rw [hRp];exact Classical.not_not.1 h90
     replace H:=H.pick 10 rfl|>.pick 10 rfl|>.p9|>.p9|>.p9|>.p9|>.p9|>.p7|>.pick 10 rfl|>.p9|>.k10|>.prsU (i:=(a73).toNat) (x:=({ R.g (a73).toNat with merged:=true,pairs:=pr79 }:Di)) (by omega)
     replace H:Hd w0 F0 w [BN (({ R with g:=B3 R.g (a73).toNat ({ R.g (a73).toNat with merged:=true,pairs:=pr79 }:Di) }:AL).g) (B3 hv (a73).toNat (.slice A95 pr79.length c96:Value)),blk b67 (Bw (.slice A42 J34.us.length c43) (.slice A47 J34.map.length c48) (.slice A52 J34.comb.length c53) (.slice A57 J34.red.length c58) (.slice A62 J34.marks.length c63) J34 C.w C.t C.o p ep (({ R with g:=B3 R.g (a73).toNat ({ R.g (a73).toNat with merged:=true,pairs:=pr79 }:Di) }:AL).g) (B3 hv (a73).toNat (.slice A95 pr79.length c96:Value)) b41 vs) 185,Y (Am Ag) (.slice A42 J34.us.length c43) J34.us,Y Af (.slice A47 J34.map.length c48) J34.map,Y Af (.slice A52 J34.comb.length c53) J34.comb,Y Af (.slice A57 J34.red.length c58) J34.red,Y (Ai .i64) (.slice A62 J34.marks.length c63) J34.marks,Y (Am (Ai .i64)) vs us,CL 253 b41 ([])] [Z (Am Ag) (.slice A1 C.J.us.length c2) C.J.us,Z Af (.slice A6 C.J.map.length c7) C.J.map,Z Af (.slice A11 C.J.comb.length c12) C.J.comb,Z Af (.slice A16 C.J.red.length c17) C.J.red,Z (Ai .i64) (.slice A21 C.J.marks.length c22) C.J.marks,Z B8 (.slice A26 recs.length c27) recs]:=by
       rw [←Yi (g:=B3 R.g (a73).toNat { R.g (a73).toNat with merged:=true }) (g':=({ R with g:=B3 R.g (a73).toNat ({ R.g (a73).toNat with merged:=true,pairs:=pr79 }:Di) }:AL).g) (fun j=>by dsimp only;by_cases e:j=(a73).toNat<;>first |(subst e;rw [GA,GA];exact ⟨rfl,rfl,rfl,rfl⟩)|(rw [Gz _ _ e,Gz _ _ e];exact ⟨rfl,rfl,rfl,rfl⟩))]
       exact H
     have hR2:=FC hR hx70 (Yb hpart h92 hin91 (by simpa [Bu.p] using h93))
     replace H:=H.sel 9 [1,2,3,4,5,6,0,7,8] [] rfl (by kernel_rfl)
     replace H:Hd _ _ _ [blk b67 (Bw (.slice A42 J34.us.length c43) (.slice A47 J34.map.length c48) (.slice A52 J34.comb.length c53) (.slice A57 J34.red.length c58) (.slice A62 J34.marks.length c63) J34 C.w C.t C.o p ep (({ R with g:=B3 R.g (a73).toNat ({ R.g (a73).toNat with merged:=true,pairs:=pr79 }:Di) }:AL).g) (B3 hv (a73).toNat (.slice A95 pr79.length c96:Value)) b41 vs) 185,Y (Am Ag) (.slice A42 J34.us.length c43) J34.us,Y Af (.slice A47 J34.map.length c48) J34.map,Y Af (.slice A52 J34.comb.length c53) J34.comb,Y Af (.slice A57 J34.red.length c58) J34.red,Y (Ai .i64) (.slice A62 J34.marks.length c63) J34.marks,BN (({ R with g:=B3 R.g (a73).toNat ({ R.g (a73).toNat with merged:=true,pairs:=pr79 }:Di) }:AL).g) (B3 hv (a73).toNat (.slice A95 pr79.length c96:Value)),Y (Am (Ai .i64)) vs us,CL 253 b41 ([])] [Z (Am Ag) (.slice A1 C.J.us.length c2) C.J.us,Z Af (.slice A6 C.J.map.length c7) C.J.map,Z Af (.slice A11 C.J.comb.length c12) C.J.comb,Z Af (.slice A16 C.J.red.length c17) C.J.red,Z (Ai .i64) (.slice A21 C.J.marks.length c22) C.J.marks,Z B8 (.slice A26 recs.length c27) recs]:=H
     exact Bi (s:=(k,R,hv,undef,us)) (k+1,({ R with g:=B3 R.g (a73).toNat ({ R.g (a73).toNat with merged:=true,pairs:=pr79 }:Di) }:AL),B3 hv (a73).toNat (.slice A95 pr79.length c96:Value),vs,us) ⟨rfl,rfl,rfl,rfl,rfl,rfl,rfl,trivial⟩ ⟨H,hR2,hRp,by (try dsimp only);exact hus,by (try dsimp only);omega,by (try dsimp only);omega⟩ (by (try dsimp only);omega)
    refine Av (Aa (Ab (Ae (V U U (Aj U GQ U) (V U U (Ak U AB U (H.cellI 0 U U)) (V U U (Bb U U U) (Ac (Aa ?_))))))))
    refine Ax U (fun h101=>?_) (fun h101=>?_)
    ·exfalso;omega
    refine Av (AU (Aa (Ae (V U U (AT (z:=((k+1:Nat):Int)) U U U (by rw [AC (by omega) (by omega)];omega)) (Ad U (Ac ?_))))))
    have hpart:(Bu.p (⟨a71,a72,a73,a74,a75,.slice A80 se77.length c81,se77,.slice A82 pr79.length c83,pr79⟩:Bu)).part=R.part:=by rw [hRp];exact Classical.not_not.1 h90
    have hR2:=FC hR hx70 (KA hpart (fun h=>by have h2:=h.2.2;have h3:=h93;dsimp only [Bu.p] at h2;rw [h2] at h3;exact absurd h3 (by decide)) h101)
    replace H:=H.p9.p9.p9.p9.p9.p9.p9.p9.p9.k9
    exact Bi (s:=(k,R,hv,undef,us)) (k+1,R,hv,vs,us) ⟨rfl,rfl,rfl,rfl,rfl,rfl,rfl,trivial⟩ ⟨H,hR2,hRp,by (try dsimp only);exact hus,by (try dsimp only);omega,by (try dsimp only);omega⟩ (by (try dsimp only);omega)
   refine Ah 10 U (Ac (Aa (B7 U (Av (Aa (Ab (Ae (V U U (Aj U GQ U) (V U U (Ak U AB U (H.cellI 0 U U)) (V U U (Bb U U U) (Ac (Aa ?_))))))))))))
   refine Ax U (fun h102=>?_) (fun h102=>?_)
   ·replace H:=H.p9.p8.p8.p8.p8.p8.p8.p7
    refine BY (.e 0 (.e 1 (.e 2 (.e 3 (.e 5 (.e 6 (.b 4 7 (.m 7 (.m 8 (.m 9 (.e 10 (.e 11 (.m 12 .z)))))) (.b 4 8 (.m 8 (.m 9 (.e 10 (.e 11 (.m 12 .z))))) (.m 4 (.m 9 (.e 10 (.e 11 (.m 12 .z))))))))))))) (fun w=>∃ Ar,Hd w0 F0 w (blk b89 [.int .i64 a71,.int .i64 a72,.int .i64 a73,.int .i64 a74,.int .i64 a75,.slice A80 se77.length c81,.slice A82 pr79.length c83] 37::Y (Am Ag) (.slice A42 J34.us.length c43) J34.us::Y Af (.slice A47 J34.map.length c48) J34.map::Y Af (.slice A52 J34.comb.length c53) J34.comb::Y Af (.slice A57 J34.red.length c58) J34.red::Y (Ai .i64) (.slice A62 J34.marks.length c63) J34.marks::BN (R.g) hv::CL 253 b41 ([])::Ar) [Z (Am Ag) (.slice A1 C.J.us.length c2) C.J.us,Z Af (.slice A6 C.J.map.length c7) C.J.map,Z Af (.slice A11 C.J.comb.length c12) C.J.comb,Z Af (.slice A16 C.J.red.length c17) C.J.red,Z (Ai .i64) (.slice A21 C.J.marks.length c22) C.J.marks,Z B8 (.slice A26 recs.length c27) recs]) mo (by kernel_rfl) (fun w H=>⟨_,H⟩) H (fun w H=>?_)
    refine Au U (Au U (Ao U U U (fun w ⟨Ar,H⟩=>AH U U) (Ao U U U (fun w ⟨Ar,H⟩=>Aj U GP U) (Ao U U U (fun w ⟨Ar,H⟩=>Aj U OG U) (Ao U U U (fun w ⟨Ar,H⟩=>Ak U E5 U (H.cellI 0 U U)) ?_)))))
    refine HI U U ?_ ?_
    ·refine V U U (Ak U FI U (H.cellI 8 U U)) (AE ⟨_,H⟩ (AO U (sc (HG (.slice A80 se77.length c81) se77 (by first |assumption|omega)) H (lX (fun F hA hR=>Ja (hR _ (List.mem_of_getElem? (i:=5) U)) hx70) l0) U U (At H0 U U) ?_)))
     rintro v103 _ w rfl H
     replace H:=H.h1 (A:=Y (Ai .i64) v103 se77)|>.p8|>.p8|>.p8|>.p8|>.p8|>.p8|>.p8|>.p8
     refine AE ⟨_,H⟩ (AO U ?_)
     obtain ⟨A105,c106,rfl,hc107,hm108,hp109⟩:=H.fA 8 rfl
     refine BX (parts:=[(0,.tmp 76)]) (vs:=[.slice A105 se77.length c106]) (cs:=[.slice A105 se77.length c106]) U U U FF FL U (by decide) (by decide) U U H (fun b104 w H=>?_)
     replace H:Hd _ _ _ [blk b104 [.slice A105 se77.length c106] 24,blk b89 [.int .i64 a71,.int .i64 a72,.int .i64 a73,.int .i64 a74,.int .i64 a75,.slice A80 se77.length c81,.slice A82 pr79.length c83] 37,Y (Am Ag) (.slice A42 J34.us.length c43) J34.us,Y Af (.slice A47 J34.map.length c48) J34.map,Y Af (.slice A52 J34.comb.length c53) J34.comb,Y Af (.slice A57 J34.red.length c58) J34.red,Y (Ai .i64) (.slice A62 J34.marks.length c63) J34.marks,BN (R.g) hv,CL 253 b41 ([]),Y (Ai .i64) (.slice A105 se77.length c106) se77,blk b67 (Bw (.slice A42 J34.us.length c43) (.slice A47 J34.map.length c48) (.slice A52 J34.comb.length c53) (.slice A57 J34.red.length c58) (.slice A62 J34.marks.length c63) J34 C.w C.t C.o p ep R.g hv b41 vs) 185,Y (Am (Ai .i64)) vs us] [Z (Am Ag) (.slice A1 C.J.us.length c2) C.J.us,Z Af (.slice A6 C.J.map.length c7) C.J.map,Z Af (.slice A11 C.J.comb.length c12) C.J.comb,Z Af (.slice A16 C.J.red.length c17) C.J.red,Z (Ai .i64) (.slice A21 C.J.marks.length c22) C.J.marks,Z B8 (.slice A26 recs.length c27) recs]:=H
     replace H:=H.p8.p8.p8.p8.p8.p8.p8.p8
     refine AE ⟨_,H⟩ (AO U ?_)
     replace H:=H.pick 11 rfl|>.pick 10 rfl|>.pick 10 rfl|>.p2
     refine Ip U U U FF FL U (by decide) U U H (by first |omega|(simp only [List.length_append,List.length_cons,List.length_nil];omega)) (fun v110 w H=>?_)
     replace H:=H.h1 (A:=Y (Am (Ai .i64)) v110 (us++[((.slice A105 se77.length c106:Value),se77)]))|>.p8|>.p8|>.p8|>.p8|>.p8|>.p8|>.p8|>.p8
     refine AE ⟨_,H⟩ (Ao U U U (fun w ⟨Ar,H⟩=>AH U U) (Ao U U U (fun w ⟨Ar,H⟩=>Aj U GP U) (AO U ?_)))
     obtain ⟨A111,c112,rfl,hc113,hm114,hp115⟩:=H.fA 8 rfl
     replace H:=H.p9
     refine BE U U U FI U U H U (Nat.le_of_ble_eq_true U) (fun u hu=>by simp [Value.cells] at hu;subst hu;rfl) (fun w H=>?_)
     replace H:Hd _ _ _ [blk b67 (Bw (.slice A42 J34.us.length c43) (.slice A47 J34.map.length c48) (.slice A52 J34.comb.length c53) (.slice A57 J34.red.length c58) (.slice A62 J34.marks.length c63) J34 C.w C.t C.o p ep R.g hv b41 (.slice A111 ((us++[((.slice A105 se77.length c106:Value),se77)]).length) c112)) 185,blk b89 [.int .i64 a71,.int .i64 a72,.int .i64 a73,.int .i64 a74,.int .i64 a75,.slice A80 se77.length c81,.slice A82 pr79.length c83] 37,Y (Am Ag) (.slice A42 J34.us.length c43) J34.us,Y Af (.slice A47 J34.map.length c48) J34.map,Y Af (.slice A52 J34.comb.length c53) J34.comb,Y Af (.slice A57 J34.red.length c58) J34.red,Y (Ai .i64) (.slice A62 J34.marks.length c63) J34.marks,BN (R.g) hv,CL 253 b41 ([]),Y (Am (Ai .i64)) (.slice A111 ((us++[((.slice A105 se77.length c106:Value),se77)]).length) c112) (us++[((.slice A105 se77.length c106:Value),se77)])] [Z (Am Ag) (.slice A1 C.J.us.length c2) C.J.us,Z Af (.slice A6 C.J.map.length c7) C.J.map,Z Af (.slice A11 C.J.comb.length c12) C.J.comb,Z Af (.slice A16 C.J.red.length c17) C.J.red,Z (Ai .i64) (.slice A21 C.J.marks.length c22) C.J.marks,Z B8 (.slice A26 recs.length c27) recs]:=H
     replace H:=H.p8.p8.p8.p8.p8.p8.p8.p8
     refine AE ⟨_,H⟩ (BP (AU (Aa (Ae (V U U (AT (z:=((k+1:Nat):Int)) U U U (by rw [AC (by omega) (by omega)];omega)) (Ad U (Ac ?_)))))))
     have hpart:(Bu.p (⟨a71,a72,a73,a74,a75,.slice A80 se77.length c81,se77,.slice A82 pr79.length c83,pr79⟩:Bu)).part=R.part:=by rw [hRp];exact Classical.not_not.1 h90
     have hR2:=FC hR hx70 (Il hpart h102)
     replace H:=H.p7.p9.p8.p8.p8.p8.p8.p8.p9.k9.h7 (A:=blk b67 (Bw (.slice A42 J34.us.length c43) (.slice A47 J34.map.length c48) (.slice A52 J34.comb.length c53) (.slice A57 J34.red.length c58) (.slice A62 J34.marks.length c63) J34 C.w C.t C.o p ep (({ R with sets:=R.sets++[se77] }:AL).g) hv b41 (.slice A111 ((us++[((.slice A105 se77.length c106:Value),se77)]).length) c112)) 185) (G:=BN (({ R with sets:=R.sets++[se77] }:AL).g) hv)
     exact Bi (s:=(k,R,hv,undef,us)) (k+1,({ R with sets:=R.sets++[se77] }:AL),hv,.slice A111 ((us++[((.slice A105 se77.length c106:Value),se77)]).length) c112,us++[((.slice A105 se77.length c106:Value),se77)]) ⟨rfl,rfl,rfl,rfl,rfl,rfl,rfl,trivial⟩ ⟨H,hR2,hRp,by (try dsimp only);rw [List.map_append,hus];rfl,by (try dsimp only);omega,by (try dsimp only);rw [List.length_append];simp only [List.length_cons,List.length_nil];omega⟩ (by (try dsimp only);omega)
    refine sc (HG (.slice A80 se77.length c81) se77 (by first |assumption|omega)) H (lX (fun F hA hR=>Ja (hR _ (List.mem_of_getElem? (i:=5) U)) hx70) l0) U U (At H0 U U) ?_
    rintro v116 _ w rfl H
    replace H:=H.h1 (A:=Y (Ai .i64) v116 se77)|>.p8|>.p8|>.p8|>.p8|>.p8|>.p8|>.p8|>.p8
    refine AE ⟨_,H⟩ ?_
    refine HI U U ?_ ?_
    ·refine V U U (Ak U FI U (H.cellI 9 U U)) (AE ⟨_,H⟩ (AO U ?_))
     obtain ⟨A118,c119,rfl,hc120,hm121,hp122⟩:=H.fA 8 rfl
     refine BX (parts:=[(0,.tmp 76)]) (vs:=[.slice A118 se77.length c119]) (cs:=[.slice A118 se77.length c119]) U U U FF FL U (by decide) (by decide) U U H (fun b117 w H=>?_)
     replace H:Hd _ _ _ [blk b117 [.slice A118 se77.length c119] 24,blk b89 [.int .i64 a71,.int .i64 a72,.int .i64 a73,.int .i64 a74,.int .i64 a75,.slice A80 se77.length c81,.slice A82 pr79.length c83] 37,Y (Am Ag) (.slice A42 J34.us.length c43) J34.us,Y Af (.slice A47 J34.map.length c48) J34.map,Y Af (.slice A52 J34.comb.length c53) J34.comb,Y Af (.slice A57 J34.red.length c58) J34.red,Y (Ai .i64) (.slice A62 J34.marks.length c63) J34.marks,BN (R.g) hv,CL 253 b41 ([]),Y (Ai .i64) (.slice A118 se77.length c119) se77,blk b67 (Bw (.slice A42 J34.us.length c43) (.slice A47 J34.map.length c48) (.slice A52 J34.comb.length c53) (.slice A57 J34.red.length c58) (.slice A62 J34.marks.length c63) J34 C.w C.t C.o p ep R.g hv b41 vs) 185,Y (Am (Ai .i64)) vs us] [Z (Am Ag) (.slice A1 C.J.us.length c2) C.J.us,Z Af (.slice A6 C.J.map.length c7) C.J.map,Z Af (.slice A11 C.J.comb.length c12) C.J.comb,Z Af (.slice A16 C.J.red.length c17) C.J.red,Z (Ai .i64) (.slice A21 C.J.marks.length c22) C.J.marks,Z B8 (.slice A26 recs.length c27) recs]:=H
     replace H:=H.p8.p8.p8.p8.p8.p8.p8.p8
     refine AE ⟨_,H⟩ (AO U ?_)
     replace H:=H.pick 11 rfl|>.pick 10 rfl|>.pick 10 rfl|>.p2
     refine Ip U U U FF FL U (by decide) U U H (by first |omega|(simp only [List.length_append,List.length_cons,List.length_nil];omega)) (fun v123 w H=>?_)
     replace H:=H.h1 (A:=Y (Am (Ai .i64)) v123 (us++[((.slice A118 se77.length c119:Value),se77)]))|>.p8|>.p8|>.p8|>.p8|>.p8|>.p8|>.p8|>.p8
     refine AE ⟨_,H⟩ (Ao U U U (fun w ⟨Ar,H⟩=>AH U U) (Ao U U U (fun w ⟨Ar,H⟩=>Aj U GP U) (AO U ?_)))
     obtain ⟨A124,c125,rfl,hc126,hm127,hp128⟩:=H.fA 8 rfl
     replace H:=H.p9
     refine BE U U U FI U U H U (Nat.le_of_ble_eq_true U) (fun u hu=>by simp [Value.cells] at hu;subst hu;rfl) (fun w H=>?_)
     replace H:Hd _ _ _ [blk b67 (Bw (.slice A42 J34.us.length c43) (.slice A47 J34.map.length c48) (.slice A52 J34.comb.length c53) (.slice A57 J34.red.length c58) (.slice A62 J34.marks.length c63) J34 C.w C.t C.o p ep R.g hv b41 (.slice A124 ((us++[((.slice A118 se77.length c119:Value),se77)]).length) c125)) 185,blk b89 [.int .i64 a71,.int .i64 a72,.int .i64 a73,.int .i64 a74,.int .i64 a75,.slice A80 se77.length c81,.slice A82 pr79.length c83] 37,Y (Am Ag) (.slice A42 J34.us.length c43) J34.us,Y Af (.slice A47 J34.map.length c48) J34.map,Y Af (.slice A52 J34.comb.length c53) J34.comb,Y Af (.slice A57 J34.red.length c58) J34.red,Y (Ai .i64) (.slice A62 J34.marks.length c63) J34.marks,BN (R.g) hv,CL 253 b41 ([]),Y (Am (Ai .i64)) (.slice A124 ((us++[((.slice A118 se77.length c119:Value),se77)]).length) c125) (us++[((.slice A118 se77.length c119:Value),se77)])] [Z (Am Ag) (.slice A1 C.J.us.length c2) C.J.us,Z Af (.slice A6 C.J.map.length c7) C.J.map,Z Af (.slice A11 C.J.comb.length c12) C.J.comb,Z Af (.slice A16 C.J.red.length c17) C.J.red,Z (Ai .i64) (.slice A21 C.J.marks.length c22) C.J.marks,Z B8 (.slice A26 recs.length c27) recs]:=H
     replace H:=H.p8.p8.p8.p8.p8.p8.p8.p8
     refine AE ⟨_,H⟩ (BP (AU (Aa (Ae (V U U (AT (z:=((k+1:Nat):Int)) U U U (by rw [AC (by omega) (by omega)];omega)) (Ad U (Ac ?_)))))))
     have hpart:(Bu.p (⟨a71,a72,a73,a74,a75,.slice A80 se77.length c81,se77,.slice A82 pr79.length c83,pr79⟩:Bu)).part=R.part:=by rw [hRp];exact Classical.not_not.1 h90
     have hR2:=FC hR hx70 (Il hpart h102)
     replace H:=H.p7.p9.p8.p8.p8.p8.p8.p8.p9.k9.h7 (A:=blk b67 (Bw (.slice A42 J34.us.length c43) (.slice A47 J34.map.length c48) (.slice A52 J34.comb.length c53) (.slice A57 J34.red.length c58) (.slice A62 J34.marks.length c63) J34 C.w C.t C.o p ep (({ R with sets:=R.sets++[se77] }:AL).g) hv b41 (.slice A124 ((us++[((.slice A118 se77.length c119:Value),se77)]).length) c125)) 185) (G:=BN (({ R with sets:=R.sets++[se77] }:AL).g) hv)
     exact Bi (s:=(k,R,hv,undef,us)) (k+1,({ R with sets:=R.sets++[se77] }:AL),hv,.slice A124 ((us++[((.slice A118 se77.length c119:Value),se77)]).length) c125,us++[((.slice A118 se77.length c119:Value),se77)]) ⟨rfl,rfl,rfl,rfl,rfl,rfl,rfl,trivial⟩ ⟨H,hR2,hRp,by (try dsimp only);rw [List.map_append,hus];rfl,by (try dsimp only);omega,by (try dsimp only);rw [List.length_append];simp only [List.length_cons,List.length_nil];omega⟩ (by (try dsimp only);omega)
    obtain ⟨A130,c131,rfl,hc132,hm133,hp134⟩:=H.fA 8 rfl
    refine BX (parts:=[(0,.tmp 76)]) (vs:=[.slice A130 se77.length c131]) (cs:=[.slice A130 se77.length c131]) U U U FF FL U (by decide) (by decide) U U H (fun b129 w H=>?_)
    replace H:Hd _ _ _ [blk b129 [.slice A130 se77.length c131] 24,blk b89 [.int .i64 a71,.int .i64 a72,.int .i64 a73,.int .i64 a74,.int .i64 a75,.slice A80 se77.length c81,.slice A82 pr79.length c83] 37,Y (Am Ag) (.slice A42 J34.us.length c43) J34.us,Y Af (.slice A47 J34.map.length c48) J34.map,Y Af (.slice A52 J34.comb.length c53) J34.comb,Y Af (.slice A57 J34.red.length c58) J34.red,Y (Ai .i64) (.slice A62 J34.marks.length c63) J34.marks,BN (R.g) hv,CL 253 b41 ([]),Y (Ai .i64) (.slice A130 se77.length c131) se77,blk b67 (Bw (.slice A42 J34.us.length c43) (.slice A47 J34.map.length c48) (.slice A52 J34.comb.length c53) (.slice A57 J34.red.length c58) (.slice A62 J34.marks.length c63) J34 C.w C.t C.o p ep R.g hv b41 vs) 185,Y (Am (Ai .i64)) vs us] [Z (Am Ag) (.slice A1 C.J.us.length c2) C.J.us,Z Af (.slice A6 C.J.map.length c7) C.J.map,Z Af (.slice A11 C.J.comb.length c12) C.J.comb,Z Af (.slice A16 C.J.red.length c17) C.J.red,Z (Ai .i64) (.slice A21 C.J.marks.length c22) C.J.marks,Z B8 (.slice A26 recs.length c27) recs]:=H
    replace H:=H.p8.p8.p8.p8.p8.p8.p8.p8
    refine AE ⟨_,H⟩ (AO U (V U U (Ak U FI U (H.cellI 10 U U)) (AE ⟨_,H⟩ (AO U ?_))))
    replace H:=H.pick 11 rfl|>.pick 10 rfl|>.pick 10 rfl|>.p2
    refine Ip U U U FF FL U (by decide) U U H (by first |omega|(simp only [List.length_append,List.length_cons,List.length_nil];omega)) (fun v135 w H=>?_)
    replace H:=H.h1 (A:=Y (Am (Ai .i64)) v135 (us++[((.slice A130 se77.length c131:Value),se77)]))|>.p8|>.p8|>.p8|>.p8|>.p8|>.p8|>.p8|>.p8
    refine AE ⟨_,H⟩ (Ao U U U (fun w ⟨Ar,H⟩=>AH U U) (Ao U U U (fun w ⟨Ar,H⟩=>Aj U GP U) (AO U ?_)))
    obtain ⟨A136,c137,rfl,hc138,hm139,hp140⟩:=H.fA 8 rfl
    replace H:=H.p9
    refine BE U U U FI U U H U (Nat.le_of_ble_eq_true U) (fun u hu=>by simp [Value.cells] at hu;subst hu;rfl) (fun w H=>?_)
    replace H:Hd _ _ _ [blk b67 (Bw (.slice A42 J34.us.length c43) (.slice A47 J34.map.length c48) (.slice A52 J34.comb.length c53) (.slice A57 J34.red.length c58) (.slice A62 J34.marks.length c63) J34 C.w C.t C.o p ep R.g hv b41 (.slice A136 ((us++[((.slice A130 se77.length c131:Value),se77)]).length) c137)) 185,blk b89 [.int .i64 a71,.int .i64 a72,.int .i64 a73,.int .i64 a74,.int .i64 a75,.slice A80 se77.length c81,.slice A82 pr79.length c83] 37,Y (Am Ag) (.slice A42 J34.us.length c43) J34.us,Y Af (.slice A47 J34.map.length c48) J34.map,Y Af (.slice A52 J34.comb.length c53) J34.comb,Y Af (.slice A57 J34.red.length c58) J34.red,Y (Ai .i64) (.slice A62 J34.marks.length c63) J34.marks,BN (R.g) hv,CL 253 b41 ([]),Y (Am (Ai .i64)) (.slice A136 ((us++[((.slice A130 se77.length c131:Value),se77)]).length) c137) (us++[((.slice A130 se77.length c131:Value),se77)])] [Z (Am Ag) (.slice A1 C.J.us.length c2) C.J.us,Z Af (.slice A6 C.J.map.length c7) C.J.map,Z Af (.slice A11 C.J.comb.length c12) C.J.comb,Z Af (.slice A16 C.J.red.length c17) C.J.red,Z (Ai .i64) (.slice A21 C.J.marks.length c22) C.J.marks,Z B8 (.slice A26 recs.length c27) recs]:=H
    replace H:=H.p8.p8.p8.p8.p8.p8.p8.p8
    refine AE ⟨_,H⟩ (BP (AU (Aa (Ae (V U U (AT (z:=((k+1:Nat):Int)) U U U (by rw [AC (by omega) (by omega)];omega)) (Ad U (Ac ?_)))))))
    have hpart:(Bu.p (⟨a71,a72,a73,a74,a75,.slice A80 se77.length c81,se77,.slice A82 pr79.length c83,pr79⟩:Bu)).part=R.part:=by rw [hRp];exact Classical.not_not.1 h90
    have hR2:=FC hR hx70 (Il hpart h102)
    replace H:=H.p7.p9.p8.p8.p8.p8.p8.p8.p9.k9.h7 (A:=blk b67 (Bw (.slice A42 J34.us.length c43) (.slice A47 J34.map.length c48) (.slice A52 J34.comb.length c53) (.slice A57 J34.red.length c58) (.slice A62 J34.marks.length c63) J34 C.w C.t C.o p ep (({ R with sets:=R.sets++[se77] }:AL).g) hv b41 (.slice A136 ((us++[((.slice A130 se77.length c131:Value),se77)]).length) c137)) 185) (G:=BN (({ R with sets:=R.sets++[se77] }:AL).g) hv)
    exact Bi (s:=(k,R,hv,undef,us)) (k+1,({ R with sets:=R.sets++[se77] }:AL),hv,.slice A136 ((us++[((.slice A130 se77.length c131:Value),se77)]).length) c137,us++[((.slice A130 se77.length c131:Value),se77)]) ⟨rfl,rfl,rfl,rfl,rfl,rfl,rfl,trivial⟩ ⟨H,hR2,hRp,by (try dsimp only);rw [List.map_append,hus];rfl,by (try dsimp only);omega,by (try dsimp only);rw [List.length_append];simp only [List.length_cons,List.length_nil];omega⟩ (by (try dsimp only);omega)
   refine Av (AU (Aa (Ae (V U U (AT (z:=((k+1:Nat):Int)) U U U (by rw [AC (by omega) (by omega)];omega)) (Ad U (Ac ?_))))))
   have hpart:(Bu.p (⟨a71,a72,a73,a74,a75,.slice A80 se77.length c81,se77,.slice A82 pr79.length c83,pr79⟩:Bu)).part=R.part:=by rw [hRp];exact Classical.not_not.1 h90
   have hR2:=FC hR hx70 (KA hpart (fun h=>h92 h.1) h102)
   replace H:=H.p9.p9.p9.p9.p9.p9.p9.p9.p9.k9
   exact Bi (s:=(k,R,hv,undef,us)) (k+1,R,hv,vs,us) ⟨rfl,rfl,rfl,rfl,rfl,rfl,rfl,trivial⟩ ⟨H,hR2,hRp,by (try dsimp only);exact hus,by (try dsimp only);omega,by (try dsimp only);omega⟩ (by (try dsimp only);omega)
  refine Ae (Ad U (V U U (Aj U OF U) (V U U (Ak U AB U (H.cellI 0 U U)) (sc (R6 b67 A42 J34.us.length c43 (.slice A47 J34.map.length c48) (.slice A52 J34.comb.length c53) (.slice A57 J34.red.length c58) (.slice A62 J34.marks.length c63) J34 C.w C.t C.o p ep R.g hv b41 vs a73 (by first |assumption|omega)) H (lA 1 U (fun _ h=>h) l0) U U (At Pf U U) ?_))))
  rintro _ _ w ⟨rfl,rfl⟩ H
  refine Ad U (Ac (Aa (Ab (Ae (V U U (Aj U GQ U) (V U U (Ak U AB U (H.cellI 0 U U)) (V U U (Bb U U U) (Ad U ?_))))))))
  refine AK (d:=46) U (fun h141=>?_) (fun h141=>?_)
  ·refine Ad U (V U U (Kx U RB U U) (Ah 8 U (Ac (Aa (B7 U (Av (Aa (Ab (Ae (V U U (Aj U GQ U) (V U U (Ak U AB U (H.cellI 0 U U)) (V U U (Bb U U U) (Ac (Aa ?_))))))))))))))
   refine Ax U (fun h142=>?_) (fun h142=>?_)
   ·exfalso;omega
   refine Av (AU (Aa (Ae (V U U (AT (z:=((k+1:Nat):Int)) U U U (by rw [AC (by omega) (by omega)];omega)) (Ad U (Ac ?_))))))
   have hpart:(Bu.p (⟨a71,a72,a73,a74,a75,.slice A80 se77.length c81,se77,.slice A82 pr79.length c83,pr79⟩:Bu)).part=R.part:=by rw [hRp];exact Classical.not_not.1 h90
   have hR2:=FC hR hx70 (KA hpart (fun h=>hin91 h.2.1) h142)
   replace H:=H.p9.p9.p9.p9.p9.p9.p9.p9.p9.k9
   exact Bi (s:=(k,R,hv,undef,us)) (k+1,R,hv,vs,us) ⟨rfl,rfl,rfl,rfl,rfl,rfl,rfl,trivial⟩ ⟨H,hR2,hRp,by (try dsimp only);exact hus,by (try dsimp only);omega,by (try dsimp only);omega⟩ (by (try dsimp only);omega)
  refine Ah 10 U (Ac (Aa (B7 U (Av (Aa (Ab (Ae (V U U (Aj U GQ U) (V U U (Ak U AB U (H.cellI 0 U U)) (V U U (Bb U U U) (Ac (Aa ?_))))))))))))
  refine Ax U (fun h143=>?_) (fun h143=>?_)
  ·replace H:=H.p9.p8.p8.p8.p8.p8.p8.p7
   refine BY (.e 0 (.e 1 (.e 2 (.e 3 (.e 5 (.e 6 (.b 4 7 (.m 7 (.m 8 (.m 9 (.e 10 (.e 11 (.m 12 .z)))))) (.b 4 8 (.m 8 (.m 9 (.e 10 (.e 11 (.m 12 .z))))) (.m 4 (.m 9 (.e 10 (.e 11 (.m 12 .z))))))))))))) (fun w=>∃ Ar,Hd w0 F0 w (blk b89 [.int .i64 a71,.int .i64 a72,.int .i64 a73,.int .i64 a74,.int .i64 a75,.slice A80 se77.length c81,.slice A82 pr79.length c83] 37::Y (Am Ag) (.slice A42 J34.us.length c43) J34.us::Y Af (.slice A47 J34.map.length c48) J34.map::Y Af (.slice A52 J34.comb.length c53) J34.comb::Y Af (.slice A57 J34.red.length c58) J34.red::Y (Ai .i64) (.slice A62 J34.marks.length c63) J34.marks::BN (R.g) hv::CL 253 b41 ([])::Ar) [Z (Am Ag) (.slice A1 C.J.us.length c2) C.J.us,Z Af (.slice A6 C.J.map.length c7) C.J.map,Z Af (.slice A11 C.J.comb.length c12) C.J.comb,Z Af (.slice A16 C.J.red.length c17) C.J.red,Z (Ai .i64) (.slice A21 C.J.marks.length c22) C.J.marks,Z B8 (.slice A26 recs.length c27) recs]) mo (by kernel_rfl) (fun w H=>⟨_,H⟩) H (fun w H=>?_)
   refine Au U (Au U (Ao U U U (fun w ⟨Ar,H⟩=>AH U U) (Ao U U U (fun w ⟨Ar,H⟩=>Aj U GP U) (Ao U U U (fun w ⟨Ar,H⟩=>Aj U OG U) (Ao U U U (fun w ⟨Ar,H⟩=>Ak U E5 U (H.cellI 0 U U)) ?_)))))
   refine HI U U ?_ ?_
   ·refine V U U (Ak U FI U (H.cellI 8 U U)) (AE ⟨_,H⟩ (AO U (sc (HG (.slice A80 se77.length c81) se77 (by first |assumption|omega)) H (lX (fun F hA hR=>Ja (hR _ (List.mem_of_getElem? (i:=5) U)) hx70) l0) U U (At H0 U U) ?_)))
    rintro v144 _ w rfl H
    replace H:=H.h1 (A:=Y (Ai .i64) v144 se77)|>.p8|>.p8|>.p8|>.p8|>.p8|>.p8|>.p8|>.p8
    refine AE ⟨_,H⟩ (AO U ?_)
    obtain ⟨A146,c147,rfl,hc148,hm149,hp150⟩:=H.fA 8 rfl
    refine BX (parts:=[(0,.tmp 76)]) (vs:=[.slice A146 se77.length c147]) (cs:=[.slice A146 se77.length c147]) U U U FF FL U (by decide) (by decide) U U H (fun b145 w H=>?_)
    replace H:Hd _ _ _ [blk b145 [.slice A146 se77.length c147] 24,blk b89 [.int .i64 a71,.int .i64 a72,.int .i64 a73,.int .i64 a74,.int .i64 a75,.slice A80 se77.length c81,.slice A82 pr79.length c83] 37,Y (Am Ag) (.slice A42 J34.us.length c43) J34.us,Y Af (.slice A47 J34.map.length c48) J34.map,Y Af (.slice A52 J34.comb.length c53) J34.comb,Y Af (.slice A57 J34.red.length c58) J34.red,Y (Ai .i64) (.slice A62 J34.marks.length c63) J34.marks,BN (R.g) hv,CL 253 b41 ([]),Y (Ai .i64) (.slice A146 se77.length c147) se77,blk b67 (Bw (.slice A42 J34.us.length c43) (.slice A47 J34.map.length c48) (.slice A52 J34.comb.length c53) (.slice A57 J34.red.length c58) (.slice A62 J34.marks.length c63) J34 C.w C.t C.o p ep R.g hv b41 vs) 185,Y (Am (Ai .i64)) vs us] [Z (Am Ag) (.slice A1 C.J.us.length c2) C.J.us,Z Af (.slice A6 C.J.map.length c7) C.J.map,Z Af (.slice A11 C.J.comb.length c12) C.J.comb,Z Af (.slice A16 C.J.red.length c17) C.J.red,Z (Ai .i64) (.slice A21 C.J.marks.length c22) C.J.marks,Z B8 (.slice A26 recs.length c27) recs]:=H
    replace H:=H.p8.p8.p8.p8.p8.p8.p8.p8
    refine AE ⟨_,H⟩ (AO U ?_)
    replace H:=H.pick 11 rfl|>.pick 10 rfl|>.pick 10 rfl|>.p2
    refine Ip U U U FF FL U (by decide) U U H (by first |omega|(simp only [List.length_append,List.length_cons,List.length_nil];omega)) (fun v151 w H=>?_)
    replace H:=H.h1 (A:=Y (Am (Ai .i64)) v151 (us++[((.slice A146 se77.length c147:Value),se77)]))|>.p8|>.p8|>.p8|>.p8|>.p8|>.p8|>.p8|>.p8
    refine AE ⟨_,H⟩ (Ao U U U (fun w ⟨Ar,H⟩=>AH U U) (Ao U U U (fun w ⟨Ar,H⟩=>Aj U GP U) (AO U ?_)))
    obtain ⟨A152,c153,rfl,hc154,hm155,hp156⟩:=H.fA 8 rfl
    replace H:=H.p9
    refine BE U U U FI U U H U (Nat.le_of_ble_eq_true U) (fun u hu=>by simp [Value.cells] at hu;subst hu;rfl) (fun w H=>?_)
    replace H:Hd _ _ _ [blk b67 (Bw (.slice A42 J34.us.length c43) (.slice A47 J34.map.length c48) (.slice A52 J34.comb.length c53) (.slice A57 J34.red.length c58) (.slice A62 J34.marks.length c63) J34 C.w C.t C.o p ep R.g hv b41 (.slice A152 ((us++[((.slice A146 se77.length c147:Value),se77)]).length) c153)) 185,blk b89 [.int .i64 a71,.int .i64 a72,.int .i64 a73,.int .i64 a74,.int .i64 a75,.slice A80 se77.length c81,.slice A82 pr79.length c83] 37,Y (Am Ag) (.slice A42 J34.us.length c43) J34.us,Y Af (.slice A47 J34.map.length c48) J34.map,Y Af (.slice A52 J34.comb.length c53) J34.comb,Y Af (.slice A57 J34.red.length c58) J34.red,Y (Ai .i64) (.slice A62 J34.marks.length c63) J34.marks,BN (R.g) hv,CL 253 b41 ([]),Y (Am (Ai .i64)) (.slice A152 ((us++[((.slice A146 se77.length c147:Value),se77)]).length) c153) (us++[((.slice A146 se77.length c147:Value),se77)])] [Z (Am Ag) (.slice A1 C.J.us.length c2) C.J.us,Z Af (.slice A6 C.J.map.length c7) C.J.map,Z Af (.slice A11 C.J.comb.length c12) C.J.comb,Z Af (.slice A16 C.J.red.length c17) C.J.red,Z (Ai .i64) (.slice A21 C.J.marks.length c22) C.J.marks,Z B8 (.slice A26 recs.length c27) recs]:=H
    replace H:=H.p8.p8.p8.p8.p8.p8.p8.p8
    refine AE ⟨_,H⟩ (BP (AU (Aa (Ae (V U U (AT (z:=((k+1:Nat):Int)) U U U (by rw [AC (by omega) (by omega)];omega)) (Ad U (Ac ?_)))))))
    have hpart:(Bu.p (⟨a71,a72,a73,a74,a75,.slice A80 se77.length c81,se77,.slice A82 pr79.length c83,pr79⟩:Bu)).part=R.part:=by rw [hRp];exact Classical.not_not.1 h90
    have hR2:=FC hR hx70 (Il hpart h143)
    replace H:=H.p7.p9.p8.p8.p8.p8.p8.p8.p9.k9.h7 (A:=blk b67 (Bw (.slice A42 J34.us.length c43) (.slice A47 J34.map.length c48) (.slice A52 J34.comb.length c53) (.slice A57 J34.red.length c58) (.slice A62 J34.marks.length c63) J34 C.w C.t C.o p ep (({ R with sets:=R.sets++[se77] }:AL).g) hv b41 (.slice A152 ((us++[((.slice A146 se77.length c147:Value),se77)]).length) c153)) 185) (G:=BN (({ R with sets:=R.sets++[se77] }:AL).g) hv)
    exact Bi (s:=(k,R,hv,undef,us)) (k+1,({ R with sets:=R.sets++[se77] }:AL),hv,.slice A152 ((us++[((.slice A146 se77.length c147:Value),se77)]).length) c153,us++[((.slice A146 se77.length c147:Value),se77)]) ⟨rfl,rfl,rfl,rfl,rfl,rfl,rfl,trivial⟩ ⟨H,hR2,hRp,by (try dsimp only);rw [List.map_append,hus];rfl,by (try dsimp only);omega,by (try dsimp only);rw [List.length_append];simp only [List.length_cons,List.length_nil];omega⟩ (by (try dsimp only);omega)
   refine sc (HG (.slice A80 se77.length c81) se77 (by first |assumption|omega)) H (lX (fun F hA hR=>Ja (hR _ (List.mem_of_getElem? (i:=5) U)) hx70) l0) U U (At H0 U U) ?_
   rintro v157 _ w rfl H
   replace H:=H.h1 (A:=Y (Ai .i64) v157 se77)|>.p8|>.p8|>.p8|>.p8|>.p8|>.p8|>.p8|>.p8
   refine AE ⟨_,H⟩ ?_
   refine HI U U ?_ ?_
   ·refine V U U (Ak U FI U (H.cellI 9 U U)) (AE ⟨_,H⟩ (AO U ?_))
    obtain ⟨A159,c160,rfl,hc161,hm162,hp163⟩:=H.fA 8 rfl
    refine BX (parts:=[(0,.tmp 76)]) (vs:=[.slice A159 se77.length c160]) (cs:=[.slice A159 se77.length c160]) U U U FF FL U (by decide) (by decide) U U H (fun b158 w H=>?_)
    replace H:Hd _ _ _ [blk b158 [.slice A159 se77.length c160] 24,blk b89 [.int .i64 a71,.int .i64 a72,.int .i64 a73,.int .i64 a74,.int .i64 a75,.slice A80 se77.length c81,.slice A82 pr79.length c83] 37,Y (Am Ag) (.slice A42 J34.us.length c43) J34.us,Y Af (.slice A47 J34.map.length c48) J34.map,Y Af (.slice A52 J34.comb.length c53) J34.comb,Y Af (.slice A57 J34.red.length c58) J34.red,Y (Ai .i64) (.slice A62 J34.marks.length c63) J34.marks,BN (R.g) hv,CL 253 b41 ([]),Y (Ai .i64) (.slice A159 se77.length c160) se77,blk b67 (Bw (.slice A42 J34.us.length c43) (.slice A47 J34.map.length c48) (.slice A52 J34.comb.length c53) (.slice A57 J34.red.length c58) (.slice A62 J34.marks.length c63) J34 C.w C.t C.o p ep R.g hv b41 vs) 185,Y (Am (Ai .i64)) vs us] [Z (Am Ag) (.slice A1 C.J.us.length c2) C.J.us,Z Af (.slice A6 C.J.map.length c7) C.J.map,Z Af (.slice A11 C.J.comb.length c12) C.J.comb,Z Af (.slice A16 C.J.red.length c17) C.J.red,Z (Ai .i64) (.slice A21 C.J.marks.length c22) C.J.marks,Z B8 (.slice A26 recs.length c27) recs]:=H
    replace H:=H.p8.p8.p8.p8.p8.p8.p8.p8
    refine AE ⟨_,H⟩ (AO U ?_)
    replace H:=H.pick 11 rfl|>.pick 10 rfl|>.pick 10 rfl|>.p2
    refine Ip U U U FF FL U (by decide) U U H (by first |omega|(simp only [List.length_append,List.length_cons,List.length_nil];omega)) (fun v164 w H=>?_)
    replace H:=H.h1 (A:=Y (Am (Ai .i64)) v164 (us++[((.slice A159 se77.length c160:Value),se77)]))|>.p8|>.p8|>.p8|>.p8|>.p8|>.p8|>.p8|>.p8
    refine AE ⟨_,H⟩ (Ao U U U (fun w ⟨Ar,H⟩=>AH U U) (Ao U U U (fun w ⟨Ar,H⟩=>Aj U GP U) (AO U ?_)))
    obtain ⟨A165,c166,rfl,hc167,hm168,hp169⟩:=H.fA 8 rfl
    replace H:=H.p9
    refine BE U U U FI U U H U (Nat.le_of_ble_eq_true U) (fun u hu=>by simp [Value.cells] at hu;subst hu;rfl) (fun w H=>?_)
    replace H:Hd _ _ _ [blk b67 (Bw (.slice A42 J34.us.length c43) (.slice A47 J34.map.length c48) (.slice A52 J34.comb.length c53) (.slice A57 J34.red.length c58) (.slice A62 J34.marks.length c63) J34 C.w C.t C.o p ep R.g hv b41 (.slice A165 ((us++[((.slice A159 se77.length c160:Value),se77)]).length) c166)) 185,blk b89 [.int .i64 a71,.int .i64 a72,.int .i64 a73,.int .i64 a74,.int .i64 a75,.slice A80 se77.length c81,.slice A82 pr79.length c83] 37,Y (Am Ag) (.slice A42 J34.us.length c43) J34.us,Y Af (.slice A47 J34.map.length c48) J34.map,Y Af (.slice A52 J34.comb.length c53) J34.comb,Y Af (.slice A57 J34.red.length c58) J34.red,Y (Ai .i64) (.slice A62 J34.marks.length c63) J34.marks,BN (R.g) hv,CL 253 b41 ([]),Y (Am (Ai .i64)) (.slice A165 ((us++[((.slice A159 se77.length c160:Value),se77)]).length) c166) (us++[((.slice A159 se77.length c160:Value),se77)])] [Z (Am Ag) (.slice A1 C.J.us.length c2) C.J.us,Z Af (.slice A6 C.J.map.length c7) C.J.map,Z Af (.slice A11 C.J.comb.length c12) C.J.comb,Z Af (.slice A16 C.J.red.length c17) C.J.red,Z (Ai .i64) (.slice A21 C.J.marks.length c22) C.J.marks,Z B8 (.slice A26 recs.length c27) recs]:=H
    replace H:=H.p8.p8.p8.p8.p8.p8.p8.p8
    refine AE ⟨_,H⟩ (BP (AU (Aa (Ae (V U U (AT (z:=((k+1:Nat):Int)) U U U (by rw [AC (by omega) (by omega)];omega)) (Ad U (Ac ?_)))))))
    have hpart:(Bu.p (⟨a71,a72,a73,a74,a75,.slice A80 se77.length c81,se77,.slice A82 pr79.length c83,pr79⟩:Bu)).part=R.part:=by rw [hRp];exact Classical.not_not.1 h90
    have hR2:=FC hR hx70 (Il hpart h143)
    replace H:=H.p7.p9.p8.p8.p8.p8.p8.p8.p9.k9.h7 (A:=blk b67 (Bw (.slice A42 J34.us.length c43) (.slice A47 J34.map.length c48) (.slice A52 J34.comb.length c53) (.slice A57 J34.red.length c58) (.slice A62 J34.marks.length c63) J34 C.w C.t C.o p ep (({ R with sets:=R.sets++[se77] }:AL).g) hv b41 (.slice A165 ((us++[((.slice A159 se77.length c160:Value),se77)]).length) c166)) 185) (G:=BN (({ R with sets:=R.sets++[se77] }:AL).g) hv)
    exact Bi (s:=(k,R,hv,undef,us)) (k+1,({ R with sets:=R.sets++[se77] }:AL),hv,.slice A165 ((us++[((.slice A159 se77.length c160:Value),se77)]).length) c166,us++[((.slice A159 se77.length c160:Value),se77)]) ⟨rfl,rfl,rfl,rfl,rfl,rfl,rfl,trivial⟩ ⟨H,hR2,hRp,by (try dsimp only);rw [List.map_append,hus];rfl,by (try dsimp only);omega,by (try dsimp only);rw [List.length_append];simp only [List.length_cons,List.length_nil];omega⟩ (by (try dsimp only);omega)
   obtain ⟨A171,c172,rfl,hc173,hm174,hp175⟩:=H.fA 8 rfl
   refine BX (parts:=[(0,.tmp 76)]) (vs:=[.slice A171 se77.length c172]) (cs:=[.slice A171 se77.length c172]) U U U FF FL U (by decide) (by decide) U U H (fun b170 w H=>?_)
   replace H:Hd _ _ _ [blk b170 [.slice A171 se77.length c172] 24,blk b89 [.int .i64 a71,.int .i64 a72,.int .i64 a73,.int .i64 a74,.int .i64 a75,.slice A80 se77.length c81,.slice A82 pr79.length c83] 37,Y (Am Ag) (.slice A42 J34.us.length c43) J34.us,Y Af (.slice A47 J34.map.length c48) J34.map,Y Af (.slice A52 J34.comb.length c53) J34.comb,Y Af (.slice A57 J34.red.length c58) J34.red,Y (Ai .i64) (.slice A62 J34.marks.length c63) J34.marks,BN (R.g) hv,CL 253 b41 ([]),Y (Ai .i64) (.slice A171 se77.length c172) se77,blk b67 (Bw (.slice A42 J34.us.length c43) (.slice A47 J34.map.length c48) (.slice A52 J34.comb.length c53) (.slice A57 J34.red.length c58) (.slice A62 J34.marks.length c63) J34 C.w C.t C.o p ep R.g hv b41 vs) 185,Y (Am (Ai .i64)) vs us] [Z (Am Ag) (.slice A1 C.J.us.length c2) C.J.us,Z Af (.slice A6 C.J.map.length c7) C.J.map,Z Af (.slice A11 C.J.comb.length c12) C.J.comb,Z Af (.slice A16 C.J.red.length c17) C.J.red,Z (Ai .i64) (.slice A21 C.J.marks.length c22) C.J.marks,Z B8 (.slice A26 recs.length c27) recs]:=H
   replace H:=H.p8.p8.p8.p8.p8.p8.p8.p8
   refine AE ⟨_,H⟩ (AO U (V U U (Ak U FI U (H.cellI 10 U U)) (AE ⟨_,H⟩ (AO U ?_))))
   replace H:=H.pick 11 rfl|>.pick 10 rfl|>.pick 10 rfl|>.p2
   refine Ip U U U FF FL U (by decide) U U H (by first |omega|(simp only [List.length_append,List.length_cons,List.length_nil];omega)) (fun v176 w H=>?_)
   replace H:=H.h1 (A:=Y (Am (Ai .i64)) v176 (us++[((.slice A171 se77.length c172:Value),se77)]))|>.p8|>.p8|>.p8|>.p8|>.p8|>.p8|>.p8|>.p8
   refine AE ⟨_,H⟩ (Ao U U U (fun w ⟨Ar,H⟩=>AH U U) (Ao U U U (fun w ⟨Ar,H⟩=>Aj U GP U) (AO U ?_)))
   obtain ⟨A177,c178,rfl,hc179,hm180,hp181⟩:=H.fA 8 rfl
   replace H:=H.p9
   refine BE U U U FI U U H U (Nat.le_of_ble_eq_true U) (fun u hu=>by simp [Value.cells] at hu;subst hu;rfl) (fun w H=>?_)
   replace H:Hd _ _ _ [blk b67 (Bw (.slice A42 J34.us.length c43) (.slice A47 J34.map.length c48) (.slice A52 J34.comb.length c53) (.slice A57 J34.red.length c58) (.slice A62 J34.marks.length c63) J34 C.w C.t C.o p ep R.g hv b41 (.slice A177 ((us++[((.slice A171 se77.length c172:Value),se77)]).length) c178)) 185,blk b89 [.int .i64 a71,.int .i64 a72,.int .i64 a73,.int .i64 a74,.int .i64 a75,.slice A80 se77.length c81,.slice A82 pr79.length c83] 37,Y (Am Ag) (.slice A42 J34.us.length c43) J34.us,Y Af (.slice A47 J34.map.length c48) J34.map,Y Af (.slice A52 J34.comb.length c53) J34.comb,Y Af (.slice A57 J34.red.length c58) J34.red,Y (Ai .i64) (.slice A62 J34.marks.length c63) J34.marks,BN (R.g) hv,CL 253 b41 ([]),Y (Am (Ai .i64)) (.slice A177 ((us++[((.slice A171 se77.length c172:Value),se77)]).length) c178) (us++[((.slice A171 se77.length c172:Value),se77)])] [Z (Am Ag) (.slice A1 C.J.us.length c2) C.J.us,Z Af (.slice A6 C.J.map.length c7) C.J.map,Z Af (.slice A11 C.J.comb.length c12) C.J.comb,Z Af (.slice A16 C.J.red.length c17) C.J.red,Z (Ai .i64) (.slice A21 C.J.marks.length c22) C.J.marks,Z B8 (.slice A26 recs.length c27) recs]:=H
   replace H:=H.p8.p8.p8.p8.p8.p8.p8.p8
   refine AE ⟨_,H⟩ (BP (AU (Aa (Ae (V U U (AT (z:=((k+1:Nat):Int)) U U U (by rw [AC (by omega) (by omega)];omega)) (Ad U (Ac ?_)))))))
   have hpart:(Bu.p (⟨a71,a72,a73,a74,a75,.slice A80 se77.length c81,se77,.slice A82 pr79.length c83,pr79⟩:Bu)).part=R.part:=by rw [hRp];exact Classical.not_not.1 h90
   have hR2:=FC hR hx70 (Il hpart h143)
   replace H:=H.p7.p9.p8.p8.p8.p8.p8.p8.p9.k9.h7 (A:=blk b67 (Bw (.slice A42 J34.us.length c43) (.slice A47 J34.map.length c48) (.slice A52 J34.comb.length c53) (.slice A57 J34.red.length c58) (.slice A62 J34.marks.length c63) J34 C.w C.t C.o p ep (({ R with sets:=R.sets++[se77] }:AL).g) hv b41 (.slice A177 ((us++[((.slice A171 se77.length c172:Value),se77)]).length) c178)) 185) (G:=BN (({ R with sets:=R.sets++[se77] }:AL).g) hv)
   exact Bi (s:=(k,R,hv,undef,us)) (k+1,({ R with sets:=R.sets++[se77] }:AL),hv,.slice A177 ((us++[((.slice A171 se77.length c172:Value),se77)]).length) c178,us++[((.slice A171 se77.length c172:Value),se77)]) ⟨rfl,rfl,rfl,rfl,rfl,rfl,rfl,trivial⟩ ⟨H,hR2,hRp,by (try dsimp only);rw [List.map_append,hus];rfl,by (try dsimp only);omega,by (try dsimp only);rw [List.length_append];simp only [List.length_cons,List.length_nil];omega⟩ (by (try dsimp only);omega)
  refine Av (AU (Aa (Ae (V U U (AT (z:=((k+1:Nat):Int)) U U U (by rw [AC (by omega) (by omega)];omega)) (Ad U (Ac ?_))))))
  have hpart:(Bu.p (⟨a71,a72,a73,a74,a75,.slice A80 se77.length c81,se77,.slice A82 pr79.length c83,pr79⟩:Bu)).part=R.part:=by rw [hRp];exact Classical.not_not.1 h90
  have hR2:=FC hR hx70 (KA hpart (fun h=>h141 h.1) h143)
  replace H:=H.p9.p9.p9.p9.p9.p9.p9.p9.p9.k9
  exact Bi (s:=(k,R,hv,undef,us)) (k+1,R,hv,vs,us) ⟨rfl,rfl,rfl,rfl,rfl,rfl,rfl,trivial⟩ ⟨H,hR2,hRp,by (try dsimp only);exact hus,by (try dsimp only);omega,by (try dsimp only);omega⟩ (by (try dsimp only);omega)
 refine BC (AM (AM (BD (Aa (Ab (Ae (Ah 3 U (Ac (Aa (An (Cl U U U ?_)))))))))))
 have hkk:R=CJ J34.us.length p ep (recs.map Bu.p):=by rw [hR,List.take_of_length_le (by omega)]
 clear hR
 subst hkk
 replace H:=H.h8 (A:=blk b67 (Bw (.slice A42 J34.us.length c43) (.slice A47 J34.map.length c48) (.slice A52 J34.comb.length c53) (.slice A57 J34.red.length c58) (.slice A62 J34.marks.length c63) J34 C.w C.t C.o p ep ((CJ J34.us.length p ep (recs.map Bu.p)).g) hv b41 vs) 185) (G:=BN ((CJ J34.us.length p ep (recs.map Bu.p)).g) hv) (I:=Y (Am (Ai .i64)) vs us)
 exact Al ⟨b67,(.slice A42 J34.us.length c43),(.slice A47 J34.map.length c48),(.slice A52 J34.comb.length c53),(.slice A57 J34.red.length c58),(.slice A62 J34.marks.length c63),J34,hv,b41,vs,us,rfl,rfl,hsj,hus⟩ H
section
variable {w:World} {F:AJ}
theorem Yf {v:Value} {us:List Bu} (h:(Z Gb v (us.map Gj)).P w F) (hu:∀ r∈us,(Z (Ai .i64) r.sv r.set).P w F∧(Z Ag r.pv r.pairs).P w F):(Z B8 v us).P w F:=by
 obtain ⟨A,m,c,e,h1,h2,h3,cs,h4,h5⟩:=h
 refine ⟨A,m,c,e,by simpa using h1,h2,h3,cs,h4,?_⟩
 have hcs:cs=(us.map Gj).flatMap GO:=AW.flat_eq.1 h5
 subst hcs
 clear h5 h4 h1 e
 induction us with
 |nil=>rfl
 |cons r us ih=>
  obtain ⟨g1,g2⟩:=hu r (List.mem_cons_self ..)
  obtain ⟨A1,c1,e1,_⟩:=DZ g1
  obtain ⟨A2,c2,e2,_⟩:=DZ g2
  refine ⟨GO (Gj r),(us.map Gj).flatMap GO,rfl,⟨?_,g1,g2⟩,ih fun q hq=>hu q (List.mem_cons_of_mem _ hq)⟩
  simp [Hi,GO,Gj,FA,e1,e2]
def P8:Value:=.slice none 0 0
end
theorem Bf.out {A B:AD} (h:Bf A B) (D:AV) (R:AL):DI D A R=DI D B R:=by
 unfold DI Mm
 rw [h.len,h.red,h.fuel]
theorem W7 {P:Program} {t j i:TypeId}
  (hs:Gi P t=some [(j,0,9),(i,9,1),(i,10,1),(i,11,1)]) (hc:P.cellsOf t=12) (hi:P.underlying i=some (.int .i64))
  {H:Type} (enc:TypeId×Value→H) (w:World) (fuel:Nat) (cs:List Value) (x:DataW H×List MemPlace) (h:DataW.trod enc P w 0 (fun _=>true) true fuel t cs=some x):
  ∃ (js:List Value) (m:Nat) (y:DataW H×List MemPlace) (n1 n2 n3:Int),cs=js++[.int .i64 n1,.int .i64 n2,.int .i64 n3]∧DataW.trod enc P w 0 (fun _=>true) true m j js=some y∧js.length=9∧(AA n1∧AA n2∧AA n3):=by
 obtain ⟨hl,n,hf⟩:=Kq hs h
 rw [hc] at hl
 match cs,hl with
 |[c0,c1,c2,c3,c4,c5,c6,c7,c8,c9,c10,c11],_=>
  obtain ⟨y0,g0⟩:=hf 0 _ _ _ rfl
  obtain ⟨y1,g1⟩:=hf 1 _ _ _ rfl
  obtain ⟨y2,g2⟩:=hf 2 _ _ _ rfl
  obtain ⟨y3,g3⟩:=hf 3 _ _ _ rfl
  obtain ⟨a1,r1,w1⟩:=Fl hi enc w n _ _ g1
  obtain ⟨a2,r2,w2⟩:=Fl hi enc w n _ _ g2
  obtain ⟨a3,r3,w3⟩:=Fl hi enc w n _ _ g3
  have q1:[c9]=[Value.int .i64 a1]:=r1
  have q2:[c10]=[Value.int .i64 a2]:=r2
  have q3:[c11]=[Value.int .i64 a3]:=r3
  simp only [List.cons.injEq,and_true] at q1 q2 q3
  subst q1 q2 q3
  exact ⟨[c0,c1,c2,c3,c4,c5,c6,c7,c8],n,y0,a1,a2,a3,rfl,g0,rfl,w1,w2,w3⟩
theorem Y3 (v1 v2:Value) (xs ys:List Int):
    Cn Tryz.prog 33 [v1,v2] [] [Z (Ai .i64) v1 xs,Z (Ai .i64) v2 ys] (fun v Bs=>v=.bool (decide (xs=ys))∧Bs=[]):=by
 intro w0 F0 H
 obtain ⟨A1,c2,rfl,hc3,hm4,hp5⟩:=H.fR 0 rfl
 obtain ⟨A6,c7,rfl,hc8,hm9,hp10⟩:=H.fR 1 rfl
 refine enter Tryz.func33 U U (Nat.le_of_ble_eq_true U) (Ab (Ae (Ad U (Ac (Aa ?_)))))
 replace H:Hd _ _ _ [] [Z (Ai .i64) (.slice A1 xs.length c2) xs,Z (Ai .i64) (.slice A6 ys.length c7) ys]:=H
 refine Ab (Ab (Ae (Ad U (V U U (A8 U Ea U) (Ad U (V U U (A8 U Ea U) (V U U (CX U U U) (Ac (Aa ?_)))))))))
 refine Ax U (fun h11=>?_) (fun h11=>?_)
 ·refine Ab (Ae (Ad U (Ac (Aa (An (Az (Aq U U ?_)))))))
  have e:¬ xs=ys:=fun e=>h11 (by rw [e])
  exact Al ⟨by rw [decide_eq_false e]<;>rfl,rfl⟩ H
 refine Av (Aa (Ab (Ab (Ae (Ad U (Ac (Aa (AS ?_))))))))
 have hle:xs.length=ys.length:=by omega
 refine BQ (σ:=Nat) (fun k=>[(0,.slice A1 xs.length c2),(1,.slice A6 ys.length c7),(5,.int .i64 ((k:Nat):Int))]) (fun k w=>(Hd w0 F0 w [] [Z (Ai .i64) (.slice A1 xs.length c2) xs,Z (Ai .i64) (.slice A6 ys.length c7) ys])∧(k≤xs.length)∧(xs.length=ys.length)∧(xs.take k=ys.take k)) (fun k=>xs.length - k) 0 ⟨rfl,rfl,rfl,trivial⟩ ⟨H,by omega,hle,rfl⟩ ?_
 rintro k w ⟨H,hk,hle,ht⟩
 refine Ab (Ab (Ae (Ah 2 U (V U U (A8 U Ea U) (V U U (Bd U U U) (Ac (Aa ?_)))))))
 refine Ax U (fun h12=>?_) (fun h12=>?_)
 ·refine Av (Aa (Ab (AS (Ab (Gp mo (by kernel_rfl) H (Jt 2 U ?_))))))
  obtain ⟨x13,hx14⟩:∃ z9,xs[k]?=some z9:=⟨_,List.getElem?_eq_getElem (show k<xs.length by omega)⟩
  have th15:=H.thR 0 rfl hx14
  refine By U U (fun w H=>AZ (p:=AP A1+k*1) U Dx U U (by omega) (by omega) th15 U) (By U U (fun w H=>Ak U AB U (H.elR 0 U hx14 (q:=0) U U)) (Jt 2 U ?_))
  obtain ⟨x16,hx17⟩:∃ z9,ys[k]?=some z9:=⟨_,List.getElem?_eq_getElem (show k<ys.length by omega)⟩
  have th18:=H.thR 1 rfl hx17
  refine By U U (fun w H=>AZ (p:=AP A6+k*1) U Dx U U (by omega) (by omega) th18 U) (By U U (fun w H=>Ak U AB U (H.elR 1 U hx17 (q:=0) U U)) (By U U (fun w H=>CX U U U) (GF (fun w H=>(Aa ?_)))))
  refine Ax U (fun h19=>?_) (fun h19=>?_)
  ·refine Ab (Ae (Ad U (Ac (Aa (An (A0 (Az (Az (A0 (Az (Aq U U ?_)))))))))))
   have e:¬ xs=ys:=fun e=>h19 (by rw [e,hx17] at hx14;exact (Option.some.inj hx14).symm)
   exact Al ⟨by rw [decide_eq_false e]<;>rfl,rfl⟩ H
  refine Av (AU (Aa (Ae (Ad U (V U U (AT (z:=((k+1:Nat):Int)) U U U (by rw [AC (by omega) (by omega)];omega)) (Ad U (Ac ?_)))))))
  have e:x13=x16:=Classical.not_not.1 h19
  subst e
  exact Bi (s:=k) (k+1) ⟨rfl,rfl,rfl,trivial⟩ ⟨H,by omega,hle,Rm hx14 hx17 ht⟩ (by (try dsimp only);omega)
 refine BC (AM (AM (BD (Aa (Ab (Ae (Ad U (Ac (Aa (An (Aq U U ?_)))))))))))
 have e:xs=ys:=by rw [←GD (xs:=xs) (k:=k) (by omega),←GD (xs:=ys) (k:=k) (by omega)];exact ht
 exact Al ⟨by rw [decide_eq_true e]<;>rfl,rfl⟩ H
theorem Ma (x:Int) (n:Int) (hx:AA x) (h0:0<n) (hn:n≤9223372036854775807):
    Cn Tryz.prog 22 [.int .i64 x,.int .i64 n] [] [] (fun v Bs=>v=.int .i64 (IntKind.u64.wrap x%n)∧Bs=[]):=by
 intro w0 F0 H
 exact enter Tryz.func22 U U (Nat.le_of_ble_eq_true U) (Ab (Ae (Ad U (Ac (Aa (Ab (Ae (Ad U (V U U (DK (z:=IntKind.u64.wrap x) U U Dr E7 U) (Ad U (V U U (DK (z:=n) U U Dr E7 (Fs (by omega) (by omega))) (V U U (Ky (z:=(IntKind.u64.wrap x)%n) U U U (by omega) (Int.tmod_eq_emod_of_nonneg (a_ x).1)) (V U U (DK (z:=(IntKind.u64.wrap x)%n) U U E7 Dr (AC (by have:=Int.emod_nonneg (IntKind.u64.wrap x) (show n≠0 by omega);omega) (by have:=Int.emod_lt_of_pos (IntKind.u64.wrap x) h0;omega))) (Ad U (Ac (Aa (An (Aq U U (Al ⟨rfl,rfl⟩ H)))))))))))))))))))
section
variable {w0 w:World} {F F0:AJ} {As Rs:List SP} {v:Value} {us:List Bu}
end
structure FM (α:Type) where
 sz:Nat
 enc:α→Value→Value→List Value
 len:∀ a s p,(enc a s p).length=sz
 one:∀ a s p,∀ c∈enc a s p,c=s∨c=p∨c.oneCell'=true
 pos:0<sz
structure A_ (α:Type) where
 h:α
 sv:Value
 set:List Int
 pv:Value
 pairs:List Ap
structure D2 (α:Type) where
 h:α
 hs:EF
 hp:EF
section
variable {α:Type}
def FM.e (S:FM α) (x:A_ α):List Value:=S.enc x.h x.sv x.pv
def FM.f (S:FM α) (x:D2 α):List Value:=S.enc x.h (.slice x.hs.A x.hs.n x.hs.c) (.slice x.hp.A x.hp.n x.hp.c)
def D7 (S:FM α):Kd (A_ α) where
 sz:=S.sz
 O w F x cs:=cs=S.e x∧∃ F1 F2:AJ,(∀ k,F1 k→F k)∧(∀ k,F2 k→F k)∧(∀ k,F1 k→¬ F2 k)∧(Bg (Ai .i64)).O w F1 x.set [x.sv]∧(Bg Ag).O w F2 x.pairs [x.pv]
 R w F x cs:=cs=S.e x∧(Bg (Ai .i64)).R w F x.set [x.sv]∧(Bg Ag).R w F x.pairs [x.pv]
 O_loc:=fun ⟨e,F1,F2,s1,s2,dj,h1,h2⟩ hk=>⟨e,F1,F2,s1,s2,dj,(Bg _).O_loc h1 (fun k x=>hk k (s1 k x)),(Bg _).O_loc h2 (fun k x=>hk k (s2 k x))⟩
 O_mono:=fun ⟨e,F1,F2,s1,s2,dj,h1,h2⟩ hk=>⟨e,F1,F2,fun k x=>hk k (s1 k x),fun k x=>hk k (s2 k x),dj,h1,h2⟩
 R_loc:=fun ⟨e,h1,h2⟩ hk=>⟨e,(Bg _).R_loc h1 hk,(Bg _).R_loc h2 hk⟩
 R_mono:=fun ⟨e,h1,h2⟩ hk=>⟨e,(Bg _).R_mono h1 hk,(Bg _).R_mono h2 hk⟩
 O_R:=fun ⟨e,F1,F2,s1,s2,dj,h1,h2⟩=>⟨e,(Bg _).R_mono ((Bg _).O_R h1) s1,(Bg _).R_mono ((Bg _).O_R h2) s2⟩
 len h:=by rw [h.1];exact S.len _ _ _
 one:=fun ⟨e,h1,h2⟩ c hc=>by
  have g1:=(Bg _).one h1
  have g2:=(Bg _).one h2
  subst e
  rcases S.one _ _ _ c hc with rfl|rfl|h
  ·exact g1 _ (List.mem_cons_self ..)
  ·exact g2 _ (List.mem_cons_self ..)
  ·exact h
 pos:=S.pos
def HZ (S:FM α):Kd (D2 α):=flat S.f S.sz S.pos (fun x=>S.len _ _ _) (fun x c hc=>by
 rcases S.one _ _ _ c hc with rfl|rfl|h
 ·rfl
 ·rfl
 ·exact h)
def AY (r:A_ α):D2 α:=⟨r.h,FA r.sv,FA r.pv⟩
variable {S:FM α} {w w0:World} {F F0:AJ} {As Rs:List SP} {A:Option Addr} {m c:Nat}
theorem G7 {us:List (A_ α)} (h:(Z (D7 S) (.slice A m c) us).P w F) {i:Nat} {x:A_ α} (hx:us[i]?=some x):
  Fb A∧(∀ q u,(S.e x)[q]?=some u→w.cell? ⟨DW A,AP A+i*S.sz+q,none⟩=some u)∧(Z (Ai .i64) x.sv x.set).P w F∧(Z Ag x.pv x.pairs).P w F:=by
 obtain ⟨b,off,cs,e,hl,hc,h1,h2,h3⟩:=Jb h hx
 subst h1 e
 exact ⟨rfl,hc,h2,h3⟩
theorem KS {us:List (A_ α)} (h:(Z (D7 S) (.slice A m c) us).P w F) {i:Nat} {a:α} {sv pv:Value} {set:List Int} {pairs:List Ap} (hx:us[i]?=some ⟨a,sv,set,pv,pairs⟩):(Z (Ai .i64) sv set).P w F:=(G7 h hx).2.2.1
theorem KR {us:List (A_ α)} (h:(Z (D7 S) (.slice A m c) us).P w F) {i:Nat} {a:α} {sv pv:Value} {set:List Int} {pairs:List Ap} (hx:us[i]?=some ⟨a,sv,set,pv,pairs⟩):(Z Ag pv pairs).P w F:=(G7 h hx).2.2.2
theorem Hd.thRt {us:List (A_ α)} (H:Hd w0 F0 w As Rs) (j:Nat) (hj:Rs[j]?=some (Z (D7 S) (.slice A m c) us)) {i:Nat} {x:A_ α} (hx:us[i]?=some x):Fb A:=H.factR (List.mem_of_getElem? hj) fun _ h=>(G7 h hx).1
theorem Hd.thAt {us:List (A_ α)} (H:Hd w0 F0 w As Rs) (j:Nat) (hj:As[j]?=some (Y (D7 S) (.slice A m c) us)) {i:Nat} {x:A_ α} (hx:us[i]?=some x):Fb A:=H.fact (List.mem_of_getElem? hj) fun F h=>(G7 (BJ F h) hx).1
theorem Hd.elRt {us:List (A_ α)} (H:Hd w0 F0 w As Rs) (j:Nat) (hj:Rs[j]?=some (Z (D7 S) (.slice A m c) us)) {i:Nat} {x:A_ α} (hx:us[i]?=some x) {q p:Nat} {u:Value} (hu:(S.e x)[q]?=some u) (hp:AP A+i*S.sz+q=p):w.cell? ⟨DW A,p,none⟩=some u:=by
 subst hp
 exact H.factR (List.mem_of_getElem? hj) fun _ h=>(G7 h hx).2.1 q u hu
theorem Hd.elAt {us:List (A_ α)} (H:Hd w0 F0 w As Rs) (j:Nat) (hj:As[j]?=some (Y (D7 S) (.slice A m c) us)) {i:Nat} {x:A_ α} (hx:us[i]?=some x) {q p:Nat} {u:Value} (hu:(S.e x)[q]?=some u) (hp:AP A+i*S.sz+q=p):w.cell? ⟨DW A,p,none⟩=some u:=by
 subst hp
 exact H.fact (List.mem_of_getElem? hj) fun F h=>(G7 (BJ F h) hx).2.1 q u hu
theorem Ql {l cs:List Value} {d n q:Nat} {v:Value} (h:(l.drop d).take n=cs) (hq:cs[q]?=some v):l[d+q]?=some v:=by
 subst h
 rw [List.getElem?_take] at hq
 split at hq
 ·rwa [List.getElem?_drop] at hq
 ·cases hq
theorem Hd.elsRt {us:List (A_ α)} (H:Hd w0 F0 w As Rs) (j:Nat) (hj:Rs[j]?=some (Z (D7 S) (.slice A m c) us)) {i:Nat} {x:A_ α} (hx:us[i]?=some x) {p:Nat} (d n:Nat) {cs:List Value} (hc:((S.e x).drop d).take n=cs) (hpj:AP A+i*S.sz+d=p):∀ q v,cs[q]?=some v→w.cell? ((⟨DW A,p,none⟩:Addr).add q)=some v:=by
 intro q v hq
 rw [Ek,←hpj,Nat.add_assoc]
 exact H.factR (List.mem_of_getElem? hj) fun F h=>(G7 h hx).2.1 _ v (Ql hc hq)
theorem Hd.elsAt {us:List (A_ α)} (H:Hd w0 F0 w As Rs) (j:Nat) (hj:As[j]?=some (Y (D7 S) (.slice A m c) us)) {i:Nat} {x:A_ α} (hx:us[i]?=some x) {p:Nat} (d n:Nat) {cs:List Value} (hc:((S.e x).drop d).take n=cs) (hpj:AP A+i*S.sz+d=p):∀ q v,cs[q]?=some v→w.cell? ((⟨DW A,p,none⟩:Addr).add q)=some v:=by
 intro q v hq
 rw [Ek,←hpj,Nat.add_assoc]
 exact H.fact (List.mem_of_getElem? hj) fun F h=>(G7 (BJ F h) hx).2.1 _ v (Ql hc hq)
theorem Hd.nestRt {us:List (A_ α)} (H:Hd w0 F0 w As Rs) (j:Nat) (hj:Rs[j]?=some (Z (D7 S) (.slice A m c) us)) {i:Nat} {a:α} {sv pv:Value} {set:List Int} {pairs:List Ap} (hx:us[i]?=some ⟨a,sv,set,pv,pairs⟩):
  ∃ A1 c1 A2 c2,sv=.slice A1 set.length c1∧pv=.slice A2 pairs.length c2∧set.length≤c1∧c1≤9223372036854775807∧pairs.length≤c2∧c2≤9223372036854775807:=by
 refine H.factR (List.mem_of_getElem? hj) fun _ h=>?_
 obtain ⟨A1,c1,e1,g1,g2,_⟩:=DZ (KS h hx)
 obtain ⟨A2,c2,e2,g3,g4,_⟩:=DZ (KR h hx)
 exact ⟨A1,c1,A2,c2,e1,e2,g1,g2,g3,g4⟩
theorem Hd.nestAt {us:List (A_ α)} (H:Hd w0 F0 w As Rs) (j:Nat) (hj:As[j]?=some (Y (D7 S) (.slice A m c) us)) {i:Nat} {a:α} {sv pv:Value} {set:List Int} {pairs:List Ap} (hx:us[i]?=some ⟨a,sv,set,pv,pairs⟩):
  ∃ A1 c1 A2 c2,sv=.slice A1 set.length c1∧pv=.slice A2 pairs.length c2∧set.length≤c1∧c1≤9223372036854775807∧pairs.length≤c2∧c2≤9223372036854775807:=by
 refine H.fact (List.mem_of_getElem? hj) fun F h=>?_
 obtain ⟨A1,c1,e1,g1,g2,_⟩:=DZ (KS (BJ F h) hx)
 obtain ⟨A2,c2,e2,g3,g4,_⟩:=DZ (KR (BJ F h) hx)
 exact ⟨A1,c1,A2,c2,e1,e2,g1,g2,g3,g4⟩
/-! ### Held: the cells in one row, the slices apart -/
theorem Ru {r:A_ α} {A1 A2:Option Addr} {n1 c1 n2 c2:Nat} (e1:r.sv=.slice A1 n1 c1) (e2:r.pv=.slice A2 n2 c2):S.e r=S.f (AY r):=by
 simp [FM.e,FM.f,AY,FA,e1,e2]
theorem ZP {v:Value} {us:List (A_ α)} (h:(Z (HZ S) v (us.map AY)).P w F) (hu:∀ r∈us,(Z (Ai .i64) r.sv r.set).P w F∧(Z Ag r.pv r.pairs).P w F):(Z (D7 S) v us).P w F:=by
 obtain ⟨A,m,c,e,h1,h2,h3,cs,h4,h5⟩:=h
 refine ⟨A,m,c,e,by simpa using h1,h2,h3,cs,h4,?_⟩
 have hcs:cs=(us.map AY).flatMap S.f:=AW.flat_eq.1 h5
 subst hcs
 clear h5 h4 h1 e
 induction us with
 |nil=>rfl
 |cons r us ih=>
  obtain ⟨g1,g2⟩:=hu r (List.mem_cons_self ..)
  obtain ⟨A1,c1,e1,_⟩:=DZ g1
  obtain ⟨A2,c2,e2,_⟩:=DZ g2
  exact ⟨S.f (AY r),(us.map AY).flatMap S.f,rfl,⟨(Ru e1 e2).symm,g1,g2⟩,ih fun q hq=>hu q (List.mem_cons_of_mem _ hq)⟩
def EC (r:A_ α):SP:=B5 [Y (Ai .i64) r.sv r.set,Y Ag r.pv r.pairs]
def Br (us:List (A_ α)):SP:=Bt EC us
theorem Rr {r:A_ α} (h:(EC r).P w F):S.e r=S.f (AY r):=by
 obtain ⟨F1,F2,_,_,_,a,F3,F4,_,_,_,b,_⟩:=h
 obtain ⟨A1,c1,e1,_⟩:=DZ (BJ _ a)
 obtain ⟨A2,c2,e2,_⟩:=DZ (BJ _ b)
 exact Ru e1 e2
theorem ZN {r:A_ α} (h:(EC r).P w F):(D7 S).O w F r (S.f (AY r)):=by
 have e:=Rr (S:=S) h
 obtain ⟨F1,F2,h1,h2,h3,a,F3,F4,g1,g2,g3,b,_⟩:=h
 exact ⟨e.symm,F1,F3,h1,fun k hk=>h2 k (g1 k hk),fun k hk hk2=>h3 k hk (g1 k hk2),a,b⟩
theorem ZO {r:A_ α} {cs:List Value} (h:(D7 S).O w F r cs):(EC r).P w F∧cs=S.e r:=by
 obtain ⟨e,F1,F2,h1,h2,h3,a,b⟩:=h
 exact ⟨⟨F1,F2,h1,h2,h3,a,F2,none_,fun _ q=>q,fun _ q=>q.elim,fun _ _ q=>q,b,trivial⟩,e⟩
theorem QZ:∀ {us:List (A_ α)} {F:AJ},(Br us).P w F→CI (D7 S) w F us ((us.map AY).flatMap S.f)
 |[],_,_=>rfl
 |u::us,F,⟨F1,F2,h1,h2,h3,a,s⟩=>⟨F1,F2,S.f (AY u),(us.map AY).flatMap S.f,h1,h2,h3,rfl,ZN a,QZ (us:=us) s⟩
variable {v:Value} {us:List (A_ α)}
theorem Hd.twI (H:Hd w0 F0 w (Y (HZ S) v (us.map AY)::Br us::As) Rs):Hd w0 F0 w (Y (D7 S) v us::As) Rs:=by
 refine H.turn2 fun F1 F2 hd h1 h2=>?_
 obtain ⟨A,n,c,e,hl,cs,G1,G2,s1,s2,dj,row,reps⟩:=h1
 have hcs:cs=(us.map AY).flatMap S.f:=AW.flat_eq.1 reps.toR
 subst hcs
 exact ⟨A,n,c,e,by simpa using hl,_,G1,F2,fun k hk=>.inl (s1 k hk),fun k hk=>.inr hk,fun k hk hg=>hd k (s1 k hk) hg,row,QZ h2⟩
theorem Q0:∀ {us:List (A_ α)} {F:AJ} {cs:List Value},CI (D7 S) w F us cs→(Br us).P w F∧cs=(us.map AY).flatMap S.f
 |[],_,_,h=>⟨trivial,h⟩
 |u::us,F,cs,⟨F1,F2,c,cs',h1,h2,h3,e,a,s⟩=>by
  obtain ⟨g1,g2⟩:=Q0 s
  obtain ⟨b1,b2⟩:=ZO a
  refine ⟨⟨F1,F2,h1,h2,h3,b1,g1⟩,?_⟩
  rw [e,b2,g2,Rr b1];rfl
theorem Hd.twO (H:Hd w0 F0 w (Y (D7 S) v us::As) Rs):Hd w0 F0 w (Y (HZ S) v (us.map AY)::Br us::As) Rs:=by
 have:Hd w0 F0 w ([Y (HZ S) v (us.map AY),Br us]++As) Rs:=H.open_ fun F h=>by
  obtain ⟨A,n,c,e,hl,cs,G1,G2,s1,s2,dj,row,reps⟩:=h
  obtain ⟨g1,rfl⟩:=Q0 reps
  exact ⟨G1,G2,s1,s2,dj,⟨A,n,c,e,by simpa using hl,_,G1,none_,fun _ h=>h,fun _ h=>h.elim,fun _ _ h=>h,row,CI.flatR (F:=none_) (AW.flat_eq.2 U)⟩,G2,none_,fun _ h=>h,fun _ h=>h.elim,fun _ _ h=>h,g1,trivial⟩
 exact this
theorem Hd.twN {r:A_ α} (H:Hd w0 F0 w (Y (Ai .i64) r.sv r.set::Y Ag r.pv r.pairs::Br us::As) Rs):Hd w0 F0 w (Br (us++[r])::As) Rs:=
 Hd.bigN (f:=EC) (x:=r) (Hd.stI (Bs:=[Y (Ai .i64) r.sv r.set,Y Ag r.pv r.pairs]) H)
theorem Hd.tw0 (H:Hd w0 F0 w As Rs):Hd w0 F0 w (Br ([]:List (A_ α))::As) Rs:=H.big0 EC
end
/-! ### Messages, letters, acts, snapshots -/
structure CH where
 kind:Int
 sp:Int
 att:Int
 part:Int
 seq:Int
 next:Int
 ep:Int
 why:Int
def Rh:FM CH where
 sz:=10
 enc m s p:=[.int .i64 m.kind,.int .i64 m.sp,.int .i64 m.att,.int .i64 m.part,.int .i64 m.seq,.int .i64 m.next,.int .i64 m.ep,.int .i64 m.why,s,p]
 len _ _ _:=rfl
 one _ _ _ c h:=by
  simp only [List.mem_cons,List.not_mem_nil,or_false] at h
  rcases h with rfl|rfl|rfl|rfl|rfl|rfl|rfl|rfl|rfl|rfl<;>first |exact .inr (.inr rfl)|exact .inl rfl|exact .inr (.inl rfl)
 pos:=by omega
structure bE where
 won:Bool
 m:CH
 n:Int
structure bF where
 hear:Bool
 fr:Int
 m:CH
structure BM where
 fr:Int
 to:Int
 m:CH
def Rg:FM BM where
 sz:=12
 enc a s p:=[.int .i64 a.fr,.int .i64 a.to,.int .i64 a.m.kind,.int .i64 a.m.sp,.int .i64 a.m.att,.int .i64 a.m.part,.int .i64 a.m.seq,.int .i64 a.m.next,.int .i64 a.m.ep,.int .i64 a.m.why,s,p]
 len _ _ _:=rfl
 one _ _ _ c h:=by
  simp only [List.mem_cons,List.not_mem_nil,or_false] at h
  rcases h with rfl|rfl|rfl|rfl|rfl|rfl|rfl|rfl|rfl|rfl|rfl|rfl<;>first |exact .inr (.inr rfl)|exact .inl rfl|exact .inr (.inl rfl)
 pos:=by omega
abbrev J1:=D7 Rh
abbrev DG:=HZ Rh
abbrev BZ:=D7 Rg
abbrev B0:=HZ Rg
def CH.p (m:CH) (set:List Int) (ps:List Ap):Dt:=⟨m.kind,m.sp,m.att,m.part,m.seq,m.next,m.ep,m.why,set,ps⟩
def FS (x:A_ CH):Dt:=x.h.p x.set x.pairs
theorem FB {a b:Dt}:a=b↔a.kind=b.kind∧a.sp=b.sp∧a.att=b.att∧a.part=b.part∧a.seq=b.seq∧a.next=b.next∧a.ep=b.ep∧a.why=b.why∧a.set=b.set∧a.pairs=b.pairs:=by
 constructor
 ·rintro rfl;exact ⟨rfl,rfl,rfl,rfl,rfl,rfl,rfl,rfl,rfl,rfl⟩
 ·rintro ⟨h1,h2,h3,h4,h5,h6,h7,h8,h9,h10⟩
  cases a;cases b
  simp only at h1 h2 h3 h4 h5 h6 h7 h8 h9 h10
  subst h1 h2 h3 h4 h5 h6 h7 h8 h9 h10
  rfl
instance msgD (a b:Dt):Decidable (a=b):=decidable_of_iff _ FB.symm
/-! ### How they come in -/
section
variable {P:Program} {t:TypeId}
end
/-! ### A result in cells, and another one -/
section
variable {P:Program} {fn:Func} {R:Ending→World→Prop} {n:Nat} {l:BF} {w:World} {t:TypeId} {a:Act}
end
def Ht (st:DV):Prop:=∀ a b,(D0 st a b).length≤40∧∀ x∈D0 st a b,x.length≤8
structure Cv (n:Nat) (R:AL):Prop where
 pairs:∀ i,(R.g i).pairs.length≤1000
 st:Ht R.st
 sets:R.sets.length≤n
 setl:∀ s∈R.sets,s.length≤1000
theorem Cv.mono {n m:Nat} {R:AL} (h:Cv n R) (hm:n≤m):Cv m R:=⟨h.pairs,h.st,Nat.le_trans h.sets hm,h.setl⟩
theorem TK {l:List (List Ap)} {n m:Nat} (h1:l.length≤n) (h2:∀ x∈l,x.length≤m):l.flatten.length≤n*m:=by
 have:∀ l:List (List Ap),(∀ x∈l,x.length≤m)→l.flatten.length≤l.length*m:=by
  intro l
  induction l with
  |nil=>intro _;simp
  |cons x l ih=>
   intro h
   have h3:=ih fun y hy=>h y (List.mem_cons_of_mem _ hy)
   have h4:=h x (List.mem_cons_self ..)
   rw [List.flatten_cons,List.length_append,List.length_cons,Nat.succ_mul]
   omega
 exact Nat.le_trans (this l h2) (Nat.mul_le_mul_right _ h1)
theorem Cv.flat {n:Nat} {R:AL} (h:Cv n R) (a b:Int):(D0 R.st a b).flatten.length≤320:=TK (h.st a b).1 (h.st a b).2
theorem Rf (c a b:Int):∀ st:DV,D0 (Jf st c) a b=if a=c then [] else D0 st a b
 |[]=>by unfold Jf;simp [D0]
 |e::s=>by
  have ih:=Rf c a b s
  unfold Jf at ih ⊢
  by_cases h:e.1.1=c
  ·rw [List.filter_cons_of_neg (by simpa using h),ih]
   by_cases h2:a=c
   ·rw [if_pos h2,if_pos h2]
   ·rw [if_neg h2,if_neg h2]
    exact (if_neg (fun h3=>h2 (h3.1.symm.trans h))).symm
  ·rw [List.filter_cons_of_pos (p:=fun e:(Int×Int)×List (List Ap)=>decide (e.1.1≠c)) (decide_eq_true h)]
   show (if e.1.1=a∧e.1.2=b then e.2 else D0 (List.filter _ s) a b)=if a=c then [] else (if e.1.1=a∧e.1.2=b then e.2 else D0 s a b)
   rw [ih]
   by_cases h2:a=c
   ·rw [if_pos h2,if_pos h2,if_neg fun h3=>h (h3.1.trans h2)]
   ·rw [if_neg h2,if_neg h2]
theorem Re (c d a b:Int) (x:List Ap):∀ st:DV,D0 (Je st c d x) a b=if c=a∧d=b then D0 st a b++[x] else D0 st a b
 |[]=>by
  show (if c=a∧d=b then [x] else D0 [] a b)=_
  split<;>rfl
 |e::s=>by
  have ih:=Re c d a b x s
  show D0 (if e.1.1=c∧e.1.2=d then (e.1,e.2++[x])::s else e::Je s c d x) a b=if c=a∧d=b then (if e.1.1=a∧e.1.2=b then e.2 else D0 s a b)++[x] else (if e.1.1=a∧e.1.2=b then e.2 else D0 s a b)
  by_cases h:e.1.1=c∧e.1.2=d
  ·rw [if_pos h]
   show (if e.1.1=a∧e.1.2=b then e.2++[x] else D0 s a b)=_
   by_cases h2:c=a∧d=b
   ·have h3:e.1.1=a∧e.1.2=b:=⟨h.1.trans h2.1,h.2.trans h2.2⟩
    rw [if_pos h2,if_pos h3,if_pos h3]
   ·have h3:¬ (e.1.1=a∧e.1.2=b):=fun h4=>h2 ⟨h.1.symm.trans h4.1,h.2.symm.trans h4.2⟩
    rw [if_neg h2,if_neg h3,if_neg h3]
  ·rw [if_neg h]
   show (if e.1.1=a∧e.1.2=b then e.2 else D0 (Je s c d x) a b)=_
   rw [ih]
   by_cases h2:c=a∧d=b
   ·have h3:¬ (e.1.1=a∧e.1.2=b):=fun h4=>h ⟨h4.1.trans h2.1.symm,h4.2.trans h2.2.symm⟩
    rw [if_pos h2,if_neg h3,if_neg h3,if_pos h2]
   ·rw [if_neg h2,if_neg h2]
theorem Ht.drop {st:DV} (h:Ht st) (c:Int):Ht (Jf st c):=by
 intro a b
 rw [Rf]
 split
 ·exact ⟨by simp,fun x hx=>by cases hx⟩
 ·exact h a b
theorem Ht.put {st:DV} (h:Ht st) {a b q:Int} {x:List Ap} (hx:x.length≤8):Ht (KL st a b q x):=by
 unfold KL
 split
 ·rename_i hm
  intro c d
  rw [Re]
  split
  ·rename_i e
   obtain ⟨rfl,rfl⟩:=e
   have h1:=hm.1
   have h2:=hm.2.2.2
   unfold KK at h1
   refine ⟨by rw [List.length_append,List.length_singleton];omega,fun y hy=>?_⟩
   rcases List.mem_append.1 hy with hy|hy
   ·exact (h _ _).2 y hy
   ·rw [List.mem_singleton.1 hy];exact hx
  ·exact h c d
 ·exact h
theorem Cv.looks {n:Nat} {J:AD} {R:AL} (h:Cv n R) (h6:J.us.length≤6) (k:Nat):Cv (n+1) (Kg J R k).1:=by
 have hg:∀ ps:List Ap,ps.length≤40→∀ i,((B3 R.g k { R.g k with merged:=true,pairs:=ps }:Nat→Di) i).pairs.length≤1000:=fun ps hps i=>by
  by_cases e:i=k
  ·subst e
   rw [GA]
   show ps.length≤1000
   omega
  ·rw [Gz _ _ e]
   exact h.pairs i
 have h':Cv (n+1) R:=h.mono (Nat.le_succ n)
 unfold Kg
 split
 ·exact h'
 ·split
  ·exact h'
  ·split
   ·exact h'
   ·rename_i hl
    dsimp only
    split
    ·refine ⟨hg _ (by omega),h.st.drop _,by show (R.sets++[_]).length≤n+1;rw [List.length_append,List.length_singleton];have:=h.sets;omega,fun s hs=>?_⟩
     rcases List.mem_append.1 hs with hs|hs
     ·exact h.setl s hs
     ·rw [List.mem_singleton.1 hs]
      exact Nat.le_trans (PW _ _) (by omega)
    ·exact ⟨hg _ (by omega),h.st.drop _,Nat.le_succ_of_le h.sets,h.setl⟩
theorem Cv.push {n:Nat} {J:AD} {R:AL} (h:Cv n R) (h6:J.us.length≤6) (m:Dt):Cv (n+1) (Qx J R m).1:=by
 unfold Qx
 split
 ·exact h.mono (Nat.le_succ n)
 ·show Cv (n+1) (I4 J R m).1
  unfold I4
  split
  ·rename_i ht
   exact Cv.looks (R:={ R with st:=KL R.st m.sp m.att m.seq m.pairs }) ⟨h.pairs,h.st.put ht.2.1,h.sets,h.setl⟩ h6 _
  ·exact h.mono (Nat.le_succ n)
theorem Cv.won {n:Nat} {J:AD} {t:Int} {R:AL} (h:Cv n R) (h6:J.us.length≤6) (sp att cnt:Int):Cv (n+1) (RP J t R sp att cnt).1:=by
 unfold RP
 split
 ·exact h.mono (Nat.le_succ n)
 ·refine Cv.looks (R:={ R with g:=B3 R.g sp.toNat { R.g sp.toNat with told:=true,att:=att,cnt:=cnt } }) ⟨fun i=>?_,h.st,h.sets,h.setl⟩ h6 _
  show ((B3 R.g sp.toNat { R.g sp.toNat with told:=true,att:=att,cnt:=cnt }:Nat→Di) i).pairs.length≤1000
  by_cases e:i=sp.toNat
  ·subst e;rw [GA];exact h.pairs _
  ·rw [Gz _ _ e];exact h.pairs i
theorem WH (n:Nat) (p ep:Int) (rs:List DF):(CJ n p ep rs).sets.length≤rs.length:=by
 have key:∀ rs:List DF,(CJ n p ep rs.reverse).sets.length≤rs.length:=by
  intro rs
  induction rs with
  |nil=>simp [CJ,GY]
  |cons x rs ih=>
   rw [List.reverse_cons,P4,List.length_cons]
   have hx:∀ R:AL,(Dq n R x).sets.length≤R.sets.length+1:=by
    intro R
    unfold Dq
    dsimp only
    split
    ·omega
    ·split<;>split<;>simp
   have:=hx (CJ n p ep rs.reverse)
   omega
 have:=key rs.reverse
 rwa [List.reverse_reverse,List.length_reverse] at this
theorem WF (n:Nat) (p ep:Int) (b:Nat) (rs:List DF) (h:∀ r∈rs,r.set.length≤b):∀ s∈(CJ n p ep rs).sets,s.length≤b:=by
 have key:∀ (rs:List DF) (R:AL),(∀ r∈rs,r.set.length≤b)→(∀ s∈R.sets,s.length≤b)→∀ s∈(rs.foldl (Dq n) R).sets,s.length≤b:=by
  intro rs
  induction rs with
  |nil=>intro R _ h;exact h
  |cons x rs ih=>
   intro R hr hR
   refine ih (Dq n R x) (fun r hq=>hr r (List.mem_cons_of_mem _ hq)) ?_
   have hx:=hr x (List.mem_cons_self ..)
   have hc:∀ R1:AL,R1.sets=R.sets→∀ s∈(if x.kind=5 then ({ R1 with sets:=R1.sets++[x.set] }:AL) else R1).sets,s.length≤b:=by
    intro R1 e s hs
    split at hs
    ·rcases List.mem_append.1 hs with hs|hs
     ·rw [e] at hs;exact hR s hs
     ·rw [List.mem_singleton.1 hs];exact hx
    ·rw [e] at hs;exact hR s hs
   unfold Dq
   dsimp only
   split
   ·exact hR
   ·refine hc _ ?_
    split<;>rfl
 exact key rs (GY p ep) h fun s hs=>by cases hs
theorem Cv.new {n:Nat} {p ep:Int} {rs:List DF} (h:∀ r∈rs,r.pairs.length≤1000∧r.set.length≤1000):Cv rs.length (CJ n p ep rs):=⟨WA fun r hr=>(h r hr).1,by rw [(I0 n p ep rs).2.2];exact fun a b=>⟨by simp [D0],fun x hx=>by cases hx⟩,WH n p ep rs,WF n p ep 1000 rs fun r hr=>(h r hr).2⟩
section
variable {J:AD} {R R1:AL} {k:Nat} {n:Int} {ps:List Ap}
end
/-! ### Once -/
/-! ### Records -/
structure bJ (n:Nat) (R N:AL):Prop where
 part:N.part=R.part
 g:∀ s,s<n→(N.g s).merged=(R.g s).merged∧(N.g s).pairs=(R.g s).pairs
 sets:N.sets=R.sets
theorem Uo {D:AV} {J:AD} {R:AL} (h:(DI D J R).2.2=true):AG D J R=⟨8,0,0,R.part,0,0,R.ep,(DI D J R).2.1,[],[]⟩:=if_pos h
theorem O1 {D:AV} {J:AD} {R:AL} (h:¬ (DI D J R).2.2=true):AG D J R=⟨6,0,0,R.part,0,0,R.ep,0,CT J.us.length R,[]⟩:=if_neg h
/-! ### Six slices in a row -/
section
variable {α:Type} {J:AD} {rs:List Bu} {acts:List (A_ α)} {most:Int}
end
/-! ### Lists of structs held against one another -/
theorem Zd {a b:Nj}:a=b↔a.why=b.why∧a.set=b.set∧a.pairs=b.pairs:=by
 constructor
 ·rintro rfl;exact ⟨rfl,rfl,rfl⟩
 ·rintro ⟨h1,h2,h3⟩
  cases a;cases b
  simp only at h1 h2 h3
  subst h1 h2 h3
  rfl
instance snapPD (a b:Nj):Decidable (a=b):=decidable_of_iff _ Zd.symm
theorem Wf {α β γ:Type} {f:α→γ} {g:β→γ} {a:List α} {b:List β} {k:Nat} {x:α} {y:β} (hx:a[k]?=some x) (hy:b[k]?=some y) (e:f x=g y) (h:(a.take k).map f=(b.take k).map g):(a.take (k+1)).map f=(b.take (k+1)).map g:=by
 rw [Eo hx,Eo hy,List.map_append,List.map_append,h]
 simp [e]
theorem Mg {α β γ:Type} {f:α→γ} {g:β→γ} {a:List α} {b:List β} {k:Nat} {x:α} {y:β} (hx:a[k]?=some x) (hy:b[k]?=some y) (e:a.map f=b.map g):f x=g y:=by
 have h:=congrArg (·[k]?) e
 simp only [List.getElem?_map,hx,hy,Option.map_some] at h
 exact Option.some.inj h
/-! ### A small configuration -/
def DA:List Ap:=[⟨⟨#[98]⟩,⟨#[49]⟩⟩]
theorem Y4 (x:CH) (xsv:Value) (xse:List Int) (xpv:Value) (xpr:List Ap) (y:CH) (ysv:Value) (yse:List Int) (ypv:Value) (ypr:List Ap):
    Cn Tryz.prog 63 [.agg #[.int .i64 x.kind,.int .i64 x.sp,.int .i64 x.att,.int .i64 x.part,.int .i64 x.seq,.int .i64 x.next,.int .i64 x.ep,.int .i64 x.why,xsv,xpv],.agg #[.int .i64 y.kind,.int .i64 y.sp,.int .i64 y.att,.int .i64 y.part,.int .i64 y.seq,.int .i64 y.next,.int .i64 y.ep,.int .i64 y.why,ysv,ypv]] [] [Z (Ai .i64) xsv xse,Z Ag xpv xpr,Z (Ai .i64) ysv yse,Z Ag ypv ypr] (fun v Bs=>v=.bool (decide (x.p xse xpr=y.p yse ypr))∧Bs=[]):=by
 intro w0 F0 H
 obtain ⟨A1,c2,rfl,hc3,hm4,hp5⟩:=H.fR 0 rfl
 obtain ⟨A6,c7,rfl,hc8,hm9,hp10⟩:=H.fR 1 rfl
 obtain ⟨A11,c12,rfl,hc13,hm14,hp15⟩:=H.fR 2 rfl
 obtain ⟨A16,c17,rfl,hc18,hm19,hp20⟩:=H.fR 3 rfl
 refine enter Tryz.func63 U U (Nat.le_of_ble_eq_true U) (Ab (Ae (CA U U U U H (fun b21 w H=>(CA U U U U H (fun b22 w H=>(Ad U (Ac (Aa ?_)))))))))
 replace H:Hd _ _ _ [blk b22 [.int .i64 y.kind,.int .i64 y.sp,.int .i64 y.att,.int .i64 y.part,.int .i64 y.seq,.int .i64 y.next,.int .i64 y.ep,.int .i64 y.why,.slice A11 yse.length c12,.slice A16 ypr.length c17] 64,blk b21 [.int .i64 x.kind,.int .i64 x.sp,.int .i64 x.att,.int .i64 x.part,.int .i64 x.seq,.int .i64 x.next,.int .i64 x.ep,.int .i64 x.why,.slice A1 xse.length c2,.slice A6 xpr.length c7] 64] [Z (Ai .i64) (.slice A1 xse.length c2) xse,Z Ag (.slice A6 xpr.length c7) xpr,Z (Ai .i64) (.slice A11 yse.length c12) yse,Z Ag (.slice A16 ypr.length c17) ypr]:=H
 refine Ab (Ae (V U U (Aj U Fh U) (V U U (Ak U AB U (H.cellI 1 U U)) (V U U (Aj U Fh U) (V U U (Ak U AB U (H.cellI 0 U U)) (V U U (Bb U U U) (Ad U ?_)))))))
 refine AK (d:=11) U (fun h23=>?_) (fun h23=>?_)
 ·refine V U U (Aj U LI U) (V U U (Ak U AB U (H.cellI 1 U U)) (V U U (Aj U LI U) (V U U (Ak U AB U (H.cellI 0 U U)) (V U U (Bb U U U) (Ah 2 U ?_)))))
  refine AK (d:=18) U (fun h24=>?_) (fun h24=>?_)
  ·refine V U U (Aj U LJ U) (V U U (Ak U AB U (H.cellI 1 U U)) (V U U (Aj U LJ U) (V U U (Ak U AB U (H.cellI 0 U U)) (V U U (Bb U U U) (Ah 2 U ?_)))))
   refine AK (d:=25) U (fun h25=>?_) (fun h25=>?_)
   ·refine V U U (Aj U HW U) (V U U (Ak U AB U (H.cellI 1 U U)) (V U U (Aj U HW U) (V U U (Ak U AB U (H.cellI 0 U U)) (V U U (Bb U U U) (Ah 2 U ?_)))))
    refine AK (d:=32) U (fun h26=>?_) (fun h26=>?_)
    ·refine V U U (Aj U OH U) (V U U (Ak U AB U (H.cellI 1 U U)) (V U U (Aj U OH U) (V U U (Ak U AB U (H.cellI 0 U U)) (V U U (Bb U U U) (Ah 2 U ?_)))))
     refine AK (d:=39) U (fun h27=>?_) (fun h27=>?_)
     ·refine V U U (Aj U OI U) (V U U (Ak U AB U (H.cellI 1 U U)) (V U U (Aj U OI U) (V U U (Ak U AB U (H.cellI 0 U U)) (V U U (Bb U U U) (Ah 2 U (Ac (Aa (Ab (Ae (Ah 2 U ?_))))))))))
      refine AK (d:=47) U (fun h28=>?_) (fun h28=>?_)
      ·refine V U U (Aj U OJ U) (V U U (Ak U AB U (H.cellI 1 U U)) (V U U (Aj U OJ U) (V U U (Ak U AB U (H.cellI 0 U U)) (V U U (Bb U U U) (Ah 2 U ?_)))))
       refine AK (d:=54) U (fun h29=>?_) (fun h29=>?_)
       ·refine V U U (Aj U OK U) (V U U (Ak U AB U (H.cellI 1 U U)) (V U U (Aj U OK U) (V U U (Ak U AB U (H.cellI 0 U U)) (V U U (Bb U U U) (Ah 2 U ?_)))))
        refine AK (d:=61) U (fun h30=>?_) (fun h30=>?_)
        ·refine V U U (Aj U OL U) (V U U (Ak U E5 U (H.cellI 1 U U)) (V U U (Aj U OL U) (V U U (Ak U E5 U (H.cellI 0 U U)) (sc (Y3 (.slice A1 xse.length c2) (.slice A11 yse.length c12) xse yse) H (lR 0 U (lR 2 U l0)) U U (At VE U U) ?_))))
         rintro _ _ w ⟨rfl,rfl⟩ H
         refine Ah 2 U ?_
         refine AK (d:=68) U (fun h31=>?_) (fun h31=>?_)
         ·refine V U U (Aj U OM U) (V U U (Ak U ET U (H.cellI 1 U U)) (V U U (Aj U OM U) (V U U (Ak U ET U (H.cellI 0 U U)) (sc (Y5 (.slice A6 xpr.length c7) (.slice A16 ypr.length c17) xpr ypr) H (lR 1 U (lR 3 U l0)) U U (At Vm U U) ?_))))
          rintro _ _ w ⟨rfl,rfl⟩ H
          refine Ah 2 U (Ac (Aa (An (Aq U U ?_))))
          have e:xpr=ypr↔x.p xse xpr=y.p yse ypr:=⟨fun h=>FB.2 ⟨by assumption,by assumption,by assumption,by assumption,by assumption,by assumption,by assumption,by assumption,by assumption,h⟩,fun h=>(FB.1 h).2.2.2.2.2.2.2.2.2⟩
          replace H:=H.nil
          replace H:Hd _ _ _ [] [Z (Ai .i64) (.slice A1 xse.length c2) xse,Z Ag (.slice A6 xpr.length c7) xpr,Z (Ai .i64) (.slice A11 yse.length c12) yse,Z Ag (.slice A16 ypr.length c17) ypr]:=H
          exact Al ⟨congrArg Value.bool (decide_eq_decide.2 e),rfl⟩ H
         refine Ah 7 U (Ac (Aa (An (Aq U U ?_))))
         have e:¬ x.p xse xpr=y.p yse ypr:=fun h=>by obtain ⟨g1,g2,g3,g4,g5,g6,g7,g8,g9,g10⟩:=FB.1 h;first |exact absurd g1 h31|exact absurd g2 h31|exact absurd g3 h31|exact absurd g4 h31|exact absurd g5 h31|exact absurd g6 h31|exact absurd g7 h31|exact absurd g8 h31|exact absurd g9 h31|exact absurd g10 h31
         replace H:=H.nil
         replace H:Hd _ _ _ [] [Z (Ai .i64) (.slice A1 xse.length c2) xse,Z Ag (.slice A6 xpr.length c7) xpr,Z (Ai .i64) (.slice A11 yse.length c12) yse,Z Ag (.slice A16 ypr.length c17) ypr]:=H
         exact Al ⟨congrArg Value.bool (decide_eq_false e).symm,rfl⟩ H
        refine Ah 12 U (Ah 2 U (Ac (Aa (An (Aq U U ?_)))))
        have e:¬ x.p xse xpr=y.p yse ypr:=fun h=>by obtain ⟨g1,g2,g3,g4,g5,g6,g7,g8,g9,g10⟩:=FB.1 h;first |exact absurd g1 h30|exact absurd g2 h30|exact absurd g3 h30|exact absurd g4 h30|exact absurd g5 h30|exact absurd g6 h30|exact absurd g7 h30|exact absurd g8 h30|exact absurd g9 h30|exact absurd g10 h30
        replace H:=H.nil
        exact Al ⟨congrArg Value.bool (decide_eq_false e).symm,rfl⟩ H
       refine Ah 12 U (Ah 9 U (Ac (Aa (An (Aq U U ?_)))))
       have e:¬ x.p xse xpr=y.p yse ypr:=fun h=>by obtain ⟨g1,g2,g3,g4,g5,g6,g7,g8,g9,g10⟩:=FB.1 h;first |exact absurd g1 h29|exact absurd g2 h29|exact absurd g3 h29|exact absurd g4 h29|exact absurd g5 h29|exact absurd g6 h29|exact absurd g7 h29|exact absurd g8 h29|exact absurd g9 h29|exact absurd g10 h29
       replace H:=H.nil
       exact Al ⟨congrArg Value.bool (decide_eq_false e).symm,rfl⟩ H
      refine Ah 12 U (Ah 12 U (Ah 4 U (Ac (Aa (An (Aq U U ?_))))))
      have e:¬ x.p xse xpr=y.p yse ypr:=fun h=>by obtain ⟨g1,g2,g3,g4,g5,g6,g7,g8,g9,g10⟩:=FB.1 h;first |exact absurd g1 h28|exact absurd g2 h28|exact absurd g3 h28|exact absurd g4 h28|exact absurd g5 h28|exact absurd g6 h28|exact absurd g7 h28|exact absurd g8 h28|exact absurd g9 h28|exact absurd g10 h28
      replace H:=H.nil
      exact Al ⟨congrArg Value.bool (decide_eq_false e).symm,rfl⟩ H
     refine Ah 7 U (Ac (Aa (Ab (Ae (Ah 12 U (Ah 12 U (Ah 6 U (Ac (Aa (An (Aq U U ?_)))))))))))
     have e:¬ x.p xse xpr=y.p yse ypr:=fun h=>by obtain ⟨g1,g2,g3,g4,g5,g6,g7,g8,g9,g10⟩:=FB.1 h;first |exact absurd g1 h27|exact absurd g2 h27|exact absurd g3 h27|exact absurd g4 h27|exact absurd g5 h27|exact absurd g6 h27|exact absurd g7 h27|exact absurd g8 h27|exact absurd g9 h27|exact absurd g10 h27
     replace H:=H.nil
     exact Al ⟨congrArg Value.bool (decide_eq_false e).symm,rfl⟩ H
    refine Ah 12 U (Ah 2 U (Ac (Aa (Ab (Ae (Ah 12 U (Ah 12 U (Ah 6 U (Ac (Aa (An (Aq U U ?_))))))))))))
    have e:¬ x.p xse xpr=y.p yse ypr:=fun h=>by obtain ⟨g1,g2,g3,g4,g5,g6,g7,g8,g9,g10⟩:=FB.1 h;first |exact absurd g1 h26|exact absurd g2 h26|exact absurd g3 h26|exact absurd g4 h26|exact absurd g5 h26|exact absurd g6 h26|exact absurd g7 h26|exact absurd g8 h26|exact absurd g9 h26|exact absurd g10 h26
    replace H:=H.nil
    exact Al ⟨congrArg Value.bool (decide_eq_false e).symm,rfl⟩ H
   refine Ah 12 U (Ah 9 U (Ac (Aa (Ab (Ae (Ah 12 U (Ah 12 U (Ah 6 U (Ac (Aa (An (Aq U U ?_))))))))))))
   have e:¬ x.p xse xpr=y.p yse ypr:=fun h=>by obtain ⟨g1,g2,g3,g4,g5,g6,g7,g8,g9,g10⟩:=FB.1 h;first |exact absurd g1 h25|exact absurd g2 h25|exact absurd g3 h25|exact absurd g4 h25|exact absurd g5 h25|exact absurd g6 h25|exact absurd g7 h25|exact absurd g8 h25|exact absurd g9 h25|exact absurd g10 h25
   replace H:=H.nil
   exact Al ⟨congrArg Value.bool (decide_eq_false e).symm,rfl⟩ H
  refine Ah 12 U (Ah 12 U (Ah 4 U (Ac (Aa (Ab (Ae (Ah 12 U (Ah 12 U (Ah 6 U (Ac (Aa (An (Aq U U ?_)))))))))))))
  have e:¬ x.p xse xpr=y.p yse ypr:=fun h=>by obtain ⟨g1,g2,g3,g4,g5,g6,g7,g8,g9,g10⟩:=FB.1 h;first |exact absurd g1 h24|exact absurd g2 h24|exact absurd g3 h24|exact absurd g4 h24|exact absurd g5 h24|exact absurd g6 h24|exact absurd g7 h24|exact absurd g8 h24|exact absurd g9 h24|exact absurd g10 h24
  replace H:=H.nil
  exact Al ⟨congrArg Value.bool (decide_eq_false e).symm,rfl⟩ H
 refine Ah 12 U (Ah 12 U (Ah 11 U (Ac (Aa (Ab (Ae (Ah 12 U (Ah 12 U (Ah 6 U (Ac (Aa (An (Aq U U ?_)))))))))))))
 have e:¬ x.p xse xpr=y.p yse ypr:=fun h=>by obtain ⟨g1,g2,g3,g4,g5,g6,g7,g8,g9,g10⟩:=FB.1 h;first |exact absurd g1 h23|exact absurd g2 h23|exact absurd g3 h23|exact absurd g4 h23|exact absurd g5 h23|exact absurd g6 h23|exact absurd g7 h23|exact absurd g8 h23|exact absurd g9 h23|exact absurd g10 h23
 replace H:=H.nil
 exact Al ⟨congrArg Value.bool (decide_eq_false e).symm,rfl⟩ H
def GI (x:Int) (k:Nat):List Int:=(List.range k).map fun (i:Nat)=>x+(i:Int)
theorem RK (x:Int) (k:Nat):(GI x k).length=k:=by simp [GI]
theorem Z2 (x:Int) (k:Nat):GI x (k+1)=GI x k++[x+(k:Int)]:=by simp [GI,List.range_succ]
def Dw (c s x:Int):List Int:=GI x (min s (c - x)).toNat
theorem W6 (c s x:Int):(Dw c s x).length=(min s (c - x)).toNat:=RK _ _
def Ck (n:Nat):List UInt8:=(List.range 8).map fun i=>UInt8.ofNat (n / 256^(7 - i))
def ES (l:List UInt8):Nat:=l.foldl (fun n x=>n*256+x.toNat) 0
theorem FN (n:Nat):(Ck n).length=8:=by simp [Ck]
theorem Sl (n:Nat):Ck n=[UInt8.ofNat (n / 72057594037927936),UInt8.ofNat (n / 281474976710656),UInt8.ofNat (n / 1099511627776),UInt8.ofNat (n / 4294967296),UInt8.ofNat (n / 16777216),UInt8.ofNat (n / 65536),UInt8.ofNat (n / 256),UInt8.ofNat (n / 1)]:=rfl
theorem X5 {n:Nat} (h:n<18446744073709551616):ES (Ck n)=n:=by
 rw [Sl]
 simp only [ES,List.foldl_cons,List.foldl_nil,UInt8.toNat_ofNat']
 omega
theorem X6:∀ (l:List UInt8) (k:Nat),ES l<256^l.length:=by
 intro l _
 have:∀ (l:List UInt8) (n m:Nat),n<256^m→l.foldl (fun n x=>n*256+x.toNat) n<256^(m+l.length):=by
  intro l
  induction l with
  |nil=>intro n m h;exact h
  |cons x l ih=>
   intro n m h
   have hx:=UInt8.toNat_lt x
   have:=ih (n*256+x.toNat) (m+1) (by rw [Nat.pow_succ];omega)
   rw [List.foldl_cons,List.length_cons,show m+(l.length+1)=m+1+l.length by omega]
   exact this
 have:=this l 0 0 (by decide)
 rwa [Nat.zero_add] at this
theorem X7 (l:List UInt8) (x:UInt8):ES (l++[x])=ES l*256+x.toNat:=by
 unfold ES;rw [List.foldl_append];rfl
def CD (s:ByteArray):List UInt8:=s.data.toList
def Dh (s:ByteArray):List UInt8:=Ck s.size++CD s
theorem Gn (s:ByteArray):(CD s).length=s.size:=by unfold CD;exact Array.length_toList
theorem It (s:ByteArray):(Dh s).length=8+s.size:=by unfold Dh;rw [List.length_append,FN,Gn]
def FZ (l:List UInt8):ByteArray:=⟨l.toArray⟩
theorem Zs (s:ByteArray):FZ (CD s)=s:=by cases s;simp [FZ,CD]
theorem Sy (l:List UInt8):CD (FZ l)=l:=by simp [FZ,CD]
def Gx (b:List UInt8) (at_:Int):Option (Int×Int):=
 if at_<0∨(b.length:Int)<at_∨(b.length:Int) - at_<8 then none else some (IntKind.i64.wrap (ES ((b.drop at_.toNat).take 8):Nat),at_+8)
def I_ (b:List UInt8) (at_:Int):Option (ByteArray×Int):=
 match Gx b at_ with
 |none=>none
 |some (n,next)=>if n<0∨(b.length:Int) - next<n then none else some (FZ ((b.drop next.toNat).take n.toNat),next+n)
theorem QO {a c:List UInt8} {n k:Nat} (hn:n<9223372036854775808) (hk:a.length=k):Gx (a++(Ck n++c)) (k:Int)=some ((n:Int),((k+8:Nat):Int)):=by
 subst hk
 unfold Gx
 rw [if_neg (by rw [List.length_append,List.length_append,FN];omega)]
 have h1:((a++(Ck n++c)).drop ((a.length:Nat):Int).toNat).take 8=Ck n:=by
  rw [Int.toNat_natCast,List.drop_left,←FN n,List.take_left]
 rw [h1,X5 (by omega),AC (by omega) (by omega)]
 rfl
theorem QP {a c:List UInt8} {s:ByteArray} {k:Nat} (hs:s.size<9223372036854775808) (hk:a.length=k):I_ (a++(Dh s++c)) (k:Int)=some (s,((k+8+s.size:Nat):Int)):=by
 unfold I_
 have h:a++(Dh s++c)=a++(Ck s.size++(CD s++c)):=by unfold Dh;rw [List.append_assoc]
 rw [h,QO hs hk]
 dsimp only
 rw [if_neg (by rw [List.length_append,List.length_append,List.length_append,FN,Gn];omega)]
 have h2:(a++(Ck s.size++(CD s++c))).drop ((k+8:Nat):Int).toNat=CD s++c:=by
  rw [Int.toNat_natCast,←List.append_assoc,show k+8=(a++Ck s.size).length by rw [List.length_append,FN,hk],List.drop_left]
 rw [h2,Int.toNat_natCast,←Gn s,List.take_left,Zs,Gn]
 rfl
def CN (ps:List Ap):List UInt8:=ps.flatMap fun p=>Dh p.key++Dh p.val
def FU (ps:List Ap):List UInt8:=Ck ps.length++CN ps
theorem Qj (ps:List Ap) (p:Ap):CN (ps++[p])=CN ps++(Dh p.key++Dh p.val):=by unfold CN;rw [List.flatMap_append];simp
theorem Qk {ps:List Ap} {k:Nat} {p:Ap} (h:ps[k]?=some p):CN ps=CN (ps.take k)++(Dh p.key++(Dh p.val++CN (ps.drop (k+1)))):=by
 obtain ⟨hl,e⟩:=List.getElem?_eq_some_iff.1 h
 have:ps=ps.take k++p::ps.drop (k+1):=by rw [←e,←List.drop_eq_getElem_cons hl,List.take_append_drop]
 conv=>lhs;rw [this]
 unfold CN
 rw [List.flatMap_append,List.flatMap_cons,List.append_assoc]
def EL (x:UInt8):List Value:=[.int .u8 x.toNat]
def B_:Kd UInt8:=flat EL 1 (by omega) (fun _=>rfl) (fun _ c h=>by simp [EL] at h;subst h;rfl)
structure B9 where
 c:Int
 s:Int
 e:Int
 x:Int
def I1 (w:B9):Prop:=(0≤w.c∧w.c≤40∧1≤w.s∧w.s≤4)∧(0≤w.x∧w.x≤w.c)∧0≤w.e∧w.e≤9223372036854775807
def Dk (chunk att:Int):Int:=if att.tmod 2≠0 then chunk+1 else chunk
def Dj (n size:Int):Int:=if n<1∨size<1 then 0 else (n - 1).tdiv size+1
def Fd (ps:List Ap) (size q:Int):List Ap:=if q<0∨Dj ps.length size≤q then [] else (ps.drop (q*size).toNat).take size.toNat
def Bj (D:AV) (J:AD) (s:Nat) (att:Int):List Int:=
 if (Ay D J s).2≠0 then [] else (List.range J.parts.toNat).map fun (p:Nat)=>Dj ((Cy D J s p).length:Nat) (Dk J.chunk att)
structure BH where
 sp:Nat
 att:Int
 ws:List B9
def CW (D:AV) (J:AD) (s:Nat) (att:Int):BH:=⟨s,att,(Bj D J s att).map fun n=>⟨n,J.window,0,0⟩⟩
def C8 (D:AV) (J:AD) (s:Nat) (att p q:Int):List Ap:=if p<0 then [] else Fd (Cy D J s p) (Dk J.chunk att) q
def Ef (D:AV) (J:AD) (s:Nat) (att:Int) (w:B9) (p:Nat):List Dt:=
 (Dw w.c w.s w.x).map fun q=>⟨2,s,att,p,q,0,0,0,[],C8 D J s att p q⟩
def DB (D:AV) (J:AD) (s:Nat) (att:Int):List B9→Nat→List Dt
 |[],_=>[]
 |w::ws,p=>Ef D J s att w p++DB D J s att ws (p+1)
def FV (D:AV) (J:AD) (m:BH):List Dt:=DB D J m.sp m.att m.ws 0
def Nk (m:BH) (p:Int):Prop:=0≤p∧p<m.ws.length
instance (m:BH) (p:Int):Decidable (Nk m p):=by unfold Nk;infer_instance
theorem SM {n size:Int} (h1:1≤n) (h2:1≤size):1≤Dj n size∧Dj n size≤n:=by
 unfold Dj
 rw [if_neg (by omega)]
 have h3:(n - 1).tdiv size=(n - 1) / size:=Int.tdiv_eq_ediv_of_nonneg (by omega)
 rw [h3]
 have h4:0≤(n - 1) / size:=Int.ediv_nonneg (by omega) (by omega)
 have h5:(n - 1) / size≤n - 1:=Int.ediv_le_self _ (by omega)
 omega
theorem SL {n size:Int} (h:0≤n):0≤Dj n size∧Dj n size≤n:=by
 by_cases h1:n<1∨size<1
 ·unfold Dj;rw [if_pos h1];omega
 ·have:=SM (n:=n) (size:=size) (by omega) (by omega);omega
theorem S8 {chunk att:Int} (h:1≤chunk∧chunk≤7):1≤Dk chunk att∧Dk chunk att≤8:=by
 unfold Dk;split<;>omega
theorem N2 (D:AV) (J:AD) (s:Nat) (att:Int):(Bj D J s att).length=if (Ay D J s).2≠0 then 0 else J.parts.toNat:=by
 unfold Bj
 split
 ·rfl
 ·simp
theorem N1 {D:AV} {J:AD} {s:Nat} {att n:Int} (h:n∈Bj D J s att):0≤n∧n≤40:=by
 unfold Bj at h
 split at h
 ·cases h
 ·obtain ⟨p,_,rfl⟩:=List.mem_map.1 h
  have h1:=SL (n:=((Cy D J s p).length:Nat)) (size:=Dk J.chunk att) (by omega)
  have h2:=I2 D J s p
  omega
theorem Wz {D:AV} {J:AD} (hJ:Cb J) (s:Nat) (att:Int):∀ w∈(CW D J s att).ws,I1 w:=by
 intro w hw
 obtain ⟨n,hn,rfl⟩:=List.mem_map.1 hw
 have:=N1 hn
 have:=hJ.window1
 exact ⟨⟨by (try dsimp only);omega,by (try dsimp only);omega,by (try dsimp only);omega,by (try dsimp only);omega⟩,⟨by (try dsimp only);omega,by (try dsimp only);omega⟩,by (try dsimp only);omega,by (try dsimp only);omega⟩
theorem GN:∀ l:List UInt8,l.flatMap EL=l.map fun b=>Value.int .u8 b.toNat
 |[]=>rfl
 |x::l=>by rw [List.flatMap_cons,GN l];rfl
section
variable {P:Program} {ops:Array Oper} {Q:Exit→Act→World→Prop} {rest:List Oper} {n:Nat} {l:BF} {w0 w:World} {F F0:AJ} {o:Oper} {v:Value} {As Rs:List SP} {x y z:Operand} {t:TypeId}
section
variable {α:Type} {enc:α→List Value} {sz:Nat} {hp:0<sz} {hl:∀ x,(enc x).length=sz} {h1:∀ x,∀ c∈enc x,c.oneCell'=true}
theorem YW {e bytes:Nat} {b bt:Nat} {xs ys:List α} {B:Option Addr} {m c c2:Nat} (hg:gd ops l o=some true) (hd:CQ n o.dst=true) (ho:o.op=.call { callee:=.builtin .copy,args:=#[x,y],argTypes:=#[t,t] }) (hs:C7 P t=some (e,sz,bytes))
  (hx:ev l x=some (.slice (some ⟨b,0,none⟩) m c)) (hy:ev l y=some (.slice B m c2)) (H:Hd w0 F0 w (Im enc b bt xs::As) Rs) (hc:xs.length=c) (hmc:m≤c)
  (hn:∀ F,(∀ A∈As,A.P w F)→(∀ R∈Rs,R.P w F)→(Z (flat enc sz hp hl h1) (.slice B m c2) ys).P w F)
  (h:∀ w',Hd w0 F0 w' (Im enc b bt (ys++xs.drop m)::As) Rs→WL P ops Q rest n (CB l o.dst (.int .i64 (m:Int))) w'):WL P ops Q (o::rest) n l w:=by
 obtain ⟨F,hF1,hF2⟩:∃ F,(∀ A∈As,A.P w F)∧(∀ R∈Rs,R.P w F):=H.read fun F a r=>⟨F,fun A hA=>a A (List.mem_cons_of_mem _ hA),r⟩
 obtain ⟨hyl,_,_,news,hnr,hnR⟩:MS (flat enc sz hp hl h1) w F ys B m c2:=by
  obtain ⟨A',n',c',e',h'⟩:=hn F hF1 hF2
  cases e'
  exact h'
 have hnl:news.length=m*sz:=by rw [hnR.len,hyl];rfl
 have hm0:B=none→m=0:=by
  intro hB
  rcases hnr.2 with rfl|⟨b,off,C,t',fr,e',_⟩
  ·have:m*sz=0:=by rw [←hnl];rfl
   exact (Nat.mul_eq_zero.1 this).resolve_right (by omega)
  ·rw [hB] at e';cases e'
 obtain ⟨hu,i,hi,hi1,hi2⟩:=Fq hs
 have hfc:=Lu (P:=P) (c:=c2) hnr hnl hm0
 have hnews:news=ys.flatMap enc:=AW.flat_eq.1 hnR
 obtain ⟨F1,hb⟩:∃ F,(Im enc b bt xs).P w F:=H.fact (List.mem_cons_self ..) fun F hb=>⟨F,hb⟩
 have hfit:0+0+news.length≤(xs.flatMap enc).length:=by rw [hnl,Gs hl,Nat.add_zero,Nat.zero_add];exact Nat.mul_le_mul_right _ (by omega)
 obtain ⟨w',hr,_,_⟩:=Jc (P:=P) news (xs.flatMap enc) 0 0 w hb hfit hnR.one
 have hnew:Es (xs.flatMap enc) (0+0) news=(ys++xs.drop m).flatMap enc:=by
  rw [Nat.add_zero,I5 _ _ _ (by rw [Nat.zero_add] at hfit ⊢;simpa using hfit),hnews,List.take_zero,Gs hl,hyl,Nat.zero_add,JO hl]
  simp
 refine V hg hd (v:=.int .i64 (m:Int)) (w':=w') (fun a ha=>?_) (h w' (H.write fun F' hb'=>?_))
 ·simp [execOp,ho,resolve,ha.eval hx,ha.eval hy,invoke,builtin,Builtin.copy_,run_underlying hu,sizeOf,typeInfo,hi,hi1,Builtin.lenOf,hfc w rfl,hr,goInt]
 ·obtain ⟨w'',hr',h2,h3⟩:=Jc (P:=P) news (xs.flatMap enc) 0 0 w hb' hfit hnR.one
  rw [hr] at hr'
  cases hr'
  refine ⟨?_,h3⟩
  show (blk b _ bt).P w' F'
  rw [←hnew]
  exact h2
end
theorem YT {e bytes:Nat} {zv u:Value} {xs:List UInt8} {s:ByteArray} {ts:TypeId}
  (hg:gd ops l o=some true) (hd:CQ n o.dst=true) (ho:o.op=.call { callee:=.builtin .append,args:=#[x,y],argTypes:=#[t,ts] }) (hs:C7 P t=some (e,1,bytes)) (hz:CY P e=some zv) (hzs:zv.cells.size=1) (hb0:0<bytes) (hts:P.underlying ts=some .string)
  (hx:ev l x=some u) (hy:ev l y=some (.string s)) (H:Hd w0 F0 w (Y B_ u xs::As) Rs) (hb:(xs.length+s.size)*bytes≤140737488355328)
  (h:∀ u' w',Hd w0 F0 w' (Y B_ u' (xs++CD s)::As) Rs→WL P ops Q rest n (CB l o.dst u') w'):WL P ops Q (o::rest) n l w:=by
 obtain ⟨hu,i,hi,hi1,hi2⟩:=Fq hs
 have hfc:∀ w':World,w'.heap=w.heap→(Builtin.firstCells 1 s.size (.string s)).run P w'=.ok ((CD s).flatMap EL).toArray w':=by
  intro w' _
  have e1:s.extract 0 s.size=s:=by simp
  simp only [Builtin.firstCells,e1,Sem.run_pure]
  rw [GN]
  congr 1
  apply Array.ext'
  simp [CD]
 have hnl:((CD s).flatMap EL).length=s.size*1:=by rw [GN,List.length_map,Gn,Nat.mul_one]
 have h1:∀ c∈(CD s).flatMap EL,c.oneCell'=true:=by
  rw [GN]
  intro c hc
  obtain ⟨b,_,rfl⟩:=List.mem_map.1 hc
  rfl
 have key:∀ F1,(Y B_ u xs).P w F1→(∀ k,F1 k→k<w.heap.size)→∃ A c A' c' w' F',u=.slice A xs.length c∧(Builtin.append_ #[t,ts] o.type #[u,.string s]).run P w=.ok (.slice A' (xs.length+s.size) c') w'∧(Y B_ (.slice A' (xs.length+s.size) c') (xs++CD s)).P w' F'∧Ci F1 w w'∧(∀ k,F' k→k<w'.heap.size∧(F1 k∨w.heap.size≤k)):=by
  rintro F1 ⟨A,n',c,e',hxl,cs,G1,G2,g1,g2,gd,hr,hR⟩ hlt
  cases e'
  subst hxl
  obtain ⟨A',c',w',F',hrun,hrow,hupd,hF'⟩:=MK (P:=P) (tx:=ts) (ty:=o.type) (x:=.string s) (m:=s.size) (news:=(CD s).flatMap EL) hs hz hzs hts (.inr rfl) hr (fun k hk=>hlt k (g1 k hk)) (by simp [Builtin.lenOf]) hfc hnl h1 hb0 hb
  refine ⟨A,c,A',c',w',F',rfl,hrun,?_,⟨hupd.os,hupd.tape,hupd.output,hupd.size,fun k hk hn'=>hupd.block k hk (fun q=>hn' (g1 k q))⟩,fun k hk=>⟨(hF' k hk).1,(hF' k hk).2.imp (g1 k) id⟩⟩
  exact ⟨A',_,c',rfl,by rw [List.length_append,Gn],cs++(CD s).flatMap EL,F',none_,fun _ q=>q,fun _ q=>q.elim,fun _ _ q=>q,hrow,CI.flatR (F:=none_) (AW.flat_eq.2 (by rw [AW.flat_eq.1 hR.toR];simp))⟩
 have hall:∃ F1,(Y B_ u xs).P w F1∧∀ k,F1 k→k<w.heap.size:=by
  obtain ⟨F,G,⟨F1,F2,a1,a2,a3,a,s⟩,r,d,f,g,u⟩:=H
  exact ⟨F1,a,fun k hk=>(f k (a1 k hk)).1⟩
 obtain ⟨F1,hO,hlt⟩:=hall
 obtain ⟨A,c,A',c',w',F',hue,hrun,_,_,_⟩:=key F1 hO hlt
 refine V hg hd (v:=.slice A' (xs.length+s.size) c') (w':=w') (fun a ha=>?_) (h _ _ (H.grow fun F2 hO2 hlt2=>?_))
 ·simp [execOp,ho,resolve,ha.eval hx,ha.eval hy,invoke,builtin,hrun]
 ·obtain ⟨A3,c3,A4,c4,w4,F4,_,hrun4,h4,h5,h6⟩:=key F2 hO2 hlt2
  rw [hrun] at hrun4
  cases hrun4
  exact ⟨F4,h4,h5,h6⟩
theorem Y2 {src dst e:TypeId} {s:ByteArray} (hg:gd ops l o=some true) (hd:CQ n o.dst=true) (ho:o.op=.convert src dst x) (hs:P.underlying src=some .string) (hd':P.underlying dst=some (.slice e)) (he:P.underlying e=some (.int .u8)) (hx:ev l x=some (.string s))
  (hb:s.size≤140737488355328) (H:Hd w0 F0 w As Rs)
  (h:∀ b c w',s.size≤c→c≤9223372036854775807→Hd w0 F0 w' As (Z B_ (.slice (some ⟨b,0,none⟩) s.size c) (CD s)::Rs)→WL P ops Q rest n (CB l o.dst (.slice (some ⟨b,0,none⟩) s.size c)) w'):WL P ops Q (o::rest) n l w:=by
 have hr:=run_bytes_of_string w src dst e s hs hd' he
 have hge:=grownCap_ge w s.size 0 e
 have hle:grownCap w s.size 0 e≤9223372036854775807:=by
  have:=grownCap_le_maxLen w s.size 0 e (by simp only [maxLen];omega)
  simpa [maxLen] using this
 generalize hc:grownCap w s.size 0 e=c at hr hge hle
 generalize hC:bytesRow s c=C at hr
 have hCl:C.toList.take s.size=(CD s).flatMap EL:=by
  rw [←hC,GN]
  unfold bytesRow
  rw [Array.toList_append,List.take_append_of_le_length (by simp)]
  rw [List.take_of_length_le (by simp)]
  simp [CD]
 refine V hg hd (v:=.slice (some ⟨w.heap.size,0,none⟩) s.size c) (w':=w.drew.alloc (.cells C e (C.size,C.size+1))) (fun a ha=>?_) (h _ c _ hge hle (Hd.lend (A:=Z B_ (.slice (some ⟨w.heap.size,0,none⟩) s.size c) (CD s)) (H.new (F':=fun k=>k=w.heap.size) ?_ ?_ ?_) fun _ h=>h))
 ·simp [execOp,ho,ha.eval hx,hr]
 ·exact (Ci.alloc none_ w.drew _).trans (Ci.refl none_ _) (fun _ _ x=>x)|>fun u=>⟨u.os,u.tape,u.output,u.size,u.block⟩
 ·refine ⟨_,_,_,rfl,Gn s,hge,hle,(CD s).flatMap EL,⟨trivial,.inr ⟨w.heap.size,0,C,e,(C.size,C.size+1),rfl,rfl,?_,?_⟩⟩,AW.flat_eq.2 rfl⟩
  ·show (w.heap.push _)[w.heap.size]?=_
   simp
  ·rw [List.drop_zero,show ((CD s).flatMap EL).length=s.size by rw [GN,List.length_map,Gn]]
   exact hCl
 ·intro k hk
  subst hk
  simp
theorem QC {src dst e:TypeId} {A:Option Addr} {m c:Nat} {bs:List UInt8} (ho:o.op=.convert src dst x) (hs:P.underlying src=some (.slice e)) (he:P.underlying e=some (.int .u8)) (hd:P.underlying dst=some .string) (hx:ev l x=some (.slice A m c)) {r:ByteArray} (hr:FZ bs=r) (h:(Z B_ (.slice A m c) bs).P w F):Bz P n l w o (.string r) w:=by
 subst hr
 obtain ⟨A',c',e',_,_,_,cs,h4,h5⟩:=MI h
 cases e'
 have hcs:cs=bs.flatMap EL:=AW.flat_eq.1 h5
 intro a ha
 cases A with
 |none=>
  have:bs=[]:=by
   rcases h4.2 with h6|⟨b,off,C,t',fr,e',_⟩
   ·rw [hcs,GN] at h6;simpa using h6
   ·cases e'
  subst this
  have:=run_convert_bytes_nil (P:=P) w src e hs he 0 c dst hd
  simp [execOp,ho,ha.eval hx,this]
  rfl
 |some ad=>
  have:=run_convert_bytes_back (P:=P) w src dst e ad c bs hs he hd (fun j hj=>by
   have hv:cs[j]?=some (.int .u8 (bs[j].toNat:Int)):=by rw [hcs,GN,List.getElem?_map,List.getElem?_eq_getElem hj];rfl
   obtain ⟨b,off,e1,h6⟩:=h4.cell hv
   cases e1
   rw [Ek]
   exact h6)
  simp [execOp,ho,ha.eval hx,this,FZ]
theorem Hd.rd {p:Prop} (H:Hd w0 F0 w As Rs) {S:SP} (hS:∀ F,(∀ A∈As,A.P w F)→(∀ R∈Rs,R.P w F)→S.P w F) (h:∀ F,S.P w F→p):p:=H.read fun F a r=>h F (hS F a r)
theorem QD {tt e size bytes:TypeId} {A:Option Addr} {m c i' j' m':Nat} {k k':IntKind} {i j:Int} (ho:o.op=.slice tt x (some y) (some z) none) (hs:C7 P tt=some (e,size,bytes)) (hx:ev l x=some (.slice A m c)) (hy:ev l y=some (.int k i)) (hz:ev l z=some (.int k' j))
  (h0:0≤i) (h1:i≤j) (h2:j≤(c:Int)) (hi':i.toNat=i') (hj':j.toNat=j') (hm':j' - i'=m'):Bz P n l w o (.slice (DO A c i' size) m' (c - i')) w:=by
 intro a ha
 obtain ⟨hu,inf,hi,hzz,_⟩:=Fq hs
 subst hi' hj' hm'
 have h3:0≤j:=by omega
 have h4:i≤max j 0:=by omega
 have hb:(Instr.sliceBounds true m c (some (.int k i)) (some (.int k' j)) none).run P w=.ok (i.toNat,j.toNat,c) w:=by
  simp [Instr.sliceBounds,Instr.sliceBound,asIntOf,h0,h2,h3,h4]
 unfold DO
 by_cases e1:c=i.toNat
 ·rw [e1] at hb
  cases A<;>simp [execOp,ho,ha.eval hx,ha.eval hy,ha.eval hz,Instr.sliceAt,Instr.slice,hb,run_underlying hu,sizeOf,typeInfo,hi,hzz,e1]
 ·cases A<;>simp [execOp,ho,ha.eval hx,ha.eval hy,ha.eval hz,Instr.sliceAt,Instr.slice,hb,run_underlying hu,sizeOf,typeInfo,hi,hzz,e1]
end
theorem KD {α:Type} {d:Kd α} {w:World} {F:AJ} {A:Option Addr} {m c:Nat} {xs:List α} (h:(Z d (.slice A m c) xs).P w F) {i m':Nat} (hi:i+m'≤m):(Z d (.slice (DO A c i d.sz) m' (c - i)) ((xs.drop i).take m')).P w F:=Q5 (Io h (i:=i) (by omega)) (by omega)
theorem Up:∀ x,(EL x).length=1:=fun _=>rfl
/-! ### Numbers, byte by byte -/
theorem Y8 (n:Nat) {i:Nat} (h:i<8):((n:Nat):Int).fdiv (2^(min ((8:Int)*(7 - ((i:Nat):Int))).toNat IntKind.u64.bits))=((n / 256^(7 - i):Nat):Int):=by
 have e:(2:Int)^(min ((8:Int)*(7 - ((i:Nat):Int))).toNat IntKind.u64.bits)=((256^(7 - i):Nat):Int):=by
  match i,h with
  |0,_=>decide
  |1,_=>decide
  |2,_=>decide
  |3,_=>decide
  |4,_=>decide
  |5,_=>decide
  |6,_=>decide
  |7,_=>decide
 rw [e,Int.fdiv_eq_ediv_of_nonneg _ (Int.natCast_nonneg _),Int.natCast_ediv]
theorem aZ (m:Nat):IntKind.u8.wrap ((m:Nat):Int)=((UInt8.ofNat m).toNat:Int):=by
 unfold IntKind.wrap
 simp [IntKind.bits,IntKind.signed,UInt8.toNat_ofNat']
theorem Y7 {m:Nat} (h:m<72057594037927936):IntKind.u64.wrap (((m:Nat):Int)*2^(min (8:Int).toNat IntKind.u64.bits))=((m*256:Nat):Int):=by
 have e:(2:Int)^(min (8:Int).toNat IntKind.u64.bits)=256:=by decide
 rw [e,Fs (by omega) (by omega)]
 omega
theorem Xa {P:Program} {w:World} {m:Nat} (h:m<72057594037927936) (x:UInt8):(Op.intBits .or .u64 ((m*256:Nat):Int) ((x.toNat:Nat):Int)).run P w=.ok (.int .u64 ((m*256+x.toNat:Nat):Int)) w:=by
 have hx:=UInt8.toNat_lt x
 have h1:m*256|||x.toNat=m*256+x.toNat:=by
  have:=Nat.shiftLeft_add_eq_or_of_lt (b:=x.toNat) (i:=8) (by omega) m
  rw [Nat.shiftLeft_eq] at this
  exact this.symm
 have h2:(BitVec.ofInt 64 ((m*256:Nat):Int)|||BitVec.ofInt 64 ((x.toNat:Nat):Int)).toNat=m*256+x.toNat:=by
  rw [BitVec.toNat_or]
  simp only [BitVec.ofInt_natCast,BitVec.toNat_ofNat]
  rw [Nat.mod_eq_of_lt (by omega),Nat.mod_eq_of_lt (by omega),h1]
 unfold Op.intBits
 show (pure (Value.int .u64 (IntKind.u64.wrap ((BitVec.ofInt 64 ((m*256:Nat):Int)|||BitVec.ofInt 64 ((x.toNat:Nat):Int)).toNat:Nat))):Sem Value).run P w=_
 rw [h2,Fs (by omega) (by omega)]
 rfl
/-! ### What the program tells of bytes -/
def CE (b:List UInt8) (at_:Int):Int×Int×Bool:=match Gx b at_ with
 |some x=>(x.1,x.2,true)
 |none=>(0,0,false)
def Fo (b:List UInt8) (at_:Int):ByteArray×Int×Bool:=match I_ b at_ with
 |some x=>(x.1,x.2,true)
 |none=>(⟨#[]⟩,0,false)
theorem I9 {b:List UInt8} {at_:Int} (h:at_<0∨(b.length:Int)<at_∨(b.length:Int) - at_<8):CE b at_=(0,0,false):=by
 unfold CE Gx;rw [if_pos h]
theorem ME {b:List UInt8} {at_:Int} (h:¬ (at_<0∨(b.length:Int)<at_∨(b.length:Int) - at_<8)):CE b at_=(IntKind.i64.wrap (ES ((b.drop at_.toNat).take 8):Nat),at_+8,true):=by
 unfold CE Gx;rw [if_neg h]
theorem Ya {b:List UInt8} {at_:Int} (h:(CE b at_).2.2=false):Fo b at_=(⟨#[]⟩,0,false):=by
 unfold CE at h
 unfold Fo I_
 cases e:Gx b at_ with
 |none=>rfl
 |some x=>rw [e] at h;cases h
theorem MF {b:List UInt8} {at_:Int} (h:(CE b at_).2.2=true):Fo b at_=if (CE b at_).1<0∨(b.length:Int) - (CE b at_).2.1<(CE b at_).1 then (⟨#[]⟩,0,false) else (FZ ((b.drop (CE b at_).2.1.toNat).take (CE b at_).1.toNat),(CE b at_).2.1+(CE b at_).1,true):=by
 unfold CE at h ⊢
 unfold Fo I_
 cases e:Gx b at_ with
 |none=>rw [e] at h;cases h
 |some x=>
  dsimp only
  by_cases g:x.1<0∨(b.length:Int) - x.2<x.1
  ·rw [if_pos g,if_pos g]
  ·rw [if_neg g,if_neg g]
theorem X_ {b:List UInt8} {at_:Int} (h:(CE b at_).2.2=true):8≤(CE b at_).2.1∧(CE b at_).2.1≤(b.length:Int)∧(CE b at_).2.1=at_+8∧0≤at_:=by
 by_cases g:at_<0∨(b.length:Int)<at_∨(b.length:Int) - at_<8
 ·rw [I9 g] at h;cases h
 ·rw [ME g];dsimp only;omega
theorem X9 {b:List UInt8} {at_:Int}: -9223372036854775808≤(CE b at_).1∧(CE b at_).1≤9223372036854775807:=by
 by_cases g:at_<0∨(b.length:Int)<at_∨(b.length:Int) - at_<8
 ·rw [I9 g];decide
 ·rw [ME g]
  dsimp only
  unfold IntKind.wrap
  simp [IntKind.bits,IntKind.signed]
  omega
theorem Sk (n:Nat) {i:Nat} (h:i<8):(Ck n)[i]?=some (UInt8.ofNat (n / 256^(7 - i))):=by
 unfold Ck;rw [List.getElem?_map,List.getElem?_range h];rfl
theorem Sm (n:Nat) {i:Nat} (h:i<8):(Ck n).take (i+1)=(Ck n).take i++[UInt8.ofNat (n / 256^(7 - i))]:=Eo (Sk n h)
theorem X8 {l:List UInt8} {i:Nat} {x:UInt8} (h:l[i]?=some x):ES (l.take (i+1))=ES (l.take i)*256+x.toNat:=by rw [Eo h,X7]
def Oc (b:Nat):List Value:=[.pointer (some ⟨b,0,none⟩)]
def Cx:Kd Nat:=flat Oc 1 (by omega) (fun _=>rfl) (fun _ c h=>by simp [Oc] at h;subst h;rfl)
def Cq (t:Nat) (e:Nat×B9):SP:=blk e.1 [.int .i64 e.2.c,.int .i64 e.2.s,.int .i64 e.2.e,.int .i64 e.2.x] t
def Ba (ps:List Ap):ByteArray:=FZ (FU ps)
theorem Zt (l:List UInt8):(FZ l).size=l.length:=by simp [FZ,ByteArray.size]
theorem Mt {ps:List Ap} (h:∀ p∈ps,p.key.size≤100∧p.val.size≤100):(CN ps).length≤ps.length*216:=by
 induction ps with
 |nil=>exact Nat.zero_le _
 |cons p ps ih=>
  have h1:=h p (List.mem_cons_self ..)
  have h2:=ih fun q hq=>h q (List.mem_cons_of_mem _ hq)
  have e:CN (p::ps)=(Dh p.key++Dh p.val)++CN ps:=by unfold CN;rw [List.flatMap_cons]
  rw [e,List.length_append,List.length_append,It,It,List.length_cons,Nat.succ_mul]
  omega
theorem Xn {ps:List Ap} (h:∀ p∈ps,p.key.size≤100∧p.val.size≤100) (hl:ps.length≤1000):(Ba ps).size≤300000:=by
 have:=Mt h
 unfold Ba
 rw [Zt]
 unfold FU
 rw [List.length_append,FN]
 omega
theorem Mu (ps:List Ap):CD (Ba ps)=FU ps:=Sy _
def DS (ps:List Ap) (k:Nat):Nat:=8+(CN (ps.take k)).length
theorem Xm {ps:List Ap} {k:Nat} {p:Ap} (h:ps[k]?=some p):DS ps (k+1)=DS ps k+8+p.key.size+8+p.val.size:=by
 unfold DS
 rw [Eo h,Qj,List.length_append,List.length_append,It,It]
 omega
theorem Xp {ps:List Ap} (hl:ps.length<9223372036854775808):CE (FU ps) 0=(((ps.length:Nat):Int),8,true):=by
 have h:=QO (a:=[]) (c:=CN ps) (n:=ps.length) (k:=0) hl rfl
 unfold CE FU
 have h2:Gx (Ck ps.length++CN ps) 0=some (((ps.length:Nat):Int),((0+8:Nat):Int)):=h
 rw [h2]
 rfl
theorem Xo {ps:List Ap} {k:Nat} {p:Ap} (h:ps[k]?=some p) (hk:p.key.size<9223372036854775808):Fo (FU ps) (DS ps k:Nat)=(p.key,((DS ps k+8+p.key.size:Nat):Int),true):=by
 have e:FU ps=(Ck ps.length++CN (ps.take k))++(Dh p.key++(Dh p.val++CN (ps.drop (k+1)))):=by unfold FU;rw [Qk h,List.append_assoc]
 have h1:=QP (a:=Ck ps.length++CN (ps.take k)) (c:=Dh p.val++CN (ps.drop (k+1))) (s:=p.key) (k:=DS ps k) hk (by rw [List.length_append,FN];rfl)
 unfold Fo
 rw [e,h1]
theorem Xq {ps:List Ap} {k:Nat} {p:Ap} (h:ps[k]?=some p) (hk:p.val.size<9223372036854775808):Fo (FU ps) ((DS ps k+8+p.key.size:Nat):Int)=(p.val,((DS ps (k+1):Nat):Int),true):=by
 have e:FU ps=(Ck ps.length++CN (ps.take k)++Dh p.key)++(Dh p.val++CN (ps.drop (k+1))):=by unfold FU;rw [Qk h];simp only [List.append_assoc]
 have h1:=QP (a:=Ck ps.length++CN (ps.take k)++Dh p.key) (c:=CN (ps.drop (k+1))) (s:=p.val) (k:=DS ps k+8+p.key.size) hk (by rw [List.length_append,List.length_append,FN,It];unfold DS;omega)
 unfold Fo
 rw [e,h1,Xm h]
theorem Xl {ps:List Ap} (h:∀ p∈ps,p.key.size≤100∧p.val.size≤100) (hl:ps.length≤1000) (i:Nat):DS ps i≤300000:=by
 have h1:=Mt (ps:=ps.take i) fun p hp=>h p (List.mem_of_mem_take hp)
 have h2:(ps.take i).length≤ps.length:=by rw [List.length_take];omega
 unfold DS
 omega
def D3 (D:AV) (J:AD) (s:Nat) (att:Int) (k:Nat):List Int:=(List.range k).map fun (p:Nat)=>Dj ((Cy D J s p).length:Nat) (Dk J.chunk att)
theorem NU (D:AV) (J:AD) (s:Nat) (att:Int) (k:Nat):D3 D J s att (k+1)=D3 D J s att k++[Dj ((Cy D J s k).length:Nat) (Dk J.chunk att)]:=by
 unfold D3;rw [List.range_succ,List.map_append];rfl
theorem NT (D:AV) (J:AD) (s:Nat) (att:Int) (k:Nat):(D3 D J s att k).length=k:=by simp [D3]
theorem N4 {D:AV} {J:AD} {s:Nat} {att:Int} (h:(Ay D J s).2=0):Bj D J s att=D3 D J s att J.parts.toNat:=by
 unfold Bj;rw [if_neg (fun g=>g h)];rfl
theorem Lg {D:AV} {J:AD} {s:Nat} {att:Int} (h:(Ay D J s).2≠0):Bj D J s att=[]:=by
 unfold Bj;rw [if_pos h]
/-! ### Windows, in a row of pointers -/
def RN (J:AD) (n:Int):B9:=⟨n,J.window,0,0⟩
theorem aV {ws:List (Nat×B9)} {k:Nat} {e:Nat×B9} (h:ws[k]?=some e):(ws.map Prod.snd)[k]?=some e.2:=by rw [List.getElem?_map,h];rfl
theorem aU {ws:List (Nat×B9)} {k:Nat} {e:Nat×B9} (h:ws[k]?=some e):ws.set k e=ws:=KI h
theorem SK {n size q:Int} (h0:0≤q) (h1:q<Dj n size) (hs:1≤size):0≤q*size∧q*size≤n - 1:=by
 unfold Dj at h1
 by_cases h:n<1∨size<1
 ·rw [if_pos h] at h1;omega
 ·rw [if_neg h,Int.tdiv_eq_ediv_of_nonneg (by omega)] at h1
  exact ⟨Int.mul_nonneg h0 (by omega),(Int.le_ediv_iff_mul_le (by omega)).1 (by omega)⟩
theorem S6 {ps:List Ap} {size q:Int} {m k:Nat} (h0:0≤q) (h1:q<Dj ps.length size) (hs:1≤size) (hm:q*size=(m:Int)) (hk:min size (((ps.length - m:Nat):Int))=(k:Int)):Fd ps size q=(ps.drop m).take k:=by
 unfold Fd
 rw [if_neg (by omega),hm,Int.toNat_natCast]
 refine (List.take_eq_take_iff).2 ?_
 rw [List.length_drop]
 omega
theorem N5 {ps:List Ap} {size q:Int} (h:q<0∨Dj ps.length size≤q):Fd ps size q=[]:=if_pos h
theorem ZB {n size:Int} (h:0≤n) (hs:1≤size):0≤n.tdiv size∧n.tdiv size≤n:=by
 rw [Int.tdiv_eq_ediv_of_nonneg h]
 exact ⟨Int.ediv_nonneg h (by omega),Int.ediv_le_self _ h⟩
/-! ### What is pushed, window by window -/
theorem Qw (D:AV) (J:AD) (s:Nat) (att:Int):∀ (a b:List B9) (p:Nat),DB D J s att (a++b) p=DB D J s att a p++DB D J s att b (p+a.length)
 |[],b,p=>rfl
 |w::a,b,p=>by
  show Ef D J s att w p++DB D J s att (a++b) (p+1)=Ef D J s att w p++DB D J s att a (p+1)++_
  rw [Qw D J s att a b (p+1),List.append_assoc,List.length_cons,show p+1+a.length=p+(a.length+1) by omega]
theorem XF {D:AV} {J:AD} {s:Nat} {att:Int} {ws:List B9} {k:Nat} {w:B9} (h:ws[k]?=some w):DB D J s att (ws.take (k+1)) 0=DB D J s att (ws.take k) 0++Ef D J s att w k:=by
 rw [Eo h,Qw,List.length_take,Nat.zero_add,Nat.min_eq_left (Nat.le_of_lt (Ki h))]
 show _++(Ef D J s att w k++[])=_
 rw [List.append_nil]
theorem Mz (D:AV) (J:AD) (s:Nat) (att:Int) (w:B9) (p:Nat):(Ef D J s att w p).length=(Dw w.c w.s w.x).length:=by unfold Ef;rw [List.length_map]
theorem XE {D:AV} {J:AD} {s:Nat} {att:Int} {w:B9} {p j:Nat} {q:Int} (h:(Dw w.c w.s w.x)[j]?=some q):(Ef D J s att w p).take (j+1)=(Ef D J s att w p).take j++[⟨2,s,att,p,q,0,0,0,[],C8 D J s att p q⟩]:=
 Eo (by unfold Ef;rw [List.getElem?_map,h];rfl)
theorem Qg {w:B9} (h:I1 w):(Dw w.c w.s w.x).length≤4:=by
 rw [W6]
 have:=h.1
 have:=h.2.1
 omega
theorem Ks {D:AV} {J:AD} {s:Nat} {att:Int}:∀ {ws:List B9} (p:Nat),(∀ w∈ws,I1 w)→(DB D J s att ws p).length≤4*ws.length
 |[],_,_=>Nat.zero_le _
 |w::ws,p,h=>by
  have h1:=Qg (h w (List.mem_cons_self ..))
  have h2:=Ks (D:=D) (J:=J) (s:=s) (att:=att) (p+1) fun x hx=>h x (List.mem_cons_of_mem _ hx)
  show (Ef D J s att w p++DB D J s att ws (p+1)).length≤_
  rw [List.length_append,Mz,List.length_cons]
  omega
theorem N3 {A B:AD} (h:Bf A B) (D:AV) (s:Nat) (att:Int):Bj D A s att=Bj D B s att:=by
 unfold Bj
 rw [h.split,h.parts,h.chunk]
 simp only [h.only]
theorem P3 {A B:AD} (h:Bf A B) (D:AV) (s:Nat) (att:Int):CW D A s att=CW D B s att:=by
 unfold CW Bj
 rw [h.split,h.parts,h.chunk,h.window]
 simp only [h.only]
theorem WI {A B:AD} (h:Bf A B) {D:AV} {s:Nat} {att:Int} {ws:List (Nat×B9)} {k:Nat} (hw:ws.map Prod.snd=((Bj D A s att).take k).map (RN A)) (hk:(Bj D A s att).length≤k):ws.map Prod.snd=(CW D B s att).ws:=by
 rw [hw,List.take_of_length_le hk,←P3 h];rfl
theorem QA {A B:AD} (h:Bf A B) (D:AV) (s:Nat) (att:Int):∀ (ws:List B9) (p:Nat),DB D A s att ws p=DB D B s att ws p
 |[],_=>rfl
 |w::ws,p=>by
  show Ef D A s att w p++DB D A s att ws (p+1)=Ef D B s att w p++DB D B s att ws (p+1)
  rw [QA h D s att ws]
  unfold Ef C8
  rw [h.chunk]
  simp only [h.only]
theorem aT {ws:List (Nat×B9)} {k x:Nat} (h:(ws.map Prod.fst)[k]?=some x):∃ wd,ws[k]?=some (x,wd):=by
 rw [List.getElem?_map] at h
 obtain ⟨e,he,rfl⟩:=Option.map_eq_some_iff.1 h
 exact ⟨e.2,he⟩
def ER (M:BH):Prop:=(∀ w∈M.ws,I1 w)∧M.ws.length≤1000
theorem Qc {D:AV} {J:AD} (hJ:Cb J) (s:Nat) (att:Int):ER (CW D J s att):=by
 refine ⟨Wz hJ s att,?_⟩
 have:=hJ.parts
 show ((Bj D J s att).map _).length≤_
 rw [List.length_map,N2]
 split<;>omega
theorem Hd.tellK {α:Type} {w0 w:World} {F0:AJ} {K:Kd α} {v:Value} {xs ys:List α} {As Rs:List SP} (H:Hd w0 F0 w (Y K v xs::As) Rs) (e:ys=xs):Hd w0 F0 w (Y K v ys::As) Rs:=by rw [e];exact H
structure Ds where
 fr:Int
 to:Int
 m:Dt
def Ca (x:A_ BM):Ds:=⟨x.h.fr,x.h.to,x.h.m.p x.set x.pairs⟩
theorem IV {a b:Ds}:a=b↔a.fr=b.fr∧a.to=b.to∧a.m=b.m:=by
 constructor
 ·rintro rfl;exact ⟨rfl,rfl,rfl⟩
 ·rintro ⟨h1,h2,h3⟩
  cases a;cases b
  simp only at h1 h2 h3
  subst h1 h2 h3
  rfl
instance letPD (a b:Ds):Decidable (a=b):=decidable_of_iff _ IV.symm
structure CC where
 ep:Int
 rs:List AL
 ts:List BH
 over:Bool
def C1 (r:Bu):Bool:=decide (r.kind=6)
def Lm (recs:List Bu):Int:=((1+cnt C1 recs:Nat):Int)
def E0 (C:Cf) (id:Int) (k:Nat):List Nat:=(List.range k).filter fun (p:Nat)=>decide (C4 C (p:Int)=id)
def En (C:Cf) (id:Int) (recs:List Bu) (k:Nat):List AL:=(E0 C id k).map fun (p:Nat)=>CJ C.J.us.length p (Lm recs) (recs.map Bu.p)
def E1 (C:Cf) (id:Int) (recs:List Bu):CC:=⟨Lm recs,En C id recs C.J.parts.toNat,[],false⟩
theorem O5 {C:Cf} {id:Int} {k:Nat} (h:C4 C (k:Int)=id):E0 C id (k+1)=E0 C id k++[k]:=by
 unfold E0
 rw [List.range_succ,List.filter_append]
 congr 1
 exact List.filter_cons_of_pos (decide_eq_true h)
theorem Ur {C:Cf} {id:Int} {k:Nat} (h:¬ C4 C (k:Int)=id):E0 C id (k+1)=E0 C id k:=by
 unfold E0
 rw [List.range_succ,List.filter_append]
 have e:[k].filter (fun (p:Nat)=>decide (C4 C (p:Int)=id))=[]:=List.filter_cons_of_neg (by rw [decide_eq_false h];decide)
 rw [e,List.append_nil]
theorem Uq {C:Cf} {id:Int} {k p:Nat} (h:p∈E0 C id k):p<k:=List.mem_range.1 (List.mem_filter.1 h).1
theorem O4 (C:Cf) (id:Int) (k:Nat):(E0 C id k).length≤k:=Nat.le_trans (List.length_filter_le _ _) (by simp)
theorem Yu {C:Cf} {id:Int} {recs:List Bu} {k:Nat} (h:C4 C (k:Int)=id):En C id recs (k+1)=En C id recs k++[CJ C.J.us.length k (Lm recs) (recs.map Bu.p)]:=by
 unfold En;rw [O5 h,List.map_append];rfl
theorem Yr {C:Cf} {id:Int} {recs:List Bu} {k:Nat} (h:¬ C4 C (k:Int)=id):En C id recs (k+1)=En C id recs k:=by
 unfold En;rw [Ur h]
def Df (R:AL):Int:=R.part
theorem Yt (C:Cf) (id:Int) (recs:List Bu) (k:Nat):(En C id recs k).map Df=(E0 C id k).map fun (p:Nat)=>(p:Int):=by
 unfold En
 rw [List.map_map]
 exact List.map_congr_left fun p _=>(I0 _ _ _ _).1
theorem Yp (C:Cf) (id:Int) (recs:List Bu) (k:Nat):(En C id recs k).length≤k:=by
 unfold En;rw [List.length_map];exact O4 C id k
/-! ### What it does -/
def Fj (sp att:Int) (M:BH):Bool:=decide ((M.sp:Int)=sp) && decide (M.att=att)
def D4 (ts:List BH) (sp att:Int):Bool:=ts.any (Fj sp att)
def Hs (C:Cf) (sp att:Int):Prop:=0≤sp∧sp<((C.J.us.length:Nat):Int)∧1≤att∧att≤C.t
instance runMayD (C:Cf) (sp att:Int):Decidable (Hs C sp att):=by unfold Hs;infer_instance
def Eh (D:AV) (C:Cf) (W:CC) (sp att:Int):CC:=if (W.over||D4 W.ts sp att)=true then W else if Hs C sp att then { W with ts:=W.ts++[CW D C.J sp.toNat att] } else W
def DR (D:AV) (C:Cf) (W:CC) (fr kind sp att:Int):CC:=if fr≠0 then W else if kind=1 then Eh D C W sp att else { W with ts:=[],over:=true }
def doneL (D:AV) (J:AD) (M:BH):Ds:=
 if (Ay D J M.sp).2≠0 then ⟨0,0,⟨5,M.sp,M.att,0,0,0,0,(Ay D J M.sp).2,[],[]⟩⟩ else ⟨0,0,⟨4,M.sp,M.att,0,0,0,0,0,Bj D J M.sp M.att,[]⟩⟩
def XG (C:Cf) (m:Dt):Ds:=⟨0,C4 C m.part,m⟩
def DD (D:AV) (C:Cf) (M:BH):List Ds:=doneL D C.J M::(FV D C.J M).map (XG C)
def Hm (D:AV) (J:AD) (R:AL):Ds:=⟨0,0,AG D J R⟩
def Fr (D:AV) (C:Cf) (W:CC):List Ds:=if W.over=true then [] else W.ts.flatMap (DD D C)++W.rs.map (Hm D C.J)
/-! ### In memory -/
def BI (b:Bool):Int:=if b then 1 else 0
theorem Xe (b:Bool):decide (BI b≠0)=b:=by cases b<;>rfl
structure Fa where
 sp:Int
 att:Int
 b:Nat
def Od (t:Fa):List Value:=[.int .i64 t.sp,.int .i64 t.att,.pointer (some ⟨t.b,0,none⟩)]
def Cd:Kd Fa:=flat Od 3 (by omega) (fun _=>rfl) (fun _ c h=>by simp [Od] at h;rcases h with rfl|rfl|rfl<;>rfl)
def AI (e:Nat×BH):Fa:=⟨(e.2.sp:Int),e.2.att,e.1⟩
def AF (e:Nat×AL):Int:=e.2.part
def BR (e:Nat×AL):Int×Value:=(e.2.part,.pointer (some ⟨e.1,0,none⟩))
def MH (rl:List (Nat×AL)) (p:Int):Option Addr:=match rl.find? (fun e=>decide (e.2.part=p)) with
 |some e=>some ⟨e.1,0,none⟩
 |none=>none
theorem Kf (p:Int):∀ rl:List (Nat×AL),(FR p (rl.map BR)).getD (.pointer none)=.pointer (MH rl p)
 |[]=>rfl
 |e::rl=>by
  have ih:=Kf p rl
  rw [List.map_cons]
  unfold MH at ih ⊢
  by_cases h:e.2.part=p
  ·have h1:(BR e).1=p:=h
   unfold FR
   rw [if_pos h1,List.find?_cons_of_pos (p:=fun e:Nat×AL=>decide (e.2.part=p)) (decide_eq_true h)]
   rfl
  ·have h1:¬ (BR e).1=p:=h
   unfold FR
   rw [if_neg h1,List.find?_cons_of_neg (p:=fun e:Nat×AL=>decide (e.2.part=p)) (by rw [decide_eq_false h];decide)]
   exact ih
theorem Yo {rl:List (Nat×AL)} {i:Nat} {e:Nat×AL} (hn:((rl.map BR).map fun p=>p.1).Nodup) (h:rl[i]?=some e):MH rl (e.2.part)=some ⟨e.1,0,none⟩:=by
 have h1:(rl.map BR)[i]?=some (e.2.part,.pointer (some ⟨e.1,0,none⟩)):=by rw [List.getElem?_map,h];rfl
 have h2:=L_ hn h1
 have h3:=Kf e.2.part rl
 rw [h2] at h3
 simpa using h3.symm
theorem VQ {rl:List (Nat×AL)} {b:Nat} {R:AL} {p:Int} (hp:R.part=p) (h:¬ p∈rl.map AF):GB p (.pointer (some ⟨b,0,none⟩)) (rl.map BR)=(rl++[(b,R)]).map BR:=by
 rw [KH]
 ·rw [List.map_append]
  subst hp
  rfl
 ·intro q hq
  obtain ⟨e,he,rfl⟩:=List.mem_map.1 hq
  exact fun g=>h (List.mem_map.2 ⟨e,he,g⟩)
theorem Qm {rl:List (Nat×AL)} {rs:List AL} (h:rl.map Prod.snd=rs):rl.map AF=rs.map Df:=by
 rw [←h,List.map_map];rfl
theorem SV {ts:List BH} {sp att:Int} {k:Nat} {M:BH} (hx:ts[k]?=some M) (h:Fj sp att M=true):D4 ts sp att=true:=List.any_eq_true.2 ⟨M,Ce hx,h⟩
theorem TG {ts:List BH} {sp att:Int} (h:∀ M∈ts,Fj sp att M=false):D4 ts sp att=false:=by
 unfold D4
 rw [List.any_eq_false]
 exact fun M hM=>by rw [h M hM];decide
theorem Bf.doneL {A B:AD} (h:Bf A B) (D:AV) (M:BH):doneL D A M=doneL D B M:=by
 unfold X.doneL
 rw [h.split,N3 h]
theorem EW.home {A B:Cf} (h:EW A B) (p:Int):C4 A p=C4 B p:=by
 unfold C4
 have h1:C5 A↔C5 B:=⟨h.may,h.symm.may⟩
 rw [h.J.parts,h.w]
 by_cases g:¬ C5 B∨¬ (0≤p∧p≤B.J.parts - 1)
 ·rw [if_pos g,if_pos (by rw [h1];exact g)]
 ·rw [if_neg g,if_neg (by rw [h1];exact g)]
def Cu (J:AD) (C:Cf):Cf:=⟨J,C.w,C.t,C.o⟩
theorem Jd {J:AD} {C:Cf} (h:Bf J C.J):EW (Cu J C) C:=⟨h,rfl,rfl,rfl⟩
def lf (C:Cf) (m:A_ CH):A_ BM:=⟨⟨0,C4 C m.h.part,m.h⟩,m.sv,m.set,m.pv,m.pairs⟩
theorem Rq (C:Cf) (zs:List (A_ CH)):Br (zs.map (lf C))=Br zs:=by
 unfold Br Bt
 rw [List.map_map]
 rfl
section
variable {w0 w:World} {F0:AJ} {As Rs:List SP}
theorem Hd.bigC {α:Type} {f:α→SP} {l:List α} {x:α} (h:Hd w0 F0 w (f x::Bt f l::As) Rs):Hd w0 F0 w (Bt f (x::l)::As) Rs:=by
 have h1:Hd w0 F0 w (Bt f l::(As++[f x])) Rs:=h.perm (List.perm_append_comm (l₁:=[f x]) (l₂:=Bt f l::As))
 have h2:Hd w0 F0 w (l.map f++As++[f x]) Rs:=by rw [List.append_assoc];exact h1.stA
 have h3:Hd w0 F0 w ((x::l).map f++As) Rs:=h2.perm (List.perm_append_comm (l₁:=l.map f++As) (l₂:=[f x]))
 exact h3.stI
theorem Hd.twC {α:Type} {r:A_ α} {us:List (A_ α)} (H:Hd w0 F0 w (Y (Ai .i64) r.sv r.set::Y Ag r.pv r.pairs::Br us::As) Rs):Hd w0 F0 w (Br (r::us)::As) Rs:=
 Hd.bigC (f:=EC) (show Hd w0 F0 w (EC r::Bt EC us::As) Rs from Hd.stI (Bs:=[Y (Ai .i64) r.sv r.set,Y Ag r.pv r.pairs]) H)
theorem Rt {α:Type} {a b:List (A_ α)} (H:Hd w0 F0 w (Br a::Br b::As) Rs):Hd w0 F0 w (Br (a++b)::As) Rs:=by
 have h1:Hd w0 F0 w (a.map EC++(Br b::As)) Rs:=Hd.stA (Bs:=a.map EC) H
 have h2:Hd w0 F0 w (Br b::(a.map EC++As)) Rs:=h1.perm List.perm_middle
 have h3:Hd w0 F0 w (b.map EC++(a.map EC++As)) Rs:=Hd.stA (Bs:=b.map EC) h2
 have h4:Hd w0 F0 w ((a++b).map EC++As) Rs:=h3.perm (by
  rw [List.map_append,List.append_assoc]
  exact (List.perm_append_comm_assoc _ _ _))
 exact h4.stI
end
theorem P0 {zs:List (A_ CH)} {k:Nat} {x:D2 CH} (hx:(zs.map AY)[k]?=some x):∃ m,zs[k]?=some m∧x=AY m:=by
 rw [List.getElem?_map] at hx
 obtain ⟨m,hm,rfl⟩:=Option.map_eq_some_iff.1 hx
 exact ⟨m,hm,rfl⟩
theorem Qz (D:AV) (J:AD) (s:Nat) (att:Int):∀ (ws:List B9) (p:Nat) (m:Dt),m∈DB D J s att ws p→∃ q:Nat,m.part=(q:Int)∧q<p+ws.length
 |[],_,_,h=>by cases h
 |w::ws,p,m,h=>by
  have h':m∈Ef D J s att w p++DB D J s att ws (p+1):=h
  rcases List.mem_append.1 h' with g|g
  ·obtain ⟨q,_,rfl⟩:=List.mem_map.1 g
   exact ⟨p,rfl,by rw [List.length_cons];omega⟩
  ·obtain ⟨q,h1,h2⟩:=Qz D J s att ws (p+1) m g
   exact ⟨q,h1,by rw [List.length_cons];omega⟩
theorem Qy {D:AV} {J:AD} {M:BH} (hM:ER M) {zs:List (A_ CH)} (hz:zs.map FS=FV D J M) {k:Nat} {m:A_ CH} (hm:zs[k]?=some m):AA m.h.part:=by
 have h1:FS m∈FV D J M:=by rw [←hz];exact List.mem_map_of_mem (List.mem_of_getElem? hm)
 obtain ⟨q,h2,h3⟩:=Qz D J M.sp M.att M.ws 0 _ h1
 have h4:=hM.2
 have h5:m.h.part=(q:Int):=h2
 unfold AA
 omega
theorem P1 {D:AV} {J:AD} {M:BH} (hM:ER M) {zs:List (A_ CH)} (hz:zs.map FS=FV D J M):zs.length≤4000:=by
 have h1:=congrArg List.length hz
 rw [List.length_map] at h1
 have h2:=Ks (D:=D) (J:=J) (s:=M.sp) (att:=M.att) 0 hM.1
 have h3:=hM.2
 have h4:(FV D J M).length=(DB D J M.sp M.att M.ws 0).length:=rfl
 omega
theorem ZE {D:AV} {C:Cf} {M:BH} {z0:A_ BM} {zs:List (A_ CH)} (h0:Ca z0=doneL D C.J M) (hz:zs.map FS=FV D C.J M):(z0::zs.map (lf C)).map Ca=DD D C M:=by
 unfold DD
 rw [List.map_cons,h0,←hz,List.map_map,List.map_map]
 rfl
theorem ZF {D:AV} {C:Cf} {M:BH} (hM:ER M):(DD D C M).length≤4001:=by
 have h2:=Ks (D:=D) (J:=C.J) (s:=M.sp) (att:=M.att) 0 hM.1
 have h3:=hM.2
 have h4:(FV D C.J M).length=(DB D C.J M.sp M.att M.ws 0).length:=rfl
 unfold DD
 rw [List.length_cons,List.length_map]
 omega
theorem Bf.hello {A B:AD} (h:Bf A B) (D:AV) (R:AL):AG D A R=AG D B R:=by
 unfold AG
 rw [h.out,h.len]
theorem TM {α β:Type} {f:α→List β} {l:List α} {k:Nat} {x:α} (h:l[k]?=some x):(l.take (k+1)).flatMap f=(l.take k).flatMap f++f x:=by
 rw [Eo h,List.flatMap_append]
 simp
theorem Mf {α β:Type} {f:α→β} {l:List α} {k:Nat} {x:α} (h:l[k]?=some x):(l.take (k+1)).map f=(l.take k).map f++[f x]:=by
 rw [Eo h,List.map_append]
 rfl
theorem Un {D:AV} {J:AD} {R:AL}:(AG D J R).pairs=[]:=by
 unfold AG
 split<;>rfl
theorem Wv {m:Dt} (h:m.pairs=[]):(⟨m.kind,m.sp,m.att,m.part,m.seq,m.next,m.ep,m.why,m.set,[]⟩:Dt)=m:=by
 cases m
 simp only at h
 subst h
 rfl
theorem Xx {rl:List (Nat×AL)} {rs:List AL} (hrl:rl.map Prod.snd=rs) {k:Nat} {x:Int} (hx:(rl.map AF)[k]?=some x):∃ e,rl[k]?=some e∧rs[k]?=some e.2∧x=AF e:=by
 rw [List.getElem?_map] at hx
 obtain ⟨e,he,rfl⟩:=Option.map_eq_some_iff.1 hx
 exact ⟨e,he,by rw [←hrl,List.getElem?_map,he];rfl,rfl⟩
theorem Yq {C:Cf} {id:Int} {recs:List Bu} {p:Nat} {rl:List (Nat×AL)} (hrl:rl.map Prod.snd=En C id recs p):¬ ((p:Nat):Int)∈rl.map AF:=fun h=>by
 rw [Qm hrl,Yt] at h
 obtain ⟨q,hq,e⟩:=List.mem_map.1 h
 have:=Uq hq
 omega
def CS (u:Value):Cf:=⟨⟨[(u,DA)],1,DP,[],DP,1,1,9,[]⟩,1,2,1⟩
theorem MT (u:Value):C5 (CS u):=by
 refine ⟨⟨(show 1≤((1:Nat):Int)∧((1:Nat):Int)≤6 by decide),(show (1:Int)≤1∧(1:Int)≤4 by decide),(show 0≤4 by decide),?_,?_,(show 0<DP.length∧Dz DP<0 by decide+kernel),(show 0<DP.length∧Dz DP<0 by decide+kernel),(show Dz []<0 by decide+kernel),
  (show (1:Int)≤1∧(1:Int)≤7 by decide),(show (1:Int)≤1∧(1:Int)≤4 by decide),(show (1:Int)≤9∧(9:Int)≤2000 by decide)⟩,(show (1:Int)≤1∧(1:Int)≤4 by decide),(show (1:Int)≤2∧(2:Int)≤3 by decide),(show (1:Int)≤1∧(1:Int)≤50 by decide)⟩
 ·intro x hx
  rw [List.mem_singleton.1 hx]
  show GW DA
  decide
 ·show Gu ((1:Nat):Int) 0 []
  decide
theorem Za (u:Value):Cb (CS u).J:=⟨(MT u).1,LS,(fun i h=>by cases h),LS⟩
theorem YO (D:AV) (a:Value):mapM D ⟨[(a,DA)],1,DP,[],DP,1,1,9,[]⟩ 0=(DA,0):=by kernel_rfl
theorem Q_ (D:AV) (a:Value):Ay D (CS a).J 0=(DA,0):=by
 show Ay D ⟨[(a,DA)],1,DP,[],DP,1,1,9,[]⟩ 0=_
 unfold Ay
 rw [YO]
 show (srt DA,(0:Int))=_
 rw [show srt DA=DA by decide]
theorem YQ (D:AV) (a:Value):(Cy D (CS a).J 0 0).length=1:=by
 unfold Cy
 rw [Q_]
 kernel_rfl
theorem YN {D:AV} {u:Value} (att:Int):Bj D (CS u).J 0 att=[Dj 1 (Dk 1 att)]:=by
 unfold Bj
 rw [Q_]
 show [Dj ((Cy D (CS u).J 0 0).length:Nat) (Dk 1 att)]=_
 rw [YQ]
 rfl
theorem YP {D:AV} {u:Value}:CW D (CS u).J 0 1=⟨0,1,[⟨1,1,0,0⟩]⟩:=by
 unfold CW
 rw [YN]
 rfl
theorem Q9 (u:Value):C4 (CS u) 0=1:=by
 unfold C4
 rw [if_neg (fun h=>h.elim (fun g=>g (MT u)) (fun g=>g ⟨by decide,show (0:Int)≤1 - 1 by decide⟩))]
 rfl
def EP:Bu:=⟨6,0,0,0,0,P8,[],P8,[]⟩
theorem VW {w:World} {F:AJ} {n:Nat}:∀ r∈List.replicate n EP,(Z (Ai .i64) r.sv r.set).P w F∧(Z Ag r.pv r.pairs).P w F:=fun r hr=>by
 rw [List.eq_of_mem_replicate hr]
 exact ⟨GZ _ _ _ trivial (by decide),GZ _ _ _ trivial (by decide)⟩
theorem VX {n:Nat}:∀ r∈List.replicate n EP,(AA r.sp∧r.set.length≤1000)∧r.pairs.length≤1000:=fun r hr=>by
 rw [List.eq_of_mem_replicate hr]
 exact ⟨⟨by unfold AA EP;decide,Nat.zero_le _⟩,Nat.zero_le _⟩
theorem aF (u:Value):E1 (CS u) 1 [EP]=⟨2,[CJ 1 0 2 [EP.p]],[],false⟩:=by
 have h:E0 (CS u) 1 1=[0]:=O5 (k:=0) (Q9 u)
 unfold E1 En
 rw [show (CS u).J.parts.toNat=1 from rfl,h]
 rfl
theorem aG (D:AV) (u:Value):Fr D (CS u) ⟨2,[CJ 1 0 2 [EP.p]],[],false⟩=[⟨0,0,⟨6,0,0,0,0,0,2,0,[],[]⟩⟩]:=rfl
theorem aE (D:AV) (u:Value) (R:List AL):DR D (CS u) ⟨2,R,[],false⟩ 0 1 0 1=⟨2,R,[CW D (CS u).J 0 1],false⟩:=rfl
theorem aH (D:AV) (u:Value):∃ a y c,Fr D (CS u) ⟨2,[CJ 1 0 2 [EP.p]],[CW D (CS u).J 0 1],false⟩=[a,y,c]∧y.to=1∧y.m.kind=2:=by
 rw [YP]
 exact ⟨_,_,_,rfl,Q9 u,rfl⟩
theorem L8 {zs:List (A_ BM)} {l:List Ds} (h:zs.map Ca=l) {k:Nat} {x:A_ BM} (hx:zs[k]?=some x):l[k]?=some (Ca x):=by
 rw [←h,List.getElem?_map,hx];rfl
/-! ### Each part has one home -/
theorem WB (C:Cf) (id:Int) (recs:List Bu):(E1 C id recs).rs.length=(E0 C id C.J.parts.toNat).length:=by
 show (En C id recs C.J.parts.toNat).length=_
 unfold En
 rw [List.length_map]
theorem Hg:Ec Tryz.prog 121=some (#[.int .i64 0,.int .i64 0,.int .i64 0,.int .i64 0,.int .i64 0,.int .i64 0,.int .i64 0,.int .i64 0,.int .i64 0,.int .i64 0,.slice none 0 0,.slice none 0 0],#[(0,1),(1,1),(2,10)]):=by kernel_rfl
theorem Sb:Ec Tryz.prog 210=some (#[.slice none 0 0,.int .i64 0,.slice none 0 0,.slice none 0 0,.slice none 0 0,.int .i64 0,.int .i64 0,.int .i64 0,.slice none 0 0,.int .i64 0,.int .i64 0,.int .i64 0,.int .i64 0,.slice none 0 0,.map none,.slice none 0 0,.int .u32 0],#[(0,12),(12,1),(13,1),(14,1),(15,1),(16,1)]):=by kernel_rfl
theorem Sc:Ec Tryz.prog 215=some (#[.int .i64 0,.int .i64 0,.pointer none],#[(0,1),(1,1),(2,1)]):=by kernel_rfl
theorem Oq:Bm Tryz.prog 121 0=some 0:=by kernel_rfl
theorem JP:Bm Tryz.prog 121 1=some 1:=by kernel_rfl
theorem II:Bm Tryz.prog 121 2=some 2:=by kernel_rfl
theorem IK:Bm Tryz.prog 210 0=some 0:=by kernel_rfl
theorem JU:Bm Tryz.prog 210 1=some 12:=by kernel_rfl
theorem JV:Bm Tryz.prog 210 2=some 13:=by kernel_rfl
theorem LA:Bm Tryz.prog 210 3=some 14:=by kernel_rfl
theorem HP:Bm Tryz.prog 210 4=some 15:=by kernel_rfl
theorem Ox:Bm Tryz.prog 210 5=some 16:=by kernel_rfl
theorem LB:Bm Tryz.prog 215 0=some 0:=by kernel_rfl
theorem LC:Bm Tryz.prog 215 1=some 1:=by kernel_rfl
theorem IL:Bm Tryz.prog 215 2=some 2:=by kernel_rfl
theorem Pa:(Tryz.prog.info? 116).map (·.size)=some 4:=by kernel_rfl
theorem UT:AN Tryz.prog 139:=AR Tryz.func139 rfl rfl
theorem UU:AN Tryz.prog 140:=AR Tryz.func140 rfl rfl
theorem UV:AN Tryz.prog 141:=AR Tryz.func141 rfl rfl
theorem UW:AN Tryz.prog 143:=AR Tryz.func143 rfl rfl
theorem H_:AN Tryz.prog 68:=AR Tryz.func68 rfl rfl
theorem PA:AN Tryz.prog 69:=AR Tryz.func69 rfl rfl
theorem Ia:AN Tryz.prog 70:=AR Tryz.func70 rfl rfl
theorem Ka:AN Tryz.prog 72:=AR Tryz.func72 rfl rfl
theorem L4:AN Tryz.prog 73:=AR Tryz.func73 rfl rfl
theorem L5:AN Tryz.prog 74:=AR Tryz.func74 rfl rfl
theorem PB:AN Tryz.prog 75:=AR Tryz.func75 rfl rfl
theorem Kb:AN Tryz.prog 76:=AR Tryz.func76 rfl rfl
theorem VL:AN Tryz.prog 77:=AR Tryz.func77 rfl rfl
theorem DL:C7 Tryz.prog 115=some (121,12,128):=by kernel_rfl
theorem KM:C7 Tryz.prog 203=some (215,3,24):=by kernel_rfl
theorem Rv:Ch Tryz.prog 121=some (true,12):=by kernel_rfl
theorem MZ:Ch Tryz.prog 202=some (false,1):=by kernel_rfl
theorem Iu:Ch Tryz.prog 203=some (false,1):=by kernel_rfl
theorem Jq:Ch Tryz.prog 215=some (true,3):=by kernel_rfl
theorem G8:Tryz.prog.underlying 112=some (.pointer 210):=by kernel_rfl
theorem GG:Tryz.prog.underlying 115=some (.slice 121):=by kernel_rfl
theorem Ry:Tryz.prog.underlying 116=some (.array 4 4):=by kernel_rfl
theorem Rz:Tryz.prog.underlying 117=some (.array 6 116):=by kernel_rfl
theorem M0:Tryz.prog.underlying 202=some (.map 3 75):=by kernel_rfl
theorem M2:Tryz.prog.underlying 203=some (.slice 215):=by kernel_rfl
theorem bC:CY Tryz.prog 117=some (.agg #[.bool false,.bool false,.bool false,.bool false,.bool false,.bool false,.bool false,.bool false,.bool false,.bool false,.bool false,.bool false,.bool false,.bool false,.bool false,.bool false,.bool false,.bool false,.bool false,.bool false,.bool false,.bool false,.bool false,.bool false]):=by kernel_rfl
theorem E9:CY Tryz.prog 121=some (.agg #[.int .i64 0,.int .i64 0,.int .i64 0,.int .i64 0,.int .i64 0,.int .i64 0,.int .i64 0,.int .i64 0,.int .i64 0,.int .i64 0,.slice none 0 0,.slice none 0 0]):=by kernel_rfl
theorem K6:CY Tryz.prog 215=some (.agg #[.int .i64 0,.int .i64 0,.pointer none]):=by kernel_rfl
theorem RU:CY Tryz.prog 75=some (.pointer none):=by kernel_rfl
theorem Nf:Hf Tryz.prog 3 BO:=UE Dr
theorem Rc (va:Value) (a:List (A_ BM)) (vb:Value) (b:List (A_ BM)):
    Cn Tryz.prog 75 [va,vb] [] [Z BZ va a,Z BZ vb b] (fun v Bs=>v=.bool (decide (a.map Ca=b.map Ca))∧Bs=[]):=by
 intro w0 F0 H
 obtain ⟨A1,c2,rfl,hc3,hm4,hp5⟩:=H.fR 0 rfl
 obtain ⟨A6,c7,rfl,hc8,hm9,hp10⟩:=H.fR 1 rfl
 refine enter Tryz.func75 U U (Nat.le_of_ble_eq_true U) (Ab (Ae (Ad U (Ac (Aa ?_)))))
 replace H:Hd _ _ _ [] [Z BZ (.slice A1 a.length c2) a,Z BZ (.slice A6 b.length c7) b]:=H
 refine Ab (Ab (Ae (Ad U (V U U (A8 U GG U) (Ad U (V U U (A8 U GG U) (V U U (CX U U U) (Ac (Aa ?_)))))))))
 refine Ax U (fun h11=>?_) (fun h11=>?_)
 ·refine Ab (Ae (Ad U (Ac (Aa (An (Az (Aq U U ?_)))))))
  have e:¬ a.map Ca=b.map Ca:=fun e=>by have:=congrArg List.length e;rw [List.length_map,List.length_map] at this;omega
  exact Al ⟨by rw [decide_eq_false e]<;>rfl,rfl⟩ H
 refine Av (Aa (Ab (Ab (Ae (Ad U (Ac (Aa (AS ?_))))))))
 have hle:a.length=b.length:=by omega
 refine BQ (σ:=Nat) (fun k=>[(0,.slice A1 a.length c2),(1,.slice A6 b.length c7),(5,.int .i64 ((k:Nat):Int))]) (fun k w=>(Hd w0 F0 w [] [Z BZ (.slice A1 a.length c2) a,Z BZ (.slice A6 b.length c7) b])∧(k≤a.length)∧(a.length=b.length)∧((a.take k).map Ca=(b.take k).map Ca)) (fun k=>a.length - k) 0 ⟨rfl,rfl,rfl,trivial⟩ ⟨H,by omega,hle,rfl⟩ ?_
 rintro k w ⟨H,hk,hle,ht⟩
 refine Ab (Ab (Ae (Ah 2 U (V U U (A8 U GG U) (V U U (Bd U U U) (Ac (Aa ?_)))))))
 refine Ax U (fun h12=>?_) (fun h12=>?_)
 ·refine Av (Aa (Ab (AS (Ab (BY (.e 0 (.e 1 (.e 2 (.e 3 (.e 4 (.e 5 (.e 6 (.e 7 (.e 8 (.e 9 (.e 10 (.e 11 (.e 12 (.e 13 (.e 14 (.e 15 (.e 16 (.e 17 (.e 18 (.e 19 (.e 20 (.e 21 (.e 22 (.e 23 (.e 24 (.e 25 (.e 26 (.e 27 (.e 28 (.e 29 (.e 30 (.e 31 (.e 32 (.e 33 (.e 34 (.m 35 (.e 36 (.e 37 .z)))))))))))))))))))))))))))))))))))))) (fun w=>∃ Ar,Hd w0 F0 w (Ar) [Z BZ (.slice A1 a.length c2) a,Z BZ (.slice A6 b.length c7) b]) mo (by kernel_rfl) (fun w H=>⟨_,H⟩) H (fun w H=>(Au U (Au U ?_))))))))
  obtain ⟨⟨⟨a15,a16,⟨a17,a18,a19,a20,a21,a22,a23,a24⟩⟩,sv25,se26,pv27,pr28⟩,hx14⟩:∃ z9,a[k]?=some z9:=⟨_,List.getElem?_eq_getElem (show k<a.length by omega)⟩
  obtain ⟨A29,c30,A31,c32,rfl,rfl,m33,m34,m35,m36⟩:=H.nestRt 0 rfl hx14
  have th37:=H.thRt 0 rfl hx14
  refine Ao U U U (fun w ⟨Ar,H⟩=>AZ (p:=AP A1+k*12) U DL U U (by omega) (by omega) th37 U) (Ao U U U (fun w ⟨Ar,H⟩=>Aj U Oq U) (Ao U U U (fun w ⟨Ar,H⟩=>Ak U AB U (H.elRt 0 U hx14 (q:=0) U U)) (Au U (Au U ?_))))
  obtain ⟨⟨⟨a40,a41,⟨a42,a43,a44,a45,a46,a47,a48,a49⟩⟩,sv50,se51,pv52,pr53⟩,hx39⟩:∃ z9,b[k]?=some z9:=⟨_,List.getElem?_eq_getElem (show k<b.length by omega)⟩
  obtain ⟨A54,c55,A56,c57,rfl,rfl,m58,m59,m60,m61⟩:=H.nestRt 1 rfl hx39
  have th62:=H.thRt 1 rfl hx39
  refine Ao U U U (fun w ⟨Ar,H⟩=>AZ (p:=AP A6+k*12) U DL U U (by omega) (by omega) th62 U) (Ao U U U (fun w ⟨Ar,H⟩=>Aj U Oq U) (Ao U U U (fun w ⟨Ar,H⟩=>Ak U AB U (H.elRt 1 U hx39 (q:=0) U U)) (Ao U U U (fun w ⟨Ar,H⟩=>CX U U U) (Au U ?_))))
  refine IG (d:=28) U (fun h63=>?_) (fun h63=>?_)
  ·refine Au U (Au U (Au U (Au U (Au U (Au U (Au U (Au U (Au U (Au U (Au U (Au U (Au U (Au U (Au U (Au U (Au U (Au U (Au U (Au U (Au U (Au U (Au U (Li U ⟨_,H⟩ U U (Au U (Au U (BP (Aa (Cw U (Ab (Ae (Ad U (Ac (Aa (An (A0 (Az (Az (A0 (Az (Aq U U ?_))))))))))))))))))))))))))))))))))))))))
   have e:¬ a.map Ca=b.map Ca:=fun e=>by obtain ⟨g1,g2,g3⟩:=IV.1 (Mg hx14 hx39 e);first |exact absurd g1 h63|exact absurd g2 h63|exact absurd g3 h63
   replace H:Hd _ _ _ [] [Z BZ (.slice A1 a.length c2) a,Z BZ (.slice A6 b.length c7) b]:=H
   exact Al ⟨by rw [decide_eq_false e]<;>rfl,rfl⟩ H
  refine Au U (Au U ?_)
  have th64:=H.thRt 0 rfl hx14
  refine Ao U U U (fun w ⟨Ar,H⟩=>AZ (p:=AP A1+k*12) U DL U U (by omega) (by omega) th64 U) (Ao U U U (fun w ⟨Ar,H⟩=>Aj U JP U) (Ao U U U (fun w ⟨Ar,H⟩=>Ak U AB U (H.elRt 0 U hx14 (q:=1) U U)) (Au U (Au U ?_))))
  have th65:=H.thRt 1 rfl hx39
  refine Ao U U U (fun w ⟨Ar,H⟩=>AZ (p:=AP A6+k*12) U DL U U (by omega) (by omega) th65 U) (Ao U U U (fun w ⟨Ar,H⟩=>Aj U JP U) (Ao U U U (fun w ⟨Ar,H⟩=>Ak U AB U (H.elRt 1 U hx39 (q:=1) U U)) (Ao U U U (fun w ⟨Ar,H⟩=>CX U U U) (Au U (Au U ?_)))))
  refine IG (d:=41) U (fun h66=>?_) (fun h66=>?_)
  ·refine Au U (Au U (Au U (Au U (Au U (Au U (Au U (Au U (Au U (Au U (Li U ⟨_,H⟩ U U (Au U (Au U (BP (Aa (Cw U (Ab (Ae (Ad U (Ac (Aa (An (A0 (Az (Az (A0 (Az (Aq U U ?_)))))))))))))))))))))))))))
   have e:¬ a.map Ca=b.map Ca:=fun e=>by obtain ⟨g1,g2,g3⟩:=IV.1 (Mg hx14 hx39 e);first |exact absurd g1 h66|exact absurd g2 h66|exact absurd g3 h66
   replace H:Hd _ _ _ [] [Z BZ (.slice A1 a.length c2) a,Z BZ (.slice A6 b.length c7) b]:=H
   exact Al ⟨by rw [decide_eq_false e]<;>rfl,rfl⟩ H
  refine Au U (Au U ?_)
  have th67:=H.thRt 0 rfl hx14
  refine Ao U U U (fun w ⟨Ar,H⟩=>AZ (p:=AP A1+k*12) U DL U U (by omega) (by omega) th67 U) (Ao U U U (fun w ⟨Ar,H⟩=>Aj U II U) (Ao U U U (fun w ⟨Ar,H⟩=>Bq (cs:=[.int .i64 a17,.int .i64 a18,.int .i64 a19,.int .i64 a20,.int .i64 a21,.int .i64 a22,.int .i64 a23,.int .i64 a24,.slice A29 se26.length c30,.slice A31 pr28.length c32]) U E6 U U (H.elsRt 0 U hx14 2 10 U U)) (Au U (Au U ?_))))
  have th68:=H.thRt 1 rfl hx39
  refine Ao U U U (fun w ⟨Ar,H⟩=>AZ (p:=AP A6+k*12) U DL U U (by omega) (by omega) th68 U) (Ao U U U (fun w ⟨Ar,H⟩=>Aj U II U) (Ao U U U (fun w ⟨Ar,H⟩=>Bq (cs:=[.int .i64 a42,.int .i64 a43,.int .i64 a44,.int .i64 a45,.int .i64 a46,.int .i64 a47,.int .i64 a48,.int .i64 a49,.slice A54 se51.length c55,.slice A56 pr53.length c57]) U E6 U U (H.elsRt 1 U hx39 2 10 U U)) (AO U (sc (Y4 (⟨a17,a18,a19,a20,a21,a22,a23,a24⟩:CH) (.slice A29 se26.length c30) se26 (.slice A31 pr28.length c32) pr28 (⟨a42,a43,a44,a45,a46,a47,a48,a49⟩:CH) (.slice A54 se51.length c55) se51 (.slice A56 pr53.length c57) pr53) H (lX (fun F hA hR=>KS (hR _ (List.mem_of_getElem? (i:=0) U)) hx14) (lX (fun F hA hR=>KR (hR _ (List.mem_of_getElem? (i:=0) U)) hx14) (lX (fun F hA hR=>KS (hR _ (List.mem_of_getElem? (i:=1) U)) hx39) (lX (fun F hA hR=>KR (hR _ (List.mem_of_getElem? (i:=1) U)) hx39) l0)))) U U (At VK U U) ?_))))
  rintro _ _ w ⟨rfl,rfl⟩ H
  replace H:Hd _ _ _ [] [Z BZ (.slice A1 a.length c2) a,Z BZ (.slice A6 b.length c7) b]:=H
  refine AE ⟨_,H⟩ (Ao U U U (fun w ⟨Ar,H⟩=>D_ U U) (Au U (BP (Aa ?_))))
  refine Ax U (fun h69=>?_) (fun h69=>?_)
  ·refine Ab (Ae (Ad U (Ac (Aa (An (A0 (Az (Az (A0 (Az (Aq U U ?_)))))))))))
   have e:¬ a.map Ca=b.map Ca:=fun e=>by obtain ⟨g1,g2,g3⟩:=IV.1 (Mg hx14 hx39 e);first |exact absurd g1 h69|exact absurd g2 h69|exact absurd g3 h69
   exact Al ⟨by rw [decide_eq_false e]<;>rfl,rfl⟩ H
  refine Av (AU (Aa (Ae (Ad U (V U U (AT (z:=((k+1:Nat):Int)) U U U (by rw [AC (by omega) (by omega)];omega)) (Ad U (Ac ?_)))))))
  have e3:Ca (⟨⟨a15,a16,⟨a17,a18,a19,a20,a21,a22,a23,a24⟩⟩,.slice A29 se26.length c30,se26,.slice A31 pr28.length c32,pr28⟩:A_ BM)=Ca (⟨⟨a40,a41,⟨a42,a43,a44,a45,a46,a47,a48,a49⟩⟩,.slice A54 se51.length c55,se51,.slice A56 pr53.length c57,pr53⟩:A_ BM):=IV.2 ⟨by first |assumption|exact Classical.not_not.1 (by assumption),by first |assumption|exact Classical.not_not.1 (by assumption),by first |assumption|exact Classical.not_not.1 (by assumption)⟩
  exact Bi (s:=k) (k+1) ⟨rfl,rfl,rfl,trivial⟩ ⟨H,by (try dsimp only);omega,hle,Wf hx14 hx39 e3 ht⟩ (by (try dsimp only);omega)
 refine BC (AM (AM (BD (Aa (Ab (Ae (Ad U (Ac (Aa (An (Aq U U ?_)))))))))))
 have e:a.map Ca=b.map Ca:=by rw [←GD (xs:=a) (k:=k) (by omega),←GD (xs:=b) (k:=k) (by omega)];exact ht
 exact Al ⟨by rw [decide_eq_true e]<;>rfl,rfl⟩ H
theorem S7 (c:Int) (a:Int) (hc:1≤c∧c≤7):
    Cn Tryz.prog 168 [.int .i64 c,.int .i64 a] [] [] (fun v Bs=>v=.int .i64 (Dk c a)∧Bs=[]):=by
 intro w0 F0 H
 refine enter Tryz.func168 U U (Nat.le_of_ble_eq_true U) (Ab (Ae (Ad U (Ac (Aa (Ab (Ab (Ae (Ad U (V U U (Ky (z:=a.tmod 2) U U U (by omega) U) (V U U (CX U U U) (Ac (Aa ?_)))))))))))))
 refine Ax U (fun h1=>?_) (fun h1=>?_)
 ·refine Ab (Ae (Ad U (V U U (AT (z:=c+1) U U U (AC (by omega) (by omega))) (Ad U (Ac (Aa (An (Az (Aq U U ?_)))))))))
  replace H:Hd _ _ _ [] []:=H
  exact Al ⟨congrArg (Value.int .i64) (if_pos h1).symm,rfl⟩ H
 refine Av (Aa (Ab (Ae (Ah 2 U (Ac (Aa (An (Aq U U ?_))))))))
 replace H:Hd _ _ _ [] []:=H
 exact Al ⟨congrArg (Value.int .i64) (if_neg h1).symm,rfl⟩ H
theorem Lh (n:Int) (size:Int) (hn:0≤n∧n≤1000000):
    Cn Tryz.prog 105 [.int .i64 n,.int .i64 size] [] [] (fun v Bs=>v=.int .i64 (Dj n size)∧Bs=[]):=by
 intro w0 F0 H
 refine enter Tryz.func105 U U (Nat.le_of_ble_eq_true U) (Ab (Ae (Ad U (Ac (Aa (Ab (Ab (Ae (Ad U (V U U (Bd U U U) (Ad U ?_)))))))))))
 refine AK (d:=7) U (fun h1=>?_) (fun h1=>?_)
 ·refine Ah 3 U (Ac (Aa (Cw U (Ab (Ae (Ad U (Ac (Aa (An (Az (Aq U U ?_)))))))))))
  replace H:Hd _ _ _ [] []:=H
  exact Al ⟨congrArg (Value.int .i64) (if_pos (by omega)).symm,rfl⟩ H
 refine Ad U (V U U (Bd U U U) (Ad U (Ac (Aa ?_))))
 refine Ax U (fun h2=>?_) (fun h2=>?_)
 ·refine Ab (Ae (Ad U (Ac (Aa (An (Az (Aq U U ?_)))))))
  replace H:Hd _ _ _ [] []:=H
  exact Al ⟨congrArg (Value.int .i64) (if_pos (by omega)).symm,rfl⟩ H
 refine Av (Aa (Ab ?_))
 have htd:=ZB (n:=n - 1) (size:=size) (by omega) (by omega)
 refine Ae (Ad U (V U U (CK (z:=n - 1) U U U (AC (by omega) (by omega))) (Ad U (V U U (X3 (z:=(n - 1).tdiv size) U U U (by omega) (AC (by omega) (by omega))) (V U U (AT (z:=((n - 1).tdiv size)+1) U U U (AC (by omega) (by omega))) (Ad U (Ac (Aa (An (Aq U U ?_))))))))))
 replace H:Hd _ _ _ [] []:=H
 exact Al ⟨congrArg (Value.int .i64) (if_neg (by omega)).symm,rfl⟩ H
theorem S5 (vps:Value) (ps:List Ap) (size:Int) (q:Int) (hl:ps.length≤1000) (hs:1≤size∧size≤8):
    Cn Tryz.prog 113 [vps,.int .i64 size,.int .i64 q] [] [Z Ag vps ps] (fun v Bs=>Bs=[Y Ag v (Fd ps size q)]):=by
 intro w0 F0 H
 obtain ⟨A1,c2,rfl,hc3,hm4,hp5⟩:=H.fR 0 rfl
 refine enter Tryz.func113 U U (Nat.le_of_ble_eq_true U) (Ab (Ae (Ad U (Ac (Aa ?_)))))
 replace H:Hd _ _ _ [] [Z Ag (.slice A1 ps.length c2) ps]:=H
 refine Ab (Ab (Ae (Ad U (V U U (Bd U U U) (Ad U ?_)))))
 refine AK (d:=10) U (fun h6=>?_) (fun h6=>?_)
 ·refine Ah 7 U (Ac (Aa (Cw U (Ab (Ae (Ad U (Ac (Aa (An (Az (Aq U U ?_)))))))))))
  replace H:=H.newnil Ag|>.tellK (ys:=Fd ps size q) (by rw [N5 (by omega)])|>.h1 (A:=Y Ag (.slice none 0 0) (Fd ps size q))
  exact Al U H
 refine Ah 2 U (V U U (A8 U Db U) (Ad U (sc (Lh ((ps.length:Nat):Int) size (by first |assumption|omega|(simp only [List.length_take,List.length_drop];omega))) H l0 U U (At LT U U) ?_)))
 rintro _ _ w ⟨rfl,rfl⟩ H
 refine V U U (CR U U U) (Ad U (Ac (Aa ?_)))
 refine Ax U (fun h7=>?_) (fun h7=>?_)
 ·refine Ab (Ae (Ad U (Ac (Aa (An (Az (Aq U U ?_)))))))
  replace H:=H.newnil Ag|>.tellK (ys:=Fd ps size q) (by rw [N5 (by omega)])|>.h1 (A:=Y Ag (.slice none 0 0) (Fd ps size q))
  exact Al U H
 refine Av (Aa (Ab ?_))
 have hlo:=SK (n:=ps.length) (size:=size) (q:=q) (by omega) (by omega) hs.1
 obtain ⟨m,hm⟩:∃ m:Nat,q*size=(m:Int):=⟨(q*size).toNat,by omega⟩
 obtain ⟨k,hk⟩:∃ k:Nat,min size (((ps.length - m:Nat):Int))=(k:Int):=⟨(min size (((ps.length - m:Nat):Int))).toNat,by omega⟩
 refine Ae (Ah 3 U (V U U (GX (z:=((m:Nat):Int)) U U U (by rw [hm];exact AC (by omega) (by omega))) (V U U (I7 U BB U U (by omega) (by omega) U) (Ad U (Ac (Aa (Ab (Ae (Ah 3 U (V U U (A8 U Db U) (V U U (Hr (z:=((k:Nat):Int)) U U U hk) (V U U (Ku U BB U U (by omega) (by omega) U) (sc (JF (.slice (DO A1 c2 m 2) k (c2 - m)) ((ps.drop m).take k) (by first |assumption|omega|(simp only [List.length_take,List.length_drop];omega))) H (lX (fun F hA hR=>KD (hR _ (List.mem_of_getElem? (i:=0) U)) (i:=m) (m':=k) (by omega)) l0) U U (At J3 U U) ?_)))))))))))))
 rintro v8 _ w rfl H
 replace H:=H.h1 (A:=Y Ag v8 ((ps.drop m).take k))
 refine Ad U (Ac (Aa (An (Aq U U ?_))))
 replace H:=H.tellK (ys:=Fd ps size q) (by rw [S6 (by omega) (by omega) hs.1 hm hk])|>.h1 (A:=Y Ag v8 (Fd ps size q))
 exact Al U H
theorem NX (vb:Value) (bs:List UInt8) (n:Nat) (hb:bs.length≤1000000) (hn:n<9223372036854775808):
    Cn Tryz.prog 159 [vb,.int .i64 ((n:Nat):Int)] [] [Z B_ vb bs] (fun v Bs=>Bs=[Y B_ v (bs++Ck n)]):=by
 intro w0 F0 H
 obtain ⟨A1,c2,rfl,hc3,hm4,hp5⟩:=H.fR 0 rfl
 refine enter Tryz.func159 U U (Nat.le_of_ble_eq_true U) (Ab (Ae (Ad U (Ac (Aa ?_)))))
 replace H:Hd _ _ _ [] [Z B_ (.slice A1 bs.length c2) bs]:=H
 refine Ab (Ae (Ad U (V U U (A8 U GH U) (Ad U (V U U (A8 U GH U) (V U U (AT (z:=((bs.length+8:Nat):Int)) U U U (by rw [AC (by omega) (by omega)];omega)) (YX (m:=bs.length) (c:=bs.length+8) (a0:=(0:UInt8)) (enc:=EL) U U U G4 K9 U (by decide) Up U U (by omega) (by omega) (by omega) H (fun b6 w H=>?_))))))))
 replace H:=H.h1 (A:=Im EL b6 5 (List.replicate (bs.length+8) (0:UInt8)))
 refine Ad U (Ac (Aa (Ab (Ae (Ah 2 U (YW (ys:=bs) U U U G4 U U H (by simp) (by omega) (fun F hA hR=>hR _ (List.mem_of_getElem? (i:=0) U)) (fun w H=>?_)))))))
 replace H:Hd w0 F0 w [Y B_ (.slice (some ⟨b6,0,none⟩) bs.length (bs.length+8)) bs] [Z B_ (.slice A1 bs.length c2) bs]:=H.turn (fun F h=>YA h (by simp) rfl (by simp) (by omega))
 refine Ac (Aa (Ab (Ab (Ae (Ad U (Ac (Aa (AS ?_))))))))
 replace H:Hd w0 F0 w [Y B_ (.slice (some ⟨b6,0,none⟩) bs.length (bs.length+8)) (bs++(Ck n).take 0)] [Z B_ (.slice A1 bs.length c2) bs]:=by rw [List.take_zero,List.append_nil];exact H
 refine BQ (σ:=Nat×Value) (fun (i,q)=>[(1,.int .i64 ((n:Nat):Int)),(4,.slice none 0 0),(5,q),(16,.int .i64 ((i:Nat):Int))]) (fun (i,q) w=>(Hd w0 F0 w [Y B_ q (bs++(Ck n).take i)] [Z B_ (.slice A1 bs.length c2) bs])∧(i≤8)) (fun (i,q)=>8 - i) (0,.slice (some ⟨b6,0,none⟩) bs.length (bs.length+8)) ⟨rfl,rfl,rfl,rfl,trivial⟩ ⟨H,Nat.zero_le _⟩ ?_
 rintro ⟨i,q⟩ w ⟨H,hi⟩
 have hbl:=FN n
 have htl:((Ck n).take i).length≤8:=by rw [List.length_take];omega
 refine Ab (Ae (V U U (Bd U U U) (Ac (Aa (Ab ?_)))))
 refine Ax U (fun h7=>?_) (fun h7=>?_)
 ·refine Av (Aa (Ab (AS (Ab (Ae (Ah 2 U (Ac (Aa (Ae (Ah 2 U (V U U (DK (z:=((n:Nat):Int)) U U Dr Hw (Fs (by omega) (by omega))) (Ad U (V U U (CK (z:=7 - ((i:Nat):Int)) U U U (AC (by omega) (by omega))) (V U U (GX (z:=8*(7 - ((i:Nat):Int))) U U U (AC (by omega) (by omega))) (V U U (DK (z:=8*(7 - ((i:Nat):Int))) U U Dr E7 (Fs (by omega) (by omega))) (V U U (Ik (z:=((n / 256^(7 - i):Nat):Int)) U U U (by omega) (Y8 n (by omega))) (V U U (DK (z:=((UInt8.ofNat (n / 256^(7 - i))).toNat:Int)) U U Hw Hy (aZ _)) (BX (parts:=[(0,.tmp 27)]) (vs:=[.int .u8 ((UInt8.ofNat (n / 256^(7 - i))).toNat:Int)]) (cs:=[.int .u8 ((UInt8.ofNat (n / 256^(7 - i))).toNat:Int)]) U U U G4 K9 U (by decide) (by decide) U U H (fun b8 w H=>?_)))))))))))))))))))
  replace H:=H.p1
  refine Ct (xs:=bs++(Ck n).take i) (ys:=[UInt8.ofNat (n / 256^(7 - i))]) U U U G4 K9 U (by decide) U U H (by first |omega|(simp only [List.length_append,List.length_cons,List.length_nil];omega)) (fun F hA hR=>Cm (hA _ (List.mem_of_getElem? (i:=0) U)) U (by decide) (AW.flat_eq.2 U)) (fun v9 w H=>(Ad U (Ac (AU (Aa ?_)))))
  replace H:Hd _ _ _ [Y B_ v9 ((bs++(Ck n).take i)++[UInt8.ofNat (n / 256^(7 - i))]),blk b8 [.int .u8 ((UInt8.ofNat (n / 256^(7 - i))).toNat:Int)] 5] [Z B_ (.slice A1 bs.length c2) bs]:=H
  refine Ae (V U U (AT (z:=((i+1:Nat):Int)) U U U (by rw [AC (by omega) (by omega)];omega)) (Ad U (Ac ?_)))
  replace H:=H.k1
  replace H:Hd w0 F0 w [Y B_ v9 (bs++(Ck n).take (i+1))] [Z B_ (.slice A1 bs.length c2) bs]:=by rw [Sm n (by omega),←List.append_assoc];exact H
  exact Bi (s:=(i,undef)) (i+1,v9) ⟨rfl,rfl,rfl,rfl,trivial⟩ ⟨H,by (try dsimp only);omega⟩ (by (try dsimp only);omega)
 refine BC (AM (AM (BD (Aa (Ab (Ae (Ah 2 U (Ac (Aa (An (Aq U U ?_)))))))))))
 replace H:=H.h1 (A:=Y B_ q (bs++(Ck n).take i))
 replace H:Hd w0 F0 w [Y B_ q (bs++Ck n)] [Z B_ (.slice A1 bs.length c2) bs]:=by rw [List.take_of_length_le (by omega)] at H;exact H
 exact Al U H
theorem NY (vb:Value) (bs:List UInt8) (s:ByteArray) (hb:bs.length≤900000) (hs:s.size≤900000):
    Cn Tryz.prog 160 [vb,.string s] [] [Z B_ vb bs] (fun v Bs=>Bs=[Y B_ v (bs++Dh s)]):=by
 intro w0 F0 H
 refine enter Tryz.func160 U U (Nat.le_of_ble_eq_true U) (Ab (Ae (Ad U (Ac (Aa (Ab (Ae (Ah 2 U (V U U (Dp U CF U) (sc (NX vb bs s.size (by first |assumption|omega) (by first |assumption|omega)) H (lR 0 U l0) U U (At Ph U U) ?_))))))))))
 rintro v1 _ w rfl H
 refine Ad U (YT U U U G4 K9 U (by decide) CF U U H (by rw [List.length_append,FN];omega) (fun v2 w H=>(Ad U (Ac (Aa ?_)))))
 replace H:Hd _ _ _ [Y B_ v2 ((bs++Ck s.size)++CD s)] [Z B_ vb bs]:=H
 refine An (Aq U U ?_)
 replace H:Hd w0 F0 w [Y B_ v2 (bs++Dh s)] [Z B_ vb bs]:=by unfold Dh;rw [←List.append_assoc];exact H
 exact Al U H
theorem QQ (vb:Value) (bs:List UInt8) (a:Int) (hb:bs.length≤1000000) (ha:AA a):
    Cn Tryz.prog 203 [vb,.int .i64 a] [] [Z B_ vb bs] (fun v Bs=>v=.tuple #[.int .i64 ((CE bs a).1),.int .i64 ((CE bs a).2.1),.bool ((CE bs a).2.2)]∧Bs=[]):=by
 intro w0 F0 H
 obtain ⟨A1,c2,rfl,hc3,hm4,hp5⟩:=H.fR 0 rfl
 unfold AA at ha
 refine enter Tryz.func203 U U (Nat.le_of_ble_eq_true U) (Ab (Ae (Ah 3 U (Ac (Aa ?_)))))
 replace H:Hd _ _ _ [] [Z B_ (.slice A1 bs.length c2) bs]:=H
 refine Ab (Ab (Ae (Ad U (V U U (Bd U U U) (Ad U ?_)))))
 refine AK (d:=12) U (fun h6=>?_) (fun h6=>?_)
 ·refine Ah 12 U (Ac (Aa (Cw U (Ab (Ae (Ah 3 U (Ac (Aa (An (Az (Gf U U U U ?_)))))))))))
  have e:=I9 (b:=bs) (at_:=a) (by omega)
  exact Al ⟨by rw [e]<;>rfl,rfl⟩ H
 refine Ah 2 U (V U U (A8 U GH U) (V U U (Cp U U U) (Ah 2 U ?_)))
 refine AK (d:=18) U (fun h7=>?_) (fun h7=>?_)
 ·refine Ah 6 U (Ac (Aa (Cw U (Ab (Ae (Ah 3 U (Ac (Aa (An (Az (Gf U U U U ?_)))))))))))
  have e:=I9 (b:=bs) (at_:=a) (by omega)
  exact Al ⟨by rw [e]<;>rfl,rfl⟩ H
 refine Ad U (V U U (A8 U GH U) (Ad U (V U U (CK (z:=((bs.length:Nat):Int) - a) U U U (AC (by omega) (by omega))) (V U U (Bd U U U) (Ad U (Ac (Aa ?_)))))))
 refine Ax U (fun h8=>?_) (fun h8=>?_)
 ·refine Ab (Ae (Ah 3 U (Ac (Aa (An (Az (Gf U U U U ?_)))))))
  have e:=I9 (b:=bs) (at_:=a) (by omega)
  exact Al ⟨by rw [e]<;>rfl,rfl⟩ H
 refine Av (Aa (Ab (Ae (Ad U (Ac (Aa (Ab (Ab (Ae (Ah 3 U (V U U (AT (z:=a+8) U U U (AC (by omega) (by omega))) (V U U (QD (i':=(a).toNat) (j':=(a+8).toNat) (m':=8) U G4 U U U (by omega) (by omega) (by omega) U U (by omega)) (V U U (A8 U GH U) (Ad U (Ac (Aa (AS (BQ (σ:=Nat) (fun i=>[(1,.int .i64 a),(4,.int .i64 0),(5,.int .i64 0),(6,.bool false),(7,.int .u64 ((ES (((bs.drop (a).toNat).take 8).take i):Nat):Int)),(29,.slice (DO A1 c2 ((a).toNat) 1) 8 (c2 - ((a).toNat))),(30,.int .i64 ((8:Nat):Int)),(31,.int .i64 ((i:Nat):Int))]) (fun i w=>(Hd w0 F0 w [] [Z B_ (.slice A1 bs.length c2) bs])∧(i≤8)) (fun i=>8 - i) 0 ⟨rfl,rfl,rfl,rfl,rfl,rfl,rfl,rfl,trivial⟩ ⟨H,Nat.zero_le _⟩ ?_))))))))))))))))))
 rintro i w ⟨H,hi⟩
 have hlt:=X6 (((bs.drop (a).toNat).take 8).take i) 0
 have hle8:(((bs.drop (a).toNat).take 8).take i).length≤i:=by rw [List.length_take];omega
 refine Ab (Ae (V U U (Bd U U U) (Ac (Aa (Ab ?_)))))
 refine Ax U (fun h9=>?_) (fun h9=>?_)
 ·refine Av (Aa (Ab (AS (Ab (Ae ?_)))))
  obtain ⟨x10,hx11⟩:∃ z9,((bs.drop ((a).toNat)).take 8)[i]?=some z9:=⟨_,List.getElem?_eq_getElem (show i<((bs.drop ((a).toNat)).take 8).length by simp only [List.length_take,List.length_drop];omega)⟩
  have th12:=H.thX (fun F hA hR=>KD (hR _ (List.mem_of_getElem? (i:=0) rfl)) (i:=(a).toNat) (m':=8) (by omega)) hx11
  refine V U U (AZ (p:=AP (DO A1 c2 ((a).toNat) 1)+i*1) U G4 U U (by omega) (by omega) th12 U) (V U U (Ak U ZT U (H.elX (fun F hA hR=>KD (hR _ (List.mem_of_getElem? (i:=0) U)) (i:=(a).toNat) (m':=8) (by omega)) hx11 (q:=0) U U)) (Ad U (Ac (Aa ?_))))
  have hx8:=UInt8.toNat_lt x10
  have hm7:ES (((bs.drop (a).toNat).take 8).take i)<72057594037927936:=Nat.lt_of_lt_of_le hlt (Nat.le_trans (Nat.pow_le_pow_right (by omega) (show _≤7 by omega)) (by decide))
  refine Ae (Ad U (V U U (X4 (z:=((ES (((bs.drop (a).toNat).take 8).take i)*256:Nat):Int)) U U U (by omega) (Y7 hm7)) (Ad U (V U U (DK (z:=((x10.toNat:Nat):Int)) U U Hy Hw (Fs (by omega) (by omega))) (V U U (XQ (z:=((ES (((bs.drop (a).toNat).take 8).take i)*256+x10.toNat:Nat):Int)) U (by simp) U U (Xa hm7 _)) (Ad U (Ac (AU (Aa (Ae (V U U (AT (z:=((i+1:Nat):Int)) U U U (by rw [AC (by omega) (by omega)];omega)) (Ad U (Ac ?_)))))))))))))
  have hst:=X8 hx11
  exact Bi (s:=i) (i+1) ⟨rfl,rfl,rfl,rfl,(by (try dsimp only);rw [hst];rfl),rfl,rfl,rfl,trivial⟩ ⟨H,by (try dsimp only);omega⟩ (by (try dsimp only);omega)
 refine BC (AM (AM (BD (Aa (Ab (Ae (Ad U (V U U (DK (z:=IntKind.i64.wrap ((ES ((bs.drop (a).toNat).take 8):Nat):Int)) U U Hw Dr (by rw [List.take_of_length_le (by rw [List.length_take];omega)])) (Ad U (V U U (AT (z:=a+8) U U U (AC (by omega) (by omega))) (Ah 3 U (Ac (Aa (An (Gf U U U U ?_)))))))))))))))
 have e:=ME (b:=bs) (at_:=a) (by omega)
 exact Al ⟨by rw [e]<;>rfl,rfl⟩ H
theorem QR (vb:Value) (bs:List UInt8) (a:Int) (hb:bs.length≤1000000) (ha:AA a):
    Cn Tryz.prog 204 [vb,.int .i64 a] [] [Z B_ vb bs] (fun v Bs=>v=.tuple #[.string ((Fo bs a).1),.int .i64 ((Fo bs a).2.1),.bool ((Fo bs a).2.2)]∧Bs=[]):=by
 intro w0 F0 H
 obtain ⟨A1,c2,rfl,hc3,hm4,hp5⟩:=H.fR 0 rfl
 refine enter Tryz.func204 U U (Nat.le_of_ble_eq_true U) (Ab (Ae (Ah 3 U (Ac (Aa ?_)))))
 replace H:Hd _ _ _ [] [Z B_ (.slice A1 bs.length c2) bs]:=H
 refine Ab (Ae (Ah 2 U (sc (QQ (.slice A1 bs.length c2) bs a (by first |assumption|omega) (by first |assumption|omega)) H (lR 0 U l0) U U (At Pm U U) ?_)))
 rintro _ _ w ⟨rfl,rfl⟩ H
 refine Ah 7 U (Ac (Aa (Ab (Ab ?_))))
 have hi6:=@X9 bs a
 have hin:=@X_ bs a
 refine Ae (Ad U (V U U (FW U U U) (Ad U ?_)))
 refine E3 (d:=19) (b:=!((CE bs a).2.2)) U (fun h6=>?_) (fun h6=>?_)
 ·refine Ah 11 U (Ac (Aa (Cw U (Ab (Ae (Ah 3 U (Ac (Aa (An (Az (Gf U U U U ?_)))))))))))
  have e:=Ya (b:=bs) (at_:=a) (by simpa using h6)
  exact Al ⟨by rw [e]<;>rfl,rfl⟩ H
 have hii:=hin (by simpa using h6)
 refine Ad U (V U U (Bd U U U) (Ah 2 U ?_))
 refine AK (d:=23) U (fun h7=>?_) (fun h7=>?_)
 ·refine Ah 7 U (Ac (Aa (Cw U (Ab (Ae (Ah 3 U (Ac (Aa (An (Az (Gf U U U U ?_)))))))))))
  have e:=(MF (b:=bs) (at_:=a) (by simpa using h6)).trans (if_pos (by omega))
  exact Al ⟨by rw [e]<;>rfl,rfl⟩ H
 refine Ah 2 U (V U U (A8 U GH U) (Ad U (V U U (CK (z:=((bs.length:Nat):Int) - ((CE bs a).2.1)) U U U (AC (by omega) (by omega))) (V U U (Cp U U U) (Ad U (Ac (Aa ?_)))))))
 refine Ax U (fun h8=>?_) (fun h8=>?_)
 ·refine Ab (Ae (Ah 3 U (Ac (Aa (An (Az (Gf U U U U ?_)))))))
  have e:=(MF (b:=bs) (at_:=a) (by simpa using h6)).trans (if_pos (by omega))
  exact Al ⟨by rw [e]<;>rfl,rfl⟩ H
 refine Av (Aa (Ab (Ae (Ah 4 U (V U U (AT (z:=((CE bs a).2.1)+((CE bs a).1)) U U U (AC (by omega) (by omega))) (V U U (QD (i':=((CE bs a).2.1).toNat) (j':=((CE bs a).2.1+(CE bs a).1).toNat) (m':=((CE bs a).1).toNat) U G4 U U U (by omega) (by omega) (by omega) U U (by omega)) (V U U (H.read fun F hA hR=>QC U GH Hy CF U U (KD (hR _ (List.mem_of_getElem? (i:=0) U)) (i:=((CE bs a).2.1).toNat) (m':=((CE bs a).1).toNat) (by omega))) (Ah 2 U (V U U (AT (z:=((CE bs a).2.1)+((CE bs a).1)) U U U (AC (by omega) (by omega))) (Ah 3 U (Ac (Aa (An (Gf U U U U ?_))))))))))))))
 have e:=(MF (b:=bs) (at_:=a) (by simpa using h6)).trans (if_neg (by omega))
 exact Al ⟨by rw [e]<;>rfl,rfl⟩ H
theorem Xr (vps:Value) (ps:List Ap) (hl:ps.length≤1000) (hsz:∀ p∈ps,p.key.size≤100∧p.val.size≤100):
    Cn Tryz.prog 97 [vps] [] [Z Ag vps ps] (fun v Bs=>v=.string (Ba ps)∧Bs=[]):=by
 intro w0 F0 H
 obtain ⟨A1,c2,rfl,hc3,hm4,hp5⟩:=H.fR 0 rfl
 refine enter Tryz.func97 U U (Nat.le_of_ble_eq_true U) (Ab (Ae (Ad U (Ac (Aa ?_)))))
 replace H:Hd _ _ _ [] [Z Ag (.slice A1 ps.length c2) ps]:=H
 refine Ab (Ae (Ad U (V U U (A8 U Db U) (sc (NX (.slice none 0 0) [] ps.length (by first |assumption|omega|(simp only [List.length_nil];omega)) (by first |assumption|omega|(simp only [List.length_nil];omega))) H (lX (fun F _ _=>GZ _ _ F trivial (by decide)) l0) U U (At Ph U U) ?_))))
 rintro v6 _ w rfl H
 replace H:=H.h1 (A:=Y B_ v6 ([]++Ck ps.length))
 refine Ad U (Ac (Aa (Ab (Ab (Ae (Ad U (V U U (A8 U Db U) (Ad U (Ac (Aa (AS ?_)))))))))))
 replace H:Hd w0 F0 w [Y B_ v6 (Ck ps.length++CN (ps.take 0))] [Z Ag (.slice A1 ps.length c2) ps]:=by rw [List.take_zero];simpa [CN] using H
 refine BQ (σ:=Nat×Value) (fun (i,q)=>[(2,.string ⟨#[]⟩),(3,q),(9,.slice A1 ps.length c2),(10,.int .i64 ((ps.length:Nat):Int)),(11,.int .i64 ((i:Nat):Int))]) (fun (i,q) w=>(Hd w0 F0 w [Y B_ q (Ck ps.length++CN (ps.take i))] [Z Ag (.slice A1 ps.length c2) ps])∧(i≤ps.length)) (fun (i,q)=>ps.length - i) (0,v6) ⟨rfl,rfl,rfl,rfl,rfl,trivial⟩ ⟨H,Nat.zero_le _⟩ ?_
 rintro ⟨i,q⟩ w ⟨H,hi⟩
 have hpl:=Mt (ps:=ps.take i) (fun p hp=>hsz p (List.mem_of_mem_take hp))
 have hpi:(ps.take i).length≤i:=by rw [List.length_take];omega
 have hbl:(Ck ps.length++CN (ps.take i)).length=8+(CN (ps.take i)).length:=by rw [List.length_append,FN]
 refine Ab (Ae (V U U (Bd U U U) (Ac (Aa (Ab ?_)))))
 refine Ax U (fun h7=>?_) (fun h7=>?_)
 ·refine Av (Aa (Ab (AS (Ab (Ae ?_)))))
  obtain ⟨x8,hx9⟩:∃ z9,ps[i]?=some z9:=⟨_,List.getElem?_eq_getElem (show i<ps.length by omega)⟩
  have th10:=H.thR 0 rfl hx9
  refine V U U (AZ (p:=AP A1+i*2) U BB U U (by omega) (by omega) th10 U) (V U U (Bq (cs:=[.string x8.key,.string x8.val]) U Cj U U (H.elsR 0 U hx9 U)) (Dg U U U Dd H (fun b11 w H=>(BE U U U Cj U U H U (Nat.le_of_ble_eq_true U) (fun u hu=>by simp [Value.cells] at hu;rcases hu with rfl|rfl<;>rfl) (fun w H=>?_)))))
  replace H:=H.h2 (A:=blk b11 [.string x8.key,.string x8.val] 106) (B:=Y B_ q (Ck ps.length++CN (ps.take i)))
  refine Ac (Aa ?_)
  have hxs:=hsz _ (Ce hx9)
  have htk:=It x8.key
  have hbl2:((Ck ps.length++CN (ps.take i))++Dh x8.key).length=(Ck ps.length++CN (ps.take i)).length+(Dh x8.key).length:=List.length_append
  refine BY (.e 0 (.e 1 (.e 2 (.e 4 (.e 5 (.m 3 (.m 6 (.e 7 .z)))))))) (fun w=>∃ Ar,Hd w0 F0 w (blk b11 [.string x8.key,.string x8.val] 106::Y B_ q (Ck ps.length++CN (ps.take i))::Ar) [Z Ag (.slice A1 ps.length c2) ps]) mo (by kernel_rfl) (fun w H=>⟨_,H⟩) H (fun w H=>(Au U (Ao U U U (fun w ⟨Ar,H⟩=>Aj U Fg U) (Ao U U U (fun w ⟨Ar,H⟩=>Ak U BV U (H.cellI 0 U U)) (Ao U U U (fun w ⟨Ar,H⟩=>Aj U HN U) (Ao U U U (fun w ⟨Ar,H⟩=>Ak U BV U (H.cellI 0 U U)) (AO U (sc (NY q (Ck ps.length++CN (ps.take i)) x8.key (by first |assumption|omega|(simp only [List.length_nil];omega)) (by first |assumption|omega|(simp only [List.length_nil];omega))) H (lA 1 U BJ l0) U U (At Pi U U) ?_))))))))
  rintro v12 _ w rfl H
  replace H:=H.h1 (A:=Y B_ v12 ((Ck ps.length++CN (ps.take i))++Dh x8.key))|>.p2|>.p2
  refine AE ⟨_,H⟩ (AO U (sc (NY v12 ((Ck ps.length++CN (ps.take i))++Dh x8.key) x8.val (by first |assumption|omega|(simp only [List.length_nil];omega)) (by first |assumption|omega|(simp only [List.length_nil];omega))) H (lA 2 U BJ l0) U U (At Pi U U) ?_))
  rintro v13 _ w rfl H
  replace H:=H.h1 (A:=Y B_ v13 (((Ck ps.length++CN (ps.take i))++Dh x8.key)++Dh x8.val))|>.p2|>.p2
  refine AE ⟨_,H⟩ (Au U (BP (AU (Aa (Ae (V U U (AT (z:=((i+1:Nat):Int)) U U U (by rw [AC (by omega) (by omega)];omega)) (Ad U (Ac ?_))))))))
  replace H:=H.p2.k1
  replace H:Hd w0 F0 w [Y B_ v13 (Ck ps.length++CN (ps.take (i+1)))] [Z Ag (.slice A1 ps.length c2) ps]:=by rw [Eo hx9,Qj,←List.append_assoc,←List.append_assoc];exact H
  exact Bi (s:=(i,undef)) (i+1,v13) ⟨rfl,rfl,rfl,rfl,rfl,trivial⟩ ⟨H,by (try dsimp only);omega⟩ (by (try dsimp only);omega)
 refine BC (AM (AM (BD (Aa (Ab (Ae (Ad U ?_)))))))
 obtain ⟨A14,c15,rfl,hc16,hm17,hp18⟩:=H.fA 0 rfl
 refine V U U (H.read fun F hA hR=>QC U GH Hy CF U U (BJ F (hA _ (List.mem_of_getElem? (i:=0) U)))) (Ad U (Ac (Aa (An (Aq U U ?_)))))
 replace H:=H.nil
 have e:ps.take i=ps:=List.take_of_length_le (by omega)
 exact Al ⟨by rw [e];rfl,rfl⟩ H
theorem Z1 (ps:List Ap) (hl:ps.length≤1000) (hsz:∀ p∈ps,p.key.size≤100∧p.val.size≤100):
    Cn Tryz.prog 167 [.string (Ba ps)] [] [] (fun v Bs=>Bs=[Y Ag v ps]):=by
 intro w0 F0 H
 have hps:=Xn hsz hl
 have hbb:(CD (Ba ps)).length≤300000:=by rw [Gn];exact hps
 have h064:AA (0:Int):=by unfold AA;omega
 refine enter Tryz.func167 U U (Nat.le_of_ble_eq_true U) (Ab (Ae (Ad U (Ac (Aa (Ab (Ae (Ad U (Y2 U U U CF GH Hy U (by omega) H (fun b1 c2 w hc3 hc4 H=>(Ad U (Ac (Aa (Ab (Ae (Ad U (sc (QQ (.slice (some ⟨b1,0,none⟩) ((Ba ps).size) c2) (CD (Ba ps)) 0 (by first |assumption|omega|(simp only [List.length_nil];omega)) (by first |assumption|omega|(simp only [List.length_nil];omega))) H (lR 0 U l0) U U (At Pm U U) ?_)))))))))))))))))
 rintro _ _ w ⟨rfl,rfl⟩ H
 have hq:CE (CD (Ba ps)) 0=(((ps.length:Nat):Int),8,true):=by rw [Mu];exact Xp (by omega)
 rw [hq]
 refine Ah 7 U (Ac (Aa ?_))
 replace H:Hd _ _ _ [] [Z B_ (.slice (some ⟨b1,0,none⟩) ((Ba ps).size) c2) (CD (Ba ps))]:=H
 refine Ab (Ae (Ad U (Ac (Aa (Ab (Ab (Ae (Ah 2 U (Ac (Aa (AS ?_)))))))))))
 replace H:=H.newnil Ag
 replace H:Hd w0 F0 w [Y Ag (.slice none 0 0) (ps.take 0)] [Z B_ (.slice (some ⟨b1,0,none⟩) ((Ba ps).size) c2) (CD (Ba ps))]:=by rw [List.take_zero];exact H
 refine BQ (σ:=Nat×Value) (fun (i,q)=>[(2,.slice none 0 0),(3,.slice (some ⟨b1,0,none⟩) ((Ba ps).size) c2),(5,.int .i64 ((DS ps i:Nat):Int)),(7,q),(17,.int .i64 ((ps.length:Nat):Int)),(18,.int .i64 ((i:Nat):Int))]) (fun (i,q) w=>(Hd w0 F0 w [Y Ag q (ps.take i)] [Z B_ (.slice (some ⟨b1,0,none⟩) ((Ba ps).size) c2) (CD (Ba ps))])∧(i≤ps.length)) (fun (i,q)=>ps.length - i) (0,.slice none 0 0) ⟨rfl,rfl,rfl,rfl,rfl,rfl,trivial⟩ ⟨H,Nat.zero_le _⟩ ?_
 rintro ⟨i,q⟩ w ⟨H,hi⟩
 have htl:(ps.take i).length≤i:=by rw [List.length_take];omega
 refine Ab (Ae (V U U (Bd U U U) (Ac (Aa (Ab ?_)))))
 refine Ax U (fun h5=>?_) (fun h5=>?_)
 ·refine Av (Aa (Ab (AS (Ab (Ae (Dg U U U Dd H (fun b6 w H=>?_)))))))
  replace H:=H.h2 (A:=blk b6 [.string ⟨#[]⟩,.string ⟨#[]⟩] 106) (B:=Y Ag q (ps.take i))
  refine Ac (Aa (Ab ?_))
  obtain ⟨x7,hx8⟩:∃ z9,ps[i]?=some z9:=⟨_,List.getElem?_eq_getElem (show i<ps.length by omega)⟩
  have hxs:=hsz _ (Ce hx8)
  have hkey:Fo (CD (Ba ps)) ((DS ps i:Nat):Int)=(x7.key,((DS ps i+8+x7.key.size:Nat):Int),true):=by rw [Mu];exact Xo hx8 (by omega)
  have hval:Fo (CD (Ba ps)) ((DS ps i+8+x7.key.size:Nat):Int)=(x7.val,((DS ps (i+1):Nat):Int),true):=by rw [Mu];exact Xq hx8 (by omega)
  have hpa:DS ps i≤300000:=Xl hsz hl i
  have hi64:AA ((DS ps i:Nat):Int):=by unfold AA;omega
  have hj64:AA ((DS ps i+8+x7.key.size:Nat):Int):=by unfold AA;omega
  refine Ae (Ah 2 U (sc (QR (.slice (some ⟨b1,0,none⟩) ((Ba ps).size) c2) (CD (Ba ps)) ((DS ps i:Nat):Int) (by first |assumption|omega|(simp only [List.length_nil];omega)) (by first |assumption|omega|(simp only [List.length_nil];omega))) H (lR 0 U l0) U U (At Pn U U) ?_))
  rintro _ _ w ⟨rfl,rfl⟩ H
  rw [hkey]
  refine Ah 4 U (V U U (Aj U Fg U) (BE U U U BV U U H U (Nat.le_of_ble_eq_true U) (fun u hu=>by simp [Value.cells] at hu;subst hu;rfl) (fun w H=>?_)))
  replace H:=H.h1 (A:=blk b6 [.string x7.key,.string ⟨#[]⟩] 106)
  refine Ad U (Ac (Aa (Ab (Ae (Ah 2 U (sc (QR (.slice (some ⟨b1,0,none⟩) ((Ba ps).size) c2) (CD (Ba ps)) ((DS ps i+8+x7.key.size:Nat):Int) (by first |assumption|omega|(simp only [List.length_nil];omega)) (by first |assumption|omega|(simp only [List.length_nil];omega))) H (lR 0 U l0) U U (At Pn U U) ?_))))))
  rintro _ _ w ⟨rfl,rfl⟩ H
  rw [hval]
  refine Ah 4 U (V U U (Aj U HN U) (BE U U U BV U U H U (Nat.le_of_ble_eq_true U) (fun u hu=>by simp [Value.cells] at hu;subst hu;rfl) (fun w H=>?_)))
  replace H:=H.h1 (A:=blk b6 [.string x7.key,.string x7.val] 106)
  refine Ad U (Ac (Aa (Ae (Ad U (V U U (Bq (cs:=[.string x7.key,.string x7.val]) U Cj U U (H.cellsI 0 U U)) (BX (parts:=[(0,.tmp 37)]) (vs:=[.agg #[.string x7.key,.string x7.val]]) (cs:=[.string x7.key,.string x7.val]) U U U BB Dd U (by decide) (by decide) U U H (fun b9 w H=>?_)))))))
  replace H:=H.p2
  refine Ct (xs:=ps.take i) (ys:=[x7]) U U U BB Dd U (by decide) U U H (by first |omega|(simp only [List.length_append,List.length_cons,List.length_nil];omega)) (fun F hA hR=>Cm (hA _ (List.mem_of_getElem? (i:=0) U)) U (by decide) (AW.flat_eq.2 U)) (fun v10 w H=>(Ad U (Ac (AU (Aa ?_)))))
  replace H:Hd _ _ _ [Y Ag v10 ((ps.take i)++[x7]),blk b9 [.string x7.key,.string x7.val] 106,blk b6 [.string x7.key,.string x7.val] 106] [Z B_ (.slice (some ⟨b1,0,none⟩) ((Ba ps).size) c2) (CD (Ba ps))]:=H
  refine Ae (V U U (AT (z:=((i+1:Nat):Int)) U U U (by rw [AC (by omega) (by omega)];omega)) (Ad U (Ac ?_)))
  replace H:=H.k1
  replace H:Hd w0 F0 w [Y Ag v10 (ps.take (i+1))] [Z B_ (.slice (some ⟨b1,0,none⟩) ((Ba ps).size) c2) (CD (Ba ps))]:=by rw [Eo hx8];exact H
  exact Bi (s:=(i,undef)) (i+1,v10) ⟨rfl,rfl,rfl,rfl,rfl,rfl,trivial⟩ ⟨H,by (try dsimp only);omega⟩ (by (try dsimp only);omega)
 refine BC (AM (AM (BD (Aa (Ab (Ae (Ah 2 U (Ac (Aa (An (Aq U U ?_)))))))))))
 replace H:=H.h1 (A:=Y Ag q (ps.take i))
 replace H:Hd w0 F0 w [Y Ag q ps] [Z B_ (.slice (some ⟨b1,0,none⟩) ((Ba ps).size) c2) (CD (Ba ps))]:=by rw [List.take_of_length_le (by omega)] at H;exact H
 replace H:=H.dropR
 replace H:Hd _ _ _ [Y Ag q ps] []:=H
 exact Al U H
end Go.Proofs.YthgehekecfpikaaGreatDoor.X
