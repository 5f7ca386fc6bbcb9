/- NodeLives: texts N3, XCat, S1, S2, N7, N9, N10, WK1, ND1, RE1, RE0, RE2, RE3, RE4, RE5, joined by a program of ours; what nothing names is left out. -/
import Derived.Test.YthhajcnbjiiclaaGreatDoorNodeLivesQ5
set_option linter.unusedVariables false
set_option linter.unusedSimpArgs false
set_option maxHeartbeats 8000000
namespace Go.Proofs.YthhajcnbjiiclaaGreatDoor.X
open Go
theorem Ri (r:Nat) (A:Option Addr) (c:Nat) (vM2:Value) (vC2:Value) (vR2:Value) (vK2:Value) (J2:AR) (cw:Int) (ct:Int) (co:Int) (part:Int) (ep:Int) (R:AX) (hv:Nat→Value) (sb:Nat) (vs:Value) (hus6:J2.us.length≤6):
    Cn Tryz.prog 140 [.pointer (some ⟨r,0,none⟩)] [] [blk r (BJ (.slice A J2.us.length c) vM2 vC2 vR2 vK2 J2 cw ct co part ep R.g hv sb vs) 197] (fun v Bs=>Bs=[Y (Ai .i64) v (C6 J2.us.length R)]):=by
 intro w0 F0 H
 refine enter Tryz.func140 U U (Nat.le_of_ble_eq_true U) (Aa (Ae (Ad U (Ab (Z (Aa (Aa (Ae (Ad U (V U U (Dg U Ke U U) (Ab (Z (Ch U (Az (Z (Aa (Ae (Ad U (Ab (Z (Aa (Aa (Ae (Ad U (V U U (AJ U U) (V U U (Aj U H9 U) (V U U (Aj U DL U) (V U U (Aj U EM U) (V U U (Am U EW U (H.cellRI 0 U U)) (V U U (Bj U Fp U) (Ad U (Ab (Z (AW ?_))))))))))))))))))))))))))))))))))
 replace H:=H.newnil (Ai .i64)
 refine B1 (σ:=Nat×Value) (fun (k,q)=>[(0,.pointer (some ⟨r,0,none⟩)),(2,.slice none 0 0),(3,q),(13,.int .i64 ((J2.us.length:Nat):Int)),(14,.int .i64 ((k:Nat):Int))]) (fun (k,q) w=>(Hd w0 F0 w [Y (Ai .i64) q (C6 k R)] [blk r (BJ (.slice A J2.us.length c) vM2 vC2 vR2 vK2 J2 cw ct co part ep R.g hv sb vs) 197])∧(k≤J2.us.length)) (fun (k,q)=>J2.us.length - k) (0,.slice none 0 0) ⟨rfl,rfl,rfl,rfl,rfl,trivial⟩ ⟨H,Nat.zero_le _⟩ ?_
 rintro ⟨k,q⟩ w ⟨H,hk⟩
 have hml:=Rg k R
 refine Aa (Ae (V U U (Br U U U) (Ab (Z (Aa ?_)))))
 refine AC U (fun h1=>?_) (fun h1=>?_)
 ·refine Az (Z (Aa (AW (Aa (Ae (Ah 2 U (Ab (Z (Aa (Ae (Ah 2 U (V U U (AJ U U) (V U U (Aj U Ju U) (V U U (HM (p:=14+k*5) U Kf JC U U (by omega) (by omega) (by omega)) (V U U (Aj U KD U) (V U U (Am U DP U (H.cellRI 0 U (Ny (by omega)))) (Ab (Z ?_))))))))))))))))))
  refine Dp (b:=(R.g k).merged) U (fun h2=>?_) (fun h2=>?_)
  ·refine Ae (Ah 2 U (Cg (parts:=[(0,.tmp 25)]) (vs:=[.int .i64 ((k:Nat):Int)]) (cs:=[.int .i64 ((k:Nat):Int)]) U U U DE Fa U (by decide) (by decide) U U H (fun b3 w H=>?_)))
   replace H:=H.p1
   refine CE (xs:=C6 k R) (ys:=[((k:Nat):Int)]) U U U DE Fa U (by decide) U U H (by first |omega|(simp only [List.length_append,List.length_cons,List.length_nil];omega)) (fun F hA hR=>CC (hA _ (List.mem_of_getElem? (i:=0) U)) U (by decide) (Be.flat_eq.2 U)) (fun v4 w H=>(Ad U (Ab (Bb (Z ?_)))))
   replace H:Hd _ _ _ [Y (Ai .i64) v4 ((C6 k R)++[((k:Nat):Int)]),blk b3 [.int .i64 ((k:Nat):Int)] 3] [blk r (BJ (.slice A J2.us.length c) vM2 vC2 vR2 vK2 J2 cw ct co part ep R.g hv sb vs) 197]:=H
   refine Ae (V U U (Bc (z:=((k+1:Nat):Int)) U U U (by rw [AI (by omega) (by omega)];omega)) (Ad U (Ab ?_)))
   replace H:=H.k1
   replace H:Hd w0 F0 w [Y (Ai .i64) v4 (C6 (k+1) R)] [blk r (BJ (.slice A J2.us.length c) vM2 vC2 vR2 vK2 J2 cw ct co part ep R.g hv sb vs) 197]:=by rw [Rj,if_pos h2];exact H
   exact Bo (s:=(k,undef)) (k+1,v4) ⟨rfl,rfl,rfl,rfl,rfl,trivial⟩ ⟨H,by (try dsimp only);omega⟩ (by (try dsimp only);omega)
  refine Az (Bb (Z (Ae (V U U (Bc (z:=((k+1:Nat):Int)) U U U (by rw [AI (by omega) (by omega)];omega)) (Ad U (Ab ?_))))))
  replace H:Hd w0 F0 w [Y (Ai .i64) q (C6 (k+1) R)] [blk r (BJ (.slice A J2.us.length c) vM2 vC2 vR2 vK2 J2 cw ct co part ep R.g hv sb vs) 197]:=by rw [Rj,if_neg (by rw [h2];exact Bool.false_ne_true),List.append_nil];exact H
  exact Bo (s:=(k,undef)) (k+1,q) ⟨rfl,rfl,rfl,rfl,rfl,trivial⟩ ⟨H,by (try dsimp only);omega⟩ (by (try dsimp only);omega)
 refine BQ (AV (AV (BS (Z (Aa (Ae (Ah 2 U (Ab (Z (An (Ap U U ?_)))))))))))
 have hkk:k=J2.us.length:=by omega
 replace H:Hd w0 F0 w [Y (Ai .i64) q (C6 J2.us.length R)] [blk r (BJ (.slice A J2.us.length c) vM2 vC2 vR2 vK2 J2 cw ct co part ep R.g hv sb vs) 197]:=by rw [hkk] at H;exact H
 exact Al U H
theorem dF (vp:Value) (p:List BT) (fuel:Int) (vus:Value) (us:List (Value×List Aq)) (hpa:∀ i∈p,AG i.a) (hfu:AG fuel) (hb:(CY us).length≤1000000):
    Cn Tryz.prog 235 [vp,.int .i64 fuel,vus] [] [Ac Af vp p,Ac (At Ag) vus us,gl] (fun v Bs=>∃ u:Value,v=.tuple #[u,.int .i64 ((D0 dg p (srt (CY us)) fuel false).2)]∧Bs=[Y Ag u ((D0 dg p (srt (CY us)) fuel false).1)]):=by
 intro w0 F0 H
 obtain ⟨A1,c2,rfl,hc3,hm4,hp5⟩:=H.fR 0 rfl
 obtain ⟨A6,c7,rfl,hc8,hm9,hp10⟩:=H.fR 1 rfl
 refine enter Tryz.func235 U U (Nat.le_of_ble_eq_true U) (Aa (Ae (Ah 2 U (Ab (Z ?_)))))
 replace H:Hd _ _ _ [] [Ac Af (.slice A1 p.length c2) p,Ac (At Ag) (.slice A6 us.length c7) us,gl]:=H
 refine Aa (Ae (Ah 2 U (sc (cC (.slice A6 us.length c7) us (by first |omega|decide|exact Nat.le_trans (Pn _ _) (by omega)|exact Nat.le_trans (Vn _ _) (by omega)|(simp only [CY,List.flatMap_cons,List.flatMap_nil,List.append_nil,GU];omega))) H (lR 1 U l0) U U (Av Xf U U) ?_)))
 rintro v11 _ w rfl H
 replace H:=H.h1 (A:=Y Ag v11 (srt (CY us)))
 refine Ad U (sc (VG (.slice A1 p.length c2) p v11 (srt (CY us)) fuel (by first |exact hpa|exact Wa|assumption) (by first |assumption|(unfold AG;omega)) (by first |omega|(simp only [GU];omega))) H (lR 0 U (lA 0 U B2 (lR 2 U l0))) U U (Av Xe U U) ?_)
 rintro _ _ w ⟨u12,rfl,rfl⟩ H
 replace H:=H.h1 (A:=Y Ag u12 ((D0 dg p (srt (CY us)) fuel false).1))
 refine Ah 4 U (Ab (Z (An (Dy U U U ?_))))
 replace H:=H.k1
 exact Al ⟨u12,rfl,rfl⟩ H
theorem Y7 (r:Nat) (A:Option Addr) (c:Nat) (vM2:Value) (vC2:Value) (vR2:Value) (vK2:Value) (J2:AR) (cw:Int) (ct:Int) (co:Int) (part:Int) (ep:Int) (R:AX) (hv:Nat→Value) (sb:Nat) (vs:Value) (vset:Value) (set:List Int) (hred:∀ i∈J2.red,AG i.a) (hf64:AG J2.fuel) (hus6:J2.us.length≤6) (hbp:∀ i,(R.g i).pairs.length≤1000):
    Cn Tryz.prog 194 [.pointer (some ⟨r,0,none⟩),vset] [] [blk r (BJ (.slice A J2.us.length c) vM2 vC2 vR2 vK2 J2 cw ct co part ep R.g hv sb vs) 197,B3 (R.g) hv,Ac (Ai .i64) vset set,Ac Af vR2 J2.red,gl] (fun v Bs=>∃ u:Value,v=.tuple #[u,.int .i64 ((D0 dg J2.red (srt (FQ J2.us.length R set)) J2.fuel false).2)]∧Bs=[Y Ag u ((D0 dg J2.red (srt (FQ J2.us.length R set)) J2.fuel false).1)]):=by
 intro w0 F0 H
 obtain ⟨A1,c2,rfl,hc3,hm4,hp5⟩:=H.fR 2 rfl
 obtain ⟨A6,c7,rfl,hc8,hm9,hp10⟩:=H.fR 3 rfl
 refine enter Tryz.func194 U U (Nat.le_of_ble_eq_true U) (Aa (Ae (Ah 2 U (Ab (Z ?_)))))
 replace H:Hd _ _ _ [] [blk r (BJ (.slice A J2.us.length c) vM2 vC2 (.slice A6 J2.red.length c7) vK2 J2 cw ct co part ep R.g hv sb vs) 197,B3 (R.g) hv,Ac (Ai .i64) (.slice A1 set.length c2) set,Ac Af (.slice A6 J2.red.length c7) J2.red,gl]:=H
 refine Aa (Ae (Ad U (Ab (Z (Aa (Aa (Ae (Ad U (V U U (AJ U U) (V U U (Aj U H9 U) (V U U (Aj U DL U) (V U U (Aj U EM U) (V U U (Am U EW U (H.cellRI 0 U U)) (V U U (Bj U Fp U) (Ad U (Ab (Z (AW ?_))))))))))))))))))
 replace H:=H.newnil DR|>.h1 (A:=Y DR (.slice none 0 0) (BC (D3 R.g hv set 0)))
 refine B1 (σ:=Nat×Value) (fun (k,q)=>[(0,.pointer (some ⟨r,0,none⟩)),(1,.slice A1 set.length c2),(4,.slice none 0 0),(5,.int .i64 0),(6,q),(14,.int .i64 ((J2.us.length:Nat):Int)),(15,.int .i64 ((k:Nat):Int))]) (fun (k,q) w=>(Hd w0 F0 w [Y DR q (BC (D3 R.g hv set k))] [blk r (BJ (.slice A J2.us.length c) vM2 vC2 (.slice A6 J2.red.length c7) vK2 J2 cw ct co part ep R.g hv sb vs) 197,B3 (R.g) hv,Ac (Ai .i64) (.slice A1 set.length c2) set,Ac Af (.slice A6 J2.red.length c7) J2.red,gl])∧(k≤J2.us.length)) (fun (k,q)=>J2.us.length - k) (0,.slice none 0 0) ⟨rfl,rfl,rfl,rfl,rfl,rfl,rfl,trivial⟩ ⟨H,Nat.zero_le _⟩ ?_
 rintro ⟨k,q⟩ w ⟨H,hk⟩
 have hpl:=ZF R.g hv set k
 have hhl:(BC (D3 R.g hv set k)).length=(D3 R.g hv set k).length:=by simp [BC]
 refine Aa (Ae (V U U (Br U U U) (Ab (Z (Aa ?_)))))
 refine AC U (fun h11=>?_) (fun h11=>?_)
 ·refine Az (Z (Aa (AW (Aa (Ae (Ah 2 U (Ab (Z (Aa (Ae (Ah 2 U (V U U (AJ U U) (V U U (Aj U Ju U) (V U U (HM (p:=14+k*5) U Kf JC U U (by omega) (by omega) (by omega)) (V U U (Aj U KD U) (V U U (Am U DP U (H.cellRI 0 U (Ny (by omega)))) (Ad U ?_)))))))))))))))))
  refine FC (d:=25) (b:=(R.g k).merged) U (fun h12=>?_) (fun h12=>?_)
  ·refine Ah 2 U (sc (UA (.slice A1 set.length c2) set ((k:Nat):Int)) H (lR 2 U l0) U U (Av WN U U) ?_)
   rintro _ _ w ⟨rfl,rfl⟩ H
   refine Ad U (Ab (Z ?_))
   refine AC U (fun h13=>?_) (fun h13=>?_)
   ·refine Ae (Ah 3 U (V U U (AJ U U) (V U U (Aj U Ju U) (V U U (HM (p:=14+k*5) U Kf JC U U (by omega) (by omega) (by omega)) (V U U (Aj U Pu U) ?_)))))
    obtain ⟨A14,c15,e16,_,_,_⟩:=H.prsFormR (i:=k) 1 rfl (by omega)
    refine V U U (Am U DJ U (H.cellRI 0 U ((bD (by omega)).trans (congrArg some e16)))) (Cg (parts:=[(0,.tmp 37)]) (vs:=[.slice A14 ((R.g k).pairs.length) c15]) (cs:=[.slice A14 ((R.g k).pairs.length) c15]) U U U Gy LR U (by decide) (by decide) U U H (fun b17 w H=>?_))
    replace H:=H.p1
    refine CE (xs:=BC (D3 R.g hv set k)) (ys:=[(⟨A14,(R.g k).pairs.length,c15⟩:Fb)]) U U U Gy LR U (by decide) U U H (by first |omega|(simp only [List.length_append,List.length_cons,List.length_nil];omega)) (fun F hA hR=>CC (hA _ (List.mem_of_getElem? (i:=0) U)) U (by decide) (Be.flat_eq.2 U)) (fun v18 w H=>(Ad U (Ab (Bb (Z ?_)))))
    replace H:Hd _ _ _ [Y DR v18 ((BC (D3 R.g hv set k))++[(⟨A14,(R.g k).pairs.length,c15⟩:Fb)]),blk b17 [.slice A14 ((R.g k).pairs.length) c15] 47] [blk r (BJ (.slice A J2.us.length c) vM2 vC2 (.slice A6 J2.red.length c7) vK2 J2 cw ct co part ep R.g hv sb vs) 197,B3 (R.g) hv,Ac (Ai .i64) (.slice A1 set.length c2) set,Ac Af (.slice A6 J2.red.length c7) J2.red,gl]:=H
    refine Ae (V U U (Bc (z:=((k+1:Nat):Int)) U U U (by rw [AI (by omega) (by omega)];omega)) (Ad U (Ab ?_)))
    replace H:=H.k1
    replace H:Hd w0 F0 w [Y DR v18 (BC (D3 R.g hv set (k+1)))] [blk r (BJ (.slice A J2.us.length c) vM2 vC2 (.slice A6 J2.red.length c7) vK2 J2 cw ct co part ep R.g hv sb vs) 197,B3 (R.g) hv,Ac (Ai .i64) (.slice A1 set.length c2) set,Ac Af (.slice A6 J2.red.length c7) J2.red,gl]:=by rw [Nh,if_pos ⟨h12,h13⟩,show BC (D3 R.g hv set k++[(hv k,(R.g k).pairs)])=BC (D3 R.g hv set k)++[⟨A14,(R.g k).pairs.length,c15⟩] by simp [BC,FL,e16]];exact H
    exact Bo (s:=(k,undef)) (k+1,v18) ⟨rfl,rfl,rfl,rfl,rfl,rfl,rfl,trivial⟩ ⟨H,by (try dsimp only);omega⟩ (by (try dsimp only);omega)
   refine Az (Bb (Z (Ae (V U U (Bc (z:=((k+1:Nat):Int)) U U U (by rw [AI (by omega) (by omega)];omega)) (Ad U (Ab ?_))))))
   replace H:Hd w0 F0 w [Y DR q (BC (D3 R.g hv set (k+1)))] [blk r (BJ (.slice A J2.us.length c) vM2 vC2 (.slice A6 J2.red.length c7) vK2 J2 cw ct co part ep R.g hv sb vs) 197,B3 (R.g) hv,Ac (Ai .i64) (.slice A1 set.length c2) set,Ac Af (.slice A6 J2.red.length c7) J2.red,gl]:=by rw [Nh,if_neg (fun h=>by first |exact h13 h.2|(rw [h12] at h;cases h.1)),List.append_nil];exact H
   exact Bo (s:=(k,undef)) (k+1,q) ⟨rfl,rfl,rfl,rfl,rfl,rfl,rfl,trivial⟩ ⟨H,by (try dsimp only);omega⟩ (by (try dsimp only);omega)
  refine Ah 4 U (Ab (Z (Ch U (Az (Bb (Z (Ae (V U U (Bc (z:=((k+1:Nat):Int)) U U U (by rw [AI (by omega) (by omega)];omega)) (Ad U (Ab ?_))))))))))
  replace H:Hd w0 F0 w [Y DR q (BC (D3 R.g hv set (k+1)))] [blk r (BJ (.slice A J2.us.length c) vM2 vC2 (.slice A6 J2.red.length c7) vK2 J2 cw ct co part ep R.g hv sb vs) 197,B3 (R.g) hv,Ac (Ai .i64) (.slice A1 set.length c2) set,Ac Af (.slice A6 J2.red.length c7) J2.red,gl]:=by rw [Nh,if_neg (fun h=>by first |exact h12 h.2|(rw [h12] at h;cases h.1)),List.append_nil];exact H
  exact Bo (s:=(k,undef)) (k+1,q) ⟨rfl,rfl,rfl,rfl,rfl,rfl,rfl,trivial⟩ ⟨H,by (try dsimp only);omega⟩ (by (try dsimp only);omega)
 refine BQ (AV (AV (BS (Z (Aa (Ce (.e 0 (.e 1 (.e 2 (.e 3 (.e 4 (.e 5 (.e 6 (.e 7 (.e 8 (.e 9 (.e 10 (.e 11 (.e 12 (.m 13 (.e 14 (.e 15 (.e 16 (.e 17 .z)))))))))))))))))) (fun w=>∃ Ar,Hd w0 F0 w (Ar) [blk r (BJ (.slice A J2.us.length c) vM2 vC2 (.slice A6 J2.red.length c7) vK2 J2 cw ct co part ep R.g hv sb vs) 197,B3 (R.g) hv,Ac (Ai .i64) (.slice A1 set.length c2) set,Ac Af (.slice A6 J2.red.length c7) J2.red,gl]) mo (by kernel_rfl) (fun w H=>⟨_,H⟩) H (fun w H=>(Au U (Ao U U U (fun w ⟨Ar,H⟩=>AJ U U) (Ao U U U (fun w ⟨Ar,H⟩=>Aj U H9 U) (Ao U U U (fun w ⟨Ar,H⟩=>Aj U DL U) (Ao U U U (fun w ⟨Ar,H⟩=>Aj U IH U) (Ao U U U (fun w ⟨Ar,H⟩=>Am U E8 U (H.cellRI 0 U U)) (Au U (Ao U U U (fun w ⟨Ar,H⟩=>AJ U U) ?_)))))))))))))))
 refine Ao U U U (fun w ⟨Ar,H⟩=>Aj U H9 U) (Ao U U U (fun w ⟨Ar,H⟩=>Aj U DL U) (Ao U U U (fun w ⟨Ar,H⟩=>Aj U PB U) (Ao U U U (fun w ⟨Ar,H⟩=>Am U AE U (H.cellRI 0 U U)) (Au U (AO U ?_)))))
 have hkk:k=J2.us.length:=by omega
 replace H:Hd w0 F0 w [Y DR q (BC (D3 R.g hv set J2.us.length))] [blk r (BJ (.slice A J2.us.length c) vM2 vC2 (.slice A6 J2.red.length c7) vK2 J2 cw ct co part ep R.g hv sb vs) 197,B3 (R.g) hv,Ac (Ai .i64) (.slice A1 set.length c2) set,Ac Af (.slice A6 J2.red.length c7) J2.red,gl]:=by rw [hkk] at H;exact H
 have hrb:=SD (set:=set) hbp J2.us.length
 have hfl:(CY (D3 R.g hv set J2.us.length)).length≤1000000:=by rw [RS];omega
 refine sc (dF (.slice A6 J2.red.length c7) J2.red J2.fuel q (D3 R.g hv set J2.us.length) hred hf64 hfl) H (lX (fun F hA hR=>hR _ (List.mem_of_getElem? (i:=3) U)) (lX (fun F hA hR=>V0 (B2 F (hA _ (List.mem_of_getElem? (i:=0) U))) (ZG hus6 (hR _ (List.mem_of_getElem? (i:=1) U)))) (lR 4 U l0))) U U (Av Xa U U) ?_
 rintro _ _ w ⟨u19,rfl,rfl⟩ H
 rw [RS] at H ⊢
 replace H:Hd _ _ _ [Y Ag u19 ((D0 dg J2.red (srt (FQ J2.us.length R set)) J2.fuel false).1),Y DR q (BC (D3 R.g hv set J2.us.length))] [blk r (BJ (.slice A J2.us.length c) vM2 vC2 (.slice A6 J2.red.length c7) vK2 J2 cw ct co part ep R.g hv sb vs) 197,B3 (R.g) hv,Ac (Ai .i64) (.slice A1 set.length c2) set,Ac Af (.slice A6 J2.red.length c7) J2.red,gl]:=H
 refine AH ⟨_,H⟩ (Au U (Au U (Au U (Au U (BO (Z (An (Dy U U U ?_))))))))
 replace H:=H.k1
 exact Al ⟨u19,rfl,rfl⟩ H
theorem Zk (r:Nat) (A:Option Addr) (c:Nat) (vM2:Value) (vC2:Value) (vR2:Value) (vK2:Value) (J2:AR) (cw:Int) (ct:Int) (co:Int) (part:Int) (ep:Int) (R:AX) (hv:Nat→Value) (sb:Nat) (vs:Value) (hred:∀ i∈J2.red,AG i.a) (hf64:AG J2.fuel) (hus6:J2.us.length≤6) (hbp:∀ i,(R.g i).pairs.length≤1000):
    Cn Tryz.prog 139 [.pointer (some ⟨r,0,none⟩)] [] [blk r (BJ (.slice A J2.us.length c) vM2 vC2 vR2 vK2 J2 cw ct co part ep R.g hv sb vs) 197,B3 (R.g) hv,Ac Af vR2 J2.red,gl] (fun v Bs=>∃ u:Value,v=.tuple #[u,.int .i64 ((D2 dg J2 R).2.1),.bool ((D2 dg J2 R).2.2)]∧Bs=[Y Ag u ((D2 dg J2 R).1)]):=by
 intro w0 F0 H
 obtain ⟨A1,c2,rfl,hc3,hm4,hp5⟩:=H.fR 2 rfl
 refine enter Tryz.func139 U U (Nat.le_of_ble_eq_true U) (Aa (Ae (Ah 3 U (Ab (Z ?_)))))
 replace H:Hd _ _ _ [] [blk r (BJ (.slice A J2.us.length c) vM2 vC2 (.slice A1 J2.red.length c2) vK2 J2 cw ct co part ep R.g hv sb vs) 197,B3 (R.g) hv,Ac Af (.slice A1 J2.red.length c2) J2.red,gl]:=H
 refine Aa (Ae (Ad U (sc (Ri r A c vM2 vC2 (.slice A1 J2.red.length c2) vK2 J2 cw ct co part ep R hv sb vs (by first |assumption|omega)) H (lR 0 U l0) U U (Av Qp U U) ?_)))
 rintro v6 _ w rfl H
 replace H:=H.h1 (A:=Y (Ai .i64) v6 (C6 J2.us.length R))
 refine Ad U (Ab (Z (Aa (Aa (Ae (Ad U (V U U (Dg U Ke U U) (Ah 2 U ?_))))))))
 obtain ⟨A7,c8,rfl,hc9,hm10,hp11⟩:=H.fA 0 rfl
 refine V U U (Bj U EA U) (Ad U (V U U (AJ U U) (V U U (Aj U H9 U) (V U U (Aj U DL U) (V U U (Aj U EM U) (V U U (Am U EW U (H.cellRI 0 U U)) (V U U (Bj U Fp U) (V U U (Br U U U) (Ad U (Ab (Z ?_)))))))))))
 refine AC U (fun h12=>?_) (fun h12=>?_)
 ·refine Aa (Ae (Ah 3 U (Ab (Z (An (AA (GT U U U U ?_)))))))
  have e:D2 dg J2 R=([],0,false):=if_pos (by omega)
  replace H:=H.newnil Ag|>.k1
  exact Al ⟨(.slice none 0 0),by rw [e]<;>rfl,by rw [e]<;>rfl⟩ H
 refine Az (Z (Aa (Ae (Ah 2 U (sc (Y7 r A c vM2 vC2 (.slice A1 J2.red.length c2) vK2 J2 cw ct co part ep R hv sb vs (.slice A7 ((C6 J2.us.length R).length) c8) (C6 J2.us.length R) (by first |assumption|omega) (by first |assumption|omega) (by first |assumption|omega) (by first |assumption|omega)) H (lR 0 U (lR 1 U (lA 0 U B2 (lR 2 U (lR 3 U l0))))) U U (Av WW U U) ?_)))))
 rintro _ _ w ⟨u13,rfl,rfl⟩ H
 replace H:=H.h1 (A:=Y Ag u13 ((D0 dg J2.red (srt (FQ J2.us.length R (C6 J2.us.length R))) J2.fuel false).1))
 refine Ah 5 U (Ab (Z (Aa (Ae (Ah 5 U (Ab (Z (An (GT U U U U ?_)))))))))
 have e:D2 dg J2 R=((D0 dg J2.red (srt (FQ J2.us.length R (C6 J2.us.length R))) J2.fuel false).1,(D0 dg J2.red (srt (FQ J2.us.length R (C6 J2.us.length R))) J2.fuel false).2,true):=if_neg (by omega)
 replace H:=H.k1
 exact Al ⟨u13,by rw [e]<;>rfl,by rw [e]<;>rfl⟩ H
section
variable {P:Program} {ops:Array Oper} {Q:Exit→Act→World→Prop} {rest:List Oper} {n:Nat} {l:BV} {w0 w:World} {F0:AU} {o:Oper} {As Rs:List SP} {x y:Operand} {t ti:TypeId}
end
section
variable {w0 w:World} {F0:AU} {As Rs:List SP} {t sb mb:Nat} {st:D_} {kvs:List Hv} {k:Int×Int} {v:Value} {us:List (Value×List Aq)}
end
def EF (r:Nat) (vS:Value) (vM:Value) (vC:Value) (vR:Value) (vK:Value) (J:AR) (cw:Int) (ct:Int) (co:Int) (sb:Nat) (R:AX):SP:=ex fun hv:Nat→Value=>ex fun vs:Value=>ex fun us:List (Value×List Int)=>B0 [BY ((us.map (fun u=>u.2)=R.sets)),blk r (BJ vS vM vC vR vK J cw ct co R.part R.ep R.g hv sb vs) 197,Y (At Ag) vS J.us,Y Af vM J.map,Y Af vC J.comb,Y Af vR J.red,Y (Ai .i64) vK J.marks,B3 (R.g) hv,Y (At (Ai .i64)) vs us,CT 275 sb (R.st)]
theorem bI (r:Nat) (vS:Value) (vM:Value) (vC:Value) (vR:Value) (vK:Value) (J:AR) (cw:Int) (ct:Int) (co:Int) (sb:Nat) (R:AX) {w0 w:World} {F0:AU} {As Rs:List SP} (H:Hd w0 F0 w (EF r vS vM vC vR vK J cw ct co sb R::As) Rs):∃ hv:Nat→Value,∃ vs:Value,∃ us:List (Value×List Int),((us.map (fun u=>u.2)=R.sets))∧Hd w0 F0 w ([blk r (BJ vS vM vC vR vK J cw ct co R.part R.ep R.g hv sb vs) 197,Y (At Ag) vS J.us,Y Af vM J.map,Y Af vC J.comb,Y Af vR J.red,Y (Ai .i64) vK J.marks,B3 (R.g) hv,Y (At (Ai .i64)) vs us,CT 275 sb (R.st)]++As) Rs:=by
 obtain ⟨hv,H⟩:=Hd.exA H
 obtain ⟨vs,H⟩:=Hd.exA H
 obtain ⟨us,H⟩:=Hd.exA H
 exact ⟨hv,vs,us,H.stA.puA⟩
theorem So (r:Nat) (vS:Value) (vM:Value) (vC:Value) (vR:Value) (vK:Value) (J:AR) (cw:Int) (ct:Int) (co:Int) (sb:Nat) (R:AX) (hv:Nat→Value) (vs:Value) (us:List (Value×List Int)) {w0 w:World} {F0:AU} {As Rs:List SP} (hp:(us.map (fun u=>u.2)=R.sets)) (H:Hd w0 F0 w ([blk r (BJ vS vM vC vR vK J cw ct co R.part R.ep R.g hv sb vs) 197,Y (At Ag) vS J.us,Y Af vM J.map,Y Af vC J.comb,Y Af vR J.red,Y (Ai .i64) vK J.marks,B3 (R.g) hv,Y (At (Ai .i64)) vs us,CT 275 sb (R.st)]++As) Rs):Hd w0 F0 w (EF r vS vM vC vR vK J cw ct co sb R::As) Rs:=by
 have H1:=(show Hd w0 F0 w ([BY ((us.map (fun u=>u.2)=R.sets)),blk r (BJ vS vM vC vR vK J cw ct co R.part R.ep R.g hv sb vs) 197,Y (At Ag) vS J.us,Y Af vM J.map,Y Af vC J.comb,Y Af vR J.red,Y (Ai .i64) vK J.marks,B3 (R.g) hv,Y (At (Ai .i64)) vs us,CT 275 sb (R.st)]++As) Rs from H.puI hp).stI
 replace H1:=Hd.exI (A:=fun us:List (Value×List Int)=>B0 [BY ((us.map (fun u=>u.2)=R.sets)),blk r (BJ vS vM vC vR vK J cw ct co R.part R.ep R.g hv sb vs) 197,Y (At Ag) vS J.us,Y Af vM J.map,Y Af vC J.comb,Y Af vR J.red,Y (Ai .i64) vK J.marks,B3 (R.g) hv,Y (At (Ai .i64)) vs us,CT 275 sb (R.st)]) us H1
 replace H1:=Hd.exI (A:=fun vs:Value=>ex fun us:List (Value×List Int)=>B0 [BY ((us.map (fun u=>u.2)=R.sets)),blk r (BJ vS vM vC vR vK J cw ct co R.part R.ep R.g hv sb vs) 197,Y (At Ag) vS J.us,Y Af vM J.map,Y Af vC J.comb,Y Af vR J.red,Y (Ai .i64) vK J.marks,B3 (R.g) hv,Y (At (Ai .i64)) vs us,CT 275 sb (R.st)]) vs H1
 replace H1:=Hd.exI (A:=fun hv:Nat→Value=>ex fun vs:Value=>ex fun us:List (Value×List Int)=>B0 [BY ((us.map (fun u=>u.2)=R.sets)),blk r (BJ vS vM vC vR vK J cw ct co R.part R.ep R.g hv sb vs) 197,Y (At Ag) vS J.us,Y Af vM J.map,Y Af vC J.comb,Y Af vR J.red,Y (Ai .i64) vK J.marks,B3 (R.g) hv,Y (At (Ai .i64)) vs us,CT 275 sb (R.st)]) hv H1
 exact H1
theorem V3 (r:Nat) (A:Option Addr) (c:Nat) (vM2:Value) (vC2:Value) (vR2:Value) (vK2:Value) (J2:AR) (cw:Int) (ct:Int) (co:Int) (part:Int) (ep:Int) (R:AX) (hv:Nat→Value) (sb:Nat) (vs:Value) (hred:∀ i∈J2.red,AG i.a) (hf64:AG J2.fuel) (hus6:J2.us.length≤6) (hbp:∀ i,(R.g i).pairs.length≤1000) (hpt:part=R.part) (hep:ep=R.ep):
    Cn Tryz.prog 84 [.pointer (some ⟨r,0,none⟩)] [] [blk r (BJ (.slice A J2.us.length c) vM2 vC2 vR2 vK2 J2 cw ct co part ep R.g hv sb vs) 197,B3 (R.g) hv,Ac Af vR2 J2.red,gl] (fun v Bs=>∃ u:Value,v=.agg #[.int .i64 ((AT dg J2 R).kind),.int .i64 ((AT dg J2 R).sp),.int .i64 ((AT dg J2 R).att),.int .i64 ((AT dg J2 R).part),.int .i64 ((AT dg J2 R).seq),.int .i64 ((AT dg J2 R).next),.int .i64 ((AT dg J2 R).ep),.int .i64 ((AT dg J2 R).why),u,.slice none 0 0]∧Bs=[Y (Ai .i64) u ((AT dg J2 R).set)]):=by
 intro w0 F0 H
 refine enter Tryz.func84 U U (Nat.le_of_ble_eq_true U) (Aa (Ae (DD U U U Jf H (fun b1 w H=>(Ab (Z ?_))))))
 replace H:Hd _ _ _ [blk b1 [.int .i64 0,.int .i64 0,.int .i64 0,.int .i64 0,.int .i64 0,.int .i64 0,.int .i64 0,.int .i64 0,.slice none 0 0,.slice none 0 0] 49] [blk r (BJ (.slice A J2.us.length c) vM2 vC2 vR2 vK2 J2 cw ct co part ep R.g hv sb vs) 197,B3 (R.g) hv,Ac Af vR2 J2.red,gl]:=H
 refine Aa (Aa (Ae (Ad U (V U U (Dg U Ke U U) (Ab (Z (Ch U (Az (Z (Aa (Ae (Ad U (sc (Zk r A c vM2 vC2 vR2 vK2 J2 cw ct co part ep R hv sb vs (by first |assumption|omega) (by first |assumption|omega) (by first |assumption|omega) (by first |assumption|omega)) H (lR 0 U (lR 1 U (lR 2 U (lR 3 U l0)))) U U (Av WH U U) ?_)))))))))))))
 rintro _ _ w ⟨u2,rfl,rfl⟩ H
 replace H:=H.h1 (A:=Y Ag u2 ((D2 dg J2 R).1))
 refine Ah 7 U (Ab (Z (Aa (Aa (Ae (Ad U (Ab (Z ?_))))))))
 refine Dp (b:=(D2 dg J2 R).2.2) U (fun h3=>?_) (fun h3=>?_)
 ·refine Aa (Ce (.e 0 (.e 1 (.e 2 (.e 3 (.e 4 (.e 5 (.e 6 (.e 7 (.e 8 (.e 9 (.m 10 .z))))))))))) (fun w=>∃ Ar,Hd w0 F0 w (Y Ag u2 ((D2 dg J2 R).1)::Ar) [blk r (BJ (.slice A J2.us.length c) vM2 vC2 vR2 vK2 J2 cw ct co part ep R.g hv sb vs) 197,B3 (R.g) hv,Ac Af vR2 J2.red,gl]) mo (by kernel_rfl) (fun w H=>⟨_,H⟩) H (fun w H=>(Au U (Ao U U U (fun w ⟨Ar,H⟩=>AJ U U) (Ao U U U (fun w ⟨Ar,H⟩=>Aj U Pv U) (Ao U U U (fun w ⟨Ar,H⟩=>Am U AE U (H.cellRI 0 U U)) (Au U (Ao U U U (fun w ⟨Ar,H⟩=>AJ U U) (Ao U U U (fun w ⟨Ar,H⟩=>Aj U Pw U) (Ao U U U (fun w ⟨Ar,H⟩=>Am U AE U (H.cellRI 0 U U)) (Au U (Ao U U U (fun w ⟨Ar,H⟩=>Dl (parts:=[(0,.const (.int .i64 8)),(3,.tmp 19),(6,.tmp 23),(7,.tmp 24)]) (vs:=[.int .i64 8,.int .i64 part,.int .i64 ep,.int .i64 ((D2 dg J2 R).2.1)]) (cs:=[.int .i64 8,.int .i64 0,.int .i64 0,.int .i64 part,.int .i64 0,.int .i64 0,.int .i64 ep,.int .i64 ((D2 dg J2 R).2.1),.slice none 0 0,.slice none 0 0]) U H0 U U) ?_))))))))))))
  refine AO U ?_
  replace H:=H.p1
  refine Bx U U U FU U U H U (Nat.le_of_ble_eq_true U) (fun u hu=>by simp [Value.cells] at hu;rcases hu with rfl|rfl|rfl|rfl|rfl|rfl|rfl|rfl|rfl|rfl<;>rfl) (fun w H=>?_)
  replace H:=H.h1 (A:=blk b1 [.int .i64 8,.int .i64 0,.int .i64 0,.int .i64 part,.int .i64 0,.int .i64 0,.int .i64 ep,.int .i64 ((D2 dg J2 R).2.1),.slice none 0 0,.slice none 0 0] 49)|>.p1
  refine AH ⟨_,H⟩ (BO (Z (An (AA (FP (cs:=[.int .i64 8,.int .i64 0,.int .i64 0,.int .i64 part,.int .i64 0,.int .i64 0,.int .i64 ep,.int .i64 ((D2 dg J2 R).2.1),.slice none 0 0,.slice none 0 0]) U U FU U (H.cellsI 1 U U) ?_)))))
  have e:=V5 (D:=dg) (J:=J2) (R:=R) (by simpa using h3)
  replace H:=H.newnil (Ai .i64)|>.k1
  exact Al ⟨(.slice none 0 0),by rw [e,hpt,hep]<;>rfl,by rw [e]<;>rfl⟩ H
 refine Az (Z (Aa (Ce (.e 0 (.e 1 (.e 2 (.e 3 (.e 4 (.e 5 (.e 6 (.e 7 (.e 8 (.m 9 (.e 10 (.m 11 .z)))))))))))) (fun w=>∃ Ar,Hd w0 F0 w (Y Ag u2 ((D2 dg J2 R).1)::Ar) [blk r (BJ (.slice A J2.us.length c) vM2 vC2 vR2 vK2 J2 cw ct co part ep R.g hv sb vs) 197,B3 (R.g) hv,Ac Af vR2 J2.red,gl]) mo (by kernel_rfl) (fun w H=>⟨_,H⟩) H (fun w H=>(Au U (Ao U U U (fun w ⟨Ar,H⟩=>AJ U U) (Ao U U U (fun w ⟨Ar,H⟩=>Aj U Pv U) (Ao U U U (fun w ⟨Ar,H⟩=>Am U AE U (H.cellRI 0 U U)) (Au U (Ao U U U (fun w ⟨Ar,H⟩=>AJ U U) (Ao U U U (fun w ⟨Ar,H⟩=>Aj U Pw U) (Ao U U U (fun w ⟨Ar,H⟩=>Am U AE U (H.cellRI 0 U U)) (Au U (AO U (sc (Ri r A c vM2 vC2 vR2 vK2 J2 cw ct co part ep R hv sb vs (by first |assumption|omega)) H (lR 0 U l0) U U (Av Qp U U) ?_)))))))))))))))
 rintro v4 _ w rfl H
 replace H:=H.h1 (A:=Y (Ai .i64) v4 (C6 J2.us.length R))|>.p1
 refine AH ⟨_,H⟩ ?_
 obtain ⟨A5,c6,rfl,hc7,hm8,hp9⟩:=H.fA 1 rfl
 refine Ao U U U (fun w ⟨Ar,H⟩=>Dl (parts:=[(0,.const (.int .i64 6)),(3,.tmp 29),(6,.tmp 33),(8,.tmp 35)]) (vs:=[.int .i64 6,.int .i64 part,.int .i64 ep,.slice A5 ((C6 J2.us.length R).length) c6]) (cs:=[.int .i64 6,.int .i64 0,.int .i64 0,.int .i64 part,.int .i64 0,.int .i64 0,.int .i64 ep,.int .i64 0,.slice A5 ((C6 J2.us.length R).length) c6,.slice none 0 0]) U H0 U U) (AO U ?_)
 replace H:=H.p2
 refine Bx U U U FU U U H U (Nat.le_of_ble_eq_true U) (fun u hu=>by simp [Value.cells] at hu;rcases hu with rfl|rfl|rfl|rfl|rfl|rfl|rfl|rfl|rfl|rfl<;>rfl) (fun w H=>?_)
 replace H:Hd _ _ _ [blk b1 [.int .i64 6,.int .i64 0,.int .i64 0,.int .i64 part,.int .i64 0,.int .i64 0,.int .i64 ep,.int .i64 0,.slice A5 ((C6 J2.us.length R).length) c6,.slice none 0 0] 49,Y Ag u2 ((D2 dg J2 R).1),Y (Ai .i64) (.slice A5 ((C6 J2.us.length R).length) c6) (C6 J2.us.length R)] [blk r (BJ (.slice A J2.us.length c) vM2 vC2 vR2 vK2 J2 cw ct co part ep R.g hv sb vs) 197,B3 (R.g) hv,Ac Af vR2 J2.red,gl]:=H
 replace H:=H.p1
 refine AH ⟨_,H⟩ (BO (Z (An (FP (cs:=[.int .i64 6,.int .i64 0,.int .i64 0,.int .i64 part,.int .i64 0,.int .i64 0,.int .i64 ep,.int .i64 0,.slice A5 ((C6 J2.us.length R).length) c6,.slice none 0 0]) U U FU U (H.cellsI 1 U U) ?_))))
 have e:=P8 (D:=dg) (J:=J2) (R:=R) (by simpa using h3)
 replace H:=H.p2.k1
 exact Al ⟨(.slice A5 ((C6 J2.us.length R).length) c6),by rw [e,hpt,hep]<;>rfl,by rw [e]<;>rfl⟩ H
def Gx (e:Nat) (C:Cf) (R:AX):SP:=ex fun vS2:Value=>ex fun vM2:Value=>ex fun vC2:Value=>ex fun vR2:Value=>ex fun vK2:Value=>ex fun J2:AR=>ex fun sb:Nat=>B0 [BY ((Bk J2 C.J)),EF e vS2 vM2 vC2 vR2 vK2 J2 C.w C.t C.o sb R]
theorem bH (e:Nat) (C:Cf) (R:AX) {w0 w:World} {F0:AU} {As Rs:List SP} (H:Hd w0 F0 w (Gx e C R::As) Rs):∃ vS2:Value,∃ vM2:Value,∃ vC2:Value,∃ vR2:Value,∃ vK2:Value,∃ J2:AR,∃ sb:Nat,((Bk J2 C.J))∧Hd w0 F0 w ([EF e vS2 vM2 vC2 vR2 vK2 J2 C.w C.t C.o sb R]++As) Rs:=by
 obtain ⟨vS2,H⟩:=Hd.exA H
 obtain ⟨vM2,H⟩:=Hd.exA H
 obtain ⟨vC2,H⟩:=Hd.exA H
 obtain ⟨vR2,H⟩:=Hd.exA H
 obtain ⟨vK2,H⟩:=Hd.exA H
 obtain ⟨J2,H⟩:=Hd.exA H
 obtain ⟨sb,H⟩:=Hd.exA H
 exact ⟨vS2,vM2,vC2,vR2,vK2,J2,sb,H.stA.puA⟩
theorem Sn (e:Nat) (C:Cf) (R:AX) (vS2:Value) (vM2:Value) (vC2:Value) (vR2:Value) (vK2:Value) (J2:AR) (sb:Nat) {w0 w:World} {F0:AU} {As Rs:List SP} (hp:(Bk J2 C.J)) (H:Hd w0 F0 w ([EF e vS2 vM2 vC2 vR2 vK2 J2 C.w C.t C.o sb R]++As) Rs):Hd w0 F0 w (Gx e C R::As) Rs:=by
 have H1:=(show Hd w0 F0 w ([BY ((Bk J2 C.J)),EF e vS2 vM2 vC2 vR2 vK2 J2 C.w C.t C.o sb R]++As) Rs from H.puI hp).stI
 replace H1:=Hd.exI (A:=fun sb:Nat=>B0 [BY ((Bk J2 C.J)),EF e vS2 vM2 vC2 vR2 vK2 J2 C.w C.t C.o sb R]) sb H1
 replace H1:=Hd.exI (A:=fun J2:AR=>ex fun sb:Nat=>B0 [BY ((Bk J2 C.J)),EF e vS2 vM2 vC2 vR2 vK2 J2 C.w C.t C.o sb R]) J2 H1
 replace H1:=Hd.exI (A:=fun vK2:Value=>ex fun J2:AR=>ex fun sb:Nat=>B0 [BY ((Bk J2 C.J)),EF e vS2 vM2 vC2 vR2 vK2 J2 C.w C.t C.o sb R]) vK2 H1
 replace H1:=Hd.exI (A:=fun vR2:Value=>ex fun vK2:Value=>ex fun J2:AR=>ex fun sb:Nat=>B0 [BY ((Bk J2 C.J)),EF e vS2 vM2 vC2 vR2 vK2 J2 C.w C.t C.o sb R]) vR2 H1
 replace H1:=Hd.exI (A:=fun vC2:Value=>ex fun vR2:Value=>ex fun vK2:Value=>ex fun J2:AR=>ex fun sb:Nat=>B0 [BY ((Bk J2 C.J)),EF e vS2 vM2 vC2 vR2 vK2 J2 C.w C.t C.o sb R]) vC2 H1
 replace H1:=Hd.exI (A:=fun vM2:Value=>ex fun vC2:Value=>ex fun vR2:Value=>ex fun vK2:Value=>ex fun J2:AR=>ex fun sb:Nat=>B0 [BY ((Bk J2 C.J)),EF e vS2 vM2 vC2 vR2 vK2 J2 C.w C.t C.o sb R]) vM2 H1
 replace H1:=Hd.exI (A:=fun vS2:Value=>ex fun vM2:Value=>ex fun vC2:Value=>ex fun vR2:Value=>ex fun vK2:Value=>ex fun J2:AR=>ex fun sb:Nat=>B0 [BY ((Bk J2 C.J)),EF e vS2 vM2 vC2 vR2 vK2 J2 C.w C.t C.o sb R]) vS2 H1
 exact H1
def CS (C:Cf) (rl:List (Nat×AX)):SP:=BN (fun e:Nat×AX=>Gx e.1 C e.2) rl
def Dr (J:AR) (tl:List (Nat×Cy)):SP:=BN (fun e:Nat×Cy=>Da e.1 J e.2) tl
theorem d8 {tl:List (Nat×Cy)} {ts:List Cy} (htl:tl.map Prod.snd=ts) {k:Nat} {x:Kj} (hx:(tl.map BH)[k]?=some x):∃ e,tl[k]?=some e∧ts[k]?=some e.2∧x=BH e:=by
 rw [List.getElem?_map] at hx
 obtain ⟨e,he,rfl⟩:=Option.map_eq_some_iff.1 hx
 exact ⟨e,he,by rw [←htl,List.getElem?_map,he];rfl,rfl⟩
def B6 (b:Nat) (C:Cf) (W:Fu):SP:=ex fun vS:Value=>ex fun vM:Value=>ex fun vC:Value=>ex fun vR:Value=>ex fun vK:Value=>ex fun J2:AR=>ex fun pv:Value=>ex fun kb:Nat=>ex fun tv:Value=>ex fun rl:List (Nat×AX)=>ex fun tl:List (Nat×Cy)=>B0 [BY ((Bk J2 C.J)∧(rl.map Prod.snd=W.rs)∧(tl.map Prod.snd=W.ts)),blk b [vS,.int .i64 J2.parts,vM,vC,vR,.int .i64 J2.chunk,.int .i64 J2.window,.int .i64 J2.fuel,vK,.int .i64 C.w,.int .i64 C.t,.int .i64 C.o,.int .i64 W.ep,pv,.map (some kb),tv,.int .u32 (Cu W.over)] 103,Y (At Ag) vS J2.us,Y Af vM J2.map,Y Af vC J2.comb,Y Af vR J2.red,Y (Ai .i64) vK J2.marks,Y (Ai .i64) pv (rl.map Bw),B8 Cr kb (rl.map CB),CS C rl,Y Dj tv (tl.map BH),Dr C.J tl]
theorem N7 (b:Nat) (C:Cf) (W:Fu) {w0 w:World} {F0:AU} {As Rs:List SP} (H:Hd w0 F0 w (B6 b C W::As) Rs):∃ vS:Value,∃ vM:Value,∃ vC:Value,∃ vR:Value,∃ vK:Value,∃ J2:AR,∃ pv:Value,∃ kb:Nat,∃ tv:Value,∃ rl:List (Nat×AX),∃ tl:List (Nat×Cy),((Bk J2 C.J)∧(rl.map Prod.snd=W.rs)∧(tl.map Prod.snd=W.ts))∧Hd w0 F0 w ([blk b [vS,.int .i64 J2.parts,vM,vC,vR,.int .i64 J2.chunk,.int .i64 J2.window,.int .i64 J2.fuel,vK,.int .i64 C.w,.int .i64 C.t,.int .i64 C.o,.int .i64 W.ep,pv,.map (some kb),tv,.int .u32 (Cu W.over)] 103,Y (At Ag) vS J2.us,Y Af vM J2.map,Y Af vC J2.comb,Y Af vR J2.red,Y (Ai .i64) vK J2.marks,Y (Ai .i64) pv (rl.map Bw),B8 Cr kb (rl.map CB),CS C rl,Y Dj tv (tl.map BH),Dr C.J tl]++As) Rs:=by
 obtain ⟨vS,H⟩:=Hd.exA H
 obtain ⟨vM,H⟩:=Hd.exA H
 obtain ⟨vC,H⟩:=Hd.exA H
 obtain ⟨vR,H⟩:=Hd.exA H
 obtain ⟨vK,H⟩:=Hd.exA H
 obtain ⟨J2,H⟩:=Hd.exA H
 obtain ⟨pv,H⟩:=Hd.exA H
 obtain ⟨kb,H⟩:=Hd.exA H
 obtain ⟨tv,H⟩:=Hd.exA H
 obtain ⟨rl,H⟩:=Hd.exA H
 obtain ⟨tl,H⟩:=Hd.exA H
 exact ⟨vS,vM,vC,vR,vK,J2,pv,kb,tv,rl,tl,H.stA.puA⟩
theorem LO (b:Nat) (C:Cf) (W:Fu) (vS:Value) (vM:Value) (vC:Value) (vR:Value) (vK:Value) (J2:AR) (pv:Value) (kb:Nat) (tv:Value) (rl:List (Nat×AX)) (tl:List (Nat×Cy)) {w0 w:World} {F0:AU} {As Rs:List SP} (hp:(Bk J2 C.J)∧(rl.map Prod.snd=W.rs)∧(tl.map Prod.snd=W.ts)) (H:Hd w0 F0 w ([blk b [vS,.int .i64 J2.parts,vM,vC,vR,.int .i64 J2.chunk,.int .i64 J2.window,.int .i64 J2.fuel,vK,.int .i64 C.w,.int .i64 C.t,.int .i64 C.o,.int .i64 W.ep,pv,.map (some kb),tv,.int .u32 (Cu W.over)] 103,Y (At Ag) vS J2.us,Y Af vM J2.map,Y Af vC J2.comb,Y Af vR J2.red,Y (Ai .i64) vK J2.marks,Y (Ai .i64) pv (rl.map Bw),B8 Cr kb (rl.map CB),CS C rl,Y Dj tv (tl.map BH),Dr C.J tl]++As) Rs):Hd w0 F0 w (B6 b C W::As) Rs:=by
 have H1:=(show Hd w0 F0 w ([BY ((Bk J2 C.J)∧(rl.map Prod.snd=W.rs)∧(tl.map Prod.snd=W.ts)),blk b [vS,.int .i64 J2.parts,vM,vC,vR,.int .i64 J2.chunk,.int .i64 J2.window,.int .i64 J2.fuel,vK,.int .i64 C.w,.int .i64 C.t,.int .i64 C.o,.int .i64 W.ep,pv,.map (some kb),tv,.int .u32 (Cu W.over)] 103,Y (At Ag) vS J2.us,Y Af vM J2.map,Y Af vC J2.comb,Y Af vR J2.red,Y (Ai .i64) vK J2.marks,Y (Ai .i64) pv (rl.map Bw),B8 Cr kb (rl.map CB),CS C rl,Y Dj tv (tl.map BH),Dr C.J tl]++As) Rs from H.puI hp).stI
 replace H1:=Hd.exI (A:=fun tl:List (Nat×Cy)=>B0 [BY ((Bk J2 C.J)∧(rl.map Prod.snd=W.rs)∧(tl.map Prod.snd=W.ts)),blk b [vS,.int .i64 J2.parts,vM,vC,vR,.int .i64 J2.chunk,.int .i64 J2.window,.int .i64 J2.fuel,vK,.int .i64 C.w,.int .i64 C.t,.int .i64 C.o,.int .i64 W.ep,pv,.map (some kb),tv,.int .u32 (Cu W.over)] 103,Y (At Ag) vS J2.us,Y Af vM J2.map,Y Af vC J2.comb,Y Af vR J2.red,Y (Ai .i64) vK J2.marks,Y (Ai .i64) pv (rl.map Bw),B8 Cr kb (rl.map CB),CS C rl,Y Dj tv (tl.map BH),Dr C.J tl]) tl H1
 replace H1:=Hd.exI (A:=fun rl:List (Nat×AX)=>ex fun tl:List (Nat×Cy)=>B0 [BY ((Bk J2 C.J)∧(rl.map Prod.snd=W.rs)∧(tl.map Prod.snd=W.ts)),blk b [vS,.int .i64 J2.parts,vM,vC,vR,.int .i64 J2.chunk,.int .i64 J2.window,.int .i64 J2.fuel,vK,.int .i64 C.w,.int .i64 C.t,.int .i64 C.o,.int .i64 W.ep,pv,.map (some kb),tv,.int .u32 (Cu W.over)] 103,Y (At Ag) vS J2.us,Y Af vM J2.map,Y Af vC J2.comb,Y Af vR J2.red,Y (Ai .i64) vK J2.marks,Y (Ai .i64) pv (rl.map Bw),B8 Cr kb (rl.map CB),CS C rl,Y Dj tv (tl.map BH),Dr C.J tl]) rl H1
 replace H1:=Hd.exI (A:=fun tv:Value=>ex fun rl:List (Nat×AX)=>ex fun tl:List (Nat×Cy)=>B0 [BY ((Bk J2 C.J)∧(rl.map Prod.snd=W.rs)∧(tl.map Prod.snd=W.ts)),blk b [vS,.int .i64 J2.parts,vM,vC,vR,.int .i64 J2.chunk,.int .i64 J2.window,.int .i64 J2.fuel,vK,.int .i64 C.w,.int .i64 C.t,.int .i64 C.o,.int .i64 W.ep,pv,.map (some kb),tv,.int .u32 (Cu W.over)] 103,Y (At Ag) vS J2.us,Y Af vM J2.map,Y Af vC J2.comb,Y Af vR J2.red,Y (Ai .i64) vK J2.marks,Y (Ai .i64) pv (rl.map Bw),B8 Cr kb (rl.map CB),CS C rl,Y Dj tv (tl.map BH),Dr C.J tl]) tv H1
 replace H1:=Hd.exI (A:=fun kb:Nat=>ex fun tv:Value=>ex fun rl:List (Nat×AX)=>ex fun tl:List (Nat×Cy)=>B0 [BY ((Bk J2 C.J)∧(rl.map Prod.snd=W.rs)∧(tl.map Prod.snd=W.ts)),blk b [vS,.int .i64 J2.parts,vM,vC,vR,.int .i64 J2.chunk,.int .i64 J2.window,.int .i64 J2.fuel,vK,.int .i64 C.w,.int .i64 C.t,.int .i64 C.o,.int .i64 W.ep,pv,.map (some kb),tv,.int .u32 (Cu W.over)] 103,Y (At Ag) vS J2.us,Y Af vM J2.map,Y Af vC J2.comb,Y Af vR J2.red,Y (Ai .i64) vK J2.marks,Y (Ai .i64) pv (rl.map Bw),B8 Cr kb (rl.map CB),CS C rl,Y Dj tv (tl.map BH),Dr C.J tl]) kb H1
 replace H1:=Hd.exI (A:=fun pv:Value=>ex fun kb:Nat=>ex fun tv:Value=>ex fun rl:List (Nat×AX)=>ex fun tl:List (Nat×Cy)=>B0 [BY ((Bk J2 C.J)∧(rl.map Prod.snd=W.rs)∧(tl.map Prod.snd=W.ts)),blk b [vS,.int .i64 J2.parts,vM,vC,vR,.int .i64 J2.chunk,.int .i64 J2.window,.int .i64 J2.fuel,vK,.int .i64 C.w,.int .i64 C.t,.int .i64 C.o,.int .i64 W.ep,pv,.map (some kb),tv,.int .u32 (Cu W.over)] 103,Y (At Ag) vS J2.us,Y Af vM J2.map,Y Af vC J2.comb,Y Af vR J2.red,Y (Ai .i64) vK J2.marks,Y (Ai .i64) pv (rl.map Bw),B8 Cr kb (rl.map CB),CS C rl,Y Dj tv (tl.map BH),Dr C.J tl]) pv H1
 replace H1:=Hd.exI (A:=fun J2:AR=>ex fun pv:Value=>ex fun kb:Nat=>ex fun tv:Value=>ex fun rl:List (Nat×AX)=>ex fun tl:List (Nat×Cy)=>B0 [BY ((Bk J2 C.J)∧(rl.map Prod.snd=W.rs)∧(tl.map Prod.snd=W.ts)),blk b [vS,.int .i64 J2.parts,vM,vC,vR,.int .i64 J2.chunk,.int .i64 J2.window,.int .i64 J2.fuel,vK,.int .i64 C.w,.int .i64 C.t,.int .i64 C.o,.int .i64 W.ep,pv,.map (some kb),tv,.int .u32 (Cu W.over)] 103,Y (At Ag) vS J2.us,Y Af vM J2.map,Y Af vC J2.comb,Y Af vR J2.red,Y (Ai .i64) vK J2.marks,Y (Ai .i64) pv (rl.map Bw),B8 Cr kb (rl.map CB),CS C rl,Y Dj tv (tl.map BH),Dr C.J tl]) J2 H1
 replace H1:=Hd.exI (A:=fun vK:Value=>ex fun J2:AR=>ex fun pv:Value=>ex fun kb:Nat=>ex fun tv:Value=>ex fun rl:List (Nat×AX)=>ex fun tl:List (Nat×Cy)=>B0 [BY ((Bk J2 C.J)∧(rl.map Prod.snd=W.rs)∧(tl.map Prod.snd=W.ts)),blk b [vS,.int .i64 J2.parts,vM,vC,vR,.int .i64 J2.chunk,.int .i64 J2.window,.int .i64 J2.fuel,vK,.int .i64 C.w,.int .i64 C.t,.int .i64 C.o,.int .i64 W.ep,pv,.map (some kb),tv,.int .u32 (Cu W.over)] 103,Y (At Ag) vS J2.us,Y Af vM J2.map,Y Af vC J2.comb,Y Af vR J2.red,Y (Ai .i64) vK J2.marks,Y (Ai .i64) pv (rl.map Bw),B8 Cr kb (rl.map CB),CS C rl,Y Dj tv (tl.map BH),Dr C.J tl]) vK H1
 replace H1:=Hd.exI (A:=fun vR:Value=>ex fun vK:Value=>ex fun J2:AR=>ex fun pv:Value=>ex fun kb:Nat=>ex fun tv:Value=>ex fun rl:List (Nat×AX)=>ex fun tl:List (Nat×Cy)=>B0 [BY ((Bk J2 C.J)∧(rl.map Prod.snd=W.rs)∧(tl.map Prod.snd=W.ts)),blk b [vS,.int .i64 J2.parts,vM,vC,vR,.int .i64 J2.chunk,.int .i64 J2.window,.int .i64 J2.fuel,vK,.int .i64 C.w,.int .i64 C.t,.int .i64 C.o,.int .i64 W.ep,pv,.map (some kb),tv,.int .u32 (Cu W.over)] 103,Y (At Ag) vS J2.us,Y Af vM J2.map,Y Af vC J2.comb,Y Af vR J2.red,Y (Ai .i64) vK J2.marks,Y (Ai .i64) pv (rl.map Bw),B8 Cr kb (rl.map CB),CS C rl,Y Dj tv (tl.map BH),Dr C.J tl]) vR H1
 replace H1:=Hd.exI (A:=fun vC:Value=>ex fun vR:Value=>ex fun vK:Value=>ex fun J2:AR=>ex fun pv:Value=>ex fun kb:Nat=>ex fun tv:Value=>ex fun rl:List (Nat×AX)=>ex fun tl:List (Nat×Cy)=>B0 [BY ((Bk J2 C.J)∧(rl.map Prod.snd=W.rs)∧(tl.map Prod.snd=W.ts)),blk b [vS,.int .i64 J2.parts,vM,vC,vR,.int .i64 J2.chunk,.int .i64 J2.window,.int .i64 J2.fuel,vK,.int .i64 C.w,.int .i64 C.t,.int .i64 C.o,.int .i64 W.ep,pv,.map (some kb),tv,.int .u32 (Cu W.over)] 103,Y (At Ag) vS J2.us,Y Af vM J2.map,Y Af vC J2.comb,Y Af vR J2.red,Y (Ai .i64) vK J2.marks,Y (Ai .i64) pv (rl.map Bw),B8 Cr kb (rl.map CB),CS C rl,Y Dj tv (tl.map BH),Dr C.J tl]) vC H1
 replace H1:=Hd.exI (A:=fun vM:Value=>ex fun vC:Value=>ex fun vR:Value=>ex fun vK:Value=>ex fun J2:AR=>ex fun pv:Value=>ex fun kb:Nat=>ex fun tv:Value=>ex fun rl:List (Nat×AX)=>ex fun tl:List (Nat×Cy)=>B0 [BY ((Bk J2 C.J)∧(rl.map Prod.snd=W.rs)∧(tl.map Prod.snd=W.ts)),blk b [vS,.int .i64 J2.parts,vM,vC,vR,.int .i64 J2.chunk,.int .i64 J2.window,.int .i64 J2.fuel,vK,.int .i64 C.w,.int .i64 C.t,.int .i64 C.o,.int .i64 W.ep,pv,.map (some kb),tv,.int .u32 (Cu W.over)] 103,Y (At Ag) vS J2.us,Y Af vM J2.map,Y Af vC J2.comb,Y Af vR J2.red,Y (Ai .i64) vK J2.marks,Y (Ai .i64) pv (rl.map Bw),B8 Cr kb (rl.map CB),CS C rl,Y Dj tv (tl.map BH),Dr C.J tl]) vM H1
 replace H1:=Hd.exI (A:=fun vS:Value=>ex fun vM:Value=>ex fun vC:Value=>ex fun vR:Value=>ex fun vK:Value=>ex fun J2:AR=>ex fun pv:Value=>ex fun kb:Nat=>ex fun tv:Value=>ex fun rl:List (Nat×AX)=>ex fun tl:List (Nat×Cy)=>B0 [BY ((Bk J2 C.J)∧(rl.map Prod.snd=W.rs)∧(tl.map Prod.snd=W.ts)),blk b [vS,.int .i64 J2.parts,vM,vC,vR,.int .i64 J2.chunk,.int .i64 J2.window,.int .i64 J2.fuel,vK,.int .i64 C.w,.int .i64 C.t,.int .i64 C.o,.int .i64 W.ep,pv,.map (some kb),tv,.int .u32 (Cu W.over)] 103,Y (At Ag) vS J2.us,Y Af vM J2.map,Y Af vC J2.comb,Y Af vR J2.red,Y (Ai .i64) vK J2.marks,Y (Ai .i64) pv (rl.map Bw),B8 Cr kb (rl.map CB),CS C rl,Y Dj tv (tl.map BH),Dr C.J tl]) vS H1
 exact H1
theorem fM (b:Nat) (vS:Value) (vM:Value) (vC:Value) (vR:Value) (vK:Value) (J2:AR) (C:Cf) (ep:Int) (pv:Value) (kb:Nat) (tv:Value) (ov:Bool):
    Cn Tryz.prog 135 [.pointer (some ⟨b,16,none⟩)] [] [blk b [vS,.int .i64 J2.parts,vM,vC,vR,.int .i64 J2.chunk,.int .i64 J2.window,.int .i64 J2.fuel,vK,.int .i64 C.w,.int .i64 C.t,.int .i64 C.o,.int .i64 ep,pv,.map (some kb),tv,.int .u32 (Cu ov)] 103] (fun v Bs=>v=.bool ov∧Bs=[]):=by
 intro w0 F0 H
 refine enter Tryz.func135 U U (Nat.le_of_ble_eq_true U) (Aa (Ae (Ad U (Ab (Z (Aa (Ae (Ad U (V U U (AJ U U) (V U U (Aj U Jr U) (V U U (Ld L8 U U (H.cellRI 0 U U)) (V U U (Cx U U U) (Ad U (Ab (Z (An (Ap U U ?_)))))))))))))))))
 replace H:Hd _ _ _ [] [blk b [vS,.int .i64 J2.parts,vM,vC,vR,.int .i64 J2.chunk,.int .i64 J2.window,.int .i64 J2.fuel,vK,.int .i64 C.w,.int .i64 C.t,.int .i64 C.o,.int .i64 ep,pv,.map (some kb),tv,.int .u32 (Cu ov)] 103]:=H
 exact Al ⟨congrArg Value.bool (Zl ov),rfl⟩ H
theorem fL (b:Nat) (C:Cf) (W:Fu):
    Cn Tryz.prog 82 [.pointer (some ⟨b,0,none⟩)] [B6 b C W] [] (fun v Bs=>v=.bool W.over∧Bs=[B6 b C W]):=by
 intro w0 F0 H
 obtain ⟨vS1,vM2,vC3,vR4,vK5,J6,pv7,kb8,tv9,rl10,tl11,⟨hsj12,hrl13,htl14⟩,H⟩:=N7 b C W H
 replace H:Hd _ _ _ [blk b [vS1,.int .i64 J6.parts,vM2,vC3,vR4,.int .i64 J6.chunk,.int .i64 J6.window,.int .i64 J6.fuel,vK5,.int .i64 C.w,.int .i64 C.t,.int .i64 C.o,.int .i64 W.ep,pv7,.map (some kb8),tv9,.int .u32 (Cu W.over)] 103,Y (At Ag) vS1 J6.us,Y Af vM2 J6.map,Y Af vC3 J6.comb,Y Af vR4 J6.red,Y (Ai .i64) vK5 J6.marks,Y (Ai .i64) pv7 (rl10.map Bw),B8 Cr kb8 (rl10.map CB),CS C rl10,Y Dj tv9 (tl11.map BH),Dr C.J tl11] []:=H
 obtain ⟨A15,c16,rfl,hc17,hm18,hp19⟩:=H.fA 6 rfl
 obtain ⟨A20,c21,rfl,hc22,hm23,hp24⟩:=H.fA 9 rfl
 refine enter Tryz.func82 U U (Nat.le_of_ble_eq_true U) (Aa (Ae (Ad U (Ab (Z (Aa (Ae (Ad U (V U U (HO U LJ U U) (Ah 2 U (V U U (AJ U U) (V U U (Aj U Vt U) (sc (fM b vS1 vM2 vC3 vR4 vK5 J6 C W.ep (.slice A15 ((rl10.map Bw).length) c16) kb8 (.slice A20 ((tl11.map BH).length) c21) W.over) H (lA 0 U (fun _ h=>h) l0) U U (Av MF U U) ?_)))))))))))))
 rintro _ _ w ⟨rfl,rfl⟩ H
 refine Ah 2 U (Ab (Z (An (Ap U U ?_))))
 replace H:=LO b C W vS1 vM2 vC3 vR4 vK5 J6 (.slice A15 ((rl10.map Bw).length) c16) kb8 (.slice A20 ((tl11.map BH).length) c21) rl10 tl11 ⟨hsj12,hrl13,htl14⟩ H
 replace H:=H.h1 (A:=B6 b C W)
 exact Al ⟨rfl,rfl⟩ H
theorem Tj (b:Nat) (C:Cf) (W:Fu):
    Cn Tryz.prog 14 [.pointer (some ⟨b,0,none⟩)] [B6 b C W] [] (fun v Bs=>v=.int .i64 W.ep∧Bs=[B6 b C W]):=by
 intro w0 F0 H
 obtain ⟨vS1,vM2,vC3,vR4,vK5,J6,pv7,kb8,tv9,rl10,tl11,⟨hsj12,hrl13,htl14⟩,H⟩:=N7 b C W H
 replace H:Hd _ _ _ [blk b [vS1,.int .i64 J6.parts,vM2,vC3,vR4,.int .i64 J6.chunk,.int .i64 J6.window,.int .i64 J6.fuel,vK5,.int .i64 C.w,.int .i64 C.t,.int .i64 C.o,.int .i64 W.ep,pv7,.map (some kb8),tv9,.int .u32 (Cu W.over)] 103,Y (At Ag) vS1 J6.us,Y Af vM2 J6.map,Y Af vC3 J6.comb,Y Af vR4 J6.red,Y (Ai .i64) vK5 J6.marks,Y (Ai .i64) pv7 (rl10.map Bw),B8 Cr kb8 (rl10.map CB),CS C rl10,Y Dj tv9 (tl11.map BH),Dr C.J tl11] []:=H
 obtain ⟨A15,c16,rfl,hc17,hm18,hp19⟩:=H.fA 6 rfl
 obtain ⟨A20,c21,rfl,hc22,hm23,hp24⟩:=H.fA 9 rfl
 refine enter Tryz.func14 U U (Nat.le_of_ble_eq_true U) (Aa (Ae (Ad U (Ab (Z (Aa (Aa (Ae (Ad U (V U U (Dg U LJ U U) (Ab (Z (Ch U (Az (Z (Aa (Ae (Ad U (V U U (AJ U U) (V U U (Aj U KB U) (V U U (Am U AE U (H.cellI 0 U U)) (Ad U (Ab (Z (An (Ap U U ?_))))))))))))))))))))))))))
 replace H:=LO b C W vS1 vM2 vC3 vR4 vK5 J6 (.slice A15 ((rl10.map Bw).length) c16) kb8 (.slice A20 ((tl11.map BH).length) c21) rl10 tl11 ⟨hsj12,hrl13,htl14⟩ H
 replace H:=H.h1 (A:=B6 b C W)
 exact Al ⟨rfl,rfl⟩ H
def Cj (b:Nat) (C:Cf) (N:Ci):SP:=ex fun vS:Value=>ex fun vM:Value=>ex fun vC:Value=>ex fun vR:Value=>ex fun vK:Value=>ex fun J2:AR=>ex fun d:Nat=>ex fun hv:Value=>ex fun zs:List (Bl BE)=>ex fun wb:Nat=>B0 [BY ((Bk J2 C.J)∧(zs.map B4=N.held)),blk b [vS,.int .i64 J2.parts,vM,vC,vR,.int .i64 J2.chunk,.int .i64 J2.window,.int .i64 J2.fuel,vK,.int .i64 C.w,.int .i64 C.t,.int .i64 C.o,.int .i64 N.id,.bool N.up,.pointer (some ⟨d,0,none⟩),hv,.pointer none,.pointer (some ⟨wb,0,none⟩)] 93,Y (At Ag) vS J2.us,Y Af vM J2.map,Y Af vC J2.comb,Y Af vR J2.red,Y (Ai .i64) vK J2.marks,Bz d N.b N.n,Y BF hv zs,B6 wb (Bp J2 C) N.W]
theorem GQ (b:Nat) (C:Cf) (N:Ci) {w0 w:World} {F0:AU} {As Rs:List SP} (H:Hd w0 F0 w (Cj b C N::As) Rs):∃ vS:Value,∃ vM:Value,∃ vC:Value,∃ vR:Value,∃ vK:Value,∃ J2:AR,∃ d:Nat,∃ hv:Value,∃ zs:List (Bl BE),∃ wb:Nat,((Bk J2 C.J)∧(zs.map B4=N.held))∧Hd w0 F0 w ([blk b [vS,.int .i64 J2.parts,vM,vC,vR,.int .i64 J2.chunk,.int .i64 J2.window,.int .i64 J2.fuel,vK,.int .i64 C.w,.int .i64 C.t,.int .i64 C.o,.int .i64 N.id,.bool N.up,.pointer (some ⟨d,0,none⟩),hv,.pointer none,.pointer (some ⟨wb,0,none⟩)] 93,Y (At Ag) vS J2.us,Y Af vM J2.map,Y Af vC J2.comb,Y Af vR J2.red,Y (Ai .i64) vK J2.marks,Bz d N.b N.n,Y BF hv zs,B6 wb (Bp J2 C) N.W]++As) Rs:=by
 obtain ⟨vS,H⟩:=Hd.exA H
 obtain ⟨vM,H⟩:=Hd.exA H
 obtain ⟨vC,H⟩:=Hd.exA H
 obtain ⟨vR,H⟩:=Hd.exA H
 obtain ⟨vK,H⟩:=Hd.exA H
 obtain ⟨J2,H⟩:=Hd.exA H
 obtain ⟨d,H⟩:=Hd.exA H
 obtain ⟨hv,H⟩:=Hd.exA H
 obtain ⟨zs,H⟩:=Hd.exA H
 obtain ⟨wb,H⟩:=Hd.exA H
 exact ⟨vS,vM,vC,vR,vK,J2,d,hv,zs,wb,H.stA.puA⟩
theorem Gv (b:Nat) (C:Cf) (N:Ci) (vS:Value) (vM:Value) (vC:Value) (vR:Value) (vK:Value) (J2:AR) (d:Nat) (hv:Value) (zs:List (Bl BE)) (wb:Nat) {w0 w:World} {F0:AU} {As Rs:List SP} (hp:(Bk J2 C.J)∧(zs.map B4=N.held)) (H:Hd w0 F0 w ([blk b [vS,.int .i64 J2.parts,vM,vC,vR,.int .i64 J2.chunk,.int .i64 J2.window,.int .i64 J2.fuel,vK,.int .i64 C.w,.int .i64 C.t,.int .i64 C.o,.int .i64 N.id,.bool N.up,.pointer (some ⟨d,0,none⟩),hv,.pointer none,.pointer (some ⟨wb,0,none⟩)] 93,Y (At Ag) vS J2.us,Y Af vM J2.map,Y Af vC J2.comb,Y Af vR J2.red,Y (Ai .i64) vK J2.marks,Bz d N.b N.n,Y BF hv zs,B6 wb (Bp J2 C) N.W]++As) Rs):Hd w0 F0 w (Cj b C N::As) Rs:=by
 have H1:=(show Hd w0 F0 w ([BY ((Bk J2 C.J)∧(zs.map B4=N.held)),blk b [vS,.int .i64 J2.parts,vM,vC,vR,.int .i64 J2.chunk,.int .i64 J2.window,.int .i64 J2.fuel,vK,.int .i64 C.w,.int .i64 C.t,.int .i64 C.o,.int .i64 N.id,.bool N.up,.pointer (some ⟨d,0,none⟩),hv,.pointer none,.pointer (some ⟨wb,0,none⟩)] 93,Y (At Ag) vS J2.us,Y Af vM J2.map,Y Af vC J2.comb,Y Af vR J2.red,Y (Ai .i64) vK J2.marks,Bz d N.b N.n,Y BF hv zs,B6 wb (Bp J2 C) N.W]++As) Rs from H.puI hp).stI
 replace H1:=Hd.exI (A:=fun wb:Nat=>B0 [BY ((Bk J2 C.J)∧(zs.map B4=N.held)),blk b [vS,.int .i64 J2.parts,vM,vC,vR,.int .i64 J2.chunk,.int .i64 J2.window,.int .i64 J2.fuel,vK,.int .i64 C.w,.int .i64 C.t,.int .i64 C.o,.int .i64 N.id,.bool N.up,.pointer (some ⟨d,0,none⟩),hv,.pointer none,.pointer (some ⟨wb,0,none⟩)] 93,Y (At Ag) vS J2.us,Y Af vM J2.map,Y Af vC J2.comb,Y Af vR J2.red,Y (Ai .i64) vK J2.marks,Bz d N.b N.n,Y BF hv zs,B6 wb (Bp J2 C) N.W]) wb H1
 replace H1:=Hd.exI (A:=fun zs:List (Bl BE)=>ex fun wb:Nat=>B0 [BY ((Bk J2 C.J)∧(zs.map B4=N.held)),blk b [vS,.int .i64 J2.parts,vM,vC,vR,.int .i64 J2.chunk,.int .i64 J2.window,.int .i64 J2.fuel,vK,.int .i64 C.w,.int .i64 C.t,.int .i64 C.o,.int .i64 N.id,.bool N.up,.pointer (some ⟨d,0,none⟩),hv,.pointer none,.pointer (some ⟨wb,0,none⟩)] 93,Y (At Ag) vS J2.us,Y Af vM J2.map,Y Af vC J2.comb,Y Af vR J2.red,Y (Ai .i64) vK J2.marks,Bz d N.b N.n,Y BF hv zs,B6 wb (Bp J2 C) N.W]) zs H1
 replace H1:=Hd.exI (A:=fun hv:Value=>ex fun zs:List (Bl BE)=>ex fun wb:Nat=>B0 [BY ((Bk J2 C.J)∧(zs.map B4=N.held)),blk b [vS,.int .i64 J2.parts,vM,vC,vR,.int .i64 J2.chunk,.int .i64 J2.window,.int .i64 J2.fuel,vK,.int .i64 C.w,.int .i64 C.t,.int .i64 C.o,.int .i64 N.id,.bool N.up,.pointer (some ⟨d,0,none⟩),hv,.pointer none,.pointer (some ⟨wb,0,none⟩)] 93,Y (At Ag) vS J2.us,Y Af vM J2.map,Y Af vC J2.comb,Y Af vR J2.red,Y (Ai .i64) vK J2.marks,Bz d N.b N.n,Y BF hv zs,B6 wb (Bp J2 C) N.W]) hv H1
 replace H1:=Hd.exI (A:=fun d:Nat=>ex fun hv:Value=>ex fun zs:List (Bl BE)=>ex fun wb:Nat=>B0 [BY ((Bk J2 C.J)∧(zs.map B4=N.held)),blk b [vS,.int .i64 J2.parts,vM,vC,vR,.int .i64 J2.chunk,.int .i64 J2.window,.int .i64 J2.fuel,vK,.int .i64 C.w,.int .i64 C.t,.int .i64 C.o,.int .i64 N.id,.bool N.up,.pointer (some ⟨d,0,none⟩),hv,.pointer none,.pointer (some ⟨wb,0,none⟩)] 93,Y (At Ag) vS J2.us,Y Af vM J2.map,Y Af vC J2.comb,Y Af vR J2.red,Y (Ai .i64) vK J2.marks,Bz d N.b N.n,Y BF hv zs,B6 wb (Bp J2 C) N.W]) d H1
 replace H1:=Hd.exI (A:=fun J2:AR=>ex fun d:Nat=>ex fun hv:Value=>ex fun zs:List (Bl BE)=>ex fun wb:Nat=>B0 [BY ((Bk J2 C.J)∧(zs.map B4=N.held)),blk b [vS,.int .i64 J2.parts,vM,vC,vR,.int .i64 J2.chunk,.int .i64 J2.window,.int .i64 J2.fuel,vK,.int .i64 C.w,.int .i64 C.t,.int .i64 C.o,.int .i64 N.id,.bool N.up,.pointer (some ⟨d,0,none⟩),hv,.pointer none,.pointer (some ⟨wb,0,none⟩)] 93,Y (At Ag) vS J2.us,Y Af vM J2.map,Y Af vC J2.comb,Y Af vR J2.red,Y (Ai .i64) vK J2.marks,Bz d N.b N.n,Y BF hv zs,B6 wb (Bp J2 C) N.W]) J2 H1
 replace H1:=Hd.exI (A:=fun vK:Value=>ex fun J2:AR=>ex fun d:Nat=>ex fun hv:Value=>ex fun zs:List (Bl BE)=>ex fun wb:Nat=>B0 [BY ((Bk J2 C.J)∧(zs.map B4=N.held)),blk b [vS,.int .i64 J2.parts,vM,vC,vR,.int .i64 J2.chunk,.int .i64 J2.window,.int .i64 J2.fuel,vK,.int .i64 C.w,.int .i64 C.t,.int .i64 C.o,.int .i64 N.id,.bool N.up,.pointer (some ⟨d,0,none⟩),hv,.pointer none,.pointer (some ⟨wb,0,none⟩)] 93,Y (At Ag) vS J2.us,Y Af vM J2.map,Y Af vC J2.comb,Y Af vR J2.red,Y (Ai .i64) vK J2.marks,Bz d N.b N.n,Y BF hv zs,B6 wb (Bp J2 C) N.W]) vK H1
 replace H1:=Hd.exI (A:=fun vR:Value=>ex fun vK:Value=>ex fun J2:AR=>ex fun d:Nat=>ex fun hv:Value=>ex fun zs:List (Bl BE)=>ex fun wb:Nat=>B0 [BY ((Bk J2 C.J)∧(zs.map B4=N.held)),blk b [vS,.int .i64 J2.parts,vM,vC,vR,.int .i64 J2.chunk,.int .i64 J2.window,.int .i64 J2.fuel,vK,.int .i64 C.w,.int .i64 C.t,.int .i64 C.o,.int .i64 N.id,.bool N.up,.pointer (some ⟨d,0,none⟩),hv,.pointer none,.pointer (some ⟨wb,0,none⟩)] 93,Y (At Ag) vS J2.us,Y Af vM J2.map,Y Af vC J2.comb,Y Af vR J2.red,Y (Ai .i64) vK J2.marks,Bz d N.b N.n,Y BF hv zs,B6 wb (Bp J2 C) N.W]) vR H1
 replace H1:=Hd.exI (A:=fun vC:Value=>ex fun vR:Value=>ex fun vK:Value=>ex fun J2:AR=>ex fun d:Nat=>ex fun hv:Value=>ex fun zs:List (Bl BE)=>ex fun wb:Nat=>B0 [BY ((Bk J2 C.J)∧(zs.map B4=N.held)),blk b [vS,.int .i64 J2.parts,vM,vC,vR,.int .i64 J2.chunk,.int .i64 J2.window,.int .i64 J2.fuel,vK,.int .i64 C.w,.int .i64 C.t,.int .i64 C.o,.int .i64 N.id,.bool N.up,.pointer (some ⟨d,0,none⟩),hv,.pointer none,.pointer (some ⟨wb,0,none⟩)] 93,Y (At Ag) vS J2.us,Y Af vM J2.map,Y Af vC J2.comb,Y Af vR J2.red,Y (Ai .i64) vK J2.marks,Bz d N.b N.n,Y BF hv zs,B6 wb (Bp J2 C) N.W]) vC H1
 replace H1:=Hd.exI (A:=fun vM:Value=>ex fun vC:Value=>ex fun vR:Value=>ex fun vK:Value=>ex fun J2:AR=>ex fun d:Nat=>ex fun hv:Value=>ex fun zs:List (Bl BE)=>ex fun wb:Nat=>B0 [BY ((Bk J2 C.J)∧(zs.map B4=N.held)),blk b [vS,.int .i64 J2.parts,vM,vC,vR,.int .i64 J2.chunk,.int .i64 J2.window,.int .i64 J2.fuel,vK,.int .i64 C.w,.int .i64 C.t,.int .i64 C.o,.int .i64 N.id,.bool N.up,.pointer (some ⟨d,0,none⟩),hv,.pointer none,.pointer (some ⟨wb,0,none⟩)] 93,Y (At Ag) vS J2.us,Y Af vM J2.map,Y Af vC J2.comb,Y Af vR J2.red,Y (Ai .i64) vK J2.marks,Bz d N.b N.n,Y BF hv zs,B6 wb (Bp J2 C) N.W]) vM H1
 replace H1:=Hd.exI (A:=fun vS:Value=>ex fun vM:Value=>ex fun vC:Value=>ex fun vR:Value=>ex fun vK:Value=>ex fun J2:AR=>ex fun d:Nat=>ex fun hv:Value=>ex fun zs:List (Bl BE)=>ex fun wb:Nat=>B0 [BY ((Bk J2 C.J)∧(zs.map B4=N.held)),blk b [vS,.int .i64 J2.parts,vM,vC,vR,.int .i64 J2.chunk,.int .i64 J2.window,.int .i64 J2.fuel,vK,.int .i64 C.w,.int .i64 C.t,.int .i64 C.o,.int .i64 N.id,.bool N.up,.pointer (some ⟨d,0,none⟩),hv,.pointer none,.pointer (some ⟨wb,0,none⟩)] 93,Y (At Ag) vS J2.us,Y Af vM J2.map,Y Af vC J2.comb,Y Af vR J2.red,Y (Ai .i64) vK J2.marks,Bz d N.b N.n,Y BF hv zs,B6 wb (Bp J2 C) N.W]) vS H1
 exact H1
theorem Rr (b:Nat) (vS:Value) (vM:Value) (vC:Value) (vR:Value) (vK:Value) (J2:AR) (C:Cf) (id:Int) (up:Bool) (d:Nat) (hv:Value) (wb:Nat):
    Cn Tryz.prog 22 [.pointer (some ⟨b,0,none⟩)] [] [blk b [vS,.int .i64 J2.parts,vM,vC,vR,.int .i64 J2.chunk,.int .i64 J2.window,.int .i64 J2.fuel,vK,.int .i64 C.w,.int .i64 C.t,.int .i64 C.o,.int .i64 id,.bool up,.pointer (some ⟨d,0,none⟩),hv,.pointer none,.pointer (some ⟨wb,0,none⟩)] 93] (fun v Bs=>v=.bool up∧Bs=[]):=by
 intro w0 F0 H
 refine enter Tryz.func22 U U (Nat.le_of_ble_eq_true U) (Aa (Ae (Ad U (Ab (Z (Aa (Ae (Ad U (V U U (HO U Hp U U) (Ah 2 U (V U U (AJ U U) (V U U (Aj U ED U) (V U U (Aj U JA U) (V U U (Am U DP U (H.cellRI 0 U U)) (Ah 2 U (Ab (Z (An (Ap U U ?_)))))))))))))))))))
 replace H:Hd _ _ _ [] [blk b [vS,.int .i64 J2.parts,vM,vC,vR,.int .i64 J2.chunk,.int .i64 J2.window,.int .i64 J2.fuel,vK,.int .i64 C.w,.int .i64 C.t,.int .i64 C.o,.int .i64 id,.bool up,.pointer (some ⟨d,0,none⟩),hv,.pointer none,.pointer (some ⟨wb,0,none⟩)] 93]:=H
 exact Al ⟨rfl,rfl⟩ H
theorem YJ (b:Nat) (vS:Value) (vM:Value) (vC:Value) (vR:Value) (vK:Value) (J2:AR) (C:Cf) (id:Int) (up:Bool) (d:Nat) (hv:Value) (wb:Nat):
    Cn Tryz.prog 23 [.pointer (some ⟨b,0,none⟩)] [] [blk b [vS,.int .i64 J2.parts,vM,vC,vR,.int .i64 J2.chunk,.int .i64 J2.window,.int .i64 J2.fuel,vK,.int .i64 C.w,.int .i64 C.t,.int .i64 C.o,.int .i64 id,.bool up,.pointer (some ⟨d,0,none⟩),hv,.pointer none,.pointer (some ⟨wb,0,none⟩)] 93] (fun v Bs=>v=.pointer (some ⟨d,0,none⟩)∧Bs=[]):=by
 intro w0 F0 H
 refine enter Tryz.func23 U U (Nat.le_of_ble_eq_true U) (Aa (Ae (Ad U (Ab (Z (Aa (Aa (Ae (Ad U (V U U (Dg U Hp U U) (Ab (Z (Ch U (Az (Z (Aa (Ae (Ad U (V U U (AJ U U) (V U U (Aj U ED U) (V U U (Aj U Ia U) (V U U (Am U Ir U (H.cellRI 0 U U)) (Ad U (Ab (Z (An (Ap U U ?_)))))))))))))))))))))))))))
 replace H:Hd _ _ _ [] [blk b [vS,.int .i64 J2.parts,vM,vC,vR,.int .i64 J2.chunk,.int .i64 J2.window,.int .i64 J2.fuel,vK,.int .i64 C.w,.int .i64 C.t,.int .i64 C.o,.int .i64 id,.bool up,.pointer (some ⟨d,0,none⟩),hv,.pointer none,.pointer (some ⟨wb,0,none⟩)] 93]:=H
 exact Al ⟨rfl,rfl⟩ H
theorem YL (b:Nat) (vS:Value) (vM:Value) (vC:Value) (vR:Value) (vK:Value) (J2:AR) (C:Cf) (id:Int) (up:Bool) (d:Nat) (hv:Value) (wb:Nat):
    Cn Tryz.prog 34 [.pointer (some ⟨b,0,none⟩)] [] [blk b [vS,.int .i64 J2.parts,vM,vC,vR,.int .i64 J2.chunk,.int .i64 J2.window,.int .i64 J2.fuel,vK,.int .i64 C.w,.int .i64 C.t,.int .i64 C.o,.int .i64 id,.bool up,.pointer (some ⟨d,0,none⟩),hv,.pointer none,.pointer (some ⟨wb,0,none⟩)] 93] (fun v Bs=>v=.pointer none∧Bs=[]):=by
 intro w0 F0 H
 refine enter Tryz.func34 U U (Nat.le_of_ble_eq_true U) (Aa (Ae (Ad U (Ab (Z (Aa (Aa (Ae (Ad U (V U U (Dg U Hp U U) (Ab (Z (Ch U (Az (Z (Aa (Ae (Ad U (V U U (AJ U U) (V U U (Aj U PV U) (V U U (Am U S5 U (H.cellRI 0 U U)) (Ad U (Ab (Z (An (Ap U U ?_))))))))))))))))))))))))))
 replace H:Hd _ _ _ [] [blk b [vS,.int .i64 J2.parts,vM,vC,vR,.int .i64 J2.chunk,.int .i64 J2.window,.int .i64 J2.fuel,vK,.int .i64 C.w,.int .i64 C.t,.int .i64 C.o,.int .i64 id,.bool up,.pointer (some ⟨d,0,none⟩),hv,.pointer none,.pointer (some ⟨wb,0,none⟩)] 93]:=H
 exact Al ⟨rfl,rfl⟩ H
theorem M0 (b:Nat) (vS:Value) (vM:Value) (vC:Value) (vR:Value) (vK:Value) (J2:AR) (C:Cf) (id:Int) (up:Bool) (d:Nat) (hv:Value) (wb:Nat):
    Cn Tryz.prog 13 [.pointer (some ⟨b,0,none⟩)] [] [blk b [vS,.int .i64 J2.parts,vM,vC,vR,.int .i64 J2.chunk,.int .i64 J2.window,.int .i64 J2.fuel,vK,.int .i64 C.w,.int .i64 C.t,.int .i64 C.o,.int .i64 id,.bool up,.pointer (some ⟨d,0,none⟩),hv,.pointer none,.pointer (some ⟨wb,0,none⟩)] 93] (fun v Bs=>v=.pointer (some ⟨wb,0,none⟩)∧Bs=[]):=by
 intro w0 F0 H
 refine enter Tryz.func13 U U (Nat.le_of_ble_eq_true U) (Aa (Ae (Ad U (Ab (Z (Aa (Aa (Ae (Ad U (V U U (Dg U Hp U U) (Ab (Z (Ch U (Az (Z (Aa (Ae (Ad U (V U U (AJ U U) (V U U (Aj U Mo U) (V U U (Am U NT U (H.cellRI 0 U U)) (Ad U (Ab (Z (An (Ap U U ?_))))))))))))))))))))))))))
 replace H:Hd _ _ _ [] [blk b [vS,.int .i64 J2.parts,vM,vC,vR,.int .i64 J2.chunk,.int .i64 J2.window,.int .i64 J2.fuel,vK,.int .i64 C.w,.int .i64 C.t,.int .i64 C.o,.int .i64 id,.bool up,.pointer (some ⟨d,0,none⟩),hv,.pointer none,.pointer (some ⟨wb,0,none⟩)] 93]:=H
 exact Al ⟨rfl,rfl⟩ H
theorem YK (b:Nat) (C:Cf) (N:Ci):
    Cn Tryz.prog 25 [.pointer (some ⟨b,0,none⟩)] [Cj b C N] [] (fun v Bs=>v=.int .i64 ((N.held.length:Nat):Int)∧Bs=[Cj b C N]):=by
 intro w0 F0 H
 obtain ⟨vS1,vM2,vC3,vR4,vK5,J6,d7,hv8,zs9,wb10,⟨hsj11,hzs12⟩,H⟩:=GQ b C N H
 replace H:Hd _ _ _ [blk b [vS1,.int .i64 J6.parts,vM2,vC3,vR4,.int .i64 J6.chunk,.int .i64 J6.window,.int .i64 J6.fuel,vK5,.int .i64 C.w,.int .i64 C.t,.int .i64 C.o,.int .i64 N.id,.bool N.up,.pointer (some ⟨d7,0,none⟩),hv8,.pointer none,.pointer (some ⟨wb10,0,none⟩)] 93,Y (At Ag) vS1 J6.us,Y Af vM2 J6.map,Y Af vC3 J6.comb,Y Af vR4 J6.red,Y (Ai .i64) vK5 J6.marks,Bz d7 N.b N.n,Y BF hv8 zs9,B6 wb10 (Bp J6 C) N.W] []:=H
 obtain ⟨A13,c14,rfl,hc15,hm16,hp17⟩:=H.fA 7 rfl
 refine enter Tryz.func25 U U (Nat.le_of_ble_eq_true U) (Aa (Ae (Ad U (Ab (Z (Aa (Aa (Ae (Ad U (V U U (Dg U Hp U U) (Ab (Z (Ch U (Az (Z (Aa (Ae (Ad U (V U U (AJ U U) (V U U (Aj U ED U) (V U U (Aj U Ib U) (V U U (Am U HU U (H.cellI 0 U U)) (V U U (Bj U Jc U) (Ad U (Ab (Z (An (Ap U U ?_))))))))))))))))))))))))))))
 have e:N.held.length=zs9.length:=by rw [←hzs12,List.length_map]
 replace H:=Gv b C N vS1 vM2 vC3 vR4 vK5 J6 d7 (.slice A13 zs9.length c14) zs9 wb10 ⟨hsj11,hzs12⟩ H
 replace H:=H.h1 (A:=Cj b C N)
 exact Al ⟨by rw [e]<;>rfl,rfl⟩ H
theorem IZ (n:Int) (l:Int) (m:Int):
    Cn Tryz.prog 157 [.int .i64 n,.int .i64 l,.int .i64 m] [] [] (fun v Bs=>v=.bool (decide (l≤n∧n≤m))∧Bs=[]):=by
 intro w0 F0 H
 refine enter Tryz.func157 U U (Nat.le_of_ble_eq_true U) (Aa (Ae (Ad U (Ab (Z (Aa (Ae (Ah 2 U (V U U (C7 U U U) (Ad U ?_))))))))))
 refine AQ (d:=10) U (fun h1=>?_) (fun h1=>?_)
 ·exact Ah 2 U (V U U (CD U U U) (Ah 2 U (Ab (Z (An (Ap U U (Al ⟨congrArg Value.bool (decide_eq_decide.2 (by omega)),rfl⟩ H)))))))
 exact Ah 5 U (Ab (Z (An (Ap U U (Al ⟨congrArg Value.bool (decide_eq_false (by omega)).symm,rfl⟩ H)))))
theorem Lh (n:Int):
    Cn Tryz.prog 101 [.int .i64 n] [] [] (fun v Bs=>v=.bool (decide (0≤n∧n≤5))∧Bs=[]):=by
 intro w0 F0 H
 refine enter Tryz.func101 U U (Nat.le_of_ble_eq_true U) (Aa (Ae (Ad U (Ab (Z (Aa (Ae (Ad U (sc (IZ n 0 5) H l0 U U (Av IN U U) ?_)))))))))
 rintro _ _ w ⟨rfl,rfl⟩ H
 exact Ad U (Ab (Z (An (Ap U U (Al ⟨rfl,rfl⟩ H)))))
theorem JS (n:Int):
    Cn Tryz.prog 105 [.int .i64 n] [] [] (fun v Bs=>v=.bool (decide (0≤n∧n≤3))∧Bs=[]):=by
 intro w0 F0 H
 refine enter Tryz.func105 U U (Nat.le_of_ble_eq_true U) (Aa (Ae (Ad U (Ab (Z (Aa (Ae (Ad U (sc (IZ n 0 3) H l0 U U (Av IN U U) ?_)))))))))
 rintro _ _ w ⟨rfl,rfl⟩ H
 exact Ad U (Ab (Z (An (Ap U U (Al ⟨rfl,rfl⟩ H)))))
theorem Sj (n:Int):
    Cn Tryz.prog 102 [.int .i64 n] [] [] (fun v Bs=>v=.bool (decide (1≤n∧n≤3))∧Bs=[]):=by
 intro w0 F0 H
 refine enter Tryz.func102 U U (Nat.le_of_ble_eq_true U) (Aa (Ae (Ad U (Ab (Z (Aa (Ae (Ad U (sc (IZ n 1 3) H l0 U U (Av IN U U) ?_)))))))))
 rintro _ _ w ⟨rfl,rfl⟩ H
 exact Ad U (Ab (Z (An (Ap U U (Al ⟨rfl,rfl⟩ H)))))
theorem We (f:FuncId) (cap:List Value) (Ex:List SP) (p:Int→Bool) (hkf:AK Tryz.prog f) (hp:∀ x,Cn Tryz.prog f ([.int .i64 x]++cap) [] Ex (fun v Bs=>v=.bool (p x)∧Bs=[])) (v:Value) (xs:List Int):
    Cn Tryz.prog 197 [v,.func (.func f) #[] (cap).toArray] [] (Ac (Ai .i64) v xs::Ex) (fun v Bs=>v=.int .i64 (Fw p xs)∧Bs=[]):=by
 intro w0 F0 H
 obtain ⟨A1,c2,rfl,hc3,hm4,hp5⟩:=H.fR 0 rfl
 refine enter Tryz.func197 U U (Nat.le_of_ble_eq_true U) (Aa (Ae (Ad U (Ab (Z ?_)))))
 replace H:Hd _ _ _ [] (Ac (Ai .i64) (.slice A1 xs.length c2) xs::Ex):=H
 refine Aa (Aa (Ae (Ad U (V U U (Bj U EA U) (Ad U (Ab (Z (AW (B1 (σ:=Nat) (fun k=>[(0,.slice A1 xs.length c2),(1,.func (.func f) #[] (cap).toArray),(7,.int .i64 ((xs.length:Nat):Int)),(8,.int .i64 ((k:Nat):Int))]) (fun k w=>(Hd w0 F0 w [] (Ac (Ai .i64) (.slice A1 xs.length c2) xs::Ex))∧(k≤xs.length)∧(∀ y∈xs.take k,p y=false)) (fun k=>xs.length - k) 0 ⟨rfl,rfl,rfl,rfl,trivial⟩ ⟨H,by omega,by simp⟩ ?_)))))))))
 rintro k w ⟨H,hk,hn⟩
 refine Aa (Ae (V U U (Br U U U) (Ab (Z (Aa ?_)))))
 refine AC U (fun h6=>?_) (fun h6=>?_)
 ·refine Az (Z (Aa (AW (Aa (Ae (Ah 2 U (Ab (Z (Aa (Ae (Ah 3 U ?_)))))))))))
  obtain ⟨x7,hx8⟩:∃ z9,xs[k]?=some z9:=⟨_,List.getElem?_eq_getElem (show k<xs.length by omega)⟩
  have th9:=H.thR 0 rfl hx8
  refine V U U (Bi (p:=Ba A1+k*1) U DE U U (by omega) (by omega) th9 U) (V U U (Am U AE U (H.elR 0 U hx8 (q:=0) U U)) (sc (hp x7) H (fun S hS F hA hR=>hR S (List.mem_cons_of_mem _ hS)) U U (GI (vs:=[.int .i64 x7]) (fs:=#[]) (cs:=cap.toArray) hkf U U U) ?_))
  rintro _ _ w ⟨rfl,rfl⟩ H
  refine Ab (Z ?_)
  refine Dp (b:=p x7) U (fun h10=>?_) (fun h10=>?_)
  ·exact Aa (Ae (Ah 2 U (Ab (Z (An (AZ (AA (AA (AZ (AA (Ap U U (Al ⟨by rw [Kx hn hx8 h10]<;>rfl,rfl⟩ H))))))))))))
  exact Az (Bb (Z (Ae (V U U (Bc (z:=((k+1:Nat):Int)) U U U (by rw [AI (by omega) (by omega)];omega)) (Ad U (Ab (Bo (s:=k) (k+1) ⟨rfl,rfl,rfl,rfl,trivial⟩ ⟨H,by omega,LE hn hx8 h10⟩ (by (try dsimp only);omega))))))))
 refine BQ (AV (AV (BS (Z (Aa (Ae (Ad U (Ab (Z (An (Ap U U ?_)))))))))))
 have hn2:∀ y∈xs,p y=false:=by rw [←GX (xs:=xs) (k:=k) (by omega)];exact hn
 exact Al ⟨by rw [Jq hn2]<;>rfl,rfl⟩ H
theorem Uz (f:FuncId) (cap:List Value) (Ex:List SP) (p:Int→Bool) (hkf:AK Tryz.prog f) (hp:∀ x,Cn Tryz.prog f ([.int .i64 x]++cap) [] Ex (fun v Bs=>v=.bool (p x)∧Bs=[])) (v:Value) (xs:List Int):
    Cn Tryz.prog 144 [v,.func (.func f) #[] (cap).toArray] [] (Ac (Ai .i64) v xs::Ex) (fun v Bs=>v=.bool (xs.any p)∧Bs=[]):=by
 intro w0 F0 H
 refine enter Tryz.func144 U U (Nat.le_of_ble_eq_true U) (Aa (Ae (Ad U (Ab (Z (Aa (Ae (Ah 2 U (sc (We f cap Ex p hkf hp v xs) H MO U U (Av WZ U U) ?_)))))))))
 rintro _ _ w ⟨rfl,rfl⟩ H
 exact V U U (C7 U U U) (Ad U (Ab (Z (An (Ap U U (Al ⟨congrArg Value.bool (Ky p xs),rfl⟩ H))))))
theorem aD (x:Int):
    Cn Tryz.prog 158 [.int .i64 x] [] [] (fun v Bs=>v=.bool (!decide (0≤x∧x≤40))∧Bs=[]):=by
 intro w0 F0 H
 refine enter Tryz.func158 U U (Nat.le_of_ble_eq_true U) (Aa (Ae (Ad U (Ab (Z (Aa (Ae (Ad U (sc (IZ x 0 40) H l0 U U (Av IN U U) ?_)))))))))
 rintro _ _ w ⟨rfl,rfl⟩ H
 exact V U U (D4 U U) (Ad U (Ab (Z (An (Ap U U (Al ⟨congrArg Value.bool (by grind),rfl⟩ H))))))
theorem aE (vxs:Value) (xs:List Int):
    Cn Tryz.prog 103 [vxs] [] [Ac (Ai .i64) vxs xs] (fun v Bs=>v=.bool (decide (G5 xs))∧Bs=[]):=by
 intro w0 F0 H
 obtain ⟨A1,c2,rfl,hc3,hm4,hp5⟩:=H.fR 0 rfl
 refine enter Tryz.func103 U U (Nat.le_of_ble_eq_true U) (Aa (Ae (Ad U (Ab (Z ?_)))))
 replace H:Hd _ _ _ [] [Ac (Ai .i64) (.slice A1 xs.length c2) xs]:=H
 refine Aa (Ae (Ad U (V U U (Bj U EA U) (V U U (CD U U U) (Ad U ?_)))))
 refine AQ (d:=6) U (fun h6=>?_) (fun h6=>?_)
 ·refine Ad U (sc (Uz 158 [] [] (fun x=>!decide (0≤x∧x≤40)) WO (fun x=>aD x) (.slice A1 xs.length c2) xs) H (lR 0 U l0) U U (Av WM U U) ?_)
  rintro _ _ w ⟨rfl,rfl⟩ H
  refine V U U (ES U U U) (Ah 2 U (Ab (Z (An (Ap U U ?_)))))
  have e:(!(xs.any (fun x=>!decide (0≤x∧x≤40))))=decide (G5 xs):=Uu (by omega)
  exact Al ⟨congrArg Value.bool e,rfl⟩ H
 exact Ah 5 U (Ab (Z (An (Ap U U (Al ⟨congrArg Value.bool (decide_eq_false (fun h=>by unfold G5 at h;have:=h.1;omega)).symm,rfl⟩ H)))))
theorem aI (vxs:Value) (xs:List Int):
    Cn Tryz.prog 106 [vxs] [] [Ac (Ai .i64) vxs xs] (fun v Bs=>v=.bool (decide (EI (-1) xs))∧Bs=[]):=by
 intro w0 F0 H
 obtain ⟨A1,c2,rfl,hc3,hm4,hp5⟩:=H.fR 0 rfl
 refine enter Tryz.func106 U U (Nat.le_of_ble_eq_true U) (Aa (Ae (Ad U (Ab (Z ?_)))))
 replace H:Hd _ _ _ [] [Ac (Ai .i64) (.slice A1 xs.length c2) xs]:=H
 refine Aa (Ae (Ad U (Ab (Z (Aa (Aa (Ae (Ad U (V U U (Bj U EA U) (Ad U (Ab (Z (AW (B1 (σ:=Nat×Int) (fun (j,last)=>[(3,.int .i64 last),(6,.slice A1 xs.length c2),(7,.int .i64 ((xs.length:Nat):Int)),(8,.int .i64 ((j:Nat):Int))]) (fun (j,last) w=>(Hd w0 F0 w [] [Ac (Ai .i64) (.slice A1 xs.length c2) xs])∧(j≤xs.length)∧(EI last (xs.drop j)↔EI (-1) xs)) (fun (j,last)=>xs.length - j) (0, -1) ⟨rfl,rfl,rfl,rfl,trivial⟩ ⟨H,Nat.zero_le _,Iff.rfl⟩ ?_))))))))))))))
 rintro ⟨j,last⟩ w ⟨H,hj,hm⟩
 refine Aa (Ae (V U U (Br U U U) (Ab (Z (Aa ?_)))))
 refine AC U (fun h6=>?_) (fun h6=>?_)
 ·refine Az (Z (Aa (AW (Aa (Ae ?_)))))
  obtain ⟨x7,hx8⟩:∃ z9,xs[j]?=some z9:=⟨_,List.getElem?_eq_getElem (show j<xs.length by omega)⟩
  have th9:=H.thR 0 rfl hx8
  refine V U U (Bi (p:=Ba A1+j*1) U DE U U (by omega) (by omega) th9 U) (V U U (Am U AE U (H.elR 0 U hx8 (q:=0) U U)) (Ad U (Ab (Z (Aa (Aa (Ae (Ad U (sc (Lh x7) H l0 U U (Av KG U U) ?_)))))))))
  rintro _ _ w ⟨rfl,rfl⟩ H
  refine V U U (D4 U U) (Ad U ?_)
  refine AQ (d:=15) U (fun h10=>?_) (fun h10=>?_)
  ·refine Ah 4 U (Ab (Z (CN U (Aa (Ae (Ad U (Ab (Z (An (AA (AZ (AA (AA (AZ (AA (Ap U U ?_))))))))))))))))
   have e:¬ EI (-1) xs:=fun g=>by have g:=hm.2 g;rw [FJ hx8,NV] at g;unfold Bv at g;omega
   exact Al ⟨congrArg Value.bool (decide_eq_false e).symm,rfl⟩ H
  refine Ah 2 U (V U U (CD U U U) (Ad U (Ab (Z ?_))))
  refine AC U (fun h11=>?_) (fun h11=>?_)
  ·refine Aa (Ae (Ad U (Ab (Z (An (AA (AZ (AA (AA (AZ (AA (Ap U U ?_))))))))))))
   have e:¬ EI (-1) xs:=fun g=>by have g:=hm.2 g;rw [FJ hx8,NV] at g;unfold Bv at g;omega
   exact Al ⟨congrArg Value.bool (decide_eq_false e).symm,rfl⟩ H
  refine Az (Z (Ae (Ah 2 U (Ab (Bb (Z (Ae (V U U (Bc (z:=((j+1:Nat):Int)) U U U (by rw [AI (by omega) (by omega)];omega)) (Ad U (Ab ?_))))))))))
  have hm2:EI x7 (xs.drop (j+1))↔EI (-1) xs:=by rw [←hm,FJ hx8,NV];unfold Bv;exact ⟨fun g=>⟨by omega,by omega,g⟩,fun g=>g.2.2⟩
  exact Bo (s:=(j,last)) (j+1,x7) ⟨rfl,rfl,rfl,rfl,trivial⟩ ⟨H,by (try dsimp only);omega,hm2⟩ (by (try dsimp only);omega)
 refine BQ (AV (AV (BS (Z (Aa (Ae (Ad U (Ab (Z (An (Ap U U ?_)))))))))))
 have e:EI (-1) xs:=hm.1 (by rw [List.drop_eq_nil_of_le (by omega)];trivial)
 exact Al ⟨congrArg Value.bool (decide_eq_true e).symm,rfl⟩ H
theorem aG (k:Int) (p:Int) (s:Int) (a:Int) (y:Int) (vs:Value) (vp:Value):
    Cn Tryz.prog 104 [.agg #[.int .i64 k,.int .i64 p,.int .i64 s,.int .i64 a,.int .i64 y,vs,vp]] [] [] (fun v Bs=>v=.bool (decide (EQ ⟨k,p,s,a,y,[],[]⟩))∧Bs=[]):=by
 intro w0 F0 H
 refine enter Tryz.func104 U U (Nat.le_of_ble_eq_true U) (Aa (Ae (CZ U U U U H (fun b1 w H=>(Ad U (Ab (Z ?_)))))))
 replace H:Hd _ _ _ [blk b1 [.int .i64 k,.int .i64 p,.int .i64 s,.int .i64 a,.int .i64 y,vs,vp] 69] []:=H
 refine Aa (Aa (Ae (V U U (Aj U HC U) (V U U (Am U AE U (H.cellI 0 U U)) (sc (IZ y 1 6) H l0 U U (Av IN U U) ?_)))))
 rintro _ _ w ⟨rfl,rfl⟩ H
 refine V U U (D4 U U) (Ab (Z ?_))
 refine AC U (fun h2=>?_) (fun h2=>?_)
 ·refine Aa (Ae (Ad U (Ab (Z (An (AA (Ap U U ?_)))))))
  replace H:=H.nil
  replace H:Hd _ _ _ [] []:=H
  exact Al ⟨congrArg Value.bool (decide_eq_false (by (try simp only [EQ,Bv] at *);first |omega|grind)).symm,rfl⟩ H
 refine Az (Z (Aa (Ae (V U U (Aj U Hb U) (V U U (Am U AE U (H.cellI 0 U U)) (V U U (Bh U U U) (Ad U ?_)))))))
 refine AQ (d:=10) U (fun h3=>?_) (fun h3=>?_)
 ·refine V U U (Aj U Gq U) (V U U (Am U AE U (H.cellI 0 U U)) (sc (Lh s) H l0 U U (Av KG U U) ?_))
  rintro _ _ w ⟨rfl,rfl⟩ H
  refine Ah 2 U ?_
  refine AQ (d:=15) U (fun h4=>?_) (fun h4=>?_)
  ·refine V U U (Aj U GJ U) (V U U (Am U AE U (H.cellI 0 U U)) (V U U (Bh U U U) (Ah 2 U ?_)))
   refine AQ (d:=20) U (fun h5=>?_) (fun h5=>?_)
   ·refine Ah 12 U (Ah 3 U (Ab (Z (An (Ap U U ?_)))))
    replace H:=H.nil
    replace H:Hd _ _ _ [] []:=H
    exact Al ⟨congrArg Value.bool (decide_eq_true (by (try simp only [EQ,Bv] at *);first |omega|grind)).symm,rfl⟩ H
   refine V U U (Aj U Hb U) (V U U (Am U AE U (H.cellI 0 U U)) (V U U (Bh U U U) (Ad U ?_)))
   refine AQ (d:=24) U (fun h6=>?_) (fun h6=>?_)
   ·refine V U U (Aj U GJ U) (V U U (Am U AE U (H.cellI 0 U U)) (sc (JS p) H l0 U U (Av JD U U) ?_))
    rintro _ _ w ⟨rfl,rfl⟩ H
    refine Ah 2 U ?_
    refine AQ (d:=29) U (fun h7=>?_) (fun h7=>?_)
    ·refine V U U (Aj U Gq U) (V U U (Am U AE U (H.cellI 0 U U)) (V U U (Bh U U U) (Ah 3 U (Ab (Z (An (Ap U U ?_)))))))
     replace H:=H.nil
     replace H:Hd _ _ _ [] []:=H
     exact Al ⟨congrArg Value.bool (decide_eq_decide.2 (by (try simp only [EQ,Bv] at *);first |omega|grind)),rfl⟩ H
    refine Ah 6 U (Ab (Z (An (Ap U U ?_))))
    replace H:=H.nil
    replace H:Hd _ _ _ [] []:=H
    exact Al ⟨congrArg Value.bool (decide_eq_false (by (try simp only [EQ,Bv] at *);first |omega|grind)).symm,rfl⟩ H
   refine Ah 11 U (Ab (Z (An (Ap U U ?_))))
   replace H:=H.nil
   replace H:Hd _ _ _ [] []:=H
   exact Al ⟨congrArg Value.bool (decide_eq_false (by (try simp only [EQ,Bv] at *);first |omega|grind)).symm,rfl⟩ H
  refine Ah 5 U (V U U (Aj U Hb U) (V U U (Am U AE U (H.cellI 0 U U)) (V U U (Bh U U U) (Ad U ?_))))
  refine AQ (d:=24) U (fun h8=>?_) (fun h8=>?_)
  ·refine V U U (Aj U GJ U) (V U U (Am U AE U (H.cellI 0 U U)) (sc (JS p) H l0 U U (Av JD U U) ?_))
   rintro _ _ w ⟨rfl,rfl⟩ H
   refine Ah 2 U ?_
   refine AQ (d:=29) U (fun h9=>?_) (fun h9=>?_)
   ·refine V U U (Aj U Gq U) (V U U (Am U AE U (H.cellI 0 U U)) (V U U (Bh U U U) (Ah 3 U (Ab (Z (An (Ap U U ?_)))))))
    replace H:=H.nil
    replace H:Hd _ _ _ [] []:=H
    exact Al ⟨congrArg Value.bool (decide_eq_decide.2 (by (try simp only [EQ,Bv] at *);first |omega|grind)),rfl⟩ H
   refine Ah 6 U (Ab (Z (An (Ap U U ?_))))
   replace H:=H.nil
   replace H:Hd _ _ _ [] []:=H
   exact Al ⟨congrArg Value.bool (decide_eq_false (by (try simp only [EQ,Bv] at *);first |omega|grind)).symm,rfl⟩ H
  refine Ah 11 U (Ab (Z (An (Ap U U ?_))))
  replace H:=H.nil
  replace H:Hd _ _ _ [] []:=H
  exact Al ⟨congrArg Value.bool (decide_eq_false (by (try simp only [EQ,Bv] at *);first |omega|grind)).symm,rfl⟩ H
 refine Ah 10 U (V U U (Aj U Hb U) (V U U (Am U AE U (H.cellI 0 U U)) (V U U (Bh U U U) (Ad U ?_))))
 refine AQ (d:=24) U (fun h10=>?_) (fun h10=>?_)
 ·refine V U U (Aj U GJ U) (V U U (Am U AE U (H.cellI 0 U U)) (sc (JS p) H l0 U U (Av JD U U) ?_))
  rintro _ _ w ⟨rfl,rfl⟩ H
  refine Ah 2 U ?_
  refine AQ (d:=29) U (fun h11=>?_) (fun h11=>?_)
  ·refine V U U (Aj U Gq U) (V U U (Am U AE U (H.cellI 0 U U)) (V U U (Bh U U U) (Ah 3 U (Ab (Z (An (Ap U U ?_)))))))
   replace H:=H.nil
   replace H:Hd _ _ _ [] []:=H
   exact Al ⟨congrArg Value.bool (decide_eq_decide.2 (by (try simp only [EQ,Bv] at *);first |omega|grind)),rfl⟩ H
  refine Ah 6 U (Ab (Z (An (Ap U U ?_))))
  replace H:=H.nil
  replace H:Hd _ _ _ [] []:=H
  exact Al ⟨congrArg Value.bool (decide_eq_false (by (try simp only [EQ,Bv] at *);first |omega|grind)).symm,rfl⟩ H
 refine Ah 11 U (Ab (Z (An (Ap U U ?_))))
 replace H:=H.nil
 replace H:Hd _ _ _ [] []:=H
 exact Al ⟨congrArg Value.bool (decide_eq_false (by (try simp only [EQ,Bv] at *);first |omega|grind)).symm,rfl⟩ H
theorem Si (k:Int) (p:Int) (s:Int) (a:Int) (y:Int) (vs:Value) (vp:Value) (set:List Int) (prs:List Aq):
    Cn Tryz.prog 56 [.agg #[.int .i64 k,.int .i64 p,.int .i64 s,.int .i64 a,.int .i64 y,vs,vp]] [] [Ac (Ai .i64) vs set,Ac Ag vp prs] (fun v Bs=>v=.bool (decide (Cq (⟨k,p,s,a,y,set,prs⟩:Bd)))∧Bs=[]):=by
 intro w0 F0 H
 obtain ⟨A1,c2,rfl,hc3,hm4,hp5⟩:=H.fR 0 rfl
 obtain ⟨A6,c7,rfl,hc8,hm9,hp10⟩:=H.fR 1 rfl
 refine enter Tryz.func56 U U (Nat.le_of_ble_eq_true U) (Aa (Ae (CZ U U U U H (fun b11 w H=>(Ad U (Ab (Z ?_)))))))
 replace H:Hd _ _ _ [blk b11 [.int .i64 k,.int .i64 p,.int .i64 s,.int .i64 a,.int .i64 y,.slice A1 set.length c2,.slice A6 prs.length c7] 69] [Ac (Ai .i64) (.slice A1 set.length c2) set,Ac Ag (.slice A6 prs.length c7) prs]:=H
 refine Hw (σ:=Nat) (fun bb=>[(1,.pointer (some ⟨bb,0,none⟩))]) (fun bb w=>(Hd w0 F0 w [blk bb [.int .i64 k,.int .i64 p,.int .i64 s,.int .i64 a,.int .i64 y,.slice A1 set.length c2,.slice A6 prs.length c7] 69] [Ac (Ai .i64) (.slice A1 set.length c2) set,Ac Ag (.slice A6 prs.length c7) prs])∧(¬ De (⟨k,p,s,a,y,set,prs⟩:Bd))) ?_ ?_
 ·refine Aa (Ae (V U U (Aj U Ec U) (V U U (Am U AE U (H.cellI 0 U U)) (V U U (Cx U U U) (Ad U ?_)))))
  refine AQ (d:=7) U (fun h12=>?_) (fun h12=>?_)
  ·refine V U U (Aj U Ec U) (V U U (Am U AE U (H.cellI 0 U U)) (V U U (Cx U U U) (Ah 2 U ?_)))
   refine AQ (d:=12) U (fun h13=>?_) (fun h13=>?_)
   ·refine V U U (Aj U Gr U) (V U U (Am U DY U (H.cellI 0 U U)) (V U U (Bj U EA U) (V U U (CH U U U) (Ah 2 U ?_))))
    refine AQ (d:=18) U (fun h14=>?_) (fun h14=>?_)
    ·refine Ah 12 U (Ah 8 U (Ab (Z (CN U (Aa (Ae (Ad U (Ab (Z (An (AA (Ap U U ?_))))))))))))
     replace H:=H.nil
     have e:¬ Cq (⟨k,p,s,a,y,set,prs⟩:Bd):=fun g=>g.1 (by unfold De;dsimp only;omega)
     exact Al ⟨congrArg Value.bool (decide_eq_false e).symm,rfl⟩ H
    refine V U U (Aj U Ec U) (V U U (Am U AE U (H.cellI 0 U U)) (V U U (Cx U U U) (Ad U ?_)))
    refine AQ (d:=22) U (fun h15=>?_) (fun h15=>?_)
    ·refine V U U (Aj U F9 U) (V U U (Am U DJ U (H.cellI 0 U U)) (V U U (Bj U Dt U) (V U U (CH U U U) (Ah 3 U ?_))))
     refine AQ (d:=29) U (fun h16=>?_) (fun h16=>?_)
     ·refine Ah 9 U (Ab (Z (CN U (Aa (Ae (Ad U (Ab (Z (An (AA (Ap U U ?_)))))))))))
      replace H:=H.nil
      have e:¬ Cq (⟨k,p,s,a,y,set,prs⟩:Bd):=fun g=>g.1 (by unfold De;dsimp only;omega)
      exact Al ⟨congrArg Value.bool (decide_eq_false e).symm,rfl⟩ H
     refine V U U (Aj U Ec U) (V U U (Am U AE U (H.cellI 0 U U)) (V U U (Cx U U U) (Ad U ?_)))
     refine AQ (d:=33) U (fun h17=>?_) (fun h17=>?_)
     ·refine V U U (Aj U HC U) (V U U (Am U AE U (H.cellI 0 U U)) (V U U (Cx U U U) (Ah 2 U (Ab (Z ?_)))))
      refine AC U (fun h18=>?_) (fun h18=>?_)
      ·refine Aa (Ae (Ad U (Ab (Z (An (AA (Ap U U ?_)))))))
       replace H:=H.nil
       have e:¬ Cq (⟨k,p,s,a,y,set,prs⟩:Bd):=fun g=>g.1 (by unfold De;dsimp only;omega)
       exact Al ⟨congrArg Value.bool (decide_eq_false e).symm,rfl⟩ H
      exact Az (Dk b11 ⟨rfl,trivial⟩ ⟨H,fun h=>by unfold De at h;dsimp only at h;omega⟩)
     exact Ah 5 U (Ab (Z (Ch U (Az (Dk b11 ⟨rfl,trivial⟩ ⟨H,fun h=>by unfold De at h;dsimp only at h;omega⟩)))))
    refine Ah 7 U (V U U (Aj U Ec U) (V U U (Am U AE U (H.cellI 0 U U)) (V U U (Cx U U U) (Ad U ?_))))
    refine AQ (d:=33) U (fun h19=>?_) (fun h19=>?_)
    ·refine V U U (Aj U HC U) (V U U (Am U AE U (H.cellI 0 U U)) (V U U (Cx U U U) (Ah 2 U (Ab (Z ?_)))))
     refine AC U (fun h20=>?_) (fun h20=>?_)
     ·refine Aa (Ae (Ad U (Ab (Z (An (AA (Ap U U ?_)))))))
      replace H:=H.nil
      have e:¬ Cq (⟨k,p,s,a,y,set,prs⟩:Bd):=fun g=>g.1 (by unfold De;dsimp only;omega)
      exact Al ⟨congrArg Value.bool (decide_eq_false e).symm,rfl⟩ H
     exact Az (Dk b11 ⟨rfl,trivial⟩ ⟨H,fun h=>by unfold De at h;dsimp only at h;omega⟩)
    exact Ah 5 U (Ab (Z (Ch U (Az (Dk b11 ⟨rfl,trivial⟩ ⟨H,fun h=>by unfold De at h;dsimp only at h;omega⟩)))))
   refine Ah 6 U (V U U (Aj U Ec U) (V U U (Am U AE U (H.cellI 0 U U)) (V U U (Cx U U U) (Ad U ?_))))
   refine AQ (d:=22) U (fun h21=>?_) (fun h21=>?_)
   ·refine V U U (Aj U F9 U) (V U U (Am U DJ U (H.cellI 0 U U)) (V U U (Bj U Dt U) (V U U (CH U U U) (Ah 3 U ?_))))
    refine AQ (d:=29) U (fun h22=>?_) (fun h22=>?_)
    ·refine Ah 9 U (Ab (Z (CN U (Aa (Ae (Ad U (Ab (Z (An (AA (Ap U U ?_)))))))))))
     replace H:=H.nil
     have e:¬ Cq (⟨k,p,s,a,y,set,prs⟩:Bd):=fun g=>g.1 (by unfold De;dsimp only;omega)
     exact Al ⟨congrArg Value.bool (decide_eq_false e).symm,rfl⟩ H
    refine V U U (Aj U Ec U) (V U U (Am U AE U (H.cellI 0 U U)) (V U U (Cx U U U) (Ad U ?_)))
    refine AQ (d:=33) U (fun h23=>?_) (fun h23=>?_)
    ·refine V U U (Aj U HC U) (V U U (Am U AE U (H.cellI 0 U U)) (V U U (Cx U U U) (Ah 2 U (Ab (Z ?_)))))
     refine AC U (fun h24=>?_) (fun h24=>?_)
     ·refine Aa (Ae (Ad U (Ab (Z (An (AA (Ap U U ?_)))))))
      replace H:=H.nil
      have e:¬ Cq (⟨k,p,s,a,y,set,prs⟩:Bd):=fun g=>g.1 (by unfold De;dsimp only;omega)
      exact Al ⟨congrArg Value.bool (decide_eq_false e).symm,rfl⟩ H
     exact Az (Dk b11 ⟨rfl,trivial⟩ ⟨H,fun h=>by unfold De at h;dsimp only at h;omega⟩)
    exact Ah 5 U (Ab (Z (Ch U (Az (Dk b11 ⟨rfl,trivial⟩ ⟨H,fun h=>by unfold De at h;dsimp only at h;omega⟩)))))
   refine Ah 7 U (V U U (Aj U Ec U) (V U U (Am U AE U (H.cellI 0 U U)) (V U U (Cx U U U) (Ad U ?_))))
   refine AQ (d:=33) U (fun h25=>?_) (fun h25=>?_)
   ·refine V U U (Aj U HC U) (V U U (Am U AE U (H.cellI 0 U U)) (V U U (Cx U U U) (Ah 2 U (Ab (Z ?_)))))
    refine AC U (fun h26=>?_) (fun h26=>?_)
    ·refine Aa (Ae (Ad U (Ab (Z (An (AA (Ap U U ?_)))))))
     replace H:=H.nil
     have e:¬ Cq (⟨k,p,s,a,y,set,prs⟩:Bd):=fun g=>g.1 (by unfold De;dsimp only;omega)
     exact Al ⟨congrArg Value.bool (decide_eq_false e).symm,rfl⟩ H
    exact Az (Dk b11 ⟨rfl,trivial⟩ ⟨H,fun h=>by unfold De at h;dsimp only at h;omega⟩)
   exact Ah 5 U (Ab (Z (Ch U (Az (Dk b11 ⟨rfl,trivial⟩ ⟨H,fun h=>by unfold De at h;dsimp only at h;omega⟩)))))
  refine Ah 11 U (V U U (Aj U Ec U) (V U U (Am U AE U (H.cellI 0 U U)) (V U U (Cx U U U) (Ad U ?_))))
  refine AQ (d:=22) U (fun h27=>?_) (fun h27=>?_)
  ·refine V U U (Aj U F9 U) (V U U (Am U DJ U (H.cellI 0 U U)) (V U U (Bj U Dt U) (V U U (CH U U U) (Ah 3 U ?_))))
   refine AQ (d:=29) U (fun h28=>?_) (fun h28=>?_)
   ·refine Ah 9 U (Ab (Z (CN U (Aa (Ae (Ad U (Ab (Z (An (AA (Ap U U ?_)))))))))))
    replace H:=H.nil
    have e:¬ Cq (⟨k,p,s,a,y,set,prs⟩:Bd):=fun g=>g.1 (by unfold De;dsimp only;omega)
    exact Al ⟨congrArg Value.bool (decide_eq_false e).symm,rfl⟩ H
   refine V U U (Aj U Ec U) (V U U (Am U AE U (H.cellI 0 U U)) (V U U (Cx U U U) (Ad U ?_)))
   refine AQ (d:=33) U (fun h29=>?_) (fun h29=>?_)
   ·refine V U U (Aj U HC U) (V U U (Am U AE U (H.cellI 0 U U)) (V U U (Cx U U U) (Ah 2 U (Ab (Z ?_)))))
    refine AC U (fun h30=>?_) (fun h30=>?_)
    ·refine Aa (Ae (Ad U (Ab (Z (An (AA (Ap U U ?_)))))))
     replace H:=H.nil
     have e:¬ Cq (⟨k,p,s,a,y,set,prs⟩:Bd):=fun g=>g.1 (by unfold De;dsimp only;omega)
     exact Al ⟨congrArg Value.bool (decide_eq_false e).symm,rfl⟩ H
    exact Az (Dk b11 ⟨rfl,trivial⟩ ⟨H,fun h=>by unfold De at h;dsimp only at h;omega⟩)
   exact Ah 5 U (Ab (Z (Ch U (Az (Dk b11 ⟨rfl,trivial⟩ ⟨H,fun h=>by unfold De at h;dsimp only at h;omega⟩)))))
  refine Ah 7 U (V U U (Aj U Ec U) (V U U (Am U AE U (H.cellI 0 U U)) (V U U (Cx U U U) (Ad U ?_))))
  refine AQ (d:=33) U (fun h31=>?_) (fun h31=>?_)
  ·refine V U U (Aj U HC U) (V U U (Am U AE U (H.cellI 0 U U)) (V U U (Cx U U U) (Ah 2 U (Ab (Z ?_)))))
   refine AC U (fun h32=>?_) (fun h32=>?_)
   ·refine Aa (Ae (Ad U (Ab (Z (An (AA (Ap U U ?_)))))))
    replace H:=H.nil
    have e:¬ Cq (⟨k,p,s,a,y,set,prs⟩:Bd):=fun g=>g.1 (by unfold De;dsimp only;omega)
    exact Al ⟨congrArg Value.bool (decide_eq_false e).symm,rfl⟩ H
   exact Az (Dk b11 ⟨rfl,trivial⟩ ⟨H,fun h=>by unfold De at h;dsimp only at h;omega⟩)
  exact Ah 5 U (Ab (Z (Ch U (Az (Dk b11 ⟨rfl,trivial⟩ ⟨H,fun h=>by unfold De at h;dsimp only at h;omega⟩)))))
 rintro bb w ⟨H,ho⟩
 refine Hw (σ:=Nat×Bool) (fun (bb,nn)=>[(1,.pointer (some ⟨bb,0,none⟩)),(3,.bool nn)]) (fun (bb,nn) w=>(Hd w0 F0 w [blk bb [.int .i64 k,.int .i64 p,.int .i64 s,.int .i64 a,.int .i64 y,.slice A1 set.length c2,.slice A6 prs.length c7] 69] [Ac (Ai .i64) (.slice A1 set.length c2) set,Ac Ag (.slice A6 prs.length c7) prs])∧(nn=decide (p=0∧s=0∧a=0))) ?_ ?_
 ·refine Ae (V U U (Aj U GJ U) (V U U (Am U AE U (H.cellI 0 U U)) (V U U (Bh U U U) (Ad U ?_))))
  refine AQ (d:=42) U (fun h33=>?_) (fun h33=>?_)
  ·refine V U U (Aj U Gq U) (V U U (Am U AE U (H.cellI 0 U U)) (V U U (Bh U U U) (Ah 2 U ?_)))
   refine AQ (d:=47) U (fun h34=>?_) (fun h34=>?_)
   ·exact V U U (Aj U Hb U) (V U U (Am U AE U (H.cellI 0 U U)) (V U U (Bh U U U) (Ah 2 U (Ab (Dk (bb,decide (a=0)) ⟨rfl,rfl,trivial⟩ ⟨H,by (try dsimp only);exact decide_eq_decide.2 (by omega)⟩)))))
   exact Ah 5 U (Ab (Dk (bb,false) ⟨rfl,rfl,trivial⟩ ⟨H,by (try dsimp only);exact (decide_eq_false (by omega)).symm⟩))
  exact Ah 10 U (Ab (Dk (bb,false) ⟨rfl,rfl,trivial⟩ ⟨H,by (try dsimp only);exact (decide_eq_false (by omega)).symm⟩))
 rintro ⟨bb,nn⟩ w ⟨H,hnn⟩
 refine Aa (Aa (Ae (V U U (Aj U Ec U) (V U U (Am U AE U (H.cellI 0 U U)) (Ab (Z (AW (Aa (Ae (V U U (Bh U U U) (Ad U (Ab (Z ?_)))))))))))))
 refine AC U (fun h35=>?_) (fun h35=>?_)
 ·refine Aa (Ae (V U U (Aj U GJ U) (V U U (Am U AE U (H.cellI 0 U U)) (V U U (Bh U U U) (Ad U ?_)))))
  refine AQ (d:=59) U (fun h36=>?_) (fun h36=>?_)
  ·refine V U U (Aj U Gq U) (V U U (Am U AE U (H.cellI 0 U U)) (sc (Lh s) H l0 U U (Av KG U U) ?_))
   rintro _ _ w ⟨rfl,rfl⟩ H
   refine Ah 2 U ?_
   refine AQ (d:=64) U (fun h37=>?_) (fun h37=>?_)
   ·refine V U U (Aj U Hb U) (V U U (Am U AE U (H.cellI 0 U U)) (sc (Sj a) H l0 U U (Av Qj U U) ?_))
    rintro _ _ w ⟨rfl,rfl⟩ H
    refine Ah 2 U ?_
    refine AQ (d:=69) U (fun h38=>?_) (fun h38=>?_)
    ·refine V U U (Aj U Gr U) (V U U (Am U DY U (H.cellI 0 U U)) (sc (aE (.slice A1 set.length c2) set) H (lR 0 U l0) U U (Av Wt U U) ?_))
     rintro _ _ w ⟨rfl,rfl⟩ H
     refine Ah 2 U (Ab (Z (An (AZ (AA (Ap U U ?_))))))
     replace H:=H.nil
     have e:=KV (r:=(⟨k,p,s,a,y,set,prs⟩:Bd)) (by dsimp only;omega) ho
     try dsimp only at e
     unfold Bv at e
     have e2:(G5 set)↔Cq (⟨k,p,s,a,y,set,prs⟩:Bd):=⟨fun g=>e.2 (by first |exact g|exact ⟨by omega,g⟩|exact ⟨by omega,by omega,g⟩|exact ⟨by omega,by omega,by omega,g⟩|exact ⟨by omega,by omega,by omega,by omega,g⟩),fun g=>by have g:=e.1 g;first |exact g|exact g.2|exact g.2.2|exact g.2.2.2|exact g.2.2.2.2⟩
     replace H:Hd _ _ _ [] [Ac (Ai .i64) (.slice A1 set.length c2) set,Ac Ag (.slice A6 prs.length c7) prs]:=H
     exact Al ⟨congrArg Value.bool (decide_eq_decide.2 e2),rfl⟩ H
    refine Ah 5 U (Ab (Z (An (AZ (AA (Ap U U ?_))))))
    replace H:=H.nil
    have e:=KV (r:=(⟨k,p,s,a,y,set,prs⟩:Bd)) (by dsimp only;omega) ho
    try dsimp only at e
    unfold Bv at e
    have e2:¬ Cq (⟨k,p,s,a,y,set,prs⟩:Bd):=fun g=>by have g:=e.1 g;first |omega|(exact absurd g (by assumption))|(exact absurd g.2.2.2 (by assumption))|(exact absurd g.2.2.2.2 (by assumption))
    replace H:Hd _ _ _ [] [Ac (Ai .i64) (.slice A1 set.length c2) set,Ac Ag (.slice A6 prs.length c7) prs]:=H
    exact Al ⟨congrArg Value.bool (decide_eq_false e2).symm,rfl⟩ H
   refine Ah 10 U (Ab (Z (An (AZ (AA (Ap U U ?_))))))
   replace H:=H.nil
   have e:=KV (r:=(⟨k,p,s,a,y,set,prs⟩:Bd)) (by dsimp only;omega) ho
   try dsimp only at e
   unfold Bv at e
   have e2:¬ Cq (⟨k,p,s,a,y,set,prs⟩:Bd):=fun g=>by have g:=e.1 g;first |omega|(exact absurd g (by assumption))|(exact absurd g.2.2.2 (by assumption))|(exact absurd g.2.2.2.2 (by assumption))
   replace H:Hd _ _ _ [] [Ac (Ai .i64) (.slice A1 set.length c2) set,Ac Ag (.slice A6 prs.length c7) prs]:=H
   exact Al ⟨congrArg Value.bool (decide_eq_false e2).symm,rfl⟩ H
  refine Ah 12 U (Ah 3 U (Ab (Z (An (AZ (AA (Ap U U ?_)))))))
  replace H:=H.nil
  have e:=KV (r:=(⟨k,p,s,a,y,set,prs⟩:Bd)) (by dsimp only;omega) ho
  try dsimp only at e
  unfold Bv at e
  have e2:¬ Cq (⟨k,p,s,a,y,set,prs⟩:Bd):=fun g=>by have g:=e.1 g;first |omega|(exact absurd g (by assumption))|(exact absurd g.2.2.2 (by assumption))|(exact absurd g.2.2.2.2 (by assumption))
  exact Al ⟨congrArg Value.bool (decide_eq_false e2).symm,rfl⟩ H
 refine Aa (Aa (Ae (V U U (Bh U U U) (Ad U (Ab (Z ?_))))))
 refine AC U (fun h39=>?_) (fun h39=>?_)
 ·refine Az (Z ?_)
  refine AC U (fun h40=>?_) (fun h40=>?_)
  ·refine Aa (Ae (Ah 2 U (Ab (Z (An (AZ (AA (Ap U U ?_))))))))
   replace H:=H.nil
   have e:=Re (r:=(⟨k,p,s,a,y,set,prs⟩:Bd)) (by dsimp only;omega) ho
   try dsimp only at e
   rw [hnn]
   exact Al ⟨congrArg Value.bool (decide_eq_decide.2 e.symm),rfl⟩ H
  exact absurd h39 h40
 refine Ae (V U U (Bh U U U) (Ad U (Ab (Z ?_))))
 refine AC U (fun h41=>?_) (fun h41=>?_)
 ·refine Aa (Ae (Ah 2 U (Ab (Z (An (AZ (AA (Ap U U ?_))))))))
  replace H:=H.nil
  have e:=Re (r:=(⟨k,p,s,a,y,set,prs⟩:Bd)) (by dsimp only;omega) ho
  try dsimp only at e
  rw [hnn]
  exact Al ⟨congrArg Value.bool (decide_eq_decide.2 e.symm),rfl⟩ H
 refine Aa (Ae (V U U (Bh U U U) (Ad U (Ab (Z ?_)))))
 refine AC U (fun h42=>?_) (fun h42=>?_)
 ·refine Aa (Ae (V U U (BG (cs:=[.int .i64 k,.int .i64 p,.int .i64 s,.int .i64 a,.int .i64 y,.slice A1 set.length c2,.slice A6 prs.length c7]) U E9 U U (H.cellsI 0 U U)) (sc (aG k p s a y (.slice A1 set.length c2) (.slice A6 prs.length c7)) H l0 U U (Av Wu U U) ?_)))
  rintro _ _ w ⟨rfl,rfl⟩ H
  replace H:=H.h1 (A:=blk bb [.int .i64 k,.int .i64 p,.int .i64 s,.int .i64 a,.int .i64 y,.slice A1 set.length c2,.slice A6 prs.length c7] 69)
  refine Ad U (Ab (Z (An (AZ (AA (Ap U U ?_))))))
  replace H:=H.nil
  have e:=Yu (r:=(⟨k,p,s,a,y,set,prs⟩:Bd)) (by dsimp only;omega) ho
  try dsimp only at e
  have e2:(EQ ⟨k,p,s,a,y,[],[]⟩)↔Cq (⟨k,p,s,a,y,set,prs⟩:Bd):=⟨fun g=>e.2 (by first |exact g|exact ⟨by omega,g⟩|exact ⟨by omega,by omega,g⟩|exact ⟨by omega,by omega,by omega,g⟩|exact ⟨by omega,by omega,by omega,by omega,g⟩),fun g=>by have g:=e.1 g;first |exact g|exact g.2|exact g.2.2|exact g.2.2.2|exact g.2.2.2.2⟩
  exact Al ⟨congrArg Value.bool (decide_eq_decide.2 e2),rfl⟩ H
 refine Aa (Ae (V U U (Bh U U U) (Ad U (Ab (Z ?_)))))
 refine AC U (fun h43=>?_) (fun h43=>?_)
 ·refine Aa (Ae (V U U (Aj U GJ U) (V U U (Am U AE U (H.cellI 0 U U)) (sc (JS p) H l0 U U (Av JD U U) ?_))))
  rintro _ _ w ⟨rfl,rfl⟩ H
  refine Ad U ?_
  refine AQ (d:=87) U (fun h44=>?_) (fun h44=>?_)
  ·refine V U U (Aj U Gq U) (V U U (Am U AE U (H.cellI 0 U U)) (sc (Lh s) H l0 U U (Av KG U U) ?_))
   rintro _ _ w ⟨rfl,rfl⟩ H
   refine Ah 2 U ?_
   refine AQ (d:=92) U (fun h45=>?_) (fun h45=>?_)
   ·refine V U U (Aj U Hb U) (V U U (Am U AE U (H.cellI 0 U U)) (sc (Sj a) H l0 U U (Av Qj U U) ?_))
    rintro _ _ w ⟨rfl,rfl⟩ H
    refine Ah 2 U ?_
    refine AQ (d:=97) U (fun h46=>?_) (fun h46=>?_)
    ·refine V U U (Aj U F9 U) (V U U (Am U DJ U (H.cellI 0 U U)) (V U U (Bj U Dt U) (V U U (CD U U U) (Ah 2 U ?_))))
     refine AQ (d:=103) U (fun h47=>?_) (fun h47=>?_)
     ·refine V U U (Aj U F9 U) (V U U (Am U DJ U (H.cellI 0 U U)) (sc (RN (.slice A6 prs.length c7) prs) H (lR 1 U l0) U U (Av QM U U) ?_))
      rintro _ _ w ⟨rfl,rfl⟩ H
      refine Ah 2 U (Ab (Z (An (AZ (AA (Ap U U ?_))))))
      replace H:=H.nil
      have e:=JH (r:=(⟨k,p,s,a,y,set,prs⟩:Bd)) (by dsimp only;omega) ho
      try dsimp only at e
      unfold Bv at e
      have e2:(HH prs)↔Cq (⟨k,p,s,a,y,set,prs⟩:Bd):=⟨fun g=>e.2 (by first |exact g|exact ⟨by omega,g⟩|exact ⟨by omega,by omega,g⟩|exact ⟨by omega,by omega,by omega,g⟩|exact ⟨by omega,by omega,by omega,by omega,g⟩),fun g=>by have g:=e.1 g;first |exact g|exact g.2|exact g.2.2|exact g.2.2.2|exact g.2.2.2.2⟩
      replace H:Hd _ _ _ [] [Ac (Ai .i64) (.slice A1 set.length c2) set,Ac Ag (.slice A6 prs.length c7) prs]:=H
      exact Al ⟨congrArg Value.bool (decide_eq_decide.2 e2),rfl⟩ H
     refine Ah 5 U (Ab (Z (An (AZ (AA (Ap U U ?_))))))
     replace H:=H.nil
     have e:=JH (r:=(⟨k,p,s,a,y,set,prs⟩:Bd)) (by dsimp only;omega) ho
     try dsimp only at e
     unfold Bv at e
     have e2:¬ Cq (⟨k,p,s,a,y,set,prs⟩:Bd):=fun g=>by have g:=e.1 g;first |omega|(exact absurd g (by assumption))|(exact absurd g.2.2.2 (by assumption))|(exact absurd g.2.2.2.2 (by assumption))
     replace H:Hd _ _ _ [] [Ac (Ai .i64) (.slice A1 set.length c2) set,Ac Ag (.slice A6 prs.length c7) prs]:=H
     exact Al ⟨congrArg Value.bool (decide_eq_false e2).symm,rfl⟩ H
    refine Ah 11 U (Ab (Z (An (AZ (AA (Ap U U ?_))))))
    replace H:=H.nil
    have e:=JH (r:=(⟨k,p,s,a,y,set,prs⟩:Bd)) (by dsimp only;omega) ho
    try dsimp only at e
    unfold Bv at e
    have e2:¬ Cq (⟨k,p,s,a,y,set,prs⟩:Bd):=fun g=>by have g:=e.1 g;first |omega|(exact absurd g (by assumption))|(exact absurd g.2.2.2 (by assumption))|(exact absurd g.2.2.2.2 (by assumption))
    replace H:Hd _ _ _ [] [Ac (Ai .i64) (.slice A1 set.length c2) set,Ac Ag (.slice A6 prs.length c7) prs]:=H
    exact Al ⟨congrArg Value.bool (decide_eq_false e2).symm,rfl⟩ H
   refine Ah 12 U (Ah 4 U (Ab (Z (An (AZ (AA (Ap U U ?_)))))))
   replace H:=H.nil
   have e:=JH (r:=(⟨k,p,s,a,y,set,prs⟩:Bd)) (by dsimp only;omega) ho
   try dsimp only at e
   unfold Bv at e
   have e2:¬ Cq (⟨k,p,s,a,y,set,prs⟩:Bd):=fun g=>by have g:=e.1 g;first |omega|(exact absurd g (by assumption))|(exact absurd g.2.2.2 (by assumption))|(exact absurd g.2.2.2.2 (by assumption))
   replace H:Hd _ _ _ [] [Ac (Ai .i64) (.slice A1 set.length c2) set,Ac Ag (.slice A6 prs.length c7) prs]:=H
   exact Al ⟨congrArg Value.bool (decide_eq_false e2).symm,rfl⟩ H
  refine Ah 12 U (Ah 9 U (Ab (Z (An (AZ (AA (Ap U U ?_)))))))
  replace H:=H.nil
  have e:=JH (r:=(⟨k,p,s,a,y,set,prs⟩:Bd)) (by dsimp only;omega) ho
  try dsimp only at e
  unfold Bv at e
  have e2:¬ Cq (⟨k,p,s,a,y,set,prs⟩:Bd):=fun g=>by have g:=e.1 g;first |omega|(exact absurd g (by assumption))|(exact absurd g.2.2.2 (by assumption))|(exact absurd g.2.2.2.2 (by assumption))
  replace H:Hd _ _ _ [] [Ac (Ai .i64) (.slice A1 set.length c2) set,Ac Ag (.slice A6 prs.length c7) prs]:=H
  exact Al ⟨congrArg Value.bool (decide_eq_false e2).symm,rfl⟩ H
 refine Aa (Ae (V U U (Bh U U U) (Ad U (Ab (Z ?_)))))
 refine AC U (fun h48=>?_) (fun h48=>?_)
 ·refine Aa (Ae (V U U (Aj U GJ U) (V U U (Am U AE U (H.cellI 0 U U)) (sc (JS p) H l0 U U (Av JD U U) ?_))))
  rintro _ _ w ⟨rfl,rfl⟩ H
  refine Ad U ?_
  refine AQ (d:=113) U (fun h49=>?_) (fun h49=>?_)
  ·refine V U U (Aj U Gq U) (V U U (Am U AE U (H.cellI 0 U U)) (V U U (Bh U U U) (Ah 2 U ?_)))
   refine AQ (d:=118) U (fun h50=>?_) (fun h50=>?_)
   ·refine V U U (Aj U Hb U) (V U U (Am U AE U (H.cellI 0 U U)) (V U U (Bh U U U) (Ah 2 U ?_)))
    refine AQ (d:=123) U (fun h51=>?_) (fun h51=>?_)
    ·refine V U U (Aj U Gr U) (V U U (Am U DY U (H.cellI 0 U U)) (sc (aI (.slice A1 set.length c2) set) H (lR 0 U l0) U U (Av Wv U U) ?_))
     rintro _ _ w ⟨rfl,rfl⟩ H
     refine Ah 2 U (Ab (Z (An (AZ (AA (Ap U U ?_))))))
     replace H:=H.nil
     have e:=KW (r:=(⟨k,p,s,a,y,set,prs⟩:Bd)) (by dsimp only;omega) ho
     try dsimp only at e
     unfold Bv at e
     have e2:(EI (-1) set)↔Cq (⟨k,p,s,a,y,set,prs⟩:Bd):=⟨fun g=>e.2 (by first |exact g|exact ⟨by omega,g⟩|exact ⟨by omega,by omega,g⟩|exact ⟨by omega,by omega,by omega,g⟩|exact ⟨by omega,by omega,by omega,by omega,g⟩),fun g=>by have g:=e.1 g;first |exact g|exact g.2|exact g.2.2|exact g.2.2.2|exact g.2.2.2.2⟩
     replace H:Hd _ _ _ [] [Ac (Ai .i64) (.slice A1 set.length c2) set,Ac Ag (.slice A6 prs.length c7) prs]:=H
     exact Al ⟨congrArg Value.bool (decide_eq_decide.2 e2),rfl⟩ H
    refine Ah 5 U (Ab (Z (An (AZ (AA (Ap U U ?_))))))
    replace H:=H.nil
    have e:=KW (r:=(⟨k,p,s,a,y,set,prs⟩:Bd)) (by dsimp only;omega) ho
    try dsimp only at e
    unfold Bv at e
    have e2:¬ Cq (⟨k,p,s,a,y,set,prs⟩:Bd):=fun g=>by have g:=e.1 g;first |omega|(exact absurd g (by assumption))|(exact absurd g.2.2.2 (by assumption))|(exact absurd g.2.2.2.2 (by assumption))
    replace H:Hd _ _ _ [] [Ac (Ai .i64) (.slice A1 set.length c2) set,Ac Ag (.slice A6 prs.length c7) prs]:=H
    exact Al ⟨congrArg Value.bool (decide_eq_false e2).symm,rfl⟩ H
   refine Ah 10 U (Ab (Z (An (AZ (AA (Ap U U ?_))))))
   replace H:=H.nil
   have e:=KW (r:=(⟨k,p,s,a,y,set,prs⟩:Bd)) (by dsimp only;omega) ho
   try dsimp only at e
   unfold Bv at e
   have e2:¬ Cq (⟨k,p,s,a,y,set,prs⟩:Bd):=fun g=>by have g:=e.1 g;first |omega|(exact absurd g (by assumption))|(exact absurd g.2.2.2 (by assumption))|(exact absurd g.2.2.2.2 (by assumption))
   replace H:Hd _ _ _ [] [Ac (Ai .i64) (.slice A1 set.length c2) set,Ac Ag (.slice A6 prs.length c7) prs]:=H
   exact Al ⟨congrArg Value.bool (decide_eq_false e2).symm,rfl⟩ H
  refine Ah 12 U (Ah 3 U (Ab (Z (An (AZ (AA (Ap U U ?_)))))))
  replace H:=H.nil
  have e:=KW (r:=(⟨k,p,s,a,y,set,prs⟩:Bd)) (by dsimp only;omega) ho
  try dsimp only at e
  unfold Bv at e
  have e2:¬ Cq (⟨k,p,s,a,y,set,prs⟩:Bd):=fun g=>by have g:=e.1 g;first |omega|(exact absurd g (by assumption))|(exact absurd g.2.2.2 (by assumption))|(exact absurd g.2.2.2.2 (by assumption))
  replace H:Hd _ _ _ [] [Ac (Ai .i64) (.slice A1 set.length c2) set,Ac Ag (.slice A6 prs.length c7) prs]:=H
  exact Al ⟨congrArg Value.bool (decide_eq_false e2).symm,rfl⟩ H
 refine Az (Bb (Z (Aa (Ae (Ad U (Ab (Z (An (Ap U U ?_)))))))))
 replace H:=H.nil
 have e:¬ Cq (⟨k,p,s,a,y,set,prs⟩:Bd):=Yx (by dsimp only;omega) (by dsimp only;omega) (by dsimp only;omega) (by dsimp only;omega) (by dsimp only;omega) (by dsimp only;omega)
 exact Al ⟨congrArg Value.bool (decide_eq_false e).symm,rfl⟩ H
theorem aC (k:Int) (p:Int) (s:Int) (a:Int) (y:Int) (vs:Value) (vp:Value) (set:List Int) (prs:List Aq) (hm:Ki (⟨k,p,s,a,y,set,prs⟩:Bd)):
    Cn Tryz.prog 133 [.agg #[.int .i64 k,.int .i64 p,.int .i64 s,.int .i64 a,.int .i64 y,vs,vp]] [] [Ac (Ai .i64) vs set,Ac Ag vp prs] (fun v Bs=>Bs=[Y AP v (CG (⟨k,p,s,a,y,set,prs⟩:Bd))]):=by
 intro w0 F0 H
 obtain ⟨A1,c2,rfl,hc3,hm4,hp5⟩:=H.fR 0 rfl
 obtain ⟨A6,c7,rfl,hc8,hm9,hp10⟩:=H.fR 1 rfl
 have h1:=hm.kind
 have h2:=hm.part
 have h3:=hm.sp
 have h4:=hm.att
 have h5:=hm.why
 have h6:=hm.set
 have h7:=hm.pairs
 unfold Bv at h1 h2 h3 h4 h5
 dsimp only at h1 h2 h3 h4 h5 h6 h7
 refine enter Tryz.func133 U U (Nat.le_of_ble_eq_true U) (Aa (Ae (CZ U U U U H (fun b11 w H=>(Ad U (Ab (Z ?_)))))))
 replace H:Hd _ _ _ [blk b11 [.int .i64 k,.int .i64 p,.int .i64 s,.int .i64 a,.int .i64 y,.slice A1 set.length c2,.slice A6 prs.length c7] 69] [Ac (Ai .i64) (.slice A1 set.length c2) set,Ac Ag (.slice A6 prs.length c7) prs]:=H
 refine Aa (Ae (Ad U (Ab (Z (Aa (Aa (Ae (V U U (Aj U Ec U) (V U U (Am U AE U (H.cellI 0 U U)) (V U U (Aj U GJ U) (V U U (Am U AE U (H.cellI 0 U U)) (V U U (Aj U Gq U) (V U U (Am U AE U (H.cellI 0 U U)) (V U U (Aj U Hb U) (V U U (Am U AE U (H.cellI 0 U U)) (V U U (Aj U HC U) (V U U (Am U AE U (H.cellI 0 U U)) (V U U (Aj U Gr U) (V U U (Am U DY U (H.cellI 0 U U)) (V U U (Bj U EA U) (Cg (parts:=[(0,.tmp 11),(1,.tmp 13),(2,.tmp 15),(3,.tmp 17),(4,.tmp 19),(5,.tmp 22)]) (vs:=[.int .i64 k,.int .i64 p,.int .i64 s,.int .i64 a,.int .i64 y,.int .i64 ((set.length:Nat):Int)]) (cs:=[.int .i64 k,.int .i64 p,.int .i64 s,.int .i64 a,.int .i64 y,.int .i64 ((set.length:Nat):Int)]) U U U DE Fa U (by decide) (by decide) U U H (fun b12 w H=>?_))))))))))))))))))))))
 replace H:=H.h1 (A:=blk b12 [.int .i64 k,.int .i64 p,.int .i64 s,.int .i64 a,.int .i64 y,.int .i64 ((set.length:Nat):Int)] 3)
 refine V U U (Bj U EA U) (Ad U (Ab (Z (AW ?_))))
 replace H:Hd w0 F0 w [Y (Ai .i64) (.slice (some ⟨b12,0,none⟩) 6 6) [k,p,s,a,y,((set.length:Nat):Int)],blk b11 [.int .i64 k,.int .i64 p,.int .i64 s,.int .i64 a,.int .i64 y,.slice A1 set.length c2,.slice A6 prs.length c7] 69] [Ac (Ai .i64) (.slice A1 set.length c2) set,Ac Ag (.slice A6 prs.length c7) prs]:=H.turn (fun F h=>IA h rfl (by decide) rfl)
 replace H:=H.newnil AP|>.tellK (ys:=B5 (([k,p,s,a,y,(set.length:Int)]).take 0)) (by rfl)
 refine B1 (σ:=Nat×Value) (fun (i,q)=>[(1,.pointer (some ⟨b11,0,none⟩)),(2,.slice none 0 0),(3,q),(23,.slice (some ⟨b12,0,none⟩) 6 6),(24,.int .i64 6),(25,.int .i64 ((i:Nat):Int))]) (fun (i,q) w=>(Hd w0 F0 w [Y AP q (B5 (([k,p,s,a,y,(set.length:Int)]).take i)),Y (Ai .i64) (.slice (some ⟨b12,0,none⟩) 6 6) [k,p,s,a,y,((set.length:Nat):Int)],blk b11 [.int .i64 k,.int .i64 p,.int .i64 s,.int .i64 a,.int .i64 y,.slice A1 set.length c2,.slice A6 prs.length c7] 69] [Ac (Ai .i64) (.slice A1 set.length c2) set,Ac Ag (.slice A6 prs.length c7) prs])∧(i≤6)) (fun (i,q)=>6 - i) (0,.slice none 0 0) ⟨rfl,rfl,rfl,rfl,rfl,rfl,trivial⟩ ⟨H,Nat.zero_le _⟩ ?_
 rintro ⟨i,q⟩ w ⟨H,hi⟩
 have hbl:=HK (([k,p,s,a,y,(set.length:Int)]).take i)
 have htl:(([k,p,s,a,y,(set.length:Int)]).take i).length≤6:=by rw [List.length_take];simp only [List.length_cons,List.length_nil];omega
 refine Aa (Ae (V U U (Br U U U) (Ab (Z (Aa ?_)))))
 refine AC U (fun h13=>?_) (fun h13=>?_)
 ·refine Az (Z (Aa (AW (Aa ?_))))
  have hi6:i<([k,p,s,a,y,((set.length:Nat):Int)]).length:=by simp only [List.length_cons,List.length_nil];omega
  refine Ae ?_
  obtain ⟨x14,hx15⟩:∃ z9,[k,p,s,a,y,((set.length:Nat):Int)][i]?=some z9:=⟨_,List.getElem?_eq_getElem (show i<[k,p,s,a,y,((set.length:Nat):Int)].length by omega)⟩
  have th16:=H.thA 1 rfl hx15
  refine V U U (Bi (p:=Ba (some ⟨b12,0,none⟩)+i*1) U DE U U (by omega) (by omega) th16 U) (V U U (Am U AE U (H.elA 1 U hx15 (q:=0) U U)) (Ad U (Ab (Z ?_))))
  have hx0:0≤x14∧x14<9223372036854775808:=by have hq:=CA hx15;simp only [List.mem_cons,List.not_mem_nil,or_false] at hq;rcases hq with rfl|rfl|rfl|rfl|rfl|rfl<;>omega
  obtain ⟨n17,rfl⟩:∃ z:Nat,x14=(z:Int):=⟨(x14).toNat,by omega⟩
  refine Ae (Ah 2 U (sc (Kq q (B5 (([k,p,s,a,y,(set.length:Int)]).take i)) n17 (by first |assumption|omega|(rw [List.length_append];omega)) (by first |assumption|omega|(rw [List.length_append];omega))) H (lA 0 U B2 l0) U U (Av KH U U) ?_))
  rintro v18 _ w rfl H
  refine Ad U (Ab (Bb (Z ?_)))
  replace H:Hd _ _ _ [Y AP v18 ((B5 (([k,p,s,a,y,(set.length:Int)]).take i))++B7 n17),Y AP q (B5 (([k,p,s,a,y,(set.length:Int)]).take i)),Y (Ai .i64) (.slice (some ⟨b12,0,none⟩) 6 6) [k,p,s,a,y,((set.length:Nat):Int)],blk b11 [.int .i64 k,.int .i64 p,.int .i64 s,.int .i64 a,.int .i64 y,.slice A1 set.length c2,.slice A6 prs.length c7] 69] [Ac (Ai .i64) (.slice A1 set.length c2) set,Ac Ag (.slice A6 prs.length c7) prs]:=H
  refine Ae (V U U (Bc (z:=((i+1:Nat):Int)) U U U (by rw [AI (by omega) (by omega)];omega)) (Ad U (Ab ?_)))
  replace H:=H.p3.p3.p2.k3.tellK (ys:=B5 (([k,p,s,a,y,(set.length:Int)]).take (i+1))) (by rw [Eo hx15,RA,Int.toNat_natCast])
  exact Bo (s:=(i,undef)) (i+1,v18) ⟨rfl,rfl,rfl,rfl,rfl,rfl,trivial⟩ ⟨H,by (try dsimp only);omega⟩ (by (try dsimp only);omega)
 refine BQ (AV (AV (BS (Z (Aa (Aa (Ae (V U U (Aj U Gr U) (V U U (Am U DY U (H.cellI 2 U U)) (V U U (Bj U EA U) (Ad U (Ab (Z (AW ?_))))))))))))))
 replace H:=H.sel 3 [0,2] [1] rfl (by kernel_rfl)
 replace H:Hd _ _ _ [Y AP q (B5 (([k,p,s,a,y,(set.length:Int)]).take i)),blk b11 [.int .i64 k,.int .i64 p,.int .i64 s,.int .i64 a,.int .i64 y,.slice A1 set.length c2,.slice A6 prs.length c7] 69] [Ac (Ai .i64) (.slice A1 set.length c2) set,Ac Ag (.slice A6 prs.length c7) prs]:=H
 replace H:=H.tellK (ys:=B5 ([k,p,s,a,y,(set.length:Int)]++set.take 0)) (by rw [List.take_zero,List.append_nil,List.take_of_length_le (show ([k,p,s,a,y,(set.length:Int)]).length≤i by simp only [List.length_cons,List.length_nil];omega)])
 refine B1 (σ:=Nat×Value) (fun (j,q2)=>[(1,.pointer (some ⟨b11,0,none⟩)),(2,.slice none 0 0),(3,q2),(34,.slice A1 set.length c2),(35,.int .i64 ((set.length:Nat):Int)),(36,.int .i64 ((j:Nat):Int))]) (fun (j,q2) w=>(Hd w0 F0 w [Y AP q2 (B5 ([k,p,s,a,y,(set.length:Int)]++set.take j)),blk b11 [.int .i64 k,.int .i64 p,.int .i64 s,.int .i64 a,.int .i64 y,.slice A1 set.length c2,.slice A6 prs.length c7] 69] [Ac (Ai .i64) (.slice A1 set.length c2) set,Ac Ag (.slice A6 prs.length c7) prs])∧(j≤set.length)) (fun (j,q2)=>set.length - j) (0,q) ⟨rfl,rfl,rfl,rfl,rfl,rfl,trivial⟩ ⟨H,Nat.zero_le _⟩ ?_
 rintro ⟨j,q2⟩ w ⟨H,hj⟩
 have hbl2:(B5 ([k,p,s,a,y,(set.length:Int)]++set.take j)).length≤8*(6+set.length):=by rw [HK,List.length_append,List.length_take];simp only [List.length_cons,List.length_nil];omega
 refine Aa (Ae (V U U (Br U U U) (Ab (Z (Aa ?_)))))
 refine AC U (fun h19=>?_) (fun h19=>?_)
 ·refine Az (Z (Aa (AW (Aa (Ae ?_)))))
  obtain ⟨x20,hx21⟩:∃ z9,set[j]?=some z9:=⟨_,List.getElem?_eq_getElem (show j<set.length by omega)⟩
  have th22:=H.thR 0 rfl hx21
  refine V U U (Bi (p:=Ba A1+j*1) U DE U U (by omega) (by omega) th22 U) (V U U (Am U AE U (H.elR 0 U hx21 (q:=0) U U)) (Ad U (Ab (Z ?_))))
  have hx0:0≤x20∧x20<9223372036854775808:=by have:=hm.sets _ (CA hx21);unfold Bv at this;omega
  obtain ⟨n23,rfl⟩:∃ z:Nat,x20=(z:Int):=⟨(x20).toNat,by omega⟩
  refine Ae (Ah 2 U (sc (Kq q2 (B5 ([k,p,s,a,y,(set.length:Int)]++set.take j)) n23 (by first |assumption|omega|(rw [List.length_append];omega)) (by first |assumption|omega|(rw [List.length_append];omega))) H (lA 0 U B2 l0) U U (Av KH U U) ?_))
  rintro v24 _ w rfl H
  refine Ad U (Ab (Bb (Z ?_)))
  replace H:Hd _ _ _ [Y AP v24 ((B5 ([k,p,s,a,y,(set.length:Int)]++set.take j))++B7 n23),Y AP q2 (B5 ([k,p,s,a,y,(set.length:Int)]++set.take j)),blk b11 [.int .i64 k,.int .i64 p,.int .i64 s,.int .i64 a,.int .i64 y,.slice A1 set.length c2,.slice A6 prs.length c7] 69] [Ac (Ai .i64) (.slice A1 set.length c2) set,Ac Ag (.slice A6 prs.length c7) prs]:=H
  refine Ae (V U U (Bc (z:=((j+1:Nat):Int)) U U U (by rw [AI (by omega) (by omega)];omega)) (Ad U (Ab ?_)))
  replace H:=H.p2.p1.k2.tellK (ys:=B5 ([k,p,s,a,y,(set.length:Int)]++set.take (j+1))) (by rw [Eo hx21,←List.append_assoc,RA,Int.toNat_natCast])
  exact Bo (s:=(j,undef)) (j+1,v24) ⟨rfl,rfl,rfl,rfl,rfl,rfl,trivial⟩ ⟨H,by (try dsimp only);omega⟩ (by (try dsimp only);omega)
 refine BQ (AV (AV (BS (Z (Aa (Ae (Ad U (V U U (Aj U F9 U) (V U U (Am U DJ U (H.cellI 1 U U)) (V U U (Bj U Dt U) (sc (Kq q2 (B5 ([k,p,s,a,y,(set.length:Int)]++set.take j)) prs.length (by first |assumption|omega|(rw [List.length_append];omega)) (by first |assumption|omega|(rw [List.length_append];omega))) H (lA 0 U B2 l0) U U (Av KH U U) ?_)))))))))))
 rintro v25 _ w rfl H
 refine Ad U (Ab (Z ?_))
 replace H:Hd _ _ _ [Y AP v25 ((B5 ([k,p,s,a,y,(set.length:Int)]++set.take j))++B7 prs.length),Y AP q2 (B5 ([k,p,s,a,y,(set.length:Int)]++set.take j)),blk b11 [.int .i64 k,.int .i64 p,.int .i64 s,.int .i64 a,.int .i64 y,.slice A1 set.length c2,.slice A6 prs.length c7] 69] [Ac (Ai .i64) (.slice A1 set.length c2) set,Ac Ag (.slice A6 prs.length c7) prs]:=H
 refine Aa (Aa (Ae (V U U (Aj U F9 U) (V U U (Am U DJ U (H.cellI 2 U U)) (V U U (Bj U Dt U) (Ad U (Ab (Z (AW ?_)))))))))
 replace H:=H.p2.p1.k2.tellK (ys:=B5 ([k,p,s,a,y,(set.length:Int)]++set)++(B7 prs.length++Cb (prs.take 0))) (by rw [List.take_zero,List.take_of_length_le (show set.length≤j by omega),show Cb ([]:List Aq)=[] from rfl,List.append_nil])
 refine B1 (σ:=Nat×Value) (fun (l,q3)=>[(2,.slice none 0 0),(3,q3),(50,.slice A6 prs.length c7),(51,.int .i64 ((prs.length:Nat):Int)),(52,.int .i64 ((l:Nat):Int))]) (fun (l,q3) w=>(Hd w0 F0 w [Y AP q3 (B5 ([k,p,s,a,y,(set.length:Int)]++set)++(B7 prs.length++Cb (prs.take l))),blk b11 [.int .i64 k,.int .i64 p,.int .i64 s,.int .i64 a,.int .i64 y,.slice A1 set.length c2,.slice A6 prs.length c7] 69] [Ac (Ai .i64) (.slice A1 set.length c2) set,Ac Ag (.slice A6 prs.length c7) prs])∧(l≤prs.length)) (fun (l,q3)=>prs.length - l) (0,v25) ⟨rfl,rfl,rfl,rfl,rfl,trivial⟩ ⟨H,Nat.zero_le _⟩ ?_
 rintro ⟨l,q3⟩ w ⟨H,hl⟩
 have hpk:=La (ps:=prs.take l) (fun q hq=>by have:=hm.prs q (List.mem_of_mem_take hq);unfold C5 at this;omega)
 have hpl:(prs.take l).length≤l:=by rw [List.length_take];omega
 have hbl3:(B5 ([k,p,s,a,y,(set.length:Int)]++set)++(B7 prs.length++Cb (prs.take l))).length=8*(6+set.length)+8+(Cb (prs.take l)).length:=by rw [List.length_append,HK,List.length_append,List.length_append,EL];simp only [List.length_cons,List.length_nil];omega
 refine Aa (Ae (V U U (Br U U U) (Ab (Z (Aa ?_)))))
 refine AC U (fun h26=>?_) (fun h26=>?_)
 ·refine Az (Z (Aa (AW (Aa (Ae ?_)))))
  obtain ⟨x27,hx28⟩:∃ z9,prs[l]?=some z9:=⟨_,List.getElem?_eq_getElem (show l<prs.length by omega)⟩
  have th29:=H.thR 1 rfl hx28
  refine V U U (Bi (p:=Ba A6+l*2) U BM U U (by omega) (by omega) th29 U) (V U U (BG (cs:=[.string x27.key,.string x27.val]) U CF U U (H.elsR 1 U hx28 U)) (DD U U U Dh H (fun b30 w H=>(Bx U U U CF U U H U (Nat.le_of_ble_eq_true U) (fun u hu=>by simp [Value.cells] at hu;rcases hu with rfl|rfl<;>rfl) (fun w H=>?_)))))
  replace H:Hd _ _ _ [blk b30 [.string x27.key,.string x27.val] 122,Y AP q3 (B5 ([k,p,s,a,y,(set.length:Int)]++set)++(B7 prs.length++Cb (prs.take l))),blk b11 [.int .i64 k,.int .i64 p,.int .i64 s,.int .i64 a,.int .i64 y,.slice A1 set.length c2,.slice A6 prs.length c7] 69] [Ac (Ai .i64) (.slice A1 set.length c2) set,Ac Ag (.slice A6 prs.length c7) prs]:=H
  refine Ab (Z ?_)
  have hxs:=hm.prs _ (CA hx28)
  unfold C5 at hxs
  have htk:=GY x27.key
  refine Ce (.e 0 (.e 1 (.e 2 (.e 4 (.e 5 (.m 3 (.m 6 (.e 7 .z)))))))) (fun w=>∃ Ar,Hd w0 F0 w (blk b30 [.string x27.key,.string x27.val] 122::Y AP q3 (B5 ([k,p,s,a,y,(set.length:Int)]++set)++(B7 prs.length++Cb (prs.take l)))::blk b11 [.int .i64 k,.int .i64 p,.int .i64 s,.int .i64 a,.int .i64 y,.slice A1 set.length c2,.slice A6 prs.length c7] 69::Ar) [Ac (Ai .i64) (.slice A1 set.length c2) set,Ac Ag (.slice A6 prs.length c7) prs]) mo (by kernel_rfl) (fun w H=>⟨_,H⟩) H (fun w H=>(Au U (Ao U U U (fun w ⟨Ar,H⟩=>Aj U F8 U) (Ao U U U (fun w ⟨Ar,H⟩=>Am U Cl U (H.cellI 0 U U)) (Ao U U U (fun w ⟨Ar,H⟩=>Aj U Jt U) (Ao U U U (fun w ⟨Ar,H⟩=>Am U Cl U (H.cellI 0 U U)) (AO U (sc (L1 q3 (B5 ([k,p,s,a,y,(set.length:Int)]++set)++(B7 prs.length++Cb (prs.take l))) x27.key (by first |assumption|omega|(rw [List.length_append];omega)) (by first |assumption|omega|(rw [List.length_append];omega))) H (lA 1 U B2 l0) U U (Av ME U U) ?_))))))))
  rintro v31 _ w rfl H
  replace H:=H.h1 (A:=Y AP v31 ((B5 ([k,p,s,a,y,(set.length:Int)]++set)++(B7 prs.length++Cb (prs.take l)))++Cw x27.key))|>.p3|>.p3|>.p3
  refine AH ⟨_,H⟩ (AO U (sc (L1 v31 ((B5 ([k,p,s,a,y,(set.length:Int)]++set)++(B7 prs.length++Cb (prs.take l)))++Cw x27.key) x27.val (by first |assumption|omega|(rw [List.length_append];omega)) (by first |assumption|omega|(rw [List.length_append];omega))) H (lA 3 U B2 l0) U U (Av ME U U) ?_))
  rintro v32 _ w rfl H
  replace H:=H.h1 (A:=Y AP v32 (((B5 ([k,p,s,a,y,(set.length:Int)]++set)++(B7 prs.length++Cb (prs.take l)))++Cw x27.key)++Cw x27.val))|>.p3|>.p3|>.p3
  refine AH ⟨_,H⟩ (Au U (BO (Bb (Z (Ae (V U U (Bc (z:=((l+1:Nat):Int)) U U U (by rw [AI (by omega) (by omega)];omega)) (Ad U (Ab ?_))))))))
  replace H:=H.p2.p3.k2.tellK (ys:=B5 ([k,p,s,a,y,(set.length:Int)]++set)++(B7 prs.length++Cb (prs.take (l+1)))) (by rw [Eo hx28,Nd];simp only [List.append_assoc])
  exact Bo (s:=(l,undef)) (l+1,v32) ⟨rfl,rfl,rfl,rfl,rfl,trivial⟩ ⟨H,by (try dsimp only);omega⟩ (by (try dsimp only);omega)
 refine BQ (AV (AV (BS (Z (Aa (Ae (Ah 2 U (Ab (Z (An (Ap U U ?_)))))))))))
 replace H:=H.k1
 replace H:Hd _ _ _ [Y AP q3 (B5 ([k,p,s,a,y,(set.length:Int)]++set)++(B7 prs.length++Cb (prs.take l)))] [Ac (Ai .i64) (.slice A1 set.length c2) set,Ac Ag (.slice A6 prs.length c7) prs]:=H
 replace H:=H.tellK (ys:=CG (⟨k,p,s,a,y,set,prs⟩:Bd)) (by rw [List.take_of_length_le (show prs.length≤l by omega)];rfl)|>.h1 (A:=Y AP q3 (CG (⟨k,p,s,a,y,set,prs⟩:Bd)))
 exact Al U H
theorem aF (vr:Value) (recs:List AY) (hrl:recs.length≤60):
    Cn Tryz.prog 79 [vr] [] [Ac BL vr recs] (fun v Bs=>Bs=[Y AP v (FA (recs.map AY.p))]):=by
 intro w0 F0 H
 obtain ⟨A1,c2,rfl,hc3,hm4,hp5⟩:=H.fR 0 rfl
 refine enter Tryz.func79 U U (Nat.le_of_ble_eq_true U) (Aa (Ae (Ad U (Ab (Z ?_)))))
 replace H:Hd _ _ _ [] [Ac BL (.slice A1 recs.length c2) recs]:=H
 refine Aa (Ae (Ad U (Ab (Z (Aa (Aa (Ae (Ad U (V U U (Bj U LK U) (Ad U (Ab (Z (AW ?_)))))))))))))
 replace H:=H.newnil AP|>.tellK (ys:=Ct ((recs.take 0).map AY.p)) (by rfl)
 refine B1 (σ:=Nat×Value) (fun (k,q)=>[(3,q),(6,.slice A1 recs.length c2),(7,.int .i64 ((recs.length:Nat):Int)),(8,.int .i64 ((k:Nat):Int))]) (fun (k,q) w=>(Hd w0 F0 w [Y AP q (Ct ((recs.take k).map AY.p))] [Ac BL (.slice A1 recs.length c2) recs])∧(k≤recs.length)∧(∀ r∈(recs.take k).map AY.p,Cq r)) (fun (k,q)=>recs.length - k) (0,.slice none 0 0) ⟨rfl,rfl,rfl,rfl,trivial⟩ ⟨H,Nat.zero_le _,fun r h=>by cases h⟩ ?_
 rintro ⟨k,q⟩ w ⟨H,hk,hmk⟩
 have hlb:=X6 hmk
 have hlk:((recs.take k).map AY.p).length≤k:=by rw [List.length_map,List.length_take];omega
 refine Aa (Ae (V U U (Br U U U) (Ab (Z (Aa ?_)))))
 refine AC U (fun h6=>?_) (fun h6=>?_)
 ·refine Az (Z (Aa (AW (Aa (Ae ?_)))))
  obtain ⟨⟨a9,a10,a11,a12,a13,sv14,se15,pv16,pr17⟩,hx8⟩:∃ z9,recs[k]?=some z9:=⟨_,List.getElem?_eq_getElem (show k<recs.length by omega)⟩
  obtain ⟨A18,c19,A20,c21,rfl,rfl,m22,m23,m24,m25⟩:=H.nestRr 0 rfl hx8
  have th26:=H.thRr 0 rfl hx8
  refine V U U (Bi (p:=Ba A1+k*7) U I8 U U (by omega) (by omega) th26 U) (V U U (BG (cs:=[.int .i64 a9,.int .i64 a10,.int .i64 a11,.int .i64 a12,.int .i64 a13,.slice A18 se15.length c19,.slice A20 pr17.length c21]) U E9 U U (H.elsRr 0 U hx8 U)) (DD U U U Hr H (fun b27 w H=>(Bx U U U E9 U U H U (Nat.le_of_ble_eq_true U) (fun u hu=>by simp [Value.cells] at hu;rcases hu with rfl|rfl|rfl|rfl|rfl|rfl|rfl<;>rfl) (fun w H=>?_)))))
  replace H:Hd _ _ _ [blk b27 [.int .i64 a9,.int .i64 a10,.int .i64 a11,.int .i64 a12,.int .i64 a13,.slice A18 se15.length c19,.slice A20 pr17.length c21] 69,Y AP q (Ct ((recs.take k).map AY.p))] [Ac BL (.slice A1 recs.length c2) recs]:=H
  refine Ab (Z (Aa (Aa (Ae (V U U (BG (cs:=[.int .i64 a9,.int .i64 a10,.int .i64 a11,.int .i64 a12,.int .i64 a13,.slice A18 se15.length c19,.slice A20 pr17.length c21]) U E9 U U (H.cellsI 0 U U)) (sc (Si a9 a10 a11 a12 a13 (.slice A18 se15.length c19) (.slice A20 pr17.length c21) se15 pr17) H (lX (fun F hA hR=>Ij (hR _ (List.mem_of_getElem? (i:=0) U)) hx8) (lX (fun F hA hR=>Lp (hR _ (List.mem_of_getElem? (i:=0) U)) hx8) l0)) U U (Av QL U U) ?_))))))
  rintro _ _ w ⟨rfl,rfl⟩ H
  refine V U U (D4 U U) (Ab (Z ?_))
  refine AC U (fun h28=>?_) (fun h28=>?_)
  ·refine Aa (Ae (Ad U (Ab (Z (An (AA (AZ (AA (AA (AZ (AA (Ap U U ?_))))))))))))
   replace H:=H.nil|>.newnil AP|>.tellK (ys:=FA (recs.map AY.p)) (by exact if_neg (fun g=>h28 (g _ (List.mem_map_of_mem (CA hx8)))))|>.h1 (A:=Y AP (.slice none 0 0) (FA (recs.map AY.p)))
   exact Al U H
  refine Az (Z ?_)
  have hmx:Cq (AY.p (⟨a9,a10,a11,a12,a13,.slice A18 se15.length c19,se15,.slice A20 pr17.length c21,pr17⟩:AY)):=Classical.not_not.1 h28
  have hmr:=KU hmx
  have hbo:=LZ hmr
  have hso:(DI (CG (AY.p (⟨a9,a10,a11,a12,a13,.slice A18 se15.length c19,se15,.slice A20 pr17.length c21,pr17⟩:AY)))).size≤10000:=by rw [I_];exact hbo
  have hso2:=hso
  simp only [AY.p] at hso2
  have hmn:∀ r∈(recs.take (k+1)).map AY.p,Cq r:=by rw [Eo hx8,List.map_append];exact fun r hr=>(List.mem_append.1 hr).elim (hmk r) (fun g=>by rw [List.mem_singleton.1 g];exact hmx)
  refine Ae (Ad U (V U U (BG (cs:=[.int .i64 a9,.int .i64 a10,.int .i64 a11,.int .i64 a12,.int .i64 a13,.slice A18 se15.length c19,.slice A20 pr17.length c21]) U E9 U U (H.cellsI 0 U U)) (sc (aC a9 a10 a11 a12 a13 (.slice A18 se15.length c19) (.slice A20 pr17.length c21) se15 pr17 (by first |assumption|omega|(rw [List.length_append];omega))) H (lX (fun F hA hR=>Ij (hR _ (List.mem_of_getElem? (i:=0) U)) hx8) (lX (fun F hA hR=>Lp (hR _ (List.mem_of_getElem? (i:=0) U)) hx8) l0)) U U (Av WE U U) ?_)))
  rintro v29 _ w rfl H
  obtain ⟨A30,c31,rfl,hc32,hm33,hp34⟩:=H.fA 0 rfl
  refine V U U (H.read fun F hA hR=>R9 U Fq HV CK U U (B2 F (hA _ (List.mem_of_getElem? (i:=0) U)))) ?_
  replace H:Hd _ _ _ [Y AP (.slice A30 ((CG (⟨a9,a10,a11,a12,a13,se15,pr17⟩:Bd)).length) c31) (CG (⟨a9,a10,a11,a12,a13,se15,pr17⟩:Bd)),blk b27 [.int .i64 a9,.int .i64 a10,.int .i64 a11,.int .i64 a12,.int .i64 a13,.slice A18 se15.length c19,.slice A20 pr17.length c21] 69,Y AP q (Ct ((recs.take k).map AY.p))] [Ac BL (.slice A1 recs.length c2) recs]:=H
  refine sc (L1 q (Ct ((recs.take k).map AY.p)) (DI (CG (⟨a9,a10,a11,a12,a13,se15,pr17⟩:Bd))) (by first |assumption|omega|(rw [List.length_append];omega)) (by first |assumption|omega|(rw [List.length_append];omega))) H (lA 2 U B2 l0) U U (Av ME U U) ?_
  rintro v35 _ w rfl H
  replace H:=H.h1 (A:=Y AP v35 ((Ct ((recs.take k).map AY.p))++Cw (DI (CG (⟨a9,a10,a11,a12,a13,se15,pr17⟩:Bd)))))
  refine Ad U (Ab (Bb (Z (Ae (V U U (Bc (z:=((k+1:Nat):Int)) U U U (by rw [AI (by omega) (by omega)];omega)) (Ad U (Ab ?_)))))))
  replace H:=H.k1.tellK (ys:=Ct ((recs.take (k+1)).map AY.p)) (by rw [Eo hx8,List.map_append];exact QS _ _)
  exact Bo (s:=(k,undef)) (k+1,v35) ⟨rfl,rfl,rfl,rfl,trivial⟩ ⟨H,by (try dsimp only);omega,hmn⟩ (by (try dsimp only);omega)
 refine BQ (AV (AV (BS (Z (Aa (Ae (Ah 2 U (Ab (Z (An (Ap U U ?_)))))))))))
 replace H:Hd _ _ _ [Y AP q (Ct ((recs.take k).map AY.p))] [Ac BL (.slice A1 recs.length c2) recs]:=H
 have hkk:recs.take k=recs:=List.take_of_length_le (by omega)
 rw [hkk] at H hmk
 replace H:=H.tellK (ys:=FA (recs.map AY.p)) (by exact if_pos hmk)
 replace H:Hd _ _ _ [Y AP q (FA (recs.map AY.p))] [Ac BL (.slice A1 recs.length c2) recs]:=H
 exact Al U H
theorem HP (r:Nat) (vb:Value) (bs:List UInt8) (s:C1) (hb:bs.length≤1000000) (ha:AG s.at_):
    Cn Tryz.prog 98 [.pointer (some ⟨r,0,none⟩)] [blk r [vb,.int .i64 s.at_,.bool s.bad] 115] [Ac AP vb bs] (fun v Bs=>v=.int .i64 ((Ak bs s).1)∧Bs=[blk r [vb,.int .i64 (((Ak bs s).2).at_),.bool (((Ak bs s).2).bad)] 115]):=by
 intro w0 F0 H
 refine enter Tryz.func98 U U (Nat.le_of_ble_eq_true U) (Aa (Ae (Ad U (Ab (Z (Aa (Ce (.e 0 (.e 1 (.e 2 (.e 3 (.e 4 (.e 5 (.e 6 (.e 7 (.m 8 (.e 9 (.e 10 (.e 11 (.e 12 (.e 13 (.e 14 (.e 15 .z)))))))))))))))) (fun w=>∃ Ar,Hd w0 F0 w (blk r [vb,.int .i64 s.at_,.bool s.bad] 115::Ar) [Ac AP vb bs]) mo (by kernel_rfl) (fun w H=>⟨_,H⟩) H (fun w H=>(Au U (Ao U U U (fun w ⟨Ar,H⟩=>AJ U U) (Ao U U U (fun w ⟨Ar,H⟩=>Aj U Mg U) (Ao U U U (fun w ⟨Ar,H⟩=>Am U GB U (H.cellI 0 U U)) (Au U (Ao U U U (fun w ⟨Ar,H⟩=>AJ U U) (Ao U U U (fun w ⟨Ar,H⟩=>Aj U H8 U) (Ao U U U (fun w ⟨Ar,H⟩=>Am U AE U (H.cellI 0 U U)) (AO U (sc (Nx vb bs s.at_ (by first |assumption|omega) (by first |assumption|omega)) H (lR 0 U l0) U U (Av MN U U) ?_))))))))))))))))))
 rintro _ _ w ⟨rfl,rfl⟩ H
 replace H:Hd _ _ _ [blk r [vb,.int .i64 s.at_,.bool s.bad] 115] [Ac AP vb bs]:=H
 refine AH ⟨_,H⟩ (Au U (Au U (Au U (Au U (Au U (Au U (Au U (BO (Z (Aa (Ae (Ah 2 U (V U U (AJ U U) (V U U (Aj U HA U) (V U U (Am U DP U (H.cellI 0 U U)) (Ad U ?_))))))))))))))))
 refine FC (d:=24) (b:=s.bad) U (fun h1=>?_) (fun h1=>?_)
 ·refine Ah 3 U (V U U (AJ U U) (V U U (Aj U HA U) (Bx U U U DP U U H U (Nat.le_of_ble_eq_true U) (fun u hu=>by simp [Value.cells] at hu;subst hu;rfl) (fun w H=>?_))))
  replace H:=H.h1 (A:=blk r [vb,.int .i64 s.at_,.bool true] 115)
  refine Ab (Z (Aa (Aa (Ae (Ad U (Ab (Z ?_)))))))
  refine Dp (b:=(BZ bs s.at_).2.2) U (fun h2=>?_) (fun h2=>?_)
  ·refine Ae (Ah 2 U (V U U (AJ U U) (V U U (Aj U H8 U) (Bx U U U AE U U H U (Nat.le_of_ble_eq_true U) (fun u hu=>by simp [Value.cells] at hu;subst hu;rfl) (fun w H=>?_)))))
   replace H:=H.h1 (A:=blk r [vb,.int .i64 ((BZ bs s.at_).2.1),.bool true] 115)
   refine Ab (Z (Aa (Ae (Ah 2 U (Ab (Z (An (Ap U U ?_))))))))
   have e:Ak bs s=((BZ bs s.at_).1,⟨(BZ bs s.at_).2.1,true⟩):=by unfold Ak;grind
   exact Al ⟨by rw [e]<;>rfl,by rw [e]<;>rfl⟩ H
  refine Az (Z (Aa (Ae (Ah 2 U (Ab (Z (An (Ap U U ?_))))))))
  have e:Ak bs s=((BZ bs s.at_).1,⟨s.at_,true⟩):=by unfold Ak;grind
  exact Al ⟨by rw [e]<;>rfl,by rw [e]<;>rfl⟩ H
 refine Ad U (V U U (ES U U U) (Ad U (V U U (AJ U U) (V U U (Aj U HA U) (Bx U U U DP U U H U (Nat.le_of_ble_eq_true U) (fun u hu=>by simp [Value.cells] at hu;subst hu;rfl) (fun w H=>?_))))))
 replace H:=H.h1 (A:=blk r [vb,.int .i64 s.at_,.bool (!((BZ bs s.at_).2.2))] 115)
 refine Ab (Z (Aa (Aa (Ae (Ad U (Ab (Z ?_)))))))
 refine Dp (b:=(BZ bs s.at_).2.2) U (fun h3=>?_) (fun h3=>?_)
 ·refine Ae (Ah 2 U (V U U (AJ U U) (V U U (Aj U H8 U) (Bx U U U AE U U H U (Nat.le_of_ble_eq_true U) (fun u hu=>by simp [Value.cells] at hu;subst hu;rfl) (fun w H=>?_)))))
  replace H:=H.h1 (A:=blk r [vb,.int .i64 ((BZ bs s.at_).2.1),.bool (!((BZ bs s.at_).2.2))] 115)
  refine Ab (Z (Aa (Ae (Ah 2 U (Ab (Z (An (Ap U U ?_))))))))
  have e:Ak bs s=((BZ bs s.at_).1,⟨(BZ bs s.at_).2.1,!((BZ bs s.at_).2.2)⟩):=by unfold Ak;grind
  exact Al ⟨by rw [e]<;>rfl,by rw [e]<;>rfl⟩ H
 refine Az (Z (Aa (Ae (Ah 2 U (Ab (Z (An (Ap U U ?_))))))))
 have e:Ak bs s=((BZ bs s.at_).1,⟨s.at_,!((BZ bs s.at_).2.2)⟩):=by unfold Ak;grind
 exact Al ⟨by rw [e]<;>rfl,by rw [e]<;>rfl⟩ H
theorem Nw (r:Nat) (vb:Value) (bs:List UInt8) (s:C1) (hb:bs.length≤1000000) (ha:AG s.at_):
    Cn Tryz.prog 100 [.pointer (some ⟨r,0,none⟩)] [blk r [vb,.int .i64 s.at_,.bool s.bad] 115] [Ac AP vb bs] (fun v Bs=>v=.string ((AN bs s).1)∧Bs=[blk r [vb,.int .i64 (((AN bs s).2).at_),.bool (((AN bs s).2).bad)] 115]):=by
 intro w0 F0 H
 refine enter Tryz.func100 U U (Nat.le_of_ble_eq_true U) (Aa (Ae (Ad U (Ab (Z (Aa (Ce (.e 0 (.e 1 (.e 2 (.e 3 (.e 4 (.e 5 (.e 6 (.e 7 (.m 8 (.e 9 (.e 10 (.e 11 (.e 12 (.e 13 (.e 14 (.e 15 .z)))))))))))))))) (fun w=>∃ Ar,Hd w0 F0 w (blk r [vb,.int .i64 s.at_,.bool s.bad] 115::Ar) [Ac AP vb bs]) mo (by kernel_rfl) (fun w H=>⟨_,H⟩) H (fun w H=>(Au U (Ao U U U (fun w ⟨Ar,H⟩=>AJ U U) (Ao U U U (fun w ⟨Ar,H⟩=>Aj U Mg U) (Ao U U U (fun w ⟨Ar,H⟩=>Am U GB U (H.cellI 0 U U)) (Au U (Ao U U U (fun w ⟨Ar,H⟩=>AJ U U) (Ao U U U (fun w ⟨Ar,H⟩=>Aj U H8 U) (Ao U U U (fun w ⟨Ar,H⟩=>Am U AE U (H.cellI 0 U U)) (AO U (sc (Ll vb bs s.at_ (by first |assumption|omega) (by first |assumption|omega)) H (lR 0 U l0) U U (Av KK U U) ?_))))))))))))))))))
 rintro _ _ w ⟨rfl,rfl⟩ H
 replace H:Hd _ _ _ [blk r [vb,.int .i64 s.at_,.bool s.bad] 115] [Ac AP vb bs]:=H
 refine AH ⟨_,H⟩ (Au U (Au U (Au U (Au U (Au U (Au U (Au U (BO (Z (Aa (Ae (Ah 2 U (V U U (AJ U U) (V U U (Aj U HA U) (V U U (Am U DP U (H.cellI 0 U U)) (Ad U ?_))))))))))))))))
 refine FC (d:=24) (b:=s.bad) U (fun h1=>?_) (fun h1=>?_)
 ·refine Ah 3 U (V U U (AJ U U) (V U U (Aj U HA U) (Bx U U U DP U U H U (Nat.le_of_ble_eq_true U) (fun u hu=>by simp [Value.cells] at hu;subst hu;rfl) (fun w H=>?_))))
  replace H:=H.h1 (A:=blk r [vb,.int .i64 s.at_,.bool true] 115)
  refine Ab (Z (Aa (Aa (Ae (Ad U (Ab (Z ?_)))))))
  refine Dp (b:=(Ax bs s.at_).2.2) U (fun h2=>?_) (fun h2=>?_)
  ·refine Ae (Ah 2 U (V U U (AJ U U) (V U U (Aj U H8 U) (Bx U U U AE U U H U (Nat.le_of_ble_eq_true U) (fun u hu=>by simp [Value.cells] at hu;subst hu;rfl) (fun w H=>?_)))))
   replace H:=H.h1 (A:=blk r [vb,.int .i64 ((Ax bs s.at_).2.1),.bool true] 115)
   refine Ab (Z (Aa (Ae (Ah 2 U (Ab (Z (An (Ap U U ?_))))))))
   have e:AN bs s=((Ax bs s.at_).1,⟨(Ax bs s.at_).2.1,true⟩):=by unfold AN;grind
   exact Al ⟨by rw [e]<;>rfl,by rw [e]<;>rfl⟩ H
  refine Az (Z (Aa (Ae (Ah 2 U (Ab (Z (An (Ap U U ?_))))))))
  have e:AN bs s=((Ax bs s.at_).1,⟨s.at_,true⟩):=by unfold AN;grind
  exact Al ⟨by rw [e]<;>rfl,by rw [e]<;>rfl⟩ H
 refine Ad U (V U U (ES U U U) (Ad U (V U U (AJ U U) (V U U (Aj U HA U) (Bx U U U DP U U H U (Nat.le_of_ble_eq_true U) (fun u hu=>by simp [Value.cells] at hu;subst hu;rfl) (fun w H=>?_))))))
 replace H:=H.h1 (A:=blk r [vb,.int .i64 s.at_,.bool (!((Ax bs s.at_).2.2))] 115)
 refine Ab (Z (Aa (Aa (Ae (Ad U (Ab (Z ?_)))))))
 refine Dp (b:=(Ax bs s.at_).2.2) U (fun h3=>?_) (fun h3=>?_)
 ·refine Ae (Ah 2 U (V U U (AJ U U) (V U U (Aj U H8 U) (Bx U U U AE U U H U (Nat.le_of_ble_eq_true U) (fun u hu=>by simp [Value.cells] at hu;subst hu;rfl) (fun w H=>?_)))))
  replace H:=H.h1 (A:=blk r [vb,.int .i64 ((Ax bs s.at_).2.1),.bool (!((Ax bs s.at_).2.2))] 115)
  refine Ab (Z (Aa (Ae (Ah 2 U (Ab (Z (An (Ap U U ?_))))))))
  have e:AN bs s=((Ax bs s.at_).1,⟨(Ax bs s.at_).2.1,!((Ax bs s.at_).2.2)⟩):=by unfold AN;grind
  exact Al ⟨by rw [e]<;>rfl,by rw [e]<;>rfl⟩ H
 refine Az (Z (Aa (Ae (Ah 2 U (Ab (Z (An (Ap U U ?_))))))))
 have e:AN bs s=((Ax bs s.at_).1,⟨s.at_,!((Ax bs s.at_).2.2)⟩):=by unfold AN;grind
 exact Al ⟨by rw [e]<;>rfl,by rw [e]<;>rfl⟩ H
theorem Sk (r:Nat) (vb:Value) (bs:List UInt8) (s:C1) (m:Int) (hb:bs.length≤1000000) (ha:AG s.at_):
    Cn Tryz.prog 99 [.pointer (some ⟨r,0,none⟩),.int .i64 m] [blk r [vb,.int .i64 s.at_,.bool s.bad] 115] [Ac AP vb bs] (fun v Bs=>v=.int .i64 ((Ay bs m s).1)∧Bs=[blk r [vb,.int .i64 (((Ay bs m s).2).at_),.bool (((Ay bs m s).2).bad)] 115]):=by
 intro w0 F0 H
 refine enter Tryz.func99 U U (Nat.le_of_ble_eq_true U) (Aa (Ae (Ad U (Ab (Z (Aa (Ae (Ad U (sc (HP r vb bs s (by first |assumption|omega) (by first |assumption|omega)) H (lR 0 U l0) U U (Av HF U U) ?_)))))))))
 rintro _ _ w ⟨rfl,rfl⟩ H
 have h641:=GR (b:=bs) (s:=s) (by omega) (by assumption)
 refine Ad U (Ab (Z ?_))
 replace H:Hd _ _ _ [blk r [vb,.int .i64 (((Ak bs s).2).at_),.bool (((Ak bs s).2).bad)] 115] [Ac AP vb bs]:=H
 refine Aa (Aa (Ae (Ah 2 U (sc (IZ ((Ak bs s).1) 0 m) H l0 U U (Av IN U U) ?_))))
 rintro _ _ w ⟨rfl,rfl⟩ H
 refine V U U (D4 U U) (Ab (Z ?_))
 refine AC U (fun h2=>?_) (fun h2=>?_)
 ·refine Aa (Ae (Ad U (V U U (AJ U U) (V U U (Aj U HA U) (Bx U U U DP U U H U (Nat.le_of_ble_eq_true U) (fun u hu=>by simp [Value.cells] at hu;subst hu;rfl) (fun w H=>?_))))))
  replace H:Hd _ _ _ [blk r [vb,.int .i64 (((Ak bs s).2).at_),.bool true] 115] [Ac AP vb bs]:=H
  refine Ab (Z (Aa (Ae (Ad U (Ab (Z (An (AA (Ap U U ?_)))))))))
  have e:Ay bs m s=(0,⟨(Ak bs s).2.at_,true⟩):=if_neg (by unfold Bv;omega)
  exact Al ⟨by rw [e]<;>rfl,by rw [e]<;>rfl⟩ H
 refine Az (Z (Aa (Ae (Ah 2 U (Ab (Z (An (Ap U U ?_))))))))
 have e:Ay bs m s=Ak bs s:=if_pos (by unfold Bv;omega)
 replace H:Hd _ _ _ [blk r [vb,.int .i64 (((Ak bs s).2).at_),.bool (((Ak bs s).2).bad)] 115] [Ac AP vb bs]:=H
 exact Al ⟨by rw [e]<;>rfl,by rw [e]<;>rfl⟩ H
theorem aO (r:Nat) (vb:Value) (bs:List UInt8) (s:C1) (hb:bs.length≤1000000) (ha:AG s.at_):
    Cn Tryz.prog 55 [.pointer (some ⟨r,0,none⟩)] [blk r [vb,.int .i64 s.at_,.bool s.bad] 115] [Ac AP vb bs] (fun v Bs=>∃ u:Value,∃ u2:Value,v=.agg #[.int .i64 ((AF bs s).1.kind),.int .i64 ((AF bs s).1.part),.int .i64 ((AF bs s).1.sp),.int .i64 ((AF bs s).1.att),.int .i64 ((AF bs s).1.why),u,u2]∧Bs=[Y (Ai .i64) u ((AF bs s).1.set),Y Ag u2 ((AF bs s).1.pairs),blk r [vb,.int .i64 (((AF bs s).2).at_),.bool (((AF bs s).2).bad)] 115]):=by
 intro w0 F0 H
 refine enter Tryz.func55 U U (Nat.le_of_ble_eq_true U) (Aa (Ae (DD U U U Hr H (fun b1 w H=>(Ab (Z ?_))))))
 replace H:Hd _ _ _ [blk b1 [.int .i64 0,.int .i64 0,.int .i64 0,.int .i64 0,.int .i64 0,.slice none 0 0,.slice none 0 0] 69,blk r [vb,.int .i64 s.at_,.bool s.bad] 115] [Ac AP vb bs]:=H
 refine Aa (Ae (Ad U ?_))
 replace H:=H.p1
 refine sc (HP r vb bs s (by first |assumption|omega) (by first |assumption|omega)) H (lR 0 U l0) U U (Av HF U U) ?_
 rintro _ _ w ⟨rfl,rfl⟩ H
 replace H:=H.h1 (A:=blk r [vb,.int .i64 (((Ak bs s).2).at_),.bool (((Ak bs s).2).bad)] 115)
 have h642:=GR (b:=bs) (s:=s) (by omega) (by assumption)
 refine Ad U (sc (HP r vb bs ((Ak bs s).2) (by first |assumption|omega) (by first |assumption|omega)) H (lR 0 U l0) U U (Av HF U U) ?_)
 rintro _ _ w ⟨rfl,rfl⟩ H
 replace H:=H.h1 (A:=blk r [vb,.int .i64 (((Ak bs ((Ak bs s).2)).2).at_),.bool (((Ak bs ((Ak bs s).2)).2).bad)] 115)
 have h643:=GR (b:=bs) (s:=(Ak bs s).2) (by omega) (by assumption)
 refine Ad U (sc (HP r vb bs ((Ak bs ((Ak bs s).2)).2) (by first |assumption|omega) (by first |assumption|omega)) H (lR 0 U l0) U U (Av HF U U) ?_)
 rintro _ _ w ⟨rfl,rfl⟩ H
 replace H:=H.h1 (A:=blk r [vb,.int .i64 (((Ak bs ((Ak bs ((Ak bs s).2)).2)).2).at_),.bool (((Ak bs ((Ak bs ((Ak bs s).2)).2)).2).bad)] 115)
 have h644:=GR (b:=bs) (s:=(Ak bs ((Ak bs s).2)).2) (by omega) (by assumption)
 refine Ad U (sc (HP r vb bs ((Ak bs ((Ak bs ((Ak bs s).2)).2)).2) (by first |assumption|omega) (by first |assumption|omega)) H (lR 0 U l0) U U (Av HF U U) ?_)
 rintro _ _ w ⟨rfl,rfl⟩ H
 replace H:=H.h1 (A:=blk r [vb,.int .i64 (((Ak bs ((Ak bs ((Ak bs ((Ak bs s).2)).2)).2)).2).at_),.bool (((Ak bs ((Ak bs ((Ak bs ((Ak bs s).2)).2)).2)).2).bad)] 115)
 have h645:=GR (b:=bs) (s:=(Ak bs ((Ak bs ((Ak bs s).2)).2)).2) (by omega) (by assumption)
 refine Ad U (sc (HP r vb bs ((Ak bs ((Ak bs ((Ak bs ((Ak bs s).2)).2)).2)).2) (by first |assumption|omega) (by first |assumption|omega)) H (lR 0 U l0) U U (Av HF U U) ?_)
 rintro _ _ w ⟨rfl,rfl⟩ H
 have h646:=GR (b:=bs) (s:=(Ak bs ((Ak bs ((Ak bs ((Ak bs s).2)).2)).2)).2) (by omega) (by assumption)
 refine V U U (Dl (parts:=[(0,.tmp 6),(1,.tmp 8),(2,.tmp 10),(3,.tmp 12),(4,.tmp 14)]) (vs:=[.int .i64 ((Ak bs s).1),.int .i64 ((Ak bs ((Ak bs s).2)).1),.int .i64 ((Ak bs ((Ak bs ((Ak bs s).2)).2)).1),.int .i64 ((Ak bs ((Ak bs ((Ak bs ((Ak bs s).2)).2)).2)).1),.int .i64 ((Ak bs ((Ak bs ((Ak bs ((Ak bs ((Ak bs s).2)).2)).2)).2)).1)]) (cs:=[.int .i64 ((Ak bs s).1),.int .i64 ((Ak bs ((Ak bs s).2)).1),.int .i64 ((Ak bs ((Ak bs ((Ak bs s).2)).2)).1),.int .i64 ((Ak bs ((Ak bs ((Ak bs ((Ak bs s).2)).2)).2)).1),.int .i64 ((Ak bs ((Ak bs ((Ak bs ((Ak bs ((Ak bs s).2)).2)).2)).2)).1),.slice none 0 0,.slice none 0 0]) U OE U U) (DD U U U Hr H (fun b7 w H=>(Bx U U U E9 U U H U (Nat.le_of_ble_eq_true U) (fun u hu=>by simp [Value.cells] at hu;rcases hu with rfl|rfl|rfl|rfl|rfl|rfl|rfl<;>rfl) (fun w H=>?_))))
 replace H:=H.h2 (A:=blk b7 [.int .i64 ((Ak bs s).1),.int .i64 ((Ak bs ((Ak bs s).2)).1),.int .i64 ((Ak bs ((Ak bs ((Ak bs s).2)).2)).1),.int .i64 ((Ak bs ((Ak bs ((Ak bs ((Ak bs s).2)).2)).2)).1),.int .i64 ((Ak bs ((Ak bs ((Ak bs ((Ak bs ((Ak bs s).2)).2)).2)).2)).1),.slice none 0 0,.slice none 0 0] 69) (B:=blk r [vb,.int .i64 (((Ak bs ((Ak bs ((Ak bs ((Ak bs ((Ak bs s).2)).2)).2)).2)).2).at_),.bool (((Ak bs ((Ak bs ((Ak bs ((Ak bs ((Ak bs s).2)).2)).2)).2)).2).bad)] 115)
 refine Ab (Z (Aa (Aa ?_)))
 replace H:=H.h2 (B:=blk r [vb,.int .i64 ((Aw bs 5 s).at_),.bool ((Aw bs 5 s).bad)] 115)
 have h65:AG (Aw bs 5 s).at_:=K7 (by omega) 5 ha
 refine Ae (Ad U ?_)
 replace H:=H.p1
 refine sc (Sk r vb bs (Aw bs 5 s) 6 (by first |assumption|omega) (by first |assumption|omega)) H (lR 0 U l0) U U (Av QQ U U) ?_
 rintro _ _ w ⟨rfl,rfl⟩ H
 replace H:=H.h1 (A:=blk r [vb,.int .i64 (((Ay bs 6 (Aw bs 5 s)).2).at_),.bool (((Ay bs 6 (Aw bs 5 s)).2).bad)] 115)
 have h648:=Kp (b:=bs) (s:=Aw bs 5 s) (m:=6) (by omega) (by assumption)
 refine Ad U (Ab (Z (AW ?_)))
 have hci:=OQ (b:=bs) (s:=(Aw bs 5 s)) (m:=6) (by omega)
 have h6c:AG (Ay bs 6 (Aw bs 5 s)).2.at_:=Kp (by omega) h65
 replace H:=H.newnil (Ai .i64)|>.tellK (ys:=(Bg bs 0 (Ay bs 6 (Aw bs 5 s)).2).1) (by rfl)|>.sel 4 [1,0,2,3] [] rfl (by kernel_rfl)
 replace H:Hd _ _ _ [blk r [vb,.int .i64 (((Bg bs 0 (Ay bs 6 (Aw bs 5 s)).2).2).at_),.bool (((Bg bs 0 (Ay bs 6 (Aw bs 5 s)).2).2).bad)] 115,Y (Ai .i64) (.slice none 0 0) ((Bg bs 0 (Ay bs 6 (Aw bs 5 s)).2).1),blk b7 [.int .i64 ((Ak bs s).1),.int .i64 ((Ak bs ((Ak bs s).2)).1),.int .i64 ((Ak bs ((Ak bs ((Ak bs s).2)).2)).1),.int .i64 ((Ak bs ((Ak bs ((Ak bs ((Ak bs s).2)).2)).2)).1),.int .i64 ((Ak bs ((Ak bs ((Ak bs ((Ak bs ((Ak bs s).2)).2)).2)).2)).1),.slice none 0 0,.slice none 0 0] 69,blk b1 [.int .i64 0,.int .i64 0,.int .i64 0,.int .i64 0,.int .i64 0,.slice none 0 0,.slice none 0 0] 69] [Ac AP vb bs]:=H
 refine B1 (σ:=Nat×Value) (fun (i,q)=>[(0,.pointer (some ⟨r,0,none⟩)),(2,.pointer (some ⟨b1,0,none⟩)),(3,.pointer (some ⟨b7,0,none⟩)),(17,.int .i64 ((Ay bs 6 (Aw bs 5 s)).1)),(18,.int .i64 ((i:Nat):Int))]) (fun (i,q) w=>(Hd w0 F0 w [blk r [vb,.int .i64 (((Bg bs i (Ay bs 6 (Aw bs 5 s)).2).2).at_),.bool (((Bg bs i (Ay bs 6 (Aw bs 5 s)).2).2).bad)] 115,Y (Ai .i64) q ((Bg bs i (Ay bs 6 (Aw bs 5 s)).2).1),blk b7 [.int .i64 ((Ak bs s).1),.int .i64 ((Ak bs ((Ak bs s).2)).1),.int .i64 ((Ak bs ((Ak bs ((Ak bs s).2)).2)).1),.int .i64 ((Ak bs ((Ak bs ((Ak bs ((Ak bs s).2)).2)).2)).1),.int .i64 ((Ak bs ((Ak bs ((Ak bs ((Ak bs ((Ak bs s).2)).2)).2)).2)).1),q,.slice none 0 0] 69,blk b1 [.int .i64 0,.int .i64 0,.int .i64 0,.int .i64 0,.int .i64 0,.slice none 0 0,.slice none 0 0] 69] [Ac AP vb bs])∧(((i:Nat):Int)≤(Ay bs 6 (Aw bs 5 s)).1)) (fun (i,q)=>(Ay bs 6 (Aw bs 5 s)).1.toNat - i) (0,.slice none 0 0) ⟨rfl,rfl,rfl,rfl,rfl,trivial⟩ ⟨H,by (try dsimp only);omega⟩ ?_
 rintro ⟨i,q⟩ w ⟨H,hi⟩
 have h6i:AG (Bg bs i (Ay bs 6 (Aw bs 5 s)).2).2.at_:=K7 (by omega) i h6c
 have hnl:=RC bs (Ay bs 6 (Aw bs 5 s)).2 i
 refine Aa (Ae (V U U (Br U U U) (Ab (Z (Aa ?_)))))
 refine AC U (fun h9=>?_) (fun h9=>?_)
 ·refine Az (Z (Aa (AW ?_)))
  replace H:=H.p3.h4 (B:=blk r [vb,.int .i64 (((Bg bs i (Ay bs 6 (Aw bs 5 s)).2).2).at_),.bool (((Bg bs i (Ay bs 6 (Aw bs 5 s)).2).2).bad)] 115) (C:=Y (Ai .i64) q ((Bg bs i (Ay bs 6 (Aw bs 5 s)).2).1)) (D:=blk b7 [.int .i64 ((Ak bs s).1),.int .i64 ((Ak bs ((Ak bs s).2)).1),.int .i64 ((Ak bs ((Ak bs ((Ak bs s).2)).2)).1),.int .i64 ((Ak bs ((Ak bs ((Ak bs ((Ak bs s).2)).2)).2)).1),.int .i64 ((Ak bs ((Ak bs ((Ak bs ((Ak bs ((Ak bs s).2)).2)).2)).2)).1),q,.slice none 0 0] 69)
  refine Ce (.e 0 (.e 2 (.b 1 3 (.m 3 (.m 4 (.m 5 (.e 6 (.m 7 .z))))) (.b 1 4 (.m 4 (.m 5 (.e 6 (.m 7 .z)))) (.m 1 (.m 5 (.e 6 (.m 7 .z)))))))) (fun w=>∃ Ar,Hd w0 F0 w (blk b1 [.int .i64 0,.int .i64 0,.int .i64 0,.int .i64 0,.int .i64 0,.slice none 0 0,.slice none 0 0] 69::Ar) [Ac AP vb bs]) mo (by kernel_rfl) (fun w H=>⟨_,H⟩) H (fun w H=>(Ao U U U (fun w ⟨Ar,H⟩=>Aj U Gr U) (Au U ?_)))
  refine Gm U U ?_ ?_
  ·refine V U U (Am U DY U (H.cellI 3 U U)) (AH ⟨_,H⟩ (AO U ?_))
   replace H:=H.p1
   refine sc (HP r vb bs ((Bg bs i (Ay bs 6 (Aw bs 5 s)).2).2) (by first |assumption|omega) (by first |assumption|omega)) H (lR 0 U l0) U U (Av HF U U) ?_
   rintro _ _ w ⟨rfl,rfl⟩ H
   replace H:=H.h1 (A:=blk r [vb,.int .i64 (((Ak bs ((Bg bs i (Ay bs 6 (Aw bs 5 s)).2).2)).2).at_),.bool (((Ak bs ((Bg bs i (Ay bs 6 (Aw bs 5 s)).2).2)).2).bad)] 115)
   have h6410:=GR (b:=bs) (s:=(Bg bs i (Ay bs 6 (Aw bs 5 s)).2).2) (by omega) (by assumption)
   replace H:=H.p1
   refine AH ⟨_,H⟩ (AO U (Cg (parts:=[(0,.tmp 23)]) (vs:=[.int .i64 ((Ak bs ((Bg bs i (Ay bs 6 (Aw bs 5 s)).2).2)).1)]) (cs:=[.int .i64 ((Ak bs ((Bg bs i (Ay bs 6 (Aw bs 5 s)).2).2)).1)]) U U U DE Fa U (by decide) (by decide) U U H (fun b11 w H=>?_)))
   replace H:=H.h1 (A:=blk b11 [.int .i64 ((Ak bs ((Bg bs i (Ay bs 6 (Aw bs 5 s)).2).2)).1)] 3)|>.p1
   refine AH ⟨_,H⟩ (AO U ?_)
   replace H:=H.p3
   refine CE (xs:=(Bg bs i (Ay bs 6 (Aw bs 5 s)).2).1) (ys:=[(Ak bs ((Bg bs i (Ay bs 6 (Aw bs 5 s)).2).2)).1]) U U U DE Fa U (by decide) U U H (by first |omega|(simp only [List.length_append,List.length_cons,List.length_nil];omega)) (fun F hA hR=>CC (hA _ (List.mem_of_getElem? (i:=1) U)) U (by decide) (Be.flat_eq.2 U)) (fun v12 w H=>?_)
   replace H:=H.h1 (A:=Y (Ai .i64) v12 (((Bg bs i (Ay bs 6 (Aw bs 5 s)).2).1)++[(Ak bs ((Bg bs i (Ay bs 6 (Aw bs 5 s)).2).2)).1]))|>.p1
   refine AH ⟨_,H⟩ (Ao U U U (fun w ⟨Ar,H⟩=>Aj U Gr U) (AO U ?_))
   obtain ⟨A13,c14,rfl,hc15,hm16,hp17⟩:=H.fA 1 rfl
   replace H:=H.p4
   refine Bx U U U DY U U H U (Nat.le_of_ble_eq_true U) (fun u hu=>by simp [Value.cells] at hu;subst hu;rfl) (fun w H=>?_)
   replace H:Hd _ _ _ [blk b7 [.int .i64 ((Ak bs s).1),.int .i64 ((Ak bs ((Ak bs s).2)).1),.int .i64 ((Ak bs ((Ak bs ((Ak bs s).2)).2)).1),.int .i64 ((Ak bs ((Ak bs ((Ak bs ((Ak bs s).2)).2)).2)).1),.int .i64 ((Ak bs ((Ak bs ((Ak bs ((Ak bs ((Ak bs s).2)).2)).2)).2)).1),.slice A13 ((((Bg bs i (Ay bs 6 (Aw bs 5 s)).2).1)++[(Ak bs ((Bg bs i (Ay bs 6 (Aw bs 5 s)).2).2)).1]).length) c14,.slice none 0 0] 69,blk b1 [.int .i64 0,.int .i64 0,.int .i64 0,.int .i64 0,.int .i64 0,.slice none 0 0,.slice none 0 0] 69,Y (Ai .i64) (.slice A13 ((((Bg bs i (Ay bs 6 (Aw bs 5 s)).2).1)++[(Ak bs ((Bg bs i (Ay bs 6 (Aw bs 5 s)).2).2)).1]).length) c14) (((Bg bs i (Ay bs 6 (Aw bs 5 s)).2).1)++[(Ak bs ((Bg bs i (Ay bs 6 (Aw bs 5 s)).2).2)).1]),blk b11 [.int .i64 ((Ak bs ((Bg bs i (Ay bs 6 (Aw bs 5 s)).2).2)).1)] 3,blk r [vb,.int .i64 (((Ak bs ((Bg bs i (Ay bs 6 (Aw bs 5 s)).2).2)).2).at_),.bool (((Ak bs ((Bg bs i (Ay bs 6 (Aw bs 5 s)).2).2)).2).bad)] 115] [Ac AP vb bs]:=H
   replace H:=H.p1
   refine AH ⟨_,H⟩ (BO (Bb (Z (Ae (V U U (Bc (z:=((i+1:Nat):Int)) U U U (by rw [AI (by omega) (by omega)];omega)) (Ad U (Ab ?_)))))))
   replace H:=H.p1.p4.p3.k4.tellK (ys:=(Bg bs (i+1) (Ay bs 6 (Aw bs 5 s)).2).1) (by rfl)|>.h2 (A:=Y (Ai .i64) (.slice A13 ((((Bg bs i (Ay bs 6 (Aw bs 5 s)).2).1)++[(Ak bs ((Bg bs i (Ay bs 6 (Aw bs 5 s)).2).2)).1]).length) c14) ((Bg bs (i+1) (Ay bs 6 (Aw bs 5 s)).2).1)) (B:=blk r [vb,.int .i64 (((Bg bs (i+1) (Ay bs 6 (Aw bs 5 s)).2).2).at_),.bool (((Bg bs (i+1) (Ay bs 6 (Aw bs 5 s)).2).2).bad)] 115)|>.p1
   exact Bo (s:=(i,undef)) (i+1,.slice A13 ((((Bg bs i (Ay bs 6 (Aw bs 5 s)).2).1)++[(Ak bs ((Bg bs i (Ay bs 6 (Aw bs 5 s)).2).2)).1]).length) c14) ⟨rfl,rfl,rfl,rfl,rfl,trivial⟩ ⟨H,by (try dsimp only);omega⟩ (by (try dsimp only);omega)
  replace H:=H.p1
  refine sc (HP r vb bs ((Bg bs i (Ay bs 6 (Aw bs 5 s)).2).2) (by first |assumption|omega) (by first |assumption|omega)) H (lR 0 U l0) U U (Av HF U U) ?_
  rintro _ _ w ⟨rfl,rfl⟩ H
  replace H:=H.h1 (A:=blk r [vb,.int .i64 (((Ak bs ((Bg bs i (Ay bs 6 (Aw bs 5 s)).2).2)).2).at_),.bool (((Ak bs ((Bg bs i (Ay bs 6 (Aw bs 5 s)).2).2)).2).bad)] 115)
  have h6418:=GR (b:=bs) (s:=(Bg bs i (Ay bs 6 (Aw bs 5 s)).2).2) (by omega) (by assumption)
  replace H:=H.p1
  refine AH ⟨_,H⟩ ?_
  refine Gm U U ?_ ?_
  ·refine V U U (Am U DY U (H.cellI 3 U U)) (AH ⟨_,H⟩ (AO U (Cg (parts:=[(0,.tmp 23)]) (vs:=[.int .i64 ((Ak bs ((Bg bs i (Ay bs 6 (Aw bs 5 s)).2).2)).1)]) (cs:=[.int .i64 ((Ak bs ((Bg bs i (Ay bs 6 (Aw bs 5 s)).2).2)).1)]) U U U DE Fa U (by decide) (by decide) U U H (fun b19 w H=>?_))))
   replace H:=H.h1 (A:=blk b19 [.int .i64 ((Ak bs ((Bg bs i (Ay bs 6 (Aw bs 5 s)).2).2)).1)] 3)|>.p1
   refine AH ⟨_,H⟩ (AO U ?_)
   replace H:=H.p3
   refine CE (xs:=(Bg bs i (Ay bs 6 (Aw bs 5 s)).2).1) (ys:=[(Ak bs ((Bg bs i (Ay bs 6 (Aw bs 5 s)).2).2)).1]) U U U DE Fa U (by decide) U U H (by first |omega|(simp only [List.length_append,List.length_cons,List.length_nil];omega)) (fun F hA hR=>CC (hA _ (List.mem_of_getElem? (i:=1) U)) U (by decide) (Be.flat_eq.2 U)) (fun v20 w H=>?_)
   replace H:=H.h1 (A:=Y (Ai .i64) v20 (((Bg bs i (Ay bs 6 (Aw bs 5 s)).2).1)++[(Ak bs ((Bg bs i (Ay bs 6 (Aw bs 5 s)).2).2)).1]))|>.p1
   refine AH ⟨_,H⟩ (Ao U U U (fun w ⟨Ar,H⟩=>Aj U Gr U) (AO U ?_))
   obtain ⟨A21,c22,rfl,hc23,hm24,hp25⟩:=H.fA 1 rfl
   replace H:=H.p4
   refine Bx U U U DY U U H U (Nat.le_of_ble_eq_true U) (fun u hu=>by simp [Value.cells] at hu;subst hu;rfl) (fun w H=>?_)
   replace H:Hd _ _ _ [blk b7 [.int .i64 ((Ak bs s).1),.int .i64 ((Ak bs ((Ak bs s).2)).1),.int .i64 ((Ak bs ((Ak bs ((Ak bs s).2)).2)).1),.int .i64 ((Ak bs ((Ak bs ((Ak bs ((Ak bs s).2)).2)).2)).1),.int .i64 ((Ak bs ((Ak bs ((Ak bs ((Ak bs ((Ak bs s).2)).2)).2)).2)).1),.slice A21 ((((Bg bs i (Ay bs 6 (Aw bs 5 s)).2).1)++[(Ak bs ((Bg bs i (Ay bs 6 (Aw bs 5 s)).2).2)).1]).length) c22,.slice none 0 0] 69,blk b1 [.int .i64 0,.int .i64 0,.int .i64 0,.int .i64 0,.int .i64 0,.slice none 0 0,.slice none 0 0] 69,Y (Ai .i64) (.slice A21 ((((Bg bs i (Ay bs 6 (Aw bs 5 s)).2).1)++[(Ak bs ((Bg bs i (Ay bs 6 (Aw bs 5 s)).2).2)).1]).length) c22) (((Bg bs i (Ay bs 6 (Aw bs 5 s)).2).1)++[(Ak bs ((Bg bs i (Ay bs 6 (Aw bs 5 s)).2).2)).1]),blk b19 [.int .i64 ((Ak bs ((Bg bs i (Ay bs 6 (Aw bs 5 s)).2).2)).1)] 3,blk r [vb,.int .i64 (((Ak bs ((Bg bs i (Ay bs 6 (Aw bs 5 s)).2).2)).2).at_),.bool (((Ak bs ((Bg bs i (Ay bs 6 (Aw bs 5 s)).2).2)).2).bad)] 115] [Ac AP vb bs]:=H
   replace H:=H.p1
   refine AH ⟨_,H⟩ (BO (Bb (Z (Ae (V U U (Bc (z:=((i+1:Nat):Int)) U U U (by rw [AI (by omega) (by omega)];omega)) (Ad U (Ab ?_)))))))
   replace H:=H.p1.p4.p3.k4.tellK (ys:=(Bg bs (i+1) (Ay bs 6 (Aw bs 5 s)).2).1) (by rfl)|>.h2 (A:=Y (Ai .i64) (.slice A21 ((((Bg bs i (Ay bs 6 (Aw bs 5 s)).2).1)++[(Ak bs ((Bg bs i (Ay bs 6 (Aw bs 5 s)).2).2)).1]).length) c22) ((Bg bs (i+1) (Ay bs 6 (Aw bs 5 s)).2).1)) (B:=blk r [vb,.int .i64 (((Bg bs (i+1) (Ay bs 6 (Aw bs 5 s)).2).2).at_),.bool (((Bg bs (i+1) (Ay bs 6 (Aw bs 5 s)).2).2).bad)] 115)|>.p1
   exact Bo (s:=(i,undef)) (i+1,.slice A21 ((((Bg bs i (Ay bs 6 (Aw bs 5 s)).2).1)++[(Ak bs ((Bg bs i (Ay bs 6 (Aw bs 5 s)).2).2)).1]).length) c22) ⟨rfl,rfl,rfl,rfl,rfl,trivial⟩ ⟨H,by (try dsimp only);omega⟩ (by (try dsimp only);omega)
  refine Cg (parts:=[(0,.tmp 23)]) (vs:=[.int .i64 ((Ak bs ((Bg bs i (Ay bs 6 (Aw bs 5 s)).2).2)).1)]) (cs:=[.int .i64 ((Ak bs ((Bg bs i (Ay bs 6 (Aw bs 5 s)).2).2)).1)]) U U U DE Fa U (by decide) (by decide) U U H (fun b26 w H=>?_)
  replace H:=H.h1 (A:=blk b26 [.int .i64 ((Ak bs ((Bg bs i (Ay bs 6 (Aw bs 5 s)).2).2)).1)] 3)|>.p1
  refine AH ⟨_,H⟩ (AO U (V U U (Am U DY U (H.cellI 4 U U)) (AH ⟨_,H⟩ (AO U ?_))))
  replace H:=H.p3
  refine CE (xs:=(Bg bs i (Ay bs 6 (Aw bs 5 s)).2).1) (ys:=[(Ak bs ((Bg bs i (Ay bs 6 (Aw bs 5 s)).2).2)).1]) U U U DE Fa U (by decide) U U H (by first |omega|(simp only [List.length_append,List.length_cons,List.length_nil];omega)) (fun F hA hR=>CC (hA _ (List.mem_of_getElem? (i:=1) U)) U (by decide) (Be.flat_eq.2 U)) (fun v27 w H=>?_)
  replace H:=H.h1 (A:=Y (Ai .i64) v27 (((Bg bs i (Ay bs 6 (Aw bs 5 s)).2).1)++[(Ak bs ((Bg bs i (Ay bs 6 (Aw bs 5 s)).2).2)).1]))|>.p1
  refine AH ⟨_,H⟩ (Ao U U U (fun w ⟨Ar,H⟩=>Aj U Gr U) (AO U ?_))
  obtain ⟨A28,c29,rfl,hc30,hm31,hp32⟩:=H.fA 1 rfl
  replace H:=H.p4
  refine Bx U U U DY U U H U (Nat.le_of_ble_eq_true U) (fun u hu=>by simp [Value.cells] at hu;subst hu;rfl) (fun w H=>?_)
  replace H:Hd _ _ _ [blk b7 [.int .i64 ((Ak bs s).1),.int .i64 ((Ak bs ((Ak bs s).2)).1),.int .i64 ((Ak bs ((Ak bs ((Ak bs s).2)).2)).1),.int .i64 ((Ak bs ((Ak bs ((Ak bs ((Ak bs s).2)).2)).2)).1),.int .i64 ((Ak bs ((Ak bs ((Ak bs ((Ak bs ((Ak bs s).2)).2)).2)).2)).1),.slice A28 ((((Bg bs i (Ay bs 6 (Aw bs 5 s)).2).1)++[(Ak bs ((Bg bs i (Ay bs 6 (Aw bs 5 s)).2).2)).1]).length) c29,.slice none 0 0] 69,blk b1 [.int .i64 0,.int .i64 0,.int .i64 0,.int .i64 0,.int .i64 0,.slice none 0 0,.slice none 0 0] 69,Y (Ai .i64) (.slice A28 ((((Bg bs i (Ay bs 6 (Aw bs 5 s)).2).1)++[(Ak bs ((Bg bs i (Ay bs 6 (Aw bs 5 s)).2).2)).1]).length) c29) (((Bg bs i (Ay bs 6 (Aw bs 5 s)).2).1)++[(Ak bs ((Bg bs i (Ay bs 6 (Aw bs 5 s)).2).2)).1]),blk b26 [.int .i64 ((Ak bs ((Bg bs i (Ay bs 6 (Aw bs 5 s)).2).2)).1)] 3,blk r [vb,.int .i64 (((Ak bs ((Bg bs i (Ay bs 6 (Aw bs 5 s)).2).2)).2).at_),.bool (((Ak bs ((Bg bs i (Ay bs 6 (Aw bs 5 s)).2).2)).2).bad)] 115] [Ac AP vb bs]:=H
  replace H:=H.p1
  refine AH ⟨_,H⟩ (BO (Bb (Z (Ae (V U U (Bc (z:=((i+1:Nat):Int)) U U U (by rw [AI (by omega) (by omega)];omega)) (Ad U (Ab ?_)))))))
  replace H:=H.p1.p4.p3.k4.tellK (ys:=(Bg bs (i+1) (Ay bs 6 (Aw bs 5 s)).2).1) (by rfl)|>.h2 (A:=Y (Ai .i64) (.slice A28 ((((Bg bs i (Ay bs 6 (Aw bs 5 s)).2).1)++[(Ak bs ((Bg bs i (Ay bs 6 (Aw bs 5 s)).2).2)).1]).length) c29) ((Bg bs (i+1) (Ay bs 6 (Aw bs 5 s)).2).1)) (B:=blk r [vb,.int .i64 (((Bg bs (i+1) (Ay bs 6 (Aw bs 5 s)).2).2).at_),.bool (((Bg bs (i+1) (Ay bs 6 (Aw bs 5 s)).2).2).bad)] 115)|>.p1
  exact Bo (s:=(i,undef)) (i+1,.slice A28 ((((Bg bs i (Ay bs 6 (Aw bs 5 s)).2).1)++[(Ak bs ((Bg bs i (Ay bs 6 (Aw bs 5 s)).2).2)).1]).length) c29) ⟨rfl,rfl,rfl,rfl,rfl,trivial⟩ ⟨H,by (try dsimp only);omega⟩ (by (try dsimp only);omega)
 refine BQ (AV (AV (BS (Z (Aa (Aa ?_))))))
 have hie:i=(Ay bs 6 (Aw bs 5 s)).1.toNat:=by omega
 replace H:=H.p1.h3 (A:=Y (Ai .i64) q ((Bg bs i (Ay bs 6 (Aw bs 5 s)).2).1)) (B:=blk r [vb,.int .i64 (((Bg bs i (Ay bs 6 (Aw bs 5 s)).2).2).at_),.bool (((Bg bs i (Ay bs 6 (Aw bs 5 s)).2).2).bad)] 115) (C:=blk b7 [.int .i64 ((Ak bs s).1),.int .i64 ((Ak bs ((Ak bs s).2)).1),.int .i64 ((Ak bs ((Ak bs ((Ak bs s).2)).2)).1),.int .i64 ((Ak bs ((Ak bs ((Ak bs ((Ak bs s).2)).2)).2)).1),.int .i64 ((Ak bs ((Ak bs ((Ak bs ((Ak bs ((Ak bs s).2)).2)).2)).2)).1),q,.slice none 0 0] 69)
 rw [hie] at H
 replace H:Hd _ _ _ [Y (Ai .i64) q ((AL bs (Aw bs 5 s)).1),blk r [vb,.int .i64 (((AL bs (Aw bs 5 s)).2).at_),.bool (((AL bs (Aw bs 5 s)).2).bad)] 115,blk b7 [.int .i64 ((Ak bs s).1),.int .i64 ((Ak bs ((Ak bs s).2)).1),.int .i64 ((Ak bs ((Ak bs ((Ak bs s).2)).2)).1),.int .i64 ((Ak bs ((Ak bs ((Ak bs ((Ak bs s).2)).2)).2)).1),.int .i64 ((Ak bs ((Ak bs ((Ak bs ((Ak bs ((Ak bs s).2)).2)).2)).2)).1),q,.slice none 0 0] 69,blk b1 [.int .i64 0,.int .i64 0,.int .i64 0,.int .i64 0,.int .i64 0,.slice none 0 0,.slice none 0 0] 69] [Ac AP vb bs]:=H
 have h66:AG ((AL bs (Aw bs 5 s)).2).at_:=K7 (by omega) _ h6c
 refine Ae (Ad U ?_)
 replace H:=H.p1
 refine sc (Sk r vb bs ((AL bs (Aw bs 5 s)).2) 40 (by first |assumption|omega) (by first |assumption|omega)) H (lR 0 U l0) U U (Av QQ U U) ?_
 rintro _ _ w ⟨rfl,rfl⟩ H
 replace H:=H.h1 (A:=blk r [vb,.int .i64 (((Ay bs 40 ((AL bs (Aw bs 5 s)).2)).2).at_),.bool (((Ay bs 40 ((AL bs (Aw bs 5 s)).2)).2).bad)] 115)
 have h6433:=Kp (b:=bs) (s:=(AL bs (Aw bs 5 s)).2) (m:=40) (by omega) (by assumption)
 refine Ad U (Ab (Z (AW ?_)))
 have hck:=OQ (b:=bs) (s:=(AL bs (Aw bs 5 s)).2) (m:=40) (by omega)
 have h7c:AG (Ay bs 40 ((AL bs (Aw bs 5 s)).2)).2.at_:=Kp (by omega) h66
 replace H:=H.p2.p1.newnil Ag|>.tellK (ys:=(AS bs 0 (Ay bs 40 ((AL bs (Aw bs 5 s)).2)).2).1) (by rfl)|>.sel 5 [1,0,2,3,4] [] rfl (by kernel_rfl)
 replace H:Hd _ _ _ [blk r [vb,.int .i64 (((AS bs 0 (Ay bs 40 ((AL bs (Aw bs 5 s)).2)).2).2).at_),.bool (((AS bs 0 (Ay bs 40 ((AL bs (Aw bs 5 s)).2)).2).2).bad)] 115,Y Ag (.slice none 0 0) ((AS bs 0 (Ay bs 40 ((AL bs (Aw bs 5 s)).2)).2).1),blk b7 [.int .i64 ((Ak bs s).1),.int .i64 ((Ak bs ((Ak bs s).2)).1),.int .i64 ((Ak bs ((Ak bs ((Ak bs s).2)).2)).1),.int .i64 ((Ak bs ((Ak bs ((Ak bs ((Ak bs s).2)).2)).2)).1),.int .i64 ((Ak bs ((Ak bs ((Ak bs ((Ak bs ((Ak bs s).2)).2)).2)).2)).1),q,.slice none 0 0] 69,Y (Ai .i64) q ((AL bs (Aw bs 5 s)).1),blk b1 [.int .i64 0,.int .i64 0,.int .i64 0,.int .i64 0,.int .i64 0,.slice none 0 0,.slice none 0 0] 69] [Ac AP vb bs]:=H
 refine B1 (σ:=Nat×Value) (fun (j,q2)=>[(0,.pointer (some ⟨r,0,none⟩)),(2,.pointer (some ⟨b1,0,none⟩)),(3,.pointer (some ⟨b7,0,none⟩)),(29,.int .i64 ((Ay bs 40 ((AL bs (Aw bs 5 s)).2)).1)),(30,.int .i64 ((j:Nat):Int))]) (fun (j,q2) w=>(Hd w0 F0 w [blk r [vb,.int .i64 (((AS bs j (Ay bs 40 ((AL bs (Aw bs 5 s)).2)).2).2).at_),.bool (((AS bs j (Ay bs 40 ((AL bs (Aw bs 5 s)).2)).2).2).bad)] 115,Y Ag q2 ((AS bs j (Ay bs 40 ((AL bs (Aw bs 5 s)).2)).2).1),blk b7 [.int .i64 ((Ak bs s).1),.int .i64 ((Ak bs ((Ak bs s).2)).1),.int .i64 ((Ak bs ((Ak bs ((Ak bs s).2)).2)).1),.int .i64 ((Ak bs ((Ak bs ((Ak bs ((Ak bs s).2)).2)).2)).1),.int .i64 ((Ak bs ((Ak bs ((Ak bs ((Ak bs ((Ak bs s).2)).2)).2)).2)).1),q,q2] 69,Y (Ai .i64) q ((AL bs (Aw bs 5 s)).1),blk b1 [.int .i64 0,.int .i64 0,.int .i64 0,.int .i64 0,.int .i64 0,.slice none 0 0,.slice none 0 0] 69] [Ac AP vb bs])∧(((j:Nat):Int)≤(Ay bs 40 ((AL bs (Aw bs 5 s)).2)).1)) (fun (j,q2)=>(Ay bs 40 ((AL bs (Aw bs 5 s)).2)).1.toNat - j) (0,.slice none 0 0) ⟨rfl,rfl,rfl,rfl,rfl,trivial⟩ ⟨H,by (try dsimp only);omega⟩ ?_
 rintro ⟨j,q2⟩ w ⟨H,hj⟩
 have h7i:AG (AS bs j (Ay bs 40 ((AL bs (Aw bs 5 s)).2)).2).2.at_:=RY (by omega) j h7c
 have hpl:=RZ bs (Ay bs 40 ((AL bs (Aw bs 5 s)).2)).2 j
 refine Aa (Ae (V U U (Br U U U) (Ab (Z (Aa ?_)))))
 refine AC U (fun h34=>?_) (fun h34=>?_)
 ·refine Az (Z (Aa (AW (Aa (Ae (Ad U (sc (Nw r vb bs ((AS bs j (Ay bs 40 ((AL bs (Aw bs 5 s)).2)).2).2) (by first |assumption|omega) (by first |assumption|omega)) H (lR 0 U l0) U U (Av MB U U) ?_)))))))
  rintro _ _ w ⟨rfl,rfl⟩ H
  replace H:=H.h3 (A:=blk r [vb,.int .i64 (((AN bs ((AS bs j (Ay bs 40 ((AL bs (Aw bs 5 s)).2)).2).2)).2).at_),.bool (((AN bs ((AS bs j (Ay bs 40 ((AL bs (Aw bs 5 s)).2)).2).2)).2).bad)] 115) (B:=Y Ag q2 ((AS bs j (Ay bs 40 ((AL bs (Aw bs 5 s)).2)).2).1)) (C:=blk b7 [.int .i64 ((Ak bs s).1),.int .i64 ((Ak bs ((Ak bs s).2)).1),.int .i64 ((Ak bs ((Ak bs ((Ak bs s).2)).2)).1),.int .i64 ((Ak bs ((Ak bs ((Ak bs ((Ak bs s).2)).2)).2)).1),.int .i64 ((Ak bs ((Ak bs ((Ak bs ((Ak bs ((Ak bs s).2)).2)).2)).2)).1),q,q2] 69)
  have h6435:=Ka (b:=bs) (s:=(AS bs j (Ay bs 40 ((AL bs (Aw bs 5 s)).2)).2).2) (by omega) (by assumption)
  refine Ad U (Ab (Z ?_))
  replace H:=H.p4.p4
  refine Ce (.e 0 (.e 2 (.e 3 (.b 1 4 (.m 4 (.e 5 (.m 6 (.m 7 (.e 8 (.m 9 .z)))))) (.e 5 (.b 1 6 (.m 6 (.m 7 (.e 8 (.m 9 .z)))) (.m 1 (.m 7 (.e 8 (.m 9 .z)))))))))) (fun w=>∃ Ar,Hd w0 F0 w (Y (Ai .i64) q ((AL bs (Aw bs 5 s)).1)::blk b1 [.int .i64 0,.int .i64 0,.int .i64 0,.int .i64 0,.int .i64 0,.slice none 0 0,.slice none 0 0] 69::Ar) [Ac AP vb bs]) mo (by kernel_rfl) (fun w H=>⟨_,H⟩) H (fun w H=>(Ao U U U (fun w ⟨Ar,H⟩=>Aj U F9 U) (Au U (Au U ?_))))
  refine Gm U U ?_ ?_
  ·refine V U U (Am U DJ U (H.cellI 4 U U)) (AH ⟨_,H⟩ (AO U ?_))
   replace H:=H.p2
   refine sc (Nw r vb bs ((AN bs ((AS bs j (Ay bs 40 ((AL bs (Aw bs 5 s)).2)).2).2)).2) (by first |assumption|omega) (by first |assumption|omega)) H (lR 0 U l0) U U (Av MB U U) ?_
   rintro _ _ w ⟨rfl,rfl⟩ H
   replace H:=H.h1 (A:=blk r [vb,.int .i64 (((AN bs ((AN bs ((AS bs j (Ay bs 40 ((AL bs (Aw bs 5 s)).2)).2).2)).2)).2).at_),.bool (((AN bs ((AN bs ((AS bs j (Ay bs 40 ((AL bs (Aw bs 5 s)).2)).2).2)).2)).2).bad)] 115)
   have h6436:=Ka (b:=bs) (s:=(AN bs ((AS bs j (Ay bs 40 ((AL bs (Aw bs 5 s)).2)).2).2)).2) (by omega) (by assumption)
   replace H:=H.p2.p2
   refine AH ⟨_,H⟩ (Ao U U U (fun w ⟨Ar,H⟩=>Dl (parts:=[(0,.tmp 36),(1,.tmp 38)]) (vs:=[.string ((AN bs ((AS bs j (Ay bs 40 ((AL bs (Aw bs 5 s)).2)).2).2)).1),.string ((AN bs ((AN bs ((AS bs j (Ay bs 40 ((AL bs (Aw bs 5 s)).2)).2).2)).2)).1)]) (cs:=[.string ((AN bs ((AS bs j (Ay bs 40 ((AL bs (Aw bs 5 s)).2)).2).2)).1),.string ((AN bs ((AN bs ((AS bs j (Ay bs 40 ((AL bs (Aw bs 5 s)).2)).2).2)).2)).1)]) U LV U U) (AO U (Cg (parts:=[(0,.tmp 39)]) (vs:=[.agg #[.string ((AN bs ((AS bs j (Ay bs 40 ((AL bs (Aw bs 5 s)).2)).2).2)).1),.string ((AN bs ((AN bs ((AS bs j (Ay bs 40 ((AL bs (Aw bs 5 s)).2)).2).2)).2)).1)]]) (cs:=[.string ((AN bs ((AS bs j (Ay bs 40 ((AL bs (Aw bs 5 s)).2)).2).2)).1),.string ((AN bs ((AN bs ((AS bs j (Ay bs 40 ((AL bs (Aw bs 5 s)).2)).2).2)).2)).1)]) U U U BM Dh U (by decide) (by decide) U U H (fun b37 w H=>?_))))
   replace H:=H.h1 (A:=blk b37 [.string ((AN bs ((AS bs j (Ay bs 40 ((AL bs (Aw bs 5 s)).2)).2).2)).1),.string ((AN bs ((AN bs ((AS bs j (Ay bs 40 ((AL bs (Aw bs 5 s)).2)).2).2)).2)).1)] 122)|>.p2|>.p2
   refine AH ⟨_,H⟩ (AO U ?_)
   replace H:=H.p4
   refine CE (xs:=(AS bs j (Ay bs 40 ((AL bs (Aw bs 5 s)).2)).2).1) (ys:=[(⟨(AN bs ((AS bs j (Ay bs 40 ((AL bs (Aw bs 5 s)).2)).2).2)).1,(AN bs ((AN bs ((AS bs j (Ay bs 40 ((AL bs (Aw bs 5 s)).2)).2).2)).2)).1⟩:Aq)]) U U U BM Dh U (by decide) U U H (by first |omega|(simp only [List.length_append,List.length_cons,List.length_nil];omega)) (fun F hA hR=>CC (hA _ (List.mem_of_getElem? (i:=2) U)) U (by decide) (Be.flat_eq.2 U)) (fun v38 w H=>?_)
   replace H:=H.h1 (A:=Y Ag v38 (((AS bs j (Ay bs 40 ((AL bs (Aw bs 5 s)).2)).2).1)++[(⟨(AN bs ((AS bs j (Ay bs 40 ((AL bs (Aw bs 5 s)).2)).2).2)).1,(AN bs ((AN bs ((AS bs j (Ay bs 40 ((AL bs (Aw bs 5 s)).2)).2).2)).2)).1⟩:Aq)]))|>.p2|>.p2
   refine AH ⟨_,H⟩ (Ao U U U (fun w ⟨Ar,H⟩=>Aj U F9 U) (AO U ?_))
   obtain ⟨A39,c40,rfl,hc41,hm42,hp43⟩:=H.fA 2 rfl
   replace H:=H.p5
   refine Bx U U U DJ U U H U (Nat.le_of_ble_eq_true U) (fun u hu=>by simp [Value.cells] at hu;subst hu;rfl) (fun w H=>?_)
   replace H:Hd _ _ _ [blk b7 [.int .i64 ((Ak bs s).1),.int .i64 ((Ak bs ((Ak bs s).2)).1),.int .i64 ((Ak bs ((Ak bs ((Ak bs s).2)).2)).1),.int .i64 ((Ak bs ((Ak bs ((Ak bs ((Ak bs s).2)).2)).2)).1),.int .i64 ((Ak bs ((Ak bs ((Ak bs ((Ak bs ((Ak bs s).2)).2)).2)).2)).1),q,.slice A39 ((((AS bs j (Ay bs 40 ((AL bs (Aw bs 5 s)).2)).2).1)++[(⟨(AN bs ((AS bs j (Ay bs 40 ((AL bs (Aw bs 5 s)).2)).2).2)).1,(AN bs ((AN bs ((AS bs j (Ay bs 40 ((AL bs (Aw bs 5 s)).2)).2).2)).2)).1⟩:Aq)]).length) c40] 69,Y (Ai .i64) q ((AL bs (Aw bs 5 s)).1),blk b1 [.int .i64 0,.int .i64 0,.int .i64 0,.int .i64 0,.int .i64 0,.slice none 0 0,.slice none 0 0] 69,Y Ag (.slice A39 ((((AS bs j (Ay bs 40 ((AL bs (Aw bs 5 s)).2)).2).1)++[(⟨(AN bs ((AS bs j (Ay bs 40 ((AL bs (Aw bs 5 s)).2)).2).2)).1,(AN bs ((AN bs ((AS bs j (Ay bs 40 ((AL bs (Aw bs 5 s)).2)).2).2)).2)).1⟩:Aq)]).length) c40) (((AS bs j (Ay bs 40 ((AL bs (Aw bs 5 s)).2)).2).1)++[(⟨(AN bs ((AS bs j (Ay bs 40 ((AL bs (Aw bs 5 s)).2)).2).2)).1,(AN bs ((AN bs ((AS bs j (Ay bs 40 ((AL bs (Aw bs 5 s)).2)).2).2)).2)).1⟩:Aq)]),blk b37 [.string ((AN bs ((AS bs j (Ay bs 40 ((AL bs (Aw bs 5 s)).2)).2).2)).1),.string ((AN bs ((AN bs ((AS bs j (Ay bs 40 ((AL bs (Aw bs 5 s)).2)).2).2)).2)).1)] 122,blk r [vb,.int .i64 (((AN bs ((AN bs ((AS bs j (Ay bs 40 ((AL bs (Aw bs 5 s)).2)).2).2)).2)).2).at_),.bool (((AN bs ((AN bs ((AS bs j (Ay bs 40 ((AL bs (Aw bs 5 s)).2)).2).2)).2)).2).bad)] 115] [Ac AP vb bs]:=H
   replace H:=H.p2.p2
   refine AH ⟨_,H⟩ (BO (Bb (Z (Ae (V U U (Bc (z:=((j+1:Nat):Int)) U U U (by rw [AI (by omega) (by omega)];omega)) (Ad U (Ab ?_)))))))
   replace H:=H.p2.p5.p4.k5.tellK (ys:=(AS bs (j+1) (Ay bs 40 ((AL bs (Aw bs 5 s)).2)).2).1) (by rfl)|>.h2 (A:=Y Ag (.slice A39 ((((AS bs j (Ay bs 40 ((AL bs (Aw bs 5 s)).2)).2).1)++[(⟨(AN bs ((AS bs j (Ay bs 40 ((AL bs (Aw bs 5 s)).2)).2).2)).1,(AN bs ((AN bs ((AS bs j (Ay bs 40 ((AL bs (Aw bs 5 s)).2)).2).2)).2)).1⟩:Aq)]).length) c40) ((AS bs (j+1) (Ay bs 40 ((AL bs (Aw bs 5 s)).2)).2).1)) (B:=blk r [vb,.int .i64 (((AS bs (j+1) (Ay bs 40 ((AL bs (Aw bs 5 s)).2)).2).2).at_),.bool (((AS bs (j+1) (Ay bs 40 ((AL bs (Aw bs 5 s)).2)).2).2).bad)] 115)|>.p1
   exact Bo (s:=(j,undef)) (j+1,.slice A39 ((((AS bs j (Ay bs 40 ((AL bs (Aw bs 5 s)).2)).2).1)++[(⟨(AN bs ((AS bs j (Ay bs 40 ((AL bs (Aw bs 5 s)).2)).2).2)).1,(AN bs ((AN bs ((AS bs j (Ay bs 40 ((AL bs (Aw bs 5 s)).2)).2).2)).2)).1⟩:Aq)]).length) c40) ⟨rfl,rfl,rfl,rfl,rfl,trivial⟩ ⟨H,by (try dsimp only);omega⟩ (by (try dsimp only);omega)
  replace H:=H.p2
  refine sc (Nw r vb bs ((AN bs ((AS bs j (Ay bs 40 ((AL bs (Aw bs 5 s)).2)).2).2)).2) (by first |assumption|omega) (by first |assumption|omega)) H (lR 0 U l0) U U (Av MB U U) ?_
  rintro _ _ w ⟨rfl,rfl⟩ H
  replace H:=H.h1 (A:=blk r [vb,.int .i64 (((AN bs ((AN bs ((AS bs j (Ay bs 40 ((AL bs (Aw bs 5 s)).2)).2).2)).2)).2).at_),.bool (((AN bs ((AN bs ((AS bs j (Ay bs 40 ((AL bs (Aw bs 5 s)).2)).2).2)).2)).2).bad)] 115)
  have h6444:=Ka (b:=bs) (s:=(AN bs ((AS bs j (Ay bs 40 ((AL bs (Aw bs 5 s)).2)).2).2)).2) (by omega) (by assumption)
  replace H:=H.p2.p2
  refine AH ⟨_,H⟩ (Ao U U U (fun w ⟨Ar,H⟩=>Dl (parts:=[(0,.tmp 36),(1,.tmp 38)]) (vs:=[.string ((AN bs ((AS bs j (Ay bs 40 ((AL bs (Aw bs 5 s)).2)).2).2)).1),.string ((AN bs ((AN bs ((AS bs j (Ay bs 40 ((AL bs (Aw bs 5 s)).2)).2).2)).2)).1)]) (cs:=[.string ((AN bs ((AS bs j (Ay bs 40 ((AL bs (Aw bs 5 s)).2)).2).2)).1),.string ((AN bs ((AN bs ((AS bs j (Ay bs 40 ((AL bs (Aw bs 5 s)).2)).2).2)).2)).1)]) U LV U U) ?_)
  refine Gm U U ?_ ?_
  ·refine V U U (Am U DJ U (H.cellI 4 U U)) (AH ⟨_,H⟩ (AO U (Cg (parts:=[(0,.tmp 39)]) (vs:=[.agg #[.string ((AN bs ((AS bs j (Ay bs 40 ((AL bs (Aw bs 5 s)).2)).2).2)).1),.string ((AN bs ((AN bs ((AS bs j (Ay bs 40 ((AL bs (Aw bs 5 s)).2)).2).2)).2)).1)]]) (cs:=[.string ((AN bs ((AS bs j (Ay bs 40 ((AL bs (Aw bs 5 s)).2)).2).2)).1),.string ((AN bs ((AN bs ((AS bs j (Ay bs 40 ((AL bs (Aw bs 5 s)).2)).2).2)).2)).1)]) U U U BM Dh U (by decide) (by decide) U U H (fun b45 w H=>?_))))
   replace H:=H.h1 (A:=blk b45 [.string ((AN bs ((AS bs j (Ay bs 40 ((AL bs (Aw bs 5 s)).2)).2).2)).1),.string ((AN bs ((AN bs ((AS bs j (Ay bs 40 ((AL bs (Aw bs 5 s)).2)).2).2)).2)).1)] 122)|>.p2|>.p2
   refine AH ⟨_,H⟩ (AO U ?_)
   replace H:=H.p4
   refine CE (xs:=(AS bs j (Ay bs 40 ((AL bs (Aw bs 5 s)).2)).2).1) (ys:=[(⟨(AN bs ((AS bs j (Ay bs 40 ((AL bs (Aw bs 5 s)).2)).2).2)).1,(AN bs ((AN bs ((AS bs j (Ay bs 40 ((AL bs (Aw bs 5 s)).2)).2).2)).2)).1⟩:Aq)]) U U U BM Dh U (by decide) U U H (by first |omega|(simp only [List.length_append,List.length_cons,List.length_nil];omega)) (fun F hA hR=>CC (hA _ (List.mem_of_getElem? (i:=2) U)) U (by decide) (Be.flat_eq.2 U)) (fun v46 w H=>?_)
   replace H:=H.h1 (A:=Y Ag v46 (((AS bs j (Ay bs 40 ((AL bs (Aw bs 5 s)).2)).2).1)++[(⟨(AN bs ((AS bs j (Ay bs 40 ((AL bs (Aw bs 5 s)).2)).2).2)).1,(AN bs ((AN bs ((AS bs j (Ay bs 40 ((AL bs (Aw bs 5 s)).2)).2).2)).2)).1⟩:Aq)]))|>.p2|>.p2
   refine AH ⟨_,H⟩ (Ao U U U (fun w ⟨Ar,H⟩=>Aj U F9 U) (AO U ?_))
   obtain ⟨A47,c48,rfl,hc49,hm50,hp51⟩:=H.fA 2 rfl
   replace H:=H.p5
   refine Bx U U U DJ U U H U (Nat.le_of_ble_eq_true U) (fun u hu=>by simp [Value.cells] at hu;subst hu;rfl) (fun w H=>?_)
   replace H:Hd _ _ _ [blk b7 [.int .i64 ((Ak bs s).1),.int .i64 ((Ak bs ((Ak bs s).2)).1),.int .i64 ((Ak bs ((Ak bs ((Ak bs s).2)).2)).1),.int .i64 ((Ak bs ((Ak bs ((Ak bs ((Ak bs s).2)).2)).2)).1),.int .i64 ((Ak bs ((Ak bs ((Ak bs ((Ak bs ((Ak bs s).2)).2)).2)).2)).1),q,.slice A47 ((((AS bs j (Ay bs 40 ((AL bs (Aw bs 5 s)).2)).2).1)++[(⟨(AN bs ((AS bs j (Ay bs 40 ((AL bs (Aw bs 5 s)).2)).2).2)).1,(AN bs ((AN bs ((AS bs j (Ay bs 40 ((AL bs (Aw bs 5 s)).2)).2).2)).2)).1⟩:Aq)]).length) c48] 69,Y (Ai .i64) q ((AL bs (Aw bs 5 s)).1),blk b1 [.int .i64 0,.int .i64 0,.int .i64 0,.int .i64 0,.int .i64 0,.slice none 0 0,.slice none 0 0] 69,Y Ag (.slice A47 ((((AS bs j (Ay bs 40 ((AL bs (Aw bs 5 s)).2)).2).1)++[(⟨(AN bs ((AS bs j (Ay bs 40 ((AL bs (Aw bs 5 s)).2)).2).2)).1,(AN bs ((AN bs ((AS bs j (Ay bs 40 ((AL bs (Aw bs 5 s)).2)).2).2)).2)).1⟩:Aq)]).length) c48) (((AS bs j (Ay bs 40 ((AL bs (Aw bs 5 s)).2)).2).1)++[(⟨(AN bs ((AS bs j (Ay bs 40 ((AL bs (Aw bs 5 s)).2)).2).2)).1,(AN bs ((AN bs ((AS bs j (Ay bs 40 ((AL bs (Aw bs 5 s)).2)).2).2)).2)).1⟩:Aq)]),blk b45 [.string ((AN bs ((AS bs j (Ay bs 40 ((AL bs (Aw bs 5 s)).2)).2).2)).1),.string ((AN bs ((AN bs ((AS bs j (Ay bs 40 ((AL bs (Aw bs 5 s)).2)).2).2)).2)).1)] 122,blk r [vb,.int .i64 (((AN bs ((AN bs ((AS bs j (Ay bs 40 ((AL bs (Aw bs 5 s)).2)).2).2)).2)).2).at_),.bool (((AN bs ((AN bs ((AS bs j (Ay bs 40 ((AL bs (Aw bs 5 s)).2)).2).2)).2)).2).bad)] 115] [Ac AP vb bs]:=H
   replace H:=H.p2.p2
   refine AH ⟨_,H⟩ (BO (Bb (Z (Ae (V U U (Bc (z:=((j+1:Nat):Int)) U U U (by rw [AI (by omega) (by omega)];omega)) (Ad U (Ab ?_)))))))
   replace H:=H.p2.p5.p4.k5.tellK (ys:=(AS bs (j+1) (Ay bs 40 ((AL bs (Aw bs 5 s)).2)).2).1) (by rfl)|>.h2 (A:=Y Ag (.slice A47 ((((AS bs j (Ay bs 40 ((AL bs (Aw bs 5 s)).2)).2).1)++[(⟨(AN bs ((AS bs j (Ay bs 40 ((AL bs (Aw bs 5 s)).2)).2).2)).1,(AN bs ((AN bs ((AS bs j (Ay bs 40 ((AL bs (Aw bs 5 s)).2)).2).2)).2)).1⟩:Aq)]).length) c48) ((AS bs (j+1) (Ay bs 40 ((AL bs (Aw bs 5 s)).2)).2).1)) (B:=blk r [vb,.int .i64 (((AS bs (j+1) (Ay bs 40 ((AL bs (Aw bs 5 s)).2)).2).2).at_),.bool (((AS bs (j+1) (Ay bs 40 ((AL bs (Aw bs 5 s)).2)).2).2).bad)] 115)|>.p1
   exact Bo (s:=(j,undef)) (j+1,.slice A47 ((((AS bs j (Ay bs 40 ((AL bs (Aw bs 5 s)).2)).2).1)++[(⟨(AN bs ((AS bs j (Ay bs 40 ((AL bs (Aw bs 5 s)).2)).2).2)).1,(AN bs ((AN bs ((AS bs j (Ay bs 40 ((AL bs (Aw bs 5 s)).2)).2).2)).2)).1⟩:Aq)]).length) c48) ⟨rfl,rfl,rfl,rfl,rfl,trivial⟩ ⟨H,by (try dsimp only);omega⟩ (by (try dsimp only);omega)
  refine Cg (parts:=[(0,.tmp 39)]) (vs:=[.agg #[.string ((AN bs ((AS bs j (Ay bs 40 ((AL bs (Aw bs 5 s)).2)).2).2)).1),.string ((AN bs ((AN bs ((AS bs j (Ay bs 40 ((AL bs (Aw bs 5 s)).2)).2).2)).2)).1)]]) (cs:=[.string ((AN bs ((AS bs j (Ay bs 40 ((AL bs (Aw bs 5 s)).2)).2).2)).1),.string ((AN bs ((AN bs ((AS bs j (Ay bs 40 ((AL bs (Aw bs 5 s)).2)).2).2)).2)).1)]) U U U BM Dh U (by decide) (by decide) U U H (fun b52 w H=>?_)
  replace H:=H.h1 (A:=blk b52 [.string ((AN bs ((AS bs j (Ay bs 40 ((AL bs (Aw bs 5 s)).2)).2).2)).1),.string ((AN bs ((AN bs ((AS bs j (Ay bs 40 ((AL bs (Aw bs 5 s)).2)).2).2)).2)).1)] 122)|>.p2|>.p2
  refine AH ⟨_,H⟩ (AO U (V U U (Am U DJ U (H.cellI 5 U U)) (AH ⟨_,H⟩ (AO U ?_))))
  replace H:=H.p4
  refine CE (xs:=(AS bs j (Ay bs 40 ((AL bs (Aw bs 5 s)).2)).2).1) (ys:=[(⟨(AN bs ((AS bs j (Ay bs 40 ((AL bs (Aw bs 5 s)).2)).2).2)).1,(AN bs ((AN bs ((AS bs j (Ay bs 40 ((AL bs (Aw bs 5 s)).2)).2).2)).2)).1⟩:Aq)]) U U U BM Dh U (by decide) U U H (by first |omega|(simp only [List.length_append,List.length_cons,List.length_nil];omega)) (fun F hA hR=>CC (hA _ (List.mem_of_getElem? (i:=2) U)) U (by decide) (Be.flat_eq.2 U)) (fun v53 w H=>?_)
  replace H:=H.h1 (A:=Y Ag v53 (((AS bs j (Ay bs 40 ((AL bs (Aw bs 5 s)).2)).2).1)++[(⟨(AN bs ((AS bs j (Ay bs 40 ((AL bs (Aw bs 5 s)).2)).2).2)).1,(AN bs ((AN bs ((AS bs j (Ay bs 40 ((AL bs (Aw bs 5 s)).2)).2).2)).2)).1⟩:Aq)]))|>.p2|>.p2
  refine AH ⟨_,H⟩ (Ao U U U (fun w ⟨Ar,H⟩=>Aj U F9 U) (AO U ?_))
  obtain ⟨A54,c55,rfl,hc56,hm57,hp58⟩:=H.fA 2 rfl
  replace H:=H.p5
  refine Bx U U U DJ U U H U (Nat.le_of_ble_eq_true U) (fun u hu=>by simp [Value.cells] at hu;subst hu;rfl) (fun w H=>?_)
  replace H:Hd _ _ _ [blk b7 [.int .i64 ((Ak bs s).1),.int .i64 ((Ak bs ((Ak bs s).2)).1),.int .i64 ((Ak bs ((Ak bs ((Ak bs s).2)).2)).1),.int .i64 ((Ak bs ((Ak bs ((Ak bs ((Ak bs s).2)).2)).2)).1),.int .i64 ((Ak bs ((Ak bs ((Ak bs ((Ak bs ((Ak bs s).2)).2)).2)).2)).1),q,.slice A54 ((((AS bs j (Ay bs 40 ((AL bs (Aw bs 5 s)).2)).2).1)++[(⟨(AN bs ((AS bs j (Ay bs 40 ((AL bs (Aw bs 5 s)).2)).2).2)).1,(AN bs ((AN bs ((AS bs j (Ay bs 40 ((AL bs (Aw bs 5 s)).2)).2).2)).2)).1⟩:Aq)]).length) c55] 69,Y (Ai .i64) q ((AL bs (Aw bs 5 s)).1),blk b1 [.int .i64 0,.int .i64 0,.int .i64 0,.int .i64 0,.int .i64 0,.slice none 0 0,.slice none 0 0] 69,Y Ag (.slice A54 ((((AS bs j (Ay bs 40 ((AL bs (Aw bs 5 s)).2)).2).1)++[(⟨(AN bs ((AS bs j (Ay bs 40 ((AL bs (Aw bs 5 s)).2)).2).2)).1,(AN bs ((AN bs ((AS bs j (Ay bs 40 ((AL bs (Aw bs 5 s)).2)).2).2)).2)).1⟩:Aq)]).length) c55) (((AS bs j (Ay bs 40 ((AL bs (Aw bs 5 s)).2)).2).1)++[(⟨(AN bs ((AS bs j (Ay bs 40 ((AL bs (Aw bs 5 s)).2)).2).2)).1,(AN bs ((AN bs ((AS bs j (Ay bs 40 ((AL bs (Aw bs 5 s)).2)).2).2)).2)).1⟩:Aq)]),blk b52 [.string ((AN bs ((AS bs j (Ay bs 40 ((AL bs (Aw bs 5 s)).2)).2).2)).1),.string ((AN bs ((AN bs ((AS bs j (Ay bs 40 ((AL bs (Aw bs 5 s)).2)).2).2)).2)).1)] 122,blk r [vb,.int .i64 (((AN bs ((AN bs ((AS bs j (Ay bs 40 ((AL bs (Aw bs 5 s)).2)).2).2)).2)).2).at_),.bool (((AN bs ((AN bs ((AS bs j (Ay bs 40 ((AL bs (Aw bs 5 s)).2)).2).2)).2)).2).bad)] 115] [Ac AP vb bs]:=H
  replace H:=H.p2.p2
  refine AH ⟨_,H⟩ (BO (Bb (Z (Ae (V U U (Bc (z:=((j+1:Nat):Int)) U U U (by rw [AI (by omega) (by omega)];omega)) (Ad U (Ab ?_)))))))
  replace H:=H.p2.p5.p4.k5.tellK (ys:=(AS bs (j+1) (Ay bs 40 ((AL bs (Aw bs 5 s)).2)).2).1) (by rfl)|>.h2 (A:=Y Ag (.slice A54 ((((AS bs j (Ay bs 40 ((AL bs (Aw bs 5 s)).2)).2).1)++[(⟨(AN bs ((AS bs j (Ay bs 40 ((AL bs (Aw bs 5 s)).2)).2).2)).1,(AN bs ((AN bs ((AS bs j (Ay bs 40 ((AL bs (Aw bs 5 s)).2)).2).2)).2)).1⟩:Aq)]).length) c55) ((AS bs (j+1) (Ay bs 40 ((AL bs (Aw bs 5 s)).2)).2).1)) (B:=blk r [vb,.int .i64 (((AS bs (j+1) (Ay bs 40 ((AL bs (Aw bs 5 s)).2)).2).2).at_),.bool (((AS bs (j+1) (Ay bs 40 ((AL bs (Aw bs 5 s)).2)).2).2).bad)] 115)|>.p1
  exact Bo (s:=(j,undef)) (j+1,.slice A54 ((((AS bs j (Ay bs 40 ((AL bs (Aw bs 5 s)).2)).2).1)++[(⟨(AN bs ((AS bs j (Ay bs 40 ((AL bs (Aw bs 5 s)).2)).2).2)).1,(AN bs ((AN bs ((AS bs j (Ay bs 40 ((AL bs (Aw bs 5 s)).2)).2).2)).2)).1⟩:Aq)]).length) c55) ⟨rfl,rfl,rfl,rfl,rfl,trivial⟩ ⟨H,by (try dsimp only);omega⟩ (by (try dsimp only);omega)
 refine BQ (AV (AV (BS (Z (Aa ?_)))))
 have hje:j=(Ay bs 40 ((AL bs (Aw bs 5 s)).2)).1.toNat:=by omega
 replace H:=H.p3.p2.h4 (A:=Y Ag q2 ((AS bs j (Ay bs 40 ((AL bs (Aw bs 5 s)).2)).2).1)) (C:=blk r [vb,.int .i64 (((AS bs j (Ay bs 40 ((AL bs (Aw bs 5 s)).2)).2).2).at_),.bool (((AS bs j (Ay bs 40 ((AL bs (Aw bs 5 s)).2)).2).2).bad)] 115) (D:=blk b7 [.int .i64 ((Ak bs s).1),.int .i64 ((Ak bs ((Ak bs s).2)).1),.int .i64 ((Ak bs ((Ak bs ((Ak bs s).2)).2)).1),.int .i64 ((Ak bs ((Ak bs ((Ak bs ((Ak bs s).2)).2)).2)).1),.int .i64 ((Ak bs ((Ak bs ((Ak bs ((Ak bs ((Ak bs s).2)).2)).2)).2)).1),q,q2] 69)
 rw [hje] at H
 replace H:Hd _ _ _ [Y Ag q2 ((AF bs s).1.pairs),Y (Ai .i64) q ((AF bs s).1.set),blk r [vb,.int .i64 (((AF bs s).2).at_),.bool (((AF bs s).2).bad)] 115,blk b7 [.int .i64 ((Ak bs s).1),.int .i64 ((Ak bs ((Ak bs s).2)).1),.int .i64 ((Ak bs ((Ak bs ((Ak bs s).2)).2)).1),.int .i64 ((Ak bs ((Ak bs ((Ak bs ((Ak bs s).2)).2)).2)).1),.int .i64 ((Ak bs ((Ak bs ((Ak bs ((Ak bs ((Ak bs s).2)).2)).2)).2)).1),q,q2] 69,blk b1 [.int .i64 0,.int .i64 0,.int .i64 0,.int .i64 0,.int .i64 0,.slice none 0 0,.slice none 0 0] 69] [Ac AP vb bs]:=H
 obtain ⟨A59,c60,rfl,hc61,hm62,hp63⟩:=H.fA 0 rfl
 obtain ⟨A64,c65,rfl,hc66,hm67,hp68⟩:=H.fA 1 rfl
 refine Ae (V U U (BG (cs:=[.int .i64 ((Ak bs s).1),.int .i64 ((Ak bs ((Ak bs s).2)).1),.int .i64 ((Ak bs ((Ak bs ((Ak bs s).2)).2)).1),.int .i64 ((Ak bs ((Ak bs ((Ak bs ((Ak bs s).2)).2)).2)).1),.int .i64 ((Ak bs ((Ak bs ((Ak bs ((Ak bs ((Ak bs s).2)).2)).2)).2)).1),.slice A64 (((AF bs s).1.set).length) c65,.slice A59 (((AF bs s).1.pairs).length) c60]) U E9 U U (H.cellsI 3 U U)) ?_)
 replace H:=H.p4
 refine Bx U U U E9 U U H U (Nat.le_of_ble_eq_true U) (fun u hu=>by simp [Value.cells] at hu;rcases hu with rfl|rfl|rfl|rfl|rfl|rfl|rfl<;>rfl) (fun w H=>?_)
 replace H:=H.h1 (A:=blk b1 [.int .i64 ((Ak bs s).1),.int .i64 ((Ak bs ((Ak bs s).2)).1),.int .i64 ((Ak bs ((Ak bs ((Ak bs s).2)).2)).1),.int .i64 ((Ak bs ((Ak bs ((Ak bs ((Ak bs s).2)).2)).2)).1),.int .i64 ((Ak bs ((Ak bs ((Ak bs ((Ak bs ((Ak bs s).2)).2)).2)).2)).1),.slice A64 (((AF bs s).1.set).length) c65,.slice A59 (((AF bs s).1.pairs).length) c60] 69)
 refine Ab (Z (An (FP (cs:=[.int .i64 ((Ak bs s).1),.int .i64 ((Ak bs ((Ak bs s).2)).1),.int .i64 ((Ak bs ((Ak bs ((Ak bs s).2)).2)).1),.int .i64 ((Ak bs ((Ak bs ((Ak bs ((Ak bs s).2)).2)).2)).1),.int .i64 ((Ak bs ((Ak bs ((Ak bs ((Ak bs ((Ak bs s).2)).2)).2)).2)).1),.slice A64 (((AF bs s).1.set).length) c65,.slice A59 (((AF bs s).1.pairs).length) c60]) U U E9 U (H.cellsI 0 U U) ?_)))
 replace H:=H.p3.p2.p3.k3
 exact Al ⟨(.slice A64 (((AF bs s).1.set).length) c65),(.slice A59 (((AF bs s).1.pairs).length) c60),rfl,rfl⟩ H
theorem aH (vb:Value) (bs:List UInt8) (hb:bs.length≤1000000):
    Cn Tryz.prog 27 [vb] [] [Ac AP vb bs] (fun v Bs=>∃ u:Value,∃ rs:List AY,v=.tuple #[u,.int .i64 ((CI bs).2)]∧Bs=[Y BL u rs]∧(rs.map AY.p=(CI bs).1)):=by
 intro w0 F0 H
 obtain ⟨A1,c2,rfl,hc3,hm4,hp5⟩:=H.fR 0 rfl
 refine enter Tryz.func27 U U (Nat.le_of_ble_eq_true U) (Aa (Ae (Ah 2 U (Ab (Z ?_)))))
 replace H:Hd _ _ _ [] [Ac AP (.slice A1 bs.length c2) bs]:=H
 refine Aa (Ae (Ad U (Ab (Z (Aa (Ae (Ad U (Ab (Z (AW ?_))))))))))
 replace H:=H.newnil El|>.rec0|>.h1 (A:=EU [])|>.p1|>.h1 (A:=Y El (.slice none 0 0) (([]:List AY).map Dc))
 refine B1 (σ:=Nat×Int×Value×List AY) (fun (k,a,q,al)=>[(0,.slice A1 bs.length c2),(4,q),(5,.int .i64 a)]) (fun (k,a,q,al) w=>(Hd w0 F0 w [Y El q (al.map Dc),EU al] [Ac AP (.slice A1 bs.length c2) bs])∧((bs.length:Int)+1≤k+a)∧(ET bs k a (al.map AY.p)=CI bs)∧(0≤a∧a≤(bs.length:Int)∧(al.length:Int)≤a)) (fun (k,a,q,al)=>k) (bs.length+1,0,.slice none 0 0,[]) ⟨rfl,rfl,rfl,trivial⟩ ⟨H,by (try dsimp only);omega,rfl,⟨Int.le_refl _,Int.natCast_nonneg _,Int.le_refl _⟩⟩ ?_
 rintro ⟨k,a,q,al⟩ w ⟨H,hk,hg,hin⟩
 have h64:AG a:=by unfold AG;omega
 obtain ⟨k9,hk9⟩:∃ j,k=j+1:=⟨k - 1,by omega⟩
 rw [hk9] at hg
 have hfl:(al.map Dc).length=al.length:=List.length_map ..
 refine AW (Aa (Ae (Ah 2 U (sc (Ll (.slice A1 bs.length c2) bs a (by first |assumption|omega) (by first |assumption|omega)) H (lR 0 U l0) U U (Av KK U U) ?_))))
 rintro _ _ w ⟨rfl,rfl⟩ H
 replace H:=H.h2 (A:=Y El q (al.map Dc)) (B:=EU al)
 refine Ah 7 U (Ab (Z (Aa (Aa (Ae (Ad U (V U U (ES U U U) (Ab (Z ?_)))))))))
 refine Dp (b:=!((Ax bs a).2.2)) U (fun h6=>?_) (fun h6=>?_)
 ·refine Aa (Ae (Ah 4 U (Ab (Z (An (AA (AZ (AA (AZ (Dy U U U ?_))))))))))
  have hno:¬ Fz bs a=true:=fun g=>by
    obtain ⟨g1,g2,g3,g4⟩:=Id.1 g
    first |exact absurd g4 h6|exact absurd g4 (by simpa using h6)|(rw [g2] at h6;cases h6)|omega|(rw [g1] at h6;cases h6)|grind
  have e:CI bs=(al.map AY.p,a):=hg.symm.trans (Lm hno)
  replace H:Hd _ _ _ [Y El q (al.map Dc),EU al] [Ac AP (.slice A1 bs.length c2) bs]:=H
  replace H:=H.recI|>.h1 (A:=Y BL q al)
  exact Al ⟨_,al,by rw [e]<;>rfl,rfl,by rw [e]<;>rfl⟩ H
 refine Az (Z (Aa ?_))
 have hok:(Ax bs a).2.2=true:=by simpa using h6
 have hri:=Nu hok
 have hbl:=GG (Ax bs a).1
 have h064:AG ((⟨0,false⟩:C1).at_):=by unfold AG;decide
 refine Ae (Ad U (SI U U U CK Fq HV U (by omega) H (fun b7 c8 w hc9 hc10 H=>(V U U (Dl (parts:=[(0,.tmp 23)]) (vs:=[.slice (some ⟨b7,0,none⟩) (((Ax bs a).1).size) c8]) (cs:=[.slice (some ⟨b7,0,none⟩) (((Ax bs a).1).size) c8,.int .i64 0,.bool false]) U TG U U) (CZ U U U U H (fun b11 w H=>(Ad U (Ab (Z ?_)))))))))
 replace H:Hd _ _ _ [blk b11 [.slice (some ⟨b7,0,none⟩) (((Ax bs a).1).size) c8,.int .i64 0,.bool false] 115,Y El q (al.map Dc),EU al] [Ac AP (.slice (some ⟨b7,0,none⟩) (((Ax bs a).1).size) c8) (AB ((Ax bs a).1)),Ac AP (.slice A1 bs.length c2) bs]:=H
 refine Aa (Ae (Ad U ?_))
 replace H:=H.h1 (A:=blk b11 [.slice (some ⟨b7,0,none⟩) (((Ax bs a).1).size) c8,.int .i64 ((⟨0,false⟩:C1).at_),.bool ((⟨0,false⟩:C1).bad)] 115)
 refine sc (aO b11 (.slice (some ⟨b7,0,none⟩) (((Ax bs a).1).size) c8) (AB ((Ax bs a).1)) ⟨0,false⟩ (by first |assumption|omega) (by first |assumption|omega)) H (lR 0 U l0) U U (Av XU U U) ?_
 rintro _ _ w ⟨u12,u13,rfl,rfl⟩ H
 replace H:=H.h3 (A:=Y (Ai .i64) u12 ((AF (AB ((Ax bs a).1)) ⟨0,false⟩).1.set)) (B:=Y Ag u13 ((AF (AB ((Ax bs a).1)) ⟨0,false⟩).1.pairs)) (C:=blk b11 [.slice (some ⟨b7,0,none⟩) (((Ax bs a).1).size) c8,.int .i64 (((AF (AB ((Ax bs a).1)) ⟨0,false⟩).2).at_),.bool (((AF (AB ((Ax bs a).1)) ⟨0,false⟩).2).bad)] 115)
 obtain ⟨A14,c15,rfl,hc16,hm17,hp18⟩:=H.fA 0 rfl
 obtain ⟨A19,c20,rfl,hc21,hm22,hp23⟩:=H.fA 1 rfl
 refine DD U U U Hr H (fun b24 w H=>(Bx U U U E9 U U H U (Nat.le_of_ble_eq_true U) (fun u hu=>by simp [Value.cells] at hu;rcases hu with rfl|rfl|rfl|rfl|rfl|rfl|rfl<;>rfl) (fun w H=>?_)))
 replace H:=H.h1 (A:=blk b24 [.int .i64 ((AF (AB ((Ax bs a).1)) ⟨0,false⟩).1.kind),.int .i64 ((AF (AB ((Ax bs a).1)) ⟨0,false⟩).1.part),.int .i64 ((AF (AB ((Ax bs a).1)) ⟨0,false⟩).1.sp),.int .i64 ((AF (AB ((Ax bs a).1)) ⟨0,false⟩).1.att),.int .i64 ((AF (AB ((Ax bs a).1)) ⟨0,false⟩).1.why),.slice A14 (((AF (AB ((Ax bs a).1)) ⟨0,false⟩).1.set).length) c15,.slice A19 (((AF (AB ((Ax bs a).1)) ⟨0,false⟩).1.pairs).length) c20] 69)
 refine Ab (Z (Aa (Aa (Ce (.e 0 (.e 1 (.e 2 (.e 3 (.e 4 (.e 5 (.e 6 (.e 7 (.e 8 (.e 9 (.e 10 (.e 11 (.e 12 (.e 13 (.e 14 (.e 15 (.e 16 (.e 17 (.m 18 (.e 19 (.e 20 .z))))))))))))))))))))) (fun w=>∃ Ar,Hd w0 F0 w (blk b24 [.int .i64 ((AF (AB ((Ax bs a).1)) ⟨0,false⟩).1.kind),.int .i64 ((AF (AB ((Ax bs a).1)) ⟨0,false⟩).1.part),.int .i64 ((AF (AB ((Ax bs a).1)) ⟨0,false⟩).1.sp),.int .i64 ((AF (AB ((Ax bs a).1)) ⟨0,false⟩).1.att),.int .i64 ((AF (AB ((Ax bs a).1)) ⟨0,false⟩).1.why),.slice A14 (((AF (AB ((Ax bs a).1)) ⟨0,false⟩).1.set).length) c15,.slice A19 (((AF (AB ((Ax bs a).1)) ⟨0,false⟩).1.pairs).length) c20] 69::Y (Ai .i64) (.slice A14 (((AF (AB ((Ax bs a).1)) ⟨0,false⟩).1.set).length) c15) ((AF (AB ((Ax bs a).1)) ⟨0,false⟩).1.set)::Y Ag (.slice A19 (((AF (AB ((Ax bs a).1)) ⟨0,false⟩).1.pairs).length) c20) ((AF (AB ((Ax bs a).1)) ⟨0,false⟩).1.pairs)::blk b11 [.slice (some ⟨b7,0,none⟩) (((Ax bs a).1).size) c8,.int .i64 (((AF (AB ((Ax bs a).1)) ⟨0,false⟩).2).at_),.bool (((AF (AB ((Ax bs a).1)) ⟨0,false⟩).2).bad)] 115::Y El q (al.map Dc)::EU al::Ar) [Ac AP (.slice (some ⟨b7,0,none⟩) (((Ax bs a).1).size) c8) (AB ((Ax bs a).1)),Ac AP (.slice A1 bs.length c2) bs]) mo (by kernel_rfl) (fun w H=>⟨_,H⟩) H (fun w H=>?_)))))
 refine Au U (Ao U U U (fun w ⟨Ar,H⟩=>AJ U U) (Ao U U U (fun w ⟨Ar,H⟩=>Aj U HA U) (Ao U U U (fun w ⟨Ar,H⟩=>Am U DP U (H.cellI 3 U U)) (Au U ?_))))
 refine O2 (d:=32) (b:=((AF (AB ((Ax bs a).1)) ⟨0,false⟩).2).bad) U (fun h25=>?_) (fun h25=>?_)
 ·refine Au U (Au U (Au U (Au U (Au U (Au U (Au U (Au U (Au U (Au U (Au U (Au U (Au U (Jn U ⟨_,H⟩ U U (Au U (Au U (BO (Z (CN U (Aa (Ae (Ah 4 U (Ab (Z (An (AA (AZ (AA (AZ (Dy U U U ?_)))))))))))))))))))))))))))))
  have hno:¬ Fz bs a=true:=fun g=>by
    obtain ⟨g1,g2,g3,g4⟩:=Id.1 g
    first |exact absurd g4 h25|exact absurd g4 (by simpa using h25)|(rw [g2] at h25;cases h25)|omega|(rw [g1] at h25;cases h25)|grind
  have e:CI bs=(al.map AY.p,a):=hg.symm.trans (Lm hno)
  replace H:=H.sel 6 [4,5] [0,1,2,3] rfl (by kernel_rfl)
  replace H:Hd _ _ _ [Y El q (al.map Dc),EU al] [Ac AP (.slice (some ⟨b7,0,none⟩) (((Ax bs a).1).size) c8) (AB ((Ax bs a).1)),Ac AP (.slice A1 bs.length c2) bs]:=H
  replace H:=H.recI|>.h1 (A:=Y BL q al)|>.dropR
  replace H:Hd _ _ _ [Y BL q al] [Ac AP (.slice A1 bs.length c2) bs]:=H
  exact Al ⟨_,al,by rw [e]<;>rfl,rfl,by rw [e]<;>rfl⟩ H
 refine Au U (Ao U U U (fun w ⟨Ar,H⟩=>AJ U U) (Ao U U U (fun w ⟨Ar,H⟩=>Aj U H8 U) (Ao U U U (fun w ⟨Ar,H⟩=>Am U AE U (H.cellI 3 U U)) (Au U (Ao U U U (fun w ⟨Ar,H⟩=>AJ U U) (Ao U U U (fun w ⟨Ar,H⟩=>Aj U Mg U) (Ao U U U (fun w ⟨Ar,H⟩=>Am U GB U (H.cellI 3 U U)) (Ao U U U (fun w ⟨Ar,H⟩=>Bj U Fq U) (Ao U U U (fun w ⟨Ar,H⟩=>Cx U U U) (Au U (Au U ?_)))))))))))
 refine Kr (d:=44) U (fun h26=>?_) (fun h26=>?_)
 ·refine Au U (Jn U ⟨_,H⟩ U U (Au U (Au U (BO (Z (CN U (Aa (Ae (Ah 4 U (Ab (Z (An (AA (AZ (AA (AZ (Dy U U U ?_)))))))))))))))))
  have hno:¬ Fz bs a=true:=fun g=>by
    obtain ⟨g1,g2,g3,g4⟩:=Id.1 g
    first |exact absurd g4 h26|exact absurd g4 (by simpa using h26)|(rw [g2] at h26;cases h26)|omega|(rw [g1] at h26;cases h26)|grind
  have e:CI bs=(al.map AY.p,a):=hg.symm.trans (Lm hno)
  replace H:=H.sel 6 [4,5] [0,1,2,3] rfl (by kernel_rfl)
  replace H:Hd _ _ _ [Y El q (al.map Dc),EU al] [Ac AP (.slice (some ⟨b7,0,none⟩) (((Ax bs a).1).size) c8) (AB ((Ax bs a).1)),Ac AP (.slice A1 bs.length c2) bs]:=H
  replace H:=H.recI|>.h1 (A:=Y BL q al)|>.dropR
  replace H:Hd _ _ _ [Y BL q al] [Ac AP (.slice A1 bs.length c2) bs]:=H
  exact Al ⟨_,al,by rw [e]<;>rfl,rfl,by rw [e]<;>rfl⟩ H
 refine Ao U U U (fun w ⟨Ar,H⟩=>BG (cs:=[.int .i64 ((AF (AB ((Ax bs a).1)) ⟨0,false⟩).1.kind),.int .i64 ((AF (AB ((Ax bs a).1)) ⟨0,false⟩).1.part),.int .i64 ((AF (AB ((Ax bs a).1)) ⟨0,false⟩).1.sp),.int .i64 ((AF (AB ((Ax bs a).1)) ⟨0,false⟩).1.att),.int .i64 ((AF (AB ((Ax bs a).1)) ⟨0,false⟩).1.why),.slice A14 (((AF (AB ((Ax bs a).1)) ⟨0,false⟩).1.set).length) c15,.slice A19 (((AF (AB ((Ax bs a).1)) ⟨0,false⟩).1.pairs).length) c20]) U E9 U U (H.cellsI 0 U U)) (AO U (sc (Si ((AF (AB ((Ax bs a).1)) ⟨0,false⟩).1.kind) ((AF (AB ((Ax bs a).1)) ⟨0,false⟩).1.part) ((AF (AB ((Ax bs a).1)) ⟨0,false⟩).1.sp) ((AF (AB ((Ax bs a).1)) ⟨0,false⟩).1.att) ((AF (AB ((Ax bs a).1)) ⟨0,false⟩).1.why) (.slice A14 (((AF (AB ((Ax bs a).1)) ⟨0,false⟩).1.set).length) c15) (.slice A19 (((AF (AB ((Ax bs a).1)) ⟨0,false⟩).1.pairs).length) c20) ((AF (AB ((Ax bs a).1)) ⟨0,false⟩).1.set) ((AF (AB ((Ax bs a).1)) ⟨0,false⟩).1.pairs)) H (lA 1 U B2 (lA 2 U B2 l0)) U U (Av QL U U) ?_))
 rintro _ _ w ⟨rfl,rfl⟩ H
 refine AH ⟨_,H⟩ (Ao U U U (fun w ⟨Ar,H⟩=>D4 U U) (Au U (BO (Z ?_))))
 refine AC U (fun h27=>?_) (fun h27=>?_)
 ·refine Aa (Ae (Ah 4 U (Ab (Z (An (AA (AZ (AA (AZ (Dy U U U ?_))))))))))
  have hno:¬ Fz bs a=true:=fun g=>by
    obtain ⟨g1,g2,g3,g4⟩:=Id.1 g
    first |exact absurd g4 h27|exact absurd g4 (by simpa using h27)|(rw [g2] at h27;cases h27)|omega|(rw [g1] at h27;cases h27)|grind
  have e:CI bs=(al.map AY.p,a):=hg.symm.trans (Lm hno)
  replace H:=H.sel 6 [4,5] [0,1,2,3] rfl (by kernel_rfl)
  replace H:Hd _ _ _ [Y El q (al.map Dc),EU al] [Ac AP (.slice (some ⟨b7,0,none⟩) (((Ax bs a).1).size) c8) (AB ((Ax bs a).1)),Ac AP (.slice A1 bs.length c2) bs]:=H
  replace H:=H.recI|>.h1 (A:=Y BL q al)|>.dropR
  replace H:Hd _ _ _ [Y BL q al] [Ac AP (.slice A1 bs.length c2) bs]:=H
  exact Al ⟨_,al,by rw [e]<;>rfl,rfl,by rw [e]<;>rfl⟩ H
 refine Az (Z (Aa ?_))
 have hyes:Fz bs a=true:=Id.2 ⟨hok,by first |(simpa using h25)|grind,by first |omega|grind,by first |exact h27|(simpa using h27)|grind⟩
 have hg2:=(aU (k:=k9) (out:=al.map AY.p) hyes).symm.trans hg
 have hin2:0≤(Ax bs a).2.1∧(Ax bs a).2.1≤(bs.length:Int)∧((al.length+1:Nat):Int)≤(Ax bs a).2.1:=⟨by omega,by omega,by omega⟩
 refine Ae (Ad U (V U U (BG (cs:=[.int .i64 ((AF (AB ((Ax bs a).1)) ⟨0,false⟩).1.kind),.int .i64 ((AF (AB ((Ax bs a).1)) ⟨0,false⟩).1.part),.int .i64 ((AF (AB ((Ax bs a).1)) ⟨0,false⟩).1.sp),.int .i64 ((AF (AB ((Ax bs a).1)) ⟨0,false⟩).1.att),.int .i64 ((AF (AB ((Ax bs a).1)) ⟨0,false⟩).1.why),.slice A14 (((AF (AB ((Ax bs a).1)) ⟨0,false⟩).1.set).length) c15,.slice A19 (((AF (AB ((Ax bs a).1)) ⟨0,false⟩).1.pairs).length) c20]) U E9 U U (H.cellsI 0 U U)) (Cg (parts:=[(0,.tmp 52)]) (vs:=[.agg #[.int .i64 ((AF (AB ((Ax bs a).1)) ⟨0,false⟩).1.kind),.int .i64 ((AF (AB ((Ax bs a).1)) ⟨0,false⟩).1.part),.int .i64 ((AF (AB ((Ax bs a).1)) ⟨0,false⟩).1.sp),.int .i64 ((AF (AB ((Ax bs a).1)) ⟨0,false⟩).1.att),.int .i64 ((AF (AB ((Ax bs a).1)) ⟨0,false⟩).1.why),.slice A14 (((AF (AB ((Ax bs a).1)) ⟨0,false⟩).1.set).length) c15,.slice A19 (((AF (AB ((Ax bs a).1)) ⟨0,false⟩).1.pairs).length) c20]]) (cs:=[.int .i64 ((AF (AB ((Ax bs a).1)) ⟨0,false⟩).1.kind),.int .i64 ((AF (AB ((Ax bs a).1)) ⟨0,false⟩).1.part),.int .i64 ((AF (AB ((Ax bs a).1)) ⟨0,false⟩).1.sp),.int .i64 ((AF (AB ((Ax bs a).1)) ⟨0,false⟩).1.att),.int .i64 ((AF (AB ((Ax bs a).1)) ⟨0,false⟩).1.why),.slice A14 (((AF (AB ((Ax bs a).1)) ⟨0,false⟩).1.set).length) c15,.slice A19 (((AF (AB ((Ax bs a).1)) ⟨0,false⟩).1.pairs).length) c20]) U U U I8 Hr U (by decide) (by decide) U U H (fun b28 w H=>?_))))
 replace H:=H.p5
 refine CE (xs:=al.map Dc) (ys:=[(⟨(AF (AB ((Ax bs a).1)) ⟨0,false⟩).1.kind,(AF (AB ((Ax bs a).1)) ⟨0,false⟩).1.part,(AF (AB ((Ax bs a).1)) ⟨0,false⟩).1.sp,(AF (AB ((Ax bs a).1)) ⟨0,false⟩).1.att,(AF (AB ((Ax bs a).1)) ⟨0,false⟩).1.why,⟨A14,((AF (AB ((Ax bs a).1)) ⟨0,false⟩).1.set).length,c15⟩,⟨A19,((AF (AB ((Ax bs a).1)) ⟨0,false⟩).1.pairs).length,c20⟩⟩:Hu)]) U U U I8 Hr U (by decide) U U H (by first |omega|(simp only [List.length_append,List.length_cons,List.length_nil];omega)) (fun F hA hR=>CC (hA _ (List.mem_of_getElem? (i:=0) U)) U (by decide) (Be.flat_eq.2 U)) (fun v29 w H=>(Ad U (Ab (Z ?_))))
 replace H:Hd _ _ _ [Y El v29 ((al.map Dc)++[(⟨(AF (AB ((Ax bs a).1)) ⟨0,false⟩).1.kind,(AF (AB ((Ax bs a).1)) ⟨0,false⟩).1.part,(AF (AB ((Ax bs a).1)) ⟨0,false⟩).1.sp,(AF (AB ((Ax bs a).1)) ⟨0,false⟩).1.att,(AF (AB ((Ax bs a).1)) ⟨0,false⟩).1.why,⟨A14,((AF (AB ((Ax bs a).1)) ⟨0,false⟩).1.set).length,c15⟩,⟨A19,((AF (AB ((Ax bs a).1)) ⟨0,false⟩).1.pairs).length,c20⟩⟩:Hu)]),blk b28 [.int .i64 ((AF (AB ((Ax bs a).1)) ⟨0,false⟩).1.kind),.int .i64 ((AF (AB ((Ax bs a).1)) ⟨0,false⟩).1.part),.int .i64 ((AF (AB ((Ax bs a).1)) ⟨0,false⟩).1.sp),.int .i64 ((AF (AB ((Ax bs a).1)) ⟨0,false⟩).1.att),.int .i64 ((AF (AB ((Ax bs a).1)) ⟨0,false⟩).1.why),.slice A14 (((AF (AB ((Ax bs a).1)) ⟨0,false⟩).1.set).length) c15,.slice A19 (((AF (AB ((Ax bs a).1)) ⟨0,false⟩).1.pairs).length) c20] 69,blk b24 [.int .i64 ((AF (AB ((Ax bs a).1)) ⟨0,false⟩).1.kind),.int .i64 ((AF (AB ((Ax bs a).1)) ⟨0,false⟩).1.part),.int .i64 ((AF (AB ((Ax bs a).1)) ⟨0,false⟩).1.sp),.int .i64 ((AF (AB ((Ax bs a).1)) ⟨0,false⟩).1.att),.int .i64 ((AF (AB ((Ax bs a).1)) ⟨0,false⟩).1.why),.slice A14 (((AF (AB ((Ax bs a).1)) ⟨0,false⟩).1.set).length) c15,.slice A19 (((AF (AB ((Ax bs a).1)) ⟨0,false⟩).1.pairs).length) c20] 69,Y (Ai .i64) (.slice A14 (((AF (AB ((Ax bs a).1)) ⟨0,false⟩).1.set).length) c15) ((AF (AB ((Ax bs a).1)) ⟨0,false⟩).1.set),Y Ag (.slice A19 (((AF (AB ((Ax bs a).1)) ⟨0,false⟩).1.pairs).length) c20) ((AF (AB ((Ax bs a).1)) ⟨0,false⟩).1.pairs),blk b11 [.slice (some ⟨b7,0,none⟩) (((Ax bs a).1).size) c8,.int .i64 (((AF (AB ((Ax bs a).1)) ⟨0,false⟩).2).at_),.bool (((AF (AB ((Ax bs a).1)) ⟨0,false⟩).2).bad)] 115,EU al] [Ac AP (.slice (some ⟨b7,0,none⟩) (((Ax bs a).1).size) c8) (AB ((Ax bs a).1)),Ac AP (.slice A1 bs.length c2) bs]:=H
 replace H:=H.p6.p5.p5.k4
 replace H:=Hd.recN (r:=(⟨(AF (AB (Ax bs a).1) ⟨0,false⟩).1.kind,(AF (AB (Ax bs a).1) ⟨0,false⟩).1.part,(AF (AB (Ax bs a).1) ⟨0,false⟩).1.sp,(AF (AB (Ax bs a).1) ⟨0,false⟩).1.att,(AF (AB (Ax bs a).1) ⟨0,false⟩).1.why,(.slice A14 (((AF (AB ((Ax bs a).1)) ⟨0,false⟩).1.set).length) c15),(AF (AB (Ax bs a).1) ⟨0,false⟩).1.set,(.slice A19 (((AF (AB ((Ax bs a).1)) ⟨0,false⟩).1.pairs).length) c20),(AF (AB (Ax bs a).1) ⟨0,false⟩).1.pairs⟩:AY)) H
 replace H:=H.h1 (A:=EU (al++[(⟨(AF (AB (Ax bs a).1) ⟨0,false⟩).1.kind,(AF (AB (Ax bs a).1) ⟨0,false⟩).1.part,(AF (AB (Ax bs a).1) ⟨0,false⟩).1.sp,(AF (AB (Ax bs a).1) ⟨0,false⟩).1.att,(AF (AB (Ax bs a).1) ⟨0,false⟩).1.why,(.slice A14 (((AF (AB ((Ax bs a).1)) ⟨0,false⟩).1.set).length) c15),(AF (AB (Ax bs a).1) ⟨0,false⟩).1.set,(.slice A19 (((AF (AB ((Ax bs a).1)) ⟨0,false⟩).1.pairs).length) c20),(AF (AB (Ax bs a).1) ⟨0,false⟩).1.pairs⟩:AY)]))|>.p1|>.tellK (ys:=(al++[(⟨(AF (AB (Ax bs a).1) ⟨0,false⟩).1.kind,(AF (AB (Ax bs a).1) ⟨0,false⟩).1.part,(AF (AB (Ax bs a).1) ⟨0,false⟩).1.sp,(AF (AB (Ax bs a).1) ⟨0,false⟩).1.att,(AF (AB (Ax bs a).1) ⟨0,false⟩).1.why,(.slice A14 (((AF (AB ((Ax bs a).1)) ⟨0,false⟩).1.set).length) c15),(AF (AB (Ax bs a).1) ⟨0,false⟩).1.set,(.slice A19 (((AF (AB ((Ax bs a).1)) ⟨0,false⟩).1.pairs).length) c20),(AF (AB (Ax bs a).1) ⟨0,false⟩).1.pairs⟩:AY)]).map Dc) (by rw [List.map_append];rfl)|>.h1 (A:=Y El v29 ((al++[(⟨(AF (AB (Ax bs a).1) ⟨0,false⟩).1.kind,(AF (AB (Ax bs a).1) ⟨0,false⟩).1.part,(AF (AB (Ax bs a).1) ⟨0,false⟩).1.sp,(AF (AB (Ax bs a).1) ⟨0,false⟩).1.att,(AF (AB (Ax bs a).1) ⟨0,false⟩).1.why,(.slice A14 (((AF (AB ((Ax bs a).1)) ⟨0,false⟩).1.set).length) c15),(AF (AB (Ax bs a).1) ⟨0,false⟩).1.set,(.slice A19 (((AF (AB ((Ax bs a).1)) ⟨0,false⟩).1.pairs).length) c20),(AF (AB (Ax bs a).1) ⟨0,false⟩).1.pairs⟩:AY)]).map Dc))
 replace hg2:ET bs k9 (Ax bs a).2.1 ((al++[(⟨(AF (AB (Ax bs a).1) ⟨0,false⟩).1.kind,(AF (AB (Ax bs a).1) ⟨0,false⟩).1.part,(AF (AB (Ax bs a).1) ⟨0,false⟩).1.sp,(AF (AB (Ax bs a).1) ⟨0,false⟩).1.att,(AF (AB (Ax bs a).1) ⟨0,false⟩).1.why,(.slice A14 (((AF (AB ((Ax bs a).1)) ⟨0,false⟩).1.set).length) c15),(AF (AB (Ax bs a).1) ⟨0,false⟩).1.set,(.slice A19 (((AF (AB ((Ax bs a).1)) ⟨0,false⟩).1.pairs).length) c20),(AF (AB (Ax bs a).1) ⟨0,false⟩).1.pairs⟩:AY)]).map AY.p)=CI bs:=by rw [List.map_append];exact hg2
 replace hin2:0≤(Ax bs a).2.1∧(Ax bs a).2.1≤(bs.length:Int)∧((al++[(⟨(AF (AB (Ax bs a).1) ⟨0,false⟩).1.kind,(AF (AB (Ax bs a).1) ⟨0,false⟩).1.part,(AF (AB (Ax bs a).1) ⟨0,false⟩).1.sp,(AF (AB (Ax bs a).1) ⟨0,false⟩).1.att,(AF (AB (Ax bs a).1) ⟨0,false⟩).1.why,(.slice A14 (((AF (AB ((Ax bs a).1)) ⟨0,false⟩).1.set).length) c15),(AF (AB (Ax bs a).1) ⟨0,false⟩).1.set,(.slice A19 (((AF (AB ((Ax bs a).1)) ⟨0,false⟩).1.pairs).length) c20),(AF (AB (Ax bs a).1) ⟨0,false⟩).1.pairs⟩:AY)]).length:Int)≤(Ax bs a).2.1:=by rw [List.length_append];exact hin2
 refine Ae (Ah 2 U (Ab (Bb ?_)))
 replace H:=H.dropR
 replace H:Hd _ _ _ [Y El v29 ((al++[(⟨(AF (AB (Ax bs a).1) ⟨0,false⟩).1.kind,(AF (AB (Ax bs a).1) ⟨0,false⟩).1.part,(AF (AB (Ax bs a).1) ⟨0,false⟩).1.sp,(AF (AB (Ax bs a).1) ⟨0,false⟩).1.att,(AF (AB (Ax bs a).1) ⟨0,false⟩).1.why,(.slice A14 (((AF (AB ((Ax bs a).1)) ⟨0,false⟩).1.set).length) c15),(AF (AB (Ax bs a).1) ⟨0,false⟩).1.set,(.slice A19 (((AF (AB ((Ax bs a).1)) ⟨0,false⟩).1.pairs).length) c20),(AF (AB (Ax bs a).1) ⟨0,false⟩).1.pairs⟩:AY)]).map Dc),EU (al++[(⟨(AF (AB (Ax bs a).1) ⟨0,false⟩).1.kind,(AF (AB (Ax bs a).1) ⟨0,false⟩).1.part,(AF (AB (Ax bs a).1) ⟨0,false⟩).1.sp,(AF (AB (Ax bs a).1) ⟨0,false⟩).1.att,(AF (AB (Ax bs a).1) ⟨0,false⟩).1.why,(.slice A14 (((AF (AB ((Ax bs a).1)) ⟨0,false⟩).1.set).length) c15),(AF (AB (Ax bs a).1) ⟨0,false⟩).1.set,(.slice A19 (((AF (AB ((Ax bs a).1)) ⟨0,false⟩).1.pairs).length) c20),(AF (AB (Ax bs a).1) ⟨0,false⟩).1.pairs⟩:AY)])] [Ac AP (.slice A1 bs.length c2) bs]:=H
 exact Bo (s:=(k,a,undef,al)) (k9,(Ax bs a).2.1,v29,al++[(⟨(AF (AB (Ax bs a).1) ⟨0,false⟩).1.kind,(AF (AB (Ax bs a).1) ⟨0,false⟩).1.part,(AF (AB (Ax bs a).1) ⟨0,false⟩).1.sp,(AF (AB (Ax bs a).1) ⟨0,false⟩).1.att,(AF (AB (Ax bs a).1) ⟨0,false⟩).1.why,(.slice A14 (((AF (AB ((Ax bs a).1)) ⟨0,false⟩).1.set).length) c15),(AF (AB (Ax bs a).1) ⟨0,false⟩).1.set,(.slice A19 (((AF (AB ((Ax bs a).1)) ⟨0,false⟩).1.pairs).length) c20),(AF (AB (Ax bs a).1) ⟨0,false⟩).1.pairs⟩:AY)]) ⟨rfl,rfl,rfl,trivial⟩ ⟨H,by (try dsimp only);omega,hg2,hin2⟩ (by (try dsimp only);omega)
end Go.Proofs.YthhajcnbjiiclaaGreatDoor.X
