/- NodeLives: texts F2, J1, C1, DK1, XWrk4, XNode, M1, K1, K2, J2, J3, M2, M3, W1, M4, N1, N2, J4, joined by a program of ours; what nothing names is left out. -/
import Derived.Test.YthhajcnbjiiclaaGreatDoorNodeLivesQ4
set_option linter.unusedVariables false
set_option linter.unusedSimpArgs false
set_option maxHeartbeats 8000000
namespace Go.Proofs.YthhajcnbjiiclaaGreatDoor.X
open Go
theorem UW (x:Aq) (kb:Nat) (key:ByteArray):
    Cn Tryz.prog 273 [.agg #[.string x.key,.string x.val],.pointer (some ⟨kb,0,none⟩)] [] [blk kb [.string key] 9] (fun v Bs=>v=.bool (decide (x.key≠key))∧Bs=[]):=by
 intro w0 F0 H
 refine enter Tryz.func273 U U (Nat.le_of_ble_eq_true U) (Aa (Ae (CZ U U U U H (fun b1 w H=>(Ad U (Ab (Z ?_)))))))
 replace H:Hd _ _ _ [blk b1 [.string x.key,.string x.val] 122] [blk kb [.string key] 9]:=H
 refine Aa (Ae (V U U (Aj U F8 U) (V U U (Am U Cl U (H.cellI 0 U U)) (V U U (Am U Cl U (H.cellRI 0 U U)) (V U U (Nq U U U) (Ad U (Ab (Z (An (Ap U U ?_))))))))))
 replace H:=H.nil
 exact Al ⟨rfl,rfl⟩ H
theorem UX (vp:Value) (p:List BT) (vps:Value) (ps:List Aq) (fuel:Int) (own:Bool) (hpa:∀ i∈p,AG i.a) (hfu:AG fuel) (hb:ps.length≤1000000):
    Cn Tryz.prog 257 [vp,vps,.int .i64 fuel,.bool own] [] [Ac Af vp p,Ac Ag vps ps,gl] (fun v Bs=>∃ u,v=.tuple #[u,.int .i64 (D0 dg p ps fuel own).2]∧Bs=[Y Ag u (D0 dg p ps fuel own).1]):=by
 intro w0 F0 H
 obtain ⟨A1,c2,rfl,hc3,hm4,hp5⟩:=H.fR 0 rfl
 obtain ⟨A6,c7,rfl,hc8,hm9,hp10⟩:=H.fR 1 rfl
 refine enter Tryz.func257 U U (Nat.le_of_ble_eq_true U) (Aa (Ae (Ah 2 U (Ab (Z ?_)))))
 replace H:Hd _ _ _ [] [Ac Af (.slice A1 p.length c2) p,Ac Ag (.slice A6 ps.length c7) ps,gl]:=H
 refine Aa (Ae (Ad U (Ab (Z (Aa (Ae (sc d6 H l0 U U (Av WA U U) ?_)))))))
 rintro _ _ w ⟨b11,rfl,rfl⟩ H
 replace H:=H.h1 (A:=blk b11 [.int .i64 0,.int .i64 0,.int .i64 0,.int .i64 0,.int .i64 0,.int .i64 0,.int .i64 0,.int .i64 0] 254)
 refine Ad U (Ab (Z (Aa (Aa (Ae (Ad U (sc (Zp (.slice A6 ps.length c7) ps (by first |omega|decide)) H (lR 1 U l0) U U (Av Xn U U) ?_)))))))
 rintro v12 _ w rfl H
 obtain ⟨A13,c14,rfl,hc15,hm16,hp17⟩:=H.fA 0 rfl
 refine V U U (Bj U S_ U) (Ad U (Ab (Z ?_)))
 replace H:Hd _ _ _ [Y Bt (.slice A13 ((D1 ps).length) c14) (D1 ps),blk b11 [.int .i64 0,.int .i64 0,.int .i64 0,.int .i64 0,.int .i64 0,.int .i64 0,.int .i64 0,.int .i64 0] 254] [Ac Af (.slice A1 p.length c2) p,Ac Ag (.slice A6 ps.length c7) ps,gl]:=H
 refine AW ?_
 replace H:=H.newnil Ag
 refine B1 (σ:=Nat×Value×List Aq) (fun (i,q,out)=>[(0,.slice A1 p.length c2),(1,.slice A6 ps.length c7),(2,.int .i64 fuel),(3,.bool own),(10,q),(11,.pointer (some ⟨b11,0,none⟩)),(18,.slice A13 ((D1 ps).length) c14),(19,.int .i64 (((D1 ps).length:Nat):Int)),(20,.int .i64 ((i:Nat):Int))]) (fun (i,q,out) w=>(Hd w0 F0 w [Y Ag q out,Y Bt (.slice A13 ((D1 ps).length) c14) (D1 ps),blk b11 [.int .i64 (out.length:Int),.int .i64 0,.int .i64 0,.int .i64 0,.int .i64 0,.int .i64 0,.int .i64 0,.int .i64 0] 254] [Ac Af (.slice A1 p.length c2) p,Ac Ag (.slice A6 ps.length c7) ps,gl])∧(i≤(D1 ps).length)∧(E2 dg p ps fuel own ((D1 ps).drop i) out=D0 dg p ps fuel own)∧(out.length≤40)) (fun (i,q,out)=>(D1 ps).length - i) (0,.slice none 0 0,[]) ⟨rfl,rfl,rfl,rfl,rfl,rfl,rfl,rfl,rfl,trivial⟩ ⟨H,Nat.zero_le _,rfl,Nat.zero_le _⟩ ?_
 rintro ⟨i,q,out⟩ w ⟨H,hi,hgo,ho⟩
 have hkl:=Wr ps
 refine Aa (Ae (V U U (Br U U U) (Ab (Z (Aa ?_)))))
 refine AC U (fun h18=>?_) (fun h18=>?_)
 ·refine Az (Z (Aa (AW (Aa (Ae ?_)))))
  obtain ⟨x19,hx20⟩:∃ z9,(D1 ps)[i]?=some z9:=⟨_,List.getElem?_eq_getElem (show i<(D1 ps).length by omega)⟩
  have th21:=H.thA 1 rfl hx20
  refine V U U (Bi (p:=Ba A13+i*1) U Io U U (by omega) (by omega) th21 U) (V U U (Am U Cl U (H.elA 1 U hx20 (q:=0) U U)) (DD U U U Kh H (fun b22 w H=>(Bx U U U Cl U U H U (Nat.le_of_ble_eq_true U) (fun u hu=>by simp [Value.cells] at hu;subst hu;rfl) (fun w H=>?_)))))
  replace H:=H.h4 (A:=blk b22 [.string x19] 9) (B:=Y Ag q out) (D:=blk b11 [.int .i64 (out.length:Int),.int .i64 0,.int .i64 0,.int .i64 0,.int .i64 0,.int .i64 0,.int .i64 0,.int .i64 0] 254)
  refine Ab (Z (Aa (Ce (.e 0 (.e 1 (.e 2 (.e 3 (.e 5 (.m 4 (.m 6 (.e 7 (.e 8 (.e 9 (.e 10 (.e 11 .z)))))))))))) (fun w=>∃ Ar,Hd w0 F0 w (blk b22 [.string x19] 9::Y Ag q out::Y Bt (.slice A13 ((D1 ps).length) c14) (D1 ps)::blk b11 [.int .i64 (out.length:Int),.int .i64 0,.int .i64 0,.int .i64 0,.int .i64 0,.int .i64 0,.int .i64 0,.int .i64 0] 254::Ar) [Ac Af (.slice A1 p.length c2) p,Ac Ag (.slice A6 ps.length c7) ps,gl]) mo (by kernel_rfl) (fun w H=>⟨_,H⟩) H (fun w H=>(Au U (Ao U U U (fun w ⟨Ar,H⟩=>Am U Cl U (H.cellI 0 U U)) (Au U (Ao U U U (fun w ⟨Ar,H⟩=>Am U Cl U (H.cellI 0 U U)) (Au U (AO U (sc (Zq (.slice A6 ps.length c7) ps x19 (by first |omega|decide)) H (lR 1 U l0) U U (Av Xo U U) ?_)))))))))))
  rintro v23 _ w rfl H
  replace H:=H.h1 (A:=Y Bt v23 (B_ ps x19))|>.p4|>.p4|>.p4|>.p4
  refine AH ⟨_,H⟩ (AO U (sc (fK (.slice A1 p.length c2) p x19 v23 (B_ ps x19) fuel hpa hfu) H (lR 0 U (lA 4 U B2 (lR 2 U l0))) U U (Av Xg U U) ?_))
  rintro _ _ w ⟨u24,rfl,rfl⟩ H
  replace H:=H.h1 (A:=Y Ag u24 ((Cd dg p x19 (B_ ps x19) fuel).1))
  have hrt:=cB dg p x19 (B_ ps x19) fuel
  replace H:=H.p4.p4.p4.p4
  refine AH ⟨_,H⟩ (Au U (Au U (Au U (Au U (Au U (BO (Z (Aa (AW (Aa (Ae (Ad U (V U U (Cx U U U) (Ad U (Ab (Z ?_))))))))))))))))
  refine AC U (fun h25=>?_) (fun h25=>?_)
  ·refine Aa (Ae (Ah 3 U (Ab (Z (An (AZ (AA (AZ (AA (AA (AZ (AA (Dy U U U ?_)))))))))))))
   have e:D0 dg p ps fuel own=([],(Cd dg p x19 (B_ ps x19) fuel).2):=hgo.symm.trans (VR hx20 h25)
   replace H:=H.nil|>.newnil Ag
   exact Al ⟨_,by rw [e]<;>rfl,by rw [e]<;>rfl⟩ H
  refine Aa (Ae (Ah 2 U ?_))
  refine FC (d:=40) (b:=own) U (fun h26=>?_) (fun h26=>?_)
  ·refine Ad U (V U U (JP (fs:=#[]) (cs:=#[.pointer (some ⟨b22,0,none⟩)]) U U U) (sc (OV 273 [.pointer (some ⟨b22,0,none⟩)] [blk b22 [.string x19] 9] (fun y=>decide (y.key≠x19)) Xp (fun y=>UW y b22 x19) u24 (Cd dg p x19 (B_ ps x19) fuel).1) H (lA 4 U B2 (lA 0 U (fun _ h=>h) l0)) U U (Av Qm U U) ?_))
   rintro _ _ w ⟨rfl,rfl⟩ H
   refine Ah 2 U (Ab (Z ?_))
   refine Dp (b:=JL x19 (Cd dg p x19 (B_ ps x19) fuel).1) U (fun h27=>?_) (fun h27=>?_)
   ·refine Aa (Ae (Ah 2 U (Ab (Z (An (AZ (AA (AZ (AA (AA (AZ (AA (Dy U U U ?_)))))))))))))
    have e:D0 dg p ps fuel own=([],6):=hgo.symm.trans (VQ hx20 h25 h26 h27)
    replace H:=H.nil|>.newnil Ag
    replace H:Hd _ _ _ [Y Ag (.slice none 0 0) []] [Ac Af (.slice A1 p.length c2) p,Ac Ag (.slice A6 ps.length c7) ps,gl]:=H
    exact Al ⟨_,by rw [e]<;>rfl,by rw [e]<;>rfl⟩ H
   refine Aa (Ae (Ah 2 U ?_))
   obtain ⟨A28,c29,rfl,hc30,hm31,hp32⟩:=H.fA 4 rfl
   refine V U U (Bj U Dt U) ?_
   replace H:=H.p3
   replace H:Hd _ _ _ [blk b11 [.int .i64 (out.length:Int),.int .i64 0,.int .i64 0,.int .i64 0,.int .i64 0,.int .i64 0,.int .i64 0,.int .i64 0] 254,blk b22 [.string x19] 9,Y Ag q out,Y Bt (.slice A13 ((D1 ps).length) c14) (D1 ps),Y Ag (.slice A28 (((Cd dg p x19 (B_ ps x19) fuel).1).length) c29) ((Cd dg p x19 (B_ ps x19) fuel).1),Y Bt v23 (B_ ps x19)] [Ac Af (.slice A1 p.length c2) p,Ac Ag (.slice A6 ps.length c7) ps,gl]:=H
   refine sc (SV b11 (out.length:Int) 0 0 0 0 0 0 0 ((((Cd dg p x19 (B_ ps x19) fuel).1).length:Nat):Int) (by omega) (by omega)) H l0 U U (Av QO U U) ?_
   rintro _ _ w ⟨rfl,rfl⟩ H
   replace H:=H.h1 (A:=blk b11 [.int .i64 (min ((out.length:Int)+((((Cd dg p x19 (B_ ps x19) fuel).1).length:Nat):Int)) 1099511627776),.int .i64 0,.int .i64 0,.int .i64 0,.int .i64 0,.int .i64 0,.int .i64 0,.int .i64 0] 254)
   refine V U U (CH U U U) (Ad U (Ab (Z ?_)))
   refine AC U (fun h33=>?_) (fun h33=>?_)
   ·refine Aa (Ae (Ah 2 U (Ab (Z (An (AZ (AA (AZ (AA (AA (AZ (AA (Dy U U U ?_)))))))))))))
    have e:D0 dg p ps fuel own=([],5):=hgo.symm.trans (PY hx20 h25 (fun h=>by rw [h.2] at h27;cases h27) (by omega))
    replace H:=H.nil|>.newnil Ag
    exact Al ⟨_,by rw [e]<;>rfl,by rw [e]<;>rfl⟩ H
   refine Az (Bb (Z (Ae (Ah 2 U ?_))))
   replace H:=H.p2
   refine CE (xs:=out) (ys:=(Cd dg p x19 (B_ ps x19) fuel).1) U U U BM Dh U (by decide) U U H (by omega) (fun F hA hR=>B2 F (hA _ (List.mem_of_getElem? (i:=3) U))) (fun v34 w H=>?_)
   replace H:=H.h1 (A:=Y Ag v34 (out++((Cd dg p x19 (B_ ps x19) fuel).1)))
   refine Ad U (Ab (Bb (Z (Ae (V U U (Bc (z:=((i+1:Nat):Int)) U U U (by rw [AI (by omega) (by omega)];omega)) (Ad U (Ab ?_)))))))
   replace H:=H.p3.p1.k3
   have hl2:((out++(Cd dg p x19 (B_ ps x19) fuel).1).length:Int)=min ((out.length:Int)+((((Cd dg p x19 (B_ ps x19) fuel).1).length:Nat):Int)) 1099511627776:=by rw [List.length_append];omega
   replace H:Hd w0 F0 w [Y Ag v34 (out++((Cd dg p x19 (B_ ps x19) fuel).1)),Y Bt (.slice A13 ((D1 ps).length) c14) (D1 ps),blk b11 [.int .i64 ((out++(Cd dg p x19 (B_ ps x19) fuel).1).length:Int),.int .i64 0,.int .i64 0,.int .i64 0,.int .i64 0,.int .i64 0,.int .i64 0,.int .i64 0] 254] [Ac Af (.slice A1 p.length c2) p,Ac Ag (.slice A6 ps.length c7) ps,gl]:=by rw [hl2];exact H
   have hg2:=(PZ (out:=out) hx20 h25 (fun h=>by rw [h.2] at h27;cases h27) (by omega)).trans hgo
   have ho2:(out++(Cd dg p x19 (B_ ps x19) fuel).1).length≤40:=by rw [List.length_append];omega
   exact Bo (s:=(i,undef,out)) (i+1,v34,out++(Cd dg p x19 (B_ ps x19) fuel).1) ⟨rfl,rfl,rfl,rfl,rfl,rfl,rfl,rfl,rfl,trivial⟩ ⟨H,by (try dsimp only);omega,hg2,ho2⟩ (by (try dsimp only);omega)
  refine Ah 5 U (Ab (Z (Ch U (Aa (Ae (Ah 2 U ?_))))))
  obtain ⟨A35,c36,rfl,hc37,hm38,hp39⟩:=H.fA 4 rfl
  refine V U U (Bj U Dt U) ?_
  replace H:=H.p3
  refine sc (SV b11 (out.length:Int) 0 0 0 0 0 0 0 ((((Cd dg p x19 (B_ ps x19) fuel).1).length:Nat):Int) (by omega) (by omega)) H l0 U U (Av QO U U) ?_
  rintro _ _ w ⟨rfl,rfl⟩ H
  replace H:=H.h1 (A:=blk b11 [.int .i64 (min ((out.length:Int)+((((Cd dg p x19 (B_ ps x19) fuel).1).length:Nat):Int)) 1099511627776),.int .i64 0,.int .i64 0,.int .i64 0,.int .i64 0,.int .i64 0,.int .i64 0,.int .i64 0] 254)
  refine V U U (CH U U U) (Ad U (Ab (Z ?_)))
  refine AC U (fun h40=>?_) (fun h40=>?_)
  ·refine Aa (Ae (Ah 2 U (Ab (Z (An (AZ (AA (AZ (AA (AA (AZ (AA (Dy U U U ?_)))))))))))))
   have e:D0 dg p ps fuel own=([],5):=hgo.symm.trans (PY hx20 h25 (fun h=>by rw [h.1] at h26;cases h26) (by omega))
   replace H:=H.nil|>.newnil Ag
   exact Al ⟨_,by rw [e]<;>rfl,by rw [e]<;>rfl⟩ H
  refine Az (Bb (Z (Ae (Ah 2 U ?_))))
  replace H:=H.p2
  refine CE (xs:=out) (ys:=(Cd dg p x19 (B_ ps x19) fuel).1) U U U BM Dh U (by decide) U U H (by omega) (fun F hA hR=>B2 F (hA _ (List.mem_of_getElem? (i:=3) U))) (fun v41 w H=>?_)
  replace H:=H.h1 (A:=Y Ag v41 (out++((Cd dg p x19 (B_ ps x19) fuel).1)))
  refine Ad U (Ab (Bb (Z (Ae (V U U (Bc (z:=((i+1:Nat):Int)) U U U (by rw [AI (by omega) (by omega)];omega)) (Ad U (Ab ?_)))))))
  replace H:=H.p3.p1.k3
  have hl2:((out++(Cd dg p x19 (B_ ps x19) fuel).1).length:Int)=min ((out.length:Int)+((((Cd dg p x19 (B_ ps x19) fuel).1).length:Nat):Int)) 1099511627776:=by rw [List.length_append];omega
  replace H:Hd w0 F0 w [Y Ag v41 (out++((Cd dg p x19 (B_ ps x19) fuel).1)),Y Bt (.slice A13 ((D1 ps).length) c14) (D1 ps),blk b11 [.int .i64 ((out++(Cd dg p x19 (B_ ps x19) fuel).1).length:Int),.int .i64 0,.int .i64 0,.int .i64 0,.int .i64 0,.int .i64 0,.int .i64 0,.int .i64 0] 254] [Ac Af (.slice A1 p.length c2) p,Ac Ag (.slice A6 ps.length c7) ps,gl]:=by rw [hl2];exact H
  have hg2:=(PZ (out:=out) hx20 h25 (fun h=>by rw [h.1] at h26;cases h26) (by omega)).trans hgo
  have ho2:(out++(Cd dg p x19 (B_ ps x19) fuel).1).length≤40:=by rw [List.length_append];omega
  exact Bo (s:=(i,undef,out)) (i+1,v41,out++(Cd dg p x19 (B_ ps x19) fuel).1) ⟨rfl,rfl,rfl,rfl,rfl,rfl,rfl,rfl,rfl,trivial⟩ ⟨H,by (try dsimp only);omega,hg2,ho2⟩ (by (try dsimp only);omega)
 refine BQ (AV (AV (BS (Z (Aa (Ae (Ah 3 U (Ab (Z (An (Dy U U U ?_)))))))))))
 replace H:=H.k1
 have e:D0 dg p ps fuel own=(out,0):=hgo.symm.trans (VP (by omega))
 replace H:=H.h1 (A:=Y Ag q out)
 exact Al ⟨_,by rw [e]<;>rfl,by rw [e]<;>rfl⟩ H
theorem VG (vp:Value) (p:List BT) (vps:Value) (ps:List Aq) (fuel:Int) (hpa:∀ i∈p,AG i.a) (hfu:AG fuel) (hb:ps.length≤1000000):
    Cn Tryz.prog 253 [vp,vps,.int .i64 fuel] [] [Ac Af vp p,Ac Ag vps ps,gl] (fun v Bs=>∃ u,v=.tuple #[u,.int .i64 (D0 dg p ps fuel false).2]∧Bs=[Y Ag u (D0 dg p ps fuel false).1]):=by
 intro w0 F0 H
 refine enter Tryz.func253 U U (Nat.le_of_ble_eq_true U) (Aa (Ae (Ah 2 U (Ab (Z (Aa (Ae (Ah 3 U (sc (UX vp p vps ps fuel false hpa hfu hb) H (lR 0 U (lR 1 U (lR 2 U l0))) U U (Av Xh U U) ?_)))))))))
 rintro _ _ w ⟨u1,rfl,rfl⟩ H
 refine Ah 4 U (Ab (Z ?_))
 replace H:Hd _ _ _ [Y Ag u1 ((D0 dg p ps fuel false).1)] [Ac Af vp p,Ac Ag vps ps,gl]:=H
 exact An (Dy U U U (Al ⟨_,rfl,rfl⟩ H))
theorem IK (vxs:Value) (xs:List BT):
    Cn Tryz.prog 37 [vxs] [] [Ac Af vxs xs] (fun v Bs=>v=.bool (Fm xs)∧Bs=[]):=by
 intro w0 F0 H
 obtain ⟨A1,c2,rfl,hc3,hm4,hp5⟩:=H.fR 0 rfl
 refine enter Tryz.func37 U U (Nat.le_of_ble_eq_true U) (Aa (Ae (Ad U (Ab (Z ?_)))))
 replace H:Hd _ _ _ [] [Ac Af (.slice A1 xs.length c2) xs]:=H
 refine Aa (Aa (Ae (Ad U (Ab (Z (AW (B1 (σ:=Nat) (fun k=>[(0,.slice A1 xs.length c2),(3,.int .i64 ((k:Nat):Int))]) (fun k w=>(Hd w0 F0 w [] [Ac Af (.slice A1 xs.length c2) xs])∧(k≤xs.length)∧(∀ y∈xs.take k,y.s.size≤100)) (fun k=>xs.length - k) 0 ⟨rfl,rfl,trivial⟩ ⟨H,by omega,by simp⟩ ?_)))))))
 rintro k w ⟨H,hk,hn⟩
 refine Aa (Aa (Ae (Ah 2 U (V U U (Bj U GC U) (V U U (Br U U U) (Ad U ?_))))))
 refine AQ (d:=8) U (fun h6=>?_) (fun h6=>?_)
 ·refine Ad U (V U U (Bj U GC U) (V U U (CD U U U) (Ad U (Ab (Z ?_)))))
  refine AC U (fun h7=>?_) (fun h7=>?_)
  ·refine Az (Z (Aa (AW (Aa (Ae (Ah 2 U ?_))))))
   obtain ⟨x8,hx9⟩:∃ z9,xs[k]?=some z9:=⟨_,List.getElem?_eq_getElem (show k<xs.length by omega)⟩
   have th10:=H.thR 0 rfl hx9
   refine V U U (Bi (p:=Ba A1+k*3) U HS U U (by omega) (by omega) th10 U) (V U U (Aj U Fy U) (V U U (Am U Cl U (H.elR 0 U hx9 (q:=2) U U)) (V U U (DN U CK U) (V U U (CH U U U) (Ab (Z ?_))))))
   refine AC U (fun h11=>?_) (fun h11=>?_)
   ·exact Aa (Ae (Ad U (Ab (Z (An (AZ (AA (AA (AZ (AA (Ap U U (Al ⟨congrArg Value.bool (VV hx9 (by omega)),rfl⟩ H))))))))))))
   exact Az (Bb (Z (Ae (Ad U (V U U (Bc (z:=((k+1:Nat):Int)) U U U (by rw [AI (by omega) (by omega)];omega)) (Ad U (Ab (Bo (s:=k) (k+1) ⟨rfl,rfl,trivial⟩ ⟨H,by (try dsimp only);omega,dZ hn hx9 (by omega)⟩ (by (try dsimp only);omega)))))))))
  exact BQ (AV (AV (BS (Z (Aa (Ae (Ad U (V U U (Bj U GC U) (V U U (CH U U U) (Ad U (Ab (Z (An (Ap U U (Al ⟨congrArg Value.bool (P3 hn (by omega)),rfl⟩ H)))))))))))))))
 exact Ah 4 U (Ab (Z (Ch U (BQ (AV (AV (BS (Z (Aa (Ae (Ad U (V U U (Bj U GC U) (V U U (CH U U U) (Ad U (Ab (Z (An (Ap U U (Al ⟨congrArg Value.bool (P3 hn (by omega)),rfl⟩ H)))))))))))))))))))
theorem G0 (n:Int) (l:Int) (m:Int):
    Cn Tryz.prog 39 [.int .i64 n,.int .i64 l,.int .i64 m] [] [] (fun v Bs=>v=.bool (decide (l≤n∧n≤m))∧Bs=[]):=by
 intro w0 F0 H
 refine enter Tryz.func39 U U (Nat.le_of_ble_eq_true U) (Aa (Ae (Ad U (Ab (Z (Aa (Ae (Ah 2 U (V U U (C7 U U U) (Ad U ?_))))))))))
 refine AQ (d:=10) U (fun h1=>?_) (fun h1=>?_)
 ·exact Ah 2 U (V U U (CD U U U) (Ah 2 U (Ab (Z (An (Ap U U (Al ⟨congrArg Value.bool (decide_eq_decide.2 (by omega)),rfl⟩ H)))))))
 exact Ah 5 U (Ab (Z (An (Ap U U (Al ⟨congrArg Value.bool ((decide_eq_false (by omega)).symm),rfl⟩ H)))))
theorem Qi (vxs:Value) (xs:List BT):
    Cn Tryz.prog 68 [vxs] [] [Ac Af vxs xs] (fun v Bs=>v=.bool (decide (0<(xs).length∧DU xs<0))∧Bs=[]):=by
 intro w0 F0 H
 obtain ⟨A1,c2,rfl,hc3,hm4,hp5⟩:=H.fR 0 rfl
 refine enter Tryz.func68 U U (Nat.le_of_ble_eq_true U) (Aa (Ae (Ad U (Ab (Z ?_)))))
 replace H:Hd _ _ _ [] [Ac Af (.slice A1 xs.length c2) xs]:=H
 refine Aa (Ae (Ad U (V U U (Bj U GC U) (V U U (CH U U U) (Ad U ?_)))))
 refine AQ (d:=6) U (fun h6=>?_) (fun h6=>?_)
 ·refine Ad U (sc (Nc (.slice A1 xs.length c2) xs) H (lR 0 U l0) U U (Av MK U U) ?_)
  rintro _ _ w ⟨rfl,rfl⟩ H
  exact Ah 2 U (Ab (Z (An (Ap U U (Al ⟨congrArg Value.bool (decide_eq_decide.2 (by omega)),rfl⟩ H)))))
 exact Ah 4 U (Ab (Z (An (Ap U U (Al ⟨congrArg Value.bool ((decide_eq_false (by omega)).symm),rfl⟩ H)))))
theorem Wo (vS vM vC vR vK:Value) (J:AR):
    Cn Tryz.prog 38 [.agg #[vS,.int .i64 J.parts,vM,vC,vR,.int .i64 J.chunk,.int .i64 J.window,.int .i64 J.fuel,vK]] [] [Ac (At Ag) vS J.us,Ac Af vM J.map,Ac Af vC J.comb,Ac Af vR J.red,Ac (Ai .i64) vK J.marks] (fun v Bs=>v=.bool (decide (Ev J))∧Bs=[]):=by
 intro w0 F0 H
 obtain ⟨A1,c2,rfl,hc3,hm4,hp5⟩:=H.fR 0 rfl
 obtain ⟨A6,c7,rfl,hc8,hm9,hp10⟩:=H.fR 1 rfl
 obtain ⟨A11,c12,rfl,hc13,hm14,hp15⟩:=H.fR 2 rfl
 obtain ⟨A16,c17,rfl,hc18,hm19,hp20⟩:=H.fR 3 rfl
 obtain ⟨A21,c22,rfl,hc23,hm24,hp25⟩:=H.fR 4 rfl
 refine enter Tryz.func38 U U (Nat.le_of_ble_eq_true U) (Aa (Ae (CZ U U U U H (fun b26 w H=>(Ad U (Ab (Z ?_)))))))
 replace H:Hd _ _ _ [blk b26 [.slice A1 J.us.length c2,.int .i64 J.parts,.slice A6 J.map.length c7,.slice A11 J.comb.length c12,.slice A16 J.red.length c17,.int .i64 J.chunk,.int .i64 J.window,.int .i64 J.fuel,.slice A21 J.marks.length c22] 26] [Ac (At Ag) (.slice A1 J.us.length c2) J.us,Ac Af (.slice A6 J.map.length c7) J.map,Ac Af (.slice A11 J.comb.length c12) J.comb,Ac Af (.slice A16 J.red.length c17) J.red,Ac (Ai .i64) (.slice A21 J.marks.length c22) J.marks]:=H
 refine Aa (Aa (Ae (V U U (Aj U EM U) (V U U (Am U EW U (H.cellI 0 U U)) (V U U (Bj U Fp U) (sc (G0 ((J.us.length:Nat):Int) 1 6) H l0 U U (Av GM U U) ?_))))))
 rintro _ _ w ⟨rfl,rfl⟩ H
 refine V U U (D4 U U) (Ad U ?_)
 refine AQ (d:=13) U (fun h27=>?_) (fun h27=>?_)
 ·refine Ah 11 U (Ab (Z (CN U (Aa (Ae (Ad U (Ab (Z (An (AA (Ap U U ?_)))))))))))
  replace H:=H.nil
  have e:¬ Ev J:=by
    rintro ⟨g1,g2,g3,g4,g5,g6,g7,g8,g9,g10,g11⟩
    omega
  exact Al ⟨congrArg Value.bool (decide_eq_false e).symm,rfl⟩ H
 refine V U U (Aj U Jv U) (V U U (Am U AE U (H.cellI 0 U U)) (sc (G0 J.parts 1 4) H l0 U U (Av GM U U) ?_))
 rintro _ _ w ⟨rfl,rfl⟩ H
 refine V U U (D4 U U) (Ah 2 U ?_)
 refine AQ (d:=19) U (fun h28=>?_) (fun h28=>?_)
 ·refine Ah 5 U (Ab (Z (CN U (Aa (Ae (Ad U (Ab (Z (An (AA (Ap U U ?_)))))))))))
  replace H:=H.nil
  have e:¬ Ev J:=by
    rintro ⟨g1,g2,g3,g4,g5,g6,g7,g8,g9,g10,g11⟩
    omega
  exact Al ⟨congrArg Value.bool (decide_eq_false e).symm,rfl⟩ H
 refine V U U (Aj U II U) (V U U (Am U DY U (H.cellI 0 U U)) (V U U (Bj U EA U) (V U U (CH U U U) (Ad U (Ab (Z ?_))))))
 refine AC U (fun h29=>?_) (fun h29=>?_)
 ·refine Aa (Ae (Ad U (Ab (Z (An (AA (Ap U U ?_)))))))
  replace H:=H.nil
  have e:¬ Ev J:=by
    rintro ⟨g1,g2,g3,g4,g5,g6,g7,g8,g9,g10,g11⟩
    omega
  exact Al ⟨congrArg Value.bool (decide_eq_false e).symm,rfl⟩ H
 refine Az (Z (Aa (Aa (Ae (V U U (Aj U EM U) (V U U (Am U EW U (H.cellI 0 U U)) (V U U (Bj U Fp U) (Ad U (Ab (Z (AW (B1 (σ:=Nat) (fun k=>[(1,.pointer (some ⟨b26,0,none⟩)),(26,.slice A1 J.us.length c2),(27,.int .i64 ((J.us.length:Nat):Int)),(28,.int .i64 ((k:Nat):Int))]) (fun k w=>(Hd w0 F0 w [blk b26 [.slice A1 J.us.length c2,.int .i64 J.parts,.slice A6 J.map.length c7,.slice A11 J.comb.length c12,.slice A16 J.red.length c17,.int .i64 J.chunk,.int .i64 J.window,.int .i64 J.fuel,.slice A21 J.marks.length c22] 26] [Ac (At Ag) (.slice A1 J.us.length c2) J.us,Ac Af (.slice A6 J.map.length c7) J.map,Ac Af (.slice A11 J.comb.length c12) J.comb,Ac Af (.slice A16 J.red.length c17) J.red,Ac (Ai .i64) (.slice A21 J.marks.length c22) J.marks])∧(k≤J.us.length)∧(∀ u∈J.us.take k,HL u.2)) (fun k=>J.us.length - k) 0 ⟨rfl,rfl,rfl,rfl,trivial⟩ ⟨H,by omega,by simp⟩ ?_))))))))))))
 rintro k w ⟨H,hk,hn⟩
 refine Aa (Ae (V U U (Br U U U) (Ab (Z (Aa ?_)))))
 refine AC U (fun h30=>?_) (fun h30=>?_)
 ·refine Az (Z (Aa (AW (Aa (Ae ?_)))))
  obtain ⟨⟨u33,x31⟩,hx32⟩:∃ z9,J.us[k]?=some z9:=⟨_,List.getElem?_eq_getElem (show k<J.us.length by omega)⟩
  obtain ⟨A34,c35,rfl,hc36,hm37⟩:=H.nestR 0 rfl hx32
  have th38:=H.thRd 0 rfl hx32
  refine V U U (Bi (p:=Ba A1+k*1) U Gy U U (by omega) (by omega) th38 U) (V U U (Am U DJ U (H.elRd 0 U hx32 U)) (Ad U (Ab (Z (Aa (Ae (Ad U (V U U (Bj U Dt U) (V U U (CH U U U) (Ad U ?_))))))))))
  refine AQ (d:=35) U (fun h39=>?_) (fun h39=>?_)
  ·refine Ah 4 U (Ab (Z (CN U (Aa (Ae (Ad U (Ab (Z (An (AZ (AA (AA (AZ (AA (Ap U U ?_)))))))))))))))
   replace H:=H.nil
   have e:¬ Ev J:=by
     rintro ⟨g1,g2,g3,g4,g5,g6,g7,g8,g9,g10,g11⟩
     have g:=g4 _ (CA hx32);have ga:x31.length≤8:=g.1;first |exact (h39 g.2).elim|omega
   exact Al ⟨congrArg Value.bool (decide_eq_false e).symm,rfl⟩ H
  refine Ad U (sc (RN (.slice A34 x31.length c35) x31) H (lX (fun F hA hR=>JJ (hR _ (List.mem_of_getElem? (i:=0) U)) hx32) l0) U U (Av QM U U) ?_)
  rintro _ _ w ⟨rfl,rfl⟩ H
  refine V U U (D4 U U) (Ad U (Ab (Z ?_)))
  refine AC U (fun h40=>?_) (fun h40=>?_)
  ·refine Aa (Ae (Ad U (Ab (Z (An (AZ (AA (AA (AZ (AA (Ap U U ?_)))))))))))
   replace H:=H.nil
   have e:¬ Ev J:=by
     rintro ⟨g1,g2,g3,g4,g5,g6,g7,g8,g9,g10,g11⟩
     have g:=g4 _ (CA hx32);have ga:x31.length≤8:=g.1;first |exact (h40 g.2).elim|omega
   exact Al ⟨congrArg Value.bool (decide_eq_false e).symm,rfl⟩ H
  refine Az (Bb (Z (Ae (V U U (Bc (z:=((k+1:Nat):Int)) U U U (by rw [AI (by omega) (by omega)];omega)) (Ad U (Ab ?_))))))
  have hn2:=J8 (Q:=fun u:Value×List Aq=>HL u.2) hn hx32 ⟨(show x31.length≤8 by omega),Classical.not_not.1 h40⟩
  exact Bo (s:=k) (k+1) ⟨rfl,rfl,rfl,rfl,trivial⟩ ⟨H,by (try dsimp only);omega,hn2⟩ (by (try dsimp only);omega)
 refine BQ (AV (AV (BS (Z (Aa (Ae (Ad U (Ab (Z (Aa (Aa (Ae (V U U (Aj U II U) (V U U (Am U DY U (H.cellI 0 U U)) (V U U (Bj U EA U) (Ad U (Ab (Z (AW ?_)))))))))))))))))))
 have hal:∀ u∈J.us,HL u.2:=by rw [←GX (xs:=J.us) (k:=k) (by omega)];exact hn
 refine B1 (σ:=Nat×Int) (fun (j,last)=>[(1,.pointer (some ⟨b26,0,none⟩)),(5,.int .i64 last),(42,.slice A21 J.marks.length c22),(43,.int .i64 ((J.marks.length:Nat):Int)),(44,.int .i64 ((j:Nat):Int))]) (fun (j,last) w=>(Hd w0 F0 w [blk b26 [.slice A1 J.us.length c2,.int .i64 J.parts,.slice A6 J.map.length c7,.slice A11 J.comb.length c12,.slice A16 J.red.length c17,.int .i64 J.chunk,.int .i64 J.window,.int .i64 J.fuel,.slice A21 J.marks.length c22] 26] [Ac (At Ag) (.slice A1 J.us.length c2) J.us,Ac Af (.slice A6 J.map.length c7) J.map,Ac Af (.slice A11 J.comb.length c12) J.comb,Ac Af (.slice A16 J.red.length c17) J.red,Ac (Ai .i64) (.slice A21 J.marks.length c22) J.marks])∧(j≤J.marks.length∧0≤last∧last≤6)∧(He J.us.length last (J.marks.drop j)↔He J.us.length 0 J.marks)) (fun (j,last)=>J.marks.length - j) (0,0) ⟨rfl,rfl,rfl,rfl,rfl,trivial⟩ ⟨H,by (try dsimp only);omega,Iff.rfl⟩ ?_
 rintro ⟨j,last⟩ w ⟨H,hj,hm⟩
 refine Aa (Ae (V U U (Br U U U) (Ab (Z (Aa ?_)))))
 refine AC U (fun h41=>?_) (fun h41=>?_)
 ·refine Az (Z (Aa (AW (Aa (Ae ?_)))))
  obtain ⟨x42,hx43⟩:∃ z9,J.marks[j]?=some z9:=⟨_,List.getElem?_eq_getElem (show j<J.marks.length by omega)⟩
  have th44:=H.thR 4 rfl hx43
  refine V U U (Bi (p:=Ba A21+j*1) U DE U U (by omega) (by omega) th44 U) (V U U (Am U AE U (H.elR 4 U hx43 (q:=0) U U)) (Ad U (Ab (Z (Aa (Aa (Ae (Ah 2 U (V U U (Bc (z:=last+1) U U U (AI (by omega) (by omega))) (V U U (Aj U EM U) (V U U (Am U EW U (H.cellI 0 U U)) (V U U (Bj U Fp U) (sc (G0 x42 (last+1) ((J.us.length:Nat):Int)) H l0 U U (Av GM U U) ?_)))))))))))))
  rintro _ _ w ⟨rfl,rfl⟩ H
  refine V U U (D4 U U) (Ab (Z ?_))
  refine AC U (fun h45=>?_) (fun h45=>?_)
  ·refine Aa (Ae (Ad U (Ab (Z (An (AA (AZ (AA (AA (AZ (AA (Ap U U ?_))))))))))))
   replace H:=H.nil
   have e:¬ Ev J:=by
     rintro ⟨g1,g2,g3,g4,g5,g6,g7,g8,g9,g10,g11⟩
     have g:=hm.2 g5;rw [FJ hx43] at g;have g0:=g.1;omega
   exact Al ⟨congrArg Value.bool (decide_eq_false e).symm,rfl⟩ H
  refine Az (Z (Ae (Ah 2 U (Ab (Bb (Z (Ae (V U U (Bc (z:=((j+1:Nat):Int)) U U U (by rw [AI (by omega) (by omega)];omega)) (Ad U (Ab ?_))))))))))
  have hm2:He J.us.length x42 (J.marks.drop (j+1))↔He J.us.length 0 J.marks:=by rw [←hm,FJ hx43];exact ⟨fun g=>⟨by omega,g⟩,fun g=>g.2⟩
  exact Bo (s:=(j,last)) (j+1,x42) ⟨rfl,rfl,rfl,rfl,rfl,trivial⟩ ⟨H,by (try dsimp only);omega,hm2⟩ (by (try dsimp only);omega)
 refine BQ (AV (AV (BS (Z (Aa (Ae (V U U (Aj U Jw U) (V U U (Am U E8 U (H.cellI 0 U U)) (sc (Qi (.slice A6 J.map.length c7) J.map) H (lR 1 U l0) U U (Av QN U U) ?_)))))))))
 rintro _ _ w ⟨rfl,rfl⟩ H
 refine Ad U ?_
 refine AQ (d:=61) U (fun h46=>?_) (fun h46=>?_)
 ·refine V U U (Aj U IH U) (V U U (Am U E8 U (H.cellI 0 U U)) (sc (Qi (.slice A16 J.red.length c17) J.red) H (lR 3 U l0) U U (Av QN U U) ?_))
  rintro _ _ w ⟨rfl,rfl⟩ H
  refine Ah 2 U ?_
  refine AQ (d:=66) U (fun h47=>?_) (fun h47=>?_)
  ·refine V U U (Aj U Jx U) (V U U (Am U E8 U (H.cellI 0 U U)) (sc (Nc (.slice A11 J.comb.length c12) J.comb) H (lR 2 U l0) U U (Av MK U U) ?_))
   rintro _ _ w ⟨rfl,rfl⟩ H
   refine Ah 2 U ?_
   refine AQ (d:=71) U (fun h48=>?_) (fun h48=>?_)
   ·refine V U U (Aj U PA U) (V U U (Am U AE U (H.cellI 0 U U)) (sc (G0 J.chunk 1 7) H l0 U U (Av GM U U) ?_))
    rintro _ _ w ⟨rfl,rfl⟩ H
    refine Ah 2 U ?_
    refine AQ (d:=76) U (fun h49=>?_) (fun h49=>?_)
    ·refine V U U (Aj U Vy U) (V U U (Am U AE U (H.cellI 0 U U)) (sc (G0 J.window 1 4) H l0 U U (Av GM U U) ?_))
     rintro _ _ w ⟨rfl,rfl⟩ H
     refine Ah 2 U ?_
     refine AQ (d:=81) U (fun h50=>?_) (fun h50=>?_)
     ·refine V U U (Aj U PB U) (V U U (Am U AE U (H.cellI 0 U U)) (sc (G0 J.fuel 1 2000) H l0 U U (Av GM U U) ?_))
      rintro _ _ w ⟨rfl,rfl⟩ H
      refine Ah 2 U (Ab (Z (An (Ap U U ?_))))
      replace H:=H.nil
      have hmk:He J.us.length 0 J.marks:=hm.1 (by rw [List.drop_eq_nil_of_le (by omega)];trivial)
      have e:(1≤J.fuel∧J.fuel≤2000)↔Ev J:=⟨fun g=>⟨by omega,by omega,by omega,hal,hmk,by omega,by omega,by omega,by omega,by omega,by omega⟩,fun g=>by have g6:=g.2.2.2.2.2;omega⟩
      exact Al ⟨congrArg Value.bool (decide_eq_decide.2 e),rfl⟩ H
     refine Ah 5 U (Ab (Z (An (Ap U U ?_))))
     replace H:=H.nil
     have e:¬ Ev J:=by
       rintro ⟨g1,g2,g3,g4,g5,g6,g7,g8,g9,g10,g11⟩
       omega
     exact Al ⟨congrArg Value.bool (decide_eq_false e).symm,rfl⟩ H
    refine Ah 10 U (Ab (Z (An (Ap U U ?_))))
    replace H:=H.nil
    have e:¬ Ev J:=by
      rintro ⟨g1,g2,g3,g4,g5,g6,g7,g8,g9,g10,g11⟩
      omega
    exact Al ⟨congrArg Value.bool (decide_eq_false e).symm,rfl⟩ H
   refine Ah 12 U (Ah 3 U (Ab (Z (An (Ap U U ?_)))))
   replace H:=H.nil
   have e:¬ Ev J:=by
     rintro ⟨g1,g2,g3,g4,g5,g6,g7,g8,g9,g10,g11⟩
     omega
   exact Al ⟨congrArg Value.bool (decide_eq_false e).symm,rfl⟩ H
  refine Ah 12 U (Ah 8 U (Ab (Z (An (Ap U U ?_)))))
  replace H:=H.nil
  have e:¬ Ev J:=by
    rintro ⟨g1,g2,g3,g4,g5,g6,g7,g8,g9,g10,g11⟩
    omega
  exact Al ⟨congrArg Value.bool (decide_eq_false e).symm,rfl⟩ H
 refine Ah 12 U (Ah 12 U (Ad U (Ab (Z (An (Ap U U ?_))))))
 replace H:=H.nil
 have e:¬ Ev J:=by
   rintro ⟨g1,g2,g3,g4,g5,g6,g7,g8,g9,g10,g11⟩
   omega
 exact Al ⟨congrArg Value.bool (decide_eq_false e).symm,rfl⟩ H
theorem VT (vS vM vC vR vK:Value) (J:AR):
    Cn Tryz.prog 8 [.agg #[vS,.int .i64 J.parts,vM,vC,vR,.int .i64 J.chunk,.int .i64 J.window,.int .i64 J.fuel,vK]] [] [Ac (At Ag) vS J.us,Ac Af vM J.map,Ac Af vC J.comb,Ac Af vR J.red,Ac (Ai .i64) vK J.marks] (fun v Bs=>v=.bool (HD J)∧Bs=[]):=by
 intro w0 F0 H
 obtain ⟨A1,c2,rfl,hc3,hm4,hp5⟩:=H.fR 0 rfl
 obtain ⟨A6,c7,rfl,hc8,hm9,hp10⟩:=H.fR 1 rfl
 obtain ⟨A11,c12,rfl,hc13,hm14,hp15⟩:=H.fR 2 rfl
 obtain ⟨A16,c17,rfl,hc18,hm19,hp20⟩:=H.fR 3 rfl
 obtain ⟨A21,c22,rfl,hc23,hm24,hp25⟩:=H.fR 4 rfl
 refine enter Tryz.func8 U U (Nat.le_of_ble_eq_true U) (Aa (Ae (CZ U U U U H (fun b26 w H=>(Ad U (Ab (Z ?_)))))))
 replace H:Hd _ _ _ [blk b26 [.slice A1 J.us.length c2,.int .i64 J.parts,.slice A6 J.map.length c7,.slice A11 J.comb.length c12,.slice A16 J.red.length c17,.int .i64 J.chunk,.int .i64 J.window,.int .i64 J.fuel,.slice A21 J.marks.length c22] 26] [Ac (At Ag) (.slice A1 J.us.length c2) J.us,Ac Af (.slice A6 J.map.length c7) J.map,Ac Af (.slice A11 J.comb.length c12) J.comb,Ac Af (.slice A16 J.red.length c17) J.red,Ac (Ai .i64) (.slice A21 J.marks.length c22) J.marks]:=H
 refine Aa (Aa (Ae (Ad U (Ab (Z (AW (B1 (σ:=Nat) (fun k=>[(1,.pointer (some ⟨b26,0,none⟩)),(3,.int .i64 ((k:Nat):Int))]) (fun k w=>(Hd w0 F0 w [blk b26 [.slice A1 J.us.length c2,.int .i64 J.parts,.slice A6 J.map.length c7,.slice A11 J.comb.length c12,.slice A16 J.red.length c17,.int .i64 J.chunk,.int .i64 J.window,.int .i64 J.fuel,.slice A21 J.marks.length c22] 26] [Ac (At Ag) (.slice A1 J.us.length c2) J.us,Ac Af (.slice A6 J.map.length c7) J.map,Ac Af (.slice A11 J.comb.length c12) J.comb,Ac Af (.slice A16 J.red.length c17) J.red,Ac (Ai .i64) (.slice A21 J.marks.length c22) J.marks])∧(k≤J.us.length)∧(∀ u∈J.us.take k,FK u.2 10=false)) (fun k=>J.us.length - k) 0 ⟨rfl,rfl,trivial⟩ ⟨H,by omega,by simp⟩ ?_)))))))
 rintro k w ⟨H,hk,hn⟩
 refine Aa (Aa (Ae (Ad U (V U U (Aj U EM U) (V U U (Am U EW U (H.cellI 0 U U)) (V U U (Bj U Fp U) (V U U (Br U U U) (Ad U ?_))))))))
 refine AQ (d:=9) U (fun h27=>?_) (fun h27=>?_)
 ·refine V U U (Aj U EM U) (V U U (Am U EW U (H.cellI 0 U U)) (V U U (Bj U Fp U) (V U U (CD U U U) (Ad U (Ab (Z ?_))))))
  refine AC U (fun h28=>?_) (fun h28=>?_)
  ·refine Az (Z (Aa (AW (Aa (Ae (V U U (Aj U EM U) (V U U (Am U EW U (H.cellI 0 U U)) (Ad U ?_))))))))
   obtain ⟨⟨u31,x29⟩,hx30⟩:∃ z9,J.us[k]?=some z9:=⟨_,List.getElem?_eq_getElem (show k<J.us.length by omega)⟩
   obtain ⟨A32,c33,rfl,hc34,hm35⟩:=H.nestR 0 rfl hx30
   have th36:=H.thRd 0 rfl hx30
   refine V U U (Bi (p:=Ba A1+k*1) U Gy U U (by omega) (by omega) th36 U) (V U U (Am U DJ U (H.elRd 0 U hx30 U)) (sc (VU (.slice A32 x29.length c33) x29 10) H (lX (fun F hA hR=>JJ (hR _ (List.mem_of_getElem? (i:=0) U)) hx30) l0) U U (Av XL U U) ?_))
   rintro _ _ w ⟨rfl,rfl⟩ H
   refine Ab (Z ?_)
   refine Dp (b:=FK x29 10) U (fun h37=>?_) (fun h37=>?_)
   ·refine Aa (Ae (Ad U (Ab (Z (An (AZ (AA (AA (AZ (AA (Ap U U ?_)))))))))))
    replace H:=H.nil
    exact Al ⟨congrArg Value.bool (VS hx30 h37),rfl⟩ H
   refine Az (Bb (Z (Ae (Ad U (V U U (Bc (z:=((k+1:Nat):Int)) U U U (by rw [AI (by omega) (by omega)];omega)) (Ad U (Ab ?_)))))))
   have hn2:=J8 (Q:=fun u:Value×List Aq=>FK u.2 10=false) hn hx30 (show FK x29 10=false by simpa using h37)
   exact Bo (s:=k) (k+1) ⟨rfl,rfl,trivial⟩ ⟨H,by (try dsimp only);omega,hn2⟩ (by (try dsimp only);omega)
  refine BQ (AV (AV (BS (Z (Aa (Ae (V U U (Aj U EM U) (V U U (Am U EW U (H.cellI 0 U U)) (V U U (Bj U Fp U) (V U U (CH U U U) (Ad U ?_)))))))))))
  refine AQ (d:=27) U (fun h38=>?_) (fun h38=>?_)
  ·refine Ah 12 U (Ah 9 U (Ab (Z (An (Ap U U ?_)))))
   replace H:=H.nil
   exact Al ⟨congrArg Value.bool (HE (by first |exact .inl (by omega)|exact .inr (.inl (by omega))|exact .inr (.inr (.inl h38))|exact .inr (.inr (.inr h38)))),rfl⟩ H
  refine V U U (Aj U II U) (V U U (Am U DY U (H.cellI 0 U U)) (V U U (Bj U EA U) (V U U (CH U U U) (Ah 2 U ?_))))
  refine AQ (d:=33) U (fun h39=>?_) (fun h39=>?_)
  ·refine Ah 12 U (Ah 3 U (Ab (Z (An (Ap U U ?_)))))
   replace H:=H.nil
   exact Al ⟨congrArg Value.bool (HE (by first |exact .inl (by omega)|exact .inr (.inl (by omega))|exact .inr (.inr (.inl h39))|exact .inr (.inr (.inr h39)))),rfl⟩ H
  refine V U U (Aj U Jw U) (V U U (Am U E8 U (H.cellI 0 U U)) (sc (IK (.slice A6 J.map.length c7) J.map) H (lR 1 U l0) U U (Av IR U U) ?_))
  rintro _ _ w ⟨rfl,rfl⟩ H
  refine Ah 2 U ?_
  refine FC (d:=38) (b:=Fm J.map) U (fun h40=>?_) (fun h40=>?_)
  ·refine Ah 10 U (Ab (Z (An (Ap U U ?_))))
   replace H:=H.nil
   exact Al ⟨congrArg Value.bool (HE (by first |exact .inl (by omega)|exact .inr (.inl (by omega))|exact .inr (.inr (.inl h40))|exact .inr (.inr (.inr h40)))),rfl⟩ H
  refine V U U (Aj U Jx U) (V U U (Am U E8 U (H.cellI 0 U U)) (sc (IK (.slice A11 J.comb.length c12) J.comb) H (lR 2 U l0) U U (Av IR U U) ?_))
  rintro _ _ w ⟨rfl,rfl⟩ H
  refine Ah 2 U ?_
  refine FC (d:=43) (b:=Fm J.comb) U (fun h41=>?_) (fun h41=>?_)
  ·refine Ah 5 U (Ab (Z (An (Ap U U ?_))))
   replace H:=H.nil
   exact Al ⟨congrArg Value.bool (HE (by first |exact .inl (by omega)|exact .inr (.inl (by omega))|exact .inr (.inr (.inl h41))|exact .inr (.inr (.inr h41)))),rfl⟩ H
  refine V U U (Aj U IH U) (V U U (Am U E8 U (H.cellI 0 U U)) (sc (IK (.slice A16 J.red.length c17) J.red) H (lR 3 U l0) U U (Av IR U U) ?_))
  rintro _ _ w ⟨rfl,rfl⟩ H
  refine Ah 2 U (Ab (Z (An (Ap U U ?_))))
  replace H:=H.nil
  exact Al ⟨congrArg Value.bool (P0 hn (by omega) (by omega) (by omega) (by simpa using h40) (by simpa using h41)),rfl⟩ H
 refine Ah 5 U (Ab (Z (Ch U (BQ (AV (AV (BS (Z (Aa (Ae (V U U (Aj U EM U) (V U U (Am U EW U (H.cellI 0 U U)) (V U U (Bj U Fp U) (V U U (CH U U U) (Ad U ?_)))))))))))))))
 refine AQ (d:=27) U (fun h42=>?_) (fun h42=>?_)
 ·refine Ah 12 U (Ah 9 U (Ab (Z (An (Ap U U ?_)))))
  replace H:=H.nil
  exact Al ⟨congrArg Value.bool (HE (by first |exact .inl (by omega)|exact .inr (.inl (by omega))|exact .inr (.inr (.inl h42))|exact .inr (.inr (.inr h42)))),rfl⟩ H
 refine V U U (Aj U II U) (V U U (Am U DY U (H.cellI 0 U U)) (V U U (Bj U EA U) (V U U (CH U U U) (Ah 2 U ?_))))
 refine AQ (d:=33) U (fun h43=>?_) (fun h43=>?_)
 ·refine Ah 12 U (Ah 3 U (Ab (Z (An (Ap U U ?_)))))
  replace H:=H.nil
  exact Al ⟨congrArg Value.bool (HE (by first |exact .inl (by omega)|exact .inr (.inl (by omega))|exact .inr (.inr (.inl h43))|exact .inr (.inr (.inr h43)))),rfl⟩ H
 refine V U U (Aj U Jw U) (V U U (Am U E8 U (H.cellI 0 U U)) (sc (IK (.slice A6 J.map.length c7) J.map) H (lR 1 U l0) U U (Av IR U U) ?_))
 rintro _ _ w ⟨rfl,rfl⟩ H
 refine Ah 2 U ?_
 refine FC (d:=38) (b:=Fm J.map) U (fun h44=>?_) (fun h44=>?_)
 ·refine Ah 10 U (Ab (Z (An (Ap U U ?_))))
  replace H:=H.nil
  exact Al ⟨congrArg Value.bool (HE (by first |exact .inl (by omega)|exact .inr (.inl (by omega))|exact .inr (.inr (.inl h44))|exact .inr (.inr (.inr h44)))),rfl⟩ H
 refine V U U (Aj U Jx U) (V U U (Am U E8 U (H.cellI 0 U U)) (sc (IK (.slice A11 J.comb.length c12) J.comb) H (lR 2 U l0) U U (Av IR U U) ?_))
 rintro _ _ w ⟨rfl,rfl⟩ H
 refine Ah 2 U ?_
 refine FC (d:=43) (b:=Fm J.comb) U (fun h45=>?_) (fun h45=>?_)
 ·refine Ah 5 U (Ab (Z (An (Ap U U ?_))))
  replace H:=H.nil
  exact Al ⟨congrArg Value.bool (HE (by first |exact .inl (by omega)|exact .inr (.inl (by omega))|exact .inr (.inr (.inl h45))|exact .inr (.inr (.inr h45)))),rfl⟩ H
 refine V U U (Aj U IH U) (V U U (Am U E8 U (H.cellI 0 U U)) (sc (IK (.slice A16 J.red.length c17) J.red) H (lR 3 U l0) U U (Av IR U U) ?_))
 rintro _ _ w ⟨rfl,rfl⟩ H
 refine Ah 2 U (Ab (Z (An (Ap U U ?_))))
 replace H:=H.nil
 exact Al ⟨congrArg Value.bool (P0 hn (by omega) (by omega) (by omega) (by simpa using h44) (by simpa using h45)),rfl⟩ H
theorem Zz (key:ByteArray) (hb0:key.size≤9223372036854775807):
    Cn Tryz.prog 264 [.string key] [] [] (fun v Bs=>v=.int .u32 (EE key key.size)∧Bs=[]):=by
 intro w0 F0 H
 refine enter Tryz.func264 U U (Nat.le_of_ble_eq_true U) (Aa (Ae (Ad U (Ab (Z (Aa (Ae (Ad U (Ab (Z (Aa (Aa (Ae (Ad U (V U U (DN U CK U) (Ad U (Ab (Z (AW (B1 (σ:=Nat) (fun k=>[(0,.string key),(2,.int .u32 0),(3,.int .u32 (EE key k)),(6,.int .i64 ((key.size:Nat):Int)),(7,.int .i64 ((k:Nat):Int))]) (fun k w=>(Hd w0 F0 w [] [])∧(k≤key.size)) (fun k=>key.size - k) 0 ⟨rfl,rfl,rfl,rfl,rfl,trivial⟩ ⟨H,by (try dsimp only);omega⟩ ?_))))))))))))))))))))
 rintro k w ⟨H,hk⟩
 refine Aa (Ae (V U U (Br U U U) (Ab (Z (Aa ?_)))))
 refine AC U (fun h1=>?_) (fun h1=>?_)
 ·refine Az (Z (Aa (AW (Aa (Ae (Ah 2 U (Ab (Z (Ae (Ad U (V U U (HN (z:=IntKind.u32.wrap (31*EE key k)) U U U U) (Ah 2 U ?_))))))))))))
  obtain ⟨b,hb⟩:∃ b,key[k]?=some b:=⟨_,getElem?_pos key k (by omega)⟩
  exact V U U (JQ U CK U U (by omega) hb) (V U U (DC (z:=((b).toNat:Int)) U U HV Te (f5 b)) (V U U (Bc (z:=IntKind.u32.wrap (IntKind.u32.wrap (31*EE key k)+(b.toNat:Int))) U U U U) (Ad U (Ab (Bb (Z (Ae (V U U (Bc (z:=((k+1:Nat):Int)) U U U (by rw [AI (by omega) (by omega)];omega)) (Ad U (Ab (Bo (s:=k) (k+1) ⟨rfl,rfl,congrArg (fun z=>some (Value.int .u32 z)) (Y0 hb).symm,rfl,rfl,trivial⟩ ⟨H,by (try dsimp only);omega⟩ (by (try dsimp only);omega))))))))))))
 refine BQ (AV (AV (BS (Z (Aa (Ae (Ah 2 U (Ab (Z (An (Ap U U ?_)))))))))))
 obtain rfl:k=key.size:=by omega
 exact Al ⟨rfl,rfl⟩ H
theorem ZA (key:ByteArray) (n:Int) (hb0:key.size≤9223372036854775807) (hn:n≤9223372036854775807):
    Cn Tryz.prog 251 [.string key,.int .i64 n] [] [] (fun v Bs=>v=.int .i64 (Lb key n)∧Bs=[]):=by
 intro w0 F0 H
 refine enter Tryz.func251 U U (Nat.le_of_ble_eq_true U) (Aa (Ae (Ad U (Ab (Z (Aa (Aa (Ae (Ad U (V U U (Br U U U) (Ab (Z ?_))))))))))))
 refine AC U (fun h1=>?_) (fun h1=>?_)
 ·exact Aa (Ae (Ad U (Ab (Z (An (AA (Ap U U (Al ⟨congrArg (Value.int .i64) (if_pos h1).symm,rfl⟩ H))))))))
 refine Az (Z (Aa (Ae (Ad U (sc (Zz key (by first |omega|decide)) H l0 U U (Av Xj U U) ?_)))))
 rintro _ _ w ⟨rfl,rfl⟩ H
 exact V U U (DC (z:=EE key key.size) U U Te Is (Fr (M4 key key.size).1 (by have:=(M4 key key.size).2;omega))) (Ad U (V U U (DC (z:=n) U U Dm Is (Fr (by omega) (by omega))) (V U U (IY (z:=(EE key key.size)%n) U U U (by omega) (Int.tmod_eq_emod_of_nonneg (M4 key key.size).1)) (V U U (DC (z:=(EE key key.size)%n) U U Is Dm (AI (by have:=Int.emod_nonneg (EE key key.size) (show n≠0 by omega);omega) (by have:=Int.emod_lt_of_pos (EE key key.size) (show 0<n by omega);omega))) (Ad U (Ab (Z (An (Ap U U (Al ⟨congrArg (Value.int .i64) (if_neg h1).symm,rfl⟩ H))))))))))
theorem Zb (vxs:Value) (xs:List Aq) (n:Int) (p:Int) (hb:xs.length≤1000000) (hn:n≤9223372036854775807) (hk:∀ x∈xs,x.key.size≤9223372036854775807):
    Cn Tryz.prog 229 [vxs,.int .i64 n,.int .i64 p] [] [Ac Ag vxs xs] (fun v Bs=>Bs=[Y Ag v (FB xs n p)]):=by
 intro w0 F0 H
 obtain ⟨A1,c2,rfl,hc3,hm4,hp5⟩:=H.fR 0 rfl
 refine enter Tryz.func229 U U (Nat.le_of_ble_eq_true U) (Aa (Ae (Ad U (Ab (Z ?_)))))
 replace H:Hd _ _ _ [] [Ac Ag (.slice A1 xs.length c2) xs]:=H
 refine Aa (Ae (Ad U (Ab (Z (Aa (Aa (Ae (Ad U (V U U (Bj U Dt U) (Ad U (Ab (Z (AW ?_)))))))))))))
 replace H:=H.newnil Ag
 refine B1 (σ:=Nat×Value) (fun (k,l)=>[(1,.int .i64 n),(2,.int .i64 p),(6,.slice none 0 0),(7,l),(10,.slice A1 xs.length c2),(11,.int .i64 ((xs.length:Nat):Int)),(12,.int .i64 ((k:Nat):Int))]) (fun (k,l) w=>(Hd w0 F0 w [Y Ag l (FB (xs.take k) n p)] [Ac Ag (.slice A1 xs.length c2) xs])∧(k≤xs.length)) (fun (k,l)=>xs.length - k) (0,.slice none 0 0) ⟨rfl,rfl,rfl,rfl,rfl,rfl,rfl,trivial⟩ ⟨H,by (try dsimp only);omega⟩ ?_
 rintro ⟨k,l⟩ w ⟨H,hk0⟩
 have hjl:=RI (xs.take k) n p
 have hjt:(xs.take k).length≤xs.length:=by simp;omega
 refine Aa (Ae (V U U (Br U U U) (Ab (Z (Aa ?_)))))
 refine AC U (fun h6=>?_) (fun h6=>?_)
 ·refine Az (Z (Aa (AW (Aa (Ae ?_)))))
  obtain ⟨x7,hx8⟩:∃ z9,xs[k]?=some z9:=⟨_,List.getElem?_eq_getElem (show k<xs.length by omega)⟩
  have th9:=H.thR 0 rfl hx8
  refine V U U (Bi (p:=Ba A1+k*2) U BM U U (by omega) (by omega) th9 U) (V U U (BG (cs:=[.string x7.key,.string x7.val]) U CF U U (H.elsR 0 U hx8 U)) (DD U U U Dh H (fun b10 w H=>(Bx U U U CF U U H U (Nat.le_of_ble_eq_true U) (fun u hu=>by simp [Value.cells] at hu;rcases hu with rfl|rfl<;>rfl) (fun w H=>?_)))))
  replace H:=H.h2 (A:=blk b10 [.string x7.key,.string x7.val] 122) (B:=Y Ag l (FB (xs.take k) n p))
  refine Ab (Z (Aa ?_))
  have hkx:=hk _ (CA hx8)
  refine Ae (V U U (Aj U F8 U) (V U U (Am U Cl U (H.cellI 0 U U)) (Ad U (sc (ZA x7.key n (by first |omega|decide) (by first |omega|decide)) H l0 U U (Av Xc U U) ?_))))
  rintro _ _ w ⟨rfl,rfl⟩ H
  refine Ad U (V U U (Bh U U U) (Ab (Z ?_)))
  refine AC U (fun h11=>?_) (fun h11=>?_)
  ·refine Ae (Ad U (V U U (BG (cs:=[.string x7.key,.string x7.val]) U CF U U (H.cellsI 0 U U)) (Cg (parts:=[(0,.tmp 23)]) (vs:=[.agg #[.string x7.key,.string x7.val]]) (cs:=[.string x7.key,.string x7.val]) U U U BM Dh U (by decide) (by decide) U U H (fun b12 w H=>?_))))
   replace H:=H.p2
   refine CE (xs:=FB (xs.take k) n p) (ys:=[x7]) U U U BM Dh U (by decide) U U H (by omega) (fun F hA hR=>CC (hA _ (List.mem_of_getElem? (i:=0) U)) U (by decide) (Be.flat_eq.2 U)) (fun v13 w H=>(Ad U (Ab (Bb (Z ?_)))))
   replace H:Hd _ _ _ [Y Ag v13 ((FB (xs.take k) n p)++[x7]),blk b12 [.string x7.key,.string x7.val] 122,blk b10 [.string x7.key,.string x7.val] 122] [Ac Ag (.slice A1 xs.length c2) xs]:=H
   refine Ae (V U U (Bc (z:=((k+1:Nat):Int)) U U U (by rw [AI (by omega) (by omega)];omega)) (Ad U (Ab ?_)))
   rw [←Zc hx8 h11] at H
   replace H:=H.k1
   exact Bo (s:=(k,undef)) (k+1,v13) ⟨rfl,rfl,rfl,rfl,rfl,rfl,rfl,trivial⟩ ⟨H,by (try dsimp only);omega⟩ (by (try dsimp only);omega)
  refine Az (Bb (Z (Ae (V U U (Bc (z:=((k+1:Nat):Int)) U U U (by rw [AI (by omega) (by omega)];omega)) (Ad U (Ab ?_))))))
  rw [←Za hx8 h11] at H
  replace H:=H.sel 2 [1] [0] rfl (by kernel_rfl)
  exact Bo (s:=(k,undef)) (k+1,l) ⟨rfl,rfl,rfl,rfl,rfl,rfl,rfl,trivial⟩ ⟨H,by (try dsimp only);omega⟩ (by (try dsimp only);omega)
 refine BQ (AV (AV (BS (Z (Aa (Ae (Ah 2 U (Ab (Z (An (Ap U U ?_)))))))))))
 rw [List.take_of_length_le (show xs.length≤k by omega)] at H
 exact Al U H
theorem eD (p:Int) {w:Int} (hw:1≤w): -w<p.tmod w∧p.tmod w<w:=by
 have h1:=Int.lt_tmod_of_pos p (show (0:Int)<w by omega)
 have h2:=Int.tmod_lt_of_pos p (show (0:Int)<w by omega)
 omega
theorem KT (vS:Value) (vM:Value) (vC:Value) (vR:Value) (vK:Value) (C:Cf):
    Cn Tryz.prog 9 [.agg #[vS,.int .i64 C.J.parts,vM,vC,vR,.int .i64 C.J.chunk,.int .i64 C.J.window,.int .i64 C.J.fuel,vK,.int .i64 C.w,.int .i64 C.t,.int .i64 C.o]] [] [Ac (At Ag) vS C.J.us,Ac Af vM C.J.map,Ac Af vC C.J.comb,Ac Af vR C.J.red,Ac (Ai .i64) vK C.J.marks] (fun v Bs=>v=.bool (decide (Dq C))∧Bs=[]):=by
 intro w0 F0 H
 obtain ⟨A1,c2,rfl,hc3,hm4,hp5⟩:=H.fR 0 rfl
 obtain ⟨A6,c7,rfl,hc8,hm9,hp10⟩:=H.fR 1 rfl
 obtain ⟨A11,c12,rfl,hc13,hm14,hp15⟩:=H.fR 2 rfl
 obtain ⟨A16,c17,rfl,hc18,hm19,hp20⟩:=H.fR 3 rfl
 obtain ⟨A21,c22,rfl,hc23,hm24,hp25⟩:=H.fR 4 rfl
 refine enter Tryz.func9 U U (Nat.le_of_ble_eq_true U) (Aa (Ae (CZ U U U U H (fun b26 w H=>(Ad U (Ab (Z ?_)))))))
 replace H:Hd _ _ _ [blk b26 [.slice A1 C.J.us.length c2,.int .i64 C.J.parts,.slice A6 C.J.map.length c7,.slice A11 C.J.comb.length c12,.slice A16 C.J.red.length c17,.int .i64 C.J.chunk,.int .i64 C.J.window,.int .i64 C.J.fuel,.slice A21 C.J.marks.length c22,.int .i64 C.w,.int .i64 C.t,.int .i64 C.o] 28] [Ac (At Ag) (.slice A1 C.J.us.length c2) C.J.us,Ac Af (.slice A6 C.J.map.length c7) C.J.map,Ac Af (.slice A11 C.J.comb.length c12) C.J.comb,Ac Af (.slice A16 C.J.red.length c17) C.J.red,Ac (Ai .i64) (.slice A21 C.J.marks.length c22) C.J.marks]:=H
 refine Aa (Ae (V U U (Aj U DL U) (V U U (BG (cs:=[.slice A1 C.J.us.length c2,.int .i64 C.J.parts,.slice A6 C.J.map.length c7,.slice A11 C.J.comb.length c12,.slice A16 C.J.red.length c17,.int .i64 C.J.chunk,.int .i64 C.J.window,.int .i64 C.J.fuel,.slice A21 C.J.marks.length c22]) U S4 U U (H.cellsI 0 U U)) (sc (Wo (.slice A1 C.J.us.length c2) (.slice A6 C.J.map.length c7) (.slice A11 C.J.comb.length c12) (.slice A16 C.J.red.length c17) (.slice A21 C.J.marks.length c22) C.J) H (lR 0 U (lR 1 U (lR 2 U (lR 3 U (lR 4 U l0))))) U U (Av XM U U) ?_))))
 rintro _ _ w ⟨rfl,rfl⟩ H
 refine Ad U ?_
 refine AQ (d:=6) U (fun h27=>?_) (fun h27=>?_)
 ·refine V U U (Aj U Jy U) (V U U (Am U AE U (H.cellI 0 U U)) (sc (G0 C.w 1 4) H l0 U U (Av GM U U) ?_))
  rintro _ _ w ⟨rfl,rfl⟩ H
  refine Ah 2 U ?_
  refine AQ (d:=11) U (fun h28=>?_) (fun h28=>?_)
  ·refine V U U (Aj U VB U) (V U U (Am U AE U (H.cellI 0 U U)) (sc (G0 C.t 1 3) H l0 U U (Av GM U U) ?_))
   rintro _ _ w ⟨rfl,rfl⟩ H
   refine Ah 2 U ?_
   refine AQ (d:=16) U (fun h29=>?_) (fun h29=>?_)
   ·refine V U U (Aj U VC U) (V U U (Am U AE U (H.cellI 0 U U)) (sc (G0 C.o 1 50) H l0 U U (Av GM U U) ?_))
    rintro _ _ w ⟨rfl,rfl⟩ H
    refine Ah 2 U (Ab (Z ?_))
    replace H:Hd _ _ _ [blk b26 [.slice A1 C.J.us.length c2,.int .i64 C.J.parts,.slice A6 C.J.map.length c7,.slice A11 C.J.comb.length c12,.slice A16 C.J.red.length c17,.int .i64 C.J.chunk,.int .i64 C.J.window,.int .i64 C.J.fuel,.slice A21 C.J.marks.length c22,.int .i64 C.w,.int .i64 C.t,.int .i64 C.o] 28] [Ac (At Ag) (.slice A1 C.J.us.length c2) C.J.us,Ac Af (.slice A6 C.J.map.length c7) C.J.map,Ac Af (.slice A11 C.J.comb.length c12) C.J.comb,Ac Af (.slice A16 C.J.red.length c17) C.J.red,Ac (Ai .i64) (.slice A21 C.J.marks.length c22) C.J.marks]:=H
    refine An (Ap U U ?_)
    replace H:=H.nil
    have e:(1≤C.o∧C.o≤50)↔Dq C:=⟨fun g=>⟨h27,by omega,by omega,by omega⟩,fun g=>by have g2:=g.2;omega⟩
    exact Al ⟨congrArg Value.bool (decide_eq_decide.2 e),rfl⟩ H
   refine Ah 5 U (Ab (Z ?_))
   replace H:Hd _ _ _ [blk b26 [.slice A1 C.J.us.length c2,.int .i64 C.J.parts,.slice A6 C.J.map.length c7,.slice A11 C.J.comb.length c12,.slice A16 C.J.red.length c17,.int .i64 C.J.chunk,.int .i64 C.J.window,.int .i64 C.J.fuel,.slice A21 C.J.marks.length c22,.int .i64 C.w,.int .i64 C.t,.int .i64 C.o] 28] [Ac (At Ag) (.slice A1 C.J.us.length c2) C.J.us,Ac Af (.slice A6 C.J.map.length c7) C.J.map,Ac Af (.slice A11 C.J.comb.length c12) C.J.comb,Ac Af (.slice A16 C.J.red.length c17) C.J.red,Ac (Ai .i64) (.slice A21 C.J.marks.length c22) C.J.marks]:=H
   refine An (Ap U U ?_)
   replace H:=H.nil
   have e:¬ Dq C:=fun h=>by have h1:=h.1;have h2:=h.2;first |exact absurd h1 h27|omega
   exact Al ⟨congrArg Value.bool (decide_eq_false e).symm,rfl⟩ H
  refine Ah 10 U (Ab (Z ?_))
  replace H:Hd _ _ _ [blk b26 [.slice A1 C.J.us.length c2,.int .i64 C.J.parts,.slice A6 C.J.map.length c7,.slice A11 C.J.comb.length c12,.slice A16 C.J.red.length c17,.int .i64 C.J.chunk,.int .i64 C.J.window,.int .i64 C.J.fuel,.slice A21 C.J.marks.length c22,.int .i64 C.w,.int .i64 C.t,.int .i64 C.o] 28] [Ac (At Ag) (.slice A1 C.J.us.length c2) C.J.us,Ac Af (.slice A6 C.J.map.length c7) C.J.map,Ac Af (.slice A11 C.J.comb.length c12) C.J.comb,Ac Af (.slice A16 C.J.red.length c17) C.J.red,Ac (Ai .i64) (.slice A21 C.J.marks.length c22) C.J.marks]:=H
  refine An (Ap U U ?_)
  replace H:=H.nil
  have e:¬ Dq C:=fun h=>by have h1:=h.1;have h2:=h.2;first |exact absurd h1 h27|omega
  exact Al ⟨congrArg Value.bool (decide_eq_false e).symm,rfl⟩ H
 refine Ah 12 U (Ah 3 U (Ab (Z ?_)))
 replace H:Hd _ _ _ [blk b26 [.slice A1 C.J.us.length c2,.int .i64 C.J.parts,.slice A6 C.J.map.length c7,.slice A11 C.J.comb.length c12,.slice A16 C.J.red.length c17,.int .i64 C.J.chunk,.int .i64 C.J.window,.int .i64 C.J.fuel,.slice A21 C.J.marks.length c22,.int .i64 C.w,.int .i64 C.t,.int .i64 C.o] 28] [Ac (At Ag) (.slice A1 C.J.us.length c2) C.J.us,Ac Af (.slice A6 C.J.map.length c7) C.J.map,Ac Af (.slice A11 C.J.comb.length c12) C.J.comb,Ac Af (.slice A16 C.J.red.length c17) C.J.red,Ac (Ai .i64) (.slice A21 C.J.marks.length c22) C.J.marks]:=H
 refine An (Ap U U ?_)
 replace H:=H.nil
 have e:¬ Dq C:=fun h=>by have h1:=h.1;have h2:=h.2;first |exact absurd h1 h27|omega
 exact Al ⟨congrArg Value.bool (decide_eq_false e).symm,rfl⟩ H
theorem Mx (vS:Value) (vM:Value) (vC:Value) (vR:Value) (vK:Value) (C:Cf) (p:Int) (hp:AG p):
    Cn Tryz.prog 130 [.agg #[vS,.int .i64 C.J.parts,vM,vC,vR,.int .i64 C.J.chunk,.int .i64 C.J.window,.int .i64 C.J.fuel,vK,.int .i64 C.w,.int .i64 C.t,.int .i64 C.o],.int .i64 p] [] [Ac (At Ag) vS C.J.us,Ac Af vM C.J.map,Ac Af vC C.J.comb,Ac Af vR C.J.red,Ac (Ai .i64) vK C.J.marks] (fun v Bs=>v=.int .i64 (DV C p)∧Bs=[]):=by
 intro w0 F0 H
 unfold AG at hp
 refine enter Tryz.func130 U U (Nat.le_of_ble_eq_true U) (Aa (Ae (CZ U U U U H (fun b1 w H=>(Ad U (Ab (Z ?_)))))))
 replace H:Hd _ _ _ [blk b1 [vS,.int .i64 C.J.parts,vM,vC,vR,.int .i64 C.J.chunk,.int .i64 C.J.window,.int .i64 C.J.fuel,vK,.int .i64 C.w,.int .i64 C.t,.int .i64 C.o] 28] [Ac (At Ag) vS C.J.us,Ac Af vM C.J.map,Ac Af vC C.J.comb,Ac Af vR C.J.red,Ac (Ai .i64) vK C.J.marks]:=H
 refine Aa (Aa (Ae (V U U (BG (cs:=[vS,.int .i64 C.J.parts,vM,vC,vR,.int .i64 C.J.chunk,.int .i64 C.J.window,.int .i64 C.J.fuel,vK,.int .i64 C.w,.int .i64 C.t,.int .i64 C.o]) U EH U U (H.cellsI 0 U U)) (sc (KT vS vM vC vR vK C) H (lR 0 U (lR 1 U (lR 2 U (lR 3 U (lR 4 U l0))))) U U (Av KM U U) ?_))))
 rintro _ _ w ⟨rfl,rfl⟩ H
 refine V U U (D4 U U) (Ad U ?_)
 refine AQ (d:=8) U (fun h2=>?_) (fun h2=>?_)
 ·refine Ah 8 U (Ab (Z ?_))
  replace H:Hd _ _ _ [blk b1 [vS,.int .i64 C.J.parts,vM,vC,vR,.int .i64 C.J.chunk,.int .i64 C.J.window,.int .i64 C.J.fuel,vK,.int .i64 C.w,.int .i64 C.t,.int .i64 C.o] 28] [Ac (At Ag) vS C.J.us,Ac Af vM C.J.map,Ac Af vC C.J.comb,Ac Af vR C.J.red,Ac (Ai .i64) vK C.J.marks]:=H
  refine CN U (Aa (Ae (Ad U (Ab (Z (An (AA (Ap U U ?_))))))))
  replace H:=H.nil
  exact Al ⟨congrArg (Value.int .i64) (if_pos (by first |exact .inl h2|exact .inr h2)).symm,rfl⟩ H
 have hmc:Dq C:=Classical.not_not.1 h2
 have hm1:=hmc.2
 have hmp:=hmc.1.2.1
 refine Ad U (V U U (Aj U DL U) (V U U (Aj U Jv U) (V U U (Am U AE U (H.cellI 0 U U)) (V U U (CP (z:=C.J.parts - 1) U U U (AI (by omega) (by omega))) (sc (G0 p 0 (C.J.parts - 1)) H l0 U U (Av GM U U) ?_)))))
 rintro _ _ w ⟨rfl,rfl⟩ H
 refine V U U (D4 U U) (Ad U (Ab (Z ?_)))
 replace H:Hd _ _ _ [blk b1 [vS,.int .i64 C.J.parts,vM,vC,vR,.int .i64 C.J.chunk,.int .i64 C.J.window,.int .i64 C.J.fuel,vK,.int .i64 C.w,.int .i64 C.t,.int .i64 C.o] 28] [Ac (At Ag) vS C.J.us,Ac Af vM C.J.map,Ac Af vC C.J.comb,Ac Af vR C.J.red,Ac (Ai .i64) vK C.J.marks]:=H
 refine AC U (fun h3=>?_) (fun h3=>?_)
 ·refine Aa (Ae (Ad U (Ab (Z (An (AA (Ap U U ?_)))))))
  replace H:=H.nil
  exact Al ⟨congrArg (Value.int .i64) (if_pos (by first |exact .inl h3|exact .inr h3)).symm,rfl⟩ H
 refine Az (Z (Aa (Ae (Ad U (V U U (Aj U Jy U) (V U U (Am U AE U (H.cellI 0 U U)) (V U U (IY (z:=p.tmod C.w) U U U (by omega) U) (V U U (Bc (z:=1+p.tmod C.w) U U U (by have h1:=eD p (show 1≤C.w by omega);exact AI (by omega) (by omega))) (Ad U (Ab (Z (An (Ap U U ?_)))))))))))))
 replace H:=H.nil
 have e:DV C p=1+p.tmod C.w:=if_neg (fun h=>h.elim (fun h=>h hmc) (fun h=>by omega))
 exact Al ⟨by rw [e]<;>rfl,rfl⟩ H
theorem L0 (vxs:Value) (xs:List BT) (hb:xs.length≤1000000):
    Cn Tryz.prog 73 [vxs] [] [Ac Af vxs xs] (fun v Bs=>Bs=[Y Af v xs]):=by
 intro w0 F0 H
 obtain ⟨A1,c2,rfl,hc3,hm4,hp5⟩:=H.fR 0 rfl
 refine enter Tryz.func73 U U (Nat.le_of_ble_eq_true U) (Aa (Ae (Ad U (Ab (Z ?_)))))
 replace H:Hd _ _ _ [] [Ac Af (.slice A1 xs.length c2) xs]:=H
 refine Aa (Aa (Ae (Ad U (V U U (JR U GC U U) (Ab (Z ?_))))))
 refine Dp (b:=(A1:Option Addr).isNone) U (fun h6=>?_) (fun h6=>?_)
 ·refine Aa (Ae (Ad U (Ab (Z (An (AA (Ap U U ?_)))))))
  obtain rfl:=H.nilR 0 rfl h6
  replace H:=H.newnil Af
  exact Al U H
 refine Az (Z (Aa (Ae (JX U U U HS H (fun b7 w H=>(Ad U ?_))))))
 replace H:=H.newnilA Af (some ⟨b7,0,none⟩)
 refine CE (xs:=[]) (ys:=xs) U U U HS LP U (by decide) U U H (by simp only [List.length_nil];omega) (fun F hA hR=>hR _ (List.mem_of_getElem? (i:=0) U)) (fun v8 w H=>?_)
 replace H:=H.h2 (A:=Y Af v8 ([]++xs)) (B:=blk b7 [] 124)
 refine Ad U (Ab (Z (An (Ap U U ?_))))
 rw [List.nil_append] at H
 replace H:=H.k1
 exact Al U H
theorem Jl (vxs:Value) (xs:List Int) (hb:xs.length≤1000000):
    Cn Tryz.prog 74 [vxs] [] [Ac (Ai .i64) vxs xs] (fun v Bs=>Bs=[Y (Ai .i64) v xs]):=by
 intro w0 F0 H
 obtain ⟨A1,c2,rfl,hc3,hm4,hp5⟩:=H.fR 0 rfl
 refine enter Tryz.func74 U U (Nat.le_of_ble_eq_true U) (Aa (Ae (Ad U (Ab (Z ?_)))))
 replace H:Hd _ _ _ [] [Ac (Ai .i64) (.slice A1 xs.length c2) xs]:=H
 refine Aa (Aa (Ae (Ad U (V U U (JR U EA U U) (Ab (Z ?_))))))
 refine Dp (b:=(A1:Option Addr).isNone) U (fun h6=>?_) (fun h6=>?_)
 ·refine Aa (Ae (Ad U (Ab (Z (An (AA (Ap U U ?_)))))))
  obtain rfl:=H.nilR 0 rfl h6
  replace H:=H.newnil (Ai .i64)
  exact Al U H
 refine Az (Z (Aa (Ae (JX U U U DE H (fun b7 w H=>(Ad U ?_))))))
 replace H:=H.newnilA (Ai .i64) (some ⟨b7,0,none⟩)
 refine CE (xs:=[]) (ys:=xs) U U U DE Fa U (by decide) U U H (by simp only [List.length_nil];omega) (fun F hA hR=>hR _ (List.mem_of_getElem? (i:=0) U)) (fun v8 w H=>?_)
 replace H:=H.h2 (A:=Y (Ai .i64) v8 ([]++xs)) (B:=blk b7 [] 3)
 refine Ad U (Ab (Z (An (Ap U U ?_))))
 rw [List.nil_append] at H
 replace H:=H.k1
 exact Al U H
theorem Uk (vxs:Value) (xs:List Fb) (hb:xs.length≤1000000):
    Cn Tryz.prog 71 [vxs] [] [Ac DR vxs xs] (fun v Bs=>Bs=[Y DR v xs]):=by
 intro w0 F0 H
 obtain ⟨A1,c2,rfl,hc3,hm4,hp5⟩:=H.fR 0 rfl
 refine enter Tryz.func71 U U (Nat.le_of_ble_eq_true U) (Aa (Ae (Ad U (Ab (Z ?_)))))
 replace H:Hd _ _ _ [] [Ac DR (.slice A1 xs.length c2) xs]:=H
 refine Aa (Aa (Ae (Ad U (V U U (JR U Fp U U) (Ab (Z ?_))))))
 refine Dp (b:=(A1:Option Addr).isNone) U (fun h6=>?_) (fun h6=>?_)
 ·refine Aa (Ae (Ad U (Ab (Z (An (AA (Ap U U ?_)))))))
  obtain rfl:=H.nilR 0 rfl h6
  replace H:=H.newnil DR
  exact Al U H
 refine Az (Z (Aa (Ae (JX U U U Gy H (fun b7 w H=>(Ad U ?_))))))
 replace H:=H.newnilA DR (some ⟨b7,0,none⟩)
 refine CE (xs:=[]) (ys:=xs) U U U Gy LR U (by decide) U U H (by simp only [List.length_nil];omega) (fun F hA hR=>hR _ (List.mem_of_getElem? (i:=0) U)) (fun v8 w H=>?_)
 replace H:=H.h2 (A:=Y DR v8 ([]++xs)) (B:=blk b7 [] 47)
 refine Ad U (Ab (Z (An (Ap U U ?_))))
 rw [List.nil_append] at H
 replace H:=H.k1
 exact Al U H
theorem Zm {us zs:List (Value×List Aq)} {i:Nat} {A:Option Addr} {c:Nat} {x:List Aq} (hz:zs.length=i) (h:us[i]?=some (.slice A x.length c,x)):(BC zs++(BC us).drop i)[i]?=some (⟨A,x.length,c⟩:Fb):=by
 subst hz
 have hl:(BC zs).length=zs.length:=by simp [BC]
 rw [List.getElem?_append_right (by omega),hl,Nat.sub_self,List.getElem?_drop,Nat.add_zero]
 unfold BC
 rw [List.getElem?_map,h]
 rfl
theorem Zn {us zs:List (Value×List Aq)} {i:Nat} {A:Option Addr} {n c:Nat} {x:List Aq} (hz:zs.length=i) (hi:i<us.length):(BC zs++(BC us).drop i).set i (⟨A,n,c⟩:Fb)=BC (zs++[(.slice A n c,x)])++(BC us).drop (i+1):=by
 subst hz
 have hl:(BC zs).length=zs.length:=by simp [BC]
 have hu:(BC us).length=us.length:=by simp [BC]
 rw [List.set_append_right _ _ (by omega),hl,Nat.sub_self,List.drop_eq_getElem_cons (by omega),List.set_cons_zero]
 unfold BC
 rw [List.map_append,List.append_assoc]
 rfl
theorem Zo {us zs:List (Value×List Aq)} {i:Nat} {v u:Value} {x:List Aq} (hz:zs.map (·.2)=(us.map (·.2)).take i) (h:us[i]?=some (v,x)):(zs++[(u,x)]).map (·.2)=(us.map (·.2)).take (i+1):=by
 rw [List.map_append,hz,Eo (x:=x) (by rw [List.getElem?_map,h];rfl)]
 rfl
theorem Nb (vS:Value) (vM:Value) (vC:Value) (vR:Value) (vK:Value) (C:Cf) (hC:Dq C):
    Cn Tryz.prog 42 [.agg #[vS,.int .i64 C.J.parts,vM,vC,vR,.int .i64 C.J.chunk,.int .i64 C.J.window,.int .i64 C.J.fuel,vK,.int .i64 C.w,.int .i64 C.t,.int .i64 C.o]] [] [Ac (At Ag) vS C.J.us,Ac Af vM C.J.map,Ac Af vC C.J.comb,Ac Af vR C.J.red,Ac (Ai .i64) vK C.J.marks] (fun v Bs=>∃ J2:AR,∃ vS2:Value,∃ vM2:Value,∃ vC2:Value,∃ vR2:Value,∃ vK2:Value,v=.agg #[vS2,.int .i64 J2.parts,vM2,vC2,vR2,.int .i64 J2.chunk,.int .i64 J2.window,.int .i64 J2.fuel,vK2,.int .i64 C.w,.int .i64 C.t,.int .i64 C.o]∧Bs=[Y (At Ag) vS2 J2.us,Y Af vM2 J2.map,Y Af vC2 J2.comb,Y Af vR2 J2.red,Y (Ai .i64) vK2 J2.marks]∧(Bk J2 C.J)):=by
 intro w0 F0 H
 obtain ⟨A1,c2,rfl,hc3,hm4,hp5⟩:=H.fR 0 rfl
 obtain ⟨A6,c7,rfl,hc8,hm9,hp10⟩:=H.fR 1 rfl
 obtain ⟨A11,c12,rfl,hc13,hm14,hp15⟩:=H.fR 2 rfl
 obtain ⟨A16,c17,rfl,hc18,hm19,hp20⟩:=H.fR 3 rfl
 obtain ⟨A21,c22,rfl,hc23,hm24,hp25⟩:=H.fR 4 rfl
 have hsp:=hC.1.2.2.2.1
 have hus:=hC.1.1
 have hb1:=(Kk hC.1.2.2.2.2.2.1.2).1
 have hb2:=(Kk hC.1.2.2.2.2.2.2.1.2).1
 have hb3:=(Kk hC.1.2.2.2.2.2.2.2.1).1
 have hb4:=hC.1.2.2.1
 have hul:(BC C.J.us).length=C.J.us.length:=by simp [BC]
 refine enter Tryz.func42 U U (Nat.le_of_ble_eq_true U) (Aa (Ae (CZ U U U U H (fun b26 w H=>(DD U U U Tr H (fun b27 w H=>(Ab (Z ?_))))))))
 replace H:Hd _ _ _ [blk b27 [.slice none 0 0,.int .i64 0,.slice none 0 0,.slice none 0 0,.slice none 0 0,.int .i64 0,.int .i64 0,.int .i64 0,.slice none 0 0,.int .i64 0,.int .i64 0,.int .i64 0] 28,blk b26 [.slice A1 C.J.us.length c2,.int .i64 C.J.parts,.slice A6 C.J.map.length c7,.slice A11 C.J.comb.length c12,.slice A16 C.J.red.length c17,.int .i64 C.J.chunk,.int .i64 C.J.window,.int .i64 C.J.fuel,.slice A21 C.J.marks.length c22,.int .i64 C.w,.int .i64 C.t,.int .i64 C.o] 28] [Ac (At Ag) (.slice A1 C.J.us.length c2) C.J.us,Ac Af (.slice A6 C.J.map.length c7) C.J.map,Ac Af (.slice A11 C.J.comb.length c12) C.J.comb,Ac Af (.slice A16 C.J.red.length c17) C.J.red,Ac (Ai .i64) (.slice A21 C.J.marks.length c22) C.J.marks]:=H
 refine Aa (Ae (V U U (Aj U DL U) (V U U (Aj U EM U) (V U U (Am U EW U (H.cellI 1 U U)) (sc (Uk (.slice A1 C.J.us.length c2) (BC C.J.us) (by simp only [BC,List.length_map];omega)) H (lX (fun F hA hR=>V1 (hR _ (List.mem_of_getElem? (i:=0) U))) l0) U U (Av XW U U) ?_)))))
 rintro v28 _ w rfl H
 refine V U U (Aj U DL U) (V U U (Aj U EM U) ?_)
 obtain ⟨A29,c30,rfl,hc31,hm32,hp33⟩:=H.fA 0 rfl
 replace H:=H.p2
 refine Bx U U U EW U U H U (Nat.le_of_ble_eq_true U) (fun u hu=>by simp [Value.cells] at hu;subst hu;rfl) (fun w H=>?_)
 replace H:Hd _ _ _ [blk b26 [.slice A29 ((BC C.J.us).length) c30,.int .i64 C.J.parts,.slice A6 C.J.map.length c7,.slice A11 C.J.comb.length c12,.slice A16 C.J.red.length c17,.int .i64 C.J.chunk,.int .i64 C.J.window,.int .i64 C.J.fuel,.slice A21 C.J.marks.length c22,.int .i64 C.w,.int .i64 C.t,.int .i64 C.o] 28,Y DR (.slice A29 ((BC C.J.us).length) c30) (BC C.J.us),blk b27 [.slice none 0 0,.int .i64 0,.slice none 0 0,.slice none 0 0,.slice none 0 0,.int .i64 0,.int .i64 0,.int .i64 0,.slice none 0 0,.int .i64 0,.int .i64 0,.int .i64 0] 28] [Ac (At Ag) (.slice A1 C.J.us.length c2) C.J.us,Ac Af (.slice A6 C.J.map.length c7) C.J.map,Ac Af (.slice A11 C.J.comb.length c12) C.J.comb,Ac Af (.slice A16 C.J.red.length c17) C.J.red,Ac (Ai .i64) (.slice A21 C.J.marks.length c22) C.J.marks]:=H
 refine Ab (Z (Aa (Aa (Ae (V U U (Aj U DL U) (V U U (Aj U EM U) (V U U (Am U EW U (H.cellI 0 U U)) (V U U (Bj U Fp U) (Ad U (Ab (Z (AW ?_))))))))))))
 replace H:=H.p1.h1 (A:=Y DR (.slice A29 ((BC C.J.us).length) c30) (BC ([]:List (Value×List Aq))++(BC C.J.us).drop 0))|>.big0 (fun u:Value×List Aq=>Y Ag u.1 u.2)|>.h1 (A:=GK Ag ([]:List (Value×List Aq)))
 refine B1 (σ:=Nat×List (Value×List Aq)) (fun (i,zs)=>[(1,.pointer (some ⟨b26,0,none⟩)),(2,.pointer (some ⟨b27,0,none⟩)),(13,.slice A29 ((BC C.J.us).length) c30),(14,.int .i64 (((BC C.J.us).length:Nat):Int)),(15,.int .i64 ((i:Nat):Int))]) (fun (i,zs) w=>(Hd w0 F0 w [GK Ag zs,Y DR (.slice A29 ((BC C.J.us).length) c30) (BC zs++(BC C.J.us).drop i),blk b26 [.slice A29 ((BC C.J.us).length) c30,.int .i64 C.J.parts,.slice A6 C.J.map.length c7,.slice A11 C.J.comb.length c12,.slice A16 C.J.red.length c17,.int .i64 C.J.chunk,.int .i64 C.J.window,.int .i64 C.J.fuel,.slice A21 C.J.marks.length c22,.int .i64 C.w,.int .i64 C.t,.int .i64 C.o] 28,blk b27 [.slice none 0 0,.int .i64 0,.slice none 0 0,.slice none 0 0,.slice none 0 0,.int .i64 0,.int .i64 0,.int .i64 0,.slice none 0 0,.int .i64 0,.int .i64 0,.int .i64 0] 28] [Ac (At Ag) (.slice A1 C.J.us.length c2) C.J.us,Ac Af (.slice A6 C.J.map.length c7) C.J.map,Ac Af (.slice A11 C.J.comb.length c12) C.J.comb,Ac Af (.slice A16 C.J.red.length c17) C.J.red,Ac (Ai .i64) (.slice A21 C.J.marks.length c22) C.J.marks])∧(zs.length=i∧zs.map (·.2)=(C.J.us.map (·.2)).take i)∧(i≤C.J.us.length)) (fun (i,zs)=>C.J.us.length - i) (0,[]) ⟨rfl,rfl,rfl,rfl,rfl,trivial⟩ ⟨H,⟨rfl,rfl⟩,Nat.zero_le _⟩ ?_
 rintro ⟨i,zs⟩ w ⟨H,hz,hi⟩
 refine Aa (Ae (V U U (Br U U U) (Ab (Z (Aa ?_)))))
 refine AC U (fun h34=>?_) (fun h34=>?_)
 ·refine Az (Z (Aa (AW (Aa ?_))))
  obtain ⟨⟨u37,x35⟩,hx36⟩:∃ z9,C.J.us[i]?=some z9:=⟨_,List.getElem?_eq_getElem (show i<C.J.us.length by omega)⟩
  obtain ⟨A38,c39,rfl,hc40,hm41⟩:=H.nestR 0 rfl hx36
  have hk42:=Zm (zs:=zs) hz.1 hx36
  have hxl:x35.length≤8:=(hsp _ (CA hx36)).1
  refine Ae (Ad U ?_)
  have th43:=H.thA 1 rfl hk42
  refine V U U (Bi (p:=Ba A29+i*1) U Gy U U (by omega) (by omega) th43 U) (V U U (Am U DJ U (H.elA 1 U hk42 (q:=0) U U)) (Ah 2 U (Ab (Z ?_))))
  replace H:=H.p3.p3.p2
  refine Ce (.e 0 (.e 1 (.e 2 (.e 3 (.e 4 (.m 5 (.e 6 (.m 7 .z)))))))) (fun w=>∃ Ar,Hd w0 F0 w (GK Ag zs::blk b26 [.slice A29 ((BC C.J.us).length) c30,.int .i64 C.J.parts,.slice A6 C.J.map.length c7,.slice A11 C.J.comb.length c12,.slice A16 C.J.red.length c17,.int .i64 C.J.chunk,.int .i64 C.J.window,.int .i64 C.J.fuel,.slice A21 C.J.marks.length c22,.int .i64 C.w,.int .i64 C.t,.int .i64 C.o] 28::blk b27 [.slice none 0 0,.int .i64 0,.slice none 0 0,.slice none 0 0,.slice none 0 0,.int .i64 0,.int .i64 0,.int .i64 0,.slice none 0 0,.int .i64 0,.int .i64 0,.int .i64 0] 28::Ar) [Ac (At Ag) (.slice A1 C.J.us.length c2) C.J.us,Ac Af (.slice A6 C.J.map.length c7) C.J.map,Ac Af (.slice A11 C.J.comb.length c12) C.J.comb,Ac Af (.slice A16 C.J.red.length c17) C.J.red,Ac (Ai .i64) (.slice A21 C.J.marks.length c22) C.J.marks]) mo (by kernel_rfl) (fun w H=>⟨_,H⟩) H (fun w H=>?_)
  refine Ao U U U (fun w ⟨Ar,H⟩=>Aj U DL U) (Ao U U U (fun w ⟨Ar,H⟩=>Aj U EM U) (Ao U U U (fun w ⟨Ar,H⟩=>Am U EW U (H.cellI 1 U U)) (Au U (Au U (AO U (sc (Ko (.slice A38 x35.length c39) x35 (by first |omega|decide|assumption)) H (lX (fun F hA hR=>JJ (hR _ (List.mem_of_getElem? (i:=0) U)) hx36) l0) U U (Av KL U U) ?_))))))
  rintro v44 _ w rfl H
  replace H:=H.h1 (A:=Y Ag v44 x35)|>.p3|>.p3|>.p3
  refine AH ⟨_,H⟩ ?_
  have th45:=H.thA 4 rfl hk42
  refine Ao U U U (fun w ⟨Ar,H⟩=>Bi (p:=Ba A29+i*1) U Gy U U (by omega) (by omega) th45 U) (AO U ?_)
  obtain ⟨A46,c47,rfl,hc48,hm49,hp50⟩:=H.fA 3 rfl
  replace H:=H.p4
  refine Hj (i:=i) (a:=(⟨A46,x35.length,c47⟩:Fb)) U U U DJ U U U H (by simp only [List.length_append,List.length_drop,BC,List.length_map];omega) U (fun w H=>?_)
  replace H:Hd _ _ _ [Y DR (.slice A29 ((BC C.J.us).length) c30) ((BC zs++(BC C.J.us).drop i).set i (⟨A46,x35.length,c47⟩:Fb)),GK Ag zs,blk b26 [.slice A29 ((BC C.J.us).length) c30,.int .i64 C.J.parts,.slice A6 C.J.map.length c7,.slice A11 C.J.comb.length c12,.slice A16 C.J.red.length c17,.int .i64 C.J.chunk,.int .i64 C.J.window,.int .i64 C.J.fuel,.slice A21 C.J.marks.length c22,.int .i64 C.w,.int .i64 C.t,.int .i64 C.o] 28,blk b27 [.slice none 0 0,.int .i64 0,.slice none 0 0,.slice none 0 0,.slice none 0 0,.int .i64 0,.int .i64 0,.int .i64 0,.slice none 0 0,.int .i64 0,.int .i64 0,.int .i64 0] 28,Y Ag (.slice A46 x35.length c47) x35] [Ac (At Ag) (.slice A1 C.J.us.length c2) C.J.us,Ac Af (.slice A6 C.J.map.length c7) C.J.map,Ac Af (.slice A11 C.J.comb.length c12) C.J.comb,Ac Af (.slice A16 C.J.red.length c17) C.J.red,Ac (Ai .i64) (.slice A21 C.J.marks.length c22) C.J.marks]:=H
  replace H:=H.p3.p3.p3
  refine AH ⟨_,H⟩ (BO (Bb (Z (Ae (V U U (Bc (z:=((i+1:Nat):Int)) U U U (by rw [AI (by omega) (by omega)];omega)) (Ad U (Ab ?_)))))))
  replace H:=H.p3.p1.p4.bigN (f:=fun u:Value×List Aq=>Y Ag u.1 u.2) (x:=(.slice A46 x35.length c47,x35))
  replace H:Hd w0 F0 w [GK Ag (zs++[(.slice A46 x35.length c47,x35)]),Y DR (.slice A29 ((BC C.J.us).length) c30) (BC (zs++[(.slice A46 x35.length c47,x35)])++(BC C.J.us).drop (i+1)),blk b26 [.slice A29 ((BC C.J.us).length) c30,.int .i64 C.J.parts,.slice A6 C.J.map.length c7,.slice A11 C.J.comb.length c12,.slice A16 C.J.red.length c17,.int .i64 C.J.chunk,.int .i64 C.J.window,.int .i64 C.J.fuel,.slice A21 C.J.marks.length c22,.int .i64 C.w,.int .i64 C.t,.int .i64 C.o] 28,blk b27 [.slice none 0 0,.int .i64 0,.slice none 0 0,.slice none 0 0,.slice none 0 0,.int .i64 0,.int .i64 0,.int .i64 0,.slice none 0 0,.int .i64 0,.int .i64 0,.int .i64 0] 28] [Ac (At Ag) (.slice A1 C.J.us.length c2) C.J.us,Ac Af (.slice A6 C.J.map.length c7) C.J.map,Ac Af (.slice A11 C.J.comb.length c12) C.J.comb,Ac Af (.slice A16 C.J.red.length c17) C.J.red,Ac (Ai .i64) (.slice A21 C.J.marks.length c22) C.J.marks]:=by rw [←Zn (x:=x35) hz.1 (by omega)];exact H
  exact Bo (s:=(i,zs)) (i+1,zs++[(.slice A46 x35.length c47,x35)]) ⟨rfl,rfl,rfl,rfl,rfl,trivial⟩ ⟨H,⟨by simp [hz.1],Zo hz.2 hx36⟩,by (try dsimp only);omega⟩ (by (try dsimp only);omega)
 refine BQ (AV (AV (BS (Z (Aa ?_)))))
 obtain rfl:i=C.J.us.length:=by omega
 replace H:=H.p1
 replace H:Hd w0 F0 w [Y DR (.slice A29 ((BC C.J.us).length) c30) (BC zs),GK Ag zs,blk b26 [.slice A29 ((BC C.J.us).length) c30,.int .i64 C.J.parts,.slice A6 C.J.map.length c7,.slice A11 C.J.comb.length c12,.slice A16 C.J.red.length c17,.int .i64 C.J.chunk,.int .i64 C.J.window,.int .i64 C.J.fuel,.slice A21 C.J.marks.length c22,.int .i64 C.w,.int .i64 C.t,.int .i64 C.o] 28,blk b27 [.slice none 0 0,.int .i64 0,.slice none 0 0,.slice none 0 0,.slice none 0 0,.int .i64 0,.int .i64 0,.int .i64 0,.slice none 0 0,.int .i64 0,.int .i64 0,.int .i64 0] 28] [Ac (At Ag) (.slice A1 C.J.us.length c2) C.J.us,Ac Af (.slice A6 C.J.map.length c7) C.J.map,Ac Af (.slice A11 C.J.comb.length c12) C.J.comb,Ac Af (.slice A16 C.J.red.length c17) C.J.red,Ac (Ai .i64) (.slice A21 C.J.marks.length c22) C.J.marks]:=by rw [show BC zs=BC zs++(BC C.J.us).drop C.J.us.length by simp [BC]];exact H
 replace H:=H.hdI|>.h1 (A:=Y (At Ag) (.slice A29 ((BC C.J.us).length) c30) zs)
 have hsj:Bk ({ C.J with us:=zs }:AR) C.J:=⟨by rw [hz.2,List.take_of_length_le (by simp)],rfl⟩
 refine T8 (.e 0 (.e 1 (.e 2 (.e 4 (.e 5 (.e 6 (.e 8 (.e 9 (.e 10 (.m 3 (.e 12 (.e 13 (.m 7 (.m 11 (.w 14 (.e 15 (.e 16 (.m 17 (.e 18 (.e 19 (.m 20 .z))))))))))))))))))))) (fun w=>∃ Ar,Hd w0 F0 w (Y (At Ag) (.slice A29 ((BC C.J.us).length) c30) zs::blk b26 [.slice A29 ((BC C.J.us).length) c30,.int .i64 C.J.parts,.slice A6 C.J.map.length c7,.slice A11 C.J.comb.length c12,.slice A16 C.J.red.length c17,.int .i64 C.J.chunk,.int .i64 C.J.window,.int .i64 C.J.fuel,.slice A21 C.J.marks.length c22,.int .i64 C.w,.int .i64 C.t,.int .i64 C.o] 28::blk b27 [.slice none 0 0,.int .i64 0,.slice none 0 0,.slice none 0 0,.slice none 0 0,.int .i64 0,.int .i64 0,.int .i64 0,.slice none 0 0,.int .i64 0,.int .i64 0,.int .i64 0] 28::Ar) [Ac (At Ag) (.slice A1 C.J.us.length c2) C.J.us,Ac Af (.slice A6 C.J.map.length c7) C.J.map,Ac Af (.slice A11 C.J.comb.length c12) C.J.comb,Ac Af (.slice A16 C.J.red.length c17) C.J.red,Ac (Ai .i64) (.slice A21 C.J.marks.length c22) C.J.marks]) (fun w=>∃ Ar,Hd w0 F0 w Ar [Ac (At Ag) (.slice A1 C.J.us.length c2) C.J.us,Ac Af (.slice A6 C.J.map.length c7) C.J.map,Ac Af (.slice A11 C.J.comb.length c12) C.J.comb,Ac Af (.slice A16 C.J.red.length c17) C.J.red,Ac (Ai .i64) (.slice A21 C.J.marks.length c22) C.J.marks]) mo (by kernel_rfl) (fun w H=>⟨_,H⟩) H (fun w H=>?_)
 refine F_ U U U (fun w ⟨Ar,H⟩=>Aj U DL U) (F_ U U U (fun w ⟨Ar,H⟩=>Aj U Jw U) (F_ U U U (fun w ⟨Ar,H⟩=>Am U E8 U (H.cellI 1 U U)) (F_ U U U (fun w ⟨Ar,H⟩=>Aj U DL U) (F_ U U U (fun w ⟨Ar,H⟩=>Aj U Jx U) (F_ U U U (fun w ⟨Ar,H⟩=>Am U E8 U (H.cellI 1 U U)) (F_ U U U (fun w ⟨Ar,H⟩=>Aj U DL U) (F_ U U U (fun w ⟨Ar,H⟩=>Aj U IH U) (F_ U U U (fun w ⟨Ar,H⟩=>Am U E8 U (H.cellI 1 U U)) (Mq U (sc (L0 (.slice A6 C.J.map.length c7) C.J.map (by first |omega|decide|assumption)) H (lR 1 U l0) U U (Av ML U U) ?_))))))))))
 rintro v51 _ w rfl H
 replace H:=H.h1 (A:=Y Af v51 C.J.map)|>.p3|>.p3|>.p3
 refine Mp ⟨_,H⟩ (F_ U U U (fun w ⟨Ar,H⟩=>Aj U DL U) (F_ U U U (fun w ⟨Ar,H⟩=>Aj U Jw U) (Mq U (sc (L0 (.slice A11 C.J.comb.length c12) C.J.comb (by first |omega|decide|assumption)) H (lR 2 U l0) U U (Av ML U U) ?_))))
 rintro v52 _ w rfl H
 replace H:=H.h1 (A:=Y Af v52 C.J.comb)|>.p3|>.p3|>.p3
 refine Mp ⟨_,H⟩ (Mq U (sc (L0 (.slice A16 C.J.red.length c17) C.J.red (by first |omega|decide|assumption)) H (lR 3 U l0) U U (Av ML U U) ?_))
 rintro v53 _ w rfl H
 replace H:=H.h1 (A:=Y Af v53 C.J.red)|>.p3|>.p3|>.p3
 refine Mp ⟨_,H⟩ (VJ U ?_)
 obtain ⟨A54,c55,rfl,hc56,hm57,hp58⟩:=H.fA 5 rfl
 replace H:=H.p1
 refine Bx U U U E8 U U H U (Nat.le_of_ble_eq_true U) (fun u hu=>by simp [Value.cells] at hu;subst hu;rfl) (fun w H=>?_)
 replace H:Hd _ _ _ [blk b26 [.slice A29 ((BC C.J.us).length) c30,.int .i64 C.J.parts,.slice A54 C.J.map.length c55,.slice A11 C.J.comb.length c12,.slice A16 C.J.red.length c17,.int .i64 C.J.chunk,.int .i64 C.J.window,.int .i64 C.J.fuel,.slice A21 C.J.marks.length c22,.int .i64 C.w,.int .i64 C.t,.int .i64 C.o] 28,Y (At Ag) (.slice A29 ((BC C.J.us).length) c30) zs,blk b27 [.slice none 0 0,.int .i64 0,.slice none 0 0,.slice none 0 0,.slice none 0 0,.int .i64 0,.int .i64 0,.int .i64 0,.slice none 0 0,.int .i64 0,.int .i64 0,.int .i64 0] 28,Y Af v53 C.J.red,Y Af v52 C.J.comb,Y Af (.slice A54 C.J.map.length c55) C.J.map] [Ac (At Ag) (.slice A1 C.J.us.length c2) C.J.us,Ac Af (.slice A6 C.J.map.length c7) C.J.map,Ac Af (.slice A11 C.J.comb.length c12) C.J.comb,Ac Af (.slice A16 C.J.red.length c17) C.J.red,Ac (Ai .i64) (.slice A21 C.J.marks.length c22) C.J.marks]:=H
 refine AH ⟨_,H⟩ (Ao U U U (fun w ⟨Ar,H⟩=>Aj U DL U) (Ao U U U (fun w ⟨Ar,H⟩=>Aj U Jx U) (AO U ?_)))
 obtain ⟨A59,c60,rfl,hc61,hm62,hp63⟩:=H.fA 4 rfl
 refine Bx U U U E8 U U H U (Nat.le_of_ble_eq_true U) (fun u hu=>by simp [Value.cells] at hu;subst hu;rfl) (fun w H=>?_)
 replace H:Hd _ _ _ [blk b26 [.slice A29 ((BC C.J.us).length) c30,.int .i64 C.J.parts,.slice A54 C.J.map.length c55,.slice A59 C.J.comb.length c60,.slice A16 C.J.red.length c17,.int .i64 C.J.chunk,.int .i64 C.J.window,.int .i64 C.J.fuel,.slice A21 C.J.marks.length c22,.int .i64 C.w,.int .i64 C.t,.int .i64 C.o] 28,Y (At Ag) (.slice A29 ((BC C.J.us).length) c30) zs,blk b27 [.slice none 0 0,.int .i64 0,.slice none 0 0,.slice none 0 0,.slice none 0 0,.int .i64 0,.int .i64 0,.int .i64 0,.slice none 0 0,.int .i64 0,.int .i64 0,.int .i64 0] 28,Y Af v53 C.J.red,Y Af (.slice A59 C.J.comb.length c60) C.J.comb,Y Af (.slice A54 C.J.map.length c55) C.J.map] [Ac (At Ag) (.slice A1 C.J.us.length c2) C.J.us,Ac Af (.slice A6 C.J.map.length c7) C.J.map,Ac Af (.slice A11 C.J.comb.length c12) C.J.comb,Ac Af (.slice A16 C.J.red.length c17) C.J.red,Ac (Ai .i64) (.slice A21 C.J.marks.length c22) C.J.marks]:=H
 refine AH ⟨_,H⟩ (Ao U U U (fun w ⟨Ar,H⟩=>Aj U DL U) (Ao U U U (fun w ⟨Ar,H⟩=>Aj U IH U) (AO U ?_)))
 obtain ⟨A64,c65,rfl,hc66,hm67,hp68⟩:=H.fA 3 rfl
 refine Bx U U U E8 U U H U (Nat.le_of_ble_eq_true U) (fun u hu=>by simp [Value.cells] at hu;subst hu;rfl) (fun w H=>?_)
 replace H:Hd _ _ _ [blk b26 [.slice A29 ((BC C.J.us).length) c30,.int .i64 C.J.parts,.slice A54 C.J.map.length c55,.slice A59 C.J.comb.length c60,.slice A64 C.J.red.length c65,.int .i64 C.J.chunk,.int .i64 C.J.window,.int .i64 C.J.fuel,.slice A21 C.J.marks.length c22,.int .i64 C.w,.int .i64 C.t,.int .i64 C.o] 28,Y (At Ag) (.slice A29 ((BC C.J.us).length) c30) zs,blk b27 [.slice none 0 0,.int .i64 0,.slice none 0 0,.slice none 0 0,.slice none 0 0,.int .i64 0,.int .i64 0,.int .i64 0,.slice none 0 0,.int .i64 0,.int .i64 0,.int .i64 0] 28,Y Af (.slice A64 C.J.red.length c65) C.J.red,Y Af (.slice A59 C.J.comb.length c60) C.J.comb,Y Af (.slice A54 C.J.map.length c55) C.J.map] [Ac (At Ag) (.slice A1 C.J.us.length c2) C.J.us,Ac Af (.slice A6 C.J.map.length c7) C.J.map,Ac Af (.slice A11 C.J.comb.length c12) C.J.comb,Ac Af (.slice A16 C.J.red.length c17) C.J.red,Ac (Ai .i64) (.slice A21 C.J.marks.length c22) C.J.marks]:=H
 refine AH ⟨_,H⟩ (BO (Z (Aa (Ae (V U U (Aj U DL U) (V U U (Aj U II U) (V U U (Am U DY U (H.cellI 0 U U)) (sc (Jl (.slice A21 C.J.marks.length c22) C.J.marks (by first |omega|decide|assumption)) H (lR 4 U l0) U U (Av JE U U) ?_))))))))
 rintro v69 _ w rfl H
 refine V U U (Aj U DL U) (V U U (Aj U II U) ?_)
 obtain ⟨A70,c71,rfl,hc72,hm73,hp74⟩:=H.fA 0 rfl
 replace H:=H.p1
 refine Bx U U U DY U U H U (Nat.le_of_ble_eq_true U) (fun u hu=>by simp [Value.cells] at hu;subst hu;rfl) (fun w H=>?_)
 replace H:Hd _ _ _ [blk b26 [.slice A29 ((BC C.J.us).length) c30,.int .i64 C.J.parts,.slice A54 C.J.map.length c55,.slice A59 C.J.comb.length c60,.slice A64 C.J.red.length c65,.int .i64 C.J.chunk,.int .i64 C.J.window,.int .i64 C.J.fuel,.slice A70 C.J.marks.length c71,.int .i64 C.w,.int .i64 C.t,.int .i64 C.o] 28,Y (Ai .i64) (.slice A70 C.J.marks.length c71) C.J.marks,Y (At Ag) (.slice A29 ((BC C.J.us).length) c30) zs,blk b27 [.slice none 0 0,.int .i64 0,.slice none 0 0,.slice none 0 0,.slice none 0 0,.int .i64 0,.int .i64 0,.int .i64 0,.slice none 0 0,.int .i64 0,.int .i64 0,.int .i64 0] 28,Y Af (.slice A64 C.J.red.length c65) C.J.red,Y Af (.slice A59 C.J.comb.length c60) C.J.comb,Y Af (.slice A54 C.J.map.length c55) C.J.map] [Ac (At Ag) (.slice A1 C.J.us.length c2) C.J.us,Ac Af (.slice A6 C.J.map.length c7) C.J.map,Ac Af (.slice A11 C.J.comb.length c12) C.J.comb,Ac Af (.slice A16 C.J.red.length c17) C.J.red,Ac (Ai .i64) (.slice A21 C.J.marks.length c22) C.J.marks]:=H
 refine Ab (Z (Aa (Ae (V U U (BG (cs:=[.slice A29 ((BC C.J.us).length) c30,.int .i64 C.J.parts,.slice A54 C.J.map.length c55,.slice A59 C.J.comb.length c60,.slice A64 C.J.red.length c65,.int .i64 C.J.chunk,.int .i64 C.J.window,.int .i64 C.J.fuel,.slice A70 C.J.marks.length c71,.int .i64 C.w,.int .i64 C.t,.int .i64 C.o]) U EH U U (H.cellsI 0 U U)) ?_))))
 replace H:=H.p3
 refine Bx U U U EH U U H U (Nat.le_of_ble_eq_true U) (fun u hu=>by simp [Value.cells] at hu;rcases hu with rfl|rfl|rfl|rfl|rfl|rfl|rfl|rfl|rfl|rfl|rfl|rfl<;>rfl) (fun w H=>?_)
 replace H:=H.h1 (A:=blk b27 [.slice A29 ((BC C.J.us).length) c30,.int .i64 C.J.parts,.slice A54 C.J.map.length c55,.slice A59 C.J.comb.length c60,.slice A64 C.J.red.length c65,.int .i64 C.J.chunk,.int .i64 C.J.window,.int .i64 C.J.fuel,.slice A70 C.J.marks.length c71,.int .i64 C.w,.int .i64 C.t,.int .i64 C.o] 28)
 refine Ab (Z (An (FP (cs:=[.slice A29 ((BC C.J.us).length) c30,.int .i64 C.J.parts,.slice A54 C.J.map.length c55,.slice A59 C.J.comb.length c60,.slice A64 C.J.red.length c65,.int .i64 C.J.chunk,.int .i64 C.J.window,.int .i64 C.J.fuel,.slice A70 C.J.marks.length c71,.int .i64 C.w,.int .i64 C.t,.int .i64 C.o]) U U EH U (H.cellsI 0 U U) ?_)))
 replace H:=H.p2.p4.p5.p6.p6.k5
 exact Al ⟨({ C.J with us:=zs }:AR),(.slice A29 ((BC C.J.us).length) c30),(.slice A54 C.J.map.length c55),(.slice A59 C.J.comb.length c60),(.slice A64 C.J.red.length c65),(.slice A70 C.J.marks.length c71),rfl,rfl,hsj⟩ H
def Bz (d:Nat) (db:List UInt8) (dn:Nat):SP:=ex fun dv:Value=>B0 [BY (True),blk d [dv,.int .i64 ((dn:Nat):Int)] 109,Y AP dv db]
theorem G7 (d:Nat) (db:List UInt8) (dn:Nat) {w0 w:World} {F0:AU} {As Rs:List SP} (H:Hd w0 F0 w (Bz d db dn::As) Rs):∃ dv:Value,(True)∧Hd w0 F0 w ([blk d [dv,.int .i64 ((dn:Nat):Int)] 109,Y AP dv db]++As) Rs:=by
 obtain ⟨dv,H⟩:=Hd.exA H
 exact ⟨dv,H.stA.puA⟩
theorem Gn (d:Nat) (db:List UInt8) (dn:Nat) (dv:Value) {w0 w:World} {F0:AU} {As Rs:List SP} (hp:True) (H:Hd w0 F0 w ([blk d [dv,.int .i64 ((dn:Nat):Int)] 109,Y AP dv db]++As) Rs):Hd w0 F0 w (Bz d db dn::As) Rs:=by
 have H1:=(show Hd w0 F0 w ([BY (True),blk d [dv,.int .i64 ((dn:Nat):Int)] 109,Y AP dv db]++As) Rs from H.puI hp).stI
 replace H1:=Hd.exI (A:=fun dv:Value=>B0 [BY (True),blk d [dv,.int .i64 ((dn:Nat):Int)] 109,Y AP dv db]) dv H1
 exact H1
theorem Uj (vxs:Value) (xs:List UInt8) (hb:xs.length≤1000000):
    Cn Tryz.prog 53 [vxs] [] [Ac AP vxs xs] (fun v Bs=>Bs=[Y AP v xs]):=by
 intro w0 F0 H
 obtain ⟨A1,c2,rfl,hc3,hm4,hp5⟩:=H.fR 0 rfl
 refine enter Tryz.func53 U U (Nat.le_of_ble_eq_true U) (Aa (Ae (Ad U (Ab (Z ?_)))))
 replace H:Hd _ _ _ [] [Ac AP (.slice A1 xs.length c2) xs]:=H
 refine Aa (Aa (Ae (Ad U (V U U (JR U Fq U U) (Ab (Z ?_))))))
 refine Dp (b:=(A1:Option Addr).isNone) U (fun h6=>?_) (fun h6=>?_)
 ·refine Aa (Ae (Ad U (Ab (Z (An (AA (Ap U U ?_)))))))
  obtain rfl:=H.nilR 0 rfl h6
  replace H:=H.newnil AP
  exact Al U H
 refine Az (Z (Aa (Ae (JX U U U Gg H (fun b7 w H=>(Ad U ?_))))))
 replace H:=H.newnilA AP (some ⟨b7,0,none⟩)
 refine CE (xs:=[]) (ys:=xs) U U U Gg Jg U (by decide) U U H (by simp only [List.length_nil];omega) (fun F hA hR=>hR _ (List.mem_of_getElem? (i:=0) U)) (fun v8 w H=>?_)
 replace H:=H.h2 (A:=Y AP v8 ([]++xs)) (B:=blk b7 [] 5)
 refine Ad U (Ab (Z (An (Ap U U ?_))))
 rw [List.nil_append] at H
 replace H:=H.k1
 exact Al U H
theorem UP  :
    Cn Tryz.prog 43 [] [] [] (fun v Bs=>∃ d:Nat,v=.pointer (some ⟨d,0,none⟩)∧Bs=[Bz d [] 0]):=by
 intro w0 F0 H
 refine enter Tryz.func43 U U (Nat.le_of_ble_eq_true U) (Aa (Ae (Ad U (Ab (Z (Aa (Ae (V U U (Dl (parts:=[]) (vs:=[]) (cs:=[.slice none 0 0,.int .i64 0]) U TF U U) (CZ U U U U H (fun b1 w H=>(Ad U (Ab (Z ?_)))))))))))))
 replace H:Hd _ _ _ [blk b1 [.slice none 0 0,.int .i64 0] 109] []:=H
 refine An (Ap U U ?_)
 replace H:=H.newnil AP|>.p1
 replace H:=Gn b1 [] 0 (.slice none 0 0) trivial H
 replace H:=H.h1 (A:=Bz b1 [] 0)
 exact Al ⟨b1,rfl,rfl⟩ H
theorem UM (d:Nat) (db:List UInt8) (dn:Nat) (vb:Value) (bs:List UInt8) (hd:db.length≤1000000) (hbl:bs.length≤1000000):
    Cn Tryz.prog 78 [.pointer (some ⟨d,0,none⟩),vb] [Bz d db dn] [Ac AP vb bs] (fun v Bs=>v=.tuple #[]∧Bs=[Bz d (db++bs) dn]):=by
 intro w0 F0 H
 obtain ⟨A1,c2,rfl,hc3,hm4,hp5⟩:=H.fR 0 rfl
 replace H:Hd _ _ _ [Bz d db dn] [Ac AP (.slice A1 bs.length c2) bs]:=H
 obtain ⟨dv6,_,H⟩:=G7 d db dn H
 replace H:=H.h2 (A:=blk d [dv6,.int .i64 ((dn:Nat):Int)] 109) (B:=Y AP dv6 db)
 obtain ⟨A7,c8,rfl,hc9,hm10,hp11⟩:=H.fA 1 rfl
 refine enter Tryz.func78 U U (Nat.le_of_ble_eq_true U) (Aa (Ae (Ad U (V U U (HO U Iu U U) (Ab (Z (CN U (Ae (Ah 2 U (V U U (AJ U U) (V U U (Aj U Hz U) (V U U (Am U GB U (H.cellI 0 U U)) (Ad U ?_)))))))))))))
 replace H:=H.p1
 refine CE (xs:=db) (ys:=bs) U U U Gg Jg U (by decide) U U H (by first |omega|(simp only [List.length_append,List.length_cons,List.length_nil];omega)) (fun F hA hR=>hR _ (List.mem_of_getElem? (i:=0) U)) (fun v12 w H=>(V U U (AJ U U) (V U U (Aj U Hz U) ?_)))
 obtain ⟨A13,c14,rfl,hc15,hm16,hp17⟩:=H.fA 0 rfl
 replace H:=H.p1
 refine Bx U U U GB U U H U (Nat.le_of_ble_eq_true U) (fun u hu=>by simp [Value.cells] at hu;subst hu;rfl) (fun w H=>?_)
 replace H:Hd _ _ _ [blk d [.slice A13 ((db++bs).length) c14,.int .i64 ((dn:Nat):Int)] 109,Y AP (.slice A13 ((db++bs).length) c14) (db++bs)] [Ac AP (.slice A1 bs.length c2) bs]:=H
 refine Ab (DX U ?_)
 replace H:=Gn d (db++bs) dn (.slice A13 ((db++bs).length) c14) trivial H
 replace H:=H.h1 (A:=Bz d (db++bs) dn)
 exact Al ⟨rfl,rfl⟩ H
theorem UQ (d:Nat) (db:List UInt8) (dn:Nat):
    Cn Tryz.prog 45 [.pointer (some ⟨d,0,none⟩)] [Bz d db dn] [] (fun v Bs=>v=.tuple #[]∧Bs=[Bz d db db.length]):=by
 intro w0 F0 H
 obtain ⟨dv1,_,H⟩:=G7 d db dn H
 replace H:Hd _ _ _ [blk d [dv1,.int .i64 ((dn:Nat):Int)] 109,Y AP dv1 db] []:=H
 obtain ⟨A2,c3,rfl,hc4,hm5,hp6⟩:=H.fA 1 rfl
 refine enter Tryz.func45 U U (Nat.le_of_ble_eq_true U) (Aa (Ae (Ad U (V U U (HO U Iu U U) (Ab (Z (CN U (Ae (Ah 2 U (V U U (AJ U U) (V U U (Aj U Hz U) (V U U (Am U GB U (H.cellI 0 U U)) (V U U (Bj U Fq U) (V U U (AJ U U) (V U U (Aj U Js U) (Bx U U U AE U U H U (Nat.le_of_ble_eq_true U) (fun u hu=>by simp [Value.cells] at hu;subst hu;rfl) (fun w H=>?_)))))))))))))))))
 replace H:=H.h1 (A:=blk d [.slice A2 db.length c3,.int .i64 ((db.length:Nat):Int)] 109)
 refine Ab (DX U ?_)
 replace H:=Gn d db db.length (.slice A2 db.length c3) trivial H
 replace H:=H.h1 (A:=Bz d db db.length)
 exact Al ⟨rfl,rfl⟩ H
theorem UR (d:Nat) (db:List UInt8) (dn:Nat):
    Cn Tryz.prog 30 [.pointer (some ⟨d,0,none⟩)] [Bz d db dn] [] (fun v Bs=>v=.int .i64 ((dn:Nat):Int)∧Bs=[Bz d db dn]):=by
 intro w0 F0 H
 obtain ⟨dv1,_,H⟩:=G7 d db dn H
 replace H:Hd _ _ _ [blk d [dv1,.int .i64 ((dn:Nat):Int)] 109,Y AP dv1 db] []:=H
 obtain ⟨A2,c3,rfl,hc4,hm5,hp6⟩:=H.fA 1 rfl
 refine enter Tryz.func30 U U (Nat.le_of_ble_eq_true U) (Aa (Ae (Ad U (Ab (Z (Aa (Aa (Ae (Ad U (V U U (Dg U Iu U U) (Ab (Z (Ch U (Az (Z (Aa (Ae (Ad U (V U U (AJ U U) (V U U (Aj U Js U) (V U U (Am U AE U (H.cellI 0 U U)) (Ad U (Ab (Z (An (Ap U U ?_))))))))))))))))))))))))))
 replace H:=Gn d db dn (.slice A2 db.length c3) trivial H
 replace H:=H.h1 (A:=Bz d db dn)
 exact Al ⟨rfl,rfl⟩ H
theorem L5 (d:Nat) (db:List UInt8) (dn:Nat) (hdn:dn≤db.length∧db.length≤1000000):
    Cn Tryz.prog 24 [.pointer (some ⟨d,0,none⟩)] [Bz d db dn] [] (fun v Bs=>v=.int .i64 (((db.length:Nat):Int) - ((dn:Nat):Int))∧Bs=[Bz d db dn]):=by
 intro w0 F0 H
 obtain ⟨dv1,_,H⟩:=G7 d db dn H
 replace H:Hd _ _ _ [blk d [dv1,.int .i64 ((dn:Nat):Int)] 109,Y AP dv1 db] []:=H
 obtain ⟨A2,c3,rfl,hc4,hm5,hp6⟩:=H.fA 1 rfl
 refine enter Tryz.func24 U U (Nat.le_of_ble_eq_true U) (Aa (Ae (Ad U (Ab (Z (Aa (Aa (Ae (Ad U (V U U (Dg U Iu U U) (Ab (Z (Ch U (Az (Z (Aa (G4 mo (by kernel_rfl) H (Ep U (BK U U (fun w H=>AJ U U) (BK U U (fun w H=>Aj U Hz U) (BK U U (fun w H=>Am U GB U (H.cellI 0 U U)) (BK U U (fun w H=>Bj U Fq U) (Ep U (BK U U (fun w H=>AJ U U) (BK U U (fun w H=>Aj U Js U) (BK U U (fun w H=>Am U AE U (H.cellI 0 U U)) (BK U U (fun w H=>CP (z:=((db.length:Nat):Int) - ((dn:Nat):Int)) U U U (AI (by omega) (by omega))) (Ep U (Ho (fun w H=>(Z (An (Ap U U ?_)))))))))))))))))))))))))))))))))
 replace H:=Gn d db dn (.slice A2 db.length c3) trivial H
 replace H:=H.h1 (A:=Bz d db dn)
 exact Al ⟨rfl,rfl⟩ H
theorem L4 (d:Nat) (db:List UInt8) (dn:Nat) (m:Nat) (hm:m≤db.length∧db.length≤1000000):
    Cn Tryz.prog 75 [.pointer (some ⟨d,0,none⟩),.int .i64 ((m:Nat):Int)] [Bz d db dn] [] (fun v Bs=>v=.bool true∧Bs=[Bz d (db.take m) m]):=by
 intro w0 F0 H
 obtain ⟨dv1,_,H⟩:=G7 d db dn H
 replace H:Hd _ _ _ [blk d [dv1,.int .i64 ((dn:Nat):Int)] 109,Y AP dv1 db] []:=H
 obtain ⟨A2,c3,rfl,hc4,hm5,hp6⟩:=H.fA 1 rfl
 refine enter Tryz.func75 U U (Nat.le_of_ble_eq_true U) (Aa (Ae (Ad U (Ab (Z (Aa (Aa (Ae (Ad U (V U U (Dg U Iu U U) (Ah 2 U (V U U (Br U U U) (Ah 2 U ?_)))))))))))))
 refine AQ (d:=11) U (fun h7=>?_) (fun h7=>?_)
 ·exfalso;omega
 refine Ah 2 U (V U U (AJ U U) (V U U (Aj U Hz U) (V U U (Am U GB U (H.cellI 0 U U)) (V U U (Bj U Fq U) (V U U (CH U U U) (Ad U (Ab (Z ?_))))))))
 refine AC U (fun h8=>?_) (fun h8=>?_)
 ·exfalso;omega
 refine Az (Z (Aa (Ae (Ah 3 U (V U U (AJ U U) (V U U (Aj U Hz U) (V U U (Am U GB U (H.cellI 0 U U)) (Ad U (V U U (Le U Gg U U (by omega) (by omega) U) (Ad U (V U U (AJ U U) (V U U (Aj U Hz U) (Bx U U U GB U U H U (Nat.le_of_ble_eq_true U) (fun u hu=>by simp [Value.cells] at hu;subst hu;rfl) (fun w H=>?_))))))))))))))
 replace H:=H.h1 (A:=blk d [.slice A2 m c3,.int .i64 ((dn:Nat):Int)] 109)
 refine V U U (AJ U U) (V U U (Aj U Js U) (Bx U U U AE U U H U (Nat.le_of_ble_eq_true U) (fun u hu=>by simp [Value.cells] at hu;subst hu;rfl) (fun w H=>?_)))
 replace H:=H.h1 (A:=blk d [.slice A2 m c3,.int .i64 ((m:Nat):Int)] 109)
 refine Ab (Z (Aa (Ae (Ad U (Ab (Z (An (Ap U U ?_))))))))
 replace H:=H.p1.cutO (i:=m) (by omega)|>.h1 (A:=Y AP (.slice A2 m c3) (db.take m))|>.p1
 replace H:=Gn d (db.take m) m (.slice A2 m c3) trivial H
 replace H:=H.h1 (A:=Bz d (db.take m) m)
 exact Al ⟨rfl,rfl⟩ H
theorem UN (d:Nat) (db:List UInt8) (dn:Nat) (hd:db.length≤1000000):
    Cn Tryz.prog 26 [.pointer (some ⟨d,0,none⟩)] [Bz d db dn] [] (fun v Bs=>Bs=[Y AP v db,Bz d db dn]):=by
 intro w0 F0 H
 obtain ⟨dv1,_,H⟩:=G7 d db dn H
 replace H:Hd _ _ _ [blk d [dv1,.int .i64 ((dn:Nat):Int)] 109,Y AP dv1 db] []:=H
 obtain ⟨A2,c3,rfl,hc4,hm5,hp6⟩:=H.fA 1 rfl
 refine enter Tryz.func26 U U (Nat.le_of_ble_eq_true U) (Aa (Ae (Ad U (Ab (Z (Aa (Aa (Ae (Ad U (V U U (Dg U Iu U U) (Ab (Z (Ch U (Az (Z (Aa (Ae (Ad U (V U U (AJ U U) (V U U (Aj U Hz U) (V U U (Am U GB U (H.cellI 0 U U)) (sc (Uj (.slice A2 db.length c3) db (by first |assumption|omega)) H (lA 1 U B2 l0) U U (Av XT U U) ?_))))))))))))))))))))))
 rintro v7 _ w rfl H
 replace H:=H.h1 (A:=Y AP v7 db)
 refine Ad U (Ab (Z (An (Ap U U ?_))))
 replace H:=H.p2.p2
 replace H:=Gn d db dn (.slice A2 db.length c3) trivial H
 replace H:=H.h1 (A:=Bz d db dn)|>.p1
 exact Al U H
theorem UO (d:Nat) (db:List UInt8) (dn:Nat) (kp:Int) (hdn:dn≤db.length∧db.length≤1000000) (hk:AG kp):
    Cn Tryz.prog 47 [.pointer (some ⟨d,0,none⟩),.int .i64 kp] [Bz d db dn] [] (fun v Bs=>v=.tuple #[]∧Bs=[Bz d (db.take (DZ db.length dn kp)) (DZ db.length dn kp)]):=by
 intro w0 F0 H
 obtain ⟨dv1,_,H⟩:=G7 d db dn H
 replace H:Hd _ _ _ [blk d [dv1,.int .i64 ((dn:Nat):Int)] 109,Y AP dv1 db] []:=H
 obtain ⟨A2,c3,rfl,hc4,hm5,hp6⟩:=H.fA 1 rfl
 have hci:=UD (keep:=kp) hdn.1
 have hwu:=LN kp
 refine enter Tryz.func47 U U (Nat.le_of_ble_eq_true U) (Aa (Ae (Ad U (V U U (HO U Iu U U) (Ab (Z (CN U (Ce (.e 0 (.e 1 (.e 2 (.e 3 (.e 5 (.e 6 (.e 7 (.b 4 8 (.m 8 (.e 9 (.e 10 (.e 11 (.e 12 (.e 13 (.m 14 .z))))))) (.e 9 (.e 10 (.e 11 (.e 12 (.m 4 (.e 13 (.m 14 .z))))))))))))))) (fun w=>∃ Ar,Hd w0 F0 w (Ar) []) mo (by kernel_rfl) (fun w H=>⟨_,H⟩) H (fun w H=>(Au U (Au U (Ao U U U (fun w ⟨Ar,H⟩=>AJ U U) (Ao U U U (fun w ⟨Ar,H⟩=>Aj U Js U) (Au U (Ao U U U (fun w ⟨Ar,H⟩=>DC (z:=IntKind.u64.wrap kp) U U Dm EB U) (Au U ?_))))))))))))))))
 refine Gm U U ?_ ?_
 ·refine V U U (Am U AE U (H.cellI 0 U U)) (AH ⟨_,H⟩ (AO U ?_))
  replace H:=Gn d db dn (.slice A2 db.length c3) trivial H
  replace H:=H.h1 (A:=Bz d db dn)
  refine sc (L5 d db dn (by first |assumption|omega)) H l0 U U (Av MH U U) ?_
  rintro _ _ w ⟨rfl,rfl⟩ H
  obtain ⟨dv7,_,H⟩:=G7 d db dn H
  replace H:=H.h2 (A:=blk d [dv7,.int .i64 ((dn:Nat):Int)] 109) (B:=Y AP dv7 db)
  obtain ⟨A8,c9,rfl,hc10,hm11,hp12⟩:=H.fA 1 rfl
  refine AH ⟨_,H⟩ (Ao U U U (fun w ⟨Ar,H⟩=>Bc (z:=((db.length - dn+1:Nat):Int)) U U U (by rw [AI (by omega) (by omega)];omega)) (Ao U U U (fun w ⟨Ar,H⟩=>DC (z:=((db.length - dn+1:Nat):Int)) U U Dm EB (Fr (by omega) (by omega))) (Ao U U U (fun w ⟨Ar,H⟩=>IY (z:=IntKind.u64.wrap kp%((db.length - dn+1:Nat):Int)) U U U (by omega) (Int.tmod_eq_emod_of_nonneg (LN kp).1)) (Ao U U U (fun w ⟨Ar,H⟩=>DC (z:=IntKind.u64.wrap kp%((db.length - dn+1:Nat):Int)) U U EB Dm (OY hdn.2)) (Ao U U U (fun w ⟨Ar,H⟩=>Bc (z:=((DZ db.length dn kp:Nat):Int)) U U U (OZ hdn.1 hdn.2)) (AO U ?_))))))
  replace H:=Gn d db dn (.slice A8 db.length c9) trivial H
  replace H:=H.h1 (A:=Bz d db dn)
  refine sc (L4 d db dn (DZ db.length dn kp) (by first |assumption|omega)) H l0 U U (Av MM U U) ?_
  rintro _ _ w ⟨rfl,rfl⟩ H
  replace H:=H.h1 (A:=Bz d (db.take (DZ db.length dn kp)) (DZ db.length dn kp))
  exact AH ⟨_,H⟩ (BO (DX U (Al ⟨rfl,rfl⟩ H)))
 replace H:=Gn d db dn (.slice A2 db.length c3) trivial H
 replace H:=H.h1 (A:=Bz d db dn)
 refine sc (L5 d db dn (by first |assumption|omega)) H l0 U U (Av MH U U) ?_
 rintro _ _ w ⟨rfl,rfl⟩ H
 obtain ⟨dv13,_,H⟩:=G7 d db dn H
 replace H:=H.h2 (A:=blk d [dv13,.int .i64 ((dn:Nat):Int)] 109) (B:=Y AP dv13 db)
 obtain ⟨A14,c15,rfl,hc16,hm17,hp18⟩:=H.fA 1 rfl
 refine AH ⟨_,H⟩ (Ao U U U (fun w ⟨Ar,H⟩=>Bc (z:=((db.length - dn+1:Nat):Int)) U U U (by rw [AI (by omega) (by omega)];omega)) (Ao U U U (fun w ⟨Ar,H⟩=>DC (z:=((db.length - dn+1:Nat):Int)) U U Dm EB (Fr (by omega) (by omega))) (Ao U U U (fun w ⟨Ar,H⟩=>IY (z:=IntKind.u64.wrap kp%((db.length - dn+1:Nat):Int)) U U U (by omega) (Int.tmod_eq_emod_of_nonneg (LN kp).1)) (Ao U U U (fun w ⟨Ar,H⟩=>DC (z:=IntKind.u64.wrap kp%((db.length - dn+1:Nat):Int)) U U EB Dm (OY hdn.2)) (AO U (V U U (Am U AE U (H.cellI 0 U U)) (AH ⟨_,H⟩ (Ao U U U (fun w ⟨Ar,H⟩=>Bc (z:=((DZ db.length dn kp:Nat):Int)) U U U (OZ hdn.1 hdn.2)) (AO U ?_)))))))))
 replace H:=Gn d db dn (.slice A14 db.length c15) trivial H
 replace H:=H.h1 (A:=Bz d db dn)
 refine sc (L4 d db dn (DZ db.length dn kp) (by first |assumption|omega)) H l0 U U (Av MM U U) ?_
 rintro _ _ w ⟨rfl,rfl⟩ H
 replace H:=H.h1 (A:=Bz d (db.take (DZ db.length dn kp)) (DZ db.length dn kp))
 exact AH ⟨_,H⟩ (BO (DX U (Al ⟨rfl,rfl⟩ H)))
theorem Rh (n:Nat) (p ep:Int):C6 n (Db n p ep [])=[]:=by
 unfold C6
 rw [List.filter_eq_nil_iff.2 fun i _=>by show ¬ (J0.merged=true);decide]
 rfl
theorem V2 {D:BA} {J:AR} (hJ:1≤J.us.length) (p:Int):Gs D J (Db J.us.length p 1 [])=⟨0,0,⟨6,0,0,p,0,0,1,0,[],[]⟩⟩:=by
 unfold Gs
 rw [P8]
 ·rw [Rh];rfl
 ·unfold D2
  rw [Rh,if_pos (show ([]:List Int).length<J.us.length from hJ)]
  decide
theorem fT {D:BA} {C:Cf} {W:Fu} (h:W.over=false):Eh D C W=W.ts.flatMap (EV D C)++W.rs.map (Gs D C.J):=by
 unfold Eh
 rw [if_neg (by rw [h];decide)]
/-! ### A worker as records in plain lists tell -/
def I2 (r:Bd):AY:=⟨r.kind,r.part,r.sp,r.att,r.why,KZ,r.set,KZ,r.pairs⟩
def EJ (C:Cf) (id:Int) (rs:List Bd):Fu:=GP C id (rs.map I2)
theorem OS:∀ recs:List AY,cnt CR ((recs.map AY.p).map I2)=cnt CR recs
 |[]=>rfl
 |r::recs=>by
  have ih:=OS recs
  have e:CR (I2 (AY.p r))=CR r:=rfl
  unfold cnt at ih ⊢
  rw [List.map_cons,List.map_cons,List.filter_cons,List.filter_cons,e]
  split
  ·rw [List.length_cons,List.length_cons,ih]
  ·exact ih
theorem aZ (rs:List Bd):(rs.map I2).map AY.p=rs:=by
 rw [List.map_map]
 exact List.map_id'' (fun r=>rfl) rs
theorem YQ (C:Cf) (id:Int) {recs:List AY} {rs:List Bd} (h:recs.map AY.p=rs):GP C id recs=EJ C id rs:=by
 subst h
 have e:G9 recs=G9 ((recs.map AY.p).map I2):=by unfold G9;rw [OS]
 unfold EJ GP Ez
 rw [←e,aZ]
theorem YR {A B:Cf} (h:D6 A B) (id:Int) (recs:List AY):GP A id recs=GP B id recs:=by
 unfold GP Ez Ga
 simp only [h.home,h.J.len,h.J.parts]
theorem Tl {A B:Cf} (h:D6 A B) (id:Int) (rs:List Bd):EJ A id rs=EJ B id rs:=YR h id _
theorem fY (C:Cf) (id:Int) (n:Nat):(EJ C id (D8 n)).ep=((n+1:Nat):Int):=by
 show G9 ((D8 n).map I2)=_
 unfold D8
 rw [List.map_replicate]
 exact Yd n
theorem D6.pushL {A B:Cf} (h:D6 A B):X.pushL A=X.pushL B:=by
 funext m
 unfold X.pushL
 rw [h.home]
theorem D6.tells {A B:Cf} (h:D6 A B) (D:BA) (M:Cy):EV D A M=EV D B M:=by
 unfold EV Hh
 rw [h.J.doneL,Nn h.J,h.pushL]
theorem D6.wake {A B:Cf} (h:D6 A B) (D:BA) (W:Fu):Eh D A W=Eh D B W:=by
 unfold Eh
 have h1:EV D A=EV D B:=funext (h.tells D)
 have h2:Gs D A.J=Gs D B.J:=by funext R;unfold Gs;rw [h.J.hello]
 rw [h1,h2]
theorem Pp {α β:Type} {f:α→List β} {k:Nat}:∀ {l:List α},(∀ x∈l,(f x).length≤k)→(l.flatMap f).length≤k*l.length
 |[],_=>Nat.zero_le _
 |x::l,h=>by
  have h1:=Pp (f:=f) (k:=k) (l:=l) fun y hy=>h y (List.mem_cons_of_mem _ hy)
  have h2:=h x (List.mem_cons_self ..)
  rw [List.flatMap_cons,List.length_append,List.length_cons,Nat.mul_add]
  omega
theorem fS {D:BA} {C:Cf} {W:Fu} (hWt:∀ M∈W.ts,GS M) (hl:W.ts.length≤1000∧W.rs.length≤1000) {zs:List (Bl BE)} (hz:zs.map B4=Eh D C W):zs.length≤10000000:=by
 have h1:=Pp (f:=EV D C) (k:=4001) (l:=W.ts) fun M hM=>SW (hWt M hM)
 rw [←List.length_map (f:=B4),hz]
 unfold Eh
 split
 ·exact Nat.zero_le _
 ·rw [List.length_append,List.length_map]
  omega
/-! ### A node -/
structure Ci where
 id:Int
 up:Bool
 b:List UInt8
 n:Nat
 held:List EZ
 W:Fu
def GF (b:List UInt8):List UInt8:=b.take (CI b).2.toNat++FA [Gb]
def FG (C:Cf) (N:Ci):Ci:={ N with up:=true,b:=GF N.b,n:=(CI N.b).2.toNat,W:=EJ C N.id (CI N.b).1 }
def EP (C:Cf) (id:Int):Ci:=FG C ⟨id,true,[],0,[],⟨0,[],[],false⟩⟩
def Hc (id:Int) (x:EZ):EZ:={ x with fr:=id }
def FR (N:Ci) (l:List EZ):Ci:=if N.n<N.b.length then { N with held:=N.held++l.map (Hc N.id) } else { N with held:=[] }
def Ik (N:Ci) (l:List EZ):List EZ:=if N.n<N.b.length then [] else N.held++l.map (Hc N.id)
def GA (N:Ci):Ci:={ N with n:=N.b.length }
def F7 (N:Ci):Ci:={ N with n:=N.b.length,held:=[] }
theorem Vr (N:Ci):FR (GA N) []=F7 N:=if_neg (Nat.lt_irrefl _)
theorem Vq (N:Ci):Ik (GA N) []=N.held:=by
 show (if N.b.length<N.b.length then [] else N.held++[])=N.held
 rw [if_neg (Nat.lt_irrefl _),List.append_nil]
def Fj (N:Ci) (keep:Int):Ci:={ N with up:=false,held:=[],b:=N.b.take (DZ N.b.length N.n keep),n:=DZ N.b.length N.n keep }
theorem T1 (s:Nat):GF (Ct (D8 s))=Ct (D8 (s+1))∧(CI (Ct (D8 s))).2.toNat=64*s∧(CI (Ct (D8 s))).1=D8 s:=by
 have h:=aR (Yh s)
 have h2:(CI (Ct (D8 s))).2.toNat=64*s:=by rw [h,Int.toNat_natCast,Ie]
 refine ⟨?_,h2,by rw [h]⟩
 unfold GF
 rw [h2,←Ie s,List.take_length]
 exact X9 s
structure Es (s:Nat) (N:Ci):Prop where
 up:N.up=true
 b:N.b=Ct (D8 (s+1))
 n:N.n=64*s
 ep:N.W.ep=((s+1:Nat):Int)
 held:N.held=[]
theorem Es.len {s:Nat} {N:Ci} (h:Es s N):N.b.length=64*(s+1):=by rw [h.b,Ie]
theorem Es.ok {s:Nat} {N:Ci} (h:Es s N) (hs:s≤20):(N.n≤N.b.length∧N.b.length≤90000)∧N.held.length≤0:=by
 have h1:=h.len
 have h2:=h.n
 rw [h.held]
 exact ⟨by omega,Nat.le_refl _⟩
theorem MP (C:Cf) {s:Nat} {N:Ci} (h:N.b=Ct (D8 s)) (hh:N.held=[]):Es s (FG C N):=by
 obtain ⟨h1,h2,h3⟩:=T1 s
 refine ⟨rfl,?_,?_,?_,hh⟩
 ·show GF N.b=_;rw [h];exact h1
 ·show (CI N.b).2.toNat=_;rw [h];exact h2
 ·show (EJ C N.id (CI N.b).1).ep=_;rw [h,h3];exact fY C N.id s
theorem MQ (C:Cf) (id:Int):Es 0 (EP C id):=MP C rfl rfl
theorem Pi {s:Nat} {N:Ci} (h:Es s N):(Fj N 0).b=Ct (D8 s):=by
 show N.b.take (DZ N.b.length N.n 0)=_
 rw [OX,h.b,h.n,X7]
theorem Pj {s:Nat} {N:Ci} (h:Es s N):(Fj (F7 N) 0).b=Ct (D8 (s+1)):=by
 show N.b.take (DZ N.b.length N.b.length 0)=_
 rw [OX,List.take_length,h.b]
theorem Yf (C:Cf) {s:Nat} {N:Ci} (h:Es s N):Es s (FG C (Fj N 0)):=MP C (Pi h) rfl
theorem Yg (C:Cf) {s:Nat} {N:Ci} (h:Es s N):Es (s+1) (FG C (Fj (F7 N) 0)):=MP C (Pj h) rfl
theorem Vj {s:Nat} {N:Ci} (h:Es s N) (hs:s≤20):(Fj N 0).b.length≤90000:=by rw [Pi h,Ie];omega
theorem Vk {s:Nat} {N:Ci} (h:Es s N) (hs:s≤20):(Fj (F7 N) 0).b.length≤90000:=by rw [Pj h,Ie];omega
def OI (x:Int) (i:Nat):Int:=IntKind.i64.wrap ((BitVec.ofInt IntKind.i64.bits (x.fdiv (2^(min ((i:Nat):Int).toNat IntKind.i64.bits))) &&& BitVec.ofInt IntKind.i64.bits 1).toNat)
theorem TZ {P:Program} {w:World} (x:Int) (i:Nat):(Op.intBits .and .i64 (x.fdiv (2^(min ((i:Nat):Int).toNat IntKind.i64.bits))) 1).run P w=.ok (.int .i64 (OI x i)) w:=rfl
/-! ### Letters from it -/
def CO (id:Int) (m:Bl BE):Bl BE:=⟨⟨id,m.h.to,m.h.m⟩,m.sv,m.set,m.pv,m.pairs⟩
theorem PX (id:Int) (zs:List (Bl BE)):(zs.map (CO id)).map B4=(zs.map B4).map (Hc id):=by
 rw [List.map_map,List.map_map];rfl
theorem SX (id:Int) (zs:List (Bl BE)):BD (zs.map (CO id))=BD zs:=by
 unfold BD BN
 rw [List.map_map]
 rfl
theorem Q5 {zs:List (Bl BE)} {k:Nat} {x:Di BE} (hx:(zs.map A_)[k]?=some x):∃ m,zs[k]?=some m∧x=A_ m:=by
 rw [List.getElem?_map] at hx
 obtain ⟨m,hm,rfl⟩:=Option.map_eq_some_iff.1 hx
 exact ⟨m,hm,rfl⟩
/-! ### A small one -/
def EN:List BT:=[⟨0,0,⟨#[]⟩⟩]
theorem Qb:∀ i∈EN,AG i.a:=Wb
def Cm:Cf:=⟨⟨[(Ge,[])],1,EN,[],EN,1,1,1,[]⟩,1,2,3⟩
theorem NK:Dq Cm:=by
 refine ⟨⟨(show 1≤((1:Nat):Int)∧((1:Nat):Int)≤6 by decide),(show (1:Int)≤1∧(1:Int)≤4 by decide),(show 0≤4 by decide),?_,?_,(show 0<EN.length∧DU EN<0 by decide+kernel),(show 0<EN.length∧DU EN<0 by decide+kernel),(show DU []<0 by decide+kernel),
  (show (1:Int)≤1∧(1:Int)≤7 by decide),(show (1:Int)≤1∧(1:Int)≤4 by decide),(show (1:Int)≤1∧(1:Int)≤2000 by decide)⟩,(show (1:Int)≤1∧(1:Int)≤4 by decide),(show (1:Int)≤2∧(2:Int)≤3 by decide),(show (1:Int)≤3∧(3:Int)≤50 by decide)⟩
 ·intro x hx
  rw [List.mem_singleton.1 hx]
  show HL []
  decide
 ·show He ((1:Nat):Int) 0 []
  decide
theorem dD:C4 Cm.J:=⟨NK.1,Qb,(fun i h=>by cases h),Qb⟩
theorem cF:DV Cm 0=1:=by
 unfold DV
 rw [if_neg (fun h=>h.elim (fun g=>g NK) (fun g=>g ⟨by decide,show (0:Int)≤1 - 1 by decide⟩))]
 rfl
theorem SE:EJ Cm 1 []=⟨1,[Db 1 0 1 []],[],false⟩:=by
 have h:Ga Cm 1 1=[0]:=by
  rw [Qa (k:=0) cF]
  rfl
 show (⟨1,Ez Cm 1 [] 1,[],false⟩:Fu)=_
 unfold Ez
 rw [h]
 rfl
theorem cH (D:BA):Eh D Cm (EJ Cm 1 [])=[⟨0,0,⟨6,0,0,0,0,0,1,0,[],[]⟩⟩]:=by
 rw [SE,fT rfl]
 show []++[Gs D Cm.J (Db 1 0 1 [])]=_
 have:=V2 (D:=D) (J:=Cm.J) (Nat.le_refl 1) 0
 rw [show Cm.J.us.length=1 from rfl] at this
 rw [this]
 rfl
theorem cE:(EP Cm 1).b.length=64:=by rw [(MQ Cm 1).len]
theorem cG (D:BA):FR (EP Cm 1) (Eh D Cm (EP Cm 1).W)={ EP Cm 1 with held:=[⟨1,0,⟨6,0,0,0,0,0,1,0,[],[]⟩⟩] }∧Ik (EP Cm 1) (Eh D Cm (EP Cm 1).W)=[]:=by
 have h0:(EP Cm 1).n<(EP Cm 1).b.length:=by rw [cE];decide
 have e:Eh D Cm (EP Cm 1).W=[⟨0,0,⟨6,0,0,0,0,0,1,0,[],[]⟩⟩]:=cH D
 unfold FR Ik
 rw [if_pos h0,if_pos h0,e]
 exact ⟨rfl,rfl⟩
theorem UH (c:Int) (a:Int) (hc:1≤c∧c≤7):
    Cn Tryz.prog 231 [.int .i64 c,.int .i64 a] [] [] (fun v Bs=>v=.int .i64 (EC c a)∧Bs=[]):=by
 intro w0 F0 H
 refine enter Tryz.func231 U U (Nat.le_of_ble_eq_true U) (Aa (Ae (Ad U (Ab (Z (Aa (Aa (Ae (Ad U (V U U (IY (z:=a.tmod 2) U U U (by omega) U) (V U U (Cx U U U) (Ab (Z ?_)))))))))))))
 refine AC U (fun h1=>?_) (fun h1=>?_)
 ·refine Aa (Ae (Ad U (V U U (Bc (z:=c+1) U U U (AI (by omega) (by omega))) (Ad U (Ab (Z (An (AA (Ap U U ?_)))))))))
  replace H:Hd _ _ _ [] []:=H
  exact Al ⟨congrArg (Value.int .i64) (if_pos h1).symm,rfl⟩ H
 refine Az (Z (Aa (Ae (Ah 2 U (Ab (Z (An (Ap U U ?_))))))))
 replace H:Hd _ _ _ [] []:=H
 exact Al ⟨congrArg (Value.int .i64) (if_neg h1).symm,rfl⟩ H
theorem O0 (n:Int) (size:Int) (hn:0≤n∧n≤1000000):
    Cn Tryz.prog 188 [.int .i64 n,.int .i64 size] [] [] (fun v Bs=>v=.int .i64 (Fv n size)∧Bs=[]):=by
 intro w0 F0 H
 refine enter Tryz.func188 U U (Nat.le_of_ble_eq_true U) (Aa (Ae (Ad U (Ab (Z (Aa (Aa (Ae (Ad U (V U U (Br U U U) (Ad U ?_)))))))))))
 refine AQ (d:=7) U (fun h1=>?_) (fun h1=>?_)
 ·refine Ah 3 U (Ab (Z (CN U (Aa (Ae (Ad U (Ab (Z (An (AA (Ap U U ?_)))))))))))
  replace H:Hd _ _ _ [] []:=H
  exact Al ⟨congrArg (Value.int .i64) (if_pos (by omega)).symm,rfl⟩ H
 refine Ad U (V U U (Br U U U) (Ad U (Ab (Z ?_))))
 refine AC U (fun h2=>?_) (fun h2=>?_)
 ·refine Aa (Ae (Ad U (Ab (Z (An (AA (Ap U U ?_)))))))
  replace H:Hd _ _ _ [] []:=H
  exact Al ⟨congrArg (Value.int .i64) (if_pos (by omega)).symm,rfl⟩ H
 refine Az (Z (Aa ?_))
 have htd:=d9 (n:=n - 1) (size:=size) (by omega) (by omega)
 refine Ae (Ad U (V U U (CP (z:=n - 1) U U U (AI (by omega) (by omega))) (Ad U (V U U (aA (z:=(n - 1).tdiv size) U U U (by omega) (AI (by omega) (by omega))) (V U U (Bc (z:=((n - 1).tdiv size)+1) U U U (AI (by omega) (by omega))) (Ad U (Ab (Z (An (Ap U U ?_))))))))))
 replace H:Hd _ _ _ [] []:=H
 exact Al ⟨congrArg (Value.int .i64) (if_neg (by omega)).symm,rfl⟩ H
theorem UF (vps:Value) (ps:List Aq) (size:Int) (q:Int) (hl:ps.length≤1000) (hs:1≤size∧size≤8):
    Cn Tryz.prog 234 [vps,.int .i64 size,.int .i64 q] [] [Ac Ag vps ps] (fun v Bs=>Bs=[Y Ag v (FI ps size q)]):=by
 intro w0 F0 H
 obtain ⟨A1,c2,rfl,hc3,hm4,hp5⟩:=H.fR 0 rfl
 refine enter Tryz.func234 U U (Nat.le_of_ble_eq_true U) (Aa (Ae (Ad U (Ab (Z ?_)))))
 replace H:Hd _ _ _ [] [Ac Ag (.slice A1 ps.length c2) ps]:=H
 refine Aa (Aa (Ae (Ad U (V U U (Br U U U) (Ad U ?_)))))
 refine AQ (d:=10) U (fun h6=>?_) (fun h6=>?_)
 ·refine Ah 7 U (Ab (Z (CN U (Aa (Ae (Ad U (Ab (Z (An (AA (Ap U U ?_)))))))))))
  replace H:=H.newnil Ag|>.tellK (ys:=FI ps size q) (by rw [O1 (by omega)])|>.h1 (A:=Y Ag (.slice none 0 0) (FI ps size q))
  exact Al U H
 refine Ah 2 U (V U U (Bj U Dt U) (Ad U (sc (O0 ((ps.length:Nat):Int) size (by first |assumption|omega|(simp only [List.length_take,List.length_drop];omega))) H l0 U U (Av Qv U U) ?_)))
 rintro _ _ w ⟨rfl,rfl⟩ H
 refine V U U (C7 U U U) (Ad U (Ab (Z ?_)))
 refine AC U (fun h7=>?_) (fun h7=>?_)
 ·refine Aa (Ae (Ad U (Ab (Z (An (AA (Ap U U ?_)))))))
  replace H:=H.newnil Ag|>.tellK (ys:=FI ps size q) (by rw [O1 (by omega)])|>.h1 (A:=Y Ag (.slice none 0 0) (FI ps size q))
  exact Al U H
 refine Az (Z (Aa ?_))
 have hlo:=Ui (n:=ps.length) (size:=size) (q:=q) (by omega) (by omega) hs.1
 obtain ⟨m,hm⟩:∃ m:Nat,q*size=(m:Int):=⟨(q*size).toNat,by omega⟩
 obtain ⟨k,hk⟩:∃ k:Nat,min size (((ps.length - m:Nat):Int))=(k:Int):=⟨(min size (((ps.length - m:Nat):Int))).toNat,by omega⟩
 refine Ae (Ah 3 U (V U U (HN (z:=((m:Nat):Int)) U U U (by rw [hm];exact AI (by omega) (by omega))) (V U U (JO U BM U U (by omega) (by omega) U) (Ad U (Ab (Z (Aa (Ae (Ah 3 U (V U U (Bj U Dt U) (V U U (Ih (z:=((k:Nat):Int)) U U U hk) (V U U (Le U BM U U (by omega) (by omega) U) (sc (Ko (.slice (D7 A1 c2 m 2) k (c2 - m)) ((ps.drop m).take k) (by first |assumption|omega|(simp only [List.length_take,List.length_drop];omega))) H (lX (fun F hA hR=>Lr (hR _ (List.mem_of_getElem? (i:=0) U)) (i:=m) (m':=k) (by omega)) l0) U U (Av KL U U) ?_)))))))))))))
 rintro v8 _ w rfl H
 replace H:=H.h1 (A:=Y Ag v8 ((ps.drop m).take k))
 refine Ad U (Ab (Z (An (Ap U U ?_))))
 replace H:=H.tellK (ys:=FI ps size q) (by rw [UG (by omega) (by omega) hs.1 hm hk])|>.h1 (A:=Y Ag v8 (FI ps size q))
 exact Al U H
theorem Kq (vb:Value) (bs:List UInt8) (n:Nat) (hb:bs.length≤1000000) (hn:n<9223372036854775808):
    Cn Tryz.prog 186 [vb,.int .i64 ((n:Nat):Int)] [] [Ac AP vb bs] (fun v Bs=>Bs=[Y AP v (bs++B7 n)]):=by
 intro w0 F0 H
 obtain ⟨A1,c2,rfl,hc3,hm4,hp5⟩:=H.fR 0 rfl
 refine enter Tryz.func186 U U (Nat.le_of_ble_eq_true U) (Aa (Ae (Ad U (Ab (Z ?_)))))
 replace H:Hd _ _ _ [] [Ac AP (.slice A1 bs.length c2) bs]:=H
 refine Aa (Ae (Ad U (V U U (Bj U Fq U) (Ad U (V U U (Bj U Fq U) (V U U (Bc (z:=((bs.length+8:Nat):Int)) U U U (by rw [AI (by omega) (by omega)];omega)) (cO (m:=bs.length) (c:=bs.length+8) (a0:=(0:UInt8)) (enc:=Fh) U U U Gg Jg U (by decide) V6 U U (by omega) (by omega) (by omega) H (fun b6 w H=>?_))))))))
 replace H:=H.h1 (A:=I3 Fh b6 5 (List.replicate (bs.length+8) (0:UInt8)))
 refine Ad U (Ab (Z (Aa (Ae (Ah 2 U (cN (ys:=bs) U U U Gg U U H (by simp) (by omega) (fun F hA hR=>hR _ (List.mem_of_getElem? (i:=0) U)) (fun w H=>?_)))))))
 replace H:Hd w0 F0 w [Y AP (.slice (some ⟨b6,0,none⟩) bs.length (bs.length+8)) bs] [Ac AP (.slice A1 bs.length c2) bs]:=H.turn (fun F h=>bV h (by simp) rfl (by simp) (by omega))
 refine Ab (Z (Aa (Aa (Ae (Ad U (Ab (Z (AW ?_))))))))
 replace H:Hd w0 F0 w [Y AP (.slice (some ⟨b6,0,none⟩) bs.length (bs.length+8)) (bs++(B7 n).take 0)] [Ac AP (.slice A1 bs.length c2) bs]:=by rw [List.take_zero,List.append_nil];exact H
 refine B1 (σ:=Nat×Value) (fun (i,q)=>[(1,.int .i64 ((n:Nat):Int)),(4,.slice none 0 0),(5,q),(16,.int .i64 ((i:Nat):Int))]) (fun (i,q) w=>(Hd w0 F0 w [Y AP q (bs++(B7 n).take i)] [Ac AP (.slice A1 bs.length c2) bs])∧(i≤8)) (fun (i,q)=>8 - i) (0,.slice (some ⟨b6,0,none⟩) bs.length (bs.length+8)) ⟨rfl,rfl,rfl,rfl,trivial⟩ ⟨H,Nat.zero_le _⟩ ?_
 rintro ⟨i,q⟩ w ⟨H,hi⟩
 have hbl:=EL n
 have htl:((B7 n).take i).length≤8:=by rw [List.length_take];omega
 refine Aa (Ae (V U U (Br U U U) (Ab (Z (Aa ?_)))))
 refine AC U (fun h7=>?_) (fun h7=>?_)
 ·refine Az (Z (Aa (AW (Aa (Ae (Ah 2 U (Ab (Z (Ae (Ah 2 U (V U U (DC (z:=((n:Nat):Int)) U U Dm Is (Fr (by omega) (by omega))) (Ad U (V U U (CP (z:=7 - ((i:Nat):Int)) U U U (AI (by omega) (by omega))) (V U U (HN (z:=8*(7 - ((i:Nat):Int))) U U U (AI (by omega) (by omega))) (V U U (DC (z:=8*(7 - ((i:Nat):Int))) U U Dm EB (Fr (by omega) (by omega))) (V U U (Ii (z:=((n / 256^(7 - i):Nat):Int)) U U U (by omega) (cZ n (by omega))) (V U U (DC (z:=((UInt8.ofNat (n / 256^(7 - i))).toNat:Int)) U U Is HV (f4 _)) (Cg (parts:=[(0,.tmp 27)]) (vs:=[.int .u8 ((UInt8.ofNat (n / 256^(7 - i))).toNat:Int)]) (cs:=[.int .u8 ((UInt8.ofNat (n / 256^(7 - i))).toNat:Int)]) U U U Gg Jg U (by decide) (by decide) U U H (fun b8 w H=>?_)))))))))))))))))))
  replace H:=H.p1
  refine CE (xs:=bs++(B7 n).take i) (ys:=[UInt8.ofNat (n / 256^(7 - i))]) U U U Gg Jg U (by decide) U U H (by first |omega|(simp only [List.length_append,List.length_cons,List.length_nil];omega)) (fun F hA hR=>CC (hA _ (List.mem_of_getElem? (i:=0) U)) U (by decide) (Be.flat_eq.2 U)) (fun v9 w H=>(Ad U (Ab (Bb (Z ?_)))))
  replace H:Hd _ _ _ [Y AP v9 ((bs++(B7 n).take i)++[UInt8.ofNat (n / 256^(7 - i))]),blk b8 [.int .u8 ((UInt8.ofNat (n / 256^(7 - i))).toNat:Int)] 5] [Ac AP (.slice A1 bs.length c2) bs]:=H
  refine Ae (V U U (Bc (z:=((i+1:Nat):Int)) U U U (by rw [AI (by omega) (by omega)];omega)) (Ad U (Ab ?_)))
  replace H:=H.k1
  replace H:Hd w0 F0 w [Y AP v9 (bs++(B7 n).take (i+1))] [Ac AP (.slice A1 bs.length c2) bs]:=by rw [TV n (by omega),←List.append_assoc];exact H
  exact Bo (s:=(i,undef)) (i+1,v9) ⟨rfl,rfl,rfl,rfl,trivial⟩ ⟨H,by (try dsimp only);omega⟩ (by (try dsimp only);omega)
 refine BQ (AV (AV (BS (Z (Aa (Ae (Ah 2 U (Ab (Z (An (Ap U U ?_)))))))))))
 replace H:=H.h1 (A:=Y AP q (bs++(B7 n).take i))
 replace H:Hd w0 F0 w [Y AP q (bs++B7 n)] [Ac AP (.slice A1 bs.length c2) bs]:=by rw [List.take_of_length_le (by omega)] at H;exact H
 exact Al U H
theorem L1 (vb:Value) (bs:List UInt8) (s:ByteArray) (hb:bs.length≤900000) (hs:s.size≤900000):
    Cn Tryz.prog 132 [vb,.string s] [] [Ac AP vb bs] (fun v Bs=>Bs=[Y AP v (bs++Cw s)]):=by
 intro w0 F0 H
 refine enter Tryz.func132 U U (Nat.le_of_ble_eq_true U) (Aa (Ae (Ad U (Ab (Z (Aa (Ae (Ah 2 U (V U U (DN U CK U) (sc (Kq vb bs s.size (by first |assumption|omega) (by first |assumption|omega)) H (lR 0 U l0) U U (Av KH U U) ?_))))))))))
 rintro v1 _ w rfl H
 refine Ad U (cK U U U Gg Jg U (by decide) CK U U H (by rw [List.length_append,EL];omega) (fun v2 w H=>(Ad U (Ab (Z ?_)))))
 replace H:Hd _ _ _ [Y AP v2 ((bs++B7 s.size)++AB s)] [Ac AP vb bs]:=H
 refine An (Ap U U ?_)
 replace H:Hd w0 F0 w [Y AP v2 (bs++Cw s)] [Ac AP vb bs]:=by unfold Cw;rw [←List.append_assoc];exact H
 exact Al U H
theorem Nx (vb:Value) (bs:List UInt8) (a:Int) (hb:bs.length≤1000000) (ha:AG a):
    Cn Tryz.prog 97 [vb,.int .i64 a] [] [Ac AP vb bs] (fun v Bs=>v=.tuple #[.int .i64 ((BZ bs a).1),.int .i64 ((BZ bs a).2.1),.bool ((BZ bs a).2.2)]∧Bs=[]):=by
 intro w0 F0 H
 obtain ⟨A1,c2,rfl,hc3,hm4,hp5⟩:=H.fR 0 rfl
 unfold AG at ha
 refine enter Tryz.func97 U U (Nat.le_of_ble_eq_true U) (Aa (Ae (Ah 3 U (Ab (Z ?_)))))
 replace H:Hd _ _ _ [] [Ac AP (.slice A1 bs.length c2) bs]:=H
 refine Aa (Aa (Ae (Ad U (V U U (Br U U U) (Ad U ?_)))))
 refine AQ (d:=12) U (fun h6=>?_) (fun h6=>?_)
 ·refine Ah 12 U (Ab (Z (CN U (Aa (Ae (Ah 3 U (Ab (Z (An (AA (GT U U U U ?_)))))))))))
  have e:=I0 (b:=bs) (at_:=a) (by omega)
  exact Al ⟨by rw [e]<;>rfl,rfl⟩ H
 refine Ah 2 U (V U U (Bj U Fq U) (V U U (CH U U U) (Ah 2 U ?_)))
 refine AQ (d:=18) U (fun h7=>?_) (fun h7=>?_)
 ·refine Ah 6 U (Ab (Z (CN U (Aa (Ae (Ah 3 U (Ab (Z (An (AA (GT U U U U ?_)))))))))))
  have e:=I0 (b:=bs) (at_:=a) (by omega)
  exact Al ⟨by rw [e]<;>rfl,rfl⟩ H
 refine Ad U (V U U (Bj U Fq U) (Ad U (V U U (CP (z:=((bs.length:Nat):Int) - a) U U U (AI (by omega) (by omega))) (V U U (Br U U U) (Ad U (Ab (Z ?_)))))))
 refine AC U (fun h8=>?_) (fun h8=>?_)
 ·refine Aa (Ae (Ah 3 U (Ab (Z (An (AA (GT U U U U ?_)))))))
  have e:=I0 (b:=bs) (at_:=a) (by omega)
  exact Al ⟨by rw [e]<;>rfl,rfl⟩ H
 refine Az (Z (Aa (Ae (Ad U (Ab (Z (Aa (Aa (Ae (Ah 3 U (V U U (Bc (z:=a+8) U U U (AI (by omega) (by omega))) (V U U (R_ (i':=(a).toNat) (j':=(a+8).toNat) (m':=8) U Gg U U U (by omega) (by omega) (by omega) U U (by omega)) (V U U (Bj U Fq U) (Ad U (Ab (Z (AW (B1 (σ:=Nat) (fun i=>[(1,.int .i64 a),(4,.int .i64 0),(5,.int .i64 0),(6,.bool false),(7,.int .u64 ((Fo (((bs.drop (a).toNat).take 8).take i):Nat):Int)),(29,.slice (D7 A1 c2 ((a).toNat) 1) 8 (c2 - ((a).toNat))),(30,.int .i64 ((8:Nat):Int)),(31,.int .i64 ((i:Nat):Int))]) (fun i w=>(Hd w0 F0 w [] [Ac AP (.slice A1 bs.length c2) bs])∧(i≤8)) (fun i=>8 - i) 0 ⟨rfl,rfl,rfl,rfl,rfl,rfl,rfl,rfl,trivial⟩ ⟨H,Nat.zero_le _⟩ ?_))))))))))))))))))
 rintro i w ⟨H,hi⟩
 have hlt:=aK (((bs.drop (a).toNat).take 8).take i) 0
 have hle8:(((bs.drop (a).toNat).take 8).take i).length≤i:=by rw [List.length_take];omega
 refine Aa (Ae (V U U (Br U U U) (Ab (Z (Aa ?_)))))
 refine AC U (fun h9=>?_) (fun h9=>?_)
 ·refine Az (Z (Aa (AW (Aa (Ae ?_)))))
  obtain ⟨x10,hx11⟩:∃ z9,((bs.drop ((a).toNat)).take 8)[i]?=some z9:=⟨_,List.getElem?_eq_getElem (show i<((bs.drop ((a).toNat)).take 8).length by simp only [List.length_take,List.length_drop];omega)⟩
  have th12:=H.thX (fun F hA hR=>Lr (hR _ (List.mem_of_getElem? (i:=0) rfl)) (i:=(a).toNat) (m':=8) (by omega)) hx11
  refine V U U (Bi (p:=Ba (D7 A1 c2 ((a).toNat) 1)+i*1) U Gg U U (by omega) (by omega) th12 U) (V U U (Am U eM U (H.elX (fun F hA hR=>Lr (hR _ (List.mem_of_getElem? (i:=0) U)) (i:=(a).toNat) (m':=8) (by omega)) hx11 (q:=0) U U)) (Ad U (Ab (Z ?_))))
  have hx8:=UInt8.toNat_lt x10
  have hm7:Fo (((bs.drop (a).toNat).take 8).take i)<72057594037927936:=Nat.lt_of_lt_of_le hlt (Nat.le_trans (Nat.pow_le_pow_right (by omega) (show _≤7 by omega)) (by decide))
  refine Ae (Ad U (V U U (aB (z:=((Fo (((bs.drop (a).toNat).take 8).take i)*256:Nat):Int)) U U U (by omega) (cY hm7)) (Ad U (V U U (DC (z:=((x10.toNat:Nat):Int)) U U HV Is (Fr (by omega) (by omega))) (V U U (R8 (z:=((Fo (((bs.drop (a).toNat).take 8).take i)*256+x10.toNat:Nat):Int)) U (by simp) U U (Zi hm7 _)) (Ad U (Ab (Bb (Z (Ae (V U U (Bc (z:=((i+1:Nat):Int)) U U U (by rw [AI (by omega) (by omega)];omega)) (Ad U (Ab ?_)))))))))))))
  have hst:=aM hx11
  exact Bo (s:=i) (i+1) ⟨rfl,rfl,rfl,rfl,(by (try dsimp only);rw [hst];rfl),rfl,rfl,rfl,trivial⟩ ⟨H,by (try dsimp only);omega⟩ (by (try dsimp only);omega)
 refine BQ (AV (AV (BS (Z (Aa (Ae (Ad U (V U U (DC (z:=IntKind.i64.wrap ((Fo ((bs.drop (a).toNat).take 8):Nat):Int)) U U Is Dm (by rw [List.take_of_length_le (by rw [List.length_take];omega)])) (Ad U (V U U (Bc (z:=a+8) U U U (AI (by omega) (by omega))) (Ah 3 U (Ab (Z (An (GT U U U U ?_)))))))))))))))
 have e:=Ns (b:=bs) (at_:=a) (by omega)
 exact Al ⟨by rw [e]<;>rfl,rfl⟩ H
theorem Ll (vb:Value) (bs:List UInt8) (a:Int) (hb:bs.length≤1000000) (ha:AG a):
    Cn Tryz.prog 54 [vb,.int .i64 a] [] [Ac AP vb bs] (fun v Bs=>v=.tuple #[.string ((Ax bs a).1),.int .i64 ((Ax bs a).2.1),.bool ((Ax bs a).2.2)]∧Bs=[]):=by
 intro w0 F0 H
 obtain ⟨A1,c2,rfl,hc3,hm4,hp5⟩:=H.fR 0 rfl
 refine enter Tryz.func54 U U (Nat.le_of_ble_eq_true U) (Aa (Ae (Ah 3 U (Ab (Z ?_)))))
 replace H:Hd _ _ _ [] [Ac AP (.slice A1 bs.length c2) bs]:=H
 refine Aa (Ae (Ah 2 U (sc (Nx (.slice A1 bs.length c2) bs a (by first |assumption|omega) (by first |assumption|omega)) H (lR 0 U l0) U U (Av MN U U) ?_)))
 rintro _ _ w ⟨rfl,rfl⟩ H
 refine Ah 7 U (Ab (Z (Aa (Aa ?_))))
 have hi6:=@aN bs a
 have hin:=@Nr bs a
 refine Ae (Ad U (V U U (ES U U U) (Ad U ?_)))
 refine FC (d:=19) (b:=!((BZ bs a).2.2)) U (fun h6=>?_) (fun h6=>?_)
 ·refine Ah 11 U (Ab (Z (CN U (Aa (Ae (Ah 3 U (Ab (Z (An (AA (GT U U U U ?_)))))))))))
  have e:=Nv (b:=bs) (at_:=a) (by simpa using h6)
  exact Al ⟨by rw [e]<;>rfl,rfl⟩ H
 have hii:=hin (by simpa using h6)
 refine Ad U (V U U (Br U U U) (Ah 2 U ?_))
 refine AQ (d:=23) U (fun h7=>?_) (fun h7=>?_)
 ·refine Ah 7 U (Ab (Z (CN U (Aa (Ae (Ah 3 U (Ab (Z (An (AA (GT U U U U ?_)))))))))))
  have e:=(Lj (b:=bs) (at_:=a) (by simpa using h6)).trans (if_pos (by omega))
  exact Al ⟨by rw [e]<;>rfl,rfl⟩ H
 refine Ah 2 U (V U U (Bj U Fq U) (Ad U (V U U (CP (z:=((bs.length:Nat):Int) - ((BZ bs a).2.1)) U U U (AI (by omega) (by omega))) (V U U (CH U U U) (Ad U (Ab (Z ?_)))))))
 refine AC U (fun h8=>?_) (fun h8=>?_)
 ·refine Aa (Ae (Ah 3 U (Ab (Z (An (AA (GT U U U U ?_)))))))
  have e:=(Lj (b:=bs) (at_:=a) (by simpa using h6)).trans (if_pos (by omega))
  exact Al ⟨by rw [e]<;>rfl,rfl⟩ H
 refine Az (Z (Aa (Ae (Ah 4 U (V U U (Bc (z:=((BZ bs a).2.1)+((BZ bs a).1)) U U U (AI (by omega) (by omega))) (V U U (R_ (i':=((BZ bs a).2.1).toNat) (j':=((BZ bs a).2.1+(BZ bs a).1).toNat) (m':=((BZ bs a).1).toNat) U Gg U U U (by omega) (by omega) (by omega) U U (by omega)) (V U U (H.read fun F hA hR=>R9 U Fq HV CK U U (Lr (hR _ (List.mem_of_getElem? (i:=0) U)) (i:=((BZ bs a).2.1).toNat) (m':=((BZ bs a).1).toNat) (by omega))) (Ah 2 U (V U U (Bc (z:=((BZ bs a).2.1)+((BZ bs a).1)) U U U (AI (by omega) (by omega))) (Ah 3 U (Ab (Z (An (GT U U U U ?_))))))))))))))
 have e:=(Lj (b:=bs) (at_:=a) (by simpa using h6)).trans (if_neg (by omega))
 exact Al ⟨by rw [e]<;>rfl,rfl⟩ H
theorem eZ (ps:List Aq) (hl:ps.length≤1000) (hsz:∀ p∈ps,p.key.size≤100∧p.val.size≤100):
    Cn Tryz.prog 230 [.string (BI ps)] [] [] (fun v Bs=>Bs=[Y Ag v ps]):=by
 intro w0 F0 H
 have hps:=Zt hsz hl
 have hbb:(AB (BI ps)).length≤300000:=by rw [GG];exact hps
 have h064:AG (0:Int):=by unfold AG;omega
 refine enter Tryz.func230 U U (Nat.le_of_ble_eq_true U) (Aa (Ae (Ad U (Ab (Z (Aa (Ae (Ad U (SI U U U CK Fq HV U (by omega) H (fun b1 c2 w hc3 hc4 H=>(Ad U (Ab (Z (Aa (Ae (Ad U (sc (Nx (.slice (some ⟨b1,0,none⟩) ((BI ps).size) c2) (AB (BI ps)) 0 (by first |assumption|omega|(simp only [List.length_nil];omega)) (by first |assumption|omega|(simp only [List.length_nil];omega))) H (lR 0 U l0) U U (Av MN U U) ?_)))))))))))))))))
 rintro _ _ w ⟨rfl,rfl⟩ H
 have hq:BZ (AB (BI ps)) 0=(((ps.length:Nat):Int),8,true):=by rw [Nf];exact Zv (by omega)
 rw [hq]
 refine Ah 7 U (Ab (Z ?_))
 replace H:Hd _ _ _ [] [Ac AP (.slice (some ⟨b1,0,none⟩) ((BI ps).size) c2) (AB (BI ps))]:=H
 refine Aa (Ae (Ad U (Ab (Z (Aa (Aa (Ae (Ah 2 U (Ab (Z (AW ?_)))))))))))
 replace H:=H.newnil Ag
 replace H:Hd w0 F0 w [Y Ag (.slice none 0 0) (ps.take 0)] [Ac AP (.slice (some ⟨b1,0,none⟩) ((BI ps).size) c2) (AB (BI ps))]:=by rw [List.take_zero];exact H
 refine B1 (σ:=Nat×Value) (fun (i,q)=>[(2,.slice none 0 0),(3,.slice (some ⟨b1,0,none⟩) ((BI ps).size) c2),(5,.int .i64 ((D9 ps i:Nat):Int)),(7,q),(17,.int .i64 ((ps.length:Nat):Int)),(18,.int .i64 ((i:Nat):Int))]) (fun (i,q) w=>(Hd w0 F0 w [Y Ag q (ps.take i)] [Ac AP (.slice (some ⟨b1,0,none⟩) ((BI ps).size) c2) (AB (BI ps))])∧(i≤ps.length)) (fun (i,q)=>ps.length - i) (0,.slice none 0 0) ⟨rfl,rfl,rfl,rfl,rfl,rfl,trivial⟩ ⟨H,Nat.zero_le _⟩ ?_
 rintro ⟨i,q⟩ w ⟨H,hi⟩
 have htl:(ps.take i).length≤i:=by rw [List.length_take];omega
 refine Aa (Ae (V U U (Br U U U) (Ab (Z (Aa ?_)))))
 refine AC U (fun h5=>?_) (fun h5=>?_)
 ·refine Az (Z (Aa (AW (Aa (Ae (DD U U U Dh H (fun b6 w H=>?_)))))))
  replace H:=H.h2 (A:=blk b6 [.string ⟨#[]⟩,.string ⟨#[]⟩] 122) (B:=Y Ag q (ps.take i))
  refine Ab (Z (Aa ?_))
  obtain ⟨x7,hx8⟩:∃ z9,ps[i]?=some z9:=⟨_,List.getElem?_eq_getElem (show i<ps.length by omega)⟩
  have hxs:=hsz _ (CA hx8)
  have hkey:Ax (AB (BI ps)) ((D9 ps i:Nat):Int)=(x7.key,((D9 ps i+8+x7.key.size:Nat):Int),true):=by rw [Nf];exact Zu hx8 (by omega)
  have hval:Ax (AB (BI ps)) ((D9 ps i+8+x7.key.size:Nat):Int)=(x7.val,((D9 ps (i+1):Nat):Int),true):=by rw [Nf];exact Zw hx8 (by omega)
  have hpa:D9 ps i≤300000:=Zr hsz hl i
  have hi64:AG ((D9 ps i:Nat):Int):=by unfold AG;omega
  have hj64:AG ((D9 ps i+8+x7.key.size:Nat):Int):=by unfold AG;omega
  refine Ae (Ah 2 U (sc (Ll (.slice (some ⟨b1,0,none⟩) ((BI ps).size) c2) (AB (BI ps)) ((D9 ps i:Nat):Int) (by first |assumption|omega|(simp only [List.length_nil];omega)) (by first |assumption|omega|(simp only [List.length_nil];omega))) H (lR 0 U l0) U U (Av KK U U) ?_))
  rintro _ _ w ⟨rfl,rfl⟩ H
  rw [hkey]
  refine Ah 4 U (V U U (Aj U F8 U) (Bx U U U Cl U U H U (Nat.le_of_ble_eq_true U) (fun u hu=>by simp [Value.cells] at hu;subst hu;rfl) (fun w H=>?_)))
  replace H:=H.h1 (A:=blk b6 [.string x7.key,.string ⟨#[]⟩] 122)
  refine Ad U (Ab (Z (Aa (Ae (Ah 2 U (sc (Ll (.slice (some ⟨b1,0,none⟩) ((BI ps).size) c2) (AB (BI ps)) ((D9 ps i+8+x7.key.size:Nat):Int) (by first |assumption|omega|(simp only [List.length_nil];omega)) (by first |assumption|omega|(simp only [List.length_nil];omega))) H (lR 0 U l0) U U (Av KK U U) ?_))))))
  rintro _ _ w ⟨rfl,rfl⟩ H
  rw [hval]
  refine Ah 4 U (V U U (Aj U Jt U) (Bx U U U Cl U U H U (Nat.le_of_ble_eq_true U) (fun u hu=>by simp [Value.cells] at hu;subst hu;rfl) (fun w H=>?_)))
  replace H:=H.h1 (A:=blk b6 [.string x7.key,.string x7.val] 122)
  refine Ad U (Ab (Z (Ae (Ad U (V U U (BG (cs:=[.string x7.key,.string x7.val]) U CF U U (H.cellsI 0 U U)) (Cg (parts:=[(0,.tmp 37)]) (vs:=[.agg #[.string x7.key,.string x7.val]]) (cs:=[.string x7.key,.string x7.val]) U U U BM Dh U (by decide) (by decide) U U H (fun b9 w H=>?_)))))))
  replace H:=H.p2
  refine CE (xs:=ps.take i) (ys:=[x7]) U U U BM Dh U (by decide) U U H (by first |omega|(simp only [List.length_append,List.length_cons,List.length_nil];omega)) (fun F hA hR=>CC (hA _ (List.mem_of_getElem? (i:=0) U)) U (by decide) (Be.flat_eq.2 U)) (fun v10 w H=>(Ad U (Ab (Bb (Z ?_)))))
  replace H:Hd _ _ _ [Y Ag v10 ((ps.take i)++[x7]),blk b9 [.string x7.key,.string x7.val] 122,blk b6 [.string x7.key,.string x7.val] 122] [Ac AP (.slice (some ⟨b1,0,none⟩) ((BI ps).size) c2) (AB (BI ps))]:=H
  refine Ae (V U U (Bc (z:=((i+1:Nat):Int)) U U U (by rw [AI (by omega) (by omega)];omega)) (Ad U (Ab ?_)))
  replace H:=H.k1
  replace H:Hd w0 F0 w [Y Ag v10 (ps.take (i+1))] [Ac AP (.slice (some ⟨b1,0,none⟩) ((BI ps).size) c2) (AB (BI ps))]:=by rw [Eo hx8];exact H
  exact Bo (s:=(i,undef)) (i+1,v10) ⟨rfl,rfl,rfl,rfl,rfl,rfl,trivial⟩ ⟨H,by (try dsimp only);omega⟩ (by (try dsimp only);omega)
 refine BQ (AV (AV (BS (Z (Aa (Ae (Ah 2 U (Ab (Z (An (Ap U U ?_)))))))))))
 replace H:=H.h1 (A:=Y Ag q (ps.take i))
 replace H:Hd w0 F0 w [Y Ag q ps] [Ac AP (.slice (some ⟨b1,0,none⟩) ((BI ps).size) c2) (AB (BI ps))]:=by rw [List.take_of_length_le (by omega)] at H;exact H
 replace H:=H.dropR
 replace H:Hd _ _ _ [Y Ag q ps] []:=H
 exact Al U H
theorem eI (vxs:Value) (xs:List Aq) (vys:Value) (ys:List Aq) (hb:xs.length+ys.length≤1000000):
    Cn Tryz.prog 267 [vxs,vys] [] [Ac Ag vxs xs,Ac Ag vys ys] (fun v Bs=>Bs=[Y Ag v (srt (xs++ys))]):=by
 intro w0 F0 H
 obtain ⟨A1,c2,rfl,hc3,hm4,hp5⟩:=H.fR 0 rfl
 obtain ⟨A6,c7,rfl,hc8,hm9,hp10⟩:=H.fR 1 rfl
 refine enter Tryz.func267 U U (Nat.le_of_ble_eq_true U) (Aa (Ae (Ad U (Ab (Z ?_)))))
 replace H:Hd _ _ _ [] [Ac Ag (.slice A1 xs.length c2) xs,Ac Ag (.slice A6 ys.length c7) ys]:=H
 refine Aa (Aa (Ae (Ad U (sc (SQ (.slice A1 xs.length c2) xs (by first |omega|decide|(simp only [List.length_append,List.length_cons,List.length_nil,GU];omega))) H (lR 0 U l0) U U (Av QC U U) ?_))))
 rintro _ _ w ⟨rfl,rfl⟩ H
 refine V U U (D4 U U) (Ad U ?_)
 refine AQ (d:=9) U (fun h11=>?_) (fun h11=>?_)
 ·refine Ah 4 U (Ab (Z (CN U (Aa (Ae (Ad U ?_))))))
  replace H:=H.newnil Ag
  refine CE (xs:=[]) (ys:=xs) U U U BM Dh U (by decide) U U H (by first |omega|(simp only [List.length_append,List.length_cons,List.length_nil];omega)) (fun F hA hR=>hR _ (List.mem_of_getElem? (i:=0) U)) (fun v12 w H=>(Ad U (CE (xs:=[]++xs) (ys:=ys) U U U BM Dh U (by decide) U U H (by first |omega|(simp only [List.length_append,List.length_cons,List.length_nil];omega)) (fun F hA hR=>hR _ (List.mem_of_getElem? (i:=1) U)) (fun v13 w H=>?_))))
  replace H:Hd _ _ _ [Y Ag v13 (([]++xs)++ys)] [Ac Ag (.slice A1 xs.length c2) xs,Ac Ag (.slice A6 ys.length c7) ys]:=H
  refine sc (RP v13 (([]++xs)++ys) (by first |omega|decide|(simp only [List.length_append,List.length_cons,List.length_nil,GU];omega))) H (lA 0 U B2 l0) U U (Av QA U U) ?_
  rintro v14 _ w rfl H
  replace H:=H.h1 (A:=Y Ag v14 (srt (([]++xs)++ys)))
  refine Ad U (Ab (Z (An (AA (Ap U U ?_)))))
  replace H:=H.k1.h1 (A:=Y Ag v14 (srt (xs++ys)))
  exact Al U H
 refine Ad U (sc (SQ (.slice A6 ys.length c7) ys (by first |omega|decide|(simp only [List.length_append,List.length_cons,List.length_nil,GU];omega))) H (lR 1 U l0) U U (Av QC U U) ?_)
 rintro _ _ w ⟨rfl,rfl⟩ H
 refine V U U (D4 U U) (Ad U (Ab (Z ?_)))
 refine AC U (fun h15=>?_) (fun h15=>?_)
 ·refine Aa (Ae (Ad U ?_))
  replace H:=H.newnil Ag
  refine CE (xs:=[]) (ys:=xs) U U U BM Dh U (by decide) U U H (by first |omega|(simp only [List.length_append,List.length_cons,List.length_nil];omega)) (fun F hA hR=>hR _ (List.mem_of_getElem? (i:=0) U)) (fun v16 w H=>(Ad U (CE (xs:=[]++xs) (ys:=ys) U U U BM Dh U (by decide) U U H (by first |omega|(simp only [List.length_append,List.length_cons,List.length_nil];omega)) (fun F hA hR=>hR _ (List.mem_of_getElem? (i:=1) U)) (fun v17 w H=>?_))))
  replace H:Hd _ _ _ [Y Ag v17 (([]++xs)++ys)] [Ac Ag (.slice A1 xs.length c2) xs,Ac Ag (.slice A6 ys.length c7) ys]:=H
  refine sc (RP v17 (([]++xs)++ys) (by first |omega|decide|(simp only [List.length_append,List.length_cons,List.length_nil,GU];omega))) H (lA 0 U B2 l0) U U (Av QA U U) ?_
  rintro v18 _ w rfl H
  replace H:=H.h1 (A:=Y Ag v18 (srt (([]++xs)++ys)))
  refine Ad U (Ab (Z (An (AA (Ap U U ?_)))))
  replace H:=H.k1.h1 (A:=Y Ag v18 (srt (xs++ys)))
  exact Al U H
 refine Az (Z (Aa ?_))
 have hoxs:Dd xs:=Classical.not_not.1 h11
 have hoys:Dd ys:=Classical.not_not.1 h15
 refine Ae (Ad U (Ab (Z (Aa (AW ?_)))))
 replace H:=H.newnil Ag|>.dupR 1 rfl|>.dupR 1 rfl
 refine B1 (σ:=Value×Value×List Aq×List Aq×Value×List Aq) (fun (u,v,al,bl,q,zs)=>[(0,u),(1,v),(4,.slice none 0 0),(5,q)]) (fun (u,v,al,bl,q,zs) w=>(Hd w0 F0 w [Y Ag q zs] [Ac Ag u al,Ac Ag v bl,Ac Ag (.slice A1 xs.length c2) xs,Ac Ag (.slice A6 ys.length c7) ys])∧(Dd al)∧(Dd bl)∧(zs.length+(al.length+bl.length)=xs.length+ys.length)∧(zs++srt (al++bl)=srt (xs++ys))) (fun (u,v,al,bl,q,zs)=>al.length+bl.length) (.slice A1 xs.length c2,.slice A6 ys.length c7,xs,ys,.slice none 0 0,[]) ⟨rfl,rfl,rfl,rfl,trivial⟩ ⟨H,hoxs,hoys,by (try dsimp only);simp only [List.length_nil];omega,rfl⟩ ?_
 rintro ⟨u,v,al,bl,q,zs⟩ w ⟨H,ha,hb2,hl,hz⟩
 refine Aa (Aa (Ae (Ad U ?_)))
 obtain ⟨A19,c20,rfl,hc21,hm22,hp23⟩:=H.fR 0 rfl
 refine V U U (Bj U Dt U) (V U U (CH U U U) (Ad U ?_))
 refine AQ (d:=22) U (fun h24=>?_) (fun h24=>?_)
 ·refine Ad U ?_
  obtain ⟨A25,c26,rfl,hc27,hm28,hp29⟩:=H.fR 1 rfl
  refine V U U (Bj U Dt U) (V U U (CH U U U) (Ad U (Ab (Z ?_))))
  replace H:Hd _ _ _ [Y Ag q zs] [Ac Ag (.slice A19 al.length c20) al,Ac Ag (.slice A25 bl.length c26) bl,Ac Ag (.slice A1 xs.length c2) xs,Ac Ag (.slice A6 ys.length c7) ys]:=H
  refine AC U (fun h30=>?_) (fun h30=>?_)
  ·refine Az (Z (AW (Aa (Aa (G4 mo (by kernel_rfl) H (Ep U ?_))))))
   obtain ⟨x31,hx32⟩:∃ z9,bl[0]?=some z9:=⟨_,List.getElem?_eq_getElem (show 0<bl.length by omega)⟩
   have th33:=H.thR 1 rfl hx32
   refine BK U U (fun w H=>Bi (p:=Ba A25+0*2) U BM U U (by omega) (by omega) th33 (by omega)) (BK U U (fun w H=>Aj U F8 U) (BK U U (fun w H=>Am U Cl U (H.elR 1 U hx32 (q:=0) U U)) (Ep U ?_)))
   obtain ⟨x34,hx35⟩:∃ z9,al[0]?=some z9:=⟨_,List.getElem?_eq_getElem (show 0<al.length by omega)⟩
   have th36:=H.thR 0 rfl hx35
   refine BK U U (fun w H=>Bi (p:=Ba A19+0*2) U BM U U (by omega) (by omega) th36 (by omega)) (BK U U (fun w H=>Aj U F8 U) (BK U U (fun w H=>Am U Cl U (H.elR 0 U hx35 (q:=0) U U)) (BK U U (fun w H=>Sc U U U) (Ho (fun w H=>(Z ?_))))))
   refine AC U (fun h37=>?_) (fun h37=>?_)
   ·refine Aa (Ae (Ah 2 U ?_))
    have th38:=H.thR 1 rfl hx32
    refine V U U (Bi (p:=Ba A25+0*2) U BM U U (by omega) (by omega) th38 (by omega)) (V U U (BG (cs:=[.string x31.key,.string x31.val]) U CF U U (H.elsR 1 U hx32 U)) (Cg (parts:=[(0,.tmp 39)]) (vs:=[.agg #[.string x31.key,.string x31.val]]) (cs:=[.string x31.key,.string x31.val]) U U U BM Dh U (by decide) (by decide) U U H (fun b39 w H=>?_)))
    replace H:=H.p1
    refine CE (xs:=zs) (ys:=[x31]) U U U BM Dh U (by decide) U U H (by first |omega|(simp only [List.length_append,List.length_cons,List.length_nil];omega)) (fun F hA hR=>CC (hA _ (List.mem_of_getElem? (i:=0) U)) U (by decide) (Be.flat_eq.2 U)) (fun v40 w H=>(Ad U (Ab (Z ?_))))
    replace H:Hd _ _ _ [Y Ag v40 (zs++[x31]),blk b39 [.string x31.key,.string x31.val] 122] [Ac Ag (.slice A19 al.length c20) al,Ac Ag (.slice A25 bl.length c26) bl,Ac Ag (.slice A1 xs.length c2) xs,Ac Ag (.slice A6 ys.length c7) ys]:=H
    refine Aa (Ae (Ad U (V U U (JO U BM U U (by omega) (by omega) U) (Ad U (Ab (Z (BQ (AV (BS ?_)))))))))
    replace H:=H.k1.sufR 1 rfl (n:=1) (by omega)
    replace H:Hd w0 F0 w [Y Ag v40 (zs++[x31])] [Ac Ag (.slice A19 al.length c20) al,Ac Ag (.slice (D7 A25 c26 1 2) (bl.length - 1) (c26 - 1)) (bl.drop 1),Ac Ag (.slice A1 xs.length c2) xs,Ac Ag (.slice A6 ys.length c7) ys]:=H.pickR [1,0,3,4]
    have hz2:(zs++[x31])++srt (al++bl.drop 1)=srt (xs++ys):=by rw [←hz,Yz hx35 hx32 ha hb2 h37,List.append_assoc];rfl
    exact Bo (s:=(undef,undef,al,bl,undef,zs)) (.slice A19 al.length c20,.slice (D7 A25 c26 1 2) (bl.length - 1) (c26 - 1),al,bl.drop 1,v40,zs++[x31]) ⟨rfl,rfl,rfl,rfl,trivial⟩ ⟨H,ha,RK hb2 1,by (try dsimp only);simp only [List.length_append,List.length_cons,List.length_nil,List.length_drop];omega,hz2⟩ (by (try dsimp only);simp only [List.length_drop];omega)
   refine Az (Z (Aa (Ae (Ah 2 U ?_))))
   have th41:=H.thR 0 rfl hx35
   refine V U U (Bi (p:=Ba A19+0*2) U BM U U (by omega) (by omega) th41 (by omega)) (V U U (BG (cs:=[.string x34.key,.string x34.val]) U CF U U (H.elsR 0 U hx35 U)) (Cg (parts:=[(0,.tmp 47)]) (vs:=[.agg #[.string x34.key,.string x34.val]]) (cs:=[.string x34.key,.string x34.val]) U U U BM Dh U (by decide) (by decide) U U H (fun b42 w H=>?_)))
   replace H:=H.p1
   refine CE (xs:=zs) (ys:=[x34]) U U U BM Dh U (by decide) U U H (by first |omega|(simp only [List.length_append,List.length_cons,List.length_nil];omega)) (fun F hA hR=>CC (hA _ (List.mem_of_getElem? (i:=0) U)) U (by decide) (Be.flat_eq.2 U)) (fun v43 w H=>(Ad U (Ab (Z ?_))))
   replace H:Hd _ _ _ [Y Ag v43 (zs++[x34]),blk b42 [.string x34.key,.string x34.val] 122] [Ac Ag (.slice A19 al.length c20) al,Ac Ag (.slice A25 bl.length c26) bl,Ac Ag (.slice A1 xs.length c2) xs,Ac Ag (.slice A6 ys.length c7) ys]:=H
   refine Ae (Ad U (V U U (JO U BM U U (by omega) (by omega) U) (Ad U (Ab (Bb ?_)))))
   replace H:=H.k1.sufR 0 rfl (n:=1) (by omega)
   replace H:Hd w0 F0 w [Y Ag v43 (zs++[x34])] [Ac Ag (.slice (D7 A19 c20 1 2) (al.length - 1) (c20 - 1)) (al.drop 1),Ac Ag (.slice A25 bl.length c26) bl,Ac Ag (.slice A1 xs.length c2) xs,Ac Ag (.slice A6 ys.length c7) ys]:=H.pickR [0,2,3,4]
   have hz2:(zs++[x34])++srt (al.drop 1++bl)=srt (xs++ys):=by rw [←hz,Yy hx35 hx32 ha hb2 h37,List.append_assoc];rfl
   exact Bo (s:=(undef,undef,al,bl,undef,zs)) (.slice (D7 A19 c20 1 2) (al.length - 1) (c20 - 1),.slice A25 bl.length c26,al.drop 1,bl,v43,zs++[x34]) ⟨rfl,rfl,rfl,rfl,trivial⟩ ⟨H,RK ha 1,hb2,by (try dsimp only);simp only [List.length_append,List.length_cons,List.length_nil,List.length_drop];omega,hz2⟩ (by (try dsimp only);simp only [List.length_drop];omega)
  refine BQ (AV (AV (BS (Z (Aa (Ae (Ah 2 U (CE (xs:=zs) (ys:=al) U U U BM Dh U (by decide) U U H (by first |omega|(simp only [List.length_append,List.length_cons,List.length_nil];omega)) (fun F hA hR=>hR _ (List.mem_of_getElem? (i:=0) U)) (fun v44 w H=>(Ad U (CE (xs:=zs++al) (ys:=bl) U U U BM Dh U (by decide) U U H (by first |omega|(simp only [List.length_append,List.length_cons,List.length_nil];omega)) (fun F hA hR=>hR _ (List.mem_of_getElem? (i:=1) U)) (fun v45 w H=>?_))))))))))))
  replace H:=H.h1 (A:=Y Ag v45 ((zs++al)++bl))
  refine Ad U (Ab (Z (An (Ap U U ?_))))
  replace H:Hd w0 F0 w [Y Ag v45 (srt (xs++ys))] [Ac Ag (.slice A19 al.length c20) al,Ac Ag (.slice A25 bl.length c26) bl,Ac Ag (.slice A1 xs.length c2) xs,Ac Ag (.slice A6 ys.length c7) ys]:=by rw [←hz,Rf ha hb2 (by omega),←List.append_assoc];exact H
  replace H:=H.dropR|>.dropR
  exact Al U H
 refine Ah 4 U (Ab (Z ?_))
 replace H:Hd _ _ _ [Y Ag q zs] [Ac Ag (.slice A19 al.length c20) al,Ac Ag v bl,Ac Ag (.slice A1 xs.length c2) xs,Ac Ag (.slice A6 ys.length c7) ys]:=H
 refine Ch U (BQ (AV (AV (BS (Z (Aa (Ae (Ah 2 U (CE (xs:=zs) (ys:=al) U U U BM Dh U (by decide) U U H (by first |omega|(simp only [List.length_append,List.length_cons,List.length_nil];omega)) (fun F hA hR=>hR _ (List.mem_of_getElem? (i:=0) U)) (fun v46 w H=>(Ad U ?_)))))))))))
 obtain ⟨A47,c48,rfl,hc49,hm50,hp51⟩:=H.fR 1 rfl
 refine CE (xs:=zs++al) (ys:=bl) U U U BM Dh U (by decide) U U H (by first |omega|(simp only [List.length_append,List.length_cons,List.length_nil];omega)) (fun F hA hR=>hR _ (List.mem_of_getElem? (i:=1) U)) (fun v52 w H=>(Ad U (Ab (Z ?_))))
 replace H:Hd _ _ _ [Y Ag v52 ((zs++al)++bl)] [Ac Ag (.slice A19 al.length c20) al,Ac Ag (.slice A47 bl.length c48) bl,Ac Ag (.slice A1 xs.length c2) xs,Ac Ag (.slice A6 ys.length c7) ys]:=H
 refine An (Ap U U ?_)
 replace H:Hd w0 F0 w [Y Ag v52 (srt (xs++ys))] [Ac Ag (.slice A19 al.length c20) al,Ac Ag (.slice A47 bl.length c48) bl,Ac Ag (.slice A1 xs.length c2) xs,Ac Ag (.slice A6 ys.length c7) ys]:=by rw [←hz,Rf ha hb2 (by omega),←List.append_assoc];exact H
 replace H:=H.dropR|>.dropR
 exact Al U H
theorem cC (vus:Value) (us:List (Value×List Aq)) (hb:(CY us).length≤1000000):
    Cn Tryz.prog 254 [vus] [] [Ac (At Ag) vus us] (fun v Bs=>Bs=[Y Ag v (srt (CY us))]):=by
 intro w0 F0 H
 obtain ⟨A1,c2,rfl,hc3,hm4,hp5⟩:=H.fR 0 rfl
 refine enter Tryz.func254 U U (Nat.le_of_ble_eq_true U) (Aa (Ae (Ad U (Ab (Z ?_)))))
 replace H:Hd _ _ _ [] [Ac (At Ag) (.slice A1 us.length c2) us]:=H
 refine Aa (Ae (Ad U (Ab (Z (Aa (Aa (Ae (Ad U (V U U (Bj U Fp U) (Ad U (Ab (Z (AW ?_)))))))))))))
 replace H:=H.newnil Ag
 refine B1 (σ:=Nat×Value) (fun (k,q)=>[(2,.slice none 0 0),(3,q),(6,.slice A1 us.length c2),(7,.int .i64 ((us.length:Nat):Int)),(8,.int .i64 ((k:Nat):Int))]) (fun (k,q) w=>(Hd w0 F0 w [Y Ag q (srt (CY (us.take k)))] [Ac (At Ag) (.slice A1 us.length c2) us])∧(k≤us.length)) (fun (k,q)=>us.length - k) (0,.slice none 0 0) ⟨rfl,rfl,rfl,rfl,rfl,trivial⟩ ⟨H,by (try dsimp only);omega⟩ ?_
 rintro ⟨k,q⟩ w ⟨H,hk⟩
 have hsl:=GU (CY (us.take k))
 refine Aa (Ae (V U U (Br U U U) (Ab (Z (Aa ?_)))))
 refine AC U (fun h6=>?_) (fun h6=>?_)
 ·refine Az (Z (Aa (AW (Aa (Ae ?_)))))
  obtain ⟨⟨u9,x7⟩,hx8⟩:∃ z9,us[k]?=some z9:=⟨_,List.getElem?_eq_getElem (show k<us.length by omega)⟩
  obtain ⟨A10,c11,rfl,hc12,hm13⟩:=H.nestR 0 rfl hx8
  have th14:=H.thRd 0 rfl hx8
  refine V U U (Bi (p:=Ba A1+k*1) U Gy U U (by omega) (by omega) th14 U) (V U U (Am U DJ U (H.elRd 0 U hx8 U)) (Ad U (Ab (Z ?_))))
  have hfl:=Pn us (k+1)
  rw [Po hx8,List.length_append] at hfl
  refine Ae (Ah 2 U (sc (eI q (srt (CY (us.take k))) (.slice A10 x7.length c11) x7 (by first |omega|decide|(simp only [List.length_append,List.length_cons,List.length_nil,GU];omega))) H (lA 0 U B2 (lX (fun F hA hR=>JJ (hR _ (List.mem_of_getElem? (i:=0) U)) hx8) l0)) U U (Av Xk U U) ?_))
  rintro v15 _ w rfl H
  refine Ad U (Ab (Bb (Z ?_)))
  replace H:Hd _ _ _ [Y Ag v15 (srt ((srt (CY (us.take k)))++x7)),Y Ag q (srt (CY (us.take k)))] [Ac (At Ag) (.slice A1 us.length c2) us]:=H
  refine Ae (V U U (Bc (z:=((k+1:Nat):Int)) U U U (by rw [AI (by omega) (by omega)];omega)) (Ad U (Ab ?_)))
  replace H:=H.k1
  replace H:Hd w0 F0 w [Y Ag v15 (srt (CY (us.take (k+1))))] [Ac (At Ag) (.slice A1 us.length c2) us]:=by rw [Po hx8,←dJ];exact H
  exact Bo (s:=(k,undef)) (k+1,v15) ⟨rfl,rfl,rfl,rfl,rfl,trivial⟩ ⟨H,by (try dsimp only);omega⟩ (by (try dsimp only);omega)
 refine BQ (AV (AV (BS (Z (Aa (Ae (Ah 2 U (Ab (Z (An (Ap U U ?_)))))))))))
 replace H:Hd w0 F0 w [Y Ag q (srt (CY us))] [Ac (At Ag) (.slice A1 us.length c2) us]:=by rw [List.take_of_length_le (show us.length≤k by omega)] at H;exact H
 exact Al U H
theorem Ra (b:Nat) (vS:Value) (vM:Value) (vC:Value) (vR:Value) (vK:Value) (J:AR) (cw:Int) (ct:Int) (co:Int) (s:Nat) (att:Int) (cb:Nat) (fv:Value) (vw:Value):
    Cn Tryz.prog 137 [.pointer (some ⟨b,0,none⟩)] [blk cb [.int .u32 1,.int .i32 0,.int .u32 0,.int .u32 1,fv,.string (BI (A0 dg J s).1)] 305] [blk b [vS,.int .i64 J.parts,vM,vC,vR,.int .i64 J.chunk,.int .i64 J.window,.int .i64 J.fuel,vK,.int .i64 cw,.int .i64 ct,.int .i64 co,.int .i64 ((s:Nat):Int),.int .i64 att,.int .i64 ((A0 dg J s).2),.pointer (some ⟨cb,0,none⟩),vw] 215] (fun v Bs=>v=.int .i64 ((A0 dg J s).2)∧Bs=[blk cb [.int .u32 1,.int .i32 0,.int .u32 0,.int .u32 1,fv,.string (BI (A0 dg J s).1)] 305]):=by
 intro w0 F0 H
 refine enter Tryz.func137 U U (Nat.le_of_ble_eq_true U) (Aa (Ae (Ad U (Ab (Z (Aa (Aa (Ae (Ad U (V U U (Dg U LH U U) (Ab (Z (Ch U (Az (Z (Aa (Ae (Ad U (V U U (AJ U U) (V U U (Aj U Py U) (V U U (Am U FT U (H.cellRI 0 U U)) (sc (Mr cb fv (BI (A0 dg J s).1)) H l0 U U (Av KI U U) ?_))))))))))))))))))))))
 rintro _ _ w ⟨rfl,rfl⟩ H
 refine Ab (Z ?_)
 replace H:Hd _ _ _ [blk cb [.int .u32 1,.int .i32 0,.int .u32 0,.int .u32 1,fv,.string (BI (A0 dg J s).1)] 305] [blk b [vS,.int .i64 J.parts,vM,vC,vR,.int .i64 J.chunk,.int .i64 J.window,.int .i64 J.fuel,vK,.int .i64 cw,.int .i64 ct,.int .i64 co,.int .i64 ((s:Nat):Int),.int .i64 att,.int .i64 ((A0 dg J s).2),.pointer (some ⟨cb,0,none⟩),vw] 215]:=H
 exact Aa (Ae (Ad U (V U U (AJ U U) (V U U (Aj U Vv U) (V U U (Am U AE U (H.cellRI 0 U U)) (Ad U (Ab (Z (An (Ap U U (Al ⟨rfl,rfl⟩ H)))))))))))
theorem Q_ (b:Nat) (vS:Value) (vM:Value) (vC:Value) (vR:Value) (vK:Value) (J:AR) (cw:Int) (ct:Int) (co:Int) (s:Nat) (att:Int) (cb:Nat) (fv:Value) (vw:Value) (p:Int) (hJ:C4 J):
    Cn Tryz.prog 189 [.pointer (some ⟨b,0,none⟩),.int .i64 p] [blk cb [.int .u32 1,.int .i32 0,.int .u32 0,.int .u32 1,fv,.string (BI (A0 dg J s).1)] 305] [blk b [vS,.int .i64 J.parts,vM,vC,vR,.int .i64 J.chunk,.int .i64 J.window,.int .i64 J.fuel,vK,.int .i64 cw,.int .i64 ct,.int .i64 co,.int .i64 ((s:Nat):Int),.int .i64 att,.int .i64 ((A0 dg J s).2),.pointer (some ⟨cb,0,none⟩),vw] 215] (fun v Bs=>Bs=[Y Ag v (DM dg J s p),blk cb [.int .u32 1,.int .i32 0,.int .u32 0,.int .u32 1,fv,.string (BI (A0 dg J s).1)] 305]):=by
 intro w0 F0 H
 have hlen:(A0 dg J s).1.length≤1000:=by have:=Lz dg J s;omega
 have hszs:∀ p∈(A0 dg J s).1,p.key.size≤100∧p.val.size≤100:=fun x hx=>by have:=NM K5 hJ s x hx;unfold C5 at this;omega
 have hsk:∀ x∈(A0 dg J s).1,x.key.size≤9223372036854775807:=fun x hx=>by have:=(hszs x hx).1;omega
 have hpt:=hJ.parts
 have hck:=hJ.chunk1
 have hol:=M9 dg J s
 refine enter Tryz.func189 U U (Nat.le_of_ble_eq_true U) (Aa (Ae (Ad U (Ab (Z (Aa (Ce (.e 0 (.e 1 (.e 2 (.e 3 (.e 6 (.e 7 (.e 8 (.e 9 (.e 10 (.e 11 (.e 12 (.m 4 (.m 5 (.m 13 (.e 14 .z))))))))))))))) (fun w=>∃ Ar,Hd w0 F0 w (blk cb [.int .u32 1,.int .i32 0,.int .u32 0,.int .u32 1,fv,.string (BI (A0 dg J s).1)] 305::Ar) [blk b [vS,.int .i64 J.parts,vM,vC,vR,.int .i64 J.chunk,.int .i64 J.window,.int .i64 J.fuel,vK,.int .i64 cw,.int .i64 ct,.int .i64 co,.int .i64 ((s:Nat):Int),.int .i64 att,.int .i64 ((A0 dg J s).2),.pointer (some ⟨cb,0,none⟩),vw] 215]) mo (by kernel_rfl) (fun w H=>⟨_,H⟩) H (fun w H=>(Au U (Ao U U U (fun w ⟨Ar,H⟩=>AJ U U) (Ao U U U (fun w ⟨Ar,H⟩=>Aj U Py U) (Ao U U U (fun w ⟨Ar,H⟩=>Am U FT U (H.cellRI 0 U U)) (Au U ?_)))))))))))))
 refine Ao U U U (fun w ⟨Ar,H⟩=>AJ U U) (Ao U U U (fun w ⟨Ar,H⟩=>Aj U Mh U) (Ao U U U (fun w ⟨Ar,H⟩=>Aj U DL U) (Ao U U U (fun w ⟨Ar,H⟩=>Aj U Jv U) (Ao U U U (fun w ⟨Ar,H⟩=>Am U AE U (H.cellRI 0 U U)) (Au U (AO U (sc (Mr cb fv (BI (A0 dg J s).1)) H l0 U U (Av KI U U) ?_)))))))
 rintro _ _ w ⟨rfl,rfl⟩ H
 replace H:Hd _ _ _ [blk cb [.int .u32 1,.int .i32 0,.int .u32 0,.int .u32 1,fv,.string (BI (A0 dg J s).1)] 305] [blk b [vS,.int .i64 J.parts,vM,vC,vR,.int .i64 J.chunk,.int .i64 J.window,.int .i64 J.fuel,vK,.int .i64 cw,.int .i64 ct,.int .i64 co,.int .i64 ((s:Nat):Int),.int .i64 att,.int .i64 ((A0 dg J s).2),.pointer (some ⟨cb,0,none⟩),vw] 215]:=H
 refine AH ⟨_,H⟩ (AO U (sc (eZ ((A0 dg J s).1) (by first |assumption|omega|exact hlen|exact hszs) (by first |assumption|omega|exact hlen|exact hszs)) H l0 U U (Av W8 U U) ?_))
 rintro v1 _ w rfl H
 replace H:=H.h1 (A:=Y Ag v1 ((A0 dg J s).1))|>.p1
 refine AH ⟨_,H⟩ (AO U (sc (Zb v1 ((A0 dg J s).1) J.parts p (by first |omega|(rw [GU];omega)) (by omega) (by assumption)) H (lA 1 U B2 l0) U U (Av W6 U U) ?_))
 rintro v2 _ w rfl H
 replace H:=H.h1 (A:=Y Ag v2 (FB ((A0 dg J s).1) J.parts p))|>.p1
 refine AH ⟨_,H⟩ (Au U (BO (Z (An (Ap U U ?_)))))
 replace H:=H.p1.k2.h1 (A:=Y Ag v2 (DM dg J s p))
 exact Al U H
theorem Rb (b:Nat) (vS:Value) (vM:Value) (vC:Value) (vR:Value) (vK:Value) (J:AR) (cw:Int) (ct:Int) (co:Int) (s:Nat) (att:Int) (cb:Nat) (vw:Value) (hJ:C4 J):
    Cn Tryz.prog 190 [.pointer (some ⟨b,0,none⟩)] [] [blk b [vS,.int .i64 J.parts,vM,vC,vR,.int .i64 J.chunk,.int .i64 J.window,.int .i64 J.fuel,vK,.int .i64 cw,.int .i64 ct,.int .i64 co,.int .i64 ((s:Nat):Int),.int .i64 att,.int .i64 ((A0 dg J s).2),.pointer (some ⟨cb,0,none⟩),vw] 215] (fun v Bs=>v=.int .i64 (EC J.chunk att)∧Bs=[]):=by
 intro w0 F0 H
 have hck:=hJ.chunk1
 refine enter Tryz.func190 U U (Nat.le_of_ble_eq_true U) (Aa (Ae (Ad U (Ab (Z (Aa (Ce (.e 0 (.e 1 (.e 2 (.e 3 (.e 4 (.e 5 (.e 6 (.e 7 (.e 8 (.e 9 (.m 10 (.e 11 .z)))))))))))) (fun w=>∃ Ar,Hd w0 F0 w (Ar) [blk b [vS,.int .i64 J.parts,vM,vC,vR,.int .i64 J.chunk,.int .i64 J.window,.int .i64 J.fuel,vK,.int .i64 cw,.int .i64 ct,.int .i64 co,.int .i64 ((s:Nat):Int),.int .i64 att,.int .i64 ((A0 dg J s).2),.pointer (some ⟨cb,0,none⟩),vw] 215]) mo (by kernel_rfl) (fun w H=>⟨_,H⟩) H (fun w H=>(Au U (Ao U U U (fun w ⟨Ar,H⟩=>AJ U U) (Ao U U U (fun w ⟨Ar,H⟩=>Aj U Mh U) (Ao U U U (fun w ⟨Ar,H⟩=>Aj U DL U) (Ao U U U (fun w ⟨Ar,H⟩=>Aj U PA U) (Ao U U U (fun w ⟨Ar,H⟩=>Am U AE U (H.cellRI 0 U U)) (Au U (Ao U U U (fun w ⟨Ar,H⟩=>AJ U U) ?_))))))))))))))))
 refine Ao U U U (fun w ⟨Ar,H⟩=>Aj U Px U) (Ao U U U (fun w ⟨Ar,H⟩=>Am U AE U (H.cellRI 0 U U)) (AO U (sc (UH J.chunk att (by first |assumption|omega|exact hlen|exact hszs)) H l0 U U (Av W9 U U) ?_)))
 rintro _ _ w ⟨rfl,rfl⟩ H
 replace H:Hd _ _ _ [] [blk b [vS,.int .i64 J.parts,vM,vC,vR,.int .i64 J.chunk,.int .i64 J.window,.int .i64 J.fuel,vK,.int .i64 cw,.int .i64 ct,.int .i64 co,.int .i64 ((s:Nat):Int),.int .i64 att,.int .i64 ((A0 dg J s).2),.pointer (some ⟨cb,0,none⟩),vw] 215]:=H
 exact AH ⟨_,H⟩ (Au U (BO (Z (An (Ap U U (Al ⟨rfl,rfl⟩ H))))))
theorem Yo (b:Nat) (vS:Value) (vM:Value) (vC:Value) (vR:Value) (vK:Value) (J:AR) (cw:Int) (ct:Int) (co:Int) (s:Nat) (att:Int) (cb:Nat) (fv:Value) (vw:Value) (hJ:C4 J):
    Cn Tryz.prog 136 [.pointer (some ⟨b,0,none⟩)] [blk cb [.int .u32 1,.int .i32 0,.int .u32 0,.int .u32 1,fv,.string (BI (A0 dg J s).1)] 305] [blk b [vS,.int .i64 J.parts,vM,vC,vR,.int .i64 J.chunk,.int .i64 J.window,.int .i64 J.fuel,vK,.int .i64 cw,.int .i64 ct,.int .i64 co,.int .i64 ((s:Nat):Int),.int .i64 att,.int .i64 ((A0 dg J s).2),.pointer (some ⟨cb,0,none⟩),vw] 215] (fun v Bs=>Bs=[Y (Ai .i64) v (CX dg J s att),blk cb [.int .u32 1,.int .i32 0,.int .u32 0,.int .u32 1,fv,.string (BI (A0 dg J s).1)] 305]):=by
 intro w0 F0 H
 have hlen:(A0 dg J s).1.length≤1000:=by have:=Lz dg J s;omega
 have hszs:∀ p∈(A0 dg J s).1,p.key.size≤100∧p.val.size≤100:=fun x hx=>by have:=NM K5 hJ s x hx;unfold C5 at this;omega
 have hsk:∀ x∈(A0 dg J s).1,x.key.size≤9223372036854775807:=fun x hx=>by have:=(hszs x hx).1;omega
 have hpt:=hJ.parts
 have hck:=hJ.chunk1
 have hol:=M9 dg J s
 refine enter Tryz.func136 U U (Nat.le_of_ble_eq_true U) (Aa (Ae (Ad U (Ab (Z (Aa (Aa (Ae (Ad U (V U U (Dg U LH U U) (Ah 2 U (sc (Ra b vS vM vC vR vK J cw ct co s att cb fv vw) H (lR 0 U l0) U U (Av MG U U) ?_))))))))))))
 rintro _ _ w ⟨rfl,rfl⟩ H
 refine V U U (Cx U U U) (Ad U (Ab (Z ?_)))
 replace H:Hd _ _ _ [blk cb [.int .u32 1,.int .i32 0,.int .u32 0,.int .u32 1,fv,.string (BI (A0 dg J s).1)] 305] [blk b [vS,.int .i64 J.parts,vM,vC,vR,.int .i64 J.chunk,.int .i64 J.window,.int .i64 J.fuel,vK,.int .i64 cw,.int .i64 ct,.int .i64 co,.int .i64 ((s:Nat):Int),.int .i64 att,.int .i64 ((A0 dg J s).2),.pointer (some ⟨cb,0,none⟩),vw] 215]:=H
 refine AC U (fun h1=>?_) (fun h1=>?_)
 ·refine Aa (Ae (Ad U (Ab (Z (An (AA (Ap U U ?_)))))))
  replace H:=H.newnil (Ai .i64)|>.tellK (ys:=CX dg J s att) (by rw [UB h1])|>.h1 (A:=Y (Ai .i64) (.slice none 0 0) (CX dg J s att))
  exact Al U H
 refine Az (Z (Aa (Ae (Ad U (Ab (Z (Aa (Aa (Ae (Ad U (V U U (AJ U U) (V U U (Aj U Mh U) (V U U (Aj U DL U) (V U U (Aj U Jv U) (V U U (Am U AE U (H.cellRI 0 U U)) (Ad U (Ab (Z (AW ?_)))))))))))))))))))
 replace H:=H.newnil (Ai .i64)|>.tellK (ys:=FH dg J s att 0) (by rfl)
 refine B1 (σ:=Nat×Value) (fun (k,q)=>[(0,.pointer (some ⟨b,0,none⟩)),(2,.slice none 0 0),(3,q),(17,.int .i64 J.parts),(18,.int .i64 ((k:Nat):Int))]) (fun (k,q) w=>(Hd w0 F0 w [Y (Ai .i64) q (FH dg J s att k),blk cb [.int .u32 1,.int .i32 0,.int .u32 0,.int .u32 1,fv,.string (BI (A0 dg J s).1)] 305] [blk b [vS,.int .i64 J.parts,vM,vC,vR,.int .i64 J.chunk,.int .i64 J.window,.int .i64 J.fuel,vK,.int .i64 cw,.int .i64 ct,.int .i64 co,.int .i64 ((s:Nat):Int),.int .i64 att,.int .i64 ((A0 dg J s).2),.pointer (some ⟨cb,0,none⟩),vw] 215])∧((k:Int)≤J.parts)) (fun (k,q)=>J.parts.toNat - k) (0,.slice none 0 0) ⟨rfl,rfl,rfl,rfl,rfl,trivial⟩ ⟨H,by omega⟩ ?_
 rintro ⟨k,q⟩ w ⟨H,hk⟩
 have hcl:=Ur dg J s att k
 have holk:=hol ((k:Nat):Int)
 refine Aa (Ae (V U U (Br U U U) (Ab (Z (Aa ?_)))))
 refine AC U (fun h2=>?_) (fun h2=>?_)
 ·refine Az (Z (Aa (AW (Aa (Ae (Ah 2 U (Ab (Z (Ae (Ah 3 U ?_))))))))))
  replace H:=H.p1
  replace H:Hd _ _ _ [blk cb [.int .u32 1,.int .i32 0,.int .u32 0,.int .u32 1,fv,.string (BI (A0 dg J s).1)] 305,Y (Ai .i64) q (FH dg J s att k)] [blk b [vS,.int .i64 J.parts,vM,vC,vR,.int .i64 J.chunk,.int .i64 J.window,.int .i64 J.fuel,vK,.int .i64 cw,.int .i64 ct,.int .i64 co,.int .i64 ((s:Nat):Int),.int .i64 att,.int .i64 ((A0 dg J s).2),.pointer (some ⟨cb,0,none⟩),vw] 215]:=H
  refine sc (Q_ b vS vM vC vR vK J cw ct co s att cb fv vw ((k:Nat):Int) (by first |assumption|omega|exact hlen|exact hszs)) H (lR 0 U l0) U U (Av Qw U U) ?_
  rintro v3 _ w rfl H
  obtain ⟨A4,c5,rfl,hc6,hm7,hp8⟩:=H.fA 0 rfl
  refine V U U (Bj U Dt U) (Ad U ?_)
  replace H:Hd _ _ _ [Y Ag (.slice A4 ((DM dg J s ((k:Nat):Int)).length) c5) (DM dg J s ((k:Nat):Int)),blk cb [.int .u32 1,.int .i32 0,.int .u32 0,.int .u32 1,fv,.string (BI (A0 dg J s).1)] 305,Y (Ai .i64) q (FH dg J s att k)] [blk b [vS,.int .i64 J.parts,vM,vC,vR,.int .i64 J.chunk,.int .i64 J.window,.int .i64 J.fuel,vK,.int .i64 cw,.int .i64 ct,.int .i64 co,.int .i64 ((s:Nat):Int),.int .i64 att,.int .i64 ((A0 dg J s).2),.pointer (some ⟨cb,0,none⟩),vw] 215]:=H
  refine sc (Rb b vS vM vC vR vK J cw ct co s att cb vw (by first |assumption|omega|exact hlen|exact hszs)) H (lR 0 U l0) U U (Av Qx U U) ?_
  rintro _ _ w ⟨rfl,rfl⟩ H
  refine sc (O0 (((DM dg J s ((k:Nat):Int)).length:Nat):Int) (EC J.chunk att) (by first |assumption|omega|exact hlen|exact hszs)) H l0 U U (Av Qv U U) ?_
  rintro _ _ w ⟨rfl,rfl⟩ H
  refine Cg (parts:=[(0,.tmp 28)]) (vs:=[.int .i64 (Fv (((DM dg J s ((k:Nat):Int)).length:Nat):Int) (EC J.chunk att))]) (cs:=[.int .i64 (Fv (((DM dg J s ((k:Nat):Int)).length:Nat):Int) (EC J.chunk att))]) U U U DE Fa U (by decide) (by decide) U U H (fun b9 w H=>?_)
  replace H:=H.p3
  refine CE (xs:=FH dg J s att k) (ys:=[Fv (((DM dg J s ((k:Nat):Int)).length:Nat):Int) (EC J.chunk att)]) U U U DE Fa U (by decide) U U H (by first |omega|(simp only [List.length_append,List.length_cons,List.length_nil];omega)) (fun F hA hR=>CC (hA _ (List.mem_of_getElem? (i:=0) U)) U (by decide) (Be.flat_eq.2 U)) (fun v10 w H=>(Ad U (Ab (Bb (Z ?_)))))
  replace H:Hd _ _ _ [Y (Ai .i64) v10 ((FH dg J s att k)++[Fv (((DM dg J s ((k:Nat):Int)).length:Nat):Int) (EC J.chunk att)]),blk b9 [.int .i64 (Fv (((DM dg J s ((k:Nat):Int)).length:Nat):Int) (EC J.chunk att))] 3,Y Ag (.slice A4 ((DM dg J s ((k:Nat):Int)).length) c5) (DM dg J s ((k:Nat):Int)),blk cb [.int .u32 1,.int .i32 0,.int .u32 0,.int .u32 1,fv,.string (BI (A0 dg J s).1)] 305] [blk b [vS,.int .i64 J.parts,vM,vC,vR,.int .i64 J.chunk,.int .i64 J.window,.int .i64 J.fuel,vK,.int .i64 cw,.int .i64 ct,.int .i64 co,.int .i64 ((s:Nat):Int),.int .i64 att,.int .i64 ((A0 dg J s).2),.pointer (some ⟨cb,0,none⟩),vw] 215]:=H
  refine Ae (V U U (Bc (z:=((k+1:Nat):Int)) U U U (by rw [AI (by omega) (by omega)];omega)) (Ad U (Ab ?_)))
  replace H:=H.p3.p1.k2.tellK (ys:=FH dg J s att (k+1)) (by rw [Us])
  exact Bo (s:=(k,undef)) (k+1,v10) ⟨rfl,rfl,rfl,rfl,rfl,trivial⟩ ⟨H,by (try dsimp only);omega⟩ (by (try dsimp only);omega)
 refine BQ (AV (AV (BS (Z (Aa (Ae (Ah 2 U (Ab (Z (An (Ap U U ?_)))))))))))
 have hkk:k=J.parts.toNat:=by omega
 replace H:=H.tellK (ys:=CX dg J s att) (by rw [UC (Classical.not_not.1 h1),←hkk])
 replace H:Hd _ _ _ [Y (Ai .i64) q (CX dg J s att),blk cb [.int .u32 1,.int .i32 0,.int .u32 0,.int .u32 1,fv,.string (BI (A0 dg J s).1)] 305] [blk b [vS,.int .i64 J.parts,vM,vC,vR,.int .i64 J.chunk,.int .i64 J.window,.int .i64 J.fuel,vK,.int .i64 cw,.int .i64 ct,.int .i64 co,.int .i64 ((s:Nat):Int),.int .i64 att,.int .i64 ((A0 dg J s).2),.pointer (some ⟨cb,0,none⟩),vw] 215]:=H
 exact Al U H
theorem Yn (b:Nat) (vS:Value) (vM:Value) (vC:Value) (vR:Value) (vK:Value) (J:AR) (cw:Int) (ct:Int) (co:Int) (s:Nat) (att:Int) (cb:Nat) (fv:Value) (vw:Value) (p:Int) (q:Int) (hJ:C4 J):
    Cn Tryz.prog 193 [.pointer (some ⟨b,0,none⟩),.int .i64 p,.int .i64 q] [blk cb [.int .u32 1,.int .i32 0,.int .u32 0,.int .u32 1,fv,.string (BI (A0 dg J s).1)] 305] [blk b [vS,.int .i64 J.parts,vM,vC,vR,.int .i64 J.chunk,.int .i64 J.window,.int .i64 J.fuel,vK,.int .i64 cw,.int .i64 ct,.int .i64 co,.int .i64 ((s:Nat):Int),.int .i64 att,.int .i64 ((A0 dg J s).2),.pointer (some ⟨cb,0,none⟩),vw] 215] (fun v Bs=>Bs=[Y Ag v (Dv dg J s att p q),blk cb [.int .u32 1,.int .i32 0,.int .u32 0,.int .u32 1,fv,.string (BI (A0 dg J s).1)] 305]):=by
 intro w0 F0 H
 have hlen:(A0 dg J s).1.length≤1000:=by have:=Lz dg J s;omega
 have hszs:∀ p∈(A0 dg J s).1,p.key.size≤100∧p.val.size≤100:=fun x hx=>by have:=NM K5 hJ s x hx;unfold C5 at this;omega
 have hsk:∀ x∈(A0 dg J s).1,x.key.size≤9223372036854775807:=fun x hx=>by have:=(hszs x hx).1;omega
 have hpt:=hJ.parts
 have hck:=hJ.chunk1
 have hol:=M9 dg J s
 have hcs:=UI (att:=att) hck
 have holp:=hol p
 refine enter Tryz.func193 U U (Nat.le_of_ble_eq_true U) (Aa (Ae (Ad U (Ab (Z (Aa (Aa (Ae (Ad U (V U U (Dg U LH U U) (Ah 2 U (V U U (Br U U U) (Ad U (Ab (Z ?_)))))))))))))))
 refine AC U (fun h1=>?_) (fun h1=>?_)
 ·refine Aa (Ae (Ad U (Ab (Z (An (AA (Ap U U ?_)))))))
  replace H:=H.newnil Ag
  replace H:Hd _ _ _ [Y Ag (.slice none 0 0) [],blk cb [.int .u32 1,.int .i32 0,.int .u32 0,.int .u32 1,fv,.string (BI (A0 dg J s).1)] 305] [blk b [vS,.int .i64 J.parts,vM,vC,vR,.int .i64 J.chunk,.int .i64 J.window,.int .i64 J.fuel,vK,.int .i64 cw,.int .i64 ct,.int .i64 co,.int .i64 ((s:Nat):Int),.int .i64 att,.int .i64 ((A0 dg J s).2),.pointer (some ⟨cb,0,none⟩),vw] 215]:=H
  replace H:=H.tellK (ys:=Dv dg J s att p q) (by rw [show Dv dg J s att p q=[] from if_pos h1])|>.h1 (A:=Y Ag (.slice none 0 0) (Dv dg J s att p q))
  exact Al U H
 refine Az (Z (Aa (Ae (Ah 2 U (sc (Q_ b vS vM vC vR vK J cw ct co s att cb fv vw p (by first |assumption|omega|exact hlen|exact hszs)) H (lR 0 U l0) U U (Av Qw U U) ?_)))))
 rintro v2 _ w rfl H
 refine Ad U ?_
 replace H:Hd _ _ _ [Y Ag v2 (DM dg J s p),blk cb [.int .u32 1,.int .i32 0,.int .u32 0,.int .u32 1,fv,.string (BI (A0 dg J s).1)] 305] [blk b [vS,.int .i64 J.parts,vM,vC,vR,.int .i64 J.chunk,.int .i64 J.window,.int .i64 J.fuel,vK,.int .i64 cw,.int .i64 ct,.int .i64 co,.int .i64 ((s:Nat):Int),.int .i64 att,.int .i64 ((A0 dg J s).2),.pointer (some ⟨cb,0,none⟩),vw] 215]:=H
 refine sc (Rb b vS vM vC vR vK J cw ct co s att cb vw (by first |assumption|omega|exact hlen|exact hszs)) H (lR 0 U l0) U U (Av Qx U U) ?_
 rintro _ _ w ⟨rfl,rfl⟩ H
 refine Ad U (sc (UF v2 (DM dg J s p) (EC J.chunk att) q (by first |assumption|omega|exact hlen|exact hszs) (by first |assumption|omega|exact hlen|exact hszs)) H (lA 0 U B2 l0) U U (Av W_ U U) ?_)
 rintro v3 _ w rfl H
 replace H:=H.h1 (A:=Y Ag v3 (FI (DM dg J s p) (EC J.chunk att) q))
 refine Ad U (Ab (Z (An (Ap U U ?_))))
 replace H:=H.p2.p1.k2.tellK (ys:=Dv dg J s att p q) (by rw [show Dv dg J s att p q=FI (DM dg J s p) (EC J.chunk att) q from if_neg h1])|>.h1 (A:=Y Ag v3 (Dv dg J s att p q))
 exact Al U H
theorem fN (b:Nat) (c:Int) (s:Int) (e:Int) (x:Int) (h:0≤c∧c≤40∧1≤s∧s≤4) (hx:0≤x∧x≤c):
    Cn Tryz.prog 192 [.pointer (some ⟨b,0,none⟩)] [] [blk b [.int .i64 c,.int .i64 s,.int .i64 e,.int .i64 x] 279] (fun v Bs=>Bs=[Y (Ai .i64) v (DS c s x)]):=by
 intro w0 F0 H
 refine enter Tryz.func192 U U (Nat.le_of_ble_eq_true U) (Aa (Ae (Ad U (Ab (Z (Aa (Aa (Ae (Ad U (V U U (Dg U eV U U) (Ab (Z (Ch U (Az (Z (Aa (Ae (Ad U (Ab (Z (Aa (Aa (G4 mo (by kernel_rfl) H (Ep U (BK U U (fun w H=>AJ U U) (BK U U (fun w H=>Aj U VA U) (BK U U (fun w H=>Am U AE U (H.cellRI 0 U U)) (Ep U (BK U U (fun w H=>AJ U U) (BK U U (fun w H=>Aj U Vz U) (BK U U (fun w H=>Am U AE U (H.cellRI 0 U U)) (Ep U (BK U U (fun w H=>AJ U U) (BK U U (fun w H=>Aj U PC U) (BK U U (fun w H=>Am U AE U (H.cellRI 0 U U)) (BK U U (fun w H=>CP (z:=c - x) U U U (AI (by omega) (by omega))) ?_))))))))))))))))))))))))))))))))))))
 refine BK U U (fun w H=>Ih (z:=min s (c - x)) U U U U) (Ep U (Ho (fun w H=>(Z (AW ?_)))))
 replace H:=H.newnil (Ai .i64)
 refine B1 (σ:=Nat×Value) (fun (k,l)=>[(0,.pointer (some ⟨b,0,none⟩)),(2,.slice none 0 0),(3,l),(20,.int .i64 (min s (c - x))),(21,.int .i64 ((k:Nat):Int))]) (fun (k,l) w=>(Hd w0 F0 w [Y (Ai .i64) l (Hq x k)] [blk b [.int .i64 c,.int .i64 s,.int .i64 e,.int .i64 x] 279])∧(k≤(min s (c - x)).toNat)) (fun (k,l)=>(min s (c - x)).toNat - k) (0,.slice none 0 0) ⟨rfl,rfl,rfl,rfl,rfl,trivial⟩ ⟨H,by omega⟩ ?_
 rintro ⟨k,l⟩ w ⟨H,hk⟩
 refine Aa (Ae (V U U (Br U U U) (Ab (Z (Aa ?_)))))
 refine AC U (fun h1=>?_) (fun h1=>?_)
 ·refine Az (Z (Aa (AW (Aa (Ae (Ah 2 U (Ab (Z (Ae (Ah 2 U (V U U (AJ U U) (V U U (Aj U PC U) (V U U (Am U AE U (H.cellRI 0 U U)) (Ad U (V U U (Bc (z:=x+((k:Nat):Int)) U U U (AI (by omega) (by omega))) (Cg (parts:=[(0,.tmp 30)]) (vs:=[.int .i64 (x+((k:Nat):Int))]) (cs:=[.int .i64 (x+((k:Nat):Int))]) U U U DE Fa U (by decide) (by decide) U U H (fun b2 w H=>?_)))))))))))))))))
  replace H:=H.p1
  refine CE (xs:=Hq x k) (ys:=[x+((k:Nat):Int)]) U U U DE Fa U (by decide) U U H (by simp only [Tg,List.length_cons,List.length_nil];omega) (fun F hA hR=>CC (hA _ (List.mem_of_getElem? (i:=0) U)) U (by decide) (Be.flat_eq.2 U)) (fun v3 w H=>(Ad U (Ab (Bb (Z ?_)))))
  replace H:Hd _ _ _ [Y (Ai .i64) v3 ((Hq x k)++[x+((k:Nat):Int)]),blk b2 [.int .i64 (x+((k:Nat):Int))] 3] [blk b [.int .i64 c,.int .i64 s,.int .i64 e,.int .i64 x] 279]:=H
  refine Ae (V U U (Bc (z:=((k+1:Nat):Int)) U U U (by rw [AI (by omega) (by omega)];omega)) (Ad U (Ab ?_)))
  rw [←e5] at H
  replace H:=H.k1
  exact Bo (s:=(k,undef)) (k+1,v3) ⟨rfl,rfl,rfl,rfl,rfl,trivial⟩ ⟨H,by omega⟩ (by (try dsimp only);omega)
 refine BQ (AV (AV (BS (Z (Aa (Ae (Ah 2 U (Ab (Z (An (Ap U U ?_)))))))))))
 obtain rfl:k=(min s (c - x)).toNat:=by omega
 exact Al U H
def Da (b:Nat) (J:AR) (M:Cy):SP:=ex fun vS:Value=>ex fun vM:Value=>ex fun vC:Value=>ex fun vR:Value=>ex fun vK:Value=>ex fun J2:AR=>ex fun cw:Int=>ex fun ct:Int=>ex fun co:Int=>ex fun cb:Nat=>ex fun fv:Value=>ex fun vw:Value=>ex fun ws:List (Nat×C2)=>B0 [BY ((Bk J2 J)∧(ws.map Prod.snd=M.ws)),blk b [vS,.int .i64 J2.parts,vM,vC,vR,.int .i64 J2.chunk,.int .i64 J2.window,.int .i64 J2.fuel,vK,.int .i64 cw,.int .i64 ct,.int .i64 co,.int .i64 ((M.sp:Nat):Int),.int .i64 M.att,.int .i64 ((A0 dg J2 M.sp).2),.pointer (some ⟨cb,0,none⟩),vw] 215,blk cb [.int .u32 1,.int .i32 0,.int .u32 0,.int .u32 1,fv,.string (BI (A0 dg J2 M.sp).1)] 305,Y (At Ag) vS J2.us,Y Af vM J2.map,Y Af vC J2.comb,Y Af vR J2.red,Y (Ai .i64) vK J2.marks,Y Dx vw (ws.map Prod.fst),BN (Dn 279) ws]
theorem MY (b:Nat) (J:AR) (M:Cy) {w0 w:World} {F0:AU} {As Rs:List SP} (H:Hd w0 F0 w (Da b J M::As) Rs):∃ vS:Value,∃ vM:Value,∃ vC:Value,∃ vR:Value,∃ vK:Value,∃ J2:AR,∃ cw:Int,∃ ct:Int,∃ co:Int,∃ cb:Nat,∃ fv:Value,∃ vw:Value,∃ ws:List (Nat×C2),((Bk J2 J)∧(ws.map Prod.snd=M.ws))∧Hd w0 F0 w ([blk b [vS,.int .i64 J2.parts,vM,vC,vR,.int .i64 J2.chunk,.int .i64 J2.window,.int .i64 J2.fuel,vK,.int .i64 cw,.int .i64 ct,.int .i64 co,.int .i64 ((M.sp:Nat):Int),.int .i64 M.att,.int .i64 ((A0 dg J2 M.sp).2),.pointer (some ⟨cb,0,none⟩),vw] 215,blk cb [.int .u32 1,.int .i32 0,.int .u32 0,.int .u32 1,fv,.string (BI (A0 dg J2 M.sp).1)] 305,Y (At Ag) vS J2.us,Y Af vM J2.map,Y Af vC J2.comb,Y Af vR J2.red,Y (Ai .i64) vK J2.marks,Y Dx vw (ws.map Prod.fst),BN (Dn 279) ws]++As) Rs:=by
 obtain ⟨vS,H⟩:=Hd.exA H
 obtain ⟨vM,H⟩:=Hd.exA H
 obtain ⟨vC,H⟩:=Hd.exA H
 obtain ⟨vR,H⟩:=Hd.exA H
 obtain ⟨vK,H⟩:=Hd.exA H
 obtain ⟨J2,H⟩:=Hd.exA H
 obtain ⟨cw,H⟩:=Hd.exA H
 obtain ⟨ct,H⟩:=Hd.exA H
 obtain ⟨co,H⟩:=Hd.exA H
 obtain ⟨cb,H⟩:=Hd.exA H
 obtain ⟨fv,H⟩:=Hd.exA H
 obtain ⟨vw,H⟩:=Hd.exA H
 obtain ⟨ws,H⟩:=Hd.exA H
 exact ⟨vS,vM,vC,vR,vK,J2,cw,ct,co,cb,fv,vw,ws,H.stA.puA⟩
theorem MZ (b:Nat) (J:AR) (M:Cy) (vS:Value) (vM:Value) (vC:Value) (vR:Value) (vK:Value) (J2:AR) (cw:Int) (ct:Int) (co:Int) (cb:Nat) (fv:Value) (vw:Value) (ws:List (Nat×C2)) {w0 w:World} {F0:AU} {As Rs:List SP} (hp:(Bk J2 J)∧(ws.map Prod.snd=M.ws)) (H:Hd w0 F0 w ([blk b [vS,.int .i64 J2.parts,vM,vC,vR,.int .i64 J2.chunk,.int .i64 J2.window,.int .i64 J2.fuel,vK,.int .i64 cw,.int .i64 ct,.int .i64 co,.int .i64 ((M.sp:Nat):Int),.int .i64 M.att,.int .i64 ((A0 dg J2 M.sp).2),.pointer (some ⟨cb,0,none⟩),vw] 215,blk cb [.int .u32 1,.int .i32 0,.int .u32 0,.int .u32 1,fv,.string (BI (A0 dg J2 M.sp).1)] 305,Y (At Ag) vS J2.us,Y Af vM J2.map,Y Af vC J2.comb,Y Af vR J2.red,Y (Ai .i64) vK J2.marks,Y Dx vw (ws.map Prod.fst),BN (Dn 279) ws]++As) Rs):Hd w0 F0 w (Da b J M::As) Rs:=by
 have H1:=(show Hd w0 F0 w ([BY ((Bk J2 J)∧(ws.map Prod.snd=M.ws)),blk b [vS,.int .i64 J2.parts,vM,vC,vR,.int .i64 J2.chunk,.int .i64 J2.window,.int .i64 J2.fuel,vK,.int .i64 cw,.int .i64 ct,.int .i64 co,.int .i64 ((M.sp:Nat):Int),.int .i64 M.att,.int .i64 ((A0 dg J2 M.sp).2),.pointer (some ⟨cb,0,none⟩),vw] 215,blk cb [.int .u32 1,.int .i32 0,.int .u32 0,.int .u32 1,fv,.string (BI (A0 dg J2 M.sp).1)] 305,Y (At Ag) vS J2.us,Y Af vM J2.map,Y Af vC J2.comb,Y Af vR J2.red,Y (Ai .i64) vK J2.marks,Y Dx vw (ws.map Prod.fst),BN (Dn 279) ws]++As) Rs from H.puI hp).stI
 replace H1:=Hd.exI (A:=fun ws:List (Nat×C2)=>B0 [BY ((Bk J2 J)∧(ws.map Prod.snd=M.ws)),blk b [vS,.int .i64 J2.parts,vM,vC,vR,.int .i64 J2.chunk,.int .i64 J2.window,.int .i64 J2.fuel,vK,.int .i64 cw,.int .i64 ct,.int .i64 co,.int .i64 ((M.sp:Nat):Int),.int .i64 M.att,.int .i64 ((A0 dg J2 M.sp).2),.pointer (some ⟨cb,0,none⟩),vw] 215,blk cb [.int .u32 1,.int .i32 0,.int .u32 0,.int .u32 1,fv,.string (BI (A0 dg J2 M.sp).1)] 305,Y (At Ag) vS J2.us,Y Af vM J2.map,Y Af vC J2.comb,Y Af vR J2.red,Y (Ai .i64) vK J2.marks,Y Dx vw (ws.map Prod.fst),BN (Dn 279) ws]) ws H1
 replace H1:=Hd.exI (A:=fun vw:Value=>ex fun ws:List (Nat×C2)=>B0 [BY ((Bk J2 J)∧(ws.map Prod.snd=M.ws)),blk b [vS,.int .i64 J2.parts,vM,vC,vR,.int .i64 J2.chunk,.int .i64 J2.window,.int .i64 J2.fuel,vK,.int .i64 cw,.int .i64 ct,.int .i64 co,.int .i64 ((M.sp:Nat):Int),.int .i64 M.att,.int .i64 ((A0 dg J2 M.sp).2),.pointer (some ⟨cb,0,none⟩),vw] 215,blk cb [.int .u32 1,.int .i32 0,.int .u32 0,.int .u32 1,fv,.string (BI (A0 dg J2 M.sp).1)] 305,Y (At Ag) vS J2.us,Y Af vM J2.map,Y Af vC J2.comb,Y Af vR J2.red,Y (Ai .i64) vK J2.marks,Y Dx vw (ws.map Prod.fst),BN (Dn 279) ws]) vw H1
 replace H1:=Hd.exI (A:=fun fv:Value=>ex fun vw:Value=>ex fun ws:List (Nat×C2)=>B0 [BY ((Bk J2 J)∧(ws.map Prod.snd=M.ws)),blk b [vS,.int .i64 J2.parts,vM,vC,vR,.int .i64 J2.chunk,.int .i64 J2.window,.int .i64 J2.fuel,vK,.int .i64 cw,.int .i64 ct,.int .i64 co,.int .i64 ((M.sp:Nat):Int),.int .i64 M.att,.int .i64 ((A0 dg J2 M.sp).2),.pointer (some ⟨cb,0,none⟩),vw] 215,blk cb [.int .u32 1,.int .i32 0,.int .u32 0,.int .u32 1,fv,.string (BI (A0 dg J2 M.sp).1)] 305,Y (At Ag) vS J2.us,Y Af vM J2.map,Y Af vC J2.comb,Y Af vR J2.red,Y (Ai .i64) vK J2.marks,Y Dx vw (ws.map Prod.fst),BN (Dn 279) ws]) fv H1
 replace H1:=Hd.exI (A:=fun cb:Nat=>ex fun fv:Value=>ex fun vw:Value=>ex fun ws:List (Nat×C2)=>B0 [BY ((Bk J2 J)∧(ws.map Prod.snd=M.ws)),blk b [vS,.int .i64 J2.parts,vM,vC,vR,.int .i64 J2.chunk,.int .i64 J2.window,.int .i64 J2.fuel,vK,.int .i64 cw,.int .i64 ct,.int .i64 co,.int .i64 ((M.sp:Nat):Int),.int .i64 M.att,.int .i64 ((A0 dg J2 M.sp).2),.pointer (some ⟨cb,0,none⟩),vw] 215,blk cb [.int .u32 1,.int .i32 0,.int .u32 0,.int .u32 1,fv,.string (BI (A0 dg J2 M.sp).1)] 305,Y (At Ag) vS J2.us,Y Af vM J2.map,Y Af vC J2.comb,Y Af vR J2.red,Y (Ai .i64) vK J2.marks,Y Dx vw (ws.map Prod.fst),BN (Dn 279) ws]) cb H1
 replace H1:=Hd.exI (A:=fun co:Int=>ex fun cb:Nat=>ex fun fv:Value=>ex fun vw:Value=>ex fun ws:List (Nat×C2)=>B0 [BY ((Bk J2 J)∧(ws.map Prod.snd=M.ws)),blk b [vS,.int .i64 J2.parts,vM,vC,vR,.int .i64 J2.chunk,.int .i64 J2.window,.int .i64 J2.fuel,vK,.int .i64 cw,.int .i64 ct,.int .i64 co,.int .i64 ((M.sp:Nat):Int),.int .i64 M.att,.int .i64 ((A0 dg J2 M.sp).2),.pointer (some ⟨cb,0,none⟩),vw] 215,blk cb [.int .u32 1,.int .i32 0,.int .u32 0,.int .u32 1,fv,.string (BI (A0 dg J2 M.sp).1)] 305,Y (At Ag) vS J2.us,Y Af vM J2.map,Y Af vC J2.comb,Y Af vR J2.red,Y (Ai .i64) vK J2.marks,Y Dx vw (ws.map Prod.fst),BN (Dn 279) ws]) co H1
 replace H1:=Hd.exI (A:=fun ct:Int=>ex fun co:Int=>ex fun cb:Nat=>ex fun fv:Value=>ex fun vw:Value=>ex fun ws:List (Nat×C2)=>B0 [BY ((Bk J2 J)∧(ws.map Prod.snd=M.ws)),blk b [vS,.int .i64 J2.parts,vM,vC,vR,.int .i64 J2.chunk,.int .i64 J2.window,.int .i64 J2.fuel,vK,.int .i64 cw,.int .i64 ct,.int .i64 co,.int .i64 ((M.sp:Nat):Int),.int .i64 M.att,.int .i64 ((A0 dg J2 M.sp).2),.pointer (some ⟨cb,0,none⟩),vw] 215,blk cb [.int .u32 1,.int .i32 0,.int .u32 0,.int .u32 1,fv,.string (BI (A0 dg J2 M.sp).1)] 305,Y (At Ag) vS J2.us,Y Af vM J2.map,Y Af vC J2.comb,Y Af vR J2.red,Y (Ai .i64) vK J2.marks,Y Dx vw (ws.map Prod.fst),BN (Dn 279) ws]) ct H1
 replace H1:=Hd.exI (A:=fun cw:Int=>ex fun ct:Int=>ex fun co:Int=>ex fun cb:Nat=>ex fun fv:Value=>ex fun vw:Value=>ex fun ws:List (Nat×C2)=>B0 [BY ((Bk J2 J)∧(ws.map Prod.snd=M.ws)),blk b [vS,.int .i64 J2.parts,vM,vC,vR,.int .i64 J2.chunk,.int .i64 J2.window,.int .i64 J2.fuel,vK,.int .i64 cw,.int .i64 ct,.int .i64 co,.int .i64 ((M.sp:Nat):Int),.int .i64 M.att,.int .i64 ((A0 dg J2 M.sp).2),.pointer (some ⟨cb,0,none⟩),vw] 215,blk cb [.int .u32 1,.int .i32 0,.int .u32 0,.int .u32 1,fv,.string (BI (A0 dg J2 M.sp).1)] 305,Y (At Ag) vS J2.us,Y Af vM J2.map,Y Af vC J2.comb,Y Af vR J2.red,Y (Ai .i64) vK J2.marks,Y Dx vw (ws.map Prod.fst),BN (Dn 279) ws]) cw H1
 replace H1:=Hd.exI (A:=fun J2:AR=>ex fun cw:Int=>ex fun ct:Int=>ex fun co:Int=>ex fun cb:Nat=>ex fun fv:Value=>ex fun vw:Value=>ex fun ws:List (Nat×C2)=>B0 [BY ((Bk J2 J)∧(ws.map Prod.snd=M.ws)),blk b [vS,.int .i64 J2.parts,vM,vC,vR,.int .i64 J2.chunk,.int .i64 J2.window,.int .i64 J2.fuel,vK,.int .i64 cw,.int .i64 ct,.int .i64 co,.int .i64 ((M.sp:Nat):Int),.int .i64 M.att,.int .i64 ((A0 dg J2 M.sp).2),.pointer (some ⟨cb,0,none⟩),vw] 215,blk cb [.int .u32 1,.int .i32 0,.int .u32 0,.int .u32 1,fv,.string (BI (A0 dg J2 M.sp).1)] 305,Y (At Ag) vS J2.us,Y Af vM J2.map,Y Af vC J2.comb,Y Af vR J2.red,Y (Ai .i64) vK J2.marks,Y Dx vw (ws.map Prod.fst),BN (Dn 279) ws]) J2 H1
 replace H1:=Hd.exI (A:=fun vK:Value=>ex fun J2:AR=>ex fun cw:Int=>ex fun ct:Int=>ex fun co:Int=>ex fun cb:Nat=>ex fun fv:Value=>ex fun vw:Value=>ex fun ws:List (Nat×C2)=>B0 [BY ((Bk J2 J)∧(ws.map Prod.snd=M.ws)),blk b [vS,.int .i64 J2.parts,vM,vC,vR,.int .i64 J2.chunk,.int .i64 J2.window,.int .i64 J2.fuel,vK,.int .i64 cw,.int .i64 ct,.int .i64 co,.int .i64 ((M.sp:Nat):Int),.int .i64 M.att,.int .i64 ((A0 dg J2 M.sp).2),.pointer (some ⟨cb,0,none⟩),vw] 215,blk cb [.int .u32 1,.int .i32 0,.int .u32 0,.int .u32 1,fv,.string (BI (A0 dg J2 M.sp).1)] 305,Y (At Ag) vS J2.us,Y Af vM J2.map,Y Af vC J2.comb,Y Af vR J2.red,Y (Ai .i64) vK J2.marks,Y Dx vw (ws.map Prod.fst),BN (Dn 279) ws]) vK H1
 replace H1:=Hd.exI (A:=fun vR:Value=>ex fun vK:Value=>ex fun J2:AR=>ex fun cw:Int=>ex fun ct:Int=>ex fun co:Int=>ex fun cb:Nat=>ex fun fv:Value=>ex fun vw:Value=>ex fun ws:List (Nat×C2)=>B0 [BY ((Bk J2 J)∧(ws.map Prod.snd=M.ws)),blk b [vS,.int .i64 J2.parts,vM,vC,vR,.int .i64 J2.chunk,.int .i64 J2.window,.int .i64 J2.fuel,vK,.int .i64 cw,.int .i64 ct,.int .i64 co,.int .i64 ((M.sp:Nat):Int),.int .i64 M.att,.int .i64 ((A0 dg J2 M.sp).2),.pointer (some ⟨cb,0,none⟩),vw] 215,blk cb [.int .u32 1,.int .i32 0,.int .u32 0,.int .u32 1,fv,.string (BI (A0 dg J2 M.sp).1)] 305,Y (At Ag) vS J2.us,Y Af vM J2.map,Y Af vC J2.comb,Y Af vR J2.red,Y (Ai .i64) vK J2.marks,Y Dx vw (ws.map Prod.fst),BN (Dn 279) ws]) vR H1
 replace H1:=Hd.exI (A:=fun vC:Value=>ex fun vR:Value=>ex fun vK:Value=>ex fun J2:AR=>ex fun cw:Int=>ex fun ct:Int=>ex fun co:Int=>ex fun cb:Nat=>ex fun fv:Value=>ex fun vw:Value=>ex fun ws:List (Nat×C2)=>B0 [BY ((Bk J2 J)∧(ws.map Prod.snd=M.ws)),blk b [vS,.int .i64 J2.parts,vM,vC,vR,.int .i64 J2.chunk,.int .i64 J2.window,.int .i64 J2.fuel,vK,.int .i64 cw,.int .i64 ct,.int .i64 co,.int .i64 ((M.sp:Nat):Int),.int .i64 M.att,.int .i64 ((A0 dg J2 M.sp).2),.pointer (some ⟨cb,0,none⟩),vw] 215,blk cb [.int .u32 1,.int .i32 0,.int .u32 0,.int .u32 1,fv,.string (BI (A0 dg J2 M.sp).1)] 305,Y (At Ag) vS J2.us,Y Af vM J2.map,Y Af vC J2.comb,Y Af vR J2.red,Y (Ai .i64) vK J2.marks,Y Dx vw (ws.map Prod.fst),BN (Dn 279) ws]) vC H1
 replace H1:=Hd.exI (A:=fun vM:Value=>ex fun vC:Value=>ex fun vR:Value=>ex fun vK:Value=>ex fun J2:AR=>ex fun cw:Int=>ex fun ct:Int=>ex fun co:Int=>ex fun cb:Nat=>ex fun fv:Value=>ex fun vw:Value=>ex fun ws:List (Nat×C2)=>B0 [BY ((Bk J2 J)∧(ws.map Prod.snd=M.ws)),blk b [vS,.int .i64 J2.parts,vM,vC,vR,.int .i64 J2.chunk,.int .i64 J2.window,.int .i64 J2.fuel,vK,.int .i64 cw,.int .i64 ct,.int .i64 co,.int .i64 ((M.sp:Nat):Int),.int .i64 M.att,.int .i64 ((A0 dg J2 M.sp).2),.pointer (some ⟨cb,0,none⟩),vw] 215,blk cb [.int .u32 1,.int .i32 0,.int .u32 0,.int .u32 1,fv,.string (BI (A0 dg J2 M.sp).1)] 305,Y (At Ag) vS J2.us,Y Af vM J2.map,Y Af vC J2.comb,Y Af vR J2.red,Y (Ai .i64) vK J2.marks,Y Dx vw (ws.map Prod.fst),BN (Dn 279) ws]) vM H1
 replace H1:=Hd.exI (A:=fun vS:Value=>ex fun vM:Value=>ex fun vC:Value=>ex fun vR:Value=>ex fun vK:Value=>ex fun J2:AR=>ex fun cw:Int=>ex fun ct:Int=>ex fun co:Int=>ex fun cb:Nat=>ex fun fv:Value=>ex fun vw:Value=>ex fun ws:List (Nat×C2)=>B0 [BY ((Bk J2 J)∧(ws.map Prod.snd=M.ws)),blk b [vS,.int .i64 J2.parts,vM,vC,vR,.int .i64 J2.chunk,.int .i64 J2.window,.int .i64 J2.fuel,vK,.int .i64 cw,.int .i64 ct,.int .i64 co,.int .i64 ((M.sp:Nat):Int),.int .i64 M.att,.int .i64 ((A0 dg J2 M.sp).2),.pointer (some ⟨cb,0,none⟩),vw] 215,blk cb [.int .u32 1,.int .i32 0,.int .u32 0,.int .u32 1,fv,.string (BI (A0 dg J2 M.sp).1)] 305,Y (At Ag) vS J2.us,Y Af vM J2.map,Y Af vC J2.comb,Y Af vR J2.red,Y (Ai .i64) vK J2.marks,Y Dx vw (ws.map Prod.fst),BN (Dn 279) ws]) vS H1
 exact H1
theorem dQ  :
    Cn Tryz.prog 185 [] [] [] (fun v Bs=>∃ b:Nat,v=.pointer (some ⟨b,0,none⟩)∧Bs=[CT 275 b ([])]):=by
 intro w0 F0 H
 refine enter Tryz.func185 U U (Nat.le_of_ble_eq_true U) (Aa (Ae (Ad U (Ab (Z (Aa (Ae (SH GL U U U H (fun b1 w H=>(V U U (Dl (parts:=[(0,.tmp 1)]) (vs:=[.map (some b1)]) (cs:=[.map (some b1)]) U TM U U) (CZ U U U U H (fun b2 w H=>(Ad U (Ab (Z ?_)))))))))))))))
 replace H:Hd _ _ _ [blk b2 [.map (some b1)] 275,B8 GL b1 []] []:=H
 refine An (Ap U U ?_)
 replace H:=H.st0|>.h1 (A:=CT 275 b2 ([]))
 exact Al ⟨_,rfl,rfl⟩ H
theorem TB (r:Nat) (A:Option Addr) (m:Nat) (c:Nat) (vM2:Value) (vC2:Value) (vR2:Value) (vK2:Value) (J2:AR) (cw:Int) (ct:Int) (co:Int) (part:Int) (ep:Int) (g:Nat→DF) (hv:Nat→Value) (sb:Nat) (vs:Value) (n:Int) (hn:0≤n∧n<(m:Int)) (hm:m≤6):
    Cn Tryz.prog 150 [.pointer (some ⟨r,0,none⟩),.int .i64 n] [] [blk r (BJ (.slice A m c) vM2 vC2 vR2 vK2 J2 cw ct co part ep g hv sb vs) 197] (fun v Bs=>v=.pointer (some ⟨r,14+(n).toNat*5,none⟩)∧Bs=[]):=by
 intro w0 F0 H
 refine enter Tryz.func150 U U (Nat.le_of_ble_eq_true U) (Aa (Ae (Ad U (Ab (Z (Aa (Aa (Ae (Ad U (V U U (Dg U Ke U U) (Ah 2 U (V U U (Br U U U) (Ah 2 U ?_)))))))))))))
 refine AQ (d:=11) U (fun h1=>?_) (fun h1=>?_)
 ·exfalso;omega
 refine Ah 2 U (V U U (AJ U U) (V U U (Aj U H9 U) (V U U (Aj U DL U) (V U U (Aj U EM U) (V U U (Am U EW U (H.cellRI 0 U U)) (V U U (Bj U Fp U) (V U U (C7 U U U) (Ad U (Ab (Z ?_))))))))))
 refine AC U (fun h2=>?_) (fun h2=>?_)
 ·exfalso;omega
 refine Az (Z (Aa (Ae (Ah 2 U (V U U (AJ U U) (V U U (Aj U Ju U) (V U U (HM (p:=14+(n).toNat*5) U Kf JC U U (by omega) (by omega) (by omega)) (Ad U (Ab (Z (An (Ap U U ?_))))))))))))
 replace H:Hd _ _ _ [] [blk r (BJ (.slice A m c) vM2 vC2 vR2 vK2 J2 cw ct co part ep g hv sb vs) 197]:=H
 exact Al ⟨rfl,rfl⟩ H
theorem TA (r:Nat) (A:Option Addr) (m:Nat) (c:Nat) (vM2:Value) (vC2:Value) (vR2:Value) (vK2:Value) (J2:AR) (cw:Int) (ct:Int) (co:Int) (part:Int) (ep:Int) (g:Nat→DF) (hv:Nat→Value) (sb:Nat) (vs:Value) (n:Int) (hn:¬ (0≤n∧n<(m:Int))):
    Cn Tryz.prog 150 [.pointer (some ⟨r,0,none⟩),.int .i64 n] [] [blk r (BJ (.slice A m c) vM2 vC2 vR2 vK2 J2 cw ct co part ep g hv sb vs) 197] (fun v Bs=>v=.pointer none∧Bs=[]):=by
 intro w0 F0 H
 refine enter Tryz.func150 U U (Nat.le_of_ble_eq_true U) (Aa (Ae (Ad U (Ab (Z (Aa (Aa (Ae (Ad U (V U U (Dg U Ke U U) (Ah 2 U (V U U (Br U U U) (Ah 2 U ?_)))))))))))))
 refine AQ (d:=11) U (fun h1=>?_) (fun h1=>?_)
 ·refine Ah 10 U (Ab (Z (CN U (Aa (Ae (Ad U (Ab (Z (An (AA (Ap U U ?_)))))))))))
  replace H:Hd _ _ _ [] [blk r (BJ (.slice A m c) vM2 vC2 vR2 vK2 J2 cw ct co part ep g hv sb vs) 197]:=H
  exact Al ⟨rfl,rfl⟩ H
 refine Ah 2 U (V U U (AJ U U) (V U U (Aj U H9 U) (V U U (Aj U DL U) (V U U (Aj U EM U) (V U U (Am U EW U (H.cellRI 0 U U)) (V U U (Bj U Fp U) (V U U (C7 U U U) (Ad U (Ab (Z ?_))))))))))
 refine AC U (fun h2=>?_) (fun h2=>?_)
 ·refine Aa (Ae (Ad U (Ab (Z (An (AA (Ap U U ?_)))))))
  replace H:Hd _ _ _ [] [blk r (BJ (.slice A m c) vM2 vC2 vR2 vK2 J2 cw ct co part ep g hv sb vs) 197]:=H
  exact Al ⟨rfl,rfl⟩ H
 exact Az (Z (Aa (Ae (Ah 2 U (V U U (AJ U U) (V U U (Aj U Ju U) (V U U (HM (p:=14+(n).toNat*5) U Kf JC U U (by omega) (by omega) (by omega)) (Ad U (Ab (Z (An (Ap U U (absurd (by omega) hn)))))))))))))
theorem Wf (v:Value) (xs:List Int) (x:Int):
    Cn Tryz.prog 198 [v,.int .i64 x] [] [Ac (Ai .i64) v xs] (fun v Bs=>v=.int .i64 (Fw (fun y=>decide (x=y)) xs)∧Bs=[]):=by
 intro w0 F0 H
 obtain ⟨A1,c2,rfl,hc3,hm4,hp5⟩:=H.fR 0 rfl
 refine enter Tryz.func198 U U (Nat.le_of_ble_eq_true U) (Aa (Ae (Ad U (Ab (Z ?_)))))
 replace H:Hd _ _ _ [] [Ac (Ai .i64) (.slice A1 xs.length c2) xs]:=H
 refine Aa (Aa (Ae (Ad U (V U U (Bj U EA U) (Ad U (Ab (Z (AW (B1 (σ:=Nat) (fun k=>[(0,.slice A1 xs.length c2),(1,.int .i64 x),(7,.int .i64 ((xs.length:Nat):Int)),(8,.int .i64 ((k:Nat):Int))]) (fun k w=>(Hd w0 F0 w [] [Ac (Ai .i64) (.slice A1 xs.length c2) xs])∧(k≤xs.length)∧(∀ y∈xs.take k,(fun y=>decide (x=y)) y=false)) (fun k=>xs.length - k) 0 ⟨rfl,rfl,rfl,rfl,trivial⟩ ⟨H,by omega,by simp⟩ ?_)))))))))
 rintro k w ⟨H,hk,hn⟩
 refine Aa (Ae (V U U (Br U U U) (Ab (Z (Aa ?_)))))
 refine AC U (fun h6=>?_) (fun h6=>?_)
 ·refine Az (Z (Aa (AW (Aa (Ae (Ah 2 U (Ab (Z (Aa (Ae (Ah 3 U ?_)))))))))))
  obtain ⟨x7,hx8⟩:∃ z9,xs[k]?=some z9:=⟨_,List.getElem?_eq_getElem (show k<xs.length by omega)⟩
  have th9:=H.thR 0 rfl hx8
  refine V U U (Bi (p:=Ba A1+k*1) U DE U U (by omega) (by omega) th9 U) (V U U (Am U AE U (H.elR 0 U hx8 (q:=0) U U)) (V U U (Bh U U U) (Ab (Z ?_))))
  refine AC U (fun h10=>?_) (fun h10=>?_)
  ·exact Aa (Ae (Ah 2 U (Ab (Z (An (AZ (AA (AA (AZ (AA (Ap U U (Al ⟨by rw [Kx (p:=(fun y=>decide (x=y))) hn hx8 (decide_eq_true h10)]<;>rfl,rfl⟩ H))))))))))))
  exact Az (Bb (Z (Ae (V U U (Bc (z:=((k+1:Nat):Int)) U U U (by rw [AI (by omega) (by omega)];omega)) (Ad U (Ab (Bo (s:=k) (k+1) ⟨rfl,rfl,rfl,rfl,trivial⟩ ⟨H,by omega,LE (p:=(fun y=>decide (x=y))) hn hx8 (decide_eq_false h10)⟩ (by (try dsimp only);omega))))))))
 refine BQ (AV (AV (BS (Z (Aa (Ae (Ad U (Ab (Z (An (Ap U U ?_)))))))))))
 have hn2:∀ y∈xs,(fun y=>decide (x=y)) y=false:=by rw [←GX (xs:=xs) (k:=k) (by omega)];exact hn
 exact Al ⟨by rw [Jq hn2]<;>rfl,rfl⟩ H
theorem UA (v:Value) (xs:List Int) (x:Int):
    Cn Tryz.prog 147 [v,.int .i64 x] [] [Ac (Ai .i64) v xs] (fun v Bs=>v=.bool (decide (x∈xs))∧Bs=[]):=by
 intro w0 F0 H
 refine enter Tryz.func147 U U (Nat.le_of_ble_eq_true U) (Aa (Ae (Ad U (Ab (Z (Aa (Ae (Ah 2 U (sc (Wf v xs x) H (lR 0 U l0) U U (Av W0 U U) ?_)))))))))
 rintro _ _ w ⟨rfl,rfl⟩ H
 refine V U U (C7 U U U) (Ad U (Ab (Z (An (Ap U U ?_)))))
 have e:decide (0≤Fw (fun y=>decide (x=y)) xs)=decide (x∈xs):=by rw [Ky];rw [Bool.eq_iff_iff];simp
 exact Al ⟨congrArg Value.bool e,rfl⟩ H
end Go.Proofs.YthhajcnbjiiclaaGreatDoor.X
