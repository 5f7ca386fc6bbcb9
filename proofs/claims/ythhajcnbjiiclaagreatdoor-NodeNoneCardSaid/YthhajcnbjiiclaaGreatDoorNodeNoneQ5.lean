/- NodeNone: texts F2, J1, C1, DK1, XWrk4, XNode, M1, K1, K2, J2, J3, M2, M3, W1, M4, N1, N2, J4, N3, XCat, S1, S2, N7, N9, N10, joined by a program of ours; what nothing names is left out. -/
import Derived.Test.YthhajcnbjiiclaaGreatDoorNodeNoneQ4
set_option linter.unusedVariables false
set_option linter.unusedSimpArgs false
set_option maxHeartbeats 8000000
namespace Go.Proofs.YthhajcnbjiiclaaGreatDoor.X
open Go
theorem Um (x:Ap) (kb:Nat) (key:ByteArray):
    Cn Tryz.prog 273 [.agg #[.string x.key,.string x.val],.pointer (some ⟨kb,0,none⟩)] [] [blk kb [.string key] 9] (fun v Bs=>v=.bool (decide (x.key≠key))∧Bs=[]):=by
 intro w0 F0 H
 refine enter Tryz.func273 U U (Nat.le_of_ble_eq_true U) (Aa (Ad (CT U U U U H (fun b1 w H=>(Ac U (Ab (Z ?_)))))))
 replace H:Hd _ _ _ [blk b1 [.string x.key,.string x.val] 122] [blk kb [.string key] 9]:=H
 refine Aa (Ad (V U U (Aj U FN U) (V U U (An U Cg U (H.cellI 0 U U)) (V U U (An U Cg U (H.cellRI 0 U U)) (V U U (M9 U U U) (Ac U (Ab (Z (Am (Aq U U ?_))))))))))
 replace H:=H.nil
 exact Al ⟨rfl,rfl⟩ H
theorem Un (vp:Value) (p:List B7) (vps:Value) (ps:List Ap) (fuel:Int) (own:Bool) (hpa:∀ i∈p,AL i.a) (hfu:AL fuel) (hb:ps.length≤1000000):
    Cn Tryz.prog 257 [vp,vps,.int .i64 fuel,.bool own] [] [Ae Af vp p,Ae Ag vps ps,gl] (fun v Bs=>∃ u,v=.tuple #[u,.int .i64 (DT dg p ps fuel own).2]∧Bs=[Y Ag u (DT dg p ps fuel own).1]):=by
 intro w0 F0 H
 obtain ⟨A1,c2,rfl,hc3,hm4,hp5⟩:=H.fR 0 rfl
 obtain ⟨A6,c7,rfl,hc8,hm9,hp10⟩:=H.fR 1 rfl
 refine enter Tryz.func257 U U (Nat.le_of_ble_eq_true U) (Aa (Ad (Ah 2 U (Ab (Z ?_)))))
 replace H:Hd _ _ _ [] [Ae Af (.slice A1 p.length c2) p,Ae Ag (.slice A6 ps.length c7) ps,gl]:=H
 refine Aa (Ad (Ac U (Ab (Z (Aa (Ad (sc dE H l0 U U (Av V1 U U) ?_)))))))
 rintro _ _ w ⟨b11,rfl,rfl⟩ H
 replace H:=H.h1 (A:=blk b11 [.int .i64 0,.int .i64 0,.int .i64 0,.int .i64 0,.int .i64 0,.int .i64 0,.int .i64 0,.int .i64 0] 254)
 refine Ac U (Ab (Z (Aa (Aa (Ad (Ac U (sc (Y2 (.slice A6 ps.length c7) ps (by first |omega|decide)) H (lR 1 U l0) U U (Av WM U U) ?_)))))))
 rintro v12 _ w rfl H
 obtain ⟨A13,c14,rfl,hc15,hm16,hp17⟩:=H.fA 0 rfl
 refine V U U (Bn U SA U) (Ac U (Ab (Z ?_)))
 replace H:Hd _ _ _ [Y Bu (.slice A13 ((DU ps).length) c14) (DU ps),blk b11 [.int .i64 0,.int .i64 0,.int .i64 0,.int .i64 0,.int .i64 0,.int .i64 0,.int .i64 0,.int .i64 0] 254] [Ae Af (.slice A1 p.length c2) p,Ae Ag (.slice A6 ps.length c7) ps,gl]:=H
 refine AX ?_
 replace H:=H.newnil Ag
 refine B1 (σ:=Nat×Value×List Ap) (fun (i,q,out)=>[(0,.slice A1 p.length c2),(1,.slice A6 ps.length c7),(2,.int .i64 fuel),(3,.bool own),(10,q),(11,.pointer (some ⟨b11,0,none⟩)),(18,.slice A13 ((DU ps).length) c14),(19,.int .i64 (((DU ps).length:Nat):Int)),(20,.int .i64 ((i:Nat):Int))]) (fun (i,q,out) w=>(Hd w0 F0 w [Y Ag q out,Y Bu (.slice A13 ((DU ps).length) c14) (DU ps),blk b11 [.int .i64 (out.length:Int),.int .i64 0,.int .i64 0,.int .i64 0,.int .i64 0,.int .i64 0,.int .i64 0,.int .i64 0] 254] [Ae Af (.slice A1 p.length c2) p,Ae Ag (.slice A6 ps.length c7) ps,gl])∧(i≤(DU ps).length)∧(ET dg p ps fuel own ((DU ps).drop i) out=DT dg p ps fuel own)∧(out.length≤40)) (fun (i,q,out)=>(DU ps).length - i) (0,.slice none 0 0,[]) ⟨rfl,rfl,rfl,rfl,rfl,rfl,rfl,rfl,rfl,trivial⟩ ⟨H,Nat.zero_le _,rfl,Nat.zero_le _⟩ ?_
 rintro ⟨i,q,out⟩ w ⟨H,hi,hgo,ho⟩
 have hkl:=VR ps
 refine Aa (Ad (V U U (Br U U U) (Ab (Z (Aa ?_)))))
 refine AC U (fun h18=>?_) (fun h18=>?_)
 ·refine AB (Z (Aa (AX (Aa (Ad ?_)))))
  obtain ⟨x19,hx20⟩:∃ z9,(DU ps)[i]?=some z9:=⟨_,List.getElem?_eq_getElem (show i<(DU ps).length by omega)⟩
  have th21:=H.thA 1 rfl hx20
  refine V U U (Bi (p:=A_ A13+i*1) U H7 U U (by omega) (by omega) th21 U) (V U U (An U Cg U (H.elA 1 U hx20 (q:=0) U U)) (Dz U U U JY H (fun b22 w H=>(Bx U U U Cg U U H U (Nat.le_of_ble_eq_true U) (fun u hu=>by simp [Value.cells] at hu;subst hu;rfl) (fun w H=>?_)))))
  replace H:=H.h4 (A:=blk b22 [.string x19] 9) (B:=Y Ag q out) (D:=blk b11 [.int .i64 (out.length:Int),.int .i64 0,.int .i64 0,.int .i64 0,.int .i64 0,.int .i64 0,.int .i64 0,.int .i64 0] 254)
  refine Ab (Z (Aa (Cc (.e 0 (.e 1 (.e 2 (.e 3 (.e 5 (.m 4 (.m 6 (.e 7 (.e 8 (.e 9 (.e 10 (.e 11 .z)))))))))))) (fun w=>∃ Ar,Hd w0 F0 w (blk b22 [.string x19] 9::Y Ag q out::Y Bu (.slice A13 ((DU ps).length) c14) (DU ps)::blk b11 [.int .i64 (out.length:Int),.int .i64 0,.int .i64 0,.int .i64 0,.int .i64 0,.int .i64 0,.int .i64 0,.int .i64 0] 254::Ar) [Ae Af (.slice A1 p.length c2) p,Ae Ag (.slice A6 ps.length c7) ps,gl]) mo (by kernel_rfl) (fun w H=>⟨_,H⟩) H (fun w H=>(Au U (Ao U U U (fun w ⟨Ar,H⟩=>An U Cg U (H.cellI 0 U U)) (Au U (Ao U U U (fun w ⟨Ar,H⟩=>An U Cg U (H.cellI 0 U U)) (Au U (AO U (sc (Y3 (.slice A6 ps.length c7) ps x19 (by first |omega|decide)) H (lR 1 U l0) U U (Av WN U U) ?_)))))))))))
  rintro v23 _ w rfl H
  replace H:=H.h1 (A:=Y Bu v23 (B6 ps x19))|>.p4|>.p4|>.p4|>.p4
  refine AG ⟨_,H⟩ (AO U (sc (eR (.slice A1 p.length c2) p x19 v23 (B6 ps x19) fuel hpa hfu) H (lR 0 U (lA 4 U B3 (lR 2 U l0))) U U (Av WB U U) ?_))
  rintro _ _ w ⟨u24,rfl,rfl⟩ H
  replace H:=H.h1 (A:=Y Ag u24 ((Ca dg p x19 (B6 ps x19) fuel).1))
  have hrt:=bG dg p x19 (B6 ps x19) fuel
  replace H:=H.p4.p4.p4.p4
  refine AG ⟨_,H⟩ (Au U (Au U (Au U (Au U (Au U (BN (Z (Aa (AX (Aa (Ad (Ac U (V U U (CG U U U) (Ac U (Ab (Z ?_))))))))))))))))
  refine AC U (fun h25=>?_) (fun h25=>?_)
  ·refine Aa (Ad (Ah 3 U (Ab (Z (Am (AY (Az (AY (Az (Az (AY (Az (Du U U U ?_)))))))))))))
   have e:DT dg p ps fuel own=([],(Ca dg p x19 (B6 ps x19) fuel).2):=hgo.symm.trans (Vg hx20 h25)
   replace H:=H.nil|>.newnil Ag
   exact Al ⟨_,by rw [e]<;>rfl,by rw [e]<;>rfl⟩ H
  refine Aa (Ad (Ah 2 U ?_))
  refine G5 (d:=40) (b:=own) U (fun h26=>?_) (fun h26=>?_)
  ·refine Ac U (V U U (JA (fs:=#[]) (cs:=#[.pointer (some ⟨b22,0,none⟩)]) U U U) (sc (OG 273 [.pointer (some ⟨b22,0,none⟩)] [blk b22 [.string x19] 9] (fun y=>decide (y.key≠x19)) WO (fun y=>Um y b22 x19) u24 (Ca dg p x19 (B6 ps x19) fuel).1) H (lA 4 U B3 (lA 0 U (fun _ h=>h) l0)) U U (Av PZ U U) ?_))
   rintro _ _ w ⟨rfl,rfl⟩ H
   refine Ah 2 U (Ab (Z ?_))
   refine Dx (b:=Jw x19 (Ca dg p x19 (B6 ps x19) fuel).1) U (fun h27=>?_) (fun h27=>?_)
   ·refine Aa (Ad (Ah 2 U (Ab (Z (Am (AY (Az (AY (Az (Az (AY (Az (Du U U U ?_)))))))))))))
    have e:DT dg p ps fuel own=([],6):=hgo.symm.trans (Vf hx20 h25 h26 h27)
    replace H:=H.nil|>.newnil Ag
    replace H:Hd _ _ _ [Y Ag (.slice none 0 0) []] [Ae Af (.slice A1 p.length c2) p,Ae Ag (.slice A6 ps.length c7) ps,gl]:=H
    exact Al ⟨_,by rw [e]<;>rfl,by rw [e]<;>rfl⟩ H
   refine Aa (Ad (Ah 2 U ?_))
   obtain ⟨A28,c29,rfl,hc30,hm31,hp32⟩:=H.fA 4 rfl
   refine V U U (Bn U Do U) ?_
   replace H:=H.p3
   replace H:Hd _ _ _ [blk b11 [.int .i64 (out.length:Int),.int .i64 0,.int .i64 0,.int .i64 0,.int .i64 0,.int .i64 0,.int .i64 0,.int .i64 0] 254,blk b22 [.string x19] 9,Y Ag q out,Y Bu (.slice A13 ((DU ps).length) c14) (DU ps),Y Ag (.slice A28 (((Ca dg p x19 (B6 ps x19) fuel).1).length) c29) ((Ca dg p x19 (B6 ps x19) fuel).1),Y Bu v23 (B6 ps x19)] [Ae Af (.slice A1 p.length c2) p,Ae Ag (.slice A6 ps.length c7) ps,gl]:=H
   refine sc (Sm b11 (out.length:Int) 0 0 0 0 0 0 0 ((((Ca dg p x19 (B6 ps x19) fuel).1).length:Nat):Int) (by omega) (by omega)) H l0 U U (Av Qp U U) ?_
   rintro _ _ w ⟨rfl,rfl⟩ H
   replace H:=H.h1 (A:=blk b11 [.int .i64 (min ((out.length:Int)+((((Ca dg p x19 (B6 ps x19) fuel).1).length:Nat):Int)) 1099511627776),.int .i64 0,.int .i64 0,.int .i64 0,.int .i64 0,.int .i64 0,.int .i64 0,.int .i64 0] 254)
   refine V U U (CW U U U) (Ac U (Ab (Z ?_)))
   refine AC U (fun h33=>?_) (fun h33=>?_)
   ·refine Aa (Ad (Ah 2 U (Ab (Z (Am (AY (Az (AY (Az (Az (AY (Az (Du U U U ?_)))))))))))))
    have e:DT dg p ps fuel own=([],5):=hgo.symm.trans (PD hx20 h25 (fun h=>by rw [h.2] at h27;cases h27) (by omega))
    replace H:=H.nil|>.newnil Ag
    exact Al ⟨_,by rw [e]<;>rfl,by rw [e]<;>rfl⟩ H
   refine AB (Bb (Z (Ad (Ah 2 U ?_))))
   replace H:=H.p2
   refine CA (xs:=out) (ys:=(Ca dg p x19 (B6 ps x19) fuel).1) U U U BJ De U (by decide) U U H (by omega) (fun F hA hR=>B3 F (hA _ (List.mem_of_getElem? (i:=3) U))) (fun v34 w H=>?_)
   replace H:=H.h1 (A:=Y Ag v34 (out++((Ca dg p x19 (B6 ps x19) fuel).1)))
   refine Ac U (Ab (Bb (Z (Ad (V U U (Be (z:=((i+1:Nat):Int)) U U U (by rw [AI (by omega) (by omega)];omega)) (Ac U (Ab ?_)))))))
   replace H:=H.p3.p1.k3
   have hl2:((out++(Ca dg p x19 (B6 ps x19) fuel).1).length:Int)=min ((out.length:Int)+((((Ca dg p x19 (B6 ps x19) fuel).1).length:Nat):Int)) 1099511627776:=by rw [List.length_append];omega
   replace H:Hd w0 F0 w [Y Ag v34 (out++((Ca dg p x19 (B6 ps x19) fuel).1)),Y Bu (.slice A13 ((DU ps).length) c14) (DU ps),blk b11 [.int .i64 ((out++(Ca dg p x19 (B6 ps x19) fuel).1).length:Int),.int .i64 0,.int .i64 0,.int .i64 0,.int .i64 0,.int .i64 0,.int .i64 0,.int .i64 0] 254] [Ae Af (.slice A1 p.length c2) p,Ae Ag (.slice A6 ps.length c7) ps,gl]:=by rw [hl2];exact H
   have hg2:=(PE (out:=out) hx20 h25 (fun h=>by rw [h.2] at h27;cases h27) (by omega)).trans hgo
   have ho2:(out++(Ca dg p x19 (B6 ps x19) fuel).1).length≤40:=by rw [List.length_append];omega
   exact Bo (s:=(i,undef,out)) (i+1,v34,out++(Ca dg p x19 (B6 ps x19) fuel).1) ⟨rfl,rfl,rfl,rfl,rfl,rfl,rfl,rfl,rfl,trivial⟩ ⟨H,by (try dsimp only);omega,hg2,ho2⟩ (by (try dsimp only);omega)
  refine Ah 5 U (Ab (Z (Cq U (Aa (Ad (Ah 2 U ?_))))))
  obtain ⟨A35,c36,rfl,hc37,hm38,hp39⟩:=H.fA 4 rfl
  refine V U U (Bn U Do U) ?_
  replace H:=H.p3
  refine sc (Sm b11 (out.length:Int) 0 0 0 0 0 0 0 ((((Ca dg p x19 (B6 ps x19) fuel).1).length:Nat):Int) (by omega) (by omega)) H l0 U U (Av Qp U U) ?_
  rintro _ _ w ⟨rfl,rfl⟩ H
  replace H:=H.h1 (A:=blk b11 [.int .i64 (min ((out.length:Int)+((((Ca dg p x19 (B6 ps x19) fuel).1).length:Nat):Int)) 1099511627776),.int .i64 0,.int .i64 0,.int .i64 0,.int .i64 0,.int .i64 0,.int .i64 0,.int .i64 0] 254)
  refine V U U (CW U U U) (Ac U (Ab (Z ?_)))
  refine AC U (fun h40=>?_) (fun h40=>?_)
  ·refine Aa (Ad (Ah 2 U (Ab (Z (Am (AY (Az (AY (Az (Az (AY (Az (Du U U U ?_)))))))))))))
   have e:DT dg p ps fuel own=([],5):=hgo.symm.trans (PD hx20 h25 (fun h=>by rw [h.1] at h26;cases h26) (by omega))
   replace H:=H.nil|>.newnil Ag
   exact Al ⟨_,by rw [e]<;>rfl,by rw [e]<;>rfl⟩ H
  refine AB (Bb (Z (Ad (Ah 2 U ?_))))
  replace H:=H.p2
  refine CA (xs:=out) (ys:=(Ca dg p x19 (B6 ps x19) fuel).1) U U U BJ De U (by decide) U U H (by omega) (fun F hA hR=>B3 F (hA _ (List.mem_of_getElem? (i:=3) U))) (fun v41 w H=>?_)
  replace H:=H.h1 (A:=Y Ag v41 (out++((Ca dg p x19 (B6 ps x19) fuel).1)))
  refine Ac U (Ab (Bb (Z (Ad (V U U (Be (z:=((i+1:Nat):Int)) U U U (by rw [AI (by omega) (by omega)];omega)) (Ac U (Ab ?_)))))))
  replace H:=H.p3.p1.k3
  have hl2:((out++(Ca dg p x19 (B6 ps x19) fuel).1).length:Int)=min ((out.length:Int)+((((Ca dg p x19 (B6 ps x19) fuel).1).length:Nat):Int)) 1099511627776:=by rw [List.length_append];omega
  replace H:Hd w0 F0 w [Y Ag v41 (out++((Ca dg p x19 (B6 ps x19) fuel).1)),Y Bu (.slice A13 ((DU ps).length) c14) (DU ps),blk b11 [.int .i64 ((out++(Ca dg p x19 (B6 ps x19) fuel).1).length:Int),.int .i64 0,.int .i64 0,.int .i64 0,.int .i64 0,.int .i64 0,.int .i64 0,.int .i64 0] 254] [Ae Af (.slice A1 p.length c2) p,Ae Ag (.slice A6 ps.length c7) ps,gl]:=by rw [hl2];exact H
  have hg2:=(PE (out:=out) hx20 h25 (fun h=>by rw [h.1] at h26;cases h26) (by omega)).trans hgo
  have ho2:(out++(Ca dg p x19 (B6 ps x19) fuel).1).length≤40:=by rw [List.length_append];omega
  exact Bo (s:=(i,undef,out)) (i+1,v41,out++(Ca dg p x19 (B6 ps x19) fuel).1) ⟨rfl,rfl,rfl,rfl,rfl,rfl,rfl,rfl,rfl,trivial⟩ ⟨H,by (try dsimp only);omega,hg2,ho2⟩ (by (try dsimp only);omega)
 refine BW (A8 (A8 (BX (Z (Aa (Ad (Ah 3 U (Ab (Z (Am (Du U U U ?_)))))))))))
 replace H:=H.k1
 have e:DT dg p ps fuel own=(out,0):=hgo.symm.trans (Ve (by omega))
 replace H:=H.h1 (A:=Y Ag q out)
 exact Al ⟨_,by rw [e]<;>rfl,by rw [e]<;>rfl⟩ H
theorem U7 (vp:Value) (p:List B7) (vps:Value) (ps:List Ap) (fuel:Int) (hpa:∀ i∈p,AL i.a) (hfu:AL fuel) (hb:ps.length≤1000000):
    Cn Tryz.prog 253 [vp,vps,.int .i64 fuel] [] [Ae Af vp p,Ae Ag vps ps,gl] (fun v Bs=>∃ u,v=.tuple #[u,.int .i64 (DT dg p ps fuel false).2]∧Bs=[Y Ag u (DT dg p ps fuel false).1]):=by
 intro w0 F0 H
 refine enter Tryz.func253 U U (Nat.le_of_ble_eq_true U) (Aa (Ad (Ah 2 U (Ab (Z (Aa (Ad (Ah 3 U (sc (Un vp p vps ps fuel false hpa hfu hb) H (lR 0 U (lR 1 U (lR 2 U l0))) U U (Av WE U U) ?_)))))))))
 rintro _ _ w ⟨u1,rfl,rfl⟩ H
 refine Ah 4 U (Ab (Z ?_))
 replace H:Hd _ _ _ [Y Ag u1 ((DT dg p ps fuel false).1)] [Ae Af vp p,Ae Ag vps ps,gl]:=H
 exact Am (Du U U U (Al ⟨_,rfl,rfl⟩ H))
theorem GN (n:Int) (l:Int) (m:Int):
    Cn Tryz.prog 39 [.int .i64 n,.int .i64 l,.int .i64 m] [] [] (fun v Bs=>v=.bool (decide (l≤n∧n≤m))∧Bs=[]):=by
 intro w0 F0 H
 refine enter Tryz.func39 U U (Nat.le_of_ble_eq_true U) (Aa (Ad (Ac U (Ab (Z (Aa (Ad (Ah 2 U (V U U (C4 U U U) (Ac U ?_))))))))))
 refine AR (d:=10) U (fun h1=>?_) (fun h1=>?_)
 ·exact Ah 2 U (V U U (CD U U U) (Ah 2 U (Ab (Z (Am (Aq U U (Al ⟨congrArg Value.bool (decide_eq_decide.2 (by omega)),rfl⟩ H)))))))
 exact Ah 5 U (Ab (Z (Am (Aq U U (Al ⟨congrArg Value.bool ((decide_eq_false (by omega)).symm),rfl⟩ H)))))
theorem PW (vxs:Value) (xs:List B7):
    Cn Tryz.prog 68 [vxs] [] [Ae Af vxs xs] (fun v Bs=>v=.bool (decide (0<(xs).length∧DQ xs<0))∧Bs=[]):=by
 intro w0 F0 H
 obtain ⟨A1,c2,rfl,hc3,hm4,hp5⟩:=H.fR 0 rfl
 refine enter Tryz.func68 U U (Nat.le_of_ble_eq_true U) (Aa (Ad (Ac U (Ab (Z ?_)))))
 replace H:Hd _ _ _ [] [Ae Af (.slice A1 xs.length c2) xs]:=H
 refine Aa (Ad (Ac U (V U U (Bn U Ib U) (V U U (CW U U U) (Ac U ?_)))))
 refine AR (d:=6) U (fun h6=>?_) (fun h6=>?_)
 ·refine Ac U (sc (MW (.slice A1 xs.length c2) xs) H (lR 0 U l0) U U (Av Mx U U) ?_)
  rintro _ _ w ⟨rfl,rfl⟩ H
  exact Ah 2 U (Ab (Z (Am (Aq U U (Al ⟨congrArg Value.bool (decide_eq_decide.2 (by omega)),rfl⟩ H)))))
 exact Ah 4 U (Ab (Z (Am (Aq U U (Al ⟨congrArg Value.bool ((decide_eq_false (by omega)).symm),rfl⟩ H)))))
theorem VN (vS vM vC vR vK:Value) (J:AS):
    Cn Tryz.prog 38 [.agg #[vS,.int .i64 J.parts,vM,vC,vR,.int .i64 J.chunk,.int .i64 J.window,.int .i64 J.fuel,vK]] [] [Ae (At Ag) vS J.us,Ae Af vM J.map,Ae Af vC J.comb,Ae Af vR J.red,Ae (Ai .i64) vK J.marks] (fun v Bs=>v=.bool (decide (Es J))∧Bs=[]):=by
 intro w0 F0 H
 obtain ⟨A1,c2,rfl,hc3,hm4,hp5⟩:=H.fR 0 rfl
 obtain ⟨A6,c7,rfl,hc8,hm9,hp10⟩:=H.fR 1 rfl
 obtain ⟨A11,c12,rfl,hc13,hm14,hp15⟩:=H.fR 2 rfl
 obtain ⟨A16,c17,rfl,hc18,hm19,hp20⟩:=H.fR 3 rfl
 obtain ⟨A21,c22,rfl,hc23,hm24,hp25⟩:=H.fR 4 rfl
 refine enter Tryz.func38 U U (Nat.le_of_ble_eq_true U) (Aa (Ad (CT U U U U H (fun b26 w H=>(Ac U (Ab (Z ?_)))))))
 replace H:Hd _ _ _ [blk b26 [.slice A1 J.us.length c2,.int .i64 J.parts,.slice A6 J.map.length c7,.slice A11 J.comb.length c12,.slice A16 J.red.length c17,.int .i64 J.chunk,.int .i64 J.window,.int .i64 J.fuel,.slice A21 J.marks.length c22] 26] [Ae (At Ag) (.slice A1 J.us.length c2) J.us,Ae Af (.slice A6 J.map.length c7) J.map,Ae Af (.slice A11 J.comb.length c12) J.comb,Ae Af (.slice A16 J.red.length c17) J.red,Ae (Ai .i64) (.slice A21 J.marks.length c22) J.marks]:=H
 refine Aa (Aa (Ad (V U U (Aj U FO U) (V U U (An U F6 U (H.cellI 0 U U)) (V U U (Bn U Gm U) (sc (GN ((J.us.length:Nat):Int) 1 6) H l0 U U (Av Gz U U) ?_))))))
 rintro _ _ w ⟨rfl,rfl⟩ H
 refine V U U (D3 U U) (Ac U ?_)
 refine AR (d:=13) U (fun h27=>?_) (fun h27=>?_)
 ·refine Ah 11 U (Ab (Z (Ct U (Aa (Ad (Ac U (Ab (Z (Am (Az (Aq U U ?_)))))))))))
  replace H:=H.nil
  have e:¬ Es J:=by
    rintro ⟨g1,g2,g3,g4,g5,g6,g7,g8,g9,g10,g11⟩
    omega
  exact Al ⟨congrArg Value.bool (decide_eq_false e).symm,rfl⟩ H
 refine V U U (Aj U Ji U) (V U U (An U AE U (H.cellI 0 U U)) (sc (GN J.parts 1 4) H l0 U U (Av Gz U U) ?_))
 rintro _ _ w ⟨rfl,rfl⟩ H
 refine V U U (D3 U U) (Ah 2 U ?_)
 refine AR (d:=19) U (fun h28=>?_) (fun h28=>?_)
 ·refine Ah 5 U (Ab (Z (Ct U (Aa (Ad (Ac U (Ab (Z (Am (Az (Aq U U ?_)))))))))))
  replace H:=H.nil
  have e:¬ Es J:=by
    rintro ⟨g1,g2,g3,g4,g5,g6,g7,g8,g9,g10,g11⟩
    omega
  exact Al ⟨congrArg Value.bool (decide_eq_false e).symm,rfl⟩ H
 refine V U U (Aj U Kp U) (V U U (An U DY U (H.cellI 0 U U)) (V U U (Bn U EC U) (V U U (CW U U U) (Ac U (Ab (Z ?_))))))
 refine AC U (fun h29=>?_) (fun h29=>?_)
 ·refine Aa (Ad (Ac U (Ab (Z (Am (Az (Aq U U ?_)))))))
  replace H:=H.nil
  have e:¬ Es J:=by
    rintro ⟨g1,g2,g3,g4,g5,g6,g7,g8,g9,g10,g11⟩
    omega
  exact Al ⟨congrArg Value.bool (decide_eq_false e).symm,rfl⟩ H
 refine AB (Z (Aa (Aa (Ad (V U U (Aj U FO U) (V U U (An U F6 U (H.cellI 0 U U)) (V U U (Bn U Gm U) (Ac U (Ab (Z (AX (B1 (σ:=Nat) (fun k=>[(1,.pointer (some ⟨b26,0,none⟩)),(26,.slice A1 J.us.length c2),(27,.int .i64 ((J.us.length:Nat):Int)),(28,.int .i64 ((k:Nat):Int))]) (fun k w=>(Hd w0 F0 w [blk b26 [.slice A1 J.us.length c2,.int .i64 J.parts,.slice A6 J.map.length c7,.slice A11 J.comb.length c12,.slice A16 J.red.length c17,.int .i64 J.chunk,.int .i64 J.window,.int .i64 J.fuel,.slice A21 J.marks.length c22] 26] [Ae (At Ag) (.slice A1 J.us.length c2) J.us,Ae Af (.slice A6 J.map.length c7) J.map,Ae Af (.slice A11 J.comb.length c12) J.comb,Ae Af (.slice A16 J.red.length c17) J.red,Ae (Ai .i64) (.slice A21 J.marks.length c22) J.marks])∧(k≤J.us.length)∧(∀ u∈J.us.take k,Hw u.2)) (fun k=>J.us.length - k) 0 ⟨rfl,rfl,rfl,rfl,trivial⟩ ⟨H,by omega,by simp⟩ ?_))))))))))))
 rintro k w ⟨H,hk,hn⟩
 refine Aa (Ad (V U U (Br U U U) (Ab (Z (Aa ?_)))))
 refine AC U (fun h30=>?_) (fun h30=>?_)
 ·refine AB (Z (Aa (AX (Aa (Ad ?_)))))
  obtain ⟨⟨u33,x31⟩,hx32⟩:∃ z9,J.us[k]?=some z9:=⟨_,List.getElem?_eq_getElem (show k<J.us.length by omega)⟩
  obtain ⟨A34,c35,rfl,hc36,hm37⟩:=H.nestR 0 rfl hx32
  have th38:=H.thRd 0 rfl hx32
  refine V U U (Bi (p:=A_ A1+k*1) U G8 U U (by omega) (by omega) th38 U) (V U U (An U DG U (H.elRd 0 U hx32 U)) (Ac U (Ab (Z (Aa (Ad (Ac U (V U U (Bn U Do U) (V U U (CW U U U) (Ac U ?_))))))))))
  refine AR (d:=35) U (fun h39=>?_) (fun h39=>?_)
  ·refine Ah 4 U (Ab (Z (Ct U (Aa (Ad (Ac U (Ab (Z (Am (AY (Az (Az (AY (Az (Aq U U ?_)))))))))))))))
   replace H:=H.nil
   have e:¬ Es J:=by
     rintro ⟨g1,g2,g3,g4,g5,g6,g7,g8,g9,g10,g11⟩
     have g:=g4 _ (Cx hx32);have ga:x31.length≤8:=g.1;first |exact (h39 g.2).elim|omega
   exact Al ⟨congrArg Value.bool (decide_eq_false e).symm,rfl⟩ H
  refine Ac U (sc (Rj (.slice A34 x31.length c35) x31) H (lX (fun F hA hR=>KN (hR _ (List.mem_of_getElem? (i:=0) U)) hx32) l0) U U (Av Qn U U) ?_)
  rintro _ _ w ⟨rfl,rfl⟩ H
  refine V U U (D3 U U) (Ac U (Ab (Z ?_)))
  refine AC U (fun h40=>?_) (fun h40=>?_)
  ·refine Aa (Ad (Ac U (Ab (Z (Am (AY (Az (Az (AY (Az (Aq U U ?_)))))))))))
   replace H:=H.nil
   have e:¬ Es J:=by
     rintro ⟨g1,g2,g3,g4,g5,g6,g7,g8,g9,g10,g11⟩
     have g:=g4 _ (Cx hx32);have ga:x31.length≤8:=g.1;first |exact (h40 g.2).elim|omega
   exact Al ⟨congrArg Value.bool (decide_eq_false e).symm,rfl⟩ H
  refine AB (Bb (Z (Ad (V U U (Be (z:=((k+1:Nat):Int)) U U U (by rw [AI (by omega) (by omega)];omega)) (Ac U (Ab ?_))))))
  have hn2:=Lv (Q:=fun u:Value×List Ap=>Hw u.2) hn hx32 ⟨(show x31.length≤8 by omega),Classical.not_not.1 h40⟩
  exact Bo (s:=k) (k+1) ⟨rfl,rfl,rfl,rfl,trivial⟩ ⟨H,by (try dsimp only);omega,hn2⟩ (by (try dsimp only);omega)
 refine BW (A8 (A8 (BX (Z (Aa (Ad (Ac U (Ab (Z (Aa (Aa (Ad (V U U (Aj U Kp U) (V U U (An U DY U (H.cellI 0 U U)) (V U U (Bn U EC U) (Ac U (Ab (Z (AX ?_)))))))))))))))))))
 have hal:∀ u∈J.us,Hw u.2:=by rw [←GJ (xs:=J.us) (k:=k) (by omega)];exact hn
 refine B1 (σ:=Nat×Int) (fun (j,last)=>[(1,.pointer (some ⟨b26,0,none⟩)),(5,.int .i64 last),(42,.slice A21 J.marks.length c22),(43,.int .i64 ((J.marks.length:Nat):Int)),(44,.int .i64 ((j:Nat):Int))]) (fun (j,last) w=>(Hd w0 F0 w [blk b26 [.slice A1 J.us.length c2,.int .i64 J.parts,.slice A6 J.map.length c7,.slice A11 J.comb.length c12,.slice A16 J.red.length c17,.int .i64 J.chunk,.int .i64 J.window,.int .i64 J.fuel,.slice A21 J.marks.length c22] 26] [Ae (At Ag) (.slice A1 J.us.length c2) J.us,Ae Af (.slice A6 J.map.length c7) J.map,Ae Af (.slice A11 J.comb.length c12) J.comb,Ae Af (.slice A16 J.red.length c17) J.red,Ae (Ai .i64) (.slice A21 J.marks.length c22) J.marks])∧(j≤J.marks.length∧0≤last∧last≤6)∧(GY J.us.length last (J.marks.drop j)↔GY J.us.length 0 J.marks)) (fun (j,last)=>J.marks.length - j) (0,0) ⟨rfl,rfl,rfl,rfl,rfl,trivial⟩ ⟨H,by (try dsimp only);omega,Iff.rfl⟩ ?_
 rintro ⟨j,last⟩ w ⟨H,hj,hm⟩
 refine Aa (Ad (V U U (Br U U U) (Ab (Z (Aa ?_)))))
 refine AC U (fun h41=>?_) (fun h41=>?_)
 ·refine AB (Z (Aa (AX (Aa (Ad ?_)))))
  obtain ⟨x42,hx43⟩:∃ z9,J.marks[j]?=some z9:=⟨_,List.getElem?_eq_getElem (show j<J.marks.length by omega)⟩
  have th44:=H.thR 4 rfl hx43
  refine V U U (Bi (p:=A_ A21+j*1) U DA U U (by omega) (by omega) th44 U) (V U U (An U AE U (H.elR 4 U hx43 (q:=0) U U)) (Ac U (Ab (Z (Aa (Aa (Ad (Ah 2 U (V U U (Be (z:=last+1) U U U (AI (by omega) (by omega))) (V U U (Aj U FO U) (V U U (An U F6 U (H.cellI 0 U U)) (V U U (Bn U Gm U) (sc (GN x42 (last+1) ((J.us.length:Nat):Int)) H l0 U U (Av Gz U U) ?_)))))))))))))
  rintro _ _ w ⟨rfl,rfl⟩ H
  refine V U U (D3 U U) (Ab (Z ?_))
  refine AC U (fun h45=>?_) (fun h45=>?_)
  ·refine Aa (Ad (Ac U (Ab (Z (Am (Az (AY (Az (Az (AY (Az (Aq U U ?_))))))))))))
   replace H:=H.nil
   have e:¬ Es J:=by
     rintro ⟨g1,g2,g3,g4,g5,g6,g7,g8,g9,g10,g11⟩
     have g:=hm.2 g5;rw [Fv hx43] at g;have g0:=g.1;omega
   exact Al ⟨congrArg Value.bool (decide_eq_false e).symm,rfl⟩ H
  refine AB (Z (Ad (Ah 2 U (Ab (Bb (Z (Ad (V U U (Be (z:=((j+1:Nat):Int)) U U U (by rw [AI (by omega) (by omega)];omega)) (Ac U (Ab ?_))))))))))
  have hm2:GY J.us.length x42 (J.marks.drop (j+1))↔GY J.us.length 0 J.marks:=by rw [←hm,Fv hx43];exact ⟨fun g=>⟨by omega,g⟩,fun g=>g.2⟩
  exact Bo (s:=(j,last)) (j+1,x42) ⟨rfl,rfl,rfl,rfl,rfl,trivial⟩ ⟨H,by (try dsimp only);omega,hm2⟩ (by (try dsimp only);omega)
 refine BW (A8 (A8 (BX (Z (Aa (Ad (V U U (Aj U L7 U) (V U U (An U GL U (H.cellI 0 U U)) (sc (PW (.slice A6 J.map.length c7) J.map) H (lR 1 U l0) U U (Av Qo U U) ?_)))))))))
 rintro _ _ w ⟨rfl,rfl⟩ H
 refine Ac U ?_
 refine AR (d:=61) U (fun h46=>?_) (fun h46=>?_)
 ·refine V U U (Aj U Ko U) (V U U (An U GL U (H.cellI 0 U U)) (sc (PW (.slice A16 J.red.length c17) J.red) H (lR 3 U l0) U U (Av Qo U U) ?_))
  rintro _ _ w ⟨rfl,rfl⟩ H
  refine Ah 2 U ?_
  refine AR (d:=66) U (fun h47=>?_) (fun h47=>?_)
  ·refine V U U (Aj U L8 U) (V U U (An U GL U (H.cellI 0 U U)) (sc (MW (.slice A11 J.comb.length c12) J.comb) H (lR 2 U l0) U U (Av Mx U U) ?_))
   rintro _ _ w ⟨rfl,rfl⟩ H
   refine Ah 2 U ?_
   refine AR (d:=71) U (fun h48=>?_) (fun h48=>?_)
   ·refine V U U (Aj U Pg U) (V U U (An U AE U (H.cellI 0 U U)) (sc (GN J.chunk 1 7) H l0 U U (Av Gz U U) ?_))
    rintro _ _ w ⟨rfl,rfl⟩ H
    refine Ah 2 U ?_
    refine AR (d:=76) U (fun h49=>?_) (fun h49=>?_)
    ·refine V U U (Aj U UX U) (V U U (An U AE U (H.cellI 0 U U)) (sc (GN J.window 1 4) H l0 U U (Av Gz U U) ?_))
     rintro _ _ w ⟨rfl,rfl⟩ H
     refine Ah 2 U ?_
     refine AR (d:=81) U (fun h50=>?_) (fun h50=>?_)
     ·refine V U U (Aj U Ph U) (V U U (An U AE U (H.cellI 0 U U)) (sc (GN J.fuel 1 2000) H l0 U U (Av Gz U U) ?_))
      rintro _ _ w ⟨rfl,rfl⟩ H
      refine Ah 2 U (Ab (Z (Am (Aq U U ?_))))
      replace H:=H.nil
      have hmk:GY J.us.length 0 J.marks:=hm.1 (by rw [List.drop_eq_nil_of_le (by omega)];trivial)
      have e:(1≤J.fuel∧J.fuel≤2000)↔Es J:=⟨fun g=>⟨by omega,by omega,by omega,hal,hmk,by omega,by omega,by omega,by omega,by omega,by omega⟩,fun g=>by have g6:=g.2.2.2.2.2;omega⟩
      exact Al ⟨congrArg Value.bool (decide_eq_decide.2 e),rfl⟩ H
     refine Ah 5 U (Ab (Z (Am (Aq U U ?_))))
     replace H:=H.nil
     have e:¬ Es J:=by
       rintro ⟨g1,g2,g3,g4,g5,g6,g7,g8,g9,g10,g11⟩
       omega
     exact Al ⟨congrArg Value.bool (decide_eq_false e).symm,rfl⟩ H
    refine Ah 10 U (Ab (Z (Am (Aq U U ?_))))
    replace H:=H.nil
    have e:¬ Es J:=by
      rintro ⟨g1,g2,g3,g4,g5,g6,g7,g8,g9,g10,g11⟩
      omega
    exact Al ⟨congrArg Value.bool (decide_eq_false e).symm,rfl⟩ H
   refine Ah 12 U (Ah 3 U (Ab (Z (Am (Aq U U ?_)))))
   replace H:=H.nil
   have e:¬ Es J:=by
     rintro ⟨g1,g2,g3,g4,g5,g6,g7,g8,g9,g10,g11⟩
     omega
   exact Al ⟨congrArg Value.bool (decide_eq_false e).symm,rfl⟩ H
  refine Ah 12 U (Ah 8 U (Ab (Z (Am (Aq U U ?_)))))
  replace H:=H.nil
  have e:¬ Es J:=by
    rintro ⟨g1,g2,g3,g4,g5,g6,g7,g8,g9,g10,g11⟩
    omega
  exact Al ⟨congrArg Value.bool (decide_eq_false e).symm,rfl⟩ H
 refine Ah 12 U (Ah 12 U (Ac U (Ab (Z (Am (Aq U U ?_))))))
 replace H:=H.nil
 have e:¬ Es J:=by
   rintro ⟨g1,g2,g3,g4,g5,g6,g7,g8,g9,g10,g11⟩
   omega
 exact Al ⟨congrArg Value.bool (decide_eq_false e).symm,rfl⟩ H
theorem Zb (key:ByteArray) (hb0:key.size≤9223372036854775807):
    Cn Tryz.prog 264 [.string key] [] [] (fun v Bs=>v=.int .u32 (Ez key key.size)∧Bs=[]):=by
 intro w0 F0 H
 refine enter Tryz.func264 U U (Nat.le_of_ble_eq_true U) (Aa (Ad (Ac U (Ab (Z (Aa (Ad (Ac U (Ab (Z (Aa (Aa (Ad (Ac U (V U U (DO U CP U) (Ac U (Ab (Z (AX (B1 (σ:=Nat) (fun k=>[(0,.string key),(2,.int .u32 0),(3,.int .u32 (Ez key k)),(6,.int .i64 ((key.size:Nat):Int)),(7,.int .i64 ((k:Nat):Int))]) (fun k w=>(Hd w0 F0 w [] [])∧(k≤key.size)) (fun k=>key.size - k) 0 ⟨rfl,rfl,rfl,rfl,rfl,trivial⟩ ⟨H,by (try dsimp only);omega⟩ ?_))))))))))))))))))))
 rintro k w ⟨H,hk⟩
 refine Aa (Ad (V U U (Br U U U) (Ab (Z (Aa ?_)))))
 refine AC U (fun h1=>?_) (fun h1=>?_)
 ·refine AB (Z (Aa (AX (Aa (Ad (Ah 2 U (Ab (Z (Ad (Ac U (V U U (Hy (z:=IntKind.u32.wrap (31*Ez key k)) U U U U) (Ah 2 U ?_))))))))))))
  obtain ⟨b,hb⟩:∃ b,key[k]?=some b:=⟨_,getElem?_pos key k (by omega)⟩
  exact V U U (JB U CP U U (by omega) hb) (V U U (Ej (z:=((b).toNat:Int)) U U HE SE (fI b)) (V U U (Be (z:=IntKind.u32.wrap (IntKind.u32.wrap (31*Ez key k)+(b.toNat:Int))) U U U U) (Ac U (Ab (Bb (Z (Ad (V U U (Be (z:=((k+1:Nat):Int)) U U U (by rw [AI (by omega) (by omega)];omega)) (Ac U (Ab (Bo (s:=k) (k+1) ⟨rfl,rfl,congrArg (fun z=>some (Value.int .u32 z)) (YC hb).symm,rfl,rfl,trivial⟩ ⟨H,by (try dsimp only);omega⟩ (by (try dsimp only);omega))))))))))))
 refine BW (A8 (A8 (BX (Z (Aa (Ad (Ah 2 U (Ab (Z (Am (Aq U U ?_)))))))))))
 obtain rfl:k=key.size:=by omega
 exact Al ⟨rfl,rfl⟩ H
theorem Zc (key:ByteArray) (n:Int) (hb0:key.size≤9223372036854775807) (hn:n≤9223372036854775807):
    Cn Tryz.prog 251 [.string key,.int .i64 n] [] [] (fun v Bs=>v=.int .i64 (KW key n)∧Bs=[]):=by
 intro w0 F0 H
 refine enter Tryz.func251 U U (Nat.le_of_ble_eq_true U) (Aa (Ad (Ac U (Ab (Z (Aa (Aa (Ad (Ac U (V U U (Br U U U) (Ab (Z ?_))))))))))))
 refine AC U (fun h1=>?_) (fun h1=>?_)
 ·exact Aa (Ad (Ac U (Ab (Z (Am (Az (Aq U U (Al ⟨congrArg (Value.int .i64) (if_pos h1).symm,rfl⟩ H))))))))
 refine AB (Z (Aa (Ad (Ac U (sc (Zb key (by first |omega|decide)) H l0 U U (Av WH U U) ?_)))))
 rintro _ _ w ⟨rfl,rfl⟩ H
 exact V U U (Ej (z:=Ez key key.size) U U SE Ia (F8 (MO key key.size).1 (by have:=(MO key key.size).2;omega))) (Ac U (V U U (Ej (z:=n) U U En Ia (F8 (by omega) (by omega))) (V U U (M_ (z:=(Ez key key.size)%n) U U U (by omega) (Int.tmod_eq_emod_of_nonneg (MO key key.size).1)) (V U U (Ej (z:=(Ez key key.size)%n) U U Ia En (AI (by have:=Int.emod_nonneg (Ez key key.size) (show n≠0 by omega);omega) (by have:=Int.emod_lt_of_pos (Ez key key.size) (show 0<n by omega);omega))) (Ac U (Ab (Z (Am (Aq U U (Al ⟨congrArg (Value.int .i64) (if_neg h1).symm,rfl⟩ H))))))))))
theorem YO (vxs:Value) (xs:List Ap) (n:Int) (p:Int) (hb:xs.length≤1000000) (hn:n≤9223372036854775807) (hk:∀ x∈xs,x.key.size≤9223372036854775807):
    Cn Tryz.prog 229 [vxs,.int .i64 n,.int .i64 p] [] [Ae Ag vxs xs] (fun v Bs=>Bs=[Y Ag v (Fo xs n p)]):=by
 intro w0 F0 H
 obtain ⟨A1,c2,rfl,hc3,hm4,hp5⟩:=H.fR 0 rfl
 refine enter Tryz.func229 U U (Nat.le_of_ble_eq_true U) (Aa (Ad (Ac U (Ab (Z ?_)))))
 replace H:Hd _ _ _ [] [Ae Ag (.slice A1 xs.length c2) xs]:=H
 refine Aa (Ad (Ac U (Ab (Z (Aa (Aa (Ad (Ac U (V U U (Bn U Do U) (Ac U (Ab (Z (AX ?_)))))))))))))
 replace H:=H.newnil Ag
 refine B1 (σ:=Nat×Value) (fun (k,l)=>[(1,.int .i64 n),(2,.int .i64 p),(6,.slice none 0 0),(7,l),(10,.slice A1 xs.length c2),(11,.int .i64 ((xs.length:Nat):Int)),(12,.int .i64 ((k:Nat):Int))]) (fun (k,l) w=>(Hd w0 F0 w [Y Ag l (Fo (xs.take k) n p)] [Ae Ag (.slice A1 xs.length c2) xs])∧(k≤xs.length)) (fun (k,l)=>xs.length - k) (0,.slice none 0 0) ⟨rfl,rfl,rfl,rfl,rfl,rfl,rfl,trivial⟩ ⟨H,by (try dsimp only);omega⟩ ?_
 rintro ⟨k,l⟩ w ⟨H,hk0⟩
 have hjl:=Rd (xs.take k) n p
 have hjt:(xs.take k).length≤xs.length:=by simp;omega
 refine Aa (Ad (V U U (Br U U U) (Ab (Z (Aa ?_)))))
 refine AC U (fun h6=>?_) (fun h6=>?_)
 ·refine AB (Z (Aa (AX (Aa (Ad ?_)))))
  obtain ⟨x7,hx8⟩:∃ z9,xs[k]?=some z9:=⟨_,List.getElem?_eq_getElem (show k<xs.length by omega)⟩
  have th9:=H.thR 0 rfl hx8
  refine V U U (Bi (p:=A_ A1+k*2) U BJ U U (by omega) (by omega) th9 U) (V U U (BD (cs:=[.string x7.key,.string x7.val]) U CB U U (H.elsR 0 U hx8 U)) (Dz U U U De H (fun b10 w H=>(Bx U U U CB U U H U (Nat.le_of_ble_eq_true U) (fun u hu=>by simp [Value.cells] at hu;rcases hu with rfl|rfl<;>rfl) (fun w H=>?_)))))
  replace H:=H.h2 (A:=blk b10 [.string x7.key,.string x7.val] 122) (B:=Y Ag l (Fo (xs.take k) n p))
  refine Ab (Z (Aa ?_))
  have hkx:=hk _ (Cx hx8)
  refine Ad (V U U (Aj U FN U) (V U U (An U Cg U (H.cellI 0 U U)) (Ac U (sc (Zc x7.key n (by first |omega|decide) (by first |omega|decide)) H l0 U U (Av Wx U U) ?_))))
  rintro _ _ w ⟨rfl,rfl⟩ H
  refine Ac U (V U U (Bg U U U) (Ab (Z ?_)))
  refine AC U (fun h11=>?_) (fun h11=>?_)
  ·refine Ad (Ac U (V U U (BD (cs:=[.string x7.key,.string x7.val]) U CB U U (H.cellsI 0 U U)) (Cb (parts:=[(0,.tmp 23)]) (vs:=[.agg #[.string x7.key,.string x7.val]]) (cs:=[.string x7.key,.string x7.val]) U U U BJ De U (by decide) (by decide) U U H (fun b12 w H=>?_))))
   replace H:=H.p2
   refine CA (xs:=Fo (xs.take k) n p) (ys:=[x7]) U U U BJ De U (by decide) U U H (by omega) (fun F hA hR=>Cy (hA _ (List.mem_of_getElem? (i:=0) U)) U (by decide) (Bc.flat_eq.2 U)) (fun v13 w H=>(Ac U (Ab (Bb (Z ?_)))))
   replace H:Hd _ _ _ [Y Ag v13 ((Fo (xs.take k) n p)++[x7]),blk b12 [.string x7.key,.string x7.val] 122,blk b10 [.string x7.key,.string x7.val] 122] [Ae Ag (.slice A1 xs.length c2) xs]:=H
   refine Ad (V U U (Be (z:=((k+1:Nat):Int)) U U U (by rw [AI (by omega) (by omega)];omega)) (Ac U (Ab ?_)))
   rw [←YP hx8 h11] at H
   replace H:=H.k1
   exact Bo (s:=(k,undef)) (k+1,v13) ⟨rfl,rfl,rfl,rfl,rfl,rfl,rfl,trivial⟩ ⟨H,by (try dsimp only);omega⟩ (by (try dsimp only);omega)
  refine AB (Bb (Z (Ad (V U U (Be (z:=((k+1:Nat):Int)) U U U (by rw [AI (by omega) (by omega)];omega)) (Ac U (Ab ?_))))))
  rw [←YN hx8 h11] at H
  replace H:=H.sel 2 [1] [0] rfl (by kernel_rfl)
  exact Bo (s:=(k,undef)) (k+1,l) ⟨rfl,rfl,rfl,rfl,rfl,rfl,rfl,trivial⟩ ⟨H,by (try dsimp only);omega⟩ (by (try dsimp only);omega)
 refine BW (A8 (A8 (BX (Z (Aa (Ad (Ah 2 U (Ab (Z (Am (Aq U U ?_)))))))))))
 rw [List.take_of_length_le (show xs.length≤k by omega)] at H
 exact Al U H
theorem dL (p:Int) {w:Int} (hw:1≤w): -w<p.tmod w∧p.tmod w<w:=by
 have h1:=Int.lt_tmod_of_pos p (show (0:Int)<w by omega)
 have h2:=Int.tmod_lt_of_pos p (show (0:Int)<w by omega)
 omega
theorem MI (vS:Value) (vM:Value) (vC:Value) (vR:Value) (vK:Value) (C:Cf):
    Cn Tryz.prog 9 [.agg #[vS,.int .i64 C.J.parts,vM,vC,vR,.int .i64 C.J.chunk,.int .i64 C.J.window,.int .i64 C.J.fuel,vK,.int .i64 C.w,.int .i64 C.t,.int .i64 C.o]] [] [Ae (At Ag) vS C.J.us,Ae Af vM C.J.map,Ae Af vC C.J.comb,Ae Af vR C.J.red,Ae (Ai .i64) vK C.J.marks] (fun v Bs=>v=.bool (decide (DE C))∧Bs=[]):=by
 intro w0 F0 H
 obtain ⟨A1,c2,rfl,hc3,hm4,hp5⟩:=H.fR 0 rfl
 obtain ⟨A6,c7,rfl,hc8,hm9,hp10⟩:=H.fR 1 rfl
 obtain ⟨A11,c12,rfl,hc13,hm14,hp15⟩:=H.fR 2 rfl
 obtain ⟨A16,c17,rfl,hc18,hm19,hp20⟩:=H.fR 3 rfl
 obtain ⟨A21,c22,rfl,hc23,hm24,hp25⟩:=H.fR 4 rfl
 refine enter Tryz.func9 U U (Nat.le_of_ble_eq_true U) (Aa (Ad (CT U U U U H (fun b26 w H=>(Ac U (Ab (Z ?_)))))))
 replace H:Hd _ _ _ [blk b26 [.slice A1 C.J.us.length c2,.int .i64 C.J.parts,.slice A6 C.J.map.length c7,.slice A11 C.J.comb.length c12,.slice A16 C.J.red.length c17,.int .i64 C.J.chunk,.int .i64 C.J.window,.int .i64 C.J.fuel,.slice A21 C.J.marks.length c22,.int .i64 C.w,.int .i64 C.t,.int .i64 C.o] 28] [Ae (At Ag) (.slice A1 C.J.us.length c2) C.J.us,Ae Af (.slice A6 C.J.map.length c7) C.J.map,Ae Af (.slice A11 C.J.comb.length c12) C.J.comb,Ae Af (.slice A16 C.J.red.length c17) C.J.red,Ae (Ai .i64) (.slice A21 C.J.marks.length c22) C.J.marks]:=H
 refine Aa (Ad (V U U (Aj U DL U) (V U U (BD (cs:=[.slice A1 C.J.us.length c2,.int .i64 C.J.parts,.slice A6 C.J.map.length c7,.slice A11 C.J.comb.length c12,.slice A16 C.J.red.length c17,.int .i64 C.J.chunk,.int .i64 C.J.window,.int .i64 C.J.fuel,.slice A21 C.J.marks.length c22]) U dU U U (H.cellsI 0 U U)) (sc (VN (.slice A1 C.J.us.length c2) (.slice A6 C.J.map.length c7) (.slice A11 C.J.comb.length c12) (.slice A16 C.J.red.length c17) (.slice A21 C.J.marks.length c22) C.J) H (lR 0 U (lR 1 U (lR 2 U (lR 3 U (lR 4 U l0))))) U U (Av Xd U U) ?_))))
 rintro _ _ w ⟨rfl,rfl⟩ H
 refine Ac U ?_
 refine AR (d:=6) U (fun h27=>?_) (fun h27=>?_)
 ·refine V U U (Aj U Kq U) (V U U (An U AE U (H.cellI 0 U U)) (sc (GN C.w 1 4) H l0 U U (Av Gz U U) ?_))
  rintro _ _ w ⟨rfl,rfl⟩ H
  refine Ah 2 U ?_
  refine AR (d:=11) U (fun h28=>?_) (fun h28=>?_)
  ·refine V U U (Aj U U0 U) (V U U (An U AE U (H.cellI 0 U U)) (sc (GN C.t 1 3) H l0 U U (Av Gz U U) ?_))
   rintro _ _ w ⟨rfl,rfl⟩ H
   refine Ah 2 U ?_
   refine AR (d:=16) U (fun h29=>?_) (fun h29=>?_)
   ·refine V U U (Aj U U1 U) (V U U (An U AE U (H.cellI 0 U U)) (sc (GN C.o 1 50) H l0 U U (Av Gz U U) ?_))
    rintro _ _ w ⟨rfl,rfl⟩ H
    refine Ah 2 U (Ab (Z ?_))
    replace H:Hd _ _ _ [blk b26 [.slice A1 C.J.us.length c2,.int .i64 C.J.parts,.slice A6 C.J.map.length c7,.slice A11 C.J.comb.length c12,.slice A16 C.J.red.length c17,.int .i64 C.J.chunk,.int .i64 C.J.window,.int .i64 C.J.fuel,.slice A21 C.J.marks.length c22,.int .i64 C.w,.int .i64 C.t,.int .i64 C.o] 28] [Ae (At Ag) (.slice A1 C.J.us.length c2) C.J.us,Ae Af (.slice A6 C.J.map.length c7) C.J.map,Ae Af (.slice A11 C.J.comb.length c12) C.J.comb,Ae Af (.slice A16 C.J.red.length c17) C.J.red,Ae (Ai .i64) (.slice A21 C.J.marks.length c22) C.J.marks]:=H
    refine Am (Aq U U ?_)
    replace H:=H.nil
    have e:(1≤C.o∧C.o≤50)↔DE C:=⟨fun g=>⟨h27,by omega,by omega,by omega⟩,fun g=>by have g2:=g.2;omega⟩
    exact Al ⟨congrArg Value.bool (decide_eq_decide.2 e),rfl⟩ H
   refine Ah 5 U (Ab (Z ?_))
   replace H:Hd _ _ _ [blk b26 [.slice A1 C.J.us.length c2,.int .i64 C.J.parts,.slice A6 C.J.map.length c7,.slice A11 C.J.comb.length c12,.slice A16 C.J.red.length c17,.int .i64 C.J.chunk,.int .i64 C.J.window,.int .i64 C.J.fuel,.slice A21 C.J.marks.length c22,.int .i64 C.w,.int .i64 C.t,.int .i64 C.o] 28] [Ae (At Ag) (.slice A1 C.J.us.length c2) C.J.us,Ae Af (.slice A6 C.J.map.length c7) C.J.map,Ae Af (.slice A11 C.J.comb.length c12) C.J.comb,Ae Af (.slice A16 C.J.red.length c17) C.J.red,Ae (Ai .i64) (.slice A21 C.J.marks.length c22) C.J.marks]:=H
   refine Am (Aq U U ?_)
   replace H:=H.nil
   have e:¬ DE C:=fun h=>by have h1:=h.1;have h2:=h.2;first |exact absurd h1 h27|omega
   exact Al ⟨congrArg Value.bool (decide_eq_false e).symm,rfl⟩ H
  refine Ah 10 U (Ab (Z ?_))
  replace H:Hd _ _ _ [blk b26 [.slice A1 C.J.us.length c2,.int .i64 C.J.parts,.slice A6 C.J.map.length c7,.slice A11 C.J.comb.length c12,.slice A16 C.J.red.length c17,.int .i64 C.J.chunk,.int .i64 C.J.window,.int .i64 C.J.fuel,.slice A21 C.J.marks.length c22,.int .i64 C.w,.int .i64 C.t,.int .i64 C.o] 28] [Ae (At Ag) (.slice A1 C.J.us.length c2) C.J.us,Ae Af (.slice A6 C.J.map.length c7) C.J.map,Ae Af (.slice A11 C.J.comb.length c12) C.J.comb,Ae Af (.slice A16 C.J.red.length c17) C.J.red,Ae (Ai .i64) (.slice A21 C.J.marks.length c22) C.J.marks]:=H
  refine Am (Aq U U ?_)
  replace H:=H.nil
  have e:¬ DE C:=fun h=>by have h1:=h.1;have h2:=h.2;first |exact absurd h1 h27|omega
  exact Al ⟨congrArg Value.bool (decide_eq_false e).symm,rfl⟩ H
 refine Ah 12 U (Ah 3 U (Ab (Z ?_)))
 replace H:Hd _ _ _ [blk b26 [.slice A1 C.J.us.length c2,.int .i64 C.J.parts,.slice A6 C.J.map.length c7,.slice A11 C.J.comb.length c12,.slice A16 C.J.red.length c17,.int .i64 C.J.chunk,.int .i64 C.J.window,.int .i64 C.J.fuel,.slice A21 C.J.marks.length c22,.int .i64 C.w,.int .i64 C.t,.int .i64 C.o] 28] [Ae (At Ag) (.slice A1 C.J.us.length c2) C.J.us,Ae Af (.slice A6 C.J.map.length c7) C.J.map,Ae Af (.slice A11 C.J.comb.length c12) C.J.comb,Ae Af (.slice A16 C.J.red.length c17) C.J.red,Ae (Ai .i64) (.slice A21 C.J.marks.length c22) C.J.marks]:=H
 refine Am (Aq U U ?_)
 replace H:=H.nil
 have e:¬ DE C:=fun h=>by have h1:=h.1;have h2:=h.2;first |exact absurd h1 h27|omega
 exact Al ⟨congrArg Value.bool (decide_eq_false e).symm,rfl⟩ H
theorem Mp (vS:Value) (vM:Value) (vC:Value) (vR:Value) (vK:Value) (C:Cf) (p:Int) (hp:AL p):
    Cn Tryz.prog 130 [.agg #[vS,.int .i64 C.J.parts,vM,vC,vR,.int .i64 C.J.chunk,.int .i64 C.J.window,.int .i64 C.J.fuel,vK,.int .i64 C.w,.int .i64 C.t,.int .i64 C.o],.int .i64 p] [] [Ae (At Ag) vS C.J.us,Ae Af vM C.J.map,Ae Af vC C.J.comb,Ae Af vR C.J.red,Ae (Ai .i64) vK C.J.marks] (fun v Bs=>v=.int .i64 (DR C p)∧Bs=[]):=by
 intro w0 F0 H
 unfold AL at hp
 refine enter Tryz.func130 U U (Nat.le_of_ble_eq_true U) (Aa (Ad (CT U U U U H (fun b1 w H=>(Ac U (Ab (Z ?_)))))))
 replace H:Hd _ _ _ [blk b1 [vS,.int .i64 C.J.parts,vM,vC,vR,.int .i64 C.J.chunk,.int .i64 C.J.window,.int .i64 C.J.fuel,vK,.int .i64 C.w,.int .i64 C.t,.int .i64 C.o] 28] [Ae (At Ag) vS C.J.us,Ae Af vM C.J.map,Ae Af vC C.J.comb,Ae Af vR C.J.red,Ae (Ai .i64) vK C.J.marks]:=H
 refine Aa (Aa (Ad (V U U (BD (cs:=[vS,.int .i64 C.J.parts,vM,vC,vR,.int .i64 C.J.chunk,.int .i64 C.J.window,.int .i64 C.J.fuel,vK,.int .i64 C.w,.int .i64 C.t,.int .i64 C.o]) U EY U U (H.cellsI 0 U U)) (sc (MI vS vM vC vR vK C) H (lR 0 U (lR 1 U (lR 2 U (lR 3 U (lR 4 U l0))))) U U (Av Mz U U) ?_))))
 rintro _ _ w ⟨rfl,rfl⟩ H
 refine V U U (D3 U U) (Ac U ?_)
 refine AR (d:=8) U (fun h2=>?_) (fun h2=>?_)
 ·refine Ah 8 U (Ab (Z ?_))
  replace H:Hd _ _ _ [blk b1 [vS,.int .i64 C.J.parts,vM,vC,vR,.int .i64 C.J.chunk,.int .i64 C.J.window,.int .i64 C.J.fuel,vK,.int .i64 C.w,.int .i64 C.t,.int .i64 C.o] 28] [Ae (At Ag) vS C.J.us,Ae Af vM C.J.map,Ae Af vC C.J.comb,Ae Af vR C.J.red,Ae (Ai .i64) vK C.J.marks]:=H
  refine Ct U (Aa (Ad (Ac U (Ab (Z (Am (Az (Aq U U ?_))))))))
  replace H:=H.nil
  exact Al ⟨congrArg (Value.int .i64) (if_pos (by first |exact .inl h2|exact .inr h2)).symm,rfl⟩ H
 have hmc:DE C:=Classical.not_not.1 h2
 have hm1:=hmc.2
 have hmp:=hmc.1.2.1
 refine Ac U (V U U (Aj U DL U) (V U U (Aj U Ji U) (V U U (An U AE U (H.cellI 0 U U)) (V U U (CK (z:=C.J.parts - 1) U U U (AI (by omega) (by omega))) (sc (GN p 0 (C.J.parts - 1)) H l0 U U (Av Gz U U) ?_)))))
 rintro _ _ w ⟨rfl,rfl⟩ H
 refine V U U (D3 U U) (Ac U (Ab (Z ?_)))
 replace H:Hd _ _ _ [blk b1 [vS,.int .i64 C.J.parts,vM,vC,vR,.int .i64 C.J.chunk,.int .i64 C.J.window,.int .i64 C.J.fuel,vK,.int .i64 C.w,.int .i64 C.t,.int .i64 C.o] 28] [Ae (At Ag) vS C.J.us,Ae Af vM C.J.map,Ae Af vC C.J.comb,Ae Af vR C.J.red,Ae (Ai .i64) vK C.J.marks]:=H
 refine AC U (fun h3=>?_) (fun h3=>?_)
 ·refine Aa (Ad (Ac U (Ab (Z (Am (Az (Aq U U ?_)))))))
  replace H:=H.nil
  exact Al ⟨congrArg (Value.int .i64) (if_pos (by first |exact .inl h3|exact .inr h3)).symm,rfl⟩ H
 refine AB (Z (Aa (Ad (Ac U (V U U (Aj U Kq U) (V U U (An U AE U (H.cellI 0 U U)) (V U U (M_ (z:=p.tmod C.w) U U U (by omega) U) (V U U (Be (z:=1+p.tmod C.w) U U U (by have h1:=dL p (show 1≤C.w by omega);exact AI (by omega) (by omega))) (Ac U (Ab (Z (Am (Aq U U ?_)))))))))))))
 replace H:=H.nil
 have e:DR C p=1+p.tmod C.w:=if_neg (fun h=>h.elim (fun h=>h hmc) (fun h=>by omega))
 exact Al ⟨by rw [e]<;>rfl,rfl⟩ H
theorem LP (vxs:Value) (xs:List B7) (hb:xs.length≤1000000):
    Cn Tryz.prog 73 [vxs] [] [Ae Af vxs xs] (fun v Bs=>Bs=[Y Af v xs]):=by
 intro w0 F0 H
 obtain ⟨A1,c2,rfl,hc3,hm4,hp5⟩:=H.fR 0 rfl
 refine enter Tryz.func73 U U (Nat.le_of_ble_eq_true U) (Aa (Ad (Ac U (Ab (Z ?_)))))
 replace H:Hd _ _ _ [] [Ae Af (.slice A1 xs.length c2) xs]:=H
 refine Aa (Aa (Ad (Ac U (V U U (JC U Ib U U) (Ab (Z ?_))))))
 refine Dx (b:=(A1:Option Addr).isNone) U (fun h6=>?_) (fun h6=>?_)
 ·refine Aa (Ad (Ac U (Ab (Z (Am (Az (Aq U U ?_)))))))
  obtain rfl:=H.nilR 0 rfl h6
  replace H:=H.newnil Af
  exact Al U H
 refine AB (Z (Aa (Ad (JI U U U IV H (fun b7 w H=>(Ac U ?_))))))
 replace H:=H.newnilA Af (some ⟨b7,0,none⟩)
 refine CA (xs:=[]) (ys:=xs) U U U IV LE U (by decide) U U H (by simp only [List.length_nil];omega) (fun F hA hR=>hR _ (List.mem_of_getElem? (i:=0) U)) (fun v8 w H=>?_)
 replace H:=H.h2 (A:=Y Af v8 ([]++xs)) (B:=blk b7 [] 124)
 refine Ac U (Ab (Z (Am (Aq U U ?_))))
 rw [List.nil_append] at H
 replace H:=H.k1
 exact Al U H
theorem I_ (vxs:Value) (xs:List Int) (hb:xs.length≤1000000):
    Cn Tryz.prog 74 [vxs] [] [Ae (Ai .i64) vxs xs] (fun v Bs=>Bs=[Y (Ai .i64) v xs]):=by
 intro w0 F0 H
 obtain ⟨A1,c2,rfl,hc3,hm4,hp5⟩:=H.fR 0 rfl
 refine enter Tryz.func74 U U (Nat.le_of_ble_eq_true U) (Aa (Ad (Ac U (Ab (Z ?_)))))
 replace H:Hd _ _ _ [] [Ae (Ai .i64) (.slice A1 xs.length c2) xs]:=H
 refine Aa (Aa (Ad (Ac U (V U U (JC U EC U U) (Ab (Z ?_))))))
 refine Dx (b:=(A1:Option Addr).isNone) U (fun h6=>?_) (fun h6=>?_)
 ·refine Aa (Ad (Ac U (Ab (Z (Am (Az (Aq U U ?_)))))))
  obtain rfl:=H.nilR 0 rfl h6
  replace H:=H.newnil (Ai .i64)
  exact Al U H
 refine AB (Z (Aa (Ad (JI U U U DA H (fun b7 w H=>(Ac U ?_))))))
 replace H:=H.newnilA (Ai .i64) (some ⟨b7,0,none⟩)
 refine CA (xs:=[]) (ys:=xs) U U U DA E2 U (by decide) U U H (by simp only [List.length_nil];omega) (fun F hA hR=>hR _ (List.mem_of_getElem? (i:=0) U)) (fun v8 w H=>?_)
 replace H:=H.h2 (A:=Y (Ai .i64) v8 ([]++xs)) (B:=blk b7 [] 3)
 refine Ac U (Ab (Z (Am (Aq U U ?_))))
 rw [List.nil_append] at H
 replace H:=H.k1
 exact Al U H
theorem TJ (vxs:Value) (xs:List E3) (hb:xs.length≤1000000):
    Cn Tryz.prog 71 [vxs] [] [Ae DM vxs xs] (fun v Bs=>Bs=[Y DM v xs]):=by
 intro w0 F0 H
 obtain ⟨A1,c2,rfl,hc3,hm4,hp5⟩:=H.fR 0 rfl
 refine enter Tryz.func71 U U (Nat.le_of_ble_eq_true U) (Aa (Ad (Ac U (Ab (Z ?_)))))
 replace H:Hd _ _ _ [] [Ae DM (.slice A1 xs.length c2) xs]:=H
 refine Aa (Aa (Ad (Ac U (V U U (JC U Gm U U) (Ab (Z ?_))))))
 refine Dx (b:=(A1:Option Addr).isNone) U (fun h6=>?_) (fun h6=>?_)
 ·refine Aa (Ad (Ac U (Ab (Z (Am (Az (Aq U U ?_)))))))
  obtain rfl:=H.nilR 0 rfl h6
  replace H:=H.newnil DM
  exact Al U H
 refine AB (Z (Aa (Ad (JI U U U G8 H (fun b7 w H=>(Ac U ?_))))))
 replace H:=H.newnilA DM (some ⟨b7,0,none⟩)
 refine CA (xs:=[]) (ys:=xs) U U U G8 LG U (by decide) U U H (by simp only [List.length_nil];omega) (fun F hA hR=>hR _ (List.mem_of_getElem? (i:=0) U)) (fun v8 w H=>?_)
 replace H:=H.h2 (A:=Y DM v8 ([]++xs)) (B:=blk b7 [] 47)
 refine Ac U (Ab (Z (Am (Aq U U ?_))))
 rw [List.nil_append] at H
 replace H:=H.k1
 exact Al U H
theorem YZ {us zs:List (Value×List Ap)} {i:Nat} {A:Option Addr} {c:Nat} {x:List Ap} (hz:zs.length=i) (h:us[i]?=some (.slice A x.length c,x)):(BA zs++(BA us).drop i)[i]?=some (⟨A,x.length,c⟩:E3):=by
 subst hz
 have hl:(BA zs).length=zs.length:=by simp [BA]
 rw [List.getElem?_append_right (by omega),hl,Nat.sub_self,List.getElem?_drop,Nat.add_zero]
 unfold BA
 rw [List.getElem?_map,h]
 rfl
theorem Y0 {us zs:List (Value×List Ap)} {i:Nat} {A:Option Addr} {n c:Nat} {x:List Ap} (hz:zs.length=i) (hi:i<us.length):(BA zs++(BA us).drop i).set i (⟨A,n,c⟩:E3)=BA (zs++[(.slice A n c,x)])++(BA us).drop (i+1):=by
 subst hz
 have hl:(BA zs).length=zs.length:=by simp [BA]
 have hu:(BA us).length=us.length:=by simp [BA]
 rw [List.set_append_right _ _ (by omega),hl,Nat.sub_self,List.drop_eq_getElem_cons (by omega),List.set_cons_zero]
 unfold BA
 rw [List.map_append,List.append_assoc]
 rfl
theorem Y1 {us zs:List (Value×List Ap)} {i:Nat} {v u:Value} {x:List Ap} (hz:zs.map (·.2)=(us.map (·.2)).take i) (h:us[i]?=some (v,x)):(zs++[(u,x)]).map (·.2)=(us.map (·.2)).take (i+1):=by
 rw [List.map_append,hz,El (x:=x) (by rw [List.getElem?_map,h];rfl)]
 rfl
theorem MV (vS:Value) (vM:Value) (vC:Value) (vR:Value) (vK:Value) (C:Cf) (hC:DE C):
    Cn Tryz.prog 42 [.agg #[vS,.int .i64 C.J.parts,vM,vC,vR,.int .i64 C.J.chunk,.int .i64 C.J.window,.int .i64 C.J.fuel,vK,.int .i64 C.w,.int .i64 C.t,.int .i64 C.o]] [] [Ae (At Ag) vS C.J.us,Ae Af vM C.J.map,Ae Af vC C.J.comb,Ae Af vR C.J.red,Ae (Ai .i64) vK C.J.marks] (fun v Bs=>∃ J2:AS,∃ vS2:Value,∃ vM2:Value,∃ vC2:Value,∃ vR2:Value,∃ vK2:Value,v=.agg #[vS2,.int .i64 J2.parts,vM2,vC2,vR2,.int .i64 J2.chunk,.int .i64 J2.window,.int .i64 J2.fuel,vK2,.int .i64 C.w,.int .i64 C.t,.int .i64 C.o]∧Bs=[Y (At Ag) vS2 J2.us,Y Af vM2 J2.map,Y Af vC2 J2.comb,Y Af vR2 J2.red,Y (Ai .i64) vK2 J2.marks]∧(Bj J2 C.J)):=by
 intro w0 F0 H
 obtain ⟨A1,c2,rfl,hc3,hm4,hp5⟩:=H.fR 0 rfl
 obtain ⟨A6,c7,rfl,hc8,hm9,hp10⟩:=H.fR 1 rfl
 obtain ⟨A11,c12,rfl,hc13,hm14,hp15⟩:=H.fR 2 rfl
 obtain ⟨A16,c17,rfl,hc18,hm19,hp20⟩:=H.fR 3 rfl
 obtain ⟨A21,c22,rfl,hc23,hm24,hp25⟩:=H.fR 4 rfl
 have hsp:=hC.1.2.2.2.1
 have hus:=hC.1.1
 have hb1:=(J1 hC.1.2.2.2.2.2.1.2).1
 have hb2:=(J1 hC.1.2.2.2.2.2.2.1.2).1
 have hb3:=(J1 hC.1.2.2.2.2.2.2.2.1).1
 have hb4:=hC.1.2.2.1
 have hul:(BA C.J.us).length=C.J.us.length:=by simp [BA]
 refine enter Tryz.func42 U U (Nat.le_of_ble_eq_true U) (Aa (Ad (CT U U U U H (fun b26 w H=>(Dz U U U SR H (fun b27 w H=>(Ab (Z ?_))))))))
 replace H:Hd _ _ _ [blk b27 [.slice none 0 0,.int .i64 0,.slice none 0 0,.slice none 0 0,.slice none 0 0,.int .i64 0,.int .i64 0,.int .i64 0,.slice none 0 0,.int .i64 0,.int .i64 0,.int .i64 0] 28,blk b26 [.slice A1 C.J.us.length c2,.int .i64 C.J.parts,.slice A6 C.J.map.length c7,.slice A11 C.J.comb.length c12,.slice A16 C.J.red.length c17,.int .i64 C.J.chunk,.int .i64 C.J.window,.int .i64 C.J.fuel,.slice A21 C.J.marks.length c22,.int .i64 C.w,.int .i64 C.t,.int .i64 C.o] 28] [Ae (At Ag) (.slice A1 C.J.us.length c2) C.J.us,Ae Af (.slice A6 C.J.map.length c7) C.J.map,Ae Af (.slice A11 C.J.comb.length c12) C.J.comb,Ae Af (.slice A16 C.J.red.length c17) C.J.red,Ae (Ai .i64) (.slice A21 C.J.marks.length c22) C.J.marks]:=H
 refine Aa (Ad (V U U (Aj U DL U) (V U U (Aj U FO U) (V U U (An U F6 U (H.cellI 1 U U)) (sc (TJ (.slice A1 C.J.us.length c2) (BA C.J.us) (by simp only [BA,List.length_map];omega)) H (lX (fun F hA hR=>Vo (hR _ (List.mem_of_getElem? (i:=0) U))) l0) U U (Av Xn U U) ?_)))))
 rintro v28 _ w rfl H
 refine V U U (Aj U DL U) (V U U (Aj U FO U) ?_)
 obtain ⟨A29,c30,rfl,hc31,hm32,hp33⟩:=H.fA 0 rfl
 replace H:=H.p2
 refine Bx U U U F6 U U H U (Nat.le_of_ble_eq_true U) (fun u hu=>by simp [Value.cells] at hu;subst hu;rfl) (fun w H=>?_)
 replace H:Hd _ _ _ [blk b26 [.slice A29 ((BA C.J.us).length) c30,.int .i64 C.J.parts,.slice A6 C.J.map.length c7,.slice A11 C.J.comb.length c12,.slice A16 C.J.red.length c17,.int .i64 C.J.chunk,.int .i64 C.J.window,.int .i64 C.J.fuel,.slice A21 C.J.marks.length c22,.int .i64 C.w,.int .i64 C.t,.int .i64 C.o] 28,Y DM (.slice A29 ((BA C.J.us).length) c30) (BA C.J.us),blk b27 [.slice none 0 0,.int .i64 0,.slice none 0 0,.slice none 0 0,.slice none 0 0,.int .i64 0,.int .i64 0,.int .i64 0,.slice none 0 0,.int .i64 0,.int .i64 0,.int .i64 0] 28] [Ae (At Ag) (.slice A1 C.J.us.length c2) C.J.us,Ae Af (.slice A6 C.J.map.length c7) C.J.map,Ae Af (.slice A11 C.J.comb.length c12) C.J.comb,Ae Af (.slice A16 C.J.red.length c17) C.J.red,Ae (Ai .i64) (.slice A21 C.J.marks.length c22) C.J.marks]:=H
 refine Ab (Z (Aa (Aa (Ad (V U U (Aj U DL U) (V U U (Aj U FO U) (V U U (An U F6 U (H.cellI 0 U U)) (V U U (Bn U Gm U) (Ac U (Ab (Z (AX ?_))))))))))))
 replace H:=H.p1.h1 (A:=Y DM (.slice A29 ((BA C.J.us).length) c30) (BA ([]:List (Value×List Ap))++(BA C.J.us).drop 0))|>.big0 (fun u:Value×List Ap=>Y Ag u.1 u.2)|>.h1 (A:=Gx Ag ([]:List (Value×List Ap)))
 refine B1 (σ:=Nat×List (Value×List Ap)) (fun (i,zs)=>[(1,.pointer (some ⟨b26,0,none⟩)),(2,.pointer (some ⟨b27,0,none⟩)),(13,.slice A29 ((BA C.J.us).length) c30),(14,.int .i64 (((BA C.J.us).length:Nat):Int)),(15,.int .i64 ((i:Nat):Int))]) (fun (i,zs) w=>(Hd w0 F0 w [Gx Ag zs,Y DM (.slice A29 ((BA C.J.us).length) c30) (BA zs++(BA C.J.us).drop i),blk b26 [.slice A29 ((BA C.J.us).length) c30,.int .i64 C.J.parts,.slice A6 C.J.map.length c7,.slice A11 C.J.comb.length c12,.slice A16 C.J.red.length c17,.int .i64 C.J.chunk,.int .i64 C.J.window,.int .i64 C.J.fuel,.slice A21 C.J.marks.length c22,.int .i64 C.w,.int .i64 C.t,.int .i64 C.o] 28,blk b27 [.slice none 0 0,.int .i64 0,.slice none 0 0,.slice none 0 0,.slice none 0 0,.int .i64 0,.int .i64 0,.int .i64 0,.slice none 0 0,.int .i64 0,.int .i64 0,.int .i64 0] 28] [Ae (At Ag) (.slice A1 C.J.us.length c2) C.J.us,Ae Af (.slice A6 C.J.map.length c7) C.J.map,Ae Af (.slice A11 C.J.comb.length c12) C.J.comb,Ae Af (.slice A16 C.J.red.length c17) C.J.red,Ae (Ai .i64) (.slice A21 C.J.marks.length c22) C.J.marks])∧(zs.length=i∧zs.map (·.2)=(C.J.us.map (·.2)).take i)∧(i≤C.J.us.length)) (fun (i,zs)=>C.J.us.length - i) (0,[]) ⟨rfl,rfl,rfl,rfl,rfl,trivial⟩ ⟨H,⟨rfl,rfl⟩,Nat.zero_le _⟩ ?_
 rintro ⟨i,zs⟩ w ⟨H,hz,hi⟩
 refine Aa (Ad (V U U (Br U U U) (Ab (Z (Aa ?_)))))
 refine AC U (fun h34=>?_) (fun h34=>?_)
 ·refine AB (Z (Aa (AX (Aa ?_))))
  obtain ⟨⟨u37,x35⟩,hx36⟩:∃ z9,C.J.us[i]?=some z9:=⟨_,List.getElem?_eq_getElem (show i<C.J.us.length by omega)⟩
  obtain ⟨A38,c39,rfl,hc40,hm41⟩:=H.nestR 0 rfl hx36
  have hk42:=YZ (zs:=zs) hz.1 hx36
  have hxl:x35.length≤8:=(hsp _ (Cx hx36)).1
  refine Ad (Ac U ?_)
  have th43:=H.thA 1 rfl hk42
  refine V U U (Bi (p:=A_ A29+i*1) U G8 U U (by omega) (by omega) th43 U) (V U U (An U DG U (H.elA 1 U hk42 (q:=0) U U)) (Ah 2 U (Ab (Z ?_))))
  replace H:=H.p3.p3.p2
  refine Cc (.e 0 (.e 1 (.e 2 (.e 3 (.e 4 (.m 5 (.e 6 (.m 7 .z)))))))) (fun w=>∃ Ar,Hd w0 F0 w (Gx Ag zs::blk b26 [.slice A29 ((BA C.J.us).length) c30,.int .i64 C.J.parts,.slice A6 C.J.map.length c7,.slice A11 C.J.comb.length c12,.slice A16 C.J.red.length c17,.int .i64 C.J.chunk,.int .i64 C.J.window,.int .i64 C.J.fuel,.slice A21 C.J.marks.length c22,.int .i64 C.w,.int .i64 C.t,.int .i64 C.o] 28::blk b27 [.slice none 0 0,.int .i64 0,.slice none 0 0,.slice none 0 0,.slice none 0 0,.int .i64 0,.int .i64 0,.int .i64 0,.slice none 0 0,.int .i64 0,.int .i64 0,.int .i64 0] 28::Ar) [Ae (At Ag) (.slice A1 C.J.us.length c2) C.J.us,Ae Af (.slice A6 C.J.map.length c7) C.J.map,Ae Af (.slice A11 C.J.comb.length c12) C.J.comb,Ae Af (.slice A16 C.J.red.length c17) C.J.red,Ae (Ai .i64) (.slice A21 C.J.marks.length c22) C.J.marks]) mo (by kernel_rfl) (fun w H=>⟨_,H⟩) H (fun w H=>?_)
  refine Ao U U U (fun w ⟨Ar,H⟩=>Aj U DL U) (Ao U U U (fun w ⟨Ar,H⟩=>Aj U FO U) (Ao U U U (fun w ⟨Ar,H⟩=>An U F6 U (H.cellI 1 U U)) (Au U (Au U (AO U (sc (J8 (.slice A38 x35.length c39) x35 (by first |omega|decide|assumption)) H (lX (fun F hA hR=>KN (hR _ (List.mem_of_getElem? (i:=0) U)) hx36) l0) U U (Av KA U U) ?_))))))
  rintro v44 _ w rfl H
  replace H:=H.h1 (A:=Y Ag v44 x35)|>.p3|>.p3|>.p3
  refine AG ⟨_,H⟩ ?_
  have th45:=H.thA 4 rfl hk42
  refine Ao U U U (fun w ⟨Ar,H⟩=>Bi (p:=A_ A29+i*1) U G8 U U (by omega) (by omega) th45 U) (AO U ?_)
  obtain ⟨A46,c47,rfl,hc48,hm49,hp50⟩:=H.fA 3 rfl
  replace H:=H.p4
  refine G6 (i:=i) (a:=(⟨A46,x35.length,c47⟩:E3)) U U U DG U U U H (by simp only [List.length_append,List.length_drop,BA,List.length_map];omega) U (fun w H=>?_)
  replace H:Hd _ _ _ [Y DM (.slice A29 ((BA C.J.us).length) c30) ((BA zs++(BA C.J.us).drop i).set i (⟨A46,x35.length,c47⟩:E3)),Gx Ag zs,blk b26 [.slice A29 ((BA C.J.us).length) c30,.int .i64 C.J.parts,.slice A6 C.J.map.length c7,.slice A11 C.J.comb.length c12,.slice A16 C.J.red.length c17,.int .i64 C.J.chunk,.int .i64 C.J.window,.int .i64 C.J.fuel,.slice A21 C.J.marks.length c22,.int .i64 C.w,.int .i64 C.t,.int .i64 C.o] 28,blk b27 [.slice none 0 0,.int .i64 0,.slice none 0 0,.slice none 0 0,.slice none 0 0,.int .i64 0,.int .i64 0,.int .i64 0,.slice none 0 0,.int .i64 0,.int .i64 0,.int .i64 0] 28,Y Ag (.slice A46 x35.length c47) x35] [Ae (At Ag) (.slice A1 C.J.us.length c2) C.J.us,Ae Af (.slice A6 C.J.map.length c7) C.J.map,Ae Af (.slice A11 C.J.comb.length c12) C.J.comb,Ae Af (.slice A16 C.J.red.length c17) C.J.red,Ae (Ai .i64) (.slice A21 C.J.marks.length c22) C.J.marks]:=H
  replace H:=H.p3.p3.p3
  refine AG ⟨_,H⟩ (BN (Bb (Z (Ad (V U U (Be (z:=((i+1:Nat):Int)) U U U (by rw [AI (by omega) (by omega)];omega)) (Ac U (Ab ?_)))))))
  replace H:=H.p3.p1.p4.bigN (f:=fun u:Value×List Ap=>Y Ag u.1 u.2) (x:=(.slice A46 x35.length c47,x35))
  replace H:Hd w0 F0 w [Gx Ag (zs++[(.slice A46 x35.length c47,x35)]),Y DM (.slice A29 ((BA C.J.us).length) c30) (BA (zs++[(.slice A46 x35.length c47,x35)])++(BA C.J.us).drop (i+1)),blk b26 [.slice A29 ((BA C.J.us).length) c30,.int .i64 C.J.parts,.slice A6 C.J.map.length c7,.slice A11 C.J.comb.length c12,.slice A16 C.J.red.length c17,.int .i64 C.J.chunk,.int .i64 C.J.window,.int .i64 C.J.fuel,.slice A21 C.J.marks.length c22,.int .i64 C.w,.int .i64 C.t,.int .i64 C.o] 28,blk b27 [.slice none 0 0,.int .i64 0,.slice none 0 0,.slice none 0 0,.slice none 0 0,.int .i64 0,.int .i64 0,.int .i64 0,.slice none 0 0,.int .i64 0,.int .i64 0,.int .i64 0] 28] [Ae (At Ag) (.slice A1 C.J.us.length c2) C.J.us,Ae Af (.slice A6 C.J.map.length c7) C.J.map,Ae Af (.slice A11 C.J.comb.length c12) C.J.comb,Ae Af (.slice A16 C.J.red.length c17) C.J.red,Ae (Ai .i64) (.slice A21 C.J.marks.length c22) C.J.marks]:=by rw [←Y0 (x:=x35) hz.1 (by omega)];exact H
  exact Bo (s:=(i,zs)) (i+1,zs++[(.slice A46 x35.length c47,x35)]) ⟨rfl,rfl,rfl,rfl,rfl,trivial⟩ ⟨H,⟨by simp [hz.1],Y1 hz.2 hx36⟩,by (try dsimp only);omega⟩ (by (try dsimp only);omega)
 refine BW (A8 (A8 (BX (Z (Aa ?_)))))
 obtain rfl:i=C.J.us.length:=by omega
 replace H:=H.p1
 replace H:Hd w0 F0 w [Y DM (.slice A29 ((BA C.J.us).length) c30) (BA zs),Gx Ag zs,blk b26 [.slice A29 ((BA C.J.us).length) c30,.int .i64 C.J.parts,.slice A6 C.J.map.length c7,.slice A11 C.J.comb.length c12,.slice A16 C.J.red.length c17,.int .i64 C.J.chunk,.int .i64 C.J.window,.int .i64 C.J.fuel,.slice A21 C.J.marks.length c22,.int .i64 C.w,.int .i64 C.t,.int .i64 C.o] 28,blk b27 [.slice none 0 0,.int .i64 0,.slice none 0 0,.slice none 0 0,.slice none 0 0,.int .i64 0,.int .i64 0,.int .i64 0,.slice none 0 0,.int .i64 0,.int .i64 0,.int .i64 0] 28] [Ae (At Ag) (.slice A1 C.J.us.length c2) C.J.us,Ae Af (.slice A6 C.J.map.length c7) C.J.map,Ae Af (.slice A11 C.J.comb.length c12) C.J.comb,Ae Af (.slice A16 C.J.red.length c17) C.J.red,Ae (Ai .i64) (.slice A21 C.J.marks.length c22) C.J.marks]:=by rw [show BA zs=BA zs++(BA C.J.us).drop C.J.us.length by simp [BA]];exact H
 replace H:=H.hdI|>.h1 (A:=Y (At Ag) (.slice A29 ((BA C.J.us).length) c30) zs)
 have hsj:Bj ({ C.J with us:=zs }:AS) C.J:=⟨by rw [hz.2,List.take_of_length_le (by simp)],rfl⟩
 refine Tw (.e 0 (.e 1 (.e 2 (.e 4 (.e 5 (.e 6 (.e 8 (.e 9 (.e 10 (.m 3 (.e 12 (.e 13 (.m 7 (.m 11 (.w 14 (.e 15 (.e 16 (.m 17 (.e 18 (.e 19 (.m 20 .z))))))))))))))))))))) (fun w=>∃ Ar,Hd w0 F0 w (Y (At Ag) (.slice A29 ((BA C.J.us).length) c30) zs::blk b26 [.slice A29 ((BA C.J.us).length) c30,.int .i64 C.J.parts,.slice A6 C.J.map.length c7,.slice A11 C.J.comb.length c12,.slice A16 C.J.red.length c17,.int .i64 C.J.chunk,.int .i64 C.J.window,.int .i64 C.J.fuel,.slice A21 C.J.marks.length c22,.int .i64 C.w,.int .i64 C.t,.int .i64 C.o] 28::blk b27 [.slice none 0 0,.int .i64 0,.slice none 0 0,.slice none 0 0,.slice none 0 0,.int .i64 0,.int .i64 0,.int .i64 0,.slice none 0 0,.int .i64 0,.int .i64 0,.int .i64 0] 28::Ar) [Ae (At Ag) (.slice A1 C.J.us.length c2) C.J.us,Ae Af (.slice A6 C.J.map.length c7) C.J.map,Ae Af (.slice A11 C.J.comb.length c12) C.J.comb,Ae Af (.slice A16 C.J.red.length c17) C.J.red,Ae (Ai .i64) (.slice A21 C.J.marks.length c22) C.J.marks]) (fun w=>∃ Ar,Hd w0 F0 w Ar [Ae (At Ag) (.slice A1 C.J.us.length c2) C.J.us,Ae Af (.slice A6 C.J.map.length c7) C.J.map,Ae Af (.slice A11 C.J.comb.length c12) C.J.comb,Ae Af (.slice A16 C.J.red.length c17) C.J.red,Ae (Ai .i64) (.slice A21 C.J.marks.length c22) C.J.marks]) mo (by kernel_rfl) (fun w H=>⟨_,H⟩) H (fun w H=>?_)
 refine FR U U U (fun w ⟨Ar,H⟩=>Aj U DL U) (FR U U U (fun w ⟨Ar,H⟩=>Aj U L7 U) (FR U U U (fun w ⟨Ar,H⟩=>An U GL U (H.cellI 1 U U)) (FR U U U (fun w ⟨Ar,H⟩=>Aj U DL U) (FR U U U (fun w ⟨Ar,H⟩=>Aj U L8 U) (FR U U U (fun w ⟨Ar,H⟩=>An U GL U (H.cellI 1 U U)) (FR U U U (fun w ⟨Ar,H⟩=>Aj U DL U) (FR U U U (fun w ⟨Ar,H⟩=>Aj U Ko U) (FR U U U (fun w ⟨Ar,H⟩=>An U GL U (H.cellI 1 U U)) (Mi U (sc (LP (.slice A6 C.J.map.length c7) C.J.map (by first |omega|decide|assumption)) H (lR 1 U l0) U U (Av My U U) ?_))))))))))
 rintro v51 _ w rfl H
 replace H:=H.h1 (A:=Y Af v51 C.J.map)|>.p3|>.p3|>.p3
 refine Mh ⟨_,H⟩ (FR U U U (fun w ⟨Ar,H⟩=>Aj U DL U) (FR U U U (fun w ⟨Ar,H⟩=>Aj U L7 U) (Mi U (sc (LP (.slice A11 C.J.comb.length c12) C.J.comb (by first |omega|decide|assumption)) H (lR 2 U l0) U U (Av My U U) ?_))))
 rintro v52 _ w rfl H
 replace H:=H.h1 (A:=Y Af v52 C.J.comb)|>.p3|>.p3|>.p3
 refine Mh ⟨_,H⟩ (Mi U (sc (LP (.slice A16 C.J.red.length c17) C.J.red (by first |omega|decide|assumption)) H (lR 3 U l0) U U (Av My U U) ?_))
 rintro v53 _ w rfl H
 replace H:=H.h1 (A:=Y Af v53 C.J.red)|>.p3|>.p3|>.p3
 refine Mh ⟨_,H⟩ (U_ U ?_)
 obtain ⟨A54,c55,rfl,hc56,hm57,hp58⟩:=H.fA 5 rfl
 replace H:=H.p1
 refine Bx U U U GL U U H U (Nat.le_of_ble_eq_true U) (fun u hu=>by simp [Value.cells] at hu;subst hu;rfl) (fun w H=>?_)
 replace H:Hd _ _ _ [blk b26 [.slice A29 ((BA C.J.us).length) c30,.int .i64 C.J.parts,.slice A54 C.J.map.length c55,.slice A11 C.J.comb.length c12,.slice A16 C.J.red.length c17,.int .i64 C.J.chunk,.int .i64 C.J.window,.int .i64 C.J.fuel,.slice A21 C.J.marks.length c22,.int .i64 C.w,.int .i64 C.t,.int .i64 C.o] 28,Y (At Ag) (.slice A29 ((BA C.J.us).length) c30) zs,blk b27 [.slice none 0 0,.int .i64 0,.slice none 0 0,.slice none 0 0,.slice none 0 0,.int .i64 0,.int .i64 0,.int .i64 0,.slice none 0 0,.int .i64 0,.int .i64 0,.int .i64 0] 28,Y Af v53 C.J.red,Y Af v52 C.J.comb,Y Af (.slice A54 C.J.map.length c55) C.J.map] [Ae (At Ag) (.slice A1 C.J.us.length c2) C.J.us,Ae Af (.slice A6 C.J.map.length c7) C.J.map,Ae Af (.slice A11 C.J.comb.length c12) C.J.comb,Ae Af (.slice A16 C.J.red.length c17) C.J.red,Ae (Ai .i64) (.slice A21 C.J.marks.length c22) C.J.marks]:=H
 refine AG ⟨_,H⟩ (Ao U U U (fun w ⟨Ar,H⟩=>Aj U DL U) (Ao U U U (fun w ⟨Ar,H⟩=>Aj U L8 U) (AO U ?_)))
 obtain ⟨A59,c60,rfl,hc61,hm62,hp63⟩:=H.fA 4 rfl
 refine Bx U U U GL U U H U (Nat.le_of_ble_eq_true U) (fun u hu=>by simp [Value.cells] at hu;subst hu;rfl) (fun w H=>?_)
 replace H:Hd _ _ _ [blk b26 [.slice A29 ((BA C.J.us).length) c30,.int .i64 C.J.parts,.slice A54 C.J.map.length c55,.slice A59 C.J.comb.length c60,.slice A16 C.J.red.length c17,.int .i64 C.J.chunk,.int .i64 C.J.window,.int .i64 C.J.fuel,.slice A21 C.J.marks.length c22,.int .i64 C.w,.int .i64 C.t,.int .i64 C.o] 28,Y (At Ag) (.slice A29 ((BA C.J.us).length) c30) zs,blk b27 [.slice none 0 0,.int .i64 0,.slice none 0 0,.slice none 0 0,.slice none 0 0,.int .i64 0,.int .i64 0,.int .i64 0,.slice none 0 0,.int .i64 0,.int .i64 0,.int .i64 0] 28,Y Af v53 C.J.red,Y Af (.slice A59 C.J.comb.length c60) C.J.comb,Y Af (.slice A54 C.J.map.length c55) C.J.map] [Ae (At Ag) (.slice A1 C.J.us.length c2) C.J.us,Ae Af (.slice A6 C.J.map.length c7) C.J.map,Ae Af (.slice A11 C.J.comb.length c12) C.J.comb,Ae Af (.slice A16 C.J.red.length c17) C.J.red,Ae (Ai .i64) (.slice A21 C.J.marks.length c22) C.J.marks]:=H
 refine AG ⟨_,H⟩ (Ao U U U (fun w ⟨Ar,H⟩=>Aj U DL U) (Ao U U U (fun w ⟨Ar,H⟩=>Aj U Ko U) (AO U ?_)))
 obtain ⟨A64,c65,rfl,hc66,hm67,hp68⟩:=H.fA 3 rfl
 refine Bx U U U GL U U H U (Nat.le_of_ble_eq_true U) (fun u hu=>by simp [Value.cells] at hu;subst hu;rfl) (fun w H=>?_)
 replace H:Hd _ _ _ [blk b26 [.slice A29 ((BA C.J.us).length) c30,.int .i64 C.J.parts,.slice A54 C.J.map.length c55,.slice A59 C.J.comb.length c60,.slice A64 C.J.red.length c65,.int .i64 C.J.chunk,.int .i64 C.J.window,.int .i64 C.J.fuel,.slice A21 C.J.marks.length c22,.int .i64 C.w,.int .i64 C.t,.int .i64 C.o] 28,Y (At Ag) (.slice A29 ((BA C.J.us).length) c30) zs,blk b27 [.slice none 0 0,.int .i64 0,.slice none 0 0,.slice none 0 0,.slice none 0 0,.int .i64 0,.int .i64 0,.int .i64 0,.slice none 0 0,.int .i64 0,.int .i64 0,.int .i64 0] 28,Y Af (.slice A64 C.J.red.length c65) C.J.red,Y Af (.slice A59 C.J.comb.length c60) C.J.comb,Y Af (.slice A54 C.J.map.length c55) C.J.map] [Ae (At Ag) (.slice A1 C.J.us.length c2) C.J.us,Ae Af (.slice A6 C.J.map.length c7) C.J.map,Ae Af (.slice A11 C.J.comb.length c12) C.J.comb,Ae Af (.slice A16 C.J.red.length c17) C.J.red,Ae (Ai .i64) (.slice A21 C.J.marks.length c22) C.J.marks]:=H
 refine AG ⟨_,H⟩ (BN (Z (Aa (Ad (V U U (Aj U DL U) (V U U (Aj U Kp U) (V U U (An U DY U (H.cellI 0 U U)) (sc (I_ (.slice A21 C.J.marks.length c22) C.J.marks (by first |omega|decide|assumption)) H (lR 4 U l0) U U (Av Jo U U) ?_))))))))
 rintro v69 _ w rfl H
 refine V U U (Aj U DL U) (V U U (Aj U Kp U) ?_)
 obtain ⟨A70,c71,rfl,hc72,hm73,hp74⟩:=H.fA 0 rfl
 replace H:=H.p1
 refine Bx U U U DY U U H U (Nat.le_of_ble_eq_true U) (fun u hu=>by simp [Value.cells] at hu;subst hu;rfl) (fun w H=>?_)
 replace H:Hd _ _ _ [blk b26 [.slice A29 ((BA C.J.us).length) c30,.int .i64 C.J.parts,.slice A54 C.J.map.length c55,.slice A59 C.J.comb.length c60,.slice A64 C.J.red.length c65,.int .i64 C.J.chunk,.int .i64 C.J.window,.int .i64 C.J.fuel,.slice A70 C.J.marks.length c71,.int .i64 C.w,.int .i64 C.t,.int .i64 C.o] 28,Y (Ai .i64) (.slice A70 C.J.marks.length c71) C.J.marks,Y (At Ag) (.slice A29 ((BA C.J.us).length) c30) zs,blk b27 [.slice none 0 0,.int .i64 0,.slice none 0 0,.slice none 0 0,.slice none 0 0,.int .i64 0,.int .i64 0,.int .i64 0,.slice none 0 0,.int .i64 0,.int .i64 0,.int .i64 0] 28,Y Af (.slice A64 C.J.red.length c65) C.J.red,Y Af (.slice A59 C.J.comb.length c60) C.J.comb,Y Af (.slice A54 C.J.map.length c55) C.J.map] [Ae (At Ag) (.slice A1 C.J.us.length c2) C.J.us,Ae Af (.slice A6 C.J.map.length c7) C.J.map,Ae Af (.slice A11 C.J.comb.length c12) C.J.comb,Ae Af (.slice A16 C.J.red.length c17) C.J.red,Ae (Ai .i64) (.slice A21 C.J.marks.length c22) C.J.marks]:=H
 refine Ab (Z (Aa (Ad (V U U (BD (cs:=[.slice A29 ((BA C.J.us).length) c30,.int .i64 C.J.parts,.slice A54 C.J.map.length c55,.slice A59 C.J.comb.length c60,.slice A64 C.J.red.length c65,.int .i64 C.J.chunk,.int .i64 C.J.window,.int .i64 C.J.fuel,.slice A70 C.J.marks.length c71,.int .i64 C.w,.int .i64 C.t,.int .i64 C.o]) U EY U U (H.cellsI 0 U U)) ?_))))
 replace H:=H.p3
 refine Bx U U U EY U U H U (Nat.le_of_ble_eq_true U) (fun u hu=>by simp [Value.cells] at hu;rcases hu with rfl|rfl|rfl|rfl|rfl|rfl|rfl|rfl|rfl|rfl|rfl|rfl<;>rfl) (fun w H=>?_)
 replace H:=H.h1 (A:=blk b27 [.slice A29 ((BA C.J.us).length) c30,.int .i64 C.J.parts,.slice A54 C.J.map.length c55,.slice A59 C.J.comb.length c60,.slice A64 C.J.red.length c65,.int .i64 C.J.chunk,.int .i64 C.J.window,.int .i64 C.J.fuel,.slice A70 C.J.marks.length c71,.int .i64 C.w,.int .i64 C.t,.int .i64 C.o] 28)
 refine Ab (Z (Am (FB (cs:=[.slice A29 ((BA C.J.us).length) c30,.int .i64 C.J.parts,.slice A54 C.J.map.length c55,.slice A59 C.J.comb.length c60,.slice A64 C.J.red.length c65,.int .i64 C.J.chunk,.int .i64 C.J.window,.int .i64 C.J.fuel,.slice A70 C.J.marks.length c71,.int .i64 C.w,.int .i64 C.t,.int .i64 C.o]) U U EY U (H.cellsI 0 U U) ?_)))
 replace H:=H.p2.p4.p5.p6.p6.k5
 exact Al ⟨({ C.J with us:=zs }:AS),(.slice A29 ((BA C.J.us).length) c30),(.slice A54 C.J.map.length c55),(.slice A59 C.J.comb.length c60),(.slice A64 C.J.red.length c65),(.slice A70 C.J.marks.length c71),rfl,rfl,hsj⟩ H
def BP (d:Nat) (db:List UInt8) (dn:Nat):SP:=ex fun dv:Value=>BV [BT (True),blk d [dv,.int .i64 ((dn:Nat):Int)] 109,Y AP dv db]
theorem Iq (d:Nat) (db:List UInt8) (dn:Nat) {w0 w:World} {F0:AU} {As Rs:List SP} (H:Hd w0 F0 w (BP d db dn::As) Rs):∃ dv:Value,(True)∧Hd w0 F0 w ([blk d [dv,.int .i64 ((dn:Nat):Int)] 109,Y AP dv db]++As) Rs:=by
 obtain ⟨dv,H⟩:=Hd.exA H
 exact ⟨dv,H.stA.puA⟩
theorem HM (d:Nat) (db:List UInt8) (dn:Nat) (dv:Value) {w0 w:World} {F0:AU} {As Rs:List SP} (hp:True) (H:Hd w0 F0 w ([blk d [dv,.int .i64 ((dn:Nat):Int)] 109,Y AP dv db]++As) Rs):Hd w0 F0 w (BP d db dn::As) Rs:=by
 have H1:=(show Hd w0 F0 w ([BT (True),blk d [dv,.int .i64 ((dn:Nat):Int)] 109,Y AP dv db]++As) Rs from H.puI hp).stI
 replace H1:=Hd.exI (A:=fun dv:Value=>BV [BT (True),blk d [dv,.int .i64 ((dn:Nat):Int)] 109,Y AP dv db]) dv H1
 exact H1
theorem TI (vxs:Value) (xs:List UInt8) (hb:xs.length≤1000000):
    Cn Tryz.prog 53 [vxs] [] [Ae AP vxs xs] (fun v Bs=>Bs=[Y AP v xs]):=by
 intro w0 F0 H
 obtain ⟨A1,c2,rfl,hc3,hm4,hp5⟩:=H.fR 0 rfl
 refine enter Tryz.func53 U U (Nat.le_of_ble_eq_true U) (Aa (Ad (Ac U (Ab (Z ?_)))))
 replace H:Hd _ _ _ [] [Ae AP (.slice A1 xs.length c2) xs]:=H
 refine Aa (Aa (Ad (Ac U (V U U (JC U Fe U U) (Ab (Z ?_))))))
 refine Dx (b:=(A1:Option Addr).isNone) U (fun h6=>?_) (fun h6=>?_)
 ·refine Aa (Ad (Ac U (Ab (Z (Am (Az (Aq U U ?_)))))))
  obtain rfl:=H.nilR 0 rfl h6
  replace H:=H.newnil AP
  exact Al U H
 refine AB (Z (Aa (Ad (JI U U U FY H (fun b7 w H=>(Ac U ?_))))))
 replace H:=H.newnilA AP (some ⟨b7,0,none⟩)
 refine CA (xs:=[]) (ys:=xs) U U U FY I5 U (by decide) U U H (by simp only [List.length_nil];omega) (fun F hA hR=>hR _ (List.mem_of_getElem? (i:=0) U)) (fun v8 w H=>?_)
 replace H:=H.h2 (A:=Y AP v8 ([]++xs)) (B:=blk b7 [] 5)
 refine Ac U (Ab (Z (Am (Aq U U ?_))))
 rw [List.nil_append] at H
 replace H:=H.k1
 exact Al U H
theorem Ue  :
    Cn Tryz.prog 43 [] [] [] (fun v Bs=>∃ d:Nat,v=.pointer (some ⟨d,0,none⟩)∧Bs=[BP d [] 0]):=by
 intro w0 F0 H
 refine enter Tryz.func43 U U (Nat.le_of_ble_eq_true U) (Aa (Ad (Ac U (Ab (Z (Aa (Ad (V U U (Di (parts:=[]) (vs:=[]) (cs:=[.slice none 0 0,.int .i64 0]) U S7 U U) (CT U U U U H (fun b1 w H=>(Ac U (Ab (Z ?_)))))))))))))
 replace H:Hd _ _ _ [blk b1 [.slice none 0 0,.int .i64 0] 109] []:=H
 refine Am (Aq U U ?_)
 replace H:=H.newnil AP|>.p1
 replace H:=HM b1 [] 0 (.slice none 0 0) trivial H
 replace H:=H.h1 (A:=BP b1 [] 0)
 exact Al ⟨b1,rfl,rfl⟩ H
theorem Ub (d:Nat) (db:List UInt8) (dn:Nat) (vb:Value) (bs:List UInt8) (hd:db.length≤1000000) (hbl:bs.length≤1000000):
    Cn Tryz.prog 78 [.pointer (some ⟨d,0,none⟩),vb] [BP d db dn] [Ae AP vb bs] (fun v Bs=>v=.tuple #[]∧Bs=[BP d (db++bs) dn]):=by
 intro w0 F0 H
 obtain ⟨A1,c2,rfl,hc3,hm4,hp5⟩:=H.fR 0 rfl
 replace H:Hd _ _ _ [BP d db dn] [Ae AP (.slice A1 bs.length c2) bs]:=H
 obtain ⟨dv6,_,H⟩:=Iq d db dn H
 replace H:=H.h2 (A:=blk d [dv6,.int .i64 ((dn:Nat):Int)] 109) (B:=Y AP dv6 db)
 obtain ⟨A7,c8,rfl,hc9,hm10,hp11⟩:=H.fA 1 rfl
 refine enter Tryz.func78 U U (Nat.le_of_ble_eq_true U) (Aa (Ad (Ac U (V U U (Hz U Id U U) (Ab (Z (Ct U (Ad (Ah 2 U (V U U (AH U U) (V U U (Aj U Hm U) (V U U (An U Gl U (H.cellI 0 U U)) (Ac U ?_)))))))))))))
 replace H:=H.p1
 refine CA (xs:=db) (ys:=bs) U U U FY I5 U (by decide) U U H (by first |omega|(simp only [List.length_append,List.length_cons,List.length_nil];omega)) (fun F hA hR=>hR _ (List.mem_of_getElem? (i:=0) U)) (fun v12 w H=>(V U U (AH U U) (V U U (Aj U Hm U) ?_)))
 obtain ⟨A13,c14,rfl,hc15,hm16,hp17⟩:=H.fA 0 rfl
 replace H:=H.p1
 refine Bx U U U Gl U U H U (Nat.le_of_ble_eq_true U) (fun u hu=>by simp [Value.cells] at hu;subst hu;rfl) (fun w H=>?_)
 replace H:Hd _ _ _ [blk d [.slice A13 ((db++bs).length) c14,.int .i64 ((dn:Nat):Int)] 109,Y AP (.slice A13 ((db++bs).length) c14) (db++bs)] [Ae AP (.slice A1 bs.length c2) bs]:=H
 refine Ab (DX U ?_)
 replace H:=HM d (db++bs) dn (.slice A13 ((db++bs).length) c14) trivial H
 replace H:=H.h1 (A:=BP d (db++bs) dn)
 exact Al ⟨rfl,rfl⟩ H
theorem Uf (d:Nat) (db:List UInt8) (dn:Nat):
    Cn Tryz.prog 45 [.pointer (some ⟨d,0,none⟩)] [BP d db dn] [] (fun v Bs=>v=.tuple #[]∧Bs=[BP d db db.length]):=by
 intro w0 F0 H
 obtain ⟨dv1,_,H⟩:=Iq d db dn H
 replace H:Hd _ _ _ [blk d [dv1,.int .i64 ((dn:Nat):Int)] 109,Y AP dv1 db] []:=H
 obtain ⟨A2,c3,rfl,hc4,hm5,hp6⟩:=H.fA 1 rfl
 refine enter Tryz.func45 U U (Nat.le_of_ble_eq_true U) (Aa (Ad (Ac U (V U U (Hz U Id U U) (Ab (Z (Ct U (Ad (Ah 2 U (V U U (AH U U) (V U U (Aj U Hm U) (V U U (An U Gl U (H.cellI 0 U U)) (V U U (Bn U Fe U) (V U U (AH U U) (V U U (Aj U Kl U) (Bx U U U AE U U H U (Nat.le_of_ble_eq_true U) (fun u hu=>by simp [Value.cells] at hu;subst hu;rfl) (fun w H=>?_)))))))))))))))))
 replace H:=H.h1 (A:=blk d [.slice A2 db.length c3,.int .i64 ((db.length:Nat):Int)] 109)
 refine Ab (DX U ?_)
 replace H:=HM d db db.length (.slice A2 db.length c3) trivial H
 replace H:=H.h1 (A:=BP d db db.length)
 exact Al ⟨rfl,rfl⟩ H
theorem Ug (d:Nat) (db:List UInt8) (dn:Nat):
    Cn Tryz.prog 30 [.pointer (some ⟨d,0,none⟩)] [BP d db dn] [] (fun v Bs=>v=.int .i64 ((dn:Nat):Int)∧Bs=[BP d db dn]):=by
 intro w0 F0 H
 obtain ⟨dv1,_,H⟩:=Iq d db dn H
 replace H:Hd _ _ _ [blk d [dv1,.int .i64 ((dn:Nat):Int)] 109,Y AP dv1 db] []:=H
 obtain ⟨A2,c3,rfl,hc4,hm5,hp6⟩:=H.fA 1 rfl
 refine enter Tryz.func30 U U (Nat.le_of_ble_eq_true U) (Aa (Ad (Ac U (Ab (Z (Aa (Aa (Ad (Ac U (V U U (C1 U Id U U) (Ab (Z (Cq U (AB (Z (Aa (Ad (Ac U (V U U (AH U U) (V U U (Aj U Kl U) (V U U (An U AE U (H.cellI 0 U U)) (Ac U (Ab (Z (Am (Aq U U ?_))))))))))))))))))))))))))
 replace H:=HM d db dn (.slice A2 db.length c3) trivial H
 replace H:=H.h1 (A:=BP d db dn)
 exact Al ⟨rfl,rfl⟩ H
theorem Uh (d:Nat) (db:List UInt8) (dn:Nat) (hdn:dn≤db.length∧db.length≤1000000):
    Cn Tryz.prog 24 [.pointer (some ⟨d,0,none⟩)] [BP d db dn] [] (fun v Bs=>v=.int .i64 (((db.length:Nat):Int) - ((dn:Nat):Int))∧Bs=[BP d db dn]):=by
 intro w0 F0 H
 obtain ⟨dv1,_,H⟩:=Iq d db dn H
 replace H:Hd _ _ _ [blk d [dv1,.int .i64 ((dn:Nat):Int)] 109,Y AP dv1 db] []:=H
 obtain ⟨A2,c3,rfl,hc4,hm5,hp6⟩:=H.fA 1 rfl
 refine enter Tryz.func24 U U (Nat.le_of_ble_eq_true U) (Aa (Ad (Ac U (Ab (Z (Aa (Aa (Ad (Ac U (V U U (C1 U Id U U) (Ab (Z (Cq U (AB (Z (Aa (GP mo (by kernel_rfl) H (Em U (BH U U (fun w H=>AH U U) (BH U U (fun w H=>Aj U Hm U) (BH U U (fun w H=>An U Gl U (H.cellI 0 U U)) (BH U U (fun w H=>Bn U Fe U) (Em U (BH U U (fun w H=>AH U U) (BH U U (fun w H=>Aj U Kl U) (BH U U (fun w H=>An U AE U (H.cellI 0 U U)) (BH U U (fun w H=>CK (z:=((db.length:Nat):Int) - ((dn:Nat):Int)) U U U (AI (by omega) (by omega))) (Em U (Ha (fun w H=>(Z (Am (Aq U U ?_)))))))))))))))))))))))))))))))))
 replace H:=HM d db dn (.slice A2 db.length c3) trivial H
 replace H:=H.h1 (A:=BP d db dn)
 exact Al ⟨rfl,rfl⟩ H
theorem Ud (d:Nat) (db:List UInt8) (dn:Nat) (m:Nat) (hm:m≤db.length∧db.length≤1000000):
    Cn Tryz.prog 75 [.pointer (some ⟨d,0,none⟩),.int .i64 ((m:Nat):Int)] [BP d db dn] [] (fun v Bs=>v=.bool true∧Bs=[BP d (db.take m) m]):=by
 intro w0 F0 H
 obtain ⟨dv1,_,H⟩:=Iq d db dn H
 replace H:Hd _ _ _ [blk d [dv1,.int .i64 ((dn:Nat):Int)] 109,Y AP dv1 db] []:=H
 obtain ⟨A2,c3,rfl,hc4,hm5,hp6⟩:=H.fA 1 rfl
 refine enter Tryz.func75 U U (Nat.le_of_ble_eq_true U) (Aa (Ad (Ac U (Ab (Z (Aa (Aa (Ad (Ac U (V U U (C1 U Id U U) (Ah 2 U (V U U (Br U U U) (Ah 2 U ?_)))))))))))))
 refine AR (d:=11) U (fun h7=>?_) (fun h7=>?_)
 ·exfalso;omega
 refine Ah 2 U (V U U (AH U U) (V U U (Aj U Hm U) (V U U (An U Gl U (H.cellI 0 U U)) (V U U (Bn U Fe U) (V U U (CW U U U) (Ac U (Ab (Z ?_))))))))
 refine AC U (fun h8=>?_) (fun h8=>?_)
 ·exfalso;omega
 refine AB (Z (Aa (Ad (Ah 3 U (V U U (AH U U) (V U U (Aj U Hm U) (V U U (An U Gl U (H.cellI 0 U U)) (Ac U (V U U (KZ U FY U U (by omega) (by omega) U) (Ac U (V U U (AH U U) (V U U (Aj U Hm U) (Bx U U U Gl U U H U (Nat.le_of_ble_eq_true U) (fun u hu=>by simp [Value.cells] at hu;subst hu;rfl) (fun w H=>?_))))))))))))))
 replace H:=H.h1 (A:=blk d [.slice A2 m c3,.int .i64 ((dn:Nat):Int)] 109)
 refine V U U (AH U U) (V U U (Aj U Kl U) (Bx U U U AE U U H U (Nat.le_of_ble_eq_true U) (fun u hu=>by simp [Value.cells] at hu;subst hu;rfl) (fun w H=>?_)))
 replace H:=H.h1 (A:=blk d [.slice A2 m c3,.int .i64 ((m:Nat):Int)] 109)
 refine Ab (Z (Aa (Ad (Ac U (Ab (Z (Am (Aq U U ?_))))))))
 replace H:=H.p1.cutO (i:=m) (by omega)|>.h1 (A:=Y AP (.slice A2 m c3) (db.take m))|>.p1
 replace H:=HM d (db.take m) m (.slice A2 m c3) trivial H
 replace H:=H.h1 (A:=BP d (db.take m) m)
 exact Al ⟨rfl,rfl⟩ H
theorem Uc (d:Nat) (db:List UInt8) (dn:Nat) (hd:db.length≤1000000):
    Cn Tryz.prog 26 [.pointer (some ⟨d,0,none⟩)] [BP d db dn] [] (fun v Bs=>Bs=[Y AP v db,BP d db dn]):=by
 intro w0 F0 H
 obtain ⟨dv1,_,H⟩:=Iq d db dn H
 replace H:Hd _ _ _ [blk d [dv1,.int .i64 ((dn:Nat):Int)] 109,Y AP dv1 db] []:=H
 obtain ⟨A2,c3,rfl,hc4,hm5,hp6⟩:=H.fA 1 rfl
 refine enter Tryz.func26 U U (Nat.le_of_ble_eq_true U) (Aa (Ad (Ac U (Ab (Z (Aa (Aa (Ad (Ac U (V U U (C1 U Id U U) (Ab (Z (Cq U (AB (Z (Aa (Ad (Ac U (V U U (AH U U) (V U U (Aj U Hm U) (V U U (An U Gl U (H.cellI 0 U U)) (sc (TI (.slice A2 db.length c3) db (by first |assumption|omega)) H (lA 1 U B3 l0) U U (Av Xk U U) ?_))))))))))))))))))))))
 rintro v7 _ w rfl H
 replace H:=H.h1 (A:=Y AP v7 db)
 refine Ac U (Ab (Z (Am (Aq U U ?_))))
 replace H:=H.p2.p2
 replace H:=HM d db dn (.slice A2 db.length c3) trivial H
 replace H:=H.h1 (A:=BP d db dn)|>.p1
 exact Al U H
theorem QT (n:Nat) (p ep:Int):C3 n (C9 n p ep [])=[]:=by
 unfold C3
 rw [List.filter_eq_nil_iff.2 fun i _=>by show ¬ (JL.merged=true);decide]
 rfl
theorem Vp {D:By} {J:AS} (hJ:1≤J.us.length) (p:Int):Ge D J (C9 J.us.length p 1 [])=⟨0,0,⟨6,0,0,p,0,0,1,0,[],[]⟩⟩:=by
 unfold Ge
 rw [PL]
 ·rw [QT];rfl
 ·unfold DV
  rw [QT,if_pos (show ([]:List Int).length<J.us.length from hJ)]
  decide
theorem eZ {D:By} {C:Cf} {W:Fs} (h:W.over=false):Ec D C W=W.ts.flatMap (EN D C)++W.rs.map (Ge D C.J):=by
 unfold Ec
 rw [if_neg (by rw [h];decide)]
/-! ### A worker as records in plain lists tell -/
def IP (r:Ba):AW:=⟨r.kind,r.part,r.sp,r.att,r.why,KO,r.set,KO,r.pairs⟩
def E1 (C:Cf) (id:Int) (rs:List Ba):Fs:=GC C id (rs.map IP)
theorem OD:∀ recs:List AW,cnt CM ((recs.map AW.p).map IP)=cnt CM recs
 |[]=>rfl
 |r::recs=>by
  have ih:=OD recs
  have e:CM (IP (AW.p r))=CM r:=rfl
  unfold cnt at ih ⊢
  rw [List.map_cons,List.map_cons,List.filter_cons,List.filter_cons,e]
  split
  ·rw [List.length_cons,List.length_cons,ih]
  ·exact ih
theorem aC (rs:List Ba):(rs.map IP).map AW.p=rs:=by
 rw [List.map_map]
 exact List.map_id'' (fun r=>rfl) rs
theorem Yt (C:Cf) (id:Int) {recs:List AW} {rs:List Ba} (h:recs.map AW.p=rs):GC C id recs=E1 C id rs:=by
 subst h
 have e:GT recs=GT ((recs.map AW.p).map IP):=by unfold GT;rw [OD]
 unfold E1 GC Ev
 rw [←e,aC]
theorem Yu {A B:Cf} (h:D0 A B) (id:Int) (recs:List AW):GC A id recs=GC B id recs:=by
 unfold GC Ev FS
 simp only [h.home,h.J.len,h.J.parts]
theorem fF {A B:Cf} (h:D0 A B) (id:Int) (rs:List Ba):E1 A id rs=E1 B id rs:=Yu h id _
theorem fE (C:Cf) (id:Int) (n:Nat):(E1 C id (Ey n)).ep=((n+1:Nat):Int):=by
 show GT ((Ey n).map IP)=_
 unfold Ey
 rw [List.map_replicate]
 exact XF n
theorem D0.pushL {A B:Cf} (h:D0 A B):X.pushL A=X.pushL B:=by
 funext m
 unfold X.pushL
 rw [h.home]
theorem D0.tells {A B:Cf} (h:D0 A B) (D:By) (M:Cu):EN D A M=EN D B M:=by
 unfold EN G3
 rw [h.J.doneL,M6 h.J,h.pushL]
theorem D0.wake {A B:Cf} (h:D0 A B) (D:By) (W:Fs):Ec D A W=Ec D B W:=by
 unfold Ec
 have h1:EN D A=EN D B:=funext (h.tells D)
 have h2:Ge D A.J=Ge D B.J:=by funext R;unfold Ge;rw [h.J.hello]
 rw [h1,h2]
theorem O6 {α β:Type} {f:α→List β} {k:Nat}:∀ {l:List α},(∀ x∈l,(f x).length≤k)→(l.flatMap f).length≤k*l.length
 |[],_=>Nat.zero_le _
 |x::l,h=>by
  have h1:=O6 (f:=f) (k:=k) (l:=l) fun y hy=>h y (List.mem_cons_of_mem _ hy)
  have h2:=h x (List.mem_cons_self ..)
  rw [List.flatMap_cons,List.length_append,List.length_cons,Nat.mul_add]
  omega
theorem eY {D:By} {C:Cf} {W:Fs} (hWt:∀ M∈W.ts,GE M) (hl:W.ts.length≤1000∧W.rs.length≤1000) {zs:List (Bk BB)} (hz:zs.map BZ=Ec D C W):zs.length≤10000000:=by
 have h1:=O6 (f:=EN D C) (k:=4001) (l:=W.ts) fun M hM=>Sn (hWt M hM)
 rw [←List.length_map (f:=BZ),hz]
 unfold Ec
 split
 ·exact Nat.zero_le _
 ·rw [List.length_append,List.length_map]
  omega
/-! ### A node -/
structure Da where
 id:Int
 up:Bool
 b:List UInt8
 n:Nat
 held:List EQ
 W:Fs
def Hi (b:List UInt8):List UInt8:=b.take (CN b).2.toNat++Fm [FT]
def Ov (C:Cf) (N:Da):Da:={ N with up:=true,b:=Hi N.b,n:=(CN N.b).2.toNat,W:=E1 C N.id (CN N.b).1 }
def Fb (C:Cf) (id:Int):Da:=Ov C ⟨id,true,[],0,[],⟨0,[],[],false⟩⟩
def GX (id:Int) (x:EQ):EQ:={ x with fr:=id }
def FD (N:Da) (l:List EQ):Da:=if N.n<N.b.length then { N with held:=N.held++l.map (GX N.id) } else { N with held:=[] }
def HZ (N:Da) (l:List EQ):List EQ:=if N.n<N.b.length then [] else N.held++l.map (GX N.id)
def Gk (N:Da):Da:={ N with n:=N.b.length }
def Iu (N:Da):Da:={ N with n:=N.b.length,held:=[] }
theorem UQ (N:Da):FD (Gk N) []=Iu N:=if_neg (Nat.lt_irrefl _)
theorem UP (N:Da):HZ (Gk N) []=N.held:=by
 show (if N.b.length<N.b.length then [] else N.held++[])=N.held
 rw [if_neg (Nat.lt_irrefl _),List.append_nil]
theorem Tp (s:Nat):Hi (Cw (Ey s))=Cw (Ey (s+1))∧(CN (Cw (Ey s))).2.toNat=64*s∧(CN (Cw (Ey s))).1=Ey s:=by
 have h:=Z5 (XI s)
 have h2:(CN (Cw (Ey s))).2.toNat=64*s:=by rw [h,Int.toNat_natCast,KB]
 refine ⟨?_,h2,by rw [h]⟩
 unfold Hi
 rw [h2,←KB s,List.take_length]
 exact XA s
structure HJ (s:Nat) (N:Da):Prop where
 up:N.up=true
 b:N.b=Cw (Ey (s+1))
 n:N.n=64*s
 ep:N.W.ep=((s+1:Nat):Int)
 held:N.held=[]
theorem HJ.len {s:Nat} {N:Da} (h:HJ s N):N.b.length=64*(s+1):=by rw [h.b,KB]
theorem HJ.ok {s:Nat} {N:Da} (h:HJ s N) (hs:s≤20):(N.n≤N.b.length∧N.b.length≤90000)∧N.held.length≤0:=by
 have h1:=h.len
 have h2:=h.n
 rw [h.held]
 exact ⟨by omega,Nat.le_refl _⟩
theorem XH (C:Cf) {s:Nat} {N:Da} (h:N.b=Cw (Ey s)) (hh:N.held=[]):HJ s (Ov C N):=by
 obtain ⟨h1,h2,h3⟩:=Tp s
 refine ⟨rfl,?_,?_,?_,hh⟩
 ·show Hi N.b=_;rw [h];exact h1
 ·show (CN N.b).2.toNat=_;rw [h];exact h2
 ·show (E1 C N.id (CN N.b).1).ep=_;rw [h,h3];exact fE C N.id s
theorem Qz (C:Cf) (id:Int):HJ 0 (Fb C id):=XH C rfl rfl
/-! ### Letters from it -/
def CJ (id:Int) (m:Bk BB):Bk BB:=⟨⟨id,m.h.to,m.h.m⟩,m.sv,m.set,m.pv,m.pairs⟩
theorem PC (id:Int) (zs:List (Bk BB)):(zs.map (CJ id)).map BZ=(zs.map BZ).map (GX id):=by
 rw [List.map_map,List.map_map];rfl
theorem So (id:Int) (zs:List (Bk BB)):BC (zs.map (CJ id))=BC zs:=by
 unfold BC BK
 rw [List.map_map]
 rfl
theorem QG {zs:List (Bk BB)} {k:Nat} {x:Dg BB} (hx:(zs.map A9)[k]?=some x):∃ m,zs[k]?=some m∧x=A9 m:=by
 rw [List.getElem?_map] at hx
 obtain ⟨m,hm,rfl⟩:=Option.map_eq_some_iff.1 hx
 exact ⟨m,hm,rfl⟩
/-! ### A small one -/
def EG:List B7:=[⟨0,0,⟨#[]⟩⟩]
theorem PP:∀ i∈EG,AL i.a:=Vz
def Ce:Cf:=⟨⟨[(FW,[])],1,EG,[],EG,1,1,1,[]⟩,1,2,3⟩
theorem Nv:DE Ce:=by
 refine ⟨⟨(show 1≤((1:Nat):Int)∧((1:Nat):Int)≤6 by decide),(show (1:Int)≤1∧(1:Int)≤4 by decide),(show 0≤4 by decide),?_,?_,(show 0<EG.length∧DQ EG<0 by decide+kernel),(show 0<EG.length∧DQ EG<0 by decide+kernel),(show DQ []<0 by decide+kernel),
  (show (1:Int)≤1∧(1:Int)≤7 by decide),(show (1:Int)≤1∧(1:Int)≤4 by decide),(show (1:Int)≤1∧(1:Int)≤2000 by decide)⟩,(show (1:Int)≤1∧(1:Int)≤4 by decide),(show (1:Int)≤2∧(2:Int)≤3 by decide),(show (1:Int)≤3∧(3:Int)≤50 by decide)⟩
 ·intro x hx
  rw [List.mem_singleton.1 hx]
  show Hw []
  decide
 ·show GY ((1:Nat):Int) 0 []
  decide
theorem cI:Df Ce.J:=⟨Nv.1,PP,(fun i h=>by cases h),PP⟩
theorem bK:DR Ce 0=1:=by
 unfold DR
 rw [if_neg (fun h=>h.elim (fun g=>g Nv) (fun g=>g ⟨by decide,show (0:Int)≤1 - 1 by decide⟩))]
 rfl
theorem R9:E1 Ce 1 []=⟨1,[C9 1 0 1 []],[],false⟩:=by
 have h:FS Ce 1 1=[0]:=by
  rw [PO (k:=0) bK]
  rfl
 show (⟨1,Ev Ce 1 [] 1,[],false⟩:Fs)=_
 unfold Ev
 rw [h]
 rfl
theorem bM (D:By):Ec D Ce (E1 Ce 1 [])=[⟨0,0,⟨6,0,0,0,0,0,1,0,[],[]⟩⟩]:=by
 rw [R9,eZ rfl]
 show []++[Ge D Ce.J (C9 1 0 1 [])]=_
 have:=Vp (D:=D) (J:=Ce.J) (Nat.le_refl 1) 0
 rw [show Ce.J.us.length=1 from rfl] at this
 rw [this]
 rfl
theorem bJ:(Fb Ce 1).b.length=64:=by rw [(Qz Ce 1).len]
theorem bL (D:By):FD (Fb Ce 1) (Ec D Ce (Fb Ce 1).W)={ Fb Ce 1 with held:=[⟨1,0,⟨6,0,0,0,0,0,1,0,[],[]⟩⟩] }∧HZ (Fb Ce 1) (Ec D Ce (Fb Ce 1).W)=[]:=by
 have h0:(Fb Ce 1).n<(Fb Ce 1).b.length:=by rw [bJ];decide
 have e:Ec D Ce (Fb Ce 1).W=[⟨0,0,⟨6,0,0,0,0,0,1,0,[],[]⟩⟩]:=bM D
 unfold FD HZ
 rw [if_pos h0,if_pos h0,e]
 exact ⟨rfl,rfl⟩
theorem T7 (c:Int) (a:Int) (hc:1≤c∧c≤7):
    Cn Tryz.prog 231 [.int .i64 c,.int .i64 a] [] [] (fun v Bs=>v=.int .i64 (Ew c a)∧Bs=[]):=by
 intro w0 F0 H
 refine enter Tryz.func231 U U (Nat.le_of_ble_eq_true U) (Aa (Ad (Ac U (Ab (Z (Aa (Aa (Ad (Ac U (V U U (M_ (z:=a.tmod 2) U U U (by omega) U) (V U U (CG U U U) (Ab (Z ?_)))))))))))))
 refine AC U (fun h1=>?_) (fun h1=>?_)
 ·refine Aa (Ad (Ac U (V U U (Be (z:=c+1) U U U (AI (by omega) (by omega))) (Ac U (Ab (Z (Am (Az (Aq U U ?_)))))))))
  replace H:Hd _ _ _ [] []:=H
  exact Al ⟨congrArg (Value.int .i64) (if_pos h1).symm,rfl⟩ H
 refine AB (Z (Aa (Ad (Ah 2 U (Ab (Z (Am (Aq U U ?_))))))))
 replace H:Hd _ _ _ [] []:=H
 exact Al ⟨congrArg (Value.int .i64) (if_neg h1).symm,rfl⟩ H
theorem OI (n:Int) (size:Int) (hn:0≤n∧n≤1000000):
    Cn Tryz.prog 188 [.int .i64 n,.int .i64 size] [] [] (fun v Bs=>v=.int .i64 (Fi n size)∧Bs=[]):=by
 intro w0 F0 H
 refine enter Tryz.func188 U U (Nat.le_of_ble_eq_true U) (Aa (Ad (Ac U (Ab (Z (Aa (Aa (Ad (Ac U (V U U (Br U U U) (Ac U ?_)))))))))))
 refine AR (d:=7) U (fun h1=>?_) (fun h1=>?_)
 ·refine Ah 3 U (Ab (Z (Ct U (Aa (Ad (Ac U (Ab (Z (Am (Az (Aq U U ?_)))))))))))
  replace H:Hd _ _ _ [] []:=H
  exact Al ⟨congrArg (Value.int .i64) (if_pos (by omega)).symm,rfl⟩ H
 refine Ac U (V U U (Br U U U) (Ac U (Ab (Z ?_))))
 refine AC U (fun h2=>?_) (fun h2=>?_)
 ·refine Aa (Ad (Ac U (Ab (Z (Am (Az (Aq U U ?_)))))))
  replace H:Hd _ _ _ [] []:=H
  exact Al ⟨congrArg (Value.int .i64) (if_pos (by omega)).symm,rfl⟩ H
 refine AB (Z (Aa ?_))
 have htd:=dG (n:=n - 1) (size:=size) (by omega) (by omega)
 refine Ad (Ac U (V U U (CK (z:=n - 1) U U U (AI (by omega) (by omega))) (Ac U (V U U (ZO (z:=(n - 1).tdiv size) U U U (by omega) (AI (by omega) (by omega))) (V U U (Be (z:=((n - 1).tdiv size)+1) U U U (AI (by omega) (by omega))) (Ac U (Ab (Z (Am (Aq U U ?_))))))))))
 replace H:Hd _ _ _ [] []:=H
 exact Al ⟨congrArg (Value.int .i64) (if_neg (by omega)).symm,rfl⟩ H
theorem T5 (vps:Value) (ps:List Ap) (size:Int) (q:Int) (hl:ps.length≤1000) (hs:1≤size∧size≤8):
    Cn Tryz.prog 234 [vps,.int .i64 size,.int .i64 q] [] [Ae Ag vps ps] (fun v Bs=>Bs=[Y Ag v (Fu ps size q)]):=by
 intro w0 F0 H
 obtain ⟨A1,c2,rfl,hc3,hm4,hp5⟩:=H.fR 0 rfl
 refine enter Tryz.func234 U U (Nat.le_of_ble_eq_true U) (Aa (Ad (Ac U (Ab (Z ?_)))))
 replace H:Hd _ _ _ [] [Ae Ag (.slice A1 ps.length c2) ps]:=H
 refine Aa (Aa (Ad (Ac U (V U U (Br U U U) (Ac U ?_)))))
 refine AR (d:=10) U (fun h6=>?_) (fun h6=>?_)
 ·refine Ah 7 U (Ab (Z (Ct U (Aa (Ad (Ac U (Ab (Z (Am (Az (Aq U U ?_)))))))))))
  replace H:=H.newnil Ag|>.tellK (ys:=Fu ps size q) (by rw [OJ (by omega)])|>.h1 (A:=Y Ag (.slice none 0 0) (Fu ps size q))
  exact Al U H
 refine Ah 2 U (V U U (Bn U Do U) (Ac U (sc (OI ((ps.length:Nat):Int) size (by first |assumption|omega|(simp only [List.length_take,List.length_drop];omega))) H l0 U U (Av P5 U U) ?_)))
 rintro _ _ w ⟨rfl,rfl⟩ H
 refine V U U (C4 U U U) (Ac U (Ab (Z ?_)))
 refine AC U (fun h7=>?_) (fun h7=>?_)
 ·refine Aa (Ad (Ac U (Ab (Z (Am (Az (Aq U U ?_)))))))
  replace H:=H.newnil Ag|>.tellK (ys:=Fu ps size q) (by rw [OJ (by omega)])|>.h1 (A:=Y Ag (.slice none 0 0) (Fu ps size q))
  exact Al U H
 refine AB (Z (Aa ?_))
 have hlo:=TH (n:=ps.length) (size:=size) (q:=q) (by omega) (by omega) hs.1
 obtain ⟨m,hm⟩:∃ m:Nat,q*size=(m:Int):=⟨(q*size).toNat,by omega⟩
 obtain ⟨k,hk⟩:∃ k:Nat,min size (((ps.length - m:Nat):Int))=(k:Int):=⟨(min size (((ps.length - m:Nat):Int))).toNat,by omega⟩
 refine Ad (Ah 3 U (V U U (Hy (z:=((m:Nat):Int)) U U U (by rw [hm];exact AI (by omega) (by omega))) (V U U (Jz U BJ U U (by omega) (by omega) U) (Ac U (Ab (Z (Aa (Ad (Ah 3 U (V U U (Bn U Do U) (V U U (HW (z:=((k:Nat):Int)) U U U hk) (V U U (KZ U BJ U U (by omega) (by omega) U) (sc (J8 (.slice (D1 A1 c2 m 2) k (c2 - m)) ((ps.drop m).take k) (by first |assumption|omega|(simp only [List.length_take,List.length_drop];omega))) H (lX (fun F hA hR=>Lf (hR _ (List.mem_of_getElem? (i:=0) U)) (i:=m) (m':=k) (by omega)) l0) U U (Av KA U U) ?_)))))))))))))
 rintro v8 _ w rfl H
 replace H:=H.h1 (A:=Y Ag v8 ((ps.drop m).take k))
 refine Ac U (Ab (Z (Am (Aq U U ?_))))
 replace H:=H.tellK (ys:=Fu ps size q) (by rw [T6 (by omega) (by omega) hs.1 hm hk])|>.h1 (A:=Y Ag v8 (Fu ps size q))
 exact Al U H
theorem J_ (vb:Value) (bs:List UInt8) (n:Nat) (hb:bs.length≤1000000) (hn:n<9223372036854775808):
    Cn Tryz.prog 186 [vb,.int .i64 ((n:Nat):Int)] [] [Ae AP vb bs] (fun v Bs=>Bs=[Y AP v (bs++B2 n)]):=by
 intro w0 F0 H
 obtain ⟨A1,c2,rfl,hc3,hm4,hp5⟩:=H.fR 0 rfl
 refine enter Tryz.func186 U U (Nat.le_of_ble_eq_true U) (Aa (Ad (Ac U (Ab (Z ?_)))))
 replace H:Hd _ _ _ [] [Ae AP (.slice A1 bs.length c2) bs]:=H
 refine Aa (Ad (Ac U (V U U (Bn U Fe U) (Ac U (V U U (Bn U Fe U) (V U U (Be (z:=((bs.length+8:Nat):Int)) U U U (by rw [AI (by omega) (by omega)];omega)) (bT (m:=bs.length) (c:=bs.length+8) (a0:=(0:UInt8)) (enc:=E8) U U U FY I5 U (by decide) Vt U U (by omega) (by omega) (by omega) H (fun b6 w H=>?_))))))))
 replace H:=H.h1 (A:=IQ E8 b6 5 (List.replicate (bs.length+8) (0:UInt8)))
 refine Ac U (Ab (Z (Aa (Ad (Ah 2 U (bS (ys:=bs) U U U FY U U H (by simp) (by omega) (fun F hA hR=>hR _ (List.mem_of_getElem? (i:=0) U)) (fun w H=>?_)))))))
 replace H:Hd w0 F0 w [Y AP (.slice (some ⟨b6,0,none⟩) bs.length (bs.length+8)) bs] [Ae AP (.slice A1 bs.length c2) bs]:=H.turn (fun F h=>aZ h (by simp) rfl (by simp) (by omega))
 refine Ab (Z (Aa (Aa (Ad (Ac U (Ab (Z (AX ?_))))))))
 replace H:Hd w0 F0 w [Y AP (.slice (some ⟨b6,0,none⟩) bs.length (bs.length+8)) (bs++(B2 n).take 0)] [Ae AP (.slice A1 bs.length c2) bs]:=by rw [List.take_zero,List.append_nil];exact H
 refine B1 (σ:=Nat×Value) (fun (i,q)=>[(1,.int .i64 ((n:Nat):Int)),(4,.slice none 0 0),(5,q),(16,.int .i64 ((i:Nat):Int))]) (fun (i,q) w=>(Hd w0 F0 w [Y AP q (bs++(B2 n).take i)] [Ae AP (.slice A1 bs.length c2) bs])∧(i≤8)) (fun (i,q)=>8 - i) (0,.slice (some ⟨b6,0,none⟩) bs.length (bs.length+8)) ⟨rfl,rfl,rfl,rfl,trivial⟩ ⟨H,Nat.zero_le _⟩ ?_
 rintro ⟨i,q⟩ w ⟨H,hi⟩
 have hbl:=EF n
 have htl:((B2 n).take i).length≤8:=by rw [List.length_take];omega
 refine Aa (Ad (V U U (Br U U U) (Ab (Z (Aa ?_)))))
 refine AC U (fun h7=>?_) (fun h7=>?_)
 ·refine AB (Z (Aa (AX (Aa (Ad (Ah 2 U (Ab (Z (Ad (Ah 2 U (V U U (Ej (z:=((n:Nat):Int)) U U En Ia (F8 (by omega) (by omega))) (Ac U (V U U (CK (z:=7 - ((i:Nat):Int)) U U U (AI (by omega) (by omega))) (V U U (Hy (z:=8*(7 - ((i:Nat):Int))) U U U (AI (by omega) (by omega))) (V U U (Ej (z:=8*(7 - ((i:Nat):Int))) U U En Gn (F8 (by omega) (by omega))) (V U U (IL (z:=((n / 256^(7 - i):Nat):Int)) U U U (by omega) (cD n (by omega))) (V U U (Ej (z:=((UInt8.ofNat (n / 256^(7 - i))).toNat:Int)) U U Ia HE (fH _)) (Cb (parts:=[(0,.tmp 27)]) (vs:=[.int .u8 ((UInt8.ofNat (n / 256^(7 - i))).toNat:Int)]) (cs:=[.int .u8 ((UInt8.ofNat (n / 256^(7 - i))).toNat:Int)]) U U U FY I5 U (by decide) (by decide) U U H (fun b8 w H=>?_)))))))))))))))))))
  replace H:=H.p1
  refine CA (xs:=bs++(B2 n).take i) (ys:=[UInt8.ofNat (n / 256^(7 - i))]) U U U FY I5 U (by decide) U U H (by first |omega|(simp only [List.length_append,List.length_cons,List.length_nil];omega)) (fun F hA hR=>Cy (hA _ (List.mem_of_getElem? (i:=0) U)) U (by decide) (Bc.flat_eq.2 U)) (fun v9 w H=>(Ac U (Ab (Bb (Z ?_)))))
  replace H:Hd _ _ _ [Y AP v9 ((bs++(B2 n).take i)++[UInt8.ofNat (n / 256^(7 - i))]),blk b8 [.int .u8 ((UInt8.ofNat (n / 256^(7 - i))).toNat:Int)] 5] [Ae AP (.slice A1 bs.length c2) bs]:=H
  refine Ad (V U U (Be (z:=((i+1:Nat):Int)) U U U (by rw [AI (by omega) (by omega)];omega)) (Ac U (Ab ?_)))
  replace H:=H.k1
  replace H:Hd w0 F0 w [Y AP v9 (bs++(B2 n).take (i+1))] [Ae AP (.slice A1 bs.length c2) bs]:=by rw [Tk n (by omega),←List.append_assoc];exact H
  exact Bo (s:=(i,undef)) (i+1,v9) ⟨rfl,rfl,rfl,rfl,trivial⟩ ⟨H,by (try dsimp only);omega⟩ (by (try dsimp only);omega)
 refine BW (A8 (A8 (BX (Z (Aa (Ad (Ah 2 U (Ab (Z (Am (Aq U U ?_)))))))))))
 replace H:=H.h1 (A:=Y AP q (bs++(B2 n).take i))
 replace H:Hd w0 F0 w [Y AP q (bs++B2 n)] [Ae AP (.slice A1 bs.length c2) bs]:=by rw [List.take_of_length_le (by omega)] at H;exact H
 exact Al U H
theorem LQ (vb:Value) (bs:List UInt8) (s:ByteArray) (hb:bs.length≤900000) (hs:s.size≤900000):
    Cn Tryz.prog 132 [vb,.string s] [] [Ae AP vb bs] (fun v Bs=>Bs=[Y AP v (bs++Cr s)]):=by
 intro w0 F0 H
 refine enter Tryz.func132 U U (Nat.le_of_ble_eq_true U) (Aa (Ad (Ac U (Ab (Z (Aa (Ad (Ah 2 U (V U U (DO U CP U) (sc (J_ vb bs s.size (by first |assumption|omega) (by first |assumption|omega)) H (lR 0 U l0) U U (Av Kw U U) ?_))))))))))
 rintro v1 _ w rfl H
 refine Ac U (bP U U U FY I5 U (by decide) CP U U H (by rw [List.length_append,EF];omega) (fun v2 w H=>(Ac U (Ab (Z ?_)))))
 replace H:Hd _ _ _ [Y AP v2 ((bs++B2 s.size)++AA s)] [Ae AP vb bs]:=H
 refine Am (Aq U U ?_)
 replace H:Hd w0 F0 w [Y AP v2 (bs++Cr s)] [Ae AP vb bs]:=by unfold Cr;rw [←List.append_assoc];exact H
 exact Al U H
theorem Ni (vb:Value) (bs:List UInt8) (a:Int) (hb:bs.length≤1000000) (ha:AL a):
    Cn Tryz.prog 97 [vb,.int .i64 a] [] [Ae AP vb bs] (fun v Bs=>v=.tuple #[.int .i64 ((BU bs a).1),.int .i64 ((BU bs a).2.1),.bool ((BU bs a).2.2)]∧Bs=[]):=by
 intro w0 F0 H
 obtain ⟨A1,c2,rfl,hc3,hm4,hp5⟩:=H.fR 0 rfl
 unfold AL at ha
 refine enter Tryz.func97 U U (Nat.le_of_ble_eq_true U) (Aa (Ad (Ah 3 U (Ab (Z ?_)))))
 replace H:Hd _ _ _ [] [Ae AP (.slice A1 bs.length c2) bs]:=H
 refine Aa (Aa (Ad (Ac U (V U U (Br U U U) (Ac U ?_)))))
 refine AR (d:=12) U (fun h6=>?_) (fun h6=>?_)
 ·refine Ah 12 U (Ab (Z (Ct U (Aa (Ad (Ah 3 U (Ab (Z (Am (Az (GF U U U U ?_)))))))))))
  have e:=IN (b:=bs) (at_:=a) (by omega)
  exact Al ⟨by rw [e]<;>rfl,rfl⟩ H
 refine Ah 2 U (V U U (Bn U Fe U) (V U U (CW U U U) (Ah 2 U ?_)))
 refine AR (d:=18) U (fun h7=>?_) (fun h7=>?_)
 ·refine Ah 6 U (Ab (Z (Ct U (Aa (Ad (Ah 3 U (Ab (Z (Am (Az (GF U U U U ?_)))))))))))
  have e:=IN (b:=bs) (at_:=a) (by omega)
  exact Al ⟨by rw [e]<;>rfl,rfl⟩ H
 refine Ac U (V U U (Bn U Fe U) (Ac U (V U U (CK (z:=((bs.length:Nat):Int) - a) U U U (AI (by omega) (by omega))) (V U U (Br U U U) (Ac U (Ab (Z ?_)))))))
 refine AC U (fun h8=>?_) (fun h8=>?_)
 ·refine Aa (Ad (Ah 3 U (Ab (Z (Am (Az (GF U U U U ?_)))))))
  have e:=IN (b:=bs) (at_:=a) (by omega)
  exact Al ⟨by rw [e]<;>rfl,rfl⟩ H
 refine AB (Z (Aa (Ad (Ac U (Ab (Z (Aa (Aa (Ad (Ah 3 U (V U U (Be (z:=a+8) U U U (AI (by omega) (by omega))) (V U U (RE (i':=(a).toNat) (j':=(a+8).toNat) (m':=8) U FY U U U (by omega) (by omega) (by omega) U U (by omega)) (V U U (Bn U Fe U) (Ac U (Ab (Z (AX (B1 (σ:=Nat) (fun i=>[(1,.int .i64 a),(4,.int .i64 0),(5,.int .i64 0),(6,.bool false),(7,.int .u64 ((Fd (((bs.drop (a).toNat).take 8).take i):Nat):Int)),(29,.slice (D1 A1 c2 ((a).toNat) 1) 8 (c2 - ((a).toNat))),(30,.int .i64 ((8:Nat):Int)),(31,.int .i64 ((i:Nat):Int))]) (fun i w=>(Hd w0 F0 w [] [Ae AP (.slice A1 bs.length c2) bs])∧(i≤8)) (fun i=>8 - i) 0 ⟨rfl,rfl,rfl,rfl,rfl,rfl,rfl,rfl,trivial⟩ ⟨H,Nat.zero_le _⟩ ?_))))))))))))))))))
 rintro i w ⟨H,hi⟩
 have hlt:=ZY (((bs.drop (a).toNat).take 8).take i) 0
 have hle8:(((bs.drop (a).toNat).take 8).take i).length≤i:=by rw [List.length_take];omega
 refine Aa (Ad (V U U (Br U U U) (Ab (Z (Aa ?_)))))
 refine AC U (fun h9=>?_) (fun h9=>?_)
 ·refine AB (Z (Aa (AX (Aa (Ad ?_)))))
  obtain ⟨x10,hx11⟩:∃ z9,((bs.drop ((a).toNat)).take 8)[i]?=some z9:=⟨_,List.getElem?_eq_getElem (show i<((bs.drop ((a).toNat)).take 8).length by simp only [List.length_take,List.length_drop];omega)⟩
  have th12:=H.thX (fun F hA hR=>Lf (hR _ (List.mem_of_getElem? (i:=0) rfl)) (i:=(a).toNat) (m':=8) (by omega)) hx11
  refine V U U (Bi (p:=A_ (D1 A1 c2 ((a).toNat) 1)+i*1) U FY U U (by omega) (by omega) th12 U) (V U U (An U dV U (H.elX (fun F hA hR=>Lf (hR _ (List.mem_of_getElem? (i:=0) U)) (i:=(a).toNat) (m':=8) (by omega)) hx11 (q:=0) U U)) (Ac U (Ab (Z ?_))))
  have hx8:=UInt8.toNat_lt x10
  have hm7:Fd (((bs.drop (a).toNat).take 8).take i)<72057594037927936:=Nat.lt_of_lt_of_le hlt (Nat.le_trans (Nat.pow_le_pow_right (by omega) (show _≤7 by omega)) (by decide))
  refine Ad (Ac U (V U U (ZP (z:=((Fd (((bs.drop (a).toNat).take 8).take i)*256:Nat):Int)) U U U (by omega) (cC hm7)) (Ac U (V U U (Ej (z:=((x10.toNat:Nat):Int)) U U HE Ia (F8 (by omega) (by omega))) (V U U (Zz (z:=((Fd (((bs.drop (a).toNat).take 8).take i)*256+x10.toNat:Nat):Int)) U (by simp) U U (YV hm7 _)) (Ac U (Ab (Bb (Z (Ad (V U U (Be (z:=((i+1:Nat):Int)) U U U (by rw [AI (by omega) (by omega)];omega)) (Ac U (Ab ?_)))))))))))))
  have hst:=Z0 hx11
  exact Bo (s:=i) (i+1) ⟨rfl,rfl,rfl,rfl,(by (try dsimp only);rw [hst];rfl),rfl,rfl,rfl,trivial⟩ ⟨H,by (try dsimp only);omega⟩ (by (try dsimp only);omega)
 refine BW (A8 (A8 (BX (Z (Aa (Ad (Ac U (V U U (Ej (z:=IntKind.i64.wrap ((Fd ((bs.drop (a).toNat).take 8):Nat):Int)) U U Ia En (by rw [List.take_of_length_le (by rw [List.length_take];omega)])) (Ac U (V U U (Be (z:=a+8) U U U (AI (by omega) (by omega))) (Ah 3 U (Ab (Z (Am (GF U U U U ?_)))))))))))))))
 have e:=Nc (b:=bs) (at_:=a) (by omega)
 exact Al ⟨by rw [e]<;>rfl,rfl⟩ H
theorem K_ (vb:Value) (bs:List UInt8) (a:Int) (hb:bs.length≤1000000) (ha:AL a):
    Cn Tryz.prog 54 [vb,.int .i64 a] [] [Ae AP vb bs] (fun v Bs=>v=.tuple #[.string ((Ax bs a).1),.int .i64 ((Ax bs a).2.1),.bool ((Ax bs a).2.2)]∧Bs=[]):=by
 intro w0 F0 H
 obtain ⟨A1,c2,rfl,hc3,hm4,hp5⟩:=H.fR 0 rfl
 refine enter Tryz.func54 U U (Nat.le_of_ble_eq_true U) (Aa (Ad (Ah 3 U (Ab (Z ?_)))))
 replace H:Hd _ _ _ [] [Ae AP (.slice A1 bs.length c2) bs]:=H
 refine Aa (Ad (Ah 2 U (sc (Ni (.slice A1 bs.length c2) bs a (by first |assumption|omega) (by first |assumption|omega)) H (lR 0 U l0) U U (Av MA U U) ?_)))
 rintro _ _ w ⟨rfl,rfl⟩ H
 refine Ah 7 U (Ab (Z (Aa (Aa ?_))))
 have hi6:=@Z1 bs a
 have hin:=@Nb bs a
 refine Ad (Ac U (V U U (Ek U U U) (Ac U ?_)))
 refine G5 (d:=19) (b:=!((BU bs a).2.2)) U (fun h6=>?_) (fun h6=>?_)
 ·refine Ah 11 U (Ab (Z (Ct U (Aa (Ad (Ah 3 U (Ab (Z (Am (Az (GF U U U U ?_)))))))))))
  have e:=Ng (b:=bs) (at_:=a) (by simpa using h6)
  exact Al ⟨by rw [e]<;>rfl,rfl⟩ H
 have hii:=hin (by simpa using h6)
 refine Ac U (V U U (Br U U U) (Ah 2 U ?_))
 refine AR (d:=23) U (fun h7=>?_) (fun h7=>?_)
 ·refine Ah 7 U (Ab (Z (Ct U (Aa (Ad (Ah 3 U (Ab (Z (Am (Az (GF U U U U ?_)))))))))))
  have e:=(K8 (b:=bs) (at_:=a) (by simpa using h6)).trans (if_pos (by omega))
  exact Al ⟨by rw [e]<;>rfl,rfl⟩ H
 refine Ah 2 U (V U U (Bn U Fe U) (Ac U (V U U (CK (z:=((bs.length:Nat):Int) - ((BU bs a).2.1)) U U U (AI (by omega) (by omega))) (V U U (CW U U U) (Ac U (Ab (Z ?_)))))))
 refine AC U (fun h8=>?_) (fun h8=>?_)
 ·refine Aa (Ad (Ah 3 U (Ab (Z (Am (Az (GF U U U U ?_)))))))
  have e:=(K8 (b:=bs) (at_:=a) (by simpa using h6)).trans (if_pos (by omega))
  exact Al ⟨by rw [e]<;>rfl,rfl⟩ H
 refine AB (Z (Aa (Ad (Ah 4 U (V U U (Be (z:=((BU bs a).2.1)+((BU bs a).1)) U U U (AI (by omega) (by omega))) (V U U (RE (i':=((BU bs a).2.1).toNat) (j':=((BU bs a).2.1+(BU bs a).1).toNat) (m':=((BU bs a).1).toNat) U FY U U U (by omega) (by omega) (by omega) U U (by omega)) (V U U (H.read fun F hA hR=>RD U Fe HE CP U U (Lf (hR _ (List.mem_of_getElem? (i:=0) U)) (i:=((BU bs a).2.1).toNat) (m':=((BU bs a).1).toNat) (by omega))) (Ah 2 U (V U U (Be (z:=((BU bs a).2.1)+((BU bs a).1)) U U U (AI (by omega) (by omega))) (Ah 3 U (Ab (Z (Am (GF U U U U ?_))))))))))))))
 have e:=(K8 (b:=bs) (at_:=a) (by simpa using h6)).trans (if_neg (by omega))
 exact Al ⟨by rw [e]<;>rfl,rfl⟩ H
theorem eD (ps:List Ap) (hl:ps.length≤1000) (hsz:∀ p∈ps,p.key.size≤100∧p.val.size≤100):
    Cn Tryz.prog 230 [.string (BE ps)] [] [] (fun v Bs=>Bs=[Y Ag v ps]):=by
 intro w0 F0 H
 have hps:=Y6 hsz hl
 have hbb:(AA (BE ps)).length≤300000:=by rw [Gs];exact hps
 have h064:AL (0:Int):=by unfold AL;omega
 refine enter Tryz.func230 U U (Nat.le_of_ble_eq_true U) (Aa (Ad (Ac U (Ab (Z (Aa (Ad (Ac U (Sc U U U CP Fe HE U (by omega) H (fun b1 c2 w hc3 hc4 H=>(Ac U (Ab (Z (Aa (Ad (Ac U (sc (Ni (.slice (some ⟨b1,0,none⟩) ((BE ps).size) c2) (AA (BE ps)) 0 (by first |assumption|omega|(simp only [List.length_nil];omega)) (by first |assumption|omega|(simp only [List.length_nil];omega))) H (lR 0 U l0) U U (Av MA U U) ?_)))))))))))))))))
 rintro _ _ w ⟨rfl,rfl⟩ H
 have hq:BU (AA (BE ps)) 0=(((ps.length:Nat):Int),8,true):=by rw [MY];exact Y8 (by omega)
 rw [hq]
 refine Ah 7 U (Ab (Z ?_))
 replace H:Hd _ _ _ [] [Ae AP (.slice (some ⟨b1,0,none⟩) ((BE ps).size) c2) (AA (BE ps))]:=H
 refine Aa (Ad (Ac U (Ab (Z (Aa (Aa (Ad (Ah 2 U (Ab (Z (AX ?_)))))))))))
 replace H:=H.newnil Ag
 replace H:Hd w0 F0 w [Y Ag (.slice none 0 0) (ps.take 0)] [Ae AP (.slice (some ⟨b1,0,none⟩) ((BE ps).size) c2) (AA (BE ps))]:=by rw [List.take_zero];exact H
 refine B1 (σ:=Nat×Value) (fun (i,q)=>[(2,.slice none 0 0),(3,.slice (some ⟨b1,0,none⟩) ((BE ps).size) c2),(5,.int .i64 ((D2 ps i:Nat):Int)),(7,q),(17,.int .i64 ((ps.length:Nat):Int)),(18,.int .i64 ((i:Nat):Int))]) (fun (i,q) w=>(Hd w0 F0 w [Y Ag q (ps.take i)] [Ae AP (.slice (some ⟨b1,0,none⟩) ((BE ps).size) c2) (AA (BE ps))])∧(i≤ps.length)) (fun (i,q)=>ps.length - i) (0,.slice none 0 0) ⟨rfl,rfl,rfl,rfl,rfl,rfl,trivial⟩ ⟨H,Nat.zero_le _⟩ ?_
 rintro ⟨i,q⟩ w ⟨H,hi⟩
 have htl:(ps.take i).length≤i:=by rw [List.length_take];omega
 refine Aa (Ad (V U U (Br U U U) (Ab (Z (Aa ?_)))))
 refine AC U (fun h5=>?_) (fun h5=>?_)
 ·refine AB (Z (Aa (AX (Aa (Ad (Dz U U U De H (fun b6 w H=>?_)))))))
  replace H:=H.h2 (A:=blk b6 [.string ⟨#[]⟩,.string ⟨#[]⟩] 122) (B:=Y Ag q (ps.take i))
  refine Ab (Z (Aa ?_))
  obtain ⟨x7,hx8⟩:∃ z9,ps[i]?=some z9:=⟨_,List.getElem?_eq_getElem (show i<ps.length by omega)⟩
  have hxs:=hsz _ (Cx hx8)
  have hkey:Ax (AA (BE ps)) ((D2 ps i:Nat):Int)=(x7.key,((D2 ps i+8+x7.key.size:Nat):Int),true):=by rw [MY];exact Y7 hx8 (by omega)
  have hval:Ax (AA (BE ps)) ((D2 ps i+8+x7.key.size:Nat):Int)=(x7.val,((D2 ps (i+1):Nat):Int),true):=by rw [MY];exact Y9 hx8 (by omega)
  have hpa:D2 ps i≤300000:=Y4 hsz hl i
  have hi64:AL ((D2 ps i:Nat):Int):=by unfold AL;omega
  have hj64:AL ((D2 ps i+8+x7.key.size:Nat):Int):=by unfold AL;omega
  refine Ad (Ah 2 U (sc (K_ (.slice (some ⟨b1,0,none⟩) ((BE ps).size) c2) (AA (BE ps)) ((D2 ps i:Nat):Int) (by first |assumption|omega|(simp only [List.length_nil];omega)) (by first |assumption|omega|(simp only [List.length_nil];omega))) H (lR 0 U l0) U U (Av Kz U U) ?_))
  rintro _ _ w ⟨rfl,rfl⟩ H
  rw [hkey]
  refine Ah 4 U (V U U (Aj U FN U) (Bx U U U Cg U U H U (Nat.le_of_ble_eq_true U) (fun u hu=>by simp [Value.cells] at hu;subst hu;rfl) (fun w H=>?_)))
  replace H:=H.h1 (A:=blk b6 [.string x7.key,.string ⟨#[]⟩] 122)
  refine Ac U (Ab (Z (Aa (Ad (Ah 2 U (sc (K_ (.slice (some ⟨b1,0,none⟩) ((BE ps).size) c2) (AA (BE ps)) ((D2 ps i+8+x7.key.size:Nat):Int) (by first |assumption|omega|(simp only [List.length_nil];omega)) (by first |assumption|omega|(simp only [List.length_nil];omega))) H (lR 0 U l0) U U (Av Kz U U) ?_))))))
  rintro _ _ w ⟨rfl,rfl⟩ H
  rw [hval]
  refine Ah 4 U (V U U (Aj U Jg U) (Bx U U U Cg U U H U (Nat.le_of_ble_eq_true U) (fun u hu=>by simp [Value.cells] at hu;subst hu;rfl) (fun w H=>?_)))
  replace H:=H.h1 (A:=blk b6 [.string x7.key,.string x7.val] 122)
  refine Ac U (Ab (Z (Ad (Ac U (V U U (BD (cs:=[.string x7.key,.string x7.val]) U CB U U (H.cellsI 0 U U)) (Cb (parts:=[(0,.tmp 37)]) (vs:=[.agg #[.string x7.key,.string x7.val]]) (cs:=[.string x7.key,.string x7.val]) U U U BJ De U (by decide) (by decide) U U H (fun b9 w H=>?_)))))))
  replace H:=H.p2
  refine CA (xs:=ps.take i) (ys:=[x7]) U U U BJ De U (by decide) U U H (by first |omega|(simp only [List.length_append,List.length_cons,List.length_nil];omega)) (fun F hA hR=>Cy (hA _ (List.mem_of_getElem? (i:=0) U)) U (by decide) (Bc.flat_eq.2 U)) (fun v10 w H=>(Ac U (Ab (Bb (Z ?_)))))
  replace H:Hd _ _ _ [Y Ag v10 ((ps.take i)++[x7]),blk b9 [.string x7.key,.string x7.val] 122,blk b6 [.string x7.key,.string x7.val] 122] [Ae AP (.slice (some ⟨b1,0,none⟩) ((BE ps).size) c2) (AA (BE ps))]:=H
  refine Ad (V U U (Be (z:=((i+1:Nat):Int)) U U U (by rw [AI (by omega) (by omega)];omega)) (Ac U (Ab ?_)))
  replace H:=H.k1
  replace H:Hd w0 F0 w [Y Ag v10 (ps.take (i+1))] [Ae AP (.slice (some ⟨b1,0,none⟩) ((BE ps).size) c2) (AA (BE ps))]:=by rw [El hx8];exact H
  exact Bo (s:=(i,undef)) (i+1,v10) ⟨rfl,rfl,rfl,rfl,rfl,rfl,trivial⟩ ⟨H,by (try dsimp only);omega⟩ (by (try dsimp only);omega)
 refine BW (A8 (A8 (BX (Z (Aa (Ad (Ah 2 U (Ab (Z (Am (Aq U U ?_)))))))))))
 replace H:=H.h1 (A:=Y Ag q (ps.take i))
 replace H:Hd w0 F0 w [Y Ag q ps] [Ae AP (.slice (some ⟨b1,0,none⟩) ((BE ps).size) c2) (AA (BE ps))]:=by rw [List.take_of_length_le (by omega)] at H;exact H
 replace H:=H.dropR
 replace H:Hd _ _ _ [Y Ag q ps] []:=H
 exact Al U H
theorem dQ (vxs:Value) (xs:List Ap) (vys:Value) (ys:List Ap) (hb:xs.length+ys.length≤1000000):
    Cn Tryz.prog 267 [vxs,vys] [] [Ae Ag vxs xs,Ae Ag vys ys] (fun v Bs=>Bs=[Y Ag v (srt (xs++ys))]):=by
 intro w0 F0 H
 obtain ⟨A1,c2,rfl,hc3,hm4,hp5⟩:=H.fR 0 rfl
 obtain ⟨A6,c7,rfl,hc8,hm9,hp10⟩:=H.fR 1 rfl
 refine enter Tryz.func267 U U (Nat.le_of_ble_eq_true U) (Aa (Ad (Ac U (Ab (Z ?_)))))
 replace H:Hd _ _ _ [] [Ae Ag (.slice A1 xs.length c2) xs,Ae Ag (.slice A6 ys.length c7) ys]:=H
 refine Aa (Aa (Ad (Ac U (sc (Sh (.slice A1 xs.length c2) xs (by first |omega|decide|(simp only [List.length_append,List.length_cons,List.length_nil,GG];omega))) H (lR 0 U l0) U U (Av Qd U U) ?_))))
 rintro _ _ w ⟨rfl,rfl⟩ H
 refine V U U (D3 U U) (Ac U ?_)
 refine AR (d:=9) U (fun h11=>?_) (fun h11=>?_)
 ·refine Ah 4 U (Ab (Z (Ct U (Aa (Ad (Ac U ?_))))))
  replace H:=H.newnil Ag
  refine CA (xs:=[]) (ys:=xs) U U U BJ De U (by decide) U U H (by first |omega|(simp only [List.length_append,List.length_cons,List.length_nil];omega)) (fun F hA hR=>hR _ (List.mem_of_getElem? (i:=0) U)) (fun v12 w H=>(Ac U (CA (xs:=[]++xs) (ys:=ys) U U U BJ De U (by decide) U U H (by first |omega|(simp only [List.length_append,List.length_cons,List.length_nil];omega)) (fun F hA hR=>hR _ (List.mem_of_getElem? (i:=1) U)) (fun v13 w H=>?_))))
  replace H:Hd _ _ _ [Y Ag v13 (([]++xs)++ys)] [Ae Ag (.slice A1 xs.length c2) xs,Ae Ag (.slice A6 ys.length c7) ys]:=H
  refine sc (Rl v13 (([]++xs)++ys) (by first |omega|decide|(simp only [List.length_append,List.length_cons,List.length_nil,GG];omega))) H (lA 0 U B3 l0) U U (Av Qb U U) ?_
  rintro v14 _ w rfl H
  replace H:=H.h1 (A:=Y Ag v14 (srt (([]++xs)++ys)))
  refine Ac U (Ab (Z (Am (Az (Aq U U ?_)))))
  replace H:=H.k1.h1 (A:=Y Ag v14 (srt (xs++ys)))
  exact Al U H
 refine Ac U (sc (Sh (.slice A6 ys.length c7) ys (by first |omega|decide|(simp only [List.length_append,List.length_cons,List.length_nil,GG];omega))) H (lR 1 U l0) U U (Av Qd U U) ?_)
 rintro _ _ w ⟨rfl,rfl⟩ H
 refine V U U (D3 U U) (Ac U (Ab (Z ?_)))
 refine AC U (fun h15=>?_) (fun h15=>?_)
 ·refine Aa (Ad (Ac U ?_))
  replace H:=H.newnil Ag
  refine CA (xs:=[]) (ys:=xs) U U U BJ De U (by decide) U U H (by first |omega|(simp only [List.length_append,List.length_cons,List.length_nil];omega)) (fun F hA hR=>hR _ (List.mem_of_getElem? (i:=0) U)) (fun v16 w H=>(Ac U (CA (xs:=[]++xs) (ys:=ys) U U U BJ De U (by decide) U U H (by first |omega|(simp only [List.length_append,List.length_cons,List.length_nil];omega)) (fun F hA hR=>hR _ (List.mem_of_getElem? (i:=1) U)) (fun v17 w H=>?_))))
  replace H:Hd _ _ _ [Y Ag v17 (([]++xs)++ys)] [Ae Ag (.slice A1 xs.length c2) xs,Ae Ag (.slice A6 ys.length c7) ys]:=H
  refine sc (Rl v17 (([]++xs)++ys) (by first |omega|decide|(simp only [List.length_append,List.length_cons,List.length_nil,GG];omega))) H (lA 0 U B3 l0) U U (Av Qb U U) ?_
  rintro v18 _ w rfl H
  replace H:=H.h1 (A:=Y Ag v18 (srt (([]++xs)++ys)))
  refine Ac U (Ab (Z (Am (Az (Aq U U ?_)))))
  replace H:=H.k1.h1 (A:=Y Ag v18 (srt (xs++ys)))
  exact Al U H
 refine AB (Z (Aa ?_))
 have hoxs:Db xs:=Classical.not_not.1 h11
 have hoys:Db ys:=Classical.not_not.1 h15
 refine Ad (Ac U (Ab (Z (Aa (AX ?_)))))
 replace H:=H.newnil Ag|>.dupR 1 rfl|>.dupR 1 rfl
 refine B1 (σ:=Value×Value×List Ap×List Ap×Value×List Ap) (fun (u,v,al,bl,q,zs)=>[(0,u),(1,v),(4,.slice none 0 0),(5,q)]) (fun (u,v,al,bl,q,zs) w=>(Hd w0 F0 w [Y Ag q zs] [Ae Ag u al,Ae Ag v bl,Ae Ag (.slice A1 xs.length c2) xs,Ae Ag (.slice A6 ys.length c7) ys])∧(Db al)∧(Db bl)∧(zs.length+(al.length+bl.length)=xs.length+ys.length)∧(zs++srt (al++bl)=srt (xs++ys))) (fun (u,v,al,bl,q,zs)=>al.length+bl.length) (.slice A1 xs.length c2,.slice A6 ys.length c7,xs,ys,.slice none 0 0,[]) ⟨rfl,rfl,rfl,rfl,trivial⟩ ⟨H,hoxs,hoys,by (try dsimp only);simp only [List.length_nil];omega,rfl⟩ ?_
 rintro ⟨u,v,al,bl,q,zs⟩ w ⟨H,ha,hb2,hl,hz⟩
 refine Aa (Aa (Ad (Ac U ?_)))
 obtain ⟨A19,c20,rfl,hc21,hm22,hp23⟩:=H.fR 0 rfl
 refine V U U (Bn U Do U) (V U U (CW U U U) (Ac U ?_))
 refine AR (d:=22) U (fun h24=>?_) (fun h24=>?_)
 ·refine Ac U ?_
  obtain ⟨A25,c26,rfl,hc27,hm28,hp29⟩:=H.fR 1 rfl
  refine V U U (Bn U Do U) (V U U (CW U U U) (Ac U (Ab (Z ?_))))
  replace H:Hd _ _ _ [Y Ag q zs] [Ae Ag (.slice A19 al.length c20) al,Ae Ag (.slice A25 bl.length c26) bl,Ae Ag (.slice A1 xs.length c2) xs,Ae Ag (.slice A6 ys.length c7) ys]:=H
  refine AC U (fun h30=>?_) (fun h30=>?_)
  ·refine AB (Z (AX (Aa (Aa (GP mo (by kernel_rfl) H (Em U ?_))))))
   obtain ⟨x31,hx32⟩:∃ z9,bl[0]?=some z9:=⟨_,List.getElem?_eq_getElem (show 0<bl.length by omega)⟩
   have th33:=H.thR 1 rfl hx32
   refine BH U U (fun w H=>Bi (p:=A_ A25+0*2) U BJ U U (by omega) (by omega) th33 (by omega)) (BH U U (fun w H=>Aj U FN U) (BH U U (fun w H=>An U Cg U (H.elR 1 U hx32 (q:=0) U U)) (Em U ?_)))
   obtain ⟨x34,hx35⟩:∃ z9,al[0]?=some z9:=⟨_,List.getElem?_eq_getElem (show 0<al.length by omega)⟩
   have th36:=H.thR 0 rfl hx35
   refine BH U U (fun w H=>Bi (p:=A_ A19+0*2) U BJ U U (by omega) (by omega) th36 (by omega)) (BH U U (fun w H=>Aj U FN U) (BH U U (fun w H=>An U Cg U (H.elR 0 U hx35 (q:=0) U U)) (BH U U (fun w H=>RH U U U) (Ha (fun w H=>(Z ?_))))))
   refine AC U (fun h37=>?_) (fun h37=>?_)
   ·refine Aa (Ad (Ah 2 U ?_))
    have th38:=H.thR 1 rfl hx32
    refine V U U (Bi (p:=A_ A25+0*2) U BJ U U (by omega) (by omega) th38 (by omega)) (V U U (BD (cs:=[.string x31.key,.string x31.val]) U CB U U (H.elsR 1 U hx32 U)) (Cb (parts:=[(0,.tmp 39)]) (vs:=[.agg #[.string x31.key,.string x31.val]]) (cs:=[.string x31.key,.string x31.val]) U U U BJ De U (by decide) (by decide) U U H (fun b39 w H=>?_)))
    replace H:=H.p1
    refine CA (xs:=zs) (ys:=[x31]) U U U BJ De U (by decide) U U H (by first |omega|(simp only [List.length_append,List.length_cons,List.length_nil];omega)) (fun F hA hR=>Cy (hA _ (List.mem_of_getElem? (i:=0) U)) U (by decide) (Bc.flat_eq.2 U)) (fun v40 w H=>(Ac U (Ab (Z ?_))))
    replace H:Hd _ _ _ [Y Ag v40 (zs++[x31]),blk b39 [.string x31.key,.string x31.val] 122] [Ae Ag (.slice A19 al.length c20) al,Ae Ag (.slice A25 bl.length c26) bl,Ae Ag (.slice A1 xs.length c2) xs,Ae Ag (.slice A6 ys.length c7) ys]:=H
    refine Aa (Ad (Ac U (V U U (Jz U BJ U U (by omega) (by omega) U) (Ac U (Ab (Z (BW (A8 (BX ?_)))))))))
    replace H:=H.k1.sufR 1 rfl (n:=1) (by omega)
    replace H:Hd w0 F0 w [Y Ag v40 (zs++[x31])] [Ae Ag (.slice A19 al.length c20) al,Ae Ag (.slice (D1 A25 c26 1 2) (bl.length - 1) (c26 - 1)) (bl.drop 1),Ae Ag (.slice A1 xs.length c2) xs,Ae Ag (.slice A6 ys.length c7) ys]:=H.pickR [1,0,3,4]
    have hz2:(zs++[x31])++srt (al++bl.drop 1)=srt (xs++ys):=by rw [←hz,X0 hx35 hx32 ha hb2 h37,List.append_assoc];rfl
    exact Bo (s:=(undef,undef,al,bl,undef,zs)) (.slice A19 al.length c20,.slice (D1 A25 c26 1 2) (bl.length - 1) (c26 - 1),al,bl.drop 1,v40,zs++[x31]) ⟨rfl,rfl,rfl,rfl,trivial⟩ ⟨H,ha,Rg hb2 1,by (try dsimp only);simp only [List.length_append,List.length_cons,List.length_nil,List.length_drop];omega,hz2⟩ (by (try dsimp only);simp only [List.length_drop];omega)
   refine AB (Z (Aa (Ad (Ah 2 U ?_))))
   have th41:=H.thR 0 rfl hx35
   refine V U U (Bi (p:=A_ A19+0*2) U BJ U U (by omega) (by omega) th41 (by omega)) (V U U (BD (cs:=[.string x34.key,.string x34.val]) U CB U U (H.elsR 0 U hx35 U)) (Cb (parts:=[(0,.tmp 47)]) (vs:=[.agg #[.string x34.key,.string x34.val]]) (cs:=[.string x34.key,.string x34.val]) U U U BJ De U (by decide) (by decide) U U H (fun b42 w H=>?_)))
   replace H:=H.p1
   refine CA (xs:=zs) (ys:=[x34]) U U U BJ De U (by decide) U U H (by first |omega|(simp only [List.length_append,List.length_cons,List.length_nil];omega)) (fun F hA hR=>Cy (hA _ (List.mem_of_getElem? (i:=0) U)) U (by decide) (Bc.flat_eq.2 U)) (fun v43 w H=>(Ac U (Ab (Z ?_))))
   replace H:Hd _ _ _ [Y Ag v43 (zs++[x34]),blk b42 [.string x34.key,.string x34.val] 122] [Ae Ag (.slice A19 al.length c20) al,Ae Ag (.slice A25 bl.length c26) bl,Ae Ag (.slice A1 xs.length c2) xs,Ae Ag (.slice A6 ys.length c7) ys]:=H
   refine Ad (Ac U (V U U (Jz U BJ U U (by omega) (by omega) U) (Ac U (Ab (Bb ?_)))))
   replace H:=H.k1.sufR 0 rfl (n:=1) (by omega)
   replace H:Hd w0 F0 w [Y Ag v43 (zs++[x34])] [Ae Ag (.slice (D1 A19 c20 1 2) (al.length - 1) (c20 - 1)) (al.drop 1),Ae Ag (.slice A25 bl.length c26) bl,Ae Ag (.slice A1 xs.length c2) xs,Ae Ag (.slice A6 ys.length c7) ys]:=H.pickR [0,2,3,4]
   have hz2:(zs++[x34])++srt (al.drop 1++bl)=srt (xs++ys):=by rw [←hz,XZ hx35 hx32 ha hb2 h37,List.append_assoc];rfl
   exact Bo (s:=(undef,undef,al,bl,undef,zs)) (.slice (D1 A19 c20 1 2) (al.length - 1) (c20 - 1),.slice A25 bl.length c26,al.drop 1,bl,v43,zs++[x34]) ⟨rfl,rfl,rfl,rfl,trivial⟩ ⟨H,Rg ha 1,hb2,by (try dsimp only);simp only [List.length_append,List.length_cons,List.length_nil,List.length_drop];omega,hz2⟩ (by (try dsimp only);simp only [List.length_drop];omega)
  refine BW (A8 (A8 (BX (Z (Aa (Ad (Ah 2 U (CA (xs:=zs) (ys:=al) U U U BJ De U (by decide) U U H (by first |omega|(simp only [List.length_append,List.length_cons,List.length_nil];omega)) (fun F hA hR=>hR _ (List.mem_of_getElem? (i:=0) U)) (fun v44 w H=>(Ac U (CA (xs:=zs++al) (ys:=bl) U U U BJ De U (by decide) U U H (by first |omega|(simp only [List.length_append,List.length_cons,List.length_nil];omega)) (fun F hA hR=>hR _ (List.mem_of_getElem? (i:=1) U)) (fun v45 w H=>?_))))))))))))
  replace H:=H.h1 (A:=Y Ag v45 ((zs++al)++bl))
  refine Ac U (Ab (Z (Am (Aq U U ?_))))
  replace H:Hd w0 F0 w [Y Ag v45 (srt (xs++ys))] [Ae Ag (.slice A19 al.length c20) al,Ae Ag (.slice A25 bl.length c26) bl,Ae Ag (.slice A1 xs.length c2) xs,Ae Ag (.slice A6 ys.length c7) ys]:=by rw [←hz,QR ha hb2 (by omega),←List.append_assoc];exact H
  replace H:=H.dropR|>.dropR
  exact Al U H
 refine Ah 4 U (Ab (Z ?_))
 replace H:Hd _ _ _ [Y Ag q zs] [Ae Ag (.slice A19 al.length c20) al,Ae Ag v bl,Ae Ag (.slice A1 xs.length c2) xs,Ae Ag (.slice A6 ys.length c7) ys]:=H
 refine Cq U (BW (A8 (A8 (BX (Z (Aa (Ad (Ah 2 U (CA (xs:=zs) (ys:=al) U U U BJ De U (by decide) U U H (by first |omega|(simp only [List.length_append,List.length_cons,List.length_nil];omega)) (fun F hA hR=>hR _ (List.mem_of_getElem? (i:=0) U)) (fun v46 w H=>(Ac U ?_)))))))))))
 obtain ⟨A47,c48,rfl,hc49,hm50,hp51⟩:=H.fR 1 rfl
 refine CA (xs:=zs++al) (ys:=bl) U U U BJ De U (by decide) U U H (by first |omega|(simp only [List.length_append,List.length_cons,List.length_nil];omega)) (fun F hA hR=>hR _ (List.mem_of_getElem? (i:=1) U)) (fun v52 w H=>(Ac U (Ab (Z ?_))))
 replace H:Hd _ _ _ [Y Ag v52 ((zs++al)++bl)] [Ae Ag (.slice A19 al.length c20) al,Ae Ag (.slice A47 bl.length c48) bl,Ae Ag (.slice A1 xs.length c2) xs,Ae Ag (.slice A6 ys.length c7) ys]:=H
 refine Am (Aq U U ?_)
 replace H:Hd w0 F0 w [Y Ag v52 (srt (xs++ys))] [Ae Ag (.slice A19 al.length c20) al,Ae Ag (.slice A47 bl.length c48) bl,Ae Ag (.slice A1 xs.length c2) xs,Ae Ag (.slice A6 ys.length c7) ys]:=by rw [←hz,QR ha hb2 (by omega),←List.append_assoc];exact H
 replace H:=H.dropR|>.dropR
 exact Al U H
theorem bH (vus:Value) (us:List (Value×List Ap)) (hb:(CV us).length≤1000000):
    Cn Tryz.prog 254 [vus] [] [Ae (At Ag) vus us] (fun v Bs=>Bs=[Y Ag v (srt (CV us))]):=by
 intro w0 F0 H
 obtain ⟨A1,c2,rfl,hc3,hm4,hp5⟩:=H.fR 0 rfl
 refine enter Tryz.func254 U U (Nat.le_of_ble_eq_true U) (Aa (Ad (Ac U (Ab (Z ?_)))))
 replace H:Hd _ _ _ [] [Ae (At Ag) (.slice A1 us.length c2) us]:=H
 refine Aa (Ad (Ac U (Ab (Z (Aa (Aa (Ad (Ac U (V U U (Bn U Gm U) (Ac U (Ab (Z (AX ?_)))))))))))))
 replace H:=H.newnil Ag
 refine B1 (σ:=Nat×Value) (fun (k,q)=>[(2,.slice none 0 0),(3,q),(6,.slice A1 us.length c2),(7,.int .i64 ((us.length:Nat):Int)),(8,.int .i64 ((k:Nat):Int))]) (fun (k,q) w=>(Hd w0 F0 w [Y Ag q (srt (CV (us.take k)))] [Ae (At Ag) (.slice A1 us.length c2) us])∧(k≤us.length)) (fun (k,q)=>us.length - k) (0,.slice none 0 0) ⟨rfl,rfl,rfl,rfl,rfl,trivial⟩ ⟨H,by (try dsimp only);omega⟩ ?_
 rintro ⟨k,q⟩ w ⟨H,hk⟩
 have hsl:=GG (CV (us.take k))
 refine Aa (Ad (V U U (Br U U U) (Ab (Z (Aa ?_)))))
 refine AC U (fun h6=>?_) (fun h6=>?_)
 ·refine AB (Z (Aa (AX (Aa (Ad ?_)))))
  obtain ⟨⟨u9,x7⟩,hx8⟩:∃ z9,us[k]?=some z9:=⟨_,List.getElem?_eq_getElem (show k<us.length by omega)⟩
  obtain ⟨A10,c11,rfl,hc12,hm13⟩:=H.nestR 0 rfl hx8
  have th14:=H.thRd 0 rfl hx8
  refine V U U (Bi (p:=A_ A1+k*1) U G8 U U (by omega) (by omega) th14 U) (V U U (An U DG U (H.elRd 0 U hx8 U)) (Ac U (Ab (Z ?_))))
  have hfl:=O4 us (k+1)
  rw [O5 hx8,List.length_append] at hfl
  refine Ad (Ah 2 U (sc (dQ q (srt (CV (us.take k))) (.slice A10 x7.length c11) x7 (by first |omega|decide|(simp only [List.length_append,List.length_cons,List.length_nil,GG];omega))) H (lA 0 U B3 (lX (fun F hA hR=>KN (hR _ (List.mem_of_getElem? (i:=0) U)) hx8) l0)) U U (Av WI U U) ?_))
  rintro v15 _ w rfl H
  refine Ac U (Ab (Bb (Z ?_)))
  replace H:Hd _ _ _ [Y Ag v15 (srt ((srt (CV (us.take k)))++x7)),Y Ag q (srt (CV (us.take k)))] [Ae (At Ag) (.slice A1 us.length c2) us]:=H
  refine Ad (V U U (Be (z:=((k+1:Nat):Int)) U U U (by rw [AI (by omega) (by omega)];omega)) (Ac U (Ab ?_)))
  replace H:=H.k1
  replace H:Hd w0 F0 w [Y Ag v15 (srt (CV (us.take (k+1))))] [Ae (At Ag) (.slice A1 us.length c2) us]:=by rw [O5 hx8,←cO];exact H
  exact Bo (s:=(k,undef)) (k+1,v15) ⟨rfl,rfl,rfl,rfl,rfl,trivial⟩ ⟨H,by (try dsimp only);omega⟩ (by (try dsimp only);omega)
 refine BW (A8 (A8 (BX (Z (Aa (Ad (Ah 2 U (Ab (Z (Am (Aq U U ?_)))))))))))
 replace H:Hd w0 F0 w [Y Ag q (srt (CV us))] [Ae (At Ag) (.slice A1 us.length c2) us]:=by rw [List.take_of_length_le (show us.length≤k by omega)] at H;exact H
 exact Al U H
theorem QM (b:Nat) (vS:Value) (vM:Value) (vC:Value) (vR:Value) (vK:Value) (J:AS) (cw:Int) (ct:Int) (co:Int) (s:Nat) (att:Int) (cb:Nat) (fv:Value) (vw:Value):
    Cn Tryz.prog 137 [.pointer (some ⟨b,0,none⟩)] [blk cb [.int .u32 1,.int .i32 0,.int .u32 0,.int .u32 1,fv,.string (BE (AZ dg J s).1)] 305] [blk b [vS,.int .i64 J.parts,vM,vC,vR,.int .i64 J.chunk,.int .i64 J.window,.int .i64 J.fuel,vK,.int .i64 cw,.int .i64 ct,.int .i64 co,.int .i64 ((s:Nat):Int),.int .i64 att,.int .i64 ((AZ dg J s).2),.pointer (some ⟨cb,0,none⟩),vw] 215] (fun v Bs=>v=.int .i64 ((AZ dg J s).2)∧Bs=[blk cb [.int .u32 1,.int .i32 0,.int .u32 0,.int .u32 1,fv,.string (BE (AZ dg J s).1)] 305]):=by
 intro w0 F0 H
 refine enter Tryz.func137 U U (Nat.le_of_ble_eq_true U) (Aa (Ad (Ac U (Ab (Z (Aa (Aa (Ad (Ac U (V U U (C1 U Lz U U) (Ab (Z (Cq U (AB (Z (Aa (Ad (Ac U (V U U (AH U U) (V U U (Aj U Pe U) (V U U (An U FF U (H.cellRI 0 U U)) (sc (Mj cb fv (BE (AZ dg J s).1)) H l0 U U (Av Kx U U) ?_))))))))))))))))))))))
 rintro _ _ w ⟨rfl,rfl⟩ H
 refine Ab (Z ?_)
 replace H:Hd _ _ _ [blk cb [.int .u32 1,.int .i32 0,.int .u32 0,.int .u32 1,fv,.string (BE (AZ dg J s).1)] 305] [blk b [vS,.int .i64 J.parts,vM,vC,vR,.int .i64 J.chunk,.int .i64 J.window,.int .i64 J.fuel,vK,.int .i64 cw,.int .i64 ct,.int .i64 co,.int .i64 ((s:Nat):Int),.int .i64 att,.int .i64 ((AZ dg J s).2),.pointer (some ⟨cb,0,none⟩),vw] 215]:=H
 exact Aa (Ad (Ac U (V U U (AH U U) (V U U (Aj U UU U) (V U U (An U AE U (H.cellRI 0 U U)) (Ac U (Ab (Z (Am (Aq U U (Al ⟨rfl,rfl⟩ H)))))))))))
theorem QL (b:Nat) (vS:Value) (vM:Value) (vC:Value) (vR:Value) (vK:Value) (J:AS) (cw:Int) (ct:Int) (co:Int) (s:Nat) (att:Int) (cb:Nat) (fv:Value) (vw:Value) (p:Int) (hJ:Df J):
    Cn Tryz.prog 189 [.pointer (some ⟨b,0,none⟩),.int .i64 p] [blk cb [.int .u32 1,.int .i32 0,.int .u32 0,.int .u32 1,fv,.string (BE (AZ dg J s).1)] 305] [blk b [vS,.int .i64 J.parts,vM,vC,vR,.int .i64 J.chunk,.int .i64 J.window,.int .i64 J.fuel,vK,.int .i64 cw,.int .i64 ct,.int .i64 co,.int .i64 ((s:Nat):Int),.int .i64 att,.int .i64 ((AZ dg J s).2),.pointer (some ⟨cb,0,none⟩),vw] 215] (fun v Bs=>Bs=[Y Ag v (DI dg J s p),blk cb [.int .u32 1,.int .i32 0,.int .u32 0,.int .u32 1,fv,.string (BE (AZ dg J s).1)] 305]):=by
 intro w0 F0 H
 have hlen:(AZ dg J s).1.length≤1000:=by have:=Lp dg J s;omega
 have hszs:∀ p∈(AZ dg J s).1,p.key.size≤100∧p.val.size≤100:=fun x hx=>by have:=Nx KQ hJ s x hx;unfold C2 at this;omega
 have hsk:∀ x∈(AZ dg J s).1,x.key.size≤9223372036854775807:=fun x hx=>by have:=(hszs x hx).1;omega
 have hpt:=hJ.parts
 have hck:=hJ.chunk1
 have hol:=MT dg J s
 refine enter Tryz.func189 U U (Nat.le_of_ble_eq_true U) (Aa (Ad (Ac U (Ab (Z (Aa (Cc (.e 0 (.e 1 (.e 2 (.e 3 (.e 6 (.e 7 (.e 8 (.e 9 (.e 10 (.e 11 (.e 12 (.m 4 (.m 5 (.m 13 (.e 14 .z))))))))))))))) (fun w=>∃ Ar,Hd w0 F0 w (blk cb [.int .u32 1,.int .i32 0,.int .u32 0,.int .u32 1,fv,.string (BE (AZ dg J s).1)] 305::Ar) [blk b [vS,.int .i64 J.parts,vM,vC,vR,.int .i64 J.chunk,.int .i64 J.window,.int .i64 J.fuel,vK,.int .i64 cw,.int .i64 ct,.int .i64 co,.int .i64 ((s:Nat):Int),.int .i64 att,.int .i64 ((AZ dg J s).2),.pointer (some ⟨cb,0,none⟩),vw] 215]) mo (by kernel_rfl) (fun w H=>⟨_,H⟩) H (fun w H=>(Au U (Ao U U U (fun w ⟨Ar,H⟩=>AH U U) (Ao U U U (fun w ⟨Ar,H⟩=>Aj U Pe U) (Ao U U U (fun w ⟨Ar,H⟩=>An U FF U (H.cellRI 0 U U)) (Au U ?_)))))))))))))
 refine Ao U U U (fun w ⟨Ar,H⟩=>AH U U) (Ao U U U (fun w ⟨Ar,H⟩=>Aj U L6 U) (Ao U U U (fun w ⟨Ar,H⟩=>Aj U DL U) (Ao U U U (fun w ⟨Ar,H⟩=>Aj U Ji U) (Ao U U U (fun w ⟨Ar,H⟩=>An U AE U (H.cellRI 0 U U)) (Au U (AO U (sc (Mj cb fv (BE (AZ dg J s).1)) H l0 U U (Av Kx U U) ?_)))))))
 rintro _ _ w ⟨rfl,rfl⟩ H
 replace H:Hd _ _ _ [blk cb [.int .u32 1,.int .i32 0,.int .u32 0,.int .u32 1,fv,.string (BE (AZ dg J s).1)] 305] [blk b [vS,.int .i64 J.parts,vM,vC,vR,.int .i64 J.chunk,.int .i64 J.window,.int .i64 J.fuel,vK,.int .i64 cw,.int .i64 ct,.int .i64 co,.int .i64 ((s:Nat):Int),.int .i64 att,.int .i64 ((AZ dg J s).2),.pointer (some ⟨cb,0,none⟩),vw] 215]:=H
 refine AG ⟨_,H⟩ (AO U (sc (eD ((AZ dg J s).1) (by first |assumption|omega|exact hlen|exact hszs) (by first |assumption|omega|exact hlen|exact hszs)) H l0 U U (Av Ws U U) ?_))
 rintro v1 _ w rfl H
 replace H:=H.h1 (A:=Y Ag v1 ((AZ dg J s).1))|>.p1
 refine AG ⟨_,H⟩ (AO U (sc (YO v1 ((AZ dg J s).1) J.parts p (by first |omega|(rw [GG];omega)) (by omega) (by assumption)) H (lA 1 U B3 l0) U U (Av Wr U U) ?_))
 rintro v2 _ w rfl H
 replace H:=H.h1 (A:=Y Ag v2 (Fo ((AZ dg J s).1) J.parts p))|>.p1
 refine AG ⟨_,H⟩ (Au U (BN (Z (Am (Aq U U ?_)))))
 replace H:=H.p1.k2.h1 (A:=Y Ag v2 (DI dg J s p))
 exact Al U H
theorem QN (b:Nat) (vS:Value) (vM:Value) (vC:Value) (vR:Value) (vK:Value) (J:AS) (cw:Int) (ct:Int) (co:Int) (s:Nat) (att:Int) (cb:Nat) (vw:Value) (hJ:Df J):
    Cn Tryz.prog 190 [.pointer (some ⟨b,0,none⟩)] [] [blk b [vS,.int .i64 J.parts,vM,vC,vR,.int .i64 J.chunk,.int .i64 J.window,.int .i64 J.fuel,vK,.int .i64 cw,.int .i64 ct,.int .i64 co,.int .i64 ((s:Nat):Int),.int .i64 att,.int .i64 ((AZ dg J s).2),.pointer (some ⟨cb,0,none⟩),vw] 215] (fun v Bs=>v=.int .i64 (Ew J.chunk att)∧Bs=[]):=by
 intro w0 F0 H
 have hck:=hJ.chunk1
 refine enter Tryz.func190 U U (Nat.le_of_ble_eq_true U) (Aa (Ad (Ac U (Ab (Z (Aa (Cc (.e 0 (.e 1 (.e 2 (.e 3 (.e 4 (.e 5 (.e 6 (.e 7 (.e 8 (.e 9 (.m 10 (.e 11 .z)))))))))))) (fun w=>∃ Ar,Hd w0 F0 w (Ar) [blk b [vS,.int .i64 J.parts,vM,vC,vR,.int .i64 J.chunk,.int .i64 J.window,.int .i64 J.fuel,vK,.int .i64 cw,.int .i64 ct,.int .i64 co,.int .i64 ((s:Nat):Int),.int .i64 att,.int .i64 ((AZ dg J s).2),.pointer (some ⟨cb,0,none⟩),vw] 215]) mo (by kernel_rfl) (fun w H=>⟨_,H⟩) H (fun w H=>(Au U (Ao U U U (fun w ⟨Ar,H⟩=>AH U U) (Ao U U U (fun w ⟨Ar,H⟩=>Aj U L6 U) (Ao U U U (fun w ⟨Ar,H⟩=>Aj U DL U) (Ao U U U (fun w ⟨Ar,H⟩=>Aj U Pg U) (Ao U U U (fun w ⟨Ar,H⟩=>An U AE U (H.cellRI 0 U U)) (Au U (Ao U U U (fun w ⟨Ar,H⟩=>AH U U) ?_))))))))))))))))
 refine Ao U U U (fun w ⟨Ar,H⟩=>Aj U Pd U) (Ao U U U (fun w ⟨Ar,H⟩=>An U AE U (H.cellRI 0 U U)) (AO U (sc (T7 J.chunk att (by first |assumption|omega|exact hlen|exact hszs)) H l0 U U (Av Wt U U) ?_)))
 rintro _ _ w ⟨rfl,rfl⟩ H
 replace H:Hd _ _ _ [] [blk b [vS,.int .i64 J.parts,vM,vC,vR,.int .i64 J.chunk,.int .i64 J.window,.int .i64 J.fuel,vK,.int .i64 cw,.int .i64 ct,.int .i64 co,.int .i64 ((s:Nat):Int),.int .i64 att,.int .i64 ((AZ dg J s).2),.pointer (some ⟨cb,0,none⟩),vw] 215]:=H
 exact AG ⟨_,H⟩ (Au U (BN (Z (Am (Aq U U (Al ⟨rfl,rfl⟩ H))))))
theorem XP (b:Nat) (vS:Value) (vM:Value) (vC:Value) (vR:Value) (vK:Value) (J:AS) (cw:Int) (ct:Int) (co:Int) (s:Nat) (att:Int) (cb:Nat) (fv:Value) (vw:Value) (hJ:Df J):
    Cn Tryz.prog 136 [.pointer (some ⟨b,0,none⟩)] [blk cb [.int .u32 1,.int .i32 0,.int .u32 0,.int .u32 1,fv,.string (BE (AZ dg J s).1)] 305] [blk b [vS,.int .i64 J.parts,vM,vC,vR,.int .i64 J.chunk,.int .i64 J.window,.int .i64 J.fuel,vK,.int .i64 cw,.int .i64 ct,.int .i64 co,.int .i64 ((s:Nat):Int),.int .i64 att,.int .i64 ((AZ dg J s).2),.pointer (some ⟨cb,0,none⟩),vw] 215] (fun v Bs=>Bs=[Y (Ai .i64) v (CU dg J s att),blk cb [.int .u32 1,.int .i32 0,.int .u32 0,.int .u32 1,fv,.string (BE (AZ dg J s).1)] 305]):=by
 intro w0 F0 H
 have hlen:(AZ dg J s).1.length≤1000:=by have:=Lp dg J s;omega
 have hszs:∀ p∈(AZ dg J s).1,p.key.size≤100∧p.val.size≤100:=fun x hx=>by have:=Nx KQ hJ s x hx;unfold C2 at this;omega
 have hsk:∀ x∈(AZ dg J s).1,x.key.size≤9223372036854775807:=fun x hx=>by have:=(hszs x hx).1;omega
 have hpt:=hJ.parts
 have hck:=hJ.chunk1
 have hol:=MT dg J s
 refine enter Tryz.func136 U U (Nat.le_of_ble_eq_true U) (Aa (Ad (Ac U (Ab (Z (Aa (Aa (Ad (Ac U (V U U (C1 U Lz U U) (Ah 2 U (sc (QM b vS vM vC vR vK J cw ct co s att cb fv vw) H (lR 0 U l0) U U (Av Mu U U) ?_))))))))))))
 rintro _ _ w ⟨rfl,rfl⟩ H
 refine V U U (CG U U U) (Ac U (Ab (Z ?_)))
 replace H:Hd _ _ _ [blk cb [.int .u32 1,.int .i32 0,.int .u32 0,.int .u32 1,fv,.string (BE (AZ dg J s).1)] 305] [blk b [vS,.int .i64 J.parts,vM,vC,vR,.int .i64 J.chunk,.int .i64 J.window,.int .i64 J.fuel,vK,.int .i64 cw,.int .i64 ct,.int .i64 co,.int .i64 ((s:Nat):Int),.int .i64 att,.int .i64 ((AZ dg J s).2),.pointer (some ⟨cb,0,none⟩),vw] 215]:=H
 refine AC U (fun h1=>?_) (fun h1=>?_)
 ·refine Aa (Ad (Ac U (Ab (Z (Am (Az (Aq U U ?_)))))))
  replace H:=H.newnil (Ai .i64)|>.tellK (ys:=CU dg J s att) (by rw [T2 h1])|>.h1 (A:=Y (Ai .i64) (.slice none 0 0) (CU dg J s att))
  exact Al U H
 refine AB (Z (Aa (Ad (Ac U (Ab (Z (Aa (Aa (Ad (Ac U (V U U (AH U U) (V U U (Aj U L6 U) (V U U (Aj U DL U) (V U U (Aj U Ji U) (V U U (An U AE U (H.cellRI 0 U U)) (Ac U (Ab (Z (AX ?_)))))))))))))))))))
 replace H:=H.newnil (Ai .i64)|>.tellK (ys:=Ft dg J s att 0) (by rfl)
 refine B1 (σ:=Nat×Value) (fun (k,q)=>[(0,.pointer (some ⟨b,0,none⟩)),(2,.slice none 0 0),(3,q),(17,.int .i64 J.parts),(18,.int .i64 ((k:Nat):Int))]) (fun (k,q) w=>(Hd w0 F0 w [Y (Ai .i64) q (Ft dg J s att k),blk cb [.int .u32 1,.int .i32 0,.int .u32 0,.int .u32 1,fv,.string (BE (AZ dg J s).1)] 305] [blk b [vS,.int .i64 J.parts,vM,vC,vR,.int .i64 J.chunk,.int .i64 J.window,.int .i64 J.fuel,vK,.int .i64 cw,.int .i64 ct,.int .i64 co,.int .i64 ((s:Nat):Int),.int .i64 att,.int .i64 ((AZ dg J s).2),.pointer (some ⟨cb,0,none⟩),vw] 215])∧((k:Int)≤J.parts)) (fun (k,q)=>J.parts.toNat - k) (0,.slice none 0 0) ⟨rfl,rfl,rfl,rfl,rfl,trivial⟩ ⟨H,by omega⟩ ?_
 rintro ⟨k,q⟩ w ⟨H,hk⟩
 have hcl:=TR dg J s att k
 have holk:=hol ((k:Nat):Int)
 refine Aa (Ad (V U U (Br U U U) (Ab (Z (Aa ?_)))))
 refine AC U (fun h2=>?_) (fun h2=>?_)
 ·refine AB (Z (Aa (AX (Aa (Ad (Ah 2 U (Ab (Z (Ad (Ah 3 U ?_))))))))))
  replace H:=H.p1
  replace H:Hd _ _ _ [blk cb [.int .u32 1,.int .i32 0,.int .u32 0,.int .u32 1,fv,.string (BE (AZ dg J s).1)] 305,Y (Ai .i64) q (Ft dg J s att k)] [blk b [vS,.int .i64 J.parts,vM,vC,vR,.int .i64 J.chunk,.int .i64 J.window,.int .i64 J.fuel,vK,.int .i64 cw,.int .i64 ct,.int .i64 co,.int .i64 ((s:Nat):Int),.int .i64 att,.int .i64 ((AZ dg J s).2),.pointer (some ⟨cb,0,none⟩),vw] 215]:=H
  refine sc (QL b vS vM vC vR vK J cw ct co s att cb fv vw ((k:Nat):Int) (by first |assumption|omega|exact hlen|exact hszs)) H (lR 0 U l0) U U (Av P6 U U) ?_
  rintro v3 _ w rfl H
  obtain ⟨A4,c5,rfl,hc6,hm7,hp8⟩:=H.fA 0 rfl
  refine V U U (Bn U Do U) (Ac U ?_)
  replace H:Hd _ _ _ [Y Ag (.slice A4 ((DI dg J s ((k:Nat):Int)).length) c5) (DI dg J s ((k:Nat):Int)),blk cb [.int .u32 1,.int .i32 0,.int .u32 0,.int .u32 1,fv,.string (BE (AZ dg J s).1)] 305,Y (Ai .i64) q (Ft dg J s att k)] [blk b [vS,.int .i64 J.parts,vM,vC,vR,.int .i64 J.chunk,.int .i64 J.window,.int .i64 J.fuel,vK,.int .i64 cw,.int .i64 ct,.int .i64 co,.int .i64 ((s:Nat):Int),.int .i64 att,.int .i64 ((AZ dg J s).2),.pointer (some ⟨cb,0,none⟩),vw] 215]:=H
  refine sc (QN b vS vM vC vR vK J cw ct co s att cb vw (by first |assumption|omega|exact hlen|exact hszs)) H (lR 0 U l0) U U (Av P7 U U) ?_
  rintro _ _ w ⟨rfl,rfl⟩ H
  refine sc (OI (((DI dg J s ((k:Nat):Int)).length:Nat):Int) (Ew J.chunk att) (by first |assumption|omega|exact hlen|exact hszs)) H l0 U U (Av P5 U U) ?_
  rintro _ _ w ⟨rfl,rfl⟩ H
  refine Cb (parts:=[(0,.tmp 28)]) (vs:=[.int .i64 (Fi (((DI dg J s ((k:Nat):Int)).length:Nat):Int) (Ew J.chunk att))]) (cs:=[.int .i64 (Fi (((DI dg J s ((k:Nat):Int)).length:Nat):Int) (Ew J.chunk att))]) U U U DA E2 U (by decide) (by decide) U U H (fun b9 w H=>?_)
  replace H:=H.p3
  refine CA (xs:=Ft dg J s att k) (ys:=[Fi (((DI dg J s ((k:Nat):Int)).length:Nat):Int) (Ew J.chunk att)]) U U U DA E2 U (by decide) U U H (by first |omega|(simp only [List.length_append,List.length_cons,List.length_nil];omega)) (fun F hA hR=>Cy (hA _ (List.mem_of_getElem? (i:=0) U)) U (by decide) (Bc.flat_eq.2 U)) (fun v10 w H=>(Ac U (Ab (Bb (Z ?_)))))
  replace H:Hd _ _ _ [Y (Ai .i64) v10 ((Ft dg J s att k)++[Fi (((DI dg J s ((k:Nat):Int)).length:Nat):Int) (Ew J.chunk att)]),blk b9 [.int .i64 (Fi (((DI dg J s ((k:Nat):Int)).length:Nat):Int) (Ew J.chunk att))] 3,Y Ag (.slice A4 ((DI dg J s ((k:Nat):Int)).length) c5) (DI dg J s ((k:Nat):Int)),blk cb [.int .u32 1,.int .i32 0,.int .u32 0,.int .u32 1,fv,.string (BE (AZ dg J s).1)] 305] [blk b [vS,.int .i64 J.parts,vM,vC,vR,.int .i64 J.chunk,.int .i64 J.window,.int .i64 J.fuel,vK,.int .i64 cw,.int .i64 ct,.int .i64 co,.int .i64 ((s:Nat):Int),.int .i64 att,.int .i64 ((AZ dg J s).2),.pointer (some ⟨cb,0,none⟩),vw] 215]:=H
  refine Ad (V U U (Be (z:=((k+1:Nat):Int)) U U U (by rw [AI (by omega) (by omega)];omega)) (Ac U (Ab ?_)))
  replace H:=H.p3.p1.k2.tellK (ys:=Ft dg J s att (k+1)) (by rw [TT])
  exact Bo (s:=(k,undef)) (k+1,v10) ⟨rfl,rfl,rfl,rfl,rfl,trivial⟩ ⟨H,by (try dsimp only);omega⟩ (by (try dsimp only);omega)
 refine BW (A8 (A8 (BX (Z (Aa (Ad (Ah 2 U (Ab (Z (Am (Aq U U ?_)))))))))))
 have hkk:k=J.parts.toNat:=by omega
 replace H:=H.tellK (ys:=CU dg J s att) (by rw [T3 (Classical.not_not.1 h1),←hkk])
 replace H:Hd _ _ _ [Y (Ai .i64) q (CU dg J s att),blk cb [.int .u32 1,.int .i32 0,.int .u32 0,.int .u32 1,fv,.string (BE (AZ dg J s).1)] 305] [blk b [vS,.int .i64 J.parts,vM,vC,vR,.int .i64 J.chunk,.int .i64 J.window,.int .i64 J.fuel,vK,.int .i64 cw,.int .i64 ct,.int .i64 co,.int .i64 ((s:Nat):Int),.int .i64 att,.int .i64 ((AZ dg J s).2),.pointer (some ⟨cb,0,none⟩),vw] 215]:=H
 exact Al U H
theorem XO (b:Nat) (vS:Value) (vM:Value) (vC:Value) (vR:Value) (vK:Value) (J:AS) (cw:Int) (ct:Int) (co:Int) (s:Nat) (att:Int) (cb:Nat) (fv:Value) (vw:Value) (p:Int) (q:Int) (hJ:Df J):
    Cn Tryz.prog 193 [.pointer (some ⟨b,0,none⟩),.int .i64 p,.int .i64 q] [blk cb [.int .u32 1,.int .i32 0,.int .u32 0,.int .u32 1,fv,.string (BE (AZ dg J s).1)] 305] [blk b [vS,.int .i64 J.parts,vM,vC,vR,.int .i64 J.chunk,.int .i64 J.window,.int .i64 J.fuel,vK,.int .i64 cw,.int .i64 ct,.int .i64 co,.int .i64 ((s:Nat):Int),.int .i64 att,.int .i64 ((AZ dg J s).2),.pointer (some ⟨cb,0,none⟩),vw] 215] (fun v Bs=>Bs=[Y Ag v (Dq dg J s att p q),blk cb [.int .u32 1,.int .i32 0,.int .u32 0,.int .u32 1,fv,.string (BE (AZ dg J s).1)] 305]):=by
 intro w0 F0 H
 have hlen:(AZ dg J s).1.length≤1000:=by have:=Lp dg J s;omega
 have hszs:∀ p∈(AZ dg J s).1,p.key.size≤100∧p.val.size≤100:=fun x hx=>by have:=Nx KQ hJ s x hx;unfold C2 at this;omega
 have hsk:∀ x∈(AZ dg J s).1,x.key.size≤9223372036854775807:=fun x hx=>by have:=(hszs x hx).1;omega
 have hpt:=hJ.parts
 have hck:=hJ.chunk1
 have hol:=MT dg J s
 have hcs:=T8 (att:=att) hck
 have holp:=hol p
 refine enter Tryz.func193 U U (Nat.le_of_ble_eq_true U) (Aa (Ad (Ac U (Ab (Z (Aa (Aa (Ad (Ac U (V U U (C1 U Lz U U) (Ah 2 U (V U U (Br U U U) (Ac U (Ab (Z ?_)))))))))))))))
 refine AC U (fun h1=>?_) (fun h1=>?_)
 ·refine Aa (Ad (Ac U (Ab (Z (Am (Az (Aq U U ?_)))))))
  replace H:=H.newnil Ag
  replace H:Hd _ _ _ [Y Ag (.slice none 0 0) [],blk cb [.int .u32 1,.int .i32 0,.int .u32 0,.int .u32 1,fv,.string (BE (AZ dg J s).1)] 305] [blk b [vS,.int .i64 J.parts,vM,vC,vR,.int .i64 J.chunk,.int .i64 J.window,.int .i64 J.fuel,vK,.int .i64 cw,.int .i64 ct,.int .i64 co,.int .i64 ((s:Nat):Int),.int .i64 att,.int .i64 ((AZ dg J s).2),.pointer (some ⟨cb,0,none⟩),vw] 215]:=H
  replace H:=H.tellK (ys:=Dq dg J s att p q) (by rw [show Dq dg J s att p q=[] from if_pos h1])|>.h1 (A:=Y Ag (.slice none 0 0) (Dq dg J s att p q))
  exact Al U H
 refine AB (Z (Aa (Ad (Ah 2 U (sc (QL b vS vM vC vR vK J cw ct co s att cb fv vw p (by first |assumption|omega|exact hlen|exact hszs)) H (lR 0 U l0) U U (Av P6 U U) ?_)))))
 rintro v2 _ w rfl H
 refine Ac U ?_
 replace H:Hd _ _ _ [Y Ag v2 (DI dg J s p),blk cb [.int .u32 1,.int .i32 0,.int .u32 0,.int .u32 1,fv,.string (BE (AZ dg J s).1)] 305] [blk b [vS,.int .i64 J.parts,vM,vC,vR,.int .i64 J.chunk,.int .i64 J.window,.int .i64 J.fuel,vK,.int .i64 cw,.int .i64 ct,.int .i64 co,.int .i64 ((s:Nat):Int),.int .i64 att,.int .i64 ((AZ dg J s).2),.pointer (some ⟨cb,0,none⟩),vw] 215]:=H
 refine sc (QN b vS vM vC vR vK J cw ct co s att cb vw (by first |assumption|omega|exact hlen|exact hszs)) H (lR 0 U l0) U U (Av P7 U U) ?_
 rintro _ _ w ⟨rfl,rfl⟩ H
 refine Ac U (sc (T5 v2 (DI dg J s p) (Ew J.chunk att) q (by first |assumption|omega|exact hlen|exact hszs) (by first |assumption|omega|exact hlen|exact hszs)) H (lA 0 U B3 l0) U U (Av Wu U U) ?_)
 rintro v3 _ w rfl H
 replace H:=H.h1 (A:=Y Ag v3 (Fu (DI dg J s p) (Ew J.chunk att) q))
 refine Ac U (Ab (Z (Am (Aq U U ?_))))
 replace H:=H.p2.p1.k2.tellK (ys:=Dq dg J s att p q) (by rw [show Dq dg J s att p q=Fu (DI dg J s p) (Ew J.chunk att) q from if_neg h1])|>.h1 (A:=Y Ag v3 (Dq dg J s att p q))
 exact Al U H
theorem eU (b:Nat) (c:Int) (s:Int) (e:Int) (x:Int) (h:0≤c∧c≤40∧1≤s∧s≤4) (hx:0≤x∧x≤c):
    Cn Tryz.prog 192 [.pointer (some ⟨b,0,none⟩)] [] [blk b [.int .i64 c,.int .i64 s,.int .i64 e,.int .i64 x] 279] (fun v Bs=>Bs=[Y (Ai .i64) v (DN c s x)]):=by
 intro w0 F0 H
 refine enter Tryz.func192 U U (Nat.le_of_ble_eq_true U) (Aa (Ad (Ac U (Ab (Z (Aa (Aa (Ad (Ac U (V U U (C1 U d_ U U) (Ab (Z (Cq U (AB (Z (Aa (Ad (Ac U (Ab (Z (Aa (Aa (GP mo (by kernel_rfl) H (Em U (BH U U (fun w H=>AH U U) (BH U U (fun w H=>Aj U UZ U) (BH U U (fun w H=>An U AE U (H.cellRI 0 U U)) (Em U (BH U U (fun w H=>AH U U) (BH U U (fun w H=>Aj U UY U) (BH U U (fun w H=>An U AE U (H.cellRI 0 U U)) (Em U (BH U U (fun w H=>AH U U) (BH U U (fun w H=>Aj U Pi U) (BH U U (fun w H=>An U AE U (H.cellRI 0 U U)) (BH U U (fun w H=>CK (z:=c - x) U U U (AI (by omega) (by omega))) ?_))))))))))))))))))))))))))))))))))))
 refine BH U U (fun w H=>HW (z:=min s (c - x)) U U U U) (Em U (Ha (fun w H=>(Z (AX ?_)))))
 replace H:=H.newnil (Ai .i64)
 refine B1 (σ:=Nat×Value) (fun (k,l)=>[(0,.pointer (some ⟨b,0,none⟩)),(2,.slice none 0 0),(3,l),(20,.int .i64 (min s (c - x))),(21,.int .i64 ((k:Nat):Int))]) (fun (k,l) w=>(Hd w0 F0 w [Y (Ai .i64) l (Hc x k)] [blk b [.int .i64 c,.int .i64 s,.int .i64 e,.int .i64 x] 279])∧(k≤(min s (c - x)).toNat)) (fun (k,l)=>(min s (c - x)).toNat - k) (0,.slice none 0 0) ⟨rfl,rfl,rfl,rfl,rfl,trivial⟩ ⟨H,by omega⟩ ?_
 rintro ⟨k,l⟩ w ⟨H,hk⟩
 refine Aa (Ad (V U U (Br U U U) (Ab (Z (Aa ?_)))))
 refine AC U (fun h1=>?_) (fun h1=>?_)
 ·refine AB (Z (Aa (AX (Aa (Ad (Ah 2 U (Ab (Z (Ad (Ah 2 U (V U U (AH U U) (V U U (Aj U Pi U) (V U U (An U AE U (H.cellRI 0 U U)) (Ac U (V U U (Be (z:=x+((k:Nat):Int)) U U U (AI (by omega) (by omega))) (Cb (parts:=[(0,.tmp 30)]) (vs:=[.int .i64 (x+((k:Nat):Int))]) (cs:=[.int .i64 (x+((k:Nat):Int))]) U U U DA E2 U (by decide) (by decide) U U H (fun b2 w H=>?_)))))))))))))))))
  replace H:=H.p1
  refine CA (xs:=Hc x k) (ys:=[x+((k:Nat):Int)]) U U U DA E2 U (by decide) U U H (by simp only [SG,List.length_cons,List.length_nil];omega) (fun F hA hR=>Cy (hA _ (List.mem_of_getElem? (i:=0) U)) U (by decide) (Bc.flat_eq.2 U)) (fun v3 w H=>(Ac U (Ab (Bb (Z ?_)))))
  replace H:Hd _ _ _ [Y (Ai .i64) v3 ((Hc x k)++[x+((k:Nat):Int)]),blk b2 [.int .i64 (x+((k:Nat):Int))] 3] [blk b [.int .i64 c,.int .i64 s,.int .i64 e,.int .i64 x] 279]:=H
  refine Ad (V U U (Be (z:=((k+1:Nat):Int)) U U U (by rw [AI (by omega) (by omega)];omega)) (Ac U (Ab ?_)))
  rw [←eE] at H
  replace H:=H.k1
  exact Bo (s:=(k,undef)) (k+1,v3) ⟨rfl,rfl,rfl,rfl,rfl,trivial⟩ ⟨H,by omega⟩ (by (try dsimp only);omega)
 refine BW (A8 (A8 (BX (Z (Aa (Ad (Ah 2 U (Ab (Z (Am (Aq U U ?_)))))))))))
 obtain rfl:k=(min s (c - x)).toNat:=by omega
 exact Al U H
def C8 (b:Nat) (J:AS) (M:Cu):SP:=ex fun vS:Value=>ex fun vM:Value=>ex fun vC:Value=>ex fun vR:Value=>ex fun vK:Value=>ex fun J2:AS=>ex fun cw:Int=>ex fun ct:Int=>ex fun co:Int=>ex fun cb:Nat=>ex fun fv:Value=>ex fun vw:Value=>ex fun ws:List (Nat×CZ)=>BV [BT ((Bj J2 J)∧(ws.map Prod.snd=M.ws)),blk b [vS,.int .i64 J2.parts,vM,vC,vR,.int .i64 J2.chunk,.int .i64 J2.window,.int .i64 J2.fuel,vK,.int .i64 cw,.int .i64 ct,.int .i64 co,.int .i64 ((M.sp:Nat):Int),.int .i64 M.att,.int .i64 ((AZ dg J2 M.sp).2),.pointer (some ⟨cb,0,none⟩),vw] 215,blk cb [.int .u32 1,.int .i32 0,.int .u32 0,.int .u32 1,fv,.string (BE (AZ dg J2 M.sp).1)] 305,Y (At Ag) vS J2.us,Y Af vM J2.map,Y Af vC J2.comb,Y Af vR J2.red,Y (Ai .i64) vK J2.marks,Y Ds vw (ws.map Prod.fst),BK (Dj 279) ws]
theorem MJ (b:Nat) (J:AS) (M:Cu) {w0 w:World} {F0:AU} {As Rs:List SP} (H:Hd w0 F0 w (C8 b J M::As) Rs):∃ vS:Value,∃ vM:Value,∃ vC:Value,∃ vR:Value,∃ vK:Value,∃ J2:AS,∃ cw:Int,∃ ct:Int,∃ co:Int,∃ cb:Nat,∃ fv:Value,∃ vw:Value,∃ ws:List (Nat×CZ),((Bj J2 J)∧(ws.map Prod.snd=M.ws))∧Hd w0 F0 w ([blk b [vS,.int .i64 J2.parts,vM,vC,vR,.int .i64 J2.chunk,.int .i64 J2.window,.int .i64 J2.fuel,vK,.int .i64 cw,.int .i64 ct,.int .i64 co,.int .i64 ((M.sp:Nat):Int),.int .i64 M.att,.int .i64 ((AZ dg J2 M.sp).2),.pointer (some ⟨cb,0,none⟩),vw] 215,blk cb [.int .u32 1,.int .i32 0,.int .u32 0,.int .u32 1,fv,.string (BE (AZ dg J2 M.sp).1)] 305,Y (At Ag) vS J2.us,Y Af vM J2.map,Y Af vC J2.comb,Y Af vR J2.red,Y (Ai .i64) vK J2.marks,Y Ds vw (ws.map Prod.fst),BK (Dj 279) ws]++As) Rs:=by
 obtain ⟨vS,H⟩:=Hd.exA H
 obtain ⟨vM,H⟩:=Hd.exA H
 obtain ⟨vC,H⟩:=Hd.exA H
 obtain ⟨vR,H⟩:=Hd.exA H
 obtain ⟨vK,H⟩:=Hd.exA H
 obtain ⟨J2,H⟩:=Hd.exA H
 obtain ⟨cw,H⟩:=Hd.exA H
 obtain ⟨ct,H⟩:=Hd.exA H
 obtain ⟨co,H⟩:=Hd.exA H
 obtain ⟨cb,H⟩:=Hd.exA H
 obtain ⟨fv,H⟩:=Hd.exA H
 obtain ⟨vw,H⟩:=Hd.exA H
 obtain ⟨ws,H⟩:=Hd.exA H
 exact ⟨vS,vM,vC,vR,vK,J2,cw,ct,co,cb,fv,vw,ws,H.stA.puA⟩
theorem MK (b:Nat) (J:AS) (M:Cu) (vS:Value) (vM:Value) (vC:Value) (vR:Value) (vK:Value) (J2:AS) (cw:Int) (ct:Int) (co:Int) (cb:Nat) (fv:Value) (vw:Value) (ws:List (Nat×CZ)) {w0 w:World} {F0:AU} {As Rs:List SP} (hp:(Bj J2 J)∧(ws.map Prod.snd=M.ws)) (H:Hd w0 F0 w ([blk b [vS,.int .i64 J2.parts,vM,vC,vR,.int .i64 J2.chunk,.int .i64 J2.window,.int .i64 J2.fuel,vK,.int .i64 cw,.int .i64 ct,.int .i64 co,.int .i64 ((M.sp:Nat):Int),.int .i64 M.att,.int .i64 ((AZ dg J2 M.sp).2),.pointer (some ⟨cb,0,none⟩),vw] 215,blk cb [.int .u32 1,.int .i32 0,.int .u32 0,.int .u32 1,fv,.string (BE (AZ dg J2 M.sp).1)] 305,Y (At Ag) vS J2.us,Y Af vM J2.map,Y Af vC J2.comb,Y Af vR J2.red,Y (Ai .i64) vK J2.marks,Y Ds vw (ws.map Prod.fst),BK (Dj 279) ws]++As) Rs):Hd w0 F0 w (C8 b J M::As) Rs:=by
 have H1:=(show Hd w0 F0 w ([BT ((Bj J2 J)∧(ws.map Prod.snd=M.ws)),blk b [vS,.int .i64 J2.parts,vM,vC,vR,.int .i64 J2.chunk,.int .i64 J2.window,.int .i64 J2.fuel,vK,.int .i64 cw,.int .i64 ct,.int .i64 co,.int .i64 ((M.sp:Nat):Int),.int .i64 M.att,.int .i64 ((AZ dg J2 M.sp).2),.pointer (some ⟨cb,0,none⟩),vw] 215,blk cb [.int .u32 1,.int .i32 0,.int .u32 0,.int .u32 1,fv,.string (BE (AZ dg J2 M.sp).1)] 305,Y (At Ag) vS J2.us,Y Af vM J2.map,Y Af vC J2.comb,Y Af vR J2.red,Y (Ai .i64) vK J2.marks,Y Ds vw (ws.map Prod.fst),BK (Dj 279) ws]++As) Rs from H.puI hp).stI
 replace H1:=Hd.exI (A:=fun ws:List (Nat×CZ)=>BV [BT ((Bj J2 J)∧(ws.map Prod.snd=M.ws)),blk b [vS,.int .i64 J2.parts,vM,vC,vR,.int .i64 J2.chunk,.int .i64 J2.window,.int .i64 J2.fuel,vK,.int .i64 cw,.int .i64 ct,.int .i64 co,.int .i64 ((M.sp:Nat):Int),.int .i64 M.att,.int .i64 ((AZ dg J2 M.sp).2),.pointer (some ⟨cb,0,none⟩),vw] 215,blk cb [.int .u32 1,.int .i32 0,.int .u32 0,.int .u32 1,fv,.string (BE (AZ dg J2 M.sp).1)] 305,Y (At Ag) vS J2.us,Y Af vM J2.map,Y Af vC J2.comb,Y Af vR J2.red,Y (Ai .i64) vK J2.marks,Y Ds vw (ws.map Prod.fst),BK (Dj 279) ws]) ws H1
 replace H1:=Hd.exI (A:=fun vw:Value=>ex fun ws:List (Nat×CZ)=>BV [BT ((Bj J2 J)∧(ws.map Prod.snd=M.ws)),blk b [vS,.int .i64 J2.parts,vM,vC,vR,.int .i64 J2.chunk,.int .i64 J2.window,.int .i64 J2.fuel,vK,.int .i64 cw,.int .i64 ct,.int .i64 co,.int .i64 ((M.sp:Nat):Int),.int .i64 M.att,.int .i64 ((AZ dg J2 M.sp).2),.pointer (some ⟨cb,0,none⟩),vw] 215,blk cb [.int .u32 1,.int .i32 0,.int .u32 0,.int .u32 1,fv,.string (BE (AZ dg J2 M.sp).1)] 305,Y (At Ag) vS J2.us,Y Af vM J2.map,Y Af vC J2.comb,Y Af vR J2.red,Y (Ai .i64) vK J2.marks,Y Ds vw (ws.map Prod.fst),BK (Dj 279) ws]) vw H1
 replace H1:=Hd.exI (A:=fun fv:Value=>ex fun vw:Value=>ex fun ws:List (Nat×CZ)=>BV [BT ((Bj J2 J)∧(ws.map Prod.snd=M.ws)),blk b [vS,.int .i64 J2.parts,vM,vC,vR,.int .i64 J2.chunk,.int .i64 J2.window,.int .i64 J2.fuel,vK,.int .i64 cw,.int .i64 ct,.int .i64 co,.int .i64 ((M.sp:Nat):Int),.int .i64 M.att,.int .i64 ((AZ dg J2 M.sp).2),.pointer (some ⟨cb,0,none⟩),vw] 215,blk cb [.int .u32 1,.int .i32 0,.int .u32 0,.int .u32 1,fv,.string (BE (AZ dg J2 M.sp).1)] 305,Y (At Ag) vS J2.us,Y Af vM J2.map,Y Af vC J2.comb,Y Af vR J2.red,Y (Ai .i64) vK J2.marks,Y Ds vw (ws.map Prod.fst),BK (Dj 279) ws]) fv H1
 replace H1:=Hd.exI (A:=fun cb:Nat=>ex fun fv:Value=>ex fun vw:Value=>ex fun ws:List (Nat×CZ)=>BV [BT ((Bj J2 J)∧(ws.map Prod.snd=M.ws)),blk b [vS,.int .i64 J2.parts,vM,vC,vR,.int .i64 J2.chunk,.int .i64 J2.window,.int .i64 J2.fuel,vK,.int .i64 cw,.int .i64 ct,.int .i64 co,.int .i64 ((M.sp:Nat):Int),.int .i64 M.att,.int .i64 ((AZ dg J2 M.sp).2),.pointer (some ⟨cb,0,none⟩),vw] 215,blk cb [.int .u32 1,.int .i32 0,.int .u32 0,.int .u32 1,fv,.string (BE (AZ dg J2 M.sp).1)] 305,Y (At Ag) vS J2.us,Y Af vM J2.map,Y Af vC J2.comb,Y Af vR J2.red,Y (Ai .i64) vK J2.marks,Y Ds vw (ws.map Prod.fst),BK (Dj 279) ws]) cb H1
 replace H1:=Hd.exI (A:=fun co:Int=>ex fun cb:Nat=>ex fun fv:Value=>ex fun vw:Value=>ex fun ws:List (Nat×CZ)=>BV [BT ((Bj J2 J)∧(ws.map Prod.snd=M.ws)),blk b [vS,.int .i64 J2.parts,vM,vC,vR,.int .i64 J2.chunk,.int .i64 J2.window,.int .i64 J2.fuel,vK,.int .i64 cw,.int .i64 ct,.int .i64 co,.int .i64 ((M.sp:Nat):Int),.int .i64 M.att,.int .i64 ((AZ dg J2 M.sp).2),.pointer (some ⟨cb,0,none⟩),vw] 215,blk cb [.int .u32 1,.int .i32 0,.int .u32 0,.int .u32 1,fv,.string (BE (AZ dg J2 M.sp).1)] 305,Y (At Ag) vS J2.us,Y Af vM J2.map,Y Af vC J2.comb,Y Af vR J2.red,Y (Ai .i64) vK J2.marks,Y Ds vw (ws.map Prod.fst),BK (Dj 279) ws]) co H1
 replace H1:=Hd.exI (A:=fun ct:Int=>ex fun co:Int=>ex fun cb:Nat=>ex fun fv:Value=>ex fun vw:Value=>ex fun ws:List (Nat×CZ)=>BV [BT ((Bj J2 J)∧(ws.map Prod.snd=M.ws)),blk b [vS,.int .i64 J2.parts,vM,vC,vR,.int .i64 J2.chunk,.int .i64 J2.window,.int .i64 J2.fuel,vK,.int .i64 cw,.int .i64 ct,.int .i64 co,.int .i64 ((M.sp:Nat):Int),.int .i64 M.att,.int .i64 ((AZ dg J2 M.sp).2),.pointer (some ⟨cb,0,none⟩),vw] 215,blk cb [.int .u32 1,.int .i32 0,.int .u32 0,.int .u32 1,fv,.string (BE (AZ dg J2 M.sp).1)] 305,Y (At Ag) vS J2.us,Y Af vM J2.map,Y Af vC J2.comb,Y Af vR J2.red,Y (Ai .i64) vK J2.marks,Y Ds vw (ws.map Prod.fst),BK (Dj 279) ws]) ct H1
 replace H1:=Hd.exI (A:=fun cw:Int=>ex fun ct:Int=>ex fun co:Int=>ex fun cb:Nat=>ex fun fv:Value=>ex fun vw:Value=>ex fun ws:List (Nat×CZ)=>BV [BT ((Bj J2 J)∧(ws.map Prod.snd=M.ws)),blk b [vS,.int .i64 J2.parts,vM,vC,vR,.int .i64 J2.chunk,.int .i64 J2.window,.int .i64 J2.fuel,vK,.int .i64 cw,.int .i64 ct,.int .i64 co,.int .i64 ((M.sp:Nat):Int),.int .i64 M.att,.int .i64 ((AZ dg J2 M.sp).2),.pointer (some ⟨cb,0,none⟩),vw] 215,blk cb [.int .u32 1,.int .i32 0,.int .u32 0,.int .u32 1,fv,.string (BE (AZ dg J2 M.sp).1)] 305,Y (At Ag) vS J2.us,Y Af vM J2.map,Y Af vC J2.comb,Y Af vR J2.red,Y (Ai .i64) vK J2.marks,Y Ds vw (ws.map Prod.fst),BK (Dj 279) ws]) cw H1
 replace H1:=Hd.exI (A:=fun J2:AS=>ex fun cw:Int=>ex fun ct:Int=>ex fun co:Int=>ex fun cb:Nat=>ex fun fv:Value=>ex fun vw:Value=>ex fun ws:List (Nat×CZ)=>BV [BT ((Bj J2 J)∧(ws.map Prod.snd=M.ws)),blk b [vS,.int .i64 J2.parts,vM,vC,vR,.int .i64 J2.chunk,.int .i64 J2.window,.int .i64 J2.fuel,vK,.int .i64 cw,.int .i64 ct,.int .i64 co,.int .i64 ((M.sp:Nat):Int),.int .i64 M.att,.int .i64 ((AZ dg J2 M.sp).2),.pointer (some ⟨cb,0,none⟩),vw] 215,blk cb [.int .u32 1,.int .i32 0,.int .u32 0,.int .u32 1,fv,.string (BE (AZ dg J2 M.sp).1)] 305,Y (At Ag) vS J2.us,Y Af vM J2.map,Y Af vC J2.comb,Y Af vR J2.red,Y (Ai .i64) vK J2.marks,Y Ds vw (ws.map Prod.fst),BK (Dj 279) ws]) J2 H1
 replace H1:=Hd.exI (A:=fun vK:Value=>ex fun J2:AS=>ex fun cw:Int=>ex fun ct:Int=>ex fun co:Int=>ex fun cb:Nat=>ex fun fv:Value=>ex fun vw:Value=>ex fun ws:List (Nat×CZ)=>BV [BT ((Bj J2 J)∧(ws.map Prod.snd=M.ws)),blk b [vS,.int .i64 J2.parts,vM,vC,vR,.int .i64 J2.chunk,.int .i64 J2.window,.int .i64 J2.fuel,vK,.int .i64 cw,.int .i64 ct,.int .i64 co,.int .i64 ((M.sp:Nat):Int),.int .i64 M.att,.int .i64 ((AZ dg J2 M.sp).2),.pointer (some ⟨cb,0,none⟩),vw] 215,blk cb [.int .u32 1,.int .i32 0,.int .u32 0,.int .u32 1,fv,.string (BE (AZ dg J2 M.sp).1)] 305,Y (At Ag) vS J2.us,Y Af vM J2.map,Y Af vC J2.comb,Y Af vR J2.red,Y (Ai .i64) vK J2.marks,Y Ds vw (ws.map Prod.fst),BK (Dj 279) ws]) vK H1
 replace H1:=Hd.exI (A:=fun vR:Value=>ex fun vK:Value=>ex fun J2:AS=>ex fun cw:Int=>ex fun ct:Int=>ex fun co:Int=>ex fun cb:Nat=>ex fun fv:Value=>ex fun vw:Value=>ex fun ws:List (Nat×CZ)=>BV [BT ((Bj J2 J)∧(ws.map Prod.snd=M.ws)),blk b [vS,.int .i64 J2.parts,vM,vC,vR,.int .i64 J2.chunk,.int .i64 J2.window,.int .i64 J2.fuel,vK,.int .i64 cw,.int .i64 ct,.int .i64 co,.int .i64 ((M.sp:Nat):Int),.int .i64 M.att,.int .i64 ((AZ dg J2 M.sp).2),.pointer (some ⟨cb,0,none⟩),vw] 215,blk cb [.int .u32 1,.int .i32 0,.int .u32 0,.int .u32 1,fv,.string (BE (AZ dg J2 M.sp).1)] 305,Y (At Ag) vS J2.us,Y Af vM J2.map,Y Af vC J2.comb,Y Af vR J2.red,Y (Ai .i64) vK J2.marks,Y Ds vw (ws.map Prod.fst),BK (Dj 279) ws]) vR H1
 replace H1:=Hd.exI (A:=fun vC:Value=>ex fun vR:Value=>ex fun vK:Value=>ex fun J2:AS=>ex fun cw:Int=>ex fun ct:Int=>ex fun co:Int=>ex fun cb:Nat=>ex fun fv:Value=>ex fun vw:Value=>ex fun ws:List (Nat×CZ)=>BV [BT ((Bj J2 J)∧(ws.map Prod.snd=M.ws)),blk b [vS,.int .i64 J2.parts,vM,vC,vR,.int .i64 J2.chunk,.int .i64 J2.window,.int .i64 J2.fuel,vK,.int .i64 cw,.int .i64 ct,.int .i64 co,.int .i64 ((M.sp:Nat):Int),.int .i64 M.att,.int .i64 ((AZ dg J2 M.sp).2),.pointer (some ⟨cb,0,none⟩),vw] 215,blk cb [.int .u32 1,.int .i32 0,.int .u32 0,.int .u32 1,fv,.string (BE (AZ dg J2 M.sp).1)] 305,Y (At Ag) vS J2.us,Y Af vM J2.map,Y Af vC J2.comb,Y Af vR J2.red,Y (Ai .i64) vK J2.marks,Y Ds vw (ws.map Prod.fst),BK (Dj 279) ws]) vC H1
 replace H1:=Hd.exI (A:=fun vM:Value=>ex fun vC:Value=>ex fun vR:Value=>ex fun vK:Value=>ex fun J2:AS=>ex fun cw:Int=>ex fun ct:Int=>ex fun co:Int=>ex fun cb:Nat=>ex fun fv:Value=>ex fun vw:Value=>ex fun ws:List (Nat×CZ)=>BV [BT ((Bj J2 J)∧(ws.map Prod.snd=M.ws)),blk b [vS,.int .i64 J2.parts,vM,vC,vR,.int .i64 J2.chunk,.int .i64 J2.window,.int .i64 J2.fuel,vK,.int .i64 cw,.int .i64 ct,.int .i64 co,.int .i64 ((M.sp:Nat):Int),.int .i64 M.att,.int .i64 ((AZ dg J2 M.sp).2),.pointer (some ⟨cb,0,none⟩),vw] 215,blk cb [.int .u32 1,.int .i32 0,.int .u32 0,.int .u32 1,fv,.string (BE (AZ dg J2 M.sp).1)] 305,Y (At Ag) vS J2.us,Y Af vM J2.map,Y Af vC J2.comb,Y Af vR J2.red,Y (Ai .i64) vK J2.marks,Y Ds vw (ws.map Prod.fst),BK (Dj 279) ws]) vM H1
 replace H1:=Hd.exI (A:=fun vS:Value=>ex fun vM:Value=>ex fun vC:Value=>ex fun vR:Value=>ex fun vK:Value=>ex fun J2:AS=>ex fun cw:Int=>ex fun ct:Int=>ex fun co:Int=>ex fun cb:Nat=>ex fun fv:Value=>ex fun vw:Value=>ex fun ws:List (Nat×CZ)=>BV [BT ((Bj J2 J)∧(ws.map Prod.snd=M.ws)),blk b [vS,.int .i64 J2.parts,vM,vC,vR,.int .i64 J2.chunk,.int .i64 J2.window,.int .i64 J2.fuel,vK,.int .i64 cw,.int .i64 ct,.int .i64 co,.int .i64 ((M.sp:Nat):Int),.int .i64 M.att,.int .i64 ((AZ dg J2 M.sp).2),.pointer (some ⟨cb,0,none⟩),vw] 215,blk cb [.int .u32 1,.int .i32 0,.int .u32 0,.int .u32 1,fv,.string (BE (AZ dg J2 M.sp).1)] 305,Y (At Ag) vS J2.us,Y Af vM J2.map,Y Af vC J2.comb,Y Af vR J2.red,Y (Ai .i64) vK J2.marks,Y Ds vw (ws.map Prod.fst),BK (Dj 279) ws]) vS H1
 exact H1
theorem cV  :
    Cn Tryz.prog 185 [] [] [] (fun v Bs=>∃ b:Nat,v=.pointer (some ⟨b,0,none⟩)∧Bs=[CO 275 b ([])]):=by
 intro w0 F0 H
 refine enter Tryz.func185 U U (Nat.le_of_ble_eq_true U) (Aa (Ad (Ac U (Ab (Z (Aa (Ad (Sb Gy U U U H (fun b1 w H=>(V U U (Di (parts:=[(0,.tmp 1)]) (vs:=[.map (some b1)]) (cs:=[.map (some b1)]) U Tc U U) (CT U U U U H (fun b2 w H=>(Ac U (Ab (Z ?_)))))))))))))))
 replace H:Hd _ _ _ [blk b2 [.map (some b1)] 275,B5 Gy b1 []] []:=H
 refine Am (Aq U U ?_)
 replace H:=H.st0|>.h1 (A:=CO 275 b2 ([]))
 exact Al ⟨_,rfl,rfl⟩ H
theorem S3 (r:Nat) (A:Option Addr) (m:Nat) (c:Nat) (vM2:Value) (vC2:Value) (vR2:Value) (vK2:Value) (J2:AS) (cw:Int) (ct:Int) (co:Int) (part:Int) (ep:Int) (g:Nat→DB) (hv:Nat→Value) (sb:Nat) (vs:Value) (n:Int) (hn:0≤n∧n<(m:Int)) (hm:m≤6):
    Cn Tryz.prog 150 [.pointer (some ⟨r,0,none⟩),.int .i64 n] [] [blk r (BF (.slice A m c) vM2 vC2 vR2 vK2 J2 cw ct co part ep g hv sb vs) 197] (fun v Bs=>v=.pointer (some ⟨r,14+(n).toNat*5,none⟩)∧Bs=[]):=by
 intro w0 F0 H
 refine enter Tryz.func150 U U (Nat.le_of_ble_eq_true U) (Aa (Ad (Ac U (Ab (Z (Aa (Aa (Ad (Ac U (V U U (C1 U JV U U) (Ah 2 U (V U U (Br U U U) (Ah 2 U ?_)))))))))))))
 refine AR (d:=11) U (fun h1=>?_) (fun h1=>?_)
 ·exfalso;omega
 refine Ah 2 U (V U U (AH U U) (V U U (Aj U HP U) (V U U (Aj U DL U) (V U U (Aj U FO U) (V U U (An U F6 U (H.cellRI 0 U U)) (V U U (Bn U Gm U) (V U U (C4 U U U) (Ac U (Ab (Z ?_))))))))))
 refine AC U (fun h2=>?_) (fun h2=>?_)
 ·exfalso;omega
 refine AB (Z (Aa (Ad (Ah 2 U (V U U (AH U U) (V U U (Aj U Jh U) (V U U (Hx (p:=14+(n).toNat*5) U JW Jl U U (by omega) (by omega) (by omega)) (Ac U (Ab (Z (Am (Aq U U ?_))))))))))))
 replace H:Hd _ _ _ [] [blk r (BF (.slice A m c) vM2 vC2 vR2 vK2 J2 cw ct co part ep g hv sb vs) 197]:=H
 exact Al ⟨rfl,rfl⟩ H
theorem S0 (r:Nat) (A:Option Addr) (m:Nat) (c:Nat) (vM2:Value) (vC2:Value) (vR2:Value) (vK2:Value) (J2:AS) (cw:Int) (ct:Int) (co:Int) (part:Int) (ep:Int) (g:Nat→DB) (hv:Nat→Value) (sb:Nat) (vs:Value) (n:Int) (hn:¬ (0≤n∧n<(m:Int))):
    Cn Tryz.prog 150 [.pointer (some ⟨r,0,none⟩),.int .i64 n] [] [blk r (BF (.slice A m c) vM2 vC2 vR2 vK2 J2 cw ct co part ep g hv sb vs) 197] (fun v Bs=>v=.pointer none∧Bs=[]):=by
 intro w0 F0 H
 refine enter Tryz.func150 U U (Nat.le_of_ble_eq_true U) (Aa (Ad (Ac U (Ab (Z (Aa (Aa (Ad (Ac U (V U U (C1 U JV U U) (Ah 2 U (V U U (Br U U U) (Ah 2 U ?_)))))))))))))
 refine AR (d:=11) U (fun h1=>?_) (fun h1=>?_)
 ·refine Ah 10 U (Ab (Z (Ct U (Aa (Ad (Ac U (Ab (Z (Am (Az (Aq U U ?_)))))))))))
  replace H:Hd _ _ _ [] [blk r (BF (.slice A m c) vM2 vC2 vR2 vK2 J2 cw ct co part ep g hv sb vs) 197]:=H
  exact Al ⟨rfl,rfl⟩ H
 refine Ah 2 U (V U U (AH U U) (V U U (Aj U HP U) (V U U (Aj U DL U) (V U U (Aj U FO U) (V U U (An U F6 U (H.cellRI 0 U U)) (V U U (Bn U Gm U) (V U U (C4 U U U) (Ac U (Ab (Z ?_))))))))))
 refine AC U (fun h2=>?_) (fun h2=>?_)
 ·refine Aa (Ad (Ac U (Ab (Z (Am (Az (Aq U U ?_)))))))
  replace H:Hd _ _ _ [] [blk r (BF (.slice A m c) vM2 vC2 vR2 vK2 J2 cw ct co part ep g hv sb vs) 197]:=H
  exact Al ⟨rfl,rfl⟩ H
 exact AB (Z (Aa (Ad (Ah 2 U (V U U (AH U U) (V U U (Aj U Jh U) (V U U (Hx (p:=14+(n).toNat*5) U JW Jl U U (by omega) (by omega) (by omega)) (Ac U (Ab (Z (Am (Aq U U (absurd (by omega) hn)))))))))))))
theorem VD (v:Value) (xs:List Int) (x:Int):
    Cn Tryz.prog 198 [v,.int .i64 x] [] [Ae (Ai .i64) v xs] (fun v Bs=>v=.int .i64 (Fj (fun y=>decide (x=y)) xs)∧Bs=[]):=by
 intro w0 F0 H
 obtain ⟨A1,c2,rfl,hc3,hm4,hp5⟩:=H.fR 0 rfl
 refine enter Tryz.func198 U U (Nat.le_of_ble_eq_true U) (Aa (Ad (Ac U (Ab (Z ?_)))))
 replace H:Hd _ _ _ [] [Ae (Ai .i64) (.slice A1 xs.length c2) xs]:=H
 refine Aa (Aa (Ad (Ac U (V U U (Bn U EC U) (Ac U (Ab (Z (AX (B1 (σ:=Nat) (fun k=>[(0,.slice A1 xs.length c2),(1,.int .i64 x),(7,.int .i64 ((xs.length:Nat):Int)),(8,.int .i64 ((k:Nat):Int))]) (fun k w=>(Hd w0 F0 w [] [Ae (Ai .i64) (.slice A1 xs.length c2) xs])∧(k≤xs.length)∧(∀ y∈xs.take k,(fun y=>decide (x=y)) y=false)) (fun k=>xs.length - k) 0 ⟨rfl,rfl,rfl,rfl,trivial⟩ ⟨H,by omega,by simp⟩ ?_)))))))))
 rintro k w ⟨H,hk,hn⟩
 refine Aa (Ad (V U U (Br U U U) (Ab (Z (Aa ?_)))))
 refine AC U (fun h6=>?_) (fun h6=>?_)
 ·refine AB (Z (Aa (AX (Aa (Ad (Ah 2 U (Ab (Z (Aa (Ad (Ah 3 U ?_)))))))))))
  obtain ⟨x7,hx8⟩:∃ z9,xs[k]?=some z9:=⟨_,List.getElem?_eq_getElem (show k<xs.length by omega)⟩
  have th9:=H.thR 0 rfl hx8
  refine V U U (Bi (p:=A_ A1+k*1) U DA U U (by omega) (by omega) th9 U) (V U U (An U AE U (H.elR 0 U hx8 (q:=0) U U)) (V U U (Bg U U U) (Ab (Z ?_))))
  refine AC U (fun h10=>?_) (fun h10=>?_)
  ·exact Aa (Ad (Ah 2 U (Ab (Z (Am (AY (Az (Az (AY (Az (Aq U U (Al ⟨by rw [Kh (p:=(fun y=>decide (x=y))) hn hx8 (decide_eq_true h10)]<;>rfl,rfl⟩ H))))))))))))
  exact AB (Bb (Z (Ad (V U U (Be (z:=((k+1:Nat):Int)) U U U (by rw [AI (by omega) (by omega)];omega)) (Ac U (Ab (Bo (s:=k) (k+1) ⟨rfl,rfl,rfl,rfl,trivial⟩ ⟨H,by omega,Lu (p:=(fun y=>decide (x=y))) hn hx8 (decide_eq_false h10)⟩ (by (try dsimp only);omega))))))))
 refine BW (A8 (A8 (BX (Z (Aa (Ad (Ac U (Ab (Z (Am (Aq U U ?_)))))))))))
 have hn2:∀ y∈xs,(fun y=>decide (x=y)) y=false:=by rw [←GJ (xs:=xs) (k:=k) (by omega)];exact hn
 exact Al ⟨by rw [Je hn2]<;>rfl,rfl⟩ H
theorem T1 (v:Value) (xs:List Int) (x:Int):
    Cn Tryz.prog 147 [v,.int .i64 x] [] [Ae (Ai .i64) v xs] (fun v Bs=>v=.bool (decide (x∈xs))∧Bs=[]):=by
 intro w0 F0 H
 refine enter Tryz.func147 U U (Nat.le_of_ble_eq_true U) (Aa (Ad (Ac U (Ab (Z (Aa (Ad (Ah 2 U (sc (VD v xs x) H (lR 0 U l0) U U (Av Wo U U) ?_)))))))))
 rintro _ _ w ⟨rfl,rfl⟩ H
 refine V U U (C4 U U U) (Ac U (Ab (Z (Am (Aq U U ?_)))))
 have e:decide (0≤Fj (fun y=>decide (x=y)) xs)=decide (x∈xs):=by rw [Ki];rw [Bool.eq_iff_iff];simp
 exact Al ⟨congrArg Value.bool e,rfl⟩ H
theorem QU (r:Nat) (A:Option Addr) (c:Nat) (vM2:Value) (vC2:Value) (vR2:Value) (vK2:Value) (J2:AS) (cw:Int) (ct:Int) (co:Int) (part:Int) (ep:Int) (R:AV) (hv:Nat→Value) (sb:Nat) (vs:Value) (hus6:J2.us.length≤6):
    Cn Tryz.prog 140 [.pointer (some ⟨r,0,none⟩)] [] [blk r (BF (.slice A J2.us.length c) vM2 vC2 vR2 vK2 J2 cw ct co part ep R.g hv sb vs) 197] (fun v Bs=>Bs=[Y (Ai .i64) v (C3 J2.us.length R)]):=by
 intro w0 F0 H
 refine enter Tryz.func140 U U (Nat.le_of_ble_eq_true U) (Aa (Ad (Ac U (Ab (Z (Aa (Aa (Ad (Ac U (V U U (C1 U JV U U) (Ab (Z (Cq U (AB (Z (Aa (Ad (Ac U (Ab (Z (Aa (Aa (Ad (Ac U (V U U (AH U U) (V U U (Aj U HP U) (V U U (Aj U DL U) (V U U (Aj U FO U) (V U U (An U F6 U (H.cellRI 0 U U)) (V U U (Bn U Gm U) (Ac U (Ab (Z (AX ?_))))))))))))))))))))))))))))))))))
 replace H:=H.newnil (Ai .i64)
 refine B1 (σ:=Nat×Value) (fun (k,q)=>[(0,.pointer (some ⟨r,0,none⟩)),(2,.slice none 0 0),(3,q),(13,.int .i64 ((J2.us.length:Nat):Int)),(14,.int .i64 ((k:Nat):Int))]) (fun (k,q) w=>(Hd w0 F0 w [Y (Ai .i64) q (C3 k R)] [blk r (BF (.slice A J2.us.length c) vM2 vC2 vR2 vK2 J2 cw ct co part ep R.g hv sb vs) 197])∧(k≤J2.us.length)) (fun (k,q)=>J2.us.length - k) (0,.slice none 0 0) ⟨rfl,rfl,rfl,rfl,rfl,trivial⟩ ⟨H,Nat.zero_le _⟩ ?_
 rintro ⟨k,q⟩ w ⟨H,hk⟩
 have hml:=QS k R
 refine Aa (Ad (V U U (Br U U U) (Ab (Z (Aa ?_)))))
 refine AC U (fun h1=>?_) (fun h1=>?_)
 ·refine AB (Z (Aa (AX (Aa (Ad (Ah 2 U (Ab (Z (Aa (Ad (Ah 2 U (V U U (AH U U) (V U U (Aj U Jh U) (V U U (Hx (p:=14+k*5) U JW Jl U U (by omega) (by omega) (by omega)) (V U U (Aj U Kn U) (V U U (An U D4 U (H.cellRI 0 U (Nj (by omega)))) (Ab (Z ?_))))))))))))))))))
  refine Dx (b:=(R.g k).merged) U (fun h2=>?_) (fun h2=>?_)
  ·refine Ad (Ah 2 U (Cb (parts:=[(0,.tmp 25)]) (vs:=[.int .i64 ((k:Nat):Int)]) (cs:=[.int .i64 ((k:Nat):Int)]) U U U DA E2 U (by decide) (by decide) U U H (fun b3 w H=>?_)))
   replace H:=H.p1
   refine CA (xs:=C3 k R) (ys:=[((k:Nat):Int)]) U U U DA E2 U (by decide) U U H (by first |omega|(simp only [List.length_append,List.length_cons,List.length_nil];omega)) (fun F hA hR=>Cy (hA _ (List.mem_of_getElem? (i:=0) U)) U (by decide) (Bc.flat_eq.2 U)) (fun v4 w H=>(Ac U (Ab (Bb (Z ?_)))))
   replace H:Hd _ _ _ [Y (Ai .i64) v4 ((C3 k R)++[((k:Nat):Int)]),blk b3 [.int .i64 ((k:Nat):Int)] 3] [blk r (BF (.slice A J2.us.length c) vM2 vC2 vR2 vK2 J2 cw ct co part ep R.g hv sb vs) 197]:=H
   refine Ad (V U U (Be (z:=((k+1:Nat):Int)) U U U (by rw [AI (by omega) (by omega)];omega)) (Ac U (Ab ?_)))
   replace H:=H.k1
   replace H:Hd w0 F0 w [Y (Ai .i64) v4 (C3 (k+1) R)] [blk r (BF (.slice A J2.us.length c) vM2 vC2 vR2 vK2 J2 cw ct co part ep R.g hv sb vs) 197]:=by rw [QV,if_pos h2];exact H
   exact Bo (s:=(k,undef)) (k+1,v4) ⟨rfl,rfl,rfl,rfl,rfl,trivial⟩ ⟨H,by (try dsimp only);omega⟩ (by (try dsimp only);omega)
  refine AB (Bb (Z (Ad (V U U (Be (z:=((k+1:Nat):Int)) U U U (by rw [AI (by omega) (by omega)];omega)) (Ac U (Ab ?_))))))
  replace H:Hd w0 F0 w [Y (Ai .i64) q (C3 (k+1) R)] [blk r (BF (.slice A J2.us.length c) vM2 vC2 vR2 vK2 J2 cw ct co part ep R.g hv sb vs) 197]:=by rw [QV,if_neg (by rw [h2];exact Bool.false_ne_true),List.append_nil];exact H
  exact Bo (s:=(k,undef)) (k+1,q) ⟨rfl,rfl,rfl,rfl,rfl,trivial⟩ ⟨H,by (try dsimp only);omega⟩ (by (try dsimp only);omega)
 refine BW (A8 (A8 (BX (Z (Aa (Ad (Ah 2 U (Ab (Z (Am (Aq U U ?_)))))))))))
 have hkk:k=J2.us.length:=by omega
 replace H:Hd w0 F0 w [Y (Ai .i64) q (C3 J2.us.length R)] [blk r (BF (.slice A J2.us.length c) vM2 vC2 vR2 vK2 J2 cw ct co part ep R.g hv sb vs) 197]:=by rw [hkk] at H;exact H
 exact Al U H
theorem cK (vp:Value) (p:List B7) (fuel:Int) (vus:Value) (us:List (Value×List Ap)) (hpa:∀ i∈p,AL i.a) (hfu:AL fuel) (hb:(CV us).length≤1000000):
    Cn Tryz.prog 235 [vp,.int .i64 fuel,vus] [] [Ae Af vp p,Ae (At Ag) vus us,gl] (fun v Bs=>∃ u:Value,v=.tuple #[u,.int .i64 ((DT dg p (srt (CV us)) fuel false).2)]∧Bs=[Y Ag u ((DT dg p (srt (CV us)) fuel false).1)]):=by
 intro w0 F0 H
 obtain ⟨A1,c2,rfl,hc3,hm4,hp5⟩:=H.fR 0 rfl
 obtain ⟨A6,c7,rfl,hc8,hm9,hp10⟩:=H.fR 1 rfl
 refine enter Tryz.func235 U U (Nat.le_of_ble_eq_true U) (Aa (Ad (Ah 2 U (Ab (Z ?_)))))
 replace H:Hd _ _ _ [] [Ae Af (.slice A1 p.length c2) p,Ae (At Ag) (.slice A6 us.length c7) us,gl]:=H
 refine Aa (Ad (Ah 2 U (sc (bH (.slice A6 us.length c7) us (by first |omega|decide|exact Nat.le_trans (O4 _ _) (by omega)|exact Nat.le_trans (UM _ _) (by omega)|(simp only [CV,List.flatMap_cons,List.flatMap_nil,List.append_nil,GG];omega))) H (lR 1 U l0) U U (Av WA U U) ?_)))
 rintro v11 _ w rfl H
 replace H:=H.h1 (A:=Y Ag v11 (srt (CV us)))
 refine Ac U (sc (U7 (.slice A1 p.length c2) p v11 (srt (CV us)) fuel (by first |exact hpa|exact Vy|assumption) (by first |assumption|(unfold AL;omega)) (by first |omega|(simp only [GG];omega))) H (lR 0 U (lA 0 U B3 (lR 2 U l0))) U U (Av Wz U U) ?_)
 rintro _ _ w ⟨u12,rfl,rfl⟩ H
 replace H:=H.h1 (A:=Y Ag u12 ((DT dg p (srt (CV us)) fuel false).1))
 refine Ah 4 U (Ab (Z (Am (Du U U U ?_))))
 replace H:=H.k1
 exact Al ⟨u12,rfl,rfl⟩ H
theorem YJ (r:Nat) (A:Option Addr) (c:Nat) (vM2:Value) (vC2:Value) (vR2:Value) (vK2:Value) (J2:AS) (cw:Int) (ct:Int) (co:Int) (part:Int) (ep:Int) (R:AV) (hv:Nat→Value) (sb:Nat) (vs:Value) (vset:Value) (set:List Int) (hred:∀ i∈J2.red,AL i.a) (hf64:AL J2.fuel) (hus6:J2.us.length≤6) (hbp:∀ i,(R.g i).pairs.length≤1000):
    Cn Tryz.prog 194 [.pointer (some ⟨r,0,none⟩),vset] [] [blk r (BF (.slice A J2.us.length c) vM2 vC2 vR2 vK2 J2 cw ct co part ep R.g hv sb vs) 197,BY (R.g) hv,Ae (Ai .i64) vset set,Ae Af vR2 J2.red,gl] (fun v Bs=>∃ u:Value,v=.tuple #[u,.int .i64 ((DT dg J2.red (srt (FC J2.us.length R set)) J2.fuel false).2)]∧Bs=[Y Ag u ((DT dg J2.red (srt (FC J2.us.length R set)) J2.fuel false).1)]):=by
 intro w0 F0 H
 obtain ⟨A1,c2,rfl,hc3,hm4,hp5⟩:=H.fR 2 rfl
 obtain ⟨A6,c7,rfl,hc8,hm9,hp10⟩:=H.fR 3 rfl
 refine enter Tryz.func194 U U (Nat.le_of_ble_eq_true U) (Aa (Ad (Ah 2 U (Ab (Z ?_)))))
 replace H:Hd _ _ _ [] [blk r (BF (.slice A J2.us.length c) vM2 vC2 (.slice A6 J2.red.length c7) vK2 J2 cw ct co part ep R.g hv sb vs) 197,BY (R.g) hv,Ae (Ai .i64) (.slice A1 set.length c2) set,Ae Af (.slice A6 J2.red.length c7) J2.red,gl]:=H
 refine Aa (Ad (Ac U (Ab (Z (Aa (Aa (Ad (Ac U (V U U (AH U U) (V U U (Aj U HP U) (V U U (Aj U DL U) (V U U (Aj U FO U) (V U U (An U F6 U (H.cellRI 0 U U)) (V U U (Bn U Gm U) (Ac U (Ab (Z (AX ?_))))))))))))))))))
 replace H:=H.newnil DM|>.h1 (A:=Y DM (.slice none 0 0) (BA (DW R.g hv set 0)))
 refine B1 (σ:=Nat×Value) (fun (k,q)=>[(0,.pointer (some ⟨r,0,none⟩)),(1,.slice A1 set.length c2),(4,.slice none 0 0),(5,.int .i64 0),(6,q),(14,.int .i64 ((J2.us.length:Nat):Int)),(15,.int .i64 ((k:Nat):Int))]) (fun (k,q) w=>(Hd w0 F0 w [Y DM q (BA (DW R.g hv set k))] [blk r (BF (.slice A J2.us.length c) vM2 vC2 (.slice A6 J2.red.length c7) vK2 J2 cw ct co part ep R.g hv sb vs) 197,BY (R.g) hv,Ae (Ai .i64) (.slice A1 set.length c2) set,Ae Af (.slice A6 J2.red.length c7) J2.red,gl])∧(k≤J2.us.length)) (fun (k,q)=>J2.us.length - k) (0,.slice none 0 0) ⟨rfl,rfl,rfl,rfl,rfl,rfl,rfl,trivial⟩ ⟨H,Nat.zero_le _⟩ ?_
 rintro ⟨k,q⟩ w ⟨H,hk⟩
 have hpl:=Zh R.g hv set k
 have hhl:(BA (DW R.g hv set k)).length=(DW R.g hv set k).length:=by simp [BA]
 refine Aa (Ad (V U U (Br U U U) (Ab (Z (Aa ?_)))))
 refine AC U (fun h11=>?_) (fun h11=>?_)
 ·refine AB (Z (Aa (AX (Aa (Ad (Ah 2 U (Ab (Z (Aa (Ad (Ah 2 U (V U U (AH U U) (V U U (Aj U Jh U) (V U U (Hx (p:=14+k*5) U JW Jl U U (by omega) (by omega) (by omega)) (V U U (Aj U Kn U) (V U U (An U D4 U (H.cellRI 0 U (Nj (by omega)))) (Ac U ?_)))))))))))))))))
  refine G5 (d:=25) (b:=(R.g k).merged) U (fun h12=>?_) (fun h12=>?_)
  ·refine Ah 2 U (sc (T1 (.slice A1 set.length c2) set ((k:Nat):Int)) H (lR 2 U l0) U U (Av Wa U U) ?_)
   rintro _ _ w ⟨rfl,rfl⟩ H
   refine Ac U (Ab (Z ?_))
   refine AC U (fun h13=>?_) (fun h13=>?_)
   ·refine Ad (Ah 3 U (V U U (AH U U) (V U U (Aj U Jh U) (V U U (Hx (p:=14+k*5) U JW Jl U U (by omega) (by omega) (by omega)) (V U U (Aj U Pa U) ?_)))))
    obtain ⟨A14,c15,e16,_,_,_⟩:=H.prsFormR (i:=k) 1 rfl (by omega)
    refine V U U (An U DG U (H.cellRI 0 U ((aH (by omega)).trans (congrArg some e16)))) (Cb (parts:=[(0,.tmp 37)]) (vs:=[.slice A14 ((R.g k).pairs.length) c15]) (cs:=[.slice A14 ((R.g k).pairs.length) c15]) U U U G8 LG U (by decide) (by decide) U U H (fun b17 w H=>?_))
    replace H:=H.p1
    refine CA (xs:=BA (DW R.g hv set k)) (ys:=[(⟨A14,(R.g k).pairs.length,c15⟩:E3)]) U U U G8 LG U (by decide) U U H (by first |omega|(simp only [List.length_append,List.length_cons,List.length_nil];omega)) (fun F hA hR=>Cy (hA _ (List.mem_of_getElem? (i:=0) U)) U (by decide) (Bc.flat_eq.2 U)) (fun v18 w H=>(Ac U (Ab (Bb (Z ?_)))))
    replace H:Hd _ _ _ [Y DM v18 ((BA (DW R.g hv set k))++[(⟨A14,(R.g k).pairs.length,c15⟩:E3)]),blk b17 [.slice A14 ((R.g k).pairs.length) c15] 47] [blk r (BF (.slice A J2.us.length c) vM2 vC2 (.slice A6 J2.red.length c7) vK2 J2 cw ct co part ep R.g hv sb vs) 197,BY (R.g) hv,Ae (Ai .i64) (.slice A1 set.length c2) set,Ae Af (.slice A6 J2.red.length c7) J2.red,gl]:=H
    refine Ad (V U U (Be (z:=((k+1:Nat):Int)) U U U (by rw [AI (by omega) (by omega)];omega)) (Ac U (Ab ?_)))
    replace H:=H.k1
    replace H:Hd w0 F0 w [Y DM v18 (BA (DW R.g hv set (k+1)))] [blk r (BF (.slice A J2.us.length c) vM2 vC2 (.slice A6 J2.red.length c7) vK2 J2 cw ct co part ep R.g hv sb vs) 197,BY (R.g) hv,Ae (Ai .i64) (.slice A1 set.length c2) set,Ae Af (.slice A6 J2.red.length c7) J2.red,gl]:=by rw [M0,if_pos ⟨h12,h13⟩,show BA (DW R.g hv set k++[(hv k,(R.g k).pairs)])=BA (DW R.g hv set k)++[⟨A14,(R.g k).pairs.length,c15⟩] by simp [BA,Fx,e16]];exact H
    exact Bo (s:=(k,undef)) (k+1,v18) ⟨rfl,rfl,rfl,rfl,rfl,rfl,rfl,trivial⟩ ⟨H,by (try dsimp only);omega⟩ (by (try dsimp only);omega)
   refine AB (Bb (Z (Ad (V U U (Be (z:=((k+1:Nat):Int)) U U U (by rw [AI (by omega) (by omega)];omega)) (Ac U (Ab ?_))))))
   replace H:Hd w0 F0 w [Y DM q (BA (DW R.g hv set (k+1)))] [blk r (BF (.slice A J2.us.length c) vM2 vC2 (.slice A6 J2.red.length c7) vK2 J2 cw ct co part ep R.g hv sb vs) 197,BY (R.g) hv,Ae (Ai .i64) (.slice A1 set.length c2) set,Ae Af (.slice A6 J2.red.length c7) J2.red,gl]:=by rw [M0,if_neg (fun h=>by first |exact h13 h.2|(rw [h12] at h;cases h.1)),List.append_nil];exact H
   exact Bo (s:=(k,undef)) (k+1,q) ⟨rfl,rfl,rfl,rfl,rfl,rfl,rfl,trivial⟩ ⟨H,by (try dsimp only);omega⟩ (by (try dsimp only);omega)
  refine Ah 4 U (Ab (Z (Cq U (AB (Bb (Z (Ad (V U U (Be (z:=((k+1:Nat):Int)) U U U (by rw [AI (by omega) (by omega)];omega)) (Ac U (Ab ?_))))))))))
  replace H:Hd w0 F0 w [Y DM q (BA (DW R.g hv set (k+1)))] [blk r (BF (.slice A J2.us.length c) vM2 vC2 (.slice A6 J2.red.length c7) vK2 J2 cw ct co part ep R.g hv sb vs) 197,BY (R.g) hv,Ae (Ai .i64) (.slice A1 set.length c2) set,Ae Af (.slice A6 J2.red.length c7) J2.red,gl]:=by rw [M0,if_neg (fun h=>by first |exact h12 h.2|(rw [h12] at h;cases h.1)),List.append_nil];exact H
  exact Bo (s:=(k,undef)) (k+1,q) ⟨rfl,rfl,rfl,rfl,rfl,rfl,rfl,trivial⟩ ⟨H,by (try dsimp only);omega⟩ (by (try dsimp only);omega)
 refine BW (A8 (A8 (BX (Z (Aa (Cc (.e 0 (.e 1 (.e 2 (.e 3 (.e 4 (.e 5 (.e 6 (.e 7 (.e 8 (.e 9 (.e 10 (.e 11 (.e 12 (.m 13 (.e 14 (.e 15 (.e 16 (.e 17 .z)))))))))))))))))) (fun w=>∃ Ar,Hd w0 F0 w (Ar) [blk r (BF (.slice A J2.us.length c) vM2 vC2 (.slice A6 J2.red.length c7) vK2 J2 cw ct co part ep R.g hv sb vs) 197,BY (R.g) hv,Ae (Ai .i64) (.slice A1 set.length c2) set,Ae Af (.slice A6 J2.red.length c7) J2.red,gl]) mo (by kernel_rfl) (fun w H=>⟨_,H⟩) H (fun w H=>(Au U (Ao U U U (fun w ⟨Ar,H⟩=>AH U U) (Ao U U U (fun w ⟨Ar,H⟩=>Aj U HP U) (Ao U U U (fun w ⟨Ar,H⟩=>Aj U DL U) (Ao U U U (fun w ⟨Ar,H⟩=>Aj U Ko U) (Ao U U U (fun w ⟨Ar,H⟩=>An U GL U (H.cellRI 0 U U)) (Au U (Ao U U U (fun w ⟨Ar,H⟩=>AH U U) ?_)))))))))))))))
 refine Ao U U U (fun w ⟨Ar,H⟩=>Aj U HP U) (Ao U U U (fun w ⟨Ar,H⟩=>Aj U DL U) (Ao U U U (fun w ⟨Ar,H⟩=>Aj U Ph U) (Ao U U U (fun w ⟨Ar,H⟩=>An U AE U (H.cellRI 0 U U)) (Au U (AO U ?_)))))
 have hkk:k=J2.us.length:=by omega
 replace H:Hd w0 F0 w [Y DM q (BA (DW R.g hv set J2.us.length))] [blk r (BF (.slice A J2.us.length c) vM2 vC2 (.slice A6 J2.red.length c7) vK2 J2 cw ct co part ep R.g hv sb vs) 197,BY (R.g) hv,Ae (Ai .i64) (.slice A1 set.length c2) set,Ae Af (.slice A6 J2.red.length c7) J2.red,gl]:=by rw [hkk] at H;exact H
 have hrb:=R8 (set:=set) hbp J2.us.length
 have hfl:(CV (DW R.g hv set J2.us.length)).length≤1000000:=by rw [Ro];omega
 refine sc (cK (.slice A6 J2.red.length c7) J2.red J2.fuel q (DW R.g hv set J2.us.length) hred hf64 hfl) H (lX (fun F hA hR=>hR _ (List.mem_of_getElem? (i:=3) U)) (lX (fun F hA hR=>Vn (B3 F (hA _ (List.mem_of_getElem? (i:=0) U))) (Zi hus6 (hR _ (List.mem_of_getElem? (i:=1) U)))) (lR 4 U l0))) U U (Av Wv U U) ?_
 rintro _ _ w ⟨u19,rfl,rfl⟩ H
 rw [Ro] at H ⊢
 replace H:Hd _ _ _ [Y Ag u19 ((DT dg J2.red (srt (FC J2.us.length R set)) J2.fuel false).1),Y DM q (BA (DW R.g hv set J2.us.length))] [blk r (BF (.slice A J2.us.length c) vM2 vC2 (.slice A6 J2.red.length c7) vK2 J2 cw ct co part ep R.g hv sb vs) 197,BY (R.g) hv,Ae (Ai .i64) (.slice A1 set.length c2) set,Ae Af (.slice A6 J2.red.length c7) J2.red,gl]:=H
 refine AG ⟨_,H⟩ (Au U (Au U (Au U (Au U (BN (Z (Am (Du U U U ?_))))))))
 replace H:=H.k1
 exact Al ⟨u19,rfl,rfl⟩ H
theorem YX (r:Nat) (A:Option Addr) (c:Nat) (vM2:Value) (vC2:Value) (vR2:Value) (vK2:Value) (J2:AS) (cw:Int) (ct:Int) (co:Int) (part:Int) (ep:Int) (R:AV) (hv:Nat→Value) (sb:Nat) (vs:Value) (hred:∀ i∈J2.red,AL i.a) (hf64:AL J2.fuel) (hus6:J2.us.length≤6) (hbp:∀ i,(R.g i).pairs.length≤1000):
    Cn Tryz.prog 139 [.pointer (some ⟨r,0,none⟩)] [] [blk r (BF (.slice A J2.us.length c) vM2 vC2 vR2 vK2 J2 cw ct co part ep R.g hv sb vs) 197,BY (R.g) hv,Ae Af vR2 J2.red,gl] (fun v Bs=>∃ u:Value,v=.tuple #[u,.int .i64 ((DV dg J2 R).2.1),.bool ((DV dg J2 R).2.2)]∧Bs=[Y Ag u ((DV dg J2 R).1)]):=by
 intro w0 F0 H
 obtain ⟨A1,c2,rfl,hc3,hm4,hp5⟩:=H.fR 2 rfl
 refine enter Tryz.func139 U U (Nat.le_of_ble_eq_true U) (Aa (Ad (Ah 3 U (Ab (Z ?_)))))
 replace H:Hd _ _ _ [] [blk r (BF (.slice A J2.us.length c) vM2 vC2 (.slice A1 J2.red.length c2) vK2 J2 cw ct co part ep R.g hv sb vs) 197,BY (R.g) hv,Ae Af (.slice A1 J2.red.length c2) J2.red,gl]:=H
 refine Aa (Ad (Ac U (sc (QU r A c vM2 vC2 (.slice A1 J2.red.length c2) vK2 J2 cw ct co part ep R hv sb vs (by first |assumption|omega)) H (lR 0 U l0) U U (Av P1 U U) ?_)))
 rintro v6 _ w rfl H
 replace H:=H.h1 (A:=Y (Ai .i64) v6 (C3 J2.us.length R))
 refine Ac U (Ab (Z (Aa (Aa (Ad (Ac U (V U U (C1 U JV U U) (Ah 2 U ?_))))))))
 obtain ⟨A7,c8,rfl,hc9,hm10,hp11⟩:=H.fA 0 rfl
 refine V U U (Bn U EC U) (Ac U (V U U (AH U U) (V U U (Aj U HP U) (V U U (Aj U DL U) (V U U (Aj U FO U) (V U U (An U F6 U (H.cellRI 0 U U)) (V U U (Bn U Gm U) (V U U (Br U U U) (Ac U (Ab (Z ?_)))))))))))
 refine AC U (fun h12=>?_) (fun h12=>?_)
 ·refine Aa (Ad (Ah 3 U (Ab (Z (Am (Az (GF U U U U ?_)))))))
  have e:DV dg J2 R=([],0,false):=if_pos (by omega)
  replace H:=H.newnil Ag|>.k1
  exact Al ⟨(.slice none 0 0),by rw [e]<;>rfl,by rw [e]<;>rfl⟩ H
 refine AB (Z (Aa (Ad (Ah 2 U (sc (YJ r A c vM2 vC2 (.slice A1 J2.red.length c2) vK2 J2 cw ct co part ep R hv sb vs (.slice A7 ((C3 J2.us.length R).length) c8) (C3 J2.us.length R) (by first |assumption|omega) (by first |assumption|omega) (by first |assumption|omega) (by first |assumption|omega)) H (lR 0 U (lR 1 U (lA 0 U B3 (lR 2 U (lR 3 U l0))))) U U (Av Wk U U) ?_)))))
 rintro _ _ w ⟨u13,rfl,rfl⟩ H
 replace H:=H.h1 (A:=Y Ag u13 ((DT dg J2.red (srt (FC J2.us.length R (C3 J2.us.length R))) J2.fuel false).1))
 refine Ah 5 U (Ab (Z (Aa (Ad (Ah 5 U (Ab (Z (Am (GF U U U U ?_)))))))))
 have e:DV dg J2 R=((DT dg J2.red (srt (FC J2.us.length R (C3 J2.us.length R))) J2.fuel false).1,(DT dg J2.red (srt (FC J2.us.length R (C3 J2.us.length R))) J2.fuel false).2,true):=if_neg (by omega)
 replace H:=H.k1
 exact Al ⟨u13,by rw [e]<;>rfl,by rw [e]<;>rfl⟩ H
section
variable {P:Program} {ops:Array Oper} {Q:Exit→Act→World→Prop} {rest:List Oper} {n:Nat} {l:BQ} {w0 w:World} {F0:AU} {o:Oper} {As Rs:List SP} {x y:Operand} {t ti:TypeId}
end
section
variable {w0 w:World} {F0:AU} {As Rs:List SP} {t sb mb:Nat} {st:D5} {kvs:List Hh} {k:Int×Int} {v:Value} {us:List (Value×List Ap)}
end
def EA (r:Nat) (vS:Value) (vM:Value) (vC:Value) (vR:Value) (vK:Value) (J:AS) (cw:Int) (ct:Int) (co:Int) (sb:Nat) (R:AV):SP:=ex fun hv:Nat→Value=>ex fun vs:Value=>ex fun us:List (Value×List Int)=>BV [BT ((us.map (fun u=>u.2)=R.sets)),blk r (BF vS vM vC vR vK J cw ct co R.part R.ep R.g hv sb vs) 197,Y (At Ag) vS J.us,Y Af vM J.map,Y Af vC J.comb,Y Af vR J.red,Y (Ai .i64) vK J.marks,BY (R.g) hv,Y (At (Ai .i64)) vs us,CO 275 sb (R.st)]
theorem aM (r:Nat) (vS:Value) (vM:Value) (vC:Value) (vR:Value) (vK:Value) (J:AS) (cw:Int) (ct:Int) (co:Int) (sb:Nat) (R:AV) {w0 w:World} {F0:AU} {As Rs:List SP} (H:Hd w0 F0 w (EA r vS vM vC vR vK J cw ct co sb R::As) Rs):∃ hv:Nat→Value,∃ vs:Value,∃ us:List (Value×List Int),((us.map (fun u=>u.2)=R.sets))∧Hd w0 F0 w ([blk r (BF vS vM vC vR vK J cw ct co R.part R.ep R.g hv sb vs) 197,Y (At Ag) vS J.us,Y Af vM J.map,Y Af vC J.comb,Y Af vR J.red,Y (Ai .i64) vK J.marks,BY (R.g) hv,Y (At (Ai .i64)) vs us,CO 275 sb (R.st)]++As) Rs:=by
 obtain ⟨hv,H⟩:=Hd.exA H
 obtain ⟨vs,H⟩:=Hd.exA H
 obtain ⟨us,H⟩:=Hd.exA H
 exact ⟨hv,vs,us,H.stA.puA⟩
theorem RT (r:Nat) (vS:Value) (vM:Value) (vC:Value) (vR:Value) (vK:Value) (J:AS) (cw:Int) (ct:Int) (co:Int) (sb:Nat) (R:AV) (hv:Nat→Value) (vs:Value) (us:List (Value×List Int)) {w0 w:World} {F0:AU} {As Rs:List SP} (hp:(us.map (fun u=>u.2)=R.sets)) (H:Hd w0 F0 w ([blk r (BF vS vM vC vR vK J cw ct co R.part R.ep R.g hv sb vs) 197,Y (At Ag) vS J.us,Y Af vM J.map,Y Af vC J.comb,Y Af vR J.red,Y (Ai .i64) vK J.marks,BY (R.g) hv,Y (At (Ai .i64)) vs us,CO 275 sb (R.st)]++As) Rs):Hd w0 F0 w (EA r vS vM vC vR vK J cw ct co sb R::As) Rs:=by
 have H1:=(show Hd w0 F0 w ([BT ((us.map (fun u=>u.2)=R.sets)),blk r (BF vS vM vC vR vK J cw ct co R.part R.ep R.g hv sb vs) 197,Y (At Ag) vS J.us,Y Af vM J.map,Y Af vC J.comb,Y Af vR J.red,Y (Ai .i64) vK J.marks,BY (R.g) hv,Y (At (Ai .i64)) vs us,CO 275 sb (R.st)]++As) Rs from H.puI hp).stI
 replace H1:=Hd.exI (A:=fun us:List (Value×List Int)=>BV [BT ((us.map (fun u=>u.2)=R.sets)),blk r (BF vS vM vC vR vK J cw ct co R.part R.ep R.g hv sb vs) 197,Y (At Ag) vS J.us,Y Af vM J.map,Y Af vC J.comb,Y Af vR J.red,Y (Ai .i64) vK J.marks,BY (R.g) hv,Y (At (Ai .i64)) vs us,CO 275 sb (R.st)]) us H1
 replace H1:=Hd.exI (A:=fun vs:Value=>ex fun us:List (Value×List Int)=>BV [BT ((us.map (fun u=>u.2)=R.sets)),blk r (BF vS vM vC vR vK J cw ct co R.part R.ep R.g hv sb vs) 197,Y (At Ag) vS J.us,Y Af vM J.map,Y Af vC J.comb,Y Af vR J.red,Y (Ai .i64) vK J.marks,BY (R.g) hv,Y (At (Ai .i64)) vs us,CO 275 sb (R.st)]) vs H1
 replace H1:=Hd.exI (A:=fun hv:Nat→Value=>ex fun vs:Value=>ex fun us:List (Value×List Int)=>BV [BT ((us.map (fun u=>u.2)=R.sets)),blk r (BF vS vM vC vR vK J cw ct co R.part R.ep R.g hv sb vs) 197,Y (At Ag) vS J.us,Y Af vM J.map,Y Af vC J.comb,Y Af vR J.red,Y (Ai .i64) vK J.marks,BY (R.g) hv,Y (At (Ai .i64)) vs us,CO 275 sb (R.st)]) hv H1
 exact H1
theorem Vq (r:Nat) (A:Option Addr) (c:Nat) (vM2:Value) (vC2:Value) (vR2:Value) (vK2:Value) (J2:AS) (cw:Int) (ct:Int) (co:Int) (part:Int) (ep:Int) (R:AV) (hv:Nat→Value) (sb:Nat) (vs:Value) (hred:∀ i∈J2.red,AL i.a) (hf64:AL J2.fuel) (hus6:J2.us.length≤6) (hbp:∀ i,(R.g i).pairs.length≤1000) (hpt:part=R.part) (hep:ep=R.ep):
    Cn Tryz.prog 84 [.pointer (some ⟨r,0,none⟩)] [] [blk r (BF (.slice A J2.us.length c) vM2 vC2 vR2 vK2 J2 cw ct co part ep R.g hv sb vs) 197,BY (R.g) hv,Ae Af vR2 J2.red,gl] (fun v Bs=>∃ u:Value,v=.agg #[.int .i64 ((AT dg J2 R).kind),.int .i64 ((AT dg J2 R).sp),.int .i64 ((AT dg J2 R).att),.int .i64 ((AT dg J2 R).part),.int .i64 ((AT dg J2 R).seq),.int .i64 ((AT dg J2 R).next),.int .i64 ((AT dg J2 R).ep),.int .i64 ((AT dg J2 R).why),u,.slice none 0 0]∧Bs=[Y (Ai .i64) u ((AT dg J2 R).set)]):=by
 intro w0 F0 H
 refine enter Tryz.func84 U U (Nat.le_of_ble_eq_true U) (Aa (Ad (Dz U U U I4 H (fun b1 w H=>(Ab (Z ?_))))))
 replace H:Hd _ _ _ [blk b1 [.int .i64 0,.int .i64 0,.int .i64 0,.int .i64 0,.int .i64 0,.int .i64 0,.int .i64 0,.int .i64 0,.slice none 0 0,.slice none 0 0] 49] [blk r (BF (.slice A J2.us.length c) vM2 vC2 vR2 vK2 J2 cw ct co part ep R.g hv sb vs) 197,BY (R.g) hv,Ae Af vR2 J2.red,gl]:=H
 refine Aa (Aa (Ad (Ac U (V U U (C1 U JV U U) (Ab (Z (Cq U (AB (Z (Aa (Ad (Ac U (sc (YX r A c vM2 vC2 vR2 vK2 J2 cw ct co part ep R hv sb vs (by first |assumption|omega) (by first |assumption|omega) (by first |assumption|omega) (by first |assumption|omega)) H (lR 0 U (lR 1 U (lR 2 U (lR 3 U l0)))) U U (Av V6 U U) ?_)))))))))))))
 rintro _ _ w ⟨u2,rfl,rfl⟩ H
 replace H:=H.h1 (A:=Y Ag u2 ((DV dg J2 R).1))
 refine Ah 7 U (Ab (Z (Aa (Aa (Ad (Ac U (Ab (Z ?_))))))))
 refine Dx (b:=(DV dg J2 R).2.2) U (fun h3=>?_) (fun h3=>?_)
 ·refine Aa (Cc (.e 0 (.e 1 (.e 2 (.e 3 (.e 4 (.e 5 (.e 6 (.e 7 (.e 8 (.e 9 (.m 10 .z))))))))))) (fun w=>∃ Ar,Hd w0 F0 w (Y Ag u2 ((DV dg J2 R).1)::Ar) [blk r (BF (.slice A J2.us.length c) vM2 vC2 vR2 vK2 J2 cw ct co part ep R.g hv sb vs) 197,BY (R.g) hv,Ae Af vR2 J2.red,gl]) mo (by kernel_rfl) (fun w H=>⟨_,H⟩) H (fun w H=>(Au U (Ao U U U (fun w ⟨Ar,H⟩=>AH U U) (Ao U U U (fun w ⟨Ar,H⟩=>Aj U Pb U) (Ao U U U (fun w ⟨Ar,H⟩=>An U AE U (H.cellRI 0 U U)) (Au U (Ao U U U (fun w ⟨Ar,H⟩=>AH U U) (Ao U U U (fun w ⟨Ar,H⟩=>Aj U Pc U) (Ao U U U (fun w ⟨Ar,H⟩=>An U AE U (H.cellRI 0 U U)) (Au U (Ao U U U (fun w ⟨Ar,H⟩=>Di (parts:=[(0,.const (.int .i64 8)),(3,.tmp 19),(6,.tmp 23),(7,.tmp 24)]) (vs:=[.int .i64 8,.int .i64 part,.int .i64 ep,.int .i64 ((DV dg J2 R).2.1)]) (cs:=[.int .i64 8,.int .i64 0,.int .i64 0,.int .i64 part,.int .i64 0,.int .i64 0,.int .i64 ep,.int .i64 ((DV dg J2 R).2.1),.slice none 0 0,.slice none 0 0]) U HK U U) ?_))))))))))))
  refine AO U ?_
  replace H:=H.p1
  refine Bx U U U Fq U U H U (Nat.le_of_ble_eq_true U) (fun u hu=>by simp [Value.cells] at hu;rcases hu with rfl|rfl|rfl|rfl|rfl|rfl|rfl|rfl|rfl|rfl<;>rfl) (fun w H=>?_)
  replace H:=H.h1 (A:=blk b1 [.int .i64 8,.int .i64 0,.int .i64 0,.int .i64 part,.int .i64 0,.int .i64 0,.int .i64 ep,.int .i64 ((DV dg J2 R).2.1),.slice none 0 0,.slice none 0 0] 49)|>.p1
  refine AG ⟨_,H⟩ (BN (Z (Am (Az (FB (cs:=[.int .i64 8,.int .i64 0,.int .i64 0,.int .i64 part,.int .i64 0,.int .i64 0,.int .i64 ep,.int .i64 ((DV dg J2 R).2.1),.slice none 0 0,.slice none 0 0]) U U Fq U (H.cellsI 1 U U) ?_)))))
  have e:=Vs (D:=dg) (J:=J2) (R:=R) (by simpa using h3)
  replace H:=H.newnil (Ai .i64)|>.k1
  exact Al ⟨(.slice none 0 0),by rw [e,hpt,hep]<;>rfl,by rw [e]<;>rfl⟩ H
 refine AB (Z (Aa (Cc (.e 0 (.e 1 (.e 2 (.e 3 (.e 4 (.e 5 (.e 6 (.e 7 (.e 8 (.m 9 (.e 10 (.m 11 .z)))))))))))) (fun w=>∃ Ar,Hd w0 F0 w (Y Ag u2 ((DV dg J2 R).1)::Ar) [blk r (BF (.slice A J2.us.length c) vM2 vC2 vR2 vK2 J2 cw ct co part ep R.g hv sb vs) 197,BY (R.g) hv,Ae Af vR2 J2.red,gl]) mo (by kernel_rfl) (fun w H=>⟨_,H⟩) H (fun w H=>(Au U (Ao U U U (fun w ⟨Ar,H⟩=>AH U U) (Ao U U U (fun w ⟨Ar,H⟩=>Aj U Pb U) (Ao U U U (fun w ⟨Ar,H⟩=>An U AE U (H.cellRI 0 U U)) (Au U (Ao U U U (fun w ⟨Ar,H⟩=>AH U U) (Ao U U U (fun w ⟨Ar,H⟩=>Aj U Pc U) (Ao U U U (fun w ⟨Ar,H⟩=>An U AE U (H.cellRI 0 U U)) (Au U (AO U (sc (QU r A c vM2 vC2 vR2 vK2 J2 cw ct co part ep R hv sb vs (by first |assumption|omega)) H (lR 0 U l0) U U (Av P1 U U) ?_)))))))))))))))
 rintro v4 _ w rfl H
 replace H:=H.h1 (A:=Y (Ai .i64) v4 (C3 J2.us.length R))|>.p1
 refine AG ⟨_,H⟩ ?_
 obtain ⟨A5,c6,rfl,hc7,hm8,hp9⟩:=H.fA 1 rfl
 refine Ao U U U (fun w ⟨Ar,H⟩=>Di (parts:=[(0,.const (.int .i64 6)),(3,.tmp 29),(6,.tmp 33),(8,.tmp 35)]) (vs:=[.int .i64 6,.int .i64 part,.int .i64 ep,.slice A5 ((C3 J2.us.length R).length) c6]) (cs:=[.int .i64 6,.int .i64 0,.int .i64 0,.int .i64 part,.int .i64 0,.int .i64 0,.int .i64 ep,.int .i64 0,.slice A5 ((C3 J2.us.length R).length) c6,.slice none 0 0]) U HK U U) (AO U ?_)
 replace H:=H.p2
 refine Bx U U U Fq U U H U (Nat.le_of_ble_eq_true U) (fun u hu=>by simp [Value.cells] at hu;rcases hu with rfl|rfl|rfl|rfl|rfl|rfl|rfl|rfl|rfl|rfl<;>rfl) (fun w H=>?_)
 replace H:Hd _ _ _ [blk b1 [.int .i64 6,.int .i64 0,.int .i64 0,.int .i64 part,.int .i64 0,.int .i64 0,.int .i64 ep,.int .i64 0,.slice A5 ((C3 J2.us.length R).length) c6,.slice none 0 0] 49,Y Ag u2 ((DV dg J2 R).1),Y (Ai .i64) (.slice A5 ((C3 J2.us.length R).length) c6) (C3 J2.us.length R)] [blk r (BF (.slice A J2.us.length c) vM2 vC2 vR2 vK2 J2 cw ct co part ep R.g hv sb vs) 197,BY (R.g) hv,Ae Af vR2 J2.red,gl]:=H
 replace H:=H.p1
 refine AG ⟨_,H⟩ (BN (Z (Am (FB (cs:=[.int .i64 6,.int .i64 0,.int .i64 0,.int .i64 part,.int .i64 0,.int .i64 0,.int .i64 ep,.int .i64 0,.slice A5 ((C3 J2.us.length R).length) c6,.slice none 0 0]) U U Fq U (H.cellsI 1 U U) ?_))))
 have e:=PL (D:=dg) (J:=J2) (R:=R) (by simpa using h3)
 replace H:=H.p2.k1
 exact Al ⟨(.slice A5 ((C3 J2.us.length R).length) c6),by rw [e,hpt,hep]<;>rfl,by rw [e]<;>rfl⟩ H
end Go.Proofs.YthhajcnbjiiclaaGreatDoor.X
