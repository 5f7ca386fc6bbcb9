/- WorkerNone: texts XE, F2, XJob, J1, XJob2, XCfg, XRed, XOb, XRed2, C1, XStg, N1, N2, J2, J3, J4, N3, joined by a program of ours; what nothing names is left out. -/
import Derived.Test.YthgehekecfpikaaGreatDoorWorkerNoneQ3
import Derived.KernelRfl
set_option linter.unusedVariables false
set_option linter.unusedSimpArgs false
set_option maxHeartbeats 8000000
namespace Go.Proofs.YthgehekecfpikaaGreatDoor.X
open Go
theorem Sz {told:List An} {k v:ByteArray} (h:told.length≤40):(DJ told k v).2.length≤40:=by
 unfold DJ
 split
 ·exact h
 ·split
  ·exact h
  ·simp only [List.length_append,List.length_cons,List.length_nil];omega
theorem PA (m:VM):(GF m).1.told=m.told:=by
 rw [PB]
def TL (r:VM×Int):Prop:=r.1.told.length≤40
theorem DQ {c:Prop} [Decidable c] {x y:VM×Int} (hx:TL x) (hy:TL y):TL (if c then x else y):=by
 split
 ·exact hx
 ·exact hy
theorem Rf {D:A8} {key:ByteArray} {m:VM} {i:BO} {v:List AL} (h:m.told.length≤40):(B3 D key m i v).1.told.length≤40:=by
 have hn:TL (GF m):=by unfold TL;rw [PA];exact h
 have h20:TL (if (v.getD 0 CC).n≠0 then {m with pos:=i.a} else m,0):=by
  unfold TL
  dsimp only
  split<;>exact h
 exact DQ h (DQ h (DQ h (DQ h (DQ h (DQ h (DQ hn (DQ h (DQ h (DQ h (DQ h (DQ h (DQ h (DQ h (DQ h (DQ h (DQ h20 (DQ h (DQ h (DQ (Sz h) h)))))))))))))))))))
theorem NN {D:A8} {key:ByteArray} {m:VM} {i:BO} (h:m.told.length≤40):(BA D key m i).1.told.length≤40:=by
 unfold BA
 split
 ·exact h
 ·exact Rf h
theorem PZ {D:A8} {p:List BO} {key:ByteArray}:∀ (k:Nat) {m:VM},m.told.length≤40→(CE D p key k m).1.told.length≤40
 |0,m,h=>by
  unfold CE
  split<;>exact h
 |k+1,m,h=>by
  unfold CE
  split
  ·split
   ·split
    ·exact NN h
    ·exact PZ k (NN h)
   ·exact h
  ·exact h
theorem Qz (D:A8) (p:List BO) (key:ByteArray) (vals:List ByteArray) (fuel:Int):(Bo D p key vals fuel).1.length≤40:=by
 unfold Bo
 split
 ·exact Nat.zero_le _
 ·split
  ·exact Nat.zero_le _
  ·exact PZ _ (Nat.zero_le _)
def ID (k:ByteArray) (l:List An):Bool:=l.any fun x=>decide (x.key≠k)
def Eg (D:A8) (p:List BO) (ps:List An) (fuel:Int) (own:Bool):List ByteArray→List An→List An×Int
 |[],out=>(out,0)
 |k::ks,out=>
  if (Bo D p k (BN ps k) fuel).2≠0 then ([],(Bo D p k (BN ps k) fuel).2)
  else if own=true∧ID k (Bo D p k (BN ps k) fuel).1=true then ([],6)
  else if 40<out.length+(Bo D p k (BN ps k) fuel).1.length then ([],5)
  else Eg D p ps fuel own ks (out++(Bo D p k (BN ps k) fuel).1)
def Dm (D:A8) (p:List BO) (ps:List An) (fuel:Int) (own:Bool):List An×Int:=Eg D p ps fuel own (Dz ps) []
def Fw (D:A8) (p:List BO) (ps:List An) (fuel:Int):List An×Int:=if p.length=0 then (srt ps,0) else Dm D p ps fuel true
section
variable {D:A8} {p:List BO} {ps:List An} {fuel:Int} {own:Bool} {ks:List ByteArray} {k:ByteArray} {out:List An} {i:Nat}
theorem Tl (h:ks.length≤i):Eg D p ps fuel own (ks.drop i) out=(out,0):=by
 rw [List.drop_eq_nil_of_le h];rfl
theorem Tn (hk:ks[i]?=some k) (h:(Bo D p k (BN ps k) fuel).2≠0):Eg D p ps fuel own (ks.drop i) out=([],(Bo D p k (BN ps k) fuel).2):=by
 rw [EW hk];exact if_pos h
theorem Tm (hk:ks[i]?=some k) (h:¬ (Bo D p k (BN ps k) fuel).2≠0) (h2:own=true) (h3:ID k (Bo D p k (BN ps k) fuel).1=true):Eg D p ps fuel own (ks.drop i) out=([],6):=by
 rw [EW hk];unfold Eg;rw [if_neg h,if_pos ⟨h2,h3⟩]
theorem Oq (hk:ks[i]?=some k) (h:¬ (Bo D p k (BN ps k) fuel).2≠0) (h2:¬ (own=true∧ID k (Bo D p k (BN ps k) fuel).1=true)) (h3:40<out.length+(Bo D p k (BN ps k) fuel).1.length):Eg D p ps fuel own (ks.drop i) out=([],5):=by
 rw [EW hk];unfold Eg;rw [if_neg h,if_neg h2,if_pos h3]
theorem Ot (hk:ks[i]?=some k) (h:¬ (Bo D p k (BN ps k) fuel).2≠0) (h2:¬ (own=true∧ID k (Bo D p k (BN ps k) fuel).1=true)) (h3:¬ 40<out.length+(Bo D p k (BN ps k) fuel).1.length):
  Eg D p ps fuel own (ks.drop (i+1)) (out++(Bo D p k (BN ps k) fuel).1)=Eg D p ps fuel own (ks.drop i) out:=by
 rw [EW hk];conv=>rhs;unfold Eg
 rw [if_neg h,if_neg h2,if_neg h3]
end
theorem NP (D:A8) (p:List BO) (ps:List An) (fuel:Int) (own:Bool):∀ (ks:List ByteArray) (out:List An),out.length≤40→(Eg D p ps fuel own ks out).1.length≤40
 |[],out,h=>h
 |k::ks,out,h=>by
  unfold Eg
  split
  ·exact Nat.zero_le _
  ·split
   ·exact Nat.zero_le _
   ·split
    ·exact Nat.zero_le _
    ·exact NP D p ps fuel own ks _ (by simp only [List.length_append];omega)
def DD:List BO:=[⟨6,0,⟨#[]⟩⟩,⟨7,0,⟨#[]⟩⟩,⟨4,0,⟨#[]⟩⟩,⟨23,0,⟨#[]⟩⟩]
theorem Ly:∀ i∈DD,AP i.a:=by
 intro i hi
 simp only [DD,List.mem_cons,List.not_mem_nil,or_false] at hi
 rcases hi with rfl|rfl|rfl|rfl<;>exact Iq
theorem Sw (x:An) (kb:Nat) (key:ByteArray):
    Cn Tryz.prog 213 [.agg #[.string x.key,.string x.val],.pointer (some ⟨kb,0,none⟩)] [] [blk kb [.string key] 9] (fun v Bs=>v=.bool (decide (x.key≠key))∧Bs=[]):=by
 intro w0 F0 H
 refine enter Tryz.func213 U U (Nat.le_of_ble_eq_true U) (Aa (Ae (Cm U U U U H (fun b1 w H=>(Ad U (Ac (Z ?_)))))))
 replace H:Hd _ _ _ [blk b1 [.string x.key,.string x.val] 106] [blk kb [.string key] 9]:=H
 refine Aa (Ae (V U U (Aj U EY U) (V U U (Al U BR U (H.cellI 0 U U)) (V U U (Al U BR U (H.cellRI 0 U U)) (V U U (Mh U U U) (Ad U (Ac (Z (Am (Aq U U ?_))))))))))
 replace H:=H.nil
 exact Ak ⟨rfl,rfl⟩ H
theorem NQ (vp:Value) (p:List BO) (vps:Value) (ps:List An) (fuel:Int) (own:Bool) (hpa:∀ i∈p,AP i.a) (hfu:AP fuel) (hb:ps.length≤1000000):
    Cn Tryz.prog 177 [vp,vps,.int .i64 fuel,.bool own] [] [Ab Af vp p,Ab Ag vps ps,gl] (fun v Bs=>∃ u,v=.tuple #[u,.int .i64 (Dm dg p ps fuel own).2]∧Bs=[Y Ag u (Dm dg p ps fuel own).1]):=by
 intro w0 F0 H
 obtain ⟨A1,c2,rfl,hc3,hm4,hp5⟩:=H.fR 0 rfl
 obtain ⟨A6,c7,rfl,hc8,hm9,hp10⟩:=H.fR 1 rfl
 refine enter Tryz.func177 U U (Nat.le_of_ble_eq_true U) (Aa (Ae (Ah 2 U (Ac (Z ?_)))))
 replace H:Hd _ _ _ [] [Ab Af (.slice A1 p.length c2) p,Ab Ag (.slice A6 ps.length c7) ps,gl]:=H
 refine Aa (Ae (Ad U (Ac (Z (Aa (Ae (sc YV H l0 U U (Au Un U U) ?_)))))))
 rintro _ _ w ⟨b11,rfl,rfl⟩ H
 replace H:=H.h1 (A:=blk b11 [.int .i64 0,.int .i64 0,.int .i64 0,.int .i64 0,.int .i64 0,.int .i64 0,.int .i64 0,.int .i64 0] 322)
 refine Ad U (Ac (Z (Aa (Aa (Ae (Ad U (sc (Wv (.slice A6 ps.length c7) ps (by first |omega|decide)) H (lR 1 U l0) U U (Au Uo U U) ?_)))))))
 rintro v12 _ w rfl H
 obtain ⟨A13,c14,rfl,hc15,hm16,hp17⟩:=H.fA 0 rfl
 refine V U U (Bf U QX U) (Ad U (Ac (Z ?_)))
 replace H:Hd _ _ _ [Y Be (.slice A13 ((Dz ps).length) c14) (Dz ps),blk b11 [.int .i64 0,.int .i64 0,.int .i64 0,.int .i64 0,.int .i64 0,.int .i64 0,.int .i64 0,.int .i64 0] 322] [Ab Af (.slice A1 p.length c2) p,Ab Ag (.slice A6 ps.length c7) ps,gl]:=H
 refine AS ?_
 replace H:=H.newnil Ag
 refine BQ (σ:=Nat×Value×List An) (fun (i,q,out)=>[(0,.slice A1 p.length c2),(1,.slice A6 ps.length c7),(2,.int .i64 fuel),(3,.bool own),(10,q),(11,.pointer (some ⟨b11,0,none⟩)),(18,.slice A13 ((Dz ps).length) c14),(19,.int .i64 (((Dz ps).length:Nat):Int)),(20,.int .i64 ((i:Nat):Int))]) (fun (i,q,out) w=>(Hd w0 F0 w [Y Ag q out,Y Be (.slice A13 ((Dz ps).length) c14) (Dz ps),blk b11 [.int .i64 (out.length:Int),.int .i64 0,.int .i64 0,.int .i64 0,.int .i64 0,.int .i64 0,.int .i64 0,.int .i64 0] 322] [Ab Af (.slice A1 p.length c2) p,Ab Ag (.slice A6 ps.length c7) ps,gl])∧(i≤(Dz ps).length)∧(Eg dg p ps fuel own ((Dz ps).drop i) out=Dm dg p ps fuel own)∧(out.length≤40)) (fun (i,q,out)=>(Dz ps).length - i) (0,.slice none 0 0,[]) ⟨rfl,rfl,rfl,rfl,rfl,rfl,rfl,rfl,rfl,trivial⟩ ⟨H,Nat.zero_le _,rfl,Nat.zero_le _⟩ ?_
 rintro ⟨i,q,out⟩ w ⟨H,hi,hgo,ho⟩
 have hkl:=TW ps
 refine Aa (Ae (V U U (Bd U U U) (Ac (Z (Aa ?_)))))
 refine Aw U (fun h18=>?_) (fun h18=>?_)
 ·refine Ax (Z (Aa (AS (Aa (Ae ?_)))))
  obtain ⟨x19,hx20⟩:∃ z9,(Dz ps)[i]?=some z9:=⟨_,List.getElem?_eq_getElem (show i<(Dz ps).length by omega)⟩
  have th21:=H.thA 1 rfl hx20
  refine V U U (A0 (p:=AQ A13+i*1) U GO U U (by omega) (by omega) th21 U) (V U U (Al U BR U (H.elA 1 U hx20 (q:=0) U U)) (Dk U U U Ic H (fun b22 w H=>(BD U U U BR U U H U (Nat.le_of_ble_eq_true U) (fun u hu=>by simp [Value.cells] at hu;subst hu;rfl) (fun w H=>?_)))))
  replace H:=H.h4 (A:=blk b22 [.string x19] 9) (B:=Y Ag q out) (D:=blk b11 [.int .i64 (out.length:Int),.int .i64 0,.int .i64 0,.int .i64 0,.int .i64 0,.int .i64 0,.int .i64 0,.int .i64 0] 322)
  refine Ac (Z (Aa (B1 (.e 0 (.e 1 (.e 2 (.e 3 (.e 5 (.m 4 (.m 6 (.e 7 (.e 8 (.e 9 (.e 10 (.e 11 .z)))))))))))) (fun w=>∃ Ar,Hd w0 F0 w (blk b22 [.string x19] 9::Y Ag q out::Y Be (.slice A13 ((Dz ps).length) c14) (Dz ps)::blk b11 [.int .i64 (out.length:Int),.int .i64 0,.int .i64 0,.int .i64 0,.int .i64 0,.int .i64 0,.int .i64 0,.int .i64 0] 322::Ar) [Ab Af (.slice A1 p.length c2) p,Ab Ag (.slice A6 ps.length c7) ps,gl]) mo (by kernel_rfl) (fun w H=>⟨_,H⟩) H (fun w H=>(At U (Ap U U U (fun w ⟨Ar,H⟩=>Al U BR U (H.cellI 0 U U)) (At U (Ap U U U (fun w ⟨Ar,H⟩=>Al U BR U (H.cellI 0 U U)) (At U (AO U (sc (Wx (.slice A6 ps.length c7) ps x19 (by first |omega|decide)) H (lR 1 U l0) U U (Au Up U U) ?_)))))))))))
  rintro v23 _ w rfl H
  replace H:=H.h1 (A:=Y Be v23 (BN ps x19))|>.p4|>.p4|>.p4|>.p4
  refine AJ ⟨_,H⟩ (AO U (sc (Q3 (.slice A1 p.length c2) p x19 v23 (BN ps x19) fuel hpa hfu) H (lR 0 U (lA 4 U BE (lR 2 U l0))) U U (Au OQ U U) ?_))
  rintro _ _ w ⟨u24,rfl,rfl⟩ H
  replace H:=H.h1 (A:=Y Ag u24 ((Bo dg p x19 (BN ps x19) fuel).1))
  have hrt:=Qz dg p x19 (BN ps x19) fuel
  replace H:=H.p4.p4.p4.p4
  refine AJ ⟨_,H⟩ (At U (At U (At U (At U (At U (BK (Z (Aa (AS (Aa (Ae (Ad U (V U U (Dq U U U) (Ad U (Ac (Z ?_))))))))))))))))
  refine Aw U (fun h25=>?_) (fun h25=>?_)
  ·refine Aa (Ae (Ah 3 U (Ac (Z (Am (AY (Ay (AY (Ay (Ay (AY (Ay (B_ U U U ?_)))))))))))))
   have e:Dm dg p ps fuel own=([],(Bo dg p x19 (BN ps x19) fuel).2):=hgo.symm.trans (Tn hx20 h25)
   replace H:=H.nil|>.newnil Ag
   exact Ak ⟨_,by rw [e]<;>rfl,by rw [e]<;>rfl⟩ H
  refine Aa (Ae (Ah 2 U ?_))
  refine GM (d:=40) (b:=own) U (fun h26=>?_) (fun h26=>?_)
  ·refine Ad U (V U U (G8 (fs:=#[]) (cs:=#[.pointer (some ⟨b22,0,none⟩)]) U U U) (sc (NE 213 [.pointer (some ⟨b22,0,none⟩)] [blk b22 [.string x19] 9] (fun y=>decide (y.key≠x19)) Uq (fun y=>Sw y b22 x19) u24 (Bo dg p x19 (BN ps x19) fuel).1) H (lA 4 U BE (lA 0 U (fun _ h=>h) l0)) U U (Au OP U U) ?_))
   rintro _ _ w ⟨rfl,rfl⟩ H
   refine Ah 2 U (Ac (Z ?_))
   refine DO (b:=ID x19 (Bo dg p x19 (BN ps x19) fuel).1) U (fun h27=>?_) (fun h27=>?_)
   ·refine Aa (Ae (Ah 2 U (Ac (Z (Am (AY (Ay (AY (Ay (Ay (AY (Ay (B_ U U U ?_)))))))))))))
    have e:Dm dg p ps fuel own=([],6):=hgo.symm.trans (Tm hx20 h25 h26 h27)
    replace H:=H.nil|>.newnil Ag
    replace H:Hd _ _ _ [Y Ag (.slice none 0 0) []] [Ab Af (.slice A1 p.length c2) p,Ab Ag (.slice A6 ps.length c7) ps,gl]:=H
    exact Ak ⟨_,by rw [e]<;>rfl,by rw [e]<;>rfl⟩ H
   refine Aa (Ae (Ah 2 U ?_))
   obtain ⟨A28,c29,rfl,hc30,hm31,hp32⟩:=H.fA 4 rfl
   refine V U U (Bf U C7 U) ?_
   replace H:=H.p3
   replace H:Hd _ _ _ [blk b11 [.int .i64 (out.length:Int),.int .i64 0,.int .i64 0,.int .i64 0,.int .i64 0,.int .i64 0,.int .i64 0,.int .i64 0] 322,blk b22 [.string x19] 9,Y Ag q out,Y Be (.slice A13 ((Dz ps).length) c14) (Dz ps),Y Ag (.slice A28 (((Bo dg p x19 (BN ps x19) fuel).1).length) c29) ((Bo dg p x19 (BN ps x19) fuel).1),Y Be v23 (BN ps x19)] [Ab Af (.slice A1 p.length c2) p,Ab Ag (.slice A6 ps.length c7) ps,gl]:=H
   refine sc (QO b11 (out.length:Int) 0 0 0 0 0 0 0 ((((Bo dg p x19 (BN ps x19) fuel).1).length:Nat):Int) (by omega) (by omega)) H l0 U U (Au OW U U) ?_
   rintro _ _ w ⟨rfl,rfl⟩ H
   replace H:=H.h1 (A:=blk b11 [.int .i64 (min ((out.length:Int)+((((Bo dg p x19 (BN ps x19) fuel).1).length:Nat):Int)) 1099511627776),.int .i64 0,.int .i64 0,.int .i64 0,.int .i64 0,.int .i64 0,.int .i64 0,.int .i64 0] 322)
   refine V U U (CK U U U) (Ad U (Ac (Z ?_)))
   refine Aw U (fun h33=>?_) (fun h33=>?_)
   ·refine Aa (Ae (Ah 2 U (Ac (Z (Am (AY (Ay (AY (Ay (Ay (AY (Ay (B_ U U U ?_)))))))))))))
    have e:Dm dg p ps fuel own=([],5):=hgo.symm.trans (Oq hx20 h25 (fun h=>by rw [h.2] at h27;cases h27) (by omega))
    replace H:=H.nil|>.newnil Ag
    exact Ak ⟨_,by rw [e]<;>rfl,by rw [e]<;>rfl⟩ H
   refine Ax (AU (Z (Ae (Ah 2 U ?_))))
   replace H:=H.p2
   refine CA (xs:=out) (ys:=(Bo dg p x19 (BN ps x19) fuel).1) U U U By C9 U (by decide) U U H (by omega) (fun F hA hR=>BE F (hA _ (List.mem_of_getElem? (i:=3) U))) (fun v34 w H=>?_)
   replace H:=H.h1 (A:=Y Ag v34 (out++((Bo dg p x19 (BN ps x19) fuel).1)))
   refine Ad U (Ac (AU (Z (Ae (V U U (AX (z:=((i+1:Nat):Int)) U U U (by rw [AB (by omega) (by omega)];omega)) (Ad U (Ac ?_)))))))
   replace H:=H.p3.p1.k3
   have hl2:((out++(Bo dg p x19 (BN ps x19) fuel).1).length:Int)=min ((out.length:Int)+((((Bo dg p x19 (BN ps x19) fuel).1).length:Nat):Int)) 1099511627776:=by rw [List.length_append];omega
   replace H:Hd w0 F0 w [Y Ag v34 (out++((Bo dg p x19 (BN ps x19) fuel).1)),Y Be (.slice A13 ((Dz ps).length) c14) (Dz ps),blk b11 [.int .i64 ((out++(Bo dg p x19 (BN ps x19) fuel).1).length:Int),.int .i64 0,.int .i64 0,.int .i64 0,.int .i64 0,.int .i64 0,.int .i64 0,.int .i64 0] 322] [Ab Af (.slice A1 p.length c2) p,Ab Ag (.slice A6 ps.length c7) ps,gl]:=by rw [hl2];exact H
   have hg2:=(Ot (out:=out) hx20 h25 (fun h=>by rw [h.2] at h27;cases h27) (by omega)).trans hgo
   have ho2:(out++(Bo dg p x19 (BN ps x19) fuel).1).length≤40:=by rw [List.length_append];omega
   exact Bj (s:=(i,undef,out)) (i+1,v34,out++(Bo dg p x19 (BN ps x19) fuel).1) ⟨rfl,rfl,rfl,rfl,rfl,rfl,rfl,rfl,rfl,trivial⟩ ⟨H,by (try dsimp only);omega,hg2,ho2⟩ (by (try dsimp only);omega)
  refine Ah 5 U (Ac (Z (B7 U (Aa (Ae (Ah 2 U ?_))))))
  obtain ⟨A35,c36,rfl,hc37,hm38,hp39⟩:=H.fA 4 rfl
  refine V U U (Bf U C7 U) ?_
  replace H:=H.p3
  refine sc (QO b11 (out.length:Int) 0 0 0 0 0 0 0 ((((Bo dg p x19 (BN ps x19) fuel).1).length:Nat):Int) (by omega) (by omega)) H l0 U U (Au OW U U) ?_
  rintro _ _ w ⟨rfl,rfl⟩ H
  replace H:=H.h1 (A:=blk b11 [.int .i64 (min ((out.length:Int)+((((Bo dg p x19 (BN ps x19) fuel).1).length:Nat):Int)) 1099511627776),.int .i64 0,.int .i64 0,.int .i64 0,.int .i64 0,.int .i64 0,.int .i64 0,.int .i64 0] 322)
  refine V U U (CK U U U) (Ad U (Ac (Z ?_)))
  refine Aw U (fun h40=>?_) (fun h40=>?_)
  ·refine Aa (Ae (Ah 2 U (Ac (Z (Am (AY (Ay (AY (Ay (Ay (AY (Ay (B_ U U U ?_)))))))))))))
   have e:Dm dg p ps fuel own=([],5):=hgo.symm.trans (Oq hx20 h25 (fun h=>by rw [h.1] at h26;cases h26) (by omega))
   replace H:=H.nil|>.newnil Ag
   exact Ak ⟨_,by rw [e]<;>rfl,by rw [e]<;>rfl⟩ H
  refine Ax (AU (Z (Ae (Ah 2 U ?_))))
  replace H:=H.p2
  refine CA (xs:=out) (ys:=(Bo dg p x19 (BN ps x19) fuel).1) U U U By C9 U (by decide) U U H (by omega) (fun F hA hR=>BE F (hA _ (List.mem_of_getElem? (i:=3) U))) (fun v41 w H=>?_)
  replace H:=H.h1 (A:=Y Ag v41 (out++((Bo dg p x19 (BN ps x19) fuel).1)))
  refine Ad U (Ac (AU (Z (Ae (V U U (AX (z:=((i+1:Nat):Int)) U U U (by rw [AB (by omega) (by omega)];omega)) (Ad U (Ac ?_)))))))
  replace H:=H.p3.p1.k3
  have hl2:((out++(Bo dg p x19 (BN ps x19) fuel).1).length:Int)=min ((out.length:Int)+((((Bo dg p x19 (BN ps x19) fuel).1).length:Nat):Int)) 1099511627776:=by rw [List.length_append];omega
  replace H:Hd w0 F0 w [Y Ag v41 (out++((Bo dg p x19 (BN ps x19) fuel).1)),Y Be (.slice A13 ((Dz ps).length) c14) (Dz ps),blk b11 [.int .i64 ((out++(Bo dg p x19 (BN ps x19) fuel).1).length:Int),.int .i64 0,.int .i64 0,.int .i64 0,.int .i64 0,.int .i64 0,.int .i64 0,.int .i64 0] 322] [Ab Af (.slice A1 p.length c2) p,Ab Ag (.slice A6 ps.length c7) ps,gl]:=by rw [hl2];exact H
  have hg2:=(Ot (out:=out) hx20 h25 (fun h=>by rw [h.1] at h26;cases h26) (by omega)).trans hgo
  have ho2:(out++(Bo dg p x19 (BN ps x19) fuel).1).length≤40:=by rw [List.length_append];omega
  exact Bj (s:=(i,undef,out)) (i+1,v41,out++(Bo dg p x19 (BN ps x19) fuel).1) ⟨rfl,rfl,rfl,rfl,rfl,rfl,rfl,rfl,rfl,trivial⟩ ⟨H,by (try dsimp only);omega,hg2,ho2⟩ (by (try dsimp only);omega)
 refine BH (AR (AR (BI (Z (Aa (Ae (Ah 3 U (Ac (Z (Am (B_ U U U ?_)))))))))))
 replace H:=H.k1
 have e:Dm dg p ps fuel own=(out,0):=hgo.symm.trans (Tl (by omega))
 replace H:=H.h1 (A:=Y Ag q out)
 exact Ak ⟨_,by rw [e]<;>rfl,by rw [e]<;>rfl⟩ H
theorem Td (vp:Value) (p:List BO) (vps:Value) (ps:List An) (fuel:Int) (hpa:∀ i∈p,AP i.a) (hfu:AP fuel) (hb:ps.length≤1000000):
    Cn Tryz.prog 137 [vp,vps,.int .i64 fuel] [] [Ab Af vp p,Ab Ag vps ps,gl] (fun v Bs=>∃ u,v=.tuple #[u,.int .i64 (Dm dg p ps fuel false).2]∧Bs=[Y Ag u (Dm dg p ps fuel false).1]):=by
 intro w0 F0 H
 refine enter Tryz.func137 U U (Nat.le_of_ble_eq_true U) (Aa (Ae (Ah 2 U (Ac (Z (Aa (Ae (Ah 3 U (sc (NQ vp p vps ps fuel false hpa hfu hb) H (lR 0 U (lR 1 U (lR 2 U l0))) U U (Au OR U U) ?_)))))))))
 rintro _ _ w ⟨u1,rfl,rfl⟩ H
 refine Ah 4 U (Ac (Z ?_))
 replace H:Hd _ _ _ [Y Ag u1 ((Dm dg p ps fuel false).1)] [Ab Af vp p,Ab Ag vps ps,gl]:=H
 exact Am (B_ U U U (Ak ⟨_,rfl,rfl⟩ H))
theorem Tc (vp:Value) (p:List BO) (vps:Value) (ps:List An) (fuel:Int) (hpa:∀ i∈p,AP i.a) (hfu:AP fuel) (hb:ps.length≤1000000):
    Cn Tryz.prog 125 [vp,vps,.int .i64 fuel] [] [Ab Af vp p,Ab Ag vps ps,gl] (fun v Bs=>∃ u,v=.tuple #[u,.int .i64 (Fw dg p ps fuel).2]∧Bs=[Y Ag u (Fw dg p ps fuel).1]):=by
 intro w0 F0 H
 obtain ⟨A1,c2,rfl,hc3,hm4,hp5⟩:=H.fR 0 rfl
 obtain ⟨A6,c7,rfl,hc8,hm9,hp10⟩:=H.fR 1 rfl
 refine enter Tryz.func125 U U (Nat.le_of_ble_eq_true U) (Aa (Ae (Ah 2 U (Ac (Z ?_)))))
 replace H:Hd _ _ _ [] [Ab Af (.slice A1 p.length c2) p,Ab Ag (.slice A6 ps.length c7) ps,gl]:=H
 refine Aa (Aa (Ae (Ad U (V U U (Bf U GR U) (V U U (AW U U U) (Ac (Z ?_)))))))
 refine Aw U (fun h11=>?_) (fun h11=>?_)
 ·refine Aa (Ae (Ad U (sc (L9 (.slice A6 ps.length c7) ps (by first |omega|decide)) H (lR 1 U l0) U U (Au LF U U) ?_)))
  rintro v12 _ w rfl H
  replace H:=H.h1 (A:=Y Ag v12 (srt ps))
  refine Ah 2 U (Ac (Z (Am (Ay (B_ U U U ?_)))))
  have e:Fw dg p ps fuel=(srt ps,0):=if_pos (by omega)
  exact Ak ⟨_,by rw [e]<;>rfl,by rw [e]<;>rfl⟩ H
 refine Ax (Z (Aa (Ae (Ah 3 U (sc (NQ (.slice A1 p.length c2) p (.slice A6 ps.length c7) ps fuel true hpa hfu hb) H (lR 0 U (lR 1 U (lR 2 U l0))) U U (Au OR U U) ?_)))))
 rintro _ _ w ⟨u13,rfl,rfl⟩ H
 replace H:=H.h1 (A:=Y Ag u13 ((Dm dg p ps fuel true).1))
 refine Ah 4 U (Ac (Z (Am (B_ U U U ?_))))
 have e:Fw dg p ps fuel=Dm dg p ps fuel true:=if_neg (by omega)
 exact Ak ⟨_,by rw [e]<;>rfl,by rw [e]<;>rfl⟩ H
/-! ### What is told is small -/
def TS (r:VM×Int):Prop:=∀ q∈r.1.told,C5 q
theorem DR {c:Prop} [Decidable c] {x y:VM×Int} (hx:TS x) (hy:TS y):TS (if c then x else y):=by
 split
 ·exact hx
 ·exact hy
theorem SC {told:List An} {k v:ByteArray} (h:∀ q∈told,C5 q) (hv:v.size≤64):∀ q∈(DJ told k v).2,C5 q:=by
 unfold DJ
 split
 ·exact h
 ·split
  ·exact h
  ·intro q hq
   rcases List.mem_append.1 hq with h1|h1
   ·exact h q h1
   ·rw [List.mem_singleton.1 h1]
    exact ⟨by (try dsimp only);omega,hv⟩
theorem Re {D:A8} {key:ByteArray} {m:VM} {i:BO} {v:List AL} (h:∀ q∈m.told,C5 q) (hv:(v.getD 1 CC).b.size≤64):TS (B3 D key m i v):=by
 have hn:TS (GF m):=by unfold TS;rw [PA];exact h
 have h20:TS (if (v.getD 0 CC).n≠0 then {m with pos:=i.a} else m,0):=by
  unfold TS
  dsimp only
  split<;>exact h
 exact DR h (DR h (DR h (DR h (DR h (DR h (DR hn (DR h (DR h (DR h (DR h (DR h (DR h (DR h (DR h (DR h (DR h20 (DR h (DR h (DR (SC h hv) h)))))))))))))))))))
theorem NM {D:A8} {key:ByteArray} {n:Int} {m:VM} {i:BO} (hm:Ed n m) (h:∀ q∈m.told,C5 q):TS (BA D key m i):=by
 by_cases hN:(Av i.op m.stk).1≠0
 ·rw [KR hN];exact h
 ·rw [Dg hN]
  obtain ⟨l1,l2,l3,l4⟩:=LW (Classical.not_not.1 hN)
  exact Re h (L0 (fun x hx=>hm.ok.1 x (l3 x hx)) 1).2
theorem I8 {p:List BO} (h:Dt p<0):p.length≤40∧∀ i∈p,BB i p.length:=by
 have hl:p.length≤40:=by
  apply Classical.byContradiction
  intro hn
  unfold Dt at h
  split at h
  ·omega
  ·rw [if_pos (by omega)] at h;omega
 exact ⟨hl,(Nl hl).1 h⟩
theorem PY {D:A8} (hD:∀ s:ByteArray,AP (D.num s)) {p:List BO} {key:ByteArray} (hp:Dt p<0) (ha:∀ i∈p,AP i.a):∀ (k:Nat) {m:VM},Ed p.length m→(∀ q∈m.told,C5 q)→TS (CE D p key k m)
 |0,m,hm,h=>by
  unfold CE
  split<;>exact h
 |k+1,m,hm,h=>by
  by_cases hc:m.pos<p.length∧m.halted=false
  ·obtain ⟨i,hi⟩:∃ i,p[m.pos.toNat]?=some i:=⟨_,List.getElem?_eq_getElem (by have:=hm.pos;omega)⟩
   have him:=Cc hi
   have hm1:Ed p.length {m with pos:=m.pos+1}:=⟨hm.ok,hm.len,hm.told,(by have h9:=hm.pos;constructor<;>(try dsimp only)<;>omega)⟩
   by_cases hw:(BA D key {m with pos:=m.pos+1} i).2≠0
   ·rw [PV hc hi hw]
    exact NM hm1 h
   ·rw [PW hc hi hw]
    exact PY hD hp ha k (OH hD hm1 ((I8 hp).2 i him) (ha i him) (Classical.not_not.1 hw)) (NM hm1 h)
  ·rw [Ma _ hc];exact h
theorem TN (n:Int) (hn:0≤n) (vals:List ByteArray):Ed n (Dr vals):=⟨⟨(fun v hv=>by cases hv),fun _=>L2⟩,Nat.zero_le _,Nat.zero_le _,⟨Int.le_refl 0,hn⟩⟩
theorem Qy {D:A8} (hD:∀ s:ByteArray,AP (D.num s)) {p:List BO} (ha:∀ i∈p,AP i.a) (key:ByteArray) (vals:List ByteArray) (fuel:Int):∀ q∈(Bo D p key vals fuel).1,C5 q:=by
 unfold Bo
 split
 ·intro q hq;cases hq
 ·rename_i hn
  split
  ·intro q hq;cases hq
  ·exact PY hD (by omega) ha _ (TN _ (by omega) _) (fun q hq=>by cases hq)
theorem YH {xs:List An} (h:∀ q∈xs,C5 q):∀ q∈srt xs,C5 q:=fun q hq=>h q ((F7 xs).symm.mem hq)
theorem NO {D:A8} (hD:∀ s:ByteArray,AP (D.num s)) {p:List BO} (ha:∀ i∈p,AP i.a) {ps:List An} {fuel:Int} {own:Bool}:∀ (ks:List ByteArray) (out:List An),(∀ q∈out,C5 q)→∀ q∈(Eg D p ps fuel own ks out).1,C5 q
 |[],out,h=>h
 |k::ks,out,h=>by
  unfold Eg
  split
  ·intro q hq;cases hq
  ·split
   ·intro q hq;cases hq
   ·split
    ·intro q hq;cases hq
    ·refine NO hD ha ks _ fun q hq=>?_
     rcases List.mem_append.1 hq with h1|h1
     ·exact h q h1
     ·exact Qy hD ha _ _ _ q h1
/-! ### In order -/
theorem Sd {D:A8} (hD:∀ s:ByteArray,AP (D.num s)) {p:List BO} (ha:∀ i∈p,AP i.a) {ps:List An} {fuel:Int} (h:∀ q∈ps,C5 q):∀ q∈(Fw D p ps fuel).1,C5 q:=by
 unfold Fw
 split
 ·exact YH h
 ·exact NO hD ha _ _ fun q hq=>by cases hq
theorem Sc (D:A8) (p:List BO) (ps:List An) (fuel:Int) (h:ps.length≤40):(Fw D p ps fuel).1.length≤40:=by
 unfold Fw
 split
 ·show (srt ps).length≤40
  rw [F6];exact h
 ·exact NP D p ps fuel true _ _ (Nat.zero_le _)
/-! ### Jobs -/
structure AC where
 us:List (Value×List An)
 parts:Int
 map:List BO
 comb:List BO
 red:List BO
 chunk:Int
 window:Int
 fuel:Int
 marks:List Int
def GG (x:List An):Prop:=x.length≤8∧G4 x
instance (x:List An):Decidable (GG x):=inferInstanceAs (Decidable (_∧_))
def Gi (n:Int):Int→List Int→Prop
 |_,[]=>True
 |l,m::ms=>(l+1≤m∧m≤n)∧Gi n m ms
instance marksUpD (n:Int):∀ (l:Int) (ms:List Int),Decidable (Gi n l ms)
 |_,[]=>isTrue trivial
 |_,m::ms=>haveI:=marksUpD n m ms;inferInstanceAs (Decidable (_∧_))
def D1 (J:AC):Prop:=
 (1≤(J.us.length:Int)∧(J.us.length:Int)≤6)∧(1≤J.parts∧J.parts≤4)∧J.marks.length≤4∧(∀ u∈J.us,GG u.2)∧Gi J.us.length 0 J.marks∧
 (0<J.map.length∧Dt J.map<0)∧(0<J.red.length∧Dt J.red<0)∧Dt J.comb<0∧(1≤J.chunk∧J.chunk≤7)∧(1≤J.window∧J.window≤4)∧1≤J.fuel∧J.fuel≤2000
instance mayJD (J:AC):Decidable (D1 J):=by unfold D1;infer_instance
structure B5 (J:AC):Prop where
 may:D1 J
 map:∀ i∈J.map,AP i.a
 comb:∀ i∈J.comb,AP i.a
 red:∀ i∈J.red,AP i.a
theorem B5.us {J:AC} (h:B5 J):1≤J.us.length∧J.us.length≤6:=by have:=h.may.1;omega
theorem B5.parts {J:AC} (h:B5 J):1≤J.parts∧J.parts≤4:=h.may.2.1
theorem B5.fuel {J:AC} (h:B5 J):1≤J.fuel∧J.fuel≤2000:=h.may.2.2.2.2.2.2.2.2.2.2
theorem B5.split {J:AC} (h:B5 J):∀ u∈J.us,GG u.2:=h.may.2.2.2.1
theorem B5.f64 {J:AC} (h:B5 J):AP J.fuel:=by have:=h.fuel;unfold AP;omega
def EC (D:A8) (p:List BO) (fuel:Int):List An→List An→List An×Int
 |[],out=>(out,0)
 |r::rs,out=>
  if (Bo D p r.key [r.val] fuel).2≠0 then ([],(Bo D p r.key [r.val] fuel).2)
  else if 40<out.length+(Bo D p r.key [r.val] fuel).1.length then ([],5)
  else EC D p fuel rs (out++(Bo D p r.key [r.val] fuel).1)
section
variable {D:A8} {p:List BO} {fuel:Int} {rs:List An} {r:An} {out:List An} {i:Nat}
theorem Vx (h:rs.length≤i):EC D p fuel (rs.drop i) out=(out,0):=by
 rw [List.drop_eq_nil_of_le h];rfl
theorem VC (hr:rs[i]?=some r) (h:(Bo D p r.key [r.val] fuel).2≠0):EC D p fuel (rs.drop i) out=([],(Bo D p r.key [r.val] fuel).2):=by
 rw [EW hr];exact if_pos h
theorem Vy (hr:rs[i]?=some r) (h:¬ (Bo D p r.key [r.val] fuel).2≠0) (h3:40<out.length+(Bo D p r.key [r.val] fuel).1.length):EC D p fuel (rs.drop i) out=([],5):=by
 rw [EW hr];unfold EC;rw [if_neg h,if_pos h3]
theorem VA (hr:rs[i]?=some r) (h:¬ (Bo D p r.key [r.val] fuel).2≠0) (h3:¬ 40<out.length+(Bo D p r.key [r.val] fuel).1.length):
  EC D p fuel (rs.drop (i+1)) (out++(Bo D p r.key [r.val] fuel).1)=EC D p fuel (rs.drop i) out:=by
 rw [EW hr];conv=>rhs;unfold EC
 rw [if_neg h,if_neg h3]
theorem Ps (hD:∀ s:ByteArray,AP (D.num s)) (ha:∀ i∈p,AP i.a):∀ (rs out:List An),(∀ q∈out,C5 q)→∀ q∈(EC D p fuel rs out).1,C5 q
 |[],out,h=>h
 |r::rs,out,h=>by
  unfold EC
  split
  ·intro q hq;cases hq
  ·split
   ·intro q hq;cases hq
   ·refine Ps hD ha rs _ fun q hq=>?_
    rcases List.mem_append.1 hq with h1|h1
    ·exact h q h1
    ·exact Qy hD ha _ _ _ q h1
theorem Pq:∀ (rs out:List An),out.length≤40→(EC D p fuel rs out).1.length≤40
 |[],out,h=>h
 |r::rs,out,h=>by
  unfold EC
  split
  ·exact Nat.zero_le _
  ·split
   ·exact Nat.zero_le _
   ·exact Pq rs _ (by simp only [List.length_append];omega)
end
def recs (J:AC) (s:Nat):List An:=match J.us[s]? with
 |some u=>u.2
 |none=>[]
theorem XF {J:AC} {s:Nat} {u:Value×List An} (h:J.us[s]?=some u):recs J s=u.2:=by unfold recs;rw [h]
def mapM (D:A8) (J:AC) (s:Nat):List An×Int:=EC D J.map J.fuel (recs J s) []
def Az (D:A8) (J:AC) (s:Nat):List An×Int:=if (mapM D J s).2≠0 then ([],(mapM D J s).2) else Fw D J.comb (mapM D J s).1 J.fuel
theorem Pp (D:A8) (J:AC) (s:Nat):(mapM D J s).1.length≤40:=Pq _ _ (Nat.zero_le _)
theorem HW (D:A8) (J:AC) (s:Nat):(Az D J s).1.length≤40:=by
 unfold Az
 split
 ·exact Nat.zero_le _
 ·exact Sc _ _ _ _ (Pp _ _ _)
theorem IT {D:A8} (hD:∀ s:ByteArray,AP (D.num s)) {J:AC} (h:B5 J) (s:Nat):∀ q∈(Az D J s).1,C5 q:=by
 unfold Az
 split
 ·intro q hq;cases hq
 ·exact Sd hD h.comb (Ps hD h.map _ _ fun q hq=>by cases hq)
def Cr (D:A8) (J:AC) (s:Nat) (p:Int):List An:=EN (Az D J s).1 J.parts p
def Ig (D:A8) (J:AC) (p:Int):Nat→List An
 |0=>[]
 |k+1=>Ig D J p k++Cr D J k p
theorem IC (D:A8) (J:AC) (s:Nat) (p:Int):(Cr D J s p).length≤40:=Nat.le_trans (PL _ _ _) (HW _ _ _)
def HM (D:A8) (J:AC) (p:Int):List An×Int:=Dm D J.red (srt (Ig D J p J.us.length)) J.fuel false
def partsGo (D:A8) (J:AC):Nat→Nat→List (List An)→List (List An)×Int×Int
 |0,_,out=>(out,0,0)
 |k+1,p,out=>if (HM D J p).2≠0 then ([],(HM D J p).2,p) else partsGo D J k (p+1) (out++[(HM D J p).1])
def wholeGo (D:A8) (J:AC):Nat→Nat→List (List An)×Int×Int
 |0,_=>partsGo D J J.parts.toNat 0 []
 |k+1,s=>if (Az D J s).2≠0 then ([],(Az D J s).2,s) else wholeGo D J k (s+1)
def MM (D:A8) (J:AC):List (List An)×Int×Int:=wholeGo D J J.us.length 0
section
variable {D:A8} {J:AC} {s p:Nat} {out:List (List An)}
end
def Mo (D:A8) (J:AC) (s:Nat) (p:Int):List An×Int:=if (Az D J s).2≠0 then ([],(Az D J s).2) else (Cr D J s p,0)
theorem Ga (n:Int) (l:Int) (m:Int):
    Cn Tryz.prog 89 [.int .i64 n,.int .i64 l,.int .i64 m] [] [] (fun v Bs=>v=.bool (decide (l≤n∧n≤m))∧Bs=[]):=by
 intro w0 F0 H
 refine enter Tryz.func89 U U (Nat.le_of_ble_eq_true U) (Aa (Ae (Ad U (Ac (Z (Aa (Ae (Ah 2 U (V U U (CJ U U U) (Ad U ?_))))))))))
 refine AN (d:=10) U (fun h1=>?_) (fun h1=>?_)
 ·exact Ah 2 U (V U U (Cy U U U) (Ah 2 U (Ac (Z (Am (Aq U U (Ak ⟨congrArg Value.bool (decide_eq_decide.2 (by omega)),rfl⟩ H)))))))
 exact Ah 5 U (Ac (Z (Am (Aq U U (Ak ⟨congrArg Value.bool ((decide_eq_false (by omega)).symm),rfl⟩ H)))))
theorem OK (vxs:Value) (xs:List BO):
    Cn Tryz.prog 153 [vxs] [] [Ab Af vxs xs] (fun v Bs=>v=.bool (decide (0<(xs).length∧Dt xs<0))∧Bs=[]):=by
 intro w0 F0 H
 obtain ⟨A1,c2,rfl,hc3,hm4,hp5⟩:=H.fR 0 rfl
 refine enter Tryz.func153 U U (Nat.le_of_ble_eq_true U) (Aa (Ae (Ad U (Ac (Z ?_)))))
 replace H:Hd _ _ _ [] [Ab Af (.slice A1 xs.length c2) xs]:=H
 refine Aa (Ae (Ad U (V U U (Bf U GR U) (V U U (CK U U U) (Ad U ?_)))))
 refine AN (d:=6) U (fun h6=>?_) (fun h6=>?_)
 ·refine Ad U (sc (L6 (.slice A1 xs.length c2) xs) H (lR 0 U l0) U U (Au LC U U) ?_)
  rintro _ _ w ⟨rfl,rfl⟩ H
  exact Ah 2 U (Ac (Z (Am (Aq U U (Ak ⟨congrArg Value.bool (decide_eq_decide.2 (by omega)),rfl⟩ H)))))
 exact Ah 4 U (Ac (Z (Am (Aq U U (Ak ⟨congrArg Value.bool ((decide_eq_false (by omega)).symm),rfl⟩ H)))))
theorem OJ (vS vM vC vR vK:Value) (J:AC):
    Cn Tryz.prog 88 [.agg #[vS,.int .i64 J.parts,vM,vC,vR,.int .i64 J.chunk,.int .i64 J.window,.int .i64 J.fuel,vK]] [] [Ab (Ao Ag) vS J.us,Ab Af vM J.map,Ab Af vC J.comb,Ab Af vR J.red,Ab (Ai .i64) vK J.marks] (fun v Bs=>v=.bool (decide (D1 J))∧Bs=[]):=by
 intro w0 F0 H
 obtain ⟨A1,c2,rfl,hc3,hm4,hp5⟩:=H.fR 0 rfl
 obtain ⟨A6,c7,rfl,hc8,hm9,hp10⟩:=H.fR 1 rfl
 obtain ⟨A11,c12,rfl,hc13,hm14,hp15⟩:=H.fR 2 rfl
 obtain ⟨A16,c17,rfl,hc18,hm19,hp20⟩:=H.fR 3 rfl
 obtain ⟨A21,c22,rfl,hc23,hm24,hp25⟩:=H.fR 4 rfl
 refine enter Tryz.func88 U U (Nat.le_of_ble_eq_true U) (Aa (Ae (Cm U U U U H (fun b26 w H=>(Ad U (Ac (Z ?_)))))))
 replace H:Hd _ _ _ [blk b26 [.slice A1 J.us.length c2,.int .i64 J.parts,.slice A6 J.map.length c7,.slice A11 J.comb.length c12,.slice A16 J.red.length c17,.int .i64 J.chunk,.int .i64 J.window,.int .i64 J.fuel,.slice A21 J.marks.length c22] 26] [Ab (Ao Ag) (.slice A1 J.us.length c2) J.us,Ab Af (.slice A6 J.map.length c7) J.map,Ab Af (.slice A11 J.comb.length c12) J.comb,Ab Af (.slice A16 J.red.length c17) J.red,Ab (Ai .i64) (.slice A21 J.marks.length c22) J.marks]:=H
 refine Aa (Aa (Ae (V U U (Aj U Eh U) (V U U (Al U Eo U (H.cellI 0 U U)) (V U U (Bf U EP U) (sc (Ga ((J.us.length:Nat):Int) 1 6) H l0 U U (Au FT U U) ?_))))))
 rintro _ _ w ⟨rfl,rfl⟩ H
 refine V U U (D7 U U) (Ad U ?_)
 refine AN (d:=13) U (fun h27=>?_) (fun h27=>?_)
 ·refine Ah 11 U (Ac (Z (Ck U (Aa (Ae (Ad U (Ac (Z (Am (Ay (Aq U U ?_)))))))))))
  replace H:=H.nil
  have e:¬ D1 J:=by
    rintro ⟨g1,g2,g3,g4,g5,g6,g7,g8,g9,g10,g11⟩
    omega
  exact Ak ⟨congrArg Value.bool (decide_eq_false e).symm,rfl⟩ H
 refine V U U (Aj U HC U) (V U U (Al U AA U (H.cellI 0 U U)) (sc (Ga J.parts 1 4) H l0 U U (Au FT U U) ?_))
 rintro _ _ w ⟨rfl,rfl⟩ H
 refine V U U (D7 U U) (Ah 2 U ?_)
 refine AN (d:=19) U (fun h28=>?_) (fun h28=>?_)
 ·refine Ah 5 U (Ac (Z (Ck U (Aa (Ae (Ad U (Ac (Z (Am (Ay (Aq U U ?_)))))))))))
  replace H:=H.nil
  have e:¬ D1 J:=by
    rintro ⟨g1,g2,g3,g4,g5,g6,g7,g8,g9,g10,g11⟩
    omega
  exact Ak ⟨congrArg Value.bool (decide_eq_false e).symm,rfl⟩ H
 refine V U U (Aj U Jx U) (V U U (Al U Fr U (H.cellI 0 U U)) (V U U (Bf U E7 U) (V U U (CK U U U) (Ad U (Ac (Z ?_))))))
 refine Aw U (fun h29=>?_) (fun h29=>?_)
 ·refine Aa (Ae (Ad U (Ac (Z (Am (Ay (Aq U U ?_)))))))
  replace H:=H.nil
  have e:¬ D1 J:=by
    rintro ⟨g1,g2,g3,g4,g5,g6,g7,g8,g9,g10,g11⟩
    omega
  exact Ak ⟨congrArg Value.bool (decide_eq_false e).symm,rfl⟩ H
 refine Ax (Z (Aa (Aa (Ae (V U U (Aj U Eh U) (V U U (Al U Eo U (H.cellI 0 U U)) (V U U (Bf U EP U) (Ad U (Ac (Z (AS (BQ (σ:=Nat) (fun k=>[(1,.pointer (some ⟨b26,0,none⟩)),(26,.slice A1 J.us.length c2),(27,.int .i64 ((J.us.length:Nat):Int)),(28,.int .i64 ((k:Nat):Int))]) (fun k w=>(Hd w0 F0 w [blk b26 [.slice A1 J.us.length c2,.int .i64 J.parts,.slice A6 J.map.length c7,.slice A11 J.comb.length c12,.slice A16 J.red.length c17,.int .i64 J.chunk,.int .i64 J.window,.int .i64 J.fuel,.slice A21 J.marks.length c22] 26] [Ab (Ao Ag) (.slice A1 J.us.length c2) J.us,Ab Af (.slice A6 J.map.length c7) J.map,Ab Af (.slice A11 J.comb.length c12) J.comb,Ab Af (.slice A16 J.red.length c17) J.red,Ab (Ai .i64) (.slice A21 J.marks.length c22) J.marks])∧(k≤J.us.length)∧(∀ u∈J.us.take k,GG u.2)) (fun k=>J.us.length - k) 0 ⟨rfl,rfl,rfl,rfl,trivial⟩ ⟨H,by omega,by simp⟩ ?_))))))))))))
 rintro k w ⟨H,hk,hn⟩
 refine Aa (Ae (V U U (Bd U U U) (Ac (Z (Aa ?_)))))
 refine Aw U (fun h30=>?_) (fun h30=>?_)
 ·refine Ax (Z (Aa (AS (Aa (Ae ?_)))))
  obtain ⟨⟨u33,x31⟩,hx32⟩:∃ z9,J.us[k]?=some z9:=⟨_,List.getElem?_eq_getElem (show k<J.us.length by omega)⟩
  obtain ⟨A34,c35,rfl,hc36,hm37⟩:=H.nestR 0 rfl hx32
  have th38:=H.thRd 0 rfl hx32
  refine V U U (A0 (p:=AQ A1+k*1) U F5 U U (by omega) (by omega) th38 U) (V U U (Al U EF U (H.elRd 0 U hx32 U)) (Ad U (Ac (Z (Aa (Ae (Ad U (V U U (Bf U C7 U) (V U U (CK U U U) (Ad U ?_))))))))))
  refine AN (d:=35) U (fun h39=>?_) (fun h39=>?_)
  ·refine Ah 4 U (Ac (Z (Ck U (Aa (Ae (Ad U (Ac (Z (Am (AY (Ay (Ay (AY (Ay (Aq U U ?_)))))))))))))))
   replace H:=H.nil
   have e:¬ D1 J:=by
     rintro ⟨g1,g2,g3,g4,g5,g6,g7,g8,g9,g10,g11⟩
     have g:=g4 _ (Cc hx32);have ga:x31.length≤8:=g.1;first |exact (h39 g.2).elim|omega
   exact Ak ⟨congrArg Value.bool (decide_eq_false e).symm,rfl⟩ H
  refine Ad U (sc (Ww (.slice A34 x31.length c35) x31) H (lX (fun F hA hR=>Iz (hR _ (List.mem_of_getElem? (i:=0) U)) hx32) l0) U U (Au T0 U U) ?_)
  rintro _ _ w ⟨rfl,rfl⟩ H
  refine V U U (D7 U U) (Ad U (Ac (Z ?_)))
  refine Aw U (fun h40=>?_) (fun h40=>?_)
  ·refine Aa (Ae (Ad U (Ac (Z (Am (AY (Ay (Ay (AY (Ay (Aq U U ?_)))))))))))
   replace H:=H.nil
   have e:¬ D1 J:=by
     rintro ⟨g1,g2,g3,g4,g5,g6,g7,g8,g9,g10,g11⟩
     have g:=g4 _ (Cc hx32);have ga:x31.length≤8:=g.1;first |exact (h40 g.2).elim|omega
   exact Ak ⟨congrArg Value.bool (decide_eq_false e).symm,rfl⟩ H
  refine Ax (AU (Z (Ae (V U U (AX (z:=((k+1:Nat):Int)) U U U (by rw [AB (by omega) (by omega)];omega)) (Ad U (Ac ?_))))))
  have hn2:=HY (Q:=fun u:Value×List An=>GG u.2) hn hx32 ⟨(show x31.length≤8 by omega),Classical.not_not.1 h40⟩
  exact Bj (s:=k) (k+1) ⟨rfl,rfl,rfl,rfl,trivial⟩ ⟨H,by (try dsimp only);omega,hn2⟩ (by (try dsimp only);omega)
 refine BH (AR (AR (BI (Z (Aa (Ae (Ad U (Ac (Z (Aa (Aa (Ae (V U U (Aj U Jx U) (V U U (Al U Fr U (H.cellI 0 U U)) (V U U (Bf U E7 U) (Ad U (Ac (Z (AS ?_)))))))))))))))))))
 have hal:∀ u∈J.us,GG u.2:=by rw [←Gq (xs:=J.us) (k:=k) (by omega)];exact hn
 refine BQ (σ:=Nat×Int) (fun (j,last)=>[(1,.pointer (some ⟨b26,0,none⟩)),(5,.int .i64 last),(42,.slice A21 J.marks.length c22),(43,.int .i64 ((J.marks.length:Nat):Int)),(44,.int .i64 ((j:Nat):Int))]) (fun (j,last) w=>(Hd w0 F0 w [blk b26 [.slice A1 J.us.length c2,.int .i64 J.parts,.slice A6 J.map.length c7,.slice A11 J.comb.length c12,.slice A16 J.red.length c17,.int .i64 J.chunk,.int .i64 J.window,.int .i64 J.fuel,.slice A21 J.marks.length c22] 26] [Ab (Ao Ag) (.slice A1 J.us.length c2) J.us,Ab Af (.slice A6 J.map.length c7) J.map,Ab Af (.slice A11 J.comb.length c12) J.comb,Ab Af (.slice A16 J.red.length c17) J.red,Ab (Ai .i64) (.slice A21 J.marks.length c22) J.marks])∧(j≤J.marks.length∧0≤last∧last≤6)∧(Gi J.us.length last (J.marks.drop j)↔Gi J.us.length 0 J.marks)) (fun (j,last)=>J.marks.length - j) (0,0) ⟨rfl,rfl,rfl,rfl,rfl,trivial⟩ ⟨H,by (try dsimp only);omega,Iff.rfl⟩ ?_
 rintro ⟨j,last⟩ w ⟨H,hj,hm⟩
 refine Aa (Ae (V U U (Bd U U U) (Ac (Z (Aa ?_)))))
 refine Aw U (fun h41=>?_) (fun h41=>?_)
 ·refine Ax (Z (Aa (AS (Aa (Ae ?_)))))
  obtain ⟨x42,hx43⟩:∃ z9,J.marks[j]?=some z9:=⟨_,List.getElem?_eq_getElem (show j<J.marks.length by omega)⟩
  have th44:=H.thR 4 rfl hx43
  refine V U U (A0 (p:=AQ A21+j*1) U DW U U (by omega) (by omega) th44 U) (V U U (Al U AA U (H.elR 4 U hx43 (q:=0) U U)) (Ad U (Ac (Z (Aa (Aa (Ae (Ah 2 U (V U U (AX (z:=last+1) U U U (AB (by omega) (by omega))) (V U U (Aj U Eh U) (V U U (Al U Eo U (H.cellI 0 U U)) (V U U (Bf U EP U) (sc (Ga x42 (last+1) ((J.us.length:Nat):Int)) H l0 U U (Au FT U U) ?_)))))))))))))
  rintro _ _ w ⟨rfl,rfl⟩ H
  refine V U U (D7 U U) (Ac (Z ?_))
  refine Aw U (fun h45=>?_) (fun h45=>?_)
  ·refine Aa (Ae (Ad U (Ac (Z (Am (Ay (AY (Ay (Ay (AY (Ay (Aq U U ?_))))))))))))
   replace H:=H.nil
   have e:¬ D1 J:=by
     rintro ⟨g1,g2,g3,g4,g5,g6,g7,g8,g9,g10,g11⟩
     have g:=hm.2 g5;rw [EW hx43] at g;have g0:=g.1;omega
   exact Ak ⟨congrArg Value.bool (decide_eq_false e).symm,rfl⟩ H
  refine Ax (Z (Ae (Ah 2 U (Ac (AU (Z (Ae (V U U (AX (z:=((j+1:Nat):Int)) U U U (by rw [AB (by omega) (by omega)];omega)) (Ad U (Ac ?_))))))))))
  have hm2:Gi J.us.length x42 (J.marks.drop (j+1))↔Gi J.us.length 0 J.marks:=by rw [←hm,EW hx43];exact ⟨fun g=>⟨by omega,g⟩,fun g=>g.2⟩
  exact Bj (s:=(j,last)) (j+1,x42) ⟨rfl,rfl,rfl,rfl,rfl,trivial⟩ ⟨H,by (try dsimp only);omega,hm2⟩ (by (try dsimp only);omega)
 refine BH (AR (AR (BI (Z (Aa (Ae (V U U (Aj U Jt U) (V U U (Al U Fq U (H.cellI 0 U U)) (sc (OK (.slice A6 J.map.length c7) J.map) H (lR 1 U l0) U U (Au OM U U) ?_)))))))))
 rintro _ _ w ⟨rfl,rfl⟩ H
 refine Ad U ?_
 refine AN (d:=61) U (fun h46=>?_) (fun h46=>?_)
 ·refine V U U (Aj U Jv U) (V U U (Al U Fq U (H.cellI 0 U U)) (sc (OK (.slice A16 J.red.length c17) J.red) H (lR 3 U l0) U U (Au OM U U) ?_))
  rintro _ _ w ⟨rfl,rfl⟩ H
  refine Ah 2 U ?_
  refine AN (d:=66) U (fun h47=>?_) (fun h47=>?_)
  ·refine V U U (Aj U Ju U) (V U U (Al U Fq U (H.cellI 0 U U)) (sc (L6 (.slice A11 J.comb.length c12) J.comb) H (lR 2 U l0) U U (Au LC U U) ?_))
   rintro _ _ w ⟨rfl,rfl⟩ H
   refine Ah 2 U ?_
   refine AN (d:=71) U (fun h48=>?_) (fun h48=>?_)
   ·refine V U U (Aj U Od U) (V U U (Al U AA U (H.cellI 0 U U)) (sc (Ga J.chunk 1 7) H l0 U U (Au FT U U) ?_))
    rintro _ _ w ⟨rfl,rfl⟩ H
    refine Ah 2 U ?_
    refine AN (d:=76) U (fun h49=>?_) (fun h49=>?_)
    ·refine V U U (Aj U Oe U) (V U U (Al U AA U (H.cellI 0 U U)) (sc (Ga J.window 1 4) H l0 U U (Au FT U U) ?_))
     rintro _ _ w ⟨rfl,rfl⟩ H
     refine Ah 2 U ?_
     refine AN (d:=81) U (fun h50=>?_) (fun h50=>?_)
     ·refine V U U (Aj U Jw U) (V U U (Al U AA U (H.cellI 0 U U)) (sc (Ga J.fuel 1 2000) H l0 U U (Au FT U U) ?_))
      rintro _ _ w ⟨rfl,rfl⟩ H
      refine Ah 2 U (Ac (Z (Am (Aq U U ?_))))
      replace H:=H.nil
      have hmk:Gi J.us.length 0 J.marks:=hm.1 (by rw [List.drop_eq_nil_of_le (by omega)];trivial)
      have e:(1≤J.fuel∧J.fuel≤2000)↔D1 J:=⟨fun g=>⟨by omega,by omega,by omega,hal,hmk,by omega,by omega,by omega,by omega,by omega,by omega⟩,fun g=>by have g6:=g.2.2.2.2.2;omega⟩
      exact Ak ⟨congrArg Value.bool (decide_eq_decide.2 e),rfl⟩ H
     refine Ah 5 U (Ac (Z (Am (Aq U U ?_))))
     replace H:=H.nil
     have e:¬ D1 J:=by
       rintro ⟨g1,g2,g3,g4,g5,g6,g7,g8,g9,g10,g11⟩
       omega
     exact Ak ⟨congrArg Value.bool (decide_eq_false e).symm,rfl⟩ H
    refine Ah 10 U (Ac (Z (Am (Aq U U ?_))))
    replace H:=H.nil
    have e:¬ D1 J:=by
      rintro ⟨g1,g2,g3,g4,g5,g6,g7,g8,g9,g10,g11⟩
      omega
    exact Ak ⟨congrArg Value.bool (decide_eq_false e).symm,rfl⟩ H
   refine Ah 12 U (Ah 3 U (Ac (Z (Am (Aq U U ?_)))))
   replace H:=H.nil
   have e:¬ D1 J:=by
     rintro ⟨g1,g2,g3,g4,g5,g6,g7,g8,g9,g10,g11⟩
     omega
   exact Ak ⟨congrArg Value.bool (decide_eq_false e).symm,rfl⟩ H
  refine Ah 12 U (Ah 8 U (Ac (Z (Am (Aq U U ?_)))))
  replace H:=H.nil
  have e:¬ D1 J:=by
    rintro ⟨g1,g2,g3,g4,g5,g6,g7,g8,g9,g10,g11⟩
    omega
  exact Ak ⟨congrArg Value.bool (decide_eq_false e).symm,rfl⟩ H
 refine Ah 12 U (Ah 12 U (Ad U (Ac (Z (Am (Aq U U ?_))))))
 replace H:=H.nil
 have e:¬ D1 J:=by
   rintro ⟨g1,g2,g3,g4,g5,g6,g7,g8,g9,g10,g11⟩
   omega
 exact Ak ⟨congrArg Value.bool (decide_eq_false e).symm,rfl⟩ H
theorem WK (key:ByteArray) (hb0:key.size≤9223372036854775807):
    Cn Tryz.prog 215 [.string key] [] [] (fun v Bs=>v=.int .u32 (D6 key key.size)∧Bs=[]):=by
 intro w0 F0 H
 refine enter Tryz.func215 U U (Nat.le_of_ble_eq_true U) (Aa (Ae (Ad U (Ac (Z (Aa (Ae (Ad U (Ac (Z (Aa (Aa (Ae (Ad U (V U U (Dp U CF U) (Ad U (Ac (Z (AS (BQ (σ:=Nat) (fun k=>[(0,.string key),(2,.int .u32 0),(3,.int .u32 (D6 key k)),(6,.int .i64 ((key.size:Nat):Int)),(7,.int .i64 ((k:Nat):Int))]) (fun k w=>(Hd w0 F0 w [] [])∧(k≤key.size)) (fun k=>key.size - k) 0 ⟨rfl,rfl,rfl,rfl,rfl,trivial⟩ ⟨H,by (try dsimp only);omega⟩ ?_))))))))))))))))))))
 rintro k w ⟨H,hk⟩
 refine Aa (Ae (V U U (Bd U U U) (Ac (Z (Aa ?_)))))
 refine Aw U (fun h1=>?_) (fun h1=>?_)
 ·refine Ax (Z (Aa (AS (Aa (Ae (Ah 2 U (Ac (Z (Ae (Ad U (V U U (GJ (z:=IntKind.u32.wrap (31*D6 key k)) U U U U) (Ah 2 U ?_))))))))))))
  obtain ⟨b,hb⟩:∃ b,key[k]?=some b:=⟨_,getElem?_pos key k (by omega)⟩
  exact V U U (II U CF U U (by omega) hb) (V U U (DV (z:=((b).toNat:Int)) U U Hj QW (Z2 b)) (V U U (AX (z:=IntKind.u32.wrap (IntKind.u32.wrap (31*D6 key k)+(b.toNat:Int))) U U U U) (Ad U (Ac (AU (Z (Ae (V U U (AX (z:=((k+1:Nat):Int)) U U U (by rw [AB (by omega) (by omega)];omega)) (Ad U (Ac (Bj (s:=k) (k+1) ⟨rfl,rfl,congrArg (fun z=>some (Value.int .u32 z)) (V6 hb).symm,rfl,rfl,trivial⟩ ⟨H,by (try dsimp only);omega⟩ (by (try dsimp only);omega))))))))))))
 refine BH (AR (AR (BI (Z (Aa (Ae (Ah 2 U (Ac (Z (Am (Aq U U ?_)))))))))))
 obtain rfl:k=key.size:=by omega
 exact Ak ⟨rfl,rfl⟩ H
theorem WM (key:ByteArray) (n:Int) (hb0:key.size≤9223372036854775807) (hn:n≤9223372036854775807):
    Cn Tryz.prog 178 [.string key,.int .i64 n] [] [] (fun v Bs=>v=.int .i64 (JY key n)∧Bs=[]):=by
 intro w0 F0 H
 refine enter Tryz.func178 U U (Nat.le_of_ble_eq_true U) (Aa (Ae (Ad U (Ac (Z (Aa (Aa (Ae (Ad U (V U U (Bd U U U) (Ac (Z ?_))))))))))))
 refine Aw U (fun h1=>?_) (fun h1=>?_)
 ·exact Aa (Ae (Ad U (Ac (Z (Am (Ay (Aq U U (Ak ⟨congrArg (Value.int .i64) (if_pos h1).symm,rfl⟩ H))))))))
 refine Ax (Z (Aa (Ae (Ad U (sc (WK key (by first |omega|decide)) H l0 U U (Au Ur U U) ?_)))))
 rintro _ _ w ⟨rfl,rfl⟩ H
 exact V U U (DV (z:=D6 key key.size) U U QW Hg (Ft (LY key key.size).1 (by have:=(LY key key.size).2;omega))) (Ad U (V U U (DV (z:=n) U U D5 Hg (Ft (by omega) (by omega))) (V U U (Mi (z:=(D6 key key.size)%n) U U U (by omega) (Int.tmod_eq_emod_of_nonneg (LY key key.size).1)) (V U U (DV (z:=(D6 key key.size)%n) U U Hg D5 (AB (by have:=Int.emod_nonneg (D6 key key.size) (show n≠0 by omega);omega) (by have:=Int.emod_lt_of_pos (D6 key key.size) (show 0<n by omega);omega))) (Ad U (Ac (Z (Am (Aq U U (Ak ⟨congrArg (Value.int .i64) (if_neg h1).symm,rfl⟩ H))))))))))
theorem Wg (vxs:Value) (xs:List An) (n:Int) (p:Int) (hb:xs.length≤1000000) (hn:n≤9223372036854775807) (hk:∀ x∈xs,x.key.size≤9223372036854775807):
    Cn Tryz.prog 126 [vxs,.int .i64 n,.int .i64 p] [] [Ab Ag vxs xs] (fun v Bs=>Bs=[Y Ag v (EN xs n p)]):=by
 intro w0 F0 H
 obtain ⟨A1,c2,rfl,hc3,hm4,hp5⟩:=H.fR 0 rfl
 refine enter Tryz.func126 U U (Nat.le_of_ble_eq_true U) (Aa (Ae (Ad U (Ac (Z ?_)))))
 replace H:Hd _ _ _ [] [Ab Ag (.slice A1 xs.length c2) xs]:=H
 refine Aa (Ae (Ad U (Ac (Z (Aa (Aa (Ae (Ad U (V U U (Bf U C7 U) (Ad U (Ac (Z (AS ?_)))))))))))))
 replace H:=H.newnil Ag
 refine BQ (σ:=Nat×Value) (fun (k,l)=>[(1,.int .i64 n),(2,.int .i64 p),(6,.slice none 0 0),(7,l),(10,.slice A1 xs.length c2),(11,.int .i64 ((xs.length:Nat):Int)),(12,.int .i64 ((k:Nat):Int))]) (fun (k,l) w=>(Hd w0 F0 w [Y Ag l (EN (xs.take k) n p)] [Ab Ag (.slice A1 xs.length c2) xs])∧(k≤xs.length)) (fun (k,l)=>xs.length - k) (0,.slice none 0 0) ⟨rfl,rfl,rfl,rfl,rfl,rfl,rfl,trivial⟩ ⟨H,by (try dsimp only);omega⟩ ?_
 rintro ⟨k,l⟩ w ⟨H,hk0⟩
 have hjl:=PL (xs.take k) n p
 have hjt:(xs.take k).length≤xs.length:=by simp;omega
 refine Aa (Ae (V U U (Bd U U U) (Ac (Z (Aa ?_)))))
 refine Aw U (fun h6=>?_) (fun h6=>?_)
 ·refine Ax (Z (Aa (AS (Aa (Ae ?_)))))
  obtain ⟨x7,hx8⟩:∃ z9,xs[k]?=some z9:=⟨_,List.getElem?_eq_getElem (show k<xs.length by omega)⟩
  have th9:=H.thR 0 rfl hx8
  refine V U U (A0 (p:=AQ A1+k*2) U By U U (by omega) (by omega) th9 U) (V U U (Bn (cs:=[.string x7.key,.string x7.val]) U Ca U U (H.elsR 0 U hx8 U)) (Dk U U U C9 H (fun b10 w H=>(BD U U U Ca U U H U (Nat.le_of_ble_eq_true U) (fun u hu=>by simp [Value.cells] at hu;rcases hu with rfl|rfl<;>rfl) (fun w H=>?_)))))
  replace H:=H.h2 (A:=blk b10 [.string x7.key,.string x7.val] 106) (B:=Y Ag l (EN (xs.take k) n p))
  refine Ac (Z (Aa ?_))
  have hkx:=hk _ (Cc hx8)
  refine Ae (V U U (Aj U EY U) (V U U (Al U BR U (H.cellI 0 U U)) (Ad U (sc (WM x7.key n (by first |omega|decide) (by first |omega|decide)) H l0 U U (Au Ug U U) ?_))))
  rintro _ _ w ⟨rfl,rfl⟩ H
  refine Ad U (V U U (AW U U U) (Ac (Z ?_)))
  refine Aw U (fun h11=>?_) (fun h11=>?_)
  ·refine Ae (Ad U (V U U (Bn (cs:=[.string x7.key,.string x7.val]) U Ca U U (H.cellsI 0 U U)) (BW (parts:=[(0,.tmp 23)]) (vs:=[.agg #[.string x7.key,.string x7.val]]) (cs:=[.string x7.key,.string x7.val]) U U U By C9 U (by decide) (by decide) U U H (fun b12 w H=>?_))))
   replace H:=H.p2
   refine CA (xs:=EN (xs.take k) n p) (ys:=[x7]) U U U By C9 U (by decide) U U H (by omega) (fun F hA hR=>Cp (hA _ (List.mem_of_getElem? (i:=0) U)) U (by decide) (AV.flat_eq.2 U)) (fun v13 w H=>(Ad U (Ac (AU (Z ?_)))))
   replace H:Hd _ _ _ [Y Ag v13 ((EN (xs.take k) n p)++[x7]),blk b12 [.string x7.key,.string x7.val] 106,blk b10 [.string x7.key,.string x7.val] 106] [Ab Ag (.slice A1 xs.length c2) xs]:=H
   refine Ae (V U U (AX (z:=((k+1:Nat):Int)) U U U (by rw [AB (by omega) (by omega)];omega)) (Ad U (Ac ?_)))
   rw [←Wh hx8 h11] at H
   replace H:=H.k1
   exact Bj (s:=(k,undef)) (k+1,v13) ⟨rfl,rfl,rfl,rfl,rfl,rfl,rfl,trivial⟩ ⟨H,by (try dsimp only);omega⟩ (by (try dsimp only);omega)
  refine Ax (AU (Z (Ae (V U U (AX (z:=((k+1:Nat):Int)) U U U (by rw [AB (by omega) (by omega)];omega)) (Ad U (Ac ?_))))))
  rw [←Wf hx8 h11] at H
  replace H:=H.sel 2 [1] [0] rfl (by kernel_rfl)
  exact Bj (s:=(k,undef)) (k+1,l) ⟨rfl,rfl,rfl,rfl,rfl,rfl,rfl,trivial⟩ ⟨H,by (try dsimp only);omega⟩ (by (try dsimp only);omega)
 refine BH (AR (AR (BI (Z (Aa (Ae (Ah 2 U (Ac (Z (Am (Aq U U ?_)))))))))))
 rw [List.take_of_length_le (show xs.length≤k by omega)] at H
 exact Ak U H
structure Bb (A B:AC):Prop where
 us:A.us.map (·.2)=B.us.map (·.2)
 rest:A={ B with us:=A.us }
theorem Bb.refl (A:AC):Bb A A:=⟨rfl,rfl⟩
theorem Bb.symm {A B:AC} (h:Bb A B):Bb B A:=by
 obtain ⟨h1,h2⟩:=h
 refine ⟨h1.symm,?_⟩
 rw [h2]
theorem Bb.trans {A B C:AC} (h:Bb A B) (k:Bb B C):Bb A C:=by
 obtain ⟨h1,h2⟩:=h
 obtain ⟨k1,k2⟩:=k
 refine ⟨h1.trans k1,?_⟩
 rw [h2,k2]
section
variable {A B:AC} (h:Bb A B)
include h
theorem Bb.parts:A.parts=B.parts:=by rw [h.rest]
theorem Bb.map:A.map=B.map:=by rw [h.rest]
theorem Bb.comb:A.comb=B.comb:=by rw [h.rest]
theorem Bb.red:A.red=B.red:=by rw [h.rest]
theorem Bb.chunk:A.chunk=B.chunk:=by rw [h.rest]
theorem Bb.window:A.window=B.window:=by rw [h.rest]
theorem Bb.fuel:A.fuel=B.fuel:=by rw [h.rest]
theorem Bb.marks:A.marks=B.marks:=by rw [h.rest]
theorem Bb.len:A.us.length=B.us.length:=by have:=congrArg List.length h.us;simpa using this
theorem Bb.recs (s:Nat):recs A s=recs B s:=by
 have e:∀ J:AC,X.recs J s=((J.us.map (·.2))[s]?).getD []:=by
  intro J
  unfold X.recs
  rw [List.getElem?_map]
  cases J.us[s]?<;>rfl
 rw [e,e,h.us]
theorem Bb.split (D:A8) (s:Nat):Az D A s=Az D B s:=by
 unfold Az mapM
 rw [h.recs,h.map,h.comb,h.fuel]
theorem Bb.only (D:A8) (s:Nat) (p:Int):Cr D A s p=Cr D B s p:=by
 unfold Cr
 rw [h.split,h.parts]
theorem Bb.all (D:A8) (p:Int):∀ k,Ig D A p k=Ig D B p k
 |0=>rfl
 |k+1=>by unfold Ig;rw [Bb.all D p k,h.only]
theorem Bb.part (D:A8) (p:Int):HM D A p=HM D B p:=by
 unfold HM
 rw [h.all,h.red,h.fuel,h.len]
theorem Bb.run (D:A8) (s:Nat) (p:Int):Mo D A s p=Mo D B s p:=by
 unfold Mo
 rw [h.split,h.only]
theorem Bb.partsGo (D:A8):∀ k p out,partsGo D A k p out=partsGo D B k p out
 |0,_,_=>rfl
 |k+1,p,out=>by unfold X.partsGo;rw [h.part,Bb.partsGo D k]
theorem Bb.wholeGo (D:A8):∀ k s,wholeGo D A k s=wholeGo D B k s
 |0,_=>by unfold X.wholeGo;rw [h.partsGo,h.parts]
 |k+1,s=>by unfold X.wholeGo;rw [h.split,Bb.wholeGo D k]
theorem Bb.whole (D:A8):MM D A=MM D B:=by
 unfold MM
 rw [h.wholeGo,h.len]
theorem Bb.may (m:D1 A):D1 B:=by
 obtain ⟨m1,m2,m3,m4,m5,m6,m7,m8,m9,m10,m11⟩:=m
 have hs:∀ u∈B.us,GG u.2:=by
  intro u hu
  have:u.2∈B.us.map (·.2):=List.mem_map_of_mem hu
  rw [←h.us] at this
  obtain ⟨v,hv,e⟩:=List.mem_map.1 this
  rw [←e];exact m4 v hv
 rw [h.len,h.marks] at m5
 rw [h.parts] at m2;rw [h.marks] at m3;rw [h.map] at m6;rw [h.red] at m7;rw [h.comb] at m8;rw [h.chunk] at m9;rw [h.window] at m10;rw [h.fuel] at m11
 exact ⟨by rw [←h.len];exact m1,m2,m3,hs,m5,m6,m7,m8,m9,m10,m11⟩
theorem Bb.ok (k:B5 A):B5 B:=⟨h.may k.may,by have:=k.map;rwa [h.map] at this,by have:=k.comb;rwa [h.comb] at this,by have:=k.red;rwa [h.red] at this⟩
end
theorem B5.chunk1 {J:AC} (h:B5 J):1≤J.chunk∧J.chunk≤7:=h.may.2.2.2.2.2.2.2.2.1
theorem B5.window1 {J:AC} (h:B5 J):1≤J.window∧J.window≤4:=h.may.2.2.2.2.2.2.2.2.2.1
structure Cf where
 J:AC
 w:Int
 t:Int
 o:Int
def C1 (C:Cf):Prop:=D1 C.J∧(1≤C.w∧C.w≤4)∧(1≤C.t∧C.t≤3)∧1≤C.o∧C.o≤50
instance mayCD (C:Cf):Decidable (C1 C):=by unfold C1;infer_instance
structure EJ (A B:Cf):Prop where
 J:Bb A.J B.J
 w:A.w=B.w
 t:A.t=B.t
 o:A.o=B.o
theorem EJ.refl (A:Cf):EJ A A:=⟨Bb.refl _,rfl,rfl,rfl⟩
theorem EJ.symm {A B:Cf} (h:EJ A B):EJ B A:=⟨h.J.symm,h.w.symm,h.t.symm,h.o.symm⟩
theorem EJ.trans {A B C:Cf} (h:EJ A B) (k:EJ B C):EJ A C:=⟨h.J.trans k.J,h.w.trans k.w,h.t.trans k.t,h.o.trans k.o⟩
structure Ho (C:Cf):Prop where
 may:C1 C
 ok:B5 C.J
theorem EJ.may {A B:Cf} (h:EJ A B) (m:C1 A):C1 B:=⟨h.J.may m.1,by rw [←h.w];exact m.2.1,by rw [←h.t];exact m.2.2.1,by rw [←h.o];exact m.2.2.2⟩
theorem Ho.w {C:Cf} (h:Ho C):1≤C.w∧C.w≤4:=h.may.2.1
theorem Ho.t {C:Cf} (h:Ho C):1≤C.t∧C.t≤3:=h.may.2.2.1
theorem Ho.o {C:Cf} (h:Ho C):1≤C.o∧C.o≤50:=h.may.2.2.2
def Du (C:Cf) (p:Int):Int:=if ¬ C1 C∨¬ (0≤p∧p≤C.J.parts - 1) then 0 else 1+p.tmod C.w
/-! ### Records and messages in plain words -/
structure Dy where
 kind:Int
 part:Int
 sp:Int
 att:Int
 why:Int
 set:List Int
 pairs:List An
def Bp.p (r:Bp):Dy:=⟨r.kind,r.part,r.sp,r.att,r.why,r.set,r.pairs⟩
structure Dl where
 kind:Int
 sp:Int
 att:Int
 part:Int
 seq:Int
 next:Int
 ep:Int
 why:Int
 set:List Int
 pairs:List An
def VR:Dl:=⟨0,0,0,0,0,0,0,0,[],[]⟩
/-! ### Chunks that wait -/
abbrev DH:=List ((Int×Int)×List (List An))
def DL:DH→Int→Int→List (List An)
 |[],_,_=>[]
 |e::s,a,b=>if e.1.1=a∧e.1.2=b then e.2 else DL s a b
def IQ:DH→Int→Int→List An→DH
 |[],a,b,x=>[((a,b),[x])]
 |e::s,a,b,x=>if e.1.1=a∧e.1.2=b then (e.1,e.2++[x])::s else e::IQ s a b x
def Kh (s:DH) (a b:Int):Int:=((DL s a b).length:Int)
def Mu (s:DH) (a b q:Int):Prop:=q=Kh s a b∧(0≤a∧a<6)∧(1≤b∧b≤3)∧q<40
instance (s:DH) (a b q:Int):Decidable (Mu s a b q):=by unfold Mu;infer_instance
def Ki (s:DH) (a b q:Int) (x:List An):DH:=if Mu s a b q then IQ s a b x else s
def Yr (s:DH) (a b n:Int):Option (List An):=if n<0∨Kh s a b≠n then none else some (DL s a b).flatten
def IR (s:DH) (a:Int):DH:=s.filter fun e=>decide (e.1.1≠a)
/-! ### A reducer -/
structure Dd where
 merged:Bool
 pairs:List An
 told:Bool
 att:Int
 cnt:Int
def Kl:Dd:=⟨false,[],false,0,0⟩
def CN {α:Type} (g:Nat→α) (k:Nat) (v:α):Nat→α:=fun j=>if j=k then v else g j
theorem Hb {α:Type} (g:Nat→α) (k:Nat) (v:α):CN g k v k=v:=if_pos rfl
theorem Ha {α:Type} (g:Nat→α) {k j:Nat} (v:α) (h:j≠k):CN g k v j=g j:=if_neg h
structure AI where
 part:Int
 ep:Int
 g:Nat→Dd
 st:DH
 sets:List (List Int)
def GK (part ep:Int):AI:=⟨part,ep,fun _=>Kl,[],[]⟩
def Dj (n:Nat) (R:AI) (x:Dy):AI:=
 if x.part≠R.part then R else
 let R1:AI:=if x.kind=4∧(0≤x.sp∧x.sp<n)∧(R.g x.sp.toNat).merged=false then { R with g:=CN R.g x.sp.toNat { R.g x.sp.toNat with merged:=true,pairs:=x.pairs } } else R
 if x.kind=5 then { R1 with sets:=R1.sets++[x.set] } else R1
def CM (n:Nat) (part ep:Int) (rs:List Dy):AI:=rs.foldl (Dj n) (GK part ep)
def CT (n:Nat) (R:AI):List Int:=((List.range n).filter fun i=>(R.g i).merged).map fun (i:Nat)=>(i:Int)
def E3 (n:Nat) (R:AI) (set:List Int):List An:=((List.range n).filter fun i=>(R.g i).merged && decide ((i:Int)∈set)).flatMap fun i=>(R.g i).pairs
def LZ (D:A8) (J:AC) (R:AI) (set:List Int):List An×Int:=Dm D J.red (srt (E3 J.us.length R set)) J.fuel false
def DE (D:A8) (J:AC) (R:AI):List An×Int×Bool:=
 if (CT J.us.length R).length<J.us.length then ([],0,false) else ((LZ D J R (CT J.us.length R)).1,(LZ D J R (CT J.us.length R)).2,true)
theorem Pu (n:Nat) (R:AI):(CT n R).length≤n:=by
 unfold CT
 rw [List.length_map]
 exact Nat.le_trans (List.length_filter_le _ _) (by simp)
theorem Pw (n:Nat) (R:AI):CT (n+1) R=CT n R++(if (R.g n).merged then [(n:Int)] else []):=by
 unfold CT
 rw [List.range_succ,List.filter_append,List.map_append]
 cases h:(R.g n).merged<;>simp [h]
theorem X7 (n:Nat) (R:AI) (set:List Int):E3 (n+1) R set=E3 n R set++(if (R.g n).merged=true∧(n:Int)∈set then (R.g n).pairs else []):=by
 unfold E3
 rw [List.range_succ,List.filter_append,List.flatMap_append]
 by_cases h:(R.g n).merged=true∧(n:Int)∈set
 ·rw [if_pos h];simp [h.1,h.2]
 ·rw [if_neg h]
  have:((R.g n).merged && decide ((n:Int)∈set))=false:=by
   cases h1:(R.g n).merged
   ·rfl
   ·simpa using fun h2=>h ⟨h1,h2⟩
  simp [this]
theorem Pz (n:Nat) (part ep:Int) (rs:List Dy) (x:Dy):CM n part ep (rs++[x])=Dj n (CM n part ep rs) x:=by
 unfold CM;rw [List.foldl_append];rfl
theorem XB (n:Nat) (R:AI) (x:Dy):(Dj n R x).part=R.part∧(Dj n R x).ep=R.ep∧(Dj n R x).st=R.st:=by
 unfold Dj
 dsimp only
 split
 ·exact ⟨rfl,rfl,rfl⟩
 ·split<;>(split<;>exact ⟨rfl,rfl,rfl⟩)
theorem IA (n:Nat) (part ep:Int) (rs:List Dy):(CM n part ep rs).part=part∧(CM n part ep rs).ep=ep∧(CM n part ep rs).st=[]:=by
 have:∀ (rs:List Dy) (R:AI),(rs.foldl (Dj n) R).part=R.part∧(rs.foldl (Dj n) R).ep=R.ep∧(rs.foldl (Dj n) R).st=R.st:=by
  intro rs
  induction rs with
  |nil=>exact fun R=>⟨rfl,rfl,rfl⟩
  |cons x rs ih=>
   intro R
   obtain ⟨h1,h2,h3⟩:=ih (Dj n R x)
   obtain ⟨g1,g2,g3⟩:=XB n R x
   exact ⟨h1.trans g1,h2.trans g2,h3.trans g3⟩
 exact this rs (GK part ep)
/-! ### What a part knows when it begins -/
/-! ### Records of all splits, in whatever order -/
/-! ### What it hears, what it tells -/
def JO (J:AC) (R:AI) (n:Nat):AI×List Dy:=
 if (R.g n).told=false then (R,[]) else
 match Yr R.st n (R.g n).att (R.g n).cnt with
 |none=>(R,[])
 |some ps=>
  if 40<ps.length then (R,[]) else
  let R1:AI:={ R with g:=CN R.g n { R.g n with merged:=true,pairs:=ps },st:=IR R.st n }
  let l:=CT J.us.length R1
  if (l.length:Int)∈J.marks then ({ R1 with sets:=R1.sets++[l] },[⟨4,R.part,n,(R.g n).att,0,[],ps⟩,⟨5,R.part,0,0,0,l,[]⟩])
  else (R1,[⟨4,R.part,n,(R.g n).att,0,[],ps⟩])
def Md (J:AC) (R:AI) (m:Dl):Prop:=¬ (0≤m.sp∧m.sp<J.us.length)∨m.kind≠2∨m.part≠R.part
instance (J:AC) (R:AI) (m:Dl):Decidable (Md J R m):=by unfold Md;infer_instance
def Me (R:AI) (m:Dl):Prop:=(R.g m.sp.toNat).merged=false∧m.pairs.length≤8∧G4 m.pairs
instance (R:AI) (m:Dl):Decidable (Me R m):=by unfold Me;infer_instance
def IE (J:AC) (R:AI) (m:Dl):AI×List Dy:=
 if Me R m then JO J { R with st:=Ki R.st m.sp m.att m.seq m.pairs } m.sp.toNat else (R,[])
def Rd (R:AI) (m:Dl):Dl:=
 ⟨3,m.sp,m.att,R.part,0,if (R.g m.sp.toNat).merged=true then 40 else Kh R.st m.sp m.att,R.ep,0,[],[]⟩
def P3 (J:AC) (R:AI) (m:Dl):AI×Dl×List Dy:=
 if Md J R m then (R,VR,[]) else ((IE J R m).1,Rd (IE J R m).1 m,(IE J R m).2)
def MN (J:AC) (t:Int) (R:AI) (sp att:Int):Prop:=¬ (0≤sp∧sp<J.us.length)∨(R.g sp.toNat).merged=true∨(R.g sp.toNat).told=true∨att<1∨t<att
instance (J:AC) (t:Int) (R:AI) (sp att:Int):Decidable (MN J t R sp att):=by unfold MN;infer_instance
def Q8 (J:AC) (t:Int) (R:AI) (sp att cnt:Int):AI×List Dy:=
 if MN J t R sp att then (R,[]) else JO J { R with g:=CN R.g sp.toNat { R.g sp.toNat with told:=true,att:=att,cnt:=cnt } } sp.toNat
structure MV where
 set:List Int
 why:Int
 pairs:List An
def AD (D:A8) (J:AC) (R:AI):Dl:=
 if (DE D J R).2.2=true then ⟨8,0,0,R.part,0,0,R.ep,(DE D J R).2.1,[],[]⟩ else ⟨6,0,0,R.part,0,0,R.ep,0,CT J.us.length R,[]⟩
section
variable {w0 w:World} {F0:AH} {As Bs Rs:List SP} {A B:SP}
theorem Hd.exA {α:Sort _} {A:α→SP} (h:Hd w0 F0 w (ex A::As) Rs):∃ a,Hd w0 F0 w (A a::As) Rs:=by
 obtain ⟨F,G,⟨F1,F2,h1,h2,h3,⟨a,ha⟩,s⟩,r⟩:=h
 exact ⟨a,F,G,⟨F1,F2,h1,h2,h3,ha,s⟩,r⟩
theorem Hd.exI {α:Sort _} {A:α→SP} (a:α) (h:Hd w0 F0 w (A a::As) Rs):Hd w0 F0 w (ex A::As) Rs:=h.turn fun _ ha=>⟨a,ha⟩
theorem Hd.stA (h:Hd w0 F0 w (BU Bs::As) Rs):Hd w0 F0 w (Bs++As) Rs:=h.open_ fun _ h=>h
theorem Hd.stI (h:Hd w0 F0 w (Bs++As) Rs):Hd w0 F0 w (BU Bs::As) Rs:=h.shut fun _ h=>h
theorem Hd.puA {p:Prop} (h:Hd w0 F0 w (BS p::As) Rs):p∧Hd w0 F0 w As Rs:=⟨h.fact (List.mem_cons_self ..) fun _ h=>h,h.drop⟩
theorem Hd.puI {p:Prop} (hp:p) (h:Hd w0 F0 w As Rs):Hd w0 F0 w (BS p::As) Rs:=h.shut (Bs:=[]) fun _ _=>hp
def Bm {α:Type} (f:α→SP) (l:List α):SP:=BU (l.map f)
theorem Hd.big0 {α:Type} (f:α→SP) (h:Hd w0 F0 w As Rs):Hd w0 F0 w (Bm f []::As) Rs:=h.shut (Bs:=[]) fun _ _=>trivial
theorem Jj {α:Type}:∀ (l:List α) (i:Nat) {x:α},l[i]?=some x→l.Perm (x::l.eraseIdx i)
 |[],_,_,h=>by simp at h
 |y::l,0,x,h=>by
  obtain rfl:y=x:=by simpa using h
  exact List.Perm.refl _
 |y::l,i+1,x,h=>((Jj l i (by simpa using h)).cons y).trans (List.Perm.swap _ _ _)
theorem Hd.bigO {α:Type} {f:α→SP} {l:List α} {x:α} (i:Nat) (hx:l[i]?=some x) (h:Hd w0 F0 w (Bm f l::As) Rs):Hd w0 F0 w (f x::Bm f (l.eraseIdx i)::As) Rs:=by
 have h1:=h.stA.perm (((Jj l i hx).map f).append_right As)
 have h2:Hd w0 F0 w (((l.eraseIdx i).map f++As)++[f x]) Rs:=h1.perm (by rw [List.map_cons,List.cons_append];exact (List.perm_append_comm (l₁:=[f x])))
 have h3:Hd w0 F0 w ((l.eraseIdx i).map f++(As++[f x])) Rs:=by rw [←List.append_assoc];exact h2
 exact (show Hd w0 F0 w (Bm f (l.eraseIdx i)::(As++[f x])) Rs from h3.stI).perm (List.perm_append_comm (l₁:=Bm f (l.eraseIdx i)::As) (l₂:=[f x]))
theorem Hd.bigI {α:Type} {f:α→SP} {l:List α} {x:α} (i:Nat) (hi:i<l.length) (h:Hd w0 F0 w (f x::Bm f (l.eraseIdx i)::As) Rs):Hd w0 F0 w (Bm f (l.set i x)::As) Rs:=by
 have h1:Hd w0 F0 w (Bm f (l.eraseIdx i)::(As++[f x])) Rs:=h.perm (List.perm_append_comm (l₁:=[f x]) (l₂:=Bm f (l.eraseIdx i)::As))
 have h2:Hd w0 F0 w ((l.eraseIdx i).map f++As++[f x]) Rs:=by rw [List.append_assoc];exact h1.stA
 have h3:Hd w0 F0 w ((x::l.eraseIdx i).map f++As) Rs:=h2.perm (List.perm_append_comm (l₁:=(l.eraseIdx i).map f++As) (l₂:=[f x]))
 have hp:(l.set i x).Perm (x::l.eraseIdx i):=by
  have:=Jj (l.set i x) i (x:=x) (by rw [List.getElem?_set_self hi])
  rwa [List.eraseIdx_set_eq] at this
 exact (h3.perm ((hp.symm.map f).append_right As)).stI
theorem Hd.bigN {α:Type} {f:α→SP} {l:List α} {x:α} (h:Hd w0 F0 w (f x::Bm f l::As) Rs):Hd w0 F0 w (Bm f (l++[x])::As) Rs:=by
 have h1:Hd w0 F0 w (Bm f l::(As++[f x])) Rs:=h.perm (List.perm_append_comm (l₁:=[f x]) (l₂:=Bm f l::As))
 have h2:Hd w0 F0 w (l.map f++As++[f x]) Rs:=by rw [List.append_assoc];exact h1.stA
 have h3:Hd w0 F0 w ((x::l).map f++As) Rs:=h2.perm (List.perm_append_comm (l₁:=l.map f++As) (l₂:=[f x]))
 exact (h3.perm (((List.perm_append_comm (l₁:=[x]) (l₂:=l)).map f).append_right As)).stI
end
def Bq (vS vM vC vR vK:Value) (J:AC) (w t o part ep:Int) (g:Nat→Dd) (hv:Nat→Value) (sb:Nat) (vs:Value):List Value:=
 [vS,.int .i64 J.parts,vM,vC,vR,.int .i64 J.chunk,.int .i64 J.window,.int .i64 J.fuel,vK,.int .i64 w,.int .i64 t,.int .i64 o,.int .i64 part,.int .i64 ep,
  .bool (g 0).merged,hv 0,.bool (g 0).told,.int .i64 (g 0).att,.int .i64 (g 0).cnt,
  .bool (g 1).merged,hv 1,.bool (g 1).told,.int .i64 (g 1).att,.int .i64 (g 1).cnt,
  .bool (g 2).merged,hv 2,.bool (g 2).told,.int .i64 (g 2).att,.int .i64 (g 2).cnt,
  .bool (g 3).merged,hv 3,.bool (g 3).told,.int .i64 (g 3).att,.int .i64 (g 3).cnt,
  .bool (g 4).merged,hv 4,.bool (g 4).told,.int .i64 (g 4).att,.int .i64 (g 4).cnt,
  .bool (g 5).merged,hv 5,.bool (g 5).told,.int .i64 (g 5).att,.int .i64 (g 5).cnt,
  .pointer (some ⟨sb,0,none⟩),vs]
section
variable {vS vM vC vR vK vs:Value} {J:AC} {w t o part ep:Int} {g:Nat→Dd} {hv:Nat→Value} {sb j:Nat}
theorem Ml (h:j<6):(Bq vS vM vC vR vK J w t o part ep g hv sb vs)[14+j*5+0]?=some (.bool (g j).merged):=by
 match j,h with
 |0,_=>rfl
 |1,_=>rfl
 |2,_=>rfl
 |3,_=>rfl
 |4,_=>rfl
 |5,_=>rfl
theorem XG (h:j<6):(Bq vS vM vC vR vK J w t o part ep g hv sb vs)[14+j*5+1]?=some (hv j):=by
 match j,h with
 |0,_=>rfl
 |1,_=>rfl
 |2,_=>rfl
 |3,_=>rfl
 |4,_=>rfl
 |5,_=>rfl
theorem XI (h:j<6) (b:Bool):Ej (Bq vS vM vC vR vK J w t o part ep g hv sb vs) (14+j*5+0) [.bool b]=Bq vS vM vC vR vK J w t o part ep (CN g j { g j with merged:=b }) (hv) sb vs:=by
 match j,h with
 |0,_=>rfl
 |1,_=>rfl
 |2,_=>rfl
 |3,_=>rfl
 |4,_=>rfl
 |5,_=>rfl
theorem XJ (h:j<6) (v:Value):Ej (Bq vS vM vC vR vK J w t o part ep g hv sb vs) (14+j*5+1) [v]=Bq vS vM vC vR vK J w t o part ep (g) (CN hv j v) sb vs:=by
 match j,h with
 |0,_=>rfl
 |1,_=>rfl
 |2,_=>rfl
 |3,_=>rfl
 |4,_=>rfl
 |5,_=>rfl
end
def G7 (g:Nat→Dd) (hv:Nat→Value):Nat→SP:=fun i=>Y Ag (hv i) (g i).pairs
def BF (g:Nat→Dd) (hv:Nat→Value):SP:=Bm (G7 g hv) (List.range 6)
def Mb (g:Nat→Dd) (hv:Nat→Value) (i:Nat):SP:=Bm (G7 g hv) ((List.range 6).eraseIdx i)
theorem Qh {n i:Nat} (h:i<n):(List.range n)[i]?=some i:=by simp [h]
theorem RE {α:Type} {f f':α→SP} {l:List α} (h:∀ x∈l,f x=f' x):Bm f l=Bm f' l:=by
 unfold Bm;rw [List.map_congr_left h]
theorem SM {n i j:Nat} (hi:i<n) (h:j∈(List.range n).eraseIdx i):j≠i:=by
 intro e
 subst e
 have hn:((List.range n).eraseIdx j).Nodup:=(List.nodup_range (n:=n)).sublist (List.eraseIdx_sublist _ _)
 have hp:=Jj (List.range n) j (Qh hi)
 have:=hp.nodup_iff.1 List.nodup_range
 exact (List.nodup_cons.1 this).1 h
theorem Ns {α:Type} {f:α→SP} {l:List α} {w:World} {F:AH} (h:(Bm f l).P w F) {x:α} (hx:x∈l):(f x).P w F:=Cl.mem h (List.mem_map_of_mem hx)
section
variable {w0 w:World} {F0:AH} {As Rs:List SP} {g:Nat→Dd} {hv:Nat→Value} {i:Nat}
theorem Hd.prsO (hi:i<6) (H:Hd w0 F0 w (BF g hv::As) Rs):Hd w0 F0 w (Y Ag (hv i) (g i).pairs::Mb g hv i::As) Rs:=H.bigO (f:=G7 g hv) i (Qh hi)
theorem Hd.bigGI {f f':Nat→SP} {n:Nat} (hi:i<n) (he:∀ j,j≠i→f j=f' j) (H:Hd w0 F0 w (f' i::Bm f ((List.range n).eraseIdx i)::As) Rs):Hd w0 F0 w (Bm f' (List.range n)::As) Rs:=by
 rw [RE fun j hj=>he j (SM hi hj)] at H
 have:=H.bigI (f:=f') i (by simpa using hi)
 rwa [show (List.range n).set i i=List.range n from ?_] at this
 apply List.ext_getElem? 
 intro k
 rw [List.getElem?_set]
 split
 ·rename_i e;subst e;simp [hi]
 ·rfl
theorem Hd.prsI (hi:i<6) {x:Dd} {v:Value} (H:Hd w0 F0 w (Y Ag v x.pairs::Mb g hv i::As) Rs):Hd w0 F0 w (BF (CN g i x) (CN hv i v)::As) Rs:=by
 refine Hd.bigGI (f:=G7 g hv) (f':=G7 (CN g i x) (CN hv i v)) hi (fun j hj=>?_) ?_
 ·unfold G7;rw [Ha g x hj,Ha hv v hj]
 ·show Hd w0 F0 w (Y Ag (CN hv i v i) (CN g i x i).pairs::Mb g hv i::As) Rs
  rw [Hb,Hb];exact H
theorem P0 {F:AH} (hi:i<6) (h:(BF g hv).P w F):(Ab Ag (hv i) (g i).pairs).P w F:=BE F (Ns h (x:=i) (List.mem_range.2 hi))
theorem WX:∀ {w:World} {F:AH},(BF (fun _=>Kl) (fun _=>.slice none 0 0)).P w F:=by
 intro w F
 have:∀ l:List Nat,Cl (l.map (G7 (fun _=>Kl) (fun _=>.slice none 0 0))) w F:=by
  intro l
  induction l with
  |nil=>trivial
  |cons a l ih=>exact ⟨none_,F,fun _ h=>h.elim,fun _ h=>h,fun _ h=>h.elim,L4 Ag w none_ trivial,ih⟩
 exact this _
theorem Hd.prsN (H:Hd w0 F0 w As Rs):Hd w0 F0 w (BF (fun _=>Kl) (fun _=>.slice none 0 0)::As) Rs:=H.shut (Bs:=[]) fun _ _=>WX
theorem Tv {α:Type} {d:Kd α} {F:AH} {v:Value} {us:List (Value×List α)} (h:(Ab Dn v (us.map fun u=>Fg u.1)).P w F) (hu:∀ p∈us,(Ab d p.1 p.2).P w F):(Ab (Ao d) v us).P w F:=by
 obtain ⟨A,m,c,e,h1,h2,h3,cs,h4,h5⟩:=h
 refine ⟨A,m,c,e,by simpa using h1,h2,h3,cs,h4,?_⟩
 have hcs:cs=(us.map fun u=>Fg u.1).flatMap Ii:=AV.flat_eq.1 h5
 have:(us.map fun u=>Fg u.1).flatMap Ii=us.map (·.1):=by
  clear h5 hcs h1
  induction us with
  |nil=>rfl
  |cons p us ih=>
   obtain ⟨A,c,e,_⟩:=DK (hu p (List.mem_cons_self ..))
   rw [List.map_cons,List.flatMap_cons,ih fun q hq=>hu q (List.mem_cons_of_mem _ hq),List.map_cons,e]
   rfl
 rw [hcs,this]
 exact Qp hu
end
/-! ### A row of headers held, and each slice held: a slice of slices held -/
section
variable {α:Type} {d:Kd α} {w0 w:World} {F F0:AH} {As Rs:List SP} {v:Value} {us:List (Value×List α)}
def Bl (us:List (Value×List α)):List Er:=us.map fun u=>Fg u.1
def FQ (d:Kd α) (us:List (Value×List α)):SP:=Bm (fun u:Value×List α=>Y d u.1 u.2) us
theorem Qq:∀ {us:List (Value×List α)} {F:AH},(FQ d us).P w F→Cx (Ao d) w F us (us.map (·.1))
 |[],_,_=>rfl
 |u::us,F,⟨F1,F2,h1,h2,h3,a,s⟩=>⟨F1,F2,[u.1],us.map (·.1),h1,h2,h3,rfl,⟨rfl,a⟩,Qq (us:=us) s⟩
theorem Ox (h:∀ u∈us,∃ A n c,u.1=.slice A n c):(Bl us).flatMap Ii=us.map (·.1):=by
 unfold Bl
 induction us with
 |nil=>rfl
 |cons p us ih=>
  obtain ⟨A,n,c,e⟩:=h p (List.mem_cons_self ..)
  rw [List.map_cons,List.flatMap_cons,ih fun q hq=>h q (List.mem_cons_of_mem _ hq),List.map_cons,e]
  rfl
theorem TG {w:World} {F:AH} (h:(FQ d us).P w F):∀ u∈us,∃ A n c,u.1=.slice A n c:=fun u hu=>by
 obtain ⟨A,c,e,_⟩:=DK (BE F (Ns h hu))
 exact ⟨A,_,c,e⟩
theorem Hd.hdI (H:Hd w0 F0 w (Y Dn v (Bl us)::FQ d us::As) Rs):Hd w0 F0 w (Y (Ao d) v us::As) Rs:=by
 refine H.turn2 fun F1 F2 hd h1 h2=>?_
 obtain ⟨A,n,c,e,hl,cs,G1,G2,s1,s2,dj,row,reps⟩:=h1
 have hcs:cs=us.map (·.1):=(AV.flat_eq.1 reps.toR).trans (Ox (TG h2))
 subst hcs
 exact ⟨A,n,c,e,by simpa [Bl] using hl,_,G1,F2,fun k hk=>.inl (s1 k hk),fun k hk=>.inr hk,fun k hk hg=>hd k (s1 k hk) hg,row,Qq h2⟩
theorem Tw {F:AH} (h:(Ab (Ao d) v us).P w F):(Ab Dn v (Bl us)).P w F:=by
 obtain ⟨A,m,c,e,h1,h2,h3,cs,h4,h5⟩:=h
 refine ⟨A,m,c,e,by simpa [Bl] using h1,h2,h3,cs,h4,AV.flat_eq.2 ?_⟩
 have hall:=Ow h5
 have:∀ {us:List (Value×List α)} {cs:List Value},AV (Ao d) w F us cs→cs=us.map (·.1):=by
  intro us
  induction us with
  |nil=>intro cs h;exact h
  |cons u us ih=>rintro cs ⟨c,cs',e,h1,h2⟩;rw [e,h1.1,ih h2];rfl
 rw [this h5]
 exact (Ox fun u hu=>by
  obtain ⟨A,c,e,_⟩:=DK (hall u hu)
  exact ⟨A,_,c,e⟩).symm
end
/-! ### Told anew -/
section
variable {w0 w:World} {F0:AH} {As Rs:List SP} {g g':Nat→Dd} {hv:Nat→Value} {i:Nat}
theorem XH {vS vM vC vR vK vs:Value} {J:AC} {w t o part ep:Int} {sb:Nat} (h:∀ i,(g' i).merged=(g i).merged∧(g' i).told=(g i).told∧(g' i).att=(g i).att∧(g' i).cnt=(g i).cnt):
  Bq vS vM vC vR vK J w t o part ep g hv sb vs=Bq vS vM vC vR vK J w t o part ep g' hv sb vs:=by
 unfold Bq
 rw [(h 0).1,(h 0).2.1,(h 0).2.2.1,(h 0).2.2.2,(h 1).1,(h 1).2.1,(h 1).2.2.1,(h 1).2.2.2,(h 2).1,(h 2).2.1,(h 2).2.2.1,(h 2).2.2.2,(h 3).1,(h 3).2.1,(h 3).2.2.1,(h 3).2.2.2,(h 4).1,(h 4).2.1,(h 4).2.2.1,(h 4).2.2.2,(h 5).1,(h 5).2.1,(h 5).2.2.1,(h 5).2.2.2]
theorem Hd.prsU (hi:i<6) {x:Dd} {v:Value} (H:Hd w0 F0 w (Y Ag v x.pairs::BF g hv::As) Rs):Hd w0 F0 w (BF (CN g i x) (CN hv i v)::As) Rs:=by
 have h1:=(H.perm (List.Perm.swap _ _ _)).prsO hi
 exact Hd.prsI hi ((h1.drop.perm (List.Perm.swap _ _ _)))
def pick (g:Nat→Dd) (set:List Int) (n:Nat):List Nat:=(List.range n).filter fun i=>(g i).merged && decide ((i:Int)∈set)
def DA (g:Nat→Dd) (hv:Nat→Value) (set:List Int) (n:Nat):List (Value×List An):=(pick g set n).map fun i=>(hv i,(g i).pairs)
theorem L_ (g:Nat→Dd) (hv:Nat→Value) (set:List Int) (n:Nat):DA g hv set (n+1)=DA g hv set n++(if (g n).merged=true∧(n:Int)∈set then [(hv n,(g n).pairs)] else []):=by
 unfold DA pick
 rw [List.range_succ,List.filter_append,List.map_append]
 by_cases h:(g n).merged=true∧(n:Int)∈set
 ·rw [if_pos h];simp [h.1,h.2]
 ·rw [if_neg h]
  have:((g n).merged && decide ((n:Int)∈set))=false:=by
   cases h1:(g n).merged
   ·rfl
   ·simpa using fun h2=>h ⟨h1,h2⟩
  simp [this]
theorem PU (R:AI) (hv:Nat→Value) (set:List Int) (n:Nat):CH (DA R.g hv set n)=E3 n R set:=by
 unfold CH DA E3 pick
 rw [List.flatMap_map]
theorem WS (g:Nat→Dd) (hv:Nat→Value) (set:List Int) (n:Nat):(DA g hv set n).length≤n:=by
 unfold DA pick
 rw [List.length_map]
 exact Nat.le_trans (List.length_filter_le _ _) (by simp)
theorem WT {F:AH} {set:List Int} {n:Nat} (hn:n≤6) (h:(BF g hv).P w F):∀ p∈DA g hv set n,(Ab Ag p.1 p.2).P w F:=by
 intro p hp
 obtain ⟨j,hj,rfl⟩:=List.mem_map.1 hp
 have:=List.mem_range.1 (List.mem_filter.1 hj).1
 exact P0 (by omega) h
theorem QA {R:AI} {set:List Int} {b:Nat} (h:∀ i,(R.g i).pairs.length≤b):∀ n,(E3 n R set).length≤n*b
 |0=>Nat.zero_le _
 |n+1=>by
  have ih:=QA (set:=set) h n
  have:=h n
  rw [X7,List.length_append,Nat.succ_mul]
  split
  ·omega
  ·simp only [List.length_nil];omega
end
theorem Hd.prsFormR {w0 w:World} {F0:AH} {As Rs:List SP} {g:Nat→Dd} {hv:Nat→Value} {i:Nat} (j:Nat) (hj:Rs[j]?=some (BF g hv)) (hi:i<6) (H:Hd w0 F0 w As Rs):∃ A c,hv i=.slice A (g i).pairs.length c∧(g i).pairs.length≤c∧c≤9223372036854775807∧Plain A:=
 H.factR (List.mem_of_getElem? hj) fun F h=>DK (P0 hi h)
theorem XC {n:Nat} {N:AI} {x:Dy} (h1:x.part≠N.part):Dj n N x=N:=if_pos h1
theorem J5 {n:Nat} {N:AI} {x:Dy} (h1:x.part=N.part) (h4:¬ (x.kind=4∧(0≤x.sp∧x.sp<n)∧(N.g x.sp.toNat).merged=false)) (h5:x.kind≠5):Dj n N x=N:=by
 unfold Dj
 dsimp only
 rw [if_neg (fun h=>h h1),if_neg h5,if_neg h4]
theorem XA {n:Nat} {N:AI} {x:Dy} (h1:x.part=N.part) (h4:x.kind=4) (hr:0≤x.sp∧x.sp<n) (hm:(N.g x.sp.toNat).merged=false):Dj n N x={ N with g:=CN N.g x.sp.toNat { N.g x.sp.toNat with merged:=true,pairs:=x.pairs } }:=by
 unfold Dj
 dsimp only
 rw [if_neg (fun h=>h h1),if_neg (show ¬ x.kind=5 by omega),if_pos ⟨h4,hr,hm⟩]
theorem HP {n:Nat} {N:AI} {x:Dy} (h1:x.part=N.part) (h5:x.kind=5):Dj n N x={ N with sets:=N.sets++[x.set] }:=by
 unfold Dj
 dsimp only
 rw [if_neg (fun h=>h h1),if_pos h5,if_neg (fun h=>by have:=h.1;omega)]
theorem Fj {n:Nat} {p ep:Int} {recs:List Bp} {k:Nat} {x:Bp} {R R2:AI} (hR:R=CM n p ep ((recs.take k).map Bp.p)) (hx:recs[k]?=some x) (e:Dj n R x.p=R2):R2=CM n p ep ((recs.take (k+1)).map Bp.p):=by
 rw [D9 hx,List.map_append]
 show R2=CM n p ep (_++[x.p])
 rw [Pz,←hR,e]
theorem VX {n:Nat} {p ep:Int} {b:Nat}:∀ {rs:List Dy},(∀ r∈rs,r.pairs.length≤b)→∀ i,((CM n p ep rs).g i).pairs.length≤b:=by
 have:∀ (rs:List Dy) (R:AI),(∀ r∈rs,r.pairs.length≤b)→(∀ i,(R.g i).pairs.length≤b)→∀ i,((rs.foldl (Dj n) R).g i).pairs.length≤b:=by
  intro rs
  induction rs with
  |nil=>intro R _ h;exact h
  |cons x rs ih=>
   intro R hr h
   refine ih (Dj n R x) (fun r hr2=>hr r (List.mem_cons_of_mem _ hr2)) fun i=>?_
   have hx:=hr x (List.mem_cons_self ..)
   have key:∀ (R1:AI) (c:Prop) [Decidable c],(if c then { R1 with sets:=R1.sets++[x.set] } else R1).g=R1.g:=by
    intro R1 c _
    split<;>rfl
   unfold Dj
   dsimp only
   split
   ·exact h i
   ·rw [key]
    split
    ·dsimp only
     by_cases e:i=x.sp.toNat
     ·subst e;rw [Hb];exact hx
     ·rw [Ha _ _ e];exact h i
    ·exact h i
 intro rs hr
 exact this rs (GK p ep) hr fun i=>Nat.zero_le _
theorem Y3 (p:Int) {w:Int} (hw:1≤w): -w<p.tmod w∧p.tmod w<w:=by
 have h1:=Int.lt_tmod_of_pos p (show (0:Int)<w by omega)
 have h2:=Int.tmod_lt_of_pos p (show (0:Int)<w by omega)
 omega
theorem JS (vS:Value) (vM:Value) (vC:Value) (vR:Value) (vK:Value) (C:Cf):
    Cn Tryz.prog 19 [.agg #[vS,.int .i64 C.J.parts,vM,vC,vR,.int .i64 C.J.chunk,.int .i64 C.J.window,.int .i64 C.J.fuel,vK,.int .i64 C.w,.int .i64 C.t,.int .i64 C.o]] [] [Ab (Ao Ag) vS C.J.us,Ab Af vM C.J.map,Ab Af vC C.J.comb,Ab Af vR C.J.red,Ab (Ai .i64) vK C.J.marks] (fun v Bs=>v=.bool (decide (C1 C))∧Bs=[]):=by
 intro w0 F0 H
 obtain ⟨A1,c2,rfl,hc3,hm4,hp5⟩:=H.fR 0 rfl
 obtain ⟨A6,c7,rfl,hc8,hm9,hp10⟩:=H.fR 1 rfl
 obtain ⟨A11,c12,rfl,hc13,hm14,hp15⟩:=H.fR 2 rfl
 obtain ⟨A16,c17,rfl,hc18,hm19,hp20⟩:=H.fR 3 rfl
 obtain ⟨A21,c22,rfl,hc23,hm24,hp25⟩:=H.fR 4 rfl
 refine enter Tryz.func19 U U (Nat.le_of_ble_eq_true U) (Aa (Ae (Cm U U U U H (fun b26 w H=>(Ad U (Ac (Z ?_)))))))
 replace H:Hd _ _ _ [blk b26 [.slice A1 C.J.us.length c2,.int .i64 C.J.parts,.slice A6 C.J.map.length c7,.slice A11 C.J.comb.length c12,.slice A16 C.J.red.length c17,.int .i64 C.J.chunk,.int .i64 C.J.window,.int .i64 C.J.fuel,.slice A21 C.J.marks.length c22,.int .i64 C.w,.int .i64 C.t,.int .i64 C.o] 28] [Ab (Ao Ag) (.slice A1 C.J.us.length c2) C.J.us,Ab Af (.slice A6 C.J.map.length c7) C.J.map,Ab Af (.slice A11 C.J.comb.length c12) C.J.comb,Ab Af (.slice A16 C.J.red.length c17) C.J.red,Ab (Ai .i64) (.slice A21 C.J.marks.length c22) C.J.marks]:=H
 refine Aa (Ae (V U U (Aj U CY U) (V U U (Bn (cs:=[.slice A1 C.J.us.length c2,.int .i64 C.J.parts,.slice A6 C.J.map.length c7,.slice A11 C.J.comb.length c12,.slice A16 C.J.red.length c17,.int .i64 C.J.chunk,.int .i64 C.J.window,.int .i64 C.J.fuel,.slice A21 C.J.marks.length c22]) U Ku U U (H.cellsI 0 U U)) (sc (OJ (.slice A1 C.J.us.length c2) (.slice A6 C.J.map.length c7) (.slice A11 C.J.comb.length c12) (.slice A16 C.J.red.length c17) (.slice A21 C.J.marks.length c22) C.J) H (lR 0 U (lR 1 U (lR 2 U (lR 3 U (lR 4 U l0))))) U U (Au O_ U U) ?_))))
 rintro _ _ w ⟨rfl,rfl⟩ H
 refine Ad U ?_
 refine AN (d:=6) U (fun h27=>?_) (fun h27=>?_)
 ·refine V U U (Aj U JA U) (V U U (Al U AA U (H.cellI 0 U U)) (sc (Ga C.w 1 4) H l0 U U (Au FT U U) ?_))
  rintro _ _ w ⟨rfl,rfl⟩ H
  refine Ah 2 U ?_
  refine AN (d:=11) U (fun h28=>?_) (fun h28=>?_)
  ·refine V U U (Aj U Lk U) (V U U (Al U AA U (H.cellI 0 U U)) (sc (Ga C.t 1 3) H l0 U U (Au FT U U) ?_))
   rintro _ _ w ⟨rfl,rfl⟩ H
   refine Ah 2 U ?_
   refine AN (d:=16) U (fun h29=>?_) (fun h29=>?_)
   ·refine V U U (Aj U S9 U) (V U U (Al U AA U (H.cellI 0 U U)) (sc (Ga C.o 1 50) H l0 U U (Au FT U U) ?_))
    rintro _ _ w ⟨rfl,rfl⟩ H
    refine Ah 2 U (Ac (Z ?_))
    replace H:Hd _ _ _ [blk b26 [.slice A1 C.J.us.length c2,.int .i64 C.J.parts,.slice A6 C.J.map.length c7,.slice A11 C.J.comb.length c12,.slice A16 C.J.red.length c17,.int .i64 C.J.chunk,.int .i64 C.J.window,.int .i64 C.J.fuel,.slice A21 C.J.marks.length c22,.int .i64 C.w,.int .i64 C.t,.int .i64 C.o] 28] [Ab (Ao Ag) (.slice A1 C.J.us.length c2) C.J.us,Ab Af (.slice A6 C.J.map.length c7) C.J.map,Ab Af (.slice A11 C.J.comb.length c12) C.J.comb,Ab Af (.slice A16 C.J.red.length c17) C.J.red,Ab (Ai .i64) (.slice A21 C.J.marks.length c22) C.J.marks]:=H
    refine Am (Aq U U ?_)
    replace H:=H.nil
    have e:(1≤C.o∧C.o≤50)↔C1 C:=⟨fun g=>⟨h27,by omega,by omega,by omega⟩,fun g=>by have g2:=g.2;omega⟩
    exact Ak ⟨congrArg Value.bool (decide_eq_decide.2 e),rfl⟩ H
   refine Ah 5 U (Ac (Z ?_))
   replace H:Hd _ _ _ [blk b26 [.slice A1 C.J.us.length c2,.int .i64 C.J.parts,.slice A6 C.J.map.length c7,.slice A11 C.J.comb.length c12,.slice A16 C.J.red.length c17,.int .i64 C.J.chunk,.int .i64 C.J.window,.int .i64 C.J.fuel,.slice A21 C.J.marks.length c22,.int .i64 C.w,.int .i64 C.t,.int .i64 C.o] 28] [Ab (Ao Ag) (.slice A1 C.J.us.length c2) C.J.us,Ab Af (.slice A6 C.J.map.length c7) C.J.map,Ab Af (.slice A11 C.J.comb.length c12) C.J.comb,Ab Af (.slice A16 C.J.red.length c17) C.J.red,Ab (Ai .i64) (.slice A21 C.J.marks.length c22) C.J.marks]:=H
   refine Am (Aq U U ?_)
   replace H:=H.nil
   have e:¬ C1 C:=fun h=>by have h1:=h.1;have h2:=h.2;first |exact absurd h1 h27|omega
   exact Ak ⟨congrArg Value.bool (decide_eq_false e).symm,rfl⟩ H
  refine Ah 10 U (Ac (Z ?_))
  replace H:Hd _ _ _ [blk b26 [.slice A1 C.J.us.length c2,.int .i64 C.J.parts,.slice A6 C.J.map.length c7,.slice A11 C.J.comb.length c12,.slice A16 C.J.red.length c17,.int .i64 C.J.chunk,.int .i64 C.J.window,.int .i64 C.J.fuel,.slice A21 C.J.marks.length c22,.int .i64 C.w,.int .i64 C.t,.int .i64 C.o] 28] [Ab (Ao Ag) (.slice A1 C.J.us.length c2) C.J.us,Ab Af (.slice A6 C.J.map.length c7) C.J.map,Ab Af (.slice A11 C.J.comb.length c12) C.J.comb,Ab Af (.slice A16 C.J.red.length c17) C.J.red,Ab (Ai .i64) (.slice A21 C.J.marks.length c22) C.J.marks]:=H
  refine Am (Aq U U ?_)
  replace H:=H.nil
  have e:¬ C1 C:=fun h=>by have h1:=h.1;have h2:=h.2;first |exact absurd h1 h27|omega
  exact Ak ⟨congrArg Value.bool (decide_eq_false e).symm,rfl⟩ H
 refine Ah 12 U (Ah 3 U (Ac (Z ?_)))
 replace H:Hd _ _ _ [blk b26 [.slice A1 C.J.us.length c2,.int .i64 C.J.parts,.slice A6 C.J.map.length c7,.slice A11 C.J.comb.length c12,.slice A16 C.J.red.length c17,.int .i64 C.J.chunk,.int .i64 C.J.window,.int .i64 C.J.fuel,.slice A21 C.J.marks.length c22,.int .i64 C.w,.int .i64 C.t,.int .i64 C.o] 28] [Ab (Ao Ag) (.slice A1 C.J.us.length c2) C.J.us,Ab Af (.slice A6 C.J.map.length c7) C.J.map,Ab Af (.slice A11 C.J.comb.length c12) C.J.comb,Ab Af (.slice A16 C.J.red.length c17) C.J.red,Ab (Ai .i64) (.slice A21 C.J.marks.length c22) C.J.marks]:=H
 refine Am (Aq U U ?_)
 replace H:=H.nil
 have e:¬ C1 C:=fun h=>by have h1:=h.1;have h2:=h.2;first |exact absurd h1 h27|omega
 exact Ak ⟨congrArg Value.bool (decide_eq_false e).symm,rfl⟩ H
theorem Lx (vS:Value) (vM:Value) (vC:Value) (vR:Value) (vK:Value) (C:Cf) (p:Int) (hp:AP p):
    Cn Tryz.prog 71 [.agg #[vS,.int .i64 C.J.parts,vM,vC,vR,.int .i64 C.J.chunk,.int .i64 C.J.window,.int .i64 C.J.fuel,vK,.int .i64 C.w,.int .i64 C.t,.int .i64 C.o],.int .i64 p] [] [Ab (Ao Ag) vS C.J.us,Ab Af vM C.J.map,Ab Af vC C.J.comb,Ab Af vR C.J.red,Ab (Ai .i64) vK C.J.marks] (fun v Bs=>v=.int .i64 (Du C p)∧Bs=[]):=by
 intro w0 F0 H
 unfold AP at hp
 refine enter Tryz.func71 U U (Nat.le_of_ble_eq_true U) (Aa (Ae (Cm U U U U H (fun b1 w H=>(Ad U (Ac (Z ?_)))))))
 replace H:Hd _ _ _ [blk b1 [vS,.int .i64 C.J.parts,vM,vC,vR,.int .i64 C.J.chunk,.int .i64 C.J.window,.int .i64 C.J.fuel,vK,.int .i64 C.w,.int .i64 C.t,.int .i64 C.o] 28] [Ab (Ao Ag) vS C.J.us,Ab Af vM C.J.map,Ab Af vC C.J.comb,Ab Af vR C.J.red,Ab (Ai .i64) vK C.J.marks]:=H
 refine Aa (Aa (Ae (V U U (Bn (cs:=[vS,.int .i64 C.J.parts,vM,vC,vR,.int .i64 C.J.chunk,.int .i64 C.J.window,.int .i64 C.J.fuel,vK,.int .i64 C.w,.int .i64 C.t,.int .i64 C.o]) U DX U U (H.cellsI 0 U U)) (sc (JS vS vM vC vR vK C) H (lR 0 U (lR 1 U (lR 2 U (lR 3 U (lR 4 U l0))))) U U (Au JI U U) ?_))))
 rintro _ _ w ⟨rfl,rfl⟩ H
 refine V U U (D7 U U) (Ad U ?_)
 refine AN (d:=8) U (fun h2=>?_) (fun h2=>?_)
 ·refine Ah 8 U (Ac (Z ?_))
  replace H:Hd _ _ _ [blk b1 [vS,.int .i64 C.J.parts,vM,vC,vR,.int .i64 C.J.chunk,.int .i64 C.J.window,.int .i64 C.J.fuel,vK,.int .i64 C.w,.int .i64 C.t,.int .i64 C.o] 28] [Ab (Ao Ag) vS C.J.us,Ab Af vM C.J.map,Ab Af vC C.J.comb,Ab Af vR C.J.red,Ab (Ai .i64) vK C.J.marks]:=H
  refine Ck U (Aa (Ae (Ad U (Ac (Z (Am (Ay (Aq U U ?_))))))))
  replace H:=H.nil
  exact Ak ⟨congrArg (Value.int .i64) (if_pos (by first |exact .inl h2|exact .inr h2)).symm,rfl⟩ H
 have hmc:C1 C:=Classical.not_not.1 h2
 have hm1:=hmc.2
 have hmp:=hmc.1.2.1
 refine Ad U (V U U (Aj U CY U) (V U U (Aj U HC U) (V U U (Al U AA U (H.cellI 0 U U)) (V U U (Cz (z:=C.J.parts - 1) U U U (AB (by omega) (by omega))) (sc (Ga p 0 (C.J.parts - 1)) H l0 U U (Au FT U U) ?_)))))
 rintro _ _ w ⟨rfl,rfl⟩ H
 refine V U U (D7 U U) (Ad U (Ac (Z ?_)))
 replace H:Hd _ _ _ [blk b1 [vS,.int .i64 C.J.parts,vM,vC,vR,.int .i64 C.J.chunk,.int .i64 C.J.window,.int .i64 C.J.fuel,vK,.int .i64 C.w,.int .i64 C.t,.int .i64 C.o] 28] [Ab (Ao Ag) vS C.J.us,Ab Af vM C.J.map,Ab Af vC C.J.comb,Ab Af vR C.J.red,Ab (Ai .i64) vK C.J.marks]:=H
 refine Aw U (fun h3=>?_) (fun h3=>?_)
 ·refine Aa (Ae (Ad U (Ac (Z (Am (Ay (Aq U U ?_)))))))
  replace H:=H.nil
  exact Ak ⟨congrArg (Value.int .i64) (if_pos (by first |exact .inl h3|exact .inr h3)).symm,rfl⟩ H
 refine Ax (Z (Aa (Ae (Ad U (V U U (Aj U JA U) (V U U (Al U AA U (H.cellI 0 U U)) (V U U (Mi (z:=p.tmod C.w) U U U (by omega) U) (V U U (AX (z:=1+p.tmod C.w) U U U (by have h1:=Y3 p (show 1≤C.w by omega);exact AB (by omega) (by omega))) (Ad U (Ac (Z (Am (Aq U U ?_)))))))))))))
 replace H:=H.nil
 have e:Du C p=1+p.tmod C.w:=if_neg (fun h=>h.elim (fun h=>h hmc) (fun h=>by omega))
 exact Ak ⟨by rw [e]<;>rfl,rfl⟩ H
theorem KL (vxs:Value) (xs:List BO) (hb:xs.length≤1000000):
    Cn Tryz.prog 158 [vxs] [] [Ab Af vxs xs] (fun v Bs=>Bs=[Y Af v xs]):=by
 intro w0 F0 H
 obtain ⟨A1,c2,rfl,hc3,hm4,hp5⟩:=H.fR 0 rfl
 refine enter Tryz.func158 U U (Nat.le_of_ble_eq_true U) (Aa (Ae (Ad U (Ac (Z ?_)))))
 replace H:Hd _ _ _ [] [Ab Af (.slice A1 xs.length c2) xs]:=H
 refine Aa (Aa (Ae (Ad U (V U U (J4 U GR U U) (Ac (Z ?_))))))
 refine DO (b:=(A1:Option Addr).isNone) U (fun h6=>?_) (fun h6=>?_)
 ·refine Aa (Ae (Ad U (Ac (Z (Am (Ay (Aq U U ?_)))))))
  obtain rfl:=H.nilR 0 rfl h6
  replace H:=H.newnil Af
  exact Ak U H
 refine Ax (Z (Aa (Ae (Kb U U U HV H (fun b7 w H=>(Ad U ?_))))))
 replace H:=H.newnilA Af (some ⟨b7,0,none⟩)
 refine CA (xs:=[]) (ys:=xs) U U U HV KB U (by decide) U U H (by simp only [List.length_nil];omega) (fun F hA hR=>hR _ (List.mem_of_getElem? (i:=0) U)) (fun v8 w H=>?_)
 replace H:=H.h2 (A:=Y Af v8 ([]++xs)) (B:=blk b7 [] 223)
 refine Ad U (Ac (Z (Am (Aq U U ?_))))
 rw [List.nil_append] at H
 replace H:=H.k1
 exact Ak U H
theorem Ih (vxs:Value) (xs:List Int) (hb:xs.length≤1000000):
    Cn Tryz.prog 129 [vxs] [] [Ab (Ai .i64) vxs xs] (fun v Bs=>Bs=[Y (Ai .i64) v xs]):=by
 intro w0 F0 H
 obtain ⟨A1,c2,rfl,hc3,hm4,hp5⟩:=H.fR 0 rfl
 refine enter Tryz.func129 U U (Nat.le_of_ble_eq_true U) (Aa (Ae (Ad U (Ac (Z ?_)))))
 replace H:Hd _ _ _ [] [Ab (Ai .i64) (.slice A1 xs.length c2) xs]:=H
 refine Aa (Aa (Ae (Ad U (V U U (J4 U E7 U U) (Ac (Z ?_))))))
 refine DO (b:=(A1:Option Addr).isNone) U (fun h6=>?_) (fun h6=>?_)
 ·refine Aa (Ae (Ad U (Ac (Z (Am (Ay (Aq U U ?_)))))))
  obtain rfl:=H.nilR 0 rfl h6
  replace H:=H.newnil (Ai .i64)
  exact Ak U H
 refine Ax (Z (Aa (Ae (Kb U U U DW H (fun b7 w H=>(Ad U ?_))))))
 replace H:=H.newnilA (Ai .i64) (some ⟨b7,0,none⟩)
 refine CA (xs:=[]) (ys:=xs) U U U DW FK U (by decide) U U H (by simp only [List.length_nil];omega) (fun F hA hR=>hR _ (List.mem_of_getElem? (i:=0) U)) (fun v8 w H=>?_)
 replace H:=H.h2 (A:=Y (Ai .i64) v8 ([]++xs)) (B:=blk b7 [] 3)
 refine Ad U (Ac (Z (Am (Aq U U ?_))))
 rw [List.nil_append] at H
 replace H:=H.k1
 exact Ak U H
theorem R4 (vxs:Value) (xs:List Er) (hb:xs.length≤1000000):
    Cn Tryz.prog 157 [vxs] [] [Ab Dn vxs xs] (fun v Bs=>Bs=[Y Dn v xs]):=by
 intro w0 F0 H
 obtain ⟨A1,c2,rfl,hc3,hm4,hp5⟩:=H.fR 0 rfl
 refine enter Tryz.func157 U U (Nat.le_of_ble_eq_true U) (Aa (Ae (Ad U (Ac (Z ?_)))))
 replace H:Hd _ _ _ [] [Ab Dn (.slice A1 xs.length c2) xs]:=H
 refine Aa (Aa (Ae (Ad U (V U U (J4 U EP U U) (Ac (Z ?_))))))
 refine DO (b:=(A1:Option Addr).isNone) U (fun h6=>?_) (fun h6=>?_)
 ·refine Aa (Ae (Ad U (Ac (Z (Am (Ay (Aq U U ?_)))))))
  obtain rfl:=H.nilR 0 rfl h6
  replace H:=H.newnil Dn
  exact Ak U H
 refine Ax (Z (Aa (Ae (Kb U U U F5 H (fun b7 w H=>(Ad U ?_))))))
 replace H:=H.newnilA Dn (some ⟨b7,0,none⟩)
 refine CA (xs:=[]) (ys:=xs) U U U F5 KC U (by decide) U U H (by simp only [List.length_nil];omega) (fun F hA hR=>hR _ (List.mem_of_getElem? (i:=0) U)) (fun v8 w H=>?_)
 replace H:=H.h2 (A:=Y Dn v8 ([]++xs)) (B:=blk b7 [] 35)
 refine Ad U (Ac (Z (Am (Aq U U ?_))))
 rw [List.nil_append] at H
 replace H:=H.k1
 exact Ak U H
theorem Ws {us zs:List (Value×List An)} {i:Nat} {A:Option Addr} {c:Nat} {x:List An} (hz:zs.length=i) (h:us[i]?=some (.slice A x.length c,x)):(Bl zs++(Bl us).drop i)[i]?=some (⟨A,x.length,c⟩:Er):=by
 subst hz
 have hl:(Bl zs).length=zs.length:=by simp [Bl]
 rw [List.getElem?_append_right (by omega),hl,Nat.sub_self,List.getElem?_drop,Nat.add_zero]
 unfold Bl
 rw [List.getElem?_map,h]
 rfl
theorem Wt {us zs:List (Value×List An)} {i:Nat} {A:Option Addr} {n c:Nat} {x:List An} (hz:zs.length=i) (hi:i<us.length):(Bl zs++(Bl us).drop i).set i (⟨A,n,c⟩:Er)=Bl (zs++[(.slice A n c,x)])++(Bl us).drop (i+1):=by
 subst hz
 have hl:(Bl zs).length=zs.length:=by simp [Bl]
 have hu:(Bl us).length=us.length:=by simp [Bl]
 rw [List.set_append_right _ _ (by omega),hl,Nat.sub_self,List.drop_eq_getElem_cons (by omega),List.set_cons_zero]
 unfold Bl
 rw [List.map_append,List.append_assoc]
 rfl
theorem Wu {us zs:List (Value×List An)} {i:Nat} {v u:Value} {x:List An} (hz:zs.map (·.2)=(us.map (·.2)).take i) (h:us[i]?=some (v,x)):(zs++[(u,x)]).map (·.2)=(us.map (·.2)).take (i+1):=by
 rw [List.map_append,hz,D9 (x:=x) (by rw [List.getElem?_map,h];rfl)]
 rfl
theorem L5 (vS:Value) (vM:Value) (vC:Value) (vR:Value) (vK:Value) (C:Cf) (hC:C1 C):
    Cn Tryz.prog 94 [.agg #[vS,.int .i64 C.J.parts,vM,vC,vR,.int .i64 C.J.chunk,.int .i64 C.J.window,.int .i64 C.J.fuel,vK,.int .i64 C.w,.int .i64 C.t,.int .i64 C.o]] [] [Ab (Ao Ag) vS C.J.us,Ab Af vM C.J.map,Ab Af vC C.J.comb,Ab Af vR C.J.red,Ab (Ai .i64) vK C.J.marks] (fun v Bs=>∃ J2:AC,∃ vS2:Value,∃ vM2:Value,∃ vC2:Value,∃ vR2:Value,∃ vK2:Value,v=.agg #[vS2,.int .i64 J2.parts,vM2,vC2,vR2,.int .i64 J2.chunk,.int .i64 J2.window,.int .i64 J2.fuel,vK2,.int .i64 C.w,.int .i64 C.t,.int .i64 C.o]∧Bs=[Y (Ao Ag) vS2 J2.us,Y Af vM2 J2.map,Y Af vC2 J2.comb,Y Af vR2 J2.red,Y (Ai .i64) vK2 J2.marks]∧(Bb J2 C.J)):=by
 intro w0 F0 H
 obtain ⟨A1,c2,rfl,hc3,hm4,hp5⟩:=H.fR 0 rfl
 obtain ⟨A6,c7,rfl,hc8,hm9,hp10⟩:=H.fR 1 rfl
 obtain ⟨A11,c12,rfl,hc13,hm14,hp15⟩:=H.fR 2 rfl
 obtain ⟨A16,c17,rfl,hc18,hm19,hp20⟩:=H.fR 3 rfl
 obtain ⟨A21,c22,rfl,hc23,hm24,hp25⟩:=H.fR 4 rfl
 have hsp:=hC.1.2.2.2.1
 have hus:=hC.1.1
 have hb1:=(I8 hC.1.2.2.2.2.2.1.2).1
 have hb2:=(I8 hC.1.2.2.2.2.2.2.1.2).1
 have hb3:=(I8 hC.1.2.2.2.2.2.2.2.1).1
 have hb4:=hC.1.2.2.1
 have hul:(Bl C.J.us).length=C.J.us.length:=by simp [Bl]
 refine enter Tryz.func94 U U (Nat.le_of_ble_eq_true U) (Aa (Ae (Cm U U U U H (fun b26 w H=>(Dk U U U Rb H (fun b27 w H=>(Ac (Z ?_))))))))
 replace H:Hd _ _ _ [blk b27 [.slice none 0 0,.int .i64 0,.slice none 0 0,.slice none 0 0,.slice none 0 0,.int .i64 0,.int .i64 0,.int .i64 0,.slice none 0 0,.int .i64 0,.int .i64 0,.int .i64 0] 28,blk b26 [.slice A1 C.J.us.length c2,.int .i64 C.J.parts,.slice A6 C.J.map.length c7,.slice A11 C.J.comb.length c12,.slice A16 C.J.red.length c17,.int .i64 C.J.chunk,.int .i64 C.J.window,.int .i64 C.J.fuel,.slice A21 C.J.marks.length c22,.int .i64 C.w,.int .i64 C.t,.int .i64 C.o] 28] [Ab (Ao Ag) (.slice A1 C.J.us.length c2) C.J.us,Ab Af (.slice A6 C.J.map.length c7) C.J.map,Ab Af (.slice A11 C.J.comb.length c12) C.J.comb,Ab Af (.slice A16 C.J.red.length c17) C.J.red,Ab (Ai .i64) (.slice A21 C.J.marks.length c22) C.J.marks]:=H
 refine Aa (Ae (V U U (Aj U CY U) (V U U (Aj U Eh U) (V U U (Al U Eo U (H.cellI 1 U U)) (sc (R4 (.slice A1 C.J.us.length c2) (Bl C.J.us) (by simp only [Bl,List.length_map];omega)) H (lX (fun F hA hR=>Tw (hR _ (List.mem_of_getElem? (i:=0) U))) l0) U U (Au Uc U U) ?_)))))
 rintro v28 _ w rfl H
 refine V U U (Aj U CY U) (V U U (Aj U Eh U) ?_)
 obtain ⟨A29,c30,rfl,hc31,hm32,hp33⟩:=H.fA 0 rfl
 replace H:=H.p2
 refine BD U U U Eo U U H U (Nat.le_of_ble_eq_true U) (fun u hu=>by simp [Value.cells] at hu;subst hu;rfl) (fun w H=>?_)
 replace H:Hd _ _ _ [blk b26 [.slice A29 ((Bl C.J.us).length) c30,.int .i64 C.J.parts,.slice A6 C.J.map.length c7,.slice A11 C.J.comb.length c12,.slice A16 C.J.red.length c17,.int .i64 C.J.chunk,.int .i64 C.J.window,.int .i64 C.J.fuel,.slice A21 C.J.marks.length c22,.int .i64 C.w,.int .i64 C.t,.int .i64 C.o] 28,Y Dn (.slice A29 ((Bl C.J.us).length) c30) (Bl C.J.us),blk b27 [.slice none 0 0,.int .i64 0,.slice none 0 0,.slice none 0 0,.slice none 0 0,.int .i64 0,.int .i64 0,.int .i64 0,.slice none 0 0,.int .i64 0,.int .i64 0,.int .i64 0] 28] [Ab (Ao Ag) (.slice A1 C.J.us.length c2) C.J.us,Ab Af (.slice A6 C.J.map.length c7) C.J.map,Ab Af (.slice A11 C.J.comb.length c12) C.J.comb,Ab Af (.slice A16 C.J.red.length c17) C.J.red,Ab (Ai .i64) (.slice A21 C.J.marks.length c22) C.J.marks]:=H
 refine Ac (Z (Aa (Aa (Ae (V U U (Aj U CY U) (V U U (Aj U Eh U) (V U U (Al U Eo U (H.cellI 0 U U)) (V U U (Bf U EP U) (Ad U (Ac (Z (AS ?_))))))))))))
 replace H:=H.p1.h1 (A:=Y Dn (.slice A29 ((Bl C.J.us).length) c30) (Bl ([]:List (Value×List An))++(Bl C.J.us).drop 0))|>.big0 (fun u:Value×List An=>Y Ag u.1 u.2)|>.h1 (A:=FQ Ag ([]:List (Value×List An)))
 refine BQ (σ:=Nat×List (Value×List An)) (fun (i,zs)=>[(1,.pointer (some ⟨b26,0,none⟩)),(2,.pointer (some ⟨b27,0,none⟩)),(13,.slice A29 ((Bl C.J.us).length) c30),(14,.int .i64 (((Bl C.J.us).length:Nat):Int)),(15,.int .i64 ((i:Nat):Int))]) (fun (i,zs) w=>(Hd w0 F0 w [FQ Ag zs,Y Dn (.slice A29 ((Bl C.J.us).length) c30) (Bl zs++(Bl C.J.us).drop i),blk b26 [.slice A29 ((Bl C.J.us).length) c30,.int .i64 C.J.parts,.slice A6 C.J.map.length c7,.slice A11 C.J.comb.length c12,.slice A16 C.J.red.length c17,.int .i64 C.J.chunk,.int .i64 C.J.window,.int .i64 C.J.fuel,.slice A21 C.J.marks.length c22,.int .i64 C.w,.int .i64 C.t,.int .i64 C.o] 28,blk b27 [.slice none 0 0,.int .i64 0,.slice none 0 0,.slice none 0 0,.slice none 0 0,.int .i64 0,.int .i64 0,.int .i64 0,.slice none 0 0,.int .i64 0,.int .i64 0,.int .i64 0] 28] [Ab (Ao Ag) (.slice A1 C.J.us.length c2) C.J.us,Ab Af (.slice A6 C.J.map.length c7) C.J.map,Ab Af (.slice A11 C.J.comb.length c12) C.J.comb,Ab Af (.slice A16 C.J.red.length c17) C.J.red,Ab (Ai .i64) (.slice A21 C.J.marks.length c22) C.J.marks])∧(zs.length=i∧zs.map (·.2)=(C.J.us.map (·.2)).take i)∧(i≤C.J.us.length)) (fun (i,zs)=>C.J.us.length - i) (0,[]) ⟨rfl,rfl,rfl,rfl,rfl,trivial⟩ ⟨H,⟨rfl,rfl⟩,Nat.zero_le _⟩ ?_
 rintro ⟨i,zs⟩ w ⟨H,hz,hi⟩
 refine Aa (Ae (V U U (Bd U U U) (Ac (Z (Aa ?_)))))
 refine Aw U (fun h34=>?_) (fun h34=>?_)
 ·refine Ax (Z (Aa (AS (Aa ?_))))
  obtain ⟨⟨u37,x35⟩,hx36⟩:∃ z9,C.J.us[i]?=some z9:=⟨_,List.getElem?_eq_getElem (show i<C.J.us.length by omega)⟩
  obtain ⟨A38,c39,rfl,hc40,hm41⟩:=H.nestR 0 rfl hx36
  have hk42:=Ws (zs:=zs) hz.1 hx36
  have hxl:x35.length≤8:=(hsp _ (Cc hx36)).1
  refine Ae (Ad U ?_)
  have th43:=H.thA 1 rfl hk42
  refine V U U (A0 (p:=AQ A29+i*1) U F5 U U (by omega) (by omega) th43 U) (V U U (Al U EF U (H.elA 1 U hk42 (q:=0) U U)) (Ah 2 U (Ac (Z ?_))))
  replace H:=H.p3.p3.p2
  refine B1 (.e 0 (.e 1 (.e 2 (.e 3 (.e 4 (.m 5 (.e 6 (.m 7 .z)))))))) (fun w=>∃ Ar,Hd w0 F0 w (FQ Ag zs::blk b26 [.slice A29 ((Bl C.J.us).length) c30,.int .i64 C.J.parts,.slice A6 C.J.map.length c7,.slice A11 C.J.comb.length c12,.slice A16 C.J.red.length c17,.int .i64 C.J.chunk,.int .i64 C.J.window,.int .i64 C.J.fuel,.slice A21 C.J.marks.length c22,.int .i64 C.w,.int .i64 C.t,.int .i64 C.o] 28::blk b27 [.slice none 0 0,.int .i64 0,.slice none 0 0,.slice none 0 0,.slice none 0 0,.int .i64 0,.int .i64 0,.int .i64 0,.slice none 0 0,.int .i64 0,.int .i64 0,.int .i64 0] 28::Ar) [Ab (Ao Ag) (.slice A1 C.J.us.length c2) C.J.us,Ab Af (.slice A6 C.J.map.length c7) C.J.map,Ab Af (.slice A11 C.J.comb.length c12) C.J.comb,Ab Af (.slice A16 C.J.red.length c17) C.J.red,Ab (Ai .i64) (.slice A21 C.J.marks.length c22) C.J.marks]) mo (by kernel_rfl) (fun w H=>⟨_,H⟩) H (fun w H=>?_)
  refine Ap U U U (fun w ⟨Ar,H⟩=>Aj U CY U) (Ap U U U (fun w ⟨Ar,H⟩=>Aj U Eh U) (Ap U U U (fun w ⟨Ar,H⟩=>Al U Eo U (H.cellI 1 U U)) (At U (At U (AO U (sc (Jd (.slice A38 x35.length c39) x35 (by first |omega|decide|assumption)) H (lX (fun F hA hR=>Iz (hR _ (List.mem_of_getElem? (i:=0) U)) hx36) l0) U U (Au JF U U) ?_))))))
  rintro v44 _ w rfl H
  replace H:=H.h1 (A:=Y Ag v44 x35)|>.p3|>.p3|>.p3
  refine AJ ⟨_,H⟩ ?_
  have th45:=H.thA 4 rfl hk42
  refine Ap U U U (fun w ⟨Ar,H⟩=>A0 (p:=AQ A29+i*1) U F5 U U (by omega) (by omega) th45 U) (AO U ?_)
  obtain ⟨A46,c47,rfl,hc48,hm49,hp50⟩:=H.fA 3 rfl
  replace H:=H.p4
  refine Gm (i:=i) (a:=(⟨A46,x35.length,c47⟩:Er)) U U U EF U U U H (by simp only [List.length_append,List.length_drop,Bl,List.length_map];omega) U (fun w H=>?_)
  replace H:Hd _ _ _ [Y Dn (.slice A29 ((Bl C.J.us).length) c30) ((Bl zs++(Bl C.J.us).drop i).set i (⟨A46,x35.length,c47⟩:Er)),FQ Ag zs,blk b26 [.slice A29 ((Bl C.J.us).length) c30,.int .i64 C.J.parts,.slice A6 C.J.map.length c7,.slice A11 C.J.comb.length c12,.slice A16 C.J.red.length c17,.int .i64 C.J.chunk,.int .i64 C.J.window,.int .i64 C.J.fuel,.slice A21 C.J.marks.length c22,.int .i64 C.w,.int .i64 C.t,.int .i64 C.o] 28,blk b27 [.slice none 0 0,.int .i64 0,.slice none 0 0,.slice none 0 0,.slice none 0 0,.int .i64 0,.int .i64 0,.int .i64 0,.slice none 0 0,.int .i64 0,.int .i64 0,.int .i64 0] 28,Y Ag (.slice A46 x35.length c47) x35] [Ab (Ao Ag) (.slice A1 C.J.us.length c2) C.J.us,Ab Af (.slice A6 C.J.map.length c7) C.J.map,Ab Af (.slice A11 C.J.comb.length c12) C.J.comb,Ab Af (.slice A16 C.J.red.length c17) C.J.red,Ab (Ai .i64) (.slice A21 C.J.marks.length c22) C.J.marks]:=H
  replace H:=H.p3.p3.p3
  refine AJ ⟨_,H⟩ (BK (AU (Z (Ae (V U U (AX (z:=((i+1:Nat):Int)) U U U (by rw [AB (by omega) (by omega)];omega)) (Ad U (Ac ?_)))))))
  replace H:=H.p3.p1.p4.bigN (f:=fun u:Value×List An=>Y Ag u.1 u.2) (x:=(.slice A46 x35.length c47,x35))
  replace H:Hd w0 F0 w [FQ Ag (zs++[(.slice A46 x35.length c47,x35)]),Y Dn (.slice A29 ((Bl C.J.us).length) c30) (Bl (zs++[(.slice A46 x35.length c47,x35)])++(Bl C.J.us).drop (i+1)),blk b26 [.slice A29 ((Bl C.J.us).length) c30,.int .i64 C.J.parts,.slice A6 C.J.map.length c7,.slice A11 C.J.comb.length c12,.slice A16 C.J.red.length c17,.int .i64 C.J.chunk,.int .i64 C.J.window,.int .i64 C.J.fuel,.slice A21 C.J.marks.length c22,.int .i64 C.w,.int .i64 C.t,.int .i64 C.o] 28,blk b27 [.slice none 0 0,.int .i64 0,.slice none 0 0,.slice none 0 0,.slice none 0 0,.int .i64 0,.int .i64 0,.int .i64 0,.slice none 0 0,.int .i64 0,.int .i64 0,.int .i64 0] 28] [Ab (Ao Ag) (.slice A1 C.J.us.length c2) C.J.us,Ab Af (.slice A6 C.J.map.length c7) C.J.map,Ab Af (.slice A11 C.J.comb.length c12) C.J.comb,Ab Af (.slice A16 C.J.red.length c17) C.J.red,Ab (Ai .i64) (.slice A21 C.J.marks.length c22) C.J.marks]:=by rw [←Wt (x:=x35) hz.1 (by omega)];exact H
  exact Bj (s:=(i,zs)) (i+1,zs++[(.slice A46 x35.length c47,x35)]) ⟨rfl,rfl,rfl,rfl,rfl,trivial⟩ ⟨H,⟨by simp [hz.1],Wu hz.2 hx36⟩,by (try dsimp only);omega⟩ (by (try dsimp only);omega)
 refine BH (AR (AR (BI (Z (Aa ?_)))))
 obtain rfl:i=C.J.us.length:=by omega
 replace H:=H.p1
 replace H:Hd w0 F0 w [Y Dn (.slice A29 ((Bl C.J.us).length) c30) (Bl zs),FQ Ag zs,blk b26 [.slice A29 ((Bl C.J.us).length) c30,.int .i64 C.J.parts,.slice A6 C.J.map.length c7,.slice A11 C.J.comb.length c12,.slice A16 C.J.red.length c17,.int .i64 C.J.chunk,.int .i64 C.J.window,.int .i64 C.J.fuel,.slice A21 C.J.marks.length c22,.int .i64 C.w,.int .i64 C.t,.int .i64 C.o] 28,blk b27 [.slice none 0 0,.int .i64 0,.slice none 0 0,.slice none 0 0,.slice none 0 0,.int .i64 0,.int .i64 0,.int .i64 0,.slice none 0 0,.int .i64 0,.int .i64 0,.int .i64 0] 28] [Ab (Ao Ag) (.slice A1 C.J.us.length c2) C.J.us,Ab Af (.slice A6 C.J.map.length c7) C.J.map,Ab Af (.slice A11 C.J.comb.length c12) C.J.comb,Ab Af (.slice A16 C.J.red.length c17) C.J.red,Ab (Ai .i64) (.slice A21 C.J.marks.length c22) C.J.marks]:=by rw [show Bl zs=Bl zs++(Bl C.J.us).drop C.J.us.length by simp [Bl]];exact H
 replace H:=H.hdI|>.h1 (A:=Y (Ao Ag) (.slice A29 ((Bl C.J.us).length) c30) zs)
 have hsj:Bb ({ C.J with us:=zs }:AC) C.J:=⟨by rw [hz.2,List.take_of_length_le (by simp)],rfl⟩
 refine RP (.e 0 (.e 1 (.e 2 (.e 4 (.e 5 (.e 6 (.e 8 (.e 9 (.e 10 (.m 3 (.e 12 (.e 13 (.m 7 (.m 11 (.w 14 (.e 15 (.e 16 (.m 17 (.e 18 (.e 19 (.m 20 .z))))))))))))))))))))) (fun w=>∃ Ar,Hd w0 F0 w (Y (Ao Ag) (.slice A29 ((Bl C.J.us).length) c30) zs::blk b26 [.slice A29 ((Bl C.J.us).length) c30,.int .i64 C.J.parts,.slice A6 C.J.map.length c7,.slice A11 C.J.comb.length c12,.slice A16 C.J.red.length c17,.int .i64 C.J.chunk,.int .i64 C.J.window,.int .i64 C.J.fuel,.slice A21 C.J.marks.length c22,.int .i64 C.w,.int .i64 C.t,.int .i64 C.o] 28::blk b27 [.slice none 0 0,.int .i64 0,.slice none 0 0,.slice none 0 0,.slice none 0 0,.int .i64 0,.int .i64 0,.int .i64 0,.slice none 0 0,.int .i64 0,.int .i64 0,.int .i64 0] 28::Ar) [Ab (Ao Ag) (.slice A1 C.J.us.length c2) C.J.us,Ab Af (.slice A6 C.J.map.length c7) C.J.map,Ab Af (.slice A11 C.J.comb.length c12) C.J.comb,Ab Af (.slice A16 C.J.red.length c17) C.J.red,Ab (Ai .i64) (.slice A21 C.J.marks.length c22) C.J.marks]) (fun w=>∃ Ar,Hd w0 F0 w Ar [Ab (Ao Ag) (.slice A1 C.J.us.length c2) C.J.us,Ab Af (.slice A6 C.J.map.length c7) C.J.map,Ab Af (.slice A11 C.J.comb.length c12) C.J.comb,Ab Af (.slice A16 C.J.red.length c17) C.J.red,Ab (Ai .i64) (.slice A21 C.J.marks.length c22) C.J.marks]) mo (by kernel_rfl) (fun w H=>⟨_,H⟩) H (fun w H=>?_)
 refine Ff U U U (fun w ⟨Ar,H⟩=>Aj U CY U) (Ff U U U (fun w ⟨Ar,H⟩=>Aj U Jt U) (Ff U U U (fun w ⟨Ar,H⟩=>Al U Fq U (H.cellI 1 U U)) (Ff U U U (fun w ⟨Ar,H⟩=>Aj U CY U) (Ff U U U (fun w ⟨Ar,H⟩=>Aj U Ju U) (Ff U U U (fun w ⟨Ar,H⟩=>Al U Fq U (H.cellI 1 U U)) (Ff U U U (fun w ⟨Ar,H⟩=>Aj U CY U) (Ff U U U (fun w ⟨Ar,H⟩=>Aj U Jv U) (Ff U U U (fun w ⟨Ar,H⟩=>Al U Fq U (H.cellI 1 U U)) (Lq U (sc (KL (.slice A6 C.J.map.length c7) C.J.map (by first |omega|decide|assumption)) H (lR 1 U l0) U U (Au LD U U) ?_))))))))))
 rintro v51 _ w rfl H
 replace H:=H.h1 (A:=Y Af v51 C.J.map)|>.p3|>.p3|>.p3
 refine Lp ⟨_,H⟩ (Ff U U U (fun w ⟨Ar,H⟩=>Aj U CY U) (Ff U U U (fun w ⟨Ar,H⟩=>Aj U Jt U) (Lq U (sc (KL (.slice A11 C.J.comb.length c12) C.J.comb (by first |omega|decide|assumption)) H (lR 2 U l0) U U (Au LD U U) ?_))))
 rintro v52 _ w rfl H
 replace H:=H.h1 (A:=Y Af v52 C.J.comb)|>.p3|>.p3|>.p3
 refine Lp ⟨_,H⟩ (Lq U (sc (KL (.slice A16 C.J.red.length c17) C.J.red (by first |omega|decide|assumption)) H (lR 3 U l0) U U (Au LD U U) ?_))
 rintro v53 _ w rfl H
 replace H:=H.h1 (A:=Y Af v53 C.J.red)|>.p3|>.p3|>.p3
 refine Lp ⟨_,H⟩ (Tg U ?_)
 obtain ⟨A54,c55,rfl,hc56,hm57,hp58⟩:=H.fA 5 rfl
 replace H:=H.p1
 refine BD U U U Fq U U H U (Nat.le_of_ble_eq_true U) (fun u hu=>by simp [Value.cells] at hu;subst hu;rfl) (fun w H=>?_)
 replace H:Hd _ _ _ [blk b26 [.slice A29 ((Bl C.J.us).length) c30,.int .i64 C.J.parts,.slice A54 C.J.map.length c55,.slice A11 C.J.comb.length c12,.slice A16 C.J.red.length c17,.int .i64 C.J.chunk,.int .i64 C.J.window,.int .i64 C.J.fuel,.slice A21 C.J.marks.length c22,.int .i64 C.w,.int .i64 C.t,.int .i64 C.o] 28,Y (Ao Ag) (.slice A29 ((Bl C.J.us).length) c30) zs,blk b27 [.slice none 0 0,.int .i64 0,.slice none 0 0,.slice none 0 0,.slice none 0 0,.int .i64 0,.int .i64 0,.int .i64 0,.slice none 0 0,.int .i64 0,.int .i64 0,.int .i64 0] 28,Y Af v53 C.J.red,Y Af v52 C.J.comb,Y Af (.slice A54 C.J.map.length c55) C.J.map] [Ab (Ao Ag) (.slice A1 C.J.us.length c2) C.J.us,Ab Af (.slice A6 C.J.map.length c7) C.J.map,Ab Af (.slice A11 C.J.comb.length c12) C.J.comb,Ab Af (.slice A16 C.J.red.length c17) C.J.red,Ab (Ai .i64) (.slice A21 C.J.marks.length c22) C.J.marks]:=H
 refine AJ ⟨_,H⟩ (Ap U U U (fun w ⟨Ar,H⟩=>Aj U CY U) (Ap U U U (fun w ⟨Ar,H⟩=>Aj U Ju U) (AO U ?_)))
 obtain ⟨A59,c60,rfl,hc61,hm62,hp63⟩:=H.fA 4 rfl
 refine BD U U U Fq U U H U (Nat.le_of_ble_eq_true U) (fun u hu=>by simp [Value.cells] at hu;subst hu;rfl) (fun w H=>?_)
 replace H:Hd _ _ _ [blk b26 [.slice A29 ((Bl C.J.us).length) c30,.int .i64 C.J.parts,.slice A54 C.J.map.length c55,.slice A59 C.J.comb.length c60,.slice A16 C.J.red.length c17,.int .i64 C.J.chunk,.int .i64 C.J.window,.int .i64 C.J.fuel,.slice A21 C.J.marks.length c22,.int .i64 C.w,.int .i64 C.t,.int .i64 C.o] 28,Y (Ao Ag) (.slice A29 ((Bl C.J.us).length) c30) zs,blk b27 [.slice none 0 0,.int .i64 0,.slice none 0 0,.slice none 0 0,.slice none 0 0,.int .i64 0,.int .i64 0,.int .i64 0,.slice none 0 0,.int .i64 0,.int .i64 0,.int .i64 0] 28,Y Af v53 C.J.red,Y Af (.slice A59 C.J.comb.length c60) C.J.comb,Y Af (.slice A54 C.J.map.length c55) C.J.map] [Ab (Ao Ag) (.slice A1 C.J.us.length c2) C.J.us,Ab Af (.slice A6 C.J.map.length c7) C.J.map,Ab Af (.slice A11 C.J.comb.length c12) C.J.comb,Ab Af (.slice A16 C.J.red.length c17) C.J.red,Ab (Ai .i64) (.slice A21 C.J.marks.length c22) C.J.marks]:=H
 refine AJ ⟨_,H⟩ (Ap U U U (fun w ⟨Ar,H⟩=>Aj U CY U) (Ap U U U (fun w ⟨Ar,H⟩=>Aj U Jv U) (AO U ?_)))
 obtain ⟨A64,c65,rfl,hc66,hm67,hp68⟩:=H.fA 3 rfl
 refine BD U U U Fq U U H U (Nat.le_of_ble_eq_true U) (fun u hu=>by simp [Value.cells] at hu;subst hu;rfl) (fun w H=>?_)
 replace H:Hd _ _ _ [blk b26 [.slice A29 ((Bl C.J.us).length) c30,.int .i64 C.J.parts,.slice A54 C.J.map.length c55,.slice A59 C.J.comb.length c60,.slice A64 C.J.red.length c65,.int .i64 C.J.chunk,.int .i64 C.J.window,.int .i64 C.J.fuel,.slice A21 C.J.marks.length c22,.int .i64 C.w,.int .i64 C.t,.int .i64 C.o] 28,Y (Ao Ag) (.slice A29 ((Bl C.J.us).length) c30) zs,blk b27 [.slice none 0 0,.int .i64 0,.slice none 0 0,.slice none 0 0,.slice none 0 0,.int .i64 0,.int .i64 0,.int .i64 0,.slice none 0 0,.int .i64 0,.int .i64 0,.int .i64 0] 28,Y Af (.slice A64 C.J.red.length c65) C.J.red,Y Af (.slice A59 C.J.comb.length c60) C.J.comb,Y Af (.slice A54 C.J.map.length c55) C.J.map] [Ab (Ao Ag) (.slice A1 C.J.us.length c2) C.J.us,Ab Af (.slice A6 C.J.map.length c7) C.J.map,Ab Af (.slice A11 C.J.comb.length c12) C.J.comb,Ab Af (.slice A16 C.J.red.length c17) C.J.red,Ab (Ai .i64) (.slice A21 C.J.marks.length c22) C.J.marks]:=H
 refine AJ ⟨_,H⟩ (BK (Z (Aa (Ae (V U U (Aj U CY U) (V U U (Aj U Jx U) (V U U (Al U Fr U (H.cellI 0 U U)) (sc (Ih (.slice A21 C.J.marks.length c22) C.J.marks (by first |omega|decide|assumption)) H (lR 4 U l0) U U (Au Iu U U) ?_))))))))
 rintro v69 _ w rfl H
 refine V U U (Aj U CY U) (V U U (Aj U Jx U) ?_)
 obtain ⟨A70,c71,rfl,hc72,hm73,hp74⟩:=H.fA 0 rfl
 replace H:=H.p1
 refine BD U U U Fr U U H U (Nat.le_of_ble_eq_true U) (fun u hu=>by simp [Value.cells] at hu;subst hu;rfl) (fun w H=>?_)
 replace H:Hd _ _ _ [blk b26 [.slice A29 ((Bl C.J.us).length) c30,.int .i64 C.J.parts,.slice A54 C.J.map.length c55,.slice A59 C.J.comb.length c60,.slice A64 C.J.red.length c65,.int .i64 C.J.chunk,.int .i64 C.J.window,.int .i64 C.J.fuel,.slice A70 C.J.marks.length c71,.int .i64 C.w,.int .i64 C.t,.int .i64 C.o] 28,Y (Ai .i64) (.slice A70 C.J.marks.length c71) C.J.marks,Y (Ao Ag) (.slice A29 ((Bl C.J.us).length) c30) zs,blk b27 [.slice none 0 0,.int .i64 0,.slice none 0 0,.slice none 0 0,.slice none 0 0,.int .i64 0,.int .i64 0,.int .i64 0,.slice none 0 0,.int .i64 0,.int .i64 0,.int .i64 0] 28,Y Af (.slice A64 C.J.red.length c65) C.J.red,Y Af (.slice A59 C.J.comb.length c60) C.J.comb,Y Af (.slice A54 C.J.map.length c55) C.J.map] [Ab (Ao Ag) (.slice A1 C.J.us.length c2) C.J.us,Ab Af (.slice A6 C.J.map.length c7) C.J.map,Ab Af (.slice A11 C.J.comb.length c12) C.J.comb,Ab Af (.slice A16 C.J.red.length c17) C.J.red,Ab (Ai .i64) (.slice A21 C.J.marks.length c22) C.J.marks]:=H
 refine Ac (Z (Aa (Ae (V U U (Bn (cs:=[.slice A29 ((Bl C.J.us).length) c30,.int .i64 C.J.parts,.slice A54 C.J.map.length c55,.slice A59 C.J.comb.length c60,.slice A64 C.J.red.length c65,.int .i64 C.J.chunk,.int .i64 C.J.window,.int .i64 C.J.fuel,.slice A70 C.J.marks.length c71,.int .i64 C.w,.int .i64 C.t,.int .i64 C.o]) U DX U U (H.cellsI 0 U U)) ?_))))
 replace H:=H.p3
 refine BD U U U DX U U H U (Nat.le_of_ble_eq_true U) (fun u hu=>by simp [Value.cells] at hu;rcases hu with rfl|rfl|rfl|rfl|rfl|rfl|rfl|rfl|rfl|rfl|rfl|rfl<;>rfl) (fun w H=>?_)
 replace H:=H.h1 (A:=blk b27 [.slice A29 ((Bl C.J.us).length) c30,.int .i64 C.J.parts,.slice A54 C.J.map.length c55,.slice A59 C.J.comb.length c60,.slice A64 C.J.red.length c65,.int .i64 C.J.chunk,.int .i64 C.J.window,.int .i64 C.J.fuel,.slice A70 C.J.marks.length c71,.int .i64 C.w,.int .i64 C.t,.int .i64 C.o] 28)
 refine Ac (Z (Am (Fk (cs:=[.slice A29 ((Bl C.J.us).length) c30,.int .i64 C.J.parts,.slice A54 C.J.map.length c55,.slice A59 C.J.comb.length c60,.slice A64 C.J.red.length c65,.int .i64 C.J.chunk,.int .i64 C.J.window,.int .i64 C.J.fuel,.slice A70 C.J.marks.length c71,.int .i64 C.w,.int .i64 C.t,.int .i64 C.o]) U U DX U (H.cellsI 0 U U) ?_)))
 replace H:=H.p2.p4.p5.p6.p6.k5
 exact Ak ⟨({ C.J with us:=zs }:AC),(.slice A29 ((Bl C.J.us).length) c30),(.slice A54 C.J.map.length c55),(.slice A59 C.J.comb.length c60),(.slice A64 C.J.red.length c65),(.slice A70 C.J.marks.length c71),rfl,rfl,hsj⟩ H
abbrev Gw:=(Int×Int)×Value×List (Value×List An)
def IW (e:Gw):(Int×Int)×List (List An):=(e.1,e.2.2.map (·.2))
def He (e:Gw):(Int×Int)×Value:=(e.1,e.2.1)
def GP (e:Gw):SP:=Y (Ao Ag) e.2.1 e.2.2
def Km (mb:Nat) (st:DH):SP:=ex fun kvs:List Gw=>BU [BS (kvs.map IW=st),Bt FS mb (kvs.map He),Bm GP kvs]
def CB (t sb:Nat) (st:DH):SP:=ex fun mb:Nat=>BU [blk sb [.map (some mb)] t,Km mb st]
section
variable {kvs:List Gw} {k:Int×Int} {x:Value×List (Value×List An)}
end
section
variable {w0 w:World} {F0:AH} {As Rs:List SP} {t sb mb:Nat} {st:DH} {kvs:List Gw} {k:Int×Int} {v:Value} {us:List (Value×List An)}
theorem Hd.stgC (he:kvs.map IW=st) (H:Hd w0 F0 w (blk sb [.map (some mb)] t::Bt FS mb (kvs.map He)::Bm GP kvs::As) Rs):Hd w0 F0 w (CB t sb st::As) Rs:=by
 have h3:Hd w0 F0 w (BS (kvs.map IW=st)::Bt FS mb (kvs.map He)::Bm GP kvs::blk sb [.map (some mb)] t::As) Rs:=
  (H.perm (((List.Perm.swap _ _ _).trans ((List.Perm.swap _ _ _).cons _)):(blk sb [.map (some mb)] t::Bt FS mb (kvs.map He)::Bm GP kvs::As).Perm (Bt FS mb (kvs.map He)::Bm GP kvs::blk sb [.map (some mb)] t::As))).puI he
 have h4:Hd w0 F0 w (Km mb st::blk sb [.map (some mb)] t::As) Rs:=Hd.exI (A:=fun kvs:List Gw=>BU [BS (kvs.map IW=st),Bt FS mb (kvs.map He),Bm GP kvs]) kvs (Hd.stI (Bs:=[BS (kvs.map IW=st),Bt FS mb (kvs.map He),Bm GP kvs]) h3)
 exact Hd.exI (A:=fun mb:Nat=>BU [blk sb [.map (some mb)] t,Km mb st]) mb (Hd.stI (Bs:=[blk sb [.map (some mb)] t,Km mb st]) (h4.perm (List.Perm.swap _ _ _)))
theorem Hd.st0 (H:Hd w0 F0 w (blk sb [.map (some mb)] t::Bt FS mb []::As) Rs):Hd w0 F0 w (CB t sb []::As) Rs:=
 Hd.stgC (kvs:=[]) rfl (((H.perm (List.Perm.swap _ _ _)).big0 GP).perm (((List.Perm.swap _ _ _).trans ((List.Perm.swap _ _ _).cons _)).trans (List.Perm.swap _ _ _)))
end
theorem YL  :
    Cn Tryz.prog 128 [] [] [] (fun v Bs=>∃ b:Nat,v=.pointer (some ⟨b,0,none⟩)∧Bs=[CB 253 b ([])]):=by
 intro w0 F0 H
 refine enter Tryz.func128 U U (Nat.le_of_ble_eq_true U) (Aa (Ae (Ad U (Ac (Z (Aa (Ae (QE FS U U U H (fun b1 w H=>(V U U (CQ (parts:=[(0,.tmp 1)]) (vs:=[.map (some b1)]) (cs:=[.map (some b1)]) U Rv U U) (Cm U U U U H (fun b2 w H=>(Ad U (Ac (Z ?_)))))))))))))))
 replace H:Hd _ _ _ [blk b2 [.map (some b1)] 253,Bt FS b1 []] []:=H
 refine Am (Aq U U ?_)
 replace H:=H.st0|>.h1 (A:=CB 253 b2 ([]))
 exact Ak ⟨_,rfl,rfl⟩ H
theorem Rm (r:Nat) (A:Option Addr) (m:Nat) (c:Nat) (vM2:Value) (vC2:Value) (vR2:Value) (vK2:Value) (J2:AC) (cw:Int) (ct:Int) (co:Int) (part:Int) (ep:Int) (g:Nat→Dd) (hv:Nat→Value) (sb:Nat) (vs:Value) (n:Int) (hn:0≤n∧n<(m:Int)) (hm:m≤6):
    Cn Tryz.prog 118 [.pointer (some ⟨r,0,none⟩),.int .i64 n] [] [blk r (Bq (.slice A m c) vM2 vC2 vR2 vK2 J2 cw ct co part ep g hv sb vs) 185] (fun v Bs=>v=.pointer (some ⟨r,14+(n).toNat*5,none⟩)∧Bs=[]):=by
 intro w0 F0 H
 refine enter Tryz.func118 U U (Nat.le_of_ble_eq_true U) (Aa (Ae (Ad U (Ac (Z (Aa (Aa (Ae (Ad U (V U U (CW U H9 U U) (Ah 2 U (V U U (Bd U U U) (Ah 2 U ?_)))))))))))))
 refine AN (d:=11) U (fun h1=>?_) (fun h1=>?_)
 ·exfalso;omega
 refine Ah 2 U (V U U (AF U U) (V U U (Aj U G0 U) (V U U (Aj U CY U) (V U U (Aj U Eh U) (V U U (Al U Eo U (H.cellRI 0 U U)) (V U U (Bf U EP U) (V U U (CJ U U U) (Ad U (Ac (Z ?_))))))))))
 refine Aw U (fun h2=>?_) (fun h2=>?_)
 ·exfalso;omega
 refine Ax (Z (Aa (Ae (Ah 2 U (V U U (AF U U) (V U U (Aj U Ij U) (V U U (GI (p:=14+(n).toNat*5) U I4 Ir U U (by omega) (by omega) (by omega)) (Ad U (Ac (Z (Am (Aq U U ?_))))))))))))
 replace H:Hd _ _ _ [] [blk r (Bq (.slice A m c) vM2 vC2 vR2 vK2 J2 cw ct co part ep g hv sb vs) 185]:=H
 exact Ak ⟨rfl,rfl⟩ H
theorem Rl (r:Nat) (A:Option Addr) (m:Nat) (c:Nat) (vM2:Value) (vC2:Value) (vR2:Value) (vK2:Value) (J2:AC) (cw:Int) (ct:Int) (co:Int) (part:Int) (ep:Int) (g:Nat→Dd) (hv:Nat→Value) (sb:Nat) (vs:Value) (n:Int) (hn:¬ (0≤n∧n<(m:Int))):
    Cn Tryz.prog 118 [.pointer (some ⟨r,0,none⟩),.int .i64 n] [] [blk r (Bq (.slice A m c) vM2 vC2 vR2 vK2 J2 cw ct co part ep g hv sb vs) 185] (fun v Bs=>v=.pointer none∧Bs=[]):=by
 intro w0 F0 H
 refine enter Tryz.func118 U U (Nat.le_of_ble_eq_true U) (Aa (Ae (Ad U (Ac (Z (Aa (Aa (Ae (Ad U (V U U (CW U H9 U U) (Ah 2 U (V U U (Bd U U U) (Ah 2 U ?_)))))))))))))
 refine AN (d:=11) U (fun h1=>?_) (fun h1=>?_)
 ·refine Ah 10 U (Ac (Z (Ck U (Aa (Ae (Ad U (Ac (Z (Am (Ay (Aq U U ?_)))))))))))
  replace H:Hd _ _ _ [] [blk r (Bq (.slice A m c) vM2 vC2 vR2 vK2 J2 cw ct co part ep g hv sb vs) 185]:=H
  exact Ak ⟨rfl,rfl⟩ H
 refine Ah 2 U (V U U (AF U U) (V U U (Aj U G0 U) (V U U (Aj U CY U) (V U U (Aj U Eh U) (V U U (Al U Eo U (H.cellRI 0 U U)) (V U U (Bf U EP U) (V U U (CJ U U U) (Ad U (Ac (Z ?_))))))))))
 refine Aw U (fun h2=>?_) (fun h2=>?_)
 ·refine Aa (Ae (Ad U (Ac (Z (Am (Ay (Aq U U ?_)))))))
  replace H:Hd _ _ _ [] [blk r (Bq (.slice A m c) vM2 vC2 vR2 vK2 J2 cw ct co part ep g hv sb vs) 185]:=H
  exact Ak ⟨rfl,rfl⟩ H
 exact Ax (Z (Aa (Ae (Ah 2 U (V U U (AF U U) (V U U (Aj U Ij U) (V U U (GI (p:=14+(n).toNat*5) U I4 Ir U U (by omega) (by omega) (by omega)) (Ad U (Ac (Z (Am (Aq U U (absurd (by omega) hn)))))))))))))
theorem Y9 (vxs:Value) (xs:List An) (vys:Value) (ys:List An) (hb:xs.length+ys.length≤1000000):
    Cn Tryz.prog 185 [vxs,vys] [] [Ab Ag vxs xs,Ab Ag vys ys] (fun v Bs=>Bs=[Y Ag v (srt (xs++ys))]):=by
 intro w0 F0 H
 obtain ⟨A1,c2,rfl,hc3,hm4,hp5⟩:=H.fR 0 rfl
 obtain ⟨A6,c7,rfl,hc8,hm9,hp10⟩:=H.fR 1 rfl
 refine enter Tryz.func185 U U (Nat.le_of_ble_eq_true U) (Aa (Ae (Ad U (Ac (Z ?_)))))
 replace H:Hd _ _ _ [] [Ab Ag (.slice A1 xs.length c2) xs,Ab Ag (.slice A6 ys.length c7) ys]:=H
 refine Aa (Aa (Ae (Ad U (sc (QJ (.slice A1 xs.length c2) xs (by first |omega|decide|(simp only [List.length_append,List.length_cons,List.length_nil,F6];omega))) H (lR 0 U l0) U U (Au OX U U) ?_))))
 rintro _ _ w ⟨rfl,rfl⟩ H
 refine V U U (D7 U U) (Ad U ?_)
 refine AN (d:=9) U (fun h11=>?_) (fun h11=>?_)
 ·refine Ah 4 U (Ac (Z (Ck U (Aa (Ae (Ad U ?_))))))
  replace H:=H.newnil Ag
  refine CA (xs:=[]) (ys:=xs) U U U By C9 U (by decide) U U H (by first |omega|(simp only [List.length_append,List.length_cons,List.length_nil];omega)) (fun F hA hR=>hR _ (List.mem_of_getElem? (i:=0) U)) (fun v12 w H=>(Ad U (CA (xs:=[]++xs) (ys:=ys) U U U By C9 U (by decide) U U H (by first |omega|(simp only [List.length_append,List.length_cons,List.length_nil];omega)) (fun F hA hR=>hR _ (List.mem_of_getElem? (i:=1) U)) (fun v13 w H=>?_))))
  replace H:Hd _ _ _ [Y Ag v13 (([]++xs)++ys)] [Ab Ag (.slice A1 xs.length c2) xs,Ab Ag (.slice A6 ys.length c7) ys]:=H
  refine sc (L9 v13 (([]++xs)++ys) (by first |omega|decide|(simp only [List.length_append,List.length_cons,List.length_nil,F6];omega))) H (lA 0 U BE l0) U U (Au LF U U) ?_
  rintro v14 _ w rfl H
  replace H:=H.h1 (A:=Y Ag v14 (srt (([]++xs)++ys)))
  refine Ad U (Ac (Z (Am (Ay (Aq U U ?_)))))
  replace H:=H.k1.h1 (A:=Y Ag v14 (srt (xs++ys)))
  exact Ak U H
 refine Ad U (sc (QJ (.slice A6 ys.length c7) ys (by first |omega|decide|(simp only [List.length_append,List.length_cons,List.length_nil,F6];omega))) H (lR 1 U l0) U U (Au OX U U) ?_)
 rintro _ _ w ⟨rfl,rfl⟩ H
 refine V U U (D7 U U) (Ad U (Ac (Z ?_)))
 refine Aw U (fun h15=>?_) (fun h15=>?_)
 ·refine Aa (Ae (Ad U ?_))
  replace H:=H.newnil Ag
  refine CA (xs:=[]) (ys:=xs) U U U By C9 U (by decide) U U H (by first |omega|(simp only [List.length_append,List.length_cons,List.length_nil];omega)) (fun F hA hR=>hR _ (List.mem_of_getElem? (i:=0) U)) (fun v16 w H=>(Ad U (CA (xs:=[]++xs) (ys:=ys) U U U By C9 U (by decide) U U H (by first |omega|(simp only [List.length_append,List.length_cons,List.length_nil];omega)) (fun F hA hR=>hR _ (List.mem_of_getElem? (i:=1) U)) (fun v17 w H=>?_))))
  replace H:Hd _ _ _ [Y Ag v17 (([]++xs)++ys)] [Ab Ag (.slice A1 xs.length c2) xs,Ab Ag (.slice A6 ys.length c7) ys]:=H
  refine sc (L9 v17 (([]++xs)++ys) (by first |omega|decide|(simp only [List.length_append,List.length_cons,List.length_nil,F6];omega))) H (lA 0 U BE l0) U U (Au LF U U) ?_
  rintro v18 _ w rfl H
  replace H:=H.h1 (A:=Y Ag v18 (srt (([]++xs)++ys)))
  refine Ad U (Ac (Z (Am (Ay (Aq U U ?_)))))
  replace H:=H.k1.h1 (A:=Y Ag v18 (srt (xs++ys)))
  exact Ak U H
 refine Ax (Z (Aa ?_))
 have hoxs:CR xs:=Classical.not_not.1 h11
 have hoys:CR ys:=Classical.not_not.1 h15
 refine Ae (Ad U (Ac (Z (Aa (AS ?_)))))
 replace H:=H.newnil Ag|>.dupR 1 rfl|>.dupR 1 rfl
 refine BQ (σ:=Value×Value×List An×List An×Value×List An) (fun (u,v,al,bl,q,zs)=>[(0,u),(1,v),(4,.slice none 0 0),(5,q)]) (fun (u,v,al,bl,q,zs) w=>(Hd w0 F0 w [Y Ag q zs] [Ab Ag u al,Ab Ag v bl,Ab Ag (.slice A1 xs.length c2) xs,Ab Ag (.slice A6 ys.length c7) ys])∧(CR al)∧(CR bl)∧(zs.length+(al.length+bl.length)=xs.length+ys.length)∧(zs++srt (al++bl)=srt (xs++ys))) (fun (u,v,al,bl,q,zs)=>al.length+bl.length) (.slice A1 xs.length c2,.slice A6 ys.length c7,xs,ys,.slice none 0 0,[]) ⟨rfl,rfl,rfl,rfl,trivial⟩ ⟨H,hoxs,hoys,by (try dsimp only);simp only [List.length_nil];omega,rfl⟩ ?_
 rintro ⟨u,v,al,bl,q,zs⟩ w ⟨H,ha,hb2,hl,hz⟩
 refine Aa (Aa (Ae (Ad U ?_)))
 obtain ⟨A19,c20,rfl,hc21,hm22,hp23⟩:=H.fR 0 rfl
 refine V U U (Bf U C7 U) (V U U (CK U U U) (Ad U ?_))
 refine AN (d:=22) U (fun h24=>?_) (fun h24=>?_)
 ·refine Ad U ?_
  obtain ⟨A25,c26,rfl,hc27,hm28,hp29⟩:=H.fR 1 rfl
  refine V U U (Bf U C7 U) (V U U (CK U U U) (Ad U (Ac (Z ?_))))
  replace H:Hd _ _ _ [Y Ag q zs] [Ab Ag (.slice A19 al.length c20) al,Ab Ag (.slice A25 bl.length c26) bl,Ab Ag (.slice A1 xs.length c2) xs,Ab Ag (.slice A6 ys.length c7) ys]:=H
  refine Aw U (fun h30=>?_) (fun h30=>?_)
  ·refine Ax (Z (AS (Aa (Aa (Gd mo (by kernel_rfl) H (D4 U ?_))))))
   obtain ⟨x31,hx32⟩:∃ z9,bl[0]?=some z9:=⟨_,List.getElem?_eq_getElem (show 0<bl.length by omega)⟩
   have th33:=H.thR 1 rfl hx32
   refine Bu U U (fun w H=>A0 (p:=AQ A25+0*2) U By U U (by omega) (by omega) th33 (by omega)) (Bu U U (fun w H=>Aj U EY U) (Bu U U (fun w H=>Al U BR U (H.elR 1 U hx32 (q:=0) U U)) (D4 U ?_)))
   obtain ⟨x34,hx35⟩:∃ z9,al[0]?=some z9:=⟨_,List.getElem?_eq_getElem (show 0<al.length by omega)⟩
   have th36:=H.thR 0 rfl hx35
   refine Bu U U (fun w H=>A0 (p:=AQ A19+0*2) U By U U (by omega) (by omega) th36 (by omega)) (Bu U U (fun w H=>Aj U EY U) (Bu U U (fun w H=>Al U BR U (H.elR 0 U hx35 (q:=0) U U)) (Bu U U (fun w H=>Qc U U U) (Gs (fun w H=>(Z ?_))))))
   refine Aw U (fun h37=>?_) (fun h37=>?_)
   ·refine Aa (Ae (Ah 2 U ?_))
    have th38:=H.thR 1 rfl hx32
    refine V U U (A0 (p:=AQ A25+0*2) U By U U (by omega) (by omega) th38 (by omega)) (V U U (Bn (cs:=[.string x31.key,.string x31.val]) U Ca U U (H.elsR 1 U hx32 U)) (BW (parts:=[(0,.tmp 39)]) (vs:=[.agg #[.string x31.key,.string x31.val]]) (cs:=[.string x31.key,.string x31.val]) U U U By C9 U (by decide) (by decide) U U H (fun b39 w H=>?_)))
    replace H:=H.p1
    refine CA (xs:=zs) (ys:=[x31]) U U U By C9 U (by decide) U U H (by first |omega|(simp only [List.length_append,List.length_cons,List.length_nil];omega)) (fun F hA hR=>Cp (hA _ (List.mem_of_getElem? (i:=0) U)) U (by decide) (AV.flat_eq.2 U)) (fun v40 w H=>(Ad U (Ac (Z ?_))))
    replace H:Hd _ _ _ [Y Ag v40 (zs++[x31]),blk b39 [.string x31.key,.string x31.val] 106] [Ab Ag (.slice A19 al.length c20) al,Ab Ag (.slice A25 bl.length c26) bl,Ab Ag (.slice A1 xs.length c2) xs,Ab Ag (.slice A6 ys.length c7) ys]:=H
    refine Aa (Ae (Ad U (V U U (IH U By U U (by omega) (by omega) U) (Ad U (Ac (Z (BH (AR (BI ?_)))))))))
    replace H:=H.k1.sufR 1 rfl (n:=1) (by omega)
    replace H:Hd w0 F0 w [Y Ag v40 (zs++[x31])] [Ab Ag (.slice A19 al.length c20) al,Ab Ag (.slice (DC A25 c26 1 2) (bl.length - 1) (c26 - 1)) (bl.drop 1),Ab Ag (.slice A1 xs.length c2) xs,Ab Ag (.slice A6 ys.length c7) ys]:=H.pickR [1,0,3,4]
    have hz2:(zs++[x31])++srt (al++bl.drop 1)=srt (xs++ys):=by rw [←hz,VI hx35 hx32 ha hb2 h37,List.append_assoc];rfl
    exact Bj (s:=(undef,undef,al,bl,undef,zs)) (.slice A19 al.length c20,.slice (DC A25 c26 1 2) (bl.length - 1) (c26 - 1),al,bl.drop 1,v40,zs++[x31]) ⟨rfl,rfl,rfl,rfl,trivial⟩ ⟨H,ha,PO hb2 1,by (try dsimp only);simp only [List.length_append,List.length_cons,List.length_nil,List.length_drop];omega,hz2⟩ (by (try dsimp only);simp only [List.length_drop];omega)
   refine Ax (Z (Aa (Ae (Ah 2 U ?_))))
   have th41:=H.thR 0 rfl hx35
   refine V U U (A0 (p:=AQ A19+0*2) U By U U (by omega) (by omega) th41 (by omega)) (V U U (Bn (cs:=[.string x34.key,.string x34.val]) U Ca U U (H.elsR 0 U hx35 U)) (BW (parts:=[(0,.tmp 47)]) (vs:=[.agg #[.string x34.key,.string x34.val]]) (cs:=[.string x34.key,.string x34.val]) U U U By C9 U (by decide) (by decide) U U H (fun b42 w H=>?_)))
   replace H:=H.p1
   refine CA (xs:=zs) (ys:=[x34]) U U U By C9 U (by decide) U U H (by first |omega|(simp only [List.length_append,List.length_cons,List.length_nil];omega)) (fun F hA hR=>Cp (hA _ (List.mem_of_getElem? (i:=0) U)) U (by decide) (AV.flat_eq.2 U)) (fun v43 w H=>(Ad U (Ac (Z ?_))))
   replace H:Hd _ _ _ [Y Ag v43 (zs++[x34]),blk b42 [.string x34.key,.string x34.val] 106] [Ab Ag (.slice A19 al.length c20) al,Ab Ag (.slice A25 bl.length c26) bl,Ab Ag (.slice A1 xs.length c2) xs,Ab Ag (.slice A6 ys.length c7) ys]:=H
   refine Ae (Ad U (V U U (IH U By U U (by omega) (by omega) U) (Ad U (Ac (AU ?_)))))
   replace H:=H.k1.sufR 0 rfl (n:=1) (by omega)
   replace H:Hd w0 F0 w [Y Ag v43 (zs++[x34])] [Ab Ag (.slice (DC A19 c20 1 2) (al.length - 1) (c20 - 1)) (al.drop 1),Ab Ag (.slice A25 bl.length c26) bl,Ab Ag (.slice A1 xs.length c2) xs,Ab Ag (.slice A6 ys.length c7) ys]:=H.pickR [0,2,3,4]
   have hz2:(zs++[x34])++srt (al.drop 1++bl)=srt (xs++ys):=by rw [←hz,VH hx35 hx32 ha hb2 h37,List.append_assoc];rfl
   exact Bj (s:=(undef,undef,al,bl,undef,zs)) (.slice (DC A19 c20 1 2) (al.length - 1) (c20 - 1),.slice A25 bl.length c26,al.drop 1,bl,v43,zs++[x34]) ⟨rfl,rfl,rfl,rfl,trivial⟩ ⟨H,PO ha 1,hb2,by (try dsimp only);simp only [List.length_append,List.length_cons,List.length_nil,List.length_drop];omega,hz2⟩ (by (try dsimp only);simp only [List.length_drop];omega)
  refine BH (AR (AR (BI (Z (Aa (Ae (Ah 2 U (CA (xs:=zs) (ys:=al) U U U By C9 U (by decide) U U H (by first |omega|(simp only [List.length_append,List.length_cons,List.length_nil];omega)) (fun F hA hR=>hR _ (List.mem_of_getElem? (i:=0) U)) (fun v44 w H=>(Ad U (CA (xs:=zs++al) (ys:=bl) U U U By C9 U (by decide) U U H (by first |omega|(simp only [List.length_append,List.length_cons,List.length_nil];omega)) (fun F hA hR=>hR _ (List.mem_of_getElem? (i:=1) U)) (fun v45 w H=>?_))))))))))))
  replace H:=H.h1 (A:=Y Ag v45 ((zs++al)++bl))
  refine Ad U (Ac (Z (Am (Aq U U ?_))))
  replace H:Hd w0 F0 w [Y Ag v45 (srt (xs++ys))] [Ab Ag (.slice A19 al.length c20) al,Ab Ag (.slice A25 bl.length c26) bl,Ab Ag (.slice A1 xs.length c2) xs,Ab Ag (.slice A6 ys.length c7) ys]:=by rw [←hz,Pt ha hb2 (by omega),←List.append_assoc];exact H
  replace H:=H.dropR|>.dropR
  exact Ak U H
 refine Ah 4 U (Ac (Z ?_))
 replace H:Hd _ _ _ [Y Ag q zs] [Ab Ag (.slice A19 al.length c20) al,Ab Ag v bl,Ab Ag (.slice A1 xs.length c2) xs,Ab Ag (.slice A6 ys.length c7) ys]:=H
 refine B7 U (BH (AR (AR (BI (Z (Aa (Ae (Ah 2 U (CA (xs:=zs) (ys:=al) U U U By C9 U (by decide) U U H (by first |omega|(simp only [List.length_append,List.length_cons,List.length_nil];omega)) (fun F hA hR=>hR _ (List.mem_of_getElem? (i:=0) U)) (fun v46 w H=>(Ad U ?_)))))))))))
 obtain ⟨A47,c48,rfl,hc49,hm50,hp51⟩:=H.fR 1 rfl
 refine CA (xs:=zs++al) (ys:=bl) U U U By C9 U (by decide) U U H (by first |omega|(simp only [List.length_append,List.length_cons,List.length_nil];omega)) (fun F hA hR=>hR _ (List.mem_of_getElem? (i:=1) U)) (fun v52 w H=>(Ad U (Ac (Z ?_))))
 replace H:Hd _ _ _ [Y Ag v52 ((zs++al)++bl)] [Ab Ag (.slice A19 al.length c20) al,Ab Ag (.slice A47 bl.length c48) bl,Ab Ag (.slice A1 xs.length c2) xs,Ab Ag (.slice A6 ys.length c7) ys]:=H
 refine Am (Aq U U ?_)
 replace H:Hd w0 F0 w [Y Ag v52 (srt (xs++ys))] [Ab Ag (.slice A19 al.length c20) al,Ab Ag (.slice A47 bl.length c48) bl,Ab Ag (.slice A1 xs.length c2) xs,Ab Ag (.slice A6 ys.length c7) ys]:=by rw [←hz,Pt ha hb2 (by omega),←List.append_assoc];exact H
 replace H:=H.dropR|>.dropR
 exact Ak U H
theorem X6 (vus:Value) (us:List (Value×List An)) (hb:(CH us).length≤1000000):
    Cn Tryz.prog 138 [vus] [] [Ab (Ao Ag) vus us] (fun v Bs=>Bs=[Y Ag v (srt (CH us))]):=by
 intro w0 F0 H
 obtain ⟨A1,c2,rfl,hc3,hm4,hp5⟩:=H.fR 0 rfl
 refine enter Tryz.func138 U U (Nat.le_of_ble_eq_true U) (Aa (Ae (Ad U (Ac (Z ?_)))))
 replace H:Hd _ _ _ [] [Ab (Ao Ag) (.slice A1 us.length c2) us]:=H
 refine Aa (Ae (Ad U (Ac (Z (Aa (Aa (Ae (Ad U (V U U (Bf U EP U) (Ad U (Ac (Z (AS ?_)))))))))))))
 replace H:=H.newnil Ag
 refine BQ (σ:=Nat×Value) (fun (k,q)=>[(2,.slice none 0 0),(3,q),(6,.slice A1 us.length c2),(7,.int .i64 ((us.length:Nat):Int)),(8,.int .i64 ((k:Nat):Int))]) (fun (k,q) w=>(Hd w0 F0 w [Y Ag q (srt (CH (us.take k)))] [Ab (Ao Ag) (.slice A1 us.length c2) us])∧(k≤us.length)) (fun (k,q)=>us.length - k) (0,.slice none 0 0) ⟨rfl,rfl,rfl,rfl,rfl,trivial⟩ ⟨H,by (try dsimp only);omega⟩ ?_
 rintro ⟨k,q⟩ w ⟨H,hk⟩
 have hsl:=F6 (CH (us.take k))
 refine Aa (Ae (V U U (Bd U U U) (Ac (Z (Aa ?_)))))
 refine Aw U (fun h6=>?_) (fun h6=>?_)
 ·refine Ax (Z (Aa (AS (Aa (Ae ?_)))))
  obtain ⟨⟨u9,x7⟩,hx8⟩:∃ z9,us[k]?=some z9:=⟨_,List.getElem?_eq_getElem (show k<us.length by omega)⟩
  obtain ⟨A10,c11,rfl,hc12,hm13⟩:=H.nestR 0 rfl hx8
  have th14:=H.thRd 0 rfl hx8
  refine V U U (A0 (p:=AQ A1+k*1) U F5 U U (by omega) (by omega) th14 U) (V U U (Al U EF U (H.elRd 0 U hx8 U)) (Ad U (Ac (Z ?_))))
  have hfl:=N3 us (k+1)
  rw [N4 hx8,List.length_append] at hfl
  refine Ae (Ah 2 U (sc (Y9 q (srt (CH (us.take k))) (.slice A10 x7.length c11) x7 (by first |omega|decide|(simp only [List.length_append,List.length_cons,List.length_nil,F6];omega))) H (lA 0 U BE (lX (fun F hA hR=>Iz (hR _ (List.mem_of_getElem? (i:=0) U)) hx8) l0)) U U (Au Uj U U) ?_))
  rintro v15 _ w rfl H
  refine Ad U (Ac (AU (Z ?_)))
  replace H:Hd _ _ _ [Y Ag v15 (srt ((srt (CH (us.take k)))++x7)),Y Ag q (srt (CH (us.take k)))] [Ab (Ao Ag) (.slice A1 us.length c2) us]:=H
  refine Ae (V U U (AX (z:=((k+1:Nat):Int)) U U U (by rw [AB (by omega) (by omega)];omega)) (Ad U (Ac ?_)))
  replace H:=H.k1
  replace H:Hd w0 F0 w [Y Ag v15 (srt (CH (us.take (k+1))))] [Ab (Ao Ag) (.slice A1 us.length c2) us]:=by rw [N4 hx8,←YF];exact H
  exact Bj (s:=(k,undef)) (k+1,v15) ⟨rfl,rfl,rfl,rfl,rfl,trivial⟩ ⟨H,by (try dsimp only);omega⟩ (by (try dsimp only);omega)
 refine BH (AR (AR (BI (Z (Aa (Ae (Ah 2 U (Ac (Z (Am (Aq U U ?_)))))))))))
 replace H:Hd w0 F0 w [Y Ag q (srt (CH us))] [Ab (Ao Ag) (.slice A1 us.length c2) us]:=by rw [List.take_of_length_le (show us.length≤k by omega)] at H;exact H
 exact Ak U H
theorem VD (vS vM vC vR vK:Value) (J:AC) (hJ:B5 J) (s:Nat) (hs:s<J.us.length):
    Cn Tryz.prog 124 [.agg #[vS,.int .i64 J.parts,vM,vC,vR,.int .i64 J.chunk,.int .i64 J.window,.int .i64 J.fuel,vK],.int .i64 ((s:Nat):Int)] [] [Ab (Ao Ag) vS J.us,Ab Af vM J.map,Ab Af vC J.comb,Ab Af vR J.red,Ab (Ai .i64) vK J.marks,gl] (fun v Bs=>∃ u,v=.tuple #[u,.int .i64 (mapM dg J s).2]∧Bs=[Y Ag u (mapM dg J s).1]):=by
 intro w0 F0 H
 obtain ⟨A1,c2,rfl,hc3,hm4,hp5⟩:=H.fR 0 rfl
 obtain ⟨A6,c7,rfl,hc8,hm9,hp10⟩:=H.fR 1 rfl
 obtain ⟨A11,c12,rfl,hc13,hm14,hp15⟩:=H.fR 2 rfl
 obtain ⟨A16,c17,rfl,hc18,hm19,hp20⟩:=H.fR 3 rfl
 obtain ⟨A21,c22,rfl,hc23,hm24,hp25⟩:=H.fR 4 rfl
 have hus:=hJ.us
 have hpt:=hJ.parts
 have hfu:=hJ.fuel
 refine enter Tryz.func124 U U (Nat.le_of_ble_eq_true U) (Aa (Ae (Cm U U U U H (fun b26 w H=>(Ah 2 U (Ac (Z ?_)))))))
 replace H:Hd _ _ _ [blk b26 [.slice A1 J.us.length c2,.int .i64 J.parts,.slice A6 J.map.length c7,.slice A11 J.comb.length c12,.slice A16 J.red.length c17,.int .i64 J.chunk,.int .i64 J.window,.int .i64 J.fuel,.slice A21 J.marks.length c22] 26] [Ab (Ao Ag) (.slice A1 J.us.length c2) J.us,Ab Af (.slice A6 J.map.length c7) J.map,Ab Af (.slice A11 J.comb.length c12) J.comb,Ab Af (.slice A16 J.red.length c17) J.red,Ab (Ai .i64) (.slice A21 J.marks.length c22) J.marks,gl]:=H
 refine Aa (Ae (Ad U (Ac (Z (Aa (Aa (Ae (V U U (Aj U Eh U) (V U U (Al U Eo U (H.cellI 0 U U)) (Ad U ?_))))))))))
 obtain ⟨⟨u29,x27⟩,hx28⟩:∃ z9,J.us[s]?=some z9:=⟨_,List.getElem?_eq_getElem (show s<J.us.length by omega)⟩
 obtain ⟨A30,c31,rfl,hc32,hm33⟩:=H.nestR 0 rfl hx28
 have th34:=H.thRd 0 rfl hx28
 refine V U U (A0 (p:=AQ A1+s*1) U F5 U U (by omega) (by omega) th34 U) (V U U (Al U EF U (H.elRd 0 U hx28 U)) (V U U (Bf U C7 U) (Ad U (Ac (Z (AS ?_))))))
 have hrec:=XF hx28
 have hrl:x27.length≤8:=(hJ.split _ (Cc hx28)).1
 replace H:=H.addR (R:=Ab Ag (.slice A30 x27.length c31) x27) fun _ h=>Iz (h _ (List.mem_of_getElem? (i:=0) rfl)) hx28
 replace H:=H.newnil Ag
 refine BQ (σ:=Nat×Value×List An) (fun (i,q,out)=>[(2,.pointer (some ⟨b26,0,none⟩)),(6,q),(15,.slice A30 x27.length c31),(16,.int .i64 ((x27.length:Nat):Int)),(17,.int .i64 ((i:Nat):Int))]) (fun (i,q,out) w=>(Hd w0 F0 w [Y Ag q out,blk b26 [.slice A1 J.us.length c2,.int .i64 J.parts,.slice A6 J.map.length c7,.slice A11 J.comb.length c12,.slice A16 J.red.length c17,.int .i64 J.chunk,.int .i64 J.window,.int .i64 J.fuel,.slice A21 J.marks.length c22] 26] [Ab Ag (.slice A30 x27.length c31) x27,Ab (Ao Ag) (.slice A1 J.us.length c2) J.us,Ab Af (.slice A6 J.map.length c7) J.map,Ab Af (.slice A11 J.comb.length c12) J.comb,Ab Af (.slice A16 J.red.length c17) J.red,Ab (Ai .i64) (.slice A21 J.marks.length c22) J.marks,gl])∧(i≤x27.length)∧(EC dg J.map J.fuel (x27.drop i) out=EC dg J.map J.fuel x27 [])∧(out.length≤40)) (fun (i,q,out)=>x27.length - i) (0,.slice none 0 0,[]) ⟨rfl,rfl,rfl,rfl,rfl,trivial⟩ ⟨H,Nat.zero_le _,rfl,Nat.zero_le _⟩ ?_
 rintro ⟨i,q,out⟩ w ⟨H,hi,hgo,ho⟩
 refine Aa (Ae (V U U (Bd U U U) (Ac (Z (Aa ?_)))))
 refine Aw U (fun h35=>?_) (fun h35=>?_)
 ·refine Ax (Z (Aa (AS (Aa (Ae ?_)))))
  obtain ⟨x36,hx37⟩:∃ z9,x27[i]?=some z9:=⟨_,List.getElem?_eq_getElem (show i<x27.length by omega)⟩
  have th38:=H.thR 0 rfl hx37
  refine V U U (A0 (p:=AQ A30+i*2) U By U U (by omega) (by omega) th38 U) (V U U (Bn (cs:=[.string x36.key,.string x36.val]) U Ca U U (H.elsR 0 U hx37 U)) (Dk U U U C9 H (fun b39 w H=>(BD U U U Ca U U H U (Nat.le_of_ble_eq_true U) (fun u hu=>by simp [Value.cells] at hu;rcases hu with rfl|rfl<;>rfl) (fun w H=>?_)))))
  replace H:Hd _ _ _ [blk b39 [.string x36.key,.string x36.val] 106,Y Ag q out,blk b26 [.slice A1 J.us.length c2,.int .i64 J.parts,.slice A6 J.map.length c7,.slice A11 J.comb.length c12,.slice A16 J.red.length c17,.int .i64 J.chunk,.int .i64 J.window,.int .i64 J.fuel,.slice A21 J.marks.length c22] 26] [Ab Ag (.slice A30 x27.length c31) x27,Ab (Ao Ag) (.slice A1 J.us.length c2) J.us,Ab Af (.slice A6 J.map.length c7) J.map,Ab Af (.slice A11 J.comb.length c12) J.comb,Ab Af (.slice A16 J.red.length c17) J.red,Ab (Ai .i64) (.slice A21 J.marks.length c22) J.marks,gl]:=H
  refine Ac (Z (Aa (Ae (V U U (Aj U Jt U) (V U U (Al U Fq U (H.cellI 2 U U)) (V U U (Aj U EY U) (V U U (Al U BR U (H.cellI 0 U U)) (V U U (Aj U Hz U) (V U U (Al U BR U (H.cellI 0 U U)) (BW (parts:=[(0,.tmp 27)]) (vs:=[.string x36.val]) (cs:=[.string x36.val]) U U U GO Ic U (by decide) (by decide) U U H (fun b40 w H=>(V U U (Aj U Jw U) (V U U (Al U AA U (H.cellI 3 U U)) (sc (Q3 (.slice A6 J.map.length c7) J.map x36.key (.slice (some ⟨b40,0,none⟩) 1 1) [x36.val] J.fuel hJ.map hJ.f64) H (lR 2 U (lA 0 U (fun F h=>Cp h rfl (by decide) (AV.flat_eq.2 U)) (lR 6 U l0))) U U (Au OQ U U) ?_))))))))))))))
  rintro _ _ w ⟨u41,rfl,rfl⟩ H
  replace H:=H.h2 (A:=Y Ag u41 ((Bo dg J.map x36.key [x36.val] J.fuel).1)) (B:=blk b40 [.string x36.val] 9)
  have hrt:=Qz dg J.map x36.key [x36.val] J.fuel
  refine Ah 5 U (Ac (Z (Aa (Aa (Ae (Ad U (V U U (Dq U U U) (Ac (Z ?_)))))))))
  refine Aw U (fun h42=>?_) (fun h42=>?_)
  ·refine Aa (Ae (Ah 3 U (Ac (Z (Am (Ay (AY (Ay (Ay (AY (Ay (B_ U U U ?_))))))))))))
   have e:mapM dg J s=([],(Bo dg J.map x36.key [x36.val] J.fuel).2):=by unfold mapM;rw [hrec];exact hgo.symm.trans (VC hx37 h42)
   replace H:=H.nil|>.newnil Ag|>.dropR
   replace H:Hd _ _ _ [Y Ag (.slice none 0 0) []] [Ab (Ao Ag) (.slice A1 J.us.length c2) J.us,Ab Af (.slice A6 J.map.length c7) J.map,Ab Af (.slice A11 J.comb.length c12) J.comb,Ab Af (.slice A16 J.red.length c17) J.red,Ab (Ai .i64) (.slice A21 J.marks.length c22) J.marks,gl]:=H
   exact Ak ⟨_,by rw [e]<;>rfl,by rw [e]<;>rfl⟩ H
  refine Ax (Z (Aa (Ae (Ah 2 U ?_))))
  replace H:=H.p3
  obtain ⟨A43,c44,rfl,hc45,hm46,hp47⟩:=H.fA 1 rfl
  refine CA (xs:=out) (ys:=(Bo dg J.map x36.key [x36.val] J.fuel).1) U U U By C9 U (by decide) U U H (by first |omega|(rw [List.length_append];omega)) (fun F hA hR=>BE F (hA _ (List.mem_of_getElem? (i:=0) U))) (fun v48 w H=>(Ad U (Ac (Z ?_))))
  replace H:Hd _ _ _ [Y Ag v48 (out++((Bo dg J.map x36.key [x36.val] J.fuel).1)),Y Ag (.slice A43 (((Bo dg J.map x36.key [x36.val] J.fuel).1).length) c44) ((Bo dg J.map x36.key [x36.val] J.fuel).1),blk b40 [.string x36.val] 9,blk b39 [.string x36.key,.string x36.val] 106,blk b26 [.slice A1 J.us.length c2,.int .i64 J.parts,.slice A6 J.map.length c7,.slice A11 J.comb.length c12,.slice A16 J.red.length c17,.int .i64 J.chunk,.int .i64 J.window,.int .i64 J.fuel,.slice A21 J.marks.length c22] 26] [Ab Ag (.slice A30 x27.length c31) x27,Ab (Ao Ag) (.slice A1 J.us.length c2) J.us,Ab Af (.slice A6 J.map.length c7) J.map,Ab Af (.slice A11 J.comb.length c12) J.comb,Ab Af (.slice A16 J.red.length c17) J.red,Ab (Ai .i64) (.slice A21 J.marks.length c22) J.marks,gl]:=H
  refine Aa (Ae (Ad U ?_))
  obtain ⟨A49,c50,rfl,hc51,hm52,hp53⟩:=H.fA 0 rfl
  refine V U U (Bf U C7 U) (V U U (CK U U U) (Ac (Z ?_)))
  refine Aw U (fun h54=>?_) (fun h54=>?_)
  ·refine Aa (Ae (Ah 2 U (Ac (Z (Am (AY (Ay (Ay (AY (Ay (B_ U U U ?_)))))))))))
   have hap:(out++(Bo dg J.map x36.key [x36.val] J.fuel).1).length=out.length+(Bo dg J.map x36.key [x36.val] J.fuel).1.length:=List.length_append
   have e:mapM dg J s=([],5):=by unfold mapM;rw [hrec];exact hgo.symm.trans (Vy hx37 h42 (by omega))
   replace H:=H.nil|>.newnil Ag|>.dropR
   replace H:Hd _ _ _ [Y Ag (.slice none 0 0) []] [Ab (Ao Ag) (.slice A1 J.us.length c2) J.us,Ab Af (.slice A6 J.map.length c7) J.map,Ab Af (.slice A11 J.comb.length c12) J.comb,Ab Af (.slice A16 J.red.length c17) J.red,Ab (Ai .i64) (.slice A21 J.marks.length c22) J.marks,gl]:=H
   exact Ak ⟨_,by rw [e]<;>rfl,by rw [e]<;>rfl⟩ H
  refine Ax (AU (Z (Ae (V U U (AX (z:=((i+1:Nat):Int)) U U U (by rw [AB (by omega) (by omega)];omega)) (Ad U (Ac ?_))))))
  replace H:=H.p4.p1.k2
  have hap:(out++(Bo dg J.map x36.key [x36.val] J.fuel).1).length=out.length+(Bo dg J.map x36.key [x36.val] J.fuel).1.length:=List.length_append
  have hl2:(out++(Bo dg J.map x36.key [x36.val] J.fuel).1).length≤40:=by omega
  have hg2:=(VA (out:=out) hx37 h42 (by omega)).trans hgo
  exact Bj (s:=(i,undef,out)) (i+1,.slice A49 ((out++((Bo dg J.map x36.key [x36.val] J.fuel).1)).length) c50,out++(Bo dg J.map x36.key [x36.val] J.fuel).1) ⟨rfl,rfl,rfl,rfl,rfl,trivial⟩ ⟨H,by (try dsimp only);omega,hg2,hl2⟩ (by (try dsimp only);omega)
 refine BH (AR (AR (BI (Z (Aa (Ae (Ah 3 U (Ac (Z (Am (B_ U U U ?_)))))))))))
 replace H:=H.k1
 have e:mapM dg J s=(out,0):=by unfold mapM;rw [hrec];exact hgo.symm.trans (Vx (by omega))
 replace H:=H.dropR
 replace H:Hd _ _ _ [Y Ag q out] [Ab (Ao Ag) (.slice A1 J.us.length c2) J.us,Ab Af (.slice A6 J.map.length c7) J.map,Ab Af (.slice A11 J.comb.length c12) J.comb,Ab Af (.slice A16 J.red.length c17) J.red,Ab (Ai .i64) (.slice A21 J.marks.length c22) J.marks,gl]:=H
 exact Ak ⟨_,by rw [e]<;>rfl,by rw [e]<;>rfl⟩ H
theorem YE (vS vM vC vR vK:Value) (J:AC) (hJ:B5 J) (s:Nat) (hs:s<J.us.length):
    Cn Tryz.prog 53 [.agg #[vS,.int .i64 J.parts,vM,vC,vR,.int .i64 J.chunk,.int .i64 J.window,.int .i64 J.fuel,vK],.int .i64 ((s:Nat):Int)] [] [Ab (Ao Ag) vS J.us,Ab Af vM J.map,Ab Af vC J.comb,Ab Af vR J.red,Ab (Ai .i64) vK J.marks,gl] (fun v Bs=>∃ u,v=.tuple #[u,.int .i64 (Az dg J s).2]∧Bs=[Y Ag u (Az dg J s).1]):=by
 intro w0 F0 H
 obtain ⟨A1,c2,rfl,hc3,hm4,hp5⟩:=H.fR 0 rfl
 obtain ⟨A6,c7,rfl,hc8,hm9,hp10⟩:=H.fR 1 rfl
 obtain ⟨A11,c12,rfl,hc13,hm14,hp15⟩:=H.fR 2 rfl
 obtain ⟨A16,c17,rfl,hc18,hm19,hp20⟩:=H.fR 3 rfl
 obtain ⟨A21,c22,rfl,hc23,hm24,hp25⟩:=H.fR 4 rfl
 have hus:=hJ.us
 have hpt:=hJ.parts
 have hfu:=hJ.fuel
 refine enter Tryz.func53 U U (Nat.le_of_ble_eq_true U) (Aa (Ae (Cm U U U U H (fun b26 w H=>(Ah 2 U (Ac (Z ?_)))))))
 replace H:Hd _ _ _ [blk b26 [.slice A1 J.us.length c2,.int .i64 J.parts,.slice A6 J.map.length c7,.slice A11 J.comb.length c12,.slice A16 J.red.length c17,.int .i64 J.chunk,.int .i64 J.window,.int .i64 J.fuel,.slice A21 J.marks.length c22] 26] [Ab (Ao Ag) (.slice A1 J.us.length c2) J.us,Ab Af (.slice A6 J.map.length c7) J.map,Ab Af (.slice A11 J.comb.length c12) J.comb,Ab Af (.slice A16 J.red.length c17) J.red,Ab (Ai .i64) (.slice A21 J.marks.length c22) J.marks,gl]:=H
 refine Aa (Aa (Ae (V U U (Bn (cs:=[.slice A1 J.us.length c2,.int .i64 J.parts,.slice A6 J.map.length c7,.slice A11 J.comb.length c12,.slice A16 J.red.length c17,.int .i64 J.chunk,.int .i64 J.window,.int .i64 J.fuel,.slice A21 J.marks.length c22]) U Ku U U (H.cellsI 0 U U)) (sc (OJ (.slice A1 J.us.length c2) (.slice A6 J.map.length c7) (.slice A11 J.comb.length c12) (.slice A16 J.red.length c17) (.slice A21 J.marks.length c22) J) H (lR 0 U (lR 1 U (lR 2 U (lR 3 U (lR 4 U l0))))) U U (Au O_ U U) ?_))))
 rintro _ _ w ⟨rfl,rfl⟩ H
 refine V U U (D7 U U) (Ad U ?_)
 refine AN (d:=11) U (fun h27=>?_) (fun h27=>?_)
 ·exact (h27 hJ.may).elim
 refine Ad U (V U U (Bd U U U) (Ah 2 U ?_))
 refine AN (d:=15) U (fun h28=>?_) (fun h28=>?_)
 ·exfalso;omega
 refine Ad U (V U U (Aj U Eh U) (V U U (Al U Eo U (H.cellI 0 U U)) (V U U (Bf U EP U) (V U U (CJ U U U) (Ad U (Ac (Z ?_)))))))
 refine Aw U (fun h29=>?_) (fun h29=>?_)
 ·exfalso;omega
 refine Ax (Z (Aa (Ae (V U U (Bn (cs:=[.slice A1 J.us.length c2,.int .i64 J.parts,.slice A6 J.map.length c7,.slice A11 J.comb.length c12,.slice A16 J.red.length c17,.int .i64 J.chunk,.int .i64 J.window,.int .i64 J.fuel,.slice A21 J.marks.length c22]) U Ku U U (H.cellsI 0 U U)) (Ad U (sc (VD (.slice A1 J.us.length c2) (.slice A6 J.map.length c7) (.slice A11 J.comb.length c12) (.slice A16 J.red.length c17) (.slice A21 J.marks.length c22) J hJ s (by omega)) H (lR 0 U (lR 1 U (lR 2 U (lR 3 U (lR 4 U (lR 5 U l0)))))) U U (Au T1 U U) ?_))))))
 rintro _ _ w ⟨u30,rfl,rfl⟩ H
 refine Ah 5 U (Ac (Z ?_))
 replace H:Hd _ _ _ [Y Ag u30 ((mapM dg J s).1),blk b26 [.slice A1 J.us.length c2,.int .i64 J.parts,.slice A6 J.map.length c7,.slice A11 J.comb.length c12,.slice A16 J.red.length c17,.int .i64 J.chunk,.int .i64 J.window,.int .i64 J.fuel,.slice A21 J.marks.length c22] 26] [Ab (Ao Ag) (.slice A1 J.us.length c2) J.us,Ab Af (.slice A6 J.map.length c7) J.map,Ab Af (.slice A11 J.comb.length c12) J.comb,Ab Af (.slice A16 J.red.length c17) J.red,Ab (Ai .i64) (.slice A21 J.marks.length c22) J.marks,gl]:=H
 refine Aa (Aa (Ae (Ad U (V U U (Dq U U U) (Ac (Z ?_))))))
 refine Aw U (fun h31=>?_) (fun h31=>?_)
 ·refine Aa (Ae (Ah 3 U (Ac (Z (Am (Ay (B_ U U U ?_)))))))
  have e:Az dg J s=([],(mapM dg J s).2):=if_pos h31
  replace H:=H.nil|>.newnil Ag
  exact Ak ⟨_,by rw [e]<;>rfl,by rw [e]<;>rfl⟩ H
 refine Ax (Z (Aa (Ae (V U U (Aj U Ju U) (V U U (Al U Fq U (H.cellI 1 U U)) (Ad U (V U U (Aj U Jw U) (V U U (Al U AA U (H.cellI 1 U U)) ?_))))))))
 have hml:=Pp dg J s
 refine sc (Tc (.slice A11 J.comb.length c12) J.comb u30 ((mapM dg J s).1) J.fuel hJ.comb hJ.f64 (by omega)) H (lR 2 U (lA 0 U BE (lR 5 U l0))) U U (Au T2 U U) ?_
 rintro _ _ w ⟨u32,rfl,rfl⟩ H
 replace H:=H.h1 (A:=Y Ag u32 ((Fw dg J.comb (mapM dg J s).1 J.fuel).1))
 refine Ah 4 U (Ac (Z (Am (B_ U U U ?_))))
 have e:Az dg J s=Fw dg J.comb (mapM dg J s).1 J.fuel:=if_neg h31
 replace H:=H.k1
 exact Ak ⟨_,by rw [e]<;>rfl,by rw [e]<;>rfl⟩ H
theorem TI (v:Value) (xs:List Int) (x:Int):
    Cn Tryz.prog 184 [v,.int .i64 x] [] [Ab (Ai .i64) v xs] (fun v Bs=>v=.int .i64 (EX (fun y=>decide (x=y)) xs)∧Bs=[]):=by
 intro w0 F0 H
 obtain ⟨A1,c2,rfl,hc3,hm4,hp5⟩:=H.fR 0 rfl
 refine enter Tryz.func184 U U (Nat.le_of_ble_eq_true U) (Aa (Ae (Ad U (Ac (Z ?_)))))
 replace H:Hd _ _ _ [] [Ab (Ai .i64) (.slice A1 xs.length c2) xs]:=H
 refine Aa (Aa (Ae (Ad U (V U U (Bf U E7 U) (Ad U (Ac (Z (AS (BQ (σ:=Nat) (fun k=>[(0,.slice A1 xs.length c2),(1,.int .i64 x),(7,.int .i64 ((xs.length:Nat):Int)),(8,.int .i64 ((k:Nat):Int))]) (fun k w=>(Hd w0 F0 w [] [Ab (Ai .i64) (.slice A1 xs.length c2) xs])∧(k≤xs.length)∧(∀ y∈xs.take k,(fun y=>decide (x=y)) y=false)) (fun k=>xs.length - k) 0 ⟨rfl,rfl,rfl,rfl,trivial⟩ ⟨H,by omega,by simp⟩ ?_)))))))))
 rintro k w ⟨H,hk,hn⟩
 refine Aa (Ae (V U U (Bd U U U) (Ac (Z (Aa ?_)))))
 refine Aw U (fun h6=>?_) (fun h6=>?_)
 ·refine Ax (Z (Aa (AS (Aa (Ae (Ah 2 U (Ac (Z (Aa (Ae (Ah 3 U ?_)))))))))))
  obtain ⟨x7,hx8⟩:∃ z9,xs[k]?=some z9:=⟨_,List.getElem?_eq_getElem (show k<xs.length by omega)⟩
  have th9:=H.thR 0 rfl hx8
  refine V U U (A0 (p:=AQ A1+k*1) U DW U U (by omega) (by omega) th9 U) (V U U (Al U AA U (H.elR 0 U hx8 (q:=0) U U)) (V U U (AW U U U) (Ac (Z ?_))))
  refine Aw U (fun h10=>?_) (fun h10=>?_)
  ·exact Aa (Ae (Ah 2 U (Ac (Z (Am (AY (Ay (Ay (AY (Ay (Aq U U (Ak ⟨by rw [KW (p:=(fun y=>decide (x=y))) hn hx8 (decide_eq_true h10)]<;>rfl,rfl⟩ H))))))))))))
  exact Ax (AU (Z (Ae (V U U (AX (z:=((k+1:Nat):Int)) U U U (by rw [AB (by omega) (by omega)];omega)) (Ad U (Ac (Bj (s:=k) (k+1) ⟨rfl,rfl,rfl,rfl,trivial⟩ ⟨H,by omega,ME (p:=(fun y=>decide (x=y))) hn hx8 (decide_eq_false h10)⟩ (by (try dsimp only);omega))))))))
 refine BH (AR (AR (BI (Z (Aa (Ae (Ad U (Ac (Z (Am (Aq U U ?_)))))))))))
 have hn2:∀ y∈xs,(fun y=>decide (x=y)) y=false:=by rw [←Gq (xs:=xs) (k:=k) (by omega)];exact hn
 exact Ak ⟨by rw [Jk hn2]<;>rfl,rfl⟩ H
theorem Sg (v:Value) (xs:List Int) (x:Int):
    Cn Tryz.prog 136 [v,.int .i64 x] [] [Ab (Ai .i64) v xs] (fun v Bs=>v=.bool (decide (x∈xs))∧Bs=[]):=by
 intro w0 F0 H
 refine enter Tryz.func136 U U (Nat.le_of_ble_eq_true U) (Aa (Ae (Ad U (Ac (Z (Aa (Ae (Ah 2 U (sc (TI v xs x) H (lR 0 U l0) U U (Au Ui U U) ?_)))))))))
 rintro _ _ w ⟨rfl,rfl⟩ H
 refine V U U (CJ U U U) (Ad U (Ac (Z (Am (Aq U U ?_)))))
 have e:decide (0≤EX (fun y=>decide (x=y)) xs)=decide (x∈xs):=by rw [KX];rw [Bool.eq_iff_iff];simp
 exact Ak ⟨congrArg Value.bool e,rfl⟩ H
theorem Pv (r:Nat) (A:Option Addr) (c:Nat) (vM2:Value) (vC2:Value) (vR2:Value) (vK2:Value) (J2:AC) (cw:Int) (ct:Int) (co:Int) (part:Int) (ep:Int) (R:AI) (hv:Nat→Value) (sb:Nat) (vs:Value) (hus6:J2.us.length≤6):
    Cn Tryz.prog 51 [.pointer (some ⟨r,0,none⟩)] [] [blk r (Bq (.slice A J2.us.length c) vM2 vC2 vR2 vK2 J2 cw ct co part ep R.g hv sb vs) 185] (fun v Bs=>Bs=[Y (Ai .i64) v (CT J2.us.length R)]):=by
 intro w0 F0 H
 refine enter Tryz.func51 U U (Nat.le_of_ble_eq_true U) (Aa (Ae (Ad U (Ac (Z (Aa (Aa (Ae (Ad U (V U U (CW U H9 U U) (Ac (Z (B7 U (Ax (Z (Aa (Ae (Ad U (Ac (Z (Aa (Aa (Ae (Ad U (V U U (AF U U) (V U U (Aj U G0 U) (V U U (Aj U CY U) (V U U (Aj U Eh U) (V U U (Al U Eo U (H.cellRI 0 U U)) (V U U (Bf U EP U) (Ad U (Ac (Z (AS ?_))))))))))))))))))))))))))))))))))
 replace H:=H.newnil (Ai .i64)
 refine BQ (σ:=Nat×Value) (fun (k,q)=>[(0,.pointer (some ⟨r,0,none⟩)),(2,.slice none 0 0),(3,q),(13,.int .i64 ((J2.us.length:Nat):Int)),(14,.int .i64 ((k:Nat):Int))]) (fun (k,q) w=>(Hd w0 F0 w [Y (Ai .i64) q (CT k R)] [blk r (Bq (.slice A J2.us.length c) vM2 vC2 vR2 vK2 J2 cw ct co part ep R.g hv sb vs) 185])∧(k≤J2.us.length)) (fun (k,q)=>J2.us.length - k) (0,.slice none 0 0) ⟨rfl,rfl,rfl,rfl,rfl,trivial⟩ ⟨H,Nat.zero_le _⟩ ?_
 rintro ⟨k,q⟩ w ⟨H,hk⟩
 have hml:=Pu k R
 refine Aa (Ae (V U U (Bd U U U) (Ac (Z (Aa ?_)))))
 refine Aw U (fun h1=>?_) (fun h1=>?_)
 ·refine Ax (Z (Aa (AS (Aa (Ae (Ah 2 U (Ac (Z (Aa (Ae (Ah 2 U (V U U (AF U U) (V U U (Aj U Ij U) (V U U (GI (p:=14+k*5) U I4 Ir U U (by omega) (by omega) (by omega)) (V U U (Aj U Jq U) (V U U (Al U E5 U (H.cellRI 0 U (Ml (by omega)))) (Ac (Z ?_))))))))))))))))))
  refine DO (b:=(R.g k).merged) U (fun h2=>?_) (fun h2=>?_)
  ·refine Ae (Ah 2 U (BW (parts:=[(0,.tmp 25)]) (vs:=[.int .i64 ((k:Nat):Int)]) (cs:=[.int .i64 ((k:Nat):Int)]) U U U DW FK U (by decide) (by decide) U U H (fun b3 w H=>?_)))
   replace H:=H.p1
   refine CA (xs:=CT k R) (ys:=[((k:Nat):Int)]) U U U DW FK U (by decide) U U H (by first |omega|(simp only [List.length_append,List.length_cons,List.length_nil];omega)) (fun F hA hR=>Cp (hA _ (List.mem_of_getElem? (i:=0) U)) U (by decide) (AV.flat_eq.2 U)) (fun v4 w H=>(Ad U (Ac (AU (Z ?_)))))
   replace H:Hd _ _ _ [Y (Ai .i64) v4 ((CT k R)++[((k:Nat):Int)]),blk b3 [.int .i64 ((k:Nat):Int)] 3] [blk r (Bq (.slice A J2.us.length c) vM2 vC2 vR2 vK2 J2 cw ct co part ep R.g hv sb vs) 185]:=H
   refine Ae (V U U (AX (z:=((k+1:Nat):Int)) U U U (by rw [AB (by omega) (by omega)];omega)) (Ad U (Ac ?_)))
   replace H:=H.k1
   replace H:Hd w0 F0 w [Y (Ai .i64) v4 (CT (k+1) R)] [blk r (Bq (.slice A J2.us.length c) vM2 vC2 vR2 vK2 J2 cw ct co part ep R.g hv sb vs) 185]:=by rw [Pw,if_pos h2];exact H
   exact Bj (s:=(k,undef)) (k+1,v4) ⟨rfl,rfl,rfl,rfl,rfl,trivial⟩ ⟨H,by (try dsimp only);omega⟩ (by (try dsimp only);omega)
  refine Ax (AU (Z (Ae (V U U (AX (z:=((k+1:Nat):Int)) U U U (by rw [AB (by omega) (by omega)];omega)) (Ad U (Ac ?_))))))
  replace H:Hd w0 F0 w [Y (Ai .i64) q (CT (k+1) R)] [blk r (Bq (.slice A J2.us.length c) vM2 vC2 vR2 vK2 J2 cw ct co part ep R.g hv sb vs) 185]:=by rw [Pw,if_neg (by rw [h2];exact Bool.false_ne_true),List.append_nil];exact H
  exact Bj (s:=(k,undef)) (k+1,q) ⟨rfl,rfl,rfl,rfl,rfl,trivial⟩ ⟨H,by (try dsimp only);omega⟩ (by (try dsimp only);omega)
 refine BH (AR (AR (BI (Z (Aa (Ae (Ah 2 U (Ac (Z (Am (Aq U U ?_)))))))))))
 have hkk:k=J2.us.length:=by omega
 replace H:Hd w0 F0 w [Y (Ai .i64) q (CT J2.us.length R)] [blk r (Bq (.slice A J2.us.length c) vM2 vC2 vR2 vK2 J2 cw ct co part ep R.g hv sb vs) 185]:=by rw [hkk] at H;exact H
 exact Ak U H
theorem YA (vp:Value) (p:List BO) (fuel:Int) (vus:Value) (us:List (Value×List An)) (hpa:∀ i∈p,AP i.a) (hfu:AP fuel) (hb:(CH us).length≤1000000):
    Cn Tryz.prog 180 [vp,.int .i64 fuel,vus] [] [Ab Af vp p,Ab (Ao Ag) vus us,gl] (fun v Bs=>∃ u:Value,v=.tuple #[u,.int .i64 ((Dm dg p (srt (CH us)) fuel false).2)]∧Bs=[Y Ag u ((Dm dg p (srt (CH us)) fuel false).1)]):=by
 intro w0 F0 H
 obtain ⟨A1,c2,rfl,hc3,hm4,hp5⟩:=H.fR 0 rfl
 obtain ⟨A6,c7,rfl,hc8,hm9,hp10⟩:=H.fR 1 rfl
 refine enter Tryz.func180 U U (Nat.le_of_ble_eq_true U) (Aa (Ae (Ah 2 U (Ac (Z ?_)))))
 replace H:Hd _ _ _ [] [Ab Af (.slice A1 p.length c2) p,Ab (Ao Ag) (.slice A6 us.length c7) us,gl]:=H
 refine Aa (Ae (Ah 2 U (sc (X6 (.slice A6 us.length c7) us (by first |omega|decide|exact Nat.le_trans (N3 _ _) (by omega)|exact Nat.le_trans (SY _ _) (by omega)|(simp only [CH,List.flatMap_cons,List.flatMap_nil,List.append_nil,F6];omega))) H (lR 1 U l0) U U (Au T8 U U) ?_)))
 rintro v11 _ w rfl H
 replace H:=H.h1 (A:=Y Ag v11 (srt (CH us)))
 refine Ad U (sc (Td (.slice A1 p.length c2) p v11 (srt (CH us)) fuel (by first |exact hpa|exact Ly|assumption) (by first |assumption|(unfold AP;omega)) (by first |omega|(simp only [F6];omega))) H (lR 0 U (lA 0 U BE (lR 2 U l0))) U U (Au T7 U U) ?_)
 rintro _ _ w ⟨u12,rfl,rfl⟩ H
 replace H:=H.h1 (A:=Y Ag u12 ((Dm dg p (srt (CH us)) fuel false).1))
 refine Ah 4 U (Ac (Z (Am (B_ U U U ?_))))
 replace H:=H.k1
 exact Ak ⟨u12,rfl,rfl⟩ H
theorem Wa (r:Nat) (A:Option Addr) (c:Nat) (vM2:Value) (vC2:Value) (vR2:Value) (vK2:Value) (J2:AC) (cw:Int) (ct:Int) (co:Int) (part:Int) (ep:Int) (R:AI) (hv:Nat→Value) (sb:Nat) (vs:Value) (vset:Value) (set:List Int) (hred:∀ i∈J2.red,AP i.a) (hf64:AP J2.fuel) (hus6:J2.us.length≤6) (hbp:∀ i,(R.g i).pairs.length≤1000):
    Cn Tryz.prog 131 [.pointer (some ⟨r,0,none⟩),vset] [] [blk r (Bq (.slice A J2.us.length c) vM2 vC2 vR2 vK2 J2 cw ct co part ep R.g hv sb vs) 185,BF (R.g) hv,Ab (Ai .i64) vset set,Ab Af vR2 J2.red,gl] (fun v Bs=>∃ u:Value,v=.tuple #[u,.int .i64 ((Dm dg J2.red (srt (E3 J2.us.length R set)) J2.fuel false).2)]∧Bs=[Y Ag u ((Dm dg J2.red (srt (E3 J2.us.length R set)) J2.fuel false).1)]):=by
 intro w0 F0 H
 obtain ⟨A1,c2,rfl,hc3,hm4,hp5⟩:=H.fR 2 rfl
 obtain ⟨A6,c7,rfl,hc8,hm9,hp10⟩:=H.fR 3 rfl
 refine enter Tryz.func131 U U (Nat.le_of_ble_eq_true U) (Aa (Ae (Ah 2 U (Ac (Z ?_)))))
 replace H:Hd _ _ _ [] [blk r (Bq (.slice A J2.us.length c) vM2 vC2 (.slice A6 J2.red.length c7) vK2 J2 cw ct co part ep R.g hv sb vs) 185,BF (R.g) hv,Ab (Ai .i64) (.slice A1 set.length c2) set,Ab Af (.slice A6 J2.red.length c7) J2.red,gl]:=H
 refine Aa (Ae (Ad U (Ac (Z (Aa (Aa (Ae (Ad U (V U U (AF U U) (V U U (Aj U G0 U) (V U U (Aj U CY U) (V U U (Aj U Eh U) (V U U (Al U Eo U (H.cellRI 0 U U)) (V U U (Bf U EP U) (Ad U (Ac (Z (AS ?_))))))))))))))))))
 replace H:=H.newnil Dn|>.h1 (A:=Y Dn (.slice none 0 0) (Bl (DA R.g hv set 0)))
 refine BQ (σ:=Nat×Value) (fun (k,q)=>[(0,.pointer (some ⟨r,0,none⟩)),(1,.slice A1 set.length c2),(4,.slice none 0 0),(5,.int .i64 0),(6,q),(14,.int .i64 ((J2.us.length:Nat):Int)),(15,.int .i64 ((k:Nat):Int))]) (fun (k,q) w=>(Hd w0 F0 w [Y Dn q (Bl (DA R.g hv set k))] [blk r (Bq (.slice A J2.us.length c) vM2 vC2 (.slice A6 J2.red.length c7) vK2 J2 cw ct co part ep R.g hv sb vs) 185,BF (R.g) hv,Ab (Ai .i64) (.slice A1 set.length c2) set,Ab Af (.slice A6 J2.red.length c7) J2.red,gl])∧(k≤J2.us.length)) (fun (k,q)=>J2.us.length - k) (0,.slice none 0 0) ⟨rfl,rfl,rfl,rfl,rfl,rfl,rfl,trivial⟩ ⟨H,Nat.zero_le _⟩ ?_
 rintro ⟨k,q⟩ w ⟨H,hk⟩
 have hpl:=WS R.g hv set k
 have hhl:(Bl (DA R.g hv set k)).length=(DA R.g hv set k).length:=by simp [Bl]
 refine Aa (Ae (V U U (Bd U U U) (Ac (Z (Aa ?_)))))
 refine Aw U (fun h11=>?_) (fun h11=>?_)
 ·refine Ax (Z (Aa (AS (Aa (Ae (Ah 2 U (Ac (Z (Aa (Ae (Ah 2 U (V U U (AF U U) (V U U (Aj U Ij U) (V U U (GI (p:=14+k*5) U I4 Ir U U (by omega) (by omega) (by omega)) (V U U (Aj U Jq U) (V U U (Al U E5 U (H.cellRI 0 U (Ml (by omega)))) (Ad U ?_)))))))))))))))))
  refine GM (d:=25) (b:=(R.g k).merged) U (fun h12=>?_) (fun h12=>?_)
  ·refine Ah 2 U (sc (Sg (.slice A1 set.length c2) set ((k:Nat):Int)) H (lR 2 U l0) U U (Au T6 U U) ?_)
   rintro _ _ w ⟨rfl,rfl⟩ H
   refine Ad U (Ac (Z ?_))
   refine Aw U (fun h13=>?_) (fun h13=>?_)
   ·refine Ae (Ah 3 U (V U U (AF U U) (V U U (Aj U Ij U) (V U U (GI (p:=14+k*5) U I4 Ir U U (by omega) (by omega) (by omega)) (V U U (Aj U N8 U) ?_)))))
    obtain ⟨A14,c15,e16,_,_,_⟩:=H.prsFormR (i:=k) 1 rfl (by omega)
    refine V U U (Al U EF U (H.cellRI 0 U ((XG (by omega)).trans (congrArg some e16)))) (BW (parts:=[(0,.tmp 37)]) (vs:=[.slice A14 ((R.g k).pairs.length) c15]) (cs:=[.slice A14 ((R.g k).pairs.length) c15]) U U U F5 KC U (by decide) (by decide) U U H (fun b17 w H=>?_))
    replace H:=H.p1
    refine CA (xs:=Bl (DA R.g hv set k)) (ys:=[(⟨A14,(R.g k).pairs.length,c15⟩:Er)]) U U U F5 KC U (by decide) U U H (by first |omega|(simp only [List.length_append,List.length_cons,List.length_nil];omega)) (fun F hA hR=>Cp (hA _ (List.mem_of_getElem? (i:=0) U)) U (by decide) (AV.flat_eq.2 U)) (fun v18 w H=>(Ad U (Ac (AU (Z ?_)))))
    replace H:Hd _ _ _ [Y Dn v18 ((Bl (DA R.g hv set k))++[(⟨A14,(R.g k).pairs.length,c15⟩:Er)]),blk b17 [.slice A14 ((R.g k).pairs.length) c15] 35] [blk r (Bq (.slice A J2.us.length c) vM2 vC2 (.slice A6 J2.red.length c7) vK2 J2 cw ct co part ep R.g hv sb vs) 185,BF (R.g) hv,Ab (Ai .i64) (.slice A1 set.length c2) set,Ab Af (.slice A6 J2.red.length c7) J2.red,gl]:=H
    refine Ae (V U U (AX (z:=((k+1:Nat):Int)) U U U (by rw [AB (by omega) (by omega)];omega)) (Ad U (Ac ?_)))
    replace H:=H.k1
    replace H:Hd w0 F0 w [Y Dn v18 (Bl (DA R.g hv set (k+1)))] [blk r (Bq (.slice A J2.us.length c) vM2 vC2 (.slice A6 J2.red.length c7) vK2 J2 cw ct co part ep R.g hv sb vs) 185,BF (R.g) hv,Ab (Ai .i64) (.slice A1 set.length c2) set,Ab Af (.slice A6 J2.red.length c7) J2.red,gl]:=by rw [L_,if_pos ⟨h12,h13⟩,show Bl (DA R.g hv set k++[(hv k,(R.g k).pairs)])=Bl (DA R.g hv set k)++[⟨A14,(R.g k).pairs.length,c15⟩] by simp [Bl,Fg,e16]];exact H
    exact Bj (s:=(k,undef)) (k+1,v18) ⟨rfl,rfl,rfl,rfl,rfl,rfl,rfl,trivial⟩ ⟨H,by (try dsimp only);omega⟩ (by (try dsimp only);omega)
   refine Ax (AU (Z (Ae (V U U (AX (z:=((k+1:Nat):Int)) U U U (by rw [AB (by omega) (by omega)];omega)) (Ad U (Ac ?_))))))
   replace H:Hd w0 F0 w [Y Dn q (Bl (DA R.g hv set (k+1)))] [blk r (Bq (.slice A J2.us.length c) vM2 vC2 (.slice A6 J2.red.length c7) vK2 J2 cw ct co part ep R.g hv sb vs) 185,BF (R.g) hv,Ab (Ai .i64) (.slice A1 set.length c2) set,Ab Af (.slice A6 J2.red.length c7) J2.red,gl]:=by rw [L_,if_neg (fun h=>by first |exact h13 h.2|(rw [h12] at h;cases h.1)),List.append_nil];exact H
   exact Bj (s:=(k,undef)) (k+1,q) ⟨rfl,rfl,rfl,rfl,rfl,rfl,rfl,trivial⟩ ⟨H,by (try dsimp only);omega⟩ (by (try dsimp only);omega)
  refine Ah 4 U (Ac (Z (B7 U (Ax (AU (Z (Ae (V U U (AX (z:=((k+1:Nat):Int)) U U U (by rw [AB (by omega) (by omega)];omega)) (Ad U (Ac ?_))))))))))
  replace H:Hd w0 F0 w [Y Dn q (Bl (DA R.g hv set (k+1)))] [blk r (Bq (.slice A J2.us.length c) vM2 vC2 (.slice A6 J2.red.length c7) vK2 J2 cw ct co part ep R.g hv sb vs) 185,BF (R.g) hv,Ab (Ai .i64) (.slice A1 set.length c2) set,Ab Af (.slice A6 J2.red.length c7) J2.red,gl]:=by rw [L_,if_neg (fun h=>by first |exact h12 h.2|(rw [h12] at h;cases h.1)),List.append_nil];exact H
  exact Bj (s:=(k,undef)) (k+1,q) ⟨rfl,rfl,rfl,rfl,rfl,rfl,rfl,trivial⟩ ⟨H,by (try dsimp only);omega⟩ (by (try dsimp only);omega)
 refine BH (AR (AR (BI (Z (Aa (B1 (.e 0 (.e 1 (.e 2 (.e 3 (.e 4 (.e 5 (.e 6 (.e 7 (.e 8 (.e 9 (.e 10 (.e 11 (.e 12 (.m 13 (.e 14 (.e 15 (.e 16 (.e 17 .z)))))))))))))))))) (fun w=>∃ Ar,Hd w0 F0 w (Ar) [blk r (Bq (.slice A J2.us.length c) vM2 vC2 (.slice A6 J2.red.length c7) vK2 J2 cw ct co part ep R.g hv sb vs) 185,BF (R.g) hv,Ab (Ai .i64) (.slice A1 set.length c2) set,Ab Af (.slice A6 J2.red.length c7) J2.red,gl]) mo (by kernel_rfl) (fun w H=>⟨_,H⟩) H (fun w H=>(At U (Ap U U U (fun w ⟨Ar,H⟩=>AF U U) (Ap U U U (fun w ⟨Ar,H⟩=>Aj U G0 U) (Ap U U U (fun w ⟨Ar,H⟩=>Aj U CY U) (Ap U U U (fun w ⟨Ar,H⟩=>Aj U Jv U) (Ap U U U (fun w ⟨Ar,H⟩=>Al U Fq U (H.cellRI 0 U U)) (At U (Ap U U U (fun w ⟨Ar,H⟩=>AF U U) ?_)))))))))))))))
 refine Ap U U U (fun w ⟨Ar,H⟩=>Aj U G0 U) (Ap U U U (fun w ⟨Ar,H⟩=>Aj U CY U) (Ap U U U (fun w ⟨Ar,H⟩=>Aj U Jw U) (Ap U U U (fun w ⟨Ar,H⟩=>Al U AA U (H.cellRI 0 U U)) (At U (AO U ?_)))))
 have hkk:k=J2.us.length:=by omega
 replace H:Hd w0 F0 w [Y Dn q (Bl (DA R.g hv set J2.us.length))] [blk r (Bq (.slice A J2.us.length c) vM2 vC2 (.slice A6 J2.red.length c7) vK2 J2 cw ct co part ep R.g hv sb vs) 185,BF (R.g) hv,Ab (Ai .i64) (.slice A1 set.length c2) set,Ab Af (.slice A6 J2.red.length c7) J2.red,gl]:=by rw [hkk] at H;exact H
 have hrb:=QA (set:=set) hbp J2.us.length
 have hfl:(CH (DA R.g hv set J2.us.length)).length≤1000000:=by rw [PU];omega
 refine sc (YA (.slice A6 J2.red.length c7) J2.red J2.fuel q (DA R.g hv set J2.us.length) hred hf64 hfl) H (lX (fun F hA hR=>hR _ (List.mem_of_getElem? (i:=3) U)) (lX (fun F hA hR=>Tv (BE F (hA _ (List.mem_of_getElem? (i:=0) U))) (WT hus6 (hR _ (List.mem_of_getElem? (i:=1) U)))) (lR 4 U l0))) U U (Au Uh U U) ?_
 rintro _ _ w ⟨u19,rfl,rfl⟩ H
 rw [PU] at H ⊢
 replace H:Hd _ _ _ [Y Ag u19 ((Dm dg J2.red (srt (E3 J2.us.length R set)) J2.fuel false).1),Y Dn q (Bl (DA R.g hv set J2.us.length))] [blk r (Bq (.slice A J2.us.length c) vM2 vC2 (.slice A6 J2.red.length c7) vK2 J2 cw ct co part ep R.g hv sb vs) 185,BF (R.g) hv,Ab (Ai .i64) (.slice A1 set.length c2) set,Ab Af (.slice A6 J2.red.length c7) J2.red,gl]:=H
 refine AJ ⟨_,H⟩ (At U (At U (At U (At U (BK (Z (Am (B_ U U U ?_))))))))
 replace H:=H.k1
 exact Ak ⟨u19,rfl,rfl⟩ H
theorem Wq (r:Nat) (A:Option Addr) (c:Nat) (vM2:Value) (vC2:Value) (vR2:Value) (vK2:Value) (J2:AC) (cw:Int) (ct:Int) (co:Int) (part:Int) (ep:Int) (R:AI) (hv:Nat→Value) (sb:Nat) (vs:Value) (hred:∀ i∈J2.red,AP i.a) (hf64:AP J2.fuel) (hus6:J2.us.length≤6) (hbp:∀ i,(R.g i).pairs.length≤1000):
    Cn Tryz.prog 60 [.pointer (some ⟨r,0,none⟩)] [] [blk r (Bq (.slice A J2.us.length c) vM2 vC2 vR2 vK2 J2 cw ct co part ep R.g hv sb vs) 185,BF (R.g) hv,Ab Af vR2 J2.red,gl] (fun v Bs=>∃ u:Value,v=.tuple #[u,.int .i64 ((DE dg J2 R).2.1),.bool ((DE dg J2 R).2.2)]∧Bs=[Y Ag u ((DE dg J2 R).1)]):=by
 intro w0 F0 H
 obtain ⟨A1,c2,rfl,hc3,hm4,hp5⟩:=H.fR 2 rfl
 refine enter Tryz.func60 U U (Nat.le_of_ble_eq_true U) (Aa (Ae (Ah 3 U (Ac (Z ?_)))))
 replace H:Hd _ _ _ [] [blk r (Bq (.slice A J2.us.length c) vM2 vC2 (.slice A1 J2.red.length c2) vK2 J2 cw ct co part ep R.g hv sb vs) 185,BF (R.g) hv,Ab Af (.slice A1 J2.red.length c2) J2.red,gl]:=H
 refine Aa (Ae (Ad U (sc (Pv r A c vM2 vC2 (.slice A1 J2.red.length c2) vK2 J2 cw ct co part ep R hv sb vs (by first |assumption|omega)) H (lR 0 U l0) U U (Au O5 U U) ?_)))
 rintro v6 _ w rfl H
 replace H:=H.h1 (A:=Y (Ai .i64) v6 (CT J2.us.length R))
 refine Ad U (Ac (Z (Aa (Aa (Ae (Ad U (V U U (CW U H9 U U) (Ah 2 U ?_))))))))
 obtain ⟨A7,c8,rfl,hc9,hm10,hp11⟩:=H.fA 0 rfl
 refine V U U (Bf U E7 U) (Ad U (V U U (AF U U) (V U U (Aj U G0 U) (V U U (Aj U CY U) (V U U (Aj U Eh U) (V U U (Al U Eo U (H.cellRI 0 U U)) (V U U (Bf U EP U) (V U U (Bd U U U) (Ad U (Ac (Z ?_)))))))))))
 refine Aw U (fun h12=>?_) (fun h12=>?_)
 ·refine Aa (Ae (Ah 3 U (Ac (Z (Am (Ay (FY U U U U ?_)))))))
  have e:DE dg J2 R=([],0,false):=if_pos (by omega)
  replace H:=H.newnil Ag|>.k1
  exact Ak ⟨(.slice none 0 0),by rw [e]<;>rfl,by rw [e]<;>rfl⟩ H
 refine Ax (Z (Aa (Ae (Ah 2 U (sc (Wa r A c vM2 vC2 (.slice A1 J2.red.length c2) vK2 J2 cw ct co part ep R hv sb vs (.slice A7 ((CT J2.us.length R).length) c8) (CT J2.us.length R) (by first |assumption|omega) (by first |assumption|omega) (by first |assumption|omega) (by first |assumption|omega)) H (lR 0 U (lR 1 U (lA 0 U BE (lR 2 U (lR 3 U l0))))) U U (Au T5 U U) ?_)))))
 rintro _ _ w ⟨u13,rfl,rfl⟩ H
 replace H:=H.h1 (A:=Y Ag u13 ((Dm dg J2.red (srt (E3 J2.us.length R (CT J2.us.length R))) J2.fuel false).1))
 refine Ah 5 U (Ac (Z (Aa (Ae (Ah 5 U (Ac (Z (Am (FY U U U U ?_)))))))))
 have e:DE dg J2 R=((Dm dg J2.red (srt (E3 J2.us.length R (CT J2.us.length R))) J2.fuel false).1,(Dm dg J2.red (srt (E3 J2.us.length R (CT J2.us.length R))) J2.fuel false).2,true):=if_neg (by omega)
 replace H:=H.k1
 exact Ak ⟨u13,by rw [e]<;>rfl,by rw [e]<;>rfl⟩ H
end Go.Proofs.YthgehekecfpikaaGreatDoor.X
