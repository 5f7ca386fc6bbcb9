/- WorkerParts: texts K2, M2, M3, W1, M4, XCat, S1, S2, N7, N9, N10, WK1, WK2, M5, joined by a program of ours; what nothing names is left out. -/
import Derived.Test.YthgehekecfpikaaGreatDoorWorkerPartsQ5
set_option linter.unusedVariables false
set_option linter.unusedSimpArgs false
set_option maxHeartbeats 8000000
namespace Go.Proofs.YthgehekecfpikaaGreatDoor.X
open Go
theorem Xa (vps:Value) (ps:List Ap) (hl:ps.length≤1000) (hsz:∀ p∈ps,p.key.size≤100∧p.val.size≤100):
    Cn Tryz.prog 97 [vps] [] [Aa Ag vps ps] (fun v Bs=>v=.string (AZ ps)∧Bs=[]):=by
 intro w0 F0 H
 obtain ⟨A1,c2,rfl,hc3,hm4,hp5⟩:=H.fR 0 rfl
 refine enter Tryz.func97 U U (Nat.le_of_ble_eq_true U) (Ab (Ae (Ad U (Ac (Z ?_)))))
 replace H:Hd _ _ _ [] [Aa Ag (.slice A1 ps.length c2) ps]:=H
 refine Ab (Ae (Ad U (V U U (Bc U Da U) (sc (NK (.slice none 0 0) [] ps.length (by first |assumption|omega|(simp only [List.length_nil];omega)) (by first |assumption|omega|(simp only [List.length_nil];omega))) H (lX (fun F _ _=>Hj _ _ F trivial (by decide)) l0) U U (Au O1 U U) ?_))))
 rintro v6 _ w rfl H
 replace H:=H.h1 (A:=Y B6 v6 ([]++Ce ps.length))
 refine Ad U (Ac (Z (Ab (Ab (Ae (Ad U (V U U (Bc U Da U) (Ad U (Ac (Z (AQ ?_)))))))))))
 replace H:Hd w0 F0 w [Y B6 v6 (Ce ps.length++CH (ps.take 0))] [Aa Ag (.slice A1 ps.length c2) ps]:=by rw [List.take_zero];simpa [CH] using H
 refine BL (σ:=Nat×Value) (fun (i,q)=>[(2,.string ⟨#[]⟩),(3,q),(9,.slice A1 ps.length c2),(10,.int .i64 ((ps.length:Nat):Int)),(11,.int .i64 ((i:Nat):Int))]) (fun (i,q) w=>(Hd w0 F0 w [Y B6 q (Ce ps.length++CH (ps.take i))] [Aa Ag (.slice A1 ps.length c2) ps])∧(i≤ps.length)) (fun (i,q)=>ps.length - i) (0,v6) ⟨rfl,rfl,rfl,rfl,rfl,trivial⟩ ⟨H,Nat.zero_le _⟩ ?_
 rintro ⟨i,q⟩ w ⟨H,hi⟩
 have hpl:=Mh (ps:=ps.take i) (fun p hp=>hsz p (List.mem_of_mem_take hp))
 have hpi:(ps.take i).length≤i:=by rw [List.length_take];omega
 have hbl:(Ce ps.length++CH (ps.take i)).length=8+(CH (ps.take i)).length:=by rw [List.length_append,FG]
 refine Ab (Ae (V U U (Bb U U U) (Ac (Z (Ab ?_)))))
 refine Ax U (fun h7=>?_) (fun h7=>?_)
 ·refine Av (Z (Ab (AQ (Ab (Ae ?_)))))
  obtain ⟨x8,hx9⟩:∃ z9,ps[i]?=some z9:=⟨_,List.getElem?_eq_getElem (show i<ps.length by omega)⟩
  have th10:=H.thR 0 rfl hx9
  refine V U U (AY (p:=AS A1+i*2) U By U U (by omega) (by omega) th10 U) (V U U (Bo (cs:=[.string x8.key,.string x8.val]) U Cc U U (H.elsR 0 U hx9 U)) (Dr U U U Dc H (fun b11 w H=>(BH U U U Cc U U H U (Nat.le_of_ble_eq_true U) (fun u hu=>by simp [Value.cells] at hu;rcases hu with rfl|rfl<;>rfl) (fun w H=>?_)))))
  replace H:=H.h2 (A:=blk b11 [.string x8.key,.string x8.val] 106) (B:=Y B6 q (Ce ps.length++CH (ps.take i)))
  refine Ac (Z ?_)
  have hxs:=hsz _ (Cb hx9)
  have htk:=Ij x8.key
  have hbl2:((Ce ps.length++CH (ps.take i))++Dg x8.key).length=(Ce ps.length++CH (ps.take i)).length+(Dg x8.key).length:=List.length_append
  refine B3 (.e 0 (.e 1 (.e 2 (.e 4 (.e 5 (.m 3 (.m 6 (.e 7 .z)))))))) (fun w=>∃ Ar,Hd w0 F0 w (blk b11 [.string x8.key,.string x8.val] 106::Y B6 q (Ce ps.length++CH (ps.take i))::Ar) [Aa Ag (.slice A1 ps.length c2) ps]) mo (by kernel_rfl) (fun w H=>⟨_,H⟩) H (fun w H=>(At U (Ao U U U (fun w ⟨Ar,H⟩=>Aj U E8 U) (Ao U U U (fun w ⟨Ar,H⟩=>Al U BS U (H.cellI 0 U U)) (Ao U U U (fun w ⟨Ar,H⟩=>Aj U HJ U) (Ao U U U (fun w ⟨Ar,H⟩=>Al U BS U (H.cellI 0 U U)) (AR U (sc (NL q (Ce ps.length++CH (ps.take i)) x8.key (by first |assumption|omega|(simp only [List.length_nil];omega)) (by first |assumption|omega|(simp only [List.length_nil];omega))) H (lA 1 U BI l0) U U (Au O2 U U) ?_))))))))
  rintro v12 _ w rfl H
  replace H:=H.h1 (A:=Y B6 v12 ((Ce ps.length++CH (ps.take i))++Dg x8.key))|>.p2|>.p2
  refine AI ⟨_,H⟩ (AR U (sc (NL v12 ((Ce ps.length++CH (ps.take i))++Dg x8.key) x8.val (by first |assumption|omega|(simp only [List.length_nil];omega)) (by first |assumption|omega|(simp only [List.length_nil];omega))) H (lA 2 U BI l0) U U (Au O2 U U) ?_))
  rintro v13 _ w rfl H
  replace H:=H.h1 (A:=Y B6 v13 (((Ce ps.length++CH (ps.take i))++Dg x8.key)++Dg x8.val))|>.p2|>.p2
  refine AI ⟨_,H⟩ (At U (BM (AT (Z (Ae (V U U (AU (z:=((i+1:Nat):Int)) U U U (by rw [AB (by omega) (by omega)];omega)) (Ad U (Ac ?_))))))))
  replace H:=H.p2.k1
  replace H:Hd w0 F0 w [Y B6 v13 (Ce ps.length++CH (ps.take (i+1)))] [Aa Ag (.slice A1 ps.length c2) ps]:=by rw [Eg hx9,P7,←List.append_assoc,←List.append_assoc];exact H
  exact Bf (s:=(i,undef)) (i+1,v13) ⟨rfl,rfl,rfl,rfl,rfl,trivial⟩ ⟨H,by (try dsimp only);omega⟩ (by (try dsimp only);omega)
 refine BD (AM (AM (BE (Z (Ab (Ae (Ad U ?_)))))))
 obtain ⟨A14,c15,rfl,hc16,hm17,hp18⟩:=H.fA 0 rfl
 refine V U U (H.read fun F hA hR=>Qm U GA Ht CA U U (BI F (hA _ (List.mem_of_getElem? (i:=0) U)))) (Ad U (Ac (Z (An (Aq U U ?_)))))
 replace H:=H.nil
 have e:ps.take i=ps:=List.take_of_length_le (by omega)
 exact Ak ⟨by rw [e];rfl,rfl⟩ H
theorem ZJ (ps:List Ap) (hl:ps.length≤1000) (hsz:∀ p∈ps,p.key.size≤100∧p.val.size≤100):
    Cn Tryz.prog 167 [.string (AZ ps)] [] [] (fun v Bs=>Bs=[Y Ag v ps]):=by
 intro w0 F0 H
 have hps:=W7 hsz hl
 have hbb:(Cv (AZ ps)).length≤300000:=by rw [Gi];exact hps
 have h064:AE (0:Int):=by unfold AE;omega
 refine enter Tryz.func167 U U (Nat.le_of_ble_eq_true U) (Ab (Ae (Ad U (Ac (Z (Ab (Ae (Ad U (YK U U U CA GA Ht U (by omega) H (fun b1 c2 w hc3 hc4 H=>(Ad U (Ac (Z (Ab (Ae (Ad U (sc (Qy (.slice (some ⟨b1,0,none⟩) ((AZ ps).size) c2) (Cv (AZ ps)) 0 (by first |assumption|omega|(simp only [List.length_nil];omega)) (by first |assumption|omega|(simp only [List.length_nil];omega))) H (lR 0 U l0) U U (Au O6 U U) ?_)))))))))))))))))
 rintro _ _ w ⟨rfl,rfl⟩ H
 have hq:Cx (Cv (AZ ps)) 0=(((ps.length:Nat):Int),8,true):=by rw [Mi];exact W9 (by omega)
 rw [hq]
 refine Ah 7 U (Ac (Z ?_))
 replace H:Hd _ _ _ [] [Aa B6 (.slice (some ⟨b1,0,none⟩) ((AZ ps).size) c2) (Cv (AZ ps))]:=H
 refine Ab (Ae (Ad U (Ac (Z (Ab (Ab (Ae (Ah 2 U (Ac (Z (AQ ?_)))))))))))
 replace H:=H.newnil Ag
 replace H:Hd w0 F0 w [Y Ag (.slice none 0 0) (ps.take 0)] [Aa B6 (.slice (some ⟨b1,0,none⟩) ((AZ ps).size) c2) (Cv (AZ ps))]:=by rw [List.take_zero];exact H
 refine BL (σ:=Nat×Value) (fun (i,q)=>[(2,.slice none 0 0),(3,.slice (some ⟨b1,0,none⟩) ((AZ ps).size) c2),(5,.int .i64 ((DN ps i:Nat):Int)),(7,q),(17,.int .i64 ((ps.length:Nat):Int)),(18,.int .i64 ((i:Nat):Int))]) (fun (i,q) w=>(Hd w0 F0 w [Y Ag q (ps.take i)] [Aa B6 (.slice (some ⟨b1,0,none⟩) ((AZ ps).size) c2) (Cv (AZ ps))])∧(i≤ps.length)) (fun (i,q)=>ps.length - i) (0,.slice none 0 0) ⟨rfl,rfl,rfl,rfl,rfl,rfl,trivial⟩ ⟨H,Nat.zero_le _⟩ ?_
 rintro ⟨i,q⟩ w ⟨H,hi⟩
 have htl:(ps.take i).length≤i:=by rw [List.length_take];omega
 refine Ab (Ae (V U U (Bb U U U) (Ac (Z (Ab ?_)))))
 refine Ax U (fun h5=>?_) (fun h5=>?_)
 ·refine Av (Z (Ab (AQ (Ab (Ae (Dr U U U Dc H (fun b6 w H=>?_)))))))
  replace H:=H.h2 (A:=blk b6 [.string ⟨#[]⟩,.string ⟨#[]⟩] 106) (B:=Y Ag q (ps.take i))
  refine Ac (Z (Ab ?_))
  obtain ⟨x7,hx8⟩:∃ z9,ps[i]?=some z9:=⟨_,List.getElem?_eq_getElem (show i<ps.length by omega)⟩
  have hxs:=hsz _ (Cb hx8)
  have hkey:Fb (Cv (AZ ps)) ((DN ps i:Nat):Int)=(x7.key,((DN ps i+8+x7.key.size:Nat):Int),true):=by rw [Mi];exact W8 hx8 (by omega)
  have hval:Fb (Cv (AZ ps)) ((DN ps i+8+x7.key.size:Nat):Int)=(x7.val,((DN ps (i+1):Nat):Int),true):=by rw [Mi];exact W_ hx8 (by omega)
  have hpa:DN ps i≤300000:=W5 hsz hl i
  have hi64:AE ((DN ps i:Nat):Int):=by unfold AE;omega
  have hj64:AE ((DN ps i+8+x7.key.size:Nat):Int):=by unfold AE;omega
  refine Ae (Ah 2 U (sc (Qz (.slice (some ⟨b1,0,none⟩) ((AZ ps).size) c2) (Cv (AZ ps)) ((DN ps i:Nat):Int) (by first |assumption|omega|(simp only [List.length_nil];omega)) (by first |assumption|omega|(simp only [List.length_nil];omega))) H (lR 0 U l0) U U (Au O7 U U) ?_))
  rintro _ _ w ⟨rfl,rfl⟩ H
  rw [hkey]
  refine Ah 4 U (V U U (Aj U E8 U) (BH U U U BS U U H U (Nat.le_of_ble_eq_true U) (fun u hu=>by simp [Value.cells] at hu;subst hu;rfl) (fun w H=>?_)))
  replace H:=H.h1 (A:=blk b6 [.string x7.key,.string ⟨#[]⟩] 106)
  refine Ad U (Ac (Z (Ab (Ae (Ah 2 U (sc (Qz (.slice (some ⟨b1,0,none⟩) ((AZ ps).size) c2) (Cv (AZ ps)) ((DN ps i+8+x7.key.size:Nat):Int) (by first |assumption|omega|(simp only [List.length_nil];omega)) (by first |assumption|omega|(simp only [List.length_nil];omega))) H (lR 0 U l0) U U (Au O7 U U) ?_))))))
  rintro _ _ w ⟨rfl,rfl⟩ H
  rw [hval]
  refine Ah 4 U (V U U (Aj U HJ U) (BH U U U BS U U H U (Nat.le_of_ble_eq_true U) (fun u hu=>by simp [Value.cells] at hu;subst hu;rfl) (fun w H=>?_)))
  replace H:=H.h1 (A:=blk b6 [.string x7.key,.string x7.val] 106)
  refine Ad U (Ac (Z (Ae (Ad U (V U U (Bo (cs:=[.string x7.key,.string x7.val]) U Cc U U (H.cellsI 0 U U)) (BX (parts:=[(0,.tmp 37)]) (vs:=[.agg #[.string x7.key,.string x7.val]]) (cs:=[.string x7.key,.string x7.val]) U U U By Dc U (by decide) (by decide) U U H (fun b9 w H=>?_)))))))
  replace H:=H.p2
  refine Cy (xs:=ps.take i) (ys:=[x7]) U U U By Dc U (by decide) U U H (by first |omega|(simp only [List.length_append,List.length_cons,List.length_nil];omega)) (fun F hA hR=>Cm (hA _ (List.mem_of_getElem? (i:=0) U)) U (by decide) (AV.flat_eq.2 U)) (fun v10 w H=>(Ad U (Ac (AT (Z ?_)))))
  replace H:Hd _ _ _ [Y Ag v10 ((ps.take i)++[x7]),blk b9 [.string x7.key,.string x7.val] 106,blk b6 [.string x7.key,.string x7.val] 106] [Aa B6 (.slice (some ⟨b1,0,none⟩) ((AZ ps).size) c2) (Cv (AZ ps))]:=H
  refine Ae (V U U (AU (z:=((i+1:Nat):Int)) U U U (by rw [AB (by omega) (by omega)];omega)) (Ad U (Ac ?_)))
  replace H:=H.k1
  replace H:Hd w0 F0 w [Y Ag v10 (ps.take (i+1))] [Aa B6 (.slice (some ⟨b1,0,none⟩) ((AZ ps).size) c2) (Cv (AZ ps))]:=by rw [Eg hx8];exact H
  exact Bf (s:=(i,undef)) (i+1,v10) ⟨rfl,rfl,rfl,rfl,rfl,rfl,trivial⟩ ⟨H,by (try dsimp only);omega⟩ (by (try dsimp only);omega)
 refine BD (AM (AM (BE (Z (Ab (Ae (Ah 2 U (Ac (Z (An (Aq U U ?_)))))))))))
 replace H:=H.h1 (A:=Y Ag q (ps.take i))
 replace H:Hd w0 F0 w [Y Ag q ps] [Aa B6 (.slice (some ⟨b1,0,none⟩) ((AZ ps).size) c2) (Cv (AZ ps))]:=by rw [List.take_of_length_le (by omega)] at H;exact H
 replace H:=H.dropR
 replace H:Hd _ _ _ [Y Ag q ps] []:=H
 exact Ak U H
theorem PF (b:Nat) (vS:Value) (vM:Value) (vC:Value) (vR:Value) (vK:Value) (J:AC) (cw:Int) (ct:Int) (co:Int) (s:Nat) (att:Int) (cb:Nat) (fv:Value) (vw:Value):
    Cn Tryz.prog 32 [.pointer (some ⟨b,0,none⟩)] [blk cb [.int .u32 1,.int .i32 0,.int .u32 0,.int .u32 1,fv,.string (AZ (Az dg J s).1)] 234] [blk b [vS,.int .i64 J.parts,vM,vC,vR,.int .i64 J.chunk,.int .i64 J.window,.int .i64 J.fuel,vK,.int .i64 cw,.int .i64 ct,.int .i64 co,.int .i64 ((s:Nat):Int),.int .i64 att,.int .i64 ((Az dg J s).2),.pointer (some ⟨cb,0,none⟩),vw] 164] (fun v Bs=>v=.int .i64 ((Az dg J s).2)∧Bs=[blk cb [.int .u32 1,.int .i32 0,.int .u32 0,.int .u32 1,fv,.string (AZ (Az dg J s).1)] 234]):=by
 intro w0 F0 H
 refine enter Tryz.func32 U U (Nat.le_of_ble_eq_true U) (Ab (Ae (Ad U (Ac (Z (Ab (Ab (Ae (Ad U (V U U (Dn U Hs U U) (Ac (Z (B2 U (Av (Z (Ab (Ae (Ad U (V U U (AH U U) (V U U (Aj U JI U) (V U U (Al U DO U (H.cellRI 0 U U)) (sc (LC cb fv (AZ (Az dg J s).1)) H l0 U U (Au IK U U) ?_))))))))))))))))))))))
 rintro _ _ w ⟨rfl,rfl⟩ H
 refine Ac (Z ?_)
 replace H:Hd _ _ _ [blk cb [.int .u32 1,.int .i32 0,.int .u32 0,.int .u32 1,fv,.string (AZ (Az dg J s).1)] 234] [blk b [vS,.int .i64 J.parts,vM,vC,vR,.int .i64 J.chunk,.int .i64 J.window,.int .i64 J.fuel,vK,.int .i64 cw,.int .i64 ct,.int .i64 co,.int .i64 ((s:Nat):Int),.int .i64 att,.int .i64 ((Az dg J s).2),.pointer (some ⟨cb,0,none⟩),vw] 164]:=H
 exact Ab (Ae (Ad U (V U U (AH U U) (V U U (Aj U Lp U) (V U U (Al U AA U (H.cellRI 0 U U)) (Ad U (Ac (Z (An (Aq U U (Ak ⟨rfl,rfl⟩ H)))))))))))
theorem L3 (b:Nat) (vS:Value) (vM:Value) (vC:Value) (vR:Value) (vK:Value) (J:AC) (cw:Int) (ct:Int) (co:Int) (s:Nat) (att:Int) (cb:Nat) (fv:Value) (vw:Value) (p:Int) (hJ:B8 J):
    Cn Tryz.prog 106 [.pointer (some ⟨b,0,none⟩),.int .i64 p] [blk cb [.int .u32 1,.int .i32 0,.int .u32 0,.int .u32 1,fv,.string (AZ (Az dg J s).1)] 234] [blk b [vS,.int .i64 J.parts,vM,vC,vR,.int .i64 J.chunk,.int .i64 J.window,.int .i64 J.fuel,vK,.int .i64 cw,.int .i64 ct,.int .i64 co,.int .i64 ((s:Nat):Int),.int .i64 att,.int .i64 ((Az dg J s).2),.pointer (some ⟨cb,0,none⟩),vw] 164] (fun v Bs=>Bs=[Y Ag v (Cr dg J s p),blk cb [.int .u32 1,.int .i32 0,.int .u32 0,.int .u32 1,fv,.string (AZ (Az dg J s).1)] 234]):=by
 intro w0 F0 H
 have hlen:(Az dg J s).1.length≤1000:=by have:=Ih dg J s;omega
 have hszs:∀ p∈(Az dg J s).1,p.key.size≤100∧p.val.size≤100:=fun x hx=>by have:=Jc H0 hJ s x hx;unfold C8 at this;omega
 have hsk:∀ x∈(Az dg J s).1,x.key.size≤9223372036854775807:=fun x hx=>by have:=(hszs x hx).1;omega
 have hpt:=hJ.parts
 have hck:=hJ.chunk1
 have hol:=IV dg J s
 refine enter Tryz.func106 U U (Nat.le_of_ble_eq_true U) (Ab (Ae (Ad U (Ac (Z (Ab (B3 (.e 0 (.e 1 (.e 2 (.e 3 (.e 6 (.e 7 (.e 8 (.e 9 (.e 10 (.e 11 (.e 12 (.m 4 (.m 5 (.m 13 (.e 14 .z))))))))))))))) (fun w=>∃ Ar,Hd w0 F0 w (blk cb [.int .u32 1,.int .i32 0,.int .u32 0,.int .u32 1,fv,.string (AZ (Az dg J s).1)] 234::Ar) [blk b [vS,.int .i64 J.parts,vM,vC,vR,.int .i64 J.chunk,.int .i64 J.window,.int .i64 J.fuel,vK,.int .i64 cw,.int .i64 ct,.int .i64 co,.int .i64 ((s:Nat):Int),.int .i64 att,.int .i64 ((Az dg J s).2),.pointer (some ⟨cb,0,none⟩),vw] 164]) mo (by kernel_rfl) (fun w H=>⟨_,H⟩) H (fun w H=>(At U (Ao U U U (fun w ⟨Ar,H⟩=>AH U U) (Ao U U U (fun w ⟨Ar,H⟩=>Aj U JI U) (Ao U U U (fun w ⟨Ar,H⟩=>Al U DO U (H.cellRI 0 U U)) (At U ?_)))))))))))))
 refine Ao U U U (fun w ⟨Ar,H⟩=>AH U U) (Ao U U U (fun w ⟨Ar,H⟩=>Aj U JH U) (Ao U U U (fun w ⟨Ar,H⟩=>Aj U CV U) (Ao U U U (fun w ⟨Ar,H⟩=>Aj U GL U) (Ao U U U (fun w ⟨Ar,H⟩=>Al U AA U (H.cellRI 0 U U)) (At U (AR U (sc (LC cb fv (AZ (Az dg J s).1)) H l0 U U (Au IK U U) ?_)))))))
 rintro _ _ w ⟨rfl,rfl⟩ H
 replace H:Hd _ _ _ [blk cb [.int .u32 1,.int .i32 0,.int .u32 0,.int .u32 1,fv,.string (AZ (Az dg J s).1)] 234] [blk b [vS,.int .i64 J.parts,vM,vC,vR,.int .i64 J.chunk,.int .i64 J.window,.int .i64 J.fuel,vK,.int .i64 cw,.int .i64 ct,.int .i64 co,.int .i64 ((s:Nat):Int),.int .i64 att,.int .i64 ((Az dg J s).2),.pointer (some ⟨cb,0,none⟩),vw] 164]:=H
 refine AI ⟨_,H⟩ (AR U (sc (ZJ ((Az dg J s).1) (by first |assumption|omega|exact hlen|exact hszs) (by first |assumption|omega|exact hlen|exact hszs)) H l0 U U (Au Uw U U) ?_))
 rintro v1 _ w rfl H
 replace H:=H.h1 (A:=Y Ag v1 ((Az dg J s).1))|>.p1
 refine AI ⟨_,H⟩ (AR U (sc (WF v1 ((Az dg J s).1) J.parts p (by first |omega|(rw [Ga];omega)) (by omega) (by assumption)) H (lA 1 U BI l0) U U (Au Ul U U) ?_))
 rintro v2 _ w rfl H
 replace H:=H.h1 (A:=Y Ag v2 (EW ((Az dg J s).1) J.parts p))|>.p1
 refine AI ⟨_,H⟩ (At U (BM (Z (An (Aq U U ?_)))))
 replace H:=H.p1.k2.h1 (A:=Y Ag v2 (Cr dg J s p))
 exact Ak U H
theorem L4 (b:Nat) (vS:Value) (vM:Value) (vC:Value) (vR:Value) (vK:Value) (J:AC) (cw:Int) (ct:Int) (co:Int) (s:Nat) (att:Int) (cb:Nat) (vw:Value) (hJ:B8 J):
    Cn Tryz.prog 107 [.pointer (some ⟨b,0,none⟩)] [] [blk b [vS,.int .i64 J.parts,vM,vC,vR,.int .i64 J.chunk,.int .i64 J.window,.int .i64 J.fuel,vK,.int .i64 cw,.int .i64 ct,.int .i64 co,.int .i64 ((s:Nat):Int),.int .i64 att,.int .i64 ((Az dg J s).2),.pointer (some ⟨cb,0,none⟩),vw] 164] (fun v Bs=>v=.int .i64 (Dk J.chunk att)∧Bs=[]):=by
 intro w0 F0 H
 have hck:=hJ.chunk1
 refine enter Tryz.func107 U U (Nat.le_of_ble_eq_true U) (Ab (Ae (Ad U (Ac (Z (Ab (B3 (.e 0 (.e 1 (.e 2 (.e 3 (.e 4 (.e 5 (.e 6 (.e 7 (.e 8 (.e 9 (.m 10 (.e 11 .z)))))))))))) (fun w=>∃ Ar,Hd w0 F0 w (Ar) [blk b [vS,.int .i64 J.parts,vM,vC,vR,.int .i64 J.chunk,.int .i64 J.window,.int .i64 J.fuel,vK,.int .i64 cw,.int .i64 ct,.int .i64 co,.int .i64 ((s:Nat):Int),.int .i64 att,.int .i64 ((Az dg J s).2),.pointer (some ⟨cb,0,none⟩),vw] 164]) mo (by kernel_rfl) (fun w H=>⟨_,H⟩) H (fun w H=>(At U (Ao U U U (fun w ⟨Ar,H⟩=>AH U U) (Ao U U U (fun w ⟨Ar,H⟩=>Aj U JH U) (Ao U U U (fun w ⟨Ar,H⟩=>Aj U CV U) (Ao U U U (fun w ⟨Ar,H⟩=>Aj U Ol U) (Ao U U U (fun w ⟨Ar,H⟩=>Al U AA U (H.cellRI 0 U U)) (At U (Ao U U U (fun w ⟨Ar,H⟩=>AH U U) ?_))))))))))))))))
 refine Ao U U U (fun w ⟨Ar,H⟩=>Aj U Oe U) (Ao U U U (fun w ⟨Ar,H⟩=>Al U AA U (H.cellRI 0 U U)) (AR U (sc (SE J.chunk att (by first |assumption|omega|exact hlen|exact hszs)) H l0 U U (Au Ux U U) ?_)))
 rintro _ _ w ⟨rfl,rfl⟩ H
 replace H:Hd _ _ _ [] [blk b [vS,.int .i64 J.parts,vM,vC,vR,.int .i64 J.chunk,.int .i64 J.window,.int .i64 J.fuel,vK,.int .i64 cw,.int .i64 ct,.int .i64 co,.int .i64 ((s:Nat):Int),.int .i64 att,.int .i64 ((Az dg J s).2),.pointer (some ⟨cb,0,none⟩),vw] 164]:=H
 exact AI ⟨_,H⟩ (At U (BM (Z (An (Aq U U (Ak ⟨rfl,rfl⟩ H))))))
theorem VG (b:Nat) (vS:Value) (vM:Value) (vC:Value) (vR:Value) (vK:Value) (J:AC) (cw:Int) (ct:Int) (co:Int) (s:Nat) (att:Int) (cb:Nat) (fv:Value) (vw:Value) (hJ:B8 J):
    Cn Tryz.prog 30 [.pointer (some ⟨b,0,none⟩)] [blk cb [.int .u32 1,.int .i32 0,.int .u32 0,.int .u32 1,fv,.string (AZ (Az dg J s).1)] 234] [blk b [vS,.int .i64 J.parts,vM,vC,vR,.int .i64 J.chunk,.int .i64 J.window,.int .i64 J.fuel,vK,.int .i64 cw,.int .i64 ct,.int .i64 co,.int .i64 ((s:Nat):Int),.int .i64 att,.int .i64 ((Az dg J s).2),.pointer (some ⟨cb,0,none⟩),vw] 164] (fun v Bs=>Bs=[Y (Ai .i64) v (Bt dg J s att),blk cb [.int .u32 1,.int .i32 0,.int .u32 0,.int .u32 1,fv,.string (AZ (Az dg J s).1)] 234]):=by
 intro w0 F0 H
 have hlen:(Az dg J s).1.length≤1000:=by have:=Ih dg J s;omega
 have hszs:∀ p∈(Az dg J s).1,p.key.size≤100∧p.val.size≤100:=fun x hx=>by have:=Jc H0 hJ s x hx;unfold C8 at this;omega
 have hsk:∀ x∈(Az dg J s).1,x.key.size≤9223372036854775807:=fun x hx=>by have:=(hszs x hx).1;omega
 have hpt:=hJ.parts
 have hck:=hJ.chunk1
 have hol:=IV dg J s
 refine enter Tryz.func30 U U (Nat.le_of_ble_eq_true U) (Ab (Ae (Ad U (Ac (Z (Ab (Ab (Ae (Ad U (V U U (Dn U Hs U U) (Ah 2 U (sc (PF b vS vM vC vR vK J cw ct co s att cb fv vw) H (lR 0 U l0) U U (Au JY U U) ?_))))))))))))
 rintro _ _ w ⟨rfl,rfl⟩ H
 refine V U U (C9 U U U) (Ad U (Ac (Z ?_)))
 replace H:Hd _ _ _ [blk cb [.int .u32 1,.int .i32 0,.int .u32 0,.int .u32 1,fv,.string (AZ (Az dg J s).1)] 234] [blk b [vS,.int .i64 J.parts,vM,vC,vR,.int .i64 J.chunk,.int .i64 J.window,.int .i64 J.fuel,vK,.int .i64 cw,.int .i64 ct,.int .i64 co,.int .i64 ((s:Nat):Int),.int .i64 att,.int .i64 ((Az dg J s).2),.pointer (some ⟨cb,0,none⟩),vw] 164]:=H
 refine Ax U (fun h1=>?_) (fun h1=>?_)
 ·refine Ab (Ae (Ad U (Ac (Z (An (Ay (Aq U U ?_)))))))
  replace H:=H.newnil (Ai .i64)|>.tellK (ys:=Bt dg J s att) (by rw [NQ h1])|>.h1 (A:=Y (Ai .i64) (.slice none 0 0) (Bt dg J s att))
  exact Ak U H
 refine Av (Z (Ab (Ae (Ad U (Ac (Z (Ab (Ab (Ae (Ad U (V U U (AH U U) (V U U (Aj U JH U) (V U U (Aj U CV U) (V U U (Aj U GL U) (V U U (Al U AA U (H.cellRI 0 U U)) (Ad U (Ac (Z (AQ ?_)))))))))))))))))))
 replace H:=H.newnil (Ai .i64)|>.tellK (ys:=DZ dg J s att 0) (by rfl)
 refine BL (σ:=Nat×Value) (fun (k,q)=>[(0,.pointer (some ⟨b,0,none⟩)),(2,.slice none 0 0),(3,q),(17,.int .i64 J.parts),(18,.int .i64 ((k:Nat):Int))]) (fun (k,q) w=>(Hd w0 F0 w [Y (Ai .i64) q (DZ dg J s att k),blk cb [.int .u32 1,.int .i32 0,.int .u32 0,.int .u32 1,fv,.string (AZ (Az dg J s).1)] 234] [blk b [vS,.int .i64 J.parts,vM,vC,vR,.int .i64 J.chunk,.int .i64 J.window,.int .i64 J.fuel,vK,.int .i64 cw,.int .i64 ct,.int .i64 co,.int .i64 ((s:Nat):Int),.int .i64 att,.int .i64 ((Az dg J s).2),.pointer (some ⟨cb,0,none⟩),vw] 164])∧((k:Int)≤J.parts)) (fun (k,q)=>J.parts.toNat - k) (0,.slice none 0 0) ⟨rfl,rfl,rfl,rfl,rfl,trivial⟩ ⟨H,by omega⟩ ?_
 rintro ⟨k,q⟩ w ⟨H,hk⟩
 have hcl:=NG dg J s att k
 have holk:=hol ((k:Nat):Int)
 refine Ab (Ae (V U U (Bb U U U) (Ac (Z (Ab ?_)))))
 refine Ax U (fun h2=>?_) (fun h2=>?_)
 ·refine Av (Z (Ab (AQ (Ab (Ae (Ah 2 U (Ac (Z (Ae (Ah 3 U ?_))))))))))
  replace H:=H.p1
  replace H:Hd _ _ _ [blk cb [.int .u32 1,.int .i32 0,.int .u32 0,.int .u32 1,fv,.string (AZ (Az dg J s).1)] 234,Y (Ai .i64) q (DZ dg J s att k)] [blk b [vS,.int .i64 J.parts,vM,vC,vR,.int .i64 J.chunk,.int .i64 J.window,.int .i64 J.fuel,vK,.int .i64 cw,.int .i64 ct,.int .i64 co,.int .i64 ((s:Nat):Int),.int .i64 att,.int .i64 ((Az dg J s).2),.pointer (some ⟨cb,0,none⟩),vw] 164]:=H
  refine sc (L3 b vS vM vC vR vK J cw ct co s att cb fv vw ((k:Nat):Int) (by first |assumption|omega|exact hlen|exact hszs)) H (lR 0 U l0) U U (Au LM U U) ?_
  rintro v3 _ w rfl H
  obtain ⟨A4,c5,rfl,hc6,hm7,hp8⟩:=H.fA 0 rfl
  refine V U U (Bc U Da U) (Ad U ?_)
  replace H:Hd _ _ _ [Y Ag (.slice A4 ((Cr dg J s ((k:Nat):Int)).length) c5) (Cr dg J s ((k:Nat):Int)),blk cb [.int .u32 1,.int .i32 0,.int .u32 0,.int .u32 1,fv,.string (AZ (Az dg J s).1)] 234,Y (Ai .i64) q (DZ dg J s att k)] [blk b [vS,.int .i64 J.parts,vM,vC,vR,.int .i64 J.chunk,.int .i64 J.window,.int .i64 J.fuel,vK,.int .i64 cw,.int .i64 ct,.int .i64 co,.int .i64 ((s:Nat):Int),.int .i64 att,.int .i64 ((Az dg J s).2),.pointer (some ⟨cb,0,none⟩),vw] 164]:=H
  refine sc (L4 b vS vM vC vR vK J cw ct co s att cb vw (by first |assumption|omega|exact hlen|exact hszs)) H (lR 0 U l0) U U (Au LN U U) ?_
  rintro _ _ w ⟨rfl,rfl⟩ H
  refine sc (K7 (((Cr dg J s ((k:Nat):Int)).length:Nat):Int) (Dk J.chunk att) (by first |assumption|omega|exact hlen|exact hszs)) H l0 U U (Au LL U U) ?_
  rintro _ _ w ⟨rfl,rfl⟩ H
  refine BX (parts:=[(0,.tmp 28)]) (vs:=[.int .i64 (Dj (((Cr dg J s ((k:Nat):Int)).length:Nat):Int) (Dk J.chunk att))]) (cs:=[.int .i64 (Dj (((Cr dg J s ((k:Nat):Int)).length:Nat):Int) (Dk J.chunk att))]) U U U DI FV U (by decide) (by decide) U U H (fun b9 w H=>?_)
  replace H:=H.p3
  refine Cy (xs:=DZ dg J s att k) (ys:=[Dj (((Cr dg J s ((k:Nat):Int)).length:Nat):Int) (Dk J.chunk att)]) U U U DI FV U (by decide) U U H (by first |omega|(simp only [List.length_append,List.length_cons,List.length_nil];omega)) (fun F hA hR=>Cm (hA _ (List.mem_of_getElem? (i:=0) U)) U (by decide) (AV.flat_eq.2 U)) (fun v10 w H=>(Ad U (Ac (AT (Z ?_)))))
  replace H:Hd _ _ _ [Y (Ai .i64) v10 ((DZ dg J s att k)++[Dj (((Cr dg J s ((k:Nat):Int)).length:Nat):Int) (Dk J.chunk att)]),blk b9 [.int .i64 (Dj (((Cr dg J s ((k:Nat):Int)).length:Nat):Int) (Dk J.chunk att))] 3,Y Ag (.slice A4 ((Cr dg J s ((k:Nat):Int)).length) c5) (Cr dg J s ((k:Nat):Int)),blk cb [.int .u32 1,.int .i32 0,.int .u32 0,.int .u32 1,fv,.string (AZ (Az dg J s).1)] 234] [blk b [vS,.int .i64 J.parts,vM,vC,vR,.int .i64 J.chunk,.int .i64 J.window,.int .i64 J.fuel,vK,.int .i64 cw,.int .i64 ct,.int .i64 co,.int .i64 ((s:Nat):Int),.int .i64 att,.int .i64 ((Az dg J s).2),.pointer (some ⟨cb,0,none⟩),vw] 164]:=H
  refine Ae (V U U (AU (z:=((k+1:Nat):Int)) U U U (by rw [AB (by omega) (by omega)];omega)) (Ad U (Ac ?_)))
  replace H:=H.p3.p1.k2.tellK (ys:=DZ dg J s att (k+1)) (by rw [NH])
  exact Bf (s:=(k,undef)) (k+1,v10) ⟨rfl,rfl,rfl,rfl,rfl,trivial⟩ ⟨H,by (try dsimp only);omega⟩ (by (try dsimp only);omega)
 refine BD (AM (AM (BE (Z (Ab (Ae (Ah 2 U (Ac (Z (An (Aq U U ?_)))))))))))
 have hkk:k=J.parts.toNat:=by omega
 replace H:=H.tellK (ys:=Bt dg J s att) (by rw [NS (Classical.not_not.1 h1),←hkk])
 replace H:Hd _ _ _ [Y (Ai .i64) q (Bt dg J s att),blk cb [.int .u32 1,.int .i32 0,.int .u32 0,.int .u32 1,fv,.string (AZ (Az dg J s).1)] 234] [blk b [vS,.int .i64 J.parts,vM,vC,vR,.int .i64 J.chunk,.int .i64 J.window,.int .i64 J.fuel,vK,.int .i64 cw,.int .i64 ct,.int .i64 co,.int .i64 ((s:Nat):Int),.int .i64 att,.int .i64 ((Az dg J s).2),.pointer (some ⟨cb,0,none⟩),vw] 164]:=H
 exact Ak U H
theorem VE (b:Nat) (vS:Value) (vM:Value) (vC:Value) (vR:Value) (vK:Value) (J:AC) (cw:Int) (ct:Int) (co:Int) (s:Nat) (att:Int) (cb:Nat) (fv:Value) (vw:Value) (p:Int) (q:Int) (hJ:B8 J):
    Cn Tryz.prog 41 [.pointer (some ⟨b,0,none⟩),.int .i64 p,.int .i64 q] [blk cb [.int .u32 1,.int .i32 0,.int .u32 0,.int .u32 1,fv,.string (AZ (Az dg J s).1)] 234] [blk b [vS,.int .i64 J.parts,vM,vC,vR,.int .i64 J.chunk,.int .i64 J.window,.int .i64 J.fuel,vK,.int .i64 cw,.int .i64 ct,.int .i64 co,.int .i64 ((s:Nat):Int),.int .i64 att,.int .i64 ((Az dg J s).2),.pointer (some ⟨cb,0,none⟩),vw] 164] (fun v Bs=>Bs=[Y Ag v (C6 dg J s att p q),blk cb [.int .u32 1,.int .i32 0,.int .u32 0,.int .u32 1,fv,.string (AZ (Az dg J s).1)] 234]):=by
 intro w0 F0 H
 have hlen:(Az dg J s).1.length≤1000:=by have:=Ih dg J s;omega
 have hszs:∀ p∈(Az dg J s).1,p.key.size≤100∧p.val.size≤100:=fun x hx=>by have:=Jc H0 hJ s x hx;unfold C8 at this;omega
 have hsk:∀ x∈(Az dg J s).1,x.key.size≤9223372036854775807:=fun x hx=>by have:=(hszs x hx).1;omega
 have hpt:=hJ.parts
 have hck:=hJ.chunk1
 have hol:=IV dg J s
 have hcs:=SF (att:=att) hck
 have holp:=hol p
 refine enter Tryz.func41 U U (Nat.le_of_ble_eq_true U) (Ab (Ae (Ad U (Ac (Z (Ab (Ab (Ae (Ad U (V U U (Dn U Hs U U) (Ah 2 U (V U U (Bb U U U) (Ad U (Ac (Z ?_)))))))))))))))
 refine Ax U (fun h1=>?_) (fun h1=>?_)
 ·refine Ab (Ae (Ad U (Ac (Z (An (Ay (Aq U U ?_)))))))
  replace H:=H.newnil Ag
  replace H:Hd _ _ _ [Y Ag (.slice none 0 0) [],blk cb [.int .u32 1,.int .i32 0,.int .u32 0,.int .u32 1,fv,.string (AZ (Az dg J s).1)] 234] [blk b [vS,.int .i64 J.parts,vM,vC,vR,.int .i64 J.chunk,.int .i64 J.window,.int .i64 J.fuel,vK,.int .i64 cw,.int .i64 ct,.int .i64 co,.int .i64 ((s:Nat):Int),.int .i64 att,.int .i64 ((Az dg J s).2),.pointer (some ⟨cb,0,none⟩),vw] 164]:=H
  replace H:=H.tellK (ys:=C6 dg J s att p q) (by rw [show C6 dg J s att p q=[] from if_pos h1])|>.h1 (A:=Y Ag (.slice none 0 0) (C6 dg J s att p q))
  exact Ak U H
 refine Av (Z (Ab (Ae (Ah 2 U (sc (L3 b vS vM vC vR vK J cw ct co s att cb fv vw p (by first |assumption|omega|exact hlen|exact hszs)) H (lR 0 U l0) U U (Au LM U U) ?_)))))
 rintro v2 _ w rfl H
 refine Ad U ?_
 replace H:Hd _ _ _ [Y Ag v2 (Cr dg J s p),blk cb [.int .u32 1,.int .i32 0,.int .u32 0,.int .u32 1,fv,.string (AZ (Az dg J s).1)] 234] [blk b [vS,.int .i64 J.parts,vM,vC,vR,.int .i64 J.chunk,.int .i64 J.window,.int .i64 J.fuel,vK,.int .i64 cw,.int .i64 ct,.int .i64 co,.int .i64 ((s:Nat):Int),.int .i64 att,.int .i64 ((Az dg J s).2),.pointer (some ⟨cb,0,none⟩),vw] 164]:=H
 refine sc (L4 b vS vM vC vR vK J cw ct co s att cb vw (by first |assumption|omega|exact hlen|exact hszs)) H (lR 0 U l0) U U (Au LN U U) ?_
 rintro _ _ w ⟨rfl,rfl⟩ H
 refine Ad U (sc (SC v2 (Cr dg J s p) (Dk J.chunk att) q (by first |assumption|omega|exact hlen|exact hszs) (by first |assumption|omega|exact hlen|exact hszs)) H (lA 0 U BI l0) U U (Au Uh U U) ?_)
 rintro v3 _ w rfl H
 replace H:=H.h1 (A:=Y Ag v3 (E5 (Cr dg J s p) (Dk J.chunk att) q))
 refine Ad U (Ac (Z (An (Aq U U ?_))))
 replace H:=H.p2.p1.k2.tellK (ys:=C6 dg J s att p q) (by rw [show C6 dg J s att p q=E5 (Cr dg J s p) (Dk J.chunk att) q from if_neg h1])|>.h1 (A:=Y Ag v3 (C6 dg J s att p q))
 exact Ak U H
theorem TQ {w0 w:World} {F0:AJ} {As Rs:List SP} (H:Hd w0 F0 w As Rs):Hd w0 F0 w (As++[]) Rs:=by rw [List.append_nil];exact H
theorem Wp {w0 w:World} {F0:AJ} {As Rs:List SP} (H:Hd w0 F0 w (As++[]) Rs):Hd w0 F0 w As Rs:=by rw [List.append_nil] at H;exact H
set_option maxRecDepth 100000 in
theorem SM (c pl:Nat) (sm:Value) (md:Int) (fv:Value) (tx tx2:ByteArray) (Xs Ys Rs:List SP)
  (hcl:Cn Tryz.prog 170 [.pointer (some ⟨pl,0,none⟩)] (blk c [.int .u32 0,.int .i32 1,sm,.int .u32 md,fv,.string tx] 234::Xs) Rs (fun v Bs=>v=.tuple #[]∧Bs=blk c [.int .u32 0,.int .i32 1,sm,.int .u32 md,fv,.string tx2] 234::Ys)):
  Cn Tryz.prog 205 [.pointer (some ⟨c,0,none⟩),.func (.func 170) #[] #[.pointer (some ⟨pl,0,none⟩)]] (blk c [.int .u32 0,.int .i32 0,sm,.int .u32 md,fv,.string tx] 234::Xs) Rs (fun v Bs=>v=.tuple #[]∧Bs=blk c [.int .u32 1,.int .i32 0,sm,.int .u32 md,fv,.string tx2] 234::Ys):=by
 intro w F H
 have hnot:∀ (x:Bool) (w:World),(Op.unary .not (.bool x)).run Tryz.prog w=.ok (.bool (!x)) w:=fun _ _=>rfl
 go_enter_defers Tryz.func205,Tryz.ntmps205
 go_wp2_with (first
  |(go_at_call 241;refine (Gk (As:=Xs) (Pw c 0 sm md fv tx) H l0).mono ?_;rintro e w1 ⟨v,rfl,Bs,⟨rfl,rfl⟩,H1⟩)
  |(go_at_call 144;refine (Gk (Cs:=[]) (J0 c 1 sm md fv tx) H1 (lA 0 rfl (fun _ h=>h) l0)).mono ?_;rintro e w2 ⟨v,rfl,Bs,⟨rfl,rfl⟩,H2⟩)
  |(go_at_call 170;refine (Gk (As:=[]) hcl (TQ H2) LY).mono ?_;rintro e w3 ⟨v,rfl,Bs,⟨rfl,rfl⟩,H3n⟩;have H3:=Wp H3n))
 refine leaves_cons (f:=142) (args:=#[.pointer (some ⟨c,0,none⟩),.bool true]) (by simp) (by simp [go_sem]) ?_
 refine (Jw (As:=Ys) (Q4 c 0 1 sm md fv tx2) H3 l0).mono ?_
 rintro e u' w4 ⟨rfl,v,rfl,Bs,⟨rfl,rfl⟩,H4⟩
 refine leaves_cons (f:=242) (args:=#[.pointer (some ⟨c,1,none⟩)]) (by simp [settle]) (by simp [go_sem]) ?_
 refine (Jw (As:=Ys) (Rh c 1 sm md fv tx2) H4 l0).mono ?_
 rintro e u' w5 ⟨rfl,v,rfl,Bs,⟨rfl,rfl⟩,H5⟩
 exact ⟨.tuple #[],by simp [results,Tryz.results205],.tuple #[],rfl,_,⟨rfl,rfl⟩,H5⟩
theorem VN (b ba bb bc cb:Nat) (vS:Value) (vM:Value) (vC:Value) (vR:Value) (vK:Value) (J:AC) (cw ct co:Int) (s:Nat) (att:Int) (hJ:B8 J) (hs:s<J.us.length):
    Cn Tryz.prog 96 [.pointer (some ⟨ba,0,none⟩),.pointer (some ⟨bb,0,none⟩),.pointer (some ⟨bc,0,none⟩)] [blk b [vS,.int .i64 J.parts,vM,vC,vR,.int .i64 J.chunk,.int .i64 J.window,.int .i64 J.fuel,vK,.int .i64 cw,.int .i64 ct,.int .i64 co,.int .i64 ((s:Nat):Int),.int .i64 att,.int .i64 0,.pointer (some ⟨cb,0,none⟩),.slice none 0 0] 164] [blk ba [vS,.int .i64 J.parts,vM,vC,vR,.int .i64 J.chunk,.int .i64 J.window,.int .i64 J.fuel,vK,.int .i64 cw,.int .i64 ct,.int .i64 co] 28,blk bb [.int .i64 ((s:Nat):Int)] 3,blk bc [.pointer (some ⟨b,0,none⟩)] 44,Aa (Am Ag) vS J.us,Aa Af vM J.map,Aa Af vC J.comb,Aa Af vR J.red,Aa (Ai .i64) vK J.marks,gl] (fun v Bs=>v=.string (AZ (Az dg J s).1)∧Bs=[blk b [vS,.int .i64 J.parts,vM,vC,vR,.int .i64 J.chunk,.int .i64 J.window,.int .i64 J.fuel,vK,.int .i64 cw,.int .i64 ct,.int .i64 co,.int .i64 ((s:Nat):Int),.int .i64 att,.int .i64 ((Az dg J s).2),.pointer (some ⟨cb,0,none⟩),.slice none 0 0] 164]):=by
 intro w0 F0 H
 have hlen:(Az dg J s).1.length≤1000:=by have:=Ih dg J s;omega
 have hszs:∀ p∈(Az dg J s).1,p.key.size≤100∧p.val.size≤100:=fun x hx=>by have:=Jc H0 hJ s x hx;unfold C8 at this;omega
 refine enter Tryz.func96 U U (Nat.le_of_ble_eq_true U) (Ab (Ae (Ad U (Ac (Z (Ab (Ae (V U U (Aj U CV U) (V U U (Bo (cs:=[vS,.int .i64 J.parts,vM,vC,vR,.int .i64 J.chunk,.int .i64 J.window,.int .i64 J.fuel,vK]) U Jk U U (H.cellsRI 0 U U)) (V U U (Al U AA U (H.cellRI 1 U U)) (sc (Y0 vS vM vC vR vK J hJ s (by first |assumption|omega|exact hlen|exact hszs)) H (lR 3 U (lR 4 U (lR 5 U (lR 6 U (lR 7 U (lR 8 U l0)))))) U U (Au Vg U U) ?_)))))))))))
 rintro _ _ w ⟨u1,rfl,rfl⟩ H
 refine Ah 5 U (Ac (Z ?_))
 replace H:Hd _ _ _ [Y Ag u1 ((Az dg J s).1),blk b [vS,.int .i64 J.parts,vM,vC,vR,.int .i64 J.chunk,.int .i64 J.window,.int .i64 J.fuel,vK,.int .i64 cw,.int .i64 ct,.int .i64 co,.int .i64 ((s:Nat):Int),.int .i64 att,.int .i64 0,.pointer (some ⟨cb,0,none⟩),.slice none 0 0] 164] [blk ba [vS,.int .i64 J.parts,vM,vC,vR,.int .i64 J.chunk,.int .i64 J.window,.int .i64 J.fuel,vK,.int .i64 cw,.int .i64 ct,.int .i64 co] 28,blk bb [.int .i64 ((s:Nat):Int)] 3,blk bc [.pointer (some ⟨b,0,none⟩)] 44,Aa (Am Ag) vS J.us,Aa Af vM J.map,Aa Af vC J.comb,Aa Af vR J.red,Aa (Ai .i64) vK J.marks,gl]:=H
 refine Ab (Ae (V U U (Al U FC U (H.cellRI 2 U U)) (Ad U (V U U (AH U U) (V U U (Aj U Lp U) ?_)))))
 replace H:=H.p1
 refine BH U U U AA U U H U (Nat.le_of_ble_eq_true U) (fun u hu=>by simp [Value.cells] at hu;subst hu;rfl) (fun w H=>?_)
 replace H:=H.h1 (A:=blk b [vS,.int .i64 J.parts,vM,vC,vR,.int .i64 J.chunk,.int .i64 J.window,.int .i64 J.fuel,vK,.int .i64 cw,.int .i64 ct,.int .i64 co,.int .i64 ((s:Nat):Int),.int .i64 att,.int .i64 ((Az dg J s).2),.pointer (some ⟨cb,0,none⟩),.slice none 0 0] 164)
 refine Ac (Z (Ab (Ae (Ad U (sc (Xa u1 ((Az dg J s).1) (by first |assumption|omega|exact hlen|exact hszs) (by first |assumption|omega|exact hlen|exact hszs)) H (lA 1 U BI l0) U U (Au Vq U U) ?_)))))
 rintro _ _ w ⟨rfl,rfl⟩ H
 refine Ad U (Ac (Z (An (Aq U U ?_))))
 replace H:=H.k1
 exact Ak ⟨rfl,rfl⟩ H
theorem VJ (b ba bb bc cb:Nat) (vS:Value) (vM:Value) (vC:Value) (vR:Value) (vK:Value) (J:AC) (cw ct co:Int) (s:Nat) (att:Int) (hJ:B8 J) (hs:s<J.us.length) (pl:Nat) (sm:Value) (md:Int) (tx:ByteArray):
    Cn Tryz.prog 170 [.pointer (some ⟨pl,0,none⟩)] [blk cb [.int .u32 0,.int .i32 1,sm,.int .u32 md,.func (.func 96) #[] #[.pointer (some ⟨ba,0,none⟩),.pointer (some ⟨bb,0,none⟩),.pointer (some ⟨bc,0,none⟩)],.string tx] 234,blk b [vS,.int .i64 J.parts,vM,vC,vR,.int .i64 J.chunk,.int .i64 J.window,.int .i64 J.fuel,vK,.int .i64 cw,.int .i64 ct,.int .i64 co,.int .i64 ((s:Nat):Int),.int .i64 att,.int .i64 0,.pointer (some ⟨cb,0,none⟩),.slice none 0 0] 164] [blk pl [.pointer (some ⟨cb,0,none⟩)] 161,blk ba [vS,.int .i64 J.parts,vM,vC,vR,.int .i64 J.chunk,.int .i64 J.window,.int .i64 J.fuel,vK,.int .i64 cw,.int .i64 ct,.int .i64 co] 28,blk bb [.int .i64 ((s:Nat):Int)] 3,blk bc [.pointer (some ⟨b,0,none⟩)] 44,Aa (Am Ag) vS J.us,Aa Af vM J.map,Aa Af vC J.comb,Aa Af vR J.red,Aa (Ai .i64) vK J.marks,gl] (fun v Bs=>v=.tuple #[]∧Bs=[blk cb [.int .u32 0,.int .i32 1,sm,.int .u32 md,.func (.func 96) #[] #[.pointer (some ⟨ba,0,none⟩),.pointer (some ⟨bb,0,none⟩),.pointer (some ⟨bc,0,none⟩)],.string (AZ (Az dg J s).1)] 234,blk b [vS,.int .i64 J.parts,vM,vC,vR,.int .i64 J.chunk,.int .i64 J.window,.int .i64 J.fuel,vK,.int .i64 cw,.int .i64 ct,.int .i64 co,.int .i64 ((s:Nat):Int),.int .i64 att,.int .i64 ((Az dg J s).2),.pointer (some ⟨cb,0,none⟩),.slice none 0 0] 164]):=by
 intro w0 F0 H
 refine enter Tryz.func170 U U (Nat.le_of_ble_eq_true U) (Ab (Ae (V U U (Al U DO U (H.cellRI 0 U U)) (V U U (AH U U) (V U U (Aj U JO U) (V U U (Al U KG U (H.cellI 0 U U)) (V U U (Qp U Rb U U) (Ac (Z (CG U (B3 (.e 0 (.e 1 (.e 2 (.e 3 (.m 4 (.m 5 (.e 6 (.e 7 (.m 8 .z))))))))) (fun w=>∃ Ar,Hd w0 F0 w (Ar) [blk pl [.pointer (some ⟨cb,0,none⟩)] 161,blk ba [vS,.int .i64 J.parts,vM,vC,vR,.int .i64 J.chunk,.int .i64 J.window,.int .i64 J.fuel,vK,.int .i64 cw,.int .i64 ct,.int .i64 co] 28,blk bb [.int .i64 ((s:Nat):Int)] 3,blk bc [.pointer (some ⟨b,0,none⟩)] 44,Aa (Am Ag) vS J.us,Aa Af vM J.map,Aa Af vC J.comb,Aa Af vR J.red,Aa (Ai .i64) vK J.marks,gl]) mo (by kernel_rfl) (fun w H=>⟨_,H⟩) H (fun w H=>(Ao U U U (fun w ⟨Ar,H⟩=>Al U DO U (H.cellRI 0 U U)) ?_)))))))))))))
 refine Ao U U U (fun w ⟨Ar,H⟩=>Al U DO U (H.cellRI 0 U U)) (Ao U U U (fun w ⟨Ar,H⟩=>AH U U) (Ao U U U (fun w ⟨Ar,H⟩=>Aj U JO U) (AR U (V U U (Al U KG U (H.cellI 0 U U)) (AI ⟨_,H⟩ (AR U ?_))))))
 replace H:=H.p1
 replace H:Hd _ _ _ [blk b [vS,.int .i64 J.parts,vM,vC,vR,.int .i64 J.chunk,.int .i64 J.window,.int .i64 J.fuel,vK,.int .i64 cw,.int .i64 ct,.int .i64 co,.int .i64 ((s:Nat):Int),.int .i64 att,.int .i64 0,.pointer (some ⟨cb,0,none⟩),.slice none 0 0] 164,blk cb [.int .u32 0,.int .i32 1,sm,.int .u32 md,.func (.func 96) #[] #[.pointer (some ⟨ba,0,none⟩),.pointer (some ⟨bb,0,none⟩),.pointer (some ⟨bc,0,none⟩)],.string tx] 234] [blk pl [.pointer (some ⟨cb,0,none⟩)] 161,blk ba [vS,.int .i64 J.parts,vM,vC,vR,.int .i64 J.chunk,.int .i64 J.window,.int .i64 J.fuel,vK,.int .i64 cw,.int .i64 ct,.int .i64 co] 28,blk bb [.int .i64 ((s:Nat):Int)] 3,blk bc [.pointer (some ⟨b,0,none⟩)] 44,Aa (Am Ag) vS J.us,Aa Af vM J.map,Aa Af vC J.comb,Aa Af vR J.red,Aa (Ai .i64) vK J.marks,gl]:=H
 refine sc (VN b ba bb bc cb vS vM vC vR vK J cw ct co s att hJ hs) H (lR 1 U (lR 2 U (lR 3 U (lR 4 U (lR 5 U (lR 6 U (lR 7 U (lR 8 U (lR 9 U l0))))))))) U U (FX (vs:=[]) (fs:=#[]) (cs:=#[.pointer (some ⟨ba,0,none⟩),.pointer (some ⟨bb,0,none⟩),.pointer (some ⟨bc,0,none⟩)]) Vp U U U) ?_
 rintro _ _ w ⟨rfl,rfl⟩ H
 replace H:=H.h1 (A:=blk b [vS,.int .i64 J.parts,vM,vC,vR,.int .i64 J.chunk,.int .i64 J.window,.int .i64 J.fuel,vK,.int .i64 cw,.int .i64 ct,.int .i64 co,.int .i64 ((s:Nat):Int),.int .i64 att,.int .i64 ((Az dg J s).2),.pointer (some ⟨cb,0,none⟩),.slice none 0 0] 164)
 refine AI ⟨_,H⟩ (Ao U U U (fun w ⟨Ar,H⟩=>AH U U) (Ao U U U (fun w ⟨Ar,H⟩=>Aj U ID U) (AR U ?_)))
 replace H:=H.p1
 refine BH U U U BS U U H U (Nat.le_of_ble_eq_true U) (fun u hu=>by simp [Value.cells] at hu;subst hu;rfl) (fun w H=>?_)
 replace H:=H.h1 (A:=blk cb [.int .u32 0,.int .i32 1,sm,.int .u32 md,.func (.func 96) #[] #[.pointer (some ⟨ba,0,none⟩),.pointer (some ⟨bb,0,none⟩),.pointer (some ⟨bc,0,none⟩)],.string (AZ (Az dg J s).1)] 234)
 exact AI ⟨_,H⟩ (BM (DB U (Ak ⟨rfl,rfl⟩ H)))
theorem VH (b ba bb bc cb:Nat) (vS:Value) (vM:Value) (vC:Value) (vR:Value) (vK:Value) (J:AC) (cw ct co:Int) (s:Nat) (att:Int) (hJ:B8 J) (hs:s<J.us.length) (pl:Nat) (sm:Value) (md:Int) (tx:ByteArray):
    Cn Tryz.prog 169 [.pointer (some ⟨cb,0,none⟩),.func (.func 170) #[] #[.pointer (some ⟨pl,0,none⟩)]] [blk cb [.int .u32 0,.int .i32 0,sm,.int .u32 md,.func (.func 96) #[] #[.pointer (some ⟨ba,0,none⟩),.pointer (some ⟨bb,0,none⟩),.pointer (some ⟨bc,0,none⟩)],.string tx] 234,blk b [vS,.int .i64 J.parts,vM,vC,vR,.int .i64 J.chunk,.int .i64 J.window,.int .i64 J.fuel,vK,.int .i64 cw,.int .i64 ct,.int .i64 co,.int .i64 ((s:Nat):Int),.int .i64 att,.int .i64 0,.pointer (some ⟨cb,0,none⟩),.slice none 0 0] 164] [blk pl [.pointer (some ⟨cb,0,none⟩)] 161,blk ba [vS,.int .i64 J.parts,vM,vC,vR,.int .i64 J.chunk,.int .i64 J.window,.int .i64 J.fuel,vK,.int .i64 cw,.int .i64 ct,.int .i64 co] 28,blk bb [.int .i64 ((s:Nat):Int)] 3,blk bc [.pointer (some ⟨b,0,none⟩)] 44,Aa (Am Ag) vS J.us,Aa Af vM J.map,Aa Af vC J.comb,Aa Af vR J.red,Aa (Ai .i64) vK J.marks,gl] (fun v Bs=>v=.tuple #[]∧Bs=[blk cb [.int .u32 1,.int .i32 0,sm,.int .u32 md,.func (.func 96) #[] #[.pointer (some ⟨ba,0,none⟩),.pointer (some ⟨bb,0,none⟩),.pointer (some ⟨bc,0,none⟩)],.string (AZ (Az dg J s).1)] 234,blk b [vS,.int .i64 J.parts,vM,vC,vR,.int .i64 J.chunk,.int .i64 J.window,.int .i64 J.fuel,vK,.int .i64 cw,.int .i64 ct,.int .i64 co,.int .i64 ((s:Nat):Int),.int .i64 att,.int .i64 ((Az dg J s).2),.pointer (some ⟨cb,0,none⟩),.slice none 0 0] 164]):=by
 intro w0 F0 H
 refine enter Tryz.func169 U U (Nat.le_of_ble_eq_true U) (Ab (Ae (Ad U (V U U (AH U U) (V U U (Aj U Lt U) (sc (J0 cb 0 sm md (.func (.func 96) #[] #[.pointer (some ⟨ba,0,none⟩),.pointer (some ⟨bb,0,none⟩),.pointer (some ⟨bc,0,none⟩)]) tx) H (lA 0 U (fun _ h=>h) l0) U U (Au JW U U) ?_))))))
 rintro _ _ w ⟨rfl,rfl⟩ H
 refine V U U (FP U U U) (Ac (Z (CG U (Ae (Ah 2 U (sc (SM cb pl sm md (.func (.func 96) #[] #[.pointer (some ⟨ba,0,none⟩),.pointer (some ⟨bb,0,none⟩),.pointer (some ⟨bc,0,none⟩)]) tx (AZ (Az dg J s).1) [blk b [vS,.int .i64 J.parts,vM,vC,vR,.int .i64 J.chunk,.int .i64 J.window,.int .i64 J.fuel,vK,.int .i64 cw,.int .i64 ct,.int .i64 co,.int .i64 ((s:Nat):Int),.int .i64 att,.int .i64 0,.pointer (some ⟨cb,0,none⟩),.slice none 0 0] 164] [blk b [vS,.int .i64 J.parts,vM,vC,vR,.int .i64 J.chunk,.int .i64 J.window,.int .i64 J.fuel,vK,.int .i64 cw,.int .i64 ct,.int .i64 co,.int .i64 ((s:Nat):Int),.int .i64 att,.int .i64 ((Az dg J s).2),.pointer (some ⟨cb,0,none⟩),.slice none 0 0] 164] [blk pl [.pointer (some ⟨cb,0,none⟩)] 161,blk ba [vS,.int .i64 J.parts,vM,vC,vR,.int .i64 J.chunk,.int .i64 J.window,.int .i64 J.fuel,vK,.int .i64 cw,.int .i64 ct,.int .i64 co] 28,blk bb [.int .i64 ((s:Nat):Int)] 3,blk bc [.pointer (some ⟨b,0,none⟩)] 44,Aa (Am Ag) vS J.us,Aa Af vM J.map,Aa Af vC J.comb,Aa Af vR J.red,Aa (Ai .i64) vK J.marks,gl] (VJ b ba bb bc cb vS vM vC vR vK J cw ct co s att hJ hs pl sm md tx)) H (lR 0 U (lR 1 U (lR 2 U (lR 3 U (lR 4 U (lR 5 U (lR 6 U (lR 7 U (lR 8 U (lR 9 U l0)))))))))) U U (Au O8 U U) ?_))))))
 rintro _ _ w ⟨rfl,rfl⟩ H
 refine Ac (DB U ?_)
 replace H:Hd _ _ _ [blk cb [.int .u32 1,.int .i32 0,sm,.int .u32 md,.func (.func 96) #[] #[.pointer (some ⟨ba,0,none⟩),.pointer (some ⟨bb,0,none⟩),.pointer (some ⟨bc,0,none⟩)],.string (AZ (Az dg J s).1)] 234,blk b [vS,.int .i64 J.parts,vM,vC,vR,.int .i64 J.chunk,.int .i64 J.window,.int .i64 J.fuel,vK,.int .i64 cw,.int .i64 ct,.int .i64 co,.int .i64 ((s:Nat):Int),.int .i64 att,.int .i64 ((Az dg J s).2),.pointer (some ⟨cb,0,none⟩),.slice none 0 0] 164] [blk pl [.pointer (some ⟨cb,0,none⟩)] 161,blk ba [vS,.int .i64 J.parts,vM,vC,vR,.int .i64 J.chunk,.int .i64 J.window,.int .i64 J.fuel,vK,.int .i64 cw,.int .i64 ct,.int .i64 co] 28,blk bb [.int .i64 ((s:Nat):Int)] 3,blk bc [.pointer (some ⟨b,0,none⟩)] 44,Aa (Am Ag) vS J.us,Aa Af vM J.map,Aa Af vC J.comb,Aa Af vR J.red,Aa (Ai .i64) vK J.marks,gl]:=H
 exact Ak ⟨rfl,rfl⟩ H
theorem VI (b ba bb bc cb:Nat) (vS:Value) (vM:Value) (vC:Value) (vR:Value) (vK:Value) (J:AC) (cw ct co:Int) (s:Nat) (att:Int) (hJ:B8 J) (hs:s<J.us.length):
    Cn Tryz.prog 109 [.pointer (some ⟨cb,0,none⟩)] [blk cb [.int .u32 0,.int .i32 0,.int .u32 0,.int .u32 0,.func (.func 96) #[] #[.pointer (some ⟨ba,0,none⟩),.pointer (some ⟨bb,0,none⟩),.pointer (some ⟨bc,0,none⟩)],.string ⟨#[]⟩] 234,blk b [vS,.int .i64 J.parts,vM,vC,vR,.int .i64 J.chunk,.int .i64 J.window,.int .i64 J.fuel,vK,.int .i64 cw,.int .i64 ct,.int .i64 co,.int .i64 ((s:Nat):Int),.int .i64 att,.int .i64 0,.pointer (some ⟨cb,0,none⟩),.slice none 0 0] 164] [blk ba [vS,.int .i64 J.parts,vM,vC,vR,.int .i64 J.chunk,.int .i64 J.window,.int .i64 J.fuel,vK,.int .i64 cw,.int .i64 ct,.int .i64 co] 28,blk bb [.int .i64 ((s:Nat):Int)] 3,blk bc [.pointer (some ⟨b,0,none⟩)] 44,Aa (Am Ag) vS J.us,Aa Af vM J.map,Aa Af vC J.comb,Aa Af vR J.red,Aa (Ai .i64) vK J.marks,gl] (fun v Bs=>v=.string (AZ (Az dg J s).1)∧Bs=[blk cb [.int .u32 1,.int .i32 0,.int .u32 0,.int .u32 1,.func (.func 96) #[] #[.pointer (some ⟨ba,0,none⟩),.pointer (some ⟨bb,0,none⟩),.pointer (some ⟨bc,0,none⟩)],.string (AZ (Az dg J s).1)] 234,blk b [vS,.int .i64 J.parts,vM,vC,vR,.int .i64 J.chunk,.int .i64 J.window,.int .i64 J.fuel,vK,.int .i64 cw,.int .i64 ct,.int .i64 co,.int .i64 ((s:Nat):Int),.int .i64 att,.int .i64 ((Az dg J s).2),.pointer (some ⟨cb,0,none⟩),.slice none 0 0] 164]):=by
 intro w0 F0 H
 refine enter Tryz.func109 U U (Nat.le_of_ble_eq_true U) (Ab (Ae (Ct U U U U H (fun b1 w H=>(Ad U (Ac (Z ?_)))))))
 replace H:Hd _ _ _ [blk b1 [.pointer (some ⟨cb,0,none⟩)] 161,blk cb [.int .u32 0,.int .i32 0,.int .u32 0,.int .u32 0,.func (.func 96) #[] #[.pointer (some ⟨ba,0,none⟩),.pointer (some ⟨bb,0,none⟩),.pointer (some ⟨bc,0,none⟩)],.string ⟨#[]⟩] 234,blk b [vS,.int .i64 J.parts,vM,vC,vR,.int .i64 J.chunk,.int .i64 J.window,.int .i64 J.fuel,vK,.int .i64 cw,.int .i64 ct,.int .i64 co,.int .i64 ((s:Nat):Int),.int .i64 att,.int .i64 0,.pointer (some ⟨cb,0,none⟩),.slice none 0 0] 164] [blk ba [vS,.int .i64 J.parts,vM,vC,vR,.int .i64 J.chunk,.int .i64 J.window,.int .i64 J.fuel,vK,.int .i64 cw,.int .i64 ct,.int .i64 co] 28,blk bb [.int .i64 ((s:Nat):Int)] 3,blk bc [.pointer (some ⟨b,0,none⟩)] 44,Aa (Am Ag) vS J.us,Aa Af vM J.map,Aa Af vC J.comb,Aa Af vR J.red,Aa (Ai .i64) vK J.marks,gl]:=H
 refine Ab (Ab (Ae (V U U (Al U DO U (H.cellI 0 U U)) (V U U (Dn U Jn U U) (Ac (Z (B2 U (Av (Z (Ab (Ae (V U U (Al U DO U (H.cellI 0 U U)) (V U U (AH U U) (V U U (Aj U Lv U) ?_))))))))))))))
 replace H:=H.p1
 refine sc (MM cb 0 0 (.int .u32 0) 0 (.func (.func 96) #[] #[.pointer (some ⟨ba,0,none⟩),.pointer (some ⟨bb,0,none⟩),.pointer (some ⟨bc,0,none⟩)]) (⟨#[]⟩:ByteArray)) H l0 U U (Au JV U U) ?_
 rintro _ _ w ⟨rfl,rfl⟩ H
 replace H:=H.h1 (A:=blk cb [.int .u32 0,.int .i32 0,.int .u32 0,.int .u32 1,.func (.func 96) #[] #[.pointer (some ⟨ba,0,none⟩),.pointer (some ⟨bb,0,none⟩),.pointer (some ⟨bc,0,none⟩)],.string ⟨#[]⟩] 234)
 refine Ac (Z (Ab (Ae (V U U (Al U DO U (H.cellI 1 U U)) (V U U (AH U U) (V U U (Aj U Lu U) (V U U (Hh (fs:=#[]) (cs:=#[.pointer (some ⟨b1,0,none⟩)]) U U U) ?_)))))))
 replace H:=H.p2.p1
 refine sc (VH b ba bb bc cb vS vM vC vR vK J cw ct co s att hJ hs b1 (.int .u32 0) 1 ⟨#[]⟩) H (lA 0 U (fun _ h=>h) (lR 0 U (lR 1 U (lR 2 U (lR 3 U (lR 4 U (lR 5 U (lR 6 U (lR 7 U (lR 8 U l0)))))))))) U U (Au LQ U U) ?_
 rintro _ _ w ⟨rfl,rfl⟩ H
 replace H:=H.h2 (A:=blk cb [.int .u32 1,.int .i32 0,.int .u32 0,.int .u32 1,.func (.func 96) #[] #[.pointer (some ⟨ba,0,none⟩),.pointer (some ⟨bb,0,none⟩),.pointer (some ⟨bc,0,none⟩)],.string (AZ (Az dg J s).1)] 234) (B:=blk b [vS,.int .i64 J.parts,vM,vC,vR,.int .i64 J.chunk,.int .i64 J.window,.int .i64 J.fuel,vK,.int .i64 cw,.int .i64 ct,.int .i64 co,.int .i64 ((s:Nat):Int),.int .i64 att,.int .i64 ((Az dg J s).2),.pointer (some ⟨cb,0,none⟩),.slice none 0 0] 164)
 refine Ac (Z (Ab (Ae (V U U (Al U DO U (H.cellI 2 U U)) (V U U (AH U U) (V U U (Aj U ID U) (V U U (Al U BS U (H.cellI 0 U U)) (Ad U (Ac (Z (An (Aq U U ?_))))))))))))
 replace H:=H.k2
 exact Ak ⟨rfl,rfl⟩ H
theorem VL (b ba bb bc cb:Nat) (vS:Value) (vM:Value) (vC:Value) (vR:Value) (vK:Value) (J:AC) (cw ct co:Int) (s:Nat) (att:Int) (hJ:B8 J) (hs:s<J.us.length):
    Cn Tryz.prog 32 [.pointer (some ⟨b,0,none⟩)] [blk cb [.int .u32 0,.int .i32 0,.int .u32 0,.int .u32 0,.func (.func 96) #[] #[.pointer (some ⟨ba,0,none⟩),.pointer (some ⟨bb,0,none⟩),.pointer (some ⟨bc,0,none⟩)],.string ⟨#[]⟩] 234,blk b [vS,.int .i64 J.parts,vM,vC,vR,.int .i64 J.chunk,.int .i64 J.window,.int .i64 J.fuel,vK,.int .i64 cw,.int .i64 ct,.int .i64 co,.int .i64 ((s:Nat):Int),.int .i64 att,.int .i64 0,.pointer (some ⟨cb,0,none⟩),.slice none 0 0] 164] [blk ba [vS,.int .i64 J.parts,vM,vC,vR,.int .i64 J.chunk,.int .i64 J.window,.int .i64 J.fuel,vK,.int .i64 cw,.int .i64 ct,.int .i64 co] 28,blk bb [.int .i64 ((s:Nat):Int)] 3,blk bc [.pointer (some ⟨b,0,none⟩)] 44,Aa (Am Ag) vS J.us,Aa Af vM J.map,Aa Af vC J.comb,Aa Af vR J.red,Aa (Ai .i64) vK J.marks,gl] (fun v Bs=>v=.int .i64 ((Az dg J s).2)∧Bs=[blk cb [.int .u32 1,.int .i32 0,.int .u32 0,.int .u32 1,.func (.func 96) #[] #[.pointer (some ⟨ba,0,none⟩),.pointer (some ⟨bb,0,none⟩),.pointer (some ⟨bc,0,none⟩)],.string (AZ (Az dg J s).1)] 234,blk b [vS,.int .i64 J.parts,vM,vC,vR,.int .i64 J.chunk,.int .i64 J.window,.int .i64 J.fuel,vK,.int .i64 cw,.int .i64 ct,.int .i64 co,.int .i64 ((s:Nat):Int),.int .i64 att,.int .i64 ((Az dg J s).2),.pointer (some ⟨cb,0,none⟩),.slice none 0 0] 164]):=by
 intro w0 F0 H
 refine enter Tryz.func32 U U (Nat.le_of_ble_eq_true U) (Ab (Ae (Ad U (Ac (Z (Ab (Ab (Ae (Ad U (V U U (Dn U Hs U U) (Ac (Z (B2 U (Av (Z (Ab (Ae (Ad U (V U U (AH U U) (V U U (Aj U JI U) (V U U (Al U DO U (H.cellI 1 U U)) (sc (VI b ba bb bc cb vS vM vC vR vK J cw ct co s att hJ hs) H (lR 0 U (lR 1 U (lR 2 U (lR 3 U (lR 4 U (lR 5 U (lR 6 U (lR 7 U (lR 8 U l0))))))))) U U (Au IK U U) ?_))))))))))))))))))))))
 rintro _ _ w ⟨rfl,rfl⟩ H
 refine Ac (Z ?_)
 replace H:Hd _ _ _ [blk cb [.int .u32 1,.int .i32 0,.int .u32 0,.int .u32 1,.func (.func 96) #[] #[.pointer (some ⟨ba,0,none⟩),.pointer (some ⟨bb,0,none⟩),.pointer (some ⟨bc,0,none⟩)],.string (AZ (Az dg J s).1)] 234,blk b [vS,.int .i64 J.parts,vM,vC,vR,.int .i64 J.chunk,.int .i64 J.window,.int .i64 J.fuel,vK,.int .i64 cw,.int .i64 ct,.int .i64 co,.int .i64 ((s:Nat):Int),.int .i64 att,.int .i64 ((Az dg J s).2),.pointer (some ⟨cb,0,none⟩),.slice none 0 0] 164] [blk ba [vS,.int .i64 J.parts,vM,vC,vR,.int .i64 J.chunk,.int .i64 J.window,.int .i64 J.fuel,vK,.int .i64 cw,.int .i64 ct,.int .i64 co] 28,blk bb [.int .i64 ((s:Nat):Int)] 3,blk bc [.pointer (some ⟨b,0,none⟩)] 44,Aa (Am Ag) vS J.us,Aa Af vM J.map,Aa Af vC J.comb,Aa Af vR J.red,Aa (Ai .i64) vK J.marks,gl]:=H
 exact Ab (Ae (Ad U (V U U (AH U U) (V U U (Aj U Lp U) (V U U (Al U AA U (H.cellI 1 U U)) (Ad U (Ac (Z (An (Aq U U (Ak ⟨rfl,rfl⟩ H)))))))))))
theorem VF (b ba bb bc cb:Nat) (vS:Value) (vM:Value) (vC:Value) (vR:Value) (vK:Value) (J:AC) (cw ct co:Int) (s:Nat) (att:Int) (hJ:B8 J) (hs:s<J.us.length):
    Cn Tryz.prog 30 [.pointer (some ⟨b,0,none⟩)] [blk cb [.int .u32 0,.int .i32 0,.int .u32 0,.int .u32 0,.func (.func 96) #[] #[.pointer (some ⟨ba,0,none⟩),.pointer (some ⟨bb,0,none⟩),.pointer (some ⟨bc,0,none⟩)],.string ⟨#[]⟩] 234,blk b [vS,.int .i64 J.parts,vM,vC,vR,.int .i64 J.chunk,.int .i64 J.window,.int .i64 J.fuel,vK,.int .i64 cw,.int .i64 ct,.int .i64 co,.int .i64 ((s:Nat):Int),.int .i64 att,.int .i64 0,.pointer (some ⟨cb,0,none⟩),.slice none 0 0] 164] [blk ba [vS,.int .i64 J.parts,vM,vC,vR,.int .i64 J.chunk,.int .i64 J.window,.int .i64 J.fuel,vK,.int .i64 cw,.int .i64 ct,.int .i64 co] 28,blk bb [.int .i64 ((s:Nat):Int)] 3,blk bc [.pointer (some ⟨b,0,none⟩)] 44,Aa (Am Ag) vS J.us,Aa Af vM J.map,Aa Af vC J.comb,Aa Af vR J.red,Aa (Ai .i64) vK J.marks,gl] (fun v Bs=>Bs=[Y (Ai .i64) v (Bt dg J s att),blk cb [.int .u32 1,.int .i32 0,.int .u32 0,.int .u32 1,.func (.func 96) #[] #[.pointer (some ⟨ba,0,none⟩),.pointer (some ⟨bb,0,none⟩),.pointer (some ⟨bc,0,none⟩)],.string (AZ (Az dg J s).1)] 234,blk b [vS,.int .i64 J.parts,vM,vC,vR,.int .i64 J.chunk,.int .i64 J.window,.int .i64 J.fuel,vK,.int .i64 cw,.int .i64 ct,.int .i64 co,.int .i64 ((s:Nat):Int),.int .i64 att,.int .i64 ((Az dg J s).2),.pointer (some ⟨cb,0,none⟩),.slice none 0 0] 164]):=by
 intro w0 F0 H
 have hlen:(Az dg J s).1.length≤1000:=by have:=Ih dg J s;omega
 have hszs:∀ p∈(Az dg J s).1,p.key.size≤100∧p.val.size≤100:=fun x hx=>by have:=Jc H0 hJ s x hx;unfold C8 at this;omega
 have hsk:∀ x∈(Az dg J s).1,x.key.size≤9223372036854775807:=fun x hx=>by have:=(hszs x hx).1;omega
 have hpt:=hJ.parts
 have hck:=hJ.chunk1
 have hol:=IV dg J s
 refine enter Tryz.func30 U U (Nat.le_of_ble_eq_true U) (Ab (Ae (Ad U (Ac (Z (Ab (Ab (Ae (Ad U (V U U (Dn U Hs U U) (Ah 2 U (sc (VL b ba bb bc cb vS vM vC vR vK J cw ct co s att hJ hs) H (lR 0 U (lR 1 U (lR 2 U (lR 3 U (lR 4 U (lR 5 U (lR 6 U (lR 7 U (lR 8 U l0))))))))) U U (Au JY U U) ?_))))))))))))
 rintro _ _ w ⟨rfl,rfl⟩ H
 refine V U U (C9 U U U) (Ad U (Ac (Z ?_)))
 replace H:Hd _ _ _ [blk cb [.int .u32 1,.int .i32 0,.int .u32 0,.int .u32 1,.func (.func 96) #[] #[.pointer (some ⟨ba,0,none⟩),.pointer (some ⟨bb,0,none⟩),.pointer (some ⟨bc,0,none⟩)],.string (AZ (Az dg J s).1)] 234,blk b [vS,.int .i64 J.parts,vM,vC,vR,.int .i64 J.chunk,.int .i64 J.window,.int .i64 J.fuel,vK,.int .i64 cw,.int .i64 ct,.int .i64 co,.int .i64 ((s:Nat):Int),.int .i64 att,.int .i64 ((Az dg J s).2),.pointer (some ⟨cb,0,none⟩),.slice none 0 0] 164] [blk ba [vS,.int .i64 J.parts,vM,vC,vR,.int .i64 J.chunk,.int .i64 J.window,.int .i64 J.fuel,vK,.int .i64 cw,.int .i64 ct,.int .i64 co] 28,blk bb [.int .i64 ((s:Nat):Int)] 3,blk bc [.pointer (some ⟨b,0,none⟩)] 44,Aa (Am Ag) vS J.us,Aa Af vM J.map,Aa Af vC J.comb,Aa Af vR J.red,Aa (Ai .i64) vK J.marks,gl]:=H
 refine Ax U (fun h1=>?_) (fun h1=>?_)
 ·refine Ab (Ae (Ad U (Ac (Z (An (Ay (Aq U U ?_)))))))
  replace H:=H.newnil (Ai .i64)|>.tellK (ys:=Bt dg J s att) (by rw [NQ h1])|>.h1 (A:=Y (Ai .i64) (.slice none 0 0) (Bt dg J s att))
  exact Ak U H
 refine Av (Z (Ab (Ae (Ad U (Ac (Z (Ab (Ab (Ae (Ad U (V U U (AH U U) (V U U (Aj U JH U) (V U U (Aj U CV U) (V U U (Aj U GL U) (V U U (Al U AA U (H.cellI 1 U U)) (Ad U (Ac (Z (AQ ?_)))))))))))))))))))
 replace H:=H.newnil (Ai .i64)|>.tellK (ys:=DZ dg J s att 0) (by rfl)
 refine BL (σ:=Nat×Value) (fun (k,q)=>[(0,.pointer (some ⟨b,0,none⟩)),(2,.slice none 0 0),(3,q),(17,.int .i64 J.parts),(18,.int .i64 ((k:Nat):Int))]) (fun (k,q) w=>(Hd w0 F0 w [Y (Ai .i64) q (DZ dg J s att k),blk cb [.int .u32 1,.int .i32 0,.int .u32 0,.int .u32 1,.func (.func 96) #[] #[.pointer (some ⟨ba,0,none⟩),.pointer (some ⟨bb,0,none⟩),.pointer (some ⟨bc,0,none⟩)],.string (AZ (Az dg J s).1)] 234,blk b [vS,.int .i64 J.parts,vM,vC,vR,.int .i64 J.chunk,.int .i64 J.window,.int .i64 J.fuel,vK,.int .i64 cw,.int .i64 ct,.int .i64 co,.int .i64 ((s:Nat):Int),.int .i64 att,.int .i64 ((Az dg J s).2),.pointer (some ⟨cb,0,none⟩),.slice none 0 0] 164] [blk ba [vS,.int .i64 J.parts,vM,vC,vR,.int .i64 J.chunk,.int .i64 J.window,.int .i64 J.fuel,vK,.int .i64 cw,.int .i64 ct,.int .i64 co] 28,blk bb [.int .i64 ((s:Nat):Int)] 3,blk bc [.pointer (some ⟨b,0,none⟩)] 44,Aa (Am Ag) vS J.us,Aa Af vM J.map,Aa Af vC J.comb,Aa Af vR J.red,Aa (Ai .i64) vK J.marks,gl])∧((k:Int)≤J.parts)) (fun (k,q)=>J.parts.toNat - k) (0,.slice none 0 0) ⟨rfl,rfl,rfl,rfl,rfl,trivial⟩ ⟨H,by omega⟩ ?_
 rintro ⟨k,q⟩ w ⟨H,hk⟩
 have hcl:=NG dg J s att k
 have holk:=hol ((k:Nat):Int)
 refine Ab (Ae (V U U (Bb U U U) (Ac (Z (Ab ?_)))))
 refine Ax U (fun h2=>?_) (fun h2=>?_)
 ·refine Av (Z (Ab (AQ (Ab (Ae (Ah 2 U (Ac (Z (Ae (Ah 3 U ?_))))))))))
  replace H:=H.p1
  replace H:Hd _ _ _ [blk cb [.int .u32 1,.int .i32 0,.int .u32 0,.int .u32 1,.func (.func 96) #[] #[.pointer (some ⟨ba,0,none⟩),.pointer (some ⟨bb,0,none⟩),.pointer (some ⟨bc,0,none⟩)],.string (AZ (Az dg J s).1)] 234,Y (Ai .i64) q (DZ dg J s att k),blk b [vS,.int .i64 J.parts,vM,vC,vR,.int .i64 J.chunk,.int .i64 J.window,.int .i64 J.fuel,vK,.int .i64 cw,.int .i64 ct,.int .i64 co,.int .i64 ((s:Nat):Int),.int .i64 att,.int .i64 ((Az dg J s).2),.pointer (some ⟨cb,0,none⟩),.slice none 0 0] 164] [blk ba [vS,.int .i64 J.parts,vM,vC,vR,.int .i64 J.chunk,.int .i64 J.window,.int .i64 J.fuel,vK,.int .i64 cw,.int .i64 ct,.int .i64 co] 28,blk bb [.int .i64 ((s:Nat):Int)] 3,blk bc [.pointer (some ⟨b,0,none⟩)] 44,Aa (Am Ag) vS J.us,Aa Af vM J.map,Aa Af vC J.comb,Aa Af vR J.red,Aa (Ai .i64) vK J.marks,gl]:=H
  refine sc (L3 b vS vM vC vR vK J cw ct co s att cb (.func (.func 96) #[] #[.pointer (some ⟨ba,0,none⟩),.pointer (some ⟨bb,0,none⟩),.pointer (some ⟨bc,0,none⟩)]) (.slice none 0 0) ((k:Nat):Int) (by first |assumption|omega|exact hlen|exact hszs)) H (lA 1 U (fun _ h=>h) l0) U U (Au LM U U) ?_
  rintro v3 _ w rfl H
  obtain ⟨A4,c5,rfl,hc6,hm7,hp8⟩:=H.fA 0 rfl
  refine V U U (Bc U Da U) (Ad U ?_)
  replace H:Hd _ _ _ [Y Ag (.slice A4 ((Cr dg J s ((k:Nat):Int)).length) c5) (Cr dg J s ((k:Nat):Int)),blk cb [.int .u32 1,.int .i32 0,.int .u32 0,.int .u32 1,.func (.func 96) #[] #[.pointer (some ⟨ba,0,none⟩),.pointer (some ⟨bb,0,none⟩),.pointer (some ⟨bc,0,none⟩)],.string (AZ (Az dg J s).1)] 234,Y (Ai .i64) q (DZ dg J s att k),blk b [vS,.int .i64 J.parts,vM,vC,vR,.int .i64 J.chunk,.int .i64 J.window,.int .i64 J.fuel,vK,.int .i64 cw,.int .i64 ct,.int .i64 co,.int .i64 ((s:Nat):Int),.int .i64 att,.int .i64 ((Az dg J s).2),.pointer (some ⟨cb,0,none⟩),.slice none 0 0] 164] [blk ba [vS,.int .i64 J.parts,vM,vC,vR,.int .i64 J.chunk,.int .i64 J.window,.int .i64 J.fuel,vK,.int .i64 cw,.int .i64 ct,.int .i64 co] 28,blk bb [.int .i64 ((s:Nat):Int)] 3,blk bc [.pointer (some ⟨b,0,none⟩)] 44,Aa (Am Ag) vS J.us,Aa Af vM J.map,Aa Af vC J.comb,Aa Af vR J.red,Aa (Ai .i64) vK J.marks,gl]:=H
  refine sc (L4 b vS vM vC vR vK J cw ct co s att cb (.slice none 0 0) (by first |assumption|omega|exact hlen|exact hszs)) H (lA 3 U (fun _ h=>h) l0) U U (Au LN U U) ?_
  rintro _ _ w ⟨rfl,rfl⟩ H
  refine sc (K7 (((Cr dg J s ((k:Nat):Int)).length:Nat):Int) (Dk J.chunk att) (by first |assumption|omega|exact hlen|exact hszs)) H l0 U U (Au LL U U) ?_
  rintro _ _ w ⟨rfl,rfl⟩ H
  refine BX (parts:=[(0,.tmp 28)]) (vs:=[.int .i64 (Dj (((Cr dg J s ((k:Nat):Int)).length:Nat):Int) (Dk J.chunk att))]) (cs:=[.int .i64 (Dj (((Cr dg J s ((k:Nat):Int)).length:Nat):Int) (Dk J.chunk att))]) U U U DI FV U (by decide) (by decide) U U H (fun b9 w H=>?_)
  replace H:=H.p3
  refine Cy (xs:=DZ dg J s att k) (ys:=[Dj (((Cr dg J s ((k:Nat):Int)).length:Nat):Int) (Dk J.chunk att)]) U U U DI FV U (by decide) U U H (by first |omega|(simp only [List.length_append,List.length_cons,List.length_nil];omega)) (fun F hA hR=>Cm (hA _ (List.mem_of_getElem? (i:=0) U)) U (by decide) (AV.flat_eq.2 U)) (fun v10 w H=>(Ad U (Ac (AT (Z ?_)))))
  replace H:Hd _ _ _ [Y (Ai .i64) v10 ((DZ dg J s att k)++[Dj (((Cr dg J s ((k:Nat):Int)).length:Nat):Int) (Dk J.chunk att)]),blk b9 [.int .i64 (Dj (((Cr dg J s ((k:Nat):Int)).length:Nat):Int) (Dk J.chunk att))] 3,Y Ag (.slice A4 ((Cr dg J s ((k:Nat):Int)).length) c5) (Cr dg J s ((k:Nat):Int)),blk cb [.int .u32 1,.int .i32 0,.int .u32 0,.int .u32 1,.func (.func 96) #[] #[.pointer (some ⟨ba,0,none⟩),.pointer (some ⟨bb,0,none⟩),.pointer (some ⟨bc,0,none⟩)],.string (AZ (Az dg J s).1)] 234,blk b [vS,.int .i64 J.parts,vM,vC,vR,.int .i64 J.chunk,.int .i64 J.window,.int .i64 J.fuel,vK,.int .i64 cw,.int .i64 ct,.int .i64 co,.int .i64 ((s:Nat):Int),.int .i64 att,.int .i64 ((Az dg J s).2),.pointer (some ⟨cb,0,none⟩),.slice none 0 0] 164] [blk ba [vS,.int .i64 J.parts,vM,vC,vR,.int .i64 J.chunk,.int .i64 J.window,.int .i64 J.fuel,vK,.int .i64 cw,.int .i64 ct,.int .i64 co] 28,blk bb [.int .i64 ((s:Nat):Int)] 3,blk bc [.pointer (some ⟨b,0,none⟩)] 44,Aa (Am Ag) vS J.us,Aa Af vM J.map,Aa Af vC J.comb,Aa Af vR J.red,Aa (Ai .i64) vK J.marks,gl]:=H
  refine Ae (V U U (AU (z:=((k+1:Nat):Int)) U U U (by rw [AB (by omega) (by omega)];omega)) (Ad U (Ac ?_)))
  replace H:=H.p4.p4.p2.k3.tellK (ys:=DZ dg J s att (k+1)) (by rw [NH])
  exact Bf (s:=(k,undef)) (k+1,v10) ⟨rfl,rfl,rfl,rfl,rfl,trivial⟩ ⟨H,by (try dsimp only);omega⟩ (by (try dsimp only);omega)
 refine BD (AM (AM (BE (Z (Ab (Ae (Ah 2 U (Ac (Z (An (Aq U U ?_)))))))))))
 have hkk:k=J.parts.toNat:=by omega
 replace H:=H.tellK (ys:=Bt dg J s att) (by rw [NS (Classical.not_not.1 h1),←hkk])
 replace H:Hd _ _ _ [Y (Ai .i64) q (Bt dg J s att),blk cb [.int .u32 1,.int .i32 0,.int .u32 0,.int .u32 1,.func (.func 96) #[] #[.pointer (some ⟨ba,0,none⟩),.pointer (some ⟨bb,0,none⟩),.pointer (some ⟨bc,0,none⟩)],.string (AZ (Az dg J s).1)] 234,blk b [vS,.int .i64 J.parts,vM,vC,vR,.int .i64 J.chunk,.int .i64 J.window,.int .i64 J.fuel,vK,.int .i64 cw,.int .i64 ct,.int .i64 co,.int .i64 ((s:Nat):Int),.int .i64 att,.int .i64 ((Az dg J s).2),.pointer (some ⟨cb,0,none⟩),.slice none 0 0] 164] [blk ba [vS,.int .i64 J.parts,vM,vC,vR,.int .i64 J.chunk,.int .i64 J.window,.int .i64 J.fuel,vK,.int .i64 cw,.int .i64 ct,.int .i64 co] 28,blk bb [.int .i64 ((s:Nat):Int)] 3,blk bc [.pointer (some ⟨b,0,none⟩)] 44,Aa (Am Ag) vS J.us,Aa Af vM J.map,Aa Af vC J.comb,Aa Af vR J.red,Aa (Ai .i64) vK J.marks,gl]:=H
 exact Ak U H
theorem VK (ba bb bc:Nat):
    Cn Tryz.prog 95 [.func (.func 96) #[] #[.pointer (some ⟨ba,0,none⟩),.pointer (some ⟨bb,0,none⟩),.pointer (some ⟨bc,0,none⟩)]] [] [] (fun v Bs=>∃ cb,v=.pointer (some ⟨cb,0,none⟩)∧Bs=[blk cb [.int .u32 0,.int .i32 0,.int .u32 0,.int .u32 0,.func (.func 96) #[] #[.pointer (some ⟨ba,0,none⟩),.pointer (some ⟨bb,0,none⟩),.pointer (some ⟨bc,0,none⟩)],.string ⟨#[]⟩] 234]):=by
 intro w0 F0 H
 refine enter Tryz.func95 U U (Nat.le_of_ble_eq_true U) (Ab (Ae (Ad U (Ac (Z (Ab (Ae (Ad U (V U U (CR (parts:=[(2,.tmp 3)]) (vs:=[.func (.func 96) #[] #[.pointer (some ⟨ba,0,none⟩),.pointer (some ⟨bb,0,none⟩),.pointer (some ⟨bc,0,none⟩)]]) (cs:=[.int .u32 0,.int .i32 0,.int .u32 0,.int .u32 0,.func (.func 96) #[] #[.pointer (some ⟨ba,0,none⟩),.pointer (some ⟨bb,0,none⟩),.pointer (some ⟨bc,0,none⟩)],.string ⟨#[]⟩]) U Nw U U) (Ct U U U U H (fun b1 w H=>(Ad U (Ac (Z ?_))))))))))))))
 replace H:Hd _ _ _ [blk b1 [.int .u32 0,.int .i32 0,.int .u32 0,.int .u32 0,.func (.func 96) #[] #[.pointer (some ⟨ba,0,none⟩),.pointer (some ⟨bb,0,none⟩),.pointer (some ⟨bc,0,none⟩)],.string ⟨#[]⟩] 234] []:=H
 exact An (Aq U U (Ak ⟨_,rfl,rfl⟩ H))
theorem Z8 (c:Int) (s:Int) (h:0≤c∧c≤40∧1≤s∧s≤4):
    Cn Tryz.prog 98 [.int .i64 c,.int .i64 s] [] [] (fun v Bs=>∃ b,v=.tuple #[.pointer (some ⟨b,0,none⟩),.int .i64 0]∧Bs=[blk b [.int .i64 c,.int .i64 s,.int .i64 0,.int .i64 0] 239]):=by
 intro w0 F0 H
 refine enter Tryz.func98 U U (Nat.le_of_ble_eq_true U) (Ab (Ae (Ah 2 U (Ac (Z (Ab (Ab (Ae (Ad U (V U U (Bb U U U) (Ad U ?_)))))))))))
 refine AN (d:=8) U (fun h1=>?_) (fun h1=>?_)
 ·exact absurd h1 (by omega)
 refine Ad U (V U U (Ck U U U) (Ah 2 U ?_))
 refine AN (d:=12) U (fun h2=>?_) (fun h2=>?_)
 ·exact absurd h2 (by omega)
 refine Ad U (V U U (Bb U U U) (Ah 2 U ?_))
 refine AN (d:=16) U (fun h3=>?_) (fun h3=>?_)
 ·exact absurd h3 (by omega)
 refine Ad U (V U U (Ck U U U) (Ad U (Ac (Z ?_))))
 refine Ax U (fun h4=>?_) (fun h4=>?_)
 ·exact absurd h4 (by omega)
 refine Av (Z (Ab (Ae (Ah 2 U (V U U (CR (parts:=[(0,.tmp 20),(1,.tmp 21)]) (vs:=[.int .i64 c,.int .i64 s]) (cs:=[.int .i64 c,.int .i64 s,.int .i64 0,.int .i64 0]) U RN U U) (Ct U U U U H (fun b5 w H=>(Ah 2 U (Ac (Z ?_))))))))))
 replace H:Hd _ _ _ [blk b5 [.int .i64 c,.int .i64 s,.int .i64 0,.int .i64 0] 239] []:=H
 exact An (Ch U U U (Ak ⟨_,rfl,rfl⟩ H))
theorem Z9 (b:Nat) (c:Int) (s:Int) (e:Int) (x:Int) (h:0≤c∧c≤40∧1≤s∧s≤4) (hx:0≤x∧x≤c):
    Cn Tryz.prog 108 [.pointer (some ⟨b,0,none⟩)] [] [blk b [.int .i64 c,.int .i64 s,.int .i64 e,.int .i64 x] 239] (fun v Bs=>Bs=[Y (Ai .i64) v (Dv c s x)]):=by
 intro w0 F0 H
 refine enter Tryz.func108 U U (Nat.le_of_ble_eq_true U) (Ab (Ae (Ad U (Ac (Z (Ab (Ab (Ae (Ad U (V U U (Dn U ZD U U) (Ac (Z (B2 U (Av (Z (Ab (Ae (Ad U (Ac (Z (Ab (Ab (Gj mo (by kernel_rfl) H (Eb U (Bu U U (fun w H=>AH U U) (Bu U U (fun w H=>Aj U To U) (Bu U U (fun w H=>Al U AA U (H.cellRI 0 U U)) (Eb U (Bu U U (fun w H=>AH U U) (Bu U U (fun w H=>Aj U Tn U) (Bu U U (fun w H=>Al U AA U (H.cellRI 0 U U)) (Eb U (Bu U U (fun w H=>AH U U) (Bu U U (fun w H=>Aj U Ok U) (Bu U U (fun w H=>Al U AA U (H.cellRI 0 U U)) (Bu U U (fun w H=>Cw (z:=c - x) U U U (AB (by omega) (by omega))) ?_))))))))))))))))))))))))))))))))))))
 refine Bu U U (fun w H=>Hi (z:=min s (c - x)) U U U U) (Eb U (Gy (fun w H=>(Z (AQ ?_)))))
 replace H:=H.newnil (Ai .i64)
 refine BL (σ:=Nat×Value) (fun (k,l)=>[(0,.pointer (some ⟨b,0,none⟩)),(2,.slice none 0 0),(3,l),(20,.int .i64 (min s (c - x))),(21,.int .i64 ((k:Nat):Int))]) (fun (k,l) w=>(Hd w0 F0 w [Y (Ai .i64) l (GB x k)] [blk b [.int .i64 c,.int .i64 s,.int .i64 e,.int .i64 x] 239])∧(k≤(min s (c - x)).toNat)) (fun (k,l)=>(min s (c - x)).toNat - k) (0,.slice none 0 0) ⟨rfl,rfl,rfl,rfl,rfl,trivial⟩ ⟨H,by omega⟩ ?_
 rintro ⟨k,l⟩ w ⟨H,hk⟩
 refine Ab (Ae (V U U (Bb U U U) (Ac (Z (Ab ?_)))))
 refine Ax U (fun h1=>?_) (fun h1=>?_)
 ·refine Av (Z (Ab (AQ (Ab (Ae (Ah 2 U (Ac (Z (Ae (Ah 2 U (V U U (AH U U) (V U U (Aj U Ok U) (V U U (Al U AA U (H.cellRI 0 U U)) (Ad U (V U U (AU (z:=x+((k:Nat):Int)) U U U (AB (by omega) (by omega))) (BX (parts:=[(0,.tmp 30)]) (vs:=[.int .i64 (x+((k:Nat):Int))]) (cs:=[.int .i64 (x+((k:Nat):Int))]) U U U DI FV U (by decide) (by decide) U U H (fun b2 w H=>?_)))))))))))))))))
  replace H:=H.p1
  refine Cy (xs:=GB x k) (ys:=[x+((k:Nat):Int)]) U U U DI FV U (by decide) U U H (by simp only [Rj,List.length_cons,List.length_nil];omega) (fun F hA hR=>Cm (hA _ (List.mem_of_getElem? (i:=0) U)) U (by decide) (AV.flat_eq.2 U)) (fun v3 w H=>(Ad U (Ac (AT (Z ?_)))))
  replace H:Hd _ _ _ [Y (Ai .i64) v3 ((GB x k)++[x+((k:Nat):Int)]),blk b2 [.int .i64 (x+((k:Nat):Int))] 3] [blk b [.int .i64 c,.int .i64 s,.int .i64 e,.int .i64 x] 239]:=H
  refine Ae (V U U (AU (z:=((k+1:Nat):Int)) U U U (by rw [AB (by omega) (by omega)];omega)) (Ad U (Ac ?_)))
  rw [←ZO] at H
  replace H:=H.k1
  exact Bf (s:=(k,undef)) (k+1,v3) ⟨rfl,rfl,rfl,rfl,rfl,trivial⟩ ⟨H,by omega⟩ (by (try dsimp only);omega)
 refine BD (AM (AM (BE (Z (Ab (Ae (Ah 2 U (Ac (Z (An (Aq U U ?_)))))))))))
 obtain rfl:k=(min s (c - x)).toNat:=by omega
 exact Ak U H
def Cg (b:Nat) (J:AC) (M:BO):SP:=ex fun vS:Value=>ex fun vM:Value=>ex fun vC:Value=>ex fun vR:Value=>ex fun vK:Value=>ex fun J2:AC=>ex fun cw:Int=>ex fun ct:Int=>ex fun co:Int=>ex fun cb:Nat=>ex fun fv:Value=>ex fun vw:Value=>ex fun ws:List (Nat×B5)=>BZ [BW ((Bd J2 J)∧(ws.map Prod.snd=M.ws)),blk b [vS,.int .i64 J2.parts,vM,vC,vR,.int .i64 J2.chunk,.int .i64 J2.window,.int .i64 J2.fuel,vK,.int .i64 cw,.int .i64 ct,.int .i64 co,.int .i64 ((M.sp:Nat):Int),.int .i64 M.att,.int .i64 ((Az dg J2 M.sp).2),.pointer (some ⟨cb,0,none⟩),vw] 164,blk cb [.int .u32 1,.int .i32 0,.int .u32 0,.int .u32 1,fv,.string (AZ (Az dg J2 M.sp).1)] 234,Y (Am Ag) vS J2.us,Y Af vM J2.map,Y Af vC J2.comb,Y Af vR J2.red,Y (Ai .i64) vK J2.marks,Y Cq vw (ws.map Prod.fst),Bn (Ci 239) ws]
theorem J8 (b:Nat) (J:AC) (M:BO) {w0 w:World} {F0:AJ} {As Rs:List SP} (H:Hd w0 F0 w (Cg b J M::As) Rs):∃ vS:Value,∃ vM:Value,∃ vC:Value,∃ vR:Value,∃ vK:Value,∃ J2:AC,∃ cw:Int,∃ ct:Int,∃ co:Int,∃ cb:Nat,∃ fv:Value,∃ vw:Value,∃ ws:List (Nat×B5),((Bd J2 J)∧(ws.map Prod.snd=M.ws))∧Hd w0 F0 w ([blk b [vS,.int .i64 J2.parts,vM,vC,vR,.int .i64 J2.chunk,.int .i64 J2.window,.int .i64 J2.fuel,vK,.int .i64 cw,.int .i64 ct,.int .i64 co,.int .i64 ((M.sp:Nat):Int),.int .i64 M.att,.int .i64 ((Az dg J2 M.sp).2),.pointer (some ⟨cb,0,none⟩),vw] 164,blk cb [.int .u32 1,.int .i32 0,.int .u32 0,.int .u32 1,fv,.string (AZ (Az dg J2 M.sp).1)] 234,Y (Am Ag) vS J2.us,Y Af vM J2.map,Y Af vC J2.comb,Y Af vR J2.red,Y (Ai .i64) vK J2.marks,Y Cq vw (ws.map Prod.fst),Bn (Ci 239) ws]++As) Rs:=by
 obtain ⟨vS,H⟩:=Hd.exA H
 obtain ⟨vM,H⟩:=Hd.exA H
 obtain ⟨vC,H⟩:=Hd.exA H
 obtain ⟨vR,H⟩:=Hd.exA H
 obtain ⟨vK,H⟩:=Hd.exA H
 obtain ⟨J2,H⟩:=Hd.exA H
 obtain ⟨cw,H⟩:=Hd.exA H
 obtain ⟨ct,H⟩:=Hd.exA H
 obtain ⟨co,H⟩:=Hd.exA H
 obtain ⟨cb,H⟩:=Hd.exA H
 obtain ⟨fv,H⟩:=Hd.exA H
 obtain ⟨vw,H⟩:=Hd.exA H
 obtain ⟨ws,H⟩:=Hd.exA H
 exact ⟨vS,vM,vC,vR,vK,J2,cw,ct,co,cb,fv,vw,ws,H.stA.puA⟩
theorem IR (b:Nat) (J:AC) (M:BO) (vS:Value) (vM:Value) (vC:Value) (vR:Value) (vK:Value) (J2:AC) (cw:Int) (ct:Int) (co:Int) (cb:Nat) (fv:Value) (vw:Value) (ws:List (Nat×B5)) {w0 w:World} {F0:AJ} {As Rs:List SP} (hp:(Bd J2 J)∧(ws.map Prod.snd=M.ws)) (H:Hd w0 F0 w ([blk b [vS,.int .i64 J2.parts,vM,vC,vR,.int .i64 J2.chunk,.int .i64 J2.window,.int .i64 J2.fuel,vK,.int .i64 cw,.int .i64 ct,.int .i64 co,.int .i64 ((M.sp:Nat):Int),.int .i64 M.att,.int .i64 ((Az dg J2 M.sp).2),.pointer (some ⟨cb,0,none⟩),vw] 164,blk cb [.int .u32 1,.int .i32 0,.int .u32 0,.int .u32 1,fv,.string (AZ (Az dg J2 M.sp).1)] 234,Y (Am Ag) vS J2.us,Y Af vM J2.map,Y Af vC J2.comb,Y Af vR J2.red,Y (Ai .i64) vK J2.marks,Y Cq vw (ws.map Prod.fst),Bn (Ci 239) ws]++As) Rs):Hd w0 F0 w (Cg b J M::As) Rs:=by
 have H1:=(show Hd w0 F0 w ([BW ((Bd J2 J)∧(ws.map Prod.snd=M.ws)),blk b [vS,.int .i64 J2.parts,vM,vC,vR,.int .i64 J2.chunk,.int .i64 J2.window,.int .i64 J2.fuel,vK,.int .i64 cw,.int .i64 ct,.int .i64 co,.int .i64 ((M.sp:Nat):Int),.int .i64 M.att,.int .i64 ((Az dg J2 M.sp).2),.pointer (some ⟨cb,0,none⟩),vw] 164,blk cb [.int .u32 1,.int .i32 0,.int .u32 0,.int .u32 1,fv,.string (AZ (Az dg J2 M.sp).1)] 234,Y (Am Ag) vS J2.us,Y Af vM J2.map,Y Af vC J2.comb,Y Af vR J2.red,Y (Ai .i64) vK J2.marks,Y Cq vw (ws.map Prod.fst),Bn (Ci 239) ws]++As) Rs from H.puI hp).stI
 replace H1:=Hd.exI (A:=fun ws:List (Nat×B5)=>BZ [BW ((Bd J2 J)∧(ws.map Prod.snd=M.ws)),blk b [vS,.int .i64 J2.parts,vM,vC,vR,.int .i64 J2.chunk,.int .i64 J2.window,.int .i64 J2.fuel,vK,.int .i64 cw,.int .i64 ct,.int .i64 co,.int .i64 ((M.sp:Nat):Int),.int .i64 M.att,.int .i64 ((Az dg J2 M.sp).2),.pointer (some ⟨cb,0,none⟩),vw] 164,blk cb [.int .u32 1,.int .i32 0,.int .u32 0,.int .u32 1,fv,.string (AZ (Az dg J2 M.sp).1)] 234,Y (Am Ag) vS J2.us,Y Af vM J2.map,Y Af vC J2.comb,Y Af vR J2.red,Y (Ai .i64) vK J2.marks,Y Cq vw (ws.map Prod.fst),Bn (Ci 239) ws]) ws H1
 replace H1:=Hd.exI (A:=fun vw:Value=>ex fun ws:List (Nat×B5)=>BZ [BW ((Bd J2 J)∧(ws.map Prod.snd=M.ws)),blk b [vS,.int .i64 J2.parts,vM,vC,vR,.int .i64 J2.chunk,.int .i64 J2.window,.int .i64 J2.fuel,vK,.int .i64 cw,.int .i64 ct,.int .i64 co,.int .i64 ((M.sp:Nat):Int),.int .i64 M.att,.int .i64 ((Az dg J2 M.sp).2),.pointer (some ⟨cb,0,none⟩),vw] 164,blk cb [.int .u32 1,.int .i32 0,.int .u32 0,.int .u32 1,fv,.string (AZ (Az dg J2 M.sp).1)] 234,Y (Am Ag) vS J2.us,Y Af vM J2.map,Y Af vC J2.comb,Y Af vR J2.red,Y (Ai .i64) vK J2.marks,Y Cq vw (ws.map Prod.fst),Bn (Ci 239) ws]) vw H1
 replace H1:=Hd.exI (A:=fun fv:Value=>ex fun vw:Value=>ex fun ws:List (Nat×B5)=>BZ [BW ((Bd J2 J)∧(ws.map Prod.snd=M.ws)),blk b [vS,.int .i64 J2.parts,vM,vC,vR,.int .i64 J2.chunk,.int .i64 J2.window,.int .i64 J2.fuel,vK,.int .i64 cw,.int .i64 ct,.int .i64 co,.int .i64 ((M.sp:Nat):Int),.int .i64 M.att,.int .i64 ((Az dg J2 M.sp).2),.pointer (some ⟨cb,0,none⟩),vw] 164,blk cb [.int .u32 1,.int .i32 0,.int .u32 0,.int .u32 1,fv,.string (AZ (Az dg J2 M.sp).1)] 234,Y (Am Ag) vS J2.us,Y Af vM J2.map,Y Af vC J2.comb,Y Af vR J2.red,Y (Ai .i64) vK J2.marks,Y Cq vw (ws.map Prod.fst),Bn (Ci 239) ws]) fv H1
 replace H1:=Hd.exI (A:=fun cb:Nat=>ex fun fv:Value=>ex fun vw:Value=>ex fun ws:List (Nat×B5)=>BZ [BW ((Bd J2 J)∧(ws.map Prod.snd=M.ws)),blk b [vS,.int .i64 J2.parts,vM,vC,vR,.int .i64 J2.chunk,.int .i64 J2.window,.int .i64 J2.fuel,vK,.int .i64 cw,.int .i64 ct,.int .i64 co,.int .i64 ((M.sp:Nat):Int),.int .i64 M.att,.int .i64 ((Az dg J2 M.sp).2),.pointer (some ⟨cb,0,none⟩),vw] 164,blk cb [.int .u32 1,.int .i32 0,.int .u32 0,.int .u32 1,fv,.string (AZ (Az dg J2 M.sp).1)] 234,Y (Am Ag) vS J2.us,Y Af vM J2.map,Y Af vC J2.comb,Y Af vR J2.red,Y (Ai .i64) vK J2.marks,Y Cq vw (ws.map Prod.fst),Bn (Ci 239) ws]) cb H1
 replace H1:=Hd.exI (A:=fun co:Int=>ex fun cb:Nat=>ex fun fv:Value=>ex fun vw:Value=>ex fun ws:List (Nat×B5)=>BZ [BW ((Bd J2 J)∧(ws.map Prod.snd=M.ws)),blk b [vS,.int .i64 J2.parts,vM,vC,vR,.int .i64 J2.chunk,.int .i64 J2.window,.int .i64 J2.fuel,vK,.int .i64 cw,.int .i64 ct,.int .i64 co,.int .i64 ((M.sp:Nat):Int),.int .i64 M.att,.int .i64 ((Az dg J2 M.sp).2),.pointer (some ⟨cb,0,none⟩),vw] 164,blk cb [.int .u32 1,.int .i32 0,.int .u32 0,.int .u32 1,fv,.string (AZ (Az dg J2 M.sp).1)] 234,Y (Am Ag) vS J2.us,Y Af vM J2.map,Y Af vC J2.comb,Y Af vR J2.red,Y (Ai .i64) vK J2.marks,Y Cq vw (ws.map Prod.fst),Bn (Ci 239) ws]) co H1
 replace H1:=Hd.exI (A:=fun ct:Int=>ex fun co:Int=>ex fun cb:Nat=>ex fun fv:Value=>ex fun vw:Value=>ex fun ws:List (Nat×B5)=>BZ [BW ((Bd J2 J)∧(ws.map Prod.snd=M.ws)),blk b [vS,.int .i64 J2.parts,vM,vC,vR,.int .i64 J2.chunk,.int .i64 J2.window,.int .i64 J2.fuel,vK,.int .i64 cw,.int .i64 ct,.int .i64 co,.int .i64 ((M.sp:Nat):Int),.int .i64 M.att,.int .i64 ((Az dg J2 M.sp).2),.pointer (some ⟨cb,0,none⟩),vw] 164,blk cb [.int .u32 1,.int .i32 0,.int .u32 0,.int .u32 1,fv,.string (AZ (Az dg J2 M.sp).1)] 234,Y (Am Ag) vS J2.us,Y Af vM J2.map,Y Af vC J2.comb,Y Af vR J2.red,Y (Ai .i64) vK J2.marks,Y Cq vw (ws.map Prod.fst),Bn (Ci 239) ws]) ct H1
 replace H1:=Hd.exI (A:=fun cw:Int=>ex fun ct:Int=>ex fun co:Int=>ex fun cb:Nat=>ex fun fv:Value=>ex fun vw:Value=>ex fun ws:List (Nat×B5)=>BZ [BW ((Bd J2 J)∧(ws.map Prod.snd=M.ws)),blk b [vS,.int .i64 J2.parts,vM,vC,vR,.int .i64 J2.chunk,.int .i64 J2.window,.int .i64 J2.fuel,vK,.int .i64 cw,.int .i64 ct,.int .i64 co,.int .i64 ((M.sp:Nat):Int),.int .i64 M.att,.int .i64 ((Az dg J2 M.sp).2),.pointer (some ⟨cb,0,none⟩),vw] 164,blk cb [.int .u32 1,.int .i32 0,.int .u32 0,.int .u32 1,fv,.string (AZ (Az dg J2 M.sp).1)] 234,Y (Am Ag) vS J2.us,Y Af vM J2.map,Y Af vC J2.comb,Y Af vR J2.red,Y (Ai .i64) vK J2.marks,Y Cq vw (ws.map Prod.fst),Bn (Ci 239) ws]) cw H1
 replace H1:=Hd.exI (A:=fun J2:AC=>ex fun cw:Int=>ex fun ct:Int=>ex fun co:Int=>ex fun cb:Nat=>ex fun fv:Value=>ex fun vw:Value=>ex fun ws:List (Nat×B5)=>BZ [BW ((Bd J2 J)∧(ws.map Prod.snd=M.ws)),blk b [vS,.int .i64 J2.parts,vM,vC,vR,.int .i64 J2.chunk,.int .i64 J2.window,.int .i64 J2.fuel,vK,.int .i64 cw,.int .i64 ct,.int .i64 co,.int .i64 ((M.sp:Nat):Int),.int .i64 M.att,.int .i64 ((Az dg J2 M.sp).2),.pointer (some ⟨cb,0,none⟩),vw] 164,blk cb [.int .u32 1,.int .i32 0,.int .u32 0,.int .u32 1,fv,.string (AZ (Az dg J2 M.sp).1)] 234,Y (Am Ag) vS J2.us,Y Af vM J2.map,Y Af vC J2.comb,Y Af vR J2.red,Y (Ai .i64) vK J2.marks,Y Cq vw (ws.map Prod.fst),Bn (Ci 239) ws]) J2 H1
 replace H1:=Hd.exI (A:=fun vK:Value=>ex fun J2:AC=>ex fun cw:Int=>ex fun ct:Int=>ex fun co:Int=>ex fun cb:Nat=>ex fun fv:Value=>ex fun vw:Value=>ex fun ws:List (Nat×B5)=>BZ [BW ((Bd J2 J)∧(ws.map Prod.snd=M.ws)),blk b [vS,.int .i64 J2.parts,vM,vC,vR,.int .i64 J2.chunk,.int .i64 J2.window,.int .i64 J2.fuel,vK,.int .i64 cw,.int .i64 ct,.int .i64 co,.int .i64 ((M.sp:Nat):Int),.int .i64 M.att,.int .i64 ((Az dg J2 M.sp).2),.pointer (some ⟨cb,0,none⟩),vw] 164,blk cb [.int .u32 1,.int .i32 0,.int .u32 0,.int .u32 1,fv,.string (AZ (Az dg J2 M.sp).1)] 234,Y (Am Ag) vS J2.us,Y Af vM J2.map,Y Af vC J2.comb,Y Af vR J2.red,Y (Ai .i64) vK J2.marks,Y Cq vw (ws.map Prod.fst),Bn (Ci 239) ws]) vK H1
 replace H1:=Hd.exI (A:=fun vR:Value=>ex fun vK:Value=>ex fun J2:AC=>ex fun cw:Int=>ex fun ct:Int=>ex fun co:Int=>ex fun cb:Nat=>ex fun fv:Value=>ex fun vw:Value=>ex fun ws:List (Nat×B5)=>BZ [BW ((Bd J2 J)∧(ws.map Prod.snd=M.ws)),blk b [vS,.int .i64 J2.parts,vM,vC,vR,.int .i64 J2.chunk,.int .i64 J2.window,.int .i64 J2.fuel,vK,.int .i64 cw,.int .i64 ct,.int .i64 co,.int .i64 ((M.sp:Nat):Int),.int .i64 M.att,.int .i64 ((Az dg J2 M.sp).2),.pointer (some ⟨cb,0,none⟩),vw] 164,blk cb [.int .u32 1,.int .i32 0,.int .u32 0,.int .u32 1,fv,.string (AZ (Az dg J2 M.sp).1)] 234,Y (Am Ag) vS J2.us,Y Af vM J2.map,Y Af vC J2.comb,Y Af vR J2.red,Y (Ai .i64) vK J2.marks,Y Cq vw (ws.map Prod.fst),Bn (Ci 239) ws]) vR H1
 replace H1:=Hd.exI (A:=fun vC:Value=>ex fun vR:Value=>ex fun vK:Value=>ex fun J2:AC=>ex fun cw:Int=>ex fun ct:Int=>ex fun co:Int=>ex fun cb:Nat=>ex fun fv:Value=>ex fun vw:Value=>ex fun ws:List (Nat×B5)=>BZ [BW ((Bd J2 J)∧(ws.map Prod.snd=M.ws)),blk b [vS,.int .i64 J2.parts,vM,vC,vR,.int .i64 J2.chunk,.int .i64 J2.window,.int .i64 J2.fuel,vK,.int .i64 cw,.int .i64 ct,.int .i64 co,.int .i64 ((M.sp:Nat):Int),.int .i64 M.att,.int .i64 ((Az dg J2 M.sp).2),.pointer (some ⟨cb,0,none⟩),vw] 164,blk cb [.int .u32 1,.int .i32 0,.int .u32 0,.int .u32 1,fv,.string (AZ (Az dg J2 M.sp).1)] 234,Y (Am Ag) vS J2.us,Y Af vM J2.map,Y Af vC J2.comb,Y Af vR J2.red,Y (Ai .i64) vK J2.marks,Y Cq vw (ws.map Prod.fst),Bn (Ci 239) ws]) vC H1
 replace H1:=Hd.exI (A:=fun vM:Value=>ex fun vC:Value=>ex fun vR:Value=>ex fun vK:Value=>ex fun J2:AC=>ex fun cw:Int=>ex fun ct:Int=>ex fun co:Int=>ex fun cb:Nat=>ex fun fv:Value=>ex fun vw:Value=>ex fun ws:List (Nat×B5)=>BZ [BW ((Bd J2 J)∧(ws.map Prod.snd=M.ws)),blk b [vS,.int .i64 J2.parts,vM,vC,vR,.int .i64 J2.chunk,.int .i64 J2.window,.int .i64 J2.fuel,vK,.int .i64 cw,.int .i64 ct,.int .i64 co,.int .i64 ((M.sp:Nat):Int),.int .i64 M.att,.int .i64 ((Az dg J2 M.sp).2),.pointer (some ⟨cb,0,none⟩),vw] 164,blk cb [.int .u32 1,.int .i32 0,.int .u32 0,.int .u32 1,fv,.string (AZ (Az dg J2 M.sp).1)] 234,Y (Am Ag) vS J2.us,Y Af vM J2.map,Y Af vC J2.comb,Y Af vR J2.red,Y (Ai .i64) vK J2.marks,Y Cq vw (ws.map Prod.fst),Bn (Ci 239) ws]) vM H1
 replace H1:=Hd.exI (A:=fun vS:Value=>ex fun vM:Value=>ex fun vC:Value=>ex fun vR:Value=>ex fun vK:Value=>ex fun J2:AC=>ex fun cw:Int=>ex fun ct:Int=>ex fun co:Int=>ex fun cb:Nat=>ex fun fv:Value=>ex fun vw:Value=>ex fun ws:List (Nat×B5)=>BZ [BW ((Bd J2 J)∧(ws.map Prod.snd=M.ws)),blk b [vS,.int .i64 J2.parts,vM,vC,vR,.int .i64 J2.chunk,.int .i64 J2.window,.int .i64 J2.fuel,vK,.int .i64 cw,.int .i64 ct,.int .i64 co,.int .i64 ((M.sp:Nat):Int),.int .i64 M.att,.int .i64 ((Az dg J2 M.sp).2),.pointer (some ⟨cb,0,none⟩),vw] 164,blk cb [.int .u32 1,.int .i32 0,.int .u32 0,.int .u32 1,fv,.string (AZ (Az dg J2 M.sp).1)] 234,Y (Am Ag) vS J2.us,Y Af vM J2.map,Y Af vC J2.comb,Y Af vR J2.red,Y (Ai .i64) vK J2.marks,Y Cq vw (ws.map Prod.fst),Bn (Ci 239) ws]) vS H1
 exact H1
theorem VP (vS:Value) (vM:Value) (vC:Value) (vR:Value) (vK:Value) (C:Cf) (s:Int) (att:Int) (hgo:¬ (CP C∧0≤s∧s<((C.J.us.length:Nat):Int)∧1≤att∧att≤C.t)):
    Cn Tryz.prog 27 [.agg #[vS,.int .i64 C.J.parts,vM,vC,vR,.int .i64 C.J.chunk,.int .i64 C.J.window,.int .i64 C.J.fuel,vK,.int .i64 C.w,.int .i64 C.t,.int .i64 C.o],.int .i64 s,.int .i64 att] [] [Aa (Am Ag) vS C.J.us,Aa Af vM C.J.map,Aa Af vC C.J.comb,Aa Af vR C.J.red,Aa (Ai .i64) vK C.J.marks] (fun v Bs=>v=.tuple #[.pointer none,.int .i64 2]∧Bs=[]):=by
 intro w0 F0 H
 obtain ⟨A1,c2,rfl,hc3,hm4,hp5⟩:=H.fR 0 rfl
 obtain ⟨A6,c7,rfl,hc8,hm9,hp10⟩:=H.fR 1 rfl
 obtain ⟨A11,c12,rfl,hc13,hm14,hp15⟩:=H.fR 2 rfl
 obtain ⟨A16,c17,rfl,hc18,hm19,hp20⟩:=H.fR 3 rfl
 obtain ⟨A21,c22,rfl,hc23,hm24,hp25⟩:=H.fR 4 rfl
 refine enter Tryz.func27 U U (Nat.le_of_ble_eq_true U) (Ab (Ae (Ct U U U U H (fun b26 w H=>(Ct U U U U H (fun b27 w H=>(Ah 2 U (Ac (Z ?_)))))))))
 replace H:Hd _ _ _ [blk b27 [.int .i64 s] 3,blk b26 [.slice A1 C.J.us.length c2,.int .i64 C.J.parts,.slice A6 C.J.map.length c7,.slice A11 C.J.comb.length c12,.slice A16 C.J.red.length c17,.int .i64 C.J.chunk,.int .i64 C.J.window,.int .i64 C.J.fuel,.slice A21 C.J.marks.length c22,.int .i64 C.w,.int .i64 C.t,.int .i64 C.o] 28] [Aa (Am Ag) (.slice A1 C.J.us.length c2) C.J.us,Aa Af (.slice A6 C.J.map.length c7) C.J.map,Aa Af (.slice A11 C.J.comb.length c12) C.J.comb,Aa Af (.slice A16 C.J.red.length c17) C.J.red,Aa (Ai .i64) (.slice A21 C.J.marks.length c22) C.J.marks]:=H
 refine Ab (Ab (Ae (V U U (Bo (cs:=[.slice A1 C.J.us.length c2,.int .i64 C.J.parts,.slice A6 C.J.map.length c7,.slice A11 C.J.comb.length c12,.slice A16 C.J.red.length c17,.int .i64 C.J.chunk,.int .i64 C.J.window,.int .i64 C.J.fuel,.slice A21 C.J.marks.length c22,.int .i64 C.w,.int .i64 C.t,.int .i64 C.o]) U DC U U (H.cellsI 1 U U)) (sc (IQ (.slice A1 C.J.us.length c2) (.slice A6 C.J.map.length c7) (.slice A11 C.J.comb.length c12) (.slice A16 C.J.red.length c17) (.slice A21 C.J.marks.length c22) C) H (lR 0 U (lR 1 U (lR 2 U (lR 3 U (lR 4 U l0))))) U U (Au IL U U) ?_))))
 rintro _ _ w ⟨rfl,rfl⟩ H
 refine V U U (Ea U U) (Ad U ?_)
 refine AN (d:=16) U (fun h28=>?_) (fun h28=>?_)
 ·refine Ah 12 U (Ah 9 U (Ac (Z ?_)))
  replace H:Hd _ _ _ [blk b27 [.int .i64 s] 3,blk b26 [.slice A1 C.J.us.length c2,.int .i64 C.J.parts,.slice A6 C.J.map.length c7,.slice A11 C.J.comb.length c12,.slice A16 C.J.red.length c17,.int .i64 C.J.chunk,.int .i64 C.J.window,.int .i64 C.J.fuel,.slice A21 C.J.marks.length c22,.int .i64 C.w,.int .i64 C.t,.int .i64 C.o] 28] [Aa (Am Ag) (.slice A1 C.J.us.length c2) C.J.us,Aa Af (.slice A6 C.J.map.length c7) C.J.map,Aa Af (.slice A11 C.J.comb.length c12) C.J.comb,Aa Af (.slice A16 C.J.red.length c17) C.J.red,Aa (Ai .i64) (.slice A21 C.J.marks.length c22) C.J.marks]:=H
  refine CG U (Ab (Ae (Ah 2 U (Ac (Z (An (Ay (Ch U U U ?_))))))))
  replace H:=H.nil
  exact Ak ⟨rfl,rfl⟩ H
 refine V U U (Al U AA U (H.cellI 0 U U)) (V U U (Bb U U U) (Ah 2 U ?_))
 refine AN (d:=20) U (fun h29=>?_) (fun h29=>?_)
 ·refine Ah 12 U (Ah 5 U (Ac (Z ?_)))
  replace H:Hd _ _ _ [blk b27 [.int .i64 s] 3,blk b26 [.slice A1 C.J.us.length c2,.int .i64 C.J.parts,.slice A6 C.J.map.length c7,.slice A11 C.J.comb.length c12,.slice A16 C.J.red.length c17,.int .i64 C.J.chunk,.int .i64 C.J.window,.int .i64 C.J.fuel,.slice A21 C.J.marks.length c22,.int .i64 C.w,.int .i64 C.t,.int .i64 C.o] 28] [Aa (Am Ag) (.slice A1 C.J.us.length c2) C.J.us,Aa Af (.slice A6 C.J.map.length c7) C.J.map,Aa Af (.slice A11 C.J.comb.length c12) C.J.comb,Aa Af (.slice A16 C.J.red.length c17) C.J.red,Aa (Ai .i64) (.slice A21 C.J.marks.length c22) C.J.marks]:=H
  refine CG U (Ab (Ae (Ah 2 U (Ac (Z (An (Ay (Ch U U U ?_))))))))
  replace H:=H.nil
  exact Ak ⟨rfl,rfl⟩ H
 refine V U U (Al U AA U (H.cellI 0 U U)) (V U U (Aj U CV U) (V U U (Aj U DT U) (V U U (Al U DX U (H.cellI 1 U U)) (V U U (Bc U Ei U) (V U U (CL U U U) (Ah 2 U ?_))))))
 refine AN (d:=28) U (fun h30=>?_) (fun h30=>?_)
 ·refine Ah 9 U (Ac (Z ?_))
  replace H:Hd _ _ _ [blk b27 [.int .i64 s] 3,blk b26 [.slice A1 C.J.us.length c2,.int .i64 C.J.parts,.slice A6 C.J.map.length c7,.slice A11 C.J.comb.length c12,.slice A16 C.J.red.length c17,.int .i64 C.J.chunk,.int .i64 C.J.window,.int .i64 C.J.fuel,.slice A21 C.J.marks.length c22,.int .i64 C.w,.int .i64 C.t,.int .i64 C.o] 28] [Aa (Am Ag) (.slice A1 C.J.us.length c2) C.J.us,Aa Af (.slice A6 C.J.map.length c7) C.J.map,Aa Af (.slice A11 C.J.comb.length c12) C.J.comb,Aa Af (.slice A16 C.J.red.length c17) C.J.red,Aa (Ai .i64) (.slice A21 C.J.marks.length c22) C.J.marks]:=H
  refine CG U (Ab (Ae (Ah 2 U (Ac (Z (An (Ay (Ch U U U ?_))))))))
  replace H:=H.nil
  exact Ak ⟨rfl,rfl⟩ H
 refine Ad U (V U U (Bb U U U) (Ah 2 U ?_))
 refine AN (d:=32) U (fun h31=>?_) (fun h31=>?_)
 ·refine Ah 5 U (Ac (Z ?_))
  replace H:Hd _ _ _ [blk b27 [.int .i64 s] 3,blk b26 [.slice A1 C.J.us.length c2,.int .i64 C.J.parts,.slice A6 C.J.map.length c7,.slice A11 C.J.comb.length c12,.slice A16 C.J.red.length c17,.int .i64 C.J.chunk,.int .i64 C.J.window,.int .i64 C.J.fuel,.slice A21 C.J.marks.length c22,.int .i64 C.w,.int .i64 C.t,.int .i64 C.o] 28] [Aa (Am Ag) (.slice A1 C.J.us.length c2) C.J.us,Aa Af (.slice A6 C.J.map.length c7) C.J.map,Aa Af (.slice A11 C.J.comb.length c12) C.J.comb,Aa Af (.slice A16 C.J.red.length c17) C.J.red,Aa (Ai .i64) (.slice A21 C.J.marks.length c22) C.J.marks]:=H
  refine CG U (Ab (Ae (Ah 2 U (Ac (Z (An (Ay (Ch U U U ?_))))))))
  replace H:=H.nil
  exact Ak ⟨rfl,rfl⟩ H
 refine Ad U (V U U (Aj U Lx U) (V U U (Al U AA U (H.cellI 1 U U)) (V U U (Ck U U U) (Ad U (Ac (Z ?_))))))
 replace H:Hd _ _ _ [blk b27 [.int .i64 s] 3,blk b26 [.slice A1 C.J.us.length c2,.int .i64 C.J.parts,.slice A6 C.J.map.length c7,.slice A11 C.J.comb.length c12,.slice A16 C.J.red.length c17,.int .i64 C.J.chunk,.int .i64 C.J.window,.int .i64 C.J.fuel,.slice A21 C.J.marks.length c22,.int .i64 C.w,.int .i64 C.t,.int .i64 C.o] 28] [Aa (Am Ag) (.slice A1 C.J.us.length c2) C.J.us,Aa Af (.slice A6 C.J.map.length c7) C.J.map,Aa Af (.slice A11 C.J.comb.length c12) C.J.comb,Aa Af (.slice A16 C.J.red.length c17) C.J.red,Aa (Ai .i64) (.slice A21 C.J.marks.length c22) C.J.marks]:=H
 refine Ax U (fun h32=>?_) (fun h32=>?_)
 ·refine Ab (Ae (Ah 2 U (Ac (Z (An (Ay (Ch U U U ?_)))))))
  replace H:=H.nil
  exact Ak ⟨rfl,rfl⟩ H
 exact absurd ⟨by first |assumption|exact Classical.not_not.1 (by assumption),by omega,by omega,by omega,by omega⟩ hgo
theorem VQ (vS:Value) (vM:Value) (vC:Value) (vR:Value) (vK:Value) (C:Cf) (s:Nat) (att:Int) (hC:CP C) (hO:B8 C.J) (hgo:s<C.J.us.length∧1≤att∧att≤C.t):
    Cn Tryz.prog 27 [.agg #[vS,.int .i64 C.J.parts,vM,vC,vR,.int .i64 C.J.chunk,.int .i64 C.J.window,.int .i64 C.J.fuel,vK,.int .i64 C.w,.int .i64 C.t,.int .i64 C.o],.int .i64 ((s:Nat):Int),.int .i64 att] [] [Aa (Am Ag) vS C.J.us,Aa Af vM C.J.map,Aa Af vC C.J.comb,Aa Af vR C.J.red,Aa (Ai .i64) vK C.J.marks,gl] (fun v Bs=>∃ b:Nat,v=.tuple #[.pointer (some ⟨b,0,none⟩),.int .i64 0]∧Bs=[Cg b C.J (Df dg C.J s att)]):=by
 intro w0 F0 H
 obtain ⟨A1,c2,rfl,hc3,hm4,hp5⟩:=H.fR 0 rfl
 obtain ⟨A6,c7,rfl,hc8,hm9,hp10⟩:=H.fR 1 rfl
 obtain ⟨A11,c12,rfl,hc13,hm14,hp15⟩:=H.fR 2 rfl
 obtain ⟨A16,c17,rfl,hc18,hm19,hp20⟩:=H.fR 3 rfl
 obtain ⟨A21,c22,rfl,hc23,hm24,hp25⟩:=H.fR 4 rfl
 refine enter Tryz.func27 U U (Nat.le_of_ble_eq_true U) (Ab (Ae (Ct U U U U H (fun b26 w H=>(Ct U U U U H (fun b27 w H=>(Ah 2 U (Ac (Z ?_)))))))))
 replace H:Hd _ _ _ [blk b27 [.int .i64 ((s:Nat):Int)] 3,blk b26 [.slice A1 C.J.us.length c2,.int .i64 C.J.parts,.slice A6 C.J.map.length c7,.slice A11 C.J.comb.length c12,.slice A16 C.J.red.length c17,.int .i64 C.J.chunk,.int .i64 C.J.window,.int .i64 C.J.fuel,.slice A21 C.J.marks.length c22,.int .i64 C.w,.int .i64 C.t,.int .i64 C.o] 28] [Aa (Am Ag) (.slice A1 C.J.us.length c2) C.J.us,Aa Af (.slice A6 C.J.map.length c7) C.J.map,Aa Af (.slice A11 C.J.comb.length c12) C.J.comb,Aa Af (.slice A16 C.J.red.length c17) C.J.red,Aa (Ai .i64) (.slice A21 C.J.marks.length c22) C.J.marks,gl]:=H
 refine Ab (Ab (Ae (V U U (Bo (cs:=[.slice A1 C.J.us.length c2,.int .i64 C.J.parts,.slice A6 C.J.map.length c7,.slice A11 C.J.comb.length c12,.slice A16 C.J.red.length c17,.int .i64 C.J.chunk,.int .i64 C.J.window,.int .i64 C.J.fuel,.slice A21 C.J.marks.length c22,.int .i64 C.w,.int .i64 C.t,.int .i64 C.o]) U DC U U (H.cellsI 1 U U)) (sc (IQ (.slice A1 C.J.us.length c2) (.slice A6 C.J.map.length c7) (.slice A11 C.J.comb.length c12) (.slice A16 C.J.red.length c17) (.slice A21 C.J.marks.length c22) C) H (lR 0 U (lR 1 U (lR 2 U (lR 3 U (lR 4 U l0))))) U U (Au IL U U) ?_))))
 rintro _ _ w ⟨rfl,rfl⟩ H
 refine V U U (Ea U U) (Ad U ?_)
 refine AN (d:=16) U (fun h28=>?_) (fun h28=>?_)
 ·first |exact (h28 hC).elim|(exfalso;omega)
 refine V U U (Al U AA U (H.cellI 0 U U)) (V U U (Bb U U U) (Ah 2 U ?_))
 refine AN (d:=20) U (fun h29=>?_) (fun h29=>?_)
 ·first |exact (h29 hC).elim|(exfalso;omega)
 refine V U U (Al U AA U (H.cellI 0 U U)) (V U U (Aj U CV U) (V U U (Aj U DT U) (V U U (Al U DX U (H.cellI 1 U U)) (V U U (Bc U Ei U) (V U U (CL U U U) (Ah 2 U ?_))))))
 refine AN (d:=28) U (fun h30=>?_) (fun h30=>?_)
 ·first |exact (h30 hC).elim|(exfalso;omega)
 refine Ad U (V U U (Bb U U U) (Ah 2 U ?_))
 refine AN (d:=32) U (fun h31=>?_) (fun h31=>?_)
 ·first |exact (h31 hC).elim|(exfalso;omega)
 refine Ad U (V U U (Aj U Lx U) (V U U (Al U AA U (H.cellI 1 U U)) (V U U (Ck U U U) (Ad U (Ac (Z ?_))))))
 replace H:Hd _ _ _ [blk b27 [.int .i64 ((s:Nat):Int)] 3,blk b26 [.slice A1 C.J.us.length c2,.int .i64 C.J.parts,.slice A6 C.J.map.length c7,.slice A11 C.J.comb.length c12,.slice A16 C.J.red.length c17,.int .i64 C.J.chunk,.int .i64 C.J.window,.int .i64 C.J.fuel,.slice A21 C.J.marks.length c22,.int .i64 C.w,.int .i64 C.t,.int .i64 C.o] 28] [Aa (Am Ag) (.slice A1 C.J.us.length c2) C.J.us,Aa Af (.slice A6 C.J.map.length c7) C.J.map,Aa Af (.slice A11 C.J.comb.length c12) C.J.comb,Aa Af (.slice A16 C.J.red.length c17) C.J.red,Aa (Ai .i64) (.slice A21 C.J.marks.length c22) C.J.marks,gl]:=H
 refine Ax U (fun h32=>?_) (fun h32=>?_)
 ·first |exact (h32 hC).elim|(exfalso;omega)
 refine Av (Z (Ab (Ae (V U U (Bo (cs:=[.slice A1 C.J.us.length c2,.int .i64 C.J.parts,.slice A6 C.J.map.length c7,.slice A11 C.J.comb.length c12,.slice A16 C.J.red.length c17,.int .i64 C.J.chunk,.int .i64 C.J.window,.int .i64 C.J.fuel,.slice A21 C.J.marks.length c22,.int .i64 C.w,.int .i64 C.t,.int .i64 C.o]) U DC U U (H.cellsI 1 U U)) (sc (Mf (.slice A1 C.J.us.length c2) (.slice A6 C.J.map.length c7) (.slice A11 C.J.comb.length c12) (.slice A16 C.J.red.length c17) (.slice A21 C.J.marks.length c22) C (by first |assumption|omega)) H (lR 0 U (lR 1 U (lR 2 U (lR 3 U (lR 4 U l0))))) U U (Au LX U U) ?_)))))
 rintro _ _ w ⟨J33,vS34,vM35,vC36,vR37,vK38,rfl,rfl,hf39⟩ H
 have hsj:=hf39
 have hJ:B8 J33:=hsj.symm.ok hO
 have hs:s<J33.us.length:=by have:=hsj.len;omega
 have hpt:=hJ.parts
 have hwi:=hJ.window1
 have hcl:(Bt dg J33 s att).length≤1000:=by rw [NP];split<;>omega
 obtain ⟨A40,c41,rfl,hc42,hm43,hp44⟩:=H.fA 0 rfl
 obtain ⟨A45,c46,rfl,hc47,hm48,hp49⟩:=H.fA 1 rfl
 obtain ⟨A50,c51,rfl,hc52,hm53,hp54⟩:=H.fA 2 rfl
 obtain ⟨A55,c56,rfl,hc57,hm58,hp59⟩:=H.fA 3 rfl
 obtain ⟨A60,c61,rfl,hc62,hm63,hp64⟩:=H.fA 4 rfl
 replace H:=H.p6
 refine BH U U U DC U U H U (Nat.le_of_ble_eq_true U) (fun u hu=>by simp [Value.cells] at hu;rcases hu with rfl|rfl|rfl|rfl|rfl|rfl|rfl|rfl|rfl|rfl|rfl|rfl<;>rfl) (fun w H=>?_)
 replace H:Hd _ _ _ [blk b26 [.slice A40 J33.us.length c41,.int .i64 J33.parts,.slice A45 J33.map.length c46,.slice A50 J33.comb.length c51,.slice A55 J33.red.length c56,.int .i64 J33.chunk,.int .i64 J33.window,.int .i64 J33.fuel,.slice A60 J33.marks.length c61,.int .i64 C.w,.int .i64 C.t,.int .i64 C.o] 28,Y (Am Ag) (.slice A40 J33.us.length c41) J33.us,Y Af (.slice A45 J33.map.length c46) J33.map,Y Af (.slice A50 J33.comb.length c51) J33.comb,Y Af (.slice A55 J33.red.length c56) J33.red,Y (Ai .i64) (.slice A60 J33.marks.length c61) J33.marks,blk b27 [.int .i64 ((s:Nat):Int)] 3] [Aa (Am Ag) (.slice A1 C.J.us.length c2) C.J.us,Aa Af (.slice A6 C.J.map.length c7) C.J.map,Aa Af (.slice A11 C.J.comb.length c12) C.J.comb,Aa Af (.slice A16 C.J.red.length c17) C.J.red,Aa (Ai .i64) (.slice A21 C.J.marks.length c22) C.J.marks,gl]:=H
 refine Ac (Z (Ab (Ae (V U U (Bo (cs:=[.slice A40 J33.us.length c41,.int .i64 J33.parts,.slice A45 J33.map.length c46,.slice A50 J33.comb.length c51,.slice A55 J33.red.length c56,.int .i64 J33.chunk,.int .i64 J33.window,.int .i64 J33.fuel,.slice A60 J33.marks.length c61,.int .i64 C.w,.int .i64 C.t,.int .i64 C.o]) U DC U U (H.cellsI 0 U U)) (V U U (Al U AA U (H.cellI 6 U U)) (Ad U (V U U (CR (parts:=[(0,.tmp 40),(1,.tmp 41),(2,.tmp 42)]) (vs:=[.agg #[.slice A40 J33.us.length c41,.int .i64 J33.parts,.slice A45 J33.map.length c46,.slice A50 J33.comb.length c51,.slice A55 J33.red.length c56,.int .i64 J33.chunk,.int .i64 J33.window,.int .i64 J33.fuel,.slice A60 J33.marks.length c61,.int .i64 C.w,.int .i64 C.t,.int .i64 C.o],.int .i64 ((s:Nat):Int),.int .i64 att]) (cs:=[.slice A40 J33.us.length c41,.int .i64 J33.parts,.slice A45 J33.map.length c46,.slice A50 J33.comb.length c51,.slice A55 J33.red.length c56,.int .i64 J33.chunk,.int .i64 J33.window,.int .i64 J33.fuel,.slice A60 J33.marks.length c61,.int .i64 C.w,.int .i64 C.t,.int .i64 C.o,.int .i64 ((s:Nat):Int),.int .i64 att,.int .i64 0,.pointer none,.slice none 0 0]) U RJ U U) ?_)))))))
 refine Ct U U U U H (fun b65 w H=>(Dr U U U aP H (fun b66 w H=>(BH U U U FC U U H U (Nat.le_of_ble_eq_true U) (fun u hu=>by simp [Value.cells] at hu;subst hu;rfl) (fun w H=>?_)))))
 replace H:=H.h2 (A:=blk b66 [.pointer (some ⟨b65,0,none⟩)] 44) (B:=blk b65 [.slice A40 J33.us.length c41,.int .i64 J33.parts,.slice A45 J33.map.length c46,.slice A50 J33.comb.length c51,.slice A55 J33.red.length c56,.int .i64 J33.chunk,.int .i64 J33.window,.int .i64 J33.fuel,.slice A60 J33.marks.length c61,.int .i64 C.w,.int .i64 C.t,.int .i64 C.o,.int .i64 ((s:Nat):Int),.int .i64 att,.int .i64 0,.pointer none,.slice none 0 0] 164)
 refine Ac (Z (Ab ?_))
 replace H:=H.p8.p8.p8.p8.p8.p8.p8.p7
 refine B3 (.e 0 (.e 1 (.m 2 (.e 3 (.e 4 (.m 5 .z)))))) (fun w=>∃ Ar,Hd w0 F0 w (blk b66 [.pointer (some ⟨b65,0,none⟩)] 44::blk b26 [.slice A40 J33.us.length c41,.int .i64 J33.parts,.slice A45 J33.map.length c46,.slice A50 J33.comb.length c51,.slice A55 J33.red.length c56,.int .i64 J33.chunk,.int .i64 J33.window,.int .i64 J33.fuel,.slice A60 J33.marks.length c61,.int .i64 C.w,.int .i64 C.t,.int .i64 C.o] 28::Y (Am Ag) (.slice A40 J33.us.length c41) J33.us::Y Af (.slice A45 J33.map.length c46) J33.map::Y Af (.slice A50 J33.comb.length c51) J33.comb::Y Af (.slice A55 J33.red.length c56) J33.red::Y (Ai .i64) (.slice A60 J33.marks.length c61) J33.marks::blk b27 [.int .i64 ((s:Nat):Int)] 3::Ar) [Aa (Am Ag) (.slice A1 C.J.us.length c2) C.J.us,Aa Af (.slice A6 C.J.map.length c7) C.J.map,Aa Af (.slice A11 C.J.comb.length c12) C.J.comb,Aa Af (.slice A16 C.J.red.length c17) C.J.red,Aa (Ai .i64) (.slice A21 C.J.marks.length c22) C.J.marks,gl]) mo (by kernel_rfl) (fun w H=>⟨_,H⟩) H (fun w H=>?_)
 refine Ao U U U (fun w ⟨Ar,H⟩=>Al U FC U (H.cellI 0 U U)) (Ao U U U (fun w ⟨Ar,H⟩=>Hh (fs:=#[]) (cs:=#[.pointer (some ⟨b26,0,none⟩),.pointer (some ⟨b27,0,none⟩),.pointer (some ⟨b66,0,none⟩)]) U U U) (AR U (sc (VK b26 b27 b66) H l0 U U (Au Po U U) ?_)))
 rintro _ _ w ⟨cb67,rfl,rfl⟩ H
 replace H:=H.h1 (A:=blk cb67 [.int .u32 0,.int .i32 0,.int .u32 0,.int .u32 0,.func (.func 96) #[] #[.pointer (some ⟨b26,0,none⟩),.pointer (some ⟨b27,0,none⟩),.pointer (some ⟨b66,0,none⟩)],.string ⟨#[]⟩] 234)|>.p8|>.p8|>.p8|>.p8|>.p8|>.p8|>.p8|>.p8
 refine AI ⟨_,H⟩ (Ao U U U (fun w ⟨Ar,H⟩=>AH U U) (Ao U U U (fun w ⟨Ar,H⟩=>Aj U JI U) (AR U ?_)))
 replace H:=H.p9
 refine BH U U U DO U U H U (Nat.le_of_ble_eq_true U) (fun u hu=>by simp [Value.cells] at hu;subst hu;rfl) (fun w H=>?_)
 replace H:=H.h1 (A:=blk b65 [.slice A40 J33.us.length c41,.int .i64 J33.parts,.slice A45 J33.map.length c46,.slice A50 J33.comb.length c51,.slice A55 J33.red.length c56,.int .i64 J33.chunk,.int .i64 J33.window,.int .i64 J33.fuel,.slice A60 J33.marks.length c61,.int .i64 C.w,.int .i64 C.t,.int .i64 C.o,.int .i64 ((s:Nat):Int),.int .i64 att,.int .i64 0,.pointer (some ⟨cb67,0,none⟩),.slice none 0 0] 164)|>.p8|>.p8|>.p8|>.p8|>.p8|>.p8|>.p8|>.p8
 refine AI ⟨_,H⟩ (BM (Z (Ab (Ab (Ae (V U U (Al U FC U (H.cellI 0 U U)) ?_))))))
 replace H:=H.p8.p9
 refine sc (VF b65 b26 b27 b66 cb67 (.slice A40 J33.us.length c41) (.slice A45 J33.map.length c46) (.slice A50 J33.comb.length c51) (.slice A55 J33.red.length c56) (.slice A60 J33.marks.length c61) J33 C.w C.t C.o s att hJ hs) H (lA 1 U (fun _ h=>h) (lA 7 U (fun _ h=>h) (lA 0 U (fun _ h=>h) (lA 2 U BI (lA 3 U BI (lA 4 U BI (lA 5 U BI (lA 6 U BI (lR 5 U l0))))))))) U U (Au LT U U) ?_
 rintro v68 _ w rfl H
 obtain ⟨A69,c70,rfl,hc71,hm72,hp73⟩:=H.fA 0 rfl
 refine V U U (Bc U EP U) (Ad U (Ac (Z ?_)))
 replace H:Hd _ _ _ [Y (Ai .i64) (.slice A69 ((Bt dg J33 s att).length) c70) (Bt dg J33 s att),blk cb67 [.int .u32 1,.int .i32 0,.int .u32 0,.int .u32 1,.func (.func 96) #[] #[.pointer (some ⟨b26,0,none⟩),.pointer (some ⟨b27,0,none⟩),.pointer (some ⟨b66,0,none⟩)],.string (AZ (Az dg J33 s).1)] 234,blk b65 [.slice A40 J33.us.length c41,.int .i64 J33.parts,.slice A45 J33.map.length c46,.slice A50 J33.comb.length c51,.slice A55 J33.red.length c56,.int .i64 J33.chunk,.int .i64 J33.window,.int .i64 J33.fuel,.slice A60 J33.marks.length c61,.int .i64 C.w,.int .i64 C.t,.int .i64 C.o,.int .i64 ((s:Nat):Int),.int .i64 att,.int .i64 ((Az dg J33 s).2),.pointer (some ⟨cb67,0,none⟩),.slice none 0 0] 164,blk b66 [.pointer (some ⟨b65,0,none⟩)] 44,blk b26 [.slice A40 J33.us.length c41,.int .i64 J33.parts,.slice A45 J33.map.length c46,.slice A50 J33.comb.length c51,.slice A55 J33.red.length c56,.int .i64 J33.chunk,.int .i64 J33.window,.int .i64 J33.fuel,.slice A60 J33.marks.length c61,.int .i64 C.w,.int .i64 C.t,.int .i64 C.o] 28,Y (Am Ag) (.slice A40 J33.us.length c41) J33.us,Y Af (.slice A45 J33.map.length c46) J33.map,Y Af (.slice A50 J33.comb.length c51) J33.comb,Y Af (.slice A55 J33.red.length c56) J33.red,Y (Ai .i64) (.slice A60 J33.marks.length c61) J33.marks,blk b27 [.int .i64 ((s:Nat):Int)] 3] [Aa (Am Ag) (.slice A1 C.J.us.length c2) C.J.us,Aa Af (.slice A6 C.J.map.length c7) C.J.map,Aa Af (.slice A11 C.J.comb.length c12) C.J.comb,Aa Af (.slice A16 C.J.red.length c17) C.J.red,Aa (Ai .i64) (.slice A21 C.J.marks.length c22) C.J.marks,gl]:=H
 refine AQ ?_
 replace H:=H.p4.p9.p9.p9.p9.p9.p8.p8.p8.k10.newnil Cq
 replace H:=Hd.tellK (ys:=([]:List (Nat×B5)).map Prod.fst) H rfl
 replace H:=Hd.big0 (Ci 239) H
 replace H:=H.h2 (A:=Bn (Ci 239) ([]:List (Nat×B5))) (B:=Y Cq (.slice none 0 0) (([]:List (Nat×B5)).map Prod.fst))
 refine BL (σ:=Nat×Value×List (Nat×B5)) (fun (k,vw,ws)=>[(3,.pointer (some ⟨b26,0,none⟩)),(6,.pointer none),(7,.int .i64 0),(8,.pointer (some ⟨b66,0,none⟩)),(51,.slice A69 ((Bt dg J33 s att).length) c70),(52,.int .i64 (((Bt dg J33 s att).length:Nat):Int)),(53,.int .i64 ((k:Nat):Int))]) (fun (k,vw,ws) w=>(Hd w0 F0 w [Bn (Ci 239) ws,Y Cq vw (ws.map Prod.fst),Y (Ai .i64) (.slice A69 ((Bt dg J33 s att).length) c70) (Bt dg J33 s att),blk cb67 [.int .u32 1,.int .i32 0,.int .u32 0,.int .u32 1,.func (.func 96) #[] #[.pointer (some ⟨b26,0,none⟩),.pointer (some ⟨b27,0,none⟩),.pointer (some ⟨b66,0,none⟩)],.string (AZ (Az dg J33 s).1)] 234,blk b65 [.slice A40 J33.us.length c41,.int .i64 J33.parts,.slice A45 J33.map.length c46,.slice A50 J33.comb.length c51,.slice A55 J33.red.length c56,.int .i64 J33.chunk,.int .i64 J33.window,.int .i64 J33.fuel,.slice A60 J33.marks.length c61,.int .i64 C.w,.int .i64 C.t,.int .i64 C.o,.int .i64 ((s:Nat):Int),.int .i64 att,.int .i64 ((Az dg J33 s).2),.pointer (some ⟨cb67,0,none⟩),vw] 164,Y (Am Ag) (.slice A40 J33.us.length c41) J33.us,Y Af (.slice A45 J33.map.length c46) J33.map,Y Af (.slice A50 J33.comb.length c51) J33.comb,Y Af (.slice A55 J33.red.length c56) J33.red,Y (Ai .i64) (.slice A60 J33.marks.length c61) J33.marks,blk b26 [.slice A40 J33.us.length c41,.int .i64 J33.parts,.slice A45 J33.map.length c46,.slice A50 J33.comb.length c51,.slice A55 J33.red.length c56,.int .i64 J33.chunk,.int .i64 J33.window,.int .i64 J33.fuel,.slice A60 J33.marks.length c61,.int .i64 C.w,.int .i64 C.t,.int .i64 C.o] 28,blk b66 [.pointer (some ⟨b65,0,none⟩)] 44] [Aa (Am Ag) (.slice A1 C.J.us.length c2) C.J.us,Aa Af (.slice A6 C.J.map.length c7) C.J.map,Aa Af (.slice A11 C.J.comb.length c12) C.J.comb,Aa Af (.slice A16 C.J.red.length c17) C.J.red,Aa (Ai .i64) (.slice A21 C.J.marks.length c22) C.J.marks,gl])∧(k≤(Bt dg J33 s att).length)∧(ws.map Prod.snd=((Bt dg J33 s att).take k).map (Rp J33))) (fun (k,vw,ws)=>(Bt dg J33 s att).length - k) (0,.slice none 0 0,[]) ⟨rfl,rfl,rfl,rfl,rfl,rfl,rfl,trivial⟩ ⟨H,Nat.zero_le _,rfl⟩ ?_
 rintro ⟨k,vw,ws⟩ w ⟨H,hk,hws⟩
 have hwl:=congrArg List.length hws
 rw [List.length_map,List.length_map,List.length_take] at hwl
 have hwf:(ws.map Prod.fst).length=ws.length:=List.length_map ..
 refine Ab (Ae (V U U (Bb U U U) (Ac (Z (Ab ?_)))))
 refine Ax U (fun h74=>?_) (fun h74=>?_)
 ·refine Av (Z (Ab (AQ (Ab (Ae ?_)))))
  obtain ⟨x75,hx76⟩:∃ z9,(Bt dg J33 s att)[k]?=some z9:=⟨_,List.getElem?_eq_getElem (show k<(Bt dg J33 s att).length by omega)⟩
  have th77:=H.thA 2 rfl hx76
  refine V U U (AY (p:=AS A69+k*1) U DI U U (by omega) (by omega) th77 U) (V U U (Al U AA U (H.elA 2 U hx76 (q:=0) U U)) (Ad U (Ac (Z (Ab ?_)))))
  have hci:=NO (Cb hx76)
  refine Ae (Ad U (V U U (Aj U CV U) (V U U (Aj U Om U) (V U U (Al U AA U (H.cellI 10 U U)) (sc (Z8 x75 J33.window (by omega)) H l0 U U (Au Vr U U) ?_)))))
  rintro _ _ w ⟨b78,rfl,rfl⟩ H
  replace H:=H.h6 (A:=blk b78 [.int .i64 x75,.int .i64 J33.window,.int .i64 0,.int .i64 0] 239) (B:=Bn (Ci 239) ws) (C:=Y Cq vw (ws.map Prod.fst)) (F:=blk b65 [.slice A40 J33.us.length c41,.int .i64 J33.parts,.slice A45 J33.map.length c46,.slice A50 J33.comb.length c51,.slice A55 J33.red.length c56,.int .i64 J33.chunk,.int .i64 J33.window,.int .i64 J33.fuel,.slice A60 J33.marks.length c61,.int .i64 C.w,.int .i64 C.t,.int .i64 C.o,.int .i64 ((s:Nat):Int),.int .i64 att,.int .i64 ((Az dg J33 s).2),.pointer (some ⟨cb67,0,none⟩),vw] 164)
  refine Ah 5 U (Ac (Z ?_))
  replace H:=H.pick 12 rfl|>.pick 12 rfl|>.pick 12 rfl|>.pick 12 rfl|>.pick 12 rfl|>.pick 12 rfl|>.pick 12 rfl|>.pick 11 rfl|>.pick 11 rfl|>.pick 10 rfl|>.pick 10 rfl
  refine B3 (.e 0 (.e 1 (.e 2 (.e 3 (.e 5 (.b 4 6 (.m 6 (.m 7 (.e 8 (.e 9 (.m 10 .z))))) (.m 4 (.m 7 (.e 8 (.e 9 (.m 10 .z))))))))))) (fun w=>∃ Ar,Hd w0 F0 w (blk b78 [.int .i64 x75,.int .i64 J33.window,.int .i64 0,.int .i64 0] 239::Bn (Ci 239) ws::Y (Ai .i64) (.slice A69 ((Bt dg J33 s att).length) c70) (Bt dg J33 s att)::blk cb67 [.int .u32 1,.int .i32 0,.int .u32 0,.int .u32 1,.func (.func 96) #[] #[.pointer (some ⟨b26,0,none⟩),.pointer (some ⟨b27,0,none⟩),.pointer (some ⟨b66,0,none⟩)],.string (AZ (Az dg J33 s).1)] 234::Y (Am Ag) (.slice A40 J33.us.length c41) J33.us::Y Af (.slice A45 J33.map.length c46) J33.map::Y Af (.slice A50 J33.comb.length c51) J33.comb::Y Af (.slice A55 J33.red.length c56) J33.red::Y (Ai .i64) (.slice A60 J33.marks.length c61) J33.marks::blk b26 [.slice A40 J33.us.length c41,.int .i64 J33.parts,.slice A45 J33.map.length c46,.slice A50 J33.comb.length c51,.slice A55 J33.red.length c56,.int .i64 J33.chunk,.int .i64 J33.window,.int .i64 J33.fuel,.slice A60 J33.marks.length c61,.int .i64 C.w,.int .i64 C.t,.int .i64 C.o] 28::blk b66 [.pointer (some ⟨b65,0,none⟩)] 44::Ar) [Aa (Am Ag) (.slice A1 C.J.us.length c2) C.J.us,Aa Af (.slice A6 C.J.map.length c7) C.J.map,Aa Af (.slice A11 C.J.comb.length c12) C.J.comb,Aa Af (.slice A16 C.J.red.length c17) C.J.red,Aa (Ai .i64) (.slice A21 C.J.marks.length c22) C.J.marks,gl]) mo (by kernel_rfl) (fun w H=>⟨_,H⟩) H (fun w H=>?_)
  refine Ao U U U (fun w ⟨Ar,H⟩=>Al U FC U (H.cellI 10 U U)) (Ao U U U (fun w ⟨Ar,H⟩=>Al U FC U (H.cellI 10 U U)) (Ao U U U (fun w ⟨Ar,H⟩=>AH U U) (Ao U U U (fun w ⟨Ar,H⟩=>Aj U JJ U) (At U ?_))))
  refine HE U U ?_ ?_
  ·refine V U U (Al U Ji U (H.cellI 12 U U)) (AI ⟨_,H⟩ (AR U (BX (parts:=[(0,.tmp 70)]) (vs:=[.pointer (some ⟨b78,0,none⟩)]) (cs:=[.pointer (some ⟨b78,0,none⟩)]) U U U Ja KQ U (by decide) (by decide) U U H (fun b79 w H=>?_))))
   replace H:=H.h1 (A:=blk b79 [.pointer (some ⟨b78,0,none⟩)] 168)|>.pick 11 rfl|>.pick 11 rfl|>.pick 11 rfl|>.pick 11 rfl|>.pick 11 rfl|>.pick 11 rfl|>.pick 11 rfl|>.pick 11 rfl|>.pick 11 rfl|>.pick 11 rfl|>.pick 11 rfl
   refine AI ⟨_,H⟩ (AR U ?_)
   replace H:=H.pick 12 rfl
   refine Cy (xs:=ws.map Prod.fst) (ys:=[b78]) U U U Ja KQ U (by decide) U U H (by first |omega|(simp only [List.length_append,List.length_cons,List.length_nil];omega)) (fun F hA hR=>Cm (hA _ (List.mem_of_getElem? (i:=11) U)) U (by decide) (AV.flat_eq.2 U)) (fun v80 w H=>?_)
   replace H:=H.h1 (A:=Y Cq v80 ((ws.map Prod.fst)++[b78]))|>.pick 11 rfl|>.pick 11 rfl|>.pick 11 rfl|>.pick 11 rfl|>.pick 11 rfl|>.pick 11 rfl|>.pick 11 rfl|>.pick 11 rfl|>.pick 11 rfl|>.pick 11 rfl|>.pick 11 rfl
   refine AI ⟨_,H⟩ (Ao U U U (fun w ⟨Ar,H⟩=>AH U U) (Ao U U U (fun w ⟨Ar,H⟩=>Aj U JJ U) (AR U ?_)))
   obtain ⟨A81,c82,rfl,hc83,hm84,hp85⟩:=H.fA 11 rfl
   replace H:=H.pick 13 rfl
   refine BH U U U Ji U U H U (Nat.le_of_ble_eq_true U) (fun u hu=>by simp [Value.cells] at hu;subst hu;rfl) (fun w H=>?_)
   replace H:Hd _ _ _ [blk b65 [.slice A40 J33.us.length c41,.int .i64 J33.parts,.slice A45 J33.map.length c46,.slice A50 J33.comb.length c51,.slice A55 J33.red.length c56,.int .i64 J33.chunk,.int .i64 J33.window,.int .i64 J33.fuel,.slice A60 J33.marks.length c61,.int .i64 C.w,.int .i64 C.t,.int .i64 C.o,.int .i64 ((s:Nat):Int),.int .i64 att,.int .i64 ((Az dg J33 s).2),.pointer (some ⟨cb67,0,none⟩),.slice A81 (((ws.map Prod.fst)++[b78]).length) c82] 164,blk b78 [.int .i64 x75,.int .i64 J33.window,.int .i64 0,.int .i64 0] 239,Bn (Ci 239) ws,Y (Ai .i64) (.slice A69 ((Bt dg J33 s att).length) c70) (Bt dg J33 s att),blk cb67 [.int .u32 1,.int .i32 0,.int .u32 0,.int .u32 1,.func (.func 96) #[] #[.pointer (some ⟨b26,0,none⟩),.pointer (some ⟨b27,0,none⟩),.pointer (some ⟨b66,0,none⟩)],.string (AZ (Az dg J33 s).1)] 234,Y (Am Ag) (.slice A40 J33.us.length c41) J33.us,Y Af (.slice A45 J33.map.length c46) J33.map,Y Af (.slice A50 J33.comb.length c51) J33.comb,Y Af (.slice A55 J33.red.length c56) J33.red,Y (Ai .i64) (.slice A60 J33.marks.length c61) J33.marks,blk b26 [.slice A40 J33.us.length c41,.int .i64 J33.parts,.slice A45 J33.map.length c46,.slice A50 J33.comb.length c51,.slice A55 J33.red.length c56,.int .i64 J33.chunk,.int .i64 J33.window,.int .i64 J33.fuel,.slice A60 J33.marks.length c61,.int .i64 C.w,.int .i64 C.t,.int .i64 C.o] 28,blk b66 [.pointer (some ⟨b65,0,none⟩)] 44,Y Cq (.slice A81 (((ws.map Prod.fst)++[b78]).length) c82) ((ws.map Prod.fst)++[b78]),blk b79 [.pointer (some ⟨b78,0,none⟩)] 168] [Aa (Am Ag) (.slice A1 C.J.us.length c2) C.J.us,Aa Af (.slice A6 C.J.map.length c7) C.J.map,Aa Af (.slice A11 C.J.comb.length c12) C.J.comb,Aa Af (.slice A16 C.J.red.length c17) C.J.red,Aa (Ai .i64) (.slice A21 C.J.marks.length c22) C.J.marks,gl]:=H
   replace H:=H.pick 11 rfl|>.pick 11 rfl|>.pick 11 rfl|>.pick 11 rfl|>.pick 11 rfl|>.pick 11 rfl|>.pick 11 rfl|>.pick 11 rfl|>.pick 11 rfl|>.pick 11 rfl|>.pick 11 rfl
   refine AI ⟨_,H⟩ (BM (AT (Z (Ae (V U U (AU (z:=((k+1:Nat):Int)) U U U (by rw [AB (by omega) (by omega)];omega)) (Ad U (Ac ?_)))))))
   replace H:=H.pick 11 rfl|>.p4|>.p4|>.pick 12 rfl|>.p5|>.p5|>.keep 13
   replace H:=Hd.bigN (f:=Ci 239) (x:=(b78,(⟨x75,J33.window,0,0⟩:B5))) H
   replace H:Hd w0 F0 w [Bn (Ci 239) (ws++[(b78,(⟨x75,J33.window,0,0⟩:B5))]),Y Cq (.slice A81 (((ws.map Prod.fst)++[b78]).length) c82) ((ws++[(b78,(⟨x75,J33.window,0,0⟩:B5))]).map Prod.fst),Y (Ai .i64) (.slice A69 ((Bt dg J33 s att).length) c70) (Bt dg J33 s att),blk cb67 [.int .u32 1,.int .i32 0,.int .u32 0,.int .u32 1,.func (.func 96) #[] #[.pointer (some ⟨b26,0,none⟩),.pointer (some ⟨b27,0,none⟩),.pointer (some ⟨b66,0,none⟩)],.string (AZ (Az dg J33 s).1)] 234,blk b65 [.slice A40 J33.us.length c41,.int .i64 J33.parts,.slice A45 J33.map.length c46,.slice A50 J33.comb.length c51,.slice A55 J33.red.length c56,.int .i64 J33.chunk,.int .i64 J33.window,.int .i64 J33.fuel,.slice A60 J33.marks.length c61,.int .i64 C.w,.int .i64 C.t,.int .i64 C.o,.int .i64 ((s:Nat):Int),.int .i64 att,.int .i64 ((Az dg J33 s).2),.pointer (some ⟨cb67,0,none⟩),.slice A81 (((ws.map Prod.fst)++[b78]).length) c82] 164,Y (Am Ag) (.slice A40 J33.us.length c41) J33.us,Y Af (.slice A45 J33.map.length c46) J33.map,Y Af (.slice A50 J33.comb.length c51) J33.comb,Y Af (.slice A55 J33.red.length c56) J33.red,Y (Ai .i64) (.slice A60 J33.marks.length c61) J33.marks,blk b26 [.slice A40 J33.us.length c41,.int .i64 J33.parts,.slice A45 J33.map.length c46,.slice A50 J33.comb.length c51,.slice A55 J33.red.length c56,.int .i64 J33.chunk,.int .i64 J33.window,.int .i64 J33.fuel,.slice A60 J33.marks.length c61,.int .i64 C.w,.int .i64 C.t,.int .i64 C.o] 28,blk b66 [.pointer (some ⟨b65,0,none⟩)] 44] [Aa (Am Ag) (.slice A1 C.J.us.length c2) C.J.us,Aa Af (.slice A6 C.J.map.length c7) C.J.map,Aa Af (.slice A11 C.J.comb.length c12) C.J.comb,Aa Af (.slice A16 C.J.red.length c17) C.J.red,Aa (Ai .i64) (.slice A21 C.J.marks.length c22) C.J.marks,gl]:=by rw [List.map_append];exact H
   exact Bf (s:=(k,undef,ws)) (k+1,.slice A81 (((ws.map Prod.fst)++[b78]).length) c82,ws++[(b78,(⟨x75,J33.window,0,0⟩:B5))]) ⟨rfl,rfl,rfl,rfl,rfl,rfl,rfl,trivial⟩ ⟨H,by (try dsimp only);omega,by (try dsimp only);rw [List.map_append,hws,Eg hx76,List.map_append];rfl⟩ (by (try dsimp only);omega)
  refine BX (parts:=[(0,.tmp 70)]) (vs:=[.pointer (some ⟨b78,0,none⟩)]) (cs:=[.pointer (some ⟨b78,0,none⟩)]) U U U Ja KQ U (by decide) (by decide) U U H (fun b86 w H=>?_)
  replace H:=H.h1 (A:=blk b86 [.pointer (some ⟨b78,0,none⟩)] 168)|>.pick 11 rfl|>.pick 11 rfl|>.pick 11 rfl|>.pick 11 rfl|>.pick 11 rfl|>.pick 11 rfl|>.pick 11 rfl|>.pick 11 rfl|>.pick 11 rfl|>.pick 11 rfl|>.pick 11 rfl
  refine AI ⟨_,H⟩ (AR U (V U U (Al U Ji U (H.cellI 13 U U)) (AI ⟨_,H⟩ (AR U ?_))))
  replace H:=H.pick 12 rfl
  refine Cy (xs:=ws.map Prod.fst) (ys:=[b78]) U U U Ja KQ U (by decide) U U H (by first |omega|(simp only [List.length_append,List.length_cons,List.length_nil];omega)) (fun F hA hR=>Cm (hA _ (List.mem_of_getElem? (i:=11) U)) U (by decide) (AV.flat_eq.2 U)) (fun v87 w H=>?_)
  replace H:=H.h1 (A:=Y Cq v87 ((ws.map Prod.fst)++[b78]))|>.pick 11 rfl|>.pick 11 rfl|>.pick 11 rfl|>.pick 11 rfl|>.pick 11 rfl|>.pick 11 rfl|>.pick 11 rfl|>.pick 11 rfl|>.pick 11 rfl|>.pick 11 rfl|>.pick 11 rfl
  refine AI ⟨_,H⟩ (Ao U U U (fun w ⟨Ar,H⟩=>AH U U) (Ao U U U (fun w ⟨Ar,H⟩=>Aj U JJ U) (AR U ?_)))
  obtain ⟨A88,c89,rfl,hc90,hm91,hp92⟩:=H.fA 11 rfl
  replace H:=H.pick 13 rfl
  refine BH U U U Ji U U H U (Nat.le_of_ble_eq_true U) (fun u hu=>by simp [Value.cells] at hu;subst hu;rfl) (fun w H=>?_)
  replace H:Hd _ _ _ [blk b65 [.slice A40 J33.us.length c41,.int .i64 J33.parts,.slice A45 J33.map.length c46,.slice A50 J33.comb.length c51,.slice A55 J33.red.length c56,.int .i64 J33.chunk,.int .i64 J33.window,.int .i64 J33.fuel,.slice A60 J33.marks.length c61,.int .i64 C.w,.int .i64 C.t,.int .i64 C.o,.int .i64 ((s:Nat):Int),.int .i64 att,.int .i64 ((Az dg J33 s).2),.pointer (some ⟨cb67,0,none⟩),.slice A88 (((ws.map Prod.fst)++[b78]).length) c89] 164,blk b78 [.int .i64 x75,.int .i64 J33.window,.int .i64 0,.int .i64 0] 239,Bn (Ci 239) ws,Y (Ai .i64) (.slice A69 ((Bt dg J33 s att).length) c70) (Bt dg J33 s att),blk cb67 [.int .u32 1,.int .i32 0,.int .u32 0,.int .u32 1,.func (.func 96) #[] #[.pointer (some ⟨b26,0,none⟩),.pointer (some ⟨b27,0,none⟩),.pointer (some ⟨b66,0,none⟩)],.string (AZ (Az dg J33 s).1)] 234,Y (Am Ag) (.slice A40 J33.us.length c41) J33.us,Y Af (.slice A45 J33.map.length c46) J33.map,Y Af (.slice A50 J33.comb.length c51) J33.comb,Y Af (.slice A55 J33.red.length c56) J33.red,Y (Ai .i64) (.slice A60 J33.marks.length c61) J33.marks,blk b26 [.slice A40 J33.us.length c41,.int .i64 J33.parts,.slice A45 J33.map.length c46,.slice A50 J33.comb.length c51,.slice A55 J33.red.length c56,.int .i64 J33.chunk,.int .i64 J33.window,.int .i64 J33.fuel,.slice A60 J33.marks.length c61,.int .i64 C.w,.int .i64 C.t,.int .i64 C.o] 28,blk b66 [.pointer (some ⟨b65,0,none⟩)] 44,Y Cq (.slice A88 (((ws.map Prod.fst)++[b78]).length) c89) ((ws.map Prod.fst)++[b78]),blk b86 [.pointer (some ⟨b78,0,none⟩)] 168] [Aa (Am Ag) (.slice A1 C.J.us.length c2) C.J.us,Aa Af (.slice A6 C.J.map.length c7) C.J.map,Aa Af (.slice A11 C.J.comb.length c12) C.J.comb,Aa Af (.slice A16 C.J.red.length c17) C.J.red,Aa (Ai .i64) (.slice A21 C.J.marks.length c22) C.J.marks,gl]:=H
  replace H:=H.pick 11 rfl|>.pick 11 rfl|>.pick 11 rfl|>.pick 11 rfl|>.pick 11 rfl|>.pick 11 rfl|>.pick 11 rfl|>.pick 11 rfl|>.pick 11 rfl|>.pick 11 rfl|>.pick 11 rfl
  refine AI ⟨_,H⟩ (BM (AT (Z (Ae (V U U (AU (z:=((k+1:Nat):Int)) U U U (by rw [AB (by omega) (by omega)];omega)) (Ad U (Ac ?_)))))))
  replace H:=H.pick 11 rfl|>.p4|>.p4|>.pick 12 rfl|>.p5|>.p5|>.keep 13
  replace H:=Hd.bigN (f:=Ci 239) (x:=(b78,(⟨x75,J33.window,0,0⟩:B5))) H
  replace H:Hd w0 F0 w [Bn (Ci 239) (ws++[(b78,(⟨x75,J33.window,0,0⟩:B5))]),Y Cq (.slice A88 (((ws.map Prod.fst)++[b78]).length) c89) ((ws++[(b78,(⟨x75,J33.window,0,0⟩:B5))]).map Prod.fst),Y (Ai .i64) (.slice A69 ((Bt dg J33 s att).length) c70) (Bt dg J33 s att),blk cb67 [.int .u32 1,.int .i32 0,.int .u32 0,.int .u32 1,.func (.func 96) #[] #[.pointer (some ⟨b26,0,none⟩),.pointer (some ⟨b27,0,none⟩),.pointer (some ⟨b66,0,none⟩)],.string (AZ (Az dg J33 s).1)] 234,blk b65 [.slice A40 J33.us.length c41,.int .i64 J33.parts,.slice A45 J33.map.length c46,.slice A50 J33.comb.length c51,.slice A55 J33.red.length c56,.int .i64 J33.chunk,.int .i64 J33.window,.int .i64 J33.fuel,.slice A60 J33.marks.length c61,.int .i64 C.w,.int .i64 C.t,.int .i64 C.o,.int .i64 ((s:Nat):Int),.int .i64 att,.int .i64 ((Az dg J33 s).2),.pointer (some ⟨cb67,0,none⟩),.slice A88 (((ws.map Prod.fst)++[b78]).length) c89] 164,Y (Am Ag) (.slice A40 J33.us.length c41) J33.us,Y Af (.slice A45 J33.map.length c46) J33.map,Y Af (.slice A50 J33.comb.length c51) J33.comb,Y Af (.slice A55 J33.red.length c56) J33.red,Y (Ai .i64) (.slice A60 J33.marks.length c61) J33.marks,blk b26 [.slice A40 J33.us.length c41,.int .i64 J33.parts,.slice A45 J33.map.length c46,.slice A50 J33.comb.length c51,.slice A55 J33.red.length c56,.int .i64 J33.chunk,.int .i64 J33.window,.int .i64 J33.fuel,.slice A60 J33.marks.length c61,.int .i64 C.w,.int .i64 C.t,.int .i64 C.o] 28,blk b66 [.pointer (some ⟨b65,0,none⟩)] 44] [Aa (Am Ag) (.slice A1 C.J.us.length c2) C.J.us,Aa Af (.slice A6 C.J.map.length c7) C.J.map,Aa Af (.slice A11 C.J.comb.length c12) C.J.comb,Aa Af (.slice A16 C.J.red.length c17) C.J.red,Aa (Ai .i64) (.slice A21 C.J.marks.length c22) C.J.marks,gl]:=by rw [List.map_append];exact H
  exact Bf (s:=(k,undef,ws)) (k+1,.slice A88 (((ws.map Prod.fst)++[b78]).length) c89,ws++[(b78,(⟨x75,J33.window,0,0⟩:B5))]) ⟨rfl,rfl,rfl,rfl,rfl,rfl,rfl,trivial⟩ ⟨H,by (try dsimp only);omega,by (try dsimp only);rw [List.map_append,hws,Eg hx76,List.map_append];rfl⟩ (by (try dsimp only);omega)
 refine BD (AM (AM (BE (Z (Ab (Ae (V U U (Al U FC U (H.cellI 11 U U)) (Ah 2 U (Ac (Z (An (Ch U U U ?_))))))))))))
 replace H:=H.p1.p9.p9.p9.p9.p9.p8.p9.k9.h9 (A:=blk b65 [.slice A40 J33.us.length c41,.int .i64 J33.parts,.slice A45 J33.map.length c46,.slice A50 J33.comb.length c51,.slice A55 J33.red.length c56,.int .i64 J33.chunk,.int .i64 J33.window,.int .i64 J33.fuel,.slice A60 J33.marks.length c61,.int .i64 C.w,.int .i64 C.t,.int .i64 C.o,.int .i64 ((s:Nat):Int),.int .i64 att,.int .i64 ((Az dg J33 s).2),.pointer (some ⟨cb67,0,none⟩),vw] 164) (I:=Y Cq vw (ws.map Prod.fst)) (J:=Bn (Ci 239) ws)
 replace H:=IR b65 C.J (Df dg C.J s att) (.slice A40 J33.us.length c41) (.slice A45 J33.map.length c46) (.slice A50 J33.comb.length c51) (.slice A55 J33.red.length c56) (.slice A60 J33.marks.length c61) J33 C.w C.t C.o cb67 (.func (.func 96) #[] #[.pointer (some ⟨b26,0,none⟩),.pointer (some ⟨b27,0,none⟩),.pointer (some ⟨b66,0,none⟩)]) vw ws ⟨hsj,Wm hsj hws (by omega)⟩ H
 replace H:=H.h1 (A:=Cg b65 C.J (Df dg C.J s att))
 exact Ak ⟨_,rfl,rfl⟩ H
section
variable {P:Program} {ops:Array Oper} {Q:Exit→Act→World→Prop} {rest:List Oper} {n:Nat} {l:BB} {w0 w:World} {F0:AJ} {o:Oper} {As Rs:List SP} {x y:Operand} {t ti:TypeId}
end
section
variable {w0 w:World} {F0:AJ} {As Rs:List SP} {t sb mb:Nat} {st:DP} {kvs:List GF} {k:Int×Int} {v:Value} {us:List (Value×List Ap)}
end
def Ee (r:Nat) (vS:Value) (vM:Value) (vC:Value) (vR:Value) (vK:Value) (J:AC) (cw:Int) (ct:Int) (co:Int) (sb:Nat) (R:AK):SP:=ex fun hv:Nat→Value=>ex fun vs:Value=>ex fun us:List (Value×List Int)=>BZ [BW ((us.map (fun u=>u.2)=R.sets)),blk r (Br vS vM vC vR vK J cw ct co R.part R.ep R.g hv sb vs) 185,Y (Am Ag) vS J.us,Y Af vM J.map,Y Af vC J.comb,Y Af vR J.red,Y (Ai .i64) vK J.marks,BK (R.g) hv,Y (Am (Ai .i64)) vs us,CD 253 sb (R.st)]
theorem X8 (r:Nat) (vS:Value) (vM:Value) (vC:Value) (vR:Value) (vK:Value) (J:AC) (cw:Int) (ct:Int) (co:Int) (sb:Nat) (R:AK) {w0 w:World} {F0:AJ} {As Rs:List SP} (H:Hd w0 F0 w (Ee r vS vM vC vR vK J cw ct co sb R::As) Rs):∃ hv:Nat→Value,∃ vs:Value,∃ us:List (Value×List Int),((us.map (fun u=>u.2)=R.sets))∧Hd w0 F0 w ([blk r (Br vS vM vC vR vK J cw ct co R.part R.ep R.g hv sb vs) 185,Y (Am Ag) vS J.us,Y Af vM J.map,Y Af vC J.comb,Y Af vR J.red,Y (Ai .i64) vK J.marks,BK (R.g) hv,Y (Am (Ai .i64)) vs us,CD 253 sb (R.st)]++As) Rs:=by
 obtain ⟨hv,H⟩:=Hd.exA H
 obtain ⟨vs,H⟩:=Hd.exA H
 obtain ⟨us,H⟩:=Hd.exA H
 exact ⟨hv,vs,us,H.stA.puA⟩
theorem QD (r:Nat) (vS:Value) (vM:Value) (vC:Value) (vR:Value) (vK:Value) (J:AC) (cw:Int) (ct:Int) (co:Int) (sb:Nat) (R:AK) (hv:Nat→Value) (vs:Value) (us:List (Value×List Int)) {w0 w:World} {F0:AJ} {As Rs:List SP} (hp:(us.map (fun u=>u.2)=R.sets)) (H:Hd w0 F0 w ([blk r (Br vS vM vC vR vK J cw ct co R.part R.ep R.g hv sb vs) 185,Y (Am Ag) vS J.us,Y Af vM J.map,Y Af vC J.comb,Y Af vR J.red,Y (Ai .i64) vK J.marks,BK (R.g) hv,Y (Am (Ai .i64)) vs us,CD 253 sb (R.st)]++As) Rs):Hd w0 F0 w (Ee r vS vM vC vR vK J cw ct co sb R::As) Rs:=by
 have H1:=(show Hd w0 F0 w ([BW ((us.map (fun u=>u.2)=R.sets)),blk r (Br vS vM vC vR vK J cw ct co R.part R.ep R.g hv sb vs) 185,Y (Am Ag) vS J.us,Y Af vM J.map,Y Af vC J.comb,Y Af vR J.red,Y (Ai .i64) vK J.marks,BK (R.g) hv,Y (Am (Ai .i64)) vs us,CD 253 sb (R.st)]++As) Rs from H.puI hp).stI
 replace H1:=Hd.exI (A:=fun us:List (Value×List Int)=>BZ [BW ((us.map (fun u=>u.2)=R.sets)),blk r (Br vS vM vC vR vK J cw ct co R.part R.ep R.g hv sb vs) 185,Y (Am Ag) vS J.us,Y Af vM J.map,Y Af vC J.comb,Y Af vR J.red,Y (Ai .i64) vK J.marks,BK (R.g) hv,Y (Am (Ai .i64)) vs us,CD 253 sb (R.st)]) us H1
 replace H1:=Hd.exI (A:=fun vs:Value=>ex fun us:List (Value×List Int)=>BZ [BW ((us.map (fun u=>u.2)=R.sets)),blk r (Br vS vM vC vR vK J cw ct co R.part R.ep R.g hv sb vs) 185,Y (Am Ag) vS J.us,Y Af vM J.map,Y Af vC J.comb,Y Af vR J.red,Y (Ai .i64) vK J.marks,BK (R.g) hv,Y (Am (Ai .i64)) vs us,CD 253 sb (R.st)]) vs H1
 replace H1:=Hd.exI (A:=fun hv:Nat→Value=>ex fun vs:Value=>ex fun us:List (Value×List Int)=>BZ [BW ((us.map (fun u=>u.2)=R.sets)),blk r (Br vS vM vC vR vK J cw ct co R.part R.ep R.g hv sb vs) 185,Y (Am Ag) vS J.us,Y Af vM J.map,Y Af vC J.comb,Y Af vR J.red,Y (Ai .i64) vK J.marks,BK (R.g) hv,Y (Am (Ai .i64)) vs us,CD 253 sb (R.st)]) hv H1
 exact H1
theorem TV (r:Nat) (A:Option Addr) (c:Nat) (vM2:Value) (vC2:Value) (vR2:Value) (vK2:Value) (J2:AC) (cw:Int) (ct:Int) (co:Int) (part:Int) (ep:Int) (R:AK) (hv:Nat→Value) (sb:Nat) (vs:Value) (hred:∀ i∈J2.red,AE i.a) (hf64:AE J2.fuel) (hus6:J2.us.length≤6) (hbp:∀ i,(R.g i).pairs.length≤1000) (hpt:part=R.part) (hep:ep=R.ep):
    Cn Tryz.prog 61 [.pointer (some ⟨r,0,none⟩)] [] [blk r (Br (.slice A J2.us.length c) vM2 vC2 vR2 vK2 J2 cw ct co part ep R.g hv sb vs) 185,BK (R.g) hv,Aa Af vR2 J2.red,gl] (fun v Bs=>∃ u:Value,v=.agg #[.int .i64 ((AF dg J2 R).kind),.int .i64 ((AF dg J2 R).sp),.int .i64 ((AF dg J2 R).att),.int .i64 ((AF dg J2 R).part),.int .i64 ((AF dg J2 R).seq),.int .i64 ((AF dg J2 R).next),.int .i64 ((AF dg J2 R).ep),.int .i64 ((AF dg J2 R).why),u,.slice none 0 0]∧Bs=[Y (Ai .i64) u ((AF dg J2 R).set)]):=by
 intro w0 F0 H
 refine enter Tryz.func61 U U (Nat.le_of_ble_eq_true U) (Ab (Ae (Dr U U U Ir H (fun b1 w H=>(Ac (Z ?_))))))
 replace H:Hd _ _ _ [blk b1 [.int .i64 0,.int .i64 0,.int .i64 0,.int .i64 0,.int .i64 0,.int .i64 0,.int .i64 0,.int .i64 0,.slice none 0 0,.slice none 0 0] 64] [blk r (Br (.slice A J2.us.length c) vM2 vC2 vR2 vK2 J2 cw ct co part ep R.g hv sb vs) 185,BK (R.g) hv,Aa Af vR2 J2.red,gl]:=H
 refine Ab (Ab (Ae (Ad U (V U U (Dn U Io U U) (Ac (Z (B2 U (Av (Z (Ab (Ae (Ad U (sc (WS r A c vM2 vC2 vR2 vK2 J2 cw ct co part ep R hv sb vs (by first |assumption|omega) (by first |assumption|omega) (by first |assumption|omega) (by first |assumption|omega)) H (lR 0 U (lR 1 U (lR 2 U (lR 3 U l0)))) U U (Au Vi U U) ?_)))))))))))))
 rintro _ _ w ⟨u2,rfl,rfl⟩ H
 replace H:=H.h1 (A:=Y Ag u2 ((DM dg J2 R).1))
 refine Ah 7 U (Ac (Z (Ab (Ab (Ae (Ad U (Ac (Z ?_))))))))
 refine DQ (b:=(DM dg J2 R).2.2) U (fun h3=>?_) (fun h3=>?_)
 ·refine Ab (B3 (.e 0 (.e 1 (.e 2 (.e 3 (.e 4 (.e 5 (.e 6 (.e 7 (.e 8 (.e 9 (.m 10 .z))))))))))) (fun w=>∃ Ar,Hd w0 F0 w (Y Ag u2 ((DM dg J2 R).1)::Ar) [blk r (Br (.slice A J2.us.length c) vM2 vC2 vR2 vK2 J2 cw ct co part ep R.g hv sb vs) 185,BK (R.g) hv,Aa Af vR2 J2.red,gl]) mo (by kernel_rfl) (fun w H=>⟨_,H⟩) H (fun w H=>(At U (Ao U U U (fun w ⟨Ar,H⟩=>AH U U) (Ao U U U (fun w ⟨Ar,H⟩=>Aj U Og U) (Ao U U U (fun w ⟨Ar,H⟩=>Al U AA U (H.cellRI 0 U U)) (At U (Ao U U U (fun w ⟨Ar,H⟩=>AH U U) (Ao U U U (fun w ⟨Ar,H⟩=>Aj U Oh U) (Ao U U U (fun w ⟨Ar,H⟩=>Al U AA U (H.cellRI 0 U U)) (At U (Ao U U U (fun w ⟨Ar,H⟩=>CR (parts:=[(0,.const (.int .i64 8)),(3,.tmp 19),(6,.tmp 23),(7,.tmp 24)]) (vs:=[.int .i64 8,.int .i64 part,.int .i64 ep,.int .i64 ((DM dg J2 R).2.1)]) (cs:=[.int .i64 8,.int .i64 0,.int .i64 0,.int .i64 part,.int .i64 0,.int .i64 0,.int .i64 ep,.int .i64 ((DM dg J2 R).2.1),.slice none 0 0,.slice none 0 0]) U GG U U) ?_))))))))))))
  refine AR U ?_
  replace H:=H.p1
  refine BH U U U Fh U U H U (Nat.le_of_ble_eq_true U) (fun u hu=>by simp [Value.cells] at hu;rcases hu with rfl|rfl|rfl|rfl|rfl|rfl|rfl|rfl|rfl|rfl<;>rfl) (fun w H=>?_)
  replace H:=H.h1 (A:=blk b1 [.int .i64 8,.int .i64 0,.int .i64 0,.int .i64 part,.int .i64 0,.int .i64 0,.int .i64 ep,.int .i64 ((DM dg J2 R).2.1),.slice none 0 0,.slice none 0 0] 64)|>.p1
  refine AI ⟨_,H⟩ (BM (Z (An (Ay (Fx (cs:=[.int .i64 8,.int .i64 0,.int .i64 0,.int .i64 part,.int .i64 0,.int .i64 0,.int .i64 ep,.int .i64 ((DM dg J2 R).2.1),.slice none 0 0,.slice none 0 0]) U U Fh U (H.cellsI 1 U U) ?_)))))
  have e:=TX (D:=dg) (J:=J2) (R:=R) (by simpa using h3)
  replace H:=H.newnil (Ai .i64)|>.k1
  exact Ak ⟨(.slice none 0 0),by rw [e,hpt,hep]<;>rfl,by rw [e]<;>rfl⟩ H
 refine Av (Z (Ab (B3 (.e 0 (.e 1 (.e 2 (.e 3 (.e 4 (.e 5 (.e 6 (.e 7 (.e 8 (.m 9 (.e 10 (.m 11 .z)))))))))))) (fun w=>∃ Ar,Hd w0 F0 w (Y Ag u2 ((DM dg J2 R).1)::Ar) [blk r (Br (.slice A J2.us.length c) vM2 vC2 vR2 vK2 J2 cw ct co part ep R.g hv sb vs) 185,BK (R.g) hv,Aa Af vR2 J2.red,gl]) mo (by kernel_rfl) (fun w H=>⟨_,H⟩) H (fun w H=>(At U (Ao U U U (fun w ⟨Ar,H⟩=>AH U U) (Ao U U U (fun w ⟨Ar,H⟩=>Aj U Og U) (Ao U U U (fun w ⟨Ar,H⟩=>Al U AA U (H.cellRI 0 U U)) (At U (Ao U U U (fun w ⟨Ar,H⟩=>AH U U) (Ao U U U (fun w ⟨Ar,H⟩=>Aj U Oh U) (Ao U U U (fun w ⟨Ar,H⟩=>Al U AA U (H.cellRI 0 U U)) (At U (AR U (sc (PM r A c vM2 vC2 vR2 vK2 J2 cw ct co part ep R hv sb vs (by first |assumption|omega)) H (lR 0 U l0) U U (Au Pi U U) ?_)))))))))))))))
 rintro v4 _ w rfl H
 replace H:=H.h1 (A:=Y (Ai .i64) v4 (CZ J2.us.length R))|>.p1
 refine AI ⟨_,H⟩ ?_
 obtain ⟨A5,c6,rfl,hc7,hm8,hp9⟩:=H.fA 1 rfl
 refine Ao U U U (fun w ⟨Ar,H⟩=>CR (parts:=[(0,.const (.int .i64 6)),(3,.tmp 29),(6,.tmp 33),(8,.tmp 35)]) (vs:=[.int .i64 6,.int .i64 part,.int .i64 ep,.slice A5 ((CZ J2.us.length R).length) c6]) (cs:=[.int .i64 6,.int .i64 0,.int .i64 0,.int .i64 part,.int .i64 0,.int .i64 0,.int .i64 ep,.int .i64 0,.slice A5 ((CZ J2.us.length R).length) c6,.slice none 0 0]) U GG U U) (AR U ?_)
 replace H:=H.p2
 refine BH U U U Fh U U H U (Nat.le_of_ble_eq_true U) (fun u hu=>by simp [Value.cells] at hu;rcases hu with rfl|rfl|rfl|rfl|rfl|rfl|rfl|rfl|rfl|rfl<;>rfl) (fun w H=>?_)
 replace H:Hd _ _ _ [blk b1 [.int .i64 6,.int .i64 0,.int .i64 0,.int .i64 part,.int .i64 0,.int .i64 0,.int .i64 ep,.int .i64 0,.slice A5 ((CZ J2.us.length R).length) c6,.slice none 0 0] 64,Y Ag u2 ((DM dg J2 R).1),Y (Ai .i64) (.slice A5 ((CZ J2.us.length R).length) c6) (CZ J2.us.length R)] [blk r (Br (.slice A J2.us.length c) vM2 vC2 vR2 vK2 J2 cw ct co part ep R.g hv sb vs) 185,BK (R.g) hv,Aa Af vR2 J2.red,gl]:=H
 replace H:=H.p1
 refine AI ⟨_,H⟩ (BM (Z (An (Fx (cs:=[.int .i64 6,.int .i64 0,.int .i64 0,.int .i64 part,.int .i64 0,.int .i64 0,.int .i64 ep,.int .i64 0,.slice A5 ((CZ J2.us.length R).length) c6,.slice none 0 0]) U U Fh U (H.cellsI 1 U U) ?_))))
 have e:=TU (D:=dg) (J:=J2) (R:=R) (by simpa using h3)
 replace H:=H.p2.k1
 exact Ak ⟨(.slice A5 ((CZ J2.us.length R).length) c6),by rw [e,hpt,hep]<;>rfl,by rw [e]<;>rfl⟩ H
def FQ (e:Nat) (C:Cf) (R:AK):SP:=ex fun vS2:Value=>ex fun vM2:Value=>ex fun vC2:Value=>ex fun vR2:Value=>ex fun vK2:Value=>ex fun J2:AC=>ex fun sb:Nat=>BZ [BW ((Bd J2 C.J)),Ee e vS2 vM2 vC2 vR2 vK2 J2 C.w C.t C.o sb R]
theorem X7 (e:Nat) (C:Cf) (R:AK) {w0 w:World} {F0:AJ} {As Rs:List SP} (H:Hd w0 F0 w (FQ e C R::As) Rs):∃ vS2:Value,∃ vM2:Value,∃ vC2:Value,∃ vR2:Value,∃ vK2:Value,∃ J2:AC,∃ sb:Nat,((Bd J2 C.J))∧Hd w0 F0 w ([Ee e vS2 vM2 vC2 vR2 vK2 J2 C.w C.t C.o sb R]++As) Rs:=by
 obtain ⟨vS2,H⟩:=Hd.exA H
 obtain ⟨vM2,H⟩:=Hd.exA H
 obtain ⟨vC2,H⟩:=Hd.exA H
 obtain ⟨vR2,H⟩:=Hd.exA H
 obtain ⟨vK2,H⟩:=Hd.exA H
 obtain ⟨J2,H⟩:=Hd.exA H
 obtain ⟨sb,H⟩:=Hd.exA H
 exact ⟨vS2,vM2,vC2,vR2,vK2,J2,sb,H.stA.puA⟩
theorem QC (e:Nat) (C:Cf) (R:AK) (vS2:Value) (vM2:Value) (vC2:Value) (vR2:Value) (vK2:Value) (J2:AC) (sb:Nat) {w0 w:World} {F0:AJ} {As Rs:List SP} (hp:(Bd J2 C.J)) (H:Hd w0 F0 w ([Ee e vS2 vM2 vC2 vR2 vK2 J2 C.w C.t C.o sb R]++As) Rs):Hd w0 F0 w (FQ e C R::As) Rs:=by
 have H1:=(show Hd w0 F0 w ([BW ((Bd J2 C.J)),Ee e vS2 vM2 vC2 vR2 vK2 J2 C.w C.t C.o sb R]++As) Rs from H.puI hp).stI
 replace H1:=Hd.exI (A:=fun sb:Nat=>BZ [BW ((Bd J2 C.J)),Ee e vS2 vM2 vC2 vR2 vK2 J2 C.w C.t C.o sb R]) sb H1
 replace H1:=Hd.exI (A:=fun J2:AC=>ex fun sb:Nat=>BZ [BW ((Bd J2 C.J)),Ee e vS2 vM2 vC2 vR2 vK2 J2 C.w C.t C.o sb R]) J2 H1
 replace H1:=Hd.exI (A:=fun vK2:Value=>ex fun J2:AC=>ex fun sb:Nat=>BZ [BW ((Bd J2 C.J)),Ee e vS2 vM2 vC2 vR2 vK2 J2 C.w C.t C.o sb R]) vK2 H1
 replace H1:=Hd.exI (A:=fun vR2:Value=>ex fun vK2:Value=>ex fun J2:AC=>ex fun sb:Nat=>BZ [BW ((Bd J2 C.J)),Ee e vS2 vM2 vC2 vR2 vK2 J2 C.w C.t C.o sb R]) vR2 H1
 replace H1:=Hd.exI (A:=fun vC2:Value=>ex fun vR2:Value=>ex fun vK2:Value=>ex fun J2:AC=>ex fun sb:Nat=>BZ [BW ((Bd J2 C.J)),Ee e vS2 vM2 vC2 vR2 vK2 J2 C.w C.t C.o sb R]) vC2 H1
 replace H1:=Hd.exI (A:=fun vM2:Value=>ex fun vC2:Value=>ex fun vR2:Value=>ex fun vK2:Value=>ex fun J2:AC=>ex fun sb:Nat=>BZ [BW ((Bd J2 C.J)),Ee e vS2 vM2 vC2 vR2 vK2 J2 C.w C.t C.o sb R]) vM2 H1
 replace H1:=Hd.exI (A:=fun vS2:Value=>ex fun vM2:Value=>ex fun vC2:Value=>ex fun vR2:Value=>ex fun vK2:Value=>ex fun J2:AC=>ex fun sb:Nat=>BZ [BW ((Bd J2 C.J)),Ee e vS2 vM2 vC2 vR2 vK2 J2 C.w C.t C.o sb R]) vS2 H1
 exact H1
def BU (C:Cf) (rl:List (Nat×AK)):SP:=Bn (fun e:Nat×AK=>FQ e.1 C e.2) rl
def B_ (J:AC) (tl:List (Nat×BO)):SP:=Bn (fun e:Nat×BO=>Cg e.1 J e.2) tl
theorem V_ {A B:AC} (h:Bd A B) {b:Nat} {M:BO} {w0 w:World} {F0:AJ} {As Rs:List SP} (H:Hd w0 F0 w (Cg b A M::As) Rs):Hd w0 F0 w (Cg b B M::As) Rs:=by
 obtain ⟨vS,vM,vC,vR,vK,J2,cw,ct,co,cb,fv,vw,ws,⟨hsj,hws⟩,H⟩:=J8 b A M H
 exact IR b B M vS vM vC vR vK J2 cw ct co cb fv vw ws ⟨hsj.trans h,hws⟩ H
theorem KD {tl:List (Nat×BO)} {ts:List BO} (htl:tl.map Prod.snd=ts) {k:Nat} {x:E2} (hx:(tl.map AG)[k]?=some x):∃ e,tl[k]?=some e∧ts[k]?=some e.2∧x=AG e:=by
 rw [List.getElem?_map] at hx
 obtain ⟨e,he,rfl⟩:=Option.map_eq_some_iff.1 hx
 exact ⟨e,he,by rw [←htl,List.getElem?_map,he];rfl,rfl⟩
theorem Tf {tl:List (Nat×BO)} {ts:List BO} (htl:tl.map Prod.snd=ts) {k:Nat} {sp att:Int} (hk:¬ k<(tl.map AG).length) (hn:∀ M∈ts.take k,FJ sp att M=false):ET ts sp att=false:=by
 have h:ts.length≤k:=by rw [←htl,List.length_map];rw [List.length_map] at hk;omega
 rw [List.take_of_length_le h] at hn
 exact Tg hn
theorem Q7 {sp att:Int} {e:Nat×BO} (h:¬ ((AG e).sp=sp∧(AG e).att=att)):FJ sp att e.2=false:=by
 unfold FJ
 rw [←Bool.decide_and]
 exact decide_eq_false h
theorem Zj {sp att:Int} {e:Nat×BO} (h1:(AG e).sp=sp) (h2:(AG e).att=att):FJ sp att e.2=true:=by
 unfold FJ
 rw [←Bool.decide_and]
 exact decide_eq_true ⟨h1,h2⟩
def BT (b:Nat) (C:Cf) (W:Di):SP:=ex fun vS:Value=>ex fun vM:Value=>ex fun vC:Value=>ex fun vR:Value=>ex fun vK:Value=>ex fun J2:AC=>ex fun pv:Value=>ex fun kb:Nat=>ex fun tv:Value=>ex fun rl:List (Nat×AK)=>ex fun tl:List (Nat×BO)=>BZ [BW ((Bd J2 C.J)∧(rl.map Prod.snd=W.rs)∧(tl.map Prod.snd=W.ts)),blk b [vS,.int .i64 J2.parts,vM,vC,vR,.int .i64 J2.chunk,.int .i64 J2.window,.int .i64 J2.fuel,vK,.int .i64 C.w,.int .i64 C.t,.int .i64 C.o,.int .i64 W.ep,pv,.map (some kb),tv,.int .u32 (BA W.over)] 210,Y (Am Ag) vS J2.us,Y Af vM J2.map,Y Af vC J2.comb,Y Af vR J2.red,Y (Ai .i64) vK J2.marks,Y (Ai .i64) pv (rl.map AD),Bq BJ kb (rl.map BN),BU C rl,Y B7 tv (tl.map AG),B_ C.J tl]
theorem GC (b:Nat) (C:Cf) (W:Di) {w0 w:World} {F0:AJ} {As Rs:List SP} (H:Hd w0 F0 w (BT b C W::As) Rs):∃ vS:Value,∃ vM:Value,∃ vC:Value,∃ vR:Value,∃ vK:Value,∃ J2:AC,∃ pv:Value,∃ kb:Nat,∃ tv:Value,∃ rl:List (Nat×AK),∃ tl:List (Nat×BO),((Bd J2 C.J)∧(rl.map Prod.snd=W.rs)∧(tl.map Prod.snd=W.ts))∧Hd w0 F0 w ([blk b [vS,.int .i64 J2.parts,vM,vC,vR,.int .i64 J2.chunk,.int .i64 J2.window,.int .i64 J2.fuel,vK,.int .i64 C.w,.int .i64 C.t,.int .i64 C.o,.int .i64 W.ep,pv,.map (some kb),tv,.int .u32 (BA W.over)] 210,Y (Am Ag) vS J2.us,Y Af vM J2.map,Y Af vC J2.comb,Y Af vR J2.red,Y (Ai .i64) vK J2.marks,Y (Ai .i64) pv (rl.map AD),Bq BJ kb (rl.map BN),BU C rl,Y B7 tv (tl.map AG),B_ C.J tl]++As) Rs:=by
 obtain ⟨vS,H⟩:=Hd.exA H
 obtain ⟨vM,H⟩:=Hd.exA H
 obtain ⟨vC,H⟩:=Hd.exA H
 obtain ⟨vR,H⟩:=Hd.exA H
 obtain ⟨vK,H⟩:=Hd.exA H
 obtain ⟨J2,H⟩:=Hd.exA H
 obtain ⟨pv,H⟩:=Hd.exA H
 obtain ⟨kb,H⟩:=Hd.exA H
 obtain ⟨tv,H⟩:=Hd.exA H
 obtain ⟨rl,H⟩:=Hd.exA H
 obtain ⟨tl,H⟩:=Hd.exA H
 exact ⟨vS,vM,vC,vR,vK,J2,pv,kb,tv,rl,tl,H.stA.puA⟩
theorem Em (b:Nat) (C:Cf) (W:Di) (vS:Value) (vM:Value) (vC:Value) (vR:Value) (vK:Value) (J2:AC) (pv:Value) (kb:Nat) (tv:Value) (rl:List (Nat×AK)) (tl:List (Nat×BO)) {w0 w:World} {F0:AJ} {As Rs:List SP} (hp:(Bd J2 C.J)∧(rl.map Prod.snd=W.rs)∧(tl.map Prod.snd=W.ts)) (H:Hd w0 F0 w ([blk b [vS,.int .i64 J2.parts,vM,vC,vR,.int .i64 J2.chunk,.int .i64 J2.window,.int .i64 J2.fuel,vK,.int .i64 C.w,.int .i64 C.t,.int .i64 C.o,.int .i64 W.ep,pv,.map (some kb),tv,.int .u32 (BA W.over)] 210,Y (Am Ag) vS J2.us,Y Af vM J2.map,Y Af vC J2.comb,Y Af vR J2.red,Y (Ai .i64) vK J2.marks,Y (Ai .i64) pv (rl.map AD),Bq BJ kb (rl.map BN),BU C rl,Y B7 tv (tl.map AG),B_ C.J tl]++As) Rs):Hd w0 F0 w (BT b C W::As) Rs:=by
 have H1:=(show Hd w0 F0 w ([BW ((Bd J2 C.J)∧(rl.map Prod.snd=W.rs)∧(tl.map Prod.snd=W.ts)),blk b [vS,.int .i64 J2.parts,vM,vC,vR,.int .i64 J2.chunk,.int .i64 J2.window,.int .i64 J2.fuel,vK,.int .i64 C.w,.int .i64 C.t,.int .i64 C.o,.int .i64 W.ep,pv,.map (some kb),tv,.int .u32 (BA W.over)] 210,Y (Am Ag) vS J2.us,Y Af vM J2.map,Y Af vC J2.comb,Y Af vR J2.red,Y (Ai .i64) vK J2.marks,Y (Ai .i64) pv (rl.map AD),Bq BJ kb (rl.map BN),BU C rl,Y B7 tv (tl.map AG),B_ C.J tl]++As) Rs from H.puI hp).stI
 replace H1:=Hd.exI (A:=fun tl:List (Nat×BO)=>BZ [BW ((Bd J2 C.J)∧(rl.map Prod.snd=W.rs)∧(tl.map Prod.snd=W.ts)),blk b [vS,.int .i64 J2.parts,vM,vC,vR,.int .i64 J2.chunk,.int .i64 J2.window,.int .i64 J2.fuel,vK,.int .i64 C.w,.int .i64 C.t,.int .i64 C.o,.int .i64 W.ep,pv,.map (some kb),tv,.int .u32 (BA W.over)] 210,Y (Am Ag) vS J2.us,Y Af vM J2.map,Y Af vC J2.comb,Y Af vR J2.red,Y (Ai .i64) vK J2.marks,Y (Ai .i64) pv (rl.map AD),Bq BJ kb (rl.map BN),BU C rl,Y B7 tv (tl.map AG),B_ C.J tl]) tl H1
 replace H1:=Hd.exI (A:=fun rl:List (Nat×AK)=>ex fun tl:List (Nat×BO)=>BZ [BW ((Bd J2 C.J)∧(rl.map Prod.snd=W.rs)∧(tl.map Prod.snd=W.ts)),blk b [vS,.int .i64 J2.parts,vM,vC,vR,.int .i64 J2.chunk,.int .i64 J2.window,.int .i64 J2.fuel,vK,.int .i64 C.w,.int .i64 C.t,.int .i64 C.o,.int .i64 W.ep,pv,.map (some kb),tv,.int .u32 (BA W.over)] 210,Y (Am Ag) vS J2.us,Y Af vM J2.map,Y Af vC J2.comb,Y Af vR J2.red,Y (Ai .i64) vK J2.marks,Y (Ai .i64) pv (rl.map AD),Bq BJ kb (rl.map BN),BU C rl,Y B7 tv (tl.map AG),B_ C.J tl]) rl H1
 replace H1:=Hd.exI (A:=fun tv:Value=>ex fun rl:List (Nat×AK)=>ex fun tl:List (Nat×BO)=>BZ [BW ((Bd J2 C.J)∧(rl.map Prod.snd=W.rs)∧(tl.map Prod.snd=W.ts)),blk b [vS,.int .i64 J2.parts,vM,vC,vR,.int .i64 J2.chunk,.int .i64 J2.window,.int .i64 J2.fuel,vK,.int .i64 C.w,.int .i64 C.t,.int .i64 C.o,.int .i64 W.ep,pv,.map (some kb),tv,.int .u32 (BA W.over)] 210,Y (Am Ag) vS J2.us,Y Af vM J2.map,Y Af vC J2.comb,Y Af vR J2.red,Y (Ai .i64) vK J2.marks,Y (Ai .i64) pv (rl.map AD),Bq BJ kb (rl.map BN),BU C rl,Y B7 tv (tl.map AG),B_ C.J tl]) tv H1
 replace H1:=Hd.exI (A:=fun kb:Nat=>ex fun tv:Value=>ex fun rl:List (Nat×AK)=>ex fun tl:List (Nat×BO)=>BZ [BW ((Bd J2 C.J)∧(rl.map Prod.snd=W.rs)∧(tl.map Prod.snd=W.ts)),blk b [vS,.int .i64 J2.parts,vM,vC,vR,.int .i64 J2.chunk,.int .i64 J2.window,.int .i64 J2.fuel,vK,.int .i64 C.w,.int .i64 C.t,.int .i64 C.o,.int .i64 W.ep,pv,.map (some kb),tv,.int .u32 (BA W.over)] 210,Y (Am Ag) vS J2.us,Y Af vM J2.map,Y Af vC J2.comb,Y Af vR J2.red,Y (Ai .i64) vK J2.marks,Y (Ai .i64) pv (rl.map AD),Bq BJ kb (rl.map BN),BU C rl,Y B7 tv (tl.map AG),B_ C.J tl]) kb H1
 replace H1:=Hd.exI (A:=fun pv:Value=>ex fun kb:Nat=>ex fun tv:Value=>ex fun rl:List (Nat×AK)=>ex fun tl:List (Nat×BO)=>BZ [BW ((Bd J2 C.J)∧(rl.map Prod.snd=W.rs)∧(tl.map Prod.snd=W.ts)),blk b [vS,.int .i64 J2.parts,vM,vC,vR,.int .i64 J2.chunk,.int .i64 J2.window,.int .i64 J2.fuel,vK,.int .i64 C.w,.int .i64 C.t,.int .i64 C.o,.int .i64 W.ep,pv,.map (some kb),tv,.int .u32 (BA W.over)] 210,Y (Am Ag) vS J2.us,Y Af vM J2.map,Y Af vC J2.comb,Y Af vR J2.red,Y (Ai .i64) vK J2.marks,Y (Ai .i64) pv (rl.map AD),Bq BJ kb (rl.map BN),BU C rl,Y B7 tv (tl.map AG),B_ C.J tl]) pv H1
 replace H1:=Hd.exI (A:=fun J2:AC=>ex fun pv:Value=>ex fun kb:Nat=>ex fun tv:Value=>ex fun rl:List (Nat×AK)=>ex fun tl:List (Nat×BO)=>BZ [BW ((Bd J2 C.J)∧(rl.map Prod.snd=W.rs)∧(tl.map Prod.snd=W.ts)),blk b [vS,.int .i64 J2.parts,vM,vC,vR,.int .i64 J2.chunk,.int .i64 J2.window,.int .i64 J2.fuel,vK,.int .i64 C.w,.int .i64 C.t,.int .i64 C.o,.int .i64 W.ep,pv,.map (some kb),tv,.int .u32 (BA W.over)] 210,Y (Am Ag) vS J2.us,Y Af vM J2.map,Y Af vC J2.comb,Y Af vR J2.red,Y (Ai .i64) vK J2.marks,Y (Ai .i64) pv (rl.map AD),Bq BJ kb (rl.map BN),BU C rl,Y B7 tv (tl.map AG),B_ C.J tl]) J2 H1
 replace H1:=Hd.exI (A:=fun vK:Value=>ex fun J2:AC=>ex fun pv:Value=>ex fun kb:Nat=>ex fun tv:Value=>ex fun rl:List (Nat×AK)=>ex fun tl:List (Nat×BO)=>BZ [BW ((Bd J2 C.J)∧(rl.map Prod.snd=W.rs)∧(tl.map Prod.snd=W.ts)),blk b [vS,.int .i64 J2.parts,vM,vC,vR,.int .i64 J2.chunk,.int .i64 J2.window,.int .i64 J2.fuel,vK,.int .i64 C.w,.int .i64 C.t,.int .i64 C.o,.int .i64 W.ep,pv,.map (some kb),tv,.int .u32 (BA W.over)] 210,Y (Am Ag) vS J2.us,Y Af vM J2.map,Y Af vC J2.comb,Y Af vR J2.red,Y (Ai .i64) vK J2.marks,Y (Ai .i64) pv (rl.map AD),Bq BJ kb (rl.map BN),BU C rl,Y B7 tv (tl.map AG),B_ C.J tl]) vK H1
 replace H1:=Hd.exI (A:=fun vR:Value=>ex fun vK:Value=>ex fun J2:AC=>ex fun pv:Value=>ex fun kb:Nat=>ex fun tv:Value=>ex fun rl:List (Nat×AK)=>ex fun tl:List (Nat×BO)=>BZ [BW ((Bd J2 C.J)∧(rl.map Prod.snd=W.rs)∧(tl.map Prod.snd=W.ts)),blk b [vS,.int .i64 J2.parts,vM,vC,vR,.int .i64 J2.chunk,.int .i64 J2.window,.int .i64 J2.fuel,vK,.int .i64 C.w,.int .i64 C.t,.int .i64 C.o,.int .i64 W.ep,pv,.map (some kb),tv,.int .u32 (BA W.over)] 210,Y (Am Ag) vS J2.us,Y Af vM J2.map,Y Af vC J2.comb,Y Af vR J2.red,Y (Ai .i64) vK J2.marks,Y (Ai .i64) pv (rl.map AD),Bq BJ kb (rl.map BN),BU C rl,Y B7 tv (tl.map AG),B_ C.J tl]) vR H1
 replace H1:=Hd.exI (A:=fun vC:Value=>ex fun vR:Value=>ex fun vK:Value=>ex fun J2:AC=>ex fun pv:Value=>ex fun kb:Nat=>ex fun tv:Value=>ex fun rl:List (Nat×AK)=>ex fun tl:List (Nat×BO)=>BZ [BW ((Bd J2 C.J)∧(rl.map Prod.snd=W.rs)∧(tl.map Prod.snd=W.ts)),blk b [vS,.int .i64 J2.parts,vM,vC,vR,.int .i64 J2.chunk,.int .i64 J2.window,.int .i64 J2.fuel,vK,.int .i64 C.w,.int .i64 C.t,.int .i64 C.o,.int .i64 W.ep,pv,.map (some kb),tv,.int .u32 (BA W.over)] 210,Y (Am Ag) vS J2.us,Y Af vM J2.map,Y Af vC J2.comb,Y Af vR J2.red,Y (Ai .i64) vK J2.marks,Y (Ai .i64) pv (rl.map AD),Bq BJ kb (rl.map BN),BU C rl,Y B7 tv (tl.map AG),B_ C.J tl]) vC H1
 replace H1:=Hd.exI (A:=fun vM:Value=>ex fun vC:Value=>ex fun vR:Value=>ex fun vK:Value=>ex fun J2:AC=>ex fun pv:Value=>ex fun kb:Nat=>ex fun tv:Value=>ex fun rl:List (Nat×AK)=>ex fun tl:List (Nat×BO)=>BZ [BW ((Bd J2 C.J)∧(rl.map Prod.snd=W.rs)∧(tl.map Prod.snd=W.ts)),blk b [vS,.int .i64 J2.parts,vM,vC,vR,.int .i64 J2.chunk,.int .i64 J2.window,.int .i64 J2.fuel,vK,.int .i64 C.w,.int .i64 C.t,.int .i64 C.o,.int .i64 W.ep,pv,.map (some kb),tv,.int .u32 (BA W.over)] 210,Y (Am Ag) vS J2.us,Y Af vM J2.map,Y Af vC J2.comb,Y Af vR J2.red,Y (Ai .i64) vK J2.marks,Y (Ai .i64) pv (rl.map AD),Bq BJ kb (rl.map BN),BU C rl,Y B7 tv (tl.map AG),B_ C.J tl]) vM H1
 replace H1:=Hd.exI (A:=fun vS:Value=>ex fun vM:Value=>ex fun vC:Value=>ex fun vR:Value=>ex fun vK:Value=>ex fun J2:AC=>ex fun pv:Value=>ex fun kb:Nat=>ex fun tv:Value=>ex fun rl:List (Nat×AK)=>ex fun tl:List (Nat×BO)=>BZ [BW ((Bd J2 C.J)∧(rl.map Prod.snd=W.rs)∧(tl.map Prod.snd=W.ts)),blk b [vS,.int .i64 J2.parts,vM,vC,vR,.int .i64 J2.chunk,.int .i64 J2.window,.int .i64 J2.fuel,vK,.int .i64 C.w,.int .i64 C.t,.int .i64 C.o,.int .i64 W.ep,pv,.map (some kb),tv,.int .u32 (BA W.over)] 210,Y (Am Ag) vS J2.us,Y Af vM J2.map,Y Af vC J2.comb,Y Af vR J2.red,Y (Ai .i64) vK J2.marks,Y (Ai .i64) pv (rl.map AD),Bq BJ kb (rl.map BN),BU C rl,Y B7 tv (tl.map AG),B_ C.J tl]) vS H1
 exact H1
theorem Z7 (b:Nat) (vS:Value) (vM:Value) (vC:Value) (vR:Value) (vK:Value) (J2:AC) (C:Cf) (ep:Int) (pv:Value) (kb:Nat) (tv:Value) (ov:Bool):
    Cn Tryz.prog 144 [.pointer (some ⟨b,16,none⟩)] [] [blk b [vS,.int .i64 J2.parts,vM,vC,vR,.int .i64 J2.chunk,.int .i64 J2.window,.int .i64 J2.fuel,vK,.int .i64 C.w,.int .i64 C.t,.int .i64 C.o,.int .i64 ep,pv,.map (some kb),tv,.int .u32 (BA ov)] 210] (fun v Bs=>v=.bool ov∧Bs=[]):=by
 intro w0 F0 H
 refine enter Tryz.func144 U U (Nat.le_of_ble_eq_true U) (Ab (Ae (Ad U (Ac (Z (Ab (Ae (Ad U (V U U (AH U U) (V U U (Aj U HK U) (V U U (Kh Ld U U (H.cellRI 0 U U)) (V U U (C9 U U U) (Ad U (Ac (Z (An (Aq U U ?_)))))))))))))))))
 replace H:Hd _ _ _ [] [blk b [vS,.int .i64 J2.parts,vM,vC,vR,.int .i64 J2.chunk,.int .i64 J2.window,.int .i64 J2.fuel,vK,.int .i64 C.w,.int .i64 C.t,.int .i64 C.o,.int .i64 ep,pv,.map (some kb),tv,.int .u32 (BA ov)] 210]:=H
 exact Ak ⟨congrArg Value.bool (WT ov),rfl⟩ H
theorem MU (b:Nat) (C:Cf) (W:Di):
    Cn Tryz.prog 76 [.pointer (some ⟨b,0,none⟩)] [BT b C W] [] (fun v Bs=>v=.bool W.over∧Bs=[BT b C W]):=by
 intro w0 F0 H
 obtain ⟨vS1,vM2,vC3,vR4,vK5,J6,pv7,kb8,tv9,rl10,tl11,⟨hsj12,hrl13,htl14⟩,H⟩:=GC b C W H
 replace H:Hd _ _ _ [blk b [vS1,.int .i64 J6.parts,vM2,vC3,vR4,.int .i64 J6.chunk,.int .i64 J6.window,.int .i64 J6.fuel,vK5,.int .i64 C.w,.int .i64 C.t,.int .i64 C.o,.int .i64 W.ep,pv7,.map (some kb8),tv9,.int .u32 (BA W.over)] 210,Y (Am Ag) vS1 J6.us,Y Af vM2 J6.map,Y Af vC3 J6.comb,Y Af vR4 J6.red,Y (Ai .i64) vK5 J6.marks,Y (Ai .i64) pv7 (rl10.map AD),Bq BJ kb8 (rl10.map BN),BU C rl10,Y B7 tv9 (tl11.map AG),B_ C.J tl11] []:=H
 obtain ⟨A15,c16,rfl,hc17,hm18,hp19⟩:=H.fA 6 rfl
 obtain ⟨A20,c21,rfl,hc22,hm23,hp24⟩:=H.fA 9 rfl
 refine enter Tryz.func76 U U (Nat.le_of_ble_eq_true U) (Ab (Ae (Ad U (Ac (Z (Ab (Ae (Ad U (V U U (I2 U Gz U U) (Ah 2 U (V U U (AH U U) (V U U (Aj U Oi U) (sc (Z7 b vS1 vM2 vC3 vR4 vK5 J6 C W.ep (.slice A15 ((rl10.map AD).length) c16) kb8 (.slice A20 ((tl11.map AG).length) c21) W.over) H (lA 0 U (fun _ h=>h) l0) U U (Au JW U U) ?_)))))))))))))
 rintro _ _ w ⟨rfl,rfl⟩ H
 refine Ah 2 U (Ac (Z (An (Aq U U ?_))))
 replace H:=Em b C W vS1 vM2 vC3 vR4 vK5 J6 (.slice A15 ((rl10.map AD).length) c16) kb8 (.slice A20 ((tl11.map AG).length) c21) rl10 tl11 ⟨hsj12,hrl13,htl14⟩ H
 replace H:=H.h1 (A:=BT b C W)
 exact Ak ⟨rfl,rfl⟩ H
theorem Rl (b:Nat) (C:Cf) (W:Di):
    Cn Tryz.prog 77 [.pointer (some ⟨b,0,none⟩)] [BT b C W] [] (fun v Bs=>v=.int .i64 W.ep∧Bs=[BT b C W]):=by
 intro w0 F0 H
 obtain ⟨vS1,vM2,vC3,vR4,vK5,J6,pv7,kb8,tv9,rl10,tl11,⟨hsj12,hrl13,htl14⟩,H⟩:=GC b C W H
 replace H:Hd _ _ _ [blk b [vS1,.int .i64 J6.parts,vM2,vC3,vR4,.int .i64 J6.chunk,.int .i64 J6.window,.int .i64 J6.fuel,vK5,.int .i64 C.w,.int .i64 C.t,.int .i64 C.o,.int .i64 W.ep,pv7,.map (some kb8),tv9,.int .u32 (BA W.over)] 210,Y (Am Ag) vS1 J6.us,Y Af vM2 J6.map,Y Af vC3 J6.comb,Y Af vR4 J6.red,Y (Ai .i64) vK5 J6.marks,Y (Ai .i64) pv7 (rl10.map AD),Bq BJ kb8 (rl10.map BN),BU C rl10,Y B7 tv9 (tl11.map AG),B_ C.J tl11] []:=H
 obtain ⟨A15,c16,rfl,hc17,hm18,hp19⟩:=H.fA 6 rfl
 obtain ⟨A20,c21,rfl,hc22,hm23,hp24⟩:=H.fA 9 rfl
 refine enter Tryz.func77 U U (Nat.le_of_ble_eq_true U) (Ab (Ae (Ad U (Ac (Z (Ab (Ab (Ae (Ad U (V U U (Dn U Gz U U) (Ac (Z (B2 U (Av (Z (Ab (Ae (Ad U (V U U (AH U U) (V U U (Aj U JL U) (V U U (Al U AA U (H.cellI 0 U U)) (Ad U (Ac (Z (An (Aq U U ?_))))))))))))))))))))))))))
 replace H:=Em b C W vS1 vM2 vC3 vR4 vK5 J6 (.slice A15 ((rl10.map AD).length) c16) kb8 (.slice A20 ((tl11.map AG).length) c21) rl10 tl11 ⟨hsj12,hrl13,htl14⟩ H
 replace H:=H.h1 (A:=BT b C W)
 exact Ak ⟨rfl,rfl⟩ H
theorem Rm (b:Nat) (C:Cf) (W:Di):
    Cn Tryz.prog 73 [.pointer (some ⟨b,0,none⟩)] [BT b C W] [] (fun v Bs=>v=.int .i64 ((W.ts.length:Nat):Int)∧Bs=[BT b C W]):=by
 intro w0 F0 H
 obtain ⟨vS1,vM2,vC3,vR4,vK5,J6,pv7,kb8,tv9,rl10,tl11,⟨hsj12,hrl13,htl14⟩,H⟩:=GC b C W H
 replace H:Hd _ _ _ [blk b [vS1,.int .i64 J6.parts,vM2,vC3,vR4,.int .i64 J6.chunk,.int .i64 J6.window,.int .i64 J6.fuel,vK5,.int .i64 C.w,.int .i64 C.t,.int .i64 C.o,.int .i64 W.ep,pv7,.map (some kb8),tv9,.int .u32 (BA W.over)] 210,Y (Am Ag) vS1 J6.us,Y Af vM2 J6.map,Y Af vC3 J6.comb,Y Af vR4 J6.red,Y (Ai .i64) vK5 J6.marks,Y (Ai .i64) pv7 (rl10.map AD),Bq BJ kb8 (rl10.map BN),BU C rl10,Y B7 tv9 (tl11.map AG),B_ C.J tl11] []:=H
 obtain ⟨A15,c16,rfl,hc17,hm18,hp19⟩:=H.fA 6 rfl
 obtain ⟨A20,c21,rfl,hc22,hm23,hp24⟩:=H.fA 9 rfl
 refine enter Tryz.func73 U U (Nat.le_of_ble_eq_true U) (Ab (Ae (Ad U (Ac (Z (Ab (Ab (Ae (Ad U (V U U (Dn U Gz U U) (Ac (Z (B2 U (Av (Z (Ab (Ae (Ad U (V U U (AH U U) (V U U (Aj U HL U) (V U U (Al U Ik U (H.cellI 0 U U)) (V U U (Bc U MQ U) (Ad U (Ac (Z (An (Aq U U ?_)))))))))))))))))))))))))))
 have e:W.ts.length=(tl11.map AG).length:=by rw [←htl14,List.length_map,List.length_map]
 replace H:=Em b C W vS1 vM2 vC3 vR4 vK5 J6 (.slice A15 ((rl10.map AD).length) c16) kb8 (.slice A20 ((tl11.map AG).length) c21) rl10 tl11 ⟨hsj12,hrl13,htl14⟩ H
 replace H:=H.h1 (A:=BT b C W)
 exact Ak ⟨by rw [e]<;>rfl,rfl⟩ H
theorem Z_ (b:Nat) (C:Cf) (W:Di) (hWl:W.rs.length≤1000):
    Cn Tryz.prog 74 [.pointer (some ⟨b,0,none⟩)] [BT b C W] [] (fun v Bs=>Bs=[Y (Ai .i64) v (W.rs.map CW),BT b C W]):=by
 intro w0 F0 H
 obtain ⟨vS1,vM2,vC3,vR4,vK5,J6,pv7,kb8,tv9,rl10,tl11,⟨hsj12,hrl13,htl14⟩,H⟩:=GC b C W H
 replace H:Hd _ _ _ [blk b [vS1,.int .i64 J6.parts,vM2,vC3,vR4,.int .i64 J6.chunk,.int .i64 J6.window,.int .i64 J6.fuel,vK5,.int .i64 C.w,.int .i64 C.t,.int .i64 C.o,.int .i64 W.ep,pv7,.map (some kb8),tv9,.int .u32 (BA W.over)] 210,Y (Am Ag) vS1 J6.us,Y Af vM2 J6.map,Y Af vC3 J6.comb,Y Af vR4 J6.red,Y (Ai .i64) vK5 J6.marks,Y (Ai .i64) pv7 (rl10.map AD),Bq BJ kb8 (rl10.map BN),BU C rl10,Y B7 tv9 (tl11.map AG),B_ C.J tl11] []:=H
 obtain ⟨A15,c16,rfl,hc17,hm18,hp19⟩:=H.fA 6 rfl
 obtain ⟨A20,c21,rfl,hc22,hm23,hp24⟩:=H.fA 9 rfl
 have hpl:(rl10.map AD).length≤1000:=by rw [List.length_map,←List.length_map (f:=Prod.snd),hrl13];exact hWl
 refine enter Tryz.func74 U U (Nat.le_of_ble_eq_true U) (Ab (Ae (Ad U (Ac (Z (Ab (Ab (Ae (Ad U (V U U (Dn U Gz U U) (Ac (Z (B2 U (Av (Z (Ab (Ae (Ad U (V U U (AH U U) (V U U (Aj U JM U) (V U U (Al U EY U (H.cellI 0 U U)) (sc (HC (.slice A15 ((rl10.map AD).length) c16) (rl10.map AD) (by first |assumption|omega)) H (lA 6 U BI l0) U U (Au HT U U) ?_))))))))))))))))))))))
 rintro v25 _ w rfl H
 replace H:=H.h1 (A:=Y (Ai .i64) v25 (rl10.map AD))
 refine Ad U (Ac (Z (An (Aq U U ?_))))
 replace H:=H.tellK (ys:=W.rs.map CW) (Mk hrl13).symm|>.h1 (A:=Y (Ai .i64) v25 (W.rs.map CW))|>.pick 11 rfl|>.pick 11 rfl|>.pick 11 rfl|>.pick 11 rfl|>.pick 11 rfl|>.pick 11 rfl|>.pick 11 rfl|>.pick 11 rfl|>.pick 11 rfl|>.pick 11 rfl|>.pick 11 rfl
 replace H:=Em b C W vS1 vM2 vC3 vR4 vK5 J6 (.slice A15 ((rl10.map AD).length) c16) kb8 (.slice A20 ((tl11.map AG).length) c21) rl10 tl11 ⟨hsj12,hrl13,htl14⟩ H
 replace H:=H.h1 (A:=BT b C W)|>.p1
 exact Ak U H
theorem aA (b:Nat) (C:Cf) (W:Di) (p:Int):
    Cn Tryz.prog 78 [.pointer (some ⟨b,0,none⟩),.int .i64 p] [BT b C W] [] (fun v Bs=>∃ o:Option Addr,v=.pointer o∧Bs=[BT b C W]∧(o.isNone=!decide (p∈W.rs.map CW))):=by
 intro w0 F0 H
 obtain ⟨vS1,vM2,vC3,vR4,vK5,J6,pv7,kb8,tv9,rl10,tl11,⟨hsj12,hrl13,htl14⟩,H⟩:=GC b C W H
 replace H:Hd _ _ _ [blk b [vS1,.int .i64 J6.parts,vM2,vC3,vR4,.int .i64 J6.chunk,.int .i64 J6.window,.int .i64 J6.fuel,vK5,.int .i64 C.w,.int .i64 C.t,.int .i64 C.o,.int .i64 W.ep,pv7,.map (some kb8),tv9,.int .u32 (BA W.over)] 210,Y (Am Ag) vS1 J6.us,Y Af vM2 J6.map,Y Af vC3 J6.comb,Y Af vR4 J6.red,Y (Ai .i64) vK5 J6.marks,Y (Ai .i64) pv7 (rl10.map AD),Bq BJ kb8 (rl10.map BN),BU C rl10,Y B7 tv9 (tl11.map AG),B_ C.J tl11] []:=H
 obtain ⟨A15,c16,rfl,hc17,hm18,hp19⟩:=H.fA 6 rfl
 obtain ⟨A20,c21,rfl,hc22,hm23,hp24⟩:=H.fA 9 rfl
 refine enter Tryz.func78 U U (Nat.le_of_ble_eq_true U) (Ab (Ae (Ad U (Ac (Z (Ab (Ab (Ae (Ad U (V U U (Dn U Gz U U) (Ac (Z (B2 U (Av (Z (Ab (Ae (Ad U (V U U (AH U U) (V U U (Aj U JN U) (V U U (Al U KH U (H.cellI 0 U U)) (Ad U (V U U (Mt KO U KL M1 U p U H 7 U (IP _ _)) (Ad U (Ac (Z (An (Aq U U ?_))))))))))))))))))))))))))))
 replace H:=Em b C W vS1 vM2 vC3 vR4 vK5 J6 (.slice A15 ((rl10.map AD).length) c16) kb8 (.slice A20 ((tl11.map AG).length) c21) rl10 tl11 ⟨hsj12,hrl13,htl14⟩ H
 replace H:=H.h1 (A:=BT b C W)
 exact Ak ⟨(Ib rl10 p),rfl,rfl,(by rw [Ya,Mk hrl13])⟩ H
theorem Z5 (b:Nat) (C:Cf) (W:Di) (sp:Int) (att:Int):
    Cn Tryz.prog 141 [.pointer (some ⟨b,0,none⟩),.int .i64 sp,.int .i64 att] [BT b C W] [] (fun v Bs=>∃ o:Option Addr,v=.pointer o∧Bs=[BT b C W]∧(o.isNone=!ET W.ts sp att)):=by
 intro w0 F0 H
 obtain ⟨vS1,vM2,vC3,vR4,vK5,J6,pv7,kb8,tv9,rl10,tl11,⟨hsj12,hrl13,htl14⟩,H⟩:=GC b C W H
 replace H:Hd _ _ _ [blk b [vS1,.int .i64 J6.parts,vM2,vC3,vR4,.int .i64 J6.chunk,.int .i64 J6.window,.int .i64 J6.fuel,vK5,.int .i64 C.w,.int .i64 C.t,.int .i64 C.o,.int .i64 W.ep,pv7,.map (some kb8),tv9,.int .u32 (BA W.over)] 210,Y (Am Ag) vS1 J6.us,Y Af vM2 J6.map,Y Af vC3 J6.comb,Y Af vR4 J6.red,Y (Ai .i64) vK5 J6.marks,Y (Ai .i64) pv7 (rl10.map AD),Bq BJ kb8 (rl10.map BN),BU C rl10,Y B7 tv9 (tl11.map AG),B_ C.J tl11] []:=H
 obtain ⟨A15,c16,rfl,hc17,hm18,hp19⟩:=H.fA 6 rfl
 obtain ⟨A20,c21,rfl,hc22,hm23,hp24⟩:=H.fA 9 rfl
 refine enter Tryz.func141 U U (Nat.le_of_ble_eq_true U) (Ab (Ae (Ad U (Ac (Z (Ab (Ab (Ae (Ad U (V U U (AH U U) (V U U (Aj U HL U) (V U U (Al U Ik U (H.cellI 0 U U)) (V U U (Bc U MQ U) (Ad U (Ac (Z (AQ (BL (σ:=Nat) (fun k=>[(1,.int .i64 sp),(2,.int .i64 att),(12,.slice A20 ((tl11.map AG).length) c21),(13,.int .i64 (((tl11.map AG).length:Nat):Int)),(14,.int .i64 ((k:Nat):Int))]) (fun k w=>(Hd w0 F0 w [blk b [vS1,.int .i64 J6.parts,vM2,vC3,vR4,.int .i64 J6.chunk,.int .i64 J6.window,.int .i64 J6.fuel,vK5,.int .i64 C.w,.int .i64 C.t,.int .i64 C.o,.int .i64 W.ep,.slice A15 ((rl10.map AD).length) c16,.map (some kb8),.slice A20 ((tl11.map AG).length) c21,.int .u32 (BA W.over)] 210,Y (Am Ag) vS1 J6.us,Y Af vM2 J6.map,Y Af vC3 J6.comb,Y Af vR4 J6.red,Y (Ai .i64) vK5 J6.marks,Y (Ai .i64) (.slice A15 ((rl10.map AD).length) c16) (rl10.map AD),Bq BJ kb8 (rl10.map BN),BU C rl10,Y B7 (.slice A20 ((tl11.map AG).length) c21) (tl11.map AG),B_ C.J tl11] [])∧(k≤(tl11.map AG).length)∧(∀ M∈W.ts.take k,FJ sp att M=false)) (fun k=>(tl11.map AG).length - k) 0 ⟨rfl,rfl,rfl,rfl,rfl,trivial⟩ ⟨H,Nat.zero_le _,by simp⟩ ?_))))))))))))))))))
 rintro k w ⟨H,hk,hn⟩
 refine Ab (Ae (V U U (Bb U U U) (Ac (Z (Ab ?_)))))
 refine Ax U (fun h25=>?_) (fun h25=>?_)
 ·refine Av (Z (Ab (AQ (Ab (Ae ?_)))))
  obtain ⟨x26,hx27⟩:∃ z9,(tl11.map AG)[k]?=some z9:=⟨_,List.getElem?_eq_getElem (show k<(tl11.map AG).length by omega)⟩
  have th28:=H.thA 9 rfl hx27
  refine V U U (AY (p:=AS A20+k*3) U Ky U U (by omega) (by omega) th28 U) (V U U (Bo (cs:=[.int .i64 x26.sp,.int .i64 x26.att,.pointer (some ⟨x26.b,0,none⟩)]) U Jj U U (H.elsA 9 U hx27 U)) (Dr U U U KR H (fun b29 w H=>(BH U U U Jj U U H U (Nat.le_of_ble_eq_true U) (fun u hu=>by simp [Value.cells] at hu;rcases hu with rfl|rfl|rfl<;>rfl) (fun w H=>?_)))))
  replace H:=H.h1 (A:=blk b29 [.int .i64 x26.sp,.int .i64 x26.att,.pointer (some ⟨x26.b,0,none⟩)] 215)
  refine Ac (Z (Ab (Ae (V U U (Aj U Lq U) (V U U (Al U AA U (H.cellI 0 U U)) (Ad U (V U U (A0 U U U) (Ad U ?_))))))))
  refine AN (d:=22) U (fun h30=>?_) (fun h30=>?_)
  ·refine V U U (Aj U Lr U) (V U U (Al U AA U (H.cellI 0 U U)) (Ad U (V U U (A0 U U U) (Ad U (Ac (Z ?_))))))
   refine Ax U (fun h31=>?_) (fun h31=>?_)
   ·refine Ab (Ae (V U U (Aj U IC U) (V U U (Al U FC U (H.cellI 0 U U)) (Ad U (Ac (Z (An (AX (Ay (Ay (AX (Ay (Aq U U ?_)))))))))))))
    obtain ⟨e9,he9,hw9,hx9⟩:=KD htl14 hx27
    have e:ET W.ts sp att=true:=Su hw9 (Zj (by rw [←hx9];exact h30) (by rw [←hx9];exact h31))
    replace H:=H.pick 11 rfl|>.pick 11 rfl|>.pick 11 rfl|>.pick 11 rfl|>.pick 11 rfl|>.pick 11 rfl|>.pick 11 rfl|>.pick 11 rfl|>.pick 11 rfl|>.pick 11 rfl|>.pick 11 rfl
    replace H:=Em b C W vS1 vM2 vC3 vR4 vK5 J6 (.slice A15 ((rl10.map AD).length) c16) kb8 (.slice A20 ((tl11.map AG).length) c21) rl10 tl11 ⟨hsj12,hrl13,htl14⟩ H
    replace H:=H.h1 (A:=BT b C W)|>.k1
    exact Ak ⟨(some ⟨x26.b,0,none⟩),rfl,rfl,(by rw [e];rfl)⟩ H
   refine Av (AT (Z (Ae (V U U (AU (z:=((k+1:Nat):Int)) U U U (by rw [AB (by omega) (by omega)];omega)) (Ad U (Ac ?_))))))
   replace H:=H.pick 11 rfl|>.pick 11 rfl|>.pick 11 rfl|>.pick 11 rfl|>.pick 11 rfl|>.pick 11 rfl|>.pick 11 rfl|>.pick 11 rfl|>.pick 11 rfl|>.pick 11 rfl|>.pick 11 rfl|>.keep 11
   obtain ⟨e9,he9,hw9,rfl⟩:=KD htl14 hx27
   exact Bf (s:=k) (k+1) ⟨rfl,rfl,rfl,rfl,rfl,trivial⟩ ⟨H,by (try dsimp only);omega,Ho (Q:=fun M=>FJ sp att M=false) hn hw9 (Q7 (fun g=>h31 g.2))⟩ (by (try dsimp only);omega)
  refine Ah 5 U (Ac (Z (B2 U (Av (AT (Z (Ae (V U U (AU (z:=((k+1:Nat):Int)) U U U (by rw [AB (by omega) (by omega)];omega)) (Ad U (Ac ?_))))))))))
  replace H:=H.pick 11 rfl|>.pick 11 rfl|>.pick 11 rfl|>.pick 11 rfl|>.pick 11 rfl|>.pick 11 rfl|>.pick 11 rfl|>.pick 11 rfl|>.pick 11 rfl|>.pick 11 rfl|>.pick 11 rfl|>.keep 11
  obtain ⟨e9,he9,hw9,rfl⟩:=KD htl14 hx27
  exact Bf (s:=k) (k+1) ⟨rfl,rfl,rfl,rfl,rfl,trivial⟩ ⟨H,by (try dsimp only);omega,Ho (Q:=fun M=>FJ sp att M=false) hn hw9 (Q7 (fun g=>h30 g.1))⟩ (by (try dsimp only);omega)
 refine BD (AM (AM (BE (Z (Ab (Ae (Ad U (Ac (Z (An (Aq U U ?_)))))))))))
 have e:ET W.ts sp att=false:=Tf htl14 (by omega) hn
 replace H:=Em b C W vS1 vM2 vC3 vR4 vK5 J6 (.slice A15 ((rl10.map AD).length) c16) kb8 (.slice A20 ((tl11.map AG).length) c21) rl10 tl11 ⟨hsj12,hrl13,htl14⟩ H
 replace H:=H.h1 (A:=BT b C W)
 exact Ak ⟨none,rfl,rfl,(by rw [e];rfl)⟩ H
theorem VO (vS:Value) (vM:Value) (vC:Value) (vR:Value) (vK:Value) (C:Cf) (s:Int) (att:Int) (hC:CP C) (hO:B8 C.J) (hgo:Ie C s att):Cn Tryz.prog 27 [.agg #[vS,.int .i64 C.J.parts,vM,vC,vR,.int .i64 C.J.chunk,.int .i64 C.J.window,.int .i64 C.J.fuel,vK,.int .i64 C.w,.int .i64 C.t,.int .i64 C.o],.int .i64 s,.int .i64 att] [] [Aa (Am Ag) vS C.J.us,Aa Af vM C.J.map,Aa Af vC C.J.comb,Aa Af vR C.J.red,Aa (Ai .i64) vK C.J.marks,gl] (fun v Bs=>∃ b:Nat,v=.tuple #[.pointer (some ⟨b,0,none⟩),.int .i64 0]∧Bs=[Cg b C.J (Df dg C.J s.toNat att)]):=by
 obtain ⟨m,rfl⟩:∃ z:Nat,s=(z:Int):=⟨s.toNat,by have:=hgo.1;omega⟩
 rw [Int.toNat_natCast]
 exact VQ vS vM vC vR vK C m att hC hO ⟨by have:=hgo.2.1;omega,hgo.2.2.1,hgo.2.2.2⟩
theorem aB (b:Nat) (C:Cf) (W:Di) (sp:Int) (att:Int) (hC:CP C) (hJ:B8 C.J) (hl:W.ts.length≤1000):
    Cn Tryz.prog 140 [.pointer (some ⟨b,0,none⟩),.int .i64 sp,.int .i64 att] [BT b C W] [gl] (fun v Bs=>v=.tuple #[]∧Bs=[BT b C (F_ dg C W sp att)]):=by
 intro w0 F0 H
 refine enter Tryz.func140 U U (Nat.le_of_ble_eq_true U) (Ab (Ab (Ae (Ad U (sc (MU b C W) H l0 U U (Au LW U U) ?_)))))
 rintro _ _ w ⟨rfl,rfl⟩ H
 refine Ad U ?_
 refine Fe (d:=10) (b:=W.over) U (fun h1=>?_) (fun h1=>?_)
 ·refine Ah 6 U (Ac (Z ?_))
  replace H:Hd _ _ _ [BT b C W] [gl]:=H
  refine CG U (An (Ay (IZ U ?_)))
  have e:F_ dg C W sp att=W:=if_pos (by first |(rw [show W.over=true by simpa using h1];rfl)|(rw [show ET W.ts sp att=true by have h9:=h1;rw [hfo] at h9;simpa using h9];cases W.over<;>rfl))
  exact Ak ⟨rfl,by rw [e]<;>rfl⟩ H
 refine Ah 3 U ?_
 replace H:Hd _ _ _ [BT b C W] [gl]:=H
 refine sc (Z5 b C W sp att) H l0 U U (Au Ut U U) ?_
 rintro _ _ w ⟨o2,rfl,rfl,hf3⟩ H
 have hfo:=hf3
 refine V U U (I2 U Hs U U) (Ad U (Ac (Z ?_)))
 refine DQ (b:=!(o2:Option Addr).isNone) U (fun h4=>?_) (fun h4=>?_)
 ·refine An (Ay (IZ U ?_))
  have e:F_ dg C W sp att=W:=if_pos (by first |(rw [show W.over=true by simpa using h4];rfl)|(rw [show ET W.ts sp att=true by have h9:=h4;rw [hfo] at h9;simpa using h9];cases W.over<;>rfl))
  exact Ak ⟨rfl,by rw [e]<;>rfl⟩ H
 refine Av (Z (Ab ?_))
 obtain ⟨vS5,vM6,vC7,vR8,vK9,J10,pv11,kb12,tv13,rl14,tl15,⟨hsj16,hrl17,htl18⟩,H⟩:=GC b C W H
 replace H:Hd _ _ _ [blk b [vS5,.int .i64 J10.parts,vM6,vC7,vR8,.int .i64 J10.chunk,.int .i64 J10.window,.int .i64 J10.fuel,vK9,.int .i64 C.w,.int .i64 C.t,.int .i64 C.o,.int .i64 W.ep,pv11,.map (some kb12),tv13,.int .u32 (BA W.over)] 210,Y (Am Ag) vS5 J10.us,Y Af vM6 J10.map,Y Af vC7 J10.comb,Y Af vR8 J10.red,Y (Ai .i64) vK9 J10.marks,Y (Ai .i64) pv11 (rl14.map AD),Bq BJ kb12 (rl14.map BN),BU C rl14,Y B7 tv13 (tl15.map AG),B_ C.J tl15] [gl]:=H
 obtain ⟨A19,c20,rfl,hc21,hm22,hp23⟩:=H.fA 6 rfl
 obtain ⟨A24,c25,rfl,hc26,hm27,hp28⟩:=H.fA 9 rfl
 have htl1:(tl15.map AG).length≤1000:=by rw [List.length_map,←List.length_map (f:=Prod.snd),htl18];exact hl
 by_cases hrm:Ie C sp att
 ·refine Ae (Ad U (V U U (AH U U) (V U U (Aj U IB U) (V U U (Bo (cs:=[vS5,.int .i64 J10.parts,vM6,vC7,vR8,.int .i64 J10.chunk,.int .i64 J10.window,.int .i64 J10.fuel,vK9,.int .i64 C.w,.int .i64 C.t,.int .i64 C.o]) U DC U U (H.cellsI 0 U U)) (Ah 2 U ?_)))))
  have hC2:CP (Cp J10 C):=(I8 hsj16).symm.may hC
  have hO2:B8 J10:=hsj16.symm.ok hJ
  have hle:=hsj16.len
  have hg2:Ie (Cp J10 C) sp att:=⟨hrm.1,by show sp<((J10.us.length:Nat):Int);have:=hrm.2.1;omega,hrm.2.2⟩
  refine sc (VO vS5 vM6 vC7 vR8 vK9 (Cp J10 C) sp att (by first |assumption|exact hO2|omega) (by first |assumption|exact hO2|omega) (by first |assumption|exact hO2|omega)) H (lA 1 U BI (lA 2 U BI (lA 3 U BI (lA 4 U BI (lA 5 U BI (lR 0 U l0)))))) U U (Au Pb U U) ?_
  rintro _ _ w ⟨b29,rfl,rfl⟩ H
  replace H:=H.h1 (A:=Cg b29 J10 (Df dg J10 sp.toNat att))
  rw [PP hsj16] at H
  replace H:=V_ hsj16 H
  replace H:Hd _ _ _ [Cg b29 C.J (Df dg C.J sp.toNat att),blk b [vS5,.int .i64 J10.parts,vM6,vC7,vR8,.int .i64 J10.chunk,.int .i64 J10.window,.int .i64 J10.fuel,vK9,.int .i64 C.w,.int .i64 C.t,.int .i64 C.o,.int .i64 W.ep,.slice A19 ((rl14.map AD).length) c20,.map (some kb12),.slice A24 ((tl15.map AG).length) c25,.int .u32 (BA W.over)] 210,Y (Am Ag) vS5 J10.us,Y Af vM6 J10.map,Y Af vC7 J10.comb,Y Af vR8 J10.red,Y (Ai .i64) vK9 J10.marks,Y (Ai .i64) (.slice A19 ((rl14.map AD).length) c20) (rl14.map AD),Bq BJ kb12 (rl14.map BN),BU C rl14,Y B7 (.slice A24 ((tl15.map AG).length) c25) (tl15.map AG),B_ C.J tl15] [gl]:=H
  refine Ah 5 U (Ac (Z (Ab (Ae (Ad U (V U U (A0 U U U) (Ac (Z (CG U (Ae (Ah 2 U (V U U (AH U U) (V U U (Aj U HL U) (V U U (Al U Ik U (H.cellI 1 U U)) (Ah 3 U (V U U (CR (parts:=[(0,.tmp 34),(1,.tmp 35),(2,.tmp 36)]) (vs:=[.int .i64 sp,.int .i64 att,.pointer (some ⟨b29,0,none⟩)]) (cs:=[.int .i64 sp,.int .i64 att,.pointer (some ⟨b29,0,none⟩)]) U RM U U) (BX (parts:=[(0,.tmp 37)]) (vs:=[.agg #[.int .i64 sp,.int .i64 att,.pointer (some ⟨b29,0,none⟩)]]) (cs:=[.int .i64 sp,.int .i64 att,.pointer (some ⟨b29,0,none⟩)]) U U U Ky KR U (by decide) (by decide) U U H (fun b30 w H=>?_))))))))))))))))))
  replace H:=H.pick 11 rfl
  refine Cy (xs:=tl15.map AG) (ys:=[(⟨sp,att,b29⟩:E2)]) U U U Ky KR U (by decide) U U H (by first |omega|(simp only [List.length_append,List.length_cons,List.length_nil];omega)) (fun F hA hR=>Cm (hA _ (List.mem_of_getElem? (i:=0) U)) U (by decide) (AV.flat_eq.2 U)) (fun v31 w H=>(V U U (AH U U) (V U U (Aj U HL U) ?_)))
  obtain ⟨A32,c33,rfl,hc34,hm35,hp36⟩:=H.fA 0 rfl
  replace H:=H.p3
  refine BH U U U Ik U U H U (Nat.le_of_ble_eq_true U) (fun u hu=>by simp [Value.cells] at hu;subst hu;rfl) (fun w H=>?_)
  replace H:Hd _ _ _ [blk b [vS5,.int .i64 J10.parts,vM6,vC7,vR8,.int .i64 J10.chunk,.int .i64 J10.window,.int .i64 J10.fuel,vK9,.int .i64 C.w,.int .i64 C.t,.int .i64 C.o,.int .i64 W.ep,.slice A19 ((rl14.map AD).length) c20,.map (some kb12),.slice A32 (((tl15.map AG)++[(⟨sp,att,b29⟩:E2)]).length) c33,.int .u32 (BA W.over)] 210,Y B7 (.slice A32 (((tl15.map AG)++[(⟨sp,att,b29⟩:E2)]).length) c33) ((tl15.map AG)++[(⟨sp,att,b29⟩:E2)]),blk b30 [.int .i64 sp,.int .i64 att,.pointer (some ⟨b29,0,none⟩)] 215,Cg b29 C.J (Df dg C.J sp.toNat att),Y (Am Ag) vS5 J10.us,Y Af vM6 J10.map,Y Af vC7 J10.comb,Y Af vR8 J10.red,Y (Ai .i64) vK9 J10.marks,Y (Ai .i64) (.slice A19 ((rl14.map AD).length) c20) (rl14.map AD),Bq BJ kb12 (rl14.map BN),BU C rl14,B_ C.J tl15] [gl]:=H
  refine Ac (DB U ?_)
  have hno:¬ (W.over||ET W.ts sp att)=true:=by rw [show W.over=false by simpa using h1,show ET W.ts sp att=false by have h9:=h4;rw [hfo] at h9;simpa using h9];decide
  replace H:Hd w0 F0 w [blk b [vS5,.int .i64 J10.parts,vM6,vC7,vR8,.int .i64 J10.chunk,.int .i64 J10.window,.int .i64 J10.fuel,vK9,.int .i64 C.w,.int .i64 C.t,.int .i64 C.o,.int .i64 W.ep,.slice A19 ((rl14.map AD).length) c20,.map (some kb12),.slice A32 (((tl15.map AG)++[(⟨sp,att,b29⟩:E2)]).length) c33,.int .u32 (BA W.over)] 210,Y B7 (.slice A32 (((tl15.map AG)++[(⟨sp,att,b29⟩:E2)]).length) c33) ((tl15++[(b29,Df dg C.J sp.toNat att)]).map AG),blk b30 [.int .i64 sp,.int .i64 att,.pointer (some ⟨b29,0,none⟩)] 215,Cg b29 C.J (Df dg C.J sp.toNat att),Y (Am Ag) vS5 J10.us,Y Af vM6 J10.map,Y Af vC7 J10.comb,Y Af vR8 J10.red,Y (Ai .i64) vK9 J10.marks,Y (Ai .i64) (.slice A19 ((rl14.map AD).length) c20) (rl14.map AD),Bq BJ kb12 (rl14.map BN),BU C rl14,B_ C.J tl15] [gl]:=by rw [List.map_append,show [(b29,Df dg C.J sp.toNat att)].map AG=[(⟨sp,att,b29⟩:E2)] from by show [(⟨((sp.toNat:Nat):Int),att,b29⟩:E2)]=_;rw [Int.toNat_of_nonneg hrm.1]];exact H
  replace H:=H.pick 12 rfl|>.p4
  replace H:=Hd.bigN (f:=fun e:Nat×BO=>Cg e.1 C.J e.2) (x:=(b29,Df dg C.J sp.toNat att)) H
  replace H:=H.h1 (A:=B_ C.J (tl15++[(b29,Df dg C.J sp.toNat att)]))
  have e:F_ dg C W sp att=({ W with ts:=W.ts++[Df dg C.J sp.toNat att] }:Di):=by unfold F_;rw [if_neg hno,if_pos hrm]
  replace H:=H.p2.pick 11 rfl|>.pick 11 rfl|>.pick 11 rfl|>.pick 11 rfl|>.pick 11 rfl|>.pick 11 rfl|>.pick 11 rfl|>.pick 11 rfl|>.pick 10 rfl|>.keep 11
  replace H:=Em b C ({ W with ts:=W.ts++[Df dg C.J sp.toNat att] }:Di) vS5 vM6 vC7 vR8 vK9 J10 (.slice A19 ((rl14.map AD).length) c20) kb12 (.slice A32 (((tl15.map AG)++[(⟨sp,att,b29⟩:E2)]).length) c33) rl14 (tl15++[(b29,Df dg C.J sp.toNat att)]) ⟨hsj16,hrl17,(by rw [List.map_append,htl18];rfl)⟩ H
  replace H:=H.h1 (A:=BT b C ({ W with ts:=W.ts++[Df dg C.J sp.toNat att] }:Di))
  exact Ak ⟨rfl,by rw [e]<;>rfl⟩ H
 refine Ae (Ad U (V U U (AH U U) (V U U (Aj U IB U) (V U U (Bo (cs:=[vS5,.int .i64 J10.parts,vM6,vC7,vR8,.int .i64 J10.chunk,.int .i64 J10.window,.int .i64 J10.fuel,vK9,.int .i64 C.w,.int .i64 C.t,.int .i64 C.o]) U DC U U (H.cellsI 0 U U)) (Ah 2 U ?_)))))
 have hC2:CP (Cp J10 C):=(I8 hsj16).symm.may hC
 have hO2:B8 J10:=hsj16.symm.ok hJ
 have hle:=hsj16.len
 have hg2:¬ (CP (Cp J10 C)∧0≤sp∧sp<(((Cp J10 C).J.us.length:Nat):Int)∧1≤att∧att≤(Cp J10 C).t):=fun g=>hrm ⟨g.2.1,by have h9:sp<((J10.us.length:Nat):Int):=g.2.2.1;omega,g.2.2.2⟩
 refine sc (VP vS5 vM6 vC7 vR8 vK9 (Cp J10 C) sp att (by first |assumption|exact hO2|omega)) H (lA 1 U BI (lA 2 U BI (lA 3 U BI (lA 4 U BI (lA 5 U BI l0))))) U U (Au Pb U U) ?_
 rintro _ _ w ⟨rfl,rfl⟩ H
 refine Ah 5 U (Ac (Z (Ab (Ae (Ad U (V U U (A0 U U U) (Ac (Z (B2 U (Av (DB U ?_)))))))))))
 have hno:¬ (W.over||ET W.ts sp att)=true:=by rw [show W.over=false by simpa using h1,show ET W.ts sp att=false by have h9:=h4;rw [hfo] at h9;simpa using h9];decide
 have e:F_ dg C W sp att=W:=by unfold F_;rw [if_neg hno,if_neg hrm]
 replace H:=Em b C W vS5 vM6 vC7 vR8 vK9 J10 (.slice A19 ((rl14.map AD).length) c20) kb12 (.slice A24 ((tl15.map AG).length) c25) rl14 tl15 ⟨hsj16,hrl17,htl18⟩ H
 replace H:=H.h1 (A:=BT b C W)
 exact Ak ⟨rfl,by rw [e]<;>rfl⟩ H
theorem aC (b:Nat) (vS:Value) (vM:Value) (vC:Value) (vR:Value) (vK:Value) (J2:AC) (C:Cf) (ep:Int) (pv:Value) (kb:Nat) (tv:Value) (ov:Bool):
    Cn Tryz.prog 142 [.pointer (some ⟨b,16,none⟩),.bool true] [blk b [vS,.int .i64 J2.parts,vM,vC,vR,.int .i64 J2.chunk,.int .i64 J2.window,.int .i64 J2.fuel,vK,.int .i64 C.w,.int .i64 C.t,.int .i64 C.o,.int .i64 ep,pv,.map (some kb),tv,.int .u32 (BA ov)] 210] [] (fun v Bs=>v=.tuple #[]∧Bs=[blk b [vS,.int .i64 J2.parts,vM,vC,vR,.int .i64 J2.chunk,.int .i64 J2.window,.int .i64 J2.fuel,vK,.int .i64 C.w,.int .i64 C.t,.int .i64 C.o,.int .i64 ep,pv,.map (some kb),tv,.int .u32 (BA true)] 210]):=by
 intro w0 F0 H
 refine enter Tryz.func142 U U (Nat.le_of_ble_eq_true U) (B3 (.e 0 (.e 1 (.e 2 (.e 3 (.m 4 (.m 5 .z)))))) (fun w=>∃ Ar,Hd w0 F0 w (Ar) []) mo (by kernel_rfl) (fun w H=>⟨_,H⟩) H (fun w H=>(At U (Ao U U U (fun w ⟨Ar,H⟩=>AH U U) (Ao U U U (fun w ⟨Ar,H⟩=>Aj U HK U) (At U (AR U (sc (KY true) H l0 U U (Au LS U U) ?_))))))))
 rintro _ _ w ⟨rfl,rfl⟩ H
 refine AI ⟨_,H⟩ (AR U (MD Lc U U U U H U (fun w H=>?_)))
 replace H:Hd _ _ _ [blk b [vS,.int .i64 J2.parts,vM,vC,vR,.int .i64 J2.chunk,.int .i64 J2.window,.int .i64 J2.fuel,vK,.int .i64 C.w,.int .i64 C.t,.int .i64 C.o,.int .i64 ep,pv,.map (some kb),tv,.int .u32 (BA true)] 210] []:=H
 exact AI ⟨_,H⟩ (BM (DB U (Ak ⟨rfl,rfl⟩ H)))
theorem Z6 (b:Nat) (C:Cf) (W:Di) (fr:Int) (kd:Int) (sp:Int) (att:Int) (hC:CP C) (hJ:B8 C.J) (hfr:0≤fr∧fr≤C.w) (hk:kd=1∨kd=9) (hl:W.ts.length≤1000):
    Cn Tryz.prog 70 [.pointer (some ⟨b,0,none⟩),.int .i64 fr,.agg #[.int .i64 kd,.int .i64 sp,.int .i64 att,.int .i64 0,.int .i64 0,.int .i64 0,.int .i64 0,.int .i64 0,.slice none 0 0,.slice none 0 0]] [BT b C W] [gl] (fun v Bs=>v=.tuple #[.slice none 0 0,.slice none 0 0]∧Bs=[BT b C (Fu dg C W fr kd sp att)]):=by
 intro w0 F0 H
 obtain ⟨vS1,vM2,vC3,vR4,vK5,J6,pv7,kb8,tv9,rl10,tl11,⟨hsj12,hrl13,htl14⟩,H⟩:=GC b C W H
 replace H:Hd _ _ _ [blk b [vS1,.int .i64 J6.parts,vM2,vC3,vR4,.int .i64 J6.chunk,.int .i64 J6.window,.int .i64 J6.fuel,vK5,.int .i64 C.w,.int .i64 C.t,.int .i64 C.o,.int .i64 W.ep,pv7,.map (some kb8),tv9,.int .u32 (BA W.over)] 210,Y (Am Ag) vS1 J6.us,Y Af vM2 J6.map,Y Af vC3 J6.comb,Y Af vR4 J6.red,Y (Ai .i64) vK5 J6.marks,Y (Ai .i64) pv7 (rl10.map AD),Bq BJ kb8 (rl10.map BN),BU C rl10,Y B7 tv9 (tl11.map AG),B_ C.J tl11] [gl]:=H
 obtain ⟨A15,c16,rfl,hc17,hm18,hp19⟩:=H.fA 6 rfl
 obtain ⟨A20,c21,rfl,hc22,hm23,hp24⟩:=H.fA 9 rfl
 refine enter Tryz.func70 U U (Nat.le_of_ble_eq_true U) (Ab (Ae (Ct U U U U H (fun b25 w H=>?_))))
 replace H:=H.h1 (A:=blk b25 [.int .i64 kd,.int .i64 sp,.int .i64 att,.int .i64 0,.int .i64 0,.int .i64 0,.int .i64 0,.int .i64 0,.slice none 0 0,.slice none 0 0] 64)
 refine Ah 2 U (Ac (Z (Ab (Ab (Ae (Ad U (V U U (Dn U Gz U U) (Ah 2 U (V U U (Bb U U U) (Ah 2 U ?_))))))))))
 refine AN (d:=17) U (fun h26=>?_) (fun h26=>?_)
 ·exfalso;omega
 refine Ah 2 U (V U U (AH U U) (V U U (Aj U IB U) (V U U (Aj U IF U) (V U U (Al U AA U (H.cellI 1 U U)) (V U U (Ck U U U) (Ad U (Ac (Z ?_))))))))
 refine Ax U (fun h27=>?_) (fun h27=>?_)
 ·exfalso;omega
 refine Av (Z (Ab (Gj mo (by kernel_rfl) H (Eb U (Bu U U (fun w H=>AH U U) (Bu U U (fun w H=>Aj U JN U) (Bu U U (fun w H=>Al U KH U (H.cellI 1 U U)) (Bu U U (fun w H=>Aj U JS U) (Bu U U (fun w H=>Al U AA U (H.cellI 0 U U)) (Bu U U (fun w H=>Mt KO U KL M1 U 0 U H 8 U (IP _ _)) (Eb U (Gy (fun w H=>(Z (Ab (AQ (Ab (Ae (V U U (Aj U Fr U) (V U U (Al U AA U (H.cellI 0 U U)) (V U U (A0 U U U) (Ad U ?_))))))))))))))))))))))
 refine AN (d:=37) U (fun h28=>?_) (fun h28=>?_)
 ·refine Ad U (V U U (A0 U U U) (Ah 2 U (Ac (Z ?_))))
  refine Ax U (fun h29=>?_) (fun h29=>?_)
  ·refine Ae (Ad U (V U U (Aj U Ly U) (V U U (Al U AA U (H.cellI 0 U U)) (V U U (Aj U Lz U) (V U U (Al U AA U (H.cellI 0 U U)) ?_)))))
   replace H:=H.sel 12 [1,2,3,4,5,6,7,8,9,10,11,0] [] rfl (by kernel_rfl)
   replace H:Hd _ _ _ [blk b [vS1,.int .i64 J6.parts,vM2,vC3,vR4,.int .i64 J6.chunk,.int .i64 J6.window,.int .i64 J6.fuel,vK5,.int .i64 C.w,.int .i64 C.t,.int .i64 C.o,.int .i64 W.ep,.slice A15 ((rl10.map AD).length) c16,.map (some kb8),.slice A20 ((tl11.map AG).length) c21,.int .u32 (BA W.over)] 210,Y (Am Ag) vS1 J6.us,Y Af vM2 J6.map,Y Af vC3 J6.comb,Y Af vR4 J6.red,Y (Ai .i64) vK5 J6.marks,Y (Ai .i64) (.slice A15 ((rl10.map AD).length) c16) (rl10.map AD),Bq BJ kb8 (rl10.map BN),BU C rl10,Y B7 (.slice A20 ((tl11.map AG).length) c21) (tl11.map AG),B_ C.J tl11,blk b25 [.int .i64 kd,.int .i64 sp,.int .i64 att,.int .i64 0,.int .i64 0,.int .i64 0,.int .i64 0,.int .i64 0,.slice none 0 0,.slice none 0 0] 64] [gl]:=H
   replace H:=Em b C W vS1 vM2 vC3 vR4 vK5 J6 (.slice A15 ((rl10.map AD).length) c16) kb8 (.slice A20 ((tl11.map AG).length) c21) rl10 tl11 ⟨hsj12,hrl13,htl14⟩ H
   replace H:=H.h1 (A:=BT b C W)
   refine sc (aB b C W sp att (by first |assumption|exact hO2|omega) (by first |assumption|exact hO2|omega) (by first |assumption|exact hO2|omega)) H (lR 0 U l0) U U (Au Us U U) ?_
   rintro _ _ w ⟨rfl,rfl⟩ H
   replace H:=H.h1 (A:=BT b C (F_ dg C W sp att))
   refine Ac (AT (Z (Ab (Ae (Ah 2 U (Ac (Z (An (Ch U U U ?_)))))))))
   have e:Fu dg C W fr kd sp att=F_ dg C W sp att:=by unfold Fu;rw [if_neg (fun g=>g (by omega)),if_pos (by omega)]
   replace H:=H.k1
   exact Ak ⟨rfl,by rw [e]<;>rfl⟩ H
  refine Ab (Ae (V U U (Aj U Fr U) (V U U (Al U AA U (H.cellI 0 U U)) (V U U (A0 U U U) (Ad U ?_)))))
  refine AN (d:=51) U (fun h30=>?_) (fun h30=>?_)
  ·exfalso;omega
  refine Ah 4 U (Ac (Z (B2 U (Ab (Ae (V U U (Aj U Fr U) (V U U (Al U AA U (H.cellI 0 U U)) (V U U (A0 U U U) (Ad U (Ac (Z ?_)))))))))))
  refine Ax U (fun h31=>?_) (fun h31=>?_)
  ·exfalso;omega
  refine Ab (Ae (V U U (Aj U Fr U) (V U U (Al U AA U (H.cellI 0 U U)) (V U U (A0 U U U) (Ad U ?_)))))
  refine AN (d:=91) U (fun h32=>?_) (fun h32=>?_)
  ·exfalso;omega
  refine Ah 8 U (Ac (Z (B2 U (Ab (Ae (V U U (Aj U Fr U) (V U U (Al U AA U (H.cellI 0 U U)) (V U U (A0 U U U) (Ad U ?_)))))))))
  refine AN (d:=111) U (fun h33=>?_) (fun h33=>?_)
  ·refine Ad U (V U U (A0 U U U) (Ah 2 U (Ac (Z ?_))))
   refine Ax U (fun h34=>?_) (fun h34=>?_)
   ·exact absurd h34 h29
   refine Av (AT (Z (Ab (Ae (Ah 2 U (Ac (Z (An (Ch U U U ?_)))))))))
   have e:Fu dg C W fr kd sp att=W:=if_pos (by omega)
   replace H:=H.sel 12 [1,2,3,4,5,6,7,8,9,10,11] [0] rfl (by kernel_rfl)
   replace H:Hd _ _ _ [blk b [vS1,.int .i64 J6.parts,vM2,vC3,vR4,.int .i64 J6.chunk,.int .i64 J6.window,.int .i64 J6.fuel,vK5,.int .i64 C.w,.int .i64 C.t,.int .i64 C.o,.int .i64 W.ep,.slice A15 ((rl10.map AD).length) c16,.map (some kb8),.slice A20 ((tl11.map AG).length) c21,.int .u32 (BA W.over)] 210,Y (Am Ag) vS1 J6.us,Y Af vM2 J6.map,Y Af vC3 J6.comb,Y Af vR4 J6.red,Y (Ai .i64) vK5 J6.marks,Y (Ai .i64) (.slice A15 ((rl10.map AD).length) c16) (rl10.map AD),Bq BJ kb8 (rl10.map BN),BU C rl10,Y B7 (.slice A20 ((tl11.map AG).length) c21) (tl11.map AG),B_ C.J tl11] [gl]:=H
   replace H:=Em b C W vS1 vM2 vC3 vR4 vK5 J6 (.slice A15 ((rl10.map AD).length) c16) kb8 (.slice A20 ((tl11.map AG).length) c21) rl10 tl11 ⟨hsj12,hrl13,htl14⟩ H
   replace H:=H.h1 (A:=BT b C W)
   exact Ak ⟨rfl,by rw [e]<;>rfl⟩ H
  refine Ah 4 U (Ac (Z (B2 U (Av (AT (Z (Ab (Ae (Ah 2 U (Ac (Z (An (Ch U U U ?_)))))))))))))
  have e:Fu dg C W fr kd sp att=W:=if_pos (by omega)
  replace H:=H.sel 12 [1,2,3,4,5,6,7,8,9,10,11] [0] rfl (by kernel_rfl)
  replace H:Hd _ _ _ [blk b [vS1,.int .i64 J6.parts,vM2,vC3,vR4,.int .i64 J6.chunk,.int .i64 J6.window,.int .i64 J6.fuel,vK5,.int .i64 C.w,.int .i64 C.t,.int .i64 C.o,.int .i64 W.ep,.slice A15 ((rl10.map AD).length) c16,.map (some kb8),.slice A20 ((tl11.map AG).length) c21,.int .u32 (BA W.over)] 210,Y (Am Ag) vS1 J6.us,Y Af vM2 J6.map,Y Af vC3 J6.comb,Y Af vR4 J6.red,Y (Ai .i64) vK5 J6.marks,Y (Ai .i64) (.slice A15 ((rl10.map AD).length) c16) (rl10.map AD),Bq BJ kb8 (rl10.map BN),BU C rl10,Y B7 (.slice A20 ((tl11.map AG).length) c21) (tl11.map AG),B_ C.J tl11] [gl]:=H
  replace H:=Em b C W vS1 vM2 vC3 vR4 vK5 J6 (.slice A15 ((rl10.map AD).length) c16) kb8 (.slice A20 ((tl11.map AG).length) c21) rl10 tl11 ⟨hsj12,hrl13,htl14⟩ H
  replace H:=H.h1 (A:=BT b C W)
  exact Ak ⟨rfl,by rw [e]<;>rfl⟩ H
 refine Ah 4 U (Ac (Z (B2 U (Ab (Ae (V U U (Aj U Fr U) (V U U (Al U AA U (H.cellI 0 U U)) (V U U (A0 U U U) (Ad U ?_)))))))))
 refine AN (d:=51) U (fun h35=>?_) (fun h35=>?_)
 ·exfalso;omega
 refine Ah 4 U (Ac (Z (B2 U (Ab (Ae (V U U (Aj U Fr U) (V U U (Al U AA U (H.cellI 0 U U)) (V U U (A0 U U U) (Ad U (Ac (Z ?_)))))))))))
 refine Ax U (fun h36=>?_) (fun h36=>?_)
 ·exfalso;omega
 refine Ab (Ae (V U U (Aj U Fr U) (V U U (Al U AA U (H.cellI 0 U U)) (V U U (A0 U U U) (Ad U ?_)))))
 refine AN (d:=91) U (fun h37=>?_) (fun h37=>?_)
 ·exfalso;omega
 refine Ah 8 U (Ac (Z (B2 U (Ab (Ae (V U U (Aj U Fr U) (V U U (Al U AA U (H.cellI 0 U U)) (V U U (A0 U U U) (Ad U ?_)))))))))
 refine AN (d:=111) U (fun h38=>?_) (fun h38=>?_)
 ·refine Ad U (V U U (A0 U U U) (Ah 2 U (Ac (Z ?_))))
  refine Ax U (fun h39=>?_) (fun h39=>?_)
  ·refine Ab (Ae (Ad U (V U U (AH U U) (V U U (Aj U Oi U) ?_))))
   replace H:=H.p1
   replace H:Hd _ _ _ [blk b [vS1,.int .i64 J6.parts,vM2,vC3,vR4,.int .i64 J6.chunk,.int .i64 J6.window,.int .i64 J6.fuel,vK5,.int .i64 C.w,.int .i64 C.t,.int .i64 C.o,.int .i64 W.ep,.slice A15 ((rl10.map AD).length) c16,.map (some kb8),.slice A20 ((tl11.map AG).length) c21,.int .u32 (BA W.over)] 210,blk b25 [.int .i64 kd,.int .i64 sp,.int .i64 att,.int .i64 0,.int .i64 0,.int .i64 0,.int .i64 0,.int .i64 0,.slice none 0 0,.slice none 0 0] 64,Y (Am Ag) vS1 J6.us,Y Af vM2 J6.map,Y Af vC3 J6.comb,Y Af vR4 J6.red,Y (Ai .i64) vK5 J6.marks,Y (Ai .i64) (.slice A15 ((rl10.map AD).length) c16) (rl10.map AD),Bq BJ kb8 (rl10.map BN),BU C rl10,Y B7 (.slice A20 ((tl11.map AG).length) c21) (tl11.map AG),B_ C.J tl11] [gl]:=H
   refine sc (aC b vS1 vM2 vC3 vR4 vK5 J6 C W.ep (.slice A15 ((rl10.map AD).length) c16) kb8 (.slice A20 ((tl11.map AG).length) c21) W.over) H l0 U U (Au JV U U) ?_
   rintro _ _ w ⟨rfl,rfl⟩ H
   replace H:=H.h1 (A:=blk b [vS1,.int .i64 J6.parts,vM2,vC3,vR4,.int .i64 J6.chunk,.int .i64 J6.window,.int .i64 J6.fuel,vK5,.int .i64 C.w,.int .i64 C.t,.int .i64 C.o,.int .i64 W.ep,.slice A15 ((rl10.map AD).length) c16,.map (some kb8),.slice A20 ((tl11.map AG).length) c21,.int .u32 (BA true)] 210)
   refine Ac (Z (Ae (Ad U (V U U (AH U U) (V U U (Aj U HL U) (BH U U U Ik U U H U (Nat.le_of_ble_eq_true U) (fun u hu=>by simp [Value.cells] at hu;subst hu;rfl) (fun w H=>?_)))))))
   replace H:=H.h1 (A:=blk b [vS1,.int .i64 J6.parts,vM2,vC3,vR4,.int .i64 J6.chunk,.int .i64 J6.window,.int .i64 J6.fuel,vK5,.int .i64 C.w,.int .i64 C.t,.int .i64 C.o,.int .i64 W.ep,.slice A15 ((rl10.map AD).length) c16,.map (some kb8),.slice none 0 0,.int .u32 (BA true)] 210)
   refine Ac (AT (Z (Ab (Ae (Ah 2 U (Ac (Z (An (Ch U U U ?_)))))))))
   replace H:=H.newnil B7
   replace H:=Hd.big0 (fun e:Nat×BO=>Cg e.1 C.J e.2) H
   replace H:=H.h2 (A:=B_ C.J ([]:List (Nat×BO))) (B:=Y B7 (.slice none 0 0) (([]:List (Nat×BO)).map AG))|>.keep 12
   have e:Fu dg C W fr kd sp att=({ W with ts:=[],over:=true }:Di):=by unfold Fu;rw [if_neg (fun g=>g (by omega)),if_neg (by omega)]
   replace H:=H.p1.pick 11 rfl|>.pick 11 rfl|>.pick 11 rfl|>.pick 11 rfl|>.pick 11 rfl|>.pick 11 rfl|>.pick 11 rfl|>.pick 11 rfl|>.pick 10 rfl|>.keep 11
   replace H:=Em b C ({ W with ts:=[],over:=true }:Di) vS1 vM2 vC3 vR4 vK5 J6 (.slice A15 ((rl10.map AD).length) c16) kb8 (.slice none 0 0) rl10 [] ⟨hsj12,hrl13,rfl⟩ H
   replace H:=H.h1 (A:=BT b C ({ W with ts:=[],over:=true }:Di))
   exact Ak ⟨rfl,by rw [e]<;>rfl⟩ H
  refine Av (AT (Z (Ab (Ae (Ah 2 U (Ac (Z (An (Ch U U U ?_)))))))))
  have e:Fu dg C W fr kd sp att=W:=if_pos (by omega)
  replace H:=H.sel 12 [1,2,3,4,5,6,7,8,9,10,11] [0] rfl (by kernel_rfl)
  replace H:Hd _ _ _ [blk b [vS1,.int .i64 J6.parts,vM2,vC3,vR4,.int .i64 J6.chunk,.int .i64 J6.window,.int .i64 J6.fuel,vK5,.int .i64 C.w,.int .i64 C.t,.int .i64 C.o,.int .i64 W.ep,.slice A15 ((rl10.map AD).length) c16,.map (some kb8),.slice A20 ((tl11.map AG).length) c21,.int .u32 (BA W.over)] 210,Y (Am Ag) vS1 J6.us,Y Af vM2 J6.map,Y Af vC3 J6.comb,Y Af vR4 J6.red,Y (Ai .i64) vK5 J6.marks,Y (Ai .i64) (.slice A15 ((rl10.map AD).length) c16) (rl10.map AD),Bq BJ kb8 (rl10.map BN),BU C rl10,Y B7 (.slice A20 ((tl11.map AG).length) c21) (tl11.map AG),B_ C.J tl11] [gl]:=H
  replace H:=Em b C W vS1 vM2 vC3 vR4 vK5 J6 (.slice A15 ((rl10.map AD).length) c16) kb8 (.slice A20 ((tl11.map AG).length) c21) rl10 tl11 ⟨hsj12,hrl13,htl14⟩ H
  replace H:=H.h1 (A:=BT b C W)
  exact Ak ⟨rfl,by rw [e]<;>rfl⟩ H
 refine Ah 4 U (Ac (Z (B2 U (Av (AT (Z (Ab (Ae (Ah 2 U (Ac (Z (An (Ch U U U ?_)))))))))))))
 have e:Fu dg C W fr kd sp att=W:=if_pos (by omega)
 replace H:=H.sel 12 [1,2,3,4,5,6,7,8,9,10,11] [0] rfl (by kernel_rfl)
 replace H:Hd _ _ _ [blk b [vS1,.int .i64 J6.parts,vM2,vC3,vR4,.int .i64 J6.chunk,.int .i64 J6.window,.int .i64 J6.fuel,vK5,.int .i64 C.w,.int .i64 C.t,.int .i64 C.o,.int .i64 W.ep,.slice A15 ((rl10.map AD).length) c16,.map (some kb8),.slice A20 ((tl11.map AG).length) c21,.int .u32 (BA W.over)] 210,Y (Am Ag) vS1 J6.us,Y Af vM2 J6.map,Y Af vC3 J6.comb,Y Af vR4 J6.red,Y (Ai .i64) vK5 J6.marks,Y (Ai .i64) (.slice A15 ((rl10.map AD).length) c16) (rl10.map AD),Bq BJ kb8 (rl10.map BN),BU C rl10,Y B7 (.slice A20 ((tl11.map AG).length) c21) (tl11.map AG),B_ C.J tl11] [gl]:=H
 replace H:=Em b C W vS1 vM2 vC3 vR4 vK5 J6 (.slice A15 ((rl10.map AD).length) c16) kb8 (.slice A20 ((tl11.map AG).length) c21) rl10 tl11 ⟨hsj12,hrl13,htl14⟩ H
 replace H:=H.h1 (A:=BT b C W)
 exact Ak ⟨rfl,by rw [e]<;>rfl⟩ H
theorem P0 (b:Nat) (J:AC) (M:BO):Cn Tryz.prog 32 [.pointer (some ⟨b,0,none⟩)] [Cg b J M] [] (fun v Bs=>v=.int .i64 ((Az dg J M.sp).2)∧Bs=[Cg b J M]):=by
 intro w0 F0 H
 obtain ⟨vS,vM,vC,vR,vK,J2,cw,ct,co,cb,fv,vw,ws,⟨hsj,hws⟩,H⟩:=J8 b J M H
 have H1:Hd w0 F0 w0 ([blk cb [.int .u32 1,.int .i32 0,.int .u32 0,.int .u32 1,fv,.string (AZ (Az dg J2 M.sp).1)] 234]++[blk b [vS,.int .i64 J2.parts,vM,vC,vR,.int .i64 J2.chunk,.int .i64 J2.window,.int .i64 J2.fuel,vK,.int .i64 cw,.int .i64 ct,.int .i64 co,.int .i64 ((M.sp:Nat):Int),.int .i64 M.att,.int .i64 ((Az dg J2 M.sp).2),.pointer (some ⟨cb,0,none⟩),vw] 164,Y (Am Ag) vS J2.us,Y Af vM J2.map,Y Af vC J2.comb,Y Af vR J2.red,Y (Ai .i64) vK J2.marks,Y Cq vw (ws.map Prod.fst),Bn (Ci 239) ws]) []:=H.pick 1 rfl
 refine (Gk (PF b vS vM vC vR vK J2 cw ct co M.sp M.att cb fv vw ) H1 (lA 0 U (fun _ h=>h) l0)).mono ?_
 rintro e w ⟨v,rfl,Bs,⟨rfl,rfl⟩,H⟩
 replace H:Hd w0 F0 w [blk cb [.int .u32 1,.int .i32 0,.int .u32 0,.int .u32 1,fv,.string (AZ (Az dg J2 M.sp).1)] 234,blk b [vS,.int .i64 J2.parts,vM,vC,vR,.int .i64 J2.chunk,.int .i64 J2.window,.int .i64 J2.fuel,vK,.int .i64 cw,.int .i64 ct,.int .i64 co,.int .i64 ((M.sp:Nat):Int),.int .i64 M.att,.int .i64 ((Az dg J2 M.sp).2),.pointer (some ⟨cb,0,none⟩),vw] 164,Y (Am Ag) vS J2.us,Y Af vM J2.map,Y Af vC J2.comb,Y Af vR J2.red,Y (Ai .i64) vK J2.marks,Y Cq vw (ws.map Prod.fst),Bn (Ci 239) ws] []:=H
 replace H:=H.p1
 have e:=hsj.split dg M.sp
 exact ⟨_,rfl,_,⟨by rw [e],rfl⟩,IR b J M vS vM vC vR vK J2 cw ct co cb fv vw ws ⟨hsj,hws⟩ (As:=[]) H⟩
theorem PZ (b:Nat) (J:AC) (M:BO) (hJ:B8 J):Cn Tryz.prog 30 [.pointer (some ⟨b,0,none⟩)] [Cg b J M] [] (fun v Bs=>Bs=[Y (Ai .i64) v (Bt dg J M.sp M.att),Cg b J M]):=by
 intro w0 F0 H
 obtain ⟨vS,vM,vC,vR,vK,J2,cw,ct,co,cb,fv,vw,ws,⟨hsj,hws⟩,H⟩:=J8 b J M H
 have H1:Hd w0 F0 w0 ([blk cb [.int .u32 1,.int .i32 0,.int .u32 0,.int .u32 1,fv,.string (AZ (Az dg J2 M.sp).1)] 234]++[blk b [vS,.int .i64 J2.parts,vM,vC,vR,.int .i64 J2.chunk,.int .i64 J2.window,.int .i64 J2.fuel,vK,.int .i64 cw,.int .i64 ct,.int .i64 co,.int .i64 ((M.sp:Nat):Int),.int .i64 M.att,.int .i64 ((Az dg J2 M.sp).2),.pointer (some ⟨cb,0,none⟩),vw] 164,Y (Am Ag) vS J2.us,Y Af vM J2.map,Y Af vC J2.comb,Y Af vR J2.red,Y (Ai .i64) vK J2.marks,Y Cq vw (ws.map Prod.fst),Bn (Ci 239) ws]) []:=H.pick 1 rfl
 refine (Gk (VG b vS vM vC vR vK J2 cw ct co M.sp M.att cb fv vw  (hsj.symm.ok hJ)) H1 (lA 0 U (fun _ h=>h) l0)).mono ?_
 rintro e w ⟨v,rfl,Bs,rfl,H⟩
 replace H:Hd w0 F0 w [Y (Ai .i64) v (Bt dg J2 M.sp M.att),blk cb [.int .u32 1,.int .i32 0,.int .u32 0,.int .u32 1,fv,.string (AZ (Az dg J2 M.sp).1)] 234,blk b [vS,.int .i64 J2.parts,vM,vC,vR,.int .i64 J2.chunk,.int .i64 J2.window,.int .i64 J2.fuel,vK,.int .i64 cw,.int .i64 ct,.int .i64 co,.int .i64 ((M.sp:Nat):Int),.int .i64 M.att,.int .i64 ((Az dg J2 M.sp).2),.pointer (some ⟨cb,0,none⟩),vw] 164,Y (Am Ag) vS J2.us,Y Af vM J2.map,Y Af vC J2.comb,Y Af vR J2.red,Y (Ai .i64) vK J2.marks,Y Cq vw (ws.map Prod.fst),Bn (Ci 239) ws] []:=H
 replace H:=H.p9.p9.p9.p9.p9.p9.p9.p8.p9
 replace H:=IR b J M vS vM vC vR vK J2 cw ct co cb fv vw ws ⟨hsj,hws⟩ (As:=[Y (Ai .i64) v (Bt dg J2 M.sp M.att)]) H
 refine ⟨v,rfl,_,rfl,?_⟩
 have e:=NR hsj dg M.sp M.att
 rw [e] at H
 exact H.pick 1 U
end Go.Proofs.YthgehekecfpikaaGreatDoor.X
