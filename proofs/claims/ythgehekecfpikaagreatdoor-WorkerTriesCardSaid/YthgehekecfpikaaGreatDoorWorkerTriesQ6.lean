/- WorkerTries: texts M2, M3, W1, M4, XCat, S1, S2, N7, N9, N10, WK1, WK2, M5, M7, joined by a program of ours; what nothing names is left out. -/
import Derived.Test.YthgehekecfpikaaGreatDoorWorkerTriesQ5
set_option linter.unusedVariables false
set_option linter.unusedSimpArgs false
set_option maxHeartbeats 8000000
namespace Go.Proofs.YthgehekecfpikaaGreatDoor.X
open Go
theorem PQ (b:Nat) (vS:Value) (vM:Value) (vC:Value) (vR:Value) (vK:Value) (J:AD) (cw:Int) (ct:Int) (co:Int) (s:Nat) (att:Int) (cb:Nat) (fv:Value) (vw:Value):
    Cn Tryz.prog 32 [.pointer (some ⟨b,0,none⟩)] [blk cb [.int .u32 1,.int .i32 0,.int .u32 0,.int .u32 1,fv,.string (Ba (Ay dg J s).1)] 234] [blk b [vS,.int .i64 J.parts,vM,vC,vR,.int .i64 J.chunk,.int .i64 J.window,.int .i64 J.fuel,vK,.int .i64 cw,.int .i64 ct,.int .i64 co,.int .i64 ((s:Nat):Int),.int .i64 att,.int .i64 ((Ay dg J s).2),.pointer (some ⟨cb,0,none⟩),vw] 164] (fun v Bs=>v=.int .i64 ((Ay dg J s).2)∧Bs=[blk cb [.int .u32 1,.int .i32 0,.int .u32 0,.int .u32 1,fv,.string (Ba (Ay dg J s).1)] 234]):=by
 intro w0 F0 H
 refine enter Tryz.func32 U U (Nat.le_of_ble_eq_true U) (Ab (Ae (Ad U (Ac (Aa (Ab (Ab (Ae (Ad U (V U U (Dn U G9 U U) (Ac (Aa (B7 U (Av (Aa (Ab (Ae (Ad U (V U U (AH U U) (V U U (Aj U JR U) (V U U (Ak U DT U (H.cellRI 0 U U)) (sc (LM cb fv (Ba (Ay dg J s).1)) H l0 U U (At IT U U) ?_))))))))))))))))))))))
 rintro _ _ w ⟨rfl,rfl⟩ H
 refine Ac (Aa ?_)
 replace H:Hd _ _ _ [blk cb [.int .u32 1,.int .i32 0,.int .u32 0,.int .u32 1,fv,.string (Ba (Ay dg J s).1)] 234] [blk b [vS,.int .i64 J.parts,vM,vC,vR,.int .i64 J.chunk,.int .i64 J.window,.int .i64 J.fuel,vK,.int .i64 cw,.int .i64 ct,.int .i64 co,.int .i64 ((s:Nat):Int),.int .i64 att,.int .i64 ((Ay dg J s).2),.pointer (some ⟨cb,0,none⟩),vw] 164]:=H
 exact Ab (Ae (Ad U (V U U (AH U U) (V U U (Aj U Lz U) (V U U (Ak U AB U (H.cellRI 0 U U)) (Ad U (Ac (Aa (An (Aq U U (Al ⟨rfl,rfl⟩ H)))))))))))
theorem Md (b:Nat) (vS:Value) (vM:Value) (vC:Value) (vR:Value) (vK:Value) (J:AD) (cw:Int) (ct:Int) (co:Int) (s:Nat) (att:Int) (cb:Nat) (fv:Value) (vw:Value) (p:Int) (hJ:Cb J):
    Cn Tryz.prog 106 [.pointer (some ⟨b,0,none⟩),.int .i64 p] [blk cb [.int .u32 1,.int .i32 0,.int .u32 0,.int .u32 1,fv,.string (Ba (Ay dg J s).1)] 234] [blk b [vS,.int .i64 J.parts,vM,vC,vR,.int .i64 J.chunk,.int .i64 J.window,.int .i64 J.fuel,vK,.int .i64 cw,.int .i64 ct,.int .i64 co,.int .i64 ((s:Nat):Int),.int .i64 att,.int .i64 ((Ay dg J s).2),.pointer (some ⟨cb,0,none⟩),vw] 164] (fun v Bs=>Bs=[Y Ag v (Cy dg J s p),blk cb [.int .u32 1,.int .i32 0,.int .u32 0,.int .u32 1,fv,.string (Ba (Ay dg J s).1)] 234]):=by
 intro w0 F0 H
 have hlen:(Ay dg J s).1.length≤1000:=by have:=Ir dg J s;omega
 have hszs:∀ p∈(Ay dg J s).1,p.key.size≤100∧p.val.size≤100:=fun x hx=>by have:=Jj Ie hJ s x hx;unfold C_ at this;omega
 have hsk:∀ x∈(Ay dg J s).1,x.key.size≤9223372036854775807:=fun x hx=>by have:=(hszs x hx).1;omega
 have hpt:=hJ.parts
 have hck:=hJ.chunk1
 have hol:=I2 dg J s
 refine enter Tryz.func106 U U (Nat.le_of_ble_eq_true U) (Ab (Ae (Ad U (Ac (Aa (Ab (BY (.e 0 (.e 1 (.e 2 (.e 3 (.e 6 (.e 7 (.e 8 (.e 9 (.e 10 (.e 11 (.e 12 (.m 4 (.m 5 (.m 13 (.e 14 .z))))))))))))))) (fun w=>∃ Ar,Hd w0 F0 w (blk cb [.int .u32 1,.int .i32 0,.int .u32 0,.int .u32 1,fv,.string (Ba (Ay dg J s).1)] 234::Ar) [blk b [vS,.int .i64 J.parts,vM,vC,vR,.int .i64 J.chunk,.int .i64 J.window,.int .i64 J.fuel,vK,.int .i64 cw,.int .i64 ct,.int .i64 co,.int .i64 ((s:Nat):Int),.int .i64 att,.int .i64 ((Ay dg J s).2),.pointer (some ⟨cb,0,none⟩),vw] 164]) mo (by kernel_rfl) (fun w H=>⟨_,H⟩) H (fun w H=>(Au U (Ao U U U (fun w ⟨Ar,H⟩=>AH U U) (Ao U U U (fun w ⟨Ar,H⟩=>Aj U JR U) (Ao U U U (fun w ⟨Ar,H⟩=>Ak U DT U (H.cellRI 0 U U)) (Au U ?_)))))))))))))
 refine Ao U U U (fun w ⟨Ar,H⟩=>AH U U) (Ao U U U (fun w ⟨Ar,H⟩=>Aj U JQ U) (Ao U U U (fun w ⟨Ar,H⟩=>Aj U C0 U) (Ao U U U (fun w ⟨Ar,H⟩=>Aj U HQ U) (Ao U U U (fun w ⟨Ar,H⟩=>Ak U AB U (H.cellRI 0 U U)) (Au U (AO U (sc (LM cb fv (Ba (Ay dg J s).1)) H l0 U U (At IT U U) ?_)))))))
 rintro _ _ w ⟨rfl,rfl⟩ H
 replace H:Hd _ _ _ [blk cb [.int .u32 1,.int .i32 0,.int .u32 0,.int .u32 1,fv,.string (Ba (Ay dg J s).1)] 234] [blk b [vS,.int .i64 J.parts,vM,vC,vR,.int .i64 J.chunk,.int .i64 J.window,.int .i64 J.fuel,vK,.int .i64 cw,.int .i64 ct,.int .i64 co,.int .i64 ((s:Nat):Int),.int .i64 att,.int .i64 ((Ay dg J s).2),.pointer (some ⟨cb,0,none⟩),vw] 164]:=H
 refine AE ⟨_,H⟩ (AO U (sc (Z1 ((Ay dg J s).1) (by first |assumption|omega|exact hlen|exact hszs) (by first |assumption|omega|exact hlen|exact hszs)) H l0 U U (At UY U U) ?_))
 rintro v1 _ w rfl H
 replace H:=H.h1 (A:=Y Ag v1 ((Ay dg J s).1))|>.p1
 refine AE ⟨_,H⟩ (AO U (sc (W4 v1 ((Ay dg J s).1) J.parts p (by first |omega|(rw [Gg];omega)) (by omega) (by assumption)) H (lA 1 U BJ l0) U U (At UN U U) ?_))
 rintro v2 _ w rfl H
 replace H:=H.h1 (A:=Y Ag v2 (E2 ((Ay dg J s).1) J.parts p))|>.p1
 refine AE ⟨_,H⟩ (Au U (BP (Aa (An (Aq U U ?_)))))
 replace H:=H.p1.k2.h1 (A:=Y Ag v2 (Cy dg J s p))
 exact Al U H
theorem Me (b:Nat) (vS:Value) (vM:Value) (vC:Value) (vR:Value) (vK:Value) (J:AD) (cw:Int) (ct:Int) (co:Int) (s:Nat) (att:Int) (cb:Nat) (vw:Value) (hJ:Cb J):
    Cn Tryz.prog 107 [.pointer (some ⟨b,0,none⟩)] [] [blk b [vS,.int .i64 J.parts,vM,vC,vR,.int .i64 J.chunk,.int .i64 J.window,.int .i64 J.fuel,vK,.int .i64 cw,.int .i64 ct,.int .i64 co,.int .i64 ((s:Nat):Int),.int .i64 att,.int .i64 ((Ay dg J s).2),.pointer (some ⟨cb,0,none⟩),vw] 164] (fun v Bs=>v=.int .i64 (Dk J.chunk att)∧Bs=[]):=by
 intro w0 F0 H
 have hck:=hJ.chunk1
 refine enter Tryz.func107 U U (Nat.le_of_ble_eq_true U) (Ab (Ae (Ad U (Ac (Aa (Ab (BY (.e 0 (.e 1 (.e 2 (.e 3 (.e 4 (.e 5 (.e 6 (.e 7 (.e 8 (.e 9 (.m 10 (.e 11 .z)))))))))))) (fun w=>∃ Ar,Hd w0 F0 w (Ar) [blk b [vS,.int .i64 J.parts,vM,vC,vR,.int .i64 J.chunk,.int .i64 J.window,.int .i64 J.fuel,vK,.int .i64 cw,.int .i64 ct,.int .i64 co,.int .i64 ((s:Nat):Int),.int .i64 att,.int .i64 ((Ay dg J s).2),.pointer (some ⟨cb,0,none⟩),vw] 164]) mo (by kernel_rfl) (fun w H=>⟨_,H⟩) H (fun w H=>(Au U (Ao U U U (fun w ⟨Ar,H⟩=>AH U U) (Ao U U U (fun w ⟨Ar,H⟩=>Aj U JQ U) (Ao U U U (fun w ⟨Ar,H⟩=>Aj U C0 U) (Ao U U U (fun w ⟨Ar,H⟩=>Aj U OA U) (Ao U U U (fun w ⟨Ar,H⟩=>Ak U AB U (H.cellRI 0 U U)) (Au U (Ao U U U (fun w ⟨Ar,H⟩=>AH U U) ?_))))))))))))))))
 refine Ao U U U (fun w ⟨Ar,H⟩=>Aj U Ot U) (Ao U U U (fun w ⟨Ar,H⟩=>Ak U AB U (H.cellRI 0 U U)) (AO U (sc (S7 J.chunk att (by first |assumption|omega|exact hlen|exact hszs)) H l0 U U (At UZ U U) ?_)))
 rintro _ _ w ⟨rfl,rfl⟩ H
 replace H:Hd _ _ _ [] [blk b [vS,.int .i64 J.parts,vM,vC,vR,.int .i64 J.chunk,.int .i64 J.window,.int .i64 J.fuel,vK,.int .i64 cw,.int .i64 ct,.int .i64 co,.int .i64 ((s:Nat):Int),.int .i64 att,.int .i64 ((Ay dg J s).2),.pointer (some ⟨cb,0,none⟩),vw] 164]:=H
 exact AE ⟨_,H⟩ (Au U (BP (Aa (An (Aq U U (Al ⟨rfl,rfl⟩ H))))))
theorem V4 (b:Nat) (vS:Value) (vM:Value) (vC:Value) (vR:Value) (vK:Value) (J:AD) (cw:Int) (ct:Int) (co:Int) (s:Nat) (att:Int) (cb:Nat) (fv:Value) (vw:Value) (hJ:Cb J):
    Cn Tryz.prog 30 [.pointer (some ⟨b,0,none⟩)] [blk cb [.int .u32 1,.int .i32 0,.int .u32 0,.int .u32 1,fv,.string (Ba (Ay dg J s).1)] 234] [blk b [vS,.int .i64 J.parts,vM,vC,vR,.int .i64 J.chunk,.int .i64 J.window,.int .i64 J.fuel,vK,.int .i64 cw,.int .i64 ct,.int .i64 co,.int .i64 ((s:Nat):Int),.int .i64 att,.int .i64 ((Ay dg J s).2),.pointer (some ⟨cb,0,none⟩),vw] 164] (fun v Bs=>Bs=[Y (Ai .i64) v (Bj dg J s att),blk cb [.int .u32 1,.int .i32 0,.int .u32 0,.int .u32 1,fv,.string (Ba (Ay dg J s).1)] 234]):=by
 intro w0 F0 H
 have hlen:(Ay dg J s).1.length≤1000:=by have:=Ir dg J s;omega
 have hszs:∀ p∈(Ay dg J s).1,p.key.size≤100∧p.val.size≤100:=fun x hx=>by have:=Jj Ie hJ s x hx;unfold C_ at this;omega
 have hsk:∀ x∈(Ay dg J s).1,x.key.size≤9223372036854775807:=fun x hx=>by have:=(hszs x hx).1;omega
 have hpt:=hJ.parts
 have hck:=hJ.chunk1
 have hol:=I2 dg J s
 refine enter Tryz.func30 U U (Nat.le_of_ble_eq_true U) (Ab (Ae (Ad U (Ac (Aa (Ab (Ab (Ae (Ad U (V U U (Dn U G9 U U) (Ah 2 U (sc (PQ b vS vM vC vR vK J cw ct co s att cb fv vw) H (lR 0 U l0) U U (At H9 U U) ?_))))))))))))
 rintro _ _ w ⟨rfl,rfl⟩ H
 refine V U U (CX U U U) (Ad U (Ac (Aa ?_)))
 replace H:Hd _ _ _ [blk cb [.int .u32 1,.int .i32 0,.int .u32 0,.int .u32 1,fv,.string (Ba (Ay dg J s).1)] 234] [blk b [vS,.int .i64 J.parts,vM,vC,vR,.int .i64 J.chunk,.int .i64 J.window,.int .i64 J.fuel,vK,.int .i64 cw,.int .i64 ct,.int .i64 co,.int .i64 ((s:Nat):Int),.int .i64 att,.int .i64 ((Ay dg J s).2),.pointer (some ⟨cb,0,none⟩),vw] 164]:=H
 refine Ax U (fun h1=>?_) (fun h1=>?_)
 ·refine Ab (Ae (Ad U (Ac (Aa (An (Az (Aq U U ?_)))))))
  replace H:=H.newnil (Ai .i64)|>.tellK (ys:=Bj dg J s att) (by rw [Lg h1])|>.h1 (A:=Y (Ai .i64) (.slice none 0 0) (Bj dg J s att))
  exact Al U H
 refine Av (Aa (Ab (Ae (Ad U (Ac (Aa (Ab (Ab (Ae (Ad U (V U U (AH U U) (V U U (Aj U JQ U) (V U U (Aj U C0 U) (V U U (Aj U HQ U) (V U U (Ak U AB U (H.cellRI 0 U U)) (Ad U (Ac (Aa (AS ?_)))))))))))))))))))
 replace H:=H.newnil (Ai .i64)|>.tellK (ys:=D3 dg J s att 0) (by rfl)
 refine BQ (σ:=Nat×Value) (fun (k,q)=>[(0,.pointer (some ⟨b,0,none⟩)),(2,.slice none 0 0),(3,q),(17,.int .i64 J.parts),(18,.int .i64 ((k:Nat):Int))]) (fun (k,q) w=>(Hd w0 F0 w [Y (Ai .i64) q (D3 dg J s att k),blk cb [.int .u32 1,.int .i32 0,.int .u32 0,.int .u32 1,fv,.string (Ba (Ay dg J s).1)] 234] [blk b [vS,.int .i64 J.parts,vM,vC,vR,.int .i64 J.chunk,.int .i64 J.window,.int .i64 J.fuel,vK,.int .i64 cw,.int .i64 ct,.int .i64 co,.int .i64 ((s:Nat):Int),.int .i64 att,.int .i64 ((Ay dg J s).2),.pointer (some ⟨cb,0,none⟩),vw] 164])∧((k:Int)≤J.parts)) (fun (k,q)=>J.parts.toNat - k) (0,.slice none 0 0) ⟨rfl,rfl,rfl,rfl,rfl,trivial⟩ ⟨H,by omega⟩ ?_
 rintro ⟨k,q⟩ w ⟨H,hk⟩
 have hcl:=NT dg J s att k
 have holk:=hol ((k:Nat):Int)
 refine Ab (Ae (V U U (Bd U U U) (Ac (Aa (Ab ?_)))))
 refine Ax U (fun h2=>?_) (fun h2=>?_)
 ·refine Av (Aa (Ab (AS (Ab (Ae (Ah 2 U (Ac (Aa (Ae (Ah 3 U ?_))))))))))
  replace H:=H.p1
  replace H:Hd _ _ _ [blk cb [.int .u32 1,.int .i32 0,.int .u32 0,.int .u32 1,fv,.string (Ba (Ay dg J s).1)] 234,Y (Ai .i64) q (D3 dg J s att k)] [blk b [vS,.int .i64 J.parts,vM,vC,vR,.int .i64 J.chunk,.int .i64 J.window,.int .i64 J.fuel,vK,.int .i64 cw,.int .i64 ct,.int .i64 co,.int .i64 ((s:Nat):Int),.int .i64 att,.int .i64 ((Ay dg J s).2),.pointer (some ⟨cb,0,none⟩),vw] 164]:=H
  refine sc (Md b vS vM vC vR vK J cw ct co s att cb fv vw ((k:Nat):Int) (by first |assumption|omega|exact hlen|exact hszs)) H (lR 0 U l0) U U (At LU U U) ?_
  rintro v3 _ w rfl H
  obtain ⟨A4,c5,rfl,hc6,hm7,hp8⟩:=H.fA 0 rfl
  refine V U U (A8 U Db U) (Ad U ?_)
  replace H:Hd _ _ _ [Y Ag (.slice A4 ((Cy dg J s ((k:Nat):Int)).length) c5) (Cy dg J s ((k:Nat):Int)),blk cb [.int .u32 1,.int .i32 0,.int .u32 0,.int .u32 1,fv,.string (Ba (Ay dg J s).1)] 234,Y (Ai .i64) q (D3 dg J s att k)] [blk b [vS,.int .i64 J.parts,vM,vC,vR,.int .i64 J.chunk,.int .i64 J.window,.int .i64 J.fuel,vK,.int .i64 cw,.int .i64 ct,.int .i64 co,.int .i64 ((s:Nat):Int),.int .i64 att,.int .i64 ((Ay dg J s).2),.pointer (some ⟨cb,0,none⟩),vw] 164]:=H
  refine sc (Me b vS vM vC vR vK J cw ct co s att cb vw (by first |assumption|omega|exact hlen|exact hszs)) H (lR 0 U l0) U U (At LV U U) ?_
  rintro _ _ w ⟨rfl,rfl⟩ H
  refine sc (Lh (((Cy dg J s ((k:Nat):Int)).length:Nat):Int) (Dk J.chunk att) (by first |assumption|omega|exact hlen|exact hszs)) H l0 U U (At LT U U) ?_
  rintro _ _ w ⟨rfl,rfl⟩ H
  refine BX (parts:=[(0,.tmp 28)]) (vs:=[.int .i64 (Dj (((Cy dg J s ((k:Nat):Int)).length:Nat):Int) (Dk J.chunk att))]) (cs:=[.int .i64 (Dj (((Cy dg J s ((k:Nat):Int)).length:Nat):Int) (Dk J.chunk att))]) U U U Dx F7 U (by decide) (by decide) U U H (fun b9 w H=>?_)
  replace H:=H.p3
  refine Ct (xs:=D3 dg J s att k) (ys:=[Dj (((Cy dg J s ((k:Nat):Int)).length:Nat):Int) (Dk J.chunk att)]) U U U Dx F7 U (by decide) U U H (by first |omega|(simp only [List.length_append,List.length_cons,List.length_nil];omega)) (fun F hA hR=>Cm (hA _ (List.mem_of_getElem? (i:=0) U)) U (by decide) (AW.flat_eq.2 U)) (fun v10 w H=>(Ad U (Ac (AU (Aa ?_)))))
  replace H:Hd _ _ _ [Y (Ai .i64) v10 ((D3 dg J s att k)++[Dj (((Cy dg J s ((k:Nat):Int)).length:Nat):Int) (Dk J.chunk att)]),blk b9 [.int .i64 (Dj (((Cy dg J s ((k:Nat):Int)).length:Nat):Int) (Dk J.chunk att))] 3,Y Ag (.slice A4 ((Cy dg J s ((k:Nat):Int)).length) c5) (Cy dg J s ((k:Nat):Int)),blk cb [.int .u32 1,.int .i32 0,.int .u32 0,.int .u32 1,fv,.string (Ba (Ay dg J s).1)] 234] [blk b [vS,.int .i64 J.parts,vM,vC,vR,.int .i64 J.chunk,.int .i64 J.window,.int .i64 J.fuel,vK,.int .i64 cw,.int .i64 ct,.int .i64 co,.int .i64 ((s:Nat):Int),.int .i64 att,.int .i64 ((Ay dg J s).2),.pointer (some ⟨cb,0,none⟩),vw] 164]:=H
  refine Ae (V U U (AT (z:=((k+1:Nat):Int)) U U U (by rw [AC (by omega) (by omega)];omega)) (Ad U (Ac ?_)))
  replace H:=H.p3.p1.k2.tellK (ys:=D3 dg J s att (k+1)) (by rw [NU])
  exact Bi (s:=(k,undef)) (k+1,v10) ⟨rfl,rfl,rfl,rfl,rfl,trivial⟩ ⟨H,by (try dsimp only);omega⟩ (by (try dsimp only);omega)
 refine BC (AM (AM (BD (Aa (Ab (Ae (Ah 2 U (Ac (Aa (An (Aq U U ?_)))))))))))
 have hkk:k=J.parts.toNat:=by omega
 replace H:=H.tellK (ys:=Bj dg J s att) (by rw [N4 (Classical.not_not.1 h1),←hkk])
 replace H:Hd _ _ _ [Y (Ai .i64) q (Bj dg J s att),blk cb [.int .u32 1,.int .i32 0,.int .u32 0,.int .u32 1,fv,.string (Ba (Ay dg J s).1)] 234] [blk b [vS,.int .i64 J.parts,vM,vC,vR,.int .i64 J.chunk,.int .i64 J.window,.int .i64 J.fuel,vK,.int .i64 cw,.int .i64 ct,.int .i64 co,.int .i64 ((s:Nat):Int),.int .i64 att,.int .i64 ((Ay dg J s).2),.pointer (some ⟨cb,0,none⟩),vw] 164]:=H
 exact Al U H
theorem V2 (b:Nat) (vS:Value) (vM:Value) (vC:Value) (vR:Value) (vK:Value) (J:AD) (cw:Int) (ct:Int) (co:Int) (s:Nat) (att:Int) (cb:Nat) (fv:Value) (vw:Value) (p:Int) (q:Int) (hJ:Cb J):
    Cn Tryz.prog 41 [.pointer (some ⟨b,0,none⟩),.int .i64 p,.int .i64 q] [blk cb [.int .u32 1,.int .i32 0,.int .u32 0,.int .u32 1,fv,.string (Ba (Ay dg J s).1)] 234] [blk b [vS,.int .i64 J.parts,vM,vC,vR,.int .i64 J.chunk,.int .i64 J.window,.int .i64 J.fuel,vK,.int .i64 cw,.int .i64 ct,.int .i64 co,.int .i64 ((s:Nat):Int),.int .i64 att,.int .i64 ((Ay dg J s).2),.pointer (some ⟨cb,0,none⟩),vw] 164] (fun v Bs=>Bs=[Y Ag v (C8 dg J s att p q),blk cb [.int .u32 1,.int .i32 0,.int .u32 0,.int .u32 1,fv,.string (Ba (Ay dg J s).1)] 234]):=by
 intro w0 F0 H
 have hlen:(Ay dg J s).1.length≤1000:=by have:=Ir dg J s;omega
 have hszs:∀ p∈(Ay dg J s).1,p.key.size≤100∧p.val.size≤100:=fun x hx=>by have:=Jj Ie hJ s x hx;unfold C_ at this;omega
 have hsk:∀ x∈(Ay dg J s).1,x.key.size≤9223372036854775807:=fun x hx=>by have:=(hszs x hx).1;omega
 have hpt:=hJ.parts
 have hck:=hJ.chunk1
 have hol:=I2 dg J s
 have hcs:=S8 (att:=att) hck
 have holp:=hol p
 refine enter Tryz.func41 U U (Nat.le_of_ble_eq_true U) (Ab (Ae (Ad U (Ac (Aa (Ab (Ab (Ae (Ad U (V U U (Dn U G9 U U) (Ah 2 U (V U U (Bd U U U) (Ad U (Ac (Aa ?_)))))))))))))))
 refine Ax U (fun h1=>?_) (fun h1=>?_)
 ·refine Ab (Ae (Ad U (Ac (Aa (An (Az (Aq U U ?_)))))))
  replace H:=H.newnil Ag
  replace H:Hd _ _ _ [Y Ag (.slice none 0 0) [],blk cb [.int .u32 1,.int .i32 0,.int .u32 0,.int .u32 1,fv,.string (Ba (Ay dg J s).1)] 234] [blk b [vS,.int .i64 J.parts,vM,vC,vR,.int .i64 J.chunk,.int .i64 J.window,.int .i64 J.fuel,vK,.int .i64 cw,.int .i64 ct,.int .i64 co,.int .i64 ((s:Nat):Int),.int .i64 att,.int .i64 ((Ay dg J s).2),.pointer (some ⟨cb,0,none⟩),vw] 164]:=H
  replace H:=H.tellK (ys:=C8 dg J s att p q) (by rw [show C8 dg J s att p q=[] from if_pos h1])|>.h1 (A:=Y Ag (.slice none 0 0) (C8 dg J s att p q))
  exact Al U H
 refine Av (Aa (Ab (Ae (Ah 2 U (sc (Md b vS vM vC vR vK J cw ct co s att cb fv vw p (by first |assumption|omega|exact hlen|exact hszs)) H (lR 0 U l0) U U (At LU U U) ?_)))))
 rintro v2 _ w rfl H
 refine Ad U ?_
 replace H:Hd _ _ _ [Y Ag v2 (Cy dg J s p),blk cb [.int .u32 1,.int .i32 0,.int .u32 0,.int .u32 1,fv,.string (Ba (Ay dg J s).1)] 234] [blk b [vS,.int .i64 J.parts,vM,vC,vR,.int .i64 J.chunk,.int .i64 J.window,.int .i64 J.fuel,vK,.int .i64 cw,.int .i64 ct,.int .i64 co,.int .i64 ((s:Nat):Int),.int .i64 att,.int .i64 ((Ay dg J s).2),.pointer (some ⟨cb,0,none⟩),vw] 164]:=H
 refine sc (Me b vS vM vC vR vK J cw ct co s att cb vw (by first |assumption|omega|exact hlen|exact hszs)) H (lR 0 U l0) U U (At LV U U) ?_
 rintro _ _ w ⟨rfl,rfl⟩ H
 refine Ad U (sc (S5 v2 (Cy dg J s p) (Dk J.chunk att) q (by first |assumption|omega|exact hlen|exact hszs) (by first |assumption|omega|exact hlen|exact hszs)) H (lA 0 U BJ l0) U U (At UJ U U) ?_)
 rintro v3 _ w rfl H
 replace H:=H.h1 (A:=Y Ag v3 (Fd (Cy dg J s p) (Dk J.chunk att) q))
 refine Ad U (Ac (Aa (An (Aq U U ?_))))
 replace H:=H.p2.p1.k2.tellK (ys:=C8 dg J s att p q) (by rw [show C8 dg J s att p q=Fd (Cy dg J s p) (Dk J.chunk att) q from if_neg h1])|>.h1 (A:=Y Ag v3 (C8 dg J s att p q))
 exact Al U H
theorem Uh {w0 w:World} {F0:AJ} {As Rs:List SP} (H:Hd w0 F0 w As Rs):Hd w0 F0 w (As++[]) Rs:=by rw [List.append_nil];exact H
theorem WM {w0 w:World} {F0:AJ} {As Rs:List SP} (H:Hd w0 F0 w (As++[]) Rs):Hd w0 F0 w As Rs:=by rw [List.append_nil] at H;exact H
set_option maxRecDepth 100000 in
theorem Te (c pl:Nat) (sm:Value) (md:Int) (fv:Value) (tx tx2:ByteArray) (Xs Ys Rs:List SP)
  (hcl:Cn Tryz.prog 170 [.pointer (some ⟨pl,0,none⟩)] (blk c [.int .u32 0,.int .i32 1,sm,.int .u32 md,fv,.string tx] 234::Xs) Rs (fun v Bs=>v=.tuple #[]∧Bs=blk c [.int .u32 0,.int .i32 1,sm,.int .u32 md,fv,.string tx2] 234::Ys)):
  Cn Tryz.prog 205 [.pointer (some ⟨c,0,none⟩),.func (.func 170) #[] #[.pointer (some ⟨pl,0,none⟩)]] (blk c [.int .u32 0,.int .i32 0,sm,.int .u32 md,fv,.string tx] 234::Xs) Rs (fun v Bs=>v=.tuple #[]∧Bs=blk c [.int .u32 1,.int .i32 0,sm,.int .u32 md,fv,.string tx2] 234::Ys):=by
 intro w F H
 have hnot:∀ (x:Bool) (w:World),(Op.unary .not (.bool x)).run Tryz.prog w=.ok (.bool (!x)) w:=fun _ _=>rfl
 go_enter_defers Tryz.func205,Tryz.ntmps205
 go_wp2_with (first
  |(go_at_call 241;refine (Gq (As:=Xs) (PH c 0 sm md fv tx) H l0).mono ?_;rintro e w1 ⟨v,rfl,Bs,⟨rfl,rfl⟩,H1⟩)
  |(go_at_call 144;refine (Gq (Cs:=[]) (Ke c 1 sm md fv tx) H1 (lA 0 rfl (fun _ h=>h) l0)).mono ?_;rintro e w2 ⟨v,rfl,Bs,⟨rfl,rfl⟩,H2⟩)
  |(go_at_call 170;refine (Gq (As:=[]) hcl (Uh H2) L7).mono ?_;rintro e w3 ⟨v,rfl,Bs,⟨rfl,rfl⟩,H3n⟩;have H3:=WM H3n))
 refine leaves_cons (f:=142) (args:=#[.pointer (some ⟨c,0,none⟩),.bool true]) (by simp) (by simp [go_sem]) ?_
 refine (JE (As:=Ys) (Rl c 0 1 sm md fv tx2) H3 l0).mono ?_
 rintro e u' w4 ⟨rfl,v,rfl,Bs,⟨rfl,rfl⟩,H4⟩
 refine leaves_cons (f:=242) (args:=#[.pointer (some ⟨c,1,none⟩)]) (by simp [settle]) (by simp [go_sem]) ?_
 refine (JE (As:=Ys) (RI c 1 sm md fv tx2) H4 l0).mono ?_
 rintro e u' w5 ⟨rfl,v,rfl,Bs,⟨rfl,rfl⟩,H5⟩
 exact ⟨.tuple #[],by simp [results,Tryz.results205],.tuple #[],rfl,_,⟨rfl,rfl⟩,H5⟩
theorem V_ (b ba bb bc cb:Nat) (vS:Value) (vM:Value) (vC:Value) (vR:Value) (vK:Value) (J:AD) (cw ct co:Int) (s:Nat) (att:Int) (hJ:Cb J) (hs:s<J.us.length):
    Cn Tryz.prog 96 [.pointer (some ⟨ba,0,none⟩),.pointer (some ⟨bb,0,none⟩),.pointer (some ⟨bc,0,none⟩)] [blk b [vS,.int .i64 J.parts,vM,vC,vR,.int .i64 J.chunk,.int .i64 J.window,.int .i64 J.fuel,vK,.int .i64 cw,.int .i64 ct,.int .i64 co,.int .i64 ((s:Nat):Int),.int .i64 att,.int .i64 0,.pointer (some ⟨cb,0,none⟩),.slice none 0 0] 164] [blk ba [vS,.int .i64 J.parts,vM,vC,vR,.int .i64 J.chunk,.int .i64 J.window,.int .i64 J.fuel,vK,.int .i64 cw,.int .i64 ct,.int .i64 co] 28,blk bb [.int .i64 ((s:Nat):Int)] 3,blk bc [.pointer (some ⟨b,0,none⟩)] 44,Z (Am Ag) vS J.us,Z Af vM J.map,Z Af vC J.comb,Z Af vR J.red,Z (Ai .i64) vK J.marks,gl] (fun v Bs=>v=.string (Ba (Ay dg J s).1)∧Bs=[blk b [vS,.int .i64 J.parts,vM,vC,vR,.int .i64 J.chunk,.int .i64 J.window,.int .i64 J.fuel,vK,.int .i64 cw,.int .i64 ct,.int .i64 co,.int .i64 ((s:Nat):Int),.int .i64 att,.int .i64 ((Ay dg J s).2),.pointer (some ⟨cb,0,none⟩),.slice none 0 0] 164]):=by
 intro w0 F0 H
 have hlen:(Ay dg J s).1.length≤1000:=by have:=Ir dg J s;omega
 have hszs:∀ p∈(Ay dg J s).1,p.key.size≤100∧p.val.size≤100:=fun x hx=>by have:=Jj Ie hJ s x hx;unfold C_ at this;omega
 refine enter Tryz.func96 U U (Nat.le_of_ble_eq_true U) (Ab (Ae (Ad U (Ac (Aa (Ab (Ae (V U U (Aj U C0 U) (V U U (Bq (cs:=[vS,.int .i64 J.parts,vM,vC,vR,.int .i64 J.chunk,.int .i64 J.window,.int .i64 J.fuel,vK]) U Jr U U (H.cellsRI 0 U U)) (V U U (Ak U AB U (H.cellRI 1 U U)) (sc (Zg vS vM vC vR vK J hJ s (by first |assumption|omega|exact hlen|exact hszs)) H (lR 3 U (lR 4 U (lR 5 U (lR 6 U (lR 7 U (lR 8 U l0)))))) U U (At VG U U) ?_)))))))))))
 rintro _ _ w ⟨u1,rfl,rfl⟩ H
 refine Ah 5 U (Ac (Aa ?_))
 replace H:Hd _ _ _ [Y Ag u1 ((Ay dg J s).1),blk b [vS,.int .i64 J.parts,vM,vC,vR,.int .i64 J.chunk,.int .i64 J.window,.int .i64 J.fuel,vK,.int .i64 cw,.int .i64 ct,.int .i64 co,.int .i64 ((s:Nat):Int),.int .i64 att,.int .i64 0,.pointer (some ⟨cb,0,none⟩),.slice none 0 0] 164] [blk ba [vS,.int .i64 J.parts,vM,vC,vR,.int .i64 J.chunk,.int .i64 J.window,.int .i64 J.fuel,vK,.int .i64 cw,.int .i64 ct,.int .i64 co] 28,blk bb [.int .i64 ((s:Nat):Int)] 3,blk bc [.pointer (some ⟨b,0,none⟩)] 44,Z (Am Ag) vS J.us,Z Af vM J.map,Z Af vC J.comb,Z Af vR J.red,Z (Ai .i64) vK J.marks,gl]:=H
 refine Ab (Ae (V U U (Ak U FJ U (H.cellRI 2 U U)) (Ad U (V U U (AH U U) (V U U (Aj U Lz U) ?_)))))
 replace H:=H.p1
 refine BE U U U AB U U H U (Nat.le_of_ble_eq_true U) (fun u hu=>by simp [Value.cells] at hu;subst hu;rfl) (fun w H=>?_)
 replace H:=H.h1 (A:=blk b [vS,.int .i64 J.parts,vM,vC,vR,.int .i64 J.chunk,.int .i64 J.window,.int .i64 J.fuel,vK,.int .i64 cw,.int .i64 ct,.int .i64 co,.int .i64 ((s:Nat):Int),.int .i64 att,.int .i64 ((Ay dg J s).2),.pointer (some ⟨cb,0,none⟩),.slice none 0 0] 164)
 refine Ac (Aa (Ab (Ae (Ad U (sc (Xr u1 ((Ay dg J s).1) (by first |assumption|omega|exact hlen|exact hszs) (by first |assumption|omega|exact hlen|exact hszs)) H (lA 1 U BJ l0) U U (At VO U U) ?_)))))
 rintro _ _ w ⟨rfl,rfl⟩ H
 refine Ad U (Ac (Aa (An (Aq U U ?_))))
 replace H:=H.k1
 exact Al ⟨rfl,rfl⟩ H
theorem V7 (b ba bb bc cb:Nat) (vS:Value) (vM:Value) (vC:Value) (vR:Value) (vK:Value) (J:AD) (cw ct co:Int) (s:Nat) (att:Int) (hJ:Cb J) (hs:s<J.us.length) (pl:Nat) (sm:Value) (md:Int) (tx:ByteArray):
    Cn Tryz.prog 170 [.pointer (some ⟨pl,0,none⟩)] [blk cb [.int .u32 0,.int .i32 1,sm,.int .u32 md,.func (.func 96) #[] #[.pointer (some ⟨ba,0,none⟩),.pointer (some ⟨bb,0,none⟩),.pointer (some ⟨bc,0,none⟩)],.string tx] 234,blk b [vS,.int .i64 J.parts,vM,vC,vR,.int .i64 J.chunk,.int .i64 J.window,.int .i64 J.fuel,vK,.int .i64 cw,.int .i64 ct,.int .i64 co,.int .i64 ((s:Nat):Int),.int .i64 att,.int .i64 0,.pointer (some ⟨cb,0,none⟩),.slice none 0 0] 164] [blk pl [.pointer (some ⟨cb,0,none⟩)] 161,blk ba [vS,.int .i64 J.parts,vM,vC,vR,.int .i64 J.chunk,.int .i64 J.window,.int .i64 J.fuel,vK,.int .i64 cw,.int .i64 ct,.int .i64 co] 28,blk bb [.int .i64 ((s:Nat):Int)] 3,blk bc [.pointer (some ⟨b,0,none⟩)] 44,Z (Am Ag) vS J.us,Z Af vM J.map,Z Af vC J.comb,Z Af vR J.red,Z (Ai .i64) vK J.marks,gl] (fun v Bs=>v=.tuple #[]∧Bs=[blk cb [.int .u32 0,.int .i32 1,sm,.int .u32 md,.func (.func 96) #[] #[.pointer (some ⟨ba,0,none⟩),.pointer (some ⟨bb,0,none⟩),.pointer (some ⟨bc,0,none⟩)],.string (Ba (Ay dg J s).1)] 234,blk b [vS,.int .i64 J.parts,vM,vC,vR,.int .i64 J.chunk,.int .i64 J.window,.int .i64 J.fuel,vK,.int .i64 cw,.int .i64 ct,.int .i64 co,.int .i64 ((s:Nat):Int),.int .i64 att,.int .i64 ((Ay dg J s).2),.pointer (some ⟨cb,0,none⟩),.slice none 0 0] 164]):=by
 intro w0 F0 H
 refine enter Tryz.func170 U U (Nat.le_of_ble_eq_true U) (Ab (Ae (V U U (Ak U DT U (H.cellRI 0 U U)) (V U U (AH U U) (V U U (Aj U JW U) (V U U (Ak U KT U (H.cellI 0 U U)) (V U U (QF U RA U U) (Ac (Aa (Cw U (BY (.e 0 (.e 1 (.e 2 (.e 3 (.m 4 (.m 5 (.e 6 (.e 7 (.m 8 .z))))))))) (fun w=>∃ Ar,Hd w0 F0 w (Ar) [blk pl [.pointer (some ⟨cb,0,none⟩)] 161,blk ba [vS,.int .i64 J.parts,vM,vC,vR,.int .i64 J.chunk,.int .i64 J.window,.int .i64 J.fuel,vK,.int .i64 cw,.int .i64 ct,.int .i64 co] 28,blk bb [.int .i64 ((s:Nat):Int)] 3,blk bc [.pointer (some ⟨b,0,none⟩)] 44,Z (Am Ag) vS J.us,Z Af vM J.map,Z Af vC J.comb,Z Af vR J.red,Z (Ai .i64) vK J.marks,gl]) mo (by kernel_rfl) (fun w H=>⟨_,H⟩) H (fun w H=>(Ao U U U (fun w ⟨Ar,H⟩=>Ak U DT U (H.cellRI 0 U U)) ?_)))))))))))))
 refine Ao U U U (fun w ⟨Ar,H⟩=>Ak U DT U (H.cellRI 0 U U)) (Ao U U U (fun w ⟨Ar,H⟩=>AH U U) (Ao U U U (fun w ⟨Ar,H⟩=>Aj U JW U) (AO U (V U U (Ak U KT U (H.cellI 0 U U)) (AE ⟨_,H⟩ (AO U ?_))))))
 replace H:=H.p1
 replace H:Hd _ _ _ [blk b [vS,.int .i64 J.parts,vM,vC,vR,.int .i64 J.chunk,.int .i64 J.window,.int .i64 J.fuel,vK,.int .i64 cw,.int .i64 ct,.int .i64 co,.int .i64 ((s:Nat):Int),.int .i64 att,.int .i64 0,.pointer (some ⟨cb,0,none⟩),.slice none 0 0] 164,blk cb [.int .u32 0,.int .i32 1,sm,.int .u32 md,.func (.func 96) #[] #[.pointer (some ⟨ba,0,none⟩),.pointer (some ⟨bb,0,none⟩),.pointer (some ⟨bc,0,none⟩)],.string tx] 234] [blk pl [.pointer (some ⟨cb,0,none⟩)] 161,blk ba [vS,.int .i64 J.parts,vM,vC,vR,.int .i64 J.chunk,.int .i64 J.window,.int .i64 J.fuel,vK,.int .i64 cw,.int .i64 ct,.int .i64 co] 28,blk bb [.int .i64 ((s:Nat):Int)] 3,blk bc [.pointer (some ⟨b,0,none⟩)] 44,Z (Am Ag) vS J.us,Z Af vM J.map,Z Af vC J.comb,Z Af vR J.red,Z (Ai .i64) vK J.marks,gl]:=H
 refine sc (V_ b ba bb bc cb vS vM vC vR vK J cw ct co s att hJ hs) H (lR 1 U (lR 2 U (lR 3 U (lR 4 U (lR 5 U (lR 6 U (lR 7 U (lR 8 U (lR 9 U l0))))))))) U U (F_ (vs:=[]) (fs:=#[]) (cs:=#[.pointer (some ⟨ba,0,none⟩),.pointer (some ⟨bb,0,none⟩),.pointer (some ⟨bc,0,none⟩)]) VN U U U) ?_
 rintro _ _ w ⟨rfl,rfl⟩ H
 replace H:=H.h1 (A:=blk b [vS,.int .i64 J.parts,vM,vC,vR,.int .i64 J.chunk,.int .i64 J.window,.int .i64 J.fuel,vK,.int .i64 cw,.int .i64 ct,.int .i64 co,.int .i64 ((s:Nat):Int),.int .i64 att,.int .i64 ((Ay dg J s).2),.pointer (some ⟨cb,0,none⟩),.slice none 0 0] 164)
 refine AE ⟨_,H⟩ (Ao U U U (fun w ⟨Ar,H⟩=>AH U U) (Ao U U U (fun w ⟨Ar,H⟩=>Aj U IM U) (AO U ?_)))
 replace H:=H.p1
 refine BE U U U BV U U H U (Nat.le_of_ble_eq_true U) (fun u hu=>by simp [Value.cells] at hu;subst hu;rfl) (fun w H=>?_)
 replace H:=H.h1 (A:=blk cb [.int .u32 0,.int .i32 1,sm,.int .u32 md,.func (.func 96) #[] #[.pointer (some ⟨ba,0,none⟩),.pointer (some ⟨bb,0,none⟩),.pointer (some ⟨bc,0,none⟩)],.string (Ba (Ay dg J s).1)] 234)
 exact AE ⟨_,H⟩ (BP (DC U (Al ⟨rfl,rfl⟩ H)))
theorem V5 (b ba bb bc cb:Nat) (vS:Value) (vM:Value) (vC:Value) (vR:Value) (vK:Value) (J:AD) (cw ct co:Int) (s:Nat) (att:Int) (hJ:Cb J) (hs:s<J.us.length) (pl:Nat) (sm:Value) (md:Int) (tx:ByteArray):
    Cn Tryz.prog 169 [.pointer (some ⟨cb,0,none⟩),.func (.func 170) #[] #[.pointer (some ⟨pl,0,none⟩)]] [blk cb [.int .u32 0,.int .i32 0,sm,.int .u32 md,.func (.func 96) #[] #[.pointer (some ⟨ba,0,none⟩),.pointer (some ⟨bb,0,none⟩),.pointer (some ⟨bc,0,none⟩)],.string tx] 234,blk b [vS,.int .i64 J.parts,vM,vC,vR,.int .i64 J.chunk,.int .i64 J.window,.int .i64 J.fuel,vK,.int .i64 cw,.int .i64 ct,.int .i64 co,.int .i64 ((s:Nat):Int),.int .i64 att,.int .i64 0,.pointer (some ⟨cb,0,none⟩),.slice none 0 0] 164] [blk pl [.pointer (some ⟨cb,0,none⟩)] 161,blk ba [vS,.int .i64 J.parts,vM,vC,vR,.int .i64 J.chunk,.int .i64 J.window,.int .i64 J.fuel,vK,.int .i64 cw,.int .i64 ct,.int .i64 co] 28,blk bb [.int .i64 ((s:Nat):Int)] 3,blk bc [.pointer (some ⟨b,0,none⟩)] 44,Z (Am Ag) vS J.us,Z Af vM J.map,Z Af vC J.comb,Z Af vR J.red,Z (Ai .i64) vK J.marks,gl] (fun v Bs=>v=.tuple #[]∧Bs=[blk cb [.int .u32 1,.int .i32 0,sm,.int .u32 md,.func (.func 96) #[] #[.pointer (some ⟨ba,0,none⟩),.pointer (some ⟨bb,0,none⟩),.pointer (some ⟨bc,0,none⟩)],.string (Ba (Ay dg J s).1)] 234,blk b [vS,.int .i64 J.parts,vM,vC,vR,.int .i64 J.chunk,.int .i64 J.window,.int .i64 J.fuel,vK,.int .i64 cw,.int .i64 ct,.int .i64 co,.int .i64 ((s:Nat):Int),.int .i64 att,.int .i64 ((Ay dg J s).2),.pointer (some ⟨cb,0,none⟩),.slice none 0 0] 164]):=by
 intro w0 F0 H
 refine enter Tryz.func169 U U (Nat.le_of_ble_eq_true U) (Ab (Ae (Ad U (V U U (AH U U) (V U U (Aj U LE U) (sc (Ke cb 0 sm md (.func (.func 96) #[] #[.pointer (some ⟨ba,0,none⟩),.pointer (some ⟨bb,0,none⟩),.pointer (some ⟨bc,0,none⟩)]) tx) H (lA 0 U (fun _ h=>h) l0) U U (At J5 U U) ?_))))))
 rintro _ _ w ⟨rfl,rfl⟩ H
 refine V U U (FW U U U) (Ac (Aa (Cw U (Ae (Ah 2 U (sc (Te cb pl sm md (.func (.func 96) #[] #[.pointer (some ⟨ba,0,none⟩),.pointer (some ⟨bb,0,none⟩),.pointer (some ⟨bc,0,none⟩)]) tx (Ba (Ay dg J s).1) [blk b [vS,.int .i64 J.parts,vM,vC,vR,.int .i64 J.chunk,.int .i64 J.window,.int .i64 J.fuel,vK,.int .i64 cw,.int .i64 ct,.int .i64 co,.int .i64 ((s:Nat):Int),.int .i64 att,.int .i64 0,.pointer (some ⟨cb,0,none⟩),.slice none 0 0] 164] [blk b [vS,.int .i64 J.parts,vM,vC,vR,.int .i64 J.chunk,.int .i64 J.window,.int .i64 J.fuel,vK,.int .i64 cw,.int .i64 ct,.int .i64 co,.int .i64 ((s:Nat):Int),.int .i64 att,.int .i64 ((Ay dg J s).2),.pointer (some ⟨cb,0,none⟩),.slice none 0 0] 164] [blk pl [.pointer (some ⟨cb,0,none⟩)] 161,blk ba [vS,.int .i64 J.parts,vM,vC,vR,.int .i64 J.chunk,.int .i64 J.window,.int .i64 J.fuel,vK,.int .i64 cw,.int .i64 ct,.int .i64 co] 28,blk bb [.int .i64 ((s:Nat):Int)] 3,blk bc [.pointer (some ⟨b,0,none⟩)] 44,Z (Am Ag) vS J.us,Z Af vM J.map,Z Af vC J.comb,Z Af vR J.red,Z (Ai .i64) vK J.marks,gl] (V7 b ba bb bc cb vS vM vC vR vK J cw ct co s att hJ hs pl sm md tx)) H (lR 0 U (lR 1 U (lR 2 U (lR 3 U (lR 4 U (lR 5 U (lR 6 U (lR 7 U (lR 8 U (lR 9 U l0)))))))))) U U (At Po U U) ?_))))))
 rintro _ _ w ⟨rfl,rfl⟩ H
 refine Ac (DC U ?_)
 replace H:Hd _ _ _ [blk cb [.int .u32 1,.int .i32 0,sm,.int .u32 md,.func (.func 96) #[] #[.pointer (some ⟨ba,0,none⟩),.pointer (some ⟨bb,0,none⟩),.pointer (some ⟨bc,0,none⟩)],.string (Ba (Ay dg J s).1)] 234,blk b [vS,.int .i64 J.parts,vM,vC,vR,.int .i64 J.chunk,.int .i64 J.window,.int .i64 J.fuel,vK,.int .i64 cw,.int .i64 ct,.int .i64 co,.int .i64 ((s:Nat):Int),.int .i64 att,.int .i64 ((Ay dg J s).2),.pointer (some ⟨cb,0,none⟩),.slice none 0 0] 164] [blk pl [.pointer (some ⟨cb,0,none⟩)] 161,blk ba [vS,.int .i64 J.parts,vM,vC,vR,.int .i64 J.chunk,.int .i64 J.window,.int .i64 J.fuel,vK,.int .i64 cw,.int .i64 ct,.int .i64 co] 28,blk bb [.int .i64 ((s:Nat):Int)] 3,blk bc [.pointer (some ⟨b,0,none⟩)] 44,Z (Am Ag) vS J.us,Z Af vM J.map,Z Af vC J.comb,Z Af vR J.red,Z (Ai .i64) vK J.marks,gl]:=H
 exact Al ⟨rfl,rfl⟩ H
theorem V6 (b ba bb bc cb:Nat) (vS:Value) (vM:Value) (vC:Value) (vR:Value) (vK:Value) (J:AD) (cw ct co:Int) (s:Nat) (att:Int) (hJ:Cb J) (hs:s<J.us.length):
    Cn Tryz.prog 109 [.pointer (some ⟨cb,0,none⟩)] [blk cb [.int .u32 0,.int .i32 0,.int .u32 0,.int .u32 0,.func (.func 96) #[] #[.pointer (some ⟨ba,0,none⟩),.pointer (some ⟨bb,0,none⟩),.pointer (some ⟨bc,0,none⟩)],.string ⟨#[]⟩] 234,blk b [vS,.int .i64 J.parts,vM,vC,vR,.int .i64 J.chunk,.int .i64 J.window,.int .i64 J.fuel,vK,.int .i64 cw,.int .i64 ct,.int .i64 co,.int .i64 ((s:Nat):Int),.int .i64 att,.int .i64 0,.pointer (some ⟨cb,0,none⟩),.slice none 0 0] 164] [blk ba [vS,.int .i64 J.parts,vM,vC,vR,.int .i64 J.chunk,.int .i64 J.window,.int .i64 J.fuel,vK,.int .i64 cw,.int .i64 ct,.int .i64 co] 28,blk bb [.int .i64 ((s:Nat):Int)] 3,blk bc [.pointer (some ⟨b,0,none⟩)] 44,Z (Am Ag) vS J.us,Z Af vM J.map,Z Af vC J.comb,Z Af vR J.red,Z (Ai .i64) vK J.marks,gl] (fun v Bs=>v=.string (Ba (Ay dg J s).1)∧Bs=[blk cb [.int .u32 1,.int .i32 0,.int .u32 0,.int .u32 1,.func (.func 96) #[] #[.pointer (some ⟨ba,0,none⟩),.pointer (some ⟨bb,0,none⟩),.pointer (some ⟨bc,0,none⟩)],.string (Ba (Ay dg J s).1)] 234,blk b [vS,.int .i64 J.parts,vM,vC,vR,.int .i64 J.chunk,.int .i64 J.window,.int .i64 J.fuel,vK,.int .i64 cw,.int .i64 ct,.int .i64 co,.int .i64 ((s:Nat):Int),.int .i64 att,.int .i64 ((Ay dg J s).2),.pointer (some ⟨cb,0,none⟩),.slice none 0 0] 164]):=by
 intro w0 F0 H
 refine enter Tryz.func109 U U (Nat.le_of_ble_eq_true U) (Ab (Ae (CA U U U U H (fun b1 w H=>(Ad U (Ac (Aa ?_)))))))
 replace H:Hd _ _ _ [blk b1 [.pointer (some ⟨cb,0,none⟩)] 161,blk cb [.int .u32 0,.int .i32 0,.int .u32 0,.int .u32 0,.func (.func 96) #[] #[.pointer (some ⟨ba,0,none⟩),.pointer (some ⟨bb,0,none⟩),.pointer (some ⟨bc,0,none⟩)],.string ⟨#[]⟩] 234,blk b [vS,.int .i64 J.parts,vM,vC,vR,.int .i64 J.chunk,.int .i64 J.window,.int .i64 J.fuel,vK,.int .i64 cw,.int .i64 ct,.int .i64 co,.int .i64 ((s:Nat):Int),.int .i64 att,.int .i64 0,.pointer (some ⟨cb,0,none⟩),.slice none 0 0] 164] [blk ba [vS,.int .i64 J.parts,vM,vC,vR,.int .i64 J.chunk,.int .i64 J.window,.int .i64 J.fuel,vK,.int .i64 cw,.int .i64 ct,.int .i64 co] 28,blk bb [.int .i64 ((s:Nat):Int)] 3,blk bc [.pointer (some ⟨b,0,none⟩)] 44,Z (Am Ag) vS J.us,Z Af vM J.map,Z Af vC J.comb,Z Af vR J.red,Z (Ai .i64) vK J.marks,gl]:=H
 refine Ab (Ab (Ae (V U U (Ak U DT U (H.cellI 0 U U)) (V U U (Dn U Ju U U) (Ac (Aa (B7 U (Av (Aa (Ab (Ae (V U U (Ak U DT U (H.cellI 0 U U)) (V U U (AH U U) (V U U (Aj U LG U) ?_))))))))))))))
 replace H:=H.p1
 refine sc (MV cb 0 0 (.int .u32 0) 0 (.func (.func 96) #[] #[.pointer (some ⟨ba,0,none⟩),.pointer (some ⟨bb,0,none⟩),.pointer (some ⟨bc,0,none⟩)]) (⟨#[]⟩:ByteArray)) H l0 U U (At J4 U U) ?_
 rintro _ _ w ⟨rfl,rfl⟩ H
 replace H:=H.h1 (A:=blk cb [.int .u32 0,.int .i32 0,.int .u32 0,.int .u32 1,.func (.func 96) #[] #[.pointer (some ⟨ba,0,none⟩),.pointer (some ⟨bb,0,none⟩),.pointer (some ⟨bc,0,none⟩)],.string ⟨#[]⟩] 234)
 refine Ac (Aa (Ab (Ae (V U U (Ak U DT U (H.cellI 1 U U)) (V U U (AH U U) (V U U (Aj U LF U) (V U U (Hq (fs:=#[]) (cs:=#[.pointer (some ⟨b1,0,none⟩)]) U U U) ?_)))))))
 replace H:=H.p2.p1
 refine sc (V5 b ba bb bc cb vS vM vC vR vK J cw ct co s att hJ hs b1 (.int .u32 0) 1 ⟨#[]⟩) H (lA 0 U (fun _ h=>h) (lR 0 U (lR 1 U (lR 2 U (lR 3 U (lR 4 U (lR 5 U (lR 6 U (lR 7 U (lR 8 U l0)))))))))) U U (At LY U U) ?_
 rintro _ _ w ⟨rfl,rfl⟩ H
 replace H:=H.h2 (A:=blk cb [.int .u32 1,.int .i32 0,.int .u32 0,.int .u32 1,.func (.func 96) #[] #[.pointer (some ⟨ba,0,none⟩),.pointer (some ⟨bb,0,none⟩),.pointer (some ⟨bc,0,none⟩)],.string (Ba (Ay dg J s).1)] 234) (B:=blk b [vS,.int .i64 J.parts,vM,vC,vR,.int .i64 J.chunk,.int .i64 J.window,.int .i64 J.fuel,vK,.int .i64 cw,.int .i64 ct,.int .i64 co,.int .i64 ((s:Nat):Int),.int .i64 att,.int .i64 ((Ay dg J s).2),.pointer (some ⟨cb,0,none⟩),.slice none 0 0] 164)
 refine Ac (Aa (Ab (Ae (V U U (Ak U DT U (H.cellI 2 U U)) (V U U (AH U U) (V U U (Aj U IM U) (V U U (Ak U BV U (H.cellI 0 U U)) (Ad U (Ac (Aa (An (Aq U U ?_))))))))))))
 replace H:=H.k2
 exact Al ⟨rfl,rfl⟩ H
theorem V9 (b ba bb bc cb:Nat) (vS:Value) (vM:Value) (vC:Value) (vR:Value) (vK:Value) (J:AD) (cw ct co:Int) (s:Nat) (att:Int) (hJ:Cb J) (hs:s<J.us.length):
    Cn Tryz.prog 32 [.pointer (some ⟨b,0,none⟩)] [blk cb [.int .u32 0,.int .i32 0,.int .u32 0,.int .u32 0,.func (.func 96) #[] #[.pointer (some ⟨ba,0,none⟩),.pointer (some ⟨bb,0,none⟩),.pointer (some ⟨bc,0,none⟩)],.string ⟨#[]⟩] 234,blk b [vS,.int .i64 J.parts,vM,vC,vR,.int .i64 J.chunk,.int .i64 J.window,.int .i64 J.fuel,vK,.int .i64 cw,.int .i64 ct,.int .i64 co,.int .i64 ((s:Nat):Int),.int .i64 att,.int .i64 0,.pointer (some ⟨cb,0,none⟩),.slice none 0 0] 164] [blk ba [vS,.int .i64 J.parts,vM,vC,vR,.int .i64 J.chunk,.int .i64 J.window,.int .i64 J.fuel,vK,.int .i64 cw,.int .i64 ct,.int .i64 co] 28,blk bb [.int .i64 ((s:Nat):Int)] 3,blk bc [.pointer (some ⟨b,0,none⟩)] 44,Z (Am Ag) vS J.us,Z Af vM J.map,Z Af vC J.comb,Z Af vR J.red,Z (Ai .i64) vK J.marks,gl] (fun v Bs=>v=.int .i64 ((Ay dg J s).2)∧Bs=[blk cb [.int .u32 1,.int .i32 0,.int .u32 0,.int .u32 1,.func (.func 96) #[] #[.pointer (some ⟨ba,0,none⟩),.pointer (some ⟨bb,0,none⟩),.pointer (some ⟨bc,0,none⟩)],.string (Ba (Ay dg J s).1)] 234,blk b [vS,.int .i64 J.parts,vM,vC,vR,.int .i64 J.chunk,.int .i64 J.window,.int .i64 J.fuel,vK,.int .i64 cw,.int .i64 ct,.int .i64 co,.int .i64 ((s:Nat):Int),.int .i64 att,.int .i64 ((Ay dg J s).2),.pointer (some ⟨cb,0,none⟩),.slice none 0 0] 164]):=by
 intro w0 F0 H
 refine enter Tryz.func32 U U (Nat.le_of_ble_eq_true U) (Ab (Ae (Ad U (Ac (Aa (Ab (Ab (Ae (Ad U (V U U (Dn U G9 U U) (Ac (Aa (B7 U (Av (Aa (Ab (Ae (Ad U (V U U (AH U U) (V U U (Aj U JR U) (V U U (Ak U DT U (H.cellI 1 U U)) (sc (V6 b ba bb bc cb vS vM vC vR vK J cw ct co s att hJ hs) H (lR 0 U (lR 1 U (lR 2 U (lR 3 U (lR 4 U (lR 5 U (lR 6 U (lR 7 U (lR 8 U l0))))))))) U U (At IT U U) ?_))))))))))))))))))))))
 rintro _ _ w ⟨rfl,rfl⟩ H
 refine Ac (Aa ?_)
 replace H:Hd _ _ _ [blk cb [.int .u32 1,.int .i32 0,.int .u32 0,.int .u32 1,.func (.func 96) #[] #[.pointer (some ⟨ba,0,none⟩),.pointer (some ⟨bb,0,none⟩),.pointer (some ⟨bc,0,none⟩)],.string (Ba (Ay dg J s).1)] 234,blk b [vS,.int .i64 J.parts,vM,vC,vR,.int .i64 J.chunk,.int .i64 J.window,.int .i64 J.fuel,vK,.int .i64 cw,.int .i64 ct,.int .i64 co,.int .i64 ((s:Nat):Int),.int .i64 att,.int .i64 ((Ay dg J s).2),.pointer (some ⟨cb,0,none⟩),.slice none 0 0] 164] [blk ba [vS,.int .i64 J.parts,vM,vC,vR,.int .i64 J.chunk,.int .i64 J.window,.int .i64 J.fuel,vK,.int .i64 cw,.int .i64 ct,.int .i64 co] 28,blk bb [.int .i64 ((s:Nat):Int)] 3,blk bc [.pointer (some ⟨b,0,none⟩)] 44,Z (Am Ag) vS J.us,Z Af vM J.map,Z Af vC J.comb,Z Af vR J.red,Z (Ai .i64) vK J.marks,gl]:=H
 exact Ab (Ae (Ad U (V U U (AH U U) (V U U (Aj U Lz U) (V U U (Ak U AB U (H.cellI 1 U U)) (Ad U (Ac (Aa (An (Aq U U (Al ⟨rfl,rfl⟩ H)))))))))))
theorem V3 (b ba bb bc cb:Nat) (vS:Value) (vM:Value) (vC:Value) (vR:Value) (vK:Value) (J:AD) (cw ct co:Int) (s:Nat) (att:Int) (hJ:Cb J) (hs:s<J.us.length):
    Cn Tryz.prog 30 [.pointer (some ⟨b,0,none⟩)] [blk cb [.int .u32 0,.int .i32 0,.int .u32 0,.int .u32 0,.func (.func 96) #[] #[.pointer (some ⟨ba,0,none⟩),.pointer (some ⟨bb,0,none⟩),.pointer (some ⟨bc,0,none⟩)],.string ⟨#[]⟩] 234,blk b [vS,.int .i64 J.parts,vM,vC,vR,.int .i64 J.chunk,.int .i64 J.window,.int .i64 J.fuel,vK,.int .i64 cw,.int .i64 ct,.int .i64 co,.int .i64 ((s:Nat):Int),.int .i64 att,.int .i64 0,.pointer (some ⟨cb,0,none⟩),.slice none 0 0] 164] [blk ba [vS,.int .i64 J.parts,vM,vC,vR,.int .i64 J.chunk,.int .i64 J.window,.int .i64 J.fuel,vK,.int .i64 cw,.int .i64 ct,.int .i64 co] 28,blk bb [.int .i64 ((s:Nat):Int)] 3,blk bc [.pointer (some ⟨b,0,none⟩)] 44,Z (Am Ag) vS J.us,Z Af vM J.map,Z Af vC J.comb,Z Af vR J.red,Z (Ai .i64) vK J.marks,gl] (fun v Bs=>Bs=[Y (Ai .i64) v (Bj dg J s att),blk cb [.int .u32 1,.int .i32 0,.int .u32 0,.int .u32 1,.func (.func 96) #[] #[.pointer (some ⟨ba,0,none⟩),.pointer (some ⟨bb,0,none⟩),.pointer (some ⟨bc,0,none⟩)],.string (Ba (Ay dg J s).1)] 234,blk b [vS,.int .i64 J.parts,vM,vC,vR,.int .i64 J.chunk,.int .i64 J.window,.int .i64 J.fuel,vK,.int .i64 cw,.int .i64 ct,.int .i64 co,.int .i64 ((s:Nat):Int),.int .i64 att,.int .i64 ((Ay dg J s).2),.pointer (some ⟨cb,0,none⟩),.slice none 0 0] 164]):=by
 intro w0 F0 H
 have hlen:(Ay dg J s).1.length≤1000:=by have:=Ir dg J s;omega
 have hszs:∀ p∈(Ay dg J s).1,p.key.size≤100∧p.val.size≤100:=fun x hx=>by have:=Jj Ie hJ s x hx;unfold C_ at this;omega
 have hsk:∀ x∈(Ay dg J s).1,x.key.size≤9223372036854775807:=fun x hx=>by have:=(hszs x hx).1;omega
 have hpt:=hJ.parts
 have hck:=hJ.chunk1
 have hol:=I2 dg J s
 refine enter Tryz.func30 U U (Nat.le_of_ble_eq_true U) (Ab (Ae (Ad U (Ac (Aa (Ab (Ab (Ae (Ad U (V U U (Dn U G9 U U) (Ah 2 U (sc (V9 b ba bb bc cb vS vM vC vR vK J cw ct co s att hJ hs) H (lR 0 U (lR 1 U (lR 2 U (lR 3 U (lR 4 U (lR 5 U (lR 6 U (lR 7 U (lR 8 U l0))))))))) U U (At H9 U U) ?_))))))))))))
 rintro _ _ w ⟨rfl,rfl⟩ H
 refine V U U (CX U U U) (Ad U (Ac (Aa ?_)))
 replace H:Hd _ _ _ [blk cb [.int .u32 1,.int .i32 0,.int .u32 0,.int .u32 1,.func (.func 96) #[] #[.pointer (some ⟨ba,0,none⟩),.pointer (some ⟨bb,0,none⟩),.pointer (some ⟨bc,0,none⟩)],.string (Ba (Ay dg J s).1)] 234,blk b [vS,.int .i64 J.parts,vM,vC,vR,.int .i64 J.chunk,.int .i64 J.window,.int .i64 J.fuel,vK,.int .i64 cw,.int .i64 ct,.int .i64 co,.int .i64 ((s:Nat):Int),.int .i64 att,.int .i64 ((Ay dg J s).2),.pointer (some ⟨cb,0,none⟩),.slice none 0 0] 164] [blk ba [vS,.int .i64 J.parts,vM,vC,vR,.int .i64 J.chunk,.int .i64 J.window,.int .i64 J.fuel,vK,.int .i64 cw,.int .i64 ct,.int .i64 co] 28,blk bb [.int .i64 ((s:Nat):Int)] 3,blk bc [.pointer (some ⟨b,0,none⟩)] 44,Z (Am Ag) vS J.us,Z Af vM J.map,Z Af vC J.comb,Z Af vR J.red,Z (Ai .i64) vK J.marks,gl]:=H
 refine Ax U (fun h1=>?_) (fun h1=>?_)
 ·refine Ab (Ae (Ad U (Ac (Aa (An (Az (Aq U U ?_)))))))
  replace H:=H.newnil (Ai .i64)|>.tellK (ys:=Bj dg J s att) (by rw [Lg h1])|>.h1 (A:=Y (Ai .i64) (.slice none 0 0) (Bj dg J s att))
  exact Al U H
 refine Av (Aa (Ab (Ae (Ad U (Ac (Aa (Ab (Ab (Ae (Ad U (V U U (AH U U) (V U U (Aj U JQ U) (V U U (Aj U C0 U) (V U U (Aj U HQ U) (V U U (Ak U AB U (H.cellI 1 U U)) (Ad U (Ac (Aa (AS ?_)))))))))))))))))))
 replace H:=H.newnil (Ai .i64)|>.tellK (ys:=D3 dg J s att 0) (by rfl)
 refine BQ (σ:=Nat×Value) (fun (k,q)=>[(0,.pointer (some ⟨b,0,none⟩)),(2,.slice none 0 0),(3,q),(17,.int .i64 J.parts),(18,.int .i64 ((k:Nat):Int))]) (fun (k,q) w=>(Hd w0 F0 w [Y (Ai .i64) q (D3 dg J s att k),blk cb [.int .u32 1,.int .i32 0,.int .u32 0,.int .u32 1,.func (.func 96) #[] #[.pointer (some ⟨ba,0,none⟩),.pointer (some ⟨bb,0,none⟩),.pointer (some ⟨bc,0,none⟩)],.string (Ba (Ay dg J s).1)] 234,blk b [vS,.int .i64 J.parts,vM,vC,vR,.int .i64 J.chunk,.int .i64 J.window,.int .i64 J.fuel,vK,.int .i64 cw,.int .i64 ct,.int .i64 co,.int .i64 ((s:Nat):Int),.int .i64 att,.int .i64 ((Ay dg J s).2),.pointer (some ⟨cb,0,none⟩),.slice none 0 0] 164] [blk ba [vS,.int .i64 J.parts,vM,vC,vR,.int .i64 J.chunk,.int .i64 J.window,.int .i64 J.fuel,vK,.int .i64 cw,.int .i64 ct,.int .i64 co] 28,blk bb [.int .i64 ((s:Nat):Int)] 3,blk bc [.pointer (some ⟨b,0,none⟩)] 44,Z (Am Ag) vS J.us,Z Af vM J.map,Z Af vC J.comb,Z Af vR J.red,Z (Ai .i64) vK J.marks,gl])∧((k:Int)≤J.parts)) (fun (k,q)=>J.parts.toNat - k) (0,.slice none 0 0) ⟨rfl,rfl,rfl,rfl,rfl,trivial⟩ ⟨H,by omega⟩ ?_
 rintro ⟨k,q⟩ w ⟨H,hk⟩
 have hcl:=NT dg J s att k
 have holk:=hol ((k:Nat):Int)
 refine Ab (Ae (V U U (Bd U U U) (Ac (Aa (Ab ?_)))))
 refine Ax U (fun h2=>?_) (fun h2=>?_)
 ·refine Av (Aa (Ab (AS (Ab (Ae (Ah 2 U (Ac (Aa (Ae (Ah 3 U ?_))))))))))
  replace H:=H.p1
  replace H:Hd _ _ _ [blk cb [.int .u32 1,.int .i32 0,.int .u32 0,.int .u32 1,.func (.func 96) #[] #[.pointer (some ⟨ba,0,none⟩),.pointer (some ⟨bb,0,none⟩),.pointer (some ⟨bc,0,none⟩)],.string (Ba (Ay dg J s).1)] 234,Y (Ai .i64) q (D3 dg J s att k),blk b [vS,.int .i64 J.parts,vM,vC,vR,.int .i64 J.chunk,.int .i64 J.window,.int .i64 J.fuel,vK,.int .i64 cw,.int .i64 ct,.int .i64 co,.int .i64 ((s:Nat):Int),.int .i64 att,.int .i64 ((Ay dg J s).2),.pointer (some ⟨cb,0,none⟩),.slice none 0 0] 164] [blk ba [vS,.int .i64 J.parts,vM,vC,vR,.int .i64 J.chunk,.int .i64 J.window,.int .i64 J.fuel,vK,.int .i64 cw,.int .i64 ct,.int .i64 co] 28,blk bb [.int .i64 ((s:Nat):Int)] 3,blk bc [.pointer (some ⟨b,0,none⟩)] 44,Z (Am Ag) vS J.us,Z Af vM J.map,Z Af vC J.comb,Z Af vR J.red,Z (Ai .i64) vK J.marks,gl]:=H
  refine sc (Md b vS vM vC vR vK J cw ct co s att cb (.func (.func 96) #[] #[.pointer (some ⟨ba,0,none⟩),.pointer (some ⟨bb,0,none⟩),.pointer (some ⟨bc,0,none⟩)]) (.slice none 0 0) ((k:Nat):Int) (by first |assumption|omega|exact hlen|exact hszs)) H (lA 1 U (fun _ h=>h) l0) U U (At LU U U) ?_
  rintro v3 _ w rfl H
  obtain ⟨A4,c5,rfl,hc6,hm7,hp8⟩:=H.fA 0 rfl
  refine V U U (A8 U Db U) (Ad U ?_)
  replace H:Hd _ _ _ [Y Ag (.slice A4 ((Cy dg J s ((k:Nat):Int)).length) c5) (Cy dg J s ((k:Nat):Int)),blk cb [.int .u32 1,.int .i32 0,.int .u32 0,.int .u32 1,.func (.func 96) #[] #[.pointer (some ⟨ba,0,none⟩),.pointer (some ⟨bb,0,none⟩),.pointer (some ⟨bc,0,none⟩)],.string (Ba (Ay dg J s).1)] 234,Y (Ai .i64) q (D3 dg J s att k),blk b [vS,.int .i64 J.parts,vM,vC,vR,.int .i64 J.chunk,.int .i64 J.window,.int .i64 J.fuel,vK,.int .i64 cw,.int .i64 ct,.int .i64 co,.int .i64 ((s:Nat):Int),.int .i64 att,.int .i64 ((Ay dg J s).2),.pointer (some ⟨cb,0,none⟩),.slice none 0 0] 164] [blk ba [vS,.int .i64 J.parts,vM,vC,vR,.int .i64 J.chunk,.int .i64 J.window,.int .i64 J.fuel,vK,.int .i64 cw,.int .i64 ct,.int .i64 co] 28,blk bb [.int .i64 ((s:Nat):Int)] 3,blk bc [.pointer (some ⟨b,0,none⟩)] 44,Z (Am Ag) vS J.us,Z Af vM J.map,Z Af vC J.comb,Z Af vR J.red,Z (Ai .i64) vK J.marks,gl]:=H
  refine sc (Me b vS vM vC vR vK J cw ct co s att cb (.slice none 0 0) (by first |assumption|omega|exact hlen|exact hszs)) H (lA 3 U (fun _ h=>h) l0) U U (At LV U U) ?_
  rintro _ _ w ⟨rfl,rfl⟩ H
  refine sc (Lh (((Cy dg J s ((k:Nat):Int)).length:Nat):Int) (Dk J.chunk att) (by first |assumption|omega|exact hlen|exact hszs)) H l0 U U (At LT U U) ?_
  rintro _ _ w ⟨rfl,rfl⟩ H
  refine BX (parts:=[(0,.tmp 28)]) (vs:=[.int .i64 (Dj (((Cy dg J s ((k:Nat):Int)).length:Nat):Int) (Dk J.chunk att))]) (cs:=[.int .i64 (Dj (((Cy dg J s ((k:Nat):Int)).length:Nat):Int) (Dk J.chunk att))]) U U U Dx F7 U (by decide) (by decide) U U H (fun b9 w H=>?_)
  replace H:=H.p3
  refine Ct (xs:=D3 dg J s att k) (ys:=[Dj (((Cy dg J s ((k:Nat):Int)).length:Nat):Int) (Dk J.chunk att)]) U U U Dx F7 U (by decide) U U H (by first |omega|(simp only [List.length_append,List.length_cons,List.length_nil];omega)) (fun F hA hR=>Cm (hA _ (List.mem_of_getElem? (i:=0) U)) U (by decide) (AW.flat_eq.2 U)) (fun v10 w H=>(Ad U (Ac (AU (Aa ?_)))))
  replace H:Hd _ _ _ [Y (Ai .i64) v10 ((D3 dg J s att k)++[Dj (((Cy dg J s ((k:Nat):Int)).length:Nat):Int) (Dk J.chunk att)]),blk b9 [.int .i64 (Dj (((Cy dg J s ((k:Nat):Int)).length:Nat):Int) (Dk J.chunk att))] 3,Y Ag (.slice A4 ((Cy dg J s ((k:Nat):Int)).length) c5) (Cy dg J s ((k:Nat):Int)),blk cb [.int .u32 1,.int .i32 0,.int .u32 0,.int .u32 1,.func (.func 96) #[] #[.pointer (some ⟨ba,0,none⟩),.pointer (some ⟨bb,0,none⟩),.pointer (some ⟨bc,0,none⟩)],.string (Ba (Ay dg J s).1)] 234,blk b [vS,.int .i64 J.parts,vM,vC,vR,.int .i64 J.chunk,.int .i64 J.window,.int .i64 J.fuel,vK,.int .i64 cw,.int .i64 ct,.int .i64 co,.int .i64 ((s:Nat):Int),.int .i64 att,.int .i64 ((Ay dg J s).2),.pointer (some ⟨cb,0,none⟩),.slice none 0 0] 164] [blk ba [vS,.int .i64 J.parts,vM,vC,vR,.int .i64 J.chunk,.int .i64 J.window,.int .i64 J.fuel,vK,.int .i64 cw,.int .i64 ct,.int .i64 co] 28,blk bb [.int .i64 ((s:Nat):Int)] 3,blk bc [.pointer (some ⟨b,0,none⟩)] 44,Z (Am Ag) vS J.us,Z Af vM J.map,Z Af vC J.comb,Z Af vR J.red,Z (Ai .i64) vK J.marks,gl]:=H
  refine Ae (V U U (AT (z:=((k+1:Nat):Int)) U U U (by rw [AC (by omega) (by omega)];omega)) (Ad U (Ac ?_)))
  replace H:=H.p4.p4.p2.k3.tellK (ys:=D3 dg J s att (k+1)) (by rw [NU])
  exact Bi (s:=(k,undef)) (k+1,v10) ⟨rfl,rfl,rfl,rfl,rfl,trivial⟩ ⟨H,by (try dsimp only);omega⟩ (by (try dsimp only);omega)
 refine BC (AM (AM (BD (Aa (Ab (Ae (Ah 2 U (Ac (Aa (An (Aq U U ?_)))))))))))
 have hkk:k=J.parts.toNat:=by omega
 replace H:=H.tellK (ys:=Bj dg J s att) (by rw [N4 (Classical.not_not.1 h1),←hkk])
 replace H:Hd _ _ _ [Y (Ai .i64) q (Bj dg J s att),blk cb [.int .u32 1,.int .i32 0,.int .u32 0,.int .u32 1,.func (.func 96) #[] #[.pointer (some ⟨ba,0,none⟩),.pointer (some ⟨bb,0,none⟩),.pointer (some ⟨bc,0,none⟩)],.string (Ba (Ay dg J s).1)] 234,blk b [vS,.int .i64 J.parts,vM,vC,vR,.int .i64 J.chunk,.int .i64 J.window,.int .i64 J.fuel,vK,.int .i64 cw,.int .i64 ct,.int .i64 co,.int .i64 ((s:Nat):Int),.int .i64 att,.int .i64 ((Ay dg J s).2),.pointer (some ⟨cb,0,none⟩),.slice none 0 0] 164] [blk ba [vS,.int .i64 J.parts,vM,vC,vR,.int .i64 J.chunk,.int .i64 J.window,.int .i64 J.fuel,vK,.int .i64 cw,.int .i64 ct,.int .i64 co] 28,blk bb [.int .i64 ((s:Nat):Int)] 3,blk bc [.pointer (some ⟨b,0,none⟩)] 44,Z (Am Ag) vS J.us,Z Af vM J.map,Z Af vC J.comb,Z Af vR J.red,Z (Ai .i64) vK J.marks,gl]:=H
 exact Al U H
theorem V8 (ba bb bc:Nat):
    Cn Tryz.prog 95 [.func (.func 96) #[] #[.pointer (some ⟨ba,0,none⟩),.pointer (some ⟨bb,0,none⟩),.pointer (some ⟨bc,0,none⟩)]] [] [] (fun v Bs=>∃ cb,v=.pointer (some ⟨cb,0,none⟩)∧Bs=[blk cb [.int .u32 0,.int .i32 0,.int .u32 0,.int .u32 0,.func (.func 96) #[] #[.pointer (some ⟨ba,0,none⟩),.pointer (some ⟨bb,0,none⟩),.pointer (some ⟨bc,0,none⟩)],.string ⟨#[]⟩] 234]):=by
 intro w0 F0 H
 refine enter Tryz.func95 U U (Nat.le_of_ble_eq_true U) (Ab (Ae (Ad U (Ac (Aa (Ab (Ae (Ad U (V U U (Co (parts:=[(2,.tmp 3)]) (vs:=[.func (.func 96) #[] #[.pointer (some ⟨ba,0,none⟩),.pointer (some ⟨bb,0,none⟩),.pointer (some ⟨bc,0,none⟩)]]) (cs:=[.int .u32 0,.int .i32 0,.int .u32 0,.int .u32 0,.func (.func 96) #[] #[.pointer (some ⟨ba,0,none⟩),.pointer (some ⟨bb,0,none⟩),.pointer (some ⟨bc,0,none⟩)],.string ⟨#[]⟩]) U NK U U) (CA U U U U H (fun b1 w H=>(Ad U (Ac (Aa ?_))))))))))))))
 replace H:Hd _ _ _ [blk b1 [.int .u32 0,.int .i32 0,.int .u32 0,.int .u32 0,.func (.func 96) #[] #[.pointer (some ⟨ba,0,none⟩),.pointer (some ⟨bb,0,none⟩),.pointer (some ⟨bc,0,none⟩)],.string ⟨#[]⟩] 234] []:=H
 exact An (Aq U U (Al ⟨_,rfl,rfl⟩ H))
theorem aL (c:Int) (s:Int) (h:0≤c∧c≤40∧1≤s∧s≤4):
    Cn Tryz.prog 98 [.int .i64 c,.int .i64 s] [] [] (fun v Bs=>∃ b,v=.tuple #[.pointer (some ⟨b,0,none⟩),.int .i64 0]∧Bs=[blk b [.int .i64 c,.int .i64 s,.int .i64 0,.int .i64 0] 239]):=by
 intro w0 F0 H
 refine enter Tryz.func98 U U (Nat.le_of_ble_eq_true U) (Ab (Ae (Ah 2 U (Ac (Aa (Ab (Ab (Ae (Ad U (V U U (Bd U U U) (Ad U ?_)))))))))))
 refine AK (d:=8) U (fun h1=>?_) (fun h1=>?_)
 ·exact absurd h1 (by omega)
 refine Ad U (V U U (Cp U U U) (Ah 2 U ?_))
 refine AK (d:=12) U (fun h2=>?_) (fun h2=>?_)
 ·exact absurd h2 (by omega)
 refine Ad U (V U U (Bd U U U) (Ah 2 U ?_))
 refine AK (d:=16) U (fun h3=>?_) (fun h3=>?_)
 ·exact absurd h3 (by omega)
 refine Ad U (V U U (Cp U U U) (Ad U (Ac (Aa ?_))))
 refine Ax U (fun h4=>?_) (fun h4=>?_)
 ·exact absurd h4 (by omega)
 refine Av (Aa (Ab (Ae (Ah 2 U (V U U (Co (parts:=[(0,.tmp 20),(1,.tmp 21)]) (vs:=[.int .i64 c,.int .i64 s]) (cs:=[.int .i64 c,.int .i64 s,.int .i64 0,.int .i64 0]) U Sd U U) (CA U U U U H (fun b5 w H=>(Ah 2 U (Ac (Aa ?_))))))))))
 replace H:Hd _ _ _ [blk b5 [.int .i64 c,.int .i64 s,.int .i64 0,.int .i64 0] 239] []:=H
 exact An (Cl U U U (Al ⟨_,rfl,rfl⟩ H))
theorem aO (b:Nat) (c:Int) (s:Int) (e:Int) (x:Int) (h:0≤c∧c≤40∧1≤s∧s≤4) (hx:0≤x∧x≤c):
    Cn Tryz.prog 108 [.pointer (some ⟨b,0,none⟩)] [] [blk b [.int .i64 c,.int .i64 s,.int .i64 e,.int .i64 x] 239] (fun v Bs=>Bs=[Y (Ai .i64) v (Dw c s x)]):=by
 intro w0 F0 H
 refine enter Tryz.func108 U U (Nat.le_of_ble_eq_true U) (Ab (Ae (Ad U (Ac (Aa (Ab (Ab (Ae (Ad U (V U U (Dn U ZX U U) (Ac (Aa (B7 U (Av (Aa (Ab (Ae (Ad U (Ac (Aa (Ab (Ab (Gp mo (by kernel_rfl) H (Ei U (By U U (fun w H=>AH U U) (By U U (fun w H=>Aj U TP U) (By U U (fun w H=>Ak U AB U (H.cellRI 0 U U)) (Ei U (By U U (fun w H=>AH U U) (By U U (fun w H=>Aj U TO U) (By U U (fun w H=>Ak U AB U (H.cellRI 0 U U)) (Ei U (By U U (fun w H=>AH U U) (By U U (fun w H=>Aj U Oz U) (By U U (fun w H=>Ak U AB U (H.cellRI 0 U U)) (By U U (fun w H=>CK (z:=c - x) U U U (AC (by omega) (by omega))) ?_))))))))))))))))))))))))))))))))))))
 refine By U U (fun w H=>Hr (z:=min s (c - x)) U U U U) (Ei U (GF (fun w H=>(Aa (AS ?_)))))
 replace H:=H.newnil (Ai .i64)
 refine BQ (σ:=Nat×Value) (fun (k,l)=>[(0,.pointer (some ⟨b,0,none⟩)),(2,.slice none 0 0),(3,l),(20,.int .i64 (min s (c - x))),(21,.int .i64 ((k:Nat):Int))]) (fun (k,l) w=>(Hd w0 F0 w [Y (Ai .i64) l (GI x k)] [blk b [.int .i64 c,.int .i64 s,.int .i64 e,.int .i64 x] 239])∧(k≤(min s (c - x)).toNat)) (fun (k,l)=>(min s (c - x)).toNat - k) (0,.slice none 0 0) ⟨rfl,rfl,rfl,rfl,rfl,trivial⟩ ⟨H,by omega⟩ ?_
 rintro ⟨k,l⟩ w ⟨H,hk⟩
 refine Ab (Ae (V U U (Bd U U U) (Ac (Aa (Ab ?_)))))
 refine Ax U (fun h1=>?_) (fun h1=>?_)
 ·refine Av (Aa (Ab (AS (Ab (Ae (Ah 2 U (Ac (Aa (Ae (Ah 2 U (V U U (AH U U) (V U U (Aj U Oz U) (V U U (Ak U AB U (H.cellRI 0 U U)) (Ad U (V U U (AT (z:=x+((k:Nat):Int)) U U U (AC (by omega) (by omega))) (BX (parts:=[(0,.tmp 30)]) (vs:=[.int .i64 (x+((k:Nat):Int))]) (cs:=[.int .i64 (x+((k:Nat):Int))]) U U U Dx F7 U (by decide) (by decide) U U H (fun b2 w H=>?_)))))))))))))))))
  replace H:=H.p1
  refine Ct (xs:=GI x k) (ys:=[x+((k:Nat):Int)]) U U U Dx F7 U (by decide) U U H (by simp only [RK,List.length_cons,List.length_nil];omega) (fun F hA hR=>Cm (hA _ (List.mem_of_getElem? (i:=0) U)) U (by decide) (AW.flat_eq.2 U)) (fun v3 w H=>(Ad U (Ac (AU (Aa ?_)))))
  replace H:Hd _ _ _ [Y (Ai .i64) v3 ((GI x k)++[x+((k:Nat):Int)]),blk b2 [.int .i64 (x+((k:Nat):Int))] 3] [blk b [.int .i64 c,.int .i64 s,.int .i64 e,.int .i64 x] 239]:=H
  refine Ae (V U U (AT (z:=((k+1:Nat):Int)) U U U (by rw [AC (by omega) (by omega)];omega)) (Ad U (Ac ?_)))
  rw [←Z2] at H
  replace H:=H.k1
  exact Bi (s:=(k,undef)) (k+1,v3) ⟨rfl,rfl,rfl,rfl,rfl,trivial⟩ ⟨H,by omega⟩ (by (try dsimp only);omega)
 refine BC (AM (AM (BD (Aa (Ab (Ae (Ah 2 U (Ac (Aa (An (Aq U U ?_)))))))))))
 obtain rfl:k=(min s (c - x)).toNat:=by omega
 exact Al U H
def BW (b:Nat) (J:AD) (M:BH):SP:=ex fun vS:Value=>ex fun vM:Value=>ex fun vC:Value=>ex fun vR:Value=>ex fun vK:Value=>ex fun J2:AD=>ex fun cw:Int=>ex fun ct:Int=>ex fun co:Int=>ex fun cb:Nat=>ex fun fv:Value=>ex fun vw:Value=>ex fun ws:List (Nat×B9)=>B5 [B1 ((Bf J2 J)∧(ws.map Prod.snd=M.ws)),blk b [vS,.int .i64 J2.parts,vM,vC,vR,.int .i64 J2.chunk,.int .i64 J2.window,.int .i64 J2.fuel,vK,.int .i64 cw,.int .i64 ct,.int .i64 co,.int .i64 ((M.sp:Nat):Int),.int .i64 M.att,.int .i64 ((Ay dg J2 M.sp).2),.pointer (some ⟨cb,0,none⟩),vw] 164,blk cb [.int .u32 1,.int .i32 0,.int .u32 0,.int .u32 1,fv,.string (Ba (Ay dg J2 M.sp).1)] 234,Y (Am Ag) vS J2.us,Y Af vM J2.map,Y Af vC J2.comb,Y Af vR J2.red,Y (Ai .i64) vK J2.marks,Y Cx vw (ws.map Prod.fst),Bt (Cq 239) ws]
theorem Kk (b:Nat) (J:AD) (M:BH) {w0 w:World} {F0:AJ} {As Rs:List SP} (H:Hd w0 F0 w (BW b J M::As) Rs):∃ vS:Value,∃ vM:Value,∃ vC:Value,∃ vR:Value,∃ vK:Value,∃ J2:AD,∃ cw:Int,∃ ct:Int,∃ co:Int,∃ cb:Nat,∃ fv:Value,∃ vw:Value,∃ ws:List (Nat×B9),((Bf J2 J)∧(ws.map Prod.snd=M.ws))∧Hd w0 F0 w ([blk b [vS,.int .i64 J2.parts,vM,vC,vR,.int .i64 J2.chunk,.int .i64 J2.window,.int .i64 J2.fuel,vK,.int .i64 cw,.int .i64 ct,.int .i64 co,.int .i64 ((M.sp:Nat):Int),.int .i64 M.att,.int .i64 ((Ay dg J2 M.sp).2),.pointer (some ⟨cb,0,none⟩),vw] 164,blk cb [.int .u32 1,.int .i32 0,.int .u32 0,.int .u32 1,fv,.string (Ba (Ay dg J2 M.sp).1)] 234,Y (Am Ag) vS J2.us,Y Af vM J2.map,Y Af vC J2.comb,Y Af vR J2.red,Y (Ai .i64) vK J2.marks,Y Cx vw (ws.map Prod.fst),Bt (Cq 239) ws]++As) Rs:=by
 obtain ⟨vS,H⟩:=Hd.exA H
 obtain ⟨vM,H⟩:=Hd.exA H
 obtain ⟨vC,H⟩:=Hd.exA H
 obtain ⟨vR,H⟩:=Hd.exA H
 obtain ⟨vK,H⟩:=Hd.exA H
 obtain ⟨J2,H⟩:=Hd.exA H
 obtain ⟨cw,H⟩:=Hd.exA H
 obtain ⟨ct,H⟩:=Hd.exA H
 obtain ⟨co,H⟩:=Hd.exA H
 obtain ⟨cb,H⟩:=Hd.exA H
 obtain ⟨fv,H⟩:=Hd.exA H
 obtain ⟨vw,H⟩:=Hd.exA H
 obtain ⟨ws,H⟩:=Hd.exA H
 exact ⟨vS,vM,vC,vR,vK,J2,cw,ct,co,cb,fv,vw,ws,H.stA.puA⟩
theorem IY (b:Nat) (J:AD) (M:BH) (vS:Value) (vM:Value) (vC:Value) (vR:Value) (vK:Value) (J2:AD) (cw:Int) (ct:Int) (co:Int) (cb:Nat) (fv:Value) (vw:Value) (ws:List (Nat×B9)) {w0 w:World} {F0:AJ} {As Rs:List SP} (hp:(Bf J2 J)∧(ws.map Prod.snd=M.ws)) (H:Hd w0 F0 w ([blk b [vS,.int .i64 J2.parts,vM,vC,vR,.int .i64 J2.chunk,.int .i64 J2.window,.int .i64 J2.fuel,vK,.int .i64 cw,.int .i64 ct,.int .i64 co,.int .i64 ((M.sp:Nat):Int),.int .i64 M.att,.int .i64 ((Ay dg J2 M.sp).2),.pointer (some ⟨cb,0,none⟩),vw] 164,blk cb [.int .u32 1,.int .i32 0,.int .u32 0,.int .u32 1,fv,.string (Ba (Ay dg J2 M.sp).1)] 234,Y (Am Ag) vS J2.us,Y Af vM J2.map,Y Af vC J2.comb,Y Af vR J2.red,Y (Ai .i64) vK J2.marks,Y Cx vw (ws.map Prod.fst),Bt (Cq 239) ws]++As) Rs):Hd w0 F0 w (BW b J M::As) Rs:=by
 have H1:=(show Hd w0 F0 w ([B1 ((Bf J2 J)∧(ws.map Prod.snd=M.ws)),blk b [vS,.int .i64 J2.parts,vM,vC,vR,.int .i64 J2.chunk,.int .i64 J2.window,.int .i64 J2.fuel,vK,.int .i64 cw,.int .i64 ct,.int .i64 co,.int .i64 ((M.sp:Nat):Int),.int .i64 M.att,.int .i64 ((Ay dg J2 M.sp).2),.pointer (some ⟨cb,0,none⟩),vw] 164,blk cb [.int .u32 1,.int .i32 0,.int .u32 0,.int .u32 1,fv,.string (Ba (Ay dg J2 M.sp).1)] 234,Y (Am Ag) vS J2.us,Y Af vM J2.map,Y Af vC J2.comb,Y Af vR J2.red,Y (Ai .i64) vK J2.marks,Y Cx vw (ws.map Prod.fst),Bt (Cq 239) ws]++As) Rs from H.puI hp).stI
 replace H1:=Hd.exI (A:=fun ws:List (Nat×B9)=>B5 [B1 ((Bf J2 J)∧(ws.map Prod.snd=M.ws)),blk b [vS,.int .i64 J2.parts,vM,vC,vR,.int .i64 J2.chunk,.int .i64 J2.window,.int .i64 J2.fuel,vK,.int .i64 cw,.int .i64 ct,.int .i64 co,.int .i64 ((M.sp:Nat):Int),.int .i64 M.att,.int .i64 ((Ay dg J2 M.sp).2),.pointer (some ⟨cb,0,none⟩),vw] 164,blk cb [.int .u32 1,.int .i32 0,.int .u32 0,.int .u32 1,fv,.string (Ba (Ay dg J2 M.sp).1)] 234,Y (Am Ag) vS J2.us,Y Af vM J2.map,Y Af vC J2.comb,Y Af vR J2.red,Y (Ai .i64) vK J2.marks,Y Cx vw (ws.map Prod.fst),Bt (Cq 239) ws]) ws H1
 replace H1:=Hd.exI (A:=fun vw:Value=>ex fun ws:List (Nat×B9)=>B5 [B1 ((Bf J2 J)∧(ws.map Prod.snd=M.ws)),blk b [vS,.int .i64 J2.parts,vM,vC,vR,.int .i64 J2.chunk,.int .i64 J2.window,.int .i64 J2.fuel,vK,.int .i64 cw,.int .i64 ct,.int .i64 co,.int .i64 ((M.sp:Nat):Int),.int .i64 M.att,.int .i64 ((Ay dg J2 M.sp).2),.pointer (some ⟨cb,0,none⟩),vw] 164,blk cb [.int .u32 1,.int .i32 0,.int .u32 0,.int .u32 1,fv,.string (Ba (Ay dg J2 M.sp).1)] 234,Y (Am Ag) vS J2.us,Y Af vM J2.map,Y Af vC J2.comb,Y Af vR J2.red,Y (Ai .i64) vK J2.marks,Y Cx vw (ws.map Prod.fst),Bt (Cq 239) ws]) vw H1
 replace H1:=Hd.exI (A:=fun fv:Value=>ex fun vw:Value=>ex fun ws:List (Nat×B9)=>B5 [B1 ((Bf J2 J)∧(ws.map Prod.snd=M.ws)),blk b [vS,.int .i64 J2.parts,vM,vC,vR,.int .i64 J2.chunk,.int .i64 J2.window,.int .i64 J2.fuel,vK,.int .i64 cw,.int .i64 ct,.int .i64 co,.int .i64 ((M.sp:Nat):Int),.int .i64 M.att,.int .i64 ((Ay dg J2 M.sp).2),.pointer (some ⟨cb,0,none⟩),vw] 164,blk cb [.int .u32 1,.int .i32 0,.int .u32 0,.int .u32 1,fv,.string (Ba (Ay dg J2 M.sp).1)] 234,Y (Am Ag) vS J2.us,Y Af vM J2.map,Y Af vC J2.comb,Y Af vR J2.red,Y (Ai .i64) vK J2.marks,Y Cx vw (ws.map Prod.fst),Bt (Cq 239) ws]) fv H1
 replace H1:=Hd.exI (A:=fun cb:Nat=>ex fun fv:Value=>ex fun vw:Value=>ex fun ws:List (Nat×B9)=>B5 [B1 ((Bf J2 J)∧(ws.map Prod.snd=M.ws)),blk b [vS,.int .i64 J2.parts,vM,vC,vR,.int .i64 J2.chunk,.int .i64 J2.window,.int .i64 J2.fuel,vK,.int .i64 cw,.int .i64 ct,.int .i64 co,.int .i64 ((M.sp:Nat):Int),.int .i64 M.att,.int .i64 ((Ay dg J2 M.sp).2),.pointer (some ⟨cb,0,none⟩),vw] 164,blk cb [.int .u32 1,.int .i32 0,.int .u32 0,.int .u32 1,fv,.string (Ba (Ay dg J2 M.sp).1)] 234,Y (Am Ag) vS J2.us,Y Af vM J2.map,Y Af vC J2.comb,Y Af vR J2.red,Y (Ai .i64) vK J2.marks,Y Cx vw (ws.map Prod.fst),Bt (Cq 239) ws]) cb H1
 replace H1:=Hd.exI (A:=fun co:Int=>ex fun cb:Nat=>ex fun fv:Value=>ex fun vw:Value=>ex fun ws:List (Nat×B9)=>B5 [B1 ((Bf J2 J)∧(ws.map Prod.snd=M.ws)),blk b [vS,.int .i64 J2.parts,vM,vC,vR,.int .i64 J2.chunk,.int .i64 J2.window,.int .i64 J2.fuel,vK,.int .i64 cw,.int .i64 ct,.int .i64 co,.int .i64 ((M.sp:Nat):Int),.int .i64 M.att,.int .i64 ((Ay dg J2 M.sp).2),.pointer (some ⟨cb,0,none⟩),vw] 164,blk cb [.int .u32 1,.int .i32 0,.int .u32 0,.int .u32 1,fv,.string (Ba (Ay dg J2 M.sp).1)] 234,Y (Am Ag) vS J2.us,Y Af vM J2.map,Y Af vC J2.comb,Y Af vR J2.red,Y (Ai .i64) vK J2.marks,Y Cx vw (ws.map Prod.fst),Bt (Cq 239) ws]) co H1
 replace H1:=Hd.exI (A:=fun ct:Int=>ex fun co:Int=>ex fun cb:Nat=>ex fun fv:Value=>ex fun vw:Value=>ex fun ws:List (Nat×B9)=>B5 [B1 ((Bf J2 J)∧(ws.map Prod.snd=M.ws)),blk b [vS,.int .i64 J2.parts,vM,vC,vR,.int .i64 J2.chunk,.int .i64 J2.window,.int .i64 J2.fuel,vK,.int .i64 cw,.int .i64 ct,.int .i64 co,.int .i64 ((M.sp:Nat):Int),.int .i64 M.att,.int .i64 ((Ay dg J2 M.sp).2),.pointer (some ⟨cb,0,none⟩),vw] 164,blk cb [.int .u32 1,.int .i32 0,.int .u32 0,.int .u32 1,fv,.string (Ba (Ay dg J2 M.sp).1)] 234,Y (Am Ag) vS J2.us,Y Af vM J2.map,Y Af vC J2.comb,Y Af vR J2.red,Y (Ai .i64) vK J2.marks,Y Cx vw (ws.map Prod.fst),Bt (Cq 239) ws]) ct H1
 replace H1:=Hd.exI (A:=fun cw:Int=>ex fun ct:Int=>ex fun co:Int=>ex fun cb:Nat=>ex fun fv:Value=>ex fun vw:Value=>ex fun ws:List (Nat×B9)=>B5 [B1 ((Bf J2 J)∧(ws.map Prod.snd=M.ws)),blk b [vS,.int .i64 J2.parts,vM,vC,vR,.int .i64 J2.chunk,.int .i64 J2.window,.int .i64 J2.fuel,vK,.int .i64 cw,.int .i64 ct,.int .i64 co,.int .i64 ((M.sp:Nat):Int),.int .i64 M.att,.int .i64 ((Ay dg J2 M.sp).2),.pointer (some ⟨cb,0,none⟩),vw] 164,blk cb [.int .u32 1,.int .i32 0,.int .u32 0,.int .u32 1,fv,.string (Ba (Ay dg J2 M.sp).1)] 234,Y (Am Ag) vS J2.us,Y Af vM J2.map,Y Af vC J2.comb,Y Af vR J2.red,Y (Ai .i64) vK J2.marks,Y Cx vw (ws.map Prod.fst),Bt (Cq 239) ws]) cw H1
 replace H1:=Hd.exI (A:=fun J2:AD=>ex fun cw:Int=>ex fun ct:Int=>ex fun co:Int=>ex fun cb:Nat=>ex fun fv:Value=>ex fun vw:Value=>ex fun ws:List (Nat×B9)=>B5 [B1 ((Bf J2 J)∧(ws.map Prod.snd=M.ws)),blk b [vS,.int .i64 J2.parts,vM,vC,vR,.int .i64 J2.chunk,.int .i64 J2.window,.int .i64 J2.fuel,vK,.int .i64 cw,.int .i64 ct,.int .i64 co,.int .i64 ((M.sp:Nat):Int),.int .i64 M.att,.int .i64 ((Ay dg J2 M.sp).2),.pointer (some ⟨cb,0,none⟩),vw] 164,blk cb [.int .u32 1,.int .i32 0,.int .u32 0,.int .u32 1,fv,.string (Ba (Ay dg J2 M.sp).1)] 234,Y (Am Ag) vS J2.us,Y Af vM J2.map,Y Af vC J2.comb,Y Af vR J2.red,Y (Ai .i64) vK J2.marks,Y Cx vw (ws.map Prod.fst),Bt (Cq 239) ws]) J2 H1
 replace H1:=Hd.exI (A:=fun vK:Value=>ex fun J2:AD=>ex fun cw:Int=>ex fun ct:Int=>ex fun co:Int=>ex fun cb:Nat=>ex fun fv:Value=>ex fun vw:Value=>ex fun ws:List (Nat×B9)=>B5 [B1 ((Bf J2 J)∧(ws.map Prod.snd=M.ws)),blk b [vS,.int .i64 J2.parts,vM,vC,vR,.int .i64 J2.chunk,.int .i64 J2.window,.int .i64 J2.fuel,vK,.int .i64 cw,.int .i64 ct,.int .i64 co,.int .i64 ((M.sp:Nat):Int),.int .i64 M.att,.int .i64 ((Ay dg J2 M.sp).2),.pointer (some ⟨cb,0,none⟩),vw] 164,blk cb [.int .u32 1,.int .i32 0,.int .u32 0,.int .u32 1,fv,.string (Ba (Ay dg J2 M.sp).1)] 234,Y (Am Ag) vS J2.us,Y Af vM J2.map,Y Af vC J2.comb,Y Af vR J2.red,Y (Ai .i64) vK J2.marks,Y Cx vw (ws.map Prod.fst),Bt (Cq 239) ws]) vK H1
 replace H1:=Hd.exI (A:=fun vR:Value=>ex fun vK:Value=>ex fun J2:AD=>ex fun cw:Int=>ex fun ct:Int=>ex fun co:Int=>ex fun cb:Nat=>ex fun fv:Value=>ex fun vw:Value=>ex fun ws:List (Nat×B9)=>B5 [B1 ((Bf J2 J)∧(ws.map Prod.snd=M.ws)),blk b [vS,.int .i64 J2.parts,vM,vC,vR,.int .i64 J2.chunk,.int .i64 J2.window,.int .i64 J2.fuel,vK,.int .i64 cw,.int .i64 ct,.int .i64 co,.int .i64 ((M.sp:Nat):Int),.int .i64 M.att,.int .i64 ((Ay dg J2 M.sp).2),.pointer (some ⟨cb,0,none⟩),vw] 164,blk cb [.int .u32 1,.int .i32 0,.int .u32 0,.int .u32 1,fv,.string (Ba (Ay dg J2 M.sp).1)] 234,Y (Am Ag) vS J2.us,Y Af vM J2.map,Y Af vC J2.comb,Y Af vR J2.red,Y (Ai .i64) vK J2.marks,Y Cx vw (ws.map Prod.fst),Bt (Cq 239) ws]) vR H1
 replace H1:=Hd.exI (A:=fun vC:Value=>ex fun vR:Value=>ex fun vK:Value=>ex fun J2:AD=>ex fun cw:Int=>ex fun ct:Int=>ex fun co:Int=>ex fun cb:Nat=>ex fun fv:Value=>ex fun vw:Value=>ex fun ws:List (Nat×B9)=>B5 [B1 ((Bf J2 J)∧(ws.map Prod.snd=M.ws)),blk b [vS,.int .i64 J2.parts,vM,vC,vR,.int .i64 J2.chunk,.int .i64 J2.window,.int .i64 J2.fuel,vK,.int .i64 cw,.int .i64 ct,.int .i64 co,.int .i64 ((M.sp:Nat):Int),.int .i64 M.att,.int .i64 ((Ay dg J2 M.sp).2),.pointer (some ⟨cb,0,none⟩),vw] 164,blk cb [.int .u32 1,.int .i32 0,.int .u32 0,.int .u32 1,fv,.string (Ba (Ay dg J2 M.sp).1)] 234,Y (Am Ag) vS J2.us,Y Af vM J2.map,Y Af vC J2.comb,Y Af vR J2.red,Y (Ai .i64) vK J2.marks,Y Cx vw (ws.map Prod.fst),Bt (Cq 239) ws]) vC H1
 replace H1:=Hd.exI (A:=fun vM:Value=>ex fun vC:Value=>ex fun vR:Value=>ex fun vK:Value=>ex fun J2:AD=>ex fun cw:Int=>ex fun ct:Int=>ex fun co:Int=>ex fun cb:Nat=>ex fun fv:Value=>ex fun vw:Value=>ex fun ws:List (Nat×B9)=>B5 [B1 ((Bf J2 J)∧(ws.map Prod.snd=M.ws)),blk b [vS,.int .i64 J2.parts,vM,vC,vR,.int .i64 J2.chunk,.int .i64 J2.window,.int .i64 J2.fuel,vK,.int .i64 cw,.int .i64 ct,.int .i64 co,.int .i64 ((M.sp:Nat):Int),.int .i64 M.att,.int .i64 ((Ay dg J2 M.sp).2),.pointer (some ⟨cb,0,none⟩),vw] 164,blk cb [.int .u32 1,.int .i32 0,.int .u32 0,.int .u32 1,fv,.string (Ba (Ay dg J2 M.sp).1)] 234,Y (Am Ag) vS J2.us,Y Af vM J2.map,Y Af vC J2.comb,Y Af vR J2.red,Y (Ai .i64) vK J2.marks,Y Cx vw (ws.map Prod.fst),Bt (Cq 239) ws]) vM H1
 replace H1:=Hd.exI (A:=fun vS:Value=>ex fun vM:Value=>ex fun vC:Value=>ex fun vR:Value=>ex fun vK:Value=>ex fun J2:AD=>ex fun cw:Int=>ex fun ct:Int=>ex fun co:Int=>ex fun cb:Nat=>ex fun fv:Value=>ex fun vw:Value=>ex fun ws:List (Nat×B9)=>B5 [B1 ((Bf J2 J)∧(ws.map Prod.snd=M.ws)),blk b [vS,.int .i64 J2.parts,vM,vC,vR,.int .i64 J2.chunk,.int .i64 J2.window,.int .i64 J2.fuel,vK,.int .i64 cw,.int .i64 ct,.int .i64 co,.int .i64 ((M.sp:Nat):Int),.int .i64 M.att,.int .i64 ((Ay dg J2 M.sp).2),.pointer (some ⟨cb,0,none⟩),vw] 164,blk cb [.int .u32 1,.int .i32 0,.int .u32 0,.int .u32 1,fv,.string (Ba (Ay dg J2 M.sp).1)] 234,Y (Am Ag) vS J2.us,Y Af vM J2.map,Y Af vC J2.comb,Y Af vR J2.red,Y (Ai .i64) vK J2.marks,Y Cx vw (ws.map Prod.fst),Bt (Cq 239) ws]) vS H1
 exact H1
theorem Wb (vS:Value) (vM:Value) (vC:Value) (vR:Value) (vK:Value) (C:Cf) (s:Int) (att:Int) (hgo:¬ (C5 C∧0≤s∧s<((C.J.us.length:Nat):Int)∧1≤att∧att≤C.t)):
    Cn Tryz.prog 27 [.agg #[vS,.int .i64 C.J.parts,vM,vC,vR,.int .i64 C.J.chunk,.int .i64 C.J.window,.int .i64 C.J.fuel,vK,.int .i64 C.w,.int .i64 C.t,.int .i64 C.o],.int .i64 s,.int .i64 att] [] [Z (Am Ag) vS C.J.us,Z Af vM C.J.map,Z Af vC C.J.comb,Z Af vR C.J.red,Z (Ai .i64) vK C.J.marks] (fun v Bs=>v=.tuple #[.pointer none,.int .i64 2]∧Bs=[]):=by
 intro w0 F0 H
 obtain ⟨A1,c2,rfl,hc3,hm4,hp5⟩:=H.fR 0 rfl
 obtain ⟨A6,c7,rfl,hc8,hm9,hp10⟩:=H.fR 1 rfl
 obtain ⟨A11,c12,rfl,hc13,hm14,hp15⟩:=H.fR 2 rfl
 obtain ⟨A16,c17,rfl,hc18,hm19,hp20⟩:=H.fR 3 rfl
 obtain ⟨A21,c22,rfl,hc23,hm24,hp25⟩:=H.fR 4 rfl
 refine enter Tryz.func27 U U (Nat.le_of_ble_eq_true U) (Ab (Ae (CA U U U U H (fun b26 w H=>(CA U U U U H (fun b27 w H=>(Ah 2 U (Ac (Aa ?_)))))))))
 replace H:Hd _ _ _ [blk b27 [.int .i64 s] 3,blk b26 [.slice A1 C.J.us.length c2,.int .i64 C.J.parts,.slice A6 C.J.map.length c7,.slice A11 C.J.comb.length c12,.slice A16 C.J.red.length c17,.int .i64 C.J.chunk,.int .i64 C.J.window,.int .i64 C.J.fuel,.slice A21 C.J.marks.length c22,.int .i64 C.w,.int .i64 C.t,.int .i64 C.o] 28] [Z (Am Ag) (.slice A1 C.J.us.length c2) C.J.us,Z Af (.slice A6 C.J.map.length c7) C.J.map,Z Af (.slice A11 C.J.comb.length c12) C.J.comb,Z Af (.slice A16 C.J.red.length c17) C.J.red,Z (Ai .i64) (.slice A21 C.J.marks.length c22) C.J.marks]:=H
 refine Ab (Ab (Ae (V U U (Bq (cs:=[.slice A1 C.J.us.length c2,.int .i64 C.J.parts,.slice A6 C.J.map.length c7,.slice A11 C.J.comb.length c12,.slice A16 C.J.red.length c17,.int .i64 C.J.chunk,.int .i64 C.J.window,.int .i64 C.J.fuel,.slice A21 C.J.marks.length c22,.int .i64 C.w,.int .i64 C.t,.int .i64 C.o]) U DE U U (H.cellsI 1 U U)) (sc (IX (.slice A1 C.J.us.length c2) (.slice A6 C.J.map.length c7) (.slice A11 C.J.comb.length c12) (.slice A16 C.J.red.length c17) (.slice A21 C.J.marks.length c22) C) H (lR 0 U (lR 1 U (lR 2 U (lR 3 U (lR 4 U l0))))) U U (At IU U U) ?_))))
 rintro _ _ w ⟨rfl,rfl⟩ H
 refine V U U (D_ U U) (Ad U ?_)
 refine AK (d:=16) U (fun h28=>?_) (fun h28=>?_)
 ·refine Ah 12 U (Ah 9 U (Ac (Aa ?_)))
  replace H:Hd _ _ _ [blk b27 [.int .i64 s] 3,blk b26 [.slice A1 C.J.us.length c2,.int .i64 C.J.parts,.slice A6 C.J.map.length c7,.slice A11 C.J.comb.length c12,.slice A16 C.J.red.length c17,.int .i64 C.J.chunk,.int .i64 C.J.window,.int .i64 C.J.fuel,.slice A21 C.J.marks.length c22,.int .i64 C.w,.int .i64 C.t,.int .i64 C.o] 28] [Z (Am Ag) (.slice A1 C.J.us.length c2) C.J.us,Z Af (.slice A6 C.J.map.length c7) C.J.map,Z Af (.slice A11 C.J.comb.length c12) C.J.comb,Z Af (.slice A16 C.J.red.length c17) C.J.red,Z (Ai .i64) (.slice A21 C.J.marks.length c22) C.J.marks]:=H
  refine Cw U (Ab (Ae (Ah 2 U (Ac (Aa (An (Az (Cl U U U ?_))))))))
  replace H:=H.nil
  exact Al ⟨rfl,rfl⟩ H
 refine V U U (Ak U AB U (H.cellI 0 U U)) (V U U (Bd U U U) (Ah 2 U ?_))
 refine AK (d:=20) U (fun h29=>?_) (fun h29=>?_)
 ·refine Ah 12 U (Ah 5 U (Ac (Aa ?_)))
  replace H:Hd _ _ _ [blk b27 [.int .i64 s] 3,blk b26 [.slice A1 C.J.us.length c2,.int .i64 C.J.parts,.slice A6 C.J.map.length c7,.slice A11 C.J.comb.length c12,.slice A16 C.J.red.length c17,.int .i64 C.J.chunk,.int .i64 C.J.window,.int .i64 C.J.fuel,.slice A21 C.J.marks.length c22,.int .i64 C.w,.int .i64 C.t,.int .i64 C.o] 28] [Z (Am Ag) (.slice A1 C.J.us.length c2) C.J.us,Z Af (.slice A6 C.J.map.length c7) C.J.map,Z Af (.slice A11 C.J.comb.length c12) C.J.comb,Z Af (.slice A16 C.J.red.length c17) C.J.red,Z (Ai .i64) (.slice A21 C.J.marks.length c22) C.J.marks]:=H
  refine Cw U (Ab (Ae (Ah 2 U (Ac (Aa (An (Az (Cl U U U ?_))))))))
  replace H:=H.nil
  exact Al ⟨rfl,rfl⟩ H
 refine V U U (Ak U AB U (H.cellI 0 U U)) (V U U (Aj U C0 U) (V U U (Aj U DQ U) (V U U (Ak U DU U (H.cellI 1 U U)) (V U U (A8 U Ej U) (V U U (CR U U U) (Ah 2 U ?_))))))
 refine AK (d:=28) U (fun h30=>?_) (fun h30=>?_)
 ·refine Ah 9 U (Ac (Aa ?_))
  replace H:Hd _ _ _ [blk b27 [.int .i64 s] 3,blk b26 [.slice A1 C.J.us.length c2,.int .i64 C.J.parts,.slice A6 C.J.map.length c7,.slice A11 C.J.comb.length c12,.slice A16 C.J.red.length c17,.int .i64 C.J.chunk,.int .i64 C.J.window,.int .i64 C.J.fuel,.slice A21 C.J.marks.length c22,.int .i64 C.w,.int .i64 C.t,.int .i64 C.o] 28] [Z (Am Ag) (.slice A1 C.J.us.length c2) C.J.us,Z Af (.slice A6 C.J.map.length c7) C.J.map,Z Af (.slice A11 C.J.comb.length c12) C.J.comb,Z Af (.slice A16 C.J.red.length c17) C.J.red,Z (Ai .i64) (.slice A21 C.J.marks.length c22) C.J.marks]:=H
  refine Cw U (Ab (Ae (Ah 2 U (Ac (Aa (An (Az (Cl U U U ?_))))))))
  replace H:=H.nil
  exact Al ⟨rfl,rfl⟩ H
 refine Ad U (V U U (Bd U U U) (Ah 2 U ?_))
 refine AK (d:=32) U (fun h31=>?_) (fun h31=>?_)
 ·refine Ah 5 U (Ac (Aa ?_))
  replace H:Hd _ _ _ [blk b27 [.int .i64 s] 3,blk b26 [.slice A1 C.J.us.length c2,.int .i64 C.J.parts,.slice A6 C.J.map.length c7,.slice A11 C.J.comb.length c12,.slice A16 C.J.red.length c17,.int .i64 C.J.chunk,.int .i64 C.J.window,.int .i64 C.J.fuel,.slice A21 C.J.marks.length c22,.int .i64 C.w,.int .i64 C.t,.int .i64 C.o] 28] [Z (Am Ag) (.slice A1 C.J.us.length c2) C.J.us,Z Af (.slice A6 C.J.map.length c7) C.J.map,Z Af (.slice A11 C.J.comb.length c12) C.J.comb,Z Af (.slice A16 C.J.red.length c17) C.J.red,Z (Ai .i64) (.slice A21 C.J.marks.length c22) C.J.marks]:=H
  refine Cw U (Ab (Ae (Ah 2 U (Ac (Aa (An (Az (Cl U U U ?_))))))))
  replace H:=H.nil
  exact Al ⟨rfl,rfl⟩ H
 refine Ad U (V U U (Aj U IP U) (V U U (Ak U AB U (H.cellI 1 U U)) (V U U (Cp U U U) (Ad U (Ac (Aa ?_))))))
 replace H:Hd _ _ _ [blk b27 [.int .i64 s] 3,blk b26 [.slice A1 C.J.us.length c2,.int .i64 C.J.parts,.slice A6 C.J.map.length c7,.slice A11 C.J.comb.length c12,.slice A16 C.J.red.length c17,.int .i64 C.J.chunk,.int .i64 C.J.window,.int .i64 C.J.fuel,.slice A21 C.J.marks.length c22,.int .i64 C.w,.int .i64 C.t,.int .i64 C.o] 28] [Z (Am Ag) (.slice A1 C.J.us.length c2) C.J.us,Z Af (.slice A6 C.J.map.length c7) C.J.map,Z Af (.slice A11 C.J.comb.length c12) C.J.comb,Z Af (.slice A16 C.J.red.length c17) C.J.red,Z (Ai .i64) (.slice A21 C.J.marks.length c22) C.J.marks]:=H
 refine Ax U (fun h32=>?_) (fun h32=>?_)
 ·refine Ab (Ae (Ah 2 U (Ac (Aa (An (Az (Cl U U U ?_)))))))
  replace H:=H.nil
  exact Al ⟨rfl,rfl⟩ H
 exact absurd ⟨by first |assumption|exact Classical.not_not.1 (by assumption),by omega,by omega,by omega,by omega⟩ hgo
theorem PS (vS:Value) (vM:Value) (vC:Value) (vR:Value) (vK:Value) (C:Cf) (s:Nat) (att:Int) (hC:C5 C) (hO:Cb C.J) (hgo:s<C.J.us.length∧1≤att∧att≤C.t):
    Cn Tryz.prog 27 [.agg #[vS,.int .i64 C.J.parts,vM,vC,vR,.int .i64 C.J.chunk,.int .i64 C.J.window,.int .i64 C.J.fuel,vK,.int .i64 C.w,.int .i64 C.t,.int .i64 C.o],.int .i64 ((s:Nat):Int),.int .i64 att] [] [Z (Am Ag) vS C.J.us,Z Af vM C.J.map,Z Af vC C.J.comb,Z Af vR C.J.red,Z (Ai .i64) vK C.J.marks,gl] (fun v Bs=>∃ b:Nat,v=.tuple #[.pointer (some ⟨b,0,none⟩),.int .i64 0]∧Bs=[BW b C.J (CW dg C.J s att)]):=by
 intro w0 F0 H
 obtain ⟨A1,c2,rfl,hc3,hm4,hp5⟩:=H.fR 0 rfl
 obtain ⟨A6,c7,rfl,hc8,hm9,hp10⟩:=H.fR 1 rfl
 obtain ⟨A11,c12,rfl,hc13,hm14,hp15⟩:=H.fR 2 rfl
 obtain ⟨A16,c17,rfl,hc18,hm19,hp20⟩:=H.fR 3 rfl
 obtain ⟨A21,c22,rfl,hc23,hm24,hp25⟩:=H.fR 4 rfl
 refine enter Tryz.func27 U U (Nat.le_of_ble_eq_true U) (Ab (Ae (CA U U U U H (fun b26 w H=>(CA U U U U H (fun b27 w H=>(Ah 2 U (Ac (Aa ?_)))))))))
 replace H:Hd _ _ _ [blk b27 [.int .i64 ((s:Nat):Int)] 3,blk b26 [.slice A1 C.J.us.length c2,.int .i64 C.J.parts,.slice A6 C.J.map.length c7,.slice A11 C.J.comb.length c12,.slice A16 C.J.red.length c17,.int .i64 C.J.chunk,.int .i64 C.J.window,.int .i64 C.J.fuel,.slice A21 C.J.marks.length c22,.int .i64 C.w,.int .i64 C.t,.int .i64 C.o] 28] [Z (Am Ag) (.slice A1 C.J.us.length c2) C.J.us,Z Af (.slice A6 C.J.map.length c7) C.J.map,Z Af (.slice A11 C.J.comb.length c12) C.J.comb,Z Af (.slice A16 C.J.red.length c17) C.J.red,Z (Ai .i64) (.slice A21 C.J.marks.length c22) C.J.marks,gl]:=H
 refine Ab (Ab (Ae (V U U (Bq (cs:=[.slice A1 C.J.us.length c2,.int .i64 C.J.parts,.slice A6 C.J.map.length c7,.slice A11 C.J.comb.length c12,.slice A16 C.J.red.length c17,.int .i64 C.J.chunk,.int .i64 C.J.window,.int .i64 C.J.fuel,.slice A21 C.J.marks.length c22,.int .i64 C.w,.int .i64 C.t,.int .i64 C.o]) U DE U U (H.cellsI 1 U U)) (sc (IX (.slice A1 C.J.us.length c2) (.slice A6 C.J.map.length c7) (.slice A11 C.J.comb.length c12) (.slice A16 C.J.red.length c17) (.slice A21 C.J.marks.length c22) C) H (lR 0 U (lR 1 U (lR 2 U (lR 3 U (lR 4 U l0))))) U U (At IU U U) ?_))))
 rintro _ _ w ⟨rfl,rfl⟩ H
 refine V U U (D_ U U) (Ad U ?_)
 refine AK (d:=16) U (fun h28=>?_) (fun h28=>?_)
 ·first |exact (h28 hC).elim|(exfalso;omega)
 refine V U U (Ak U AB U (H.cellI 0 U U)) (V U U (Bd U U U) (Ah 2 U ?_))
 refine AK (d:=20) U (fun h29=>?_) (fun h29=>?_)
 ·first |exact (h29 hC).elim|(exfalso;omega)
 refine V U U (Ak U AB U (H.cellI 0 U U)) (V U U (Aj U C0 U) (V U U (Aj U DQ U) (V U U (Ak U DU U (H.cellI 1 U U)) (V U U (A8 U Ej U) (V U U (CR U U U) (Ah 2 U ?_))))))
 refine AK (d:=28) U (fun h30=>?_) (fun h30=>?_)
 ·first |exact (h30 hC).elim|(exfalso;omega)
 refine Ad U (V U U (Bd U U U) (Ah 2 U ?_))
 refine AK (d:=32) U (fun h31=>?_) (fun h31=>?_)
 ·first |exact (h31 hC).elim|(exfalso;omega)
 refine Ad U (V U U (Aj U IP U) (V U U (Ak U AB U (H.cellI 1 U U)) (V U U (Cp U U U) (Ad U (Ac (Aa ?_))))))
 replace H:Hd _ _ _ [blk b27 [.int .i64 ((s:Nat):Int)] 3,blk b26 [.slice A1 C.J.us.length c2,.int .i64 C.J.parts,.slice A6 C.J.map.length c7,.slice A11 C.J.comb.length c12,.slice A16 C.J.red.length c17,.int .i64 C.J.chunk,.int .i64 C.J.window,.int .i64 C.J.fuel,.slice A21 C.J.marks.length c22,.int .i64 C.w,.int .i64 C.t,.int .i64 C.o] 28] [Z (Am Ag) (.slice A1 C.J.us.length c2) C.J.us,Z Af (.slice A6 C.J.map.length c7) C.J.map,Z Af (.slice A11 C.J.comb.length c12) C.J.comb,Z Af (.slice A16 C.J.red.length c17) C.J.red,Z (Ai .i64) (.slice A21 C.J.marks.length c22) C.J.marks,gl]:=H
 refine Ax U (fun h32=>?_) (fun h32=>?_)
 ·first |exact (h32 hC).elim|(exfalso;omega)
 refine Av (Aa (Ab (Ae (V U U (Bq (cs:=[.slice A1 C.J.us.length c2,.int .i64 C.J.parts,.slice A6 C.J.map.length c7,.slice A11 C.J.comb.length c12,.slice A16 C.J.red.length c17,.int .i64 C.J.chunk,.int .i64 C.J.window,.int .i64 C.J.fuel,.slice A21 C.J.marks.length c22,.int .i64 C.w,.int .i64 C.t,.int .i64 C.o]) U DE U U (H.cellsI 1 U U)) (sc (Mr (.slice A1 C.J.us.length c2) (.slice A6 C.J.map.length c7) (.slice A11 C.J.comb.length c12) (.slice A16 C.J.red.length c17) (.slice A21 C.J.marks.length c22) C (by first |assumption|omega)) H (lR 0 U (lR 1 U (lR 2 U (lR 3 U (lR 4 U l0))))) U U (At L6 U U) ?_)))))
 rintro _ _ w ⟨J33,vS34,vM35,vC36,vR37,vK38,rfl,rfl,hf39⟩ H
 have hsj:=hf39
 have hJ:Cb J33:=hsj.symm.ok hO
 have hs:s<J33.us.length:=by have:=hsj.len;omega
 have hpt:=hJ.parts
 have hwi:=hJ.window1
 have hcl:(Bj dg J33 s att).length≤1000:=by rw [N2];split<;>omega
 obtain ⟨A40,c41,rfl,hc42,hm43,hp44⟩:=H.fA 0 rfl
 obtain ⟨A45,c46,rfl,hc47,hm48,hp49⟩:=H.fA 1 rfl
 obtain ⟨A50,c51,rfl,hc52,hm53,hp54⟩:=H.fA 2 rfl
 obtain ⟨A55,c56,rfl,hc57,hm58,hp59⟩:=H.fA 3 rfl
 obtain ⟨A60,c61,rfl,hc62,hm63,hp64⟩:=H.fA 4 rfl
 replace H:=H.p6
 refine BE U U U DE U U H U (Nat.le_of_ble_eq_true U) (fun u hu=>by simp [Value.cells] at hu;rcases hu with rfl|rfl|rfl|rfl|rfl|rfl|rfl|rfl|rfl|rfl|rfl|rfl<;>rfl) (fun w H=>?_)
 replace H:Hd _ _ _ [blk b26 [.slice A40 J33.us.length c41,.int .i64 J33.parts,.slice A45 J33.map.length c46,.slice A50 J33.comb.length c51,.slice A55 J33.red.length c56,.int .i64 J33.chunk,.int .i64 J33.window,.int .i64 J33.fuel,.slice A60 J33.marks.length c61,.int .i64 C.w,.int .i64 C.t,.int .i64 C.o] 28,Y (Am Ag) (.slice A40 J33.us.length c41) J33.us,Y Af (.slice A45 J33.map.length c46) J33.map,Y Af (.slice A50 J33.comb.length c51) J33.comb,Y Af (.slice A55 J33.red.length c56) J33.red,Y (Ai .i64) (.slice A60 J33.marks.length c61) J33.marks,blk b27 [.int .i64 ((s:Nat):Int)] 3] [Z (Am Ag) (.slice A1 C.J.us.length c2) C.J.us,Z Af (.slice A6 C.J.map.length c7) C.J.map,Z Af (.slice A11 C.J.comb.length c12) C.J.comb,Z Af (.slice A16 C.J.red.length c17) C.J.red,Z (Ai .i64) (.slice A21 C.J.marks.length c22) C.J.marks,gl]:=H
 refine Ac (Aa (Ab (Ae (V U U (Bq (cs:=[.slice A40 J33.us.length c41,.int .i64 J33.parts,.slice A45 J33.map.length c46,.slice A50 J33.comb.length c51,.slice A55 J33.red.length c56,.int .i64 J33.chunk,.int .i64 J33.window,.int .i64 J33.fuel,.slice A60 J33.marks.length c61,.int .i64 C.w,.int .i64 C.t,.int .i64 C.o]) U DE U U (H.cellsI 0 U U)) (V U U (Ak U AB U (H.cellI 6 U U)) (Ad U (V U U (Co (parts:=[(0,.tmp 40),(1,.tmp 41),(2,.tmp 42)]) (vs:=[.agg #[.slice A40 J33.us.length c41,.int .i64 J33.parts,.slice A45 J33.map.length c46,.slice A50 J33.comb.length c51,.slice A55 J33.red.length c56,.int .i64 J33.chunk,.int .i64 J33.window,.int .i64 J33.fuel,.slice A60 J33.marks.length c61,.int .i64 C.w,.int .i64 C.t,.int .i64 C.o],.int .i64 ((s:Nat):Int),.int .i64 att]) (cs:=[.slice A40 J33.us.length c41,.int .i64 J33.parts,.slice A45 J33.map.length c46,.slice A50 J33.comb.length c51,.slice A55 J33.red.length c56,.int .i64 J33.chunk,.int .i64 J33.window,.int .i64 J33.fuel,.slice A60 J33.marks.length c61,.int .i64 C.w,.int .i64 C.t,.int .i64 C.o,.int .i64 ((s:Nat):Int),.int .i64 att,.int .i64 0,.pointer none,.slice none 0 0]) U R_ U U) ?_)))))))
 refine CA U U U U H (fun b65 w H=>(Dg U U U bD H (fun b66 w H=>(BE U U U FJ U U H U (Nat.le_of_ble_eq_true U) (fun u hu=>by simp [Value.cells] at hu;subst hu;rfl) (fun w H=>?_)))))
 replace H:=H.h2 (A:=blk b66 [.pointer (some ⟨b65,0,none⟩)] 44) (B:=blk b65 [.slice A40 J33.us.length c41,.int .i64 J33.parts,.slice A45 J33.map.length c46,.slice A50 J33.comb.length c51,.slice A55 J33.red.length c56,.int .i64 J33.chunk,.int .i64 J33.window,.int .i64 J33.fuel,.slice A60 J33.marks.length c61,.int .i64 C.w,.int .i64 C.t,.int .i64 C.o,.int .i64 ((s:Nat):Int),.int .i64 att,.int .i64 0,.pointer none,.slice none 0 0] 164)
 refine Ac (Aa (Ab ?_))
 replace H:=H.p8.p8.p8.p8.p8.p8.p8.p7
 refine BY (.e 0 (.e 1 (.m 2 (.e 3 (.e 4 (.m 5 .z)))))) (fun w=>∃ Ar,Hd w0 F0 w (blk b66 [.pointer (some ⟨b65,0,none⟩)] 44::blk b26 [.slice A40 J33.us.length c41,.int .i64 J33.parts,.slice A45 J33.map.length c46,.slice A50 J33.comb.length c51,.slice A55 J33.red.length c56,.int .i64 J33.chunk,.int .i64 J33.window,.int .i64 J33.fuel,.slice A60 J33.marks.length c61,.int .i64 C.w,.int .i64 C.t,.int .i64 C.o] 28::Y (Am Ag) (.slice A40 J33.us.length c41) J33.us::Y Af (.slice A45 J33.map.length c46) J33.map::Y Af (.slice A50 J33.comb.length c51) J33.comb::Y Af (.slice A55 J33.red.length c56) J33.red::Y (Ai .i64) (.slice A60 J33.marks.length c61) J33.marks::blk b27 [.int .i64 ((s:Nat):Int)] 3::Ar) [Z (Am Ag) (.slice A1 C.J.us.length c2) C.J.us,Z Af (.slice A6 C.J.map.length c7) C.J.map,Z Af (.slice A11 C.J.comb.length c12) C.J.comb,Z Af (.slice A16 C.J.red.length c17) C.J.red,Z (Ai .i64) (.slice A21 C.J.marks.length c22) C.J.marks,gl]) mo (by kernel_rfl) (fun w H=>⟨_,H⟩) H (fun w H=>?_)
 refine Ao U U U (fun w ⟨Ar,H⟩=>Ak U FJ U (H.cellI 0 U U)) (Ao U U U (fun w ⟨Ar,H⟩=>Hq (fs:=#[]) (cs:=#[.pointer (some ⟨b26,0,none⟩),.pointer (some ⟨b27,0,none⟩),.pointer (some ⟨b66,0,none⟩)]) U U U) (AO U (sc (V8 b26 b27 b66) H l0 U U (At PD U U) ?_)))
 rintro _ _ w ⟨cb67,rfl,rfl⟩ H
 replace H:=H.h1 (A:=blk cb67 [.int .u32 0,.int .i32 0,.int .u32 0,.int .u32 0,.func (.func 96) #[] #[.pointer (some ⟨b26,0,none⟩),.pointer (some ⟨b27,0,none⟩),.pointer (some ⟨b66,0,none⟩)],.string ⟨#[]⟩] 234)|>.p8|>.p8|>.p8|>.p8|>.p8|>.p8|>.p8|>.p8
 refine AE ⟨_,H⟩ (Ao U U U (fun w ⟨Ar,H⟩=>AH U U) (Ao U U U (fun w ⟨Ar,H⟩=>Aj U JR U) (AO U ?_)))
 replace H:=H.p9
 refine BE U U U DT U U H U (Nat.le_of_ble_eq_true U) (fun u hu=>by simp [Value.cells] at hu;subst hu;rfl) (fun w H=>?_)
 replace H:=H.h1 (A:=blk b65 [.slice A40 J33.us.length c41,.int .i64 J33.parts,.slice A45 J33.map.length c46,.slice A50 J33.comb.length c51,.slice A55 J33.red.length c56,.int .i64 J33.chunk,.int .i64 J33.window,.int .i64 J33.fuel,.slice A60 J33.marks.length c61,.int .i64 C.w,.int .i64 C.t,.int .i64 C.o,.int .i64 ((s:Nat):Int),.int .i64 att,.int .i64 0,.pointer (some ⟨cb67,0,none⟩),.slice none 0 0] 164)|>.p8|>.p8|>.p8|>.p8|>.p8|>.p8|>.p8|>.p8
 refine AE ⟨_,H⟩ (BP (Aa (Ab (Ab (Ae (V U U (Ak U FJ U (H.cellI 0 U U)) ?_))))))
 replace H:=H.p8.p9
 refine sc (V3 b65 b26 b27 b66 cb67 (.slice A40 J33.us.length c41) (.slice A45 J33.map.length c46) (.slice A50 J33.comb.length c51) (.slice A55 J33.red.length c56) (.slice A60 J33.marks.length c61) J33 C.w C.t C.o s att hJ hs) H (lA 1 U (fun _ h=>h) (lA 7 U (fun _ h=>h) (lA 0 U (fun _ h=>h) (lA 2 U BJ (lA 3 U BJ (lA 4 U BJ (lA 5 U BJ (lA 6 U BJ (lR 5 U l0))))))))) U U (At J9 U U) ?_
 rintro v68 _ w rfl H
 obtain ⟨A69,c70,rfl,hc71,hm72,hp73⟩:=H.fA 0 rfl
 refine V U U (A8 U Ea U) (Ad U (Ac (Aa ?_)))
 replace H:Hd _ _ _ [Y (Ai .i64) (.slice A69 ((Bj dg J33 s att).length) c70) (Bj dg J33 s att),blk cb67 [.int .u32 1,.int .i32 0,.int .u32 0,.int .u32 1,.func (.func 96) #[] #[.pointer (some ⟨b26,0,none⟩),.pointer (some ⟨b27,0,none⟩),.pointer (some ⟨b66,0,none⟩)],.string (Ba (Ay dg J33 s).1)] 234,blk b65 [.slice A40 J33.us.length c41,.int .i64 J33.parts,.slice A45 J33.map.length c46,.slice A50 J33.comb.length c51,.slice A55 J33.red.length c56,.int .i64 J33.chunk,.int .i64 J33.window,.int .i64 J33.fuel,.slice A60 J33.marks.length c61,.int .i64 C.w,.int .i64 C.t,.int .i64 C.o,.int .i64 ((s:Nat):Int),.int .i64 att,.int .i64 ((Ay dg J33 s).2),.pointer (some ⟨cb67,0,none⟩),.slice none 0 0] 164,blk b66 [.pointer (some ⟨b65,0,none⟩)] 44,blk b26 [.slice A40 J33.us.length c41,.int .i64 J33.parts,.slice A45 J33.map.length c46,.slice A50 J33.comb.length c51,.slice A55 J33.red.length c56,.int .i64 J33.chunk,.int .i64 J33.window,.int .i64 J33.fuel,.slice A60 J33.marks.length c61,.int .i64 C.w,.int .i64 C.t,.int .i64 C.o] 28,Y (Am Ag) (.slice A40 J33.us.length c41) J33.us,Y Af (.slice A45 J33.map.length c46) J33.map,Y Af (.slice A50 J33.comb.length c51) J33.comb,Y Af (.slice A55 J33.red.length c56) J33.red,Y (Ai .i64) (.slice A60 J33.marks.length c61) J33.marks,blk b27 [.int .i64 ((s:Nat):Int)] 3] [Z (Am Ag) (.slice A1 C.J.us.length c2) C.J.us,Z Af (.slice A6 C.J.map.length c7) C.J.map,Z Af (.slice A11 C.J.comb.length c12) C.J.comb,Z Af (.slice A16 C.J.red.length c17) C.J.red,Z (Ai .i64) (.slice A21 C.J.marks.length c22) C.J.marks,gl]:=H
 refine AS ?_
 replace H:=H.p4.p9.p9.p9.p9.p9.p8.p8.p8.k10.newnil Cx
 replace H:=Hd.tellK (ys:=([]:List (Nat×B9)).map Prod.fst) H rfl
 replace H:=Hd.big0 (Cq 239) H
 replace H:=H.h2 (A:=Bt (Cq 239) ([]:List (Nat×B9))) (B:=Y Cx (.slice none 0 0) (([]:List (Nat×B9)).map Prod.fst))
 refine BQ (σ:=Nat×Value×List (Nat×B9)) (fun (k,vw,ws)=>[(3,.pointer (some ⟨b26,0,none⟩)),(6,.pointer none),(7,.int .i64 0),(8,.pointer (some ⟨b66,0,none⟩)),(51,.slice A69 ((Bj dg J33 s att).length) c70),(52,.int .i64 (((Bj dg J33 s att).length:Nat):Int)),(53,.int .i64 ((k:Nat):Int))]) (fun (k,vw,ws) w=>(Hd w0 F0 w [Bt (Cq 239) ws,Y Cx vw (ws.map Prod.fst),Y (Ai .i64) (.slice A69 ((Bj dg J33 s att).length) c70) (Bj dg J33 s att),blk cb67 [.int .u32 1,.int .i32 0,.int .u32 0,.int .u32 1,.func (.func 96) #[] #[.pointer (some ⟨b26,0,none⟩),.pointer (some ⟨b27,0,none⟩),.pointer (some ⟨b66,0,none⟩)],.string (Ba (Ay dg J33 s).1)] 234,blk b65 [.slice A40 J33.us.length c41,.int .i64 J33.parts,.slice A45 J33.map.length c46,.slice A50 J33.comb.length c51,.slice A55 J33.red.length c56,.int .i64 J33.chunk,.int .i64 J33.window,.int .i64 J33.fuel,.slice A60 J33.marks.length c61,.int .i64 C.w,.int .i64 C.t,.int .i64 C.o,.int .i64 ((s:Nat):Int),.int .i64 att,.int .i64 ((Ay dg J33 s).2),.pointer (some ⟨cb67,0,none⟩),vw] 164,Y (Am Ag) (.slice A40 J33.us.length c41) J33.us,Y Af (.slice A45 J33.map.length c46) J33.map,Y Af (.slice A50 J33.comb.length c51) J33.comb,Y Af (.slice A55 J33.red.length c56) J33.red,Y (Ai .i64) (.slice A60 J33.marks.length c61) J33.marks,blk b26 [.slice A40 J33.us.length c41,.int .i64 J33.parts,.slice A45 J33.map.length c46,.slice A50 J33.comb.length c51,.slice A55 J33.red.length c56,.int .i64 J33.chunk,.int .i64 J33.window,.int .i64 J33.fuel,.slice A60 J33.marks.length c61,.int .i64 C.w,.int .i64 C.t,.int .i64 C.o] 28,blk b66 [.pointer (some ⟨b65,0,none⟩)] 44] [Z (Am Ag) (.slice A1 C.J.us.length c2) C.J.us,Z Af (.slice A6 C.J.map.length c7) C.J.map,Z Af (.slice A11 C.J.comb.length c12) C.J.comb,Z Af (.slice A16 C.J.red.length c17) C.J.red,Z (Ai .i64) (.slice A21 C.J.marks.length c22) C.J.marks,gl])∧(k≤(Bj dg J33 s att).length)∧(ws.map Prod.snd=((Bj dg J33 s att).take k).map (RN J33))) (fun (k,vw,ws)=>(Bj dg J33 s att).length - k) (0,.slice none 0 0,[]) ⟨rfl,rfl,rfl,rfl,rfl,rfl,rfl,trivial⟩ ⟨H,Nat.zero_le _,rfl⟩ ?_
 rintro ⟨k,vw,ws⟩ w ⟨H,hk,hws⟩
 have hwl:=congrArg List.length hws
 rw [List.length_map,List.length_map,List.length_take] at hwl
 have hwf:(ws.map Prod.fst).length=ws.length:=List.length_map ..
 refine Ab (Ae (V U U (Bd U U U) (Ac (Aa (Ab ?_)))))
 refine Ax U (fun h74=>?_) (fun h74=>?_)
 ·refine Av (Aa (Ab (AS (Ab (Ae ?_)))))
  obtain ⟨x75,hx76⟩:∃ z9,(Bj dg J33 s att)[k]?=some z9:=⟨_,List.getElem?_eq_getElem (show k<(Bj dg J33 s att).length by omega)⟩
  have th77:=H.thA 2 rfl hx76
  refine V U U (AZ (p:=AP A69+k*1) U Dx U U (by omega) (by omega) th77 U) (V U U (Ak U AB U (H.elA 2 U hx76 (q:=0) U U)) (Ad U (Ac (Aa (Ab ?_)))))
  have hci:=N1 (Ce hx76)
  refine Ae (Ad U (V U U (Aj U C0 U) (V U U (Aj U OB U) (V U U (Ak U AB U (H.cellI 10 U U)) (sc (aL x75 J33.window (by omega)) H l0 U U (At VP U U) ?_)))))
  rintro _ _ w ⟨b78,rfl,rfl⟩ H
  replace H:=H.h6 (A:=blk b78 [.int .i64 x75,.int .i64 J33.window,.int .i64 0,.int .i64 0] 239) (B:=Bt (Cq 239) ws) (C:=Y Cx vw (ws.map Prod.fst)) (F:=blk b65 [.slice A40 J33.us.length c41,.int .i64 J33.parts,.slice A45 J33.map.length c46,.slice A50 J33.comb.length c51,.slice A55 J33.red.length c56,.int .i64 J33.chunk,.int .i64 J33.window,.int .i64 J33.fuel,.slice A60 J33.marks.length c61,.int .i64 C.w,.int .i64 C.t,.int .i64 C.o,.int .i64 ((s:Nat):Int),.int .i64 att,.int .i64 ((Ay dg J33 s).2),.pointer (some ⟨cb67,0,none⟩),vw] 164)
  refine Ah 5 U (Ac (Aa ?_))
  replace H:=H.pick 12 rfl|>.pick 12 rfl|>.pick 12 rfl|>.pick 12 rfl|>.pick 12 rfl|>.pick 12 rfl|>.pick 12 rfl|>.pick 11 rfl|>.pick 11 rfl|>.pick 10 rfl|>.pick 10 rfl
  refine BY (.e 0 (.e 1 (.e 2 (.e 3 (.e 5 (.b 4 6 (.m 6 (.m 7 (.e 8 (.e 9 (.m 10 .z))))) (.m 4 (.m 7 (.e 8 (.e 9 (.m 10 .z))))))))))) (fun w=>∃ Ar,Hd w0 F0 w (blk b78 [.int .i64 x75,.int .i64 J33.window,.int .i64 0,.int .i64 0] 239::Bt (Cq 239) ws::Y (Ai .i64) (.slice A69 ((Bj dg J33 s att).length) c70) (Bj dg J33 s att)::blk cb67 [.int .u32 1,.int .i32 0,.int .u32 0,.int .u32 1,.func (.func 96) #[] #[.pointer (some ⟨b26,0,none⟩),.pointer (some ⟨b27,0,none⟩),.pointer (some ⟨b66,0,none⟩)],.string (Ba (Ay dg J33 s).1)] 234::Y (Am Ag) (.slice A40 J33.us.length c41) J33.us::Y Af (.slice A45 J33.map.length c46) J33.map::Y Af (.slice A50 J33.comb.length c51) J33.comb::Y Af (.slice A55 J33.red.length c56) J33.red::Y (Ai .i64) (.slice A60 J33.marks.length c61) J33.marks::blk b26 [.slice A40 J33.us.length c41,.int .i64 J33.parts,.slice A45 J33.map.length c46,.slice A50 J33.comb.length c51,.slice A55 J33.red.length c56,.int .i64 J33.chunk,.int .i64 J33.window,.int .i64 J33.fuel,.slice A60 J33.marks.length c61,.int .i64 C.w,.int .i64 C.t,.int .i64 C.o] 28::blk b66 [.pointer (some ⟨b65,0,none⟩)] 44::Ar) [Z (Am Ag) (.slice A1 C.J.us.length c2) C.J.us,Z Af (.slice A6 C.J.map.length c7) C.J.map,Z Af (.slice A11 C.J.comb.length c12) C.J.comb,Z Af (.slice A16 C.J.red.length c17) C.J.red,Z (Ai .i64) (.slice A21 C.J.marks.length c22) C.J.marks,gl]) mo (by kernel_rfl) (fun w H=>⟨_,H⟩) H (fun w H=>?_)
  refine Ao U U U (fun w ⟨Ar,H⟩=>Ak U FJ U (H.cellI 10 U U)) (Ao U U U (fun w ⟨Ar,H⟩=>Ak U FJ U (H.cellI 10 U U)) (Ao U U U (fun w ⟨Ar,H⟩=>AH U U) (Ao U U U (fun w ⟨Ar,H⟩=>Aj U JS U) (Au U ?_))))
  refine HI U U ?_ ?_
  ·refine V U U (Ak U Jp U (H.cellI 12 U U)) (AE ⟨_,H⟩ (AO U (BX (parts:=[(0,.tmp 70)]) (vs:=[.pointer (some ⟨b78,0,none⟩)]) (cs:=[.pointer (some ⟨b78,0,none⟩)]) U U U Jg K5 U (by decide) (by decide) U U H (fun b79 w H=>?_))))
   replace H:=H.h1 (A:=blk b79 [.pointer (some ⟨b78,0,none⟩)] 168)|>.pick 11 rfl|>.pick 11 rfl|>.pick 11 rfl|>.pick 11 rfl|>.pick 11 rfl|>.pick 11 rfl|>.pick 11 rfl|>.pick 11 rfl|>.pick 11 rfl|>.pick 11 rfl|>.pick 11 rfl
   refine AE ⟨_,H⟩ (AO U ?_)
   replace H:=H.pick 12 rfl
   refine Ct (xs:=ws.map Prod.fst) (ys:=[b78]) U U U Jg K5 U (by decide) U U H (by first |omega|(simp only [List.length_append,List.length_cons,List.length_nil];omega)) (fun F hA hR=>Cm (hA _ (List.mem_of_getElem? (i:=11) U)) U (by decide) (AW.flat_eq.2 U)) (fun v80 w H=>?_)
   replace H:=H.h1 (A:=Y Cx v80 ((ws.map Prod.fst)++[b78]))|>.pick 11 rfl|>.pick 11 rfl|>.pick 11 rfl|>.pick 11 rfl|>.pick 11 rfl|>.pick 11 rfl|>.pick 11 rfl|>.pick 11 rfl|>.pick 11 rfl|>.pick 11 rfl|>.pick 11 rfl
   refine AE ⟨_,H⟩ (Ao U U U (fun w ⟨Ar,H⟩=>AH U U) (Ao U U U (fun w ⟨Ar,H⟩=>Aj U JS U) (AO U ?_)))
   obtain ⟨A81,c82,rfl,hc83,hm84,hp85⟩:=H.fA 11 rfl
   replace H:=H.pick 13 rfl
   refine BE U U U Jp U U H U (Nat.le_of_ble_eq_true U) (fun u hu=>by simp [Value.cells] at hu;subst hu;rfl) (fun w H=>?_)
   replace H:Hd _ _ _ [blk b65 [.slice A40 J33.us.length c41,.int .i64 J33.parts,.slice A45 J33.map.length c46,.slice A50 J33.comb.length c51,.slice A55 J33.red.length c56,.int .i64 J33.chunk,.int .i64 J33.window,.int .i64 J33.fuel,.slice A60 J33.marks.length c61,.int .i64 C.w,.int .i64 C.t,.int .i64 C.o,.int .i64 ((s:Nat):Int),.int .i64 att,.int .i64 ((Ay dg J33 s).2),.pointer (some ⟨cb67,0,none⟩),.slice A81 (((ws.map Prod.fst)++[b78]).length) c82] 164,blk b78 [.int .i64 x75,.int .i64 J33.window,.int .i64 0,.int .i64 0] 239,Bt (Cq 239) ws,Y (Ai .i64) (.slice A69 ((Bj dg J33 s att).length) c70) (Bj dg J33 s att),blk cb67 [.int .u32 1,.int .i32 0,.int .u32 0,.int .u32 1,.func (.func 96) #[] #[.pointer (some ⟨b26,0,none⟩),.pointer (some ⟨b27,0,none⟩),.pointer (some ⟨b66,0,none⟩)],.string (Ba (Ay dg J33 s).1)] 234,Y (Am Ag) (.slice A40 J33.us.length c41) J33.us,Y Af (.slice A45 J33.map.length c46) J33.map,Y Af (.slice A50 J33.comb.length c51) J33.comb,Y Af (.slice A55 J33.red.length c56) J33.red,Y (Ai .i64) (.slice A60 J33.marks.length c61) J33.marks,blk b26 [.slice A40 J33.us.length c41,.int .i64 J33.parts,.slice A45 J33.map.length c46,.slice A50 J33.comb.length c51,.slice A55 J33.red.length c56,.int .i64 J33.chunk,.int .i64 J33.window,.int .i64 J33.fuel,.slice A60 J33.marks.length c61,.int .i64 C.w,.int .i64 C.t,.int .i64 C.o] 28,blk b66 [.pointer (some ⟨b65,0,none⟩)] 44,Y Cx (.slice A81 (((ws.map Prod.fst)++[b78]).length) c82) ((ws.map Prod.fst)++[b78]),blk b79 [.pointer (some ⟨b78,0,none⟩)] 168] [Z (Am Ag) (.slice A1 C.J.us.length c2) C.J.us,Z Af (.slice A6 C.J.map.length c7) C.J.map,Z Af (.slice A11 C.J.comb.length c12) C.J.comb,Z Af (.slice A16 C.J.red.length c17) C.J.red,Z (Ai .i64) (.slice A21 C.J.marks.length c22) C.J.marks,gl]:=H
   replace H:=H.pick 11 rfl|>.pick 11 rfl|>.pick 11 rfl|>.pick 11 rfl|>.pick 11 rfl|>.pick 11 rfl|>.pick 11 rfl|>.pick 11 rfl|>.pick 11 rfl|>.pick 11 rfl|>.pick 11 rfl
   refine AE ⟨_,H⟩ (BP (AU (Aa (Ae (V U U (AT (z:=((k+1:Nat):Int)) U U U (by rw [AC (by omega) (by omega)];omega)) (Ad U (Ac ?_)))))))
   replace H:=H.pick 11 rfl|>.p4|>.p4|>.pick 12 rfl|>.p5|>.p5|>.keep 13
   replace H:=Hd.bigN (f:=Cq 239) (x:=(b78,(⟨x75,J33.window,0,0⟩:B9))) H
   replace H:Hd w0 F0 w [Bt (Cq 239) (ws++[(b78,(⟨x75,J33.window,0,0⟩:B9))]),Y Cx (.slice A81 (((ws.map Prod.fst)++[b78]).length) c82) ((ws++[(b78,(⟨x75,J33.window,0,0⟩:B9))]).map Prod.fst),Y (Ai .i64) (.slice A69 ((Bj dg J33 s att).length) c70) (Bj dg J33 s att),blk cb67 [.int .u32 1,.int .i32 0,.int .u32 0,.int .u32 1,.func (.func 96) #[] #[.pointer (some ⟨b26,0,none⟩),.pointer (some ⟨b27,0,none⟩),.pointer (some ⟨b66,0,none⟩)],.string (Ba (Ay dg J33 s).1)] 234,blk b65 [.slice A40 J33.us.length c41,.int .i64 J33.parts,.slice A45 J33.map.length c46,.slice A50 J33.comb.length c51,.slice A55 J33.red.length c56,.int .i64 J33.chunk,.int .i64 J33.window,.int .i64 J33.fuel,.slice A60 J33.marks.length c61,.int .i64 C.w,.int .i64 C.t,.int .i64 C.o,.int .i64 ((s:Nat):Int),.int .i64 att,.int .i64 ((Ay dg J33 s).2),.pointer (some ⟨cb67,0,none⟩),.slice A81 (((ws.map Prod.fst)++[b78]).length) c82] 164,Y (Am Ag) (.slice A40 J33.us.length c41) J33.us,Y Af (.slice A45 J33.map.length c46) J33.map,Y Af (.slice A50 J33.comb.length c51) J33.comb,Y Af (.slice A55 J33.red.length c56) J33.red,Y (Ai .i64) (.slice A60 J33.marks.length c61) J33.marks,blk b26 [.slice A40 J33.us.length c41,.int .i64 J33.parts,.slice A45 J33.map.length c46,.slice A50 J33.comb.length c51,.slice A55 J33.red.length c56,.int .i64 J33.chunk,.int .i64 J33.window,.int .i64 J33.fuel,.slice A60 J33.marks.length c61,.int .i64 C.w,.int .i64 C.t,.int .i64 C.o] 28,blk b66 [.pointer (some ⟨b65,0,none⟩)] 44] [Z (Am Ag) (.slice A1 C.J.us.length c2) C.J.us,Z Af (.slice A6 C.J.map.length c7) C.J.map,Z Af (.slice A11 C.J.comb.length c12) C.J.comb,Z Af (.slice A16 C.J.red.length c17) C.J.red,Z (Ai .i64) (.slice A21 C.J.marks.length c22) C.J.marks,gl]:=by rw [List.map_append];exact H
   exact Bi (s:=(k,undef,ws)) (k+1,.slice A81 (((ws.map Prod.fst)++[b78]).length) c82,ws++[(b78,(⟨x75,J33.window,0,0⟩:B9))]) ⟨rfl,rfl,rfl,rfl,rfl,rfl,rfl,trivial⟩ ⟨H,by (try dsimp only);omega,by (try dsimp only);rw [List.map_append,hws,Eo hx76,List.map_append];rfl⟩ (by (try dsimp only);omega)
  refine BX (parts:=[(0,.tmp 70)]) (vs:=[.pointer (some ⟨b78,0,none⟩)]) (cs:=[.pointer (some ⟨b78,0,none⟩)]) U U U Jg K5 U (by decide) (by decide) U U H (fun b86 w H=>?_)
  replace H:=H.h1 (A:=blk b86 [.pointer (some ⟨b78,0,none⟩)] 168)|>.pick 11 rfl|>.pick 11 rfl|>.pick 11 rfl|>.pick 11 rfl|>.pick 11 rfl|>.pick 11 rfl|>.pick 11 rfl|>.pick 11 rfl|>.pick 11 rfl|>.pick 11 rfl|>.pick 11 rfl
  refine AE ⟨_,H⟩ (AO U (V U U (Ak U Jp U (H.cellI 13 U U)) (AE ⟨_,H⟩ (AO U ?_))))
  replace H:=H.pick 12 rfl
  refine Ct (xs:=ws.map Prod.fst) (ys:=[b78]) U U U Jg K5 U (by decide) U U H (by first |omega|(simp only [List.length_append,List.length_cons,List.length_nil];omega)) (fun F hA hR=>Cm (hA _ (List.mem_of_getElem? (i:=11) U)) U (by decide) (AW.flat_eq.2 U)) (fun v87 w H=>?_)
  replace H:=H.h1 (A:=Y Cx v87 ((ws.map Prod.fst)++[b78]))|>.pick 11 rfl|>.pick 11 rfl|>.pick 11 rfl|>.pick 11 rfl|>.pick 11 rfl|>.pick 11 rfl|>.pick 11 rfl|>.pick 11 rfl|>.pick 11 rfl|>.pick 11 rfl|>.pick 11 rfl
  refine AE ⟨_,H⟩ (Ao U U U (fun w ⟨Ar,H⟩=>AH U U) (Ao U U U (fun w ⟨Ar,H⟩=>Aj U JS U) (AO U ?_)))
  obtain ⟨A88,c89,rfl,hc90,hm91,hp92⟩:=H.fA 11 rfl
  replace H:=H.pick 13 rfl
  refine BE U U U Jp U U H U (Nat.le_of_ble_eq_true U) (fun u hu=>by simp [Value.cells] at hu;subst hu;rfl) (fun w H=>?_)
  replace H:Hd _ _ _ [blk b65 [.slice A40 J33.us.length c41,.int .i64 J33.parts,.slice A45 J33.map.length c46,.slice A50 J33.comb.length c51,.slice A55 J33.red.length c56,.int .i64 J33.chunk,.int .i64 J33.window,.int .i64 J33.fuel,.slice A60 J33.marks.length c61,.int .i64 C.w,.int .i64 C.t,.int .i64 C.o,.int .i64 ((s:Nat):Int),.int .i64 att,.int .i64 ((Ay dg J33 s).2),.pointer (some ⟨cb67,0,none⟩),.slice A88 (((ws.map Prod.fst)++[b78]).length) c89] 164,blk b78 [.int .i64 x75,.int .i64 J33.window,.int .i64 0,.int .i64 0] 239,Bt (Cq 239) ws,Y (Ai .i64) (.slice A69 ((Bj dg J33 s att).length) c70) (Bj dg J33 s att),blk cb67 [.int .u32 1,.int .i32 0,.int .u32 0,.int .u32 1,.func (.func 96) #[] #[.pointer (some ⟨b26,0,none⟩),.pointer (some ⟨b27,0,none⟩),.pointer (some ⟨b66,0,none⟩)],.string (Ba (Ay dg J33 s).1)] 234,Y (Am Ag) (.slice A40 J33.us.length c41) J33.us,Y Af (.slice A45 J33.map.length c46) J33.map,Y Af (.slice A50 J33.comb.length c51) J33.comb,Y Af (.slice A55 J33.red.length c56) J33.red,Y (Ai .i64) (.slice A60 J33.marks.length c61) J33.marks,blk b26 [.slice A40 J33.us.length c41,.int .i64 J33.parts,.slice A45 J33.map.length c46,.slice A50 J33.comb.length c51,.slice A55 J33.red.length c56,.int .i64 J33.chunk,.int .i64 J33.window,.int .i64 J33.fuel,.slice A60 J33.marks.length c61,.int .i64 C.w,.int .i64 C.t,.int .i64 C.o] 28,blk b66 [.pointer (some ⟨b65,0,none⟩)] 44,Y Cx (.slice A88 (((ws.map Prod.fst)++[b78]).length) c89) ((ws.map Prod.fst)++[b78]),blk b86 [.pointer (some ⟨b78,0,none⟩)] 168] [Z (Am Ag) (.slice A1 C.J.us.length c2) C.J.us,Z Af (.slice A6 C.J.map.length c7) C.J.map,Z Af (.slice A11 C.J.comb.length c12) C.J.comb,Z Af (.slice A16 C.J.red.length c17) C.J.red,Z (Ai .i64) (.slice A21 C.J.marks.length c22) C.J.marks,gl]:=H
  replace H:=H.pick 11 rfl|>.pick 11 rfl|>.pick 11 rfl|>.pick 11 rfl|>.pick 11 rfl|>.pick 11 rfl|>.pick 11 rfl|>.pick 11 rfl|>.pick 11 rfl|>.pick 11 rfl|>.pick 11 rfl
  refine AE ⟨_,H⟩ (BP (AU (Aa (Ae (V U U (AT (z:=((k+1:Nat):Int)) U U U (by rw [AC (by omega) (by omega)];omega)) (Ad U (Ac ?_)))))))
  replace H:=H.pick 11 rfl|>.p4|>.p4|>.pick 12 rfl|>.p5|>.p5|>.keep 13
  replace H:=Hd.bigN (f:=Cq 239) (x:=(b78,(⟨x75,J33.window,0,0⟩:B9))) H
  replace H:Hd w0 F0 w [Bt (Cq 239) (ws++[(b78,(⟨x75,J33.window,0,0⟩:B9))]),Y Cx (.slice A88 (((ws.map Prod.fst)++[b78]).length) c89) ((ws++[(b78,(⟨x75,J33.window,0,0⟩:B9))]).map Prod.fst),Y (Ai .i64) (.slice A69 ((Bj dg J33 s att).length) c70) (Bj dg J33 s att),blk cb67 [.int .u32 1,.int .i32 0,.int .u32 0,.int .u32 1,.func (.func 96) #[] #[.pointer (some ⟨b26,0,none⟩),.pointer (some ⟨b27,0,none⟩),.pointer (some ⟨b66,0,none⟩)],.string (Ba (Ay dg J33 s).1)] 234,blk b65 [.slice A40 J33.us.length c41,.int .i64 J33.parts,.slice A45 J33.map.length c46,.slice A50 J33.comb.length c51,.slice A55 J33.red.length c56,.int .i64 J33.chunk,.int .i64 J33.window,.int .i64 J33.fuel,.slice A60 J33.marks.length c61,.int .i64 C.w,.int .i64 C.t,.int .i64 C.o,.int .i64 ((s:Nat):Int),.int .i64 att,.int .i64 ((Ay dg J33 s).2),.pointer (some ⟨cb67,0,none⟩),.slice A88 (((ws.map Prod.fst)++[b78]).length) c89] 164,Y (Am Ag) (.slice A40 J33.us.length c41) J33.us,Y Af (.slice A45 J33.map.length c46) J33.map,Y Af (.slice A50 J33.comb.length c51) J33.comb,Y Af (.slice A55 J33.red.length c56) J33.red,Y (Ai .i64) (.slice A60 J33.marks.length c61) J33.marks,blk b26 [.slice A40 J33.us.length c41,.int .i64 J33.parts,.slice A45 J33.map.length c46,.slice A50 J33.comb.length c51,.slice A55 J33.red.length c56,.int .i64 J33.chunk,.int .i64 J33.window,.int .i64 J33.fuel,.slice A60 J33.marks.length c61,.int .i64 C.w,.int .i64 C.t,.int .i64 C.o] 28,blk b66 [.pointer (some ⟨b65,0,none⟩)] 44] [Z (Am Ag) (.slice A1 C.J.us.length c2) C.J.us,Z Af (.slice A6 C.J.map.length c7) C.J.map,Z Af (.slice A11 C.J.comb.length c12) C.J.comb,Z Af (.slice A16 C.J.red.length c17) C.J.red,Z (Ai .i64) (.slice A21 C.J.marks.length c22) C.J.marks,gl]:=by rw [List.map_append];exact H
  exact Bi (s:=(k,undef,ws)) (k+1,.slice A88 (((ws.map Prod.fst)++[b78]).length) c89,ws++[(b78,(⟨x75,J33.window,0,0⟩:B9))]) ⟨rfl,rfl,rfl,rfl,rfl,rfl,rfl,trivial⟩ ⟨H,by (try dsimp only);omega,by (try dsimp only);rw [List.map_append,hws,Eo hx76,List.map_append];rfl⟩ (by (try dsimp only);omega)
 refine BC (AM (AM (BD (Aa (Ab (Ae (V U U (Ak U FJ U (H.cellI 11 U U)) (Ah 2 U (Ac (Aa (An (Cl U U U ?_))))))))))))
 replace H:=H.p1.p9.p9.p9.p9.p9.p8.p9.k9.h9 (A:=blk b65 [.slice A40 J33.us.length c41,.int .i64 J33.parts,.slice A45 J33.map.length c46,.slice A50 J33.comb.length c51,.slice A55 J33.red.length c56,.int .i64 J33.chunk,.int .i64 J33.window,.int .i64 J33.fuel,.slice A60 J33.marks.length c61,.int .i64 C.w,.int .i64 C.t,.int .i64 C.o,.int .i64 ((s:Nat):Int),.int .i64 att,.int .i64 ((Ay dg J33 s).2),.pointer (some ⟨cb67,0,none⟩),vw] 164) (I:=Y Cx vw (ws.map Prod.fst)) (J:=Bt (Cq 239) ws)
 replace H:=IY b65 C.J (CW dg C.J s att) (.slice A40 J33.us.length c41) (.slice A45 J33.map.length c46) (.slice A50 J33.comb.length c51) (.slice A55 J33.red.length c56) (.slice A60 J33.marks.length c61) J33 C.w C.t C.o cb67 (.func (.func 96) #[] #[.pointer (some ⟨b26,0,none⟩),.pointer (some ⟨b27,0,none⟩),.pointer (some ⟨b66,0,none⟩)]) vw ws ⟨hsj,WI hsj hws (by omega)⟩ H
 replace H:=H.h1 (A:=BW b65 C.J (CW dg C.J s att))
 exact Al ⟨_,rfl,rfl⟩ H
section
variable {P:Program} {ops:Array Oper} {Q:Exit→Act→World→Prop} {rest:List Oper} {n:Nat} {l:BF} {w0 w:World} {F0:AJ} {o:Oper} {As Rs:List SP} {x y:Operand} {t ti:TypeId}
end
section
variable {w0 w:World} {F0:AJ} {As Rs:List SP} {t sb mb:Nat} {st:DV} {kvs:List GL} {k:Int×Int} {v:Value} {us:List (Value×List Ap)}
end
def Em (r:Nat) (vS:Value) (vM:Value) (vC:Value) (vR:Value) (vK:Value) (J:AD) (cw:Int) (ct:Int) (co:Int) (sb:Nat) (R:AL):SP:=ex fun hv:Nat→Value=>ex fun vs:Value=>ex fun us:List (Value×List Int)=>B5 [B1 ((us.map (fun u=>u.2)=R.sets)),blk r (Bw vS vM vC vR vK J cw ct co R.part R.ep R.g hv sb vs) 185,Y (Am Ag) vS J.us,Y Af vM J.map,Y Af vC J.comb,Y Af vR J.red,Y (Ai .i64) vK J.marks,BN (R.g) hv,Y (Am (Ai .i64)) vs us,CL 253 sb (R.st)]
theorem Ym (r:Nat) (vS:Value) (vM:Value) (vC:Value) (vR:Value) (vK:Value) (J:AD) (cw:Int) (ct:Int) (co:Int) (sb:Nat) (R:AL) {w0 w:World} {F0:AJ} {As Rs:List SP} (H:Hd w0 F0 w (Em r vS vM vC vR vK J cw ct co sb R::As) Rs):∃ hv:Nat→Value,∃ vs:Value,∃ us:List (Value×List Int),((us.map (fun u=>u.2)=R.sets))∧Hd w0 F0 w ([blk r (Bw vS vM vC vR vK J cw ct co R.part R.ep R.g hv sb vs) 185,Y (Am Ag) vS J.us,Y Af vM J.map,Y Af vC J.comb,Y Af vR J.red,Y (Ai .i64) vK J.marks,BN (R.g) hv,Y (Am (Ai .i64)) vs us,CL 253 sb (R.st)]++As) Rs:=by
 obtain ⟨hv,H⟩:=Hd.exA H
 obtain ⟨vs,H⟩:=Hd.exA H
 obtain ⟨us,H⟩:=Hd.exA H
 exact ⟨hv,vs,us,H.stA.puA⟩
theorem QU (r:Nat) (vS:Value) (vM:Value) (vC:Value) (vR:Value) (vK:Value) (J:AD) (cw:Int) (ct:Int) (co:Int) (sb:Nat) (R:AL) (hv:Nat→Value) (vs:Value) (us:List (Value×List Int)) {w0 w:World} {F0:AJ} {As Rs:List SP} (hp:(us.map (fun u=>u.2)=R.sets)) (H:Hd w0 F0 w ([blk r (Bw vS vM vC vR vK J cw ct co R.part R.ep R.g hv sb vs) 185,Y (Am Ag) vS J.us,Y Af vM J.map,Y Af vC J.comb,Y Af vR J.red,Y (Ai .i64) vK J.marks,BN (R.g) hv,Y (Am (Ai .i64)) vs us,CL 253 sb (R.st)]++As) Rs):Hd w0 F0 w (Em r vS vM vC vR vK J cw ct co sb R::As) Rs:=by
 have H1:=(show Hd w0 F0 w ([B1 ((us.map (fun u=>u.2)=R.sets)),blk r (Bw vS vM vC vR vK J cw ct co R.part R.ep R.g hv sb vs) 185,Y (Am Ag) vS J.us,Y Af vM J.map,Y Af vC J.comb,Y Af vR J.red,Y (Ai .i64) vK J.marks,BN (R.g) hv,Y (Am (Ai .i64)) vs us,CL 253 sb (R.st)]++As) Rs from H.puI hp).stI
 replace H1:=Hd.exI (A:=fun us:List (Value×List Int)=>B5 [B1 ((us.map (fun u=>u.2)=R.sets)),blk r (Bw vS vM vC vR vK J cw ct co R.part R.ep R.g hv sb vs) 185,Y (Am Ag) vS J.us,Y Af vM J.map,Y Af vC J.comb,Y Af vR J.red,Y (Ai .i64) vK J.marks,BN (R.g) hv,Y (Am (Ai .i64)) vs us,CL 253 sb (R.st)]) us H1
 replace H1:=Hd.exI (A:=fun vs:Value=>ex fun us:List (Value×List Int)=>B5 [B1 ((us.map (fun u=>u.2)=R.sets)),blk r (Bw vS vM vC vR vK J cw ct co R.part R.ep R.g hv sb vs) 185,Y (Am Ag) vS J.us,Y Af vM J.map,Y Af vC J.comb,Y Af vR J.red,Y (Ai .i64) vK J.marks,BN (R.g) hv,Y (Am (Ai .i64)) vs us,CL 253 sb (R.st)]) vs H1
 replace H1:=Hd.exI (A:=fun hv:Nat→Value=>ex fun vs:Value=>ex fun us:List (Value×List Int)=>B5 [B1 ((us.map (fun u=>u.2)=R.sets)),blk r (Bw vS vM vC vR vK J cw ct co R.part R.ep R.g hv sb vs) 185,Y (Am Ag) vS J.us,Y Af vM J.map,Y Af vC J.comb,Y Af vR J.red,Y (Ai .i64) vK J.marks,BN (R.g) hv,Y (Am (Ai .i64)) vs us,CL 253 sb (R.st)]) hv H1
 exact H1
theorem Um (r:Nat) (A:Option Addr) (c:Nat) (vM2:Value) (vC2:Value) (vR2:Value) (vK2:Value) (J2:AD) (cw:Int) (ct:Int) (co:Int) (part:Int) (ep:Int) (R:AL) (hv:Nat→Value) (sb:Nat) (vs:Value) (hred:∀ i∈J2.red,AA i.a) (hf64:AA J2.fuel) (hus6:J2.us.length≤6) (hbp:∀ i,(R.g i).pairs.length≤1000) (hpt:part=R.part) (hep:ep=R.ep):
    Cn Tryz.prog 61 [.pointer (some ⟨r,0,none⟩)] [] [blk r (Bw (.slice A J2.us.length c) vM2 vC2 vR2 vK2 J2 cw ct co part ep R.g hv sb vs) 185,BN (R.g) hv,Z Af vR2 J2.red,gl] (fun v Bs=>∃ u:Value,v=.agg #[.int .i64 ((AG dg J2 R).kind),.int .i64 ((AG dg J2 R).sp),.int .i64 ((AG dg J2 R).att),.int .i64 ((AG dg J2 R).part),.int .i64 ((AG dg J2 R).seq),.int .i64 ((AG dg J2 R).next),.int .i64 ((AG dg J2 R).ep),.int .i64 ((AG dg J2 R).why),u,.slice none 0 0]∧Bs=[Y (Ai .i64) u ((AG dg J2 R).set)]):=by
 intro w0 F0 H
 refine enter Tryz.func61 U U (Nat.le_of_ble_eq_true U) (Ab (Ae (Dg U U U IA H (fun b1 w H=>(Ac (Aa ?_))))))
 replace H:Hd _ _ _ [blk b1 [.int .i64 0,.int .i64 0,.int .i64 0,.int .i64 0,.int .i64 0,.int .i64 0,.int .i64 0,.int .i64 0,.slice none 0 0,.slice none 0 0] 64] [blk r (Bw (.slice A J2.us.length c) vM2 vC2 vR2 vK2 J2 cw ct co part ep R.g hv sb vs) 185,BN (R.g) hv,Z Af vR2 J2.red,gl]:=H
 refine Ab (Ab (Ae (Ad U (V U U (Dn U Jx U U) (Ac (Aa (B7 U (Av (Aa (Ab (Ae (Ad U (sc (Xd r A c vM2 vC2 vR2 vK2 J2 cw ct co part ep R hv sb vs (by first |assumption|omega) (by first |assumption|omega) (by first |assumption|omega) (by first |assumption|omega)) H (lR 0 U (lR 1 U (lR 2 U (lR 3 U l0)))) U U (At VI U U) ?_)))))))))))))
 rintro _ _ w ⟨u2,rfl,rfl⟩ H
 replace H:=H.h1 (A:=Y Ag u2 ((DI dg J2 R).1))
 refine Ah 7 U (Ac (Aa (Ab (Ab (Ae (Ad U (Ac (Aa ?_))))))))
 refine DN (b:=(DI dg J2 R).2.2) U (fun h3=>?_) (fun h3=>?_)
 ·refine Ab (BY (.e 0 (.e 1 (.e 2 (.e 3 (.e 4 (.e 5 (.e 6 (.e 7 (.e 8 (.e 9 (.m 10 .z))))))))))) (fun w=>∃ Ar,Hd w0 F0 w (Y Ag u2 ((DI dg J2 R).1)::Ar) [blk r (Bw (.slice A J2.us.length c) vM2 vC2 vR2 vK2 J2 cw ct co part ep R.g hv sb vs) 185,BN (R.g) hv,Z Af vR2 J2.red,gl]) mo (by kernel_rfl) (fun w H=>⟨_,H⟩) H (fun w H=>(Au U (Ao U U U (fun w ⟨Ar,H⟩=>AH U U) (Ao U U U (fun w ⟨Ar,H⟩=>Aj U Ov U) (Ao U U U (fun w ⟨Ar,H⟩=>Ak U AB U (H.cellRI 0 U U)) (Au U (Ao U U U (fun w ⟨Ar,H⟩=>AH U U) (Ao U U U (fun w ⟨Ar,H⟩=>Aj U Ow U) (Ao U U U (fun w ⟨Ar,H⟩=>Ak U AB U (H.cellRI 0 U U)) (Au U (Ao U U U (fun w ⟨Ar,H⟩=>Co (parts:=[(0,.const (.int .i64 8)),(3,.tmp 19),(6,.tmp 23),(7,.tmp 24)]) (vs:=[.int .i64 8,.int .i64 part,.int .i64 ep,.int .i64 ((DI dg J2 R).2.1)]) (cs:=[.int .i64 8,.int .i64 0,.int .i64 0,.int .i64 part,.int .i64 0,.int .i64 0,.int .i64 ep,.int .i64 ((DI dg J2 R).2.1),.slice none 0 0,.slice none 0 0]) U EI U U) ?_))))))))))))
  refine AO U ?_
  replace H:=H.p1
  refine BE U U U E6 U U H U (Nat.le_of_ble_eq_true U) (fun u hu=>by simp [Value.cells] at hu;rcases hu with rfl|rfl|rfl|rfl|rfl|rfl|rfl|rfl|rfl|rfl<;>rfl) (fun w H=>?_)
  replace H:=H.h1 (A:=blk b1 [.int .i64 8,.int .i64 0,.int .i64 0,.int .i64 part,.int .i64 0,.int .i64 0,.int .i64 ep,.int .i64 ((DI dg J2 R).2.1),.slice none 0 0,.slice none 0 0] 64)|>.p1
  refine AE ⟨_,H⟩ (BP (Aa (An (Az (FD (cs:=[.int .i64 8,.int .i64 0,.int .i64 0,.int .i64 part,.int .i64 0,.int .i64 0,.int .i64 ep,.int .i64 ((DI dg J2 R).2.1),.slice none 0 0,.slice none 0 0]) U U E6 U (H.cellsI 1 U U) ?_)))))
  have e:=Uo (D:=dg) (J:=J2) (R:=R) (by simpa using h3)
  replace H:=H.newnil (Ai .i64)|>.k1
  exact Al ⟨(.slice none 0 0),by rw [e,hpt,hep]<;>rfl,by rw [e]<;>rfl⟩ H
 refine Av (Aa (Ab (BY (.e 0 (.e 1 (.e 2 (.e 3 (.e 4 (.e 5 (.e 6 (.e 7 (.e 8 (.m 9 (.e 10 (.m 11 .z)))))))))))) (fun w=>∃ Ar,Hd w0 F0 w (Y Ag u2 ((DI dg J2 R).1)::Ar) [blk r (Bw (.slice A J2.us.length c) vM2 vC2 vR2 vK2 J2 cw ct co part ep R.g hv sb vs) 185,BN (R.g) hv,Z Af vR2 J2.red,gl]) mo (by kernel_rfl) (fun w H=>⟨_,H⟩) H (fun w H=>(Au U (Ao U U U (fun w ⟨Ar,H⟩=>AH U U) (Ao U U U (fun w ⟨Ar,H⟩=>Aj U Ov U) (Ao U U U (fun w ⟨Ar,H⟩=>Ak U AB U (H.cellRI 0 U U)) (Au U (Ao U U U (fun w ⟨Ar,H⟩=>AH U U) (Ao U U U (fun w ⟨Ar,H⟩=>Aj U Ow U) (Ao U U U (fun w ⟨Ar,H⟩=>Ak U AB U (H.cellRI 0 U U)) (Au U (AO U (sc (PY r A c vM2 vC2 vR2 vK2 J2 cw ct co part ep R hv sb vs (by first |assumption|omega)) H (lR 0 U l0) U U (At Pz U U) ?_)))))))))))))))
 rintro v4 _ w rfl H
 replace H:=H.h1 (A:=Y (Ai .i64) v4 (CT J2.us.length R))|>.p1
 refine AE ⟨_,H⟩ ?_
 obtain ⟨A5,c6,rfl,hc7,hm8,hp9⟩:=H.fA 1 rfl
 refine Ao U U U (fun w ⟨Ar,H⟩=>Co (parts:=[(0,.const (.int .i64 6)),(3,.tmp 29),(6,.tmp 33),(8,.tmp 35)]) (vs:=[.int .i64 6,.int .i64 part,.int .i64 ep,.slice A5 ((CT J2.us.length R).length) c6]) (cs:=[.int .i64 6,.int .i64 0,.int .i64 0,.int .i64 part,.int .i64 0,.int .i64 0,.int .i64 ep,.int .i64 0,.slice A5 ((CT J2.us.length R).length) c6,.slice none 0 0]) U EI U U) (AO U ?_)
 replace H:=H.p2
 refine BE U U U E6 U U H U (Nat.le_of_ble_eq_true U) (fun u hu=>by simp [Value.cells] at hu;rcases hu with rfl|rfl|rfl|rfl|rfl|rfl|rfl|rfl|rfl|rfl<;>rfl) (fun w H=>?_)
 replace H:Hd _ _ _ [blk b1 [.int .i64 6,.int .i64 0,.int .i64 0,.int .i64 part,.int .i64 0,.int .i64 0,.int .i64 ep,.int .i64 0,.slice A5 ((CT J2.us.length R).length) c6,.slice none 0 0] 64,Y Ag u2 ((DI dg J2 R).1),Y (Ai .i64) (.slice A5 ((CT J2.us.length R).length) c6) (CT J2.us.length R)] [blk r (Bw (.slice A J2.us.length c) vM2 vC2 vR2 vK2 J2 cw ct co part ep R.g hv sb vs) 185,BN (R.g) hv,Z Af vR2 J2.red,gl]:=H
 replace H:=H.p1
 refine AE ⟨_,H⟩ (BP (Aa (An (FD (cs:=[.int .i64 6,.int .i64 0,.int .i64 0,.int .i64 part,.int .i64 0,.int .i64 0,.int .i64 ep,.int .i64 0,.slice A5 ((CT J2.us.length R).length) c6,.slice none 0 0]) U U E6 U (H.cellsI 1 U U) ?_))))
 have e:=O1 (D:=dg) (J:=J2) (R:=R) (by simpa using h3)
 replace H:=H.p2.k1
 exact Al ⟨(.slice A5 ((CT J2.us.length R).length) c6),by rw [e,hpt,hep]<;>rfl,by rw [e]<;>rfl⟩ H
def FX (e:Nat) (C:Cf) (R:AL):SP:=ex fun vS2:Value=>ex fun vM2:Value=>ex fun vC2:Value=>ex fun vR2:Value=>ex fun vK2:Value=>ex fun J2:AD=>ex fun sb:Nat=>B5 [B1 ((Bf J2 C.J)),Em e vS2 vM2 vC2 vR2 vK2 J2 C.w C.t C.o sb R]
theorem Yl (e:Nat) (C:Cf) (R:AL) {w0 w:World} {F0:AJ} {As Rs:List SP} (H:Hd w0 F0 w (FX e C R::As) Rs):∃ vS2:Value,∃ vM2:Value,∃ vC2:Value,∃ vR2:Value,∃ vK2:Value,∃ J2:AD,∃ sb:Nat,((Bf J2 C.J))∧Hd w0 F0 w ([Em e vS2 vM2 vC2 vR2 vK2 J2 C.w C.t C.o sb R]++As) Rs:=by
 obtain ⟨vS2,H⟩:=Hd.exA H
 obtain ⟨vM2,H⟩:=Hd.exA H
 obtain ⟨vC2,H⟩:=Hd.exA H
 obtain ⟨vR2,H⟩:=Hd.exA H
 obtain ⟨vK2,H⟩:=Hd.exA H
 obtain ⟨J2,H⟩:=Hd.exA H
 obtain ⟨sb,H⟩:=Hd.exA H
 exact ⟨vS2,vM2,vC2,vR2,vK2,J2,sb,H.stA.puA⟩
theorem QT (e:Nat) (C:Cf) (R:AL) (vS2:Value) (vM2:Value) (vC2:Value) (vR2:Value) (vK2:Value) (J2:AD) (sb:Nat) {w0 w:World} {F0:AJ} {As Rs:List SP} (hp:(Bf J2 C.J)) (H:Hd w0 F0 w ([Em e vS2 vM2 vC2 vR2 vK2 J2 C.w C.t C.o sb R]++As) Rs):Hd w0 F0 w (FX e C R::As) Rs:=by
 have H1:=(show Hd w0 F0 w ([B1 ((Bf J2 C.J)),Em e vS2 vM2 vC2 vR2 vK2 J2 C.w C.t C.o sb R]++As) Rs from H.puI hp).stI
 replace H1:=Hd.exI (A:=fun sb:Nat=>B5 [B1 ((Bf J2 C.J)),Em e vS2 vM2 vC2 vR2 vK2 J2 C.w C.t C.o sb R]) sb H1
 replace H1:=Hd.exI (A:=fun J2:AD=>ex fun sb:Nat=>B5 [B1 ((Bf J2 C.J)),Em e vS2 vM2 vC2 vR2 vK2 J2 C.w C.t C.o sb R]) J2 H1
 replace H1:=Hd.exI (A:=fun vK2:Value=>ex fun J2:AD=>ex fun sb:Nat=>B5 [B1 ((Bf J2 C.J)),Em e vS2 vM2 vC2 vR2 vK2 J2 C.w C.t C.o sb R]) vK2 H1
 replace H1:=Hd.exI (A:=fun vR2:Value=>ex fun vK2:Value=>ex fun J2:AD=>ex fun sb:Nat=>B5 [B1 ((Bf J2 C.J)),Em e vS2 vM2 vC2 vR2 vK2 J2 C.w C.t C.o sb R]) vR2 H1
 replace H1:=Hd.exI (A:=fun vC2:Value=>ex fun vR2:Value=>ex fun vK2:Value=>ex fun J2:AD=>ex fun sb:Nat=>B5 [B1 ((Bf J2 C.J)),Em e vS2 vM2 vC2 vR2 vK2 J2 C.w C.t C.o sb R]) vC2 H1
 replace H1:=Hd.exI (A:=fun vM2:Value=>ex fun vC2:Value=>ex fun vR2:Value=>ex fun vK2:Value=>ex fun J2:AD=>ex fun sb:Nat=>B5 [B1 ((Bf J2 C.J)),Em e vS2 vM2 vC2 vR2 vK2 J2 C.w C.t C.o sb R]) vM2 H1
 replace H1:=Hd.exI (A:=fun vS2:Value=>ex fun vM2:Value=>ex fun vC2:Value=>ex fun vR2:Value=>ex fun vK2:Value=>ex fun J2:AD=>ex fun sb:Nat=>B5 [B1 ((Bf J2 C.J)),Em e vS2 vM2 vC2 vR2 vK2 J2 C.w C.t C.o sb R]) vS2 H1
 exact H1
def B2 (C:Cf) (rl:List (Nat×AL)):SP:=Bt (fun e:Nat×AL=>FX e.1 C e.2) rl
def Cg (J:AD) (tl:List (Nat×BH)):SP:=Bt (fun e:Nat×BH=>BW e.1 J e.2) tl
theorem Wt {A B:AD} (h:Bf A B) {b:Nat} {M:BH} {w0 w:World} {F0:AJ} {As Rs:List SP} (H:Hd w0 F0 w (BW b A M::As) Rs):Hd w0 F0 w (BW b B M::As) Rs:=by
 obtain ⟨vS,vM,vC,vR,vK,J2,cw,ct,co,cb,fv,vw,ws,⟨hsj,hws⟩,H⟩:=Kk b A M H
 exact IY b B M vS vM vC vR vK J2 cw ct co cb fv vw ws ⟨hsj.trans h,hws⟩ H
theorem KQ {tl:List (Nat×BH)} {ts:List BH} (htl:tl.map Prod.snd=ts) {k:Nat} {x:Fa} (hx:(tl.map AI)[k]?=some x):∃ e,tl[k]?=some e∧ts[k]?=some e.2∧x=AI e:=by
 rw [List.getElem?_map] at hx
 obtain ⟨e,he,rfl⟩:=Option.map_eq_some_iff.1 hx
 exact ⟨e,he,by rw [←htl,List.getElem?_map,he];rfl,rfl⟩
theorem TE {tl:List (Nat×BH)} {ts:List BH} (htl:tl.map Prod.snd=ts) {k:Nat} {sp att:Int} (hk:¬ k<(tl.map AI).length) (hn:∀ M∈ts.take k,Fj sp att M=false):D4 ts sp att=false:=by
 have h:ts.length≤k:=by rw [←htl,List.length_map];rw [List.length_map] at hk;omega
 rw [List.take_of_length_le h] at hn
 exact TG hn
theorem Ro {sp att:Int} {e:Nat×BH} (h:¬ ((AI e).sp=sp∧(AI e).att=att)):Fj sp att e.2=false:=by
 unfold Fj
 rw [←Bool.decide_and]
 exact decide_eq_false h
theorem ZA {sp att:Int} {e:Nat×BH} (h1:(AI e).sp=sp) (h2:(AI e).att=att):Fj sp att e.2=true:=by
 unfold Fj
 rw [←Bool.decide_and]
 exact decide_eq_true ⟨h1,h2⟩
def Bp (b:Nat) (C:Cf) (W:CC):SP:=ex fun vS:Value=>ex fun vM:Value=>ex fun vC:Value=>ex fun vR:Value=>ex fun vK:Value=>ex fun J2:AD=>ex fun pv:Value=>ex fun kb:Nat=>ex fun tv:Value=>ex fun rl:List (Nat×AL)=>ex fun tl:List (Nat×BH)=>B5 [B1 ((Bf J2 C.J)∧(rl.map Prod.snd=W.rs)∧(tl.map Prod.snd=W.ts)),blk b [vS,.int .i64 J2.parts,vM,vC,vR,.int .i64 J2.chunk,.int .i64 J2.window,.int .i64 J2.fuel,vK,.int .i64 C.w,.int .i64 C.t,.int .i64 C.o,.int .i64 W.ep,pv,.map (some kb),tv,.int .u32 (BI W.over)] 210,Y (Am Ag) vS J2.us,Y Af vM J2.map,Y Af vC J2.comb,Y Af vR J2.red,Y (Ai .i64) vK J2.marks,Y (Ai .i64) pv (rl.map AF),Bx BO kb (rl.map BR),B2 C rl,Y Cd tv (tl.map AI),Cg C.J tl]
theorem Hb (b:Nat) (C:Cf) (W:CC) {w0 w:World} {F0:AJ} {As Rs:List SP} (H:Hd w0 F0 w (Bp b C W::As) Rs):∃ vS:Value,∃ vM:Value,∃ vC:Value,∃ vR:Value,∃ vK:Value,∃ J2:AD,∃ pv:Value,∃ kb:Nat,∃ tv:Value,∃ rl:List (Nat×AL),∃ tl:List (Nat×BH),((Bf J2 C.J)∧(rl.map Prod.snd=W.rs)∧(tl.map Prod.snd=W.ts))∧Hd w0 F0 w ([blk b [vS,.int .i64 J2.parts,vM,vC,vR,.int .i64 J2.chunk,.int .i64 J2.window,.int .i64 J2.fuel,vK,.int .i64 C.w,.int .i64 C.t,.int .i64 C.o,.int .i64 W.ep,pv,.map (some kb),tv,.int .u32 (BI W.over)] 210,Y (Am Ag) vS J2.us,Y Af vM J2.map,Y Af vC J2.comb,Y Af vR J2.red,Y (Ai .i64) vK J2.marks,Y (Ai .i64) pv (rl.map AF),Bx BO kb (rl.map BR),B2 C rl,Y Cd tv (tl.map AI),Cg C.J tl]++As) Rs:=by
 obtain ⟨vS,H⟩:=Hd.exA H
 obtain ⟨vM,H⟩:=Hd.exA H
 obtain ⟨vC,H⟩:=Hd.exA H
 obtain ⟨vR,H⟩:=Hd.exA H
 obtain ⟨vK,H⟩:=Hd.exA H
 obtain ⟨J2,H⟩:=Hd.exA H
 obtain ⟨pv,H⟩:=Hd.exA H
 obtain ⟨kb,H⟩:=Hd.exA H
 obtain ⟨tv,H⟩:=Hd.exA H
 obtain ⟨rl,H⟩:=Hd.exA H
 obtain ⟨tl,H⟩:=Hd.exA H
 exact ⟨vS,vM,vC,vR,vK,J2,pv,kb,tv,rl,tl,H.stA.puA⟩
theorem EE (b:Nat) (C:Cf) (W:CC) (vS:Value) (vM:Value) (vC:Value) (vR:Value) (vK:Value) (J2:AD) (pv:Value) (kb:Nat) (tv:Value) (rl:List (Nat×AL)) (tl:List (Nat×BH)) {w0 w:World} {F0:AJ} {As Rs:List SP} (hp:(Bf J2 C.J)∧(rl.map Prod.snd=W.rs)∧(tl.map Prod.snd=W.ts)) (H:Hd w0 F0 w ([blk b [vS,.int .i64 J2.parts,vM,vC,vR,.int .i64 J2.chunk,.int .i64 J2.window,.int .i64 J2.fuel,vK,.int .i64 C.w,.int .i64 C.t,.int .i64 C.o,.int .i64 W.ep,pv,.map (some kb),tv,.int .u32 (BI W.over)] 210,Y (Am Ag) vS J2.us,Y Af vM J2.map,Y Af vC J2.comb,Y Af vR J2.red,Y (Ai .i64) vK J2.marks,Y (Ai .i64) pv (rl.map AF),Bx BO kb (rl.map BR),B2 C rl,Y Cd tv (tl.map AI),Cg C.J tl]++As) Rs):Hd w0 F0 w (Bp b C W::As) Rs:=by
 have H1:=(show Hd w0 F0 w ([B1 ((Bf J2 C.J)∧(rl.map Prod.snd=W.rs)∧(tl.map Prod.snd=W.ts)),blk b [vS,.int .i64 J2.parts,vM,vC,vR,.int .i64 J2.chunk,.int .i64 J2.window,.int .i64 J2.fuel,vK,.int .i64 C.w,.int .i64 C.t,.int .i64 C.o,.int .i64 W.ep,pv,.map (some kb),tv,.int .u32 (BI W.over)] 210,Y (Am Ag) vS J2.us,Y Af vM J2.map,Y Af vC J2.comb,Y Af vR J2.red,Y (Ai .i64) vK J2.marks,Y (Ai .i64) pv (rl.map AF),Bx BO kb (rl.map BR),B2 C rl,Y Cd tv (tl.map AI),Cg C.J tl]++As) Rs from H.puI hp).stI
 replace H1:=Hd.exI (A:=fun tl:List (Nat×BH)=>B5 [B1 ((Bf J2 C.J)∧(rl.map Prod.snd=W.rs)∧(tl.map Prod.snd=W.ts)),blk b [vS,.int .i64 J2.parts,vM,vC,vR,.int .i64 J2.chunk,.int .i64 J2.window,.int .i64 J2.fuel,vK,.int .i64 C.w,.int .i64 C.t,.int .i64 C.o,.int .i64 W.ep,pv,.map (some kb),tv,.int .u32 (BI W.over)] 210,Y (Am Ag) vS J2.us,Y Af vM J2.map,Y Af vC J2.comb,Y Af vR J2.red,Y (Ai .i64) vK J2.marks,Y (Ai .i64) pv (rl.map AF),Bx BO kb (rl.map BR),B2 C rl,Y Cd tv (tl.map AI),Cg C.J tl]) tl H1
 replace H1:=Hd.exI (A:=fun rl:List (Nat×AL)=>ex fun tl:List (Nat×BH)=>B5 [B1 ((Bf J2 C.J)∧(rl.map Prod.snd=W.rs)∧(tl.map Prod.snd=W.ts)),blk b [vS,.int .i64 J2.parts,vM,vC,vR,.int .i64 J2.chunk,.int .i64 J2.window,.int .i64 J2.fuel,vK,.int .i64 C.w,.int .i64 C.t,.int .i64 C.o,.int .i64 W.ep,pv,.map (some kb),tv,.int .u32 (BI W.over)] 210,Y (Am Ag) vS J2.us,Y Af vM J2.map,Y Af vC J2.comb,Y Af vR J2.red,Y (Ai .i64) vK J2.marks,Y (Ai .i64) pv (rl.map AF),Bx BO kb (rl.map BR),B2 C rl,Y Cd tv (tl.map AI),Cg C.J tl]) rl H1
 replace H1:=Hd.exI (A:=fun tv:Value=>ex fun rl:List (Nat×AL)=>ex fun tl:List (Nat×BH)=>B5 [B1 ((Bf J2 C.J)∧(rl.map Prod.snd=W.rs)∧(tl.map Prod.snd=W.ts)),blk b [vS,.int .i64 J2.parts,vM,vC,vR,.int .i64 J2.chunk,.int .i64 J2.window,.int .i64 J2.fuel,vK,.int .i64 C.w,.int .i64 C.t,.int .i64 C.o,.int .i64 W.ep,pv,.map (some kb),tv,.int .u32 (BI W.over)] 210,Y (Am Ag) vS J2.us,Y Af vM J2.map,Y Af vC J2.comb,Y Af vR J2.red,Y (Ai .i64) vK J2.marks,Y (Ai .i64) pv (rl.map AF),Bx BO kb (rl.map BR),B2 C rl,Y Cd tv (tl.map AI),Cg C.J tl]) tv H1
 replace H1:=Hd.exI (A:=fun kb:Nat=>ex fun tv:Value=>ex fun rl:List (Nat×AL)=>ex fun tl:List (Nat×BH)=>B5 [B1 ((Bf J2 C.J)∧(rl.map Prod.snd=W.rs)∧(tl.map Prod.snd=W.ts)),blk b [vS,.int .i64 J2.parts,vM,vC,vR,.int .i64 J2.chunk,.int .i64 J2.window,.int .i64 J2.fuel,vK,.int .i64 C.w,.int .i64 C.t,.int .i64 C.o,.int .i64 W.ep,pv,.map (some kb),tv,.int .u32 (BI W.over)] 210,Y (Am Ag) vS J2.us,Y Af vM J2.map,Y Af vC J2.comb,Y Af vR J2.red,Y (Ai .i64) vK J2.marks,Y (Ai .i64) pv (rl.map AF),Bx BO kb (rl.map BR),B2 C rl,Y Cd tv (tl.map AI),Cg C.J tl]) kb H1
 replace H1:=Hd.exI (A:=fun pv:Value=>ex fun kb:Nat=>ex fun tv:Value=>ex fun rl:List (Nat×AL)=>ex fun tl:List (Nat×BH)=>B5 [B1 ((Bf J2 C.J)∧(rl.map Prod.snd=W.rs)∧(tl.map Prod.snd=W.ts)),blk b [vS,.int .i64 J2.parts,vM,vC,vR,.int .i64 J2.chunk,.int .i64 J2.window,.int .i64 J2.fuel,vK,.int .i64 C.w,.int .i64 C.t,.int .i64 C.o,.int .i64 W.ep,pv,.map (some kb),tv,.int .u32 (BI W.over)] 210,Y (Am Ag) vS J2.us,Y Af vM J2.map,Y Af vC J2.comb,Y Af vR J2.red,Y (Ai .i64) vK J2.marks,Y (Ai .i64) pv (rl.map AF),Bx BO kb (rl.map BR),B2 C rl,Y Cd tv (tl.map AI),Cg C.J tl]) pv H1
 replace H1:=Hd.exI (A:=fun J2:AD=>ex fun pv:Value=>ex fun kb:Nat=>ex fun tv:Value=>ex fun rl:List (Nat×AL)=>ex fun tl:List (Nat×BH)=>B5 [B1 ((Bf J2 C.J)∧(rl.map Prod.snd=W.rs)∧(tl.map Prod.snd=W.ts)),blk b [vS,.int .i64 J2.parts,vM,vC,vR,.int .i64 J2.chunk,.int .i64 J2.window,.int .i64 J2.fuel,vK,.int .i64 C.w,.int .i64 C.t,.int .i64 C.o,.int .i64 W.ep,pv,.map (some kb),tv,.int .u32 (BI W.over)] 210,Y (Am Ag) vS J2.us,Y Af vM J2.map,Y Af vC J2.comb,Y Af vR J2.red,Y (Ai .i64) vK J2.marks,Y (Ai .i64) pv (rl.map AF),Bx BO kb (rl.map BR),B2 C rl,Y Cd tv (tl.map AI),Cg C.J tl]) J2 H1
 replace H1:=Hd.exI (A:=fun vK:Value=>ex fun J2:AD=>ex fun pv:Value=>ex fun kb:Nat=>ex fun tv:Value=>ex fun rl:List (Nat×AL)=>ex fun tl:List (Nat×BH)=>B5 [B1 ((Bf J2 C.J)∧(rl.map Prod.snd=W.rs)∧(tl.map Prod.snd=W.ts)),blk b [vS,.int .i64 J2.parts,vM,vC,vR,.int .i64 J2.chunk,.int .i64 J2.window,.int .i64 J2.fuel,vK,.int .i64 C.w,.int .i64 C.t,.int .i64 C.o,.int .i64 W.ep,pv,.map (some kb),tv,.int .u32 (BI W.over)] 210,Y (Am Ag) vS J2.us,Y Af vM J2.map,Y Af vC J2.comb,Y Af vR J2.red,Y (Ai .i64) vK J2.marks,Y (Ai .i64) pv (rl.map AF),Bx BO kb (rl.map BR),B2 C rl,Y Cd tv (tl.map AI),Cg C.J tl]) vK H1
 replace H1:=Hd.exI (A:=fun vR:Value=>ex fun vK:Value=>ex fun J2:AD=>ex fun pv:Value=>ex fun kb:Nat=>ex fun tv:Value=>ex fun rl:List (Nat×AL)=>ex fun tl:List (Nat×BH)=>B5 [B1 ((Bf J2 C.J)∧(rl.map Prod.snd=W.rs)∧(tl.map Prod.snd=W.ts)),blk b [vS,.int .i64 J2.parts,vM,vC,vR,.int .i64 J2.chunk,.int .i64 J2.window,.int .i64 J2.fuel,vK,.int .i64 C.w,.int .i64 C.t,.int .i64 C.o,.int .i64 W.ep,pv,.map (some kb),tv,.int .u32 (BI W.over)] 210,Y (Am Ag) vS J2.us,Y Af vM J2.map,Y Af vC J2.comb,Y Af vR J2.red,Y (Ai .i64) vK J2.marks,Y (Ai .i64) pv (rl.map AF),Bx BO kb (rl.map BR),B2 C rl,Y Cd tv (tl.map AI),Cg C.J tl]) vR H1
 replace H1:=Hd.exI (A:=fun vC:Value=>ex fun vR:Value=>ex fun vK:Value=>ex fun J2:AD=>ex fun pv:Value=>ex fun kb:Nat=>ex fun tv:Value=>ex fun rl:List (Nat×AL)=>ex fun tl:List (Nat×BH)=>B5 [B1 ((Bf J2 C.J)∧(rl.map Prod.snd=W.rs)∧(tl.map Prod.snd=W.ts)),blk b [vS,.int .i64 J2.parts,vM,vC,vR,.int .i64 J2.chunk,.int .i64 J2.window,.int .i64 J2.fuel,vK,.int .i64 C.w,.int .i64 C.t,.int .i64 C.o,.int .i64 W.ep,pv,.map (some kb),tv,.int .u32 (BI W.over)] 210,Y (Am Ag) vS J2.us,Y Af vM J2.map,Y Af vC J2.comb,Y Af vR J2.red,Y (Ai .i64) vK J2.marks,Y (Ai .i64) pv (rl.map AF),Bx BO kb (rl.map BR),B2 C rl,Y Cd tv (tl.map AI),Cg C.J tl]) vC H1
 replace H1:=Hd.exI (A:=fun vM:Value=>ex fun vC:Value=>ex fun vR:Value=>ex fun vK:Value=>ex fun J2:AD=>ex fun pv:Value=>ex fun kb:Nat=>ex fun tv:Value=>ex fun rl:List (Nat×AL)=>ex fun tl:List (Nat×BH)=>B5 [B1 ((Bf J2 C.J)∧(rl.map Prod.snd=W.rs)∧(tl.map Prod.snd=W.ts)),blk b [vS,.int .i64 J2.parts,vM,vC,vR,.int .i64 J2.chunk,.int .i64 J2.window,.int .i64 J2.fuel,vK,.int .i64 C.w,.int .i64 C.t,.int .i64 C.o,.int .i64 W.ep,pv,.map (some kb),tv,.int .u32 (BI W.over)] 210,Y (Am Ag) vS J2.us,Y Af vM J2.map,Y Af vC J2.comb,Y Af vR J2.red,Y (Ai .i64) vK J2.marks,Y (Ai .i64) pv (rl.map AF),Bx BO kb (rl.map BR),B2 C rl,Y Cd tv (tl.map AI),Cg C.J tl]) vM H1
 replace H1:=Hd.exI (A:=fun vS:Value=>ex fun vM:Value=>ex fun vC:Value=>ex fun vR:Value=>ex fun vK:Value=>ex fun J2:AD=>ex fun pv:Value=>ex fun kb:Nat=>ex fun tv:Value=>ex fun rl:List (Nat×AL)=>ex fun tl:List (Nat×BH)=>B5 [B1 ((Bf J2 C.J)∧(rl.map Prod.snd=W.rs)∧(tl.map Prod.snd=W.ts)),blk b [vS,.int .i64 J2.parts,vM,vC,vR,.int .i64 J2.chunk,.int .i64 J2.window,.int .i64 J2.fuel,vK,.int .i64 C.w,.int .i64 C.t,.int .i64 C.o,.int .i64 W.ep,pv,.map (some kb),tv,.int .u32 (BI W.over)] 210,Y (Am Ag) vS J2.us,Y Af vM J2.map,Y Af vC J2.comb,Y Af vR J2.red,Y (Ai .i64) vK J2.marks,Y (Ai .i64) pv (rl.map AF),Bx BO kb (rl.map BR),B2 C rl,Y Cd tv (tl.map AI),Cg C.J tl]) vS H1
 exact H1
theorem aK (b:Nat) (vS:Value) (vM:Value) (vC:Value) (vR:Value) (vK:Value) (J2:AD) (C:Cf) (ep:Int) (pv:Value) (kb:Nat) (tv:Value) (ov:Bool):
    Cn Tryz.prog 144 [.pointer (some ⟨b,16,none⟩)] [] [blk b [vS,.int .i64 J2.parts,vM,vC,vR,.int .i64 J2.chunk,.int .i64 J2.window,.int .i64 J2.fuel,vK,.int .i64 C.w,.int .i64 C.t,.int .i64 C.o,.int .i64 ep,pv,.map (some kb),tv,.int .u32 (BI ov)] 210] (fun v Bs=>v=.bool ov∧Bs=[]):=by
 intro w0 F0 H
 refine enter Tryz.func144 U U (Nat.le_of_ble_eq_true U) (Ab (Ae (Ad U (Ac (Aa (Ab (Ae (Ad U (V U U (AH U U) (V U U (Aj U HO U) (V U U (Kt Lp U U (H.cellRI 0 U U)) (V U U (CX U U U) (Ad U (Ac (Aa (An (Aq U U ?_)))))))))))))))))
 replace H:Hd _ _ _ [] [blk b [vS,.int .i64 J2.parts,vM,vC,vR,.int .i64 J2.chunk,.int .i64 J2.window,.int .i64 J2.fuel,vK,.int .i64 C.w,.int .i64 C.t,.int .i64 C.o,.int .i64 ep,pv,.map (some kb),tv,.int .u32 (BI ov)] 210]:=H
 exact Al ⟨congrArg Value.bool (Xe ov),rfl⟩ H
theorem KY (b:Nat) (C:Cf) (W:CC):
    Cn Tryz.prog 76 [.pointer (some ⟨b,0,none⟩)] [Bp b C W] [] (fun v Bs=>v=.bool W.over∧Bs=[Bp b C W]):=by
 intro w0 F0 H
 obtain ⟨vS1,vM2,vC3,vR4,vK5,J6,pv7,kb8,tv9,rl10,tl11,⟨hsj12,hrl13,htl14⟩,H⟩:=Hb b C W H
 replace H:Hd _ _ _ [blk b [vS1,.int .i64 J6.parts,vM2,vC3,vR4,.int .i64 J6.chunk,.int .i64 J6.window,.int .i64 J6.fuel,vK5,.int .i64 C.w,.int .i64 C.t,.int .i64 C.o,.int .i64 W.ep,pv7,.map (some kb8),tv9,.int .u32 (BI W.over)] 210,Y (Am Ag) vS1 J6.us,Y Af vM2 J6.map,Y Af vC3 J6.comb,Y Af vR4 J6.red,Y (Ai .i64) vK5 J6.marks,Y (Ai .i64) pv7 (rl10.map AF),Bx BO kb8 (rl10.map BR),B2 C rl10,Y Cd tv9 (tl11.map AI),Cg C.J tl11] []:=H
 obtain ⟨A15,c16,rfl,hc17,hm18,hp19⟩:=H.fA 6 rfl
 obtain ⟨A20,c21,rfl,hc22,hm23,hp24⟩:=H.fA 9 rfl
 refine enter Tryz.func76 U U (Nat.le_of_ble_eq_true U) (Ab (Ae (Ad U (Ac (Aa (Ab (Ae (Ad U (V U U (Kx U G8 U U) (Ah 2 U (V U U (AH U U) (V U U (Aj U Ox U) (sc (aK b vS1 vM2 vC3 vR4 vK5 J6 C W.ep (.slice A15 ((rl10.map AF).length) c16) kb8 (.slice A20 ((tl11.map AI).length) c21) W.over) H (lA 0 U (fun _ h=>h) l0) U U (At J5 U U) ?_)))))))))))))
 rintro _ _ w ⟨rfl,rfl⟩ H
 refine Ah 2 U (Ac (Aa (An (Aq U U ?_))))
 replace H:=EE b C W vS1 vM2 vC3 vR4 vK5 J6 (.slice A15 ((rl10.map AF).length) c16) kb8 (.slice A20 ((tl11.map AI).length) c21) rl10 tl11 ⟨hsj12,hrl13,htl14⟩ H
 replace H:=H.h1 (A:=Bp b C W)
 exact Al ⟨rfl,rfl⟩ H
theorem aI (b:Nat) (C:Cf) (W:CC):
    Cn Tryz.prog 77 [.pointer (some ⟨b,0,none⟩)] [Bp b C W] [] (fun v Bs=>v=.int .i64 W.ep∧Bs=[Bp b C W]):=by
 intro w0 F0 H
 obtain ⟨vS1,vM2,vC3,vR4,vK5,J6,pv7,kb8,tv9,rl10,tl11,⟨hsj12,hrl13,htl14⟩,H⟩:=Hb b C W H
 replace H:Hd _ _ _ [blk b [vS1,.int .i64 J6.parts,vM2,vC3,vR4,.int .i64 J6.chunk,.int .i64 J6.window,.int .i64 J6.fuel,vK5,.int .i64 C.w,.int .i64 C.t,.int .i64 C.o,.int .i64 W.ep,pv7,.map (some kb8),tv9,.int .u32 (BI W.over)] 210,Y (Am Ag) vS1 J6.us,Y Af vM2 J6.map,Y Af vC3 J6.comb,Y Af vR4 J6.red,Y (Ai .i64) vK5 J6.marks,Y (Ai .i64) pv7 (rl10.map AF),Bx BO kb8 (rl10.map BR),B2 C rl10,Y Cd tv9 (tl11.map AI),Cg C.J tl11] []:=H
 obtain ⟨A15,c16,rfl,hc17,hm18,hp19⟩:=H.fA 6 rfl
 obtain ⟨A20,c21,rfl,hc22,hm23,hp24⟩:=H.fA 9 rfl
 refine enter Tryz.func77 U U (Nat.le_of_ble_eq_true U) (Ab (Ae (Ad U (Ac (Aa (Ab (Ab (Ae (Ad U (V U U (Dn U G8 U U) (Ac (Aa (B7 U (Av (Aa (Ab (Ae (Ad U (V U U (AH U U) (V U U (Aj U JU U) (V U U (Ak U AB U (H.cellI 0 U U)) (Ad U (Ac (Aa (An (Aq U U ?_))))))))))))))))))))))))))
 replace H:=EE b C W vS1 vM2 vC3 vR4 vK5 J6 (.slice A15 ((rl10.map AF).length) c16) kb8 (.slice A20 ((tl11.map AI).length) c21) rl10 tl11 ⟨hsj12,hrl13,htl14⟩ H
 replace H:=H.h1 (A:=Bp b C W)
 exact Al ⟨rfl,rfl⟩ H
theorem M6 (b:Nat) (C:Cf) (W:CC):
    Cn Tryz.prog 73 [.pointer (some ⟨b,0,none⟩)] [Bp b C W] [] (fun v Bs=>v=.int .i64 ((W.ts.length:Nat):Int)∧Bs=[Bp b C W]):=by
 intro w0 F0 H
 obtain ⟨vS1,vM2,vC3,vR4,vK5,J6,pv7,kb8,tv9,rl10,tl11,⟨hsj12,hrl13,htl14⟩,H⟩:=Hb b C W H
 replace H:Hd _ _ _ [blk b [vS1,.int .i64 J6.parts,vM2,vC3,vR4,.int .i64 J6.chunk,.int .i64 J6.window,.int .i64 J6.fuel,vK5,.int .i64 C.w,.int .i64 C.t,.int .i64 C.o,.int .i64 W.ep,pv7,.map (some kb8),tv9,.int .u32 (BI W.over)] 210,Y (Am Ag) vS1 J6.us,Y Af vM2 J6.map,Y Af vC3 J6.comb,Y Af vR4 J6.red,Y (Ai .i64) vK5 J6.marks,Y (Ai .i64) pv7 (rl10.map AF),Bx BO kb8 (rl10.map BR),B2 C rl10,Y Cd tv9 (tl11.map AI),Cg C.J tl11] []:=H
 obtain ⟨A15,c16,rfl,hc17,hm18,hp19⟩:=H.fA 6 rfl
 obtain ⟨A20,c21,rfl,hc22,hm23,hp24⟩:=H.fA 9 rfl
 refine enter Tryz.func73 U U (Nat.le_of_ble_eq_true U) (Ab (Ae (Ad U (Ac (Aa (Ab (Ab (Ae (Ad U (V U U (Dn U G8 U U) (Ac (Aa (B7 U (Av (Aa (Ab (Ae (Ad U (V U U (AH U U) (V U U (Aj U HP U) (V U U (Ak U Iu U (H.cellI 0 U U)) (V U U (A8 U M2 U) (Ad U (Ac (Aa (An (Aq U U ?_)))))))))))))))))))))))))))
 have e:W.ts.length=(tl11.map AI).length:=by rw [←htl14,List.length_map,List.length_map]
 replace H:=EE b C W vS1 vM2 vC3 vR4 vK5 J6 (.slice A15 ((rl10.map AF).length) c16) kb8 (.slice A20 ((tl11.map AI).length) c21) rl10 tl11 ⟨hsj12,hrl13,htl14⟩ H
 replace H:=H.h1 (A:=Bp b C W)
 exact Al ⟨by rw [e]<;>rfl,rfl⟩ H
theorem M5 (b:Nat) (C:Cf) (W:CC) (hWl:W.rs.length≤1000):
    Cn Tryz.prog 74 [.pointer (some ⟨b,0,none⟩)] [Bp b C W] [] (fun v Bs=>Bs=[Y (Ai .i64) v (W.rs.map Df),Bp b C W]):=by
 intro w0 F0 H
 obtain ⟨vS1,vM2,vC3,vR4,vK5,J6,pv7,kb8,tv9,rl10,tl11,⟨hsj12,hrl13,htl14⟩,H⟩:=Hb b C W H
 replace H:Hd _ _ _ [blk b [vS1,.int .i64 J6.parts,vM2,vC3,vR4,.int .i64 J6.chunk,.int .i64 J6.window,.int .i64 J6.fuel,vK5,.int .i64 C.w,.int .i64 C.t,.int .i64 C.o,.int .i64 W.ep,pv7,.map (some kb8),tv9,.int .u32 (BI W.over)] 210,Y (Am Ag) vS1 J6.us,Y Af vM2 J6.map,Y Af vC3 J6.comb,Y Af vR4 J6.red,Y (Ai .i64) vK5 J6.marks,Y (Ai .i64) pv7 (rl10.map AF),Bx BO kb8 (rl10.map BR),B2 C rl10,Y Cd tv9 (tl11.map AI),Cg C.J tl11] []:=H
 obtain ⟨A15,c16,rfl,hc17,hm18,hp19⟩:=H.fA 6 rfl
 obtain ⟨A20,c21,rfl,hc22,hm23,hp24⟩:=H.fA 9 rfl
 have hpl:(rl10.map AF).length≤1000:=by rw [List.length_map,←List.length_map (f:=Prod.snd),hrl13];exact hWl
 refine enter Tryz.func74 U U (Nat.le_of_ble_eq_true U) (Ab (Ae (Ad U (Ac (Aa (Ab (Ab (Ae (Ad U (V U U (Dn U G8 U U) (Ac (Aa (B7 U (Av (Aa (Ab (Ae (Ad U (V U U (AH U U) (V U U (Aj U JV U) (V U U (Ak U E5 U (H.cellI 0 U U)) (sc (HG (.slice A15 ((rl10.map AF).length) c16) (rl10.map AF) (by first |assumption|omega)) H (lA 6 U BJ l0) U U (At H0 U U) ?_))))))))))))))))))))))
 rintro v25 _ w rfl H
 replace H:=H.h1 (A:=Y (Ai .i64) v25 (rl10.map AF))
 refine Ad U (Ac (Aa (An (Aq U U ?_))))
 replace H:=H.tellK (ys:=W.rs.map Df) (Qm hrl13).symm|>.h1 (A:=Y (Ai .i64) v25 (W.rs.map Df))|>.pick 11 rfl|>.pick 11 rfl|>.pick 11 rfl|>.pick 11 rfl|>.pick 11 rfl|>.pick 11 rfl|>.pick 11 rfl|>.pick 11 rfl|>.pick 11 rfl|>.pick 11 rfl|>.pick 11 rfl
 replace H:=EE b C W vS1 vM2 vC3 vR4 vK5 J6 (.slice A15 ((rl10.map AF).length) c16) kb8 (.slice A20 ((tl11.map AI).length) c21) rl10 tl11 ⟨hsj12,hrl13,htl14⟩ H
 replace H:=H.h1 (A:=Bp b C W)|>.p1
 exact Al U H
theorem aJ (b:Nat) (C:Cf) (W:CC) (sp:Int) (att:Int):
    Cn Tryz.prog 141 [.pointer (some ⟨b,0,none⟩),.int .i64 sp,.int .i64 att] [Bp b C W] [] (fun v Bs=>∃ o:Option Addr,v=.pointer o∧Bs=[Bp b C W]∧(o.isNone=!D4 W.ts sp att)):=by
 intro w0 F0 H
 obtain ⟨vS1,vM2,vC3,vR4,vK5,J6,pv7,kb8,tv9,rl10,tl11,⟨hsj12,hrl13,htl14⟩,H⟩:=Hb b C W H
 replace H:Hd _ _ _ [blk b [vS1,.int .i64 J6.parts,vM2,vC3,vR4,.int .i64 J6.chunk,.int .i64 J6.window,.int .i64 J6.fuel,vK5,.int .i64 C.w,.int .i64 C.t,.int .i64 C.o,.int .i64 W.ep,pv7,.map (some kb8),tv9,.int .u32 (BI W.over)] 210,Y (Am Ag) vS1 J6.us,Y Af vM2 J6.map,Y Af vC3 J6.comb,Y Af vR4 J6.red,Y (Ai .i64) vK5 J6.marks,Y (Ai .i64) pv7 (rl10.map AF),Bx BO kb8 (rl10.map BR),B2 C rl10,Y Cd tv9 (tl11.map AI),Cg C.J tl11] []:=H
 obtain ⟨A15,c16,rfl,hc17,hm18,hp19⟩:=H.fA 6 rfl
 obtain ⟨A20,c21,rfl,hc22,hm23,hp24⟩:=H.fA 9 rfl
 refine enter Tryz.func141 U U (Nat.le_of_ble_eq_true U) (Ab (Ae (Ad U (Ac (Aa (Ab (Ab (Ae (Ad U (V U U (AH U U) (V U U (Aj U HP U) (V U U (Ak U Iu U (H.cellI 0 U U)) (V U U (A8 U M2 U) (Ad U (Ac (Aa (AS (BQ (σ:=Nat) (fun k=>[(1,.int .i64 sp),(2,.int .i64 att),(12,.slice A20 ((tl11.map AI).length) c21),(13,.int .i64 (((tl11.map AI).length:Nat):Int)),(14,.int .i64 ((k:Nat):Int))]) (fun k w=>(Hd w0 F0 w [blk b [vS1,.int .i64 J6.parts,vM2,vC3,vR4,.int .i64 J6.chunk,.int .i64 J6.window,.int .i64 J6.fuel,vK5,.int .i64 C.w,.int .i64 C.t,.int .i64 C.o,.int .i64 W.ep,.slice A15 ((rl10.map AF).length) c16,.map (some kb8),.slice A20 ((tl11.map AI).length) c21,.int .u32 (BI W.over)] 210,Y (Am Ag) vS1 J6.us,Y Af vM2 J6.map,Y Af vC3 J6.comb,Y Af vR4 J6.red,Y (Ai .i64) vK5 J6.marks,Y (Ai .i64) (.slice A15 ((rl10.map AF).length) c16) (rl10.map AF),Bx BO kb8 (rl10.map BR),B2 C rl10,Y Cd (.slice A20 ((tl11.map AI).length) c21) (tl11.map AI),Cg C.J tl11] [])∧(k≤(tl11.map AI).length)∧(∀ M∈W.ts.take k,Fj sp att M=false)) (fun k=>(tl11.map AI).length - k) 0 ⟨rfl,rfl,rfl,rfl,rfl,trivial⟩ ⟨H,Nat.zero_le _,by simp⟩ ?_))))))))))))))))))
 rintro k w ⟨H,hk,hn⟩
 refine Ab (Ae (V U U (Bd U U U) (Ac (Aa (Ab ?_)))))
 refine Ax U (fun h25=>?_) (fun h25=>?_)
 ·refine Av (Aa (Ab (AS (Ab (Ae ?_)))))
  obtain ⟨x26,hx27⟩:∃ z9,(tl11.map AI)[k]?=some z9:=⟨_,List.getElem?_eq_getElem (show k<(tl11.map AI).length by omega)⟩
  have th28:=H.thA 9 rfl hx27
  refine V U U (AZ (p:=AP A20+k*3) U KM U U (by omega) (by omega) th28 U) (V U U (Bq (cs:=[.int .i64 x26.sp,.int .i64 x26.att,.pointer (some ⟨x26.b,0,none⟩)]) U Jq U U (H.elsA 9 U hx27 U)) (Dg U U U K6 H (fun b29 w H=>(BE U U U Jq U U H U (Nat.le_of_ble_eq_true U) (fun u hu=>by simp [Value.cells] at hu;rcases hu with rfl|rfl|rfl<;>rfl) (fun w H=>?_)))))
  replace H:=H.h1 (A:=blk b29 [.int .i64 x26.sp,.int .i64 x26.att,.pointer (some ⟨x26.b,0,none⟩)] 215)
  refine Ac (Aa (Ab (Ae (V U U (Aj U LB U) (V U U (Ak U AB U (H.cellI 0 U U)) (Ad U (V U U (Bb U U U) (Ad U ?_))))))))
  refine AK (d:=22) U (fun h30=>?_) (fun h30=>?_)
  ·refine V U U (Aj U LC U) (V U U (Ak U AB U (H.cellI 0 U U)) (Ad U (V U U (Bb U U U) (Ad U (Ac (Aa ?_))))))
   refine Ax U (fun h31=>?_) (fun h31=>?_)
   ·refine Ab (Ae (V U U (Aj U IL U) (V U U (Ak U FJ U (H.cellI 0 U U)) (Ad U (Ac (Aa (An (A0 (Az (Az (A0 (Az (Aq U U ?_)))))))))))))
    obtain ⟨e9,he9,hw9,hx9⟩:=KQ htl14 hx27
    have e:D4 W.ts sp att=true:=SV hw9 (ZA (by rw [←hx9];exact h30) (by rw [←hx9];exact h31))
    replace H:=H.pick 11 rfl|>.pick 11 rfl|>.pick 11 rfl|>.pick 11 rfl|>.pick 11 rfl|>.pick 11 rfl|>.pick 11 rfl|>.pick 11 rfl|>.pick 11 rfl|>.pick 11 rfl|>.pick 11 rfl
    replace H:=EE b C W vS1 vM2 vC3 vR4 vK5 J6 (.slice A15 ((rl10.map AF).length) c16) kb8 (.slice A20 ((tl11.map AI).length) c21) rl10 tl11 ⟨hsj12,hrl13,htl14⟩ H
    replace H:=H.h1 (A:=Bp b C W)|>.k1
    exact Al ⟨(some ⟨x26.b,0,none⟩),rfl,rfl,(by rw [e];rfl)⟩ H
   refine Av (AU (Aa (Ae (V U U (AT (z:=((k+1:Nat):Int)) U U U (by rw [AC (by omega) (by omega)];omega)) (Ad U (Ac ?_))))))
   replace H:=H.pick 11 rfl|>.pick 11 rfl|>.pick 11 rfl|>.pick 11 rfl|>.pick 11 rfl|>.pick 11 rfl|>.pick 11 rfl|>.pick 11 rfl|>.pick 11 rfl|>.pick 11 rfl|>.pick 11 rfl|>.keep 11
   obtain ⟨e9,he9,hw9,rfl⟩:=KQ htl14 hx27
   exact Bi (s:=k) (k+1) ⟨rfl,rfl,rfl,rfl,rfl,trivial⟩ ⟨H,by (try dsimp only);omega,Hv (Q:=fun M=>Fj sp att M=false) hn hw9 (Ro (fun g=>h31 g.2))⟩ (by (try dsimp only);omega)
  refine Ah 5 U (Ac (Aa (B7 U (Av (AU (Aa (Ae (V U U (AT (z:=((k+1:Nat):Int)) U U U (by rw [AC (by omega) (by omega)];omega)) (Ad U (Ac ?_))))))))))
  replace H:=H.pick 11 rfl|>.pick 11 rfl|>.pick 11 rfl|>.pick 11 rfl|>.pick 11 rfl|>.pick 11 rfl|>.pick 11 rfl|>.pick 11 rfl|>.pick 11 rfl|>.pick 11 rfl|>.pick 11 rfl|>.keep 11
  obtain ⟨e9,he9,hw9,rfl⟩:=KQ htl14 hx27
  exact Bi (s:=k) (k+1) ⟨rfl,rfl,rfl,rfl,rfl,trivial⟩ ⟨H,by (try dsimp only);omega,Hv (Q:=fun M=>Fj sp att M=false) hn hw9 (Ro (fun g=>h30 g.1))⟩ (by (try dsimp only);omega)
 refine BC (AM (AM (BD (Aa (Ab (Ae (Ad U (Ac (Aa (An (Aq U U ?_)))))))))))
 have e:D4 W.ts sp att=false:=TE htl14 (by omega) hn
 replace H:=EE b C W vS1 vM2 vC3 vR4 vK5 J6 (.slice A15 ((rl10.map AF).length) c16) kb8 (.slice A20 ((tl11.map AI).length) c21) rl10 tl11 ⟨hsj12,hrl13,htl14⟩ H
 replace H:=H.h1 (A:=Bp b C W)
 exact Al ⟨none,rfl,rfl,(by rw [e];rfl)⟩ H
theorem Wa (vS:Value) (vM:Value) (vC:Value) (vR:Value) (vK:Value) (C:Cf) (s:Int) (att:Int) (hC:C5 C) (hO:Cb C.J) (hgo:Hs C s att):Cn Tryz.prog 27 [.agg #[vS,.int .i64 C.J.parts,vM,vC,vR,.int .i64 C.J.chunk,.int .i64 C.J.window,.int .i64 C.J.fuel,vK,.int .i64 C.w,.int .i64 C.t,.int .i64 C.o],.int .i64 s,.int .i64 att] [] [Z (Am Ag) vS C.J.us,Z Af vM C.J.map,Z Af vC C.J.comb,Z Af vR C.J.red,Z (Ai .i64) vK C.J.marks,gl] (fun v Bs=>∃ b:Nat,v=.tuple #[.pointer (some ⟨b,0,none⟩),.int .i64 0]∧Bs=[BW b C.J (CW dg C.J s.toNat att)]):=by
 obtain ⟨m,rfl⟩:∃ z:Nat,s=(z:Int):=⟨s.toNat,by have:=hgo.1;omega⟩
 rw [Int.toNat_natCast]
 exact PS vS vM vC vR vK C m att hC hO ⟨by have:=hgo.2.1;omega,hgo.2.2.1,hgo.2.2.2⟩
theorem aP (b:Nat) (C:Cf) (W:CC) (sp:Int) (att:Int) (hC:C5 C) (hJ:Cb C.J) (hl:W.ts.length≤1000):
    Cn Tryz.prog 140 [.pointer (some ⟨b,0,none⟩),.int .i64 sp,.int .i64 att] [Bp b C W] [gl] (fun v Bs=>v=.tuple #[]∧Bs=[Bp b C (Eh dg C W sp att)]):=by
 intro w0 F0 H
 refine enter Tryz.func140 U U (Nat.le_of_ble_eq_true U) (Ab (Ab (Ae (Ad U (sc (KY b C W) H l0 U U (At Kb U U) ?_)))))
 rintro _ _ w ⟨rfl,rfl⟩ H
 refine Ad U ?_
 refine E3 (d:=10) (b:=W.over) U (fun h1=>?_) (fun h1=>?_)
 ·refine Ah 6 U (Ac (Aa ?_))
  replace H:Hd _ _ _ [Bp b C W] [gl]:=H
  refine Cw U (An (Az (I6 U ?_)))
  have e:Eh dg C W sp att=W:=if_pos (by first |(rw [show W.over=true by simpa using h1];rfl)|(rw [show D4 W.ts sp att=true by have h9:=h1;rw [hfo] at h9;simpa using h9];cases W.over<;>rfl))
  exact Al ⟨rfl,by rw [e]<;>rfl⟩ H
 refine Ah 3 U ?_
 replace H:Hd _ _ _ [Bp b C W] [gl]:=H
 refine sc (aJ b C W sp att) H l0 U U (At UV U U) ?_
 rintro _ _ w ⟨o2,rfl,rfl,hf3⟩ H
 have hfo:=hf3
 refine V U U (Kx U G9 U U) (Ad U (Ac (Aa ?_)))
 refine DN (b:=!(o2:Option Addr).isNone) U (fun h4=>?_) (fun h4=>?_)
 ·refine An (Az (I6 U ?_))
  have e:Eh dg C W sp att=W:=if_pos (by first |(rw [show W.over=true by simpa using h4];rfl)|(rw [show D4 W.ts sp att=true by have h9:=h4;rw [hfo] at h9;simpa using h9];cases W.over<;>rfl))
  exact Al ⟨rfl,by rw [e]<;>rfl⟩ H
 refine Av (Aa (Ab ?_))
 obtain ⟨vS5,vM6,vC7,vR8,vK9,J10,pv11,kb12,tv13,rl14,tl15,⟨hsj16,hrl17,htl18⟩,H⟩:=Hb b C W H
 replace H:Hd _ _ _ [blk b [vS5,.int .i64 J10.parts,vM6,vC7,vR8,.int .i64 J10.chunk,.int .i64 J10.window,.int .i64 J10.fuel,vK9,.int .i64 C.w,.int .i64 C.t,.int .i64 C.o,.int .i64 W.ep,pv11,.map (some kb12),tv13,.int .u32 (BI W.over)] 210,Y (Am Ag) vS5 J10.us,Y Af vM6 J10.map,Y Af vC7 J10.comb,Y Af vR8 J10.red,Y (Ai .i64) vK9 J10.marks,Y (Ai .i64) pv11 (rl14.map AF),Bx BO kb12 (rl14.map BR),B2 C rl14,Y Cd tv13 (tl15.map AI),Cg C.J tl15] [gl]:=H
 obtain ⟨A19,c20,rfl,hc21,hm22,hp23⟩:=H.fA 6 rfl
 obtain ⟨A24,c25,rfl,hc26,hm27,hp28⟩:=H.fA 9 rfl
 have htl1:(tl15.map AI).length≤1000:=by rw [List.length_map,←List.length_map (f:=Prod.snd),htl18];exact hl
 by_cases hrm:Hs C sp att
 ·refine Ae (Ad U (V U U (AH U U) (V U U (Aj U IK U) (V U U (Bq (cs:=[vS5,.int .i64 J10.parts,vM6,vC7,vR8,.int .i64 J10.chunk,.int .i64 J10.window,.int .i64 J10.fuel,vK9,.int .i64 C.w,.int .i64 C.t,.int .i64 C.o]) U DE U U (H.cellsI 0 U U)) (Ah 2 U ?_)))))
  have hC2:C5 (Cu J10 C):=(Jd hsj16).symm.may hC
  have hO2:Cb J10:=hsj16.symm.ok hJ
  have hle:=hsj16.len
  have hg2:Hs (Cu J10 C) sp att:=⟨hrm.1,by show sp<((J10.us.length:Nat):Int);have:=hrm.2.1;omega,hrm.2.2⟩
  refine sc (Wa vS5 vM6 vC7 vR8 vK9 (Cu J10 C) sp att (by first |assumption|exact hO2|omega) (by first |assumption|exact hO2|omega) (by first |assumption|exact hO2|omega)) H (lA 1 U BJ (lA 2 U BJ (lA 3 U BJ (lA 4 U BJ (lA 5 U BJ (lR 0 U l0)))))) U U (At L2 U U) ?_
  rintro _ _ w ⟨b29,rfl,rfl⟩ H
  replace H:=H.h1 (A:=BW b29 J10 (CW dg J10 sp.toNat att))
  rw [P3 hsj16] at H
  replace H:=Wt hsj16 H
  replace H:Hd _ _ _ [BW b29 C.J (CW dg C.J sp.toNat att),blk b [vS5,.int .i64 J10.parts,vM6,vC7,vR8,.int .i64 J10.chunk,.int .i64 J10.window,.int .i64 J10.fuel,vK9,.int .i64 C.w,.int .i64 C.t,.int .i64 C.o,.int .i64 W.ep,.slice A19 ((rl14.map AF).length) c20,.map (some kb12),.slice A24 ((tl15.map AI).length) c25,.int .u32 (BI W.over)] 210,Y (Am Ag) vS5 J10.us,Y Af vM6 J10.map,Y Af vC7 J10.comb,Y Af vR8 J10.red,Y (Ai .i64) vK9 J10.marks,Y (Ai .i64) (.slice A19 ((rl14.map AF).length) c20) (rl14.map AF),Bx BO kb12 (rl14.map BR),B2 C rl14,Y Cd (.slice A24 ((tl15.map AI).length) c25) (tl15.map AI),Cg C.J tl15] [gl]:=H
  refine Ah 5 U (Ac (Aa (Ab (Ae (Ad U (V U U (Bb U U U) (Ac (Aa (Cw U (Ae (Ah 2 U (V U U (AH U U) (V U U (Aj U HP U) (V U U (Ak U Iu U (H.cellI 1 U U)) (Ah 3 U (V U U (Co (parts:=[(0,.tmp 34),(1,.tmp 35),(2,.tmp 36)]) (vs:=[.int .i64 sp,.int .i64 att,.pointer (some ⟨b29,0,none⟩)]) (cs:=[.int .i64 sp,.int .i64 att,.pointer (some ⟨b29,0,none⟩)]) U Sc U U) (BX (parts:=[(0,.tmp 37)]) (vs:=[.agg #[.int .i64 sp,.int .i64 att,.pointer (some ⟨b29,0,none⟩)]]) (cs:=[.int .i64 sp,.int .i64 att,.pointer (some ⟨b29,0,none⟩)]) U U U KM K6 U (by decide) (by decide) U U H (fun b30 w H=>?_))))))))))))))))))
  replace H:=H.pick 11 rfl
  refine Ct (xs:=tl15.map AI) (ys:=[(⟨sp,att,b29⟩:Fa)]) U U U KM K6 U (by decide) U U H (by first |omega|(simp only [List.length_append,List.length_cons,List.length_nil];omega)) (fun F hA hR=>Cm (hA _ (List.mem_of_getElem? (i:=0) U)) U (by decide) (AW.flat_eq.2 U)) (fun v31 w H=>(V U U (AH U U) (V U U (Aj U HP U) ?_)))
  obtain ⟨A32,c33,rfl,hc34,hm35,hp36⟩:=H.fA 0 rfl
  replace H:=H.p3
  refine BE U U U Iu U U H U (Nat.le_of_ble_eq_true U) (fun u hu=>by simp [Value.cells] at hu;subst hu;rfl) (fun w H=>?_)
  replace H:Hd _ _ _ [blk b [vS5,.int .i64 J10.parts,vM6,vC7,vR8,.int .i64 J10.chunk,.int .i64 J10.window,.int .i64 J10.fuel,vK9,.int .i64 C.w,.int .i64 C.t,.int .i64 C.o,.int .i64 W.ep,.slice A19 ((rl14.map AF).length) c20,.map (some kb12),.slice A32 (((tl15.map AI)++[(⟨sp,att,b29⟩:Fa)]).length) c33,.int .u32 (BI W.over)] 210,Y Cd (.slice A32 (((tl15.map AI)++[(⟨sp,att,b29⟩:Fa)]).length) c33) ((tl15.map AI)++[(⟨sp,att,b29⟩:Fa)]),blk b30 [.int .i64 sp,.int .i64 att,.pointer (some ⟨b29,0,none⟩)] 215,BW b29 C.J (CW dg C.J sp.toNat att),Y (Am Ag) vS5 J10.us,Y Af vM6 J10.map,Y Af vC7 J10.comb,Y Af vR8 J10.red,Y (Ai .i64) vK9 J10.marks,Y (Ai .i64) (.slice A19 ((rl14.map AF).length) c20) (rl14.map AF),Bx BO kb12 (rl14.map BR),B2 C rl14,Cg C.J tl15] [gl]:=H
  refine Ac (DC U ?_)
  have hno:¬ (W.over||D4 W.ts sp att)=true:=by rw [show W.over=false by simpa using h1,show D4 W.ts sp att=false by have h9:=h4;rw [hfo] at h9;simpa using h9];decide
  replace H:Hd w0 F0 w [blk b [vS5,.int .i64 J10.parts,vM6,vC7,vR8,.int .i64 J10.chunk,.int .i64 J10.window,.int .i64 J10.fuel,vK9,.int .i64 C.w,.int .i64 C.t,.int .i64 C.o,.int .i64 W.ep,.slice A19 ((rl14.map AF).length) c20,.map (some kb12),.slice A32 (((tl15.map AI)++[(⟨sp,att,b29⟩:Fa)]).length) c33,.int .u32 (BI W.over)] 210,Y Cd (.slice A32 (((tl15.map AI)++[(⟨sp,att,b29⟩:Fa)]).length) c33) ((tl15++[(b29,CW dg C.J sp.toNat att)]).map AI),blk b30 [.int .i64 sp,.int .i64 att,.pointer (some ⟨b29,0,none⟩)] 215,BW b29 C.J (CW dg C.J sp.toNat att),Y (Am Ag) vS5 J10.us,Y Af vM6 J10.map,Y Af vC7 J10.comb,Y Af vR8 J10.red,Y (Ai .i64) vK9 J10.marks,Y (Ai .i64) (.slice A19 ((rl14.map AF).length) c20) (rl14.map AF),Bx BO kb12 (rl14.map BR),B2 C rl14,Cg C.J tl15] [gl]:=by rw [List.map_append,show [(b29,CW dg C.J sp.toNat att)].map AI=[(⟨sp,att,b29⟩:Fa)] from by show [(⟨((sp.toNat:Nat):Int),att,b29⟩:Fa)]=_;rw [Int.toNat_of_nonneg hrm.1]];exact H
  replace H:=H.pick 12 rfl|>.p4
  replace H:=Hd.bigN (f:=fun e:Nat×BH=>BW e.1 C.J e.2) (x:=(b29,CW dg C.J sp.toNat att)) H
  replace H:=H.h1 (A:=Cg C.J (tl15++[(b29,CW dg C.J sp.toNat att)]))
  have e:Eh dg C W sp att=({ W with ts:=W.ts++[CW dg C.J sp.toNat att] }:CC):=by unfold Eh;rw [if_neg hno,if_pos hrm]
  replace H:=H.p2.pick 11 rfl|>.pick 11 rfl|>.pick 11 rfl|>.pick 11 rfl|>.pick 11 rfl|>.pick 11 rfl|>.pick 11 rfl|>.pick 11 rfl|>.pick 10 rfl|>.keep 11
  replace H:=EE b C ({ W with ts:=W.ts++[CW dg C.J sp.toNat att] }:CC) vS5 vM6 vC7 vR8 vK9 J10 (.slice A19 ((rl14.map AF).length) c20) kb12 (.slice A32 (((tl15.map AI)++[(⟨sp,att,b29⟩:Fa)]).length) c33) rl14 (tl15++[(b29,CW dg C.J sp.toNat att)]) ⟨hsj16,hrl17,(by rw [List.map_append,htl18];rfl)⟩ H
  replace H:=H.h1 (A:=Bp b C ({ W with ts:=W.ts++[CW dg C.J sp.toNat att] }:CC))
  exact Al ⟨rfl,by rw [e]<;>rfl⟩ H
 refine Ae (Ad U (V U U (AH U U) (V U U (Aj U IK U) (V U U (Bq (cs:=[vS5,.int .i64 J10.parts,vM6,vC7,vR8,.int .i64 J10.chunk,.int .i64 J10.window,.int .i64 J10.fuel,vK9,.int .i64 C.w,.int .i64 C.t,.int .i64 C.o]) U DE U U (H.cellsI 0 U U)) (Ah 2 U ?_)))))
 have hC2:C5 (Cu J10 C):=(Jd hsj16).symm.may hC
 have hO2:Cb J10:=hsj16.symm.ok hJ
 have hle:=hsj16.len
 have hg2:¬ (C5 (Cu J10 C)∧0≤sp∧sp<(((Cu J10 C).J.us.length:Nat):Int)∧1≤att∧att≤(Cu J10 C).t):=fun g=>hrm ⟨g.2.1,by have h9:sp<((J10.us.length:Nat):Int):=g.2.2.1;omega,g.2.2.2⟩
 refine sc (Wb vS5 vM6 vC7 vR8 vK9 (Cu J10 C) sp att (by first |assumption|exact hO2|omega)) H (lA 1 U BJ (lA 2 U BJ (lA 3 U BJ (lA 4 U BJ (lA 5 U BJ l0))))) U U (At L2 U U) ?_
 rintro _ _ w ⟨rfl,rfl⟩ H
 refine Ah 5 U (Ac (Aa (Ab (Ae (Ad U (V U U (Bb U U U) (Ac (Aa (B7 U (Av (DC U ?_)))))))))))
 have hno:¬ (W.over||D4 W.ts sp att)=true:=by rw [show W.over=false by simpa using h1,show D4 W.ts sp att=false by have h9:=h4;rw [hfo] at h9;simpa using h9];decide
 have e:Eh dg C W sp att=W:=by unfold Eh;rw [if_neg hno,if_neg hrm]
 replace H:=EE b C W vS5 vM6 vC7 vR8 vK9 J10 (.slice A19 ((rl14.map AF).length) c20) kb12 (.slice A24 ((tl15.map AI).length) c25) rl14 tl15 ⟨hsj16,hrl17,htl18⟩ H
 replace H:=H.h1 (A:=Bp b C W)
 exact Al ⟨rfl,by rw [e]<;>rfl⟩ H
theorem aQ (b:Nat) (vS:Value) (vM:Value) (vC:Value) (vR:Value) (vK:Value) (J2:AD) (C:Cf) (ep:Int) (pv:Value) (kb:Nat) (tv:Value) (ov:Bool):
    Cn Tryz.prog 142 [.pointer (some ⟨b,16,none⟩),.bool true] [blk b [vS,.int .i64 J2.parts,vM,vC,vR,.int .i64 J2.chunk,.int .i64 J2.window,.int .i64 J2.fuel,vK,.int .i64 C.w,.int .i64 C.t,.int .i64 C.o,.int .i64 ep,pv,.map (some kb),tv,.int .u32 (BI ov)] 210] [] (fun v Bs=>v=.tuple #[]∧Bs=[blk b [vS,.int .i64 J2.parts,vM,vC,vR,.int .i64 J2.chunk,.int .i64 J2.window,.int .i64 J2.fuel,vK,.int .i64 C.w,.int .i64 C.t,.int .i64 C.o,.int .i64 ep,pv,.map (some kb),tv,.int .u32 (BI true)] 210]):=by
 intro w0 F0 H
 refine enter Tryz.func142 U U (Nat.le_of_ble_eq_true U) (BY (.e 0 (.e 1 (.e 2 (.e 3 (.m 4 (.m 5 .z)))))) (fun w=>∃ Ar,Hd w0 F0 w (Ar) []) mo (by kernel_rfl) (fun w H=>⟨_,H⟩) H (fun w H=>(Au U (Ao U U U (fun w ⟨Ar,H⟩=>AH U U) (Ao U U U (fun w ⟨Ar,H⟩=>Aj U HO U) (Au U (AO U (sc (Lb true) H l0 U U (At L0 U U) ?_))))))))
 rintro _ _ w ⟨rfl,rfl⟩ H
 refine AE ⟨_,H⟩ (AO U (MM Lo U U U U H U (fun w H=>?_)))
 replace H:Hd _ _ _ [blk b [vS,.int .i64 J2.parts,vM,vC,vR,.int .i64 J2.chunk,.int .i64 J2.window,.int .i64 J2.fuel,vK,.int .i64 C.w,.int .i64 C.t,.int .i64 C.o,.int .i64 ep,pv,.map (some kb),tv,.int .u32 (BI true)] 210] []:=H
 exact AE ⟨_,H⟩ (BP (DC U (Al ⟨rfl,rfl⟩ H)))
theorem Iy (b:Nat) (C:Cf) (W:CC) (fr:Int) (kd:Int) (sp:Int) (att:Int) (hC:C5 C) (hJ:Cb C.J) (hfr:0≤fr∧fr≤C.w) (hk:kd=1∨kd=9) (hl:W.ts.length≤1000):
    Cn Tryz.prog 70 [.pointer (some ⟨b,0,none⟩),.int .i64 fr,.agg #[.int .i64 kd,.int .i64 sp,.int .i64 att,.int .i64 0,.int .i64 0,.int .i64 0,.int .i64 0,.int .i64 0,.slice none 0 0,.slice none 0 0]] [Bp b C W] [gl] (fun v Bs=>v=.tuple #[.slice none 0 0,.slice none 0 0]∧Bs=[Bp b C (DR dg C W fr kd sp att)]):=by
 intro w0 F0 H
 obtain ⟨vS1,vM2,vC3,vR4,vK5,J6,pv7,kb8,tv9,rl10,tl11,⟨hsj12,hrl13,htl14⟩,H⟩:=Hb b C W H
 replace H:Hd _ _ _ [blk b [vS1,.int .i64 J6.parts,vM2,vC3,vR4,.int .i64 J6.chunk,.int .i64 J6.window,.int .i64 J6.fuel,vK5,.int .i64 C.w,.int .i64 C.t,.int .i64 C.o,.int .i64 W.ep,pv7,.map (some kb8),tv9,.int .u32 (BI W.over)] 210,Y (Am Ag) vS1 J6.us,Y Af vM2 J6.map,Y Af vC3 J6.comb,Y Af vR4 J6.red,Y (Ai .i64) vK5 J6.marks,Y (Ai .i64) pv7 (rl10.map AF),Bx BO kb8 (rl10.map BR),B2 C rl10,Y Cd tv9 (tl11.map AI),Cg C.J tl11] [gl]:=H
 obtain ⟨A15,c16,rfl,hc17,hm18,hp19⟩:=H.fA 6 rfl
 obtain ⟨A20,c21,rfl,hc22,hm23,hp24⟩:=H.fA 9 rfl
 refine enter Tryz.func70 U U (Nat.le_of_ble_eq_true U) (Ab (Ae (CA U U U U H (fun b25 w H=>?_))))
 replace H:=H.h1 (A:=blk b25 [.int .i64 kd,.int .i64 sp,.int .i64 att,.int .i64 0,.int .i64 0,.int .i64 0,.int .i64 0,.int .i64 0,.slice none 0 0,.slice none 0 0] 64)
 refine Ah 2 U (Ac (Aa (Ab (Ab (Ae (Ad U (V U U (Dn U G8 U U) (Ah 2 U (V U U (Bd U U U) (Ah 2 U ?_))))))))))
 refine AK (d:=17) U (fun h26=>?_) (fun h26=>?_)
 ·exfalso;omega
 refine Ah 2 U (V U U (AH U U) (V U U (Aj U IK U) (V U U (Aj U IO U) (V U U (Ak U AB U (H.cellI 1 U U)) (V U U (Cp U U U) (Ad U (Ac (Aa ?_))))))))
 refine Ax U (fun h27=>?_) (fun h27=>?_)
 ·exfalso;omega
 refine Av (Aa (Ab (Gp mo (by kernel_rfl) H (Ei U (By U U (fun w H=>AH U U) (By U U (fun w H=>Aj U LA U) (By U U (fun w H=>Ak U MZ U (H.cellI 1 U U)) (By U U (fun w H=>Aj U HW U) (By U U (fun w H=>Ak U AB U (H.cellI 0 U U)) (By U U (fun w H=>QH Nf U M0 RU U 0 U H 8 U (Kf _ _)) (Ei U (GF (fun w H=>(Aa (Ab (AS (Ab (Ae (V U U (Aj U Fh U) (V U U (Ak U AB U (H.cellI 0 U U)) (V U U (Bb U U U) (Ad U ?_))))))))))))))))))))))
 refine AK (d:=37) U (fun h28=>?_) (fun h28=>?_)
 ·refine Ad U (V U U (Bb U U U) (Ah 2 U (Ac (Aa ?_))))
  refine Ax U (fun h29=>?_) (fun h29=>?_)
  ·refine Ae (Ad U (V U U (Aj U LI U) (V U U (Ak U AB U (H.cellI 0 U U)) (V U U (Aj U LJ U) (V U U (Ak U AB U (H.cellI 0 U U)) ?_)))))
   replace H:=H.sel 12 [1,2,3,4,5,6,7,8,9,10,11,0] [] rfl (by kernel_rfl)
   replace H:Hd _ _ _ [blk b [vS1,.int .i64 J6.parts,vM2,vC3,vR4,.int .i64 J6.chunk,.int .i64 J6.window,.int .i64 J6.fuel,vK5,.int .i64 C.w,.int .i64 C.t,.int .i64 C.o,.int .i64 W.ep,.slice A15 ((rl10.map AF).length) c16,.map (some kb8),.slice A20 ((tl11.map AI).length) c21,.int .u32 (BI W.over)] 210,Y (Am Ag) vS1 J6.us,Y Af vM2 J6.map,Y Af vC3 J6.comb,Y Af vR4 J6.red,Y (Ai .i64) vK5 J6.marks,Y (Ai .i64) (.slice A15 ((rl10.map AF).length) c16) (rl10.map AF),Bx BO kb8 (rl10.map BR),B2 C rl10,Y Cd (.slice A20 ((tl11.map AI).length) c21) (tl11.map AI),Cg C.J tl11,blk b25 [.int .i64 kd,.int .i64 sp,.int .i64 att,.int .i64 0,.int .i64 0,.int .i64 0,.int .i64 0,.int .i64 0,.slice none 0 0,.slice none 0 0] 64] [gl]:=H
   replace H:=EE b C W vS1 vM2 vC3 vR4 vK5 J6 (.slice A15 ((rl10.map AF).length) c16) kb8 (.slice A20 ((tl11.map AI).length) c21) rl10 tl11 ⟨hsj12,hrl13,htl14⟩ H
   replace H:=H.h1 (A:=Bp b C W)
   refine sc (aP b C W sp att (by first |assumption|exact hO2|omega) (by first |assumption|exact hO2|omega) (by first |assumption|exact hO2|omega)) H (lR 0 U l0) U U (At UU U U) ?_
   rintro _ _ w ⟨rfl,rfl⟩ H
   replace H:=H.h1 (A:=Bp b C (Eh dg C W sp att))
   refine Ac (AU (Aa (Ab (Ae (Ah 2 U (Ac (Aa (An (Cl U U U ?_)))))))))
   have e:DR dg C W fr kd sp att=Eh dg C W sp att:=by unfold DR;rw [if_neg (fun g=>g (by omega)),if_pos (by omega)]
   replace H:=H.k1
   exact Al ⟨rfl,by rw [e]<;>rfl⟩ H
  refine Ab (Ae (V U U (Aj U Fh U) (V U U (Ak U AB U (H.cellI 0 U U)) (V U U (Bb U U U) (Ad U ?_)))))
  refine AK (d:=51) U (fun h30=>?_) (fun h30=>?_)
  ·exfalso;omega
  refine Ah 4 U (Ac (Aa (B7 U (Ab (Ae (V U U (Aj U Fh U) (V U U (Ak U AB U (H.cellI 0 U U)) (V U U (Bb U U U) (Ad U (Ac (Aa ?_)))))))))))
  refine Ax U (fun h31=>?_) (fun h31=>?_)
  ·exfalso;omega
  refine Ab (Ae (V U U (Aj U Fh U) (V U U (Ak U AB U (H.cellI 0 U U)) (V U U (Bb U U U) (Ad U ?_)))))
  refine AK (d:=91) U (fun h32=>?_) (fun h32=>?_)
  ·exfalso;omega
  refine Ah 8 U (Ac (Aa (B7 U (Ab (Ae (V U U (Aj U Fh U) (V U U (Ak U AB U (H.cellI 0 U U)) (V U U (Bb U U U) (Ad U ?_)))))))))
  refine AK (d:=111) U (fun h33=>?_) (fun h33=>?_)
  ·refine Ad U (V U U (Bb U U U) (Ah 2 U (Ac (Aa ?_))))
   refine Ax U (fun h34=>?_) (fun h34=>?_)
   ·exact absurd h34 h29
   refine Av (AU (Aa (Ab (Ae (Ah 2 U (Ac (Aa (An (Cl U U U ?_)))))))))
   have e:DR dg C W fr kd sp att=W:=if_pos (by omega)
   replace H:=H.sel 12 [1,2,3,4,5,6,7,8,9,10,11] [0] rfl (by kernel_rfl)
   replace H:Hd _ _ _ [blk b [vS1,.int .i64 J6.parts,vM2,vC3,vR4,.int .i64 J6.chunk,.int .i64 J6.window,.int .i64 J6.fuel,vK5,.int .i64 C.w,.int .i64 C.t,.int .i64 C.o,.int .i64 W.ep,.slice A15 ((rl10.map AF).length) c16,.map (some kb8),.slice A20 ((tl11.map AI).length) c21,.int .u32 (BI W.over)] 210,Y (Am Ag) vS1 J6.us,Y Af vM2 J6.map,Y Af vC3 J6.comb,Y Af vR4 J6.red,Y (Ai .i64) vK5 J6.marks,Y (Ai .i64) (.slice A15 ((rl10.map AF).length) c16) (rl10.map AF),Bx BO kb8 (rl10.map BR),B2 C rl10,Y Cd (.slice A20 ((tl11.map AI).length) c21) (tl11.map AI),Cg C.J tl11] [gl]:=H
   replace H:=EE b C W vS1 vM2 vC3 vR4 vK5 J6 (.slice A15 ((rl10.map AF).length) c16) kb8 (.slice A20 ((tl11.map AI).length) c21) rl10 tl11 ⟨hsj12,hrl13,htl14⟩ H
   replace H:=H.h1 (A:=Bp b C W)
   exact Al ⟨rfl,by rw [e]<;>rfl⟩ H
  refine Ah 4 U (Ac (Aa (B7 U (Av (AU (Aa (Ab (Ae (Ah 2 U (Ac (Aa (An (Cl U U U ?_)))))))))))))
  have e:DR dg C W fr kd sp att=W:=if_pos (by omega)
  replace H:=H.sel 12 [1,2,3,4,5,6,7,8,9,10,11] [0] rfl (by kernel_rfl)
  replace H:Hd _ _ _ [blk b [vS1,.int .i64 J6.parts,vM2,vC3,vR4,.int .i64 J6.chunk,.int .i64 J6.window,.int .i64 J6.fuel,vK5,.int .i64 C.w,.int .i64 C.t,.int .i64 C.o,.int .i64 W.ep,.slice A15 ((rl10.map AF).length) c16,.map (some kb8),.slice A20 ((tl11.map AI).length) c21,.int .u32 (BI W.over)] 210,Y (Am Ag) vS1 J6.us,Y Af vM2 J6.map,Y Af vC3 J6.comb,Y Af vR4 J6.red,Y (Ai .i64) vK5 J6.marks,Y (Ai .i64) (.slice A15 ((rl10.map AF).length) c16) (rl10.map AF),Bx BO kb8 (rl10.map BR),B2 C rl10,Y Cd (.slice A20 ((tl11.map AI).length) c21) (tl11.map AI),Cg C.J tl11] [gl]:=H
  replace H:=EE b C W vS1 vM2 vC3 vR4 vK5 J6 (.slice A15 ((rl10.map AF).length) c16) kb8 (.slice A20 ((tl11.map AI).length) c21) rl10 tl11 ⟨hsj12,hrl13,htl14⟩ H
  replace H:=H.h1 (A:=Bp b C W)
  exact Al ⟨rfl,by rw [e]<;>rfl⟩ H
 refine Ah 4 U (Ac (Aa (B7 U (Ab (Ae (V U U (Aj U Fh U) (V U U (Ak U AB U (H.cellI 0 U U)) (V U U (Bb U U U) (Ad U ?_)))))))))
 refine AK (d:=51) U (fun h35=>?_) (fun h35=>?_)
 ·exfalso;omega
 refine Ah 4 U (Ac (Aa (B7 U (Ab (Ae (V U U (Aj U Fh U) (V U U (Ak U AB U (H.cellI 0 U U)) (V U U (Bb U U U) (Ad U (Ac (Aa ?_)))))))))))
 refine Ax U (fun h36=>?_) (fun h36=>?_)
 ·exfalso;omega
 refine Ab (Ae (V U U (Aj U Fh U) (V U U (Ak U AB U (H.cellI 0 U U)) (V U U (Bb U U U) (Ad U ?_)))))
 refine AK (d:=91) U (fun h37=>?_) (fun h37=>?_)
 ·exfalso;omega
 refine Ah 8 U (Ac (Aa (B7 U (Ab (Ae (V U U (Aj U Fh U) (V U U (Ak U AB U (H.cellI 0 U U)) (V U U (Bb U U U) (Ad U ?_)))))))))
 refine AK (d:=111) U (fun h38=>?_) (fun h38=>?_)
 ·refine Ad U (V U U (Bb U U U) (Ah 2 U (Ac (Aa ?_))))
  refine Ax U (fun h39=>?_) (fun h39=>?_)
  ·refine Ab (Ae (Ad U (V U U (AH U U) (V U U (Aj U Ox U) ?_))))
   replace H:=H.p1
   replace H:Hd _ _ _ [blk b [vS1,.int .i64 J6.parts,vM2,vC3,vR4,.int .i64 J6.chunk,.int .i64 J6.window,.int .i64 J6.fuel,vK5,.int .i64 C.w,.int .i64 C.t,.int .i64 C.o,.int .i64 W.ep,.slice A15 ((rl10.map AF).length) c16,.map (some kb8),.slice A20 ((tl11.map AI).length) c21,.int .u32 (BI W.over)] 210,blk b25 [.int .i64 kd,.int .i64 sp,.int .i64 att,.int .i64 0,.int .i64 0,.int .i64 0,.int .i64 0,.int .i64 0,.slice none 0 0,.slice none 0 0] 64,Y (Am Ag) vS1 J6.us,Y Af vM2 J6.map,Y Af vC3 J6.comb,Y Af vR4 J6.red,Y (Ai .i64) vK5 J6.marks,Y (Ai .i64) (.slice A15 ((rl10.map AF).length) c16) (rl10.map AF),Bx BO kb8 (rl10.map BR),B2 C rl10,Y Cd (.slice A20 ((tl11.map AI).length) c21) (tl11.map AI),Cg C.J tl11] [gl]:=H
   refine sc (aQ b vS1 vM2 vC3 vR4 vK5 J6 C W.ep (.slice A15 ((rl10.map AF).length) c16) kb8 (.slice A20 ((tl11.map AI).length) c21) W.over) H l0 U U (At J4 U U) ?_
   rintro _ _ w ⟨rfl,rfl⟩ H
   replace H:=H.h1 (A:=blk b [vS1,.int .i64 J6.parts,vM2,vC3,vR4,.int .i64 J6.chunk,.int .i64 J6.window,.int .i64 J6.fuel,vK5,.int .i64 C.w,.int .i64 C.t,.int .i64 C.o,.int .i64 W.ep,.slice A15 ((rl10.map AF).length) c16,.map (some kb8),.slice A20 ((tl11.map AI).length) c21,.int .u32 (BI true)] 210)
   refine Ac (Aa (Ae (Ad U (V U U (AH U U) (V U U (Aj U HP U) (BE U U U Iu U U H U (Nat.le_of_ble_eq_true U) (fun u hu=>by simp [Value.cells] at hu;subst hu;rfl) (fun w H=>?_)))))))
   replace H:=H.h1 (A:=blk b [vS1,.int .i64 J6.parts,vM2,vC3,vR4,.int .i64 J6.chunk,.int .i64 J6.window,.int .i64 J6.fuel,vK5,.int .i64 C.w,.int .i64 C.t,.int .i64 C.o,.int .i64 W.ep,.slice A15 ((rl10.map AF).length) c16,.map (some kb8),.slice none 0 0,.int .u32 (BI true)] 210)
   refine Ac (AU (Aa (Ab (Ae (Ah 2 U (Ac (Aa (An (Cl U U U ?_)))))))))
   replace H:=H.newnil Cd
   replace H:=Hd.big0 (fun e:Nat×BH=>BW e.1 C.J e.2) H
   replace H:=H.h2 (A:=Cg C.J ([]:List (Nat×BH))) (B:=Y Cd (.slice none 0 0) (([]:List (Nat×BH)).map AI))|>.keep 12
   have e:DR dg C W fr kd sp att=({ W with ts:=[],over:=true }:CC):=by unfold DR;rw [if_neg (fun g=>g (by omega)),if_neg (by omega)]
   replace H:=H.p1.pick 11 rfl|>.pick 11 rfl|>.pick 11 rfl|>.pick 11 rfl|>.pick 11 rfl|>.pick 11 rfl|>.pick 11 rfl|>.pick 11 rfl|>.pick 10 rfl|>.keep 11
   replace H:=EE b C ({ W with ts:=[],over:=true }:CC) vS1 vM2 vC3 vR4 vK5 J6 (.slice A15 ((rl10.map AF).length) c16) kb8 (.slice none 0 0) rl10 [] ⟨hsj12,hrl13,rfl⟩ H
   replace H:=H.h1 (A:=Bp b C ({ W with ts:=[],over:=true }:CC))
   exact Al ⟨rfl,by rw [e]<;>rfl⟩ H
  refine Av (AU (Aa (Ab (Ae (Ah 2 U (Ac (Aa (An (Cl U U U ?_)))))))))
  have e:DR dg C W fr kd sp att=W:=if_pos (by omega)
  replace H:=H.sel 12 [1,2,3,4,5,6,7,8,9,10,11] [0] rfl (by kernel_rfl)
  replace H:Hd _ _ _ [blk b [vS1,.int .i64 J6.parts,vM2,vC3,vR4,.int .i64 J6.chunk,.int .i64 J6.window,.int .i64 J6.fuel,vK5,.int .i64 C.w,.int .i64 C.t,.int .i64 C.o,.int .i64 W.ep,.slice A15 ((rl10.map AF).length) c16,.map (some kb8),.slice A20 ((tl11.map AI).length) c21,.int .u32 (BI W.over)] 210,Y (Am Ag) vS1 J6.us,Y Af vM2 J6.map,Y Af vC3 J6.comb,Y Af vR4 J6.red,Y (Ai .i64) vK5 J6.marks,Y (Ai .i64) (.slice A15 ((rl10.map AF).length) c16) (rl10.map AF),Bx BO kb8 (rl10.map BR),B2 C rl10,Y Cd (.slice A20 ((tl11.map AI).length) c21) (tl11.map AI),Cg C.J tl11] [gl]:=H
  replace H:=EE b C W vS1 vM2 vC3 vR4 vK5 J6 (.slice A15 ((rl10.map AF).length) c16) kb8 (.slice A20 ((tl11.map AI).length) c21) rl10 tl11 ⟨hsj12,hrl13,htl14⟩ H
  replace H:=H.h1 (A:=Bp b C W)
  exact Al ⟨rfl,by rw [e]<;>rfl⟩ H
 refine Ah 4 U (Ac (Aa (B7 U (Av (AU (Aa (Ab (Ae (Ah 2 U (Ac (Aa (An (Cl U U U ?_)))))))))))))
 have e:DR dg C W fr kd sp att=W:=if_pos (by omega)
 replace H:=H.sel 12 [1,2,3,4,5,6,7,8,9,10,11] [0] rfl (by kernel_rfl)
 replace H:Hd _ _ _ [blk b [vS1,.int .i64 J6.parts,vM2,vC3,vR4,.int .i64 J6.chunk,.int .i64 J6.window,.int .i64 J6.fuel,vK5,.int .i64 C.w,.int .i64 C.t,.int .i64 C.o,.int .i64 W.ep,.slice A15 ((rl10.map AF).length) c16,.map (some kb8),.slice A20 ((tl11.map AI).length) c21,.int .u32 (BI W.over)] 210,Y (Am Ag) vS1 J6.us,Y Af vM2 J6.map,Y Af vC3 J6.comb,Y Af vR4 J6.red,Y (Ai .i64) vK5 J6.marks,Y (Ai .i64) (.slice A15 ((rl10.map AF).length) c16) (rl10.map AF),Bx BO kb8 (rl10.map BR),B2 C rl10,Y Cd (.slice A20 ((tl11.map AI).length) c21) (tl11.map AI),Cg C.J tl11] [gl]:=H
 replace H:=EE b C W vS1 vM2 vC3 vR4 vK5 J6 (.slice A15 ((rl10.map AF).length) c16) kb8 (.slice A20 ((tl11.map AI).length) c21) rl10 tl11 ⟨hsj12,hrl13,htl14⟩ H
 replace H:=H.h1 (A:=Bp b C W)
 exact Al ⟨rfl,by rw [e]<;>rfl⟩ H
theorem Kp (b:Nat) (J:AD) (M:BH):Cn Tryz.prog 32 [.pointer (some ⟨b,0,none⟩)] [BW b J M] [] (fun v Bs=>v=.int .i64 ((Ay dg J M.sp).2)∧Bs=[BW b J M]):=by
 intro w0 F0 H
 obtain ⟨vS,vM,vC,vR,vK,J2,cw,ct,co,cb,fv,vw,ws,⟨hsj,hws⟩,H⟩:=Kk b J M H
 have H1:Hd w0 F0 w0 ([blk cb [.int .u32 1,.int .i32 0,.int .u32 0,.int .u32 1,fv,.string (Ba (Ay dg J2 M.sp).1)] 234]++[blk b [vS,.int .i64 J2.parts,vM,vC,vR,.int .i64 J2.chunk,.int .i64 J2.window,.int .i64 J2.fuel,vK,.int .i64 cw,.int .i64 ct,.int .i64 co,.int .i64 ((M.sp:Nat):Int),.int .i64 M.att,.int .i64 ((Ay dg J2 M.sp).2),.pointer (some ⟨cb,0,none⟩),vw] 164,Y (Am Ag) vS J2.us,Y Af vM J2.map,Y Af vC J2.comb,Y Af vR J2.red,Y (Ai .i64) vK J2.marks,Y Cx vw (ws.map Prod.fst),Bt (Cq 239) ws]) []:=H.pick 1 rfl
 refine (Gq (PQ b vS vM vC vR vK J2 cw ct co M.sp M.att cb fv vw ) H1 (lA 0 U (fun _ h=>h) l0)).mono ?_
 rintro e w ⟨v,rfl,Bs,⟨rfl,rfl⟩,H⟩
 replace H:Hd w0 F0 w [blk cb [.int .u32 1,.int .i32 0,.int .u32 0,.int .u32 1,fv,.string (Ba (Ay dg J2 M.sp).1)] 234,blk b [vS,.int .i64 J2.parts,vM,vC,vR,.int .i64 J2.chunk,.int .i64 J2.window,.int .i64 J2.fuel,vK,.int .i64 cw,.int .i64 ct,.int .i64 co,.int .i64 ((M.sp:Nat):Int),.int .i64 M.att,.int .i64 ((Ay dg J2 M.sp).2),.pointer (some ⟨cb,0,none⟩),vw] 164,Y (Am Ag) vS J2.us,Y Af vM J2.map,Y Af vC J2.comb,Y Af vR J2.red,Y (Ai .i64) vK J2.marks,Y Cx vw (ws.map Prod.fst),Bt (Cq 239) ws] []:=H
 replace H:=H.p1
 have e:=hsj.split dg M.sp
 exact ⟨_,rfl,_,⟨by rw [e],rfl⟩,IY b J M vS vM vC vR vK J2 cw ct co cb fv vw ws ⟨hsj,hws⟩ (As:=[]) H⟩
theorem Ml (b:Nat) (J:AD) (M:BH) (hJ:Cb J):Cn Tryz.prog 30 [.pointer (some ⟨b,0,none⟩)] [BW b J M] [] (fun v Bs=>Bs=[Y (Ai .i64) v (Bj dg J M.sp M.att),BW b J M]):=by
 intro w0 F0 H
 obtain ⟨vS,vM,vC,vR,vK,J2,cw,ct,co,cb,fv,vw,ws,⟨hsj,hws⟩,H⟩:=Kk b J M H
 have H1:Hd w0 F0 w0 ([blk cb [.int .u32 1,.int .i32 0,.int .u32 0,.int .u32 1,fv,.string (Ba (Ay dg J2 M.sp).1)] 234]++[blk b [vS,.int .i64 J2.parts,vM,vC,vR,.int .i64 J2.chunk,.int .i64 J2.window,.int .i64 J2.fuel,vK,.int .i64 cw,.int .i64 ct,.int .i64 co,.int .i64 ((M.sp:Nat):Int),.int .i64 M.att,.int .i64 ((Ay dg J2 M.sp).2),.pointer (some ⟨cb,0,none⟩),vw] 164,Y (Am Ag) vS J2.us,Y Af vM J2.map,Y Af vC J2.comb,Y Af vR J2.red,Y (Ai .i64) vK J2.marks,Y Cx vw (ws.map Prod.fst),Bt (Cq 239) ws]) []:=H.pick 1 rfl
 refine (Gq (V4 b vS vM vC vR vK J2 cw ct co M.sp M.att cb fv vw  (hsj.symm.ok hJ)) H1 (lA 0 U (fun _ h=>h) l0)).mono ?_
 rintro e w ⟨v,rfl,Bs,rfl,H⟩
 replace H:Hd w0 F0 w [Y (Ai .i64) v (Bj dg J2 M.sp M.att),blk cb [.int .u32 1,.int .i32 0,.int .u32 0,.int .u32 1,fv,.string (Ba (Ay dg J2 M.sp).1)] 234,blk b [vS,.int .i64 J2.parts,vM,vC,vR,.int .i64 J2.chunk,.int .i64 J2.window,.int .i64 J2.fuel,vK,.int .i64 cw,.int .i64 ct,.int .i64 co,.int .i64 ((M.sp:Nat):Int),.int .i64 M.att,.int .i64 ((Ay dg J2 M.sp).2),.pointer (some ⟨cb,0,none⟩),vw] 164,Y (Am Ag) vS J2.us,Y Af vM J2.map,Y Af vC J2.comb,Y Af vR J2.red,Y (Ai .i64) vK J2.marks,Y Cx vw (ws.map Prod.fst),Bt (Cq 239) ws] []:=H
 replace H:=H.p9.p9.p9.p9.p9.p9.p9.p8.p9
 replace H:=IY b J M vS vM vC vR vK J2 cw ct co cb fv vw ws ⟨hsj,hws⟩ (As:=[Y (Ai .i64) v (Bj dg J2 M.sp M.att)]) H
 refine ⟨v,rfl,_,rfl,?_⟩
 have e:=N3 hsj dg M.sp M.att
 rw [e] at H
 exact H.pick 1 U
theorem Qb (b:Nat) (J:AD) (M:BH) (hJ:Cb J) (hM:ER M):
    Cn Tryz.prog 31 [.pointer (some ⟨b,0,none⟩)] [BW b J M] [] (fun v Bs=>∃ zs:List (A_ CH),Bs=[Y J1 v zs,BW b J M]∧(zs.map FS=FV dg J M)):=by
 intro w0 F0 H
 obtain ⟨vS1,vM2,vC3,vR4,vK5,J6,cw7,ct8,co9,cb10,fv11,vw12,ws13,⟨hsj14,hws15⟩,H⟩:=Kk b J M H
 replace H:Hd _ _ _ [blk b [vS1,.int .i64 J6.parts,vM2,vC3,vR4,.int .i64 J6.chunk,.int .i64 J6.window,.int .i64 J6.fuel,vK5,.int .i64 cw7,.int .i64 ct8,.int .i64 co9,.int .i64 ((M.sp:Nat):Int),.int .i64 M.att,.int .i64 ((Ay dg J6 M.sp).2),.pointer (some ⟨cb10,0,none⟩),vw12] 164,blk cb10 [.int .u32 1,.int .i32 0,.int .u32 0,.int .u32 1,fv11,.string (Ba (Ay dg J6 M.sp).1)] 234,Y (Am Ag) vS1 J6.us,Y Af vM2 J6.map,Y Af vC3 J6.comb,Y Af vR4 J6.red,Y (Ai .i64) vK5 J6.marks,Y Cx vw12 (ws13.map Prod.fst),Bt (Cq 239) ws13] []:=H
 have hwf:(ws13.map Prod.fst).length=ws13.length:=List.length_map ..
 have hwl:M.ws.length=ws13.length:=by rw [←hws15];exact List.length_map ..
 obtain ⟨A16,c17,rfl,hc18,hm19,hp20⟩:=H.fA 7 rfl
 have hJ2:Cb J6:=hsj14.symm.ok hJ
 have hml:=hM.2
 refine enter Tryz.func31 U U (Nat.le_of_ble_eq_true U) (Ab (Ae (Ad U (Ac (Aa (Ab (Ab (Ae (Ad U (V U U (Dn U G9 U U) (Ac (Aa (B7 U (Av (Aa (Ab (Ae (Ad U (Ac (Aa (Ab (Ab (Ae (Ad U (V U U (AH U U) (V U U (Aj U JS U) (V U U (Ak U Jp U (H.cellI 0 U U)) (V U U (A8 U ZW U) (Ad U (Ac (Aa (AS ?_))))))))))))))))))))))))))))))))
 replace H:=H.newnil DG
 replace H:=Hd.tw0 (α:=CH) H
 replace H:=H.h1 (A:=Br ([]:List (A_ CH)))|>.h2 (B:=Y DG (.slice none 0 0) (([]:List (A_ CH)).map AY))|>.p1
 refine BQ (σ:=Nat×Value×List (A_ CH)) (fun (k,q,zs)=>[(0,.pointer (some ⟨b,0,none⟩)),(2,.slice none 0 0),(3,q),(13,.slice A16 ((ws13.map Prod.fst).length) c17),(14,.int .i64 (((ws13.map Prod.fst).length:Nat):Int)),(15,.int .i64 ((k:Nat):Int))]) (fun (k,q,zs) w=>(Hd w0 F0 w [Y DG q (zs.map AY),Br zs,blk b [vS1,.int .i64 J6.parts,vM2,vC3,vR4,.int .i64 J6.chunk,.int .i64 J6.window,.int .i64 J6.fuel,vK5,.int .i64 cw7,.int .i64 ct8,.int .i64 co9,.int .i64 ((M.sp:Nat):Int),.int .i64 M.att,.int .i64 ((Ay dg J6 M.sp).2),.pointer (some ⟨cb10,0,none⟩),.slice A16 ((ws13.map Prod.fst).length) c17] 164,blk cb10 [.int .u32 1,.int .i32 0,.int .u32 0,.int .u32 1,fv11,.string (Ba (Ay dg J6 M.sp).1)] 234,Y (Am Ag) vS1 J6.us,Y Af vM2 J6.map,Y Af vC3 J6.comb,Y Af vR4 J6.red,Y (Ai .i64) vK5 J6.marks,Y Cx (.slice A16 ((ws13.map Prod.fst).length) c17) (ws13.map Prod.fst),Bt (Cq 239) ws13] [])∧(k≤ws13.length)∧(zs.map FS=DB dg J6 M.sp M.att (M.ws.take k) 0)) (fun (k,q,zs)=>ws13.length - k) (0,.slice none 0 0,[]) ⟨rfl,rfl,rfl,rfl,rfl,rfl,trivial⟩ ⟨H,Nat.zero_le _,rfl⟩ ?_
 rintro ⟨k,q,zs⟩ w ⟨H,hk,hz⟩
 have hzl:=congrArg List.length hz
 rw [List.length_map] at hzl
 have hpl:=Ks (D:=dg) (J:=J6) (s:=M.sp) (att:=M.att) (ws:=M.ws.take k) 0 (fun x hx=>hM.1 x (List.mem_of_mem_take hx))
 rw [List.length_take] at hpl
 refine Ab (Ae (V U U (Bd U U U) (Ac (Aa (Ab ?_)))))
 refine Ax U (fun h21=>?_) (fun h21=>?_)
 ·refine Av (Aa (Ab (AS (Ab (Ae (Ad U ?_))))))
  obtain ⟨x22,hx23⟩:∃ z9,(ws13.map Prod.fst)[k]?=some z9:=⟨_,List.getElem?_eq_getElem (show k<(ws13.map Prod.fst).length by omega)⟩
  have th24:=H.thA 9 rfl hx23
  refine V U U (AZ (p:=AP A16+k*1) U Jg U U (by omega) (by omega) th24 U) (V U U (Ak U ZR U (H.elA 9 U hx23 (q:=0) U U)) (Ah 2 U (Ac (Aa (Ab (Ae (Ad U ?_)))))))
  obtain ⟨wd25,he26⟩:=aT hx23
  have hm27:M.ws[k]?=some wd25:=by rw [←hws15];exact aV he26
  have hok_wd25:=hM.1 _ (Ce hm27)
  unfold I1 at hok_wd25
  replace H:=H.pick 10 rfl|>.h3 (B:=Y DG q (zs.map AY)) (C:=Br zs)
  replace H:=Hd.bigO k he26 H
  replace H:=H.h2 (A:=blk x22 [.int .i64 wd25.c,.int .i64 wd25.s,.int .i64 wd25.e,.int .i64 wd25.x] 239) (B:=Bt (Cq 239) (ws13.eraseIdx k))
  refine sc (aO x22 wd25.c wd25.s wd25.e wd25.x (by first |omega|decide) (by first |omega|decide)) H (lA 0 U (fun _ h=>h) l0) U U (At UI U U) ?_
  rintro v28 _ w rfl H
  replace H:=H.h1 (A:=Y (Ai .i64) v28 (Dw wd25.c wd25.s wd25.x))|>.p2|>.p2
  replace H:=Hd.bigI (f:=Cq 239) (x:=(x22,wd25)) k (Ki he26) H
  rw [aU he26] at H
  obtain ⟨A29,c30,rfl,hc31,hm32,hp33⟩:=H.fA 1 rfl
  refine V U U (A8 U Ea U) (Ad U (Ac (Aa ?_)))
  replace H:Hd _ _ _ [Bt (Cq 239) ws13,Y (Ai .i64) (.slice A29 ((Dw wd25.c wd25.s wd25.x).length) c30) (Dw wd25.c wd25.s wd25.x),Y DG q (zs.map AY),Br zs,blk b [vS1,.int .i64 J6.parts,vM2,vC3,vR4,.int .i64 J6.chunk,.int .i64 J6.window,.int .i64 J6.fuel,vK5,.int .i64 cw7,.int .i64 ct8,.int .i64 co9,.int .i64 ((M.sp:Nat):Int),.int .i64 M.att,.int .i64 ((Ay dg J6 M.sp).2),.pointer (some ⟨cb10,0,none⟩),.slice A16 ((ws13.map Prod.fst).length) c17] 164,blk cb10 [.int .u32 1,.int .i32 0,.int .u32 0,.int .u32 1,fv11,.string (Ba (Ay dg J6 M.sp).1)] 234,Y (Am Ag) vS1 J6.us,Y Af vM2 J6.map,Y Af vC3 J6.comb,Y Af vR4 J6.red,Y (Ai .i64) vK5 J6.marks,Y Cx (.slice A16 ((ws13.map Prod.fst).length) c17) (ws13.map Prod.fst)] []:=H
  refine AS ?_
  replace H:=H.pick 11 rfl|>.pick 11 rfl|>.pick 11 rfl|>.pick 11 rfl|>.pick 11 rfl|>.pick 11 rfl|>.pick 11 rfl|>.pick 11 rfl|>.p9|>.pick 11 rfl|>.pick 11 rfl
  have hz0:zs.map FS=DB dg J6 M.sp M.att (M.ws.take k) 0++(Ef dg J6 M.sp M.att wd25 k).take 0:=by rw [List.take_zero,List.append_nil];exact hz
  refine BQ (σ:=Nat×Value×List (A_ CH)) (fun (j,q2,zs2)=>[(0,.pointer (some ⟨b,0,none⟩)),(2,.slice none 0 0),(3,q2),(4,.int .i64 ((k:Nat):Int)),(13,.slice A16 ((ws13.map Prod.fst).length) c17),(14,.int .i64 (((ws13.map Prod.fst).length:Nat):Int)),(15,.int .i64 ((k:Nat):Int)),(21,.slice A29 ((Dw wd25.c wd25.s wd25.x).length) c30),(22,.int .i64 (((Dw wd25.c wd25.s wd25.x).length:Nat):Int)),(23,.int .i64 ((j:Nat):Int))]) (fun (j,q2,zs2) w=>(Hd w0 F0 w [Y DG q2 (zs2.map AY),Br zs2,Y (Ai .i64) (.slice A29 ((Dw wd25.c wd25.s wd25.x).length) c30) (Dw wd25.c wd25.s wd25.x),blk b [vS1,.int .i64 J6.parts,vM2,vC3,vR4,.int .i64 J6.chunk,.int .i64 J6.window,.int .i64 J6.fuel,vK5,.int .i64 cw7,.int .i64 ct8,.int .i64 co9,.int .i64 ((M.sp:Nat):Int),.int .i64 M.att,.int .i64 ((Ay dg J6 M.sp).2),.pointer (some ⟨cb10,0,none⟩),.slice A16 ((ws13.map Prod.fst).length) c17] 164,blk cb10 [.int .u32 1,.int .i32 0,.int .u32 0,.int .u32 1,fv11,.string (Ba (Ay dg J6 M.sp).1)] 234,Y (Am Ag) vS1 J6.us,Y Af vM2 J6.map,Y Af vC3 J6.comb,Y Af vR4 J6.red,Y (Ai .i64) vK5 J6.marks,Y Cx (.slice A16 ((ws13.map Prod.fst).length) c17) (ws13.map Prod.fst),Bt (Cq 239) ws13] [])∧(j≤(Dw wd25.c wd25.s wd25.x).length)∧(zs2.map FS=DB dg J6 M.sp M.att (M.ws.take k) 0++(Ef dg J6 M.sp M.att wd25 k).take j)) (fun (j,q2,zs2)=>(Dw wd25.c wd25.s wd25.x).length - j) (0,q,zs) ⟨rfl,rfl,rfl,rfl,rfl,rfl,rfl,rfl,rfl,rfl,trivial⟩ ⟨H,Nat.zero_le _,hz0⟩ ?_
  rintro ⟨j,q2,zs2⟩ w ⟨H,hj,hz2⟩
  have hzl2:=congrArg List.length hz2
  rw [List.length_map,List.length_append,List.length_take,Mz] at hzl2
  have hwl2:=Qg hok_wd25
  have htf:(zs2.map AY).length=zs2.length:=List.length_map ..
  refine Ab (Ae (V U U (Bd U U U) (Ac (Aa (Ab ?_)))))
  refine Ax U (fun h34=>?_) (fun h34=>?_)
  ·refine Av (Aa (Ab (AS (Ab (Ae ?_)))))
   obtain ⟨x35,hx36⟩:∃ z9,(Dw wd25.c wd25.s wd25.x)[j]?=some z9:=⟨_,List.getElem?_eq_getElem (show j<(Dw wd25.c wd25.s wd25.x).length by omega)⟩
   have th37:=H.thA 2 rfl hx36
   refine V U U (AZ (p:=AP A29+j*1) U Dx U U (by omega) (by omega) th37 U) (V U U (Ak U AB U (H.elA 2 U hx36 (q:=0) U U)) (Ad U (Ac (Aa ?_))))
   replace H:=H.pick 11 rfl|>.pick 11 rfl|>.pick 11 rfl|>.pick 11 rfl|>.pick 11 rfl|>.pick 11 rfl|>.pick 11 rfl|>.pick 11 rfl|>.pick 11 rfl|>.pick 11 rfl|>.pick 11 rfl
   replace H:Hd _ _ _ [Br zs2,Y (Ai .i64) (.slice A29 ((Dw wd25.c wd25.s wd25.x).length) c30) (Dw wd25.c wd25.s wd25.x),blk b [vS1,.int .i64 J6.parts,vM2,vC3,vR4,.int .i64 J6.chunk,.int .i64 J6.window,.int .i64 J6.fuel,vK5,.int .i64 cw7,.int .i64 ct8,.int .i64 co9,.int .i64 ((M.sp:Nat):Int),.int .i64 M.att,.int .i64 ((Ay dg J6 M.sp).2),.pointer (some ⟨cb10,0,none⟩),.slice A16 ((ws13.map Prod.fst).length) c17] 164,blk cb10 [.int .u32 1,.int .i32 0,.int .u32 0,.int .u32 1,fv11,.string (Ba (Ay dg J6 M.sp).1)] 234,Y (Am Ag) vS1 J6.us,Y Af vM2 J6.map,Y Af vC3 J6.comb,Y Af vR4 J6.red,Y (Ai .i64) vK5 J6.marks,Y Cx (.slice A16 ((ws13.map Prod.fst).length) c17) (ws13.map Prod.fst),Bt (Cq 239) ws13,Y DG q2 (zs2.map AY)] []:=H
   refine BY (.e 0 (.e 1 (.e 2 (.e 3 (.e 4 (.e 5 (.e 6 (.e 7 (.e 8 (.e 9 (.e 10 (.e 11 (.e 12 (.e 13 (.m 14 (.e 15 (.m 16 (.m 17 (.e 18 .z))))))))))))))))))) (fun w=>∃ Ar,Hd w0 F0 w (Br zs2::Y (Ai .i64) (.slice A29 ((Dw wd25.c wd25.s wd25.x).length) c30) (Dw wd25.c wd25.s wd25.x)::blk b [vS1,.int .i64 J6.parts,vM2,vC3,vR4,.int .i64 J6.chunk,.int .i64 J6.window,.int .i64 J6.fuel,vK5,.int .i64 cw7,.int .i64 ct8,.int .i64 co9,.int .i64 ((M.sp:Nat):Int),.int .i64 M.att,.int .i64 ((Ay dg J6 M.sp).2),.pointer (some ⟨cb10,0,none⟩),.slice A16 ((ws13.map Prod.fst).length) c17] 164::blk cb10 [.int .u32 1,.int .i32 0,.int .u32 0,.int .u32 1,fv11,.string (Ba (Ay dg J6 M.sp).1)] 234::Y (Am Ag) vS1 J6.us::Y Af vM2 J6.map::Y Af vC3 J6.comb::Y Af vR4 J6.red::Y (Ai .i64) vK5 J6.marks::Y Cx (.slice A16 ((ws13.map Prod.fst).length) c17) (ws13.map Prod.fst)::Bt (Cq 239) ws13::Ar) []) mo (by kernel_rfl) (fun w H=>⟨_,H⟩) H (fun w H=>?_)
   refine Au U (Au U (Ao U U U (fun w ⟨Ar,H⟩=>AH U U) (Ao U U U (fun w ⟨Ar,H⟩=>Aj U TN U) (Ao U U U (fun w ⟨Ar,H⟩=>Ak U AB U (H.cellI 2 U U)) (Au U (Ao U U U (fun w ⟨Ar,H⟩=>AH U U) (Ao U U U (fun w ⟨Ar,H⟩=>Aj U Ot U) (Ao U U U (fun w ⟨Ar,H⟩=>Ak U AB U (H.cellI 2 U U)) (Au U (Au U (Au U (Au U (Au U (AO U ?_))))))))))))))
   replace H:=H.p3
   refine sc (V2 b vS1 vM2 vC3 vR4 vK5 J6 cw7 ct8 co9 M.sp M.att cb10 fv11 (.slice A16 ((ws13.map Prod.fst).length) c17) ((k:Nat):Int) x35 (by first |assumption|omega)) H (lA 2 U (fun _ h=>h) l0) U U (At VF U U) ?_
   rintro v38 _ w rfl H
   obtain ⟨A39,c40,rfl,hc41,hm42,hp43⟩:=H.fA 0 rfl
   replace H:Hd _ _ _ [Y Ag (.slice A39 ((C8 dg J6 M.sp M.att ((k:Nat):Int) x35).length) c40) (C8 dg J6 M.sp M.att ((k:Nat):Int) x35),blk cb10 [.int .u32 1,.int .i32 0,.int .u32 0,.int .u32 1,fv11,.string (Ba (Ay dg J6 M.sp).1)] 234,Br zs2,Y (Ai .i64) (.slice A29 ((Dw wd25.c wd25.s wd25.x).length) c30) (Dw wd25.c wd25.s wd25.x),blk b [vS1,.int .i64 J6.parts,vM2,vC3,vR4,.int .i64 J6.chunk,.int .i64 J6.window,.int .i64 J6.fuel,vK5,.int .i64 cw7,.int .i64 ct8,.int .i64 co9,.int .i64 ((M.sp:Nat):Int),.int .i64 M.att,.int .i64 ((Ay dg J6 M.sp).2),.pointer (some ⟨cb10,0,none⟩),.slice A16 ((ws13.map Prod.fst).length) c17] 164,Y (Am Ag) vS1 J6.us,Y Af vM2 J6.map,Y Af vC3 J6.comb,Y Af vR4 J6.red,Y (Ai .i64) vK5 J6.marks,Y Cx (.slice A16 ((ws13.map Prod.fst).length) c17) (ws13.map Prod.fst),Bt (Cq 239) ws13,Y DG q2 (zs2.map AY)] []:=H
   replace H:=H.pick 11 rfl|>.pick 11 rfl|>.pick 11 rfl|>.pick 11 rfl|>.pick 11 rfl|>.pick 11 rfl|>.pick 11 rfl|>.p8|>.pick 11 rfl|>.pick 11 rfl|>.pick 11 rfl
   refine AE ⟨_,H⟩ (Ao U U U (fun w ⟨Ar,H⟩=>Co (parts:=[(0,.const (.int .i64 2)),(1,.tmp 31),(2,.tmp 35),(3,.tmp 36),(4,.tmp 37),(9,.tmp 41)]) (vs:=[.int .i64 2,.int .i64 ((M.sp:Nat):Int),.int .i64 M.att,.int .i64 ((k:Nat):Int),.int .i64 x35,.slice A39 ((C8 dg J6 M.sp M.att ((k:Nat):Int) x35).length) c40]) (cs:=[.int .i64 2,.int .i64 ((M.sp:Nat):Int),.int .i64 M.att,.int .i64 ((k:Nat):Int),.int .i64 x35,.int .i64 0,.int .i64 0,.int .i64 0,.slice none 0 0,.slice A39 ((C8 dg J6 M.sp M.att ((k:Nat):Int) x35).length) c40]) U EI U U) (AO U (BX (parts:=[(0,.tmp 42)]) (vs:=[.agg #[.int .i64 2,.int .i64 ((M.sp:Nat):Int),.int .i64 M.att,.int .i64 ((k:Nat):Int),.int .i64 x35,.int .i64 0,.int .i64 0,.int .i64 0,.slice none 0 0,.slice A39 ((C8 dg J6 M.sp M.att ((k:Nat):Int) x35).length) c40]]) (cs:=[.int .i64 2,.int .i64 ((M.sp:Nat):Int),.int .i64 M.att,.int .i64 ((k:Nat):Int),.int .i64 x35,.int .i64 0,.int .i64 0,.int .i64 0,.slice none 0 0,.slice A39 ((C8 dg J6 M.sp M.att ((k:Nat):Int) x35).length) c40]) U U U Jh IA U (by decide) (by decide) U U H (fun b44 w H=>?_))))
   replace H:=H.h1 (A:=blk b44 [.int .i64 2,.int .i64 ((M.sp:Nat):Int),.int .i64 M.att,.int .i64 ((k:Nat):Int),.int .i64 x35,.int .i64 0,.int .i64 0,.int .i64 0,.slice none 0 0,.slice A39 ((C8 dg J6 M.sp M.att ((k:Nat):Int) x35).length) c40] 64)|>.pick 11 rfl|>.pick 11 rfl|>.pick 11 rfl|>.pick 11 rfl|>.pick 11 rfl|>.pick 11 rfl|>.pick 11 rfl|>.pick 11 rfl|>.pick 11 rfl|>.pick 11 rfl|>.pick 11 rfl
   refine AE ⟨_,H⟩ (AO U ?_)
   replace H:=H.pick 13 rfl
   refine Ct (xs:=zs2.map AY) (ys:=[(⟨⟨2,((M.sp:Nat):Int),M.att,((k:Nat):Int),x35,0,0,0⟩,⟨none,0,0⟩,⟨A39,(C8 dg J6 M.sp M.att ((k:Nat):Int) x35).length,c40⟩⟩:D2 CH)]) U U U Jh IA U (by decide) U U H (by first |omega|(simp only [List.length_append,List.length_cons,List.length_nil,List.length_map];omega)) (fun F hA hR=>Cm (hA _ (List.mem_of_getElem? (i:=11) U)) U (by decide) (AW.flat_eq.2 U)) (fun v45 w H=>?_)
   replace H:=H.h1 (A:=Y DG v45 ((zs2.map AY)++[(⟨⟨2,((M.sp:Nat):Int),M.att,((k:Nat):Int),x35,0,0,0⟩,⟨none,0,0⟩,⟨A39,(C8 dg J6 M.sp M.att ((k:Nat):Int) x35).length,c40⟩⟩:D2 CH)]))|>.pick 11 rfl|>.pick 11 rfl|>.pick 11 rfl|>.pick 11 rfl|>.pick 11 rfl|>.pick 11 rfl|>.pick 11 rfl|>.pick 11 rfl|>.pick 11 rfl|>.pick 11 rfl|>.pick 11 rfl
   refine AE ⟨_,H⟩ (Au U (BP (AU (Aa (Ae (V U U (AT (z:=((j+1:Nat):Int)) U U U (by rw [AC (by omega) (by omega)];omega)) (Ad U (Ac ?_))))))))
   replace H:=H.newnil (Ai .i64)|>.pick 12 rfl|>.p2|>.pick 14 rfl|>.p3|>.keep 14
   replace H:=Hd.twN (r:=(⟨(⟨2,M.sp,M.att,(k:Nat),x35,0,0,0⟩:CH),.slice none 0 0,[],.slice A39 ((C8 dg J6 M.sp M.att ((k:Nat):Int) x35).length) c40,C8 dg J6 M.sp M.att (k:Nat) x35⟩:A_ CH)) H
   replace H:Hd w0 F0 w [Br (zs2++[(⟨(⟨2,M.sp,M.att,(k:Nat),x35,0,0,0⟩:CH),.slice none 0 0,[],.slice A39 ((C8 dg J6 M.sp M.att ((k:Nat):Int) x35).length) c40,C8 dg J6 M.sp M.att (k:Nat) x35⟩:A_ CH)]),Y DG v45 ((zs2++[(⟨(⟨2,M.sp,M.att,(k:Nat),x35,0,0,0⟩:CH),.slice none 0 0,[],.slice A39 ((C8 dg J6 M.sp M.att ((k:Nat):Int) x35).length) c40,C8 dg J6 M.sp M.att (k:Nat) x35⟩:A_ CH)]).map AY),Y (Ai .i64) (.slice A29 ((Dw wd25.c wd25.s wd25.x).length) c30) (Dw wd25.c wd25.s wd25.x),blk b [vS1,.int .i64 J6.parts,vM2,vC3,vR4,.int .i64 J6.chunk,.int .i64 J6.window,.int .i64 J6.fuel,vK5,.int .i64 cw7,.int .i64 ct8,.int .i64 co9,.int .i64 ((M.sp:Nat):Int),.int .i64 M.att,.int .i64 ((Ay dg J6 M.sp).2),.pointer (some ⟨cb10,0,none⟩),.slice A16 ((ws13.map Prod.fst).length) c17] 164,blk cb10 [.int .u32 1,.int .i32 0,.int .u32 0,.int .u32 1,fv11,.string (Ba (Ay dg J6 M.sp).1)] 234,Y (Am Ag) vS1 J6.us,Y Af vM2 J6.map,Y Af vC3 J6.comb,Y Af vR4 J6.red,Y (Ai .i64) vK5 J6.marks,Y Cx (.slice A16 ((ws13.map Prod.fst).length) c17) (ws13.map Prod.fst),Bt (Cq 239) ws13] []:=by rw [List.map_append];exact H
   replace H:=H.p1
   have hz3:(zs2++[(⟨(⟨2,M.sp,M.att,(k:Nat),x35,0,0,0⟩:CH),.slice none 0 0,[],.slice A39 ((C8 dg J6 M.sp M.att ((k:Nat):Int) x35).length) c40,C8 dg J6 M.sp M.att (k:Nat) x35⟩:A_ CH)]).map FS=DB dg J6 M.sp M.att (M.ws.take k) 0++(Ef dg J6 M.sp M.att wd25 k).take (j+1):=by rw [List.map_append,hz2,XE hx36,←List.append_assoc];rfl
   exact Bi (s:=(j,undef,zs2)) (j+1,v45,zs2++[(⟨(⟨2,M.sp,M.att,(k:Nat),x35,0,0,0⟩:CH),.slice none 0 0,[],.slice A39 ((C8 dg J6 M.sp M.att ((k:Nat):Int) x35).length) c40,C8 dg J6 M.sp M.att (k:Nat) x35⟩:A_ CH)]) ⟨rfl,rfl,rfl,rfl,rfl,rfl,rfl,rfl,rfl,rfl,trivial⟩ ⟨H,by (try dsimp only);omega,hz3⟩ (by (try dsimp only);omega)
  refine BC (AM (AM (BD (AU (Aa (Ae (V U U (AT (z:=((k+1:Nat):Int)) U U U (by rw [AC (by omega) (by omega)];omega)) (Ad U (Ac ?_)))))))))
  replace H:=H.pick 11 rfl|>.pick 11 rfl|>.pick 11 rfl|>.pick 11 rfl|>.pick 11 rfl|>.pick 11 rfl|>.pick 11 rfl|>.pick 11 rfl|>.pick 11 rfl|>.pick 10 rfl|>.pick 10 rfl|>.keep 11|>.h2 (A:=Y DG q2 (zs2.map AY)) (B:=Br zs2)
  have hzk:zs2.map FS=DB dg J6 M.sp M.att (M.ws.take (k+1)) 0:=by rw [hz2,List.take_of_length_le (l:=Ef dg J6 M.sp M.att wd25 k) (by rw [Mz];omega),XF hm27]
  exact Bi (s:=(k,undef,zs)) (k+1,q2,zs2) ⟨rfl,rfl,rfl,rfl,rfl,rfl,trivial⟩ ⟨H,by (try dsimp only);omega,hzk⟩ (by (try dsimp only);omega)
 refine BC (AM (AM (BD (Aa (Ab (Ae (Ah 2 U (Ac (Aa (An (Aq U U ?_)))))))))))
 replace H:=H.h2 (A:=Y DG q (zs.map AY)) (B:=Br zs)
 replace H:=Hd.twI H
 replace H:=H.h1 (A:=Y J1 q zs)|>.p9|>.p9|>.p9|>.p9|>.p9|>.p9|>.p9|>.p9|>.p9
 replace H:=IY b J M vS1 vM2 vC3 vR4 vK5 J6 cw7 ct8 co9 cb10 fv11 (.slice A16 ((ws13.map Prod.fst).length) c17) ws13 ⟨hsj14,hws15⟩ H
 replace H:=H.h1 (A:=BW b J M)|>.p1
 exact Al ⟨zs,rfl,by rw [hz,List.take_of_length_le (by omega)];exact QA hsj14 dg M.sp M.att M.ws 0⟩ H
end Go.Proofs.YthgehekecfpikaaGreatDoor.X
