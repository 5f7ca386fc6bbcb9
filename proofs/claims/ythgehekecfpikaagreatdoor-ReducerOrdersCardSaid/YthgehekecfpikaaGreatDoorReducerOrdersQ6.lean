/- ReducerOrders: texts N7, N8, N9, N10, L2, L3, L5, XWin, XCode, XMpr, XByte, XMprI, M1, joined by a program of ours; what nothing names is left out. -/
import Derived.Test.YthgehekecfpikaaGreatDoorReducerOrdersQ5
set_option linter.unusedVariables false
set_option linter.unusedSimpArgs false
set_option maxHeartbeats 8000000
namespace Go.Proofs.YthgehekecfpikaaGreatDoor.X
open Go
def By (r:Nat) (vS:Value) (vM:Value) (vC:Value) (vR:Value) (vK:Value) (J:AG) (cw:Int) (ct:Int) (co:Int) (sb:Nat) (R:AD):SP:=ex fun hv:Nat→Value=>ex fun vs:Value=>ex fun us:List (Value×List Int)=>CN [CX ((us.map (fun u=>u.2)=R.sets)),blk r (AK vS vM vC vR vK J cw ct co R.part R.ep R.g hv sb vs) 185,Y (Ak Ag) vS J.us,Y Af vM J.map,Y Af vC J.comb,Y Af vR J.red,Y (Ai .i64) vK J.marks,AT (R.g) hv,Y (Ak (Ai .i64)) vs us,AS 253 sb (R.st)]
theorem FN (r:Nat) (vS:Value) (vM:Value) (vC:Value) (vR:Value) (vK:Value) (J:AG) (cw:Int) (ct:Int) (co:Int) (sb:Nat) (R:AD) {w0 w:World} {F0:AN} {As Rs:List SP} (H:Hd w0 F0 w (By r vS vM vC vR vK J cw ct co sb R::As) Rs):∃ hv:Nat→Value,∃ vs:Value,∃ us:List (Value×List Int),((us.map (fun u=>u.2)=R.sets))∧Hd w0 F0 w ([blk r (AK vS vM vC vR vK J cw ct co R.part R.ep R.g hv sb vs) 185,Y (Ak Ag) vS J.us,Y Af vM J.map,Y Af vC J.comb,Y Af vR J.red,Y (Ai .i64) vK J.marks,AT (R.g) hv,Y (Ak (Ai .i64)) vs us,AS 253 sb (R.st)]++As) Rs:=by
 obtain ⟨hv,H⟩:=Hd.exA H
 obtain ⟨vs,H⟩:=Hd.exA H
 obtain ⟨us,H⟩:=Hd.exA H
 exact ⟨hv,vs,us,H.stA.puA⟩
theorem CM (r:Nat) (vS:Value) (vM:Value) (vC:Value) (vR:Value) (vK:Value) (J:AG) (cw:Int) (ct:Int) (co:Int) (sb:Nat) (R:AD) (hv:Nat→Value) (vs:Value) (us:List (Value×List Int)) {w0 w:World} {F0:AN} {As Rs:List SP} (hp:(us.map (fun u=>u.2)=R.sets)) (H:Hd w0 F0 w ([blk r (AK vS vM vC vR vK J cw ct co R.part R.ep R.g hv sb vs) 185,Y (Ak Ag) vS J.us,Y Af vM J.map,Y Af vC J.comb,Y Af vR J.red,Y (Ai .i64) vK J.marks,AT (R.g) hv,Y (Ak (Ai .i64)) vs us,AS 253 sb (R.st)]++As) Rs):Hd w0 F0 w (By r vS vM vC vR vK J cw ct co sb R::As) Rs:=by
 have H1:=(show Hd w0 F0 w ([CX ((us.map (fun u=>u.2)=R.sets)),blk r (AK vS vM vC vR vK J cw ct co R.part R.ep R.g hv sb vs) 185,Y (Ak Ag) vS J.us,Y Af vM J.map,Y Af vC J.comb,Y Af vR J.red,Y (Ai .i64) vK J.marks,AT (R.g) hv,Y (Ak (Ai .i64)) vs us,AS 253 sb (R.st)]++As) Rs from H.puI hp).stI
 replace H1:=Hd.exI (A:=fun us:List (Value×List Int)=>CN [CX ((us.map (fun u=>u.2)=R.sets)),blk r (AK vS vM vC vR vK J cw ct co R.part R.ep R.g hv sb vs) 185,Y (Ak Ag) vS J.us,Y Af vM J.map,Y Af vC J.comb,Y Af vR J.red,Y (Ai .i64) vK J.marks,AT (R.g) hv,Y (Ak (Ai .i64)) vs us,AS 253 sb (R.st)]) us H1
 replace H1:=Hd.exI (A:=fun vs:Value=>ex fun us:List (Value×List Int)=>CN [CX ((us.map (fun u=>u.2)=R.sets)),blk r (AK vS vM vC vR vK J cw ct co R.part R.ep R.g hv sb vs) 185,Y (Ak Ag) vS J.us,Y Af vM J.map,Y Af vC J.comb,Y Af vR J.red,Y (Ai .i64) vK J.marks,AT (R.g) hv,Y (Ak (Ai .i64)) vs us,AS 253 sb (R.st)]) vs H1
 replace H1:=Hd.exI (A:=fun hv:Nat→Value=>ex fun vs:Value=>ex fun us:List (Value×List Int)=>CN [CX ((us.map (fun u=>u.2)=R.sets)),blk r (AK vS vM vC vR vK J cw ct co R.part R.ep R.g hv sb vs) 185,Y (Ak Ag) vS J.us,Y Af vM J.map,Y Af vC J.comb,Y Af vR J.red,Y (Ai .i64) vK J.marks,AT (R.g) hv,Y (Ak (Ai .i64)) vs us,AS 253 sb (R.st)]) hv H1
 exact H1
theorem S5 (vmarks:Value) (marks:List Int) (n:Int):
    Cn Tryz.prog 134 [vmarks,.int .i64 n] [] [Aa (Ai .i64) vmarks marks] (fun v Bs=>v=.bool (decide (n∈marks))∧Bs=[]):=by
 intro w0 F0 H
 obtain ⟨A1,c2,rfl,hc3,hm4,hp5⟩:=H.fR 0 rfl
 refine enter Tryz.func134 U U (Nat.le_of_ble_eq_true U) (Ab (Ae (Ad U (Ac (Z ?_)))))
 replace H:Hd _ _ _ [] [Aa (Ai .i64) (.slice A1 marks.length c2) marks]:=H
 refine Ab (Ae (Ah 2 U (sc (KX (.slice A1 marks.length c2) marks n) H (lR 0 U l0) U U (At LH U U) ?_)))
 rintro _ _ w ⟨rfl,rfl⟩ H
 exact Ad U (Ac (Z (Ao (Aq U U (Am ⟨rfl,rfl⟩ H)))))
theorem Pm (r:Nat) (vS:Value) (vM:Value) (vC:Value) (vR:Value) (vK:Value) (J:AG) (cw:Int) (ct:Int) (co:Int) (sb:Nat) (R:AD) (n:Int) (hn:0≤n∧n<(J.us.length:Int)) (h6:J.us.length≤6) (hB:Bw 100000 R) (hmk:J.marks.length≤1000):
    Cn Tryz.prog 119 [.pointer (some ⟨r,0,none⟩),.int .i64 n,.pointer (some ⟨r,14+(n).toNat*5,none⟩)] [By r vS vM vC vR vK J cw ct co sb R] [] (fun v Bs=>∃ rs:List AV,Bs=[Y Bl v rs,By r vS vM vC vR vK J cw ct co sb ((CG J R (n).toNat).1)]∧(rs.map AV.p=(CG J R (n).toNat).2)):=by
 intro w0 F0 H
 obtain ⟨hv1,vs2,us3,hsets4,H⟩:=FN r vS vM vC vR vK J cw ct co sb R H
 replace H:Hd _ _ _ [blk r (AK vS vM vC vR vK J cw ct co R.part R.ep R.g hv1 sb vs2) 185,Y (Ak Ag) vS J.us,Y Af vM J.map,Y Af vC J.comb,Y Af vR J.red,Y (Ai .i64) vK J.marks,AT (R.g) hv1,Y (Ak (Ai .i64)) vs2 us3,AS 253 sb (R.st)] []:=H
 obtain ⟨A5,c6,rfl,hc7,hm8,hp9⟩:=H.fA 1 rfl
 refine enter Tryz.func119 U U (Nat.le_of_ble_eq_true U) (Ab (Ae (Ad U (Ac (Z (Ab (Ab (Ae (Ad U (V U U (AI U U) (V U U (Aj U Ll U) (V U U (An U Ds U (H.cellI 0 U (Qn (by omega)))) (V U U (E5 U U U) (Ac (Z ?_)))))))))))))))
 refine Dv (b:=!((R.g ((n).toNat)).told)) U (fun h10=>?_) (fun h10=>?_)
 ·refine Ab (Ae (Ad U (Ac (Z (Ao (Az (Aq U U ?_)))))))
  have e:CG J R (n).toNat=(R,[]):=VH (by simpa using h10)
  replace H:=H.newnil Bl|>.p9|>.p9|>.p9|>.p9|>.p9|>.p9|>.p9|>.p9|>.p9
  replace H:=CM r (.slice A5 J.us.length c6) vM vC vR vK J cw ct co sb R hv1 vs2 us3 hsets4 H
  replace H:=H.h1 (A:=By r (.slice A5 J.us.length c6) vM vC vR vK J cw ct co sb R)|>.p1
  exact Am ⟨[],by rw [e]<;>rfl,by rw [e];rfl⟩ H
 refine Av (Z (Ab ?_))
 have hfl:=hB.flat n (R.g (n).toNat).att
 have hsl:=(hB.st n (R.g (n).toNat).att).1
 have hnn:(((n).toNat:Nat):Int)=n:=Int.toNat_of_nonneg hn.1
 refine BX (.e 0 (.e 1 (.e 2 (.e 3 (.e 4 (.e 5 (.e 6 (.e 7 (.e 8 (.e 9 (.e 10 (.e 11 (.e 12 (.m 13 (.e 14 (.e 15 (.e 16 (.e 17 (.e 18 .z))))))))))))))))))) (fun w=>∃ Ar,Hd w0 F0 w (blk r (AK (.slice A5 J.us.length c6) vM vC vR vK J cw ct co R.part R.ep R.g hv1 sb vs2) 185::Y (Ak Ag) (.slice A5 J.us.length c6) J.us::Y Af vM J.map::Y Af vC J.comb::Y Af vR J.red::Y (Ai .i64) vK J.marks::AT (R.g) hv1::Y (Ak (Ai .i64)) vs2 us3::AS 253 sb (R.st)::Ar) []) mo (by kernel_rfl) (fun w H=>⟨_,H⟩) H (fun w H=>(Ax U (Ap U U U (fun w ⟨Ar,H⟩=>AI U U) (Ap U U U (fun w ⟨Ar,H⟩=>Aj U GW U) (Ap U U U (fun w ⟨Ar,H⟩=>An U Hj U (H.cellI 0 U U)) (Ax U (Ax U (Ap U U U (fun w ⟨Ar,H⟩=>AI U U) (Ap U U U (fun w ⟨Ar,H⟩=>Aj U Lm U) ?_)))))))))
 refine Ap U U U (fun w ⟨Ar,H⟩=>An U AE U (H.cellI 0 U (Qo (by omega)))) (Ax U (Ap U U U (fun w ⟨Ar,H⟩=>AI U U) (Ap U U U (fun w ⟨Ar,H⟩=>Aj U Od U) (Ap U U U (fun w ⟨Ar,H⟩=>An U AE U (H.cellI 0 U (X5 (by omega)))) (AL U ?_)))))
 replace H:=H.p8
 refine sc (Zc sb R.st n ((R.g ((n).toNat)).att) ((R.g ((n).toNat)).cnt) (by first |assumption|omega) (by first |assumption|omega)) H l0 U U (At UH U U) ?_
 rintro _ _ w ⟨u11,rfl,rfl⟩ H
 replace H:=H.h1 (A:=Y Ag u11 ((AC R.st n ((R.g ((n).toNat)).att) ((R.g ((n).toNat)).cnt)).getD []))|>.p1|>.p9|>.p9|>.p9|>.p9|>.p9|>.p9|>.p9|>.p9
 refine AH ⟨_,H⟩ (Ax U (Ax U (Ax U (Ax U (Ax U (BL (Z (Ab (Ab (Ae (Ad U (V U U (E5 U U U) (Ad U ?_)))))))))))))
 refine Em (d:=35) (b:=!((AC R.st n ((R.g ((n).toNat)).att) ((R.g ((n).toNat)).cnt)).isSome)) U (fun h12=>?_) (fun h12=>?_)
 ·refine Ah 4 U (Ac (Z (Cc U (Ab (Ae (Ad U (Ac (Z (Ao (Az (Aq U U ?_)))))))))))
  have e:CG J R (n).toNat=(R,[]):=VI hnn (Wt (by simpa using h12))
  replace H:=H.newnil Bl|>.p9|>.p9|>.p9|>.p9|>.p9|>.p9|>.p9|>.p9|>.p9|>.k10
  replace H:=CM r (.slice A5 J.us.length c6) vM vC vR vK J cw ct co sb R hv1 vs2 us3 hsets4 H
  replace H:=H.h1 (A:=By r (.slice A5 J.us.length c6) vM vC vR vK J cw ct co sb R)|>.p1
  exact Am ⟨[],by rw [e]<;>rfl,by rw [e];rfl⟩ H
 refine Ad U ?_
 obtain ⟨A13,c14,rfl,hc15,hm16,hp17⟩:=H.fA 9 rfl
 refine V U U (A0 U CD U) (V U U (Cd U U U) (Ad U (Ac (Z ?_))))
 refine Ay U (fun h18=>?_) (fun h18=>?_)
 ·refine Ab (Ae (Ad U (Ac (Z (Ao (Az (Aq U U ?_)))))))
  have e:CG J R (n).toNat=(R,[]):=VJ hnn (Q1 ([]:List Al) (by simpa using h12)) (by omega)
  replace H:=H.newnil Bl|>.p9|>.p9|>.p9|>.p9|>.p9|>.p9|>.p9|>.p9|>.p9|>.k10
  replace H:=CM r (.slice A5 J.us.length c6) vM vC vR vK J cw ct co sb R hv1 vs2 us3 hsets4 H
  replace H:=H.h1 (A:=By r (.slice A5 J.us.length c6) vM vC vR vK J cw ct co sb R)|>.p1
  exact Am ⟨[],by rw [e]<;>rfl,by rw [e];rfl⟩ H
 refine Av (Z (Ab ?_))
 have htk:=Q1 ([]:List Al) (by simpa using h12)
 have hto:(R.g (n).toNat).told=true:=by simpa using h10
 have hpl:((AC R.st n (R.g (n).toNat).att (R.g (n).toNat).cnt).getD []).length≤40:=by omega
 refine Ae (Ah 3 U (V U U (AI U U) (V U U (Aj U FG U) (Bk U U U Ds U U H U (by show 14+((n).toNat)*5+0+1≤46;omega) (fun u hu=>by simp [Value.cells] at hu;subst hu;rfl) (fun w H=>?_)))))
 replace H:Hd w0 F0 w [blk r (AK (.slice A5 J.us.length c6) vM vC vR vK J cw ct co R.part R.ep (AJ R.g ((n).toNat) { R.g ((n).toNat) with merged:=true }) hv1 sb vs2) 185,Y (Ak Ag) (.slice A5 J.us.length c6) J.us,Y Af vM J.map,Y Af vC J.comb,Y Af vR J.red,Y (Ai .i64) vK J.marks,AT (R.g) hv1,Y (Ak (Ai .i64)) vs2 us3,AS 253 sb (R.st),Y Ag (.slice A13 (((AC R.st n ((R.g ((n).toNat)).att) ((R.g ((n).toNat)).cnt)).getD []).length) c14) ((AC R.st n ((R.g ((n).toNat)).att) ((R.g ((n).toNat)).cnt)).getD [])] []:=by rw [←Qq (show (n).toNat<6 by omega) true];exact H
 refine V U U (AI U U) (V U U (Aj U Lk U) (Bk U U U Eb U U H U (by show 14+((n).toNat)*5+1+1≤46;omega) (fun u hu=>by simp [Value.cells] at hu;subst hu;rfl) (fun w H=>?_)))
 replace H:Hd w0 F0 w [blk r (AK (.slice A5 J.us.length c6) vM vC vR vK J cw ct co R.part R.ep (AJ R.g ((n).toNat) { R.g ((n).toNat) with merged:=true }) (AJ hv1 ((n).toNat) (.slice A13 (((AC R.st n ((R.g ((n).toNat)).att) ((R.g ((n).toNat)).cnt)).getD []).length) c14:Value)) sb vs2) 185,Y (Ak Ag) (.slice A5 J.us.length c6) J.us,Y Af vM J.map,Y Af vC J.comb,Y Af vR J.red,Y (Ai .i64) vK J.marks,AT (R.g) hv1,Y (Ak (Ai .i64)) vs2 us3,AS 253 sb (R.st),Y Ag (.slice A13 (((AC R.st n ((R.g ((n).toNat)).att) ((R.g ((n).toNat)).cnt)).getD []).length) c14) ((AC R.st n ((R.g ((n).toNat)).att) ((R.g ((n).toNat)).cnt)).getD [])] []:=by rw [←Qr (show (n).toNat<6 by omega) (.slice A13 (((AC R.st n ((R.g ((n).toNat)).att) ((R.g ((n).toNat)).cnt)).getD []).length) c14:Value)];exact H
 refine Ac (Z (Ab (Ae (Ad U (V U U (AI U U) (V U U (Aj U GW U) (V U U (An U Hj U (H.cellI 0 U U)) (Ad U ?_))))))))
 replace H:=H.p8
 refine sc (Y_ sb R.st n) H l0 U U (At UI U U) ?_
 rintro _ _ w ⟨z19,rfl,rfl⟩ H
 replace H:=H.h1 (A:=AS 253 sb (D1 R.st n))
 refine Ac (Z (Ab (BX (.e 0 (.e 1 (.e 2 (.e 3 (.e 4 (.e 5 (.e 6 (.e 7 (.e 8 (.e 9 (.m 10 (.e 11 (.m 12 (.e 13 .z)))))))))))))) (fun w=>∃ Ar,Hd w0 F0 w (AS 253 sb (D1 R.st n)::blk r (AK (.slice A5 J.us.length c6) vM vC vR vK J cw ct co R.part R.ep (AJ R.g ((n).toNat) { R.g ((n).toNat) with merged:=true }) (AJ hv1 ((n).toNat) (.slice A13 (((AC R.st n ((R.g ((n).toNat)).att) ((R.g ((n).toNat)).cnt)).getD []).length) c14:Value)) sb vs2) 185::Y (Ak Ag) (.slice A5 J.us.length c6) J.us::Y Af vM J.map::Y Af vC J.comb::Y Af vR J.red::Y (Ai .i64) vK J.marks::AT (R.g) hv1::Y (Ak (Ai .i64)) vs2 us3::Y Ag (.slice A13 (((AC R.st n ((R.g ((n).toNat)).att) ((R.g ((n).toNat)).cnt)).getD []).length) c14) ((AC R.st n ((R.g ((n).toNat)).att) ((R.g ((n).toNat)).cnt)).getD [])::Ar) []) mo (by kernel_rfl) (fun w H=>⟨_,H⟩) H (fun w H=>?_))))
 refine Ax U (Ap U U U (fun w ⟨Ar,H⟩=>AI U U) (Ap U U U (fun w ⟨Ar,H⟩=>Aj U H_ U) (Ap U U U (fun w ⟨Ar,H⟩=>An U AE U (H.cellI 1 U U)) (Ax U (Ax U (Ap U U U (fun w ⟨Ar,H⟩=>AI U U) (Ap U U U (fun w ⟨Ar,H⟩=>Aj U Lm U) (Ap U U U (fun w ⟨Ar,H⟩=>An U AE U (H.cellI 1 U ((Qo (by omega)).trans (congrArg some (by rw [DB]))))) (Ax U (AL U (sc (HW (.slice A13 (((AC R.st n ((R.g ((n).toNat)).att) ((R.g ((n).toNat)).cnt)).getD []).length) c14) ((AC R.st n ((R.g ((n).toNat)).att) ((R.g ((n).toNat)).cnt)).getD []) (by first |assumption|omega)) H (lA 9 U BS l0) U U (At Ii U U) ?_)))))))))))
 rintro v20 _ w rfl H
 obtain ⟨A21,c22,rfl,hc23,hm24,hp25⟩:=H.fA 0 rfl
 replace H:Hd _ _ _ [Y Ag (.slice A21 (((AC R.st n ((R.g ((n).toNat)).att) ((R.g ((n).toNat)).cnt)).getD []).length) c22) ((AC R.st n ((R.g ((n).toNat)).att) ((R.g ((n).toNat)).cnt)).getD []),AS 253 sb (D1 R.st n),blk r (AK (.slice A5 J.us.length c6) vM vC vR vK J cw ct co R.part R.ep (AJ R.g ((n).toNat) { R.g ((n).toNat) with merged:=true }) (AJ hv1 ((n).toNat) (.slice A13 (((AC R.st n ((R.g ((n).toNat)).att) ((R.g ((n).toNat)).cnt)).getD []).length) c14:Value)) sb vs2) 185,Y (Ak Ag) (.slice A5 J.us.length c6) J.us,Y Af vM J.map,Y Af vC J.comb,Y Af vR J.red,Y (Ai .i64) vK J.marks,AT (R.g) hv1,Y (Ak (Ai .i64)) vs2 us3,Y Ag (.slice A13 (((AC R.st n ((R.g ((n).toNat)).att) ((R.g ((n).toNat)).cnt)).getD []).length) c14) ((AC R.st n ((R.g ((n).toNat)).att) ((R.g ((n).toNat)).cnt)).getD [])] []:=H
 replace H:=H.pick 10 rfl|>.pick 10 rfl|>.pick 10 rfl|>.pick 10 rfl|>.pick 10 rfl|>.pick 10 rfl|>.pick 10 rfl|>.pick 10 rfl|>.pick 10 rfl|>.pick 10 rfl
 refine AH ⟨_,H⟩ (Ap U U U (fun w ⟨Ar,H⟩=>CL (parts:=[(0,.const (.int .i64 4)),(1,.tmp 56),(2,.tmp 57),(3,.tmp 61),(6,.tmp 63)]) (vs:=[.int .i64 4,.int .i64 R.part,.int .i64 n,.int .i64 ((R.g (n).toNat).att),.slice A21 (((AC R.st n ((R.g ((n).toNat)).att) ((R.g ((n).toNat)).cnt)).getD []).length) c22]) (cs:=[.int .i64 4,.int .i64 R.part,.int .i64 n,.int .i64 ((R.g (n).toNat).att),.int .i64 0,.slice none 0 0,.slice A21 (((AC R.st n ((R.g ((n).toNat)).att) ((R.g ((n).toNat)).cnt)).getD []).length) c22]) U JH U U) (AL U (BT (parts:=[(0,.tmp 64)]) (vs:=[.agg #[.int .i64 4,.int .i64 R.part,.int .i64 n,.int .i64 ((R.g (n).toNat).att),.int .i64 0,.slice none 0 0,.slice A21 (((AC R.st n ((R.g ((n).toNat)).att) ((R.g ((n).toNat)).cnt)).getD []).length) c22]]) (cs:=[.int .i64 4,.int .i64 R.part,.int .i64 n,.int .i64 ((R.g (n).toNat).att),.int .i64 0,.slice none 0 0,.slice A21 (((AC R.st n ((R.g ((n).toNat)).att) ((R.g ((n).toNat)).cnt)).getD []).length) c22]) U U U Hi Hr U (by decide) (by decide) U U H (fun b26 w H=>?_))))
 replace H:=H.h1 (A:=blk b26 [.int .i64 4,.int .i64 R.part,.int .i64 n,.int .i64 ((R.g (n).toNat).att),.int .i64 0,.slice none 0 0,.slice A21 (((AC R.st n ((R.g ((n).toNat)).att) ((R.g ((n).toNat)).cnt)).getD []).length) c22] 37)|>.pick 10 rfl|>.pick 10 rfl|>.pick 10 rfl|>.pick 10 rfl|>.pick 10 rfl|>.pick 10 rfl|>.pick 10 rfl|>.pick 10 rfl|>.pick 10 rfl|>.pick 10 rfl
 refine AH ⟨_,H⟩ (Ax U (BL (Z (Ab (Ab ?_)))))
 obtain ⟨R1,hR1⟩:∃ R1:AD,R1={ R with g:=AJ R.g (n).toNat { R.g (n).toNat with merged:=true,pairs:=(AC R.st n (R.g (n).toNat).att (R.g (n).toNat).cnt).getD [] },st:=D1 R.st n }:=⟨_,rfl⟩
 replace H:=H.pick 11 rfl|>.p1|>.p9|>.p8|>.p8|>.p8|>.p8|>.p8|>.p8|>.p9|>.pick 10 rfl|>.prsU (i:=(n).toNat) (x:=({ R.g (n).toNat with merged:=true,pairs:=(AC R.st n (R.g (n).toNat).att (R.g (n).toNat).cnt).getD [] }:CT)) (by omega)
 replace H:Hd w0 F0 w [AT (R1.g) (AJ hv1 ((n).toNat) (.slice A13 (((AC R.st n ((R.g ((n).toNat)).att) ((R.g ((n).toNat)).cnt)).getD []).length) c14:Value)),blk r (AK (.slice A5 J.us.length c6) vM vC vR vK J cw ct co R1.part R1.ep R1.g (AJ hv1 ((n).toNat) (.slice A13 (((AC R.st n ((R.g ((n).toNat)).att) ((R.g ((n).toNat)).cnt)).getD []).length) c14:Value)) sb vs2) 185,Y (Ak Ag) (.slice A5 J.us.length c6) J.us,Y Af vM J.map,Y Af vC J.comb,Y Af vR J.red,Y (Ai .i64) vK J.marks,Y (Ak (Ai .i64)) vs2 us3,AS 253 sb (R1.st),Y Ag (.slice A21 (((AC R.st n ((R.g ((n).toNat)).att) ((R.g ((n).toNat)).cnt)).getD []).length) c22) ((AC R.st n ((R.g ((n).toNat)).att) ((R.g ((n).toNat)).cnt)).getD []),blk b26 [.int .i64 4,.int .i64 R.part,.int .i64 n,.int .i64 ((R.g (n).toNat).att),.int .i64 0,.slice none 0 0,.slice A21 (((AC R.st n ((R.g ((n).toNat)).att) ((R.g ((n).toNat)).cnt)).getD []).length) c22] 37] []:=by
   rw [hR1]
   rw [←Qp (g:=AJ R.g (n).toNat { R.g (n).toNat with merged:=true }) (g':=AJ R.g (n).toNat ({ R.g (n).toNat with merged:=true,pairs:=(AC R.st n (R.g (n).toNat).att (R.g (n).toNat).cnt).getD [] }:CT)) (fun j=>by by_cases e:j=(n).toNat<;>first |(subst e;rw [DB,DB];exact ⟨rfl,rfl,rfl,rfl⟩)|(rw [D0 _ _ e,D0 _ _ e];exact ⟨rfl,rfl,rfl,rfl⟩))]
   exact H
 have hs1:R1.sets=R.sets:=by rw [hR1]
 have hul:=congrArg List.length hsets4
 rw [List.length_map] at hul
 have hbs:=hB.sets
 refine Ae (Ad U (sc (Ja r A5 c6 vM vC vR vK J cw ct co R1.part R1.ep R1 (AJ hv1 ((n).toNat) (.slice A13 (((AC R.st n ((R.g ((n).toNat)).att) ((R.g ((n).toNat)).cnt)).getD []).length) c14:Value)) sb vs2 (by first |assumption|omega)) H (lA 1 U (fun _ h=>h) l0) U U (At I8 U U) ?_))
 rintro v27 _ w rfl H
 obtain ⟨A28,c29,rfl,hc30,hm31,hp32⟩:=H.fA 0 rfl
 have hml:=L4 J.us.length R1
 refine Ad U (Ac (Z ?_))
 replace H:Hd _ _ _ [Y (Ai .i64) (.slice A28 ((Aw J.us.length R1).length) c29) (Aw J.us.length R1),AT (R1.g) (AJ hv1 ((n).toNat) (.slice A13 (((AC R.st n ((R.g ((n).toNat)).att) ((R.g ((n).toNat)).cnt)).getD []).length) c14:Value)),blk r (AK (.slice A5 J.us.length c6) vM vC vR vK J cw ct co R1.part R1.ep R1.g (AJ hv1 ((n).toNat) (.slice A13 (((AC R.st n ((R.g ((n).toNat)).att) ((R.g ((n).toNat)).cnt)).getD []).length) c14:Value)) sb vs2) 185,Y (Ak Ag) (.slice A5 J.us.length c6) J.us,Y Af vM J.map,Y Af vC J.comb,Y Af vR J.red,Y (Ai .i64) vK J.marks,Y (Ak (Ai .i64)) vs2 us3,AS 253 sb (R1.st),Y Ag (.slice A21 (((AC R.st n ((R.g ((n).toNat)).att) ((R.g ((n).toNat)).cnt)).getD []).length) c22) ((AC R.st n ((R.g ((n).toNat)).att) ((R.g ((n).toNat)).cnt)).getD []),blk b26 [.int .i64 4,.int .i64 R.part,.int .i64 n,.int .i64 ((R.g (n).toNat).att),.int .i64 0,.slice none 0 0,.slice A21 (((AC R.st n ((R.g ((n).toNat)).att) ((R.g ((n).toNat)).cnt)).getD []).length) c22] 37] []:=H
 refine Ab (Ae (Ad U (V U U (AI U U) (V U U (Aj U Gp U) (V U U (Aj U CQ U) (V U U (Aj U Hy U) (V U U (An U Gd U (H.cellI 2 U U)) (Ad U (V U U (A0 U Ec U) (sc (S5 vK J.marks (((Aw J.us.length R1).length:Nat):Int)) H (lA 7 U BS l0) U U (At UD U U) ?_))))))))))
 rintro _ _ w ⟨rfl,rfl⟩ H
 refine Ac (Z ?_)
 refine Ay U (fun h33=>?_) (fun h33=>?_)
 ·refine Ab ?_
  replace H:=H.sel 12 [0,1,3,4,5,6,7,9,10,11,2,8] [] rfl (by kernel_rfl)
  replace H:Hd _ _ _ [Y (Ai .i64) (.slice A28 ((Aw J.us.length R1).length) c29) (Aw J.us.length R1),AT (R1.g) (AJ hv1 ((n).toNat) (.slice A13 (((AC R.st n ((R.g ((n).toNat)).att) ((R.g ((n).toNat)).cnt)).getD []).length) c14:Value)),Y (Ak Ag) (.slice A5 J.us.length c6) J.us,Y Af vM J.map,Y Af vC J.comb,Y Af vR J.red,Y (Ai .i64) vK J.marks,AS 253 sb (R1.st),Y Ag (.slice A21 (((AC R.st n ((R.g ((n).toNat)).att) ((R.g ((n).toNat)).cnt)).getD []).length) c22) ((AC R.st n ((R.g ((n).toNat)).att) ((R.g ((n).toNat)).cnt)).getD []),blk b26 [.int .i64 4,.int .i64 R.part,.int .i64 n,.int .i64 ((R.g (n).toNat).att),.int .i64 0,.slice none 0 0,.slice A21 (((AC R.st n ((R.g ((n).toNat)).att) ((R.g ((n).toNat)).cnt)).getD []).length) c22] 37,blk r (AK (.slice A5 J.us.length c6) vM vC vR vK J cw ct co R1.part R1.ep R1.g (AJ hv1 ((n).toNat) (.slice A13 (((AC R.st n ((R.g ((n).toNat)).att) ((R.g ((n).toNat)).cnt)).getD []).length) c14:Value)) sb vs2) 185,Y (Ak (Ai .i64)) vs2 us3] []:=H
  refine BX (.e 0 (.e 1 (.e 2 (.e 3 (.e 5 (.b 4 6 (.m 6 (.m 7 (.m 8 (.e 9 (.e 10 (.m 11 .z)))))) (.b 4 7 (.m 7 (.m 8 (.e 9 (.e 10 (.m 11 .z))))) (.m 4 (.m 8 (.e 9 (.e 10 (.m 11 .z)))))))))))) (fun w=>∃ Ar,Hd w0 F0 w (Y (Ai .i64) (.slice A28 ((Aw J.us.length R1).length) c29) (Aw J.us.length R1)::AT (R1.g) (AJ hv1 ((n).toNat) (.slice A13 (((AC R.st n ((R.g ((n).toNat)).att) ((R.g ((n).toNat)).cnt)).getD []).length) c14:Value))::Y (Ak Ag) (.slice A5 J.us.length c6) J.us::Y Af vM J.map::Y Af vC J.comb::Y Af vR J.red::Y (Ai .i64) vK J.marks::AS 253 sb (R1.st)::Y Ag (.slice A21 (((AC R.st n ((R.g ((n).toNat)).att) ((R.g ((n).toNat)).cnt)).getD []).length) c22) ((AC R.st n ((R.g ((n).toNat)).att) ((R.g ((n).toNat)).cnt)).getD [])::blk b26 [.int .i64 4,.int .i64 R.part,.int .i64 n,.int .i64 ((R.g (n).toNat).att),.int .i64 0,.slice none 0 0,.slice A21 (((AC R.st n ((R.g ((n).toNat)).att) ((R.g ((n).toNat)).cnt)).getD []).length) c22] 37::Ar) []) mo (by kernel_rfl) (fun w H=>⟨_,H⟩) H (fun w H=>?_)
  refine Ax U (Ax U (Ap U U U (fun w ⟨Ar,H⟩=>AI U U) (Ap U U U (fun w ⟨Ar,H⟩=>Aj U Ff U) (Ax U ?_))))
  refine Hv U U ?_ ?_
  ·refine V U U (An U D_ U (H.cellI 10 U U)) (AH ⟨_,H⟩ (AL U (sc (GR (.slice A28 ((Aw J.us.length R1).length) c29) (Aw J.us.length R1) (by first |assumption|omega)) H (lA 0 U BS l0) U U (At G3 U U) ?_)))
   rintro v34 _ w rfl H
   replace H:=H.h1 (A:=Y (Ai .i64) v34 (Aw J.us.length R1))|>.pick 10 rfl|>.pick 10 rfl|>.pick 10 rfl|>.pick 10 rfl|>.pick 10 rfl|>.pick 10 rfl|>.pick 10 rfl|>.pick 10 rfl|>.pick 10 rfl|>.pick 10 rfl
   refine AH ⟨_,H⟩ (AL U ?_)
   obtain ⟨A36,c37,rfl,hc38,hm39,hp40⟩:=H.fA 10 rfl
   refine BT (parts:=[(0,.tmp 83)]) (vs:=[.slice A36 ((Aw J.us.length R1).length) c37]) (cs:=[.slice A36 ((Aw J.us.length R1).length) c37]) U U U D9 Ej U (by decide) (by decide) U U H (fun b35 w H=>?_)
   replace H:Hd _ _ _ [blk b35 [.slice A36 ((Aw J.us.length R1).length) c37] 24,Y (Ai .i64) (.slice A28 ((Aw J.us.length R1).length) c29) (Aw J.us.length R1),AT (R1.g) (AJ hv1 ((n).toNat) (.slice A13 (((AC R.st n ((R.g ((n).toNat)).att) ((R.g ((n).toNat)).cnt)).getD []).length) c14:Value)),Y (Ak Ag) (.slice A5 J.us.length c6) J.us,Y Af vM J.map,Y Af vC J.comb,Y Af vR J.red,Y (Ai .i64) vK J.marks,AS 253 sb (R1.st),Y Ag (.slice A21 (((AC R.st n ((R.g ((n).toNat)).att) ((R.g ((n).toNat)).cnt)).getD []).length) c22) ((AC R.st n ((R.g ((n).toNat)).att) ((R.g ((n).toNat)).cnt)).getD []),blk b26 [.int .i64 4,.int .i64 R.part,.int .i64 n,.int .i64 ((R.g (n).toNat).att),.int .i64 0,.slice none 0 0,.slice A21 (((AC R.st n ((R.g ((n).toNat)).att) ((R.g ((n).toNat)).cnt)).getD []).length) c22] 37,Y (Ai .i64) (.slice A36 ((Aw J.us.length R1).length) c37) (Aw J.us.length R1),blk r (AK (.slice A5 J.us.length c6) vM vC vR vK J cw ct co R1.part R1.ep R1.g (AJ hv1 ((n).toNat) (.slice A13 (((AC R.st n ((R.g ((n).toNat)).att) ((R.g ((n).toNat)).cnt)).getD []).length) c14:Value)) sb vs2) 185,Y (Ak (Ai .i64)) vs2 us3] []:=H
   replace H:=H.pick 10 rfl|>.pick 10 rfl|>.pick 10 rfl|>.pick 10 rfl|>.pick 10 rfl|>.pick 10 rfl|>.pick 10 rfl|>.pick 10 rfl|>.pick 10 rfl|>.pick 10 rfl
   refine AH ⟨_,H⟩ (AL U ?_)
   replace H:=H.pick 13 rfl|>.pick 12 rfl|>.pick 12 rfl|>.p2
   refine FO U U U D9 Ej U (by decide) U U H (by first |omega|(simp only [List.length_append,List.length_cons,List.length_nil];omega)) (fun v41 w H=>?_)
   replace H:=H.h1 (A:=Y (Ak (Ai .i64)) v41 (us3++[((.slice A36 ((Aw J.us.length R1).length) c37:Value),Aw J.us.length R1)]))|>.pick 10 rfl|>.pick 10 rfl|>.pick 10 rfl|>.pick 10 rfl|>.pick 10 rfl|>.pick 10 rfl|>.pick 10 rfl|>.pick 10 rfl|>.pick 10 rfl|>.pick 10 rfl
   refine AH ⟨_,H⟩ (Ap U U U (fun w ⟨Ar,H⟩=>AI U U) (Ap U U U (fun w ⟨Ar,H⟩=>Aj U Ff U) (AL U ?_)))
   obtain ⟨A42,c43,rfl,hc44,hm45,hp46⟩:=H.fA 10 rfl
   replace H:=H.pick 11 rfl
   refine Bk U U U D_ U U H U (Nat.le_of_ble_eq_true U) (fun u hu=>by simp [Value.cells] at hu;subst hu;rfl) (fun w H=>?_)
   replace H:Hd _ _ _ [blk r (AK (.slice A5 J.us.length c6) vM vC vR vK J cw ct co R1.part R1.ep R1.g (AJ hv1 ((n).toNat) (.slice A13 (((AC R.st n ((R.g ((n).toNat)).att) ((R.g ((n).toNat)).cnt)).getD []).length) c14:Value)) sb (.slice A42 ((us3++[((.slice A36 ((Aw J.us.length R1).length) c37:Value),Aw J.us.length R1)]).length) c43)) 185,Y (Ai .i64) (.slice A28 ((Aw J.us.length R1).length) c29) (Aw J.us.length R1),AT (R1.g) (AJ hv1 ((n).toNat) (.slice A13 (((AC R.st n ((R.g ((n).toNat)).att) ((R.g ((n).toNat)).cnt)).getD []).length) c14:Value)),Y (Ak Ag) (.slice A5 J.us.length c6) J.us,Y Af vM J.map,Y Af vC J.comb,Y Af vR J.red,Y (Ai .i64) vK J.marks,AS 253 sb (R1.st),Y Ag (.slice A21 (((AC R.st n ((R.g ((n).toNat)).att) ((R.g ((n).toNat)).cnt)).getD []).length) c22) ((AC R.st n ((R.g ((n).toNat)).att) ((R.g ((n).toNat)).cnt)).getD []),blk b26 [.int .i64 4,.int .i64 R.part,.int .i64 n,.int .i64 ((R.g (n).toNat).att),.int .i64 0,.slice none 0 0,.slice A21 (((AC R.st n ((R.g ((n).toNat)).att) ((R.g ((n).toNat)).cnt)).getD []).length) c22] 37,Y (Ak (Ai .i64)) (.slice A42 ((us3++[((.slice A36 ((Aw J.us.length R1).length) c37:Value),Aw J.us.length R1)]).length) c43) (us3++[((.slice A36 ((Aw J.us.length R1).length) c37:Value),Aw J.us.length R1)])] []:=H
   replace H:=H.pick 10 rfl|>.pick 10 rfl|>.pick 10 rfl|>.pick 10 rfl|>.pick 10 rfl|>.pick 10 rfl|>.pick 10 rfl|>.pick 10 rfl|>.pick 10 rfl|>.pick 10 rfl
   refine AH ⟨_,H⟩ (BL (Z (Ae (Ah 2 U (V U U (AI U U) (V U U (Aj U H_ U) (V U U (An U AE U (H.cellI 10 U U)) (Ad U (V U U (CL (parts:=[(0,.const (.int .i64 5)),(1,.tmp 92),(5,.tmp 93)]) (vs:=[.int .i64 5,.int .i64 R1.part,.slice A28 ((Aw J.us.length R1).length) c29]) (cs:=[.int .i64 5,.int .i64 R1.part,.int .i64 0,.int .i64 0,.int .i64 0,.slice A28 ((Aw J.us.length R1).length) c29,.slice none 0 0]) U JH U U) (BT (parts:=[(0,.tmp 94)]) (vs:=[.agg #[.int .i64 5,.int .i64 R1.part,.int .i64 0,.int .i64 0,.int .i64 0,.slice A28 ((Aw J.us.length R1).length) c29,.slice none 0 0]]) (cs:=[.int .i64 5,.int .i64 R1.part,.int .i64 0,.int .i64 0,.int .i64 0,.slice A28 ((Aw J.us.length R1).length) c29,.slice none 0 0]) U U U Hi Hr U (by decide) (by decide) U U H (fun b47 w H=>?_)))))))))))
   replace H:=H.h1 (A:=blk b47 [.int .i64 5,.int .i64 R1.part,.int .i64 0,.int .i64 0,.int .i64 0,.slice A28 ((Aw J.us.length R1).length) c29,.slice none 0 0] 37)|>.pick 10 rfl
   replace H:Hd w0 F0 w [Y EQ (.slice (some ⟨b26,0,none⟩) 1 1) [(⟨4,R.part,n,(R.g (n).toNat).att,0,⟨none,0,0⟩,⟨A21,((AC R.st n ((R.g ((n).toNat)).att) ((R.g ((n).toNat)).cnt)).getD []).length,c22⟩⟩:DS)],blk b47 [.int .i64 5,.int .i64 R1.part,.int .i64 0,.int .i64 0,.int .i64 0,.slice A28 ((Aw J.us.length R1).length) c29,.slice none 0 0] 37,Y (Ai .i64) (.slice A28 ((Aw J.us.length R1).length) c29) (Aw J.us.length R1),AT (R1.g) (AJ hv1 ((n).toNat) (.slice A13 (((AC R.st n ((R.g ((n).toNat)).att) ((R.g ((n).toNat)).cnt)).getD []).length) c14:Value)),Y (Ak Ag) (.slice A5 J.us.length c6) J.us,Y Af vM J.map,Y Af vC J.comb,Y Af vR J.red,Y (Ai .i64) vK J.marks,AS 253 sb (R1.st),Y Ag (.slice A21 (((AC R.st n ((R.g ((n).toNat)).att) ((R.g ((n).toNat)).cnt)).getD []).length) c22) ((AC R.st n ((R.g ((n).toNat)).att) ((R.g ((n).toNat)).cnt)).getD []),blk r (AK (.slice A5 J.us.length c6) vM vC vR vK J cw ct co R1.part R1.ep R1.g (AJ hv1 ((n).toNat) (.slice A13 (((AC R.st n ((R.g ((n).toNat)).att) ((R.g ((n).toNat)).cnt)).getD []).length) c14:Value)) sb (.slice A42 ((us3++[((.slice A36 ((Aw J.us.length R1).length) c37:Value),Aw J.us.length R1)]).length) c43)) 185,Y (Ak (Ai .i64)) (.slice A42 ((us3++[((.slice A36 ((Aw J.us.length R1).length) c37:Value),Aw J.us.length R1)]).length) c43) (us3++[((.slice A36 ((Aw J.us.length R1).length) c37:Value),Aw J.us.length R1)])] []:=H.turn (fun F h=>GQ h rfl (by decide) rfl)
   refine CC (xs:=[(⟨4,R.part,n,(R.g (n).toNat).att,0,⟨none,0,0⟩,⟨A21,((AC R.st n ((R.g ((n).toNat)).att) ((R.g ((n).toNat)).cnt)).getD []).length,c22⟩⟩:DS)]) (ys:=[(⟨5,R1.part,0,0,0,⟨A28,(Aw J.us.length R1).length,c29⟩,⟨none,0,0⟩⟩:DS)]) U U U Hi Hr U (by decide) U U H (by first |omega|(simp only [List.length_append,List.length_cons,List.length_nil];omega)) (fun F hA hR=>Ci (hA _ (List.mem_of_getElem? (i:=0) U)) U (by decide) (AY.flat_eq.2 U)) (fun v48 w H=>?_)
   replace H:=H.h1 (A:=Y EQ v48 ([(⟨4,R.part,n,(R.g (n).toNat).att,0,⟨none,0,0⟩,⟨A21,((AC R.st n ((R.g ((n).toNat)).att) ((R.g ((n).toNat)).cnt)).getD []).length,c22⟩⟩:DS)]++[(⟨5,R1.part,0,0,0,⟨A28,(Aw J.us.length R1).length,c29⟩,⟨none,0,0⟩⟩:DS)]))
   refine Ad U (Ac (Z (Ab (Ae (Ah 2 U (Ac (Z (Ao (Aq U U ?_)))))))))
   have e:=LW hnn hto htk hpl hR1 h33
   replace H:=H.p2.pick 10 rfl|>.p2|>.pick 10 rfl|>.pick 12 rfl|>.p6|>.pick 11 rfl|>.pick 11 rfl|>.pick 11 rfl|>.pick 11 rfl|>.pick 11 rfl|>.pick 12 rfl|>.keep 12|>.h9 (A:=blk r (AK (.slice A5 J.us.length c6) vM vC vR vK J cw ct co (({ R1 with sets:=R1.sets++[Aw J.us.length R1] }:AD).part) (({ R1 with sets:=R1.sets++[Aw J.us.length R1] }:AD).ep) (({ R1 with sets:=R1.sets++[Aw J.us.length R1] }:AD).g) (AJ hv1 ((n).toNat) (.slice A13 (((AC R.st n ((R.g ((n).toNat)).att) ((R.g ((n).toNat)).cnt)).getD []).length) c14:Value)) sb (.slice A42 ((us3++[((.slice A36 ((Aw J.us.length R1).length) c37:Value),Aw J.us.length R1)]).length) c43)) 185) (G:=AT (({ R1 with sets:=R1.sets++[Aw J.us.length R1] }:AD).g) (AJ hv1 ((n).toNat) (.slice A13 (((AC R.st n ((R.g ((n).toNat)).att) ((R.g ((n).toNat)).cnt)).getD []).length) c14:Value))) (J:=AS 253 sb (({ R1 with sets:=R1.sets++[Aw J.us.length R1] }:AD).st))
   replace H:=CM r (.slice A5 J.us.length c6) vM vC vR vK J cw ct co sb ({ R1 with sets:=R1.sets++[Aw J.us.length R1] }:AD) (AJ hv1 ((n).toNat) (.slice A13 (((AC R.st n ((R.g ((n).toNat)).att) ((R.g ((n).toNat)).cnt)).getD []).length) c14:Value)) (.slice A42 ((us3++[((.slice A36 ((Aw J.us.length R1).length) c37:Value),Aw J.us.length R1)]).length) c43) (us3++[((.slice A36 ((Aw J.us.length R1).length) c37:Value),Aw J.us.length R1)]) (by rw [List.map_append,hsets4,←hs1];rfl) H
   replace H:=H.h1 (A:=By r (.slice A5 J.us.length c6) vM vC vR vK J cw ct co sb ({ R1 with sets:=R1.sets++[Aw J.us.length R1] }:AD))|>.rec0|>.h1 (A:=ED [])|>.p3
   replace H:=Hd.recN (r:=(⟨4,R.part,n,(R.g (n).toNat).att,0,.slice none 0 0,[],.slice A21 (((AC R.st n ((R.g ((n).toNat)).att) ((R.g ((n).toNat)).cnt)).getD []).length) c22,(AC R.st n (R.g (n).toNat).att (R.g (n).toNat).cnt).getD []⟩:AV)) (H.newnil (Ai .i64))
   replace H:=H.h1 (A:=ED ([]++[(⟨4,R.part,n,(R.g (n).toNat).att,0,.slice none 0 0,[],.slice A21 (((AC R.st n ((R.g ((n).toNat)).att) ((R.g ((n).toNat)).cnt)).getD []).length) c22,(AC R.st n (R.g (n).toNat).att (R.g (n).toNat).cnt).getD []⟩:AV)]))|>.newnil Ag|>.p4
   replace H:=Hd.recN (r:=(⟨5,R1.part,0,0,0,.slice A28 ((Aw J.us.length R1).length) c29,Aw J.us.length R1,.slice none 0 0,[]⟩:AV)) H
   replace H:=H.h1 (A:=ED ([]++[(⟨4,R.part,n,(R.g (n).toNat).att,0,.slice none 0 0,[],.slice A21 (((AC R.st n ((R.g ((n).toNat)).att) ((R.g ((n).toNat)).cnt)).getD []).length) c22,(AC R.st n (R.g (n).toNat).att (R.g (n).toNat).cnt).getD []⟩:AV)]++[(⟨5,R1.part,0,0,0,.slice A28 ((Aw J.us.length R1).length) c29,Aw J.us.length R1,.slice none 0 0,[]⟩:AV)]))|>.p2|>.h1 (A:=Y EQ v48 (([]++[(⟨4,R.part,n,(R.g (n).toNat).att,0,.slice none 0 0,[],.slice A21 (((AC R.st n ((R.g ((n).toNat)).att) ((R.g ((n).toNat)).cnt)).getD []).length) c22,(AC R.st n (R.g (n).toNat).att (R.g (n).toNat).cnt).getD []⟩:AV)]++[(⟨5,R1.part,0,0,0,.slice A28 ((Aw J.us.length R1).length) c29,Aw J.us.length R1,.slice none 0 0,[]⟩:AV)]).map En))|>.recI|>.h1 (A:=Y Bl v48 ([]++[(⟨4,R.part,n,(R.g (n).toNat).att,0,.slice none 0 0,[],.slice A21 (((AC R.st n ((R.g ((n).toNat)).att) ((R.g ((n).toNat)).cnt)).getD []).length) c22,(AC R.st n (R.g (n).toNat).att (R.g (n).toNat).cnt).getD []⟩:AV)]++[(⟨5,R1.part,0,0,0,.slice A28 ((Aw J.us.length R1).length) c29,Aw J.us.length R1,.slice none 0 0,[]⟩:AV)]))
   exact Am ⟨[]++[(⟨4,R.part,n,(R.g (n).toNat).att,0,.slice none 0 0,[],.slice A21 (((AC R.st n ((R.g ((n).toNat)).att) ((R.g ((n).toNat)).cnt)).getD []).length) c22,(AC R.st n (R.g (n).toNat).att (R.g (n).toNat).cnt).getD []⟩:AV)]++[(⟨5,R1.part,0,0,0,.slice A28 ((Aw J.us.length R1).length) c29,Aw J.us.length R1,.slice none 0 0,[]⟩:AV)],by rw [e]<;>rfl,by rw [e,hR1];rfl⟩ H
  refine sc (GR (.slice A28 ((Aw J.us.length R1).length) c29) (Aw J.us.length R1) (by first |assumption|omega)) H (lA 0 U BS l0) U U (At G3 U U) ?_
  rintro v49 _ w rfl H
  replace H:=H.h1 (A:=Y (Ai .i64) v49 (Aw J.us.length R1))|>.pick 10 rfl|>.pick 10 rfl|>.pick 10 rfl|>.pick 10 rfl|>.pick 10 rfl|>.pick 10 rfl|>.pick 10 rfl|>.pick 10 rfl|>.pick 10 rfl|>.pick 10 rfl
  refine AH ⟨_,H⟩ ?_
  refine Hv U U ?_ ?_
  ·refine V U U (An U D_ U (H.cellI 11 U U)) (AH ⟨_,H⟩ (AL U ?_))
   obtain ⟨A51,c52,rfl,hc53,hm54,hp55⟩:=H.fA 10 rfl
   refine BT (parts:=[(0,.tmp 83)]) (vs:=[.slice A51 ((Aw J.us.length R1).length) c52]) (cs:=[.slice A51 ((Aw J.us.length R1).length) c52]) U U U D9 Ej U (by decide) (by decide) U U H (fun b50 w H=>?_)
   replace H:Hd _ _ _ [blk b50 [.slice A51 ((Aw J.us.length R1).length) c52] 24,Y (Ai .i64) (.slice A28 ((Aw J.us.length R1).length) c29) (Aw J.us.length R1),AT (R1.g) (AJ hv1 ((n).toNat) (.slice A13 (((AC R.st n ((R.g ((n).toNat)).att) ((R.g ((n).toNat)).cnt)).getD []).length) c14:Value)),Y (Ak Ag) (.slice A5 J.us.length c6) J.us,Y Af vM J.map,Y Af vC J.comb,Y Af vR J.red,Y (Ai .i64) vK J.marks,AS 253 sb (R1.st),Y Ag (.slice A21 (((AC R.st n ((R.g ((n).toNat)).att) ((R.g ((n).toNat)).cnt)).getD []).length) c22) ((AC R.st n ((R.g ((n).toNat)).att) ((R.g ((n).toNat)).cnt)).getD []),blk b26 [.int .i64 4,.int .i64 R.part,.int .i64 n,.int .i64 ((R.g (n).toNat).att),.int .i64 0,.slice none 0 0,.slice A21 (((AC R.st n ((R.g ((n).toNat)).att) ((R.g ((n).toNat)).cnt)).getD []).length) c22] 37,Y (Ai .i64) (.slice A51 ((Aw J.us.length R1).length) c52) (Aw J.us.length R1),blk r (AK (.slice A5 J.us.length c6) vM vC vR vK J cw ct co R1.part R1.ep R1.g (AJ hv1 ((n).toNat) (.slice A13 (((AC R.st n ((R.g ((n).toNat)).att) ((R.g ((n).toNat)).cnt)).getD []).length) c14:Value)) sb vs2) 185,Y (Ak (Ai .i64)) vs2 us3] []:=H
   replace H:=H.pick 10 rfl|>.pick 10 rfl|>.pick 10 rfl|>.pick 10 rfl|>.pick 10 rfl|>.pick 10 rfl|>.pick 10 rfl|>.pick 10 rfl|>.pick 10 rfl|>.pick 10 rfl
   refine AH ⟨_,H⟩ (AL U ?_)
   replace H:=H.pick 13 rfl|>.pick 12 rfl|>.pick 12 rfl|>.p2
   refine FO U U U D9 Ej U (by decide) U U H (by first |omega|(simp only [List.length_append,List.length_cons,List.length_nil];omega)) (fun v56 w H=>?_)
   replace H:=H.h1 (A:=Y (Ak (Ai .i64)) v56 (us3++[((.slice A51 ((Aw J.us.length R1).length) c52:Value),Aw J.us.length R1)]))|>.pick 10 rfl|>.pick 10 rfl|>.pick 10 rfl|>.pick 10 rfl|>.pick 10 rfl|>.pick 10 rfl|>.pick 10 rfl|>.pick 10 rfl|>.pick 10 rfl|>.pick 10 rfl
   refine AH ⟨_,H⟩ (Ap U U U (fun w ⟨Ar,H⟩=>AI U U) (Ap U U U (fun w ⟨Ar,H⟩=>Aj U Ff U) (AL U ?_)))
   obtain ⟨A57,c58,rfl,hc59,hm60,hp61⟩:=H.fA 10 rfl
   replace H:=H.pick 11 rfl
   refine Bk U U U D_ U U H U (Nat.le_of_ble_eq_true U) (fun u hu=>by simp [Value.cells] at hu;subst hu;rfl) (fun w H=>?_)
   replace H:Hd _ _ _ [blk r (AK (.slice A5 J.us.length c6) vM vC vR vK J cw ct co R1.part R1.ep R1.g (AJ hv1 ((n).toNat) (.slice A13 (((AC R.st n ((R.g ((n).toNat)).att) ((R.g ((n).toNat)).cnt)).getD []).length) c14:Value)) sb (.slice A57 ((us3++[((.slice A51 ((Aw J.us.length R1).length) c52:Value),Aw J.us.length R1)]).length) c58)) 185,Y (Ai .i64) (.slice A28 ((Aw J.us.length R1).length) c29) (Aw J.us.length R1),AT (R1.g) (AJ hv1 ((n).toNat) (.slice A13 (((AC R.st n ((R.g ((n).toNat)).att) ((R.g ((n).toNat)).cnt)).getD []).length) c14:Value)),Y (Ak Ag) (.slice A5 J.us.length c6) J.us,Y Af vM J.map,Y Af vC J.comb,Y Af vR J.red,Y (Ai .i64) vK J.marks,AS 253 sb (R1.st),Y Ag (.slice A21 (((AC R.st n ((R.g ((n).toNat)).att) ((R.g ((n).toNat)).cnt)).getD []).length) c22) ((AC R.st n ((R.g ((n).toNat)).att) ((R.g ((n).toNat)).cnt)).getD []),blk b26 [.int .i64 4,.int .i64 R.part,.int .i64 n,.int .i64 ((R.g (n).toNat).att),.int .i64 0,.slice none 0 0,.slice A21 (((AC R.st n ((R.g ((n).toNat)).att) ((R.g ((n).toNat)).cnt)).getD []).length) c22] 37,Y (Ak (Ai .i64)) (.slice A57 ((us3++[((.slice A51 ((Aw J.us.length R1).length) c52:Value),Aw J.us.length R1)]).length) c58) (us3++[((.slice A51 ((Aw J.us.length R1).length) c52:Value),Aw J.us.length R1)])] []:=H
   replace H:=H.pick 10 rfl|>.pick 10 rfl|>.pick 10 rfl|>.pick 10 rfl|>.pick 10 rfl|>.pick 10 rfl|>.pick 10 rfl|>.pick 10 rfl|>.pick 10 rfl|>.pick 10 rfl
   refine AH ⟨_,H⟩ (BL (Z (Ae (Ah 2 U (V U U (AI U U) (V U U (Aj U H_ U) (V U U (An U AE U (H.cellI 10 U U)) (Ad U (V U U (CL (parts:=[(0,.const (.int .i64 5)),(1,.tmp 92),(5,.tmp 93)]) (vs:=[.int .i64 5,.int .i64 R1.part,.slice A28 ((Aw J.us.length R1).length) c29]) (cs:=[.int .i64 5,.int .i64 R1.part,.int .i64 0,.int .i64 0,.int .i64 0,.slice A28 ((Aw J.us.length R1).length) c29,.slice none 0 0]) U JH U U) (BT (parts:=[(0,.tmp 94)]) (vs:=[.agg #[.int .i64 5,.int .i64 R1.part,.int .i64 0,.int .i64 0,.int .i64 0,.slice A28 ((Aw J.us.length R1).length) c29,.slice none 0 0]]) (cs:=[.int .i64 5,.int .i64 R1.part,.int .i64 0,.int .i64 0,.int .i64 0,.slice A28 ((Aw J.us.length R1).length) c29,.slice none 0 0]) U U U Hi Hr U (by decide) (by decide) U U H (fun b62 w H=>?_)))))))))))
   replace H:=H.h1 (A:=blk b62 [.int .i64 5,.int .i64 R1.part,.int .i64 0,.int .i64 0,.int .i64 0,.slice A28 ((Aw J.us.length R1).length) c29,.slice none 0 0] 37)|>.pick 10 rfl
   replace H:Hd w0 F0 w [Y EQ (.slice (some ⟨b26,0,none⟩) 1 1) [(⟨4,R.part,n,(R.g (n).toNat).att,0,⟨none,0,0⟩,⟨A21,((AC R.st n ((R.g ((n).toNat)).att) ((R.g ((n).toNat)).cnt)).getD []).length,c22⟩⟩:DS)],blk b62 [.int .i64 5,.int .i64 R1.part,.int .i64 0,.int .i64 0,.int .i64 0,.slice A28 ((Aw J.us.length R1).length) c29,.slice none 0 0] 37,Y (Ai .i64) (.slice A28 ((Aw J.us.length R1).length) c29) (Aw J.us.length R1),AT (R1.g) (AJ hv1 ((n).toNat) (.slice A13 (((AC R.st n ((R.g ((n).toNat)).att) ((R.g ((n).toNat)).cnt)).getD []).length) c14:Value)),Y (Ak Ag) (.slice A5 J.us.length c6) J.us,Y Af vM J.map,Y Af vC J.comb,Y Af vR J.red,Y (Ai .i64) vK J.marks,AS 253 sb (R1.st),Y Ag (.slice A21 (((AC R.st n ((R.g ((n).toNat)).att) ((R.g ((n).toNat)).cnt)).getD []).length) c22) ((AC R.st n ((R.g ((n).toNat)).att) ((R.g ((n).toNat)).cnt)).getD []),blk r (AK (.slice A5 J.us.length c6) vM vC vR vK J cw ct co R1.part R1.ep R1.g (AJ hv1 ((n).toNat) (.slice A13 (((AC R.st n ((R.g ((n).toNat)).att) ((R.g ((n).toNat)).cnt)).getD []).length) c14:Value)) sb (.slice A57 ((us3++[((.slice A51 ((Aw J.us.length R1).length) c52:Value),Aw J.us.length R1)]).length) c58)) 185,Y (Ak (Ai .i64)) (.slice A57 ((us3++[((.slice A51 ((Aw J.us.length R1).length) c52:Value),Aw J.us.length R1)]).length) c58) (us3++[((.slice A51 ((Aw J.us.length R1).length) c52:Value),Aw J.us.length R1)])] []:=H.turn (fun F h=>GQ h rfl (by decide) rfl)
   refine CC (xs:=[(⟨4,R.part,n,(R.g (n).toNat).att,0,⟨none,0,0⟩,⟨A21,((AC R.st n ((R.g ((n).toNat)).att) ((R.g ((n).toNat)).cnt)).getD []).length,c22⟩⟩:DS)]) (ys:=[(⟨5,R1.part,0,0,0,⟨A28,(Aw J.us.length R1).length,c29⟩,⟨none,0,0⟩⟩:DS)]) U U U Hi Hr U (by decide) U U H (by first |omega|(simp only [List.length_append,List.length_cons,List.length_nil];omega)) (fun F hA hR=>Ci (hA _ (List.mem_of_getElem? (i:=0) U)) U (by decide) (AY.flat_eq.2 U)) (fun v63 w H=>?_)
   replace H:=H.h1 (A:=Y EQ v63 ([(⟨4,R.part,n,(R.g (n).toNat).att,0,⟨none,0,0⟩,⟨A21,((AC R.st n ((R.g ((n).toNat)).att) ((R.g ((n).toNat)).cnt)).getD []).length,c22⟩⟩:DS)]++[(⟨5,R1.part,0,0,0,⟨A28,(Aw J.us.length R1).length,c29⟩,⟨none,0,0⟩⟩:DS)]))
   refine Ad U (Ac (Z (Ab (Ae (Ah 2 U (Ac (Z (Ao (Aq U U ?_)))))))))
   have e:=LW hnn hto htk hpl hR1 h33
   replace H:=H.p2.pick 10 rfl|>.p2|>.pick 10 rfl|>.pick 12 rfl|>.p6|>.pick 11 rfl|>.pick 11 rfl|>.pick 11 rfl|>.pick 11 rfl|>.pick 11 rfl|>.pick 12 rfl|>.keep 12|>.h9 (A:=blk r (AK (.slice A5 J.us.length c6) vM vC vR vK J cw ct co (({ R1 with sets:=R1.sets++[Aw J.us.length R1] }:AD).part) (({ R1 with sets:=R1.sets++[Aw J.us.length R1] }:AD).ep) (({ R1 with sets:=R1.sets++[Aw J.us.length R1] }:AD).g) (AJ hv1 ((n).toNat) (.slice A13 (((AC R.st n ((R.g ((n).toNat)).att) ((R.g ((n).toNat)).cnt)).getD []).length) c14:Value)) sb (.slice A57 ((us3++[((.slice A51 ((Aw J.us.length R1).length) c52:Value),Aw J.us.length R1)]).length) c58)) 185) (G:=AT (({ R1 with sets:=R1.sets++[Aw J.us.length R1] }:AD).g) (AJ hv1 ((n).toNat) (.slice A13 (((AC R.st n ((R.g ((n).toNat)).att) ((R.g ((n).toNat)).cnt)).getD []).length) c14:Value))) (J:=AS 253 sb (({ R1 with sets:=R1.sets++[Aw J.us.length R1] }:AD).st))
   replace H:=CM r (.slice A5 J.us.length c6) vM vC vR vK J cw ct co sb ({ R1 with sets:=R1.sets++[Aw J.us.length R1] }:AD) (AJ hv1 ((n).toNat) (.slice A13 (((AC R.st n ((R.g ((n).toNat)).att) ((R.g ((n).toNat)).cnt)).getD []).length) c14:Value)) (.slice A57 ((us3++[((.slice A51 ((Aw J.us.length R1).length) c52:Value),Aw J.us.length R1)]).length) c58) (us3++[((.slice A51 ((Aw J.us.length R1).length) c52:Value),Aw J.us.length R1)]) (by rw [List.map_append,hsets4,←hs1];rfl) H
   replace H:=H.h1 (A:=By r (.slice A5 J.us.length c6) vM vC vR vK J cw ct co sb ({ R1 with sets:=R1.sets++[Aw J.us.length R1] }:AD))|>.rec0|>.h1 (A:=ED [])|>.p3
   replace H:=Hd.recN (r:=(⟨4,R.part,n,(R.g (n).toNat).att,0,.slice none 0 0,[],.slice A21 (((AC R.st n ((R.g ((n).toNat)).att) ((R.g ((n).toNat)).cnt)).getD []).length) c22,(AC R.st n (R.g (n).toNat).att (R.g (n).toNat).cnt).getD []⟩:AV)) (H.newnil (Ai .i64))
   replace H:=H.h1 (A:=ED ([]++[(⟨4,R.part,n,(R.g (n).toNat).att,0,.slice none 0 0,[],.slice A21 (((AC R.st n ((R.g ((n).toNat)).att) ((R.g ((n).toNat)).cnt)).getD []).length) c22,(AC R.st n (R.g (n).toNat).att (R.g (n).toNat).cnt).getD []⟩:AV)]))|>.newnil Ag|>.p4
   replace H:=Hd.recN (r:=(⟨5,R1.part,0,0,0,.slice A28 ((Aw J.us.length R1).length) c29,Aw J.us.length R1,.slice none 0 0,[]⟩:AV)) H
   replace H:=H.h1 (A:=ED ([]++[(⟨4,R.part,n,(R.g (n).toNat).att,0,.slice none 0 0,[],.slice A21 (((AC R.st n ((R.g ((n).toNat)).att) ((R.g ((n).toNat)).cnt)).getD []).length) c22,(AC R.st n (R.g (n).toNat).att (R.g (n).toNat).cnt).getD []⟩:AV)]++[(⟨5,R1.part,0,0,0,.slice A28 ((Aw J.us.length R1).length) c29,Aw J.us.length R1,.slice none 0 0,[]⟩:AV)]))|>.p2|>.h1 (A:=Y EQ v63 (([]++[(⟨4,R.part,n,(R.g (n).toNat).att,0,.slice none 0 0,[],.slice A21 (((AC R.st n ((R.g ((n).toNat)).att) ((R.g ((n).toNat)).cnt)).getD []).length) c22,(AC R.st n (R.g (n).toNat).att (R.g (n).toNat).cnt).getD []⟩:AV)]++[(⟨5,R1.part,0,0,0,.slice A28 ((Aw J.us.length R1).length) c29,Aw J.us.length R1,.slice none 0 0,[]⟩:AV)]).map En))|>.recI|>.h1 (A:=Y Bl v63 ([]++[(⟨4,R.part,n,(R.g (n).toNat).att,0,.slice none 0 0,[],.slice A21 (((AC R.st n ((R.g ((n).toNat)).att) ((R.g ((n).toNat)).cnt)).getD []).length) c22,(AC R.st n (R.g (n).toNat).att (R.g (n).toNat).cnt).getD []⟩:AV)]++[(⟨5,R1.part,0,0,0,.slice A28 ((Aw J.us.length R1).length) c29,Aw J.us.length R1,.slice none 0 0,[]⟩:AV)]))
   exact Am ⟨[]++[(⟨4,R.part,n,(R.g (n).toNat).att,0,.slice none 0 0,[],.slice A21 (((AC R.st n ((R.g ((n).toNat)).att) ((R.g ((n).toNat)).cnt)).getD []).length) c22,(AC R.st n (R.g (n).toNat).att (R.g (n).toNat).cnt).getD []⟩:AV)]++[(⟨5,R1.part,0,0,0,.slice A28 ((Aw J.us.length R1).length) c29,Aw J.us.length R1,.slice none 0 0,[]⟩:AV)],by rw [e]<;>rfl,by rw [e,hR1];rfl⟩ H
  obtain ⟨A65,c66,rfl,hc67,hm68,hp69⟩:=H.fA 10 rfl
  refine BT (parts:=[(0,.tmp 83)]) (vs:=[.slice A65 ((Aw J.us.length R1).length) c66]) (cs:=[.slice A65 ((Aw J.us.length R1).length) c66]) U U U D9 Ej U (by decide) (by decide) U U H (fun b64 w H=>?_)
  replace H:Hd _ _ _ [blk b64 [.slice A65 ((Aw J.us.length R1).length) c66] 24,Y (Ai .i64) (.slice A28 ((Aw J.us.length R1).length) c29) (Aw J.us.length R1),AT (R1.g) (AJ hv1 ((n).toNat) (.slice A13 (((AC R.st n ((R.g ((n).toNat)).att) ((R.g ((n).toNat)).cnt)).getD []).length) c14:Value)),Y (Ak Ag) (.slice A5 J.us.length c6) J.us,Y Af vM J.map,Y Af vC J.comb,Y Af vR J.red,Y (Ai .i64) vK J.marks,AS 253 sb (R1.st),Y Ag (.slice A21 (((AC R.st n ((R.g ((n).toNat)).att) ((R.g ((n).toNat)).cnt)).getD []).length) c22) ((AC R.st n ((R.g ((n).toNat)).att) ((R.g ((n).toNat)).cnt)).getD []),blk b26 [.int .i64 4,.int .i64 R.part,.int .i64 n,.int .i64 ((R.g (n).toNat).att),.int .i64 0,.slice none 0 0,.slice A21 (((AC R.st n ((R.g ((n).toNat)).att) ((R.g ((n).toNat)).cnt)).getD []).length) c22] 37,Y (Ai .i64) (.slice A65 ((Aw J.us.length R1).length) c66) (Aw J.us.length R1),blk r (AK (.slice A5 J.us.length c6) vM vC vR vK J cw ct co R1.part R1.ep R1.g (AJ hv1 ((n).toNat) (.slice A13 (((AC R.st n ((R.g ((n).toNat)).att) ((R.g ((n).toNat)).cnt)).getD []).length) c14:Value)) sb vs2) 185,Y (Ak (Ai .i64)) vs2 us3] []:=H
  replace H:=H.pick 10 rfl|>.pick 10 rfl|>.pick 10 rfl|>.pick 10 rfl|>.pick 10 rfl|>.pick 10 rfl|>.pick 10 rfl|>.pick 10 rfl|>.pick 10 rfl|>.pick 10 rfl
  refine AH ⟨_,H⟩ (AL U (V U U (An U D_ U (H.cellI 12 U U)) (AH ⟨_,H⟩ (AL U ?_))))
  replace H:=H.pick 13 rfl|>.pick 12 rfl|>.pick 12 rfl|>.p2
  refine FO U U U D9 Ej U (by decide) U U H (by first |omega|(simp only [List.length_append,List.length_cons,List.length_nil];omega)) (fun v70 w H=>?_)
  replace H:=H.h1 (A:=Y (Ak (Ai .i64)) v70 (us3++[((.slice A65 ((Aw J.us.length R1).length) c66:Value),Aw J.us.length R1)]))|>.pick 10 rfl|>.pick 10 rfl|>.pick 10 rfl|>.pick 10 rfl|>.pick 10 rfl|>.pick 10 rfl|>.pick 10 rfl|>.pick 10 rfl|>.pick 10 rfl|>.pick 10 rfl
  refine AH ⟨_,H⟩ (Ap U U U (fun w ⟨Ar,H⟩=>AI U U) (Ap U U U (fun w ⟨Ar,H⟩=>Aj U Ff U) (AL U ?_)))
  obtain ⟨A71,c72,rfl,hc73,hm74,hp75⟩:=H.fA 10 rfl
  replace H:=H.pick 11 rfl
  refine Bk U U U D_ U U H U (Nat.le_of_ble_eq_true U) (fun u hu=>by simp [Value.cells] at hu;subst hu;rfl) (fun w H=>?_)
  replace H:Hd _ _ _ [blk r (AK (.slice A5 J.us.length c6) vM vC vR vK J cw ct co R1.part R1.ep R1.g (AJ hv1 ((n).toNat) (.slice A13 (((AC R.st n ((R.g ((n).toNat)).att) ((R.g ((n).toNat)).cnt)).getD []).length) c14:Value)) sb (.slice A71 ((us3++[((.slice A65 ((Aw J.us.length R1).length) c66:Value),Aw J.us.length R1)]).length) c72)) 185,Y (Ai .i64) (.slice A28 ((Aw J.us.length R1).length) c29) (Aw J.us.length R1),AT (R1.g) (AJ hv1 ((n).toNat) (.slice A13 (((AC R.st n ((R.g ((n).toNat)).att) ((R.g ((n).toNat)).cnt)).getD []).length) c14:Value)),Y (Ak Ag) (.slice A5 J.us.length c6) J.us,Y Af vM J.map,Y Af vC J.comb,Y Af vR J.red,Y (Ai .i64) vK J.marks,AS 253 sb (R1.st),Y Ag (.slice A21 (((AC R.st n ((R.g ((n).toNat)).att) ((R.g ((n).toNat)).cnt)).getD []).length) c22) ((AC R.st n ((R.g ((n).toNat)).att) ((R.g ((n).toNat)).cnt)).getD []),blk b26 [.int .i64 4,.int .i64 R.part,.int .i64 n,.int .i64 ((R.g (n).toNat).att),.int .i64 0,.slice none 0 0,.slice A21 (((AC R.st n ((R.g ((n).toNat)).att) ((R.g ((n).toNat)).cnt)).getD []).length) c22] 37,Y (Ak (Ai .i64)) (.slice A71 ((us3++[((.slice A65 ((Aw J.us.length R1).length) c66:Value),Aw J.us.length R1)]).length) c72) (us3++[((.slice A65 ((Aw J.us.length R1).length) c66:Value),Aw J.us.length R1)])] []:=H
  replace H:=H.pick 10 rfl|>.pick 10 rfl|>.pick 10 rfl|>.pick 10 rfl|>.pick 10 rfl|>.pick 10 rfl|>.pick 10 rfl|>.pick 10 rfl|>.pick 10 rfl|>.pick 10 rfl
  refine AH ⟨_,H⟩ (BL (Z (Ae (Ah 2 U (V U U (AI U U) (V U U (Aj U H_ U) (V U U (An U AE U (H.cellI 10 U U)) (Ad U (V U U (CL (parts:=[(0,.const (.int .i64 5)),(1,.tmp 92),(5,.tmp 93)]) (vs:=[.int .i64 5,.int .i64 R1.part,.slice A28 ((Aw J.us.length R1).length) c29]) (cs:=[.int .i64 5,.int .i64 R1.part,.int .i64 0,.int .i64 0,.int .i64 0,.slice A28 ((Aw J.us.length R1).length) c29,.slice none 0 0]) U JH U U) (BT (parts:=[(0,.tmp 94)]) (vs:=[.agg #[.int .i64 5,.int .i64 R1.part,.int .i64 0,.int .i64 0,.int .i64 0,.slice A28 ((Aw J.us.length R1).length) c29,.slice none 0 0]]) (cs:=[.int .i64 5,.int .i64 R1.part,.int .i64 0,.int .i64 0,.int .i64 0,.slice A28 ((Aw J.us.length R1).length) c29,.slice none 0 0]) U U U Hi Hr U (by decide) (by decide) U U H (fun b76 w H=>?_)))))))))))
  replace H:=H.h1 (A:=blk b76 [.int .i64 5,.int .i64 R1.part,.int .i64 0,.int .i64 0,.int .i64 0,.slice A28 ((Aw J.us.length R1).length) c29,.slice none 0 0] 37)|>.pick 10 rfl
  replace H:Hd w0 F0 w [Y EQ (.slice (some ⟨b26,0,none⟩) 1 1) [(⟨4,R.part,n,(R.g (n).toNat).att,0,⟨none,0,0⟩,⟨A21,((AC R.st n ((R.g ((n).toNat)).att) ((R.g ((n).toNat)).cnt)).getD []).length,c22⟩⟩:DS)],blk b76 [.int .i64 5,.int .i64 R1.part,.int .i64 0,.int .i64 0,.int .i64 0,.slice A28 ((Aw J.us.length R1).length) c29,.slice none 0 0] 37,Y (Ai .i64) (.slice A28 ((Aw J.us.length R1).length) c29) (Aw J.us.length R1),AT (R1.g) (AJ hv1 ((n).toNat) (.slice A13 (((AC R.st n ((R.g ((n).toNat)).att) ((R.g ((n).toNat)).cnt)).getD []).length) c14:Value)),Y (Ak Ag) (.slice A5 J.us.length c6) J.us,Y Af vM J.map,Y Af vC J.comb,Y Af vR J.red,Y (Ai .i64) vK J.marks,AS 253 sb (R1.st),Y Ag (.slice A21 (((AC R.st n ((R.g ((n).toNat)).att) ((R.g ((n).toNat)).cnt)).getD []).length) c22) ((AC R.st n ((R.g ((n).toNat)).att) ((R.g ((n).toNat)).cnt)).getD []),blk r (AK (.slice A5 J.us.length c6) vM vC vR vK J cw ct co R1.part R1.ep R1.g (AJ hv1 ((n).toNat) (.slice A13 (((AC R.st n ((R.g ((n).toNat)).att) ((R.g ((n).toNat)).cnt)).getD []).length) c14:Value)) sb (.slice A71 ((us3++[((.slice A65 ((Aw J.us.length R1).length) c66:Value),Aw J.us.length R1)]).length) c72)) 185,Y (Ak (Ai .i64)) (.slice A71 ((us3++[((.slice A65 ((Aw J.us.length R1).length) c66:Value),Aw J.us.length R1)]).length) c72) (us3++[((.slice A65 ((Aw J.us.length R1).length) c66:Value),Aw J.us.length R1)])] []:=H.turn (fun F h=>GQ h rfl (by decide) rfl)
  refine CC (xs:=[(⟨4,R.part,n,(R.g (n).toNat).att,0,⟨none,0,0⟩,⟨A21,((AC R.st n ((R.g ((n).toNat)).att) ((R.g ((n).toNat)).cnt)).getD []).length,c22⟩⟩:DS)]) (ys:=[(⟨5,R1.part,0,0,0,⟨A28,(Aw J.us.length R1).length,c29⟩,⟨none,0,0⟩⟩:DS)]) U U U Hi Hr U (by decide) U U H (by first |omega|(simp only [List.length_append,List.length_cons,List.length_nil];omega)) (fun F hA hR=>Ci (hA _ (List.mem_of_getElem? (i:=0) U)) U (by decide) (AY.flat_eq.2 U)) (fun v77 w H=>?_)
  replace H:=H.h1 (A:=Y EQ v77 ([(⟨4,R.part,n,(R.g (n).toNat).att,0,⟨none,0,0⟩,⟨A21,((AC R.st n ((R.g ((n).toNat)).att) ((R.g ((n).toNat)).cnt)).getD []).length,c22⟩⟩:DS)]++[(⟨5,R1.part,0,0,0,⟨A28,(Aw J.us.length R1).length,c29⟩,⟨none,0,0⟩⟩:DS)]))
  refine Ad U (Ac (Z (Ab (Ae (Ah 2 U (Ac (Z (Ao (Aq U U ?_)))))))))
  have e:=LW hnn hto htk hpl hR1 h33
  replace H:=H.p2.pick 10 rfl|>.p2|>.pick 10 rfl|>.pick 12 rfl|>.p6|>.pick 11 rfl|>.pick 11 rfl|>.pick 11 rfl|>.pick 11 rfl|>.pick 11 rfl|>.pick 12 rfl|>.keep 12|>.h9 (A:=blk r (AK (.slice A5 J.us.length c6) vM vC vR vK J cw ct co (({ R1 with sets:=R1.sets++[Aw J.us.length R1] }:AD).part) (({ R1 with sets:=R1.sets++[Aw J.us.length R1] }:AD).ep) (({ R1 with sets:=R1.sets++[Aw J.us.length R1] }:AD).g) (AJ hv1 ((n).toNat) (.slice A13 (((AC R.st n ((R.g ((n).toNat)).att) ((R.g ((n).toNat)).cnt)).getD []).length) c14:Value)) sb (.slice A71 ((us3++[((.slice A65 ((Aw J.us.length R1).length) c66:Value),Aw J.us.length R1)]).length) c72)) 185) (G:=AT (({ R1 with sets:=R1.sets++[Aw J.us.length R1] }:AD).g) (AJ hv1 ((n).toNat) (.slice A13 (((AC R.st n ((R.g ((n).toNat)).att) ((R.g ((n).toNat)).cnt)).getD []).length) c14:Value))) (J:=AS 253 sb (({ R1 with sets:=R1.sets++[Aw J.us.length R1] }:AD).st))
  replace H:=CM r (.slice A5 J.us.length c6) vM vC vR vK J cw ct co sb ({ R1 with sets:=R1.sets++[Aw J.us.length R1] }:AD) (AJ hv1 ((n).toNat) (.slice A13 (((AC R.st n ((R.g ((n).toNat)).att) ((R.g ((n).toNat)).cnt)).getD []).length) c14:Value)) (.slice A71 ((us3++[((.slice A65 ((Aw J.us.length R1).length) c66:Value),Aw J.us.length R1)]).length) c72) (us3++[((.slice A65 ((Aw J.us.length R1).length) c66:Value),Aw J.us.length R1)]) (by rw [List.map_append,hsets4,←hs1];rfl) H
  replace H:=H.h1 (A:=By r (.slice A5 J.us.length c6) vM vC vR vK J cw ct co sb ({ R1 with sets:=R1.sets++[Aw J.us.length R1] }:AD))|>.rec0|>.h1 (A:=ED [])|>.p3
  replace H:=Hd.recN (r:=(⟨4,R.part,n,(R.g (n).toNat).att,0,.slice none 0 0,[],.slice A21 (((AC R.st n ((R.g ((n).toNat)).att) ((R.g ((n).toNat)).cnt)).getD []).length) c22,(AC R.st n (R.g (n).toNat).att (R.g (n).toNat).cnt).getD []⟩:AV)) (H.newnil (Ai .i64))
  replace H:=H.h1 (A:=ED ([]++[(⟨4,R.part,n,(R.g (n).toNat).att,0,.slice none 0 0,[],.slice A21 (((AC R.st n ((R.g ((n).toNat)).att) ((R.g ((n).toNat)).cnt)).getD []).length) c22,(AC R.st n (R.g (n).toNat).att (R.g (n).toNat).cnt).getD []⟩:AV)]))|>.newnil Ag|>.p4
  replace H:=Hd.recN (r:=(⟨5,R1.part,0,0,0,.slice A28 ((Aw J.us.length R1).length) c29,Aw J.us.length R1,.slice none 0 0,[]⟩:AV)) H
  replace H:=H.h1 (A:=ED ([]++[(⟨4,R.part,n,(R.g (n).toNat).att,0,.slice none 0 0,[],.slice A21 (((AC R.st n ((R.g ((n).toNat)).att) ((R.g ((n).toNat)).cnt)).getD []).length) c22,(AC R.st n (R.g (n).toNat).att (R.g (n).toNat).cnt).getD []⟩:AV)]++[(⟨5,R1.part,0,0,0,.slice A28 ((Aw J.us.length R1).length) c29,Aw J.us.length R1,.slice none 0 0,[]⟩:AV)]))|>.p2|>.h1 (A:=Y EQ v77 (([]++[(⟨4,R.part,n,(R.g (n).toNat).att,0,.slice none 0 0,[],.slice A21 (((AC R.st n ((R.g ((n).toNat)).att) ((R.g ((n).toNat)).cnt)).getD []).length) c22,(AC R.st n (R.g (n).toNat).att (R.g (n).toNat).cnt).getD []⟩:AV)]++[(⟨5,R1.part,0,0,0,.slice A28 ((Aw J.us.length R1).length) c29,Aw J.us.length R1,.slice none 0 0,[]⟩:AV)]).map En))|>.recI|>.h1 (A:=Y Bl v77 ([]++[(⟨4,R.part,n,(R.g (n).toNat).att,0,.slice none 0 0,[],.slice A21 (((AC R.st n ((R.g ((n).toNat)).att) ((R.g ((n).toNat)).cnt)).getD []).length) c22,(AC R.st n (R.g (n).toNat).att (R.g (n).toNat).cnt).getD []⟩:AV)]++[(⟨5,R1.part,0,0,0,.slice A28 ((Aw J.us.length R1).length) c29,Aw J.us.length R1,.slice none 0 0,[]⟩:AV)]))
  exact Am ⟨[]++[(⟨4,R.part,n,(R.g (n).toNat).att,0,.slice none 0 0,[],.slice A21 (((AC R.st n ((R.g ((n).toNat)).att) ((R.g ((n).toNat)).cnt)).getD []).length) c22,(AC R.st n (R.g (n).toNat).att (R.g (n).toNat).cnt).getD []⟩:AV)]++[(⟨5,R1.part,0,0,0,.slice A28 ((Aw J.us.length R1).length) c29,Aw J.us.length R1,.slice none 0 0,[]⟩:AV)],by rw [e]<;>rfl,by rw [e,hR1];rfl⟩ H
 refine Av (Z (Ab (Ae (Ah 2 U (Ac (Z (Ao (Aq U U ?_))))))))
 replace H:=H.pick 11 rfl
 replace H:Hd _ _ _ [blk b26 [.int .i64 4,.int .i64 R.part,.int .i64 n,.int .i64 ((R.g (n).toNat).att),.int .i64 0,.slice none 0 0,.slice A21 (((AC R.st n ((R.g ((n).toNat)).att) ((R.g ((n).toNat)).cnt)).getD []).length) c22] 37,Y (Ai .i64) (.slice A28 ((Aw J.us.length R1).length) c29) (Aw J.us.length R1),AT (R1.g) (AJ hv1 ((n).toNat) (.slice A13 (((AC R.st n ((R.g ((n).toNat)).att) ((R.g ((n).toNat)).cnt)).getD []).length) c14:Value)),blk r (AK (.slice A5 J.us.length c6) vM vC vR vK J cw ct co R1.part R1.ep R1.g (AJ hv1 ((n).toNat) (.slice A13 (((AC R.st n ((R.g ((n).toNat)).att) ((R.g ((n).toNat)).cnt)).getD []).length) c14:Value)) sb vs2) 185,Y (Ak Ag) (.slice A5 J.us.length c6) J.us,Y Af vM J.map,Y Af vC J.comb,Y Af vR J.red,Y (Ai .i64) vK J.marks,Y (Ak (Ai .i64)) vs2 us3,AS 253 sb (R1.st),Y Ag (.slice A21 (((AC R.st n ((R.g ((n).toNat)).att) ((R.g ((n).toNat)).cnt)).getD []).length) c22) ((AC R.st n ((R.g ((n).toNat)).att) ((R.g ((n).toNat)).cnt)).getD [])] []:=H
 replace H:Hd w0 F0 w [Y EQ (.slice (some ⟨b26,0,none⟩) 1 1) [(⟨4,R.part,n,(R.g (n).toNat).att,0,⟨none,0,0⟩,⟨A21,((AC R.st n ((R.g ((n).toNat)).att) ((R.g ((n).toNat)).cnt)).getD []).length,c22⟩⟩:DS)],Y (Ai .i64) (.slice A28 ((Aw J.us.length R1).length) c29) (Aw J.us.length R1),AT (R1.g) (AJ hv1 ((n).toNat) (.slice A13 (((AC R.st n ((R.g ((n).toNat)).att) ((R.g ((n).toNat)).cnt)).getD []).length) c14:Value)),blk r (AK (.slice A5 J.us.length c6) vM vC vR vK J cw ct co R1.part R1.ep R1.g (AJ hv1 ((n).toNat) (.slice A13 (((AC R.st n ((R.g ((n).toNat)).att) ((R.g ((n).toNat)).cnt)).getD []).length) c14:Value)) sb vs2) 185,Y (Ak Ag) (.slice A5 J.us.length c6) J.us,Y Af vM J.map,Y Af vC J.comb,Y Af vR J.red,Y (Ai .i64) vK J.marks,Y (Ak (Ai .i64)) vs2 us3,AS 253 sb (R1.st),Y Ag (.slice A21 (((AC R.st n ((R.g ((n).toNat)).att) ((R.g ((n).toNat)).cnt)).getD []).length) c22) ((AC R.st n ((R.g ((n).toNat)).att) ((R.g ((n).toNat)).cnt)).getD [])] []:=H.turn (fun F h=>GQ h rfl (by decide) rfl)
 have e:=VK hnn hto htk hpl hR1 h33
 replace H:=H.pick 11 rfl|>.p1|>.pick 11 rfl|>.pick 11 rfl|>.p5|>.pick 11 rfl|>.pick 11 rfl|>.pick 11 rfl|>.pick 11 rfl|>.pick 11 rfl|>.pick 11 rfl|>.keep 11
 replace H:=CM r (.slice A5 J.us.length c6) vM vC vR vK J cw ct co sb R1 (AJ hv1 ((n).toNat) (.slice A13 (((AC R.st n ((R.g ((n).toNat)).att) ((R.g ((n).toNat)).cnt)).getD []).length) c14:Value)) vs2 us3 (hsets4.trans hs1.symm) H
 replace H:=H.h1 (A:=By r (.slice A5 J.us.length c6) vM vC vR vK J cw ct co sb R1)|>.rec0|>.h1 (A:=ED [])|>.p3
 replace H:=Hd.recN (r:=(⟨4,R.part,n,(R.g (n).toNat).att,0,.slice none 0 0,[],.slice A21 (((AC R.st n ((R.g ((n).toNat)).att) ((R.g ((n).toNat)).cnt)).getD []).length) c22,(AC R.st n (R.g (n).toNat).att (R.g (n).toNat).cnt).getD []⟩:AV)) (H.newnil (Ai .i64))
 replace H:=H.h1 (A:=ED ([]++[(⟨4,R.part,n,(R.g (n).toNat).att,0,.slice none 0 0,[],.slice A21 (((AC R.st n ((R.g ((n).toNat)).att) ((R.g ((n).toNat)).cnt)).getD []).length) c22,(AC R.st n (R.g (n).toNat).att (R.g (n).toNat).cnt).getD []⟩:AV)]))|>.p2|>.h1 (A:=Y EQ (.slice (some ⟨b26,0,none⟩) 1 1) (([]++[(⟨4,R.part,n,(R.g (n).toNat).att,0,.slice none 0 0,[],.slice A21 (((AC R.st n ((R.g ((n).toNat)).att) ((R.g ((n).toNat)).cnt)).getD []).length) c22,(AC R.st n (R.g (n).toNat).att (R.g (n).toNat).cnt).getD []⟩:AV)]).map En))|>.recI|>.h1 (A:=Y Bl (.slice (some ⟨b26,0,none⟩) 1 1) ([]++[(⟨4,R.part,n,(R.g (n).toNat).att,0,.slice none 0 0,[],.slice A21 (((AC R.st n ((R.g ((n).toNat)).att) ((R.g ((n).toNat)).cnt)).getD []).length) c22,(AC R.st n (R.g (n).toNat).att (R.g (n).toNat).cnt).getD []⟩:AV)]))
 exact Am ⟨[]++[(⟨4,R.part,n,(R.g (n).toNat).att,0,.slice none 0 0,[],.slice A21 (((AC R.st n ((R.g ((n).toNat)).att) ((R.g ((n).toNat)).cnt)).getD []).length) c22,(AC R.st n (R.g (n).toNat).att (R.g (n).toNat).cnt).getD []⟩:AV)],by rw [e]<;>rfl,by rw [e,hR1];rfl⟩ H
theorem Mx (r:Nat) (vS:Value) (vM:Value) (vC:Value) (vR:Value) (vK:Value) (J:AG) (cw:Int) (ct:Int) (co:Int) (sb:Nat) (R:AD) (sp:Int) (att:Int) (cnt:Int) (h6:J.us.length≤6) (hB:Bw 100000 R) (hmk:J.marks.length≤1000):
    Cn Tryz.prog 49 [.pointer (some ⟨r,0,none⟩),.int .i64 sp,.int .i64 att,.int .i64 cnt] [By r vS vM vC vR vK J cw ct co sb R] [] (fun v Bs=>∃ rs:List AV,Bs=[Y Bl v rs,By r vS vM vC vR vK J cw ct co sb ((Db J ct R sp att cnt).1)]∧(rs.map AV.p=(Db J ct R sp att cnt).2)):=by
 intro w0 F0 H
 obtain ⟨hv1,vs2,us3,hsets4,H⟩:=FN r vS vM vC vR vK J cw ct co sb R H
 replace H:Hd _ _ _ [blk r (AK vS vM vC vR vK J cw ct co R.part R.ep R.g hv1 sb vs2) 185,Y (Ak Ag) vS J.us,Y Af vM J.map,Y Af vC J.comb,Y Af vR J.red,Y (Ai .i64) vK J.marks,AT (R.g) hv1,Y (Ak (Ai .i64)) vs2 us3,AS 253 sb (R.st)] []:=H
 obtain ⟨A5,c6,rfl,hc7,hm8,hp9⟩:=H.fA 1 rfl
 refine enter Tryz.func49 U U (Nat.le_of_ble_eq_true U) (Ab (Ae (Ad U (Ac (Z (Ab ?_))))))
 by_cases hin10:0≤sp∧sp<((J.us.length:Nat):Int)
 ·refine Ae (Ah 2 U (sc (KP r A5 J.us.length c6 vM vC vR vK J cw ct co R.part R.ep R.g hv1 sb vs2 sp (by first |assumption|omega) (by first |assumption|omega)) H (lA 0 U (fun _ h=>h) l0) U U (At Ig U U) ?_))
  rintro _ _ w ⟨rfl,rfl⟩ H
  refine Ad U (Ac (Z (Ab (Ab (Ae (Ad U (V U U (C3 U IL U U) (Ah 2 U (V U U (AI U U) (V U U (Aj U FG U) (V U U (An U Ds U (H.cellI 0 U (GD (by omega)))) (Ah 2 U ?_))))))))))))
  refine Em (d:=21) (b:=(R.g ((sp).toNat)).merged) U (fun h11=>?_) (fun h11=>?_)
  ·refine Ah 12 U (Ah 6 U (Ac (Z (Cc U (Ab (Ae (Ad U (Ac (Z (Ao (Az (Aq U U ?_))))))))))))
   have e:Db J ct R sp att cnt=(R,[]):=if_pos (.inr (.inl (by simpa using h11)))
   replace H:=H.newnil Bl|>.p9|>.p9|>.p9|>.p9|>.p9|>.p9|>.p9|>.p9|>.p9
   replace H:=CM r (.slice A5 J.us.length c6) vM vC vR vK J cw ct co sb R hv1 vs2 us3 hsets4 H
   replace H:=H.h1 (A:=By r (.slice A5 J.us.length c6) vM vC vR vK J cw ct co sb R)|>.p1
   exact Am ⟨[],by rw [e]<;>rfl,by rw [e];rfl⟩ H
  refine Ad U (V U U (AI U U) (V U U (Aj U Ll U) (V U U (An U Ds U (H.cellI 0 U (Qn (by omega)))) (Ah 2 U ?_))))
  refine Em (d:=27) (b:=(R.g ((sp).toNat)).told) U (fun h12=>?_) (fun h12=>?_)
  ·refine Ah 12 U (Ac (Z (Cc U (Ab (Ae (Ad U (Ac (Z (Ao (Az (Aq U U ?_)))))))))))
   have e:Db J ct R sp att cnt=(R,[]):=if_pos (.inr (.inr (.inl (by simpa using h12))))
   replace H:=H.newnil Bl|>.p9|>.p9|>.p9|>.p9|>.p9|>.p9|>.p9|>.p9|>.p9
   replace H:=CM r (.slice A5 J.us.length c6) vM vC vR vK J cw ct co sb R hv1 vs2 us3 hsets4 H
   replace H:=H.h1 (A:=By r (.slice A5 J.us.length c6) vM vC vR vK J cw ct co sb R)|>.p1
   exact Am ⟨[],by rw [e]<;>rfl,by rw [e];rfl⟩ H
  refine Ad U (V U U (Bg U U U) (Ah 2 U ?_))
  refine AQ (d:=31) U (fun h13=>?_) (fun h13=>?_)
  ·refine Ah 8 U (Ac (Z (Cc U (Ab (Ae (Ad U (Ac (Z (Ao (Az (Aq U U ?_)))))))))))
   have e:Db J ct R sp att cnt=(R,[]):=if_pos (.inr (.inr (.inr (.inl h13))))
   replace H:=H.newnil Bl|>.p9|>.p9|>.p9|>.p9|>.p9|>.p9|>.p9|>.p9|>.p9
   replace H:=CM r (.slice A5 J.us.length c6) vM vC vR vK J cw ct co sb R hv1 vs2 us3 hsets4 H
   replace H:=H.h1 (A:=By r (.slice A5 J.us.length c6) vM vC vR vK J cw ct co sb R)|>.p1
   exact Am ⟨[],by rw [e]<;>rfl,by rw [e];rfl⟩ H
  refine Ah 2 U (V U U (AI U U) (V U U (Aj U Gp U) (V U U (Aj U J0 U) (V U U (An U AE U (H.cellI 0 U U)) (V U U (Cd U U U) (Ad U (Ac (Z ?_))))))))
  refine Ay U (fun h14=>?_) (fun h14=>?_)
  ·refine Ab (Ae (Ad U (Ac (Z (Ao (Az (Aq U U ?_)))))))
   have e:Db J ct R sp att cnt=(R,[]):=if_pos (.inr (.inr (.inr (.inr (by omega)))))
   replace H:=H.newnil Bl|>.p9|>.p9|>.p9|>.p9|>.p9|>.p9|>.p9|>.p9|>.p9
   replace H:=CM r (.slice A5 J.us.length c6) vM vC vR vK J cw ct co sb R hv1 vs2 us3 hsets4 H
   replace H:=H.h1 (A:=By r (.slice A5 J.us.length c6) vM vC vR vK J cw ct co sb R)|>.p1
   exact Am ⟨[],by rw [e]<;>rfl,by rw [e];rfl⟩ H
  refine Av (Z (Ab (Ae (Ah 5 U (V U U (AI U U) (V U U (Aj U Ll U) (Bk U U U Ds U U H U (by show 14+((sp).toNat)*5+2+1≤46;omega) (fun u hu=>by simp [Value.cells] at hu;subst hu;rfl) (fun w H=>?_))))))))
  replace H:Hd w0 F0 w [blk r (AK (.slice A5 J.us.length c6) vM vC vR vK J cw ct co R.part R.ep (AJ R.g ((sp).toNat) { R.g ((sp).toNat) with told:=true }) hv1 sb vs2) 185,Y (Ak Ag) (.slice A5 J.us.length c6) J.us,Y Af vM J.map,Y Af vC J.comb,Y Af vR J.red,Y (Ai .i64) vK J.marks,AT (R.g) hv1,Y (Ak (Ai .i64)) vs2 us3,AS 253 sb (R.st)] []:=by rw [←X6 (show (sp).toNat<6 by omega) true];exact H
  refine V U U (AI U U) (V U U (Aj U Lm U) (Bk U U U AE U U H U (by show 14+((sp).toNat)*5+3+1≤46;omega) (fun u hu=>by simp [Value.cells] at hu;subst hu;rfl) (fun w H=>?_)))
  replace H:Hd w0 F0 w [blk r (AK (.slice A5 J.us.length c6) vM vC vR vK J cw ct co R.part R.ep (AJ (AJ R.g ((sp).toNat) { R.g ((sp).toNat) with told:=true }) ((sp).toNat) { (AJ R.g ((sp).toNat) { R.g ((sp).toNat) with told:=true }) ((sp).toNat) with att:=att }) hv1 sb vs2) 185,Y (Ak Ag) (.slice A5 J.us.length c6) J.us,Y Af vM J.map,Y Af vC J.comb,Y Af vR J.red,Y (Ai .i64) vK J.marks,AT (R.g) hv1,Y (Ak (Ai .i64)) vs2 us3,AS 253 sb (R.st)] []:=by rw [←X7 (show (sp).toNat<6 by omega) att];exact H
  refine V U U (AI U U) (V U U (Aj U Od U) (Bk U U U AE U U H U (by show 14+((sp).toNat)*5+4+1≤46;omega) (fun u hu=>by simp [Value.cells] at hu;subst hu;rfl) (fun w H=>?_)))
  replace H:Hd w0 F0 w [blk r (AK (.slice A5 J.us.length c6) vM vC vR vK J cw ct co R.part R.ep (AJ (AJ (AJ R.g ((sp).toNat) { R.g ((sp).toNat) with told:=true }) ((sp).toNat) { (AJ R.g ((sp).toNat) { R.g ((sp).toNat) with told:=true }) ((sp).toNat) with att:=att }) ((sp).toNat) { (AJ (AJ R.g ((sp).toNat) { R.g ((sp).toNat) with told:=true }) ((sp).toNat) { (AJ R.g ((sp).toNat) { R.g ((sp).toNat) with told:=true }) ((sp).toNat) with att:=att }) ((sp).toNat) with cnt:=cnt }) hv1 sb vs2) 185,Y (Ak Ag) (.slice A5 J.us.length c6) J.us,Y Af vM J.map,Y Af vC J.comb,Y Af vR J.red,Y (Ai .i64) vK J.marks,AT (R.g) hv1,Y (Ak (Ai .i64)) vs2 us3,AS 253 sb (R.st)] []:=by rw [←X8 (show (sp).toNat<6 by omega) cnt];exact H
  refine Ac (Z (Ab ?_))
  rw [show AJ (AJ (AJ R.g ((sp).toNat) { R.g ((sp).toNat) with told:=true }) ((sp).toNat) { (AJ R.g ((sp).toNat) { R.g ((sp).toNat) with told:=true }) ((sp).toNat) with att:=att }) ((sp).toNat) { (AJ (AJ R.g ((sp).toNat) { R.g ((sp).toNat) with told:=true }) ((sp).toNat) { (AJ R.g ((sp).toNat) { R.g ((sp).toNat) with told:=true }) ((sp).toNat) with att:=att }) ((sp).toNat) with cnt:=cnt }=AJ R.g (sp).toNat { R.g (sp).toNat with told:=true,att:=att,cnt:=cnt } from by simp only [YO,DB]] at H
  replace H:Hd _ _ _ [blk r (AK (.slice A5 J.us.length c6) vM vC vR vK J cw ct co R.part R.ep (AJ R.g (sp).toNat { R.g (sp).toNat with told:=true,att:=att,cnt:=cnt }) hv1 sb vs2) 185,Y (Ak Ag) (.slice A5 J.us.length c6) J.us,Y Af vM J.map,Y Af vC J.comb,Y Af vR J.red,Y (Ai .i64) vK J.marks,AT (R.g) hv1,Y (Ak (Ai .i64)) vs2 us3,AS 253 sb (R.st)] []:=H
  rw [Xn (g:=R.g) (g':=AJ R.g (sp).toNat { R.g (sp).toNat with told:=true,att:=att,cnt:=cnt }) (QP rfl)] at H
  replace H:Hd _ _ _ [blk r (AK (.slice A5 J.us.length c6) vM vC vR vK J cw ct co R.part R.ep (AJ R.g (sp).toNat { R.g (sp).toNat with told:=true,att:=att,cnt:=cnt }) hv1 sb vs2) 185,Y (Ak Ag) (.slice A5 J.us.length c6) J.us,Y Af vM J.map,Y Af vC J.comb,Y Af vR J.red,Y (Ai .i64) vK J.marks,AT (AJ R.g (sp).toNat { R.g (sp).toNat with told:=true,att:=att,cnt:=cnt }) hv1,Y (Ak (Ai .i64)) vs2 us3,AS 253 sb (R.st)] []:=H
  have hB2:Bw 100000 ({ R with g:=AJ R.g (sp).toNat { R.g (sp).toNat with told:=true,att:=att,cnt:=cnt } }:AD):=⟨fun i=>by show (AJ R.g (sp).toNat { R.g (sp).toNat with told:=true,att:=att,cnt:=cnt } i).pairs.length≤1000;rw [←QP (k:=(sp).toNat) (x:={ R.g (sp).toNat with told:=true,att:=att,cnt:=cnt }) rfl];exact hB.pairs i,hB.st,hB.sets,hB.setl⟩
  replace H:=H.h9 (A:=blk r (AK (.slice A5 J.us.length c6) vM vC vR vK J cw ct co (({ R with g:=AJ R.g (sp).toNat { R.g (sp).toNat with told:=true,att:=att,cnt:=cnt } }:AD).part) (({ R with g:=AJ R.g (sp).toNat { R.g (sp).toNat with told:=true,att:=att,cnt:=cnt } }:AD).ep) (({ R with g:=AJ R.g (sp).toNat { R.g (sp).toNat with told:=true,att:=att,cnt:=cnt } }:AD).g) hv1 sb vs2) 185) (G:=AT (({ R with g:=AJ R.g (sp).toNat { R.g (sp).toNat with told:=true,att:=att,cnt:=cnt } }:AD).g) hv1) (J:=AS 253 sb (({ R with g:=AJ R.g (sp).toNat { R.g (sp).toNat with told:=true,att:=att,cnt:=cnt } }:AD).st))
  replace H:=CM r (.slice A5 J.us.length c6) vM vC vR vK J cw ct co sb ({ R with g:=AJ R.g (sp).toNat { R.g (sp).toNat with told:=true,att:=att,cnt:=cnt } }:AD) hv1 vs2 us3 hsets4 H
  replace H:=H.h1 (A:=By r (.slice A5 J.us.length c6) vM vC vR vK J cw ct co sb ({ R with g:=AJ R.g (sp).toNat { R.g (sp).toNat with told:=true,att:=att,cnt:=cnt } }:AD))
  refine Ae (Ah 3 U (sc (Pm r (.slice A5 J.us.length c6) vM vC vR vK J cw ct co sb ({ R with g:=AJ R.g (sp).toNat { R.g (sp).toNat with told:=true,att:=att,cnt:=cnt } }:AD) sp (by first |assumption|omega) (by first |assumption|omega) (by first |assumption|omega) (by first |assumption|omega)) H l0 U U (At OM U U) ?_))
  rintro v17 _ w ⟨rs15,rfl,hf16⟩ H
  replace H:=H.h2 (A:=Y Bl v17 rs15) (B:=By r (.slice A5 J.us.length c6) vM vC vR vK J cw ct co sb ((CG J ({ R with g:=AJ R.g (sp).toNat { R.g (sp).toNat with told:=true,att:=att,cnt:=cnt } }:AD) (sp).toNat).1))
  refine Ad U (Ac (Z (Ao (Aq U U ?_))))
  have e:Db J ct R sp att cnt=CG J ({ R with g:=AJ R.g (sp).toNat { R.g (sp).toNat with told:=true,att:=att,cnt:=cnt } }:AD) (sp).toNat:=if_neg (fun h=>by rcases h with h|h|h|h|h;exact h hin10;exact absurd h (by rw [h11];decide);exact absurd h (by rw [h12];decide);omega;omega)
  exact Am ⟨rs15,by rw [e]<;>rfl,by rw [e];exact hf16⟩ H
 refine Ae (Ah 2 U (sc (KO r A5 J.us.length c6 vM vC vR vK J cw ct co R.part R.ep R.g hv1 sb vs2 sp (by first |assumption|omega)) H (lA 0 U (fun _ h=>h) l0) U U (At Ig U U) ?_))
 rintro _ _ w ⟨rfl,rfl⟩ H
 refine Ad U (Ac (Z (Ab (Ab (Ae (Ad U (V U U (C3 U IL U U) (Ah 12 U (Ah 12 U (Ad U (Ac (Z (Cc U (Ab (Ae (Ad U (Ac (Z (Ao (Az (Aq U U ?_)))))))))))))))))))))
 have e:Db J ct R sp att cnt=(R,[]):=if_pos (.inl hin10)
 replace H:=H.newnil Bl|>.p9|>.p9|>.p9|>.p9|>.p9|>.p9|>.p9|>.p9|>.p9
 replace H:=CM r (.slice A5 J.us.length c6) vM vC vR vK J cw ct co sb R hv1 vs2 us3 hsets4 H
 replace H:=H.h1 (A:=By r (.slice A5 J.us.length c6) vM vC vR vK J cw ct co sb R)|>.p1
 exact Am ⟨[],by rw [e]<;>rfl,by rw [e];rfl⟩ H
theorem QE (r:Nat) (vS:Value) (vM:Value) (vC:Value) (vR:Value) (vK:Value) (J:AG) (cw:Int) (ct:Int) (co:Int) (sb:Nat) (R:AD) (m:BD) (vset:Value) (vps:Value) (h6:J.us.length≤6) (hB:Bw 99999 R) (hmk:J.marks.length≤1000):
    Cn Tryz.prog 50 [.pointer (some ⟨r,0,none⟩),.agg #[.int .i64 m.kind,.int .i64 m.sp,.int .i64 m.att,.int .i64 m.part,.int .i64 m.seq,.int .i64 m.next,.int .i64 m.ep,.int .i64 m.why,vset,vps]] [By r vS vM vC vR vK J cw ct co sb R] [Aa (Ai .i64) vset m.set,Aa Ag vps m.pairs] (fun v Bs=>∃ u:Value,∃ rs:List AV,v=.tuple #[.agg #[.int .i64 (((Bz J R m).2.1).kind),.int .i64 (((Bz J R m).2.1).sp),.int .i64 (((Bz J R m).2.1).att),.int .i64 (((Bz J R m).2.1).part),.int .i64 (((Bz J R m).2.1).seq),.int .i64 (((Bz J R m).2.1).next),.int .i64 (((Bz J R m).2.1).ep),.int .i64 (((Bz J R m).2.1).why),.slice none 0 0,.slice none 0 0],u]∧Bs=[Y Bl u rs,By r vS vM vC vR vK J cw ct co sb ((Bz J R m).1)]∧(rs.map AV.p=(Bz J R m).2.2)):=by
 intro w0 F0 H
 obtain ⟨A1,c2,rfl,hc3,hm4,hp5⟩:=H.fR 0 rfl
 obtain ⟨A6,c7,rfl,hc8,hm9,hp10⟩:=H.fR 1 rfl
 replace H:Hd _ _ _ [By r vS vM vC vR vK J cw ct co sb R] [Aa (Ai .i64) (.slice A1 m.set.length c2) m.set,Aa Ag (.slice A6 m.pairs.length c7) m.pairs]:=H
 obtain ⟨hv11,vs12,us13,hsets14,H⟩:=FN r vS vM vC vR vK J cw ct co sb R H
 replace H:=H.h9 (A:=blk r (AK vS vM vC vR vK J cw ct co R.part R.ep R.g hv11 sb vs12) 185) (B:=Y (Ak Ag) vS J.us) (C:=Y Af vM J.map) (D:=Y Af vC J.comb) (E:=Y Af vR J.red) (F:=Y (Ai .i64) vK J.marks) (G:=AT (R.g) hv11) (I:=Y (Ak (Ai .i64)) vs12 us13) (J:=AS 253 sb (R.st))
 obtain ⟨A15,c16,rfl,hc17,hm18,hp19⟩:=H.fA 1 rfl
 refine enter Tryz.func50 U U (Nat.le_of_ble_eq_true U) (Ab (Ae (CH U U U U H (fun b20 w H=>(Dr U U U MT H (fun b21 w H=>?_))))))
 replace H:=H.h2 (A:=blk b21 [.int .i64 0,.int .i64 0,.int .i64 0,.int .i64 0,.int .i64 0,.int .i64 0,.int .i64 0,.int .i64 0,.slice none 0 0,.slice none 0 0] 64) (B:=blk b20 [.int .i64 m.kind,.int .i64 m.sp,.int .i64 m.att,.int .i64 m.part,.int .i64 m.seq,.int .i64 m.next,.int .i64 m.ep,.int .i64 m.why,.slice A1 m.set.length c2,.slice A6 m.pairs.length c7] 64)
 refine Ad U (Ac (Z (Ab ?_)))
 by_cases hin22:0≤m.sp∧m.sp<((J.us.length:Nat):Int)
 ·refine Ae (Ad U (V U U (Aj U Gr U) (V U U (An U AE U (H.cellI 1 U U)) (sc (KP r A15 J.us.length c16 vM vC vR vK J cw ct co R.part R.ep R.g hv11 sb vs12 m.sp (by first |assumption|omega) (by first |assumption|omega)) H (lA 2 U (fun _ h=>h) l0) U U (At Ig U U) ?_))))
  rintro _ _ w ⟨rfl,rfl⟩ H
  refine Ad U (Ac (Z (Ab (Ab (Gk mo (by kernel_rfl) H (Ei U (BG U U (fun w H=>C3 U IL U U) (Ei U (BG U U (fun w H=>Aj U TJ U) (BG U U (fun w H=>An U AE U (H.cellI 1 U U)) (BG U U (fun w H=>C8 U U U) (GI 2 U ?_))))))))))))
  refine ZB (d:=20) U (fun h23=>?_) (fun h23=>?_)
  ·refine GI 8 U (Ge (fun w H=>(Z (Cc U (Ab (Ae (V U U (CL (parts:=[]) (vs:=[]) (cs:=[.int .i64 0,.int .i64 0,.int .i64 0,.int .i64 0,.int .i64 0,.int .i64 0,.int .i64 0,.int .i64 0,.slice none 0 0,.slice none 0 0]) U HU U U) (Bk U U U C0 U U H U (Nat.le_of_ble_eq_true U) (fun u hu=>by simp [Value.cells] at hu;rcases hu with rfl|rfl|rfl|rfl|rfl|rfl|rfl|rfl|rfl|rfl<;>rfl) (fun w H=>(Ad U (Ac (Z (Ao (Az (FM (cs:=[.int .i64 0,.int .i64 0,.int .i64 0,.int .i64 0,.int .i64 0,.int .i64 0,.int .i64 0,.int .i64 0,.slice none 0 0,.slice none 0 0]) (v:=.slice none 0 0) U U U C0 U (H.cellsI 0 U U) ?_)))))))))))))))
   have e:Bz J R m=(R,Jb,[]):=Mn (.inr (.inl (by omega)))
   replace H:=H.newnil Bl|>.pick 11 rfl|>.pick 11 rfl|>.pick 11 rfl|>.pick 11 rfl|>.pick 11 rfl|>.pick 11 rfl|>.pick 11 rfl|>.pick 11 rfl|>.pick 11 rfl|>.k10
   replace H:=CM r (.slice A15 J.us.length c16) vM vC vR vK J cw ct co sb R hv11 vs12 us13 hsets14 H
   replace H:=H.h1 (A:=By r (.slice A15 J.us.length c16) vM vC vR vK J cw ct co sb R)|>.p1
   exact Am ⟨(.slice none 0 0),[],by rw [e]<;>rfl,by rw [e]<;>rfl,by rw [e];rfl⟩ H
  refine BG U U (fun w H=>Aj U TK U) (BG U U (fun w H=>An U AE U (H.cellI 1 U U)) (Ei U (BG U U (fun w H=>AI U U) (BG U U (fun w H=>Aj U H_ U) (BG U U (fun w H=>An U AE U (H.cellI 2 U U)) (BG U U (fun w H=>C8 U U U) (Ei U (Ge (fun w H=>(Z ?_))))))))))
  refine Ay U (fun h24=>?_) (fun h24=>?_)
  ·refine Ab (Ae (V U U (CL (parts:=[]) (vs:=[]) (cs:=[.int .i64 0,.int .i64 0,.int .i64 0,.int .i64 0,.int .i64 0,.int .i64 0,.int .i64 0,.int .i64 0,.slice none 0 0,.slice none 0 0]) U HU U U) (Bk U U U C0 U U H U (Nat.le_of_ble_eq_true U) (fun u hu=>by simp [Value.cells] at hu;rcases hu with rfl|rfl|rfl|rfl|rfl|rfl|rfl|rfl|rfl|rfl<;>rfl) (fun w H=>?_))))
   replace H:Hd _ _ _ [blk b21 [.int .i64 0,.int .i64 0,.int .i64 0,.int .i64 0,.int .i64 0,.int .i64 0,.int .i64 0,.int .i64 0,.slice none 0 0,.slice none 0 0] 64,blk b20 [.int .i64 m.kind,.int .i64 m.sp,.int .i64 m.att,.int .i64 m.part,.int .i64 m.seq,.int .i64 m.next,.int .i64 m.ep,.int .i64 m.why,.slice A1 m.set.length c2,.slice A6 m.pairs.length c7] 64,blk r (AK (.slice A15 J.us.length c16) vM vC vR vK J cw ct co R.part R.ep R.g hv11 sb vs12) 185,Y (Ak Ag) (.slice A15 J.us.length c16) J.us,Y Af vM J.map,Y Af vC J.comb,Y Af vR J.red,Y (Ai .i64) vK J.marks,AT (R.g) hv11,Y (Ak (Ai .i64)) vs12 us13,AS 253 sb (R.st)] [Aa (Ai .i64) (.slice A1 m.set.length c2) m.set,Aa Ag (.slice A6 m.pairs.length c7) m.pairs]:=H
   refine Ad U (Ac (Z (Ao (Az (FM (cs:=[.int .i64 0,.int .i64 0,.int .i64 0,.int .i64 0,.int .i64 0,.int .i64 0,.int .i64 0,.int .i64 0,.slice none 0 0,.slice none 0 0]) (v:=.slice none 0 0) U U U C0 U (H.cellsI 0 U U) ?_)))))
   have e:Bz J R m=(R,Jb,[]):=Mn (.inr (.inr (by omega)))
   replace H:=H.newnil Bl|>.pick 11 rfl|>.pick 11 rfl|>.pick 11 rfl|>.pick 11 rfl|>.pick 11 rfl|>.pick 11 rfl|>.pick 11 rfl|>.pick 11 rfl|>.pick 11 rfl|>.k10
   replace H:=CM r (.slice A15 J.us.length c16) vM vC vR vK J cw ct co sb R hv11 vs12 us13 hsets14 H
   replace H:=H.h1 (A:=By r (.slice A15 J.us.length c16) vM vC vR vK J cw ct co sb R)|>.p1
   exact Am ⟨(.slice none 0 0),[],by rw [e]<;>rfl,by rw [e]<;>rfl,by rw [e];rfl⟩ H
  refine Av (Z (Ab (BX (.e 0 (.e 1 (.e 2 (.e 3 (.e 4 (.e 5 (.e 6 (.e 7 (.e 8 (.e 9 (.e 10 (.e 11 (.e 12 (.m 13 (.m 14 .z))))))))))))))) (fun w=>∃ Ar,Hd w0 F0 w (blk b21 [.int .i64 0,.int .i64 0,.int .i64 0,.int .i64 0,.int .i64 0,.int .i64 0,.int .i64 0,.int .i64 0,.slice none 0 0,.slice none 0 0] 64::blk b20 [.int .i64 m.kind,.int .i64 m.sp,.int .i64 m.att,.int .i64 m.part,.int .i64 m.seq,.int .i64 m.next,.int .i64 m.ep,.int .i64 m.why,.slice A1 m.set.length c2,.slice A6 m.pairs.length c7] 64::blk r (AK (.slice A15 J.us.length c16) vM vC vR vK J cw ct co R.part R.ep R.g hv11 sb vs12) 185::Y (Ak Ag) (.slice A15 J.us.length c16) J.us::Y Af vM J.map::Y Af vC J.comb::Y Af vR J.red::Y (Ai .i64) vK J.marks::AT (R.g) hv11::Y (Ak (Ai .i64)) vs12 us13::AS 253 sb (R.st)::Ar) [Aa (Ai .i64) (.slice A1 m.set.length c2) m.set,Aa Ag (.slice A6 m.pairs.length c7) m.pairs]) mo (by kernel_rfl) (fun w H=>⟨_,H⟩) H (fun w H=>?_))))
  refine Ap U U U (fun w ⟨Ar,H⟩=>Aj U Gr U) (Ap U U U (fun w ⟨Ar,H⟩=>An U AE U (H.cellI 1 U U)) (Ap U U U (fun w ⟨Ar,H⟩=>Aj U Id U) (Ap U U U (fun w ⟨Ar,H⟩=>An U AE U (H.cellI 1 U U)) (Ax U (Ap U U U (fun w ⟨Ar,H⟩=>AI U U) (Ap U U U (fun w ⟨Ar,H⟩=>Aj U H_ U) (Ap U U U (fun w ⟨Ar,H⟩=>An U AE U (H.cellI 2 U U)) (Ax U (Ap U U U (fun w ⟨Ar,H⟩=>AI U U) (Ap U U U (fun w ⟨Ar,H⟩=>Aj U TB U) (Ap U U U (fun w ⟨Ar,H⟩=>An U AE U (H.cellI 2 U U)) (Ap U U U (fun w ⟨Ar,H⟩=>CL (parts:=[(0,.const (.int .i64 3)),(1,.tmp 31),(2,.tmp 33),(3,.tmp 37),(6,.tmp 41)]) (vs:=[.int .i64 3,.int .i64 m.sp,.int .i64 m.att,.int .i64 R.part,.int .i64 R.ep]) (cs:=[.int .i64 3,.int .i64 m.sp,.int .i64 m.att,.int .i64 R.part,.int .i64 0,.int .i64 0,.int .i64 R.ep,.int .i64 0,.slice none 0 0,.slice none 0 0]) U HU U U) ?_))))))))))))
  refine AL U (Dr U U U MT H (fun b25 w H=>?_))
  replace H:Hd _ _ _ [blk b25 [.int .i64 0,.int .i64 0,.int .i64 0,.int .i64 0,.int .i64 0,.int .i64 0,.int .i64 0,.int .i64 0,.slice none 0 0,.slice none 0 0] 64,blk b21 [.int .i64 0,.int .i64 0,.int .i64 0,.int .i64 0,.int .i64 0,.int .i64 0,.int .i64 0,.int .i64 0,.slice none 0 0,.slice none 0 0] 64,blk b20 [.int .i64 m.kind,.int .i64 m.sp,.int .i64 m.att,.int .i64 m.part,.int .i64 m.seq,.int .i64 m.next,.int .i64 m.ep,.int .i64 m.why,.slice A1 m.set.length c2,.slice A6 m.pairs.length c7] 64,blk r (AK (.slice A15 J.us.length c16) vM vC vR vK J cw ct co R.part R.ep R.g hv11 sb vs12) 185,Y (Ak Ag) (.slice A15 J.us.length c16) J.us,Y Af vM J.map,Y Af vC J.comb,Y Af vR J.red,Y (Ai .i64) vK J.marks,AT (R.g) hv11,Y (Ak (Ai .i64)) vs12 us13,AS 253 sb (R.st)] [Aa (Ai .i64) (.slice A1 m.set.length c2) m.set,Aa Ag (.slice A6 m.pairs.length c7) m.pairs]:=H
  replace H:=H.pick 11 rfl|>.pick 11 rfl|>.pick 11 rfl|>.pick 11 rfl|>.pick 11 rfl|>.pick 11 rfl|>.pick 11 rfl|>.pick 11 rfl|>.pick 11 rfl|>.pick 11 rfl|>.pick 11 rfl
  refine AH ⟨_,H⟩ (AL U ?_)
  replace H:=H.pick 11 rfl
  refine Bk U U U C0 U U H U (Nat.le_of_ble_eq_true U) (fun u hu=>by simp [Value.cells] at hu;rcases hu with rfl|rfl|rfl|rfl|rfl|rfl|rfl|rfl|rfl|rfl<;>rfl) (fun w H=>?_)
  replace H:=H.h1 (A:=blk b25 [.int .i64 3,.int .i64 m.sp,.int .i64 m.att,.int .i64 R.part,.int .i64 0,.int .i64 0,.int .i64 R.ep,.int .i64 0,.slice none 0 0,.slice none 0 0] 64)|>.pick 11 rfl|>.pick 11 rfl|>.pick 11 rfl|>.pick 11 rfl|>.pick 11 rfl|>.pick 11 rfl|>.pick 11 rfl|>.pick 11 rfl|>.pick 11 rfl|>.pick 11 rfl|>.pick 11 rfl
  refine AH ⟨_,H⟩ (BL (Z (Ab (Ae (Ad U (Ac (Z (Ab (Ab (Ae (Ad U (V U U (AI U U) (V U U (Aj U FG U) (V U U (An U Ds U (H.cellI 2 U (GD (by omega)))) (V U U (E5 U U U) (Ad U ?_))))))))))))))))
  refine Em (d:=48) (b:=!((R.g ((m.sp).toNat)).merged)) U (fun h26=>?_) (fun h26=>?_)
  ·refine V U U (Aj U Ls U) (V U U (An U Eb U (H.cellI 1 U U)) (V U U (A0 U CD U) (V U U (Cj U U U) (Ah 2 U ?_))))
   refine AQ (d:=54) U (fun h27=>?_) (fun h27=>?_)
   ·refine V U U (Aj U Ls U) (V U U (An U Eb U (H.cellI 1 U U)) (sc (PR (.slice A6 m.pairs.length c7) m.pairs) H (lR 1 U l0) U U (At ON U U) ?_))
    rintro _ _ w ⟨rfl,rfl⟩ H
    refine Ad U (Ac (Z ?_))
    refine Ay U (fun h28=>?_) (fun h28=>?_)
    ·refine Ab ?_
     replace H:=H.sel 12 [0,1,2,3,4,5,6,7,8,9,11,10] [] rfl (by kernel_rfl)
     replace H:Hd _ _ _ [blk b21 [.int .i64 0,.int .i64 0,.int .i64 0,.int .i64 0,.int .i64 0,.int .i64 0,.int .i64 0,.int .i64 0,.slice none 0 0,.slice none 0 0] 64,blk b20 [.int .i64 m.kind,.int .i64 m.sp,.int .i64 m.att,.int .i64 m.part,.int .i64 m.seq,.int .i64 m.next,.int .i64 m.ep,.int .i64 m.why,.slice A1 m.set.length c2,.slice A6 m.pairs.length c7] 64,blk r (AK (.slice A15 J.us.length c16) vM vC vR vK J cw ct co R.part R.ep R.g hv11 sb vs12) 185,Y (Ak Ag) (.slice A15 J.us.length c16) J.us,Y Af vM J.map,Y Af vC J.comb,Y Af vR J.red,Y (Ai .i64) vK J.marks,AT (R.g) hv11,Y (Ak (Ai .i64)) vs12 us13,blk b25 [.int .i64 3,.int .i64 m.sp,.int .i64 m.att,.int .i64 R.part,.int .i64 0,.int .i64 0,.int .i64 R.ep,.int .i64 0,.slice none 0 0,.slice none 0 0] 64,AS 253 sb (R.st)] [Aa (Ai .i64) (.slice A1 m.set.length c2) m.set,Aa Ag (.slice A6 m.pairs.length c7) m.pairs]:=H
     refine BX (.e 0 (.e 1 (.e 2 (.e 3 (.e 4 (.e 5 (.e 6 (.e 7 (.e 8 (.e 9 (.e 10 (.e 11 (.m 12 .z))))))))))))) (fun w=>∃ Ar,Hd w0 F0 w (blk b21 [.int .i64 0,.int .i64 0,.int .i64 0,.int .i64 0,.int .i64 0,.int .i64 0,.int .i64 0,.int .i64 0,.slice none 0 0,.slice none 0 0] 64::blk b20 [.int .i64 m.kind,.int .i64 m.sp,.int .i64 m.att,.int .i64 m.part,.int .i64 m.seq,.int .i64 m.next,.int .i64 m.ep,.int .i64 m.why,.slice A1 m.set.length c2,.slice A6 m.pairs.length c7] 64::blk r (AK (.slice A15 J.us.length c16) vM vC vR vK J cw ct co R.part R.ep R.g hv11 sb vs12) 185::Y (Ak Ag) (.slice A15 J.us.length c16) J.us::Y Af vM J.map::Y Af vC J.comb::Y Af vR J.red::Y (Ai .i64) vK J.marks::AT (R.g) hv11::Y (Ak (Ai .i64)) vs12 us13::blk b25 [.int .i64 3,.int .i64 m.sp,.int .i64 m.att,.int .i64 R.part,.int .i64 0,.int .i64 0,.int .i64 R.ep,.int .i64 0,.slice none 0 0,.slice none 0 0] 64::Ar) [Aa (Ai .i64) (.slice A1 m.set.length c2) m.set,Aa Ag (.slice A6 m.pairs.length c7) m.pairs]) mo (by kernel_rfl) (fun w H=>⟨_,H⟩) H (fun w H=>?_)
     refine Ax U (Ap U U U (fun w ⟨Ar,H⟩=>AI U U) (Ap U U U (fun w ⟨Ar,H⟩=>Aj U GW U) (Ap U U U (fun w ⟨Ar,H⟩=>An U Hj U (H.cellI 2 U U)) (Ap U U U (fun w ⟨Ar,H⟩=>Aj U Gr U) (Ap U U U (fun w ⟨Ar,H⟩=>An U AE U (H.cellI 1 U U)) (Ap U U U (fun w ⟨Ar,H⟩=>Aj U Id U) (Ap U U U (fun w ⟨Ar,H⟩=>An U AE U (H.cellI 1 U U)) (Ap U U U (fun w ⟨Ar,H⟩=>Aj U TM U) (Ap U U U (fun w ⟨Ar,H⟩=>An U AE U (H.cellI 1 U U)) (Ap U U U (fun w ⟨Ar,H⟩=>Aj U Ls U) (Ap U U U (fun w ⟨Ar,H⟩=>An U Eb U (H.cellI 1 U U)) (AL U ?_))))))))))))
     replace H:=H.pick 11 rfl
     refine sc (Zb sb R.st m.sp m.att m.seq (.slice A6 m.pairs.length c7) m.pairs (by first |assumption|omega)) H (lR 1 U l0) U U (At Ux U U) ?_
     rintro _ _ w ⟨rfl,rfl⟩ H
     replace H:=H.h1 (A:=AS 253 sb (CZ R.st m.sp m.att m.seq m.pairs))|>.pick 11 rfl|>.pick 11 rfl|>.pick 11 rfl|>.pick 11 rfl|>.pick 11 rfl|>.pick 11 rfl|>.pick 11 rfl|>.pick 11 rfl|>.pick 11 rfl|>.pick 11 rfl|>.pick 11 rfl
     refine AH ⟨_,H⟩ (BL (Z (Ae (Ad U (V U U (Aj U Gr U) (V U U (An U AE U (H.cellI 1 U U)) (Ad U ?_)))))))
     have hB2:Bw 100000 ({ R with st:=CZ R.st m.sp m.att m.seq m.pairs }:AD):=⟨hB.pairs,hB.st.put (by omega),Nat.le_succ_of_le hB.sets,hB.setl⟩
     replace H:=H.pick 11 rfl|>.pick 10 rfl|>.pick 10 rfl|>.pick 10 rfl|>.pick 10 rfl|>.pick 10 rfl|>.pick 10 rfl|>.pick 10 rfl|>.pick 10 rfl|>.h9 (A:=blk r (AK (.slice A15 J.us.length c16) vM vC vR vK J cw ct co (({ R with st:=CZ R.st m.sp m.att m.seq m.pairs }:AD).part) (({ R with st:=CZ R.st m.sp m.att m.seq m.pairs }:AD).ep) (({ R with st:=CZ R.st m.sp m.att m.seq m.pairs }:AD).g) hv11 sb vs12) 185) (G:=AT (({ R with st:=CZ R.st m.sp m.att m.seq m.pairs }:AD).g) hv11) (J:=AS 253 sb (({ R with st:=CZ R.st m.sp m.att m.seq m.pairs }:AD).st))
     replace H:=CM r (.slice A15 J.us.length c16) vM vC vR vK J cw ct co sb ({ R with st:=CZ R.st m.sp m.att m.seq m.pairs }:AD) hv11 vs12 us13 hsets14 H
     replace H:=H.h1 (A:=By r (.slice A15 J.us.length c16) vM vC vR vK J cw ct co sb ({ R with st:=CZ R.st m.sp m.att m.seq m.pairs }:AD))
     refine sc (Pm r (.slice A15 J.us.length c16) vM vC vR vK J cw ct co sb ({ R with st:=CZ R.st m.sp m.att m.seq m.pairs }:AD) m.sp (by first |assumption|omega) (by first |assumption|omega) (by first |assumption|omega) (by first |assumption|omega)) H l0 U U (At OM U U) ?_
     rintro v31 _ w ⟨rs29,rfl,hf30⟩ H
     obtain ⟨R32,hR33⟩:∃ z:AD,z=(CG J ({ R with st:=CZ R.st m.sp m.att m.seq m.pairs }:AD) (m.sp).toNat).1:=⟨_,rfl⟩
     rw [←hR33] at H
     replace H:Hd _ _ _ [Y Bl v31 rs29,By r (.slice A15 J.us.length c16) vM vC vR vK J cw ct co sb R32,blk b21 [.int .i64 0,.int .i64 0,.int .i64 0,.int .i64 0,.int .i64 0,.int .i64 0,.int .i64 0,.int .i64 0,.slice none 0 0,.slice none 0 0] 64,blk b20 [.int .i64 m.kind,.int .i64 m.sp,.int .i64 m.att,.int .i64 m.part,.int .i64 m.seq,.int .i64 m.next,.int .i64 m.ep,.int .i64 m.why,.slice A1 m.set.length c2,.slice A6 m.pairs.length c7] 64,blk b25 [.int .i64 3,.int .i64 m.sp,.int .i64 m.att,.int .i64 R.part,.int .i64 0,.int .i64 0,.int .i64 R.ep,.int .i64 0,.slice none 0 0,.slice none 0 0] 64] [Aa (Ai .i64) (.slice A1 m.set.length c2) m.set,Aa Ag (.slice A6 m.pairs.length c7) m.pairs]:=H
     replace H:=H.p1
     obtain ⟨hv34,vs35,us36,hsets37,H⟩:=FN r (.slice A15 J.us.length c16) vM vC vR vK J cw ct co sb R32 H
     replace H:=H.h9 (A:=blk r (AK (.slice A15 J.us.length c16) vM vC vR vK J cw ct co R32.part R32.ep R32.g hv34 sb vs35) 185) (B:=Y (Ak Ag) (.slice A15 J.us.length c16) J.us) (C:=Y Af vM J.map) (D:=Y Af vC J.comb) (E:=Y Af vR J.red) (F:=Y (Ai .i64) vK J.marks) (G:=AT (R32.g) hv34) (I:=Y (Ak (Ai .i64)) vs35 us36) (J:=AS 253 sb (R32.st))
     refine Ad U (Ac (Z (Ab (BX (.e 0 (.e 1 (.e 2 (.e 3 (.e 4 (.e 5 (.e 6 (.e 7 (.m 8 (.e 9 (.m 10 .z))))))))))) (fun w=>∃ Ar,Hd w0 F0 w (blk r (AK (.slice A15 J.us.length c16) vM vC vR vK J cw ct co R32.part R32.ep R32.g hv34 sb vs35) 185::Y (Ak Ag) (.slice A15 J.us.length c16) J.us::Y Af vM J.map::Y Af vC J.comb::Y Af vR J.red::Y (Ai .i64) vK J.marks::AT (R32.g) hv34::Y (Ak (Ai .i64)) vs35 us36::AS 253 sb (R32.st)::Y Bl v31 rs29::blk b21 [.int .i64 0,.int .i64 0,.int .i64 0,.int .i64 0,.int .i64 0,.int .i64 0,.int .i64 0,.int .i64 0,.slice none 0 0,.slice none 0 0] 64::blk b20 [.int .i64 m.kind,.int .i64 m.sp,.int .i64 m.att,.int .i64 m.part,.int .i64 m.seq,.int .i64 m.next,.int .i64 m.ep,.int .i64 m.why,.slice A1 m.set.length c2,.slice A6 m.pairs.length c7] 64::Ar) [Aa (Ai .i64) (.slice A1 m.set.length c2) m.set,Aa Ag (.slice A6 m.pairs.length c7) m.pairs]) mo (by kernel_rfl) (fun w H=>⟨_,H⟩) H (fun w H=>?_)))))
     refine Ax U (Ap U U U (fun w ⟨Ar,H⟩=>AI U U) (Ap U U U (fun w ⟨Ar,H⟩=>Aj U GW U) (Ap U U U (fun w ⟨Ar,H⟩=>An U Hj U (H.cellI 0 U U)) (Ap U U U (fun w ⟨Ar,H⟩=>Aj U Gr U) (Ap U U U (fun w ⟨Ar,H⟩=>An U AE U (H.cellI 11 U U)) (Ap U U U (fun w ⟨Ar,H⟩=>Aj U Id U) (Ap U U U (fun w ⟨Ar,H⟩=>An U AE U (H.cellI 11 U U)) (AL U ?_))))))))
     replace H:=H.p8
     refine sc (IG sb R32.st m.sp m.att) H l0 U U (At Ih U U) ?_
     rintro _ _ w ⟨rfl,rfl⟩ H
     replace H:=H.p8.p8.p8.p8.p8.p8.p8.p8
     refine AH ⟨_,H⟩ (Ap U U U (fun w ⟨Ar,H⟩=>Aj U Gs U) (AL U ?_))
     replace H:=H.pick 12 rfl
     refine Bk U U U AE U U H U (Nat.le_of_ble_eq_true U) (fun u hu=>by simp [Value.cells] at hu;subst hu;rfl) (fun w H=>?_)
     replace H:=H.h1 (A:=blk b25 [.int .i64 3,.int .i64 m.sp,.int .i64 m.att,.int .i64 R.part,.int .i64 0,.int .i64 (Ct R32.st m.sp m.att),.int .i64 R.ep,.int .i64 0,.slice none 0 0,.slice none 0 0] 64)|>.pick 12 rfl|>.pick 12 rfl|>.pick 12 rfl|>.pick 12 rfl|>.pick 12 rfl|>.pick 12 rfl|>.pick 12 rfl|>.pick 12 rfl|>.pick 12 rfl|>.pick 12 rfl|>.pick 12 rfl|>.pick 12 rfl
     refine AH ⟨_,H⟩ (BL (Z (Ab (Ab (Ae (Ad U (V U U (AI U U) (V U U (Aj U FG U) (V U U (An U Ds U (H.cellI 0 U (GD (by omega)))) (Ac (Z ?_)))))))))))
     refine Dv (b:=(R32.g ((m.sp).toNat)).merged) U (fun h38=>?_) (fun h38=>?_)
     ·refine Ae (V U U (Aj U Gs U) ?_)
      replace H:=H.pick 12 rfl
      refine Bk U U U AE U U H U (Nat.le_of_ble_eq_true U) (fun u hu=>by simp [Value.cells] at hu;subst hu;rfl) (fun w H=>?_)
      replace H:=H.h1 (A:=blk b25 [.int .i64 3,.int .i64 m.sp,.int .i64 m.att,.int .i64 R.part,.int .i64 0,.int .i64 40,.int .i64 R.ep,.int .i64 0,.slice none 0 0,.slice none 0 0] 64)
      refine Ac (Z (Ab (Ae (V U U (Bv (cs:=[.int .i64 3,.int .i64 m.sp,.int .i64 m.att,.int .i64 R.part,.int .i64 0,.int .i64 40,.int .i64 R.ep,.int .i64 0,.slice none 0 0,.slice none 0 0]) U C0 U U (H.cellsI 0 U U)) (Ad U ?_)))))
      replace H:=H.pick 11 rfl
      refine Bk U U U C0 U U H U (Nat.le_of_ble_eq_true U) (fun u hu=>by simp [Value.cells] at hu;rcases hu with rfl|rfl|rfl|rfl|rfl|rfl|rfl|rfl|rfl|rfl<;>rfl) (fun w H=>?_)
      replace H:=H.h1 (A:=blk b21 [.int .i64 3,.int .i64 m.sp,.int .i64 m.att,.int .i64 R.part,.int .i64 0,.int .i64 40,.int .i64 R.ep,.int .i64 0,.slice none 0 0,.slice none 0 0] 64)
      refine Ad U (Ac (Z (Ao (FM (cs:=[.int .i64 3,.int .i64 m.sp,.int .i64 m.att,.int .i64 R.part,.int .i64 0,.int .i64 40,.int .i64 R.ep,.int .i64 0,.slice none 0 0,.slice none 0 0]) (v:=v31) U U U C0 U (H.cellsI 0 U U) ?_))))
      have hno:¬ ES J R m:=fun h=>by rcases h with h|h|h;exact h hin22;omega;omega
      have ht:E4 R m:=⟨by simpa using h26,by omega,by simpa using h28⟩
      have hp:=Pn J ({ R with st:=CZ R.st m.sp m.att m.seq m.pairs }:AD) (m.sp).toNat
      rw [←hR33] at hp
      have e:Bz J R m=(R32,⟨3,m.sp,m.att,R.part,0,40,R.ep,0,[],[]⟩,(CG J ({ R with st:=CZ R.st m.sp m.att m.seq m.pairs }:AD) (m.sp).toNat).2):=by rw [G_ hno,P3 ht,←hR33,GP hp.1 hp.2 (if_pos (by simpa using h38))]
      replace H:=H.pick 11 rfl|>.pick 11 rfl|>.pick 11 rfl|>.pick 11 rfl|>.pick 11 rfl|>.pick 11 rfl|>.pick 11 rfl|>.pick 11 rfl|>.pick 11 rfl|>.pick 11 rfl|>.k10
      replace H:=CM r (.slice A15 J.us.length c16) vM vC vR vK J cw ct co sb R32 hv34 vs35 us36 hsets37 H
      replace H:=H.h1 (A:=By r (.slice A15 J.us.length c16) vM vC vR vK J cw ct co sb R32)|>.p1
      exact Am ⟨v31,rs29,by rw [e]<;>rfl,by rw [e]<;>rfl,by rw [e];exact hf30⟩ H
     refine Av (Z (Ab (Ae (V U U (Bv (cs:=[.int .i64 3,.int .i64 m.sp,.int .i64 m.att,.int .i64 R.part,.int .i64 0,.int .i64 (Ct R32.st m.sp m.att),.int .i64 R.ep,.int .i64 0,.slice none 0 0,.slice none 0 0]) U C0 U U (H.cellsI 12 U U)) (Ad U ?_)))))
     replace H:=H.pick 10 rfl
     refine Bk U U U C0 U U H U (Nat.le_of_ble_eq_true U) (fun u hu=>by simp [Value.cells] at hu;rcases hu with rfl|rfl|rfl|rfl|rfl|rfl|rfl|rfl|rfl|rfl<;>rfl) (fun w H=>?_)
     replace H:=H.h1 (A:=blk b21 [.int .i64 3,.int .i64 m.sp,.int .i64 m.att,.int .i64 R.part,.int .i64 0,.int .i64 (Ct R32.st m.sp m.att),.int .i64 R.ep,.int .i64 0,.slice none 0 0,.slice none 0 0] 64)
     refine Ad U (Ac (Z (Ao (FM (cs:=[.int .i64 3,.int .i64 m.sp,.int .i64 m.att,.int .i64 R.part,.int .i64 0,.int .i64 (Ct R32.st m.sp m.att),.int .i64 R.ep,.int .i64 0,.slice none 0 0,.slice none 0 0]) (v:=v31) U U U C0 U (H.cellsI 0 U U) ?_))))
     have hno:¬ ES J R m:=fun h=>by rcases h with h|h|h;exact h hin22;omega;omega
     have ht:E4 R m:=⟨by simpa using h26,by omega,by simpa using h28⟩
     have hp:=Pn J ({ R with st:=CZ R.st m.sp m.att m.seq m.pairs }:AD) (m.sp).toNat
     rw [←hR33] at hp
     have e:Bz J R m=(R32,⟨3,m.sp,m.att,R.part,0,Ct R32.st m.sp m.att,R.ep,0,[],[]⟩,(CG J ({ R with st:=CZ R.st m.sp m.att m.seq m.pairs }:AD) (m.sp).toNat).2):=by rw [G_ hno,P3 ht,←hR33,GP hp.1 hp.2 (if_neg (by simpa using h38))]
     replace H:=H.pick 10 rfl|>.pick 10 rfl|>.pick 10 rfl|>.pick 10 rfl|>.pick 10 rfl|>.pick 10 rfl|>.pick 10 rfl|>.pick 10 rfl|>.pick 10 rfl|>.pick 10 rfl|>.k10
     replace H:=CM r (.slice A15 J.us.length c16) vM vC vR vK J cw ct co sb R32 hv34 vs35 us36 hsets37 H
     replace H:=H.h1 (A:=By r (.slice A15 J.us.length c16) vM vC vR vK J cw ct co sb R32)|>.p1
     exact Am ⟨v31,rs29,by rw [e]<;>rfl,by rw [e]<;>rfl,by rw [e];exact hf30⟩ H
    refine Av (Z (Ab (BX (.e 0 (.e 1 (.e 2 (.e 3 (.e 4 (.e 5 (.e 6 (.e 7 (.m 8 (.e 9 (.m 10 .z))))))))))) (fun w=>∃ Ar,Hd w0 F0 w (blk b21 [.int .i64 0,.int .i64 0,.int .i64 0,.int .i64 0,.int .i64 0,.int .i64 0,.int .i64 0,.int .i64 0,.slice none 0 0,.slice none 0 0] 64::blk b20 [.int .i64 m.kind,.int .i64 m.sp,.int .i64 m.att,.int .i64 m.part,.int .i64 m.seq,.int .i64 m.next,.int .i64 m.ep,.int .i64 m.why,.slice A1 m.set.length c2,.slice A6 m.pairs.length c7] 64::blk r (AK (.slice A15 J.us.length c16) vM vC vR vK J cw ct co R.part R.ep R.g hv11 sb vs12) 185::Y (Ak Ag) (.slice A15 J.us.length c16) J.us::Y Af vM J.map::Y Af vC J.comb::Y Af vR J.red::Y (Ai .i64) vK J.marks::AT (R.g) hv11::Y (Ak (Ai .i64)) vs12 us13::AS 253 sb (R.st)::Ar) [Aa (Ai .i64) (.slice A1 m.set.length c2) m.set,Aa Ag (.slice A6 m.pairs.length c7) m.pairs]) mo (by kernel_rfl) (fun w H=>⟨_,H⟩) H (fun w H=>?_))))
    refine Ax U (Ap U U U (fun w ⟨Ar,H⟩=>AI U U) (Ap U U U (fun w ⟨Ar,H⟩=>Aj U GW U) (Ap U U U (fun w ⟨Ar,H⟩=>An U Hj U (H.cellI 2 U U)) (Ap U U U (fun w ⟨Ar,H⟩=>Aj U Gr U) (Ap U U U (fun w ⟨Ar,H⟩=>An U AE U (H.cellI 1 U U)) (Ap U U U (fun w ⟨Ar,H⟩=>Aj U Id U) (Ap U U U (fun w ⟨Ar,H⟩=>An U AE U (H.cellI 1 U U)) (AL U ?_))))))))
    replace H:=H.pick 10 rfl
    replace H:Hd _ _ _ [AS 253 sb (R.st),blk b21 [.int .i64 0,.int .i64 0,.int .i64 0,.int .i64 0,.int .i64 0,.int .i64 0,.int .i64 0,.int .i64 0,.slice none 0 0,.slice none 0 0] 64,blk b20 [.int .i64 m.kind,.int .i64 m.sp,.int .i64 m.att,.int .i64 m.part,.int .i64 m.seq,.int .i64 m.next,.int .i64 m.ep,.int .i64 m.why,.slice A1 m.set.length c2,.slice A6 m.pairs.length c7] 64,blk r (AK (.slice A15 J.us.length c16) vM vC vR vK J cw ct co R.part R.ep R.g hv11 sb vs12) 185,Y (Ak Ag) (.slice A15 J.us.length c16) J.us,Y Af vM J.map,Y Af vC J.comb,Y Af vR J.red,Y (Ai .i64) vK J.marks,AT (R.g) hv11,Y (Ak (Ai .i64)) vs12 us13,blk b25 [.int .i64 3,.int .i64 m.sp,.int .i64 m.att,.int .i64 R.part,.int .i64 0,.int .i64 0,.int .i64 R.ep,.int .i64 0,.slice none 0 0,.slice none 0 0] 64] [Aa (Ai .i64) (.slice A1 m.set.length c2) m.set,Aa Ag (.slice A6 m.pairs.length c7) m.pairs]:=H
    refine sc (IG sb R.st m.sp m.att) H l0 U U (At Ih U U) ?_
    rintro _ _ w ⟨rfl,rfl⟩ H
    replace H:=H.pick 10 rfl|>.pick 10 rfl|>.pick 10 rfl|>.pick 10 rfl|>.pick 10 rfl|>.pick 10 rfl|>.pick 10 rfl|>.pick 10 rfl|>.pick 10 rfl|>.pick 10 rfl
    refine AH ⟨_,H⟩ (Ap U U U (fun w ⟨Ar,H⟩=>Aj U Gs U) (AL U ?_))
    replace H:=H.pick 11 rfl
    refine Bk U U U AE U U H U (Nat.le_of_ble_eq_true U) (fun u hu=>by simp [Value.cells] at hu;subst hu;rfl) (fun w H=>?_)
    replace H:=H.h1 (A:=blk b25 [.int .i64 3,.int .i64 m.sp,.int .i64 m.att,.int .i64 R.part,.int .i64 0,.int .i64 (Ct R.st m.sp m.att),.int .i64 R.ep,.int .i64 0,.slice none 0 0,.slice none 0 0] 64)|>.pick 11 rfl|>.pick 11 rfl|>.pick 11 rfl|>.pick 11 rfl|>.pick 11 rfl|>.pick 11 rfl|>.pick 11 rfl|>.pick 11 rfl|>.pick 11 rfl|>.pick 11 rfl|>.pick 11 rfl
    refine AH ⟨_,H⟩ (BL (Z (Ab (Ab (Ae (Ad U (V U U (AI U U) (V U U (Aj U FG U) (V U U (An U Ds U (H.cellI 2 U (GD (by omega)))) (Ac (Z ?_)))))))))))
    refine Dv (b:=(R.g ((m.sp).toNat)).merged) U (fun h39=>?_) (fun h39=>?_)
    ·refine Ae (V U U (Aj U Gs U) ?_)
     replace H:=H.pick 11 rfl
     refine Bk U U U AE U U H U (Nat.le_of_ble_eq_true U) (fun u hu=>by simp [Value.cells] at hu;subst hu;rfl) (fun w H=>?_)
     replace H:=H.h1 (A:=blk b25 [.int .i64 3,.int .i64 m.sp,.int .i64 m.att,.int .i64 R.part,.int .i64 0,.int .i64 40,.int .i64 R.ep,.int .i64 0,.slice none 0 0,.slice none 0 0] 64)
     refine Ac (Z (Ab (Ae (V U U (Bv (cs:=[.int .i64 3,.int .i64 m.sp,.int .i64 m.att,.int .i64 R.part,.int .i64 0,.int .i64 40,.int .i64 R.ep,.int .i64 0,.slice none 0 0,.slice none 0 0]) U C0 U U (H.cellsI 0 U U)) (Ad U ?_)))))
     replace H:=H.p1
     refine Bk U U U C0 U U H U (Nat.le_of_ble_eq_true U) (fun u hu=>by simp [Value.cells] at hu;rcases hu with rfl|rfl|rfl|rfl|rfl|rfl|rfl|rfl|rfl|rfl<;>rfl) (fun w H=>?_)
     replace H:=H.h1 (A:=blk b21 [.int .i64 3,.int .i64 m.sp,.int .i64 m.att,.int .i64 R.part,.int .i64 0,.int .i64 40,.int .i64 R.ep,.int .i64 0,.slice none 0 0,.slice none 0 0] 64)
     refine Ad U (Ac (Z (Ao (FM (cs:=[.int .i64 3,.int .i64 m.sp,.int .i64 m.att,.int .i64 R.part,.int .i64 0,.int .i64 40,.int .i64 R.ep,.int .i64 0,.slice none 0 0,.slice none 0 0]) (v:=.slice none 0 0) U U U C0 U (H.cellsI 0 U U) ?_))))
     have hno:¬ ES J R m:=fun h=>by rcases h with h|h|h;exact h hin22;omega;omega
     have ht:¬ E4 R m:=fun h=>absurd h.2.2 (by simpa using h28)
     have e:Bz J R m=(R,⟨3,m.sp,m.att,R.part,0,40,R.ep,0,[],[]⟩,[]):=by rw [G_ hno,It ht,GP rfl rfl (if_pos (by simpa using h39))]
     replace H:=H.newnil Bl|>.pick 12 rfl|>.pick 12 rfl|>.pick 12 rfl|>.pick 12 rfl|>.pick 12 rfl|>.pick 12 rfl|>.pick 12 rfl|>.pick 12 rfl|>.pick 12 rfl|>.k10
     replace H:=CM r (.slice A15 J.us.length c16) vM vC vR vK J cw ct co sb R hv11 vs12 us13 hsets14 H
     replace H:=H.h1 (A:=By r (.slice A15 J.us.length c16) vM vC vR vK J cw ct co sb R)|>.p1
     exact Am ⟨(.slice none 0 0),[],by rw [e]<;>rfl,by rw [e]<;>rfl,by rw [e];rfl⟩ H
    refine Av (Z (Ab (Ae (V U U (Bv (cs:=[.int .i64 3,.int .i64 m.sp,.int .i64 m.att,.int .i64 R.part,.int .i64 0,.int .i64 (Ct R.st m.sp m.att),.int .i64 R.ep,.int .i64 0,.slice none 0 0,.slice none 0 0]) U C0 U U (H.cellsI 11 U U)) (Ad U (Bk U U U C0 U U H U (Nat.le_of_ble_eq_true U) (fun u hu=>by simp [Value.cells] at hu;rcases hu with rfl|rfl|rfl|rfl|rfl|rfl|rfl|rfl|rfl|rfl<;>rfl) (fun w H=>?_)))))))
    replace H:=H.h1 (A:=blk b21 [.int .i64 3,.int .i64 m.sp,.int .i64 m.att,.int .i64 R.part,.int .i64 0,.int .i64 (Ct R.st m.sp m.att),.int .i64 R.ep,.int .i64 0,.slice none 0 0,.slice none 0 0] 64)
    refine Ad U (Ac (Z (Ao (FM (cs:=[.int .i64 3,.int .i64 m.sp,.int .i64 m.att,.int .i64 R.part,.int .i64 0,.int .i64 (Ct R.st m.sp m.att),.int .i64 R.ep,.int .i64 0,.slice none 0 0,.slice none 0 0]) (v:=.slice none 0 0) U U U C0 U (H.cellsI 0 U U) ?_))))
    have hno:¬ ES J R m:=fun h=>by rcases h with h|h|h;exact h hin22;omega;omega
    have ht:¬ E4 R m:=fun h=>absurd h.2.2 (by simpa using h28)
    have e:Bz J R m=(R,⟨3,m.sp,m.att,R.part,0,Ct R.st m.sp m.att,R.ep,0,[],[]⟩,[]):=by rw [G_ hno,It ht,GP rfl rfl (if_neg (by simpa using h39))]
    replace H:=H.newnil Bl|>.pick 11 rfl|>.pick 11 rfl|>.pick 11 rfl|>.pick 11 rfl|>.pick 11 rfl|>.pick 11 rfl|>.pick 11 rfl|>.pick 11 rfl|>.pick 11 rfl|>.k10
    replace H:=CM r (.slice A15 J.us.length c16) vM vC vR vK J cw ct co sb R hv11 vs12 us13 hsets14 H
    replace H:=H.h1 (A:=By r (.slice A15 J.us.length c16) vM vC vR vK J cw ct co sb R)|>.p1
    exact Am ⟨(.slice none 0 0),[],by rw [e]<;>rfl,by rw [e]<;>rfl,by rw [e];rfl⟩ H
   refine Ah 4 U (Ac (Z (Cb U (Av (Z (Ab (BX (.e 0 (.e 1 (.e 2 (.e 3 (.e 4 (.e 5 (.e 6 (.e 7 (.m 8 (.e 9 (.m 10 .z))))))))))) (fun w=>∃ Ar,Hd w0 F0 w (blk b21 [.int .i64 0,.int .i64 0,.int .i64 0,.int .i64 0,.int .i64 0,.int .i64 0,.int .i64 0,.int .i64 0,.slice none 0 0,.slice none 0 0] 64::blk b20 [.int .i64 m.kind,.int .i64 m.sp,.int .i64 m.att,.int .i64 m.part,.int .i64 m.seq,.int .i64 m.next,.int .i64 m.ep,.int .i64 m.why,.slice A1 m.set.length c2,.slice A6 m.pairs.length c7] 64::blk r (AK (.slice A15 J.us.length c16) vM vC vR vK J cw ct co R.part R.ep R.g hv11 sb vs12) 185::Y (Ak Ag) (.slice A15 J.us.length c16) J.us::Y Af vM J.map::Y Af vC J.comb::Y Af vR J.red::Y (Ai .i64) vK J.marks::AT (R.g) hv11::Y (Ak (Ai .i64)) vs12 us13::AS 253 sb (R.st)::Ar) [Aa (Ai .i64) (.slice A1 m.set.length c2) m.set,Aa Ag (.slice A6 m.pairs.length c7) m.pairs]) mo (by kernel_rfl) (fun w H=>⟨_,H⟩) H (fun w H=>?_))))))))
   refine Ax U (Ap U U U (fun w ⟨Ar,H⟩=>AI U U) (Ap U U U (fun w ⟨Ar,H⟩=>Aj U GW U) (Ap U U U (fun w ⟨Ar,H⟩=>An U Hj U (H.cellI 2 U U)) (Ap U U U (fun w ⟨Ar,H⟩=>Aj U Gr U) (Ap U U U (fun w ⟨Ar,H⟩=>An U AE U (H.cellI 1 U U)) (Ap U U U (fun w ⟨Ar,H⟩=>Aj U Id U) (Ap U U U (fun w ⟨Ar,H⟩=>An U AE U (H.cellI 1 U U)) (AL U ?_))))))))
   replace H:=H.pick 10 rfl
   refine sc (IG sb R.st m.sp m.att) H l0 U U (At Ih U U) ?_
   rintro _ _ w ⟨rfl,rfl⟩ H
   replace H:=H.pick 10 rfl|>.pick 10 rfl|>.pick 10 rfl|>.pick 10 rfl|>.pick 10 rfl|>.pick 10 rfl|>.pick 10 rfl|>.pick 10 rfl|>.pick 10 rfl|>.pick 10 rfl
   refine AH ⟨_,H⟩ (Ap U U U (fun w ⟨Ar,H⟩=>Aj U Gs U) (AL U ?_))
   replace H:=H.pick 11 rfl
   refine Bk U U U AE U U H U (Nat.le_of_ble_eq_true U) (fun u hu=>by simp [Value.cells] at hu;subst hu;rfl) (fun w H=>?_)
   replace H:=H.h1 (A:=blk b25 [.int .i64 3,.int .i64 m.sp,.int .i64 m.att,.int .i64 R.part,.int .i64 0,.int .i64 (Ct R.st m.sp m.att),.int .i64 R.ep,.int .i64 0,.slice none 0 0,.slice none 0 0] 64)|>.pick 11 rfl|>.pick 11 rfl|>.pick 11 rfl|>.pick 11 rfl|>.pick 11 rfl|>.pick 11 rfl|>.pick 11 rfl|>.pick 11 rfl|>.pick 11 rfl|>.pick 11 rfl|>.pick 11 rfl
   refine AH ⟨_,H⟩ (BL (Z (Ab (Ab (Ae (Ad U (V U U (AI U U) (V U U (Aj U FG U) (V U U (An U Ds U (H.cellI 2 U (GD (by omega)))) (Ac (Z ?_)))))))))))
   refine Dv (b:=(R.g ((m.sp).toNat)).merged) U (fun h40=>?_) (fun h40=>?_)
   ·refine Ae (V U U (Aj U Gs U) ?_)
    replace H:=H.pick 11 rfl
    refine Bk U U U AE U U H U (Nat.le_of_ble_eq_true U) (fun u hu=>by simp [Value.cells] at hu;subst hu;rfl) (fun w H=>?_)
    replace H:=H.h1 (A:=blk b25 [.int .i64 3,.int .i64 m.sp,.int .i64 m.att,.int .i64 R.part,.int .i64 0,.int .i64 40,.int .i64 R.ep,.int .i64 0,.slice none 0 0,.slice none 0 0] 64)
    refine Ac (Z (Ab (Ae (V U U (Bv (cs:=[.int .i64 3,.int .i64 m.sp,.int .i64 m.att,.int .i64 R.part,.int .i64 0,.int .i64 40,.int .i64 R.ep,.int .i64 0,.slice none 0 0,.slice none 0 0]) U C0 U U (H.cellsI 0 U U)) (Ad U ?_)))))
    replace H:=H.p1
    refine Bk U U U C0 U U H U (Nat.le_of_ble_eq_true U) (fun u hu=>by simp [Value.cells] at hu;rcases hu with rfl|rfl|rfl|rfl|rfl|rfl|rfl|rfl|rfl|rfl<;>rfl) (fun w H=>?_)
    replace H:=H.h1 (A:=blk b21 [.int .i64 3,.int .i64 m.sp,.int .i64 m.att,.int .i64 R.part,.int .i64 0,.int .i64 40,.int .i64 R.ep,.int .i64 0,.slice none 0 0,.slice none 0 0] 64)
    refine Ad U (Ac (Z (Ao (FM (cs:=[.int .i64 3,.int .i64 m.sp,.int .i64 m.att,.int .i64 R.part,.int .i64 0,.int .i64 40,.int .i64 R.ep,.int .i64 0,.slice none 0 0,.slice none 0 0]) (v:=.slice none 0 0) U U U C0 U (H.cellsI 0 U U) ?_))))
    have hno:¬ ES J R m:=fun h=>by rcases h with h|h|h;exact h hin22;omega;omega
    have ht:¬ E4 R m:=fun h=>by have h1:=h.1;have h2:=h.2.1;first |omega|(simp_all)
    have e:Bz J R m=(R,⟨3,m.sp,m.att,R.part,0,40,R.ep,0,[],[]⟩,[]):=by rw [G_ hno,It ht,GP rfl rfl (if_pos (by simpa using h40))]
    replace H:=H.newnil Bl|>.pick 12 rfl|>.pick 12 rfl|>.pick 12 rfl|>.pick 12 rfl|>.pick 12 rfl|>.pick 12 rfl|>.pick 12 rfl|>.pick 12 rfl|>.pick 12 rfl|>.k10
    replace H:=CM r (.slice A15 J.us.length c16) vM vC vR vK J cw ct co sb R hv11 vs12 us13 hsets14 H
    replace H:=H.h1 (A:=By r (.slice A15 J.us.length c16) vM vC vR vK J cw ct co sb R)|>.p1
    exact Am ⟨(.slice none 0 0),[],by rw [e]<;>rfl,by rw [e]<;>rfl,by rw [e];rfl⟩ H
   refine Av (Z (Ab (Ae (V U U (Bv (cs:=[.int .i64 3,.int .i64 m.sp,.int .i64 m.att,.int .i64 R.part,.int .i64 0,.int .i64 (Ct R.st m.sp m.att),.int .i64 R.ep,.int .i64 0,.slice none 0 0,.slice none 0 0]) U C0 U U (H.cellsI 11 U U)) (Ad U (Bk U U U C0 U U H U (Nat.le_of_ble_eq_true U) (fun u hu=>by simp [Value.cells] at hu;rcases hu with rfl|rfl|rfl|rfl|rfl|rfl|rfl|rfl|rfl|rfl<;>rfl) (fun w H=>?_)))))))
   replace H:=H.h1 (A:=blk b21 [.int .i64 3,.int .i64 m.sp,.int .i64 m.att,.int .i64 R.part,.int .i64 0,.int .i64 (Ct R.st m.sp m.att),.int .i64 R.ep,.int .i64 0,.slice none 0 0,.slice none 0 0] 64)
   refine Ad U (Ac (Z (Ao (FM (cs:=[.int .i64 3,.int .i64 m.sp,.int .i64 m.att,.int .i64 R.part,.int .i64 0,.int .i64 (Ct R.st m.sp m.att),.int .i64 R.ep,.int .i64 0,.slice none 0 0,.slice none 0 0]) (v:=.slice none 0 0) U U U C0 U (H.cellsI 0 U U) ?_))))
   have hno:¬ ES J R m:=fun h=>by rcases h with h|h|h;exact h hin22;omega;omega
   have ht:¬ E4 R m:=fun h=>by have h1:=h.1;have h2:=h.2.1;first |omega|(simp_all)
   have e:Bz J R m=(R,⟨3,m.sp,m.att,R.part,0,Ct R.st m.sp m.att,R.ep,0,[],[]⟩,[]):=by rw [G_ hno,It ht,GP rfl rfl (if_neg (by simpa using h40))]
   replace H:=H.newnil Bl|>.pick 11 rfl|>.pick 11 rfl|>.pick 11 rfl|>.pick 11 rfl|>.pick 11 rfl|>.pick 11 rfl|>.pick 11 rfl|>.pick 11 rfl|>.pick 11 rfl|>.k10
   replace H:=CM r (.slice A15 J.us.length c16) vM vC vR vK J cw ct co sb R hv11 vs12 us13 hsets14 H
   replace H:=H.h1 (A:=By r (.slice A15 J.us.length c16) vM vC vR vK J cw ct co sb R)|>.p1
   exact Am ⟨(.slice none 0 0),[],by rw [e]<;>rfl,by rw [e]<;>rfl,by rw [e];rfl⟩ H
  refine Ah 10 U (Ac (Z (Cb U (Av (Z (Ab (BX (.e 0 (.e 1 (.e 2 (.e 3 (.e 4 (.e 5 (.e 6 (.e 7 (.m 8 (.e 9 (.m 10 .z))))))))))) (fun w=>∃ Ar,Hd w0 F0 w (blk b21 [.int .i64 0,.int .i64 0,.int .i64 0,.int .i64 0,.int .i64 0,.int .i64 0,.int .i64 0,.int .i64 0,.slice none 0 0,.slice none 0 0] 64::blk b20 [.int .i64 m.kind,.int .i64 m.sp,.int .i64 m.att,.int .i64 m.part,.int .i64 m.seq,.int .i64 m.next,.int .i64 m.ep,.int .i64 m.why,.slice A1 m.set.length c2,.slice A6 m.pairs.length c7] 64::blk r (AK (.slice A15 J.us.length c16) vM vC vR vK J cw ct co R.part R.ep R.g hv11 sb vs12) 185::Y (Ak Ag) (.slice A15 J.us.length c16) J.us::Y Af vM J.map::Y Af vC J.comb::Y Af vR J.red::Y (Ai .i64) vK J.marks::AT (R.g) hv11::Y (Ak (Ai .i64)) vs12 us13::AS 253 sb (R.st)::Ar) [Aa (Ai .i64) (.slice A1 m.set.length c2) m.set,Aa Ag (.slice A6 m.pairs.length c7) m.pairs]) mo (by kernel_rfl) (fun w H=>⟨_,H⟩) H (fun w H=>?_))))))))
  refine Ax U (Ap U U U (fun w ⟨Ar,H⟩=>AI U U) (Ap U U U (fun w ⟨Ar,H⟩=>Aj U GW U) (Ap U U U (fun w ⟨Ar,H⟩=>An U Hj U (H.cellI 2 U U)) (Ap U U U (fun w ⟨Ar,H⟩=>Aj U Gr U) (Ap U U U (fun w ⟨Ar,H⟩=>An U AE U (H.cellI 1 U U)) (Ap U U U (fun w ⟨Ar,H⟩=>Aj U Id U) (Ap U U U (fun w ⟨Ar,H⟩=>An U AE U (H.cellI 1 U U)) (AL U ?_))))))))
  replace H:=H.pick 10 rfl
  refine sc (IG sb R.st m.sp m.att) H l0 U U (At Ih U U) ?_
  rintro _ _ w ⟨rfl,rfl⟩ H
  replace H:=H.pick 10 rfl|>.pick 10 rfl|>.pick 10 rfl|>.pick 10 rfl|>.pick 10 rfl|>.pick 10 rfl|>.pick 10 rfl|>.pick 10 rfl|>.pick 10 rfl|>.pick 10 rfl
  refine AH ⟨_,H⟩ (Ap U U U (fun w ⟨Ar,H⟩=>Aj U Gs U) (AL U ?_))
  replace H:=H.pick 11 rfl
  refine Bk U U U AE U U H U (Nat.le_of_ble_eq_true U) (fun u hu=>by simp [Value.cells] at hu;subst hu;rfl) (fun w H=>?_)
  replace H:=H.h1 (A:=blk b25 [.int .i64 3,.int .i64 m.sp,.int .i64 m.att,.int .i64 R.part,.int .i64 0,.int .i64 (Ct R.st m.sp m.att),.int .i64 R.ep,.int .i64 0,.slice none 0 0,.slice none 0 0] 64)|>.pick 11 rfl|>.pick 11 rfl|>.pick 11 rfl|>.pick 11 rfl|>.pick 11 rfl|>.pick 11 rfl|>.pick 11 rfl|>.pick 11 rfl|>.pick 11 rfl|>.pick 11 rfl|>.pick 11 rfl
  refine AH ⟨_,H⟩ (BL (Z (Ab (Ab (Ae (Ad U (V U U (AI U U) (V U U (Aj U FG U) (V U U (An U Ds U (H.cellI 2 U (GD (by omega)))) (Ac (Z ?_)))))))))))
  refine Dv (b:=(R.g ((m.sp).toNat)).merged) U (fun h41=>?_) (fun h41=>?_)
  ·refine Ae (V U U (Aj U Gs U) ?_)
   replace H:=H.pick 11 rfl
   refine Bk U U U AE U U H U (Nat.le_of_ble_eq_true U) (fun u hu=>by simp [Value.cells] at hu;subst hu;rfl) (fun w H=>?_)
   replace H:=H.h1 (A:=blk b25 [.int .i64 3,.int .i64 m.sp,.int .i64 m.att,.int .i64 R.part,.int .i64 0,.int .i64 40,.int .i64 R.ep,.int .i64 0,.slice none 0 0,.slice none 0 0] 64)
   refine Ac (Z (Ab (Ae (V U U (Bv (cs:=[.int .i64 3,.int .i64 m.sp,.int .i64 m.att,.int .i64 R.part,.int .i64 0,.int .i64 40,.int .i64 R.ep,.int .i64 0,.slice none 0 0,.slice none 0 0]) U C0 U U (H.cellsI 0 U U)) (Ad U ?_)))))
   replace H:=H.p1
   refine Bk U U U C0 U U H U (Nat.le_of_ble_eq_true U) (fun u hu=>by simp [Value.cells] at hu;rcases hu with rfl|rfl|rfl|rfl|rfl|rfl|rfl|rfl|rfl|rfl<;>rfl) (fun w H=>?_)
   replace H:=H.h1 (A:=blk b21 [.int .i64 3,.int .i64 m.sp,.int .i64 m.att,.int .i64 R.part,.int .i64 0,.int .i64 40,.int .i64 R.ep,.int .i64 0,.slice none 0 0,.slice none 0 0] 64)
   refine Ad U (Ac (Z (Ao (FM (cs:=[.int .i64 3,.int .i64 m.sp,.int .i64 m.att,.int .i64 R.part,.int .i64 0,.int .i64 40,.int .i64 R.ep,.int .i64 0,.slice none 0 0,.slice none 0 0]) (v:=.slice none 0 0) U U U C0 U (H.cellsI 0 U U) ?_))))
   have hno:¬ ES J R m:=fun h=>by rcases h with h|h|h;exact h hin22;omega;omega
   have ht:¬ E4 R m:=fun h=>by have h1:=h.1;have h2:=h.2.1;first |omega|(simp_all)
   have e:Bz J R m=(R,⟨3,m.sp,m.att,R.part,0,40,R.ep,0,[],[]⟩,[]):=by rw [G_ hno,It ht,GP rfl rfl (if_pos (by simpa using h41))]
   replace H:=H.newnil Bl|>.pick 12 rfl|>.pick 12 rfl|>.pick 12 rfl|>.pick 12 rfl|>.pick 12 rfl|>.pick 12 rfl|>.pick 12 rfl|>.pick 12 rfl|>.pick 12 rfl|>.k10
   replace H:=CM r (.slice A15 J.us.length c16) vM vC vR vK J cw ct co sb R hv11 vs12 us13 hsets14 H
   replace H:=H.h1 (A:=By r (.slice A15 J.us.length c16) vM vC vR vK J cw ct co sb R)|>.p1
   exact Am ⟨(.slice none 0 0),[],by rw [e]<;>rfl,by rw [e]<;>rfl,by rw [e];rfl⟩ H
  refine Av (Z (Ab (Ae (V U U (Bv (cs:=[.int .i64 3,.int .i64 m.sp,.int .i64 m.att,.int .i64 R.part,.int .i64 0,.int .i64 (Ct R.st m.sp m.att),.int .i64 R.ep,.int .i64 0,.slice none 0 0,.slice none 0 0]) U C0 U U (H.cellsI 11 U U)) (Ad U (Bk U U U C0 U U H U (Nat.le_of_ble_eq_true U) (fun u hu=>by simp [Value.cells] at hu;rcases hu with rfl|rfl|rfl|rfl|rfl|rfl|rfl|rfl|rfl|rfl<;>rfl) (fun w H=>?_)))))))
  replace H:=H.h1 (A:=blk b21 [.int .i64 3,.int .i64 m.sp,.int .i64 m.att,.int .i64 R.part,.int .i64 0,.int .i64 (Ct R.st m.sp m.att),.int .i64 R.ep,.int .i64 0,.slice none 0 0,.slice none 0 0] 64)
  refine Ad U (Ac (Z (Ao (FM (cs:=[.int .i64 3,.int .i64 m.sp,.int .i64 m.att,.int .i64 R.part,.int .i64 0,.int .i64 (Ct R.st m.sp m.att),.int .i64 R.ep,.int .i64 0,.slice none 0 0,.slice none 0 0]) (v:=.slice none 0 0) U U U C0 U (H.cellsI 0 U U) ?_))))
  have hno:¬ ES J R m:=fun h=>by rcases h with h|h|h;exact h hin22;omega;omega
  have ht:¬ E4 R m:=fun h=>by have h1:=h.1;have h2:=h.2.1;first |omega|(simp_all)
  have e:Bz J R m=(R,⟨3,m.sp,m.att,R.part,0,Ct R.st m.sp m.att,R.ep,0,[],[]⟩,[]):=by rw [G_ hno,It ht,GP rfl rfl (if_neg (by simpa using h41))]
  replace H:=H.newnil Bl|>.pick 11 rfl|>.pick 11 rfl|>.pick 11 rfl|>.pick 11 rfl|>.pick 11 rfl|>.pick 11 rfl|>.pick 11 rfl|>.pick 11 rfl|>.pick 11 rfl|>.k10
  replace H:=CM r (.slice A15 J.us.length c16) vM vC vR vK J cw ct co sb R hv11 vs12 us13 hsets14 H
  replace H:=H.h1 (A:=By r (.slice A15 J.us.length c16) vM vC vR vK J cw ct co sb R)|>.p1
  exact Am ⟨(.slice none 0 0),[],by rw [e]<;>rfl,by rw [e]<;>rfl,by rw [e];rfl⟩ H
 refine Ae (Ad U (V U U (Aj U Gr U) (V U U (An U AE U (H.cellI 1 U U)) (sc (KO r A15 J.us.length c16 vM vC vR vK J cw ct co R.part R.ep R.g hv11 sb vs12 m.sp (by first |assumption|omega)) H (lA 2 U (fun _ h=>h) l0) U U (At Ig U U) ?_))))
 rintro _ _ w ⟨rfl,rfl⟩ H
 refine Ad U (Ac (Z (Ab (Ab (Gk mo (by kernel_rfl) H (Ei U (BG U U (fun w H=>C3 U IL U U) (GI 12 U (GI 2 U (Ge (fun w H=>(Z (Cc U (Ab (Ae (V U U (CL (parts:=[]) (vs:=[]) (cs:=[.int .i64 0,.int .i64 0,.int .i64 0,.int .i64 0,.int .i64 0,.int .i64 0,.int .i64 0,.int .i64 0,.slice none 0 0,.slice none 0 0]) U HU U U) (Bk U U U C0 U U H U (Nat.le_of_ble_eq_true U) (fun u hu=>by simp [Value.cells] at hu;rcases hu with rfl|rfl|rfl|rfl|rfl|rfl|rfl|rfl|rfl|rfl<;>rfl) (fun w H=>(Ad U (Ac (Z (Ao (Az (FM (cs:=[.int .i64 0,.int .i64 0,.int .i64 0,.int .i64 0,.int .i64 0,.int .i64 0,.int .i64 0,.int .i64 0,.slice none 0 0,.slice none 0 0]) (v:=.slice none 0 0) U U U C0 U (H.cellsI 0 U U) ?_))))))))))))))))))))))))
 have e:Bz J R m=(R,Jb,[]):=Mn (.inl hin22)
 replace H:=H.newnil Bl|>.pick 11 rfl|>.pick 11 rfl|>.pick 11 rfl|>.pick 11 rfl|>.pick 11 rfl|>.pick 11 rfl|>.pick 11 rfl|>.pick 11 rfl|>.pick 11 rfl|>.k10
 replace H:=CM r (.slice A15 J.us.length c16) vM vC vR vK J cw ct co sb R hv11 vs12 us13 hsets14 H
 replace H:=H.h1 (A:=By r (.slice A15 J.us.length c16) vM vC vR vK J cw ct co sb R)|>.p1
 exact Am ⟨(.slice none 0 0),[],by rw [e]<;>rfl,by rw [e]<;>rfl,by rw [e];rfl⟩ H
theorem YY (r:Nat) (A:Option Addr) (c:Nat) (vM2:Value) (vC2:Value) (vR2:Value) (vK2:Value) (J2:AG) (cw:Int) (ct:Int) (co:Int) (part:Int) (ep:Int) (R:AD) (hv:Nat→Value) (sb:Nat) (vs:Value) (us:List (Value×List Int)) (hred:∀ i∈J2.red,AB i.a) (hf64:AB J2.fuel) (hus6:J2.us.length≤6) (hbp:∀ i,(R.g i).pairs.length≤1000) (hsets:us.map (fun u=>u.2)=R.sets) (hul:us.length≤100000) (hsl:∀ u∈us,u.2.length≤1000):
    Cn Tryz.prog 59 [.pointer (some ⟨r,0,none⟩)] [] [blk r (AK (.slice A J2.us.length c) vM2 vC2 vR2 vK2 J2 cw ct co part ep R.g hv sb vs) 185,AT (R.g) hv,Aa Af vR2 J2.red,Aa (Ak (Ai .i64)) vs us,gl] (fun v Bs=>∃ zs:List (Dx Int),Bs=[Y LD v zs]∧(zs.map ME=Ga dg J2 R)):=by
 intro w0 F0 H
 obtain ⟨A1,c2,rfl,hc3,hm4,hp5⟩:=H.fR 3 rfl
 refine enter Tryz.func59 U U (Nat.le_of_ble_eq_true U) (Ab (Ae (Ad U (Ac (Z ?_)))))
 replace H:Hd _ _ _ [] [blk r (AK (.slice A J2.us.length c) vM2 vC2 vR2 vK2 J2 cw ct co part ep R.g hv sb (.slice A1 us.length c2)) 185,AT (R.g) hv,Aa Af vR2 J2.red,Aa (Ak (Ai .i64)) (.slice A1 us.length c2) us,gl]:=H
 refine Ab (Ab (Ae (Ad U (V U U (C3 U Hm U U) (Ac (Z (Cb U (Av (Z (Ab (Ae (Ad U (Ac (Z (Ab (Ab (Ae (Ad U (V U U (AI U U) (V U U (Aj U Ff U) (V U U (An U D_ U (H.cellRI 0 U U)) (V U U (A0 U ZE U) (Ad U (Ac (Z (AU ?_))))))))))))))))))))))))))
 replace H:=H.newnil HC
 replace H:=Hd.tw0 (α:=Int) H
 replace H:=H.h1 (A:=FR ([]:List (Dx Int)))|>.h2 (B:=Y HC (.slice none 0 0) (([]:List (Dx Int)).map Eo))|>.p1
 refine BV (σ:=Nat×Value×List (Dx Int)) (fun (k,q,zs)=>[(0,.pointer (some ⟨r,0,none⟩)),(2,.slice none 0 0),(3,q),(13,.slice A1 us.length c2),(14,.int .i64 ((us.length:Nat):Int)),(15,.int .i64 ((k:Nat):Int))]) (fun (k,q,zs) w=>(Hd w0 F0 w [Y HC q (zs.map Eo),FR zs] [blk r (AK (.slice A J2.us.length c) vM2 vC2 vR2 vK2 J2 cw ct co part ep R.g hv sb (.slice A1 us.length c2)) 185,AT (R.g) hv,Aa Af vR2 J2.red,Aa (Ak (Ai .i64)) (.slice A1 us.length c2) us,gl])∧(k≤us.length)∧(zs.map ME=(Ga dg J2 R).take k)) (fun (k,q,zs)=>us.length - k) (0,.slice none 0 0,[]) ⟨rfl,rfl,rfl,rfl,rfl,rfl,trivial⟩ ⟨H,Nat.zero_le _,rfl⟩ ?_
 rintro ⟨k,q,zs⟩ w ⟨H,hk,hz⟩
 have hzl:zs.length=k:=by have h1:=congrArg List.length hz;rw [List.length_map,List.length_take,Q0 hsets] at h1;omega
 have hzl2:(zs.map Eo).length=zs.length:=List.length_map ..
 refine Ab (Ae (V U U (Bg U U U) (Ac (Z (Ab ?_)))))
 refine Ay U (fun h6=>?_) (fun h6=>?_)
 ·refine Av (Z (Ab (AU (Ab (Ae ?_)))))
  obtain ⟨⟨u9,x7⟩,hx8⟩:∃ z9,us[k]?=some z9:=⟨_,List.getElem?_eq_getElem (show k<us.length by omega)⟩
  obtain ⟨A10,c11,rfl,hc12,hm13⟩:=H.nestR 3 rfl hx8
  have hxl:x7.length≤1000:=hsl _ (B7 hx8)
  have th14:=H.thRd 3 rfl hx8
  refine V U U (Bf (p:=AX A1+k*1) U D9 U U (by omega) (by omega) th14 U) (V U U (An U Gd U (H.elRd 3 U hx8 U)) (Ad U (Ac (Z (Ab (Ae (Ah 2 U (sc (PI r A c vM2 vC2 vR2 vK2 J2 cw ct co part ep R hv sb (.slice A1 us.length c2) (.slice A10 x7.length c11) x7 (by first |assumption|omega) (by first |assumption|omega) (by first |assumption|omega) (by first |assumption|omega)) H (lR 0 U (lR 1 U (lX (fun F hA hR=>Gw (hR _ (List.mem_of_getElem? (i:=3) U)) hx8) (lR 2 U (lR 4 U l0))))) U U (At OP U U) ?_))))))))
  rintro _ _ w ⟨u15,rfl,rfl⟩ H
  refine Ah 5 U (Ac (Z ?_))
  replace H:Hd _ _ _ [Y Ag u15 ((B0 dg J2.red (srt (Cl J2.us.length R x7)) J2.fuel false).1),Y HC q (zs.map Eo),FR zs] [blk r (AK (.slice A J2.us.length c) vM2 vC2 vR2 vK2 J2 cw ct co part ep R.g hv sb (.slice A1 us.length c2)) 185,AT (R.g) hv,Aa Af vR2 J2.red,Aa (Ak (Ai .i64)) (.slice A1 us.length c2) us,gl]:=H
  refine Ae (Ah 2 U (sc (GR (.slice A10 x7.length c11) x7 (by first |assumption|omega)) H (lX (fun F hA hR=>Gw (hR _ (List.mem_of_getElem? (i:=3) U)) hx8) l0) U U (At G3 U U) ?_))
  rintro v16 _ w rfl H
  refine Ah 2 U ?_
  obtain ⟨A17,c18,rfl,hc19,hm20,hp21⟩:=H.fA 0 rfl
  obtain ⟨A22,c23,rfl,hc24,hm25,hp26⟩:=H.fA 1 rfl
  refine V U U (CL (parts:=[(0,.tmp 27),(1,.tmp 28),(2,.tmp 29)]) (vs:=[.slice A17 x7.length c18,.int .i64 ((B0 dg J2.red (srt (Cl J2.us.length R x7)) J2.fuel false).2),.slice A22 (((B0 dg J2.red (srt (Cl J2.us.length R x7)) J2.fuel false).1).length) c23]) (cs:=[.slice A17 x7.length c18,.int .i64 ((B0 dg J2.red (srt (Cl J2.us.length R x7)) J2.fuel false).2),.slice A22 (((B0 dg J2.red (srt (Cl J2.us.length R x7)) J2.fuel false).1).length) c23]) U RP U U) (BT (parts:=[(0,.tmp 30)]) (vs:=[.agg #[.slice A17 x7.length c18,.int .i64 ((B0 dg J2.red (srt (Cl J2.us.length R x7)) J2.fuel false).2),.slice A22 (((B0 dg J2.red (srt (Cl J2.us.length R x7)) J2.fuel false).1).length) c23]]) (cs:=[.slice A17 x7.length c18,.int .i64 ((B0 dg J2.red (srt (Cl J2.us.length R x7)) J2.fuel false).2),.slice A22 (((B0 dg J2.red (srt (Cl J2.us.length R x7)) J2.fuel false).1).length) c23]) U U U QZ Rv U (by decide) (by decide) U U H (fun b27 w H=>?_))
  replace H:=H.p3
  refine CC (xs:=zs.map Eo) (ys:=[(⟨(B0 dg J2.red (srt (Cl J2.us.length R x7)) J2.fuel false).2,⟨A17,x7.length,c18⟩,⟨A22,((B0 dg J2.red (srt (Cl J2.us.length R x7)) J2.fuel false).1).length,c23⟩⟩:IV Int)]) U U U QZ Rv U (by decide) U U H (by first |omega|(simp only [List.length_append,List.length_cons,List.length_nil];omega)) (fun F hA hR=>Ci (hA _ (List.mem_of_getElem? (i:=0) U)) U (by decide) (AY.flat_eq.2 U)) (fun v28 w H=>(Ad U (Ac (A8 (Z ?_)))))
  replace H:Hd _ _ _ [Y HC v28 ((zs.map Eo)++[(⟨(B0 dg J2.red (srt (Cl J2.us.length R x7)) J2.fuel false).2,⟨A17,x7.length,c18⟩,⟨A22,((B0 dg J2.red (srt (Cl J2.us.length R x7)) J2.fuel false).1).length,c23⟩⟩:IV Int)]),blk b27 [.slice A17 x7.length c18,.int .i64 ((B0 dg J2.red (srt (Cl J2.us.length R x7)) J2.fuel false).2),.slice A22 (((B0 dg J2.red (srt (Cl J2.us.length R x7)) J2.fuel false).1).length) c23] 195,Y (Ai .i64) (.slice A17 x7.length c18) x7,Y Ag (.slice A22 (((B0 dg J2.red (srt (Cl J2.us.length R x7)) J2.fuel false).1).length) c23) ((B0 dg J2.red (srt (Cl J2.us.length R x7)) J2.fuel false).1),FR zs] [blk r (AK (.slice A J2.us.length c) vM2 vC2 vR2 vK2 J2 cw ct co part ep R.g hv sb (.slice A1 us.length c2)) 185,AT (R.g) hv,Aa Af vR2 J2.red,Aa (Ak (Ai .i64)) (.slice A1 us.length c2) us,gl]:=H
  refine Ae (V U U (A9 (z:=((k+1:Nat):Int)) U U U (by rw [AF (by omega) (by omega)];omega)) (Ad U (Ac ?_)))
  replace H:=H.p4.p4.p4.k4
  replace H:=Hd.twN (r:=(⟨(D7 dg J2 R x7).2,.slice A17 x7.length c18,x7,.slice A22 (((B0 dg J2.red (srt (Cl J2.us.length R x7)) J2.fuel false).1).length) c23,(D7 dg J2 R x7).1⟩:Dx Int)) H
  replace H:Hd w0 F0 w [FR (zs++[(⟨(D7 dg J2 R x7).2,.slice A17 x7.length c18,x7,.slice A22 (((B0 dg J2.red (srt (Cl J2.us.length R x7)) J2.fuel false).1).length) c23,(D7 dg J2 R x7).1⟩:Dx Int)]),Y HC v28 ((zs++[(⟨(D7 dg J2 R x7).2,.slice A17 x7.length c18,x7,.slice A22 (((B0 dg J2.red (srt (Cl J2.us.length R x7)) J2.fuel false).1).length) c23,(D7 dg J2 R x7).1⟩:Dx Int)]).map Eo)] [blk r (AK (.slice A J2.us.length c) vM2 vC2 vR2 vK2 J2 cw ct co part ep R.g hv sb (.slice A1 us.length c2)) 185,AT (R.g) hv,Aa Af vR2 J2.red,Aa (Ak (Ai .i64)) (.slice A1 us.length c2) us,gl]:=by rw [List.map_append];exact H
  replace H:=H.p1
  have hz2:(zs++[(⟨(D7 dg J2 R x7).2,.slice A17 x7.length c18,x7,.slice A22 (((B0 dg J2.red (srt (Cl J2.us.length R x7)) J2.fuel false).1).length) c23,(D7 dg J2 R x7).1⟩:Dx Int)]).map ME=(Ga dg J2 R).take (k+1):=by rw [List.map_append,hz,YZ hsets hx8];rfl
  exact Bm (s:=(k,undef,zs)) (k+1,v28,zs++[(⟨(D7 dg J2 R x7).2,.slice A17 x7.length c18,x7,.slice A22 (((B0 dg J2.red (srt (Cl J2.us.length R x7)) J2.fuel false).1).length) c23,(D7 dg J2 R x7).1⟩:Dx Int)]) ⟨rfl,rfl,rfl,rfl,rfl,rfl,trivial⟩ ⟨H,by (try dsimp only);omega,hz2⟩ (by (try dsimp only);omega)
 refine BK (AR (AR (BN (Z (Ab (Ae (Ah 2 U (Ac (Z (Ao (Aq U U ?_)))))))))))
 replace H:=H.h2 (A:=Y HC q (zs.map Eo)) (B:=FR zs)
 replace H:=Hd.twI H
 replace H:=H.h1 (A:=Y LD q zs)
 exact Am ⟨zs,rfl,by rw [hz,List.take_of_length_le (by rw [Q0 hsets];omega)]⟩ H
theorem Zg (r:Nat) (A:Option Addr) (c:Nat) (vM2:Value) (vC2:Value) (vR2:Value) (vK2:Value) (J2:AG) (cw:Int) (ct:Int) (co:Int) (part:Int) (ep:Int) (R:AD) (hv:Nat→Value) (sb:Nat) (vs:Value):
    Cn Tryz.prog 57 [.pointer (some ⟨r,0,none⟩)] [AS 253 sb (R.st)] [blk r (AK (.slice A J2.us.length c) vM2 vC2 vR2 vK2 J2 cw ct co part ep R.g hv sb vs) 185] (fun v Bs=>v=.int .i64 ((R.st.length:Nat):Int)∧Bs=[AS 253 sb (R.st)]):=by
 intro w0 F0 H
 refine enter Tryz.func57 U U (Nat.le_of_ble_eq_true U) (Ab (Ae (Ad U (Ac (Z (Ab (Ab (Ae (Ad U (V U U (C3 U Hm U U) (Ac (Z (Cb U (Av (Z (Ab (Ae (Ad U (V U U (AI U U) (V U U (Aj U GW U) (V U U (An U Hj U (H.cellRI 0 U U)) (sc (Y9 sb R.st) H l0 U U (At UC U U) ?_))))))))))))))))))))))
 rintro _ _ w ⟨rfl,rfl⟩ H
 refine Ad U (Ac (Z ?_))
 replace H:Hd _ _ _ [AS 253 sb (R.st)] [blk r (AK (.slice A J2.us.length c) vM2 vC2 vR2 vK2 J2 cw ct co part ep R.g hv sb vs) 185]:=H
 exact Ao (Aq U U (Am ⟨rfl,rfl⟩ H))
theorem YV  :
    Cn Tryz.prog 117 [] [] [] (fun v Bs=>∃ vS:Value,∃ vP:Value,∃ vK:Value,∃ u:Value,v=.agg #[vS,.int .i64 1,vP,.slice none 0 0,vP,.int .i64 1,.int .i64 1,.int .i64 9,vK,.int .i64 1,.int .i64 2,.int .i64 1]∧Bs=[Y (Ak Ag) vS [(u,Dh),(Fy,[])],Y Af vP Dy,Y (Ai .i64) vK [1]]):=by
 intro w0 F0 H
 refine enter Tryz.func117 U U (Nat.le_of_ble_eq_true U) (Ab (Ae (Dr U U U Rx H (fun b1 w H=>(Ac (Z ?_))))))
 replace H:Hd _ _ _ [blk b1 [.slice none 0 0,.int .i64 0,.slice none 0 0,.slice none 0 0,.slice none 0 0,.int .i64 0,.int .i64 0,.int .i64 0,.slice none 0 0,.int .i64 0,.int .i64 0,.int .i64 0] 28] []:=H
 refine Ab (Ae (V U U (CL (parts:=[(0,.const (.int .i64 6))]) (vs:=[.int .i64 6]) (cs:=[.int .i64 6,.int .i64 0,.string ⟨#[]⟩]) U JG U U) (V U U (CL (parts:=[(0,.const (.int .i64 7))]) (vs:=[.int .i64 7]) (cs:=[.int .i64 7,.int .i64 0,.string ⟨#[]⟩]) U JG U U) (V U U (CL (parts:=[(0,.const (.int .i64 4))]) (vs:=[.int .i64 4]) (cs:=[.int .i64 4,.int .i64 0,.string ⟨#[]⟩]) U JG U U) (V U U (CL (parts:=[(0,.const (.int .i64 23))]) (vs:=[.int .i64 23]) (cs:=[.int .i64 23,.int .i64 0,.string ⟨#[]⟩]) U JG U U) (BT (parts:=[(0,.tmp 2),(1,.tmp 3),(2,.tmp 4),(3,.tmp 5)]) (vs:=[.agg #[.int .i64 6,.int .i64 0,.string ⟨#[]⟩],.agg #[.int .i64 7,.int .i64 0,.string ⟨#[]⟩],.agg #[.int .i64 4,.int .i64 0,.string ⟨#[]⟩],.agg #[.int .i64 23,.int .i64 0,.string ⟨#[]⟩]]) (cs:=[.int .i64 6,.int .i64 0,.string ⟨#[]⟩,.int .i64 7,.int .i64 0,.string ⟨#[]⟩,.int .i64 4,.int .i64 0,.string ⟨#[]⟩,.int .i64 23,.int .i64 0,.string ⟨#[]⟩]) U U U Hf KI U (by decide) (by decide) U U H (fun b2 w H=>?_)))))))
 replace H:=H.h1 (A:=blk b2 [.int .i64 6,.int .i64 0,.string ⟨#[]⟩,.int .i64 7,.int .i64 0,.string ⟨#[]⟩,.int .i64 4,.int .i64 0,.string ⟨#[]⟩,.int .i64 23,.int .i64 0,.string ⟨#[]⟩] 223)
 refine Ad U (Ac (Z (Ab (Ae (V U U (CL (parts:=[(0,.const (.string ⟨#[98]⟩)),(1,.const (.string ⟨#[49]⟩))]) (vs:=[.string ⟨#[98]⟩,.string ⟨#[49]⟩]) (cs:=[.string ⟨#[98]⟩,.string ⟨#[49]⟩]) U JF U U) (BT (parts:=[(0,.tmp 7)]) (vs:=[.agg #[.string ⟨#[98]⟩,.string ⟨#[49]⟩]]) (cs:=[.string ⟨#[98]⟩,.string ⟨#[49]⟩]) U U U Bu CR U (by decide) (by decide) U U H (fun b3 w H=>(BT (parts:=[(0,.tmp 8),(1,.const (.slice none 0 0))]) (vs:=[.slice (some ⟨b3,0,none⟩) 1 1,.slice none 0 0]) (cs:=[.slice (some ⟨b3,0,none⟩) 1 1,.slice none 0 0]) U U U Eh Hq U (by decide) (by decide) U U H (fun b4 w H=>(Ah 2 U (BT (parts:=[(0,.const (.int .i64 1))]) (vs:=[.int .i64 1]) (cs:=[.int .i64 1]) U U U DP GK U (by decide) (by decide) U U H (fun b5 w H=>(V U U (CL (parts:=[(0,.tmp 9),(1,.const (.int .i64 1)),(2,.tmp 10),(4,.tmp 11),(5,.const (.int .i64 1)),(6,.const (.int .i64 1)),(7,.const (.int .i64 9)),(8,.tmp 12)]) (vs:=[.slice (some ⟨b4,0,none⟩) 2 2,.int .i64 1,.slice (some ⟨b2,0,none⟩) 4 4,.slice (some ⟨b2,0,none⟩) 4 4,.int .i64 1,.int .i64 1,.int .i64 9,.slice (some ⟨b5,0,none⟩) 1 1]) (cs:=[.slice (some ⟨b4,0,none⟩) 2 2,.int .i64 1,.slice (some ⟨b2,0,none⟩) 4 4,.slice none 0 0,.slice (some ⟨b2,0,none⟩) 4 4,.int .i64 1,.int .i64 1,.int .i64 9,.slice (some ⟨b5,0,none⟩) 1 1]) U RS U U) ?_)))))))))))))
 refine V U U (CL (parts:=[(0,.tmp 13),(1,.const (.int .i64 1)),(2,.const (.int .i64 2)),(3,.const (.int .i64 1))]) (vs:=[.agg #[.slice (some ⟨b4,0,none⟩) 2 2,.int .i64 1,.slice (some ⟨b2,0,none⟩) 4 4,.slice none 0 0,.slice (some ⟨b2,0,none⟩) 4 4,.int .i64 1,.int .i64 1,.int .i64 9,.slice (some ⟨b5,0,none⟩) 1 1],.int .i64 1,.int .i64 2,.int .i64 1]) (cs:=[.slice (some ⟨b4,0,none⟩) 2 2,.int .i64 1,.slice (some ⟨b2,0,none⟩) 4 4,.slice none 0 0,.slice (some ⟨b2,0,none⟩) 4 4,.int .i64 1,.int .i64 1,.int .i64 9,.slice (some ⟨b5,0,none⟩) 1 1,.int .i64 1,.int .i64 2,.int .i64 1]) U RT U U) ?_
 replace H:=H.p4
 refine Bk U U U EX U U H U (Nat.le_of_ble_eq_true U) (fun u hu=>by simp [Value.cells] at hu;rcases hu with rfl|rfl|rfl|rfl|rfl|rfl|rfl|rfl|rfl|rfl|rfl|rfl<;>rfl) (fun w H=>?_)
 replace H:Hd _ _ _ [blk b1 [.slice (some ⟨b4,0,none⟩) 2 2,.int .i64 1,.slice (some ⟨b2,0,none⟩) 4 4,.slice none 0 0,.slice (some ⟨b2,0,none⟩) 4 4,.int .i64 1,.int .i64 1,.int .i64 9,.slice (some ⟨b5,0,none⟩) 1 1,.int .i64 1,.int .i64 2,.int .i64 1] 28,blk b5 [.int .i64 1] 3,blk b4 [.slice (some ⟨b3,0,none⟩) 1 1,.slice none 0 0] 35,blk b3 [.string ⟨#[98]⟩,.string ⟨#[49]⟩] 106,blk b2 [.int .i64 6,.int .i64 0,.string ⟨#[]⟩,.int .i64 7,.int .i64 0,.string ⟨#[]⟩,.int .i64 4,.int .i64 0,.string ⟨#[]⟩,.int .i64 23,.int .i64 0,.string ⟨#[]⟩] 223] []:=H
 refine Ac (Z (Ao (F9 (cs:=[.slice (some ⟨b4,0,none⟩) 2 2,.int .i64 1,.slice (some ⟨b2,0,none⟩) 4 4,.slice none 0 0,.slice (some ⟨b2,0,none⟩) 4 4,.int .i64 1,.int .i64 1,.int .i64 9,.slice (some ⟨b5,0,none⟩) 1 1,.int .i64 1,.int .i64 2,.int .i64 1]) U U EX U (H.cellsI 0 U U) ?_)))
 replace H:=H.p3
 replace H:Hd w0 F0 w [Y Ag (.slice (some ⟨b3,0,none⟩) 1 1) Dh,blk b1 [.slice (some ⟨b4,0,none⟩) 2 2,.int .i64 1,.slice (some ⟨b2,0,none⟩) 4 4,.slice none 0 0,.slice (some ⟨b2,0,none⟩) 4 4,.int .i64 1,.int .i64 1,.int .i64 9,.slice (some ⟨b5,0,none⟩) 1 1,.int .i64 1,.int .i64 2,.int .i64 1] 28,blk b5 [.int .i64 1] 3,blk b4 [.slice (some ⟨b3,0,none⟩) 1 1,.slice none 0 0] 35,blk b2 [.int .i64 6,.int .i64 0,.string ⟨#[]⟩,.int .i64 7,.int .i64 0,.string ⟨#[]⟩,.int .i64 4,.int .i64 0,.string ⟨#[]⟩,.int .i64 23,.int .i64 0,.string ⟨#[]⟩] 223] []:=H.turn (fun F h=>GQ h rfl (by decide) rfl)
 replace H:=H.p4
 replace H:Hd w0 F0 w [Y Af (.slice (some ⟨b2,0,none⟩) 4 4) Dy,Y Ag (.slice (some ⟨b3,0,none⟩) 1 1) Dh,blk b1 [.slice (some ⟨b4,0,none⟩) 2 2,.int .i64 1,.slice (some ⟨b2,0,none⟩) 4 4,.slice none 0 0,.slice (some ⟨b2,0,none⟩) 4 4,.int .i64 1,.int .i64 1,.int .i64 9,.slice (some ⟨b5,0,none⟩) 1 1,.int .i64 1,.int .i64 2,.int .i64 1] 28,blk b5 [.int .i64 1] 3,blk b4 [.slice (some ⟨b3,0,none⟩) 1 1,.slice none 0 0] 35] []:=H.turn (fun F h=>GQ h rfl (by decide) rfl)
 replace H:=H.p3
 replace H:Hd w0 F0 w [Y (Ai .i64) (.slice (some ⟨b5,0,none⟩) 1 1) [1],Y Af (.slice (some ⟨b2,0,none⟩) 4 4) Dy,Y Ag (.slice (some ⟨b3,0,none⟩) 1 1) Dh,blk b1 [.slice (some ⟨b4,0,none⟩) 2 2,.int .i64 1,.slice (some ⟨b2,0,none⟩) 4 4,.slice none 0 0,.slice (some ⟨b2,0,none⟩) 4 4,.int .i64 1,.int .i64 1,.int .i64 9,.slice (some ⟨b5,0,none⟩) 1 1,.int .i64 1,.int .i64 2,.int .i64 1] 28,blk b4 [.slice (some ⟨b3,0,none⟩) 1 1,.slice none 0 0] 35] []:=H.turn (fun F h=>GQ h rfl (by decide) rfl)
 replace H:=H.newnil Ag|>.p2|>.p1|>.p3|>.p5|>.k5
 replace H:Hd w0 F0 w [Y Dq (.slice (some ⟨b4,0,none⟩) 2 2) (Bo ([(.slice (some ⟨b3,0,none⟩) 1 1,Dh),(Fy,[])]:List (Value×List Al))),Y Ag (.slice (some ⟨b3,0,none⟩) 1 1) Dh,Y Ag (.slice none 0 0) [],Y Af (.slice (some ⟨b2,0,none⟩) 4 4) Dy,Y (Ai .i64) (.slice (some ⟨b5,0,none⟩) 1 1) [1]] []:=H.turn (fun F h=>GQ h rfl (by decide) rfl)
 replace H:=H.p2.p2
 replace H:=Hd.stI (Bs:=[Y Ag (.slice (some ⟨b3,0,none⟩) 1 1) Dh,Y Ag (.slice none 0 0) []]) H
 replace H:=H.h1 (A:=F5 Ag ([(.slice (some ⟨b3,0,none⟩) 1 1,Dh),(Fy,[])]:List (Value×List Al)))|>.p1|>.hdI|>.h1 (A:=Y (Ak Ag) (.slice (some ⟨b4,0,none⟩) 2 2) [(.slice (some ⟨b3,0,none⟩) 1 1,Dh),(Fy,[])])
 exact Am ⟨(.slice (some ⟨b4,0,none⟩) 2 2),(.slice (some ⟨b2,0,none⟩) 4 4),(.slice (some ⟨b5,0,none⟩) 1 1),(.slice (some ⟨b3,0,none⟩) 1 1),rfl,rfl⟩ H
theorem HT  :
    Cn Tryz.prog 47 [] [] [gl] (fun v Bs=>v=.bool true∧Bs=[]):=by
 intro w0 F0 H
 refine enter Tryz.func47 U U (Nat.le_of_ble_eq_true U) (Ab (Ae (Ad U (Ac (Z (Ab (Ae (sc (YV) H l0 U U (At Uw U U) ?_))))))))
 rintro _ _ w ⟨vS1,vP2,vK3,u4,rfl,rfl⟩ H
 replace H:Hd _ _ _ [Y (Ak Ag) vS1 [(u4,Dh),(Fy,[])],Y Af vP2 Dy,Y (Ai .i64) vK3 [1]] [gl]:=H
 refine sc (Qs vS1 vP2 (.slice none 0 0) vP2 vK3 (AZ u4) 0 1 (.slice none 0 0) [] (by first |assumption|omega|exact C9 _|exact ⟨Di _,by decide⟩|exact Bw.pairs (by assumption)|(unfold AB;omega)|exact (fun r h=>by cases h)|decide|(simp only [List.length_nil];omega)|exact C6) (by first |assumption|omega|exact C9 _|exact ⟨Di _,by decide⟩|exact Bw.pairs (by assumption)|(unfold AB;omega)|exact (fun r h=>by cases h)|decide|(simp only [List.length_nil];omega)|exact C6) (by first |assumption|omega|exact C9 _|exact ⟨Di _,by decide⟩|exact Bw.pairs (by assumption)|(unfold AB;omega)|exact (fun r h=>by cases h)|decide|(simp only [List.length_nil];omega)|exact C6) (by first |assumption|omega|exact C9 _|exact ⟨Di _,by decide⟩|exact Bw.pairs (by assumption)|(unfold AB;omega)|exact (fun r h=>by cases h)|decide|(simp only [List.length_nil];omega)|exact C6) (by first |assumption|omega|exact C9 _|exact ⟨Di _,by decide⟩|exact Bw.pairs (by assumption)|(unfold AB;omega)|exact (fun r h=>by cases h)|decide|(simp only [List.length_nil];omega)|exact C6) (by first |assumption|omega|exact C9 _|exact ⟨Di _,by decide⟩|exact Bw.pairs (by assumption)|(unfold AB;omega)|exact (fun r h=>by cases h)|decide|(simp only [List.length_nil];omega)|exact C6)) H (lA 0 U BS (lA 1 U BS (lX (fun F _ _=>IA _ _ F trivial (by decide)) (lA 1 U BS (lA 2 U BS (lX (fun F _ _=>IA _ _ F trivial (by decide)) l0)))))) U U (At Pe U U) ?_
 rintro _ _ w ⟨r5,vS6,vM7,vC8,vR9,vK10,J11,hv12,sb13,vs14,us15,rfl,rfl,hf16,hf17⟩ H
 replace H:=H.h9 (A:=blk r5 (AK vS6 vM7 vC8 vR9 vK10 J11 ((AZ u4).w) ((AZ u4).t) ((AZ u4).o) 0 1 ((CW J11.us.length 0 1 ([].map AV.p)).g) hv12 sb13 vs14) 185) (B:=Y (Ak Ag) vS6 J11.us) (C:=Y Af vM7 J11.map) (D:=Y Af vC8 J11.comb) (E:=Y Af vR9 J11.red) (F:=Y (Ai .i64) vK10 J11.marks) (G:=AT ((CW J11.us.length 0 1 ([].map AV.p)).g) hv12) (I:=Y (Ak (Ai .i64)) vs14 us15) (J:=AS 253 sb13 ([]))
 have hsj:=hf16
 have hall:=Nl hsj
 have hout:=RK (D:=dg) hsj
 have hC:=C9 u4
 have hlen:J11.us.length=2:=hsj.len
 have h6:J11.us.length≤6:=by have:=hC.1.1;have:=hsj.len;omega
 have hmk:J11.marks.length≤1000:=by have:=hC.1.2.2.1;rw [hsj.marks];omega
 have hred:∀ i∈J11.red,AB i.a:=by rw [hsj.red];exact C6
 have hf64:AB J11.fuel:=by rw [hsj.fuel];have:=hC.1.2.2.2.2.2.2.2.2.2.2;unfold AB;omega
 have hoks:=RI h6
 obtain ⟨R18,hR19⟩:∃ z:AD,z=CW J11.us.length 0 1 ([].map AV.p):=⟨_,rfl⟩
 rw [←hR19] at H hf17
 have hRp20:R18.part=0:=by rw [hR19];exact (Gy _ _ _ _).1
 have hRe21:R18.ep=1:=by rw [hR19];exact (Gy _ _ _ _).2.1
 have hRs22:R18.st=[]:=by rw [hR19];exact (Gy _ _ _ _).2.2
 rw [show AK vS6 vM7 vC8 vR9 vK10 J11 ((AZ u4).w) ((AZ u4).t) ((AZ u4).o) 0 1 R18.g hv12 sb13 vs14=AK vS6 vM7 vC8 vR9 vK10 J11 ((AZ u4).w) ((AZ u4).t) ((AZ u4).o) R18.part R18.ep R18.g hv12 sb13 vs14 from by rw [hRp20,hRe21],show AS 253 sb13 ([])=AS 253 sb13 (R18.st) from by rw [hRs22]] at H
 replace H:Hd _ _ _ [blk r5 (AK vS6 vM7 vC8 vR9 vK10 J11 ((AZ u4).w) ((AZ u4).t) ((AZ u4).o) R18.part R18.ep R18.g hv12 sb13 vs14) 185,Y (Ak Ag) vS6 J11.us,Y Af vM7 J11.map,Y Af vC8 J11.comb,Y Af vR9 J11.red,Y (Ai .i64) vK10 J11.marks,AT (R18.g) hv12,Y (Ak (Ai .i64)) vs14 us15,AS 253 sb13 (R18.st),Y (Ak Ag) vS1 [(u4,Dh),(Fy,[])],Y Af vP2 Dy,Y (Ai .i64) vK3 [1]] [gl]:=H
 replace H:=CM r5 vS6 vM7 vC8 vR9 vK10 J11 ((AZ u4).w) ((AZ u4).t) ((AZ u4).o) sb13 R18 hv12 vs14 us15 hf17 H
 replace H:=H.h1 (A:=By r5 vS6 vM7 vC8 vR9 vK10 J11 ((AZ u4).w) ((AZ u4).t) ((AZ u4).o) sb13 R18)
 have hsj_R18:=hf16
 have hR0:R18=JD:=by rw [hR19];rfl
 obtain ⟨hk0,hk1,hk2,hk3⟩:=hoks
 rw [←hR0] at hk0
 have hB:=hk0.mono (show 99000≤99999 by omega)
 have hB1:=hk0.mono (show 99000≤100000 by omega)
 refine Ah 5 U (Ac (Z ?_))
 replace H:=H.k1
 refine Ab (Ab (Ae (Ad U (V U U (C8 U U U) (Ah 2 U (V U U (C3 U Hm U U) (Ad U (Ac (Z (Cb U (Av (Z (Ab (Ae (Ad U (sc (Mx r5 vS6 vM7 vC8 vR9 vK10 J11 ((AZ u4).w) ((AZ u4).t) ((AZ u4).o) sb13 R18 1 1 0 (by first |assumption|omega|exact C9 _|exact ⟨Di _,by decide⟩|exact Bw.pairs (by assumption)|(unfold AB;omega)|exact (fun r h=>by cases h)|decide|(simp only [List.length_nil];omega)|exact C6) (by first |assumption|omega|exact C9 _|exact ⟨Di _,by decide⟩|exact Bw.pairs (by assumption)|(unfold AB;omega)|exact (fun r h=>by cases h)|decide|(simp only [List.length_nil];omega)|exact C6) (by first |assumption|omega|exact C9 _|exact ⟨Di _,by decide⟩|exact Bw.pairs (by assumption)|(unfold AB;omega)|exact (fun r h=>by cases h)|decide|(simp only [List.length_nil];omega)|exact C6)) H l0 U U (At LS U U) ?_))))))))))))))))
 rintro v25 _ w ⟨rs23,rfl,hf24⟩ H
 replace H:=H.h2 (A:=Y Bl v25 rs23) (B:=By r5 vS6 vM7 vC8 vR9 vK10 J11 ((AZ u4).w) ((AZ u4).t) ((AZ u4).o) sb13 ((Db J11 ((AZ u4).t) R18 1 1 0).1))
 have hq27:(Db J11 ((AZ u4).t) R18 1 1 0).1=(HS J11).1:=by rw [hR0];rfl
 obtain ⟨R26,hR1⟩:∃ z:AD,z=(HS J11).1:=⟨_,rfl⟩
 rw [hq27,←hR1] at H
 replace H:Hd _ _ _ [Y Bl v25 rs23,By r5 vS6 vM7 vC8 vR9 vK10 J11 ((AZ u4).w) ((AZ u4).t) ((AZ u4).o) sb13 R26] [gl]:=H
 have hl1:=congrArg List.length hf24
 rw [List.length_map,hR0] at hl1
 rw [←hR1] at hk1
 have hB1a:=hk1.mono (show 99000≤99999 by omega)
 have hB1b:=hk1.mono (show 99000≤100000 by omega)
 obtain ⟨A28,c29,rfl,hc30,hm31,hp32⟩:=H.fA 0 rfl
 have hn1:=hl1.trans hall.1
 refine Ad U (Ac (Z (Ab (Ae (Ad U (V U U (CL (parts:=[(0,.const (.string ⟨#[98]⟩)),(1,.const (.string ⟨#[49]⟩))]) (vs:=[.string ⟨#[98]⟩,.string ⟨#[49]⟩]) (cs:=[.string ⟨#[98]⟩,.string ⟨#[49]⟩]) U JF U U) (BT (parts:=[(0,.tmp 25)]) (vs:=[.agg #[.string ⟨#[98]⟩,.string ⟨#[49]⟩]]) (cs:=[.string ⟨#[98]⟩,.string ⟨#[49]⟩]) U U U Bu CR U (by decide) (by decide) U U H (fun b33 w H=>?_))))))))
 replace H:=H.h1 (A:=blk b33 [.string ⟨#[98]⟩,.string ⟨#[49]⟩] 106)
 refine V U U (CL (parts:=[(0,.const (.int .i64 2)),(2,.const (.int .i64 1)),(9,.tmp 26)]) (vs:=[.int .i64 2,.int .i64 1,.slice (some ⟨b33,0,none⟩) 1 1]) (cs:=[.int .i64 2,.int .i64 0,.int .i64 1,.int .i64 0,.int .i64 0,.int .i64 0,.int .i64 0,.int .i64 0,.slice none 0 0,.slice (some ⟨b33,0,none⟩) 1 1]) U HU U U) ?_
 replace H:=H.p2
 refine sc (QE r5 vS6 vM7 vC8 vR9 vK10 J11 ((AZ u4).w) ((AZ u4).t) ((AZ u4).o) sb13 R26 (⟨2,0,1,0,0,0,0,0,[],[(⟨⟨#[98]⟩,⟨#[49]⟩⟩:Al)]⟩:BD) (.slice none 0 0) (.slice (some ⟨b33,0,none⟩) 1 1) (by first |assumption|omega|exact C9 _|exact ⟨Di _,by decide⟩|exact Bw.pairs (by assumption)|(unfold AB;omega)|exact (fun r h=>by cases h)|decide|(simp only [List.length_nil];omega)|exact C6) (by first |assumption|omega|exact C9 _|exact ⟨Di _,by decide⟩|exact Bw.pairs (by assumption)|(unfold AB;omega)|exact (fun r h=>by cases h)|decide|(simp only [List.length_nil];omega)|exact C6) (by first |assumption|omega|exact C9 _|exact ⟨Di _,by decide⟩|exact Bw.pairs (by assumption)|(unfold AB;omega)|exact (fun r h=>by cases h)|decide|(simp only [List.length_nil];omega)|exact C6)) H (lX (fun F _ _=>IA _ _ F trivial (by decide)) (lA 0 U (fun F h=>Ci h rfl (by decide) (AY.flat_eq.2 U)) l0)) U U (At Pc U U) ?_
 rintro _ _ w ⟨u34,rs35,rfl,rfl,hf36⟩ H
 replace H:=H.h2 (A:=Y Bl u34 rs35) (B:=By r5 vS6 vM7 vC8 vR9 vK10 J11 ((AZ u4).w) ((AZ u4).t) ((AZ u4).o) sb13 ((Bz J11 R26 (⟨2,0,1,0,0,0,0,0,[],[(⟨⟨#[98]⟩,⟨#[49]⟩⟩:Al)]⟩:BD)).1))
 have hq38:(Bz J11 R26 (⟨2,0,1,0,0,0,0,0,[],[(⟨⟨#[98]⟩,⟨#[49]⟩⟩:Al)]⟩:BD)).1=(Ht J11).1:=by rw [hR1];rfl
 obtain ⟨R37,hR2⟩:∃ z:AD,z=(Ht J11).1:=⟨_,rfl⟩
 rw [hq38,←hR2] at H
 replace H:Hd _ _ _ [Y Bl u34 rs35,By r5 vS6 vM7 vC8 vR9 vK10 J11 ((AZ u4).w) ((AZ u4).t) ((AZ u4).o) sb13 R37,blk b33 [.string ⟨#[98]⟩,.string ⟨#[49]⟩] 106,Y Bl (.slice A28 rs23.length c29) rs23] [gl]:=H
 have hl2:=congrArg List.length hf36
 rw [List.length_map,hR1] at hl2
 rw [←hR2] at hk2
 have hB2a:=hk2.mono (show 99000≤99999 by omega)
 have hB2b:=hk2.mono (show 99000≤100000 by omega)
 obtain ⟨A39,c40,rfl,hc41,hm42,hp43⟩:=H.fA 0 rfl
 have hn2:=hl2.trans hall.2.2.1
 refine Ah 3 U (Dr U U U MT H (fun b44 w H=>(Bk U U U C0 U U H U (Nat.le_of_ble_eq_true U) (fun u hu=>by simp [Value.cells] at hu;rcases hu with rfl|rfl|rfl|rfl|rfl|rfl|rfl|rfl|rfl|rfl<;>rfl) (fun w H=>?_))))
 replace H:=H.h1 (A:=blk b44 [.int .i64 (((Bz J11 R26 (⟨2,0,1,0,0,0,0,0,[],[(⟨⟨#[98]⟩,⟨#[49]⟩⟩:Al)]⟩:BD)).2.1).kind),.int .i64 (((Bz J11 R26 (⟨2,0,1,0,0,0,0,0,[],[(⟨⟨#[98]⟩,⟨#[49]⟩⟩:Al)]⟩:BD)).2.1).sp),.int .i64 (((Bz J11 R26 (⟨2,0,1,0,0,0,0,0,[],[(⟨⟨#[98]⟩,⟨#[49]⟩⟩:Al)]⟩:BD)).2.1).att),.int .i64 (((Bz J11 R26 (⟨2,0,1,0,0,0,0,0,[],[(⟨⟨#[98]⟩,⟨#[49]⟩⟩:Al)]⟩:BD)).2.1).part),.int .i64 (((Bz J11 R26 (⟨2,0,1,0,0,0,0,0,[],[(⟨⟨#[98]⟩,⟨#[49]⟩⟩:Al)]⟩:BD)).2.1).seq),.int .i64 (((Bz J11 R26 (⟨2,0,1,0,0,0,0,0,[],[(⟨⟨#[98]⟩,⟨#[49]⟩⟩:Al)]⟩:BD)).2.1).next),.int .i64 (((Bz J11 R26 (⟨2,0,1,0,0,0,0,0,[],[(⟨⟨#[98]⟩,⟨#[49]⟩⟩:Al)]⟩:BD)).2.1).ep),.int .i64 (((Bz J11 R26 (⟨2,0,1,0,0,0,0,0,[],[(⟨⟨#[98]⟩,⟨#[49]⟩⟩:Al)]⟩:BD)).2.1).why),.slice none 0 0,.slice none 0 0] 64)
 refine Ad U (Ac (Z ?_))
 replace H:=H.p4.p3.p3.p3.k4
 refine Ab (Ae (Ad U ?_))
 replace H:=H.p2
 refine sc (Mx r5 vS6 vM7 vC8 vR9 vK10 J11 ((AZ u4).w) ((AZ u4).t) ((AZ u4).o) sb13 R37 0 1 1 (by first |assumption|omega|exact C9 _|exact ⟨Di _,by decide⟩|exact Bw.pairs (by assumption)|(unfold AB;omega)|exact (fun r h=>by cases h)|decide|(simp only [List.length_nil];omega)|exact C6) (by first |assumption|omega|exact C9 _|exact ⟨Di _,by decide⟩|exact Bw.pairs (by assumption)|(unfold AB;omega)|exact (fun r h=>by cases h)|decide|(simp only [List.length_nil];omega)|exact C6) (by first |assumption|omega|exact C9 _|exact ⟨Di _,by decide⟩|exact Bw.pairs (by assumption)|(unfold AB;omega)|exact (fun r h=>by cases h)|decide|(simp only [List.length_nil];omega)|exact C6)) H l0 U U (At LS U U) ?_
 rintro v47 _ w ⟨rs45,rfl,hf46⟩ H
 replace H:=H.h2 (A:=Y Bl v47 rs45) (B:=By r5 vS6 vM7 vC8 vR9 vK10 J11 ((AZ u4).w) ((AZ u4).t) ((AZ u4).o) sb13 ((Db J11 ((AZ u4).t) R37 0 1 1).1))
 have hq49:(Db J11 ((AZ u4).t) R37 0 1 1).1=(Fs J11).1:=by rw [hR2];rfl
 obtain ⟨R48,hR3⟩:∃ z:AD,z=(Fs J11).1:=⟨_,rfl⟩
 rw [hq49,←hR3] at H
 replace H:Hd _ _ _ [Y Bl v47 rs45,By r5 vS6 vM7 vC8 vR9 vK10 J11 ((AZ u4).w) ((AZ u4).t) ((AZ u4).o) sb13 R48,blk b44 [.int .i64 (((Bz J11 R26 (⟨2,0,1,0,0,0,0,0,[],[(⟨⟨#[98]⟩,⟨#[49]⟩⟩:Al)]⟩:BD)).2.1).kind),.int .i64 (((Bz J11 R26 (⟨2,0,1,0,0,0,0,0,[],[(⟨⟨#[98]⟩,⟨#[49]⟩⟩:Al)]⟩:BD)).2.1).sp),.int .i64 (((Bz J11 R26 (⟨2,0,1,0,0,0,0,0,[],[(⟨⟨#[98]⟩,⟨#[49]⟩⟩:Al)]⟩:BD)).2.1).att),.int .i64 (((Bz J11 R26 (⟨2,0,1,0,0,0,0,0,[],[(⟨⟨#[98]⟩,⟨#[49]⟩⟩:Al)]⟩:BD)).2.1).part),.int .i64 (((Bz J11 R26 (⟨2,0,1,0,0,0,0,0,[],[(⟨⟨#[98]⟩,⟨#[49]⟩⟩:Al)]⟩:BD)).2.1).seq),.int .i64 (((Bz J11 R26 (⟨2,0,1,0,0,0,0,0,[],[(⟨⟨#[98]⟩,⟨#[49]⟩⟩:Al)]⟩:BD)).2.1).next),.int .i64 (((Bz J11 R26 (⟨2,0,1,0,0,0,0,0,[],[(⟨⟨#[98]⟩,⟨#[49]⟩⟩:Al)]⟩:BD)).2.1).ep),.int .i64 (((Bz J11 R26 (⟨2,0,1,0,0,0,0,0,[],[(⟨⟨#[98]⟩,⟨#[49]⟩⟩:Al)]⟩:BD)).2.1).why),.slice none 0 0,.slice none 0 0] 64,Y Bl (.slice A39 rs35.length c40) rs35,Y Bl (.slice A28 rs23.length c29) rs23] [gl]:=H
 have hl3:=congrArg List.length hf46
 rw [List.length_map,hR2] at hl3
 rw [←hR3] at hk3
 have hB3a:=hk3.mono (show 99000≤99999 by omega)
 have hB3b:=hk3.mono (show 99000≤100000 by omega)
 obtain ⟨A50,c51,rfl,hc52,hm53,hp54⟩:=H.fA 0 rfl
 have hn3:=hl3.trans hall.2.2.2.1
 have hm3:=hall.2.2.2.2.1
 have hs3:=hall.2.2.2.2.2
 rw [←hR3] at hm3 hs3 hout
 refine Ad U (Ac (Z (Ab (Ae (Ad U ?_)))))
 replace H:=H.p1
 obtain ⟨hv55,vs56,us57,hsets58,H⟩:=FN r5 vS6 vM7 vC8 vR9 vK10 J11 ((AZ u4).w) ((AZ u4).t) ((AZ u4).o) sb13 R48 H
 replace H:=H.h9 (A:=blk r5 (AK vS6 vM7 vC8 vR9 vK10 J11 ((AZ u4).w) ((AZ u4).t) ((AZ u4).o) R48.part R48.ep R48.g hv55 sb13 vs56) 185) (B:=Y (Ak Ag) vS6 J11.us) (C:=Y Af vM7 J11.map) (D:=Y Af vC8 J11.comb) (E:=Y Af vR9 J11.red) (F:=Y (Ai .i64) vK10 J11.marks) (G:=AT (R48.g) hv55) (I:=Y (Ak (Ai .i64)) vs56 us57) (J:=AS 253 sb13 (R48.st))
 obtain ⟨A59,c60,rfl,hc61,hm62,hp63⟩:=H.fA 1 rfl
 refine sc (PP r5 A59 c60 vM7 vC8 vR9 vK10 J11 ((AZ u4).w) ((AZ u4).t) ((AZ u4).o) R48.part R48.ep R48 hv55 sb13 vs56 (by first |assumption|omega|exact C9 _|exact ⟨Di _,by decide⟩|exact Bw.pairs (by assumption)|(unfold AB;omega)|exact (fun r h=>by cases h)|decide|(simp only [List.length_nil];omega)|exact C6) (by first |assumption|omega|exact C9 _|exact ⟨Di _,by decide⟩|exact Bw.pairs (by assumption)|(unfold AB;omega)|exact (fun r h=>by cases h)|decide|(simp only [List.length_nil];omega)|exact C6) (by first |assumption|omega|exact C9 _|exact ⟨Di _,by decide⟩|exact Bw.pairs (by assumption)|(unfold AB;omega)|exact (fun r h=>by cases h)|decide|(simp only [List.length_nil];omega)|exact C6) (by first |assumption|omega|exact C9 _|exact ⟨Di _,by decide⟩|exact Bw.pairs (by assumption)|(unfold AB;omega)|exact (fun r h=>by cases h)|decide|(simp only [List.length_nil];omega)|exact C6)) H (lA 0 U (fun _ h=>h) (lA 6 U (fun _ h=>h) (lA 4 U BS (lR 0 U l0)))) U U (At Pf U U) ?_
 rintro _ _ w ⟨u64,rfl,rfl⟩ H
 replace H:=H.h1 (A:=Y Ag u64 ((DY dg J11 R48).1))|>.p9|>.p9|>.p9|>.p9|>.p9|>.p9|>.p9|>.p9|>.p9
 replace H:=CM r5 (.slice A59 J11.us.length c60) vM7 vC8 vR9 vK10 J11 ((AZ u4).w) ((AZ u4).t) ((AZ u4).o) sb13 R48 hv55 vs56 us57 hsets58 H
 replace H:=H.h1 (A:=By r5 (.slice A59 J11.us.length c60) vM7 vC8 vR9 vK10 J11 ((AZ u4).w) ((AZ u4).t) ((AZ u4).o) sb13 R48)
 refine Ah 7 U (Ac (Z (Ab (Ae (Ad U (V U U (A0 U JA U) (V U U (Bp U U U) (Ad U ?_))))))))
 refine AQ (d:=42) U (fun h65=>?_) (fun h65=>?_)
 ·refine V U U (Aj U Gs U) (V U U (An U AE U (H.cellI 3 U U)) (V U U (Bp U U U) (Ah 2 U ?_)))
  refine AQ (d:=47) U (fun h66=>?_) (fun h66=>?_)
  ·refine Ad U (V U U (A0 U JA U) (V U U (Bp U U U) (Ah 2 U ?_)))
   refine AQ (d:=52) U (fun h67=>?_) (fun h67=>?_)
   ·refine Ad U (V U U (A0 U JA U) (V U U (Bp U U U) (Ah 2 U ?_)))
    refine AQ (d:=57) U (fun h68=>?_) (fun h68=>?_)
    ·refine Ad U (V U U (CL (parts:=[(0,.const (.string ⟨#[98]⟩)),(1,.const (.string ⟨#[49]⟩))]) (vs:=[.string ⟨#[98]⟩,.string ⟨#[49]⟩]) (cs:=[.string ⟨#[98]⟩,.string ⟨#[49]⟩]) U JF U U) (BT (parts:=[(0,.tmp 59)]) (vs:=[.agg #[.string ⟨#[98]⟩,.string ⟨#[49]⟩]]) (cs:=[.string ⟨#[98]⟩,.string ⟨#[49]⟩]) U U U Bu CR U (by decide) (by decide) U U H (fun b69 w H=>(sc (QO u64 (.slice (some ⟨b69,0,none⟩) 1 1) ((DY dg J11 R48).1) [(⟨⟨#[98]⟩,⟨#[49]⟩⟩:Al)]) H (lA 2 U BS (lA 0 U (fun F h=>Ci h rfl (by decide) (AY.flat_eq.2 U)) l0)) U U (At O5 U U) ?_))))
     rintro _ _ w ⟨rfl,rfl⟩ H
     refine Ah 2 U ?_
     refine AQ (d:=63) U (fun h70=>?_) (fun h70=>?_)
     ·refine Ah 3 U ?_
      refine Em (d:=66) (b:=(DY dg J11 R48).2.2) U (fun h71=>?_) (fun h71=>?_)
      ·refine Ad U ?_
       replace H:=H.p1
       replace H:Hd _ _ _ [By r5 (.slice A59 J11.us.length c60) vM7 vC8 vR9 vK10 J11 ((AZ u4).w) ((AZ u4).t) ((AZ u4).o) sb13 R48,blk b69 [.string ⟨#[98]⟩,.string ⟨#[49]⟩] 106,Y Ag u64 ((DY dg J11 R48).1),Y Bl (.slice A50 rs45.length c51) rs45,blk b44 [.int .i64 (((Bz J11 R26 (⟨2,0,1,0,0,0,0,0,[],[(⟨⟨#[98]⟩,⟨#[49]⟩⟩:Al)]⟩:BD)).2.1).kind),.int .i64 (((Bz J11 R26 (⟨2,0,1,0,0,0,0,0,[],[(⟨⟨#[98]⟩,⟨#[49]⟩⟩:Al)]⟩:BD)).2.1).sp),.int .i64 (((Bz J11 R26 (⟨2,0,1,0,0,0,0,0,[],[(⟨⟨#[98]⟩,⟨#[49]⟩⟩:Al)]⟩:BD)).2.1).att),.int .i64 (((Bz J11 R26 (⟨2,0,1,0,0,0,0,0,[],[(⟨⟨#[98]⟩,⟨#[49]⟩⟩:Al)]⟩:BD)).2.1).part),.int .i64 (((Bz J11 R26 (⟨2,0,1,0,0,0,0,0,[],[(⟨⟨#[98]⟩,⟨#[49]⟩⟩:Al)]⟩:BD)).2.1).seq),.int .i64 (((Bz J11 R26 (⟨2,0,1,0,0,0,0,0,[],[(⟨⟨#[98]⟩,⟨#[49]⟩⟩:Al)]⟩:BD)).2.1).next),.int .i64 (((Bz J11 R26 (⟨2,0,1,0,0,0,0,0,[],[(⟨⟨#[98]⟩,⟨#[49]⟩⟩:Al)]⟩:BD)).2.1).ep),.int .i64 (((Bz J11 R26 (⟨2,0,1,0,0,0,0,0,[],[(⟨⟨#[98]⟩,⟨#[49]⟩⟩:Al)]⟩:BD)).2.1).why),.slice none 0 0,.slice none 0 0] 64,Y Bl (.slice A39 rs35.length c40) rs35,Y Bl (.slice A28 rs23.length c29) rs23] [gl]:=H
       obtain ⟨hv72,vs73,us74,hsets75,H⟩:=FN r5 (.slice A59 J11.us.length c60) vM7 vC8 vR9 vK10 J11 ((AZ u4).w) ((AZ u4).t) ((AZ u4).o) sb13 R48 H
       replace H:=H.h9 (A:=blk r5 (AK (.slice A59 J11.us.length c60) vM7 vC8 vR9 vK10 J11 ((AZ u4).w) ((AZ u4).t) ((AZ u4).o) R48.part R48.ep R48.g hv72 sb13 vs73) 185) (B:=Y (Ak Ag) (.slice A59 J11.us.length c60) J11.us) (C:=Y Af vM7 J11.map) (D:=Y Af vC8 J11.comb) (E:=Y Af vR9 J11.red) (F:=Y (Ai .i64) vK10 J11.marks) (G:=AT (R48.g) hv72) (I:=Y (Ak (Ai .i64)) vs73 us74) (J:=AS 253 sb13 (R48.st))
       refine sc (Ja r5 A59 c60 vM7 vC8 vR9 vK10 J11 ((AZ u4).w) ((AZ u4).t) ((AZ u4).o) R48.part R48.ep R48 hv72 sb13 vs73 (by first |assumption|omega|exact C9 _|exact ⟨Di _,by decide⟩|exact Bw.pairs (by assumption)|(unfold AB;omega)|exact (fun r h=>by cases h)|decide|(simp only [List.length_nil];omega)|exact C6)) H (lA 0 U (fun _ h=>h) l0) U U (At I8 U U) ?_
       rintro v76 _ w rfl H
       replace H:=H.h1 (A:=Y (Ai .i64) v76 (Aw J11.us.length R48))|>.p9|>.p9|>.p9|>.p9|>.p9|>.p9|>.p9|>.p9|>.p9
       replace H:=CM r5 (.slice A59 J11.us.length c60) vM7 vC8 vR9 vK10 J11 ((AZ u4).w) ((AZ u4).t) ((AZ u4).o) sb13 R48 hv72 vs73 us74 hsets75 H
       replace H:=H.h1 (A:=By r5 (.slice A59 J11.us.length c60) vM7 vC8 vR9 vK10 J11 ((AZ u4).w) ((AZ u4).t) ((AZ u4).o) sb13 R48)
       refine BT (parts:=[(0,.const (.int .i64 0)),(1,.const (.int .i64 1))]) (vs:=[.int .i64 0,.int .i64 1]) (cs:=[.int .i64 0,.int .i64 1]) U U U DP GK U (by decide) (by decide) U U H (fun b77 w H=>(sc (YK v76 (.slice (some ⟨b77,0,none⟩) 2 2) (Aw J11.us.length R48) [0,1]) H (lA 2 U BS (lA 0 U (fun F h=>Ci h rfl (by decide) (AY.flat_eq.2 U)) l0)) U U (At Vp U U) ?_))
       rintro _ _ w ⟨rfl,rfl⟩ H
       refine Ah 2 U ?_
       refine AQ (d:=72) U (fun h78=>?_) (fun h78=>?_)
       ·refine Ad U ?_
        replace H:=H.p1
        replace H:Hd _ _ _ [By r5 (.slice A59 J11.us.length c60) vM7 vC8 vR9 vK10 J11 ((AZ u4).w) ((AZ u4).t) ((AZ u4).o) sb13 R48,blk b77 [.int .i64 0,.int .i64 1] 3,Y (Ai .i64) v76 (Aw J11.us.length R48),blk b69 [.string ⟨#[98]⟩,.string ⟨#[49]⟩] 106,Y Ag u64 ((DY dg J11 R48).1),Y Bl (.slice A50 rs45.length c51) rs45,blk b44 [.int .i64 (((Bz J11 R26 (⟨2,0,1,0,0,0,0,0,[],[(⟨⟨#[98]⟩,⟨#[49]⟩⟩:Al)]⟩:BD)).2.1).kind),.int .i64 (((Bz J11 R26 (⟨2,0,1,0,0,0,0,0,[],[(⟨⟨#[98]⟩,⟨#[49]⟩⟩:Al)]⟩:BD)).2.1).sp),.int .i64 (((Bz J11 R26 (⟨2,0,1,0,0,0,0,0,[],[(⟨⟨#[98]⟩,⟨#[49]⟩⟩:Al)]⟩:BD)).2.1).att),.int .i64 (((Bz J11 R26 (⟨2,0,1,0,0,0,0,0,[],[(⟨⟨#[98]⟩,⟨#[49]⟩⟩:Al)]⟩:BD)).2.1).part),.int .i64 (((Bz J11 R26 (⟨2,0,1,0,0,0,0,0,[],[(⟨⟨#[98]⟩,⟨#[49]⟩⟩:Al)]⟩:BD)).2.1).seq),.int .i64 (((Bz J11 R26 (⟨2,0,1,0,0,0,0,0,[],[(⟨⟨#[98]⟩,⟨#[49]⟩⟩:Al)]⟩:BD)).2.1).next),.int .i64 (((Bz J11 R26 (⟨2,0,1,0,0,0,0,0,[],[(⟨⟨#[98]⟩,⟨#[49]⟩⟩:Al)]⟩:BD)).2.1).ep),.int .i64 (((Bz J11 R26 (⟨2,0,1,0,0,0,0,0,[],[(⟨⟨#[98]⟩,⟨#[49]⟩⟩:Al)]⟩:BD)).2.1).why),.slice none 0 0,.slice none 0 0] 64,Y Bl (.slice A39 rs35.length c40) rs35,Y Bl (.slice A28 rs23.length c29) rs23] [gl]:=H
        obtain ⟨hv79,vs80,us81,hsets82,H⟩:=FN r5 (.slice A59 J11.us.length c60) vM7 vC8 vR9 vK10 J11 ((AZ u4).w) ((AZ u4).t) ((AZ u4).o) sb13 R48 H
        replace H:=H.h9 (A:=blk r5 (AK (.slice A59 J11.us.length c60) vM7 vC8 vR9 vK10 J11 ((AZ u4).w) ((AZ u4).t) ((AZ u4).o) R48.part R48.ep R48.g hv79 sb13 vs80) 185) (B:=Y (Ak Ag) (.slice A59 J11.us.length c60) J11.us) (C:=Y Af vM7 J11.map) (D:=Y Af vC8 J11.comb) (E:=Y Af vR9 J11.red) (F:=Y (Ai .i64) vK10 J11.marks) (G:=AT (R48.g) hv79) (I:=Y (Ak (Ai .i64)) vs80 us81) (J:=AS 253 sb13 (R48.st))
        have hul_us81:=ZM hsets82 (show Bw _ R48 by assumption) (by omega)
        have hsl_us81:=ZN hsets82 (show Bw _ R48 by assumption)
        refine sc (YY r5 A59 c60 vM7 vC8 vR9 vK10 J11 ((AZ u4).w) ((AZ u4).t) ((AZ u4).o) R48.part R48.ep R48 hv79 sb13 vs80 us81 (by first |assumption|omega|exact C9 _|exact ⟨Di _,by decide⟩|exact Bw.pairs (by assumption)|(unfold AB;omega)|exact (fun r h=>by cases h)|decide|(simp only [List.length_nil];omega)|exact C6) (by first |assumption|omega|exact C9 _|exact ⟨Di _,by decide⟩|exact Bw.pairs (by assumption)|(unfold AB;omega)|exact (fun r h=>by cases h)|decide|(simp only [List.length_nil];omega)|exact C6) (by first |assumption|omega|exact C9 _|exact ⟨Di _,by decide⟩|exact Bw.pairs (by assumption)|(unfold AB;omega)|exact (fun r h=>by cases h)|decide|(simp only [List.length_nil];omega)|exact C6) (by first |assumption|omega|exact C9 _|exact ⟨Di _,by decide⟩|exact Bw.pairs (by assumption)|(unfold AB;omega)|exact (fun r h=>by cases h)|decide|(simp only [List.length_nil];omega)|exact C6) (by first |assumption|omega|exact C9 _|exact ⟨Di _,by decide⟩|exact Bw.pairs (by assumption)|(unfold AB;omega)|exact (fun r h=>by cases h)|decide|(simp only [List.length_nil];omega)|exact C6) (by first |assumption|omega|exact C9 _|exact ⟨Di _,by decide⟩|exact Bw.pairs (by assumption)|(unfold AB;omega)|exact (fun r h=>by cases h)|decide|(simp only [List.length_nil];omega)|exact C6) (by first |assumption|omega|exact C9 _|exact ⟨Di _,by decide⟩|exact Bw.pairs (by assumption)|(unfold AB;omega)|exact (fun r h=>by cases h)|decide|(simp only [List.length_nil];omega)|exact C6)) H (lA 0 U (fun _ h=>h) (lA 6 U (fun _ h=>h) (lA 4 U BS (lA 7 U BS (lR 0 U l0))))) U U (At Vt U U) ?_
        rintro v85 _ w ⟨zs83,rfl,hf84⟩ H
        have hsl:=congrArg List.length hf84
        rw [List.length_map] at hsl
        have hsl2:(Ga dg J11 R48).length=1:=by unfold Ga;rw [List.length_map];exact hs3
        obtain ⟨A86,c87,rfl,hc88,hm89,hp90⟩:=H.fA 0 rfl
        replace H:Hd _ _ _ [Y LD (.slice A86 zs83.length c87) zs83,blk r5 (AK (.slice A59 J11.us.length c60) vM7 vC8 vR9 vK10 J11 ((AZ u4).w) ((AZ u4).t) ((AZ u4).o) R48.part R48.ep R48.g hv79 sb13 vs80) 185,Y (Ak Ag) (.slice A59 J11.us.length c60) J11.us,Y Af vM7 J11.map,Y Af vC8 J11.comb,Y Af vR9 J11.red,Y (Ai .i64) vK10 J11.marks,AT (R48.g) hv79,Y (Ak (Ai .i64)) vs80 us81,AS 253 sb13 (R48.st),blk b77 [.int .i64 0,.int .i64 1] 3,Y (Ai .i64) v76 (Aw J11.us.length R48),blk b69 [.string ⟨#[98]⟩,.string ⟨#[49]⟩] 106,Y Ag u64 ((DY dg J11 R48).1),Y Bl (.slice A50 rs45.length c51) rs45,blk b44 [.int .i64 (((Bz J11 R26 (⟨2,0,1,0,0,0,0,0,[],[(⟨⟨#[98]⟩,⟨#[49]⟩⟩:Al)]⟩:BD)).2.1).kind),.int .i64 (((Bz J11 R26 (⟨2,0,1,0,0,0,0,0,[],[(⟨⟨#[98]⟩,⟨#[49]⟩⟩:Al)]⟩:BD)).2.1).sp),.int .i64 (((Bz J11 R26 (⟨2,0,1,0,0,0,0,0,[],[(⟨⟨#[98]⟩,⟨#[49]⟩⟩:Al)]⟩:BD)).2.1).att),.int .i64 (((Bz J11 R26 (⟨2,0,1,0,0,0,0,0,[],[(⟨⟨#[98]⟩,⟨#[49]⟩⟩:Al)]⟩:BD)).2.1).part),.int .i64 (((Bz J11 R26 (⟨2,0,1,0,0,0,0,0,[],[(⟨⟨#[98]⟩,⟨#[49]⟩⟩:Al)]⟩:BD)).2.1).seq),.int .i64 (((Bz J11 R26 (⟨2,0,1,0,0,0,0,0,[],[(⟨⟨#[98]⟩,⟨#[49]⟩⟩:Al)]⟩:BD)).2.1).next),.int .i64 (((Bz J11 R26 (⟨2,0,1,0,0,0,0,0,[],[(⟨⟨#[98]⟩,⟨#[49]⟩⟩:Al)]⟩:BD)).2.1).ep),.int .i64 (((Bz J11 R26 (⟨2,0,1,0,0,0,0,0,[],[(⟨⟨#[98]⟩,⟨#[49]⟩⟩:Al)]⟩:BD)).2.1).why),.slice none 0 0,.slice none 0 0] 64,Y Bl (.slice A39 rs35.length c40) rs35,Y Bl (.slice A28 rs23.length c29) rs23] [gl]:=H
        replace H:=H.p9.p9.p9.p9.p9.p9.p9.p9.p9
        replace H:=CM r5 (.slice A59 J11.us.length c60) vM7 vC8 vR9 vK10 J11 ((AZ u4).w) ((AZ u4).t) ((AZ u4).o) sb13 R48 hv79 vs80 us81 hsets82 H
        replace H:=H.h1 (A:=By r5 (.slice A59 J11.us.length c60) vM7 vC8 vR9 vK10 J11 ((AZ u4).w) ((AZ u4).t) ((AZ u4).o) sb13 R48)
        refine V U U (A0 U ZI U) (V U U (Bp U U U) (Ah 2 U (Ac (Z ?_))))
        replace H:=H.p1.k1
        refine Ao (Aq U U ?_)
        replace H:=H.nil
        exact Am ⟨congrArg Value.bool (decide_eq_true (by omega)),rfl⟩ H
       exact (h78 hm3).elim
      exact absurd hout.2 (by rw [h71];decide)
     exact (h70 hout.1).elim
    exact (h68 (by omega)).elim
   exact (h67 (by omega)).elim
  exact (h66 (by rw [hR1];exact hall.2.1)).elim
 exact (h65 (by omega)).elim
def Ca (n:Nat):List UInt8:=(List.range 8).map fun i=>UInt8.ofNat (n / 256^(7 - i))
def ET (l:List UInt8):Nat:=l.foldl (fun n x=>n*256+x.toNat) 0
theorem FD (n:Nat):(Ca n).length=8:=by simp [Ca]
theorem RX (n:Nat):Ca n=[UInt8.ofNat (n / 72057594037927936),UInt8.ofNat (n / 281474976710656),UInt8.ofNat (n / 1099511627776),UInt8.ofNat (n / 4294967296),UInt8.ofNat (n / 16777216),UInt8.ofNat (n / 65536),UInt8.ofNat (n / 256),UInt8.ofNat (n / 1)]:=rfl
theorem XQ {n:Nat} (h:n<18446744073709551616):ET (Ca n)=n:=by
 rw [RX]
 simp only [ET,List.foldl_cons,List.foldl_nil,UInt8.toNat_ofNat']
 omega
theorem XR:∀ (l:List UInt8) (k:Nat),ET l<256^l.length:=by
 intro l _
 have:∀ (l:List UInt8) (n m:Nat),n<256^m→l.foldl (fun n x=>n*256+x.toNat) n<256^(m+l.length):=by
  intro l
  induction l with
  |nil=>intro n m h;exact h
  |cons x l ih=>
   intro n m h
   have hx:=UInt8.toNat_lt x
   have:=ih (n*256+x.toNat) (m+1) (by rw [Nat.pow_succ];omega)
   rw [List.foldl_cons,List.length_cons,show m+(l.length+1)=m+1+l.length by omega]
   exact this
 have:=this l 0 0 (by decide)
 rwa [Nat.zero_add] at this
theorem XS (l:List UInt8) (x:UInt8):ET (l++[x])=ET l*256+x.toNat:=by
 unfold ET;rw [List.foldl_append];rfl
def Cp (s:ByteArray):List UInt8:=s.data.toList
def Dd (s:ByteArray):List UInt8:=Ca s.size++Cp s
theorem Gj (s:ByteArray):(Cp s).length=s.size:=by unfold Cp;exact Array.length_toList
theorem IJ (s:ByteArray):(Dd s).length=8+s.size:=by unfold Dd;rw [List.length_append,FD,Gj]
def FQ (l:List UInt8):ByteArray:=⟨l.toArray⟩
theorem Zi (s:ByteArray):FQ (Cp s)=s:=by cases s;simp [FQ,Cp]
theorem Sa (l:List UInt8):Cp (FQ l)=l:=by simp [FQ,Cp]
def GC (b:List UInt8) (at_:Int):Option (Int×Int):=
 if at_<0∨(b.length:Int)<at_∨(b.length:Int) - at_<8 then none else some (IntKind.i64.wrap (ET ((b.drop at_.toNat).take 8):Nat),at_+8)
def Jk (b:List UInt8) (at_:Int):Option (ByteArray×Int):=
 match GC b at_ with
 |none=>none
 |some (n,next)=>if n<0∨(b.length:Int) - next<n then none else some (FQ ((b.drop next.toNat).take n.toNat),next+n)
theorem Qi {a c:List UInt8} {n k:Nat} (hn:n<9223372036854775808) (hk:a.length=k):GC (a++(Ca n++c)) (k:Int)=some ((n:Int),((k+8:Nat):Int)):=by
 subst hk
 unfold GC
 rw [if_neg (by rw [List.length_append,List.length_append,FD];omega)]
 have h1:((a++(Ca n++c)).drop ((a.length:Nat):Int).toNat).take 8=Ca n:=by
  rw [Int.toNat_natCast,List.drop_left,←FD n,List.take_left]
 rw [h1,XQ (by omega),AF (by omega) (by omega)]
 rfl
theorem Qj {a c:List UInt8} {s:ByteArray} {k:Nat} (hs:s.size<9223372036854775808) (hk:a.length=k):Jk (a++(Dd s++c)) (k:Int)=some (s,((k+8+s.size:Nat):Int)):=by
 unfold Jk
 have h:a++(Dd s++c)=a++(Ca s.size++(Cp s++c)):=by unfold Dd;rw [List.append_assoc]
 rw [h,Qi hs hk]
 dsimp only
 rw [if_neg (by rw [List.length_append,List.length_append,List.length_append,FD,Gj];omega)]
 have h2:(a++(Ca s.size++(Cp s++c))).drop ((k+8:Nat):Int).toNat=Cp s++c:=by
  rw [Int.toNat_natCast,←List.append_assoc,show k+8=(a++Ca s.size).length by rw [List.length_append,FD,hk],List.drop_left]
 rw [h2,Int.toNat_natCast,←Gj s,List.take_left,Zi,Gj]
 rfl
def Cy (ps:List Al):List UInt8:=ps.flatMap fun p=>Dd p.key++Dd p.val
def FK (ps:List Al):List UInt8:=Ca ps.length++Cy ps
theorem PS (ps:List Al) (p:Al):Cy (ps++[p])=Cy ps++(Dd p.key++Dd p.val):=by unfold Cy;rw [List.flatMap_append];simp
theorem PT {ps:List Al} {k:Nat} {p:Al} (h:ps[k]?=some p):Cy ps=Cy (ps.take k)++(Dd p.key++(Dd p.val++Cy (ps.drop (k+1)))):=by
 obtain ⟨hl,e⟩:=List.getElem?_eq_some_iff.1 h
 have:ps=ps.take k++p::ps.drop (k+1):=by rw [←e,←List.drop_eq_getElem_cons hl,List.take_append_drop]
 conv=>lhs;rw [this]
 unfold Cy
 rw [List.flatMap_append,List.flatMap_cons,List.append_assoc]
def EM (x:UInt8):List Value:=[.int .u8 x.toNat]
def B2:Kd UInt8:=flat EM 1 (by omega) (fun _=>rfl) (fun _ c h=>by simp [EM] at h;subst h;rfl)
structure CU where
 c:Int
 s:Int
 e:Int
 x:Int
def CJ (chunk att:Int):Int:=if att.tmod 2≠0 then chunk+1 else chunk
def De (n size:Int):Int:=if n<1∨size<1 then 0 else (n - 1).tdiv size+1
def D4 (ps:List Al) (size q:Int):List Al:=if q<0∨De ps.length size≤q then [] else (ps.drop (q*size).toNat).take size.toNat
def BR (D:Bj) (J:AG) (s:Nat) (att:Int):List Int:=
 if (AA D J s).2≠0 then [] else (List.range J.parts.toNat).map fun (p:Nat)=>De ((BM D J s p).length:Nat) (CJ J.chunk att)
structure FU where
 sp:Nat
 att:Int
 ws:List CU
def Gx (D:Bj) (J:AG) (s:Nat) (att:Int):FU:=⟨s,att,(BR D J s att).map fun n=>⟨n,J.window,0,0⟩⟩
def CV (D:Bj) (J:AG) (s:Nat) (att p q:Int):List Al:=if p<0 then [] else D4 (BM D J s p) (CJ J.chunk att) q
def MV (m:FU) (p:Int):Prop:=0≤p∧p<m.ws.length
instance (m:FU) (p:Int):Decidable (MV m p):=by unfold MV;infer_instance
theorem Sq {n size:Int} (h1:1≤n) (h2:1≤size):1≤De n size∧De n size≤n:=by
 unfold De
 rw [if_neg (by omega)]
 have h3:(n - 1).tdiv size=(n - 1) / size:=Int.tdiv_eq_ediv_of_nonneg (by omega)
 rw [h3]
 have h4:0≤(n - 1) / size:=Int.ediv_nonneg (by omega) (by omega)
 have h5:(n - 1) / size≤n - 1:=Int.ediv_le_self _ (by omega)
 omega
theorem NB {n size:Int} (h:0≤n):0≤De n size∧De n size≤n:=by
 by_cases h1:n<1∨size<1
 ·unfold De;rw [if_pos h1];omega
 ·have:=Sq (n:=n) (size:=size) (by omega) (by omega);omega
theorem IX {chunk att:Int} (h:1≤chunk∧chunk≤7):1≤CJ chunk att∧CJ chunk att≤8:=by
 unfold CJ;split<;>omega
theorem NL (D:Bj) (J:AG) (s:Nat) (att:Int):(BR D J s att).length=if (AA D J s).2≠0 then 0 else J.parts.toNat:=by
 unfold BR
 split
 ·rfl
 ·simp
theorem SJ {D:Bj} {J:AG} {s:Nat} {att n:Int} (h:n∈BR D J s att):0≤n∧n≤40:=by
 unfold BR at h
 split at h
 ·cases h
 ·obtain ⟨p,_,rfl⟩:=List.mem_map.1 h
  have h1:=NB (n:=((BM D J s p).length:Nat)) (size:=CJ J.chunk att) (by omega)
  have h2:=G8 D J s p
  omega
theorem GT:∀ l:List UInt8,l.flatMap EM=l.map fun b=>Value.int .u8 b.toNat
 |[]=>rfl
 |x::l=>by rw [List.flatMap_cons,GT l];rfl
section
variable {P:Program} {ops:Array Oper} {Q:Exit→Act→World→Prop} {rest:List Oper} {n:Nat} {l:BB} {w0 w:World} {F F0:AN} {o:Oper} {v:Value} {As Rs:List SP} {x y z:Operand} {t:TypeId}
section
variable {α:Type} {enc:α→List Value} {sz:Nat} {hp:0<sz} {hl:∀ x,(enc x).length=sz} {h1:∀ x,∀ c∈enc x,c.oneCell'=true}
theorem Yy {e bytes:Nat} {b bt:Nat} {xs ys:List α} {B:Option Addr} {m c c2:Nat} (hg:gd ops l o=some true) (hd:Cm n o.dst=true) (ho:o.op=.call { callee:=.builtin .copy,args:=#[x,y],argTypes:=#[t,t] }) (hs:C4 P t=some (e,sz,bytes))
  (hx:ev l x=some (.slice (some ⟨b,0,none⟩) m c)) (hy:ev l y=some (.slice B m c2)) (H:Hd w0 F0 w (Iz enc b bt xs::As) Rs) (hc:xs.length=c) (hmc:m≤c)
  (hn:∀ F,(∀ A∈As,A.P w F)→(∀ R∈Rs,R.P w F)→(Aa (flat enc sz hp hl h1) (.slice B m c2) ys).P w F)
  (h:∀ w',Hd w0 F0 w' (Iz enc b bt (ys++xs.drop m)::As) Rs→WL P ops Q rest n (B_ l o.dst (.int .i64 (m:Int))) w'):WL P ops Q (o::rest) n l w:=by
 obtain ⟨F,hF1,hF2⟩:∃ F,(∀ A∈As,A.P w F)∧(∀ R∈Rs,R.P w F):=H.read fun F a r=>⟨F,fun A hA=>a A (List.mem_cons_of_mem _ hA),r⟩
 obtain ⟨hyl,_,_,news,hnr,hnR⟩:MD (flat enc sz hp hl h1) w F ys B m c2:=by
  obtain ⟨A',n',c',e',h'⟩:=hn F hF1 hF2
  cases e'
  exact h'
 have hnl:news.length=m*sz:=by rw [hnR.len,hyl];rfl
 have hm0:B=none→m=0:=by
  intro hB
  rcases hnr.2 with rfl|⟨b,off,C,t',fr,e',_⟩
  ·have:m*sz=0:=by rw [←hnl];rfl
   exact (Nat.mul_eq_zero.1 this).resolve_right (by omega)
  ·rw [hB] at e';cases e'
 obtain ⟨hu,i,hi,hi1,hi2⟩:=E6 hs
 have hfc:=Ld (P:=P) (c:=c2) hnr hnl hm0
 have hnews:news=ys.flatMap enc:=AY.flat_eq.1 hnR
 obtain ⟨F1,hb⟩:∃ F,(Iz enc b bt xs).P w F:=H.fact (List.mem_cons_self ..) fun F hb=>⟨F,hb⟩
 have hfit:0+0+news.length≤(xs.flatMap enc).length:=by rw [hnl,Gn hl,Nat.add_zero,Nat.zero_add];exact Nat.mul_le_mul_right _ (by omega)
 obtain ⟨w',hr,_,_⟩:=Jn (P:=P) news (xs.flatMap enc) 0 0 w hb hfit hnR.one
 have hnew:DZ (xs.flatMap enc) (0+0) news=(ys++xs.drop m).flatMap enc:=by
  rw [Nat.add_zero,Jf _ _ _ (by rw [Nat.zero_add] at hfit ⊢;simpa using hfit),hnews,List.take_zero,Gn hl,hyl,Nat.zero_add,JT hl]
  simp
 refine V hg hd (v:=.int .i64 (m:Int)) (w':=w') (fun a ha=>?_) (h w' (H.write fun F' hb'=>?_))
 ·simp [execOp,ho,resolve,ha.eval hx,ha.eval hy,invoke,builtin,Builtin.copy_,run_underlying hu,sizeOf,typeInfo,hi,hi1,Builtin.lenOf,hfc w rfl,hr,goInt]
 ·obtain ⟨w'',hr',h2,h3⟩:=Jn (P:=P) news (xs.flatMap enc) 0 0 w hb' hfit hnR.one
  rw [hr] at hr'
  cases hr'
  refine ⟨?_,h3⟩
  show (blk b _ bt).P w' F'
  rw [←hnew]
  exact h2
end
theorem Yu {e bytes:Nat} {zv u:Value} {xs:List UInt8} {s:ByteArray} {ts:TypeId}
  (hg:gd ops l o=some true) (hd:Cm n o.dst=true) (ho:o.op=.call { callee:=.builtin .append,args:=#[x,y],argTypes:=#[t,ts] }) (hs:C4 P t=some (e,1,bytes)) (hz:CE P e=some zv) (hzs:zv.cells.size=1) (hb0:0<bytes) (hts:P.underlying ts=some .string)
  (hx:ev l x=some u) (hy:ev l y=some (.string s)) (H:Hd w0 F0 w (Y B2 u xs::As) Rs) (hb:(xs.length+s.size)*bytes≤140737488355328)
  (h:∀ u' w',Hd w0 F0 w' (Y B2 u' (xs++Cp s)::As) Rs→WL P ops Q rest n (B_ l o.dst u') w'):WL P ops Q (o::rest) n l w:=by
 obtain ⟨hu,i,hi,hi1,hi2⟩:=E6 hs
 have hfc:∀ w':World,w'.heap=w.heap→(Builtin.firstCells 1 s.size (.string s)).run P w'=.ok ((Cp s).flatMap EM).toArray w':=by
  intro w' _
  have e1:s.extract 0 s.size=s:=by simp
  simp only [Builtin.firstCells,e1,Sem.run_pure]
  rw [GT]
  congr 1
  apply Array.ext'
  simp [Cp]
 have hnl:((Cp s).flatMap EM).length=s.size*1:=by rw [GT,List.length_map,Gj,Nat.mul_one]
 have h1:∀ c∈(Cp s).flatMap EM,c.oneCell'=true:=by
  rw [GT]
  intro c hc
  obtain ⟨b,_,rfl⟩:=List.mem_map.1 hc
  rfl
 have key:∀ F1,(Y B2 u xs).P w F1→(∀ k,F1 k→k<w.heap.size)→∃ A c A' c' w' F',u=.slice A xs.length c∧(Builtin.append_ #[t,ts] o.type #[u,.string s]).run P w=.ok (.slice A' (xs.length+s.size) c') w'∧(Y B2 (.slice A' (xs.length+s.size) c') (xs++Cp s)).P w' F'∧B1 F1 w w'∧(∀ k,F' k→k<w'.heap.size∧(F1 k∨w.heap.size≤k)):=by
  rintro F1 ⟨A,n',c,e',hxl,cs,G1,G2,g1,g2,gd,hr,hR⟩ hlt
  cases e'
  subst hxl
  obtain ⟨A',c',w',F',hrun,hrow,hupd,hF'⟩:=Mw (P:=P) (tx:=ts) (ty:=o.type) (x:=.string s) (m:=s.size) (news:=(Cp s).flatMap EM) hs hz hzs hts (.inr rfl) hr (fun k hk=>hlt k (g1 k hk)) (by simp [Builtin.lenOf]) hfc hnl h1 hb0 hb
  refine ⟨A,c,A',c',w',F',rfl,hrun,?_,⟨hupd.os,hupd.tape,hupd.output,hupd.size,fun k hk hn'=>hupd.block k hk (fun q=>hn' (g1 k q))⟩,fun k hk=>⟨(hF' k hk).1,(hF' k hk).2.imp (g1 k) id⟩⟩
  exact ⟨A',_,c',rfl,by rw [List.length_append,Gj],cs++(Cp s).flatMap EM,F',none_,fun _ q=>q,fun _ q=>q.elim,fun _ _ q=>q,hrow,Cx.flatR (F:=none_) (AY.flat_eq.2 (by rw [AY.flat_eq.1 hR.toR];simp))⟩
 have hall:∃ F1,(Y B2 u xs).P w F1∧∀ k,F1 k→k<w.heap.size:=by
  obtain ⟨F,G,⟨F1,F2,a1,a2,a3,a,s⟩,r,d,f,g,u⟩:=H
  exact ⟨F1,a,fun k hk=>(f k (a1 k hk)).1⟩
 obtain ⟨F1,hO,hlt⟩:=hall
 obtain ⟨A,c,A',c',w',F',hue,hrun,_,_,_⟩:=key F1 hO hlt
 refine V hg hd (v:=.slice A' (xs.length+s.size) c') (w':=w') (fun a ha=>?_) (h _ _ (H.grow fun F2 hO2 hlt2=>?_))
 ·simp [execOp,ho,resolve,ha.eval hx,ha.eval hy,invoke,builtin,hrun]
 ·obtain ⟨A3,c3,A4,c4,w4,F4,_,hrun4,h4,h5,h6⟩:=key F2 hO2 hlt2
  rw [hrun] at hrun4
  cases hrun4
  exact ⟨F4,h4,h5,h6⟩
theorem YJ {src dst e:TypeId} {s:ByteArray} (hg:gd ops l o=some true) (hd:Cm n o.dst=true) (ho:o.op=.convert src dst x) (hs:P.underlying src=some .string) (hd':P.underlying dst=some (.slice e)) (he:P.underlying e=some (.int .u8)) (hx:ev l x=some (.string s))
  (hb:s.size≤140737488355328) (H:Hd w0 F0 w As Rs)
  (h:∀ b c w',s.size≤c→c≤9223372036854775807→Hd w0 F0 w' As (Aa B2 (.slice (some ⟨b,0,none⟩) s.size c) (Cp s)::Rs)→WL P ops Q rest n (B_ l o.dst (.slice (some ⟨b,0,none⟩) s.size c)) w'):WL P ops Q (o::rest) n l w:=by
 have hr:=run_bytes_of_string w src dst e s hs hd' he
 have hge:=grownCap_ge w s.size 0 e
 have hle:grownCap w s.size 0 e≤9223372036854775807:=by
  have:=grownCap_le_maxLen w s.size 0 e (by simp only [maxLen];omega)
  simpa [maxLen] using this
 generalize hc:grownCap w s.size 0 e=c at hr hge hle
 generalize hC:bytesRow s c=C at hr
 have hCl:C.toList.take s.size=(Cp s).flatMap EM:=by
  rw [←hC,GT]
  unfold bytesRow
  rw [Array.toList_append,List.take_append_of_le_length (by simp)]
  rw [List.take_of_length_le (by simp)]
  simp [Cp]
 refine V hg hd (v:=.slice (some ⟨w.heap.size,0,none⟩) s.size c) (w':=w.drew.alloc (.cells C e (C.size,C.size+1))) (fun a ha=>?_) (h _ c _ hge hle (Hd.lend (A:=Aa B2 (.slice (some ⟨w.heap.size,0,none⟩) s.size c) (Cp s)) (H.new (F':=fun k=>k=w.heap.size) ?_ ?_ ?_) fun _ h=>h))
 ·simp [execOp,ho,ha.eval hx,hr]
 ·exact (B1.alloc none_ w.drew _).trans (B1.refl none_ _) (fun _ _ x=>x)|>fun u=>⟨u.os,u.tape,u.output,u.size,u.block⟩
 ·refine ⟨_,_,_,rfl,Gj s,hge,hle,(Cp s).flatMap EM,⟨trivial,.inr ⟨w.heap.size,0,C,e,(C.size,C.size+1),rfl,rfl,?_,?_⟩⟩,AY.flat_eq.2 rfl⟩
  ·show (w.heap.push _)[w.heap.size]?=_
   simp
  ·rw [List.drop_zero,show ((Cp s).flatMap EM).length=s.size by rw [GT,List.length_map,Gj]]
   exact hCl
 ·intro k hk
  subst hk
  simp
theorem P5 {src dst e:TypeId} {A:Option Addr} {m c:Nat} {bs:List UInt8} (ho:o.op=.convert src dst x) (hs:P.underlying src=some (.slice e)) (he:P.underlying e=some (.int .u8)) (hd:P.underlying dst=some .string) (hx:ev l x=some (.slice A m c)) {r:ByteArray} (hr:FQ bs=r) (h:(Aa B2 (.slice A m c) bs).P w F):Br P n l w o (.string r) w:=by
 subst hr
 obtain ⟨A',c',e',_,_,_,cs,h4,h5⟩:=Mv h
 cases e'
 have hcs:cs=bs.flatMap EM:=AY.flat_eq.1 h5
 intro a ha
 cases A with
 |none=>
  have:bs=[]:=by
   rcases h4.2 with h6|⟨b,off,C,t',fr,e',_⟩
   ·rw [hcs,GT] at h6;simpa using h6
   ·cases e'
  subst this
  have:=run_convert_bytes_nil (P:=P) w src e hs he 0 c dst hd
  simp [execOp,ho,ha.eval hx,this]
  rfl
 |some ad=>
  have:=run_convert_bytes_back (P:=P) w src dst e ad c bs hs he hd (fun j hj=>by
   have hv:cs[j]?=some (.int .u8 (bs[j].toNat:Int)):=by rw [hcs,GT,List.getElem?_map,List.getElem?_eq_getElem hj];rfl
   obtain ⟨b,off,e1,h6⟩:=h4.cell hv
   cases e1
   rw [Es]
   exact h6)
  simp [execOp,ho,ha.eval hx,this,FQ]
theorem Hd.rd {p:Prop} (H:Hd w0 F0 w As Rs) {S:SP} (hS:∀ F,(∀ A∈As,A.P w F)→(∀ R∈Rs,R.P w F)→S.P w F) (h:∀ F,S.P w F→p):p:=H.read fun F a r=>h F (hS F a r)
theorem P7 {tt e size bytes:TypeId} {A:Option Addr} {m c i' j' m':Nat} {k k':IntKind} {i j:Int} (ho:o.op=.slice tt x (some y) (some z) none) (hs:C4 P tt=some (e,size,bytes)) (hx:ev l x=some (.slice A m c)) (hy:ev l y=some (.int k i)) (hz:ev l z=some (.int k' j))
  (h0:0≤i) (h1:i≤j) (h2:j≤(c:Int)) (hi':i.toNat=i') (hj':j.toNat=j') (hm':j' - i'=m'):Br P n l w o (.slice (DD A c i' size) m' (c - i')) w:=by
 intro a ha
 obtain ⟨hu,inf,hi,hzz,_⟩:=E6 hs
 subst hi' hj' hm'
 have h3:0≤j:=by omega
 have h4:i≤max j 0:=by omega
 have hb:(Instr.sliceBounds true m c (some (.int k i)) (some (.int k' j)) none).run P w=.ok (i.toNat,j.toNat,c) w:=by
  simp [Instr.sliceBounds,Instr.sliceBound,asIntOf,h0,h2,h3,h4]
 unfold DD
 by_cases e1:c=i.toNat
 ·rw [e1] at hb
  cases A<;>simp [execOp,ho,ha.eval hx,ha.eval hy,ha.eval hz,Instr.sliceAt,Instr.slice,hb,run_underlying hu,sizeOf,typeInfo,hi,hzz,e1]
 ·cases A<;>simp [execOp,ho,ha.eval hx,ha.eval hy,ha.eval hz,Instr.sliceAt,Instr.slice,hb,run_underlying hu,sizeOf,typeInfo,hi,hzz,e1]
end
theorem Kr {α:Type} {d:Kd α} {w:World} {F:AN} {A:Option Addr} {m c:Nat} {xs:List α} (h:(Aa d (.slice A m c) xs).P w F) {i m':Nat} (hi:i+m'≤m):(Aa d (.slice (DD A c i d.sz) m' (c - i)) ((xs.drop i).take m')).P w F:=Yi (IB h (i:=i) (by omega)) (by omega)
theorem Ua:∀ x,(EM x).length=1:=fun _=>rfl
/-! ### Numbers, byte by byte -/
theorem YS (n:Nat) {i:Nat} (h:i<8):((n:Nat):Int).fdiv (2^(min ((8:Int)*(7 - ((i:Nat):Int))).toNat IntKind.u64.bits))=((n / 256^(7 - i):Nat):Int):=by
 have e:(2:Int)^(min ((8:Int)*(7 - ((i:Nat):Int))).toNat IntKind.u64.bits)=((256^(7 - i):Nat):Int):=by
  match i,h with
  |0,_=>decide
  |1,_=>decide
  |2,_=>decide
  |3,_=>decide
  |4,_=>decide
  |5,_=>decide
  |6,_=>decide
  |7,_=>decide
 rw [e,Int.fdiv_eq_ediv_of_nonneg _ (Int.natCast_nonneg _),Int.natCast_ediv]
theorem Z2 (m:Nat):IntKind.u8.wrap ((m:Nat):Int)=((UInt8.ofNat m).toNat:Int):=by
 unfold IntKind.wrap
 simp [IntKind.bits,IntKind.signed,UInt8.toNat_ofNat']
theorem YR {m:Nat} (h:m<72057594037927936):IntKind.u64.wrap (((m:Nat):Int)*2^(min (8:Int).toNat IntKind.u64.bits))=((m*256:Nat):Int):=by
 have e:(2:Int)^(min (8:Int).toNat IntKind.u64.bits)=256:=by decide
 rw [e,Fo (by omega) (by omega)]
 omega
theorem WS {P:Program} {w:World} {m:Nat} (h:m<72057594037927936) (x:UInt8):(Op.intBits .or .u64 ((m*256:Nat):Int) ((x.toNat:Nat):Int)).run P w=.ok (.int .u64 ((m*256+x.toNat:Nat):Int)) w:=by
 have hx:=UInt8.toNat_lt x
 have h1:m*256|||x.toNat=m*256+x.toNat:=by
  have:=Nat.shiftLeft_add_eq_or_of_lt (b:=x.toNat) (i:=8) (by omega) m
  rw [Nat.shiftLeft_eq] at this
  exact this.symm
 have h2:(BitVec.ofInt 64 ((m*256:Nat):Int)|||BitVec.ofInt 64 ((x.toNat:Nat):Int)).toNat=m*256+x.toNat:=by
  rw [BitVec.toNat_or]
  simp only [BitVec.ofInt_natCast,BitVec.toNat_ofNat]
  rw [Nat.mod_eq_of_lt (by omega),Nat.mod_eq_of_lt (by omega),h1]
 unfold Op.intBits
 show (pure (Value.int .u64 (IntKind.u64.wrap ((BitVec.ofInt 64 ((m*256:Nat):Int)|||BitVec.ofInt 64 ((x.toNat:Nat):Int)).toNat:Nat))):Sem Value).run P w=_
 rw [h2,Fo (by omega) (by omega)]
 rfl
/-! ### What the program tells of bytes -/
def Cr (b:List UInt8) (at_:Int):Int×Int×Bool:=match GC b at_ with
 |some x=>(x.1,x.2,true)
 |none=>(0,0,false)
def Fk (b:List UInt8) (at_:Int):ByteArray×Int×Bool:=match Jk b at_ with
 |some x=>(x.1,x.2,true)
 |none=>(⟨#[]⟩,0,false)
theorem Jj {b:List UInt8} {at_:Int} (h:at_<0∨(b.length:Int)<at_∨(b.length:Int) - at_<8):Cr b at_=(0,0,false):=by
 unfold Cr GC;rw [if_pos h]
theorem Mt {b:List UInt8} {at_:Int} (h:¬ (at_<0∨(b.length:Int)<at_∨(b.length:Int) - at_<8)):Cr b at_=(IntKind.i64.wrap (ET ((b.drop at_.toNat).take 8):Nat),at_+8,true):=by
 unfold Cr GC;rw [if_neg h]
theorem XW {b:List UInt8} {at_:Int} (h:(Cr b at_).2.2=false):Fk b at_=(⟨#[]⟩,0,false):=by
 unfold Cr at h
 unfold Fk Jk
 cases e:GC b at_ with
 |none=>rfl
 |some x=>rw [e] at h;cases h
theorem Mu {b:List UInt8} {at_:Int} (h:(Cr b at_).2.2=true):Fk b at_=if (Cr b at_).1<0∨(b.length:Int) - (Cr b at_).2.1<(Cr b at_).1 then (⟨#[]⟩,0,false) else (FQ ((b.drop (Cr b at_).2.1.toNat).take (Cr b at_).1.toNat),(Cr b at_).2.1+(Cr b at_).1,true):=by
 unfold Cr at h ⊢
 unfold Fk Jk
 cases e:GC b at_ with
 |none=>rw [e] at h;cases h
 |some x=>
  dsimp only
  by_cases g:x.1<0∨(b.length:Int) - x.2<x.1
  ·rw [if_pos g,if_pos g]
  ·rw [if_neg g,if_neg g]
theorem XV {b:List UInt8} {at_:Int} (h:(Cr b at_).2.2=true):8≤(Cr b at_).2.1∧(Cr b at_).2.1≤(b.length:Int)∧(Cr b at_).2.1=at_+8∧0≤at_:=by
 by_cases g:at_<0∨(b.length:Int)<at_∨(b.length:Int) - at_<8
 ·rw [Jj g] at h;cases h
 ·rw [Mt g];dsimp only;omega
theorem XU {b:List UInt8} {at_:Int}: -9223372036854775808≤(Cr b at_).1∧(Cr b at_).1≤9223372036854775807:=by
 by_cases g:at_<0∨(b.length:Int)<at_∨(b.length:Int) - at_<8
 ·rw [Jj g];decide
 ·rw [Mt g]
  dsimp only
  unfold IntKind.wrap
  simp [IntKind.bits,IntKind.signed]
  omega
theorem RW (n:Nat) {i:Nat} (h:i<8):(Ca n)[i]?=some (UInt8.ofNat (n / 256^(7 - i))):=by
 unfold Ca;rw [List.getElem?_map,List.getElem?_range h];rfl
theorem RY (n:Nat) {i:Nat} (h:i<8):(Ca n).take (i+1)=(Ca n).take i++[UInt8.ofNat (n / 256^(7 - i))]:=Fm (RW n h)
theorem XT {l:List UInt8} {i:Nat} {x:UInt8} (h:l[i]?=some x):ET (l.take (i+1))=ET (l.take i)*256+x.toNat:=by rw [Fm h,XS]
def NZ (b:Nat):List Value:=[.pointer (some ⟨b,0,none⟩)]
def CK:Kd Nat:=flat NZ 1 (by omega) (fun _=>rfl) (fun _ c h=>by simp [NZ] at h;subst h;rfl)
def CI (t:Nat) (e:Nat×CU):SP:=blk e.1 [.int .i64 e.2.c,.int .i64 e.2.s,.int .i64 e.2.e,.int .i64 e.2.x] t
def Bd (ps:List Al):ByteArray:=FQ (FK ps)
theorem Zj (l:List UInt8):(FQ l).size=l.length:=by simp [FQ,ByteArray.size]
theorem Mh {ps:List Al} (h:∀ p∈ps,p.key.size≤100∧p.val.size≤100):(Cy ps).length≤ps.length*216:=by
 induction ps with
 |nil=>exact Nat.zero_le _
 |cons p ps ih=>
  have h1:=h p (List.mem_cons_self ..)
  have h2:=ih fun q hq=>h q (List.mem_cons_of_mem _ hq)
  have e:Cy (p::ps)=(Dd p.key++Dd p.val)++Cy ps:=by unfold Cy;rw [List.flatMap_cons]
  rw [e,List.length_append,List.length_append,IJ,IJ,List.length_cons,Nat.succ_mul]
  omega
theorem W9 {ps:List Al} (h:∀ p∈ps,p.key.size≤100∧p.val.size≤100) (hl:ps.length≤1000):(Bd ps).size≤300000:=by
 have:=Mh h
 unfold Bd
 rw [Zj]
 unfold FK
 rw [List.length_append,FD]
 omega
theorem Mi (ps:List Al):Cp (Bd ps)=FK ps:=Sa _
def DF (ps:List Al) (k:Nat):Nat:=8+(Cy (ps.take k)).length
theorem W8 {ps:List Al} {k:Nat} {p:Al} (h:ps[k]?=some p):DF ps (k+1)=DF ps k+8+p.key.size+8+p.val.size:=by
 unfold DF
 rw [Fm h,PS,List.length_append,List.length_append,IJ,IJ]
 omega
theorem Xa {ps:List Al} (hl:ps.length<9223372036854775808):Cr (FK ps) 0=(((ps.length:Nat):Int),8,true):=by
 have h:=Qi (a:=[]) (c:=Cy ps) (n:=ps.length) (k:=0) hl rfl
 unfold Cr FK
 have h2:GC (Ca ps.length++Cy ps) 0=some (((ps.length:Nat):Int),((0+8:Nat):Int)):=h
 rw [h2]
 rfl
theorem W_ {ps:List Al} {k:Nat} {p:Al} (h:ps[k]?=some p) (hk:p.key.size<9223372036854775808):Fk (FK ps) (DF ps k:Nat)=(p.key,((DF ps k+8+p.key.size:Nat):Int),true):=by
 have e:FK ps=(Ca ps.length++Cy (ps.take k))++(Dd p.key++(Dd p.val++Cy (ps.drop (k+1)))):=by unfold FK;rw [PT h,List.append_assoc]
 have h1:=Qj (a:=Ca ps.length++Cy (ps.take k)) (c:=Dd p.val++Cy (ps.drop (k+1))) (s:=p.key) (k:=DF ps k) hk (by rw [List.length_append,FD];rfl)
 unfold Fk
 rw [e,h1]
theorem Xb {ps:List Al} {k:Nat} {p:Al} (h:ps[k]?=some p) (hk:p.val.size<9223372036854775808):Fk (FK ps) ((DF ps k+8+p.key.size:Nat):Int)=(p.val,((DF ps (k+1):Nat):Int),true):=by
 have e:FK ps=(Ca ps.length++Cy (ps.take k)++Dd p.key)++(Dd p.val++Cy (ps.drop (k+1))):=by unfold FK;rw [PT h];simp only [List.append_assoc]
 have h1:=Qj (a:=Ca ps.length++Cy (ps.take k)++Dd p.key) (c:=Cy (ps.drop (k+1))) (s:=p.val) (k:=DF ps k+8+p.key.size) hk (by rw [List.length_append,List.length_append,FD,IJ];unfold DF;omega)
 unfold Fk
 rw [e,h1,W8 h]
theorem W7 {ps:List Al} (h:∀ p∈ps,p.key.size≤100∧p.val.size≤100) (hl:ps.length≤1000) (i:Nat):DF ps i≤300000:=by
 have h1:=Mh (ps:=ps.take i) fun p hp=>h p (List.mem_of_mem_take hp)
 have h2:(ps.take i).length≤ps.length:=by rw [List.length_take];omega
 unfold DF
 omega
def DT (D:Bj) (J:AG) (s:Nat) (att:Int) (k:Nat):List Int:=(List.range k).map fun (p:Nat)=>De ((BM D J s p).length:Nat) (CJ J.chunk att)
theorem ND (D:Bj) (J:AG) (s:Nat) (att:Int) (k:Nat):DT D J s att (k+1)=DT D J s att k++[De ((BM D J s k).length:Nat) (CJ J.chunk att)]:=by
 unfold DT;rw [List.range_succ,List.map_append];rfl
theorem NC (D:Bj) (J:AG) (s:Nat) (att:Int) (k:Nat):(DT D J s att k).length=k:=by simp [DT]
theorem NO {D:Bj} {J:AG} {s:Nat} {att:Int} (h:(AA D J s).2=0):BR D J s att=DT D J s att J.parts.toNat:=by
 unfold BR;rw [if_neg (fun g=>g h)];rfl
theorem NM {D:Bj} {J:AG} {s:Nat} {att:Int} (h:(AA D J s).2≠0):BR D J s att=[]:=by
 unfold BR;rw [if_pos h]
/-! ### Windows, in a row of pointers -/
def Rq (J:AG) (n:Int):CU:=⟨n,J.window,0,0⟩
theorem Sn {n size q:Int} (h0:0≤q) (h1:q<De n size) (hs:1≤size):0≤q*size∧q*size≤n - 1:=by
 unfold De at h1
 by_cases h:n<1∨size<1
 ·rw [if_pos h] at h1;omega
 ·rw [if_neg h,Int.tdiv_eq_ediv_of_nonneg (by omega)] at h1
  exact ⟨Int.mul_nonneg h0 (by omega),(Int.le_ediv_iff_mul_le (by omega)).1 (by omega)⟩
theorem SM {ps:List Al} {size q:Int} {m k:Nat} (h0:0≤q) (h1:q<De ps.length size) (hs:1≤size) (hm:q*size=(m:Int)) (hk:min size (((ps.length - m:Nat):Int))=(k:Int)):D4 ps size q=(ps.drop m).take k:=by
 unfold D4
 rw [if_neg (by omega),hm,Int.toNat_natCast]
 refine (List.take_eq_take_iff).2 ?_
 rw [List.length_drop]
 omega
theorem NP {ps:List Al} {size q:Int} (h:q<0∨De ps.length size≤q):D4 ps size q=[]:=if_pos h
theorem Zq {n size:Int} (h:0≤n) (hs:1≤size):0≤n.tdiv size∧n.tdiv size≤n:=by
 rw [Int.tdiv_eq_ediv_of_nonneg h]
 exact ⟨Int.ediv_nonneg h (by omega),Int.ediv_le_self _ h⟩
/-! ### What is pushed, window by window -/
theorem NN {A B:AG} (h:BJ A B) (D:Bj) (s:Nat) (att:Int):BR D A s att=BR D B s att:=by
 unfold BR
 rw [h.split,h.parts,h.chunk]
 simp only [h.only]
theorem NA {A B:AG} (h:BJ A B) (D:Bj) (s:Nat) (att p q:Int):CV D A s att p q=CV D B s att p q:=by
 unfold CV
 rw [h.chunk,h.only]
theorem Wi {A B:AG} (h:BJ A B) (D:Bj) (s:Nat) (att:Int):Gx D A s att=Gx D B s att:=by
 unfold Gx BR
 rw [h.split,h.parts,h.chunk,h.window]
 simp only [h.only]
theorem Wn {A B:AG} (h:BJ A B) {D:Bj} {s:Nat} {att:Int} {ws:List (Nat×CU)} {k:Nat} (hw:ws.map Prod.snd=((BR D A s att).take k).map (Rq A)) (hk:(BR D A s att).length≤k):ws.map Prod.snd=(Gx D B s att).ws:=by
 rw [hw,List.take_of_length_le hk,←Wi h];rfl
theorem Hd.tellK {α:Type} {w0 w:World} {F0:AN} {K:Kd α} {v:Value} {xs ys:List α} {As Rs:List SP} (H:Hd w0 F0 w (Y K v xs::As) Rs) (e:ys=xs):Hd w0 F0 w (Y K v ys::As) Rs:=by rw [e];exact H
theorem SN (c:Int) (a:Int) (hc:1≤c∧c≤7):
    Cn Tryz.prog 168 [.int .i64 c,.int .i64 a] [] [] (fun v Bs=>v=.int .i64 (CJ c a)∧Bs=[]):=by
 intro w0 F0 H
 refine enter Tryz.func168 U U (Nat.le_of_ble_eq_true U) (Ab (Ae (Ad U (Ac (Z (Ab (Ab (Ae (Ad U (V U U (Kl (z:=a.tmod 2) U U U (by omega) U) (V U U (C8 U U U) (Ac (Z ?_)))))))))))))
 refine Ay U (fun h1=>?_) (fun h1=>?_)
 ·refine Ab (Ae (Ad U (V U U (A9 (z:=c+1) U U U (AF (by omega) (by omega))) (Ad U (Ac (Z (Ao (Az (Aq U U ?_)))))))))
  replace H:Hd _ _ _ [] []:=H
  exact Am ⟨congrArg (Value.int .i64) (if_pos h1).symm,rfl⟩ H
 refine Av (Z (Ab (Ae (Ah 2 U (Ac (Z (Ao (Aq U U ?_))))))))
 replace H:Hd _ _ _ [] []:=H
 exact Am ⟨congrArg (Value.int .i64) (if_neg h1).symm,rfl⟩ H
theorem KY (n:Int) (size:Int) (hn:0≤n∧n≤1000000):
    Cn Tryz.prog 105 [.int .i64 n,.int .i64 size] [] [] (fun v Bs=>v=.int .i64 (De n size)∧Bs=[]):=by
 intro w0 F0 H
 refine enter Tryz.func105 U U (Nat.le_of_ble_eq_true U) (Ab (Ae (Ad U (Ac (Z (Ab (Ab (Ae (Ad U (V U U (Bg U U U) (Ad U ?_)))))))))))
 refine AQ (d:=7) U (fun h1=>?_) (fun h1=>?_)
 ·refine Ah 3 U (Ac (Z (Cc U (Ab (Ae (Ad U (Ac (Z (Ao (Az (Aq U U ?_)))))))))))
  replace H:Hd _ _ _ [] []:=H
  exact Am ⟨congrArg (Value.int .i64) (if_pos (by omega)).symm,rfl⟩ H
 refine Ad U (V U U (Bg U U U) (Ad U (Ac (Z ?_))))
 refine Ay U (fun h2=>?_) (fun h2=>?_)
 ·refine Ab (Ae (Ad U (Ac (Z (Ao (Az (Aq U U ?_)))))))
  replace H:Hd _ _ _ [] []:=H
  exact Am ⟨congrArg (Value.int .i64) (if_pos (by omega)).symm,rfl⟩ H
 refine Av (Z (Ab ?_))
 have htd:=Zq (n:=n - 1) (size:=size) (by omega) (by omega)
 refine Ae (Ad U (V U U (Ck (z:=n - 1) U U U (AF (by omega) (by omega))) (Ad U (V U U (XO (z:=(n - 1).tdiv size) U U U (by omega) (AF (by omega) (by omega))) (V U U (A9 (z:=((n - 1).tdiv size)+1) U U U (AF (by omega) (by omega))) (Ad U (Ac (Z (Ao (Aq U U ?_))))))))))
 replace H:Hd _ _ _ [] []:=H
 exact Am ⟨congrArg (Value.int .i64) (if_neg (by omega)).symm,rfl⟩ H
theorem SL (vps:Value) (ps:List Al) (size:Int) (q:Int) (hl:ps.length≤1000) (hs:1≤size∧size≤8):
    Cn Tryz.prog 113 [vps,.int .i64 size,.int .i64 q] [] [Aa Ag vps ps] (fun v Bs=>Bs=[Y Ag v (D4 ps size q)]):=by
 intro w0 F0 H
 obtain ⟨A1,c2,rfl,hc3,hm4,hp5⟩:=H.fR 0 rfl
 refine enter Tryz.func113 U U (Nat.le_of_ble_eq_true U) (Ab (Ae (Ad U (Ac (Z ?_)))))
 replace H:Hd _ _ _ [] [Aa Ag (.slice A1 ps.length c2) ps]:=H
 refine Ab (Ab (Ae (Ad U (V U U (Bg U U U) (Ad U ?_)))))
 refine AQ (d:=10) U (fun h6=>?_) (fun h6=>?_)
 ·refine Ah 7 U (Ac (Z (Cc U (Ab (Ae (Ad U (Ac (Z (Ao (Az (Aq U U ?_)))))))))))
  replace H:=H.newnil Ag|>.tellK (ys:=D4 ps size q) (by rw [NP (by omega)])|>.h1 (A:=Y Ag (.slice none 0 0) (D4 ps size q))
  exact Am U H
 refine Ah 2 U (V U U (A0 U CD U) (Ad U (sc (KY ((ps.length:Nat):Int) size (by first |assumption|omega|(simp only [List.length_take,List.length_drop];omega))) H l0 U U (At LE U U) ?_)))
 rintro _ _ w ⟨rfl,rfl⟩ H
 refine V U U (CA U U U) (Ad U (Ac (Z ?_)))
 refine Ay U (fun h7=>?_) (fun h7=>?_)
 ·refine Ab (Ae (Ad U (Ac (Z (Ao (Az (Aq U U ?_)))))))
  replace H:=H.newnil Ag|>.tellK (ys:=D4 ps size q) (by rw [NP (by omega)])|>.h1 (A:=Y Ag (.slice none 0 0) (D4 ps size q))
  exact Am U H
 refine Av (Z (Ab ?_))
 have hlo:=Sn (n:=ps.length) (size:=size) (q:=q) (by omega) (by omega) hs.1
 obtain ⟨m,hm⟩:∃ m:Nat,q*size=(m:Int):=⟨(q*size).toNat,by omega⟩
 obtain ⟨k,hk⟩:∃ k:Nat,min size (((ps.length - m:Nat):Int))=(k:Int):=⟨(min size (((ps.length - m:Nat):Int))).toNat,by omega⟩
 refine Ae (Ah 3 U (V U U (Ha (z:=((m:Nat):Int)) U U U (by rw [hm];exact AF (by omega) (by omega))) (V U U (Jh U Bu U U (by omega) (by omega) U) (Ad U (Ac (Z (Ab (Ae (Ah 3 U (V U U (A0 U CD U) (V U U (Iv (z:=((k:Nat):Int)) U U U hk) (V U U (Jg U Bu U U (by omega) (by omega) U) (sc (HW (.slice (DD A1 c2 m 2) k (c2 - m)) ((ps.drop m).take k) (by first |assumption|omega|(simp only [List.length_take,List.length_drop];omega))) H (lX (fun F hA hR=>Kr (hR _ (List.mem_of_getElem? (i:=0) U)) (i:=m) (m':=k) (by omega)) l0) U U (At Ii U U) ?_)))))))))))))
 rintro v8 _ w rfl H
 replace H:=H.h1 (A:=Y Ag v8 ((ps.drop m).take k))
 refine Ad U (Ac (Z (Ao (Aq U U ?_))))
 replace H:=H.tellK (ys:=D4 ps size q) (by rw [SM (by omega) (by omega) hs.1 hm hk])|>.h1 (A:=Y Ag v8 (D4 ps size q))
 exact Am U H
end Go.Proofs.YthgehekecfpikaaGreatDoor.X
