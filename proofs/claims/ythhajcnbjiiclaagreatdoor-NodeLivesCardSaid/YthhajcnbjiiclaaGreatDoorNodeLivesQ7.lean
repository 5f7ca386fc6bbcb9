/- NodeLives: texts N4, WK5, ND2, ND3, N5, L1, LN1, ND4, ND5, M5, M7, joined by a program of ours; what nothing names is left out. -/
import Derived.Test.YthhajcnbjiiclaaGreatDoorNodeLivesQ6
set_option linter.unusedVariables false
set_option linter.unusedSimpArgs false
set_option maxHeartbeats 8000000
namespace Go.Proofs.YthhajcnbjiiclaaGreatDoor.X
open Go
theorem bJ (vS:Value) (vM:Value) (vC:Value) (vR:Value) (vK:Value) (C:Cf) (p:Int) (ep:Int) (vr:Value) (recs:List AY) (hC:Dq C) (hp:AG p) (he:AG ep) (hgo:DV C p≠0∧1≤ep) (hrs:∀ r∈recs,(AG r.sp∧r.set.length≤1000)∧r.pairs.length≤1000) (hrl:recs.length≤100000):
    Cn Tryz.prog 131 [.agg #[vS,.int .i64 C.J.parts,vM,vC,vR,.int .i64 C.J.chunk,.int .i64 C.J.window,.int .i64 C.J.fuel,vK,.int .i64 C.w,.int .i64 C.t,.int .i64 C.o],.int .i64 p,.int .i64 ep,vr] [] [Ac (At Ag) vS C.J.us,Ac Af vM C.J.map,Ac Af vC C.J.comb,Ac Af vR C.J.red,Ac (Ai .i64) vK C.J.marks,Ac BL vr recs] (fun v Bs=>∃ r:Nat,∃ vS2:Value,∃ vM2:Value,∃ vC2:Value,∃ vR2:Value,∃ vK2:Value,∃ J2:AR,∃ hv:Nat→Value,∃ sb:Nat,∃ vs:Value,∃ us:List (Value×List Int),v=.tuple #[.pointer (some ⟨r,0,none⟩),.int .i64 0]∧Bs=[blk r (BJ vS2 vM2 vC2 vR2 vK2 J2 C.w C.t C.o p ep ((Db J2.us.length p ep (recs.map AY.p)).g) hv sb vs) 197,Y (At Ag) vS2 J2.us,Y Af vM2 J2.map,Y Af vC2 J2.comb,Y Af vR2 J2.red,Y (Ai .i64) vK2 J2.marks,B3 ((Db J2.us.length p ep (recs.map AY.p)).g) hv,Y (At (Ai .i64)) vs us,CT 275 sb ([])]∧(Bk J2 C.J)∧(us.map (·.2)=(Db J2.us.length p ep (recs.map AY.p)).sets)):=by
 intro w0 F0 H
 obtain ⟨A1,c2,rfl,hc3,hm4,hp5⟩:=H.fR 0 rfl
 obtain ⟨A6,c7,rfl,hc8,hm9,hp10⟩:=H.fR 1 rfl
 obtain ⟨A11,c12,rfl,hc13,hm14,hp15⟩:=H.fR 2 rfl
 obtain ⟨A16,c17,rfl,hc18,hm19,hp20⟩:=H.fR 3 rfl
 obtain ⟨A21,c22,rfl,hc23,hm24,hp25⟩:=H.fR 4 rfl
 obtain ⟨A26,c27,rfl,hc28,hm29,hp30⟩:=H.fR 5 rfl
 refine enter Tryz.func131 U U (Nat.le_of_ble_eq_true U) (Aa (Ae (CZ U U U U H (fun b31 w H=>(Ah 2 U (Ab (Z ?_)))))))
 replace H:Hd _ _ _ [blk b31 [.slice A1 C.J.us.length c2,.int .i64 C.J.parts,.slice A6 C.J.map.length c7,.slice A11 C.J.comb.length c12,.slice A16 C.J.red.length c17,.int .i64 C.J.chunk,.int .i64 C.J.window,.int .i64 C.J.fuel,.slice A21 C.J.marks.length c22,.int .i64 C.w,.int .i64 C.t,.int .i64 C.o] 28] [Ac (At Ag) (.slice A1 C.J.us.length c2) C.J.us,Ac Af (.slice A6 C.J.map.length c7) C.J.map,Ac Af (.slice A11 C.J.comb.length c12) C.J.comb,Ac Af (.slice A16 C.J.red.length c17) C.J.red,Ac (Ai .i64) (.slice A21 C.J.marks.length c22) C.J.marks,Ac BL (.slice A26 recs.length c27) recs]:=H
 refine Aa (Aa (Ae (V U U (BG (cs:=[.slice A1 C.J.us.length c2,.int .i64 C.J.parts,.slice A6 C.J.map.length c7,.slice A11 C.J.comb.length c12,.slice A16 C.J.red.length c17,.int .i64 C.J.chunk,.int .i64 C.J.window,.int .i64 C.J.fuel,.slice A21 C.J.marks.length c22,.int .i64 C.w,.int .i64 C.t,.int .i64 C.o]) U EH U U (H.cellsI 0 U U)) (Ad U (sc (Mx (.slice A1 C.J.us.length c2) (.slice A6 C.J.map.length c7) (.slice A11 C.J.comb.length c12) (.slice A16 C.J.red.length c17) (.slice A21 C.J.marks.length c22) C p (by first |assumption|omega)) H (lR 0 U (lR 1 U (lR 2 U (lR 3 U (lR 4 U l0))))) U U (Av MD U U) ?_)))))
 rintro _ _ w ⟨rfl,rfl⟩ H
 refine V U U (Bh U U U) (Ad U ?_)
 refine AQ (d:=18) U (fun h32=>?_) (fun h32=>?_)
 ·exact (hgo.1 h32).elim
 refine Ad U (V U U (Br U U U) (Ad U (Ab (Z ?_))))
 replace H:Hd _ _ _ [blk b31 [.slice A1 C.J.us.length c2,.int .i64 C.J.parts,.slice A6 C.J.map.length c7,.slice A11 C.J.comb.length c12,.slice A16 C.J.red.length c17,.int .i64 C.J.chunk,.int .i64 C.J.window,.int .i64 C.J.fuel,.slice A21 C.J.marks.length c22,.int .i64 C.w,.int .i64 C.t,.int .i64 C.o] 28] [Ac (At Ag) (.slice A1 C.J.us.length c2) C.J.us,Ac Af (.slice A6 C.J.map.length c7) C.J.map,Ac Af (.slice A11 C.J.comb.length c12) C.J.comb,Ac Af (.slice A16 C.J.red.length c17) C.J.red,Ac (Ai .i64) (.slice A21 C.J.marks.length c22) C.J.marks,Ac BL (.slice A26 recs.length c27) recs]:=H
 refine AC U (fun h33=>?_) (fun h33=>?_)
 ·exfalso;omega
 refine Az (Z (Aa (Ae (V U U (BG (cs:=[.slice A1 C.J.us.length c2,.int .i64 C.J.parts,.slice A6 C.J.map.length c7,.slice A11 C.J.comb.length c12,.slice A16 C.J.red.length c17,.int .i64 C.J.chunk,.int .i64 C.J.window,.int .i64 C.J.fuel,.slice A21 C.J.marks.length c22,.int .i64 C.w,.int .i64 C.t,.int .i64 C.o]) U EH U U (H.cellsI 0 U U)) (sc (Nb (.slice A1 C.J.us.length c2) (.slice A6 C.J.map.length c7) (.slice A11 C.J.comb.length c12) (.slice A16 C.J.red.length c17) (.slice A21 C.J.marks.length c22) C (by first |assumption|omega)) H (lR 0 U (lR 1 U (lR 2 U (lR 3 U (lR 4 U l0))))) U U (Av MJ U U) ?_)))))
 rintro _ _ w ⟨J34,vS35,vM36,vC37,vR38,vK39,rfl,rfl,hf40⟩ H
 replace H:=H.h5 (A:=Y (At Ag) vS35 J34.us) (B:=Y Af vM36 J34.map) (C:=Y Af vC37 J34.comb) (D:=Y Af vR38 J34.red) (E:=Y (Ai .i64) vK39 J34.marks)
 have hsj:=hf40
 refine Ah 2 U (sc (dQ) H l0 U U (Av WS U U) ?_)
 rintro _ _ w ⟨b41,rfl,rfl⟩ H
 obtain ⟨A42,c43,rfl,hc44,hm45,hp46⟩:=H.fA 1 rfl
 obtain ⟨A47,c48,rfl,hc49,hm50,hp51⟩:=H.fA 2 rfl
 obtain ⟨A52,c53,rfl,hc54,hm55,hp56⟩:=H.fA 3 rfl
 obtain ⟨A57,c58,rfl,hc59,hm60,hp61⟩:=H.fA 4 rfl
 obtain ⟨A62,c63,rfl,hc64,hm65,hp66⟩:=H.fA 5 rfl
 refine V U U (Dl (parts:=[(0,.tmp 23),(1,.tmp 24),(2,.tmp 25),(4,.tmp 26)]) (vs:=[.agg #[.slice A42 J34.us.length c43,.int .i64 J34.parts,.slice A47 J34.map.length c48,.slice A52 J34.comb.length c53,.slice A57 J34.red.length c58,.int .i64 J34.chunk,.int .i64 J34.window,.int .i64 J34.fuel,.slice A62 J34.marks.length c63,.int .i64 C.w,.int .i64 C.t,.int .i64 C.o],.int .i64 p,.int .i64 ep,.pointer (some ⟨b41,0,none⟩)]) (cs:=[.slice A42 J34.us.length c43,.int .i64 J34.parts,.slice A47 J34.map.length c48,.slice A52 J34.comb.length c53,.slice A57 J34.red.length c58,.int .i64 J34.chunk,.int .i64 J34.window,.int .i64 J34.fuel,.slice A62 J34.marks.length c63,.int .i64 C.w,.int .i64 C.t,.int .i64 C.o,.int .i64 p,.int .i64 ep,.bool false,.slice none 0 0,.bool false,.int .i64 0,.int .i64 0,.bool false,.slice none 0 0,.bool false,.int .i64 0,.int .i64 0,.bool false,.slice none 0 0,.bool false,.int .i64 0,.int .i64 0,.bool false,.slice none 0 0,.bool false,.int .i64 0,.int .i64 0,.bool false,.slice none 0 0,.bool false,.int .i64 0,.int .i64 0,.bool false,.slice none 0 0,.bool false,.int .i64 0,.int .i64 0,.pointer (some ⟨b41,0,none⟩),.slice none 0 0]) U TI U U) ?_
 refine CZ U U U U H (fun b67 w H=>(Ad U (Ab (Z ?_))))
 replace H:Hd _ _ _ [blk b67 [.slice A42 J34.us.length c43,.int .i64 J34.parts,.slice A47 J34.map.length c48,.slice A52 J34.comb.length c53,.slice A57 J34.red.length c58,.int .i64 J34.chunk,.int .i64 J34.window,.int .i64 J34.fuel,.slice A62 J34.marks.length c63,.int .i64 C.w,.int .i64 C.t,.int .i64 C.o,.int .i64 p,.int .i64 ep,.bool false,.slice none 0 0,.bool false,.int .i64 0,.int .i64 0,.bool false,.slice none 0 0,.bool false,.int .i64 0,.int .i64 0,.bool false,.slice none 0 0,.bool false,.int .i64 0,.int .i64 0,.bool false,.slice none 0 0,.bool false,.int .i64 0,.int .i64 0,.bool false,.slice none 0 0,.bool false,.int .i64 0,.int .i64 0,.bool false,.slice none 0 0,.bool false,.int .i64 0,.int .i64 0,.pointer (some ⟨b41,0,none⟩),.slice none 0 0] 197,CT 275 b41 ([]),Y (At Ag) (.slice A42 J34.us.length c43) J34.us,Y Af (.slice A47 J34.map.length c48) J34.map,Y Af (.slice A52 J34.comb.length c53) J34.comb,Y Af (.slice A57 J34.red.length c58) J34.red,Y (Ai .i64) (.slice A62 J34.marks.length c63) J34.marks,blk b31 [.slice A1 C.J.us.length c2,.int .i64 C.J.parts,.slice A6 C.J.map.length c7,.slice A11 C.J.comb.length c12,.slice A16 C.J.red.length c17,.int .i64 C.J.chunk,.int .i64 C.J.window,.int .i64 C.J.fuel,.slice A21 C.J.marks.length c22,.int .i64 C.w,.int .i64 C.t,.int .i64 C.o] 28] [Ac (At Ag) (.slice A1 C.J.us.length c2) C.J.us,Ac Af (.slice A6 C.J.map.length c7) C.J.map,Ac Af (.slice A11 C.J.comb.length c12) C.J.comb,Ac Af (.slice A16 C.J.red.length c17) C.J.red,Ac (Ai .i64) (.slice A21 C.J.marks.length c22) C.J.marks,Ac BL (.slice A26 recs.length c27) recs]:=H
 refine Aa (Aa ?_)
 have hlen:J34.us.length≤6:=by have:=hC.1.1;have:=hsj.len;omega
 replace H:=(H.newnil (At (Ai .i64))).prsN
 replace H:=H.h2 (A:=B3 ((HQ p ep).g) (fun _=>.slice none 0 0)) (B:=Y (At (Ai .i64)) (.slice none 0 0) [])|>.p8|>.p8|>.p8|>.p8|>.p8|>.p7|>.k9|>.h1 (A:=blk b67 (BJ (.slice A42 J34.us.length c43) (.slice A47 J34.map.length c48) (.slice A52 J34.comb.length c53) (.slice A57 J34.red.length c58) (.slice A62 J34.marks.length c63) J34 C.w C.t C.o p ep ((HQ p ep).g) (fun _=>.slice none 0 0) b41 (.slice none 0 0)) 197)
 refine Ae (Ad U (V U U (Bj U LK U) (Ad U (Ab (Z (AW (B1 (σ:=Nat×AX×(Nat→Value)×Value×List (Value×List Int)) (fun (k,R,hv,vs,us)=>[(1,.int .i64 p),(8,.pointer none),(9,.int .i64 0),(10,.pointer (some ⟨b67,0,none⟩)),(29,.slice A26 recs.length c27),(30,.int .i64 ((recs.length:Nat):Int)),(31,.int .i64 ((k:Nat):Int))]) (fun (k,R,hv,vs,us) w=>(Hd w0 F0 w [blk b67 (BJ (.slice A42 J34.us.length c43) (.slice A47 J34.map.length c48) (.slice A52 J34.comb.length c53) (.slice A57 J34.red.length c58) (.slice A62 J34.marks.length c63) J34 C.w C.t C.o p ep R.g hv b41 vs) 197,Y (At Ag) (.slice A42 J34.us.length c43) J34.us,Y Af (.slice A47 J34.map.length c48) J34.map,Y Af (.slice A52 J34.comb.length c53) J34.comb,Y Af (.slice A57 J34.red.length c58) J34.red,Y (Ai .i64) (.slice A62 J34.marks.length c63) J34.marks,B3 (R.g) hv,Y (At (Ai .i64)) vs us,CT 275 b41 ([])] [Ac (At Ag) (.slice A1 C.J.us.length c2) C.J.us,Ac Af (.slice A6 C.J.map.length c7) C.J.map,Ac Af (.slice A11 C.J.comb.length c12) C.J.comb,Ac Af (.slice A16 C.J.red.length c17) C.J.red,Ac (Ai .i64) (.slice A21 C.J.marks.length c22) C.J.marks,Ac BL (.slice A26 recs.length c27) recs])∧(R=Db J34.us.length p ep ((recs.take k).map AY.p))∧(R.part=p)∧(us.map (·.2)=R.sets)∧(k≤recs.length)∧(us.length≤k)) (fun (k,R,hv,vs,us)=>recs.length - k) (0,HQ p ep,(fun _=>.slice none 0 0),.slice none 0 0,[]) ⟨rfl,rfl,rfl,rfl,rfl,rfl,rfl,trivial⟩ ⟨H,rfl,rfl,rfl,Nat.zero_le _,Nat.le_refl _⟩ ?_)))))))
 rintro ⟨k,R,hv,vs,us⟩ w ⟨H,hR,hRp,hus,hk,hul⟩
 refine Aa (Ae (V U U (Br U U U) (Ab (Z (Aa ?_)))))
 refine AC U (fun h68=>?_) (fun h68=>?_)
 ·refine Az (Z (Aa (AW (Aa ?_))))
  obtain ⟨⟨a71,a72,a73,a74,a75,sv76,se77,pv78,pr79⟩,hx70⟩:∃ z9,recs[k]?=some z9:=⟨_,List.getElem?_eq_getElem (show k<recs.length by omega)⟩
  obtain ⟨A80,c81,A82,c83,rfl,rfl,m84,m85,m86,m87⟩:=H.nestRr 5 rfl hx70
  have hr1:=hrs _ (CA hx70)
  unfold AG at hr1
  dsimp only at hr1
  refine Ae ?_
  have th88:=H.thRr 5 rfl hx70
  refine V U U (Bi (p:=Ba A26+k*7) U I8 U U (by omega) (by omega) th88 U) (V U U (BG (cs:=[.int .i64 a71,.int .i64 a72,.int .i64 a73,.int .i64 a74,.int .i64 a75,.slice A80 se77.length c81,.slice A82 pr79.length c83]) U E9 U U (H.elsRr 5 U hx70 U)) (DD U U U Hr H (fun b89 w H=>(Bx U U U E9 U U H U (Nat.le_of_ble_eq_true U) (fun u hu=>by simp [Value.cells] at hu;rcases hu with rfl|rfl|rfl|rfl|rfl|rfl|rfl<;>rfl) (fun w H=>?_)))))
  replace H:Hd _ _ _ [blk b89 [.int .i64 a71,.int .i64 a72,.int .i64 a73,.int .i64 a74,.int .i64 a75,.slice A80 se77.length c81,.slice A82 pr79.length c83] 69,blk b67 (BJ (.slice A42 J34.us.length c43) (.slice A47 J34.map.length c48) (.slice A52 J34.comb.length c53) (.slice A57 J34.red.length c58) (.slice A62 J34.marks.length c63) J34 C.w C.t C.o p ep R.g hv b41 vs) 197,Y (At Ag) (.slice A42 J34.us.length c43) J34.us,Y Af (.slice A47 J34.map.length c48) J34.map,Y Af (.slice A52 J34.comb.length c53) J34.comb,Y Af (.slice A57 J34.red.length c58) J34.red,Y (Ai .i64) (.slice A62 J34.marks.length c63) J34.marks,B3 (R.g) hv,Y (At (Ai .i64)) vs us,CT 275 b41 ([])] [Ac (At Ag) (.slice A1 C.J.us.length c2) C.J.us,Ac Af (.slice A6 C.J.map.length c7) C.J.map,Ac Af (.slice A11 C.J.comb.length c12) C.J.comb,Ac Af (.slice A16 C.J.red.length c17) C.J.red,Ac (Ai .i64) (.slice A21 C.J.marks.length c22) C.J.marks,Ac BL (.slice A26 recs.length c27) recs]:=H
  refine Ab (Z (Aa (Aa (Ae (V U U (Aj U GJ U) (V U U (Am U AE U (H.cellI 0 U U)) (Ad U (V U U (Cx U U U) (Ab (Z ?_))))))))))
  refine AC U (fun h90=>?_) (fun h90=>?_)
  ·refine BQ (AV (BS (Z (Ae (V U U (Bc (z:=((k+1:Nat):Int)) U U U (by rw [AI (by omega) (by omega)];omega)) (Ad U (Ab ?_)))))))
   have hpart:(AY.p (⟨a71,a72,a73,a74,a75,.slice A80 se77.length c81,se77,.slice A82 pr79.length c83,pr79⟩:AY)).part≠R.part:=by rw [hRp];exact h90
   have hR2:=Gd hR hx70 (aY hpart)
   replace H:=H.p9.p9.p9.p9.p9.p9.p9.p9.p9.k9
   exact Bo (s:=(k,R,hv,undef,us)) (k+1,R,hv,vs,us) ⟨rfl,rfl,rfl,rfl,rfl,rfl,rfl,trivial⟩ ⟨H,hR2,hRp,by (try dsimp only);exact hus,by (try dsimp only);omega,by (try dsimp only);omega⟩ (by (try dsimp only);omega)
  refine Az (Z (Aa (Aa ?_)))
  by_cases hin91:0≤a73∧a73<((J34.us.length:Nat):Int)
  ·refine Ae (Ad U (V U U (Aj U Gq U) (V U U (Am U AE U (H.cellI 0 U U)) (sc (TB b67 A42 J34.us.length c43 (.slice A47 J34.map.length c48) (.slice A52 J34.comb.length c53) (.slice A57 J34.red.length c58) (.slice A62 J34.marks.length c63) J34 C.w C.t C.o p ep R.g hv b41 vs a73 (by first |assumption|omega) (by first |assumption|omega)) H (lA 1 U (fun _ h=>h) l0) U U (Av Qr U U) ?_))))
   rintro _ _ w ⟨rfl,rfl⟩ H
   refine Ad U (Ab (Z (Aa (Ae (V U U (Aj U Ec U) (V U U (Am U AE U (H.cellI 0 U U)) (V U U (Bh U U U) (Ad U ?_))))))))
   refine AQ (d:=46) U (fun h92=>?_) (fun h92=>?_)
   ·refine Ad U (V U U (HO U S9 U U) (Ah 3 U (V U U (AJ U U) (V U U (Aj U KD U) (V U U (Am U DP U (H.cellI 1 U (Ny (by omega)))) (V U U (ES U U U) (Ad U (Ab (Z ?_)))))))))
    refine Dp (b:=!((R.g ((a73).toNat)).merged)) U (fun h93=>?_) (fun h93=>?_)
    ·refine Ae (Ah 2 U (V U U (Aj U F9 U) (V U U (Am U DJ U (H.cellI 0 U U)) (sc (Ko (.slice A82 pr79.length c83) pr79 (by first |assumption|omega)) H (lX (fun F hA hR=>Lp (hR _ (List.mem_of_getElem? (i:=5) U)) hx70) l0) U U (Av KL U U) ?_))))
     rintro v94 _ w rfl H
     refine V U U (AJ U U) (V U U (Aj U KD U) ?_)
     replace H:=H.p2
     refine Bx U U U DP U U H U (by show 14+((a73).toNat)*5+0+1≤46;omega) (fun u hu=>by simp [Value.cells] at hu;subst hu;rfl) (fun w H=>?_)
     replace H:Hd w0 F0 w [blk b67 (BJ (.slice A42 J34.us.length c43) (.slice A47 J34.map.length c48) (.slice A52 J34.comb.length c53) (.slice A57 J34.red.length c58) (.slice A62 J34.marks.length c63) J34 C.w C.t C.o p ep (C8 R.g ((a73).toNat) { R.g ((a73).toNat) with merged:=true }) hv b41 vs) 197,Y Ag v94 pr79,blk b89 [.int .i64 a71,.int .i64 a72,.int .i64 a73,.int .i64 a74,.int .i64 a75,.slice A80 se77.length c81,.slice A82 pr79.length c83] 69,Y (At Ag) (.slice A42 J34.us.length c43) J34.us,Y Af (.slice A47 J34.map.length c48) J34.map,Y Af (.slice A52 J34.comb.length c53) J34.comb,Y Af (.slice A57 J34.red.length c58) J34.red,Y (Ai .i64) (.slice A62 J34.marks.length c63) J34.marks,B3 (R.g) hv,Y (At (Ai .i64)) vs us,CT 275 b41 ([])] [Ac (At Ag) (.slice A1 C.J.us.length c2) C.J.us,Ac Af (.slice A6 C.J.map.length c7) C.J.map,Ac Af (.slice A11 C.J.comb.length c12) C.J.comb,Ac Af (.slice A16 C.J.red.length c17) C.J.red,Ac (Ai .i64) (.slice A21 C.J.marks.length c22) C.J.marks,Ac BL (.slice A26 recs.length c27) recs]:=by rw [←bF (show (a73).toNat<6 by omega) true];exact H
     refine V U U (AJ U U) (V U U (Aj U Pu U) ?_)
     obtain ⟨A95,c96,rfl,hc97,hm98,hp99⟩:=H.fA 1 rfl
     refine Bx U U U DJ U U H U (by show 14+((a73).toNat)*5+1+1≤46;omega) (fun u hu=>by simp [Value.cells] at hu;subst hu;rfl) (fun w H=>?_)
     replace H:Hd w0 F0 w [blk b67 (BJ (.slice A42 J34.us.length c43) (.slice A47 J34.map.length c48) (.slice A52 J34.comb.length c53) (.slice A57 J34.red.length c58) (.slice A62 J34.marks.length c63) J34 C.w C.t C.o p ep (C8 R.g ((a73).toNat) { R.g ((a73).toNat) with merged:=true }) (C8 hv ((a73).toNat) (.slice A95 pr79.length c96:Value)) b41 vs) 197,Y Ag (.slice A95 pr79.length c96) pr79,blk b89 [.int .i64 a71,.int .i64 a72,.int .i64 a73,.int .i64 a74,.int .i64 a75,.slice A80 se77.length c81,.slice A82 pr79.length c83] 69,Y (At Ag) (.slice A42 J34.us.length c43) J34.us,Y Af (.slice A47 J34.map.length c48) J34.map,Y Af (.slice A52 J34.comb.length c53) J34.comb,Y Af (.slice A57 J34.red.length c58) J34.red,Y (Ai .i64) (.slice A62 J34.marks.length c63) J34.marks,B3 (R.g) hv,Y (At (Ai .i64)) vs us,CT 275 b41 ([])] [Ac (At Ag) (.slice A1 C.J.us.length c2) C.J.us,Ac Af (.slice A6 C.J.map.length c7) C.J.map,Ac Af (.slice A11 C.J.comb.length c12) C.J.comb,Ac Af (.slice A16 C.J.red.length c17) C.J.red,Ac (Ai .i64) (.slice A21 C.J.marks.length c22) C.J.marks,Ac BL (.slice A26 recs.length c27) recs]:=by rw [←bG (show (a73).toNat<6 by omega) (.slice A95 pr79.length c96:Value)];exact H
     refine Ab (Z (Aa (Ae (V U U (Aj U Ec U) (V U U (Am U AE U (H.cellI 2 U U)) (V U U (Bh U U U) (Ab (Z ?_))))))))
     refine AC U (fun h100=>?_) (fun h100=>?_)
     ·exfalso;omega
     refine Az (Bb (Z (Ae (V U U (Bc (z:=((k+1:Nat):Int)) U U U (by rw [AI (by omega) (by omega)];omega)) (Ad U (Ab ?_))))))
     have hpart:(AY.p (⟨a71,a72,a73,a74,a75,.slice A80 se77.length c81,se77,.slice A82 pr79.length c83,pr79⟩:AY)).part=R.part:=by rw [hRp];exact Classical.not_not.1 h90
     replace H:=H.pick 10 rfl|>.pick 10 rfl|>.p9|>.p9|>.p9|>.p9|>.p9|>.p7|>.pick 10 rfl|>.p9|>.k10|>.prsU (i:=(a73).toNat) (x:=({ R.g (a73).toNat with merged:=true,pairs:=pr79 }:DF)) (by omega)
     replace H:Hd w0 F0 w [B3 (({ R with g:=C8 R.g (a73).toNat ({ R.g (a73).toNat with merged:=true,pairs:=pr79 }:DF) }:AX).g) (C8 hv (a73).toNat (.slice A95 pr79.length c96:Value)),blk b67 (BJ (.slice A42 J34.us.length c43) (.slice A47 J34.map.length c48) (.slice A52 J34.comb.length c53) (.slice A57 J34.red.length c58) (.slice A62 J34.marks.length c63) J34 C.w C.t C.o p ep (({ R with g:=C8 R.g (a73).toNat ({ R.g (a73).toNat with merged:=true,pairs:=pr79 }:DF) }:AX).g) (C8 hv (a73).toNat (.slice A95 pr79.length c96:Value)) b41 vs) 197,Y (At Ag) (.slice A42 J34.us.length c43) J34.us,Y Af (.slice A47 J34.map.length c48) J34.map,Y Af (.slice A52 J34.comb.length c53) J34.comb,Y Af (.slice A57 J34.red.length c58) J34.red,Y (Ai .i64) (.slice A62 J34.marks.length c63) J34.marks,Y (At (Ai .i64)) vs us,CT 275 b41 ([])] [Ac (At Ag) (.slice A1 C.J.us.length c2) C.J.us,Ac Af (.slice A6 C.J.map.length c7) C.J.map,Ac Af (.slice A11 C.J.comb.length c12) C.J.comb,Ac Af (.slice A16 C.J.red.length c17) C.J.red,Ac (Ai .i64) (.slice A21 C.J.marks.length c22) C.J.marks,Ac BL (.slice A26 recs.length c27) recs]:=by
       rw [←bE (g:=C8 R.g (a73).toNat { R.g (a73).toNat with merged:=true }) (g':=({ R with g:=C8 R.g (a73).toNat ({ R.g (a73).toNat with merged:=true,pairs:=pr79 }:DF) }:AX).g) (fun j=>by dsimp only;by_cases e:j=(a73).toNat<;>first |(subst e;rw [Im,Im];exact ⟨rfl,rfl,rfl,rfl⟩)|(rw [Il _ _ e,Il _ _ e];exact ⟨rfl,rfl,rfl,rfl⟩))]
       exact H
     have hR2:=Gd hR hx70 (aW hpart h92 hin91 (by simpa [AY.p] using h93))
     replace H:=H.sel 9 [1,2,3,4,5,6,0,7,8] [] rfl (by kernel_rfl)
     replace H:Hd _ _ _ [blk b67 (BJ (.slice A42 J34.us.length c43) (.slice A47 J34.map.length c48) (.slice A52 J34.comb.length c53) (.slice A57 J34.red.length c58) (.slice A62 J34.marks.length c63) J34 C.w C.t C.o p ep (({ R with g:=C8 R.g (a73).toNat ({ R.g (a73).toNat with merged:=true,pairs:=pr79 }:DF) }:AX).g) (C8 hv (a73).toNat (.slice A95 pr79.length c96:Value)) b41 vs) 197,Y (At Ag) (.slice A42 J34.us.length c43) J34.us,Y Af (.slice A47 J34.map.length c48) J34.map,Y Af (.slice A52 J34.comb.length c53) J34.comb,Y Af (.slice A57 J34.red.length c58) J34.red,Y (Ai .i64) (.slice A62 J34.marks.length c63) J34.marks,B3 (({ R with g:=C8 R.g (a73).toNat ({ R.g (a73).toNat with merged:=true,pairs:=pr79 }:DF) }:AX).g) (C8 hv (a73).toNat (.slice A95 pr79.length c96:Value)),Y (At (Ai .i64)) vs us,CT 275 b41 ([])] [Ac (At Ag) (.slice A1 C.J.us.length c2) C.J.us,Ac Af (.slice A6 C.J.map.length c7) C.J.map,Ac Af (.slice A11 C.J.comb.length c12) C.J.comb,Ac Af (.slice A16 C.J.red.length c17) C.J.red,Ac (Ai .i64) (.slice A21 C.J.marks.length c22) C.J.marks,Ac BL (.slice A26 recs.length c27) recs]:=H
     exact Bo (s:=(k,R,hv,undef,us)) (k+1,({ R with g:=C8 R.g (a73).toNat ({ R.g (a73).toNat with merged:=true,pairs:=pr79 }:DF) }:AX),C8 hv (a73).toNat (.slice A95 pr79.length c96:Value),vs,us) ⟨rfl,rfl,rfl,rfl,rfl,rfl,rfl,trivial⟩ ⟨H,hR2,hRp,by (try dsimp only);exact hus,by (try dsimp only);omega,by (try dsimp only);omega⟩ (by (try dsimp only);omega)
    refine Az (Z (Aa (Ae (V U U (Aj U Ec U) (V U U (Am U AE U (H.cellI 0 U U)) (V U U (Bh U U U) (Ab (Z ?_))))))))
    refine AC U (fun h101=>?_) (fun h101=>?_)
    ·exfalso;omega
    refine Az (Bb (Z (Ae (V U U (Bc (z:=((k+1:Nat):Int)) U U U (by rw [AI (by omega) (by omega)];omega)) (Ad U (Ab ?_))))))
    have hpart:(AY.p (⟨a71,a72,a73,a74,a75,.slice A80 se77.length c81,se77,.slice A82 pr79.length c83,pr79⟩:AY)).part=R.part:=by rw [hRp];exact Classical.not_not.1 h90
    have hR2:=Gd hR hx70 (Ln hpart (fun h=>by have h2:=h.2.2;have h3:=h93;dsimp only [AY.p] at h2;rw [h2] at h3;exact absurd h3 (by decide)) h101)
    replace H:=H.p9.p9.p9.p9.p9.p9.p9.p9.p9.k9
    exact Bo (s:=(k,R,hv,undef,us)) (k+1,R,hv,vs,us) ⟨rfl,rfl,rfl,rfl,rfl,rfl,rfl,trivial⟩ ⟨H,hR2,hRp,by (try dsimp only);exact hus,by (try dsimp only);omega,by (try dsimp only);omega⟩ (by (try dsimp only);omega)
   refine Ah 10 U (Ab (Z (Ch U (Az (Z (Aa (Ae (V U U (Aj U Ec U) (V U U (Am U AE U (H.cellI 0 U U)) (V U U (Bh U U U) (Ab (Z ?_))))))))))))
   refine AC U (fun h102=>?_) (fun h102=>?_)
   ·replace H:=H.p9.p8.p8.p8.p8.p8.p8.p7
    refine Ce (.e 0 (.e 1 (.e 2 (.e 3 (.e 5 (.e 6 (.b 4 7 (.m 7 (.m 8 (.m 9 (.e 10 (.e 11 (.m 12 .z)))))) (.b 4 8 (.m 8 (.m 9 (.e 10 (.e 11 (.m 12 .z))))) (.m 4 (.m 9 (.e 10 (.e 11 (.m 12 .z))))))))))))) (fun w=>∃ Ar,Hd w0 F0 w (blk b89 [.int .i64 a71,.int .i64 a72,.int .i64 a73,.int .i64 a74,.int .i64 a75,.slice A80 se77.length c81,.slice A82 pr79.length c83] 69::Y (At Ag) (.slice A42 J34.us.length c43) J34.us::Y Af (.slice A47 J34.map.length c48) J34.map::Y Af (.slice A52 J34.comb.length c53) J34.comb::Y Af (.slice A57 J34.red.length c58) J34.red::Y (Ai .i64) (.slice A62 J34.marks.length c63) J34.marks::B3 (R.g) hv::CT 275 b41 ([])::Ar) [Ac (At Ag) (.slice A1 C.J.us.length c2) C.J.us,Ac Af (.slice A6 C.J.map.length c7) C.J.map,Ac Af (.slice A11 C.J.comb.length c12) C.J.comb,Ac Af (.slice A16 C.J.red.length c17) C.J.red,Ac (Ai .i64) (.slice A21 C.J.marks.length c22) C.J.marks,Ac BL (.slice A26 recs.length c27) recs]) mo (by kernel_rfl) (fun w H=>⟨_,H⟩) H (fun w H=>?_)
    refine Au U (Au U (Ao U U U (fun w ⟨Ar,H⟩=>AJ U U) (Ao U U U (fun w ⟨Ar,H⟩=>Aj U HB U) (Ao U U U (fun w ⟨Ar,H⟩=>Aj U Gr U) (Ao U U U (fun w ⟨Ar,H⟩=>Am U DY U (H.cellI 0 U U)) ?_)))))
    refine Gm U U ?_ ?_
    ·refine V U U (Am U Gi U (H.cellI 8 U U)) (AH ⟨_,H⟩ (AO U (sc (Jl (.slice A80 se77.length c81) se77 (by first |assumption|omega)) H (lX (fun F hA hR=>Ij (hR _ (List.mem_of_getElem? (i:=5) U)) hx70) l0) U U (Av JE U U) ?_)))
     rintro v103 _ w rfl H
     replace H:=H.h1 (A:=Y (Ai .i64) v103 se77)|>.p8|>.p8|>.p8|>.p8|>.p8|>.p8|>.p8|>.p8
     refine AH ⟨_,H⟩ (AO U ?_)
     obtain ⟨A105,c106,rfl,hc107,hm108,hp109⟩:=H.fA 8 rfl
     refine Cg (parts:=[(0,.tmp 76)]) (vs:=[.slice A105 se77.length c106]) (cs:=[.slice A105 se77.length c106]) U U U Gf Gj U (by decide) (by decide) U U H (fun b104 w H=>?_)
     replace H:Hd _ _ _ [blk b104 [.slice A105 se77.length c106] 24,blk b89 [.int .i64 a71,.int .i64 a72,.int .i64 a73,.int .i64 a74,.int .i64 a75,.slice A80 se77.length c81,.slice A82 pr79.length c83] 69,Y (At Ag) (.slice A42 J34.us.length c43) J34.us,Y Af (.slice A47 J34.map.length c48) J34.map,Y Af (.slice A52 J34.comb.length c53) J34.comb,Y Af (.slice A57 J34.red.length c58) J34.red,Y (Ai .i64) (.slice A62 J34.marks.length c63) J34.marks,B3 (R.g) hv,CT 275 b41 ([]),Y (Ai .i64) (.slice A105 se77.length c106) se77,blk b67 (BJ (.slice A42 J34.us.length c43) (.slice A47 J34.map.length c48) (.slice A52 J34.comb.length c53) (.slice A57 J34.red.length c58) (.slice A62 J34.marks.length c63) J34 C.w C.t C.o p ep R.g hv b41 vs) 197,Y (At (Ai .i64)) vs us] [Ac (At Ag) (.slice A1 C.J.us.length c2) C.J.us,Ac Af (.slice A6 C.J.map.length c7) C.J.map,Ac Af (.slice A11 C.J.comb.length c12) C.J.comb,Ac Af (.slice A16 C.J.red.length c17) C.J.red,Ac (Ai .i64) (.slice A21 C.J.marks.length c22) C.J.marks,Ac BL (.slice A26 recs.length c27) recs]:=H
     replace H:=H.p8.p8.p8.p8.p8.p8.p8.p8
     refine AH ⟨_,H⟩ (AO U ?_)
     replace H:=H.pick 11 rfl|>.pick 10 rfl|>.pick 10 rfl|>.p2
     refine I6 U U U Gf Gj U (by decide) U U H (by first |omega|(simp only [List.length_append,List.length_cons,List.length_nil];omega)) (fun v110 w H=>?_)
     replace H:=H.h1 (A:=Y (At (Ai .i64)) v110 (us++[((.slice A105 se77.length c106:Value),se77)]))|>.p8|>.p8|>.p8|>.p8|>.p8|>.p8|>.p8|>.p8
     refine AH ⟨_,H⟩ (Ao U U U (fun w ⟨Ar,H⟩=>AJ U U) (Ao U U U (fun w ⟨Ar,H⟩=>Aj U HB U) (AO U ?_)))
     obtain ⟨A111,c112,rfl,hc113,hm114,hp115⟩:=H.fA 8 rfl
     replace H:=H.p9
     refine Bx U U U Gi U U H U (Nat.le_of_ble_eq_true U) (fun u hu=>by simp [Value.cells] at hu;subst hu;rfl) (fun w H=>?_)
     replace H:Hd _ _ _ [blk b67 (BJ (.slice A42 J34.us.length c43) (.slice A47 J34.map.length c48) (.slice A52 J34.comb.length c53) (.slice A57 J34.red.length c58) (.slice A62 J34.marks.length c63) J34 C.w C.t C.o p ep R.g hv b41 (.slice A111 ((us++[((.slice A105 se77.length c106:Value),se77)]).length) c112)) 197,blk b89 [.int .i64 a71,.int .i64 a72,.int .i64 a73,.int .i64 a74,.int .i64 a75,.slice A80 se77.length c81,.slice A82 pr79.length c83] 69,Y (At Ag) (.slice A42 J34.us.length c43) J34.us,Y Af (.slice A47 J34.map.length c48) J34.map,Y Af (.slice A52 J34.comb.length c53) J34.comb,Y Af (.slice A57 J34.red.length c58) J34.red,Y (Ai .i64) (.slice A62 J34.marks.length c63) J34.marks,B3 (R.g) hv,CT 275 b41 ([]),Y (At (Ai .i64)) (.slice A111 ((us++[((.slice A105 se77.length c106:Value),se77)]).length) c112) (us++[((.slice A105 se77.length c106:Value),se77)])] [Ac (At Ag) (.slice A1 C.J.us.length c2) C.J.us,Ac Af (.slice A6 C.J.map.length c7) C.J.map,Ac Af (.slice A11 C.J.comb.length c12) C.J.comb,Ac Af (.slice A16 C.J.red.length c17) C.J.red,Ac (Ai .i64) (.slice A21 C.J.marks.length c22) C.J.marks,Ac BL (.slice A26 recs.length c27) recs]:=H
     replace H:=H.p8.p8.p8.p8.p8.p8.p8.p8
     refine AH ⟨_,H⟩ (BO (Bb (Z (Ae (V U U (Bc (z:=((k+1:Nat):Int)) U U U (by rw [AI (by omega) (by omega)];omega)) (Ad U (Ab ?_)))))))
     have hpart:(AY.p (⟨a71,a72,a73,a74,a75,.slice A80 se77.length c81,se77,.slice A82 pr79.length c83,pr79⟩:AY)).part=R.part:=by rw [hRp];exact Classical.not_not.1 h90
     have hR2:=Gd hR hx70 (I1 hpart h102)
     replace H:=H.p7.p9.p8.p8.p8.p8.p8.p8.p9.k9.h7 (A:=blk b67 (BJ (.slice A42 J34.us.length c43) (.slice A47 J34.map.length c48) (.slice A52 J34.comb.length c53) (.slice A57 J34.red.length c58) (.slice A62 J34.marks.length c63) J34 C.w C.t C.o p ep (({ R with sets:=R.sets++[se77] }:AX).g) hv b41 (.slice A111 ((us++[((.slice A105 se77.length c106:Value),se77)]).length) c112)) 197) (G:=B3 (({ R with sets:=R.sets++[se77] }:AX).g) hv)
     exact Bo (s:=(k,R,hv,undef,us)) (k+1,({ R with sets:=R.sets++[se77] }:AX),hv,.slice A111 ((us++[((.slice A105 se77.length c106:Value),se77)]).length) c112,us++[((.slice A105 se77.length c106:Value),se77)]) ⟨rfl,rfl,rfl,rfl,rfl,rfl,rfl,trivial⟩ ⟨H,hR2,hRp,by (try dsimp only);rw [List.map_append,hus];rfl,by (try dsimp only);omega,by (try dsimp only);rw [List.length_append];simp only [List.length_cons,List.length_nil];omega⟩ (by (try dsimp only);omega)
    refine sc (Jl (.slice A80 se77.length c81) se77 (by first |assumption|omega)) H (lX (fun F hA hR=>Ij (hR _ (List.mem_of_getElem? (i:=5) U)) hx70) l0) U U (Av JE U U) ?_
    rintro v116 _ w rfl H
    replace H:=H.h1 (A:=Y (Ai .i64) v116 se77)|>.p8|>.p8|>.p8|>.p8|>.p8|>.p8|>.p8|>.p8
    refine AH ⟨_,H⟩ ?_
    refine Gm U U ?_ ?_
    ·refine V U U (Am U Gi U (H.cellI 9 U U)) (AH ⟨_,H⟩ (AO U ?_))
     obtain ⟨A118,c119,rfl,hc120,hm121,hp122⟩:=H.fA 8 rfl
     refine Cg (parts:=[(0,.tmp 76)]) (vs:=[.slice A118 se77.length c119]) (cs:=[.slice A118 se77.length c119]) U U U Gf Gj U (by decide) (by decide) U U H (fun b117 w H=>?_)
     replace H:Hd _ _ _ [blk b117 [.slice A118 se77.length c119] 24,blk b89 [.int .i64 a71,.int .i64 a72,.int .i64 a73,.int .i64 a74,.int .i64 a75,.slice A80 se77.length c81,.slice A82 pr79.length c83] 69,Y (At Ag) (.slice A42 J34.us.length c43) J34.us,Y Af (.slice A47 J34.map.length c48) J34.map,Y Af (.slice A52 J34.comb.length c53) J34.comb,Y Af (.slice A57 J34.red.length c58) J34.red,Y (Ai .i64) (.slice A62 J34.marks.length c63) J34.marks,B3 (R.g) hv,CT 275 b41 ([]),Y (Ai .i64) (.slice A118 se77.length c119) se77,blk b67 (BJ (.slice A42 J34.us.length c43) (.slice A47 J34.map.length c48) (.slice A52 J34.comb.length c53) (.slice A57 J34.red.length c58) (.slice A62 J34.marks.length c63) J34 C.w C.t C.o p ep R.g hv b41 vs) 197,Y (At (Ai .i64)) vs us] [Ac (At Ag) (.slice A1 C.J.us.length c2) C.J.us,Ac Af (.slice A6 C.J.map.length c7) C.J.map,Ac Af (.slice A11 C.J.comb.length c12) C.J.comb,Ac Af (.slice A16 C.J.red.length c17) C.J.red,Ac (Ai .i64) (.slice A21 C.J.marks.length c22) C.J.marks,Ac BL (.slice A26 recs.length c27) recs]:=H
     replace H:=H.p8.p8.p8.p8.p8.p8.p8.p8
     refine AH ⟨_,H⟩ (AO U ?_)
     replace H:=H.pick 11 rfl|>.pick 10 rfl|>.pick 10 rfl|>.p2
     refine I6 U U U Gf Gj U (by decide) U U H (by first |omega|(simp only [List.length_append,List.length_cons,List.length_nil];omega)) (fun v123 w H=>?_)
     replace H:=H.h1 (A:=Y (At (Ai .i64)) v123 (us++[((.slice A118 se77.length c119:Value),se77)]))|>.p8|>.p8|>.p8|>.p8|>.p8|>.p8|>.p8|>.p8
     refine AH ⟨_,H⟩ (Ao U U U (fun w ⟨Ar,H⟩=>AJ U U) (Ao U U U (fun w ⟨Ar,H⟩=>Aj U HB U) (AO U ?_)))
     obtain ⟨A124,c125,rfl,hc126,hm127,hp128⟩:=H.fA 8 rfl
     replace H:=H.p9
     refine Bx U U U Gi U U H U (Nat.le_of_ble_eq_true U) (fun u hu=>by simp [Value.cells] at hu;subst hu;rfl) (fun w H=>?_)
     replace H:Hd _ _ _ [blk b67 (BJ (.slice A42 J34.us.length c43) (.slice A47 J34.map.length c48) (.slice A52 J34.comb.length c53) (.slice A57 J34.red.length c58) (.slice A62 J34.marks.length c63) J34 C.w C.t C.o p ep R.g hv b41 (.slice A124 ((us++[((.slice A118 se77.length c119:Value),se77)]).length) c125)) 197,blk b89 [.int .i64 a71,.int .i64 a72,.int .i64 a73,.int .i64 a74,.int .i64 a75,.slice A80 se77.length c81,.slice A82 pr79.length c83] 69,Y (At Ag) (.slice A42 J34.us.length c43) J34.us,Y Af (.slice A47 J34.map.length c48) J34.map,Y Af (.slice A52 J34.comb.length c53) J34.comb,Y Af (.slice A57 J34.red.length c58) J34.red,Y (Ai .i64) (.slice A62 J34.marks.length c63) J34.marks,B3 (R.g) hv,CT 275 b41 ([]),Y (At (Ai .i64)) (.slice A124 ((us++[((.slice A118 se77.length c119:Value),se77)]).length) c125) (us++[((.slice A118 se77.length c119:Value),se77)])] [Ac (At Ag) (.slice A1 C.J.us.length c2) C.J.us,Ac Af (.slice A6 C.J.map.length c7) C.J.map,Ac Af (.slice A11 C.J.comb.length c12) C.J.comb,Ac Af (.slice A16 C.J.red.length c17) C.J.red,Ac (Ai .i64) (.slice A21 C.J.marks.length c22) C.J.marks,Ac BL (.slice A26 recs.length c27) recs]:=H
     replace H:=H.p8.p8.p8.p8.p8.p8.p8.p8
     refine AH ⟨_,H⟩ (BO (Bb (Z (Ae (V U U (Bc (z:=((k+1:Nat):Int)) U U U (by rw [AI (by omega) (by omega)];omega)) (Ad U (Ab ?_)))))))
     have hpart:(AY.p (⟨a71,a72,a73,a74,a75,.slice A80 se77.length c81,se77,.slice A82 pr79.length c83,pr79⟩:AY)).part=R.part:=by rw [hRp];exact Classical.not_not.1 h90
     have hR2:=Gd hR hx70 (I1 hpart h102)
     replace H:=H.p7.p9.p8.p8.p8.p8.p8.p8.p9.k9.h7 (A:=blk b67 (BJ (.slice A42 J34.us.length c43) (.slice A47 J34.map.length c48) (.slice A52 J34.comb.length c53) (.slice A57 J34.red.length c58) (.slice A62 J34.marks.length c63) J34 C.w C.t C.o p ep (({ R with sets:=R.sets++[se77] }:AX).g) hv b41 (.slice A124 ((us++[((.slice A118 se77.length c119:Value),se77)]).length) c125)) 197) (G:=B3 (({ R with sets:=R.sets++[se77] }:AX).g) hv)
     exact Bo (s:=(k,R,hv,undef,us)) (k+1,({ R with sets:=R.sets++[se77] }:AX),hv,.slice A124 ((us++[((.slice A118 se77.length c119:Value),se77)]).length) c125,us++[((.slice A118 se77.length c119:Value),se77)]) ⟨rfl,rfl,rfl,rfl,rfl,rfl,rfl,trivial⟩ ⟨H,hR2,hRp,by (try dsimp only);rw [List.map_append,hus];rfl,by (try dsimp only);omega,by (try dsimp only);rw [List.length_append];simp only [List.length_cons,List.length_nil];omega⟩ (by (try dsimp only);omega)
    obtain ⟨A130,c131,rfl,hc132,hm133,hp134⟩:=H.fA 8 rfl
    refine Cg (parts:=[(0,.tmp 76)]) (vs:=[.slice A130 se77.length c131]) (cs:=[.slice A130 se77.length c131]) U U U Gf Gj U (by decide) (by decide) U U H (fun b129 w H=>?_)
    replace H:Hd _ _ _ [blk b129 [.slice A130 se77.length c131] 24,blk b89 [.int .i64 a71,.int .i64 a72,.int .i64 a73,.int .i64 a74,.int .i64 a75,.slice A80 se77.length c81,.slice A82 pr79.length c83] 69,Y (At Ag) (.slice A42 J34.us.length c43) J34.us,Y Af (.slice A47 J34.map.length c48) J34.map,Y Af (.slice A52 J34.comb.length c53) J34.comb,Y Af (.slice A57 J34.red.length c58) J34.red,Y (Ai .i64) (.slice A62 J34.marks.length c63) J34.marks,B3 (R.g) hv,CT 275 b41 ([]),Y (Ai .i64) (.slice A130 se77.length c131) se77,blk b67 (BJ (.slice A42 J34.us.length c43) (.slice A47 J34.map.length c48) (.slice A52 J34.comb.length c53) (.slice A57 J34.red.length c58) (.slice A62 J34.marks.length c63) J34 C.w C.t C.o p ep R.g hv b41 vs) 197,Y (At (Ai .i64)) vs us] [Ac (At Ag) (.slice A1 C.J.us.length c2) C.J.us,Ac Af (.slice A6 C.J.map.length c7) C.J.map,Ac Af (.slice A11 C.J.comb.length c12) C.J.comb,Ac Af (.slice A16 C.J.red.length c17) C.J.red,Ac (Ai .i64) (.slice A21 C.J.marks.length c22) C.J.marks,Ac BL (.slice A26 recs.length c27) recs]:=H
    replace H:=H.p8.p8.p8.p8.p8.p8.p8.p8
    refine AH ⟨_,H⟩ (AO U (V U U (Am U Gi U (H.cellI 10 U U)) (AH ⟨_,H⟩ (AO U ?_))))
    replace H:=H.pick 11 rfl|>.pick 10 rfl|>.pick 10 rfl|>.p2
    refine I6 U U U Gf Gj U (by decide) U U H (by first |omega|(simp only [List.length_append,List.length_cons,List.length_nil];omega)) (fun v135 w H=>?_)
    replace H:=H.h1 (A:=Y (At (Ai .i64)) v135 (us++[((.slice A130 se77.length c131:Value),se77)]))|>.p8|>.p8|>.p8|>.p8|>.p8|>.p8|>.p8|>.p8
    refine AH ⟨_,H⟩ (Ao U U U (fun w ⟨Ar,H⟩=>AJ U U) (Ao U U U (fun w ⟨Ar,H⟩=>Aj U HB U) (AO U ?_)))
    obtain ⟨A136,c137,rfl,hc138,hm139,hp140⟩:=H.fA 8 rfl
    replace H:=H.p9
    refine Bx U U U Gi U U H U (Nat.le_of_ble_eq_true U) (fun u hu=>by simp [Value.cells] at hu;subst hu;rfl) (fun w H=>?_)
    replace H:Hd _ _ _ [blk b67 (BJ (.slice A42 J34.us.length c43) (.slice A47 J34.map.length c48) (.slice A52 J34.comb.length c53) (.slice A57 J34.red.length c58) (.slice A62 J34.marks.length c63) J34 C.w C.t C.o p ep R.g hv b41 (.slice A136 ((us++[((.slice A130 se77.length c131:Value),se77)]).length) c137)) 197,blk b89 [.int .i64 a71,.int .i64 a72,.int .i64 a73,.int .i64 a74,.int .i64 a75,.slice A80 se77.length c81,.slice A82 pr79.length c83] 69,Y (At Ag) (.slice A42 J34.us.length c43) J34.us,Y Af (.slice A47 J34.map.length c48) J34.map,Y Af (.slice A52 J34.comb.length c53) J34.comb,Y Af (.slice A57 J34.red.length c58) J34.red,Y (Ai .i64) (.slice A62 J34.marks.length c63) J34.marks,B3 (R.g) hv,CT 275 b41 ([]),Y (At (Ai .i64)) (.slice A136 ((us++[((.slice A130 se77.length c131:Value),se77)]).length) c137) (us++[((.slice A130 se77.length c131:Value),se77)])] [Ac (At Ag) (.slice A1 C.J.us.length c2) C.J.us,Ac Af (.slice A6 C.J.map.length c7) C.J.map,Ac Af (.slice A11 C.J.comb.length c12) C.J.comb,Ac Af (.slice A16 C.J.red.length c17) C.J.red,Ac (Ai .i64) (.slice A21 C.J.marks.length c22) C.J.marks,Ac BL (.slice A26 recs.length c27) recs]:=H
    replace H:=H.p8.p8.p8.p8.p8.p8.p8.p8
    refine AH ⟨_,H⟩ (BO (Bb (Z (Ae (V U U (Bc (z:=((k+1:Nat):Int)) U U U (by rw [AI (by omega) (by omega)];omega)) (Ad U (Ab ?_)))))))
    have hpart:(AY.p (⟨a71,a72,a73,a74,a75,.slice A80 se77.length c81,se77,.slice A82 pr79.length c83,pr79⟩:AY)).part=R.part:=by rw [hRp];exact Classical.not_not.1 h90
    have hR2:=Gd hR hx70 (I1 hpart h102)
    replace H:=H.p7.p9.p8.p8.p8.p8.p8.p8.p9.k9.h7 (A:=blk b67 (BJ (.slice A42 J34.us.length c43) (.slice A47 J34.map.length c48) (.slice A52 J34.comb.length c53) (.slice A57 J34.red.length c58) (.slice A62 J34.marks.length c63) J34 C.w C.t C.o p ep (({ R with sets:=R.sets++[se77] }:AX).g) hv b41 (.slice A136 ((us++[((.slice A130 se77.length c131:Value),se77)]).length) c137)) 197) (G:=B3 (({ R with sets:=R.sets++[se77] }:AX).g) hv)
    exact Bo (s:=(k,R,hv,undef,us)) (k+1,({ R with sets:=R.sets++[se77] }:AX),hv,.slice A136 ((us++[((.slice A130 se77.length c131:Value),se77)]).length) c137,us++[((.slice A130 se77.length c131:Value),se77)]) ⟨rfl,rfl,rfl,rfl,rfl,rfl,rfl,trivial⟩ ⟨H,hR2,hRp,by (try dsimp only);rw [List.map_append,hus];rfl,by (try dsimp only);omega,by (try dsimp only);rw [List.length_append];simp only [List.length_cons,List.length_nil];omega⟩ (by (try dsimp only);omega)
   refine Az (Bb (Z (Ae (V U U (Bc (z:=((k+1:Nat):Int)) U U U (by rw [AI (by omega) (by omega)];omega)) (Ad U (Ab ?_))))))
   have hpart:(AY.p (⟨a71,a72,a73,a74,a75,.slice A80 se77.length c81,se77,.slice A82 pr79.length c83,pr79⟩:AY)).part=R.part:=by rw [hRp];exact Classical.not_not.1 h90
   have hR2:=Gd hR hx70 (Ln hpart (fun h=>h92 h.1) h102)
   replace H:=H.p9.p9.p9.p9.p9.p9.p9.p9.p9.k9
   exact Bo (s:=(k,R,hv,undef,us)) (k+1,R,hv,vs,us) ⟨rfl,rfl,rfl,rfl,rfl,rfl,rfl,trivial⟩ ⟨H,hR2,hRp,by (try dsimp only);exact hus,by (try dsimp only);omega,by (try dsimp only);omega⟩ (by (try dsimp only);omega)
  refine Ae (Ad U (V U U (Aj U Gq U) (V U U (Am U AE U (H.cellI 0 U U)) (sc (TA b67 A42 J34.us.length c43 (.slice A47 J34.map.length c48) (.slice A52 J34.comb.length c53) (.slice A57 J34.red.length c58) (.slice A62 J34.marks.length c63) J34 C.w C.t C.o p ep R.g hv b41 vs a73 (by first |assumption|omega)) H (lA 1 U (fun _ h=>h) l0) U U (Av Qr U U) ?_))))
  rintro _ _ w ⟨rfl,rfl⟩ H
  refine Ad U (Ab (Z (Aa (Ae (V U U (Aj U Ec U) (V U U (Am U AE U (H.cellI 0 U U)) (V U U (Bh U U U) (Ad U ?_))))))))
  refine AQ (d:=46) U (fun h141=>?_) (fun h141=>?_)
  ·refine Ad U (V U U (HO U S9 U U) (Ah 8 U (Ab (Z (Ch U (Az (Z (Aa (Ae (V U U (Aj U Ec U) (V U U (Am U AE U (H.cellI 0 U U)) (V U U (Bh U U U) (Ab (Z ?_))))))))))))))
   refine AC U (fun h142=>?_) (fun h142=>?_)
   ·exfalso;omega
   refine Az (Bb (Z (Ae (V U U (Bc (z:=((k+1:Nat):Int)) U U U (by rw [AI (by omega) (by omega)];omega)) (Ad U (Ab ?_))))))
   have hpart:(AY.p (⟨a71,a72,a73,a74,a75,.slice A80 se77.length c81,se77,.slice A82 pr79.length c83,pr79⟩:AY)).part=R.part:=by rw [hRp];exact Classical.not_not.1 h90
   have hR2:=Gd hR hx70 (Ln hpart (fun h=>hin91 h.2.1) h142)
   replace H:=H.p9.p9.p9.p9.p9.p9.p9.p9.p9.k9
   exact Bo (s:=(k,R,hv,undef,us)) (k+1,R,hv,vs,us) ⟨rfl,rfl,rfl,rfl,rfl,rfl,rfl,trivial⟩ ⟨H,hR2,hRp,by (try dsimp only);exact hus,by (try dsimp only);omega,by (try dsimp only);omega⟩ (by (try dsimp only);omega)
  refine Ah 10 U (Ab (Z (Ch U (Az (Z (Aa (Ae (V U U (Aj U Ec U) (V U U (Am U AE U (H.cellI 0 U U)) (V U U (Bh U U U) (Ab (Z ?_))))))))))))
  refine AC U (fun h143=>?_) (fun h143=>?_)
  ·replace H:=H.p9.p8.p8.p8.p8.p8.p8.p7
   refine Ce (.e 0 (.e 1 (.e 2 (.e 3 (.e 5 (.e 6 (.b 4 7 (.m 7 (.m 8 (.m 9 (.e 10 (.e 11 (.m 12 .z)))))) (.b 4 8 (.m 8 (.m 9 (.e 10 (.e 11 (.m 12 .z))))) (.m 4 (.m 9 (.e 10 (.e 11 (.m 12 .z))))))))))))) (fun w=>∃ Ar,Hd w0 F0 w (blk b89 [.int .i64 a71,.int .i64 a72,.int .i64 a73,.int .i64 a74,.int .i64 a75,.slice A80 se77.length c81,.slice A82 pr79.length c83] 69::Y (At Ag) (.slice A42 J34.us.length c43) J34.us::Y Af (.slice A47 J34.map.length c48) J34.map::Y Af (.slice A52 J34.comb.length c53) J34.comb::Y Af (.slice A57 J34.red.length c58) J34.red::Y (Ai .i64) (.slice A62 J34.marks.length c63) J34.marks::B3 (R.g) hv::CT 275 b41 ([])::Ar) [Ac (At Ag) (.slice A1 C.J.us.length c2) C.J.us,Ac Af (.slice A6 C.J.map.length c7) C.J.map,Ac Af (.slice A11 C.J.comb.length c12) C.J.comb,Ac Af (.slice A16 C.J.red.length c17) C.J.red,Ac (Ai .i64) (.slice A21 C.J.marks.length c22) C.J.marks,Ac BL (.slice A26 recs.length c27) recs]) mo (by kernel_rfl) (fun w H=>⟨_,H⟩) H (fun w H=>?_)
   refine Au U (Au U (Ao U U U (fun w ⟨Ar,H⟩=>AJ U U) (Ao U U U (fun w ⟨Ar,H⟩=>Aj U HB U) (Ao U U U (fun w ⟨Ar,H⟩=>Aj U Gr U) (Ao U U U (fun w ⟨Ar,H⟩=>Am U DY U (H.cellI 0 U U)) ?_)))))
   refine Gm U U ?_ ?_
   ·refine V U U (Am U Gi U (H.cellI 8 U U)) (AH ⟨_,H⟩ (AO U (sc (Jl (.slice A80 se77.length c81) se77 (by first |assumption|omega)) H (lX (fun F hA hR=>Ij (hR _ (List.mem_of_getElem? (i:=5) U)) hx70) l0) U U (Av JE U U) ?_)))
    rintro v144 _ w rfl H
    replace H:=H.h1 (A:=Y (Ai .i64) v144 se77)|>.p8|>.p8|>.p8|>.p8|>.p8|>.p8|>.p8|>.p8
    refine AH ⟨_,H⟩ (AO U ?_)
    obtain ⟨A146,c147,rfl,hc148,hm149,hp150⟩:=H.fA 8 rfl
    refine Cg (parts:=[(0,.tmp 76)]) (vs:=[.slice A146 se77.length c147]) (cs:=[.slice A146 se77.length c147]) U U U Gf Gj U (by decide) (by decide) U U H (fun b145 w H=>?_)
    replace H:Hd _ _ _ [blk b145 [.slice A146 se77.length c147] 24,blk b89 [.int .i64 a71,.int .i64 a72,.int .i64 a73,.int .i64 a74,.int .i64 a75,.slice A80 se77.length c81,.slice A82 pr79.length c83] 69,Y (At Ag) (.slice A42 J34.us.length c43) J34.us,Y Af (.slice A47 J34.map.length c48) J34.map,Y Af (.slice A52 J34.comb.length c53) J34.comb,Y Af (.slice A57 J34.red.length c58) J34.red,Y (Ai .i64) (.slice A62 J34.marks.length c63) J34.marks,B3 (R.g) hv,CT 275 b41 ([]),Y (Ai .i64) (.slice A146 se77.length c147) se77,blk b67 (BJ (.slice A42 J34.us.length c43) (.slice A47 J34.map.length c48) (.slice A52 J34.comb.length c53) (.slice A57 J34.red.length c58) (.slice A62 J34.marks.length c63) J34 C.w C.t C.o p ep R.g hv b41 vs) 197,Y (At (Ai .i64)) vs us] [Ac (At Ag) (.slice A1 C.J.us.length c2) C.J.us,Ac Af (.slice A6 C.J.map.length c7) C.J.map,Ac Af (.slice A11 C.J.comb.length c12) C.J.comb,Ac Af (.slice A16 C.J.red.length c17) C.J.red,Ac (Ai .i64) (.slice A21 C.J.marks.length c22) C.J.marks,Ac BL (.slice A26 recs.length c27) recs]:=H
    replace H:=H.p8.p8.p8.p8.p8.p8.p8.p8
    refine AH ⟨_,H⟩ (AO U ?_)
    replace H:=H.pick 11 rfl|>.pick 10 rfl|>.pick 10 rfl|>.p2
    refine I6 U U U Gf Gj U (by decide) U U H (by first |omega|(simp only [List.length_append,List.length_cons,List.length_nil];omega)) (fun v151 w H=>?_)
    replace H:=H.h1 (A:=Y (At (Ai .i64)) v151 (us++[((.slice A146 se77.length c147:Value),se77)]))|>.p8|>.p8|>.p8|>.p8|>.p8|>.p8|>.p8|>.p8
    refine AH ⟨_,H⟩ (Ao U U U (fun w ⟨Ar,H⟩=>AJ U U) (Ao U U U (fun w ⟨Ar,H⟩=>Aj U HB U) (AO U ?_)))
    obtain ⟨A152,c153,rfl,hc154,hm155,hp156⟩:=H.fA 8 rfl
    replace H:=H.p9
    refine Bx U U U Gi U U H U (Nat.le_of_ble_eq_true U) (fun u hu=>by simp [Value.cells] at hu;subst hu;rfl) (fun w H=>?_)
    replace H:Hd _ _ _ [blk b67 (BJ (.slice A42 J34.us.length c43) (.slice A47 J34.map.length c48) (.slice A52 J34.comb.length c53) (.slice A57 J34.red.length c58) (.slice A62 J34.marks.length c63) J34 C.w C.t C.o p ep R.g hv b41 (.slice A152 ((us++[((.slice A146 se77.length c147:Value),se77)]).length) c153)) 197,blk b89 [.int .i64 a71,.int .i64 a72,.int .i64 a73,.int .i64 a74,.int .i64 a75,.slice A80 se77.length c81,.slice A82 pr79.length c83] 69,Y (At Ag) (.slice A42 J34.us.length c43) J34.us,Y Af (.slice A47 J34.map.length c48) J34.map,Y Af (.slice A52 J34.comb.length c53) J34.comb,Y Af (.slice A57 J34.red.length c58) J34.red,Y (Ai .i64) (.slice A62 J34.marks.length c63) J34.marks,B3 (R.g) hv,CT 275 b41 ([]),Y (At (Ai .i64)) (.slice A152 ((us++[((.slice A146 se77.length c147:Value),se77)]).length) c153) (us++[((.slice A146 se77.length c147:Value),se77)])] [Ac (At Ag) (.slice A1 C.J.us.length c2) C.J.us,Ac Af (.slice A6 C.J.map.length c7) C.J.map,Ac Af (.slice A11 C.J.comb.length c12) C.J.comb,Ac Af (.slice A16 C.J.red.length c17) C.J.red,Ac (Ai .i64) (.slice A21 C.J.marks.length c22) C.J.marks,Ac BL (.slice A26 recs.length c27) recs]:=H
    replace H:=H.p8.p8.p8.p8.p8.p8.p8.p8
    refine AH ⟨_,H⟩ (BO (Bb (Z (Ae (V U U (Bc (z:=((k+1:Nat):Int)) U U U (by rw [AI (by omega) (by omega)];omega)) (Ad U (Ab ?_)))))))
    have hpart:(AY.p (⟨a71,a72,a73,a74,a75,.slice A80 se77.length c81,se77,.slice A82 pr79.length c83,pr79⟩:AY)).part=R.part:=by rw [hRp];exact Classical.not_not.1 h90
    have hR2:=Gd hR hx70 (I1 hpart h143)
    replace H:=H.p7.p9.p8.p8.p8.p8.p8.p8.p9.k9.h7 (A:=blk b67 (BJ (.slice A42 J34.us.length c43) (.slice A47 J34.map.length c48) (.slice A52 J34.comb.length c53) (.slice A57 J34.red.length c58) (.slice A62 J34.marks.length c63) J34 C.w C.t C.o p ep (({ R with sets:=R.sets++[se77] }:AX).g) hv b41 (.slice A152 ((us++[((.slice A146 se77.length c147:Value),se77)]).length) c153)) 197) (G:=B3 (({ R with sets:=R.sets++[se77] }:AX).g) hv)
    exact Bo (s:=(k,R,hv,undef,us)) (k+1,({ R with sets:=R.sets++[se77] }:AX),hv,.slice A152 ((us++[((.slice A146 se77.length c147:Value),se77)]).length) c153,us++[((.slice A146 se77.length c147:Value),se77)]) ⟨rfl,rfl,rfl,rfl,rfl,rfl,rfl,trivial⟩ ⟨H,hR2,hRp,by (try dsimp only);rw [List.map_append,hus];rfl,by (try dsimp only);omega,by (try dsimp only);rw [List.length_append];simp only [List.length_cons,List.length_nil];omega⟩ (by (try dsimp only);omega)
   refine sc (Jl (.slice A80 se77.length c81) se77 (by first |assumption|omega)) H (lX (fun F hA hR=>Ij (hR _ (List.mem_of_getElem? (i:=5) U)) hx70) l0) U U (Av JE U U) ?_
   rintro v157 _ w rfl H
   replace H:=H.h1 (A:=Y (Ai .i64) v157 se77)|>.p8|>.p8|>.p8|>.p8|>.p8|>.p8|>.p8|>.p8
   refine AH ⟨_,H⟩ ?_
   refine Gm U U ?_ ?_
   ·refine V U U (Am U Gi U (H.cellI 9 U U)) (AH ⟨_,H⟩ (AO U ?_))
    obtain ⟨A159,c160,rfl,hc161,hm162,hp163⟩:=H.fA 8 rfl
    refine Cg (parts:=[(0,.tmp 76)]) (vs:=[.slice A159 se77.length c160]) (cs:=[.slice A159 se77.length c160]) U U U Gf Gj U (by decide) (by decide) U U H (fun b158 w H=>?_)
    replace H:Hd _ _ _ [blk b158 [.slice A159 se77.length c160] 24,blk b89 [.int .i64 a71,.int .i64 a72,.int .i64 a73,.int .i64 a74,.int .i64 a75,.slice A80 se77.length c81,.slice A82 pr79.length c83] 69,Y (At Ag) (.slice A42 J34.us.length c43) J34.us,Y Af (.slice A47 J34.map.length c48) J34.map,Y Af (.slice A52 J34.comb.length c53) J34.comb,Y Af (.slice A57 J34.red.length c58) J34.red,Y (Ai .i64) (.slice A62 J34.marks.length c63) J34.marks,B3 (R.g) hv,CT 275 b41 ([]),Y (Ai .i64) (.slice A159 se77.length c160) se77,blk b67 (BJ (.slice A42 J34.us.length c43) (.slice A47 J34.map.length c48) (.slice A52 J34.comb.length c53) (.slice A57 J34.red.length c58) (.slice A62 J34.marks.length c63) J34 C.w C.t C.o p ep R.g hv b41 vs) 197,Y (At (Ai .i64)) vs us] [Ac (At Ag) (.slice A1 C.J.us.length c2) C.J.us,Ac Af (.slice A6 C.J.map.length c7) C.J.map,Ac Af (.slice A11 C.J.comb.length c12) C.J.comb,Ac Af (.slice A16 C.J.red.length c17) C.J.red,Ac (Ai .i64) (.slice A21 C.J.marks.length c22) C.J.marks,Ac BL (.slice A26 recs.length c27) recs]:=H
    replace H:=H.p8.p8.p8.p8.p8.p8.p8.p8
    refine AH ⟨_,H⟩ (AO U ?_)
    replace H:=H.pick 11 rfl|>.pick 10 rfl|>.pick 10 rfl|>.p2
    refine I6 U U U Gf Gj U (by decide) U U H (by first |omega|(simp only [List.length_append,List.length_cons,List.length_nil];omega)) (fun v164 w H=>?_)
    replace H:=H.h1 (A:=Y (At (Ai .i64)) v164 (us++[((.slice A159 se77.length c160:Value),se77)]))|>.p8|>.p8|>.p8|>.p8|>.p8|>.p8|>.p8|>.p8
    refine AH ⟨_,H⟩ (Ao U U U (fun w ⟨Ar,H⟩=>AJ U U) (Ao U U U (fun w ⟨Ar,H⟩=>Aj U HB U) (AO U ?_)))
    obtain ⟨A165,c166,rfl,hc167,hm168,hp169⟩:=H.fA 8 rfl
    replace H:=H.p9
    refine Bx U U U Gi U U H U (Nat.le_of_ble_eq_true U) (fun u hu=>by simp [Value.cells] at hu;subst hu;rfl) (fun w H=>?_)
    replace H:Hd _ _ _ [blk b67 (BJ (.slice A42 J34.us.length c43) (.slice A47 J34.map.length c48) (.slice A52 J34.comb.length c53) (.slice A57 J34.red.length c58) (.slice A62 J34.marks.length c63) J34 C.w C.t C.o p ep R.g hv b41 (.slice A165 ((us++[((.slice A159 se77.length c160:Value),se77)]).length) c166)) 197,blk b89 [.int .i64 a71,.int .i64 a72,.int .i64 a73,.int .i64 a74,.int .i64 a75,.slice A80 se77.length c81,.slice A82 pr79.length c83] 69,Y (At Ag) (.slice A42 J34.us.length c43) J34.us,Y Af (.slice A47 J34.map.length c48) J34.map,Y Af (.slice A52 J34.comb.length c53) J34.comb,Y Af (.slice A57 J34.red.length c58) J34.red,Y (Ai .i64) (.slice A62 J34.marks.length c63) J34.marks,B3 (R.g) hv,CT 275 b41 ([]),Y (At (Ai .i64)) (.slice A165 ((us++[((.slice A159 se77.length c160:Value),se77)]).length) c166) (us++[((.slice A159 se77.length c160:Value),se77)])] [Ac (At Ag) (.slice A1 C.J.us.length c2) C.J.us,Ac Af (.slice A6 C.J.map.length c7) C.J.map,Ac Af (.slice A11 C.J.comb.length c12) C.J.comb,Ac Af (.slice A16 C.J.red.length c17) C.J.red,Ac (Ai .i64) (.slice A21 C.J.marks.length c22) C.J.marks,Ac BL (.slice A26 recs.length c27) recs]:=H
    replace H:=H.p8.p8.p8.p8.p8.p8.p8.p8
    refine AH ⟨_,H⟩ (BO (Bb (Z (Ae (V U U (Bc (z:=((k+1:Nat):Int)) U U U (by rw [AI (by omega) (by omega)];omega)) (Ad U (Ab ?_)))))))
    have hpart:(AY.p (⟨a71,a72,a73,a74,a75,.slice A80 se77.length c81,se77,.slice A82 pr79.length c83,pr79⟩:AY)).part=R.part:=by rw [hRp];exact Classical.not_not.1 h90
    have hR2:=Gd hR hx70 (I1 hpart h143)
    replace H:=H.p7.p9.p8.p8.p8.p8.p8.p8.p9.k9.h7 (A:=blk b67 (BJ (.slice A42 J34.us.length c43) (.slice A47 J34.map.length c48) (.slice A52 J34.comb.length c53) (.slice A57 J34.red.length c58) (.slice A62 J34.marks.length c63) J34 C.w C.t C.o p ep (({ R with sets:=R.sets++[se77] }:AX).g) hv b41 (.slice A165 ((us++[((.slice A159 se77.length c160:Value),se77)]).length) c166)) 197) (G:=B3 (({ R with sets:=R.sets++[se77] }:AX).g) hv)
    exact Bo (s:=(k,R,hv,undef,us)) (k+1,({ R with sets:=R.sets++[se77] }:AX),hv,.slice A165 ((us++[((.slice A159 se77.length c160:Value),se77)]).length) c166,us++[((.slice A159 se77.length c160:Value),se77)]) ⟨rfl,rfl,rfl,rfl,rfl,rfl,rfl,trivial⟩ ⟨H,hR2,hRp,by (try dsimp only);rw [List.map_append,hus];rfl,by (try dsimp only);omega,by (try dsimp only);rw [List.length_append];simp only [List.length_cons,List.length_nil];omega⟩ (by (try dsimp only);omega)
   obtain ⟨A171,c172,rfl,hc173,hm174,hp175⟩:=H.fA 8 rfl
   refine Cg (parts:=[(0,.tmp 76)]) (vs:=[.slice A171 se77.length c172]) (cs:=[.slice A171 se77.length c172]) U U U Gf Gj U (by decide) (by decide) U U H (fun b170 w H=>?_)
   replace H:Hd _ _ _ [blk b170 [.slice A171 se77.length c172] 24,blk b89 [.int .i64 a71,.int .i64 a72,.int .i64 a73,.int .i64 a74,.int .i64 a75,.slice A80 se77.length c81,.slice A82 pr79.length c83] 69,Y (At Ag) (.slice A42 J34.us.length c43) J34.us,Y Af (.slice A47 J34.map.length c48) J34.map,Y Af (.slice A52 J34.comb.length c53) J34.comb,Y Af (.slice A57 J34.red.length c58) J34.red,Y (Ai .i64) (.slice A62 J34.marks.length c63) J34.marks,B3 (R.g) hv,CT 275 b41 ([]),Y (Ai .i64) (.slice A171 se77.length c172) se77,blk b67 (BJ (.slice A42 J34.us.length c43) (.slice A47 J34.map.length c48) (.slice A52 J34.comb.length c53) (.slice A57 J34.red.length c58) (.slice A62 J34.marks.length c63) J34 C.w C.t C.o p ep R.g hv b41 vs) 197,Y (At (Ai .i64)) vs us] [Ac (At Ag) (.slice A1 C.J.us.length c2) C.J.us,Ac Af (.slice A6 C.J.map.length c7) C.J.map,Ac Af (.slice A11 C.J.comb.length c12) C.J.comb,Ac Af (.slice A16 C.J.red.length c17) C.J.red,Ac (Ai .i64) (.slice A21 C.J.marks.length c22) C.J.marks,Ac BL (.slice A26 recs.length c27) recs]:=H
   replace H:=H.p8.p8.p8.p8.p8.p8.p8.p8
   refine AH ⟨_,H⟩ (AO U (V U U (Am U Gi U (H.cellI 10 U U)) (AH ⟨_,H⟩ (AO U ?_))))
   replace H:=H.pick 11 rfl|>.pick 10 rfl|>.pick 10 rfl|>.p2
   refine I6 U U U Gf Gj U (by decide) U U H (by first |omega|(simp only [List.length_append,List.length_cons,List.length_nil];omega)) (fun v176 w H=>?_)
   replace H:=H.h1 (A:=Y (At (Ai .i64)) v176 (us++[((.slice A171 se77.length c172:Value),se77)]))|>.p8|>.p8|>.p8|>.p8|>.p8|>.p8|>.p8|>.p8
   refine AH ⟨_,H⟩ (Ao U U U (fun w ⟨Ar,H⟩=>AJ U U) (Ao U U U (fun w ⟨Ar,H⟩=>Aj U HB U) (AO U ?_)))
   obtain ⟨A177,c178,rfl,hc179,hm180,hp181⟩:=H.fA 8 rfl
   replace H:=H.p9
   refine Bx U U U Gi U U H U (Nat.le_of_ble_eq_true U) (fun u hu=>by simp [Value.cells] at hu;subst hu;rfl) (fun w H=>?_)
   replace H:Hd _ _ _ [blk b67 (BJ (.slice A42 J34.us.length c43) (.slice A47 J34.map.length c48) (.slice A52 J34.comb.length c53) (.slice A57 J34.red.length c58) (.slice A62 J34.marks.length c63) J34 C.w C.t C.o p ep R.g hv b41 (.slice A177 ((us++[((.slice A171 se77.length c172:Value),se77)]).length) c178)) 197,blk b89 [.int .i64 a71,.int .i64 a72,.int .i64 a73,.int .i64 a74,.int .i64 a75,.slice A80 se77.length c81,.slice A82 pr79.length c83] 69,Y (At Ag) (.slice A42 J34.us.length c43) J34.us,Y Af (.slice A47 J34.map.length c48) J34.map,Y Af (.slice A52 J34.comb.length c53) J34.comb,Y Af (.slice A57 J34.red.length c58) J34.red,Y (Ai .i64) (.slice A62 J34.marks.length c63) J34.marks,B3 (R.g) hv,CT 275 b41 ([]),Y (At (Ai .i64)) (.slice A177 ((us++[((.slice A171 se77.length c172:Value),se77)]).length) c178) (us++[((.slice A171 se77.length c172:Value),se77)])] [Ac (At Ag) (.slice A1 C.J.us.length c2) C.J.us,Ac Af (.slice A6 C.J.map.length c7) C.J.map,Ac Af (.slice A11 C.J.comb.length c12) C.J.comb,Ac Af (.slice A16 C.J.red.length c17) C.J.red,Ac (Ai .i64) (.slice A21 C.J.marks.length c22) C.J.marks,Ac BL (.slice A26 recs.length c27) recs]:=H
   replace H:=H.p8.p8.p8.p8.p8.p8.p8.p8
   refine AH ⟨_,H⟩ (BO (Bb (Z (Ae (V U U (Bc (z:=((k+1:Nat):Int)) U U U (by rw [AI (by omega) (by omega)];omega)) (Ad U (Ab ?_)))))))
   have hpart:(AY.p (⟨a71,a72,a73,a74,a75,.slice A80 se77.length c81,se77,.slice A82 pr79.length c83,pr79⟩:AY)).part=R.part:=by rw [hRp];exact Classical.not_not.1 h90
   have hR2:=Gd hR hx70 (I1 hpart h143)
   replace H:=H.p7.p9.p8.p8.p8.p8.p8.p8.p9.k9.h7 (A:=blk b67 (BJ (.slice A42 J34.us.length c43) (.slice A47 J34.map.length c48) (.slice A52 J34.comb.length c53) (.slice A57 J34.red.length c58) (.slice A62 J34.marks.length c63) J34 C.w C.t C.o p ep (({ R with sets:=R.sets++[se77] }:AX).g) hv b41 (.slice A177 ((us++[((.slice A171 se77.length c172:Value),se77)]).length) c178)) 197) (G:=B3 (({ R with sets:=R.sets++[se77] }:AX).g) hv)
   exact Bo (s:=(k,R,hv,undef,us)) (k+1,({ R with sets:=R.sets++[se77] }:AX),hv,.slice A177 ((us++[((.slice A171 se77.length c172:Value),se77)]).length) c178,us++[((.slice A171 se77.length c172:Value),se77)]) ⟨rfl,rfl,rfl,rfl,rfl,rfl,rfl,trivial⟩ ⟨H,hR2,hRp,by (try dsimp only);rw [List.map_append,hus];rfl,by (try dsimp only);omega,by (try dsimp only);rw [List.length_append];simp only [List.length_cons,List.length_nil];omega⟩ (by (try dsimp only);omega)
  refine Az (Bb (Z (Ae (V U U (Bc (z:=((k+1:Nat):Int)) U U U (by rw [AI (by omega) (by omega)];omega)) (Ad U (Ab ?_))))))
  have hpart:(AY.p (⟨a71,a72,a73,a74,a75,.slice A80 se77.length c81,se77,.slice A82 pr79.length c83,pr79⟩:AY)).part=R.part:=by rw [hRp];exact Classical.not_not.1 h90
  have hR2:=Gd hR hx70 (Ln hpart (fun h=>h141 h.1) h143)
  replace H:=H.p9.p9.p9.p9.p9.p9.p9.p9.p9.k9
  exact Bo (s:=(k,R,hv,undef,us)) (k+1,R,hv,vs,us) ⟨rfl,rfl,rfl,rfl,rfl,rfl,rfl,trivial⟩ ⟨H,hR2,hRp,by (try dsimp only);exact hus,by (try dsimp only);omega,by (try dsimp only);omega⟩ (by (try dsimp only);omega)
 refine BQ (AV (AV (BS (Z (Aa (Ae (Ah 3 U (Ab (Z (An (Dy U U U ?_)))))))))))
 have hkk:R=Db J34.us.length p ep (recs.map AY.p):=by rw [hR,List.take_of_length_le (by omega)]
 clear hR
 subst hkk
 replace H:=H.h8 (A:=blk b67 (BJ (.slice A42 J34.us.length c43) (.slice A47 J34.map.length c48) (.slice A52 J34.comb.length c53) (.slice A57 J34.red.length c58) (.slice A62 J34.marks.length c63) J34 C.w C.t C.o p ep ((Db J34.us.length p ep (recs.map AY.p)).g) hv b41 vs) 197) (G:=B3 ((Db J34.us.length p ep (recs.map AY.p)).g) hv) (I:=Y (At (Ai .i64)) vs us)
 exact Al ⟨b67,(.slice A42 J34.us.length c43),(.slice A47 J34.map.length c48),(.slice A52 J34.comb.length c53),(.slice A57 J34.red.length c58),(.slice A62 J34.marks.length c63),J34,hv,b41,vs,us,rfl,rfl,hsj,hus⟩ H
theorem fX (vS:Value) (vM:Value) (vC:Value) (vR:Value) (vK:Value) (C:Cf) (id:Int) (vr:Value) (recs:List AY) (hC:Dq C) (hJ:C4 C.J) (hid:1≤id∧id≤C.w) (hrs:∀ r∈recs,(AG r.sp∧r.set.length≤1000)∧r.pairs.length≤1000) (hrl:recs.length≤100000):
    Cn Tryz.prog 77 [.agg #[vS,.int .i64 C.J.parts,vM,vC,vR,.int .i64 C.J.chunk,.int .i64 C.J.window,.int .i64 C.J.fuel,vK,.int .i64 C.w,.int .i64 C.t,.int .i64 C.o],.int .i64 id,vr] [] [Ac (At Ag) vS C.J.us,Ac Af vM C.J.map,Ac Af vC C.J.comb,Ac Af vR C.J.red,Ac (Ai .i64) vK C.J.marks,Ac BL vr recs] (fun v Bs=>∃ b:Nat,v=.tuple #[.pointer (some ⟨b,0,none⟩),.int .i64 0]∧Bs=[B6 b C (GP C id recs)]):=by
 intro w0 F0 H
 obtain ⟨A1,c2,rfl,hc3,hm4,hp5⟩:=H.fR 0 rfl
 obtain ⟨A6,c7,rfl,hc8,hm9,hp10⟩:=H.fR 1 rfl
 obtain ⟨A11,c12,rfl,hc13,hm14,hp15⟩:=H.fR 2 rfl
 obtain ⟨A16,c17,rfl,hc18,hm19,hp20⟩:=H.fR 3 rfl
 obtain ⟨A21,c22,rfl,hc23,hm24,hp25⟩:=H.fR 4 rfl
 obtain ⟨A26,c27,rfl,hc28,hm29,hp30⟩:=H.fR 5 rfl
 have hus:=hJ.us
 have hpt:=hJ.parts
 refine enter Tryz.func77 U U (Nat.le_of_ble_eq_true U) (Aa (Ae (CZ U U U U H (fun b31 w H=>(Ah 2 U (Ab (Z ?_)))))))
 replace H:Hd _ _ _ [blk b31 [.slice A1 C.J.us.length c2,.int .i64 C.J.parts,.slice A6 C.J.map.length c7,.slice A11 C.J.comb.length c12,.slice A16 C.J.red.length c17,.int .i64 C.J.chunk,.int .i64 C.J.window,.int .i64 C.J.fuel,.slice A21 C.J.marks.length c22,.int .i64 C.w,.int .i64 C.t,.int .i64 C.o] 28] [Ac (At Ag) (.slice A1 C.J.us.length c2) C.J.us,Ac Af (.slice A6 C.J.map.length c7) C.J.map,Ac Af (.slice A11 C.J.comb.length c12) C.J.comb,Ac Af (.slice A16 C.J.red.length c17) C.J.red,Ac (Ai .i64) (.slice A21 C.J.marks.length c22) C.J.marks,Ac BL (.slice A26 recs.length c27) recs]:=H
 refine Aa (Aa (Ae (V U U (BG (cs:=[.slice A1 C.J.us.length c2,.int .i64 C.J.parts,.slice A6 C.J.map.length c7,.slice A11 C.J.comb.length c12,.slice A16 C.J.red.length c17,.int .i64 C.J.chunk,.int .i64 C.J.window,.int .i64 C.J.fuel,.slice A21 C.J.marks.length c22,.int .i64 C.w,.int .i64 C.t,.int .i64 C.o]) U EH U U (H.cellsI 0 U U)) (sc (KT (.slice A1 C.J.us.length c2) (.slice A6 C.J.map.length c7) (.slice A11 C.J.comb.length c12) (.slice A16 C.J.red.length c17) (.slice A21 C.J.marks.length c22) C) H (lR 0 U (lR 1 U (lR 2 U (lR 3 U (lR 4 U l0))))) U U (Av KM U U) ?_))))
 rintro _ _ w ⟨rfl,rfl⟩ H
 refine V U U (D4 U U) (Ad U ?_)
 refine AQ (d:=15) U (fun h32=>?_) (fun h32=>?_)
 ·exact (h32 hC).elim
 refine Ad U (V U U (Br U U U) (Ah 2 U ?_))
 refine AQ (d:=19) U (fun h33=>?_) (fun h33=>?_)
 ·exfalso;omega
 refine Ad U (V U U (Aj U Jy U) (V U U (Am U AE U (H.cellI 0 U U)) (V U U (CH U U U) (Ad U (Ab (Z ?_))))))
 replace H:Hd _ _ _ [blk b31 [.slice A1 C.J.us.length c2,.int .i64 C.J.parts,.slice A6 C.J.map.length c7,.slice A11 C.J.comb.length c12,.slice A16 C.J.red.length c17,.int .i64 C.J.chunk,.int .i64 C.J.window,.int .i64 C.J.fuel,.slice A21 C.J.marks.length c22,.int .i64 C.w,.int .i64 C.t,.int .i64 C.o] 28] [Ac (At Ag) (.slice A1 C.J.us.length c2) C.J.us,Ac Af (.slice A6 C.J.map.length c7) C.J.map,Ac Af (.slice A11 C.J.comb.length c12) C.J.comb,Ac Af (.slice A16 C.J.red.length c17) C.J.red,Ac (Ai .i64) (.slice A21 C.J.marks.length c22) C.J.marks,Ac BL (.slice A26 recs.length c27) recs]:=H
 refine AC U (fun h34=>?_) (fun h34=>?_)
 ·exfalso;omega
 refine Az (Z (Aa (Ae (V U U (BG (cs:=[.slice A1 C.J.us.length c2,.int .i64 C.J.parts,.slice A6 C.J.map.length c7,.slice A11 C.J.comb.length c12,.slice A16 C.J.red.length c17,.int .i64 C.J.chunk,.int .i64 C.J.window,.int .i64 C.J.fuel,.slice A21 C.J.marks.length c22,.int .i64 C.w,.int .i64 C.t,.int .i64 C.o]) U EH U U (H.cellsI 0 U U)) (sc (Nb (.slice A1 C.J.us.length c2) (.slice A6 C.J.map.length c7) (.slice A11 C.J.comb.length c12) (.slice A16 C.J.red.length c17) (.slice A21 C.J.marks.length c22) C (by first |assumption|omega|exact hO2|exact ⟨hhm,by omega⟩|(unfold AG;omega))) H (lR 0 U (lR 1 U (lR 2 U (lR 3 U (lR 4 U l0))))) U U (Av MJ U U) ?_)))))
 rintro _ _ w ⟨J35,vS36,vM37,vC38,vR39,vK40,rfl,rfl,hf41⟩ H
 have hsj:=hf41
 have hlen2:=hsj.len
 have hO2:C4 J35:=hsj.symm.ok hJ
 have hC2:Dq (Bp J35 C):=(Hk hsj).symm.may hC
 refine SH Cr U U U H (fun b42 w H=>?_)
 obtain ⟨A43,c44,rfl,hc45,hm46,hp47⟩:=H.fA 1 rfl
 obtain ⟨A48,c49,rfl,hc50,hm51,hp52⟩:=H.fA 2 rfl
 obtain ⟨A53,c54,rfl,hc55,hm56,hp57⟩:=H.fA 3 rfl
 obtain ⟨A58,c59,rfl,hc60,hm61,hp62⟩:=H.fA 4 rfl
 obtain ⟨A63,c64,rfl,hc65,hm66,hp67⟩:=H.fA 5 rfl
 refine V U U (Dl (parts:=[(0,.tmp 26),(1,.const (.int .i64 1)),(3,.tmp 27)]) (vs:=[.agg #[.slice A43 J35.us.length c44,.int .i64 J35.parts,.slice A48 J35.map.length c49,.slice A53 J35.comb.length c54,.slice A58 J35.red.length c59,.int .i64 J35.chunk,.int .i64 J35.window,.int .i64 J35.fuel,.slice A63 J35.marks.length c64,.int .i64 C.w,.int .i64 C.t,.int .i64 C.o],.int .i64 1,.map (some b42)]) (cs:=[.slice A43 J35.us.length c44,.int .i64 J35.parts,.slice A48 J35.map.length c49,.slice A53 J35.comb.length c54,.slice A58 J35.red.length c59,.int .i64 J35.chunk,.int .i64 J35.window,.int .i64 J35.fuel,.slice A63 J35.marks.length c64,.int .i64 C.w,.int .i64 C.t,.int .i64 C.o,.int .i64 1,.slice none 0 0,.map (some b42),.slice none 0 0,.int .u32 0]) U TE U U) (CZ U U U U H (fun b68 w H=>(Ad U (Ab (Z ?_)))))
 replace H:Hd _ _ _ [blk b68 [.slice A43 J35.us.length c44,.int .i64 J35.parts,.slice A48 J35.map.length c49,.slice A53 J35.comb.length c54,.slice A58 J35.red.length c59,.int .i64 J35.chunk,.int .i64 J35.window,.int .i64 J35.fuel,.slice A63 J35.marks.length c64,.int .i64 C.w,.int .i64 C.t,.int .i64 C.o,.int .i64 1,.slice none 0 0,.map (some b42),.slice none 0 0,.int .u32 0] 103,B8 Cr b42 [],Y (At Ag) (.slice A43 J35.us.length c44) J35.us,Y Af (.slice A48 J35.map.length c49) J35.map,Y Af (.slice A53 J35.comb.length c54) J35.comb,Y Af (.slice A58 J35.red.length c59) J35.red,Y (Ai .i64) (.slice A63 J35.marks.length c64) J35.marks,blk b31 [.slice A1 C.J.us.length c2,.int .i64 C.J.parts,.slice A6 C.J.map.length c7,.slice A11 C.J.comb.length c12,.slice A16 C.J.red.length c17,.int .i64 C.J.chunk,.int .i64 C.J.window,.int .i64 C.J.fuel,.slice A21 C.J.marks.length c22,.int .i64 C.w,.int .i64 C.t,.int .i64 C.o] 28] [Ac (At Ag) (.slice A1 C.J.us.length c2) C.J.us,Ac Af (.slice A6 C.J.map.length c7) C.J.map,Ac Af (.slice A11 C.J.comb.length c12) C.J.comb,Ac Af (.slice A16 C.J.red.length c17) C.J.red,Ac (Ai .i64) (.slice A21 C.J.marks.length c22) C.J.marks,Ac BL (.slice A26 recs.length c27) recs]:=H
 refine Aa (Aa (Ae (Ad U (V U U (Bj U LK U) (Ad U (Ab (Z (AW ?_))))))))
 replace H:=H.p7
 refine B1 (σ:=Nat) (fun k=>[(1,.int .i64 id),(2,.slice A26 recs.length c27),(3,.pointer (some ⟨b31,0,none⟩)),(6,.pointer none),(7,.int .i64 0),(8,.pointer (some ⟨b68,0,none⟩)),(30,.slice A26 recs.length c27),(31,.int .i64 ((recs.length:Nat):Int)),(32,.int .i64 ((k:Nat):Int))]) (fun k w=>(Hd w0 F0 w [blk b31 [.slice A1 C.J.us.length c2,.int .i64 C.J.parts,.slice A6 C.J.map.length c7,.slice A11 C.J.comb.length c12,.slice A16 C.J.red.length c17,.int .i64 C.J.chunk,.int .i64 C.J.window,.int .i64 C.J.fuel,.slice A21 C.J.marks.length c22,.int .i64 C.w,.int .i64 C.t,.int .i64 C.o] 28,blk b68 [.slice A43 J35.us.length c44,.int .i64 J35.parts,.slice A48 J35.map.length c49,.slice A53 J35.comb.length c54,.slice A58 J35.red.length c59,.int .i64 J35.chunk,.int .i64 J35.window,.int .i64 J35.fuel,.slice A63 J35.marks.length c64,.int .i64 C.w,.int .i64 C.t,.int .i64 C.o,.int .i64 ((1+cnt CR (recs.take k):Nat):Int),.slice none 0 0,.map (some b42),.slice none 0 0,.int .u32 0] 103,B8 Cr b42 [],Y (At Ag) (.slice A43 J35.us.length c44) J35.us,Y Af (.slice A48 J35.map.length c49) J35.map,Y Af (.slice A53 J35.comb.length c54) J35.comb,Y Af (.slice A58 J35.red.length c59) J35.red,Y (Ai .i64) (.slice A63 J35.marks.length c64) J35.marks] [Ac (At Ag) (.slice A1 C.J.us.length c2) C.J.us,Ac Af (.slice A6 C.J.map.length c7) C.J.map,Ac Af (.slice A11 C.J.comb.length c12) C.J.comb,Ac Af (.slice A16 C.J.red.length c17) C.J.red,Ac (Ai .i64) (.slice A21 C.J.marks.length c22) C.J.marks,Ac BL (.slice A26 recs.length c27) recs])∧(k≤recs.length)) (fun k=>recs.length - k) 0 ⟨rfl,rfl,rfl,rfl,rfl,rfl,rfl,rfl,rfl,trivial⟩ ⟨H,Nat.zero_le _⟩ ?_
 rintro k w ⟨H,hk⟩
 have hcl9:=OR CR (recs.take k)
 rw [List.length_take] at hcl9
 refine Aa (Ae (V U U (Br U U U) (Ab (Z (Aa ?_)))))
 refine AC U (fun h69=>?_) (fun h69=>?_)
 ·refine Az (Z (Aa (AW (Aa (Ae ?_)))))
  obtain ⟨⟨a72,a73,a74,a75,a76,sv77,se78,pv79,pr80⟩,hx71⟩:∃ z9,recs[k]?=some z9:=⟨_,List.getElem?_eq_getElem (show k<recs.length by omega)⟩
  obtain ⟨A81,c82,A83,c84,rfl,rfl,m85,m86,m87,m88⟩:=H.nestRr 5 rfl hx71
  have th89:=H.thRr 5 rfl hx71
  refine V U U (Bi (p:=Ba A26+k*7) U I8 U U (by omega) (by omega) th89 U) (V U U (BG (cs:=[.int .i64 a72,.int .i64 a73,.int .i64 a74,.int .i64 a75,.int .i64 a76,.slice A81 se78.length c82,.slice A83 pr80.length c84]) U E9 U U (H.elsRr 5 U hx71 U)) (DD U U U Hr H (fun b90 w H=>(Bx U U U E9 U U H U (Nat.le_of_ble_eq_true U) (fun u hu=>by simp [Value.cells] at hu;rcases hu with rfl|rfl|rfl|rfl|rfl|rfl|rfl<;>rfl) (fun w H=>?_)))))
  replace H:Hd _ _ _ [blk b90 [.int .i64 a72,.int .i64 a73,.int .i64 a74,.int .i64 a75,.int .i64 a76,.slice A81 se78.length c82,.slice A83 pr80.length c84] 69,blk b31 [.slice A1 C.J.us.length c2,.int .i64 C.J.parts,.slice A6 C.J.map.length c7,.slice A11 C.J.comb.length c12,.slice A16 C.J.red.length c17,.int .i64 C.J.chunk,.int .i64 C.J.window,.int .i64 C.J.fuel,.slice A21 C.J.marks.length c22,.int .i64 C.w,.int .i64 C.t,.int .i64 C.o] 28,blk b68 [.slice A43 J35.us.length c44,.int .i64 J35.parts,.slice A48 J35.map.length c49,.slice A53 J35.comb.length c54,.slice A58 J35.red.length c59,.int .i64 J35.chunk,.int .i64 J35.window,.int .i64 J35.fuel,.slice A63 J35.marks.length c64,.int .i64 C.w,.int .i64 C.t,.int .i64 C.o,.int .i64 ((1+cnt CR (recs.take k):Nat):Int),.slice none 0 0,.map (some b42),.slice none 0 0,.int .u32 0] 103,B8 Cr b42 [],Y (At Ag) (.slice A43 J35.us.length c44) J35.us,Y Af (.slice A48 J35.map.length c49) J35.map,Y Af (.slice A53 J35.comb.length c54) J35.comb,Y Af (.slice A58 J35.red.length c59) J35.red,Y (Ai .i64) (.slice A63 J35.marks.length c64) J35.marks] [Ac (At Ag) (.slice A1 C.J.us.length c2) C.J.us,Ac Af (.slice A6 C.J.map.length c7) C.J.map,Ac Af (.slice A11 C.J.comb.length c12) C.J.comb,Ac Af (.slice A16 C.J.red.length c17) C.J.red,Ac (Ai .i64) (.slice A21 C.J.marks.length c22) C.J.marks,Ac BL (.slice A26 recs.length c27) recs]:=H
  refine Ab (Z (Aa (Ae (V U U (Aj U Ec U) (V U U (Am U AE U (H.cellI 0 U U)) (V U U (Bh U U U) (Ab (Z ?_))))))))
  refine AC U (fun h91=>?_) (fun h91=>?_)
  ·refine Ae (Ad U (V U U (AJ U U) (V U U (Aj U KB U) (V U U (Am U AE U (H.cellI 2 U U)) (V U U (Bc (z:=((1+cnt CR (recs.take k)+1:Nat):Int)) U U U (by rw [AI (by omega) (by omega)];omega)) (V U U (AJ U U) (V U U (Aj U KB U) ?_)))))))
   replace H:=H.p2
   refine Bx U U U AE U U H U (Nat.le_of_ble_eq_true U) (fun u hu=>by simp [Value.cells] at hu;subst hu;rfl) (fun w H=>?_)
   replace H:=H.h1 (A:=blk b68 [.slice A43 J35.us.length c44,.int .i64 J35.parts,.slice A48 J35.map.length c49,.slice A53 J35.comb.length c54,.slice A58 J35.red.length c59,.int .i64 J35.chunk,.int .i64 J35.window,.int .i64 J35.fuel,.slice A63 J35.marks.length c64,.int .i64 C.w,.int .i64 C.t,.int .i64 C.o,.int .i64 ((1+cnt CR (recs.take k)+1:Nat):Int),.slice none 0 0,.map (some b42),.slice none 0 0,.int .u32 0] 103)
   refine Ab (Bb (Z (Ae (V U U (Bc (z:=((k+1:Nat):Int)) U U U (by rw [AI (by omega) (by omega)];omega)) (Ad U (Ab ?_))))))
   replace H:=H.p8.p8.p8.p8.p8.p8.p6.p8.k8
   have hc9:cnt CR (recs.take (k+1))=cnt CR (recs.take k)+1:=by rw [OT hx71,if_pos (show CR (⟨a72,a73,a74,a75,a76,.slice A81 se78.length c82,se78,.slice A83 pr80.length c84,pr80⟩:AY)=true from decide_eq_true h91)]
   replace H:Hd w0 F0 w [blk b31 [.slice A1 C.J.us.length c2,.int .i64 C.J.parts,.slice A6 C.J.map.length c7,.slice A11 C.J.comb.length c12,.slice A16 C.J.red.length c17,.int .i64 C.J.chunk,.int .i64 C.J.window,.int .i64 C.J.fuel,.slice A21 C.J.marks.length c22,.int .i64 C.w,.int .i64 C.t,.int .i64 C.o] 28,blk b68 [.slice A43 J35.us.length c44,.int .i64 J35.parts,.slice A48 J35.map.length c49,.slice A53 J35.comb.length c54,.slice A58 J35.red.length c59,.int .i64 J35.chunk,.int .i64 J35.window,.int .i64 J35.fuel,.slice A63 J35.marks.length c64,.int .i64 C.w,.int .i64 C.t,.int .i64 C.o,.int .i64 ((1+cnt CR (recs.take (k+1)):Nat):Int),.slice none 0 0,.map (some b42),.slice none 0 0,.int .u32 0] 103,B8 Cr b42 [],Y (At Ag) (.slice A43 J35.us.length c44) J35.us,Y Af (.slice A48 J35.map.length c49) J35.map,Y Af (.slice A53 J35.comb.length c54) J35.comb,Y Af (.slice A58 J35.red.length c59) J35.red,Y (Ai .i64) (.slice A63 J35.marks.length c64) J35.marks] [Ac (At Ag) (.slice A1 C.J.us.length c2) C.J.us,Ac Af (.slice A6 C.J.map.length c7) C.J.map,Ac Af (.slice A11 C.J.comb.length c12) C.J.comb,Ac Af (.slice A16 C.J.red.length c17) C.J.red,Ac (Ai .i64) (.slice A21 C.J.marks.length c22) C.J.marks,Ac BL (.slice A26 recs.length c27) recs]:=by rw [hc9];exact H
   exact Bo (s:=k) (k+1) ⟨rfl,rfl,rfl,rfl,rfl,rfl,rfl,rfl,rfl,trivial⟩ ⟨H,by (try dsimp only);omega⟩ (by (try dsimp only);omega)
  refine Az (Bb (Z (Ae (V U U (Bc (z:=((k+1:Nat):Int)) U U U (by rw [AI (by omega) (by omega)];omega)) (Ad U (Ab ?_))))))
  replace H:=H.p8.p8.p8.p8.p8.p8.p8.p8.k8
  have hc9:cnt CR (recs.take (k+1))=cnt CR (recs.take k)+0:=by rw [OT hx71,if_neg (by rw [show CR (⟨a72,a73,a74,a75,a76,.slice A81 se78.length c82,se78,.slice A83 pr80.length c84,pr80⟩:AY)=false from decide_eq_false h91];decide)]
  replace H:Hd w0 F0 w [blk b31 [.slice A1 C.J.us.length c2,.int .i64 C.J.parts,.slice A6 C.J.map.length c7,.slice A11 C.J.comb.length c12,.slice A16 C.J.red.length c17,.int .i64 C.J.chunk,.int .i64 C.J.window,.int .i64 C.J.fuel,.slice A21 C.J.marks.length c22,.int .i64 C.w,.int .i64 C.t,.int .i64 C.o] 28,blk b68 [.slice A43 J35.us.length c44,.int .i64 J35.parts,.slice A48 J35.map.length c49,.slice A53 J35.comb.length c54,.slice A58 J35.red.length c59,.int .i64 J35.chunk,.int .i64 J35.window,.int .i64 J35.fuel,.slice A63 J35.marks.length c64,.int .i64 C.w,.int .i64 C.t,.int .i64 C.o,.int .i64 ((1+cnt CR (recs.take (k+1)):Nat):Int),.slice none 0 0,.map (some b42),.slice none 0 0,.int .u32 0] 103,B8 Cr b42 [],Y (At Ag) (.slice A43 J35.us.length c44) J35.us,Y Af (.slice A48 J35.map.length c49) J35.map,Y Af (.slice A53 J35.comb.length c54) J35.comb,Y Af (.slice A58 J35.red.length c59) J35.red,Y (Ai .i64) (.slice A63 J35.marks.length c64) J35.marks] [Ac (At Ag) (.slice A1 C.J.us.length c2) C.J.us,Ac Af (.slice A6 C.J.map.length c7) C.J.map,Ac Af (.slice A11 C.J.comb.length c12) C.J.comb,Ac Af (.slice A16 C.J.red.length c17) C.J.red,Ac (Ai .i64) (.slice A21 C.J.marks.length c22) C.J.marks,Ac BL (.slice A26 recs.length c27) recs]:=by rw [hc9];exact H
  exact Bo (s:=k) (k+1) ⟨rfl,rfl,rfl,rfl,rfl,rfl,rfl,rfl,rfl,trivial⟩ ⟨H,by (try dsimp only);omega⟩ (by (try dsimp only);omega)
 refine BQ (AV (AV (BS (Z (Aa (Aa (Ae (V U U (Aj U DL U) (V U U (Aj U Jv U) (V U U (Am U AE U (H.cellI 0 U U)) (Ad U (Ab (Z (AW ?_))))))))))))))
 replace H:Hd w0 F0 w [blk b31 [.slice A1 C.J.us.length c2,.int .i64 C.J.parts,.slice A6 C.J.map.length c7,.slice A11 C.J.comb.length c12,.slice A16 C.J.red.length c17,.int .i64 C.J.chunk,.int .i64 C.J.window,.int .i64 C.J.fuel,.slice A21 C.J.marks.length c22,.int .i64 C.w,.int .i64 C.t,.int .i64 C.o] 28,blk b68 [.slice A43 J35.us.length c44,.int .i64 J35.parts,.slice A48 J35.map.length c49,.slice A53 J35.comb.length c54,.slice A58 J35.red.length c59,.int .i64 J35.chunk,.int .i64 J35.window,.int .i64 J35.fuel,.slice A63 J35.marks.length c64,.int .i64 C.w,.int .i64 C.t,.int .i64 C.o,.int .i64 ((1+cnt CR recs:Nat):Int),.slice none 0 0,.map (some b42),.slice none 0 0,.int .u32 0] 103,B8 Cr b42 [],Y (At Ag) (.slice A43 J35.us.length c44) J35.us,Y Af (.slice A48 J35.map.length c49) J35.map,Y Af (.slice A53 J35.comb.length c54) J35.comb,Y Af (.slice A58 J35.red.length c59) J35.red,Y (Ai .i64) (.slice A63 J35.marks.length c64) J35.marks] [Ac (At Ag) (.slice A1 C.J.us.length c2) C.J.us,Ac Af (.slice A6 C.J.map.length c7) C.J.map,Ac Af (.slice A11 C.J.comb.length c12) C.J.comb,Ac Af (.slice A16 C.J.red.length c17) C.J.red,Ac (Ai .i64) (.slice A21 C.J.marks.length c22) C.J.marks,Ac BL (.slice A26 recs.length c27) recs]:=by rw [List.take_of_length_le (l:=recs) (by omega)] at H;exact H
 have hcl9:=OR CR recs
 replace H:=H.newnil (Ai .i64)
 replace H:=Hd.big0 (fun e:Nat×AX=>Gx e.1 C e.2) H
 replace H:=H.h5 (A:=CS C ([]:List (Nat×AX))) (B:=Y (Ai .i64) (.slice none 0 0) (([]:List (Nat×AX)).map Bw)) (E:=B8 Cr b42 (([]:List (Nat×AX)).map CB))|>.p9|>.p9|>.p9|>.p9|>.p9|>.p9|>.p9|>.p9
 refine B1 (σ:=Nat×Value×List (Nat×AX)) (fun (p,q,rl)=>[(1,.int .i64 id),(2,.slice A26 recs.length c27),(3,.pointer (some ⟨b31,0,none⟩)),(6,.pointer none),(7,.int .i64 0),(8,.pointer (some ⟨b68,0,none⟩)),(49,.int .i64 C.J.parts),(50,.int .i64 ((p:Nat):Int))]) (fun (p,q,rl) w=>(Hd w0 F0 w [blk b31 [.slice A1 C.J.us.length c2,.int .i64 C.J.parts,.slice A6 C.J.map.length c7,.slice A11 C.J.comb.length c12,.slice A16 C.J.red.length c17,.int .i64 C.J.chunk,.int .i64 C.J.window,.int .i64 C.J.fuel,.slice A21 C.J.marks.length c22,.int .i64 C.w,.int .i64 C.t,.int .i64 C.o] 28,blk b68 [.slice A43 J35.us.length c44,.int .i64 J35.parts,.slice A48 J35.map.length c49,.slice A53 J35.comb.length c54,.slice A58 J35.red.length c59,.int .i64 J35.chunk,.int .i64 J35.window,.int .i64 J35.fuel,.slice A63 J35.marks.length c64,.int .i64 C.w,.int .i64 C.t,.int .i64 C.o,.int .i64 ((1+cnt CR recs:Nat):Int),q,.map (some b42),.slice none 0 0,.int .u32 0] 103,B8 Cr b42 (rl.map CB),Y (At Ag) (.slice A43 J35.us.length c44) J35.us,Y Af (.slice A48 J35.map.length c49) J35.map,Y Af (.slice A53 J35.comb.length c54) J35.comb,Y Af (.slice A58 J35.red.length c59) J35.red,Y (Ai .i64) (.slice A63 J35.marks.length c64) J35.marks,CS C rl,Y (Ai .i64) q (rl.map Bw)] [Ac (At Ag) (.slice A1 C.J.us.length c2) C.J.us,Ac Af (.slice A6 C.J.map.length c7) C.J.map,Ac Af (.slice A11 C.J.comb.length c12) C.J.comb,Ac Af (.slice A16 C.J.red.length c17) C.J.red,Ac (Ai .i64) (.slice A21 C.J.marks.length c22) C.J.marks,Ac BL (.slice A26 recs.length c27) recs])∧((p:Int)≤C.J.parts)∧(rl.map Prod.snd=Ez C id recs p)) (fun (p,q,rl)=>C.J.parts.toNat - p) (0,.slice none 0 0,[]) ⟨rfl,rfl,rfl,rfl,rfl,rfl,rfl,rfl,trivial⟩ ⟨H,by (try dsimp only);omega,rfl⟩ ?_
 rintro ⟨p,q,rl⟩ w ⟨H,hp,hrl2⟩
 have hpt4:=hJ.parts
 have hrn:rl.length≤p:=by rw [←List.length_map (f:=Prod.snd),hrl2];exact bL _ _ _ _
 have hrk:(rl.map Bw).length=rl.length:=List.length_map ..
 refine Aa (Ae (V U U (Br U U U) (Ab (Z (Aa ?_)))))
 refine AC U (fun h92=>?_) (fun h92=>?_)
 ·refine Az (Z (Aa (AW (Aa (Ae (Ah 2 U (Ab (Z (Aa ?_)))))))))
  have hp64:AG ((p:Nat):Int):=by unfold AG;omega
  refine Ae (V U U (BG (cs:=[.slice A1 C.J.us.length c2,.int .i64 C.J.parts,.slice A6 C.J.map.length c7,.slice A11 C.J.comb.length c12,.slice A16 C.J.red.length c17,.int .i64 C.J.chunk,.int .i64 C.J.window,.int .i64 C.J.fuel,.slice A21 C.J.marks.length c22,.int .i64 C.w,.int .i64 C.t,.int .i64 C.o]) U EH U U (H.cellsI 0 U U)) (Ad U (sc (Mx (.slice A1 C.J.us.length c2) (.slice A6 C.J.map.length c7) (.slice A11 C.J.comb.length c12) (.slice A16 C.J.red.length c17) (.slice A21 C.J.marks.length c22) C ((p:Nat):Int) (by first |assumption|omega|exact hO2|exact ⟨hhm,by omega⟩|(unfold AG;omega))) H (lR 0 U (lR 1 U (lR 2 U (lR 3 U (lR 4 U l0))))) U U (Av MD U U) ?_)))
  rintro _ _ w ⟨rfl,rfl⟩ H
  replace H:=H.h10 (B:=blk b68 [.slice A43 J35.us.length c44,.int .i64 J35.parts,.slice A48 J35.map.length c49,.slice A53 J35.comb.length c54,.slice A58 J35.red.length c59,.int .i64 J35.chunk,.int .i64 J35.window,.int .i64 J35.fuel,.slice A63 J35.marks.length c64,.int .i64 C.w,.int .i64 C.t,.int .i64 C.o,.int .i64 ((1+cnt CR recs:Nat):Int),q,.map (some b42),.slice none 0 0,.int .u32 0] 103) (C:=B8 Cr b42 (rl.map CB)) (J:=CS C rl) (K:=Y (Ai .i64) q (rl.map Bw))
  refine Ad U (V U U (Bh U U U) (Ab (Z ?_)))
  refine AC U (fun h93=>?_) (fun h93=>?_)
  ·refine Aa (Ae (Ah 2 U (V U U (AJ U U) (V U U (Aj U Mf U) (V U U (Am U DY U (H.cellI 1 U U)) (Ad U (Cg (parts:=[(0,.tmp 63)]) (vs:=[.int .i64 ((p:Nat):Int)]) (cs:=[.int .i64 ((p:Nat):Int)]) U U U DE Fa U (by decide) (by decide) U U H (fun b94 w H=>?_))))))))
   replace H:=H.pick 10 rfl
   refine CE (xs:=rl.map Bw) (ys:=[((p:Nat):Int)]) U U U DE Fa U (by decide) U U H (by first |omega|(simp only [List.length_append,List.length_cons,List.length_nil,List.length_map];omega)) (fun F hA hR=>CC (hA _ (List.mem_of_getElem? (i:=0) U)) U (by decide) (Be.flat_eq.2 U)) (fun v95 w H=>(V U U (AJ U U) (V U U (Aj U Mf U) ?_)))
   obtain ⟨A96,c97,rfl,hc98,hm99,hp100⟩:=H.fA 0 rfl
   replace H:=H.p3
   refine Bx U U U DY U U H U (Nat.le_of_ble_eq_true U) (fun u hu=>by simp [Value.cells] at hu;subst hu;rfl) (fun w H=>?_)
   replace H:Hd _ _ _ [blk b68 [.slice A43 J35.us.length c44,.int .i64 J35.parts,.slice A48 J35.map.length c49,.slice A53 J35.comb.length c54,.slice A58 J35.red.length c59,.int .i64 J35.chunk,.int .i64 J35.window,.int .i64 J35.fuel,.slice A63 J35.marks.length c64,.int .i64 C.w,.int .i64 C.t,.int .i64 C.o,.int .i64 ((1+cnt CR recs:Nat):Int),.slice A96 (((rl.map Bw)++[((p:Nat):Int)]).length) c97,.map (some b42),.slice none 0 0,.int .u32 0] 103,Y (Ai .i64) (.slice A96 (((rl.map Bw)++[((p:Nat):Int)]).length) c97) ((rl.map Bw)++[((p:Nat):Int)]),blk b94 [.int .i64 ((p:Nat):Int)] 3,blk b31 [.slice A1 C.J.us.length c2,.int .i64 C.J.parts,.slice A6 C.J.map.length c7,.slice A11 C.J.comb.length c12,.slice A16 C.J.red.length c17,.int .i64 C.J.chunk,.int .i64 C.J.window,.int .i64 C.J.fuel,.slice A21 C.J.marks.length c22,.int .i64 C.w,.int .i64 C.t,.int .i64 C.o] 28,B8 Cr b42 (rl.map CB),Y (At Ag) (.slice A43 J35.us.length c44) J35.us,Y Af (.slice A48 J35.map.length c49) J35.map,Y Af (.slice A53 J35.comb.length c54) J35.comb,Y Af (.slice A58 J35.red.length c59) J35.red,Y (Ai .i64) (.slice A63 J35.marks.length c64) J35.marks,CS C rl] [Ac (At Ag) (.slice A1 C.J.us.length c2) C.J.us,Ac Af (.slice A6 C.J.map.length c7) C.J.map,Ac Af (.slice A11 C.J.comb.length c12) C.J.comb,Ac Af (.slice A16 C.J.red.length c17) C.J.red,Ac (Ai .i64) (.slice A21 C.J.marks.length c22) C.J.marks,Ac BL (.slice A26 recs.length c27) recs]:=H
   refine Ab (Z ?_)
   have hhm:DV (Bp J35 C) ((p:Nat):Int)≠0:=by rw [(Hk hsj).home,h93];omega
   have he64:AG ((1+cnt CR recs:Nat):Int):=by unfold AG;omega
   replace H:=H.pick 10 rfl|>.pick 10 rfl|>.pick 10 rfl|>.pick 10 rfl|>.pick 10 rfl|>.pick 10 rfl|>.p9|>.p9|>.p9|>.p9
   refine Ce (.e 0 (.e 1 (.e 2 (.e 3 (.e 4 (.e 5 (.e 6 (.e 7 (.e 8 (.e 9 (.e 10 (.e 11 (.e 12 (.e 13 (.e 14 (.m 15 (.e 16 (.e 17 (.e 18 (.m 19 .z)))))))))))))))))))) (fun w=>∃ Ar,Hd w0 F0 w (blk b68 [.slice A43 J35.us.length c44,.int .i64 J35.parts,.slice A48 J35.map.length c49,.slice A53 J35.comb.length c54,.slice A58 J35.red.length c59,.int .i64 J35.chunk,.int .i64 J35.window,.int .i64 J35.fuel,.slice A63 J35.marks.length c64,.int .i64 C.w,.int .i64 C.t,.int .i64 C.o,.int .i64 ((1+cnt CR recs:Nat):Int),.slice A96 (((rl.map Bw)++[((p:Nat):Int)]).length) c97,.map (some b42),.slice none 0 0,.int .u32 0] 103::Y (Ai .i64) (.slice A96 (((rl.map Bw)++[((p:Nat):Int)]).length) c97) ((rl.map Bw)++[((p:Nat):Int)])::blk b94 [.int .i64 ((p:Nat):Int)] 3::blk b31 [.slice A1 C.J.us.length c2,.int .i64 C.J.parts,.slice A6 C.J.map.length c7,.slice A11 C.J.comb.length c12,.slice A16 C.J.red.length c17,.int .i64 C.J.chunk,.int .i64 C.J.window,.int .i64 C.J.fuel,.slice A21 C.J.marks.length c22,.int .i64 C.w,.int .i64 C.t,.int .i64 C.o] 28::Y (At Ag) (.slice A43 J35.us.length c44) J35.us::Y Af (.slice A48 J35.map.length c49) J35.map::Y Af (.slice A53 J35.comb.length c54) J35.comb::Y Af (.slice A58 J35.red.length c59) J35.red::Y (Ai .i64) (.slice A63 J35.marks.length c64) J35.marks::CS C rl::Ar) [Ac (At Ag) (.slice A1 C.J.us.length c2) C.J.us,Ac Af (.slice A6 C.J.map.length c7) C.J.map,Ac Af (.slice A11 C.J.comb.length c12) C.J.comb,Ac Af (.slice A16 C.J.red.length c17) C.J.red,Ac (Ai .i64) (.slice A21 C.J.marks.length c22) C.J.marks,Ac BL (.slice A26 recs.length c27) recs]) mo (by kernel_rfl) (fun w H=>⟨_,H⟩) H (fun w H=>?_)
   refine Au U (Ao U U U (fun w ⟨Ar,H⟩=>AJ U U) (Ao U U U (fun w ⟨Ar,H⟩=>Aj U Pr U) (Ao U U U (fun w ⟨Ar,H⟩=>Am U S6 U (H.cellI 0 U U)) (Au U (Au U (Ao U U U (fun w ⟨Ar,H⟩=>AJ U U) (Ao U U U (fun w ⟨Ar,H⟩=>Aj U Pq U) (Ao U U U (fun w ⟨Ar,H⟩=>BG (cs:=[.slice A43 J35.us.length c44,.int .i64 J35.parts,.slice A48 J35.map.length c49,.slice A53 J35.comb.length c54,.slice A58 J35.red.length c59,.int .i64 J35.chunk,.int .i64 J35.window,.int .i64 J35.fuel,.slice A63 J35.marks.length c64,.int .i64 C.w,.int .i64 C.t,.int .i64 C.o]) U EH U U (H.cellsI 0 U U)) (Au U (Au U (Ao U U U (fun w ⟨Ar,H⟩=>AJ U U) (Ao U U U (fun w ⟨Ar,H⟩=>Aj U KB U) (Ao U U U (fun w ⟨Ar,H⟩=>Am U AE U (H.cellI 0 U U)) ?_)))))))))))))
   refine Au U (AO U (sc (bJ (.slice A43 J35.us.length c44) (.slice A48 J35.map.length c49) (.slice A53 J35.comb.length c54) (.slice A58 J35.red.length c59) (.slice A63 J35.marks.length c64) (Bp J35 C) ((p:Nat):Int) ((1+cnt CR recs:Nat):Int) (.slice A26 recs.length c27) recs (by first |assumption|omega|exact hO2|exact ⟨hhm,by omega⟩|(unfold AG;omega)) (by first |assumption|omega|exact hO2|exact ⟨hhm,by omega⟩|(unfold AG;omega)) (by first |assumption|omega|exact hO2|exact ⟨hhm,by omega⟩|(unfold AG;omega)) (by first |assumption|omega|exact hO2|exact ⟨hhm,by omega⟩|(unfold AG;omega)) (by first |assumption|omega|exact hO2|exact ⟨hhm,by omega⟩|(unfold AG;omega)) (by first |assumption|omega|exact hO2|exact ⟨hhm,by omega⟩|(unfold AG;omega))) H (lA 4 U B2 (lA 5 U B2 (lA 6 U B2 (lA 7 U B2 (lA 8 U B2 (lR 5 U l0)))))) U U (Av WB U U) ?_))
   rintro _ _ w ⟨r101,vS102,vM103,vC104,vR105,vK106,J107,hv108,sb109,vs110,us111,rfl,rfl,hf112,hf113⟩ H
   replace H:=H.h9 (A:=blk r101 (BJ vS102 vM103 vC104 vR105 vK106 J107 ((Bp J35 C).w) ((Bp J35 C).t) ((Bp J35 C).o) ((p:Nat):Int) ((1+cnt CR recs:Nat):Int) ((Db J107.us.length ((p:Nat):Int) ((1+cnt CR recs:Nat):Int) (recs.map AY.p)).g) hv108 sb109 vs110) 197) (B:=Y (At Ag) vS102 J107.us) (C:=Y Af vM103 J107.map) (D:=Y Af vC104 J107.comb) (E:=Y Af vR105 J107.red) (F:=Y (Ai .i64) vK106 J107.marks) (G:=B3 ((Db J107.us.length ((p:Nat):Int) ((1+cnt CR recs:Nat):Int) (recs.map AY.p)).g) hv108) (I:=Y (At (Ai .i64)) vs110 us111) (J:=CT 275 sb109 ([]))
   obtain ⟨R114,hR115⟩:∃ z:AX,z=Db J107.us.length ((p:Nat):Int) ((1+cnt CR recs:Nat):Int) (recs.map AY.p):=⟨_,rfl⟩
   rw [←hR115] at H hf113
   have hRp116:R114.part=((p:Nat):Int):=by rw [hR115];exact (JK _ _ _ _).1
   have hRe117:R114.ep=((1+cnt CR recs:Nat):Int):=by rw [hR115];exact (JK _ _ _ _).2.1
   have hRs118:R114.st=[]:=by rw [hR115];exact (JK _ _ _ _).2.2
   rw [show BJ vS102 vM103 vC104 vR105 vK106 J107 ((Bp J35 C).w) ((Bp J35 C).t) ((Bp J35 C).o) ((p:Nat):Int) ((1+cnt CR recs:Nat):Int) R114.g hv108 sb109 vs110=BJ vS102 vM103 vC104 vR105 vK106 J107 ((Bp J35 C).w) ((Bp J35 C).t) ((Bp J35 C).o) R114.part R114.ep R114.g hv108 sb109 vs110 from by rw [hRp116,hRe117],show CT 275 sb109 ([])=CT 275 sb109 (R114.st) from by rw [hRs118]] at H
   replace H:Hd _ _ _ [blk r101 (BJ vS102 vM103 vC104 vR105 vK106 J107 ((Bp J35 C).w) ((Bp J35 C).t) ((Bp J35 C).o) R114.part R114.ep R114.g hv108 sb109 vs110) 197,Y (At Ag) vS102 J107.us,Y Af vM103 J107.map,Y Af vC104 J107.comb,Y Af vR105 J107.red,Y (Ai .i64) vK106 J107.marks,B3 (R114.g) hv108,Y (At (Ai .i64)) vs110 us111,CT 275 sb109 (R114.st),blk b68 [.slice A43 J35.us.length c44,.int .i64 J35.parts,.slice A48 J35.map.length c49,.slice A53 J35.comb.length c54,.slice A58 J35.red.length c59,.int .i64 J35.chunk,.int .i64 J35.window,.int .i64 J35.fuel,.slice A63 J35.marks.length c64,.int .i64 C.w,.int .i64 C.t,.int .i64 C.o,.int .i64 ((1+cnt CR recs:Nat):Int),.slice A96 (((rl.map Bw)++[((p:Nat):Int)]).length) c97,.map (some b42),.slice none 0 0,.int .u32 0] 103,Y (Ai .i64) (.slice A96 (((rl.map Bw)++[((p:Nat):Int)]).length) c97) ((rl.map Bw)++[((p:Nat):Int)]),blk b94 [.int .i64 ((p:Nat):Int)] 3,blk b31 [.slice A1 C.J.us.length c2,.int .i64 C.J.parts,.slice A6 C.J.map.length c7,.slice A11 C.J.comb.length c12,.slice A16 C.J.red.length c17,.int .i64 C.J.chunk,.int .i64 C.J.window,.int .i64 C.J.fuel,.slice A21 C.J.marks.length c22,.int .i64 C.w,.int .i64 C.t,.int .i64 C.o] 28,Y (At Ag) (.slice A43 J35.us.length c44) J35.us,Y Af (.slice A48 J35.map.length c49) J35.map,Y Af (.slice A53 J35.comb.length c54) J35.comb,Y Af (.slice A58 J35.red.length c59) J35.red,Y (Ai .i64) (.slice A63 J35.marks.length c64) J35.marks,CS C rl,B8 Cr b42 (rl.map CB)] [Ac (At Ag) (.slice A1 C.J.us.length c2) C.J.us,Ac Af (.slice A6 C.J.map.length c7) C.J.map,Ac Af (.slice A11 C.J.comb.length c12) C.J.comb,Ac Af (.slice A16 C.J.red.length c17) C.J.red,Ac (Ai .i64) (.slice A21 C.J.marks.length c22) C.J.marks,Ac BL (.slice A26 recs.length c27) recs]:=H
   replace H:=So r101 vS102 vM103 vC104 vR105 vK106 J107 ((Bp J35 C).w) ((Bp J35 C).t) ((Bp J35 C).o) sb109 R114 hv108 vs110 us111 hf113 H
   replace H:=H.h1 (A:=EF r101 vS102 vM103 vC104 vR105 vK106 J107 ((Bp J35 C).w) ((Bp J35 C).t) ((Bp J35 C).o) sb109 R114)
   have hsj_R114:=hf112
   replace H:=H.pick 10 rfl|>.pick 10 rfl|>.pick 10 rfl|>.pick 10 rfl|>.pick 10 rfl|>.pick 10 rfl|>.pick 10 rfl|>.pick 10 rfl|>.pick 10 rfl|>.pick 10 rfl
   refine AH ⟨_,H⟩ (Au U (Au U (Au U (AO U ?_))))
   replace H:=H.pick 11 rfl
   refine cR Tq U U U Td U ((p:Nat):Int) U U H (fun w H=>?_)
   replace H:=H.h1 (A:=B8 Cr b42 (Hl ((p:Nat):Int) (.pointer (some ⟨r101,0,none⟩)) (rl.map CB)))
   rw [X4 hRp116 (bM hrl2)] at H
   replace H:Hd _ _ _ [B8 Cr b42 ((rl++[(r101,R114)]).map CB),blk b68 [.slice A43 J35.us.length c44,.int .i64 J35.parts,.slice A48 J35.map.length c49,.slice A53 J35.comb.length c54,.slice A58 J35.red.length c59,.int .i64 J35.chunk,.int .i64 J35.window,.int .i64 J35.fuel,.slice A63 J35.marks.length c64,.int .i64 C.w,.int .i64 C.t,.int .i64 C.o,.int .i64 ((1+cnt CR recs:Nat):Int),.slice A96 (((rl.map Bw)++[((p:Nat):Int)]).length) c97,.map (some b42),.slice none 0 0,.int .u32 0] 103,Y (Ai .i64) (.slice A96 (((rl.map Bw)++[((p:Nat):Int)]).length) c97) ((rl.map Bw)++[((p:Nat):Int)]),blk b94 [.int .i64 ((p:Nat):Int)] 3,blk b31 [.slice A1 C.J.us.length c2,.int .i64 C.J.parts,.slice A6 C.J.map.length c7,.slice A11 C.J.comb.length c12,.slice A16 C.J.red.length c17,.int .i64 C.J.chunk,.int .i64 C.J.window,.int .i64 C.J.fuel,.slice A21 C.J.marks.length c22,.int .i64 C.w,.int .i64 C.t,.int .i64 C.o] 28,Y (At Ag) (.slice A43 J35.us.length c44) J35.us,Y Af (.slice A48 J35.map.length c49) J35.map,Y Af (.slice A53 J35.comb.length c54) J35.comb,Y Af (.slice A58 J35.red.length c59) J35.red,Y (Ai .i64) (.slice A63 J35.marks.length c64) J35.marks,CS C rl,EF r101 vS102 vM103 vC104 vR105 vK106 J107 ((Bp J35 C).w) ((Bp J35 C).t) ((Bp J35 C).o) sb109 R114] [Ac (At Ag) (.slice A1 C.J.us.length c2) C.J.us,Ac Af (.slice A6 C.J.map.length c7) C.J.map,Ac Af (.slice A11 C.J.comb.length c12) C.J.comb,Ac Af (.slice A16 C.J.red.length c17) C.J.red,Ac (Ai .i64) (.slice A21 C.J.marks.length c22) C.J.marks,Ac BL (.slice A26 recs.length c27) recs]:=H
   replace H:=H.pick 10 rfl|>.pick 10 rfl|>.pick 10 rfl|>.pick 10 rfl|>.pick 10 rfl|>.pick 10 rfl|>.pick 10 rfl|>.pick 10 rfl|>.pick 10 rfl|>.pick 10 rfl
   refine AH ⟨_,H⟩ (BO (Bb (Z (Ae (V U U (Bc (z:=((p+1:Nat):Int)) U U U (by rw [AI (by omega) (by omega)];omega)) (Ad U (Ab ?_)))))))
   replace H:=H.p8.p8.p8.p8.p8.pick 10 rfl|>.p6|>.p9|>.pick 10 rfl|>.pick 11 rfl|>.keep 11
   have h3t:Bk J107 C.J:=hf112.trans hsj
   replace H:=Sn r101 C R114 vS102 vM103 vC104 vR105 vK106 J107 sb109 h3t H
   replace H:=Hd.bigN (f:=(fun e:Nat×AX=>Gx e.1 C e.2)) (x:=(r101,R114)) H
   replace H:=H.h1 (A:=CS C (rl++[(r101,R114)]))
   replace H:Hd w0 F0 w [CS C (rl++[(r101,R114)]),blk b31 [.slice A1 C.J.us.length c2,.int .i64 C.J.parts,.slice A6 C.J.map.length c7,.slice A11 C.J.comb.length c12,.slice A16 C.J.red.length c17,.int .i64 C.J.chunk,.int .i64 C.J.window,.int .i64 C.J.fuel,.slice A21 C.J.marks.length c22,.int .i64 C.w,.int .i64 C.t,.int .i64 C.o] 28,blk b68 [.slice A43 J35.us.length c44,.int .i64 J35.parts,.slice A48 J35.map.length c49,.slice A53 J35.comb.length c54,.slice A58 J35.red.length c59,.int .i64 J35.chunk,.int .i64 J35.window,.int .i64 J35.fuel,.slice A63 J35.marks.length c64,.int .i64 C.w,.int .i64 C.t,.int .i64 C.o,.int .i64 ((1+cnt CR recs:Nat):Int),.slice A96 (((rl.map Bw)++[((p:Nat):Int)]).length) c97,.map (some b42),.slice none 0 0,.int .u32 0] 103,B8 Cr b42 ((rl++[(r101,R114)]).map CB),Y (At Ag) (.slice A43 J35.us.length c44) J35.us,Y Af (.slice A48 J35.map.length c49) J35.map,Y Af (.slice A53 J35.comb.length c54) J35.comb,Y Af (.slice A58 J35.red.length c59) J35.red,Y (Ai .i64) (.slice A63 J35.marks.length c64) J35.marks,Y (Ai .i64) (.slice A96 (((rl.map Bw)++[((p:Nat):Int)]).length) c97) ((rl++[(r101,R114)]).map Bw)] [Ac (At Ag) (.slice A1 C.J.us.length c2) C.J.us,Ac Af (.slice A6 C.J.map.length c7) C.J.map,Ac Af (.slice A11 C.J.comb.length c12) C.J.comb,Ac Af (.slice A16 C.J.red.length c17) C.J.red,Ac (Ai .i64) (.slice A21 C.J.marks.length c22) C.J.marks,Ac BL (.slice A26 recs.length c27) recs]:=by rw [List.map_append (f:=Bw),show [(r101,R114)].map Bw=[((p:Nat):Int)] from by show [R114.part]=_;rw [hRp116]];exact H
   have hrl3:(rl++[(r101,R114)]).map Prod.snd=Ez C id recs (p+1):=by rw [List.map_append,hrl2,bP h93];show _++[R114]=_;rw [hR115,h3t.len];rfl
   replace H:=H.p8.p8.p8.p8.p8.p8.p8.p8
   exact Bo (s:=(p,undef,rl)) (p+1,.slice A96 (((rl.map Bw)++[((p:Nat):Int)]).length) c97,rl++[(r101,R114)]) ⟨rfl,rfl,rfl,rfl,rfl,rfl,rfl,rfl,trivial⟩ ⟨H,by (try dsimp only);omega,hrl3⟩ (by (try dsimp only);omega)
  exact Az (Bb (Z (Ae (V U U (Bc (z:=((p+1:Nat):Int)) U U U (by rw [AI (by omega) (by omega)];omega)) (Ad U (Ab (Bo (s:=(p,undef,rl)) (p+1,q,rl) ⟨rfl,rfl,rfl,rfl,rfl,rfl,rfl,rfl,trivial⟩ ⟨H,by (try dsimp only);omega,by (try dsimp only);rw [bN h93];exact hrl2⟩ (by (try dsimp only);omega))))))))
 refine BQ (AV (AV (BS (Z (Aa (Ae (Ah 3 U (Ab (Z (An (Dy U U U ?_)))))))))))
 replace H:=H.newnil Dj
 replace H:=Hd.big0 (fun e:Nat×Cy=>Da e.1 C.J e.2) H
 replace H:Hd _ _ _ [Dr C.J ([]:List (Nat×Cy)),Y Dj (.slice none 0 0) (([]:List (Nat×Cy)).map BH),blk b31 [.slice A1 C.J.us.length c2,.int .i64 C.J.parts,.slice A6 C.J.map.length c7,.slice A11 C.J.comb.length c12,.slice A16 C.J.red.length c17,.int .i64 C.J.chunk,.int .i64 C.J.window,.int .i64 C.J.fuel,.slice A21 C.J.marks.length c22,.int .i64 C.w,.int .i64 C.t,.int .i64 C.o] 28,blk b68 [.slice A43 J35.us.length c44,.int .i64 J35.parts,.slice A48 J35.map.length c49,.slice A53 J35.comb.length c54,.slice A58 J35.red.length c59,.int .i64 J35.chunk,.int .i64 J35.window,.int .i64 J35.fuel,.slice A63 J35.marks.length c64,.int .i64 C.w,.int .i64 C.t,.int .i64 C.o,.int .i64 ((1+cnt CR recs:Nat):Int),q,.map (some b42),.slice none 0 0,.int .u32 0] 103,B8 Cr b42 (rl.map CB),Y (At Ag) (.slice A43 J35.us.length c44) J35.us,Y Af (.slice A48 J35.map.length c49) J35.map,Y Af (.slice A53 J35.comb.length c54) J35.comb,Y Af (.slice A58 J35.red.length c59) J35.red,Y (Ai .i64) (.slice A63 J35.marks.length c64) J35.marks,CS C rl,Y (Ai .i64) q (rl.map Bw)] [Ac (At Ag) (.slice A1 C.J.us.length c2) C.J.us,Ac Af (.slice A6 C.J.map.length c7) C.J.map,Ac Af (.slice A11 C.J.comb.length c12) C.J.comb,Ac Af (.slice A16 C.J.red.length c17) C.J.red,Ac (Ai .i64) (.slice A21 C.J.marks.length c22) C.J.marks,Ac BL (.slice A26 recs.length c27) recs]:=H
 replace H:=H.p1.pick 10 rfl|>.p5|>.pick 11 rfl|>.pick 11 rfl|>.pick 11 rfl|>.pick 11 rfl|>.pick 11 rfl|>.pick 11 rfl|>.pick 11 rfl|>.keep 11
 replace H:=LO b68 C (GP C id recs) (.slice A43 J35.us.length c44) (.slice A48 J35.map.length c49) (.slice A53 J35.comb.length c54) (.slice A58 J35.red.length c59) (.slice A63 J35.marks.length c64) J35 q b42 (.slice none 0 0) rl [] ⟨hsj,(by show _=Ez C id recs C.J.parts.toNat;rw [show C.J.parts.toNat=p by omega];exact hrl2),rfl⟩ H
 replace H:=H.h1 (A:=B6 b68 C (GP C id recs))
 exact Al ⟨b68,rfl,rfl⟩ H
theorem Rl (b:Nat) (vS:Value) (vM:Value) (vC:Value) (vR:Value) (vK:Value) (J2:AR) (C:Cf) (id:Int) (d:Nat) (hv:Value) (wo:Option Addr) (db:List UInt8) (dn:Nat) (hC:Dq (Bp J2 C)) (hJ:C4 J2) (hid:1≤id∧id≤C.w) (hdb:db.length≤90000):
    Cn Tryz.prog 44 [.pointer (some ⟨b,0,none⟩)] [blk b [vS,.int .i64 J2.parts,vM,vC,vR,.int .i64 J2.chunk,.int .i64 J2.window,.int .i64 J2.fuel,vK,.int .i64 C.w,.int .i64 C.t,.int .i64 C.o,.int .i64 id,.bool true,.pointer (some ⟨d,0,none⟩),hv,.pointer none,.pointer wo] 93,Bz d db dn] [Ac (At Ag) vS J2.us,Ac Af vM J2.map,Ac Af vC J2.comb,Ac Af vR J2.red,Ac (Ai .i64) vK J2.marks] (fun v Bs=>∃ wb:Nat,v=.tuple #[]∧Bs=[blk b [vS,.int .i64 J2.parts,vM,vC,vR,.int .i64 J2.chunk,.int .i64 J2.window,.int .i64 J2.fuel,vK,.int .i64 C.w,.int .i64 C.t,.int .i64 C.o,.int .i64 id,.bool true,.pointer (some ⟨d,0,none⟩),hv,.pointer none,.pointer (some ⟨wb,0,none⟩)] 93,Bz d (GF db) ((CI db).2.toNat),B6 wb (Bp J2 C) (EJ (Bp J2 C) id (CI db).1)]):=by
 intro w0 F0 H
 obtain ⟨A1,c2,rfl,hc3,hm4,hp5⟩:=H.fR 0 rfl
 obtain ⟨A6,c7,rfl,hc8,hm9,hp10⟩:=H.fR 1 rfl
 obtain ⟨A11,c12,rfl,hc13,hm14,hp15⟩:=H.fR 2 rfl
 obtain ⟨A16,c17,rfl,hc18,hm19,hp20⟩:=H.fR 3 rfl
 obtain ⟨A21,c22,rfl,hc23,hm24,hp25⟩:=H.fR 4 rfl
 refine enter Tryz.func44 U U (Nat.le_of_ble_eq_true U) (Aa (Ae (Ad U (V U U (AJ U U) (V U U (Aj U ED U) (V U U (Aj U Ia U) (V U U (Am U Ir U (H.cellI 0 U U)) ?_)))))))
 replace H:=H.p1
 replace H:Hd _ _ _ [Bz d db dn,blk b [.slice A1 J2.us.length c2,.int .i64 J2.parts,.slice A6 J2.map.length c7,.slice A11 J2.comb.length c12,.slice A16 J2.red.length c17,.int .i64 J2.chunk,.int .i64 J2.window,.int .i64 J2.fuel,.slice A21 J2.marks.length c22,.int .i64 C.w,.int .i64 C.t,.int .i64 C.o,.int .i64 id,.bool true,.pointer (some ⟨d,0,none⟩),hv,.pointer none,.pointer wo] 93] [Ac (At Ag) (.slice A1 J2.us.length c2) J2.us,Ac Af (.slice A6 J2.map.length c7) J2.map,Ac Af (.slice A11 J2.comb.length c12) J2.comb,Ac Af (.slice A16 J2.red.length c17) J2.red,Ac (Ai .i64) (.slice A21 J2.marks.length c22) J2.marks]:=H
 refine sc (UN d db dn (by first |assumption|omega)) H l0 U U (Av Xi U U) ?_
 rintro v26 _ w rfl H
 replace H:=H.h1 (A:=Y AP v26 db)
 refine sc (aH v26 db (by first |assumption|omega)) H (lA 0 U B2 l0) U U (Av Xm U U) ?_
 rintro _ _ w ⟨u27,rs28,rfl,rfl,hf29⟩ H
 replace H:=H.h1 (A:=Y BL u27 rs28)
 have hrr:=hf29
 have hrm:=aT db
 have hrl:=aS db
 have hrn:rs28.length=(CI db).1.length:=by rw [←hrr,List.length_map]
 obtain ⟨kN,hkN⟩:∃ z:Nat,(CI db).2=(z:Int):=⟨(CI db).2.toNat,by omega⟩
 rw [hkN]
 have hsm:∀ r∈rs28,(AG r.sp∧r.set.length≤1000)∧r.pairs.length≤1000:=fun r hr=>by have h9:=KU (hrm (AY.p r) (by rw [←hrr];exact List.mem_map_of_mem hr));have h8:Bv r.sp 0 5:=h9.sp;have h7:r.set.length≤6:=h9.set;have h6:r.pairs.length≤40:=h9.pairs;unfold Bv at h8;exact ⟨⟨by unfold AG;omega,by omega⟩,by omega⟩
 refine Ah 5 U (Ab (Z (Aa (Ae (Ad U (V U U (AJ U U) (V U U (Aj U ED U) (V U U (Aj U Ia U) (V U U (Am U Ir U (H.cellI 3 U U)) (Ad U ?_))))))))))
 replace H:=H.p2
 refine sc (L4 d db dn kN (by first |assumption|omega)) H l0 U U (Av MM U U) ?_
 rintro _ _ w ⟨rfl,rfl⟩ H
 replace H:=H.h1 (A:=Bz d (db.take kN) kN)
 refine Ab (Z (Aa (Aa (Ae (Ad U (V U U (AJ U U) (V U U (Aj U ED U) (V U U (Aj U Mn U) (V U U (Am U AE U (H.cellI 3 U U)) (V U U (Bh U U U) (Ab (Z ?_))))))))))))
 refine AC U (fun h30=>?_) (fun h30=>?_)
 ·exfalso;omega
 refine Az (Z (Aa (Ce (.e 0 (.e 1 (.e 2 (.e 3 (.e 4 (.e 6 (.e 7 (.e 8 (.e 9 (.e 11 (.p 5 10 (.m 12 (.e 13 (.e 14 (.e 15 (.e 16 (.e 17 (.m 18 .z)))))))))))))))))) (fun w=>∃ Ar,Hd w0 F0 w (Bz d (db.take kN) kN::Y BL u27 rs28::Y AP v26 db::Ar) [Ac (At Ag) (.slice A1 J2.us.length c2) J2.us,Ac Af (.slice A6 J2.map.length c7) J2.map,Ac Af (.slice A11 J2.comb.length c12) J2.comb,Ac Af (.slice A16 J2.red.length c17) J2.red,Ac (Ai .i64) (.slice A21 J2.marks.length c22) J2.marks]) mo (by kernel_rfl) (fun w H=>⟨_,H⟩) H (fun w H=>(Au U (Au U (Ao U U U (fun w ⟨Ar,H⟩=>AJ U U) (Ao U U U (fun w ⟨Ar,H⟩=>Aj U ED U) (Ao U U U (fun w ⟨Ar,H⟩=>Aj U VF U) (Au U (Ao U U U (fun w ⟨Ar,H⟩=>AJ U U) (Ao U U U (fun w ⟨Ar,H⟩=>Aj U ED U) ?_))))))))))))
 refine Ao U U U (fun w ⟨Ar,H⟩=>Aj U Mn U) (Au U (Jo U U U U U U U U (by decide) (BG (cs:=[.slice A1 J2.us.length c2,.int .i64 J2.parts,.slice A6 J2.map.length c7,.slice A11 J2.comb.length c12,.slice A16 J2.red.length c17,.int .i64 J2.chunk,.int .i64 J2.window,.int .i64 J2.fuel,.slice A21 J2.marks.length c22,.int .i64 C.w,.int .i64 C.t,.int .i64 C.o]) U EH U U (H.cellsI 3 U U)) (Am U AE U (H.cellI 3 U U)) (AO U (sc (fX (.slice A1 J2.us.length c2) (.slice A6 J2.map.length c7) (.slice A11 J2.comb.length c12) (.slice A16 J2.red.length c17) (.slice A21 J2.marks.length c22) (Bp J2 C) id u27 rs28 (by first |assumption|omega) (by first |assumption|omega) (by first |assumption|omega) (by first |assumption|omega) (by first |assumption|omega)) H (lR 0 U (lR 1 U (lR 2 U (lR 3 U (lR 4 U (lA 1 U B2 l0)))))) U U (Av XX U U) ?_))))
 rintro _ _ w ⟨b31,rfl,rfl⟩ H
 replace H:=H.h1 (A:=B6 b31 (Bp J2 C) (GP (Bp J2 C) id rs28))
 rw [YQ (Bp J2 C) id hrr] at H
 replace H:Hd _ _ _ [B6 b31 (Bp J2 C) (EJ (Bp J2 C) id (CI db).1),Bz d (db.take kN) kN,Y BL u27 rs28,Y AP v26 db,blk b [.slice A1 J2.us.length c2,.int .i64 J2.parts,.slice A6 J2.map.length c7,.slice A11 J2.comb.length c12,.slice A16 J2.red.length c17,.int .i64 J2.chunk,.int .i64 J2.window,.int .i64 J2.fuel,.slice A21 J2.marks.length c22,.int .i64 C.w,.int .i64 C.t,.int .i64 C.o,.int .i64 id,.bool true,.pointer (some ⟨d,0,none⟩),hv,.pointer none,.pointer wo] 93] [Ac (At Ag) (.slice A1 J2.us.length c2) J2.us,Ac Af (.slice A6 J2.map.length c7) J2.map,Ac Af (.slice A11 J2.comb.length c12) J2.comb,Ac Af (.slice A16 J2.red.length c17) J2.red,Ac (Ai .i64) (.slice A21 J2.marks.length c22) J2.marks]:=H
 replace H:=H.p3.p3.p3
 refine AH ⟨_,H⟩ (Au U (Au U (Au U (Ao U U U (fun w ⟨Ar,H⟩=>AJ U U) (Ao U U U (fun w ⟨Ar,H⟩=>Aj U Mo U) (AO U ?_))))))
 replace H:=H.p4
 refine Bx U U U NT U U H U (Nat.le_of_ble_eq_true U) (fun u hu=>by simp [Value.cells] at hu;subst hu;rfl) (fun w H=>?_)
 replace H:=H.h1 (A:=blk b [.slice A1 J2.us.length c2,.int .i64 J2.parts,.slice A6 J2.map.length c7,.slice A11 J2.comb.length c12,.slice A16 J2.red.length c17,.int .i64 J2.chunk,.int .i64 J2.window,.int .i64 J2.fuel,.slice A21 J2.marks.length c22,.int .i64 C.w,.int .i64 C.t,.int .i64 C.o,.int .i64 id,.bool true,.pointer (some ⟨d,0,none⟩),hv,.pointer none,.pointer (some ⟨b31,0,none⟩)] 93)|>.p3|>.p3|>.p3
 refine AH ⟨_,H⟩ (BO (Z ?_))
 replace H:=H.p4.p4.p4.p4
 refine Ce (.e 0 (.e 1 (.e 2 (.e 3 (.e 4 (.e 5 (.m 6 (.m 7 (.m 8 .z))))))))) (fun w=>∃ Ar,Hd w0 F0 w (Y BL u27 rs28::Y AP v26 db::blk b [.slice A1 J2.us.length c2,.int .i64 J2.parts,.slice A6 J2.map.length c7,.slice A11 J2.comb.length c12,.slice A16 J2.red.length c17,.int .i64 J2.chunk,.int .i64 J2.window,.int .i64 J2.fuel,.slice A21 J2.marks.length c22,.int .i64 C.w,.int .i64 C.t,.int .i64 C.o,.int .i64 id,.bool true,.pointer (some ⟨d,0,none⟩),hv,.pointer none,.pointer (some ⟨b31,0,none⟩)] 93::B6 b31 (Bp J2 C) (EJ (Bp J2 C) id (CI db).1)::Ar) [Ac (At Ag) (.slice A1 J2.us.length c2) J2.us,Ac Af (.slice A6 J2.map.length c7) J2.map,Ac Af (.slice A11 J2.comb.length c12) J2.comb,Ac Af (.slice A16 J2.red.length c17) J2.red,Ac (Ai .i64) (.slice A21 J2.marks.length c22) J2.marks]) mo (by kernel_rfl) (fun w H=>⟨_,H⟩) H (fun w H=>?_)
 refine Au U (Ao U U U (fun w ⟨Ar,H⟩=>AJ U U) (Ao U U U (fun w ⟨Ar,H⟩=>Aj U ED U) (Ao U U U (fun w ⟨Ar,H⟩=>Aj U Ia U) (Ao U U U (fun w ⟨Ar,H⟩=>Am U Ir U (H.cellI 2 U U)) (Ao U U U (fun w ⟨Ar,H⟩=>Dl (parts:=[(0,.const (.int .i64 6))]) (vs:=[.int .i64 6]) (cs:=[.int .i64 6,.int .i64 0,.int .i64 0,.int .i64 0,.int .i64 0,.slice none 0 0,.slice none 0 0]) U OE U U) (AO U (Cg (parts:=[(0,.tmp 63)]) (vs:=[.agg #[.int .i64 6,.int .i64 0,.int .i64 0,.int .i64 0,.int .i64 0,.slice none 0 0,.slice none 0 0]]) (cs:=[.int .i64 6,.int .i64 0,.int .i64 0,.int .i64 0,.int .i64 0,.slice none 0 0,.slice none 0 0]) U U U I8 Hr U (by decide) (by decide) U U H (fun b32 w H=>?_))))))))
 replace H:=H.h1 (A:=blk b32 [.int .i64 6,.int .i64 0,.int .i64 0,.int .i64 0,.int .i64 0,.slice none 0 0,.slice none 0 0] 69)|>.p4|>.p4|>.p4|>.p4
 refine AH ⟨_,H⟩ (AO U ?_)
 replace H:=H.p4
 replace H:Hd w0 F0 w [Y El (.slice (some ⟨b32,0,none⟩) 1 1) [(⟨6,0,0,0,0,⟨none,0,0⟩,⟨none,0,0⟩⟩:Hu)],Y BL u27 rs28,Y AP v26 db,blk b [.slice A1 J2.us.length c2,.int .i64 J2.parts,.slice A6 J2.map.length c7,.slice A11 J2.comb.length c12,.slice A16 J2.red.length c17,.int .i64 J2.chunk,.int .i64 J2.window,.int .i64 J2.fuel,.slice A21 J2.marks.length c22,.int .i64 C.w,.int .i64 C.t,.int .i64 C.o,.int .i64 id,.bool true,.pointer (some ⟨d,0,none⟩),hv,.pointer none,.pointer (some ⟨b31,0,none⟩)] 93,B6 b31 (Bp J2 C) (EJ (Bp J2 C) id (CI db).1),Bz d (db.take kN) kN] [Ac (At Ag) (.slice A1 J2.us.length c2) J2.us,Ac Af (.slice A6 J2.map.length c7) J2.map,Ac Af (.slice A11 J2.comb.length c12) J2.comb,Ac Af (.slice A16 J2.red.length c17) J2.red,Ac (Ai .i64) (.slice A21 J2.marks.length c22) J2.marks]:=H.turn (fun F h=>IA h rfl (by decide) rfl)
 refine sc (aF (.slice (some ⟨b32,0,none⟩) 1 1) [IS] (by decide)) H (lX (fun F hA hR=>bC (us:=[IS]) (B2 F (hA _ (List.mem_of_getElem? (i:=0) U))) (Ye (n:=1))) l0) U U (Av XZ U U) ?_
 rintro v33 _ w rfl H
 replace H:=H.h1 (A:=Y AP v33 (FA [Gb]))
 have hll:(FA [Gb]).length=64:=by rw [QT,Ie]
 have hbt:(db.take kN).length≤90000:=by rw [List.length_take];omega
 replace H:=H.p5.p5.p5.p5
 refine AH ⟨_,H⟩ (AO U ?_)
 replace H:=H.p6
 refine sc (UM d (db.take kN) kN v33 (FA [Gb]) (by first |assumption|omega) (by first |assumption|omega)) H (lA 4 U B2 l0) U U (Av XY U U) ?_
 rintro _ _ w ⟨rfl,rfl⟩ H
 replace H:=H.h1 (A:=Bz d ((db.take kN)++(FA [Gb])) kN)|>.p4|>.p4|>.p4|>.p4
 refine AH ⟨_,H⟩ (BO (DX U ?_))
 have hke:kN=(CI db).2.toNat:=by omega
 rw [hke] at H
 rw [←hkN]
 replace H:Hd _ _ _ [Y BL u27 rs28,Y AP v26 db,blk b [.slice A1 J2.us.length c2,.int .i64 J2.parts,.slice A6 J2.map.length c7,.slice A11 J2.comb.length c12,.slice A16 J2.red.length c17,.int .i64 J2.chunk,.int .i64 J2.window,.int .i64 J2.fuel,.slice A21 J2.marks.length c22,.int .i64 C.w,.int .i64 C.t,.int .i64 C.o,.int .i64 id,.bool true,.pointer (some ⟨d,0,none⟩),hv,.pointer none,.pointer (some ⟨b31,0,none⟩)] 93,B6 b31 (Bp J2 C) (EJ (Bp J2 C) id (CI db).1),Bz d (GF db) ((CI db).2.toNat),Y AP v33 (FA [Gb]),Y El (.slice (some ⟨b32,0,none⟩) 1 1) [(⟨6,0,0,0,0,⟨none,0,0⟩,⟨none,0,0⟩⟩:Hu)]] [Ac (At Ag) (.slice A1 J2.us.length c2) J2.us,Ac Af (.slice A6 J2.map.length c7) J2.map,Ac Af (.slice A11 J2.comb.length c12) J2.comb,Ac Af (.slice A16 J2.red.length c17) J2.red,Ac (Ai .i64) (.slice A21 J2.marks.length c22) J2.marks]:=H
 replace H:=H.p3.p4.p4.k3
 exact Al ⟨b31,rfl,rfl⟩ H
theorem Ro (vS:Value) (vM:Value) (vC:Value) (vR:Value) (vK:Value) (C:Cf) (id:Int) (hC:Dq C) (hJ:C4 C.J) (hid:1≤id∧id≤C.w):
    Cn Tryz.prog 11 [.agg #[vS,.int .i64 C.J.parts,vM,vC,vR,.int .i64 C.J.chunk,.int .i64 C.J.window,.int .i64 C.J.fuel,vK,.int .i64 C.w,.int .i64 C.t,.int .i64 C.o],.int .i64 id] [] [Ac (At Ag) vS C.J.us,Ac Af vM C.J.map,Ac Af vC C.J.comb,Ac Af vR C.J.red,Ac (Ai .i64) vK C.J.marks] (fun v Bs=>∃ b:Nat,v=.tuple #[.pointer (some ⟨b,0,none⟩),.int .i64 0]∧Bs=[Cj b C (EP C id)]):=by
 intro w0 F0 H
 obtain ⟨A1,c2,rfl,hc3,hm4,hp5⟩:=H.fR 0 rfl
 obtain ⟨A6,c7,rfl,hc8,hm9,hp10⟩:=H.fR 1 rfl
 obtain ⟨A11,c12,rfl,hc13,hm14,hp15⟩:=H.fR 2 rfl
 obtain ⟨A16,c17,rfl,hc18,hm19,hp20⟩:=H.fR 3 rfl
 obtain ⟨A21,c22,rfl,hc23,hm24,hp25⟩:=H.fR 4 rfl
 refine enter Tryz.func11 U U (Nat.le_of_ble_eq_true U) (Aa (Ae (CZ U U U U H (fun b26 w H=>(Ah 2 U (Ab (Z ?_)))))))
 replace H:Hd _ _ _ [blk b26 [.slice A1 C.J.us.length c2,.int .i64 C.J.parts,.slice A6 C.J.map.length c7,.slice A11 C.J.comb.length c12,.slice A16 C.J.red.length c17,.int .i64 C.J.chunk,.int .i64 C.J.window,.int .i64 C.J.fuel,.slice A21 C.J.marks.length c22,.int .i64 C.w,.int .i64 C.t,.int .i64 C.o] 28] [Ac (At Ag) (.slice A1 C.J.us.length c2) C.J.us,Ac Af (.slice A6 C.J.map.length c7) C.J.map,Ac Af (.slice A11 C.J.comb.length c12) C.J.comb,Ac Af (.slice A16 C.J.red.length c17) C.J.red,Ac (Ai .i64) (.slice A21 C.J.marks.length c22) C.J.marks]:=H
 refine Aa (Aa (Ae (V U U (BG (cs:=[.slice A1 C.J.us.length c2,.int .i64 C.J.parts,.slice A6 C.J.map.length c7,.slice A11 C.J.comb.length c12,.slice A16 C.J.red.length c17,.int .i64 C.J.chunk,.int .i64 C.J.window,.int .i64 C.J.fuel,.slice A21 C.J.marks.length c22,.int .i64 C.w,.int .i64 C.t,.int .i64 C.o]) U EH U U (H.cellsI 0 U U)) (sc (KT (.slice A1 C.J.us.length c2) (.slice A6 C.J.map.length c7) (.slice A11 C.J.comb.length c12) (.slice A16 C.J.red.length c17) (.slice A21 C.J.marks.length c22) C) H (lR 0 U (lR 1 U (lR 2 U (lR 3 U (lR 4 U l0))))) U U (Av KM U U) ?_))))
 rintro _ _ w ⟨rfl,rfl⟩ H
 refine V U U (D4 U U) (Ad U ?_)
 refine AQ (d:=10) U (fun h27=>?_) (fun h27=>?_)
 ·exact (h27 hC).elim
 refine Ad U (V U U (Br U U U) (Ah 2 U ?_))
 refine AQ (d:=14) U (fun h28=>?_) (fun h28=>?_)
 ·exfalso;omega
 refine Ad U (V U U (Aj U Jy U) (V U U (Am U AE U (H.cellI 0 U U)) (V U U (CH U U U) (Ad U (Ab (Z ?_))))))
 replace H:Hd _ _ _ [blk b26 [.slice A1 C.J.us.length c2,.int .i64 C.J.parts,.slice A6 C.J.map.length c7,.slice A11 C.J.comb.length c12,.slice A16 C.J.red.length c17,.int .i64 C.J.chunk,.int .i64 C.J.window,.int .i64 C.J.fuel,.slice A21 C.J.marks.length c22,.int .i64 C.w,.int .i64 C.t,.int .i64 C.o] 28] [Ac (At Ag) (.slice A1 C.J.us.length c2) C.J.us,Ac Af (.slice A6 C.J.map.length c7) C.J.map,Ac Af (.slice A11 C.J.comb.length c12) C.J.comb,Ac Af (.slice A16 C.J.red.length c17) C.J.red,Ac (Ai .i64) (.slice A21 C.J.marks.length c22) C.J.marks]:=H
 refine AC U (fun h29=>?_) (fun h29=>?_)
 ·exfalso;omega
 refine Az (Z (Aa (Ae (V U U (BG (cs:=[.slice A1 C.J.us.length c2,.int .i64 C.J.parts,.slice A6 C.J.map.length c7,.slice A11 C.J.comb.length c12,.slice A16 C.J.red.length c17,.int .i64 C.J.chunk,.int .i64 C.J.window,.int .i64 C.J.fuel,.slice A21 C.J.marks.length c22,.int .i64 C.w,.int .i64 C.t,.int .i64 C.o]) U EH U U (H.cellsI 0 U U)) (sc (Nb (.slice A1 C.J.us.length c2) (.slice A6 C.J.map.length c7) (.slice A11 C.J.comb.length c12) (.slice A16 C.J.red.length c17) (.slice A21 C.J.marks.length c22) C (by first |assumption|omega)) H (lR 0 U (lR 1 U (lR 2 U (lR 3 U (lR 4 U l0))))) U U (Av MJ U U) ?_)))))
 rintro _ _ w ⟨J30,vS31,vM32,vC33,vR34,vK35,rfl,rfl,hf36⟩ H
 replace H:=H.h5 (A:=Y (At Ag) vS31 J30.us) (B:=Y Af vM32 J30.map) (C:=Y Af vC33 J30.comb) (D:=Y Af vR34 J30.red) (E:=Y (Ai .i64) vK35 J30.marks)
 have hsj:=hf36
 have hO2:C4 J30:=hsj.symm.ok hJ
 have hC2:Dq (Bp J30 C):=(Hk hsj).symm.may hC
 refine Ad U (sc (UP) H l0 U U (Av XP U U) ?_)
 rintro _ _ w ⟨d37,rfl,rfl⟩ H
 obtain ⟨A38,c39,rfl,hc40,hm41,hp42⟩:=H.fA 1 rfl
 obtain ⟨A43,c44,rfl,hc45,hm46,hp47⟩:=H.fA 2 rfl
 obtain ⟨A48,c49,rfl,hc50,hm51,hp52⟩:=H.fA 3 rfl
 obtain ⟨A53,c54,rfl,hc55,hm56,hp57⟩:=H.fA 4 rfl
 obtain ⟨A58,c59,rfl,hc60,hm61,hp62⟩:=H.fA 5 rfl
 refine V U U (Dl (parts:=[(0,.tmp 21),(1,.tmp 22),(2,.const (.bool true)),(3,.tmp 23)]) (vs:=[.agg #[.slice A38 J30.us.length c39,.int .i64 J30.parts,.slice A43 J30.map.length c44,.slice A48 J30.comb.length c49,.slice A53 J30.red.length c54,.int .i64 J30.chunk,.int .i64 J30.window,.int .i64 J30.fuel,.slice A58 J30.marks.length c59,.int .i64 C.w,.int .i64 C.t,.int .i64 C.o],.int .i64 id,.bool true,.pointer (some ⟨d37,0,none⟩)]) (cs:=[.slice A38 J30.us.length c39,.int .i64 J30.parts,.slice A43 J30.map.length c44,.slice A48 J30.comb.length c49,.slice A53 J30.red.length c54,.int .i64 J30.chunk,.int .i64 J30.window,.int .i64 J30.fuel,.slice A58 J30.marks.length c59,.int .i64 C.w,.int .i64 C.t,.int .i64 C.o,.int .i64 id,.bool true,.pointer (some ⟨d37,0,none⟩),.slice none 0 0]) U TQ U U) (V U U (Dl (parts:=[(0,.tmp 24)]) (vs:=[.agg #[.slice A38 J30.us.length c39,.int .i64 J30.parts,.slice A43 J30.map.length c44,.slice A48 J30.comb.length c49,.slice A53 J30.red.length c54,.int .i64 J30.chunk,.int .i64 J30.window,.int .i64 J30.fuel,.slice A58 J30.marks.length c59,.int .i64 C.w,.int .i64 C.t,.int .i64 C.o,.int .i64 id,.bool true,.pointer (some ⟨d37,0,none⟩),.slice none 0 0]]) (cs:=[.slice A38 J30.us.length c39,.int .i64 J30.parts,.slice A43 J30.map.length c44,.slice A48 J30.comb.length c49,.slice A53 J30.red.length c54,.int .i64 J30.chunk,.int .i64 J30.window,.int .i64 J30.fuel,.slice A58 J30.marks.length c59,.int .i64 C.w,.int .i64 C.t,.int .i64 C.o,.int .i64 id,.bool true,.pointer (some ⟨d37,0,none⟩),.slice none 0 0,.pointer none,.pointer none]) U TR U U) ?_)
 refine CZ U U U U H (fun b63 w H=>(Ad U (Ab (Z ?_))))
 replace H:Hd _ _ _ [blk b63 [.slice A38 J30.us.length c39,.int .i64 J30.parts,.slice A43 J30.map.length c44,.slice A48 J30.comb.length c49,.slice A53 J30.red.length c54,.int .i64 J30.chunk,.int .i64 J30.window,.int .i64 J30.fuel,.slice A58 J30.marks.length c59,.int .i64 C.w,.int .i64 C.t,.int .i64 C.o,.int .i64 id,.bool true,.pointer (some ⟨d37,0,none⟩),.slice none 0 0,.pointer none,.pointer none] 93,Bz d37 [] 0,Y (At Ag) (.slice A38 J30.us.length c39) J30.us,Y Af (.slice A43 J30.map.length c44) J30.map,Y Af (.slice A48 J30.comb.length c49) J30.comb,Y Af (.slice A53 J30.red.length c54) J30.red,Y (Ai .i64) (.slice A58 J30.marks.length c59) J30.marks,blk b26 [.slice A1 C.J.us.length c2,.int .i64 C.J.parts,.slice A6 C.J.map.length c7,.slice A11 C.J.comb.length c12,.slice A16 C.J.red.length c17,.int .i64 C.J.chunk,.int .i64 C.J.window,.int .i64 C.J.fuel,.slice A21 C.J.marks.length c22,.int .i64 C.w,.int .i64 C.t,.int .i64 C.o] 28] [Ac (At Ag) (.slice A1 C.J.us.length c2) C.J.us,Ac Af (.slice A6 C.J.map.length c7) C.J.map,Ac Af (.slice A11 C.J.comb.length c12) C.J.comb,Ac Af (.slice A16 C.J.red.length c17) C.J.red,Ac (Ai .i64) (.slice A21 C.J.marks.length c22) C.J.marks]:=H
 refine Aa (Ae (Ad U (sc (Rl b63 (.slice A38 J30.us.length c39) (.slice A43 J30.map.length c44) (.slice A48 J30.comb.length c49) (.slice A53 J30.red.length c54) (.slice A58 J30.marks.length c59) J30 C id d37 (.slice none 0 0) none [] 0 (by first |assumption|omega|decide) (by first |assumption|omega|decide) (by first |assumption|omega|decide) (by first |assumption|omega|decide)) H (lA 0 U B2 (lA 1 U B2 (lA 2 U B2 (lA 3 U B2 (lA 4 U B2 l0))))) U U (Av QJ U U) ?_)))
 rintro _ _ w ⟨wb64,rfl,rfl⟩ H
 replace H:=H.h3 (A:=blk b63 [.slice A38 J30.us.length c39,.int .i64 J30.parts,.slice A43 J30.map.length c44,.slice A48 J30.comb.length c49,.slice A53 J30.red.length c54,.int .i64 J30.chunk,.int .i64 J30.window,.int .i64 J30.fuel,.slice A58 J30.marks.length c59,.int .i64 C.w,.int .i64 C.t,.int .i64 C.o,.int .i64 id,.bool true,.pointer (some ⟨d37,0,none⟩),.slice none 0 0,.pointer none,.pointer (some ⟨wb64,0,none⟩)] 93) (B:=Bz d37 (GF []) ((CI []).2.toNat)) (C:=B6 wb64 (Bp J30 C) (EJ (Bp J30 C) id (CI []).1))
 rw [Tl (Hk hsj)] at H
 replace H:Hd _ _ _ [blk b63 [.slice A38 J30.us.length c39,.int .i64 J30.parts,.slice A43 J30.map.length c44,.slice A48 J30.comb.length c49,.slice A53 J30.red.length c54,.int .i64 J30.chunk,.int .i64 J30.window,.int .i64 J30.fuel,.slice A58 J30.marks.length c59,.int .i64 C.w,.int .i64 C.t,.int .i64 C.o,.int .i64 id,.bool true,.pointer (some ⟨d37,0,none⟩),.slice none 0 0,.pointer none,.pointer (some ⟨wb64,0,none⟩)] 93,Bz d37 (GF []) ((CI []).2.toNat),B6 wb64 (Bp J30 C) (EJ C id (CI []).1),Y (At Ag) (.slice A38 J30.us.length c39) J30.us,Y Af (.slice A43 J30.map.length c44) J30.map,Y Af (.slice A48 J30.comb.length c49) J30.comb,Y Af (.slice A53 J30.red.length c54) J30.red,Y (Ai .i64) (.slice A58 J30.marks.length c59) J30.marks,blk b26 [.slice A1 C.J.us.length c2,.int .i64 C.J.parts,.slice A6 C.J.map.length c7,.slice A11 C.J.comb.length c12,.slice A16 C.J.red.length c17,.int .i64 C.J.chunk,.int .i64 C.J.window,.int .i64 C.J.fuel,.slice A21 C.J.marks.length c22,.int .i64 C.w,.int .i64 C.t,.int .i64 C.o] 28] [Ac (At Ag) (.slice A1 C.J.us.length c2) C.J.us,Ac Af (.slice A6 C.J.map.length c7) C.J.map,Ac Af (.slice A11 C.J.comb.length c12) C.J.comb,Ac Af (.slice A16 C.J.red.length c17) C.J.red,Ac (Ai .i64) (.slice A21 C.J.marks.length c22) C.J.marks]:=H
 refine Ab (Z (Aa (Ae (Ah 3 U (Ab (Z (An (Dy U U U ?_))))))))
 replace H:=H.newnil BF|>.p2|>.p8|>.p8|>.p8|>.p8|>.p8|>.p7|>.k9
 replace H:=Gv b63 C (EP C id) (.slice A38 J30.us.length c39) (.slice A43 J30.map.length c44) (.slice A48 J30.comb.length c49) (.slice A53 J30.red.length c54) (.slice A58 J30.marks.length c59) J30 d37 (.slice none 0 0) [] wb64 ⟨hsj,rfl⟩ H
 replace H:=H.h1 (A:=Cj b63 C (EP C id))
 exact Al ⟨b63,rfl,rfl⟩ H
theorem cT (v1 v2:Value) (xs ys:List Int):
    Cn Tryz.prog 123 [v1,v2] [] [Ac (Ai .i64) v1 xs,Ac (Ai .i64) v2 ys] (fun v Bs=>v=.bool (decide (xs=ys))∧Bs=[]):=by
 intro w0 F0 H
 obtain ⟨A1,c2,rfl,hc3,hm4,hp5⟩:=H.fR 0 rfl
 obtain ⟨A6,c7,rfl,hc8,hm9,hp10⟩:=H.fR 1 rfl
 refine enter Tryz.func123 U U (Nat.le_of_ble_eq_true U) (Aa (Ae (Ad U (Ab (Z ?_)))))
 replace H:Hd _ _ _ [] [Ac (Ai .i64) (.slice A1 xs.length c2) xs,Ac (Ai .i64) (.slice A6 ys.length c7) ys]:=H
 refine Aa (Aa (Ae (Ad U (V U U (Bj U EA U) (Ad U (V U U (Bj U EA U) (V U U (Cx U U U) (Ab (Z ?_)))))))))
 refine AC U (fun h11=>?_) (fun h11=>?_)
 ·refine Aa (Ae (Ad U (Ab (Z (An (AA (Ap U U ?_)))))))
  have e:¬ xs=ys:=fun e=>h11 (by rw [e])
  exact Al ⟨by rw [decide_eq_false e]<;>rfl,rfl⟩ H
 refine Az (Z (Aa (Aa (Ae (Ad U (Ab (Z (AW ?_))))))))
 have hle:xs.length=ys.length:=by omega
 refine B1 (σ:=Nat) (fun k=>[(0,.slice A1 xs.length c2),(1,.slice A6 ys.length c7),(5,.int .i64 ((k:Nat):Int))]) (fun k w=>(Hd w0 F0 w [] [Ac (Ai .i64) (.slice A1 xs.length c2) xs,Ac (Ai .i64) (.slice A6 ys.length c7) ys])∧(k≤xs.length)∧(xs.length=ys.length)∧(xs.take k=ys.take k)) (fun k=>xs.length - k) 0 ⟨rfl,rfl,rfl,trivial⟩ ⟨H,by omega,hle,rfl⟩ ?_
 rintro k w ⟨H,hk,hle,ht⟩
 refine Aa (Aa (Ae (Ah 2 U (V U U (Bj U EA U) (V U U (Br U U U) (Ab (Z ?_)))))))
 refine AC U (fun h12=>?_) (fun h12=>?_)
 ·refine Az (Z (Aa (AW (Aa (G4 mo (by kernel_rfl) H (Kc 2 U ?_))))))
  obtain ⟨x13,hx14⟩:∃ z9,xs[k]?=some z9:=⟨_,List.getElem?_eq_getElem (show k<xs.length by omega)⟩
  have th15:=H.thR 0 rfl hx14
  refine BK U U (fun w H=>Bi (p:=Ba A1+k*1) U DE U U (by omega) (by omega) th15 U) (BK U U (fun w H=>Am U AE U (H.elR 0 U hx14 (q:=0) U U)) (Kc 2 U ?_))
  obtain ⟨x16,hx17⟩:∃ z9,ys[k]?=some z9:=⟨_,List.getElem?_eq_getElem (show k<ys.length by omega)⟩
  have th18:=H.thR 1 rfl hx17
  refine BK U U (fun w H=>Bi (p:=Ba A6+k*1) U DE U U (by omega) (by omega) th18 U) (BK U U (fun w H=>Am U AE U (H.elR 1 U hx17 (q:=0) U U)) (BK U U (fun w H=>Cx U U U) (Ho (fun w H=>(Z ?_)))))
  refine AC U (fun h19=>?_) (fun h19=>?_)
  ·refine Aa (Ae (Ad U (Ab (Z (An (AZ (AA (AA (AZ (AA (Ap U U ?_)))))))))))
   have e:¬ xs=ys:=fun e=>h19 (by rw [e,hx17] at hx14;exact (Option.some.inj hx14).symm)
   exact Al ⟨by rw [decide_eq_false e]<;>rfl,rfl⟩ H
  refine Az (Bb (Z (Ae (Ad U (V U U (Bc (z:=((k+1:Nat):Int)) U U U (by rw [AI (by omega) (by omega)];omega)) (Ad U (Ab ?_)))))))
  have e:x13=x16:=Classical.not_not.1 h19
  subst e
  exact Bo (s:=k) (k+1) ⟨rfl,rfl,rfl,trivial⟩ ⟨H,by omega,hle,SU hx14 hx17 ht⟩ (by (try dsimp only);omega)
 refine BQ (AV (AV (BS (Z (Aa (Ae (Ad U (Ab (Z (An (Ap U U ?_)))))))))))
 have e:xs=ys:=by rw [←GX (xs:=xs) (k:=k) (by omega),←GX (xs:=ys) (k:=k) (by omega)];exact ht
 exact Al ⟨by rw [decide_eq_true e]<;>rfl,rfl⟩ H
theorem Q1 (x:Int) (n:Int) (hx:AG x) (h0:0<n) (hn:n≤9223372036854775807):
    Cn Tryz.prog 12 [.int .i64 x,.int .i64 n] [] [] (fun v Bs=>v=.int .i64 (IntKind.u64.wrap x%n)∧Bs=[]):=by
 intro w0 F0 H
 exact enter Tryz.func12 U U (Nat.le_of_ble_eq_true U) (Aa (Ae (Ad U (Ab (Z (Aa (Ae (Ad U (V U U (DC (z:=IntKind.u64.wrap x) U U Dm EB U) (Ad U (V U U (DC (z:=n) U U Dm EB (Fr (by omega) (by omega))) (V U U (IY (z:=(IntKind.u64.wrap x)%n) U U U (by omega) (Int.tmod_eq_emod_of_nonneg (LN x).1)) (V U U (DC (z:=(IntKind.u64.wrap x)%n) U U EB Dm (AI (by have:=Int.emod_nonneg (IntKind.u64.wrap x) (show n≠0 by omega);omega) (by have:=Int.emod_lt_of_pos (IntKind.u64.wrap x) h0;omega))) (Ad U (Ab (Z (An (Ap U U (Al ⟨rfl,rfl⟩ H)))))))))))))))))))
theorem cV (x:CV) (xsv:Value) (xse:List Int) (xpv:Value) (xpr:List Aq) (y:CV) (ysv:Value) (yse:List Int) (ypv:Value) (ypr:List Aq):
    Cn Tryz.prog 70 [.agg #[.int .i64 x.kind,.int .i64 x.sp,.int .i64 x.att,.int .i64 x.part,.int .i64 x.seq,.int .i64 x.next,.int .i64 x.ep,.int .i64 x.why,xsv,xpv],.agg #[.int .i64 y.kind,.int .i64 y.sp,.int .i64 y.att,.int .i64 y.part,.int .i64 y.seq,.int .i64 y.next,.int .i64 y.ep,.int .i64 y.why,ysv,ypv]] [] [Ac (Ai .i64) xsv xse,Ac Ag xpv xpr,Ac (Ai .i64) ysv yse,Ac Ag ypv ypr] (fun v Bs=>v=.bool (decide (x.p xse xpr=y.p yse ypr))∧Bs=[]):=by
 intro w0 F0 H
 obtain ⟨A1,c2,rfl,hc3,hm4,hp5⟩:=H.fR 0 rfl
 obtain ⟨A6,c7,rfl,hc8,hm9,hp10⟩:=H.fR 1 rfl
 obtain ⟨A11,c12,rfl,hc13,hm14,hp15⟩:=H.fR 2 rfl
 obtain ⟨A16,c17,rfl,hc18,hm19,hp20⟩:=H.fR 3 rfl
 refine enter Tryz.func70 U U (Nat.le_of_ble_eq_true U) (Aa (Ae (CZ U U U U H (fun b21 w H=>(CZ U U U U H (fun b22 w H=>(Ad U (Ab (Z ?_)))))))))
 replace H:Hd _ _ _ [blk b22 [.int .i64 y.kind,.int .i64 y.sp,.int .i64 y.att,.int .i64 y.part,.int .i64 y.seq,.int .i64 y.next,.int .i64 y.ep,.int .i64 y.why,.slice A11 yse.length c12,.slice A16 ypr.length c17] 49,blk b21 [.int .i64 x.kind,.int .i64 x.sp,.int .i64 x.att,.int .i64 x.part,.int .i64 x.seq,.int .i64 x.next,.int .i64 x.ep,.int .i64 x.why,.slice A1 xse.length c2,.slice A6 xpr.length c7] 49] [Ac (Ai .i64) (.slice A1 xse.length c2) xse,Ac Ag (.slice A6 xpr.length c7) xpr,Ac (Ai .i64) (.slice A11 yse.length c12) yse,Ac Ag (.slice A16 ypr.length c17) ypr]:=H
 refine Aa (Ae (V U U (Aj U PK U) (V U U (Am U AE U (H.cellI 1 U U)) (V U U (Aj U PK U) (V U U (Am U AE U (H.cellI 0 U U)) (V U U (Bh U U U) (Ad U ?_)))))))
 refine AQ (d:=11) U (fun h23=>?_) (fun h23=>?_)
 ·refine V U U (Aj U PL U) (V U U (Am U AE U (H.cellI 1 U U)) (V U U (Aj U PL U) (V U U (Am U AE U (H.cellI 0 U U)) (V U U (Bh U U U) (Ah 2 U ?_)))))
  refine AQ (d:=18) U (fun h24=>?_) (fun h24=>?_)
  ·refine V U U (Aj U PM U) (V U U (Am U AE U (H.cellI 1 U U)) (V U U (Aj U PM U) (V U U (Am U AE U (H.cellI 0 U U)) (V U U (Bh U U U) (Ah 2 U ?_)))))
   refine AQ (d:=25) U (fun h25=>?_) (fun h25=>?_)
   ·refine V U U (Aj U Ml U) (V U U (Am U AE U (H.cellI 1 U U)) (V U U (Aj U Ml U) (V U U (Am U AE U (H.cellI 0 U U)) (V U U (Bh U U U) (Ah 2 U ?_)))))
    refine AQ (d:=32) U (fun h26=>?_) (fun h26=>?_)
    ·refine V U U (Aj U PN U) (V U U (Am U AE U (H.cellI 1 U U)) (V U U (Aj U PN U) (V U U (Am U AE U (H.cellI 0 U U)) (V U U (Bh U U U) (Ah 2 U ?_)))))
     refine AQ (d:=39) U (fun h27=>?_) (fun h27=>?_)
     ·refine V U U (Aj U PO U) (V U U (Am U AE U (H.cellI 1 U U)) (V U U (Aj U PO U) (V U U (Am U AE U (H.cellI 0 U U)) (V U U (Bh U U U) (Ah 2 U (Ab (Z (Aa (Ae (Ah 2 U ?_))))))))))
      refine AQ (d:=47) U (fun h28=>?_) (fun h28=>?_)
      ·refine V U U (Aj U PP U) (V U U (Am U AE U (H.cellI 1 U U)) (V U U (Aj U PP U) (V U U (Am U AE U (H.cellI 0 U U)) (V U U (Bh U U U) (Ah 2 U ?_)))))
       refine AQ (d:=54) U (fun h29=>?_) (fun h29=>?_)
       ·refine V U U (Aj U PQ U) (V U U (Am U AE U (H.cellI 1 U U)) (V U U (Aj U PQ U) (V U U (Am U AE U (H.cellI 0 U U)) (V U U (Bh U U U) (Ah 2 U ?_)))))
        refine AQ (d:=61) U (fun h30=>?_) (fun h30=>?_)
        ·refine V U U (Aj U PR U) (V U U (Am U DY U (H.cellI 1 U U)) (V U U (Aj U PR U) (V U U (Am U DY U (H.cellI 0 U U)) (sc (cT (.slice A1 xse.length c2) (.slice A11 yse.length c12) xse yse) H (lR 0 U (lR 2 U l0)) U U (Av Ww U U) ?_))))
         rintro _ _ w ⟨rfl,rfl⟩ H
         refine Ah 2 U ?_
         refine AQ (d:=68) U (fun h31=>?_) (fun h31=>?_)
         ·refine V U U (Aj U PS U) (V U U (Am U DJ U (H.cellI 1 U U)) (V U U (Aj U PS U) (V U U (Am U DJ U (H.cellI 0 U U)) (sc (cW (.slice A6 xpr.length c7) (.slice A16 ypr.length c17) xpr ypr) H (lR 1 U (lR 3 U l0)) U U (Av Wx U U) ?_))))
          rintro _ _ w ⟨rfl,rfl⟩ H
          refine Ah 2 U (Ab (Z (An (Ap U U ?_))))
          have e:xpr=ypr↔x.p xse xpr=y.p yse ypr:=⟨fun h=>Gc.2 ⟨by assumption,by assumption,by assumption,by assumption,by assumption,by assumption,by assumption,by assumption,by assumption,h⟩,fun h=>(Gc.1 h).2.2.2.2.2.2.2.2.2⟩
          replace H:=H.nil
          replace H:Hd _ _ _ [] [Ac (Ai .i64) (.slice A1 xse.length c2) xse,Ac Ag (.slice A6 xpr.length c7) xpr,Ac (Ai .i64) (.slice A11 yse.length c12) yse,Ac Ag (.slice A16 ypr.length c17) ypr]:=H
          exact Al ⟨congrArg Value.bool (decide_eq_decide.2 e),rfl⟩ H
         refine Ah 7 U (Ab (Z (An (Ap U U ?_))))
         have e:¬ x.p xse xpr=y.p yse ypr:=fun h=>by obtain ⟨g1,g2,g3,g4,g5,g6,g7,g8,g9,g10⟩:=Gc.1 h;first |exact absurd g1 h31|exact absurd g2 h31|exact absurd g3 h31|exact absurd g4 h31|exact absurd g5 h31|exact absurd g6 h31|exact absurd g7 h31|exact absurd g8 h31|exact absurd g9 h31|exact absurd g10 h31
         replace H:=H.nil
         replace H:Hd _ _ _ [] [Ac (Ai .i64) (.slice A1 xse.length c2) xse,Ac Ag (.slice A6 xpr.length c7) xpr,Ac (Ai .i64) (.slice A11 yse.length c12) yse,Ac Ag (.slice A16 ypr.length c17) ypr]:=H
         exact Al ⟨congrArg Value.bool (decide_eq_false e).symm,rfl⟩ H
        refine Ah 12 U (Ah 2 U (Ab (Z (An (Ap U U ?_)))))
        have e:¬ x.p xse xpr=y.p yse ypr:=fun h=>by obtain ⟨g1,g2,g3,g4,g5,g6,g7,g8,g9,g10⟩:=Gc.1 h;first |exact absurd g1 h30|exact absurd g2 h30|exact absurd g3 h30|exact absurd g4 h30|exact absurd g5 h30|exact absurd g6 h30|exact absurd g7 h30|exact absurd g8 h30|exact absurd g9 h30|exact absurd g10 h30
        replace H:=H.nil
        exact Al ⟨congrArg Value.bool (decide_eq_false e).symm,rfl⟩ H
       refine Ah 12 U (Ah 9 U (Ab (Z (An (Ap U U ?_)))))
       have e:¬ x.p xse xpr=y.p yse ypr:=fun h=>by obtain ⟨g1,g2,g3,g4,g5,g6,g7,g8,g9,g10⟩:=Gc.1 h;first |exact absurd g1 h29|exact absurd g2 h29|exact absurd g3 h29|exact absurd g4 h29|exact absurd g5 h29|exact absurd g6 h29|exact absurd g7 h29|exact absurd g8 h29|exact absurd g9 h29|exact absurd g10 h29
       replace H:=H.nil
       exact Al ⟨congrArg Value.bool (decide_eq_false e).symm,rfl⟩ H
      refine Ah 12 U (Ah 12 U (Ah 4 U (Ab (Z (An (Ap U U ?_))))))
      have e:¬ x.p xse xpr=y.p yse ypr:=fun h=>by obtain ⟨g1,g2,g3,g4,g5,g6,g7,g8,g9,g10⟩:=Gc.1 h;first |exact absurd g1 h28|exact absurd g2 h28|exact absurd g3 h28|exact absurd g4 h28|exact absurd g5 h28|exact absurd g6 h28|exact absurd g7 h28|exact absurd g8 h28|exact absurd g9 h28|exact absurd g10 h28
      replace H:=H.nil
      exact Al ⟨congrArg Value.bool (decide_eq_false e).symm,rfl⟩ H
     refine Ah 7 U (Ab (Z (Aa (Ae (Ah 12 U (Ah 12 U (Ah 6 U (Ab (Z (An (Ap U U ?_)))))))))))
     have e:¬ x.p xse xpr=y.p yse ypr:=fun h=>by obtain ⟨g1,g2,g3,g4,g5,g6,g7,g8,g9,g10⟩:=Gc.1 h;first |exact absurd g1 h27|exact absurd g2 h27|exact absurd g3 h27|exact absurd g4 h27|exact absurd g5 h27|exact absurd g6 h27|exact absurd g7 h27|exact absurd g8 h27|exact absurd g9 h27|exact absurd g10 h27
     replace H:=H.nil
     exact Al ⟨congrArg Value.bool (decide_eq_false e).symm,rfl⟩ H
    refine Ah 12 U (Ah 2 U (Ab (Z (Aa (Ae (Ah 12 U (Ah 12 U (Ah 6 U (Ab (Z (An (Ap U U ?_))))))))))))
    have e:¬ x.p xse xpr=y.p yse ypr:=fun h=>by obtain ⟨g1,g2,g3,g4,g5,g6,g7,g8,g9,g10⟩:=Gc.1 h;first |exact absurd g1 h26|exact absurd g2 h26|exact absurd g3 h26|exact absurd g4 h26|exact absurd g5 h26|exact absurd g6 h26|exact absurd g7 h26|exact absurd g8 h26|exact absurd g9 h26|exact absurd g10 h26
    replace H:=H.nil
    exact Al ⟨congrArg Value.bool (decide_eq_false e).symm,rfl⟩ H
   refine Ah 12 U (Ah 9 U (Ab (Z (Aa (Ae (Ah 12 U (Ah 12 U (Ah 6 U (Ab (Z (An (Ap U U ?_))))))))))))
   have e:¬ x.p xse xpr=y.p yse ypr:=fun h=>by obtain ⟨g1,g2,g3,g4,g5,g6,g7,g8,g9,g10⟩:=Gc.1 h;first |exact absurd g1 h25|exact absurd g2 h25|exact absurd g3 h25|exact absurd g4 h25|exact absurd g5 h25|exact absurd g6 h25|exact absurd g7 h25|exact absurd g8 h25|exact absurd g9 h25|exact absurd g10 h25
   replace H:=H.nil
   exact Al ⟨congrArg Value.bool (decide_eq_false e).symm,rfl⟩ H
  refine Ah 12 U (Ah 12 U (Ah 4 U (Ab (Z (Aa (Ae (Ah 12 U (Ah 12 U (Ah 6 U (Ab (Z (An (Ap U U ?_)))))))))))))
  have e:¬ x.p xse xpr=y.p yse ypr:=fun h=>by obtain ⟨g1,g2,g3,g4,g5,g6,g7,g8,g9,g10⟩:=Gc.1 h;first |exact absurd g1 h24|exact absurd g2 h24|exact absurd g3 h24|exact absurd g4 h24|exact absurd g5 h24|exact absurd g6 h24|exact absurd g7 h24|exact absurd g8 h24|exact absurd g9 h24|exact absurd g10 h24
  replace H:=H.nil
  exact Al ⟨congrArg Value.bool (decide_eq_false e).symm,rfl⟩ H
 refine Ah 12 U (Ah 12 U (Ah 11 U (Ab (Z (Aa (Ae (Ah 12 U (Ah 12 U (Ah 6 U (Ab (Z (An (Ap U U ?_)))))))))))))
 have e:¬ x.p xse xpr=y.p yse ypr:=fun h=>by obtain ⟨g1,g2,g3,g4,g5,g6,g7,g8,g9,g10⟩:=Gc.1 h;first |exact absurd g1 h23|exact absurd g2 h23|exact absurd g3 h23|exact absurd g4 h23|exact absurd g5 h23|exact absurd g6 h23|exact absurd g7 h23|exact absurd g8 h23|exact absurd g9 h23|exact absurd g10 h23
 replace H:=H.nil
 exact Al ⟨congrArg Value.bool (decide_eq_false e).symm,rfl⟩ H
theorem dE  :
    Cn Tryz.prog 40 [] [] [] (fun v Bs=>∃ vS:Value,∃ vP:Value,v=.agg #[vS,.int .i64 1,vP,.slice none 0 0,vP,.int .i64 1,.int .i64 1,.int .i64 1,.slice none 0 0,.int .i64 1,.int .i64 2,.int .i64 3]∧Bs=[Y (At Ag) vS [(Ge,[])],Y Af vP EN]):=by
 intro w0 F0 H
 refine enter Tryz.func40 U U (Nat.le_of_ble_eq_true U) (Aa (Ae (DD U U U Tr H (fun b1 w H=>(Ab (Z ?_))))))
 replace H:Hd _ _ _ [blk b1 [.slice none 0 0,.int .i64 0,.slice none 0 0,.slice none 0 0,.slice none 0 0,.int .i64 0,.int .i64 0,.int .i64 0,.slice none 0 0,.int .i64 0,.int .i64 0,.int .i64 0] 28] []:=H
 refine Aa (Ae (V U U (Dl (parts:=[(0,.const (.int .i64 0))]) (vs:=[.int .i64 0]) (cs:=[.int .i64 0,.int .i64 0,.string ⟨#[]⟩]) U TH U U) (Cg (parts:=[(0,.tmp 2)]) (vs:=[.agg #[.int .i64 0,.int .i64 0,.string ⟨#[]⟩]]) (cs:=[.int .i64 0,.int .i64 0,.string ⟨#[]⟩]) U U U HS LP U (by decide) (by decide) U U H (fun b2 w H=>?_))))
 replace H:=H.h1 (A:=blk b2 [.int .i64 0,.int .i64 0,.string ⟨#[]⟩] 124)
 refine Ad U (Ab (Z (Aa (Ae (Cg (parts:=[(0,.const (.slice none 0 0))]) (vs:=[.slice none 0 0]) (cs:=[.slice none 0 0]) U U U Gy LR U (by decide) (by decide) U U H (fun b3 w H=>(Ah 2 U (V U U (Dl (parts:=[(0,.tmp 4),(1,.const (.int .i64 1)),(2,.tmp 5),(4,.tmp 6),(5,.const (.int .i64 1)),(6,.const (.int .i64 1)),(7,.const (.int .i64 1))]) (vs:=[.slice (some ⟨b3,0,none⟩) 1 1,.int .i64 1,.slice (some ⟨b2,0,none⟩) 1 1,.slice (some ⟨b2,0,none⟩) 1 1,.int .i64 1,.int .i64 1,.int .i64 1]) (cs:=[.slice (some ⟨b3,0,none⟩) 1 1,.int .i64 1,.slice (some ⟨b2,0,none⟩) 1 1,.slice none 0 0,.slice (some ⟨b2,0,none⟩) 1 1,.int .i64 1,.int .i64 1,.int .i64 1,.slice none 0 0]) U TK U U) (V U U (Dl (parts:=[(0,.tmp 7),(1,.const (.int .i64 1)),(2,.const (.int .i64 2)),(3,.const (.int .i64 3))]) (vs:=[.agg #[.slice (some ⟨b3,0,none⟩) 1 1,.int .i64 1,.slice (some ⟨b2,0,none⟩) 1 1,.slice none 0 0,.slice (some ⟨b2,0,none⟩) 1 1,.int .i64 1,.int .i64 1,.int .i64 1,.slice none 0 0],.int .i64 1,.int .i64 2,.int .i64 3]) (cs:=[.slice (some ⟨b3,0,none⟩) 1 1,.int .i64 1,.slice (some ⟨b2,0,none⟩) 1 1,.slice none 0 0,.slice (some ⟨b2,0,none⟩) 1 1,.int .i64 1,.int .i64 1,.int .i64 1,.slice none 0 0,.int .i64 1,.int .i64 2,.int .i64 3]) U TN U U) ?_)))))))))
 replace H:=H.p2
 refine Bx U U U EH U U H U (Nat.le_of_ble_eq_true U) (fun u hu=>by simp [Value.cells] at hu;rcases hu with rfl|rfl|rfl|rfl|rfl|rfl|rfl|rfl|rfl|rfl|rfl|rfl<;>rfl) (fun w H=>?_)
 replace H:Hd _ _ _ [blk b1 [.slice (some ⟨b3,0,none⟩) 1 1,.int .i64 1,.slice (some ⟨b2,0,none⟩) 1 1,.slice none 0 0,.slice (some ⟨b2,0,none⟩) 1 1,.int .i64 1,.int .i64 1,.int .i64 1,.slice none 0 0,.int .i64 1,.int .i64 2,.int .i64 3] 28,blk b3 [.slice none 0 0] 47,blk b2 [.int .i64 0,.int .i64 0,.string ⟨#[]⟩] 124] []:=H
 refine Ab (Z (An (FP (cs:=[.slice (some ⟨b3,0,none⟩) 1 1,.int .i64 1,.slice (some ⟨b2,0,none⟩) 1 1,.slice none 0 0,.slice (some ⟨b2,0,none⟩) 1 1,.int .i64 1,.int .i64 1,.int .i64 1,.slice none 0 0,.int .i64 1,.int .i64 2,.int .i64 3]) U U EH U (H.cellsI 0 U U) ?_)))
 replace H:=H.p2
 replace H:Hd w0 F0 w [Y Af (.slice (some ⟨b2,0,none⟩) 1 1) EN,blk b1 [.slice (some ⟨b3,0,none⟩) 1 1,.int .i64 1,.slice (some ⟨b2,0,none⟩) 1 1,.slice none 0 0,.slice (some ⟨b2,0,none⟩) 1 1,.int .i64 1,.int .i64 1,.int .i64 1,.slice none 0 0,.int .i64 1,.int .i64 2,.int .i64 3] 28,blk b3 [.slice none 0 0] 47] []:=H.turn (fun F h=>IA h rfl (by decide) rfl)
 replace H:=H.newnil Ag|>.p3|>.k3
 replace H:Hd w0 F0 w [Y DR (.slice (some ⟨b3,0,none⟩) 1 1) (BC ([(Ge,[])]:List (Value×List Aq))),Y Ag (.slice none 0 0) [],Y Af (.slice (some ⟨b2,0,none⟩) 1 1) EN] []:=H.turn (fun F h=>IA h rfl (by decide) rfl)
 replace H:=H.p1
 replace H:=Hd.stI (Bs:=[Y Ag (.slice none 0 0) []]) H
 replace H:=H.h1 (A:=GK Ag ([(Ge,[])]:List (Value×List Aq)))|>.p1|>.hdI|>.h1 (A:=Y (At Ag) (.slice (some ⟨b3,0,none⟩) 1 1) [(Ge,[])])
 exact Al ⟨(.slice (some ⟨b3,0,none⟩) 1 1),(.slice (some ⟨b2,0,none⟩) 1 1),rfl,rfl⟩ H
theorem Rq (b:Nat) (C:Cf) (N:Ci) (vl:Value) (ls:List (Bl BE)) (hnb:N.n≤N.b.length∧N.b.length≤1000000) (hlN:ls.length≤10000000∧N.held.length≤10000000):
    Cn Tryz.prog 46 [.pointer (some ⟨b,0,none⟩),vl,.slice none 0 0] [Cj b C N,Y BF vl ls] [] (fun v Bs=>∃ z2:List (Bl BE),Bs=[Y BF v z2,Cj b C (FR N (ls.map B4))]∧(z2.map B4=Ik N (ls.map B4))):=by
 intro w0 F0 H
 obtain ⟨A1,c2,rfl,hc3,hm4,hp5⟩:=H.fA 1 rfl
 replace H:Hd _ _ _ [Cj b C N,Y BF (.slice A1 ls.length c2) ls] []:=H
 obtain ⟨vS6,vM7,vC8,vR9,vK10,J11,d12,hv13,zs14,wb15,⟨hsj16,hzs17⟩,H⟩:=GQ b C N H
 replace H:=H.h9 (A:=blk b [vS6,.int .i64 J11.parts,vM7,vC8,vR9,.int .i64 J11.chunk,.int .i64 J11.window,.int .i64 J11.fuel,vK10,.int .i64 C.w,.int .i64 C.t,.int .i64 C.o,.int .i64 N.id,.bool N.up,.pointer (some ⟨d12,0,none⟩),hv13,.pointer none,.pointer (some ⟨wb15,0,none⟩)] 93) (B:=Y (At Ag) vS6 J11.us) (C:=Y Af vM7 J11.map) (D:=Y Af vC8 J11.comb) (E:=Y Af vR9 J11.red) (F:=Y (Ai .i64) vK10 J11.marks) (G:=Bz d12 N.b N.n) (I:=Y BF hv13 zs14) (J:=B6 wb15 (Bp J11 C) N.W)
 obtain ⟨A18,c19,rfl,hc20,hm21,hp22⟩:=H.fA 7 rfl
 have hzl:zs14.length=N.held.length:=by rw [←hzs17,List.length_map]
 replace H:=H.p9
 replace H:=Hd.twO H
 replace H:=H.h2 (A:=Y Ca (.slice A1 ls.length c2) (ls.map A_)) (B:=BD ls)
 have hlfa:(ls.map A_).length=ls.length:=List.length_map ..
 replace H:=H.p9
 replace H:=Hd.twO H
 replace H:=H.h2 (A:=Y Ca (.slice A18 zs14.length c19) (zs14.map A_)) (B:=BD zs14)
 have hlfb:(zs14.map A_).length=zs14.length:=List.length_map ..
 refine enter Tryz.func46 U U (Nat.le_of_ble_eq_true U) (Aa (Ae (Ad U (Ab (Z (Aa (Aa (Ae (Ad U (V U U (Bj U LK U) (Ad U (Ab (Z (AW (B1 (σ:=Nat) (fun k=>[(0,.pointer (some ⟨b,0,none⟩)),(1,.slice A1 ls.length c2),(6,.slice none 0 0),(12,.slice none 0 0),(13,.int .i64 0),(14,.int .i64 ((k:Nat):Int))]) (fun k w=>(Hd w0 F0 w [Y Ca (.slice A18 zs14.length c19) (zs14.map A_),BD zs14,Y Ca (.slice A1 ls.length c2) (ls.map A_),BD ls,blk b [vS6,.int .i64 J11.parts,vM7,vC8,vR9,.int .i64 J11.chunk,.int .i64 J11.window,.int .i64 J11.fuel,vK10,.int .i64 C.w,.int .i64 C.t,.int .i64 C.o,.int .i64 N.id,.bool N.up,.pointer (some ⟨d12,0,none⟩),.slice A18 zs14.length c19,.pointer none,.pointer (some ⟨wb15,0,none⟩)] 93,Y (At Ag) vS6 J11.us,Y Af vM7 J11.map,Y Af vC8 J11.comb,Y Af vR9 J11.red,Y (Ai .i64) vK10 J11.marks,Bz d12 N.b N.n,B6 wb15 (Bp J11 C) N.W] [])) (fun k=>0 - k) 0 ⟨rfl,rfl,rfl,rfl,rfl,rfl,trivial⟩ H ?_)))))))))))))))
 rintro k w H
 refine Aa (Ae (V U U (Br U U U) (Ab (Z (Aa ?_)))))
 refine AC U (fun h23=>?_) (fun h23=>?_)
 ·exfalso;omega
 refine BQ (AV (AV (BS (Z (Aa (Aa (Ae (Ad U (V U U (Bj U Jc U) (Ad U (Ab (Z (AW ?_)))))))))))))
 replace H:Hd _ _ _ [Y Ca (.slice A18 zs14.length c19) (zs14.map A_),BD zs14,Y Ca (.slice A1 ls.length c2) (ls.map A_),BD ls,blk b [vS6,.int .i64 J11.parts,vM7,vC8,vR9,.int .i64 J11.chunk,.int .i64 J11.window,.int .i64 J11.fuel,vK10,.int .i64 C.w,.int .i64 C.t,.int .i64 C.o,.int .i64 N.id,.bool N.up,.pointer (some ⟨d12,0,none⟩),.slice A18 zs14.length c19,.pointer none,.pointer (some ⟨wb15,0,none⟩)] 93,Y (At Ag) vS6 J11.us,Y Af vM7 J11.map,Y Af vC8 J11.comb,Y Af vR9 J11.red,Y (Ai .i64) vK10 J11.marks,Bz d12 N.b N.n,B6 wb15 (Bp J11 C) N.W] []:=H
 replace H:Hd w0 F0 w [Y Ca (.slice A18 zs14.length c19) ((zs14++(ls.take 0).map (CO N.id)).map A_),BD zs14,Y Ca (.slice A1 ls.length c2) (ls.map A_),BD ls,blk b [vS6,.int .i64 J11.parts,vM7,vC8,vR9,.int .i64 J11.chunk,.int .i64 J11.window,.int .i64 J11.fuel,vK10,.int .i64 C.w,.int .i64 C.t,.int .i64 C.o,.int .i64 N.id,.bool N.up,.pointer (some ⟨d12,0,none⟩),.slice A18 zs14.length c19,.pointer none,.pointer (some ⟨wb15,0,none⟩)] 93,Y (At Ag) vS6 J11.us,Y Af vM7 J11.map,Y Af vC8 J11.comb,Y Af vR9 J11.red,Y (Ai .i64) vK10 J11.marks,Bz d12 N.b N.n,B6 wb15 (Bp J11 C) N.W] []:=by rw [List.take_zero,List.map_nil,List.append_nil];exact H
 replace H:=H.p3.p3.pick 11 rfl|>.p3|>.pick 11 rfl|>.pick 11 rfl|>.pick 11 rfl|>.pick 11 rfl|>.pick 11 rfl|>.pick 11 rfl|>.pick 11 rfl
 refine B1 (σ:=Nat×Value) (fun (k,q)=>[(0,.pointer (some ⟨b,0,none⟩)),(6,.slice none 0 0),(27,.slice A1 ls.length c2),(28,.int .i64 ((ls.length:Nat):Int)),(29,.int .i64 ((k:Nat):Int))]) (fun (k,q) w=>(Hd w0 F0 w [blk b [vS6,.int .i64 J11.parts,vM7,vC8,vR9,.int .i64 J11.chunk,.int .i64 J11.window,.int .i64 J11.fuel,vK10,.int .i64 C.w,.int .i64 C.t,.int .i64 C.o,.int .i64 N.id,.bool N.up,.pointer (some ⟨d12,0,none⟩),q,.pointer none,.pointer (some ⟨wb15,0,none⟩)] 93,Y (At Ag) vS6 J11.us,Y Af vM7 J11.map,Y Af vC8 J11.comb,Y Af vR9 J11.red,Y (Ai .i64) vK10 J11.marks,Bz d12 N.b N.n,Y Ca q ((zs14++(ls.take k).map (CO N.id)).map A_),B6 wb15 (Bp J11 C) N.W,Y Ca (.slice A1 ls.length c2) (ls.map A_),BD ls,BD zs14] [])∧(k≤(ls.map A_).length)) (fun (k,q)=>(ls.map A_).length - k) (0,.slice A18 zs14.length c19) ⟨rfl,rfl,rfl,rfl,rfl,trivial⟩ ⟨H,Nat.zero_le _⟩ ?_
 rintro ⟨k,q⟩ w ⟨H,hk⟩
 have hlt9:((zs14++(ls.take k).map (CO N.id)).map A_).length≤zs14.length+k:=by simp only [List.length_map,List.length_append,List.length_take];omega
 refine Aa (Ae (V U U (Br U U U) (Ab (Z (Aa ?_)))))
 refine AC U (fun h24=>?_) (fun h24=>?_)
 ·refine Az (Z (Aa (AW (Aa (Ae ?_)))))
  obtain ⟨x25,hx26⟩:∃ z9,(ls.map A_)[k]?=some z9:=⟨_,List.getElem?_eq_getElem (show k<(ls.map A_).length by omega)⟩
  have th27:=H.thA 9 rfl hx26
  refine V U U (Bi (p:=Ba A1+k*12) U EG U U (by omega) (by omega) th27 U) (V U U (BG (cs:=[.int .i64 x25.h.fr,.int .i64 x25.h.to,.int .i64 x25.h.m.kind,.int .i64 x25.h.m.sp,.int .i64 x25.h.m.att,.int .i64 x25.h.m.part,.int .i64 x25.h.m.seq,.int .i64 x25.h.m.next,.int .i64 x25.h.m.ep,.int .i64 x25.h.m.why,.slice x25.hs.A x25.hs.n x25.hs.c,.slice x25.hp.A x25.hp.n x25.hp.c]) U NU U U (H.elsA 9 U hx26 U)) (DD U U U Gk H (fun b28 w H=>(Bx U U U NU U U H U (Nat.le_of_ble_eq_true U) (fun u hu=>by simp [Value.cells] at hu;rcases hu with rfl|rfl|rfl|rfl|rfl|rfl|rfl|rfl|rfl|rfl|rfl|rfl<;>rfl) (fun w H=>?_)))))
  replace H:=H.h9 (A:=blk b28 [.int .i64 x25.h.fr,.int .i64 x25.h.to,.int .i64 x25.h.m.kind,.int .i64 x25.h.m.sp,.int .i64 x25.h.m.att,.int .i64 x25.h.m.part,.int .i64 x25.h.m.seq,.int .i64 x25.h.m.next,.int .i64 x25.h.m.ep,.int .i64 x25.h.m.why,.slice x25.hs.A x25.hs.n x25.hs.c,.slice x25.hp.A x25.hp.n x25.hp.c] 51) (B:=blk b [vS6,.int .i64 J11.parts,vM7,vC8,vR9,.int .i64 J11.chunk,.int .i64 J11.window,.int .i64 J11.fuel,vK10,.int .i64 C.w,.int .i64 C.t,.int .i64 C.o,.int .i64 N.id,.bool N.up,.pointer (some ⟨d12,0,none⟩),q,.pointer none,.pointer (some ⟨wb15,0,none⟩)] 93) (J:=Y Ca q ((zs14++(ls.take k).map (CO N.id)).map A_))
  refine Ab (Z (Aa (Ae (Ad U (V U U (AJ U U) (V U U (Aj U Mn U) (V U U (Am U AE U (H.cellI 1 U U)) (V U U (Aj U Mm U) (Bx U U U AE U U H U (Nat.le_of_ble_eq_true U) (fun u hu=>by simp [Value.cells] at hu;subst hu;rfl) (fun w H=>?_))))))))))
  replace H:=H.h1 (A:=blk b28 [.int .i64 N.id,.int .i64 x25.h.to,.int .i64 x25.h.m.kind,.int .i64 x25.h.m.sp,.int .i64 x25.h.m.att,.int .i64 x25.h.m.part,.int .i64 x25.h.m.seq,.int .i64 x25.h.m.next,.int .i64 x25.h.m.ep,.int .i64 x25.h.m.why,.slice x25.hs.A x25.hs.n x25.hs.c,.slice x25.hp.A x25.hp.n x25.hp.c] 51)
  refine Ab (Z ?_)
  replace H:=H.pick 12 rfl|>.pick 12 rfl|>.pick 12 rfl|>.pick 12 rfl|>.pick 11 rfl|>.pick 11 rfl|>.pick 11 rfl|>.pick 11 rfl|>.pick 11 rfl|>.pick 11 rfl|>.pick 10 rfl
  refine Ce (.e 0 (.e 1 (.e 2 (.e 3 (.e 5 (.b 4 6 (.m 6 (.m 7 (.e 8 (.e 9 (.m 10 .z))))) (.m 4 (.m 7 (.e 8 (.e 9 (.m 10 .z))))))))))) (fun w=>∃ Ar,Hd w0 F0 w (blk b28 [.int .i64 N.id,.int .i64 x25.h.to,.int .i64 x25.h.m.kind,.int .i64 x25.h.m.sp,.int .i64 x25.h.m.att,.int .i64 x25.h.m.part,.int .i64 x25.h.m.seq,.int .i64 x25.h.m.next,.int .i64 x25.h.m.ep,.int .i64 x25.h.m.why,.slice x25.hs.A x25.hs.n x25.hs.c,.slice x25.hp.A x25.hp.n x25.hp.c] 51::Y (At Ag) vS6 J11.us::Y Af vM7 J11.map::Y Af vC8 J11.comb::Y Af vR9 J11.red::Y (Ai .i64) vK10 J11.marks::Bz d12 N.b N.n::B6 wb15 (Bp J11 C) N.W::Y Ca (.slice A1 ls.length c2) (ls.map A_)::BD ls::BD zs14::Ar) []) mo (by kernel_rfl) (fun w H=>⟨_,H⟩) H (fun w H=>(Au U (Au U (Ao U U U (fun w ⟨Ar,H⟩=>AJ U U) (Ao U U U (fun w ⟨Ar,H⟩=>Aj U Ib U) ?_)))))
  refine Ao U U U (fun w ⟨Ar,H⟩=>BG (cs:=[.int .i64 N.id,.int .i64 x25.h.to,.int .i64 x25.h.m.kind,.int .i64 x25.h.m.sp,.int .i64 x25.h.m.att,.int .i64 x25.h.m.part,.int .i64 x25.h.m.seq,.int .i64 x25.h.m.next,.int .i64 x25.h.m.ep,.int .i64 x25.h.m.why,.slice x25.hs.A x25.hs.n x25.hs.c,.slice x25.hp.A x25.hp.n x25.hp.c]) U NU U U (H.cellsI 0 U U)) ?_
  refine Gm U U ?_ ?_
  ·refine V U U (Am U HU U (H.cellI 11 U U)) (AH ⟨_,H⟩ (AO U (Cg (parts:=[(0,.tmp 43)]) (vs:=[.agg #[.int .i64 N.id,.int .i64 x25.h.to,.int .i64 x25.h.m.kind,.int .i64 x25.h.m.sp,.int .i64 x25.h.m.att,.int .i64 x25.h.m.part,.int .i64 x25.h.m.seq,.int .i64 x25.h.m.next,.int .i64 x25.h.m.ep,.int .i64 x25.h.m.why,.slice x25.hs.A x25.hs.n x25.hs.c,.slice x25.hp.A x25.hp.n x25.hp.c]]) (cs:=[.int .i64 N.id,.int .i64 x25.h.to,.int .i64 x25.h.m.kind,.int .i64 x25.h.m.sp,.int .i64 x25.h.m.att,.int .i64 x25.h.m.part,.int .i64 x25.h.m.seq,.int .i64 x25.h.m.next,.int .i64 x25.h.m.ep,.int .i64 x25.h.m.why,.slice x25.hs.A x25.hs.n x25.hs.c,.slice x25.hp.A x25.hp.n x25.hp.c]) U U U EG Gk U (by decide) (by decide) U U H (fun b29 w H=>?_))))
   replace H:=H.h1 (A:=blk b29 [.int .i64 N.id,.int .i64 x25.h.to,.int .i64 x25.h.m.kind,.int .i64 x25.h.m.sp,.int .i64 x25.h.m.att,.int .i64 x25.h.m.part,.int .i64 x25.h.m.seq,.int .i64 x25.h.m.next,.int .i64 x25.h.m.ep,.int .i64 x25.h.m.why,.slice x25.hs.A x25.hs.n x25.hs.c,.slice x25.hp.A x25.hp.n x25.hp.c] 51)|>.pick 11 rfl|>.pick 11 rfl|>.pick 11 rfl|>.pick 11 rfl|>.pick 11 rfl|>.pick 11 rfl|>.pick 11 rfl|>.pick 11 rfl|>.pick 11 rfl|>.pick 11 rfl|>.pick 11 rfl
   refine AH ⟨_,H⟩ (AO U ?_)
   replace H:=H.pick 13 rfl
   refine CE (xs:=(zs14++(ls.take k).map (CO N.id)).map A_) (ys:=[(⟨⟨N.id,x25.h.to,⟨x25.h.m.kind,x25.h.m.sp,x25.h.m.att,x25.h.m.part,x25.h.m.seq,x25.h.m.next,x25.h.m.ep,x25.h.m.why⟩⟩,⟨x25.hs.A,x25.hs.n,x25.hs.c⟩,⟨x25.hp.A,x25.hp.n,x25.hp.c⟩⟩:Di BE)]) U U U EG Gk U (by decide) U U H (by first |omega|(simp only [List.length_append,List.length_cons,List.length_nil,List.length_map];omega)) (fun F hA hR=>CC (hA _ (List.mem_of_getElem? (i:=11) U)) U (by decide) (Be.flat_eq.2 U)) (fun v30 w H=>?_)
   replace H:=H.h1 (A:=Y Ca v30 (((zs14++(ls.take k).map (CO N.id)).map A_)++[(⟨⟨N.id,x25.h.to,⟨x25.h.m.kind,x25.h.m.sp,x25.h.m.att,x25.h.m.part,x25.h.m.seq,x25.h.m.next,x25.h.m.ep,x25.h.m.why⟩⟩,⟨x25.hs.A,x25.hs.n,x25.hs.c⟩,⟨x25.hp.A,x25.hp.n,x25.hp.c⟩⟩:Di BE)]))|>.pick 11 rfl|>.pick 11 rfl|>.pick 11 rfl|>.pick 11 rfl|>.pick 11 rfl|>.pick 11 rfl|>.pick 11 rfl|>.pick 11 rfl|>.pick 11 rfl|>.pick 11 rfl|>.pick 11 rfl
   refine AH ⟨_,H⟩ (Ao U U U (fun w ⟨Ar,H⟩=>AJ U U) (Ao U U U (fun w ⟨Ar,H⟩=>Aj U Ib U) (AO U ?_)))
   obtain ⟨A31,c32,rfl,hc33,hm34,hp35⟩:=H.fA 11 rfl
   replace H:=H.pick 13 rfl
   refine Bx U U U HU U U H U (Nat.le_of_ble_eq_true U) (fun u hu=>by simp [Value.cells] at hu;subst hu;rfl) (fun w H=>?_)
   replace H:Hd _ _ _ [blk b [vS6,.int .i64 J11.parts,vM7,vC8,vR9,.int .i64 J11.chunk,.int .i64 J11.window,.int .i64 J11.fuel,vK10,.int .i64 C.w,.int .i64 C.t,.int .i64 C.o,.int .i64 N.id,.bool N.up,.pointer (some ⟨d12,0,none⟩),.slice A31 ((((zs14++(ls.take k).map (CO N.id)).map A_)++[(⟨⟨N.id,x25.h.to,⟨x25.h.m.kind,x25.h.m.sp,x25.h.m.att,x25.h.m.part,x25.h.m.seq,x25.h.m.next,x25.h.m.ep,x25.h.m.why⟩⟩,⟨x25.hs.A,x25.hs.n,x25.hs.c⟩,⟨x25.hp.A,x25.hp.n,x25.hp.c⟩⟩:Di BE)]).length) c32,.pointer none,.pointer (some ⟨wb15,0,none⟩)] 93,blk b28 [.int .i64 N.id,.int .i64 x25.h.to,.int .i64 x25.h.m.kind,.int .i64 x25.h.m.sp,.int .i64 x25.h.m.att,.int .i64 x25.h.m.part,.int .i64 x25.h.m.seq,.int .i64 x25.h.m.next,.int .i64 x25.h.m.ep,.int .i64 x25.h.m.why,.slice x25.hs.A x25.hs.n x25.hs.c,.slice x25.hp.A x25.hp.n x25.hp.c] 51,Y (At Ag) vS6 J11.us,Y Af vM7 J11.map,Y Af vC8 J11.comb,Y Af vR9 J11.red,Y (Ai .i64) vK10 J11.marks,Bz d12 N.b N.n,B6 wb15 (Bp J11 C) N.W,Y Ca (.slice A1 ls.length c2) (ls.map A_),BD ls,BD zs14,Y Ca (.slice A31 ((((zs14++(ls.take k).map (CO N.id)).map A_)++[(⟨⟨N.id,x25.h.to,⟨x25.h.m.kind,x25.h.m.sp,x25.h.m.att,x25.h.m.part,x25.h.m.seq,x25.h.m.next,x25.h.m.ep,x25.h.m.why⟩⟩,⟨x25.hs.A,x25.hs.n,x25.hs.c⟩,⟨x25.hp.A,x25.hp.n,x25.hp.c⟩⟩:Di BE)]).length) c32) (((zs14++(ls.take k).map (CO N.id)).map A_)++[(⟨⟨N.id,x25.h.to,⟨x25.h.m.kind,x25.h.m.sp,x25.h.m.att,x25.h.m.part,x25.h.m.seq,x25.h.m.next,x25.h.m.ep,x25.h.m.why⟩⟩,⟨x25.hs.A,x25.hs.n,x25.hs.c⟩,⟨x25.hp.A,x25.hp.n,x25.hp.c⟩⟩:Di BE)]),blk b29 [.int .i64 N.id,.int .i64 x25.h.to,.int .i64 x25.h.m.kind,.int .i64 x25.h.m.sp,.int .i64 x25.h.m.att,.int .i64 x25.h.m.part,.int .i64 x25.h.m.seq,.int .i64 x25.h.m.next,.int .i64 x25.h.m.ep,.int .i64 x25.h.m.why,.slice x25.hs.A x25.hs.n x25.hs.c,.slice x25.hp.A x25.hp.n x25.hp.c] 51] []:=H
   replace H:=H.pick 11 rfl|>.pick 11 rfl|>.pick 11 rfl|>.pick 11 rfl|>.pick 11 rfl|>.pick 11 rfl|>.pick 11 rfl|>.pick 11 rfl|>.pick 11 rfl|>.pick 11 rfl|>.pick 11 rfl
   refine AH ⟨_,H⟩ (BO (Bb (Z (Ae (V U U (Bc (z:=((k+1:Nat):Int)) U U U (by rw [AI (by omega) (by omega)];omega)) (Ad U (Ab ?_)))))))
   replace H:=H.pick 10 rfl|>.pick 10 rfl|>.pick 10 rfl|>.pick 10 rfl|>.pick 12 rfl|>.pick 11 rfl|>.pick 11 rfl|>.pick 11 rfl|>.pick 11 rfl|>.pick 11 rfl|>.pick 11 rfl|>.pick 12 rfl|>.keep 12
   obtain ⟨m9,hm9,hxe9⟩:=Q5 hx26
   replace H:=H.p7.tellK (ys:=(zs14++(ls.take (k+1)).map (CO N.id)).map A_) (by rw [KS hm9,←List.append_assoc,List.map_append,hxe9];rfl)|>.sel 12 [1,2,3,4,5,6,7,0,8,9,10,11] [] rfl (by kernel_rfl)
   replace H:Hd _ _ _ [blk b [vS6,.int .i64 J11.parts,vM7,vC8,vR9,.int .i64 J11.chunk,.int .i64 J11.window,.int .i64 J11.fuel,vK10,.int .i64 C.w,.int .i64 C.t,.int .i64 C.o,.int .i64 N.id,.bool N.up,.pointer (some ⟨d12,0,none⟩),.slice A31 ((((zs14++(ls.take k).map (CO N.id)).map A_)++[(⟨⟨N.id,x25.h.to,⟨x25.h.m.kind,x25.h.m.sp,x25.h.m.att,x25.h.m.part,x25.h.m.seq,x25.h.m.next,x25.h.m.ep,x25.h.m.why⟩⟩,⟨x25.hs.A,x25.hs.n,x25.hs.c⟩,⟨x25.hp.A,x25.hp.n,x25.hp.c⟩⟩:Di BE)]).length) c32,.pointer none,.pointer (some ⟨wb15,0,none⟩)] 93,Y (At Ag) vS6 J11.us,Y Af vM7 J11.map,Y Af vC8 J11.comb,Y Af vR9 J11.red,Y (Ai .i64) vK10 J11.marks,Bz d12 N.b N.n,Y Ca (.slice A31 ((((zs14++(ls.take k).map (CO N.id)).map A_)++[(⟨⟨N.id,x25.h.to,⟨x25.h.m.kind,x25.h.m.sp,x25.h.m.att,x25.h.m.part,x25.h.m.seq,x25.h.m.next,x25.h.m.ep,x25.h.m.why⟩⟩,⟨x25.hs.A,x25.hs.n,x25.hs.c⟩,⟨x25.hp.A,x25.hp.n,x25.hp.c⟩⟩:Di BE)]).length) c32) ((zs14++(ls.take (k+1)).map (CO N.id)).map A_),B6 wb15 (Bp J11 C) N.W,Y Ca (.slice A1 ls.length c2) (ls.map A_),BD ls,BD zs14] []:=H
   exact Bo (s:=(k,undef)) (k+1,.slice A31 ((((zs14++(ls.take k).map (CO N.id)).map A_)++[(⟨⟨N.id,x25.h.to,⟨x25.h.m.kind,x25.h.m.sp,x25.h.m.att,x25.h.m.part,x25.h.m.seq,x25.h.m.next,x25.h.m.ep,x25.h.m.why⟩⟩,⟨x25.hs.A,x25.hs.n,x25.hs.c⟩,⟨x25.hp.A,x25.hp.n,x25.hp.c⟩⟩:Di BE)]).length) c32) ⟨rfl,rfl,rfl,rfl,rfl,trivial⟩ ⟨H,by (try dsimp only);omega⟩ (by (try dsimp only);omega)
  refine Cg (parts:=[(0,.tmp 43)]) (vs:=[.agg #[.int .i64 N.id,.int .i64 x25.h.to,.int .i64 x25.h.m.kind,.int .i64 x25.h.m.sp,.int .i64 x25.h.m.att,.int .i64 x25.h.m.part,.int .i64 x25.h.m.seq,.int .i64 x25.h.m.next,.int .i64 x25.h.m.ep,.int .i64 x25.h.m.why,.slice x25.hs.A x25.hs.n x25.hs.c,.slice x25.hp.A x25.hp.n x25.hp.c]]) (cs:=[.int .i64 N.id,.int .i64 x25.h.to,.int .i64 x25.h.m.kind,.int .i64 x25.h.m.sp,.int .i64 x25.h.m.att,.int .i64 x25.h.m.part,.int .i64 x25.h.m.seq,.int .i64 x25.h.m.next,.int .i64 x25.h.m.ep,.int .i64 x25.h.m.why,.slice x25.hs.A x25.hs.n x25.hs.c,.slice x25.hp.A x25.hp.n x25.hp.c]) U U U EG Gk U (by decide) (by decide) U U H (fun b36 w H=>?_)
  replace H:=H.h1 (A:=blk b36 [.int .i64 N.id,.int .i64 x25.h.to,.int .i64 x25.h.m.kind,.int .i64 x25.h.m.sp,.int .i64 x25.h.m.att,.int .i64 x25.h.m.part,.int .i64 x25.h.m.seq,.int .i64 x25.h.m.next,.int .i64 x25.h.m.ep,.int .i64 x25.h.m.why,.slice x25.hs.A x25.hs.n x25.hs.c,.slice x25.hp.A x25.hp.n x25.hp.c] 51)|>.pick 11 rfl|>.pick 11 rfl|>.pick 11 rfl|>.pick 11 rfl|>.pick 11 rfl|>.pick 11 rfl|>.pick 11 rfl|>.pick 11 rfl|>.pick 11 rfl|>.pick 11 rfl|>.pick 11 rfl
  refine AH ⟨_,H⟩ (AO U (V U U (Am U HU U (H.cellI 12 U U)) (AH ⟨_,H⟩ (AO U ?_))))
  replace H:=H.pick 13 rfl
  refine CE (xs:=(zs14++(ls.take k).map (CO N.id)).map A_) (ys:=[(⟨⟨N.id,x25.h.to,⟨x25.h.m.kind,x25.h.m.sp,x25.h.m.att,x25.h.m.part,x25.h.m.seq,x25.h.m.next,x25.h.m.ep,x25.h.m.why⟩⟩,⟨x25.hs.A,x25.hs.n,x25.hs.c⟩,⟨x25.hp.A,x25.hp.n,x25.hp.c⟩⟩:Di BE)]) U U U EG Gk U (by decide) U U H (by first |omega|(simp only [List.length_append,List.length_cons,List.length_nil,List.length_map];omega)) (fun F hA hR=>CC (hA _ (List.mem_of_getElem? (i:=11) U)) U (by decide) (Be.flat_eq.2 U)) (fun v37 w H=>?_)
  replace H:=H.h1 (A:=Y Ca v37 (((zs14++(ls.take k).map (CO N.id)).map A_)++[(⟨⟨N.id,x25.h.to,⟨x25.h.m.kind,x25.h.m.sp,x25.h.m.att,x25.h.m.part,x25.h.m.seq,x25.h.m.next,x25.h.m.ep,x25.h.m.why⟩⟩,⟨x25.hs.A,x25.hs.n,x25.hs.c⟩,⟨x25.hp.A,x25.hp.n,x25.hp.c⟩⟩:Di BE)]))|>.pick 11 rfl|>.pick 11 rfl|>.pick 11 rfl|>.pick 11 rfl|>.pick 11 rfl|>.pick 11 rfl|>.pick 11 rfl|>.pick 11 rfl|>.pick 11 rfl|>.pick 11 rfl|>.pick 11 rfl
  refine AH ⟨_,H⟩ (Ao U U U (fun w ⟨Ar,H⟩=>AJ U U) (Ao U U U (fun w ⟨Ar,H⟩=>Aj U Ib U) (AO U ?_)))
  obtain ⟨A38,c39,rfl,hc40,hm41,hp42⟩:=H.fA 11 rfl
  replace H:=H.pick 13 rfl
  refine Bx U U U HU U U H U (Nat.le_of_ble_eq_true U) (fun u hu=>by simp [Value.cells] at hu;subst hu;rfl) (fun w H=>?_)
  replace H:Hd _ _ _ [blk b [vS6,.int .i64 J11.parts,vM7,vC8,vR9,.int .i64 J11.chunk,.int .i64 J11.window,.int .i64 J11.fuel,vK10,.int .i64 C.w,.int .i64 C.t,.int .i64 C.o,.int .i64 N.id,.bool N.up,.pointer (some ⟨d12,0,none⟩),.slice A38 ((((zs14++(ls.take k).map (CO N.id)).map A_)++[(⟨⟨N.id,x25.h.to,⟨x25.h.m.kind,x25.h.m.sp,x25.h.m.att,x25.h.m.part,x25.h.m.seq,x25.h.m.next,x25.h.m.ep,x25.h.m.why⟩⟩,⟨x25.hs.A,x25.hs.n,x25.hs.c⟩,⟨x25.hp.A,x25.hp.n,x25.hp.c⟩⟩:Di BE)]).length) c39,.pointer none,.pointer (some ⟨wb15,0,none⟩)] 93,blk b28 [.int .i64 N.id,.int .i64 x25.h.to,.int .i64 x25.h.m.kind,.int .i64 x25.h.m.sp,.int .i64 x25.h.m.att,.int .i64 x25.h.m.part,.int .i64 x25.h.m.seq,.int .i64 x25.h.m.next,.int .i64 x25.h.m.ep,.int .i64 x25.h.m.why,.slice x25.hs.A x25.hs.n x25.hs.c,.slice x25.hp.A x25.hp.n x25.hp.c] 51,Y (At Ag) vS6 J11.us,Y Af vM7 J11.map,Y Af vC8 J11.comb,Y Af vR9 J11.red,Y (Ai .i64) vK10 J11.marks,Bz d12 N.b N.n,B6 wb15 (Bp J11 C) N.W,Y Ca (.slice A1 ls.length c2) (ls.map A_),BD ls,BD zs14,Y Ca (.slice A38 ((((zs14++(ls.take k).map (CO N.id)).map A_)++[(⟨⟨N.id,x25.h.to,⟨x25.h.m.kind,x25.h.m.sp,x25.h.m.att,x25.h.m.part,x25.h.m.seq,x25.h.m.next,x25.h.m.ep,x25.h.m.why⟩⟩,⟨x25.hs.A,x25.hs.n,x25.hs.c⟩,⟨x25.hp.A,x25.hp.n,x25.hp.c⟩⟩:Di BE)]).length) c39) (((zs14++(ls.take k).map (CO N.id)).map A_)++[(⟨⟨N.id,x25.h.to,⟨x25.h.m.kind,x25.h.m.sp,x25.h.m.att,x25.h.m.part,x25.h.m.seq,x25.h.m.next,x25.h.m.ep,x25.h.m.why⟩⟩,⟨x25.hs.A,x25.hs.n,x25.hs.c⟩,⟨x25.hp.A,x25.hp.n,x25.hp.c⟩⟩:Di BE)]),blk b36 [.int .i64 N.id,.int .i64 x25.h.to,.int .i64 x25.h.m.kind,.int .i64 x25.h.m.sp,.int .i64 x25.h.m.att,.int .i64 x25.h.m.part,.int .i64 x25.h.m.seq,.int .i64 x25.h.m.next,.int .i64 x25.h.m.ep,.int .i64 x25.h.m.why,.slice x25.hs.A x25.hs.n x25.hs.c,.slice x25.hp.A x25.hp.n x25.hp.c] 51] []:=H
  replace H:=H.pick 11 rfl|>.pick 11 rfl|>.pick 11 rfl|>.pick 11 rfl|>.pick 11 rfl|>.pick 11 rfl|>.pick 11 rfl|>.pick 11 rfl|>.pick 11 rfl|>.pick 11 rfl|>.pick 11 rfl
  refine AH ⟨_,H⟩ (BO (Bb (Z (Ae (V U U (Bc (z:=((k+1:Nat):Int)) U U U (by rw [AI (by omega) (by omega)];omega)) (Ad U (Ab ?_)))))))
  replace H:=H.pick 10 rfl|>.pick 10 rfl|>.pick 10 rfl|>.pick 10 rfl|>.pick 12 rfl|>.pick 11 rfl|>.pick 11 rfl|>.pick 11 rfl|>.pick 11 rfl|>.pick 11 rfl|>.pick 11 rfl|>.pick 12 rfl|>.keep 12
  obtain ⟨m9,hm9,hxe9⟩:=Q5 hx26
  replace H:=H.p7.tellK (ys:=(zs14++(ls.take (k+1)).map (CO N.id)).map A_) (by rw [KS hm9,←List.append_assoc,List.map_append,hxe9];rfl)|>.sel 12 [1,2,3,4,5,6,7,0,8,9,10,11] [] rfl (by kernel_rfl)
  replace H:Hd _ _ _ [blk b [vS6,.int .i64 J11.parts,vM7,vC8,vR9,.int .i64 J11.chunk,.int .i64 J11.window,.int .i64 J11.fuel,vK10,.int .i64 C.w,.int .i64 C.t,.int .i64 C.o,.int .i64 N.id,.bool N.up,.pointer (some ⟨d12,0,none⟩),.slice A38 ((((zs14++(ls.take k).map (CO N.id)).map A_)++[(⟨⟨N.id,x25.h.to,⟨x25.h.m.kind,x25.h.m.sp,x25.h.m.att,x25.h.m.part,x25.h.m.seq,x25.h.m.next,x25.h.m.ep,x25.h.m.why⟩⟩,⟨x25.hs.A,x25.hs.n,x25.hs.c⟩,⟨x25.hp.A,x25.hp.n,x25.hp.c⟩⟩:Di BE)]).length) c39,.pointer none,.pointer (some ⟨wb15,0,none⟩)] 93,Y (At Ag) vS6 J11.us,Y Af vM7 J11.map,Y Af vC8 J11.comb,Y Af vR9 J11.red,Y (Ai .i64) vK10 J11.marks,Bz d12 N.b N.n,Y Ca (.slice A38 ((((zs14++(ls.take k).map (CO N.id)).map A_)++[(⟨⟨N.id,x25.h.to,⟨x25.h.m.kind,x25.h.m.sp,x25.h.m.att,x25.h.m.part,x25.h.m.seq,x25.h.m.next,x25.h.m.ep,x25.h.m.why⟩⟩,⟨x25.hs.A,x25.hs.n,x25.hs.c⟩,⟨x25.hp.A,x25.hp.n,x25.hp.c⟩⟩:Di BE)]).length) c39) ((zs14++(ls.take (k+1)).map (CO N.id)).map A_),B6 wb15 (Bp J11 C) N.W,Y Ca (.slice A1 ls.length c2) (ls.map A_),BD ls,BD zs14] []:=H
  exact Bo (s:=(k,undef)) (k+1,.slice A38 ((((zs14++(ls.take k).map (CO N.id)).map A_)++[(⟨⟨N.id,x25.h.to,⟨x25.h.m.kind,x25.h.m.sp,x25.h.m.att,x25.h.m.part,x25.h.m.seq,x25.h.m.next,x25.h.m.ep,x25.h.m.why⟩⟩,⟨x25.hs.A,x25.hs.n,x25.hs.c⟩,⟨x25.hp.A,x25.hp.n,x25.hp.c⟩⟩:Di BE)]).length) c39) ⟨rfl,rfl,rfl,rfl,rfl,trivial⟩ ⟨H,by (try dsimp only);omega⟩ (by (try dsimp only);omega)
 refine BQ (AV (AV (BS (Z (Aa (Aa (Ae (Ad U (V U U (AJ U U) (V U U (Aj U Ia U) (V U U (Am U Ir U (H.cellI 0 U U)) ?_)))))))))))
 replace H:=H.p6.h8 (B:=blk b [vS6,.int .i64 J11.parts,vM7,vC8,vR9,.int .i64 J11.chunk,.int .i64 J11.window,.int .i64 J11.fuel,vK10,.int .i64 C.w,.int .i64 C.t,.int .i64 C.o,.int .i64 N.id,.bool N.up,.pointer (some ⟨d12,0,none⟩),q,.pointer none,.pointer (some ⟨wb15,0,none⟩)] 93) (I:=Y Ca q ((zs14++(ls.take k).map (CO N.id)).map A_))
 refine sc (L5 d12 N.b N.n (by first |assumption|omega)) H l0 U U (Av MH U U) ?_
 rintro _ _ w ⟨rfl,rfl⟩ H
 refine V U U (CH U U U) (Ab (Z ?_))
 refine AC U (fun h43=>?_) (fun h43=>?_)
 ·refine Aa (Ae (Ad U (Ab (Z (An (AA (Ap U U ?_)))))))
  replace H:Hd w0 F0 w [Bz d12 N.b N.n,blk b [vS6,.int .i64 J11.parts,vM7,vC8,vR9,.int .i64 J11.chunk,.int .i64 J11.window,.int .i64 J11.fuel,vK10,.int .i64 C.w,.int .i64 C.t,.int .i64 C.o,.int .i64 N.id,.bool N.up,.pointer (some ⟨d12,0,none⟩),q,.pointer none,.pointer (some ⟨wb15,0,none⟩)] 93,Y (At Ag) vS6 J11.us,Y Af vM7 J11.map,Y Af vC8 J11.comb,Y Af vR9 J11.red,Y (Ai .i64) vK10 J11.marks,Y Ca q ((zs14++ls.map (CO N.id)).map A_),B6 wb15 (Bp J11 C) N.W,Y Ca (.slice A1 ls.length c2) (ls.map A_),BD ls,BD zs14] []:=by rw [List.take_of_length_le (l:=ls) (by omega)] at H;exact H
  replace H:=H.p6.p6.p6.p6.p6.p6.p7.pick 10 rfl|>.pick 11 rfl|>.keep 11
  rw [←SX N.id ls] at H
  replace H:=NP H
  replace H:Hd _ _ _ [BD (zs14++ls.map (CO N.id)),Y Ca q ((zs14++ls.map (CO N.id)).map A_),blk b [vS6,.int .i64 J11.parts,vM7,vC8,vR9,.int .i64 J11.chunk,.int .i64 J11.window,.int .i64 J11.fuel,vK10,.int .i64 C.w,.int .i64 C.t,.int .i64 C.o,.int .i64 N.id,.bool N.up,.pointer (some ⟨d12,0,none⟩),q,.pointer none,.pointer (some ⟨wb15,0,none⟩)] 93,Y (At Ag) vS6 J11.us,Y Af vM7 J11.map,Y Af vC8 J11.comb,Y Af vR9 J11.red,Y (Ai .i64) vK10 J11.marks,Bz d12 N.b N.n,B6 wb15 (Bp J11 C) N.W] []:=H
  replace H:=H.p1
  replace H:=Hd.twI H
  replace H:=H.h1 (A:=Y BF q (zs14++ls.map (CO N.id)))
  have hzm:(zs14++ls.map (CO N.id)).map B4=N.held++(ls.map B4).map (Hc N.id):=by rw [List.map_append,hzs17,PX]
  have e:FR N (ls.map B4)=({ N with held:=N.held++(ls.map B4).map (Hc N.id) }:Ci):=if_pos (by omega)
  have eo:Ik N (ls.map B4)=[]:=if_pos (by omega)
  replace H:=H.p7.p7.p7.p7.p7.p7.p7
  replace H:=Gv b C ({ N with held:=N.held++(ls.map B4).map (Hc N.id) }:Ci) vS6 vM7 vC8 vR9 vK10 J11 d12 q (zs14++ls.map (CO N.id)) wb15 ⟨hsj16,hzm⟩ H
  replace H:=H.h1 (A:=Cj b C ({ N with held:=N.held++(ls.map B4).map (Hc N.id) }:Ci))|>.newnil BF
  exact Al ⟨[],by rw [e]<;>rfl,eo.symm⟩ H
 refine Az (Z (Aa (Ae (Ad U (V U U (AJ U U) (V U U (Aj U Ib U) (V U U (Am U HU U (H.cellI 1 U U)) (Ad U (Ab (Z (Aa (Ae (Ad U (V U U (AJ U U) (V U U (Aj U Ib U) ?_)))))))))))))))
 replace H:=H.p1
 refine Bx U U U HU U U H U (Nat.le_of_ble_eq_true U) (fun u hu=>by simp [Value.cells] at hu;subst hu;rfl) (fun w H=>?_)
 replace H:=H.h1 (A:=blk b [vS6,.int .i64 J11.parts,vM7,vC8,vR9,.int .i64 J11.chunk,.int .i64 J11.window,.int .i64 J11.fuel,vK10,.int .i64 C.w,.int .i64 C.t,.int .i64 C.o,.int .i64 N.id,.bool N.up,.pointer (some ⟨d12,0,none⟩),.slice none 0 0,.pointer none,.pointer (some ⟨wb15,0,none⟩)] 93)
 refine Ab (Z (Aa (Ae (Ah 2 U (Ab (Z (An (Ap U U ?_))))))))
 replace H:Hd w0 F0 w [blk b [vS6,.int .i64 J11.parts,vM7,vC8,vR9,.int .i64 J11.chunk,.int .i64 J11.window,.int .i64 J11.fuel,vK10,.int .i64 C.w,.int .i64 C.t,.int .i64 C.o,.int .i64 N.id,.bool N.up,.pointer (some ⟨d12,0,none⟩),.slice none 0 0,.pointer none,.pointer (some ⟨wb15,0,none⟩)] 93,Bz d12 N.b N.n,Y (At Ag) vS6 J11.us,Y Af vM7 J11.map,Y Af vC8 J11.comb,Y Af vR9 J11.red,Y (Ai .i64) vK10 J11.marks,Y Ca q ((zs14++ls.map (CO N.id)).map A_),B6 wb15 (Bp J11 C) N.W,Y Ca (.slice A1 ls.length c2) (ls.map A_),BD ls,BD zs14] []:=by rw [List.take_of_length_le (l:=ls) (by omega)] at H;exact H
 replace H:=H.p6.p6.p6.p6.p6.p5.p7.pick 10 rfl|>.pick 11 rfl|>.keep 11
 rw [←SX N.id ls] at H
 replace H:=NP H
 replace H:Hd _ _ _ [BD (zs14++ls.map (CO N.id)),Y Ca q ((zs14++ls.map (CO N.id)).map A_),blk b [vS6,.int .i64 J11.parts,vM7,vC8,vR9,.int .i64 J11.chunk,.int .i64 J11.window,.int .i64 J11.fuel,vK10,.int .i64 C.w,.int .i64 C.t,.int .i64 C.o,.int .i64 N.id,.bool N.up,.pointer (some ⟨d12,0,none⟩),.slice none 0 0,.pointer none,.pointer (some ⟨wb15,0,none⟩)] 93,Y (At Ag) vS6 J11.us,Y Af vM7 J11.map,Y Af vC8 J11.comb,Y Af vR9 J11.red,Y (Ai .i64) vK10 J11.marks,Bz d12 N.b N.n,B6 wb15 (Bp J11 C) N.W] []:=H
 replace H:=H.p1
 replace H:=Hd.twI H
 replace H:=H.h1 (A:=Y BF q (zs14++ls.map (CO N.id)))
 have hzm:(zs14++ls.map (CO N.id)).map B4=N.held++(ls.map B4).map (Hc N.id):=by rw [List.map_append,hzs17,PX]
 have e:FR N (ls.map B4)=({ N with held:=[] }:Ci):=if_neg (by omega)
 have eo:Ik N (ls.map B4)=N.held++(ls.map B4).map (Hc N.id):=if_neg (by omega)
 replace H:=H.newnil BF|>.p9|>.p1|>.p9|>.p9|>.p9|>.p9|>.p9|>.p9|>.p9
 replace H:=Gv b C ({ N with held:=[] }:Ci) vS6 vM7 vC8 vR9 vK10 J11 d12 (.slice none 0 0) [] wb15 ⟨hsj16,rfl⟩ H
 replace H:=H.h1 (A:=Cj b C ({ N with held:=[] }:Ci))|>.p1
 exact Al ⟨(zs14++ls.map (CO N.id)),by rw [e]<;>rfl,hzm.trans eo.symm⟩ H
theorem Rn (b:Nat) (C:Cf) (N:Ci) (hup:N.up=true) (hnb:N.n≤N.b.length∧N.b.length≤1000000) (hhl:N.held.length≤10000000):
    Cn Tryz.prog 15 [.pointer (some ⟨b,0,none⟩)] [Cj b C N] [] (fun v Bs=>∃ z2:List (Bl BE),Bs=[Y BF v z2,Cj b C (F7 N)]∧(z2.map B4=N.held)):=by
 intro w0 F0 H
 obtain ⟨vS1,vM2,vC3,vR4,vK5,J6,d7,hv8,zs9,wb10,⟨hsj11,hzs12⟩,H⟩:=GQ b C N H
 replace H:Hd _ _ _ [blk b [vS1,.int .i64 J6.parts,vM2,vC3,vR4,.int .i64 J6.chunk,.int .i64 J6.window,.int .i64 J6.fuel,vK5,.int .i64 C.w,.int .i64 C.t,.int .i64 C.o,.int .i64 N.id,.bool N.up,.pointer (some ⟨d7,0,none⟩),hv8,.pointer none,.pointer (some ⟨wb10,0,none⟩)] 93,Y (At Ag) vS1 J6.us,Y Af vM2 J6.map,Y Af vC3 J6.comb,Y Af vR4 J6.red,Y (Ai .i64) vK5 J6.marks,Bz d7 N.b N.n,Y BF hv8 zs9,B6 wb10 (Bp J6 C) N.W] []:=H
 obtain ⟨A13,c14,rfl,hc15,hm16,hp17⟩:=H.fA 7 rfl
 refine enter Tryz.func15 U U (Nat.le_of_ble_eq_true U) (Aa (Ae (Ad U (Ab (Z (Aa (Aa (Ae (Ad U (sc (Rr b vS1 vM2 vC3 vR4 vK5 J6 C N.id N.up d7 (.slice A13 zs9.length c14) wb10) H (lA 0 U (fun _ h=>h) l0) U U (Av Qy U U) ?_))))))))))
 rintro _ _ w ⟨rfl,rfl⟩ H
 refine V U U (ES U U U) (Ab (Z ?_))
 refine Dp (b:=!N.up) U (fun h18=>?_) (fun h18=>?_)
 ·exact absurd h18 (by rw [hup];decide)
 refine Az (Z (Aa (Ae (Ad U (V U U (AJ U U) (V U U (Aj U ED U) (V U U (Aj U Ia U) (V U U (Am U Ir U (H.cellI 0 U U)) ?_))))))))
 replace H:=H.p6
 refine sc (UQ d7 N.b N.n) H l0 U U (Av XQ U U) ?_
 rintro _ _ w ⟨rfl,rfl⟩ H
 replace H:=H.h1 (A:=Bz d7 N.b N.b.length)|>.p6|>.p6|>.p6|>.p6|>.p6|>.p6
 replace H:=Gv b C (GA N) vS1 vM2 vC3 vR4 vK5 J6 d7 (.slice A13 zs9.length c14) zs9 wb10 ⟨hsj11,hzs12⟩ H
 replace H:=H.h1 (A:=Cj b C (GA N))
 refine Ab (Z (Aa (Ae (Ad U (V U U (AJ U U) (V U U (Aj U ED U) ?_))))))
 have hnb2:(GA N).n≤(GA N).b.length∧(GA N).b.length≤1000000:=⟨Nat.le_refl _,hnb.2⟩
 have hlN2:([]:List (Bl BE)).length≤10000000∧(GA N).held.length≤10000000:=⟨Nat.zero_le _,hhl⟩
 replace H:=H.newnil BF|>.p1
 refine sc (Rq b C (GA N) (.slice none 0 0) [] (by first |assumption|omega) (by first |assumption|omega)) H l0 U U (Av QK U U) ?_
 rintro v21 _ w ⟨z19,rfl,hf20⟩ H
 replace H:=H.h2 (A:=Y BF v21 z19) (B:=Cj b C (FR (GA N) ([].map B4)))
 rw [show FR (GA N) (([]:List (Bl BE)).map B4)=F7 N from Vr N] at H
 replace H:Hd _ _ _ [Y BF v21 z19,Cj b C (F7 N)] []:=H
 have hfl:=(hf20).trans (Vq N)
 exact Ad U (Ab (Z (An (Ap U U (Al ⟨z19,rfl,hfl⟩ H)))))
theorem Rm (b:Nat) (C:Cf) (N:Ci) (kp:Int) (hup:N.up=true) (hnb:N.n≤N.b.length∧N.b.length≤1000000) (hk:AG kp):
    Cn Tryz.prog 16 [.pointer (some ⟨b,0,none⟩),.int .i64 kp] [Cj b C N] [] (fun v Bs=>v=.int .i64 0∧Bs=[Cj b C (Fj N kp)]):=by
 intro w0 F0 H
 obtain ⟨vS1,vM2,vC3,vR4,vK5,J6,d7,hv8,zs9,wb10,⟨hsj11,hzs12⟩,H⟩:=GQ b C N H
 replace H:Hd _ _ _ [blk b [vS1,.int .i64 J6.parts,vM2,vC3,vR4,.int .i64 J6.chunk,.int .i64 J6.window,.int .i64 J6.fuel,vK5,.int .i64 C.w,.int .i64 C.t,.int .i64 C.o,.int .i64 N.id,.bool N.up,.pointer (some ⟨d7,0,none⟩),hv8,.pointer none,.pointer (some ⟨wb10,0,none⟩)] 93,Y (At Ag) vS1 J6.us,Y Af vM2 J6.map,Y Af vC3 J6.comb,Y Af vR4 J6.red,Y (Ai .i64) vK5 J6.marks,Bz d7 N.b N.n,Y BF hv8 zs9,B6 wb10 (Bp J6 C) N.W] []:=H
 obtain ⟨A13,c14,rfl,hc15,hm16,hp17⟩:=H.fA 7 rfl
 refine enter Tryz.func16 U U (Nat.le_of_ble_eq_true U) (Aa (Ae (Ad U (Ab (Z (Aa (AW (Aa (Ae (Ad U (V U U (Dg U Hp U U) (Ad U (Ab (Z (Ch U (Aa (Ae (Ad U (V U U (AJ U U) (V U U (Aj U ED U) (V U U (Aj U JA U) (V U U (Am U DP U (H.cellI 0 U U)) (V U U (ES U U U) (Ad U (Ab (Z ?_))))))))))))))))))))))))))
 refine Dp (b:=!N.up) U (fun h18=>?_) (fun h18=>?_)
 ·exact absurd h18 (by rw [hup];decide)
 refine Az (Bb (Z (Aa (Ae (Ah 2 U (V U U (AJ U U) (V U U (Aj U ED U) (V U U (Aj U JA U) (Bx U U U DP U U H U (Nat.le_of_ble_eq_true U) (fun u hu=>by simp [Value.cells] at hu;subst hu;rfl) (fun w H=>?_))))))))))
 replace H:=H.h1 (A:=blk b [vS1,.int .i64 J6.parts,vM2,vC3,vR4,.int .i64 J6.chunk,.int .i64 J6.window,.int .i64 J6.fuel,vK5,.int .i64 C.w,.int .i64 C.t,.int .i64 C.o,.int .i64 N.id,.bool false,.pointer (some ⟨d7,0,none⟩),.slice A13 zs9.length c14,.pointer none,.pointer (some ⟨wb10,0,none⟩)] 93)
 refine V U U (AJ U U) (V U U (Aj U ED U) (V U U (Aj U Ib U) (Bx U U U HU U U H U (Nat.le_of_ble_eq_true U) (fun u hu=>by simp [Value.cells] at hu;subst hu;rfl) (fun w H=>?_))))
 replace H:=H.h1 (A:=blk b [vS1,.int .i64 J6.parts,vM2,vC3,vR4,.int .i64 J6.chunk,.int .i64 J6.window,.int .i64 J6.fuel,vK5,.int .i64 C.w,.int .i64 C.t,.int .i64 C.o,.int .i64 N.id,.bool false,.pointer (some ⟨d7,0,none⟩),.slice none 0 0,.pointer none,.pointer (some ⟨wb10,0,none⟩)] 93)
 refine Ab (Z (Aa (Ae (Ad U (V U U (AJ U U) (V U U (Aj U ED U) (V U U (Aj U Ia U) (V U U (Am U Ir U (H.cellI 0 U U)) (Ad U ?_)))))))))
 replace H:=H.p6
 refine sc (UO d7 N.b N.n kp (by first |assumption|omega) (by first |assumption|omega)) H l0 U U (Av XR U U) ?_
 rintro _ _ w ⟨rfl,rfl⟩ H
 replace H:=H.h1 (A:=Bz d7 (N.b.take (DZ N.b.length N.n kp)) (DZ N.b.length N.n kp))
 refine Ab (Z (Aa (Ae (Ad U (Ab (Z (An (Ap U U ?_))))))))
 replace H:=H.newnil BF|>.p9|>.p1|>.p2|>.p8|>.p8|>.p8|>.p8|>.p8|>.p8|>.k9
 replace H:=Gv b C (Fj N kp) vS1 vM2 vC3 vR4 vK5 J6 d7 (.slice none 0 0) [] wb10 ⟨hsj11,rfl⟩ H
 replace H:=H.h1 (A:=Cj b C (Fj N kp))
 exact Al ⟨rfl,rfl⟩ H
theorem Rp (b:Nat) (C:Cf) (N:Ci) (hC:Dq C) (hJ:C4 C.J) (hup:N.up=false) (hid:1≤N.id∧N.id≤C.w) (hdb:N.b.length≤90000):
    Cn Tryz.prog 17 [.pointer (some ⟨b,0,none⟩)] [Cj b C N] [] (fun v Bs=>v=.int .i64 0∧Bs=[Cj b C (FG C N)]):=by
 intro w0 F0 H
 obtain ⟨vS1,vM2,vC3,vR4,vK5,J6,d7,hv8,zs9,wb10,⟨hsj11,hzs12⟩,H⟩:=GQ b C N H
 replace H:Hd _ _ _ [blk b [vS1,.int .i64 J6.parts,vM2,vC3,vR4,.int .i64 J6.chunk,.int .i64 J6.window,.int .i64 J6.fuel,vK5,.int .i64 C.w,.int .i64 C.t,.int .i64 C.o,.int .i64 N.id,.bool N.up,.pointer (some ⟨d7,0,none⟩),hv8,.pointer none,.pointer (some ⟨wb10,0,none⟩)] 93,Y (At Ag) vS1 J6.us,Y Af vM2 J6.map,Y Af vC3 J6.comb,Y Af vR4 J6.red,Y (Ai .i64) vK5 J6.marks,Bz d7 N.b N.n,Y BF hv8 zs9,B6 wb10 (Bp J6 C) N.W] []:=H
 obtain ⟨A13,c14,rfl,hc15,hm16,hp17⟩:=H.fA 7 rfl
 refine enter Tryz.func17 U U (Nat.le_of_ble_eq_true U) (Aa (Ae (Ad U (Ab (Z (Aa (AW (Aa (Ae (Ad U (V U U (Dg U Hp U U) (Ad U (Ab (Z (Ch U (Aa (Ae (Ad U (V U U (AJ U U) (V U U (Aj U ED U) (V U U (Aj U JA U) (V U U (Am U DP U (H.cellI 0 U U)) (Ad U (Ab (Z ?_)))))))))))))))))))))))))
 refine Dp (b:=N.up) U (fun h18=>?_) (fun h18=>?_)
 ·exact absurd h18 (by rw [hup];decide)
 refine Az (Bb (Z (Aa (Ae (Ad U (V U U (AJ U U) (V U U (Aj U ED U) (V U U (Aj U JA U) (Bx U U U DP U U H U (Nat.le_of_ble_eq_true U) (fun u hu=>by simp [Value.cells] at hu;subst hu;rfl) (fun w H=>?_))))))))))
 replace H:=H.h1 (A:=blk b [vS1,.int .i64 J6.parts,vM2,vC3,vR4,.int .i64 J6.chunk,.int .i64 J6.window,.int .i64 J6.fuel,vK5,.int .i64 C.w,.int .i64 C.t,.int .i64 C.o,.int .i64 N.id,.bool true,.pointer (some ⟨d7,0,none⟩),.slice A13 zs9.length c14,.pointer none,.pointer (some ⟨wb10,0,none⟩)] 93)
 refine Ab (Z (Aa (Ae (Ad U ?_))))
 have hO2:C4 J6:=hsj11.symm.ok hJ
 have hC2:Dq (Bp J6 C):=(Hk hsj11).symm.may hC
 replace H:=H.k8.p6.p1
 refine sc (Rl b vS1 vM2 vC3 vR4 vK5 J6 C N.id d7 (.slice A13 zs9.length c14) (some ⟨wb10,0,none⟩) N.b N.n (by first |assumption|omega) (by first |assumption|omega) (by first |assumption|omega) (by first |assumption|omega)) H (lA 0 U B2 (lA 1 U B2 (lA 2 U B2 (lA 3 U B2 (lA 4 U B2 l0))))) U U (Av QJ U U) ?_
 rintro _ _ w ⟨wb19,rfl,rfl⟩ H
 replace H:=H.h3 (A:=blk b [vS1,.int .i64 J6.parts,vM2,vC3,vR4,.int .i64 J6.chunk,.int .i64 J6.window,.int .i64 J6.fuel,vK5,.int .i64 C.w,.int .i64 C.t,.int .i64 C.o,.int .i64 N.id,.bool true,.pointer (some ⟨d7,0,none⟩),.slice A13 zs9.length c14,.pointer none,.pointer (some ⟨wb19,0,none⟩)] 93) (B:=Bz d7 (GF N.b) ((CI N.b).2.toNat)) (C:=B6 wb19 (Bp J6 C) (EJ (Bp J6 C) N.id (CI N.b).1))
 rw [Tl (Hk hsj11)] at H
 replace H:Hd _ _ _ [blk b [vS1,.int .i64 J6.parts,vM2,vC3,vR4,.int .i64 J6.chunk,.int .i64 J6.window,.int .i64 J6.fuel,vK5,.int .i64 C.w,.int .i64 C.t,.int .i64 C.o,.int .i64 N.id,.bool true,.pointer (some ⟨d7,0,none⟩),.slice A13 zs9.length c14,.pointer none,.pointer (some ⟨wb19,0,none⟩)] 93,Bz d7 (GF N.b) ((CI N.b).2.toNat),B6 wb19 (Bp J6 C) (EJ C N.id (CI N.b).1),Y (At Ag) vS1 J6.us,Y Af vM2 J6.map,Y Af vC3 J6.comb,Y Af vR4 J6.red,Y (Ai .i64) vK5 J6.marks,Y BF (.slice A13 zs9.length c14) zs9] []:=H
 refine Ab (Z (Aa (Ae (Ad U (Ab (Z (An (Ap U U ?_))))))))
 replace H:=H.p8.p2.p8.p8.p8.p8.p8.p7
 replace H:=Gv b C (FG C N) vS1 vM2 vC3 vR4 vK5 J6 d7 (.slice A13 zs9.length c14) zs9 wb19 ⟨hsj11,hzs12⟩ H
 replace H:=H.h1 (A:=Cj b C (FG C N))
 exact Al ⟨rfl,rfl⟩ H
theorem RF (b:Nat) (J:AR) (M:Cy):Cn Tryz.prog 137 [.pointer (some ⟨b,0,none⟩)] [Da b J M] [] (fun v Bs=>v=.int .i64 ((A0 dg J M.sp).2)∧Bs=[Da b J M]):=by
 intro w0 F0 H
 obtain ⟨vS,vM,vC,vR,vK,J2,cw,ct,co,cb,fv,vw,ws,⟨hsj,hws⟩,H⟩:=MY b J M H
 have H1:Hd w0 F0 w0 ([blk cb [.int .u32 1,.int .i32 0,.int .u32 0,.int .u32 1,fv,.string (BI (A0 dg J2 M.sp).1)] 305]++[blk b [vS,.int .i64 J2.parts,vM,vC,vR,.int .i64 J2.chunk,.int .i64 J2.window,.int .i64 J2.fuel,vK,.int .i64 cw,.int .i64 ct,.int .i64 co,.int .i64 ((M.sp:Nat):Int),.int .i64 M.att,.int .i64 ((A0 dg J2 M.sp).2),.pointer (some ⟨cb,0,none⟩),vw] 215,Y (At Ag) vS J2.us,Y Af vM J2.map,Y Af vC J2.comb,Y Af vR J2.red,Y (Ai .i64) vK J2.marks,Y Dx vw (ws.map Prod.fst),BN (Dn 279) ws]) []:=H.pick 1 rfl
 refine (IB (Ra b vS vM vC vR vK J2 cw ct co M.sp M.att cb fv vw ) H1 (lA 0 U (fun _ h=>h) l0)).mono ?_
 rintro e w ⟨v,rfl,Bs,⟨rfl,rfl⟩,H⟩
 replace H:Hd w0 F0 w [blk cb [.int .u32 1,.int .i32 0,.int .u32 0,.int .u32 1,fv,.string (BI (A0 dg J2 M.sp).1)] 305,blk b [vS,.int .i64 J2.parts,vM,vC,vR,.int .i64 J2.chunk,.int .i64 J2.window,.int .i64 J2.fuel,vK,.int .i64 cw,.int .i64 ct,.int .i64 co,.int .i64 ((M.sp:Nat):Int),.int .i64 M.att,.int .i64 ((A0 dg J2 M.sp).2),.pointer (some ⟨cb,0,none⟩),vw] 215,Y (At Ag) vS J2.us,Y Af vM J2.map,Y Af vC J2.comb,Y Af vR J2.red,Y (Ai .i64) vK J2.marks,Y Dx vw (ws.map Prod.fst),BN (Dn 279) ws] []:=H
 replace H:=H.p1
 have e:=hsj.split dg M.sp
 exact ⟨_,rfl,_,⟨by rw [e],rfl⟩,MZ b J M vS vM vC vR vK J2 cw ct co cb fv vw ws ⟨hsj,hws⟩ (As:=[]) H⟩
theorem RE (b:Nat) (J:AR) (M:Cy) (hJ:C4 J):Cn Tryz.prog 136 [.pointer (some ⟨b,0,none⟩)] [Da b J M] [] (fun v Bs=>Bs=[Y (Ai .i64) v (CX dg J M.sp M.att),Da b J M]):=by
 intro w0 F0 H
 obtain ⟨vS,vM,vC,vR,vK,J2,cw,ct,co,cb,fv,vw,ws,⟨hsj,hws⟩,H⟩:=MY b J M H
 have H1:Hd w0 F0 w0 ([blk cb [.int .u32 1,.int .i32 0,.int .u32 0,.int .u32 1,fv,.string (BI (A0 dg J2 M.sp).1)] 305]++[blk b [vS,.int .i64 J2.parts,vM,vC,vR,.int .i64 J2.chunk,.int .i64 J2.window,.int .i64 J2.fuel,vK,.int .i64 cw,.int .i64 ct,.int .i64 co,.int .i64 ((M.sp:Nat):Int),.int .i64 M.att,.int .i64 ((A0 dg J2 M.sp).2),.pointer (some ⟨cb,0,none⟩),vw] 215,Y (At Ag) vS J2.us,Y Af vM J2.map,Y Af vC J2.comb,Y Af vR J2.red,Y (Ai .i64) vK J2.marks,Y Dx vw (ws.map Prod.fst),BN (Dn 279) ws]) []:=H.pick 1 rfl
 refine (IB (Yo b vS vM vC vR vK J2 cw ct co M.sp M.att cb fv vw  (hsj.symm.ok hJ)) H1 (lA 0 U (fun _ h=>h) l0)).mono ?_
 rintro e w ⟨v,rfl,Bs,rfl,H⟩
 replace H:Hd w0 F0 w [Y (Ai .i64) v (CX dg J2 M.sp M.att),blk cb [.int .u32 1,.int .i32 0,.int .u32 0,.int .u32 1,fv,.string (BI (A0 dg J2 M.sp).1)] 305,blk b [vS,.int .i64 J2.parts,vM,vC,vR,.int .i64 J2.chunk,.int .i64 J2.window,.int .i64 J2.fuel,vK,.int .i64 cw,.int .i64 ct,.int .i64 co,.int .i64 ((M.sp:Nat):Int),.int .i64 M.att,.int .i64 ((A0 dg J2 M.sp).2),.pointer (some ⟨cb,0,none⟩),vw] 215,Y (At Ag) vS J2.us,Y Af vM J2.map,Y Af vC J2.comb,Y Af vR J2.red,Y (Ai .i64) vK J2.marks,Y Dx vw (ws.map Prod.fst),BN (Dn 279) ws] []:=H
 replace H:=H.p9.p9.p9.p9.p9.p9.p9.p8.p9
 replace H:=MZ b J M vS vM vC vR vK J2 cw ct co cb fv vw ws ⟨hsj,hws⟩ (As:=[Y (Ai .i64) v (CX dg J2 M.sp M.att)]) H
 refine ⟨v,rfl,_,rfl,?_⟩
 have e:=OW hsj dg M.sp M.att
 rw [e] at H
 exact H.pick 1 U
theorem Y5 (b:Nat) (J:AR) (M:Cy) (hJ:C4 J) (hM:GS M):
    Cn Tryz.prog 138 [.pointer (some ⟨b,0,none⟩)] [Da b J M] [] (fun v Bs=>∃ zs:List (Bl CV),Bs=[Y Mz v zs,Da b J M]∧(zs.map GO=Hh dg J M)):=by
 intro w0 F0 H
 obtain ⟨vS1,vM2,vC3,vR4,vK5,J6,cw7,ct8,co9,cb10,fv11,vw12,ws13,⟨hsj14,hws15⟩,H⟩:=MY b J M H
 replace H:Hd _ _ _ [blk b [vS1,.int .i64 J6.parts,vM2,vC3,vR4,.int .i64 J6.chunk,.int .i64 J6.window,.int .i64 J6.fuel,vK5,.int .i64 cw7,.int .i64 ct8,.int .i64 co9,.int .i64 ((M.sp:Nat):Int),.int .i64 M.att,.int .i64 ((A0 dg J6 M.sp).2),.pointer (some ⟨cb10,0,none⟩),vw12] 215,blk cb10 [.int .u32 1,.int .i32 0,.int .u32 0,.int .u32 1,fv11,.string (BI (A0 dg J6 M.sp).1)] 305,Y (At Ag) vS1 J6.us,Y Af vM2 J6.map,Y Af vC3 J6.comb,Y Af vR4 J6.red,Y (Ai .i64) vK5 J6.marks,Y Dx vw12 (ws13.map Prod.fst),BN (Dn 279) ws13] []:=H
 have hwf:(ws13.map Prod.fst).length=ws13.length:=List.length_map ..
 have hwl:M.ws.length=ws13.length:=by rw [←hws15];exact List.length_map ..
 obtain ⟨A16,c17,rfl,hc18,hm19,hp20⟩:=H.fA 7 rfl
 have hJ2:C4 J6:=hsj14.symm.ok hJ
 have hml:=hM.2
 refine enter Tryz.func138 U U (Nat.le_of_ble_eq_true U) (Aa (Ae (Ad U (Ab (Z (Aa (Aa (Ae (Ad U (V U U (Dg U LH U U) (Ab (Z (Ch U (Az (Z (Aa (Ae (Ad U (Ab (Z (Aa (Aa (Ae (Ad U (V U U (AJ U U) (V U U (Aj U Vw U) (V U U (Am U eK U (H.cellI 0 U U)) (V U U (Bj U eU U) (Ad U (Ab (Z (AW ?_))))))))))))))))))))))))))))))))
 replace H:=H.newnil EO
 replace H:=Hd.tw0 (α:=CV) H
 replace H:=H.h1 (A:=BD ([]:List (Bl CV)))|>.h2 (B:=Y EO (.slice none 0 0) (([]:List (Bl CV)).map A_))|>.p1
 refine B1 (σ:=Nat×Value×List (Bl CV)) (fun (k,q,zs)=>[(0,.pointer (some ⟨b,0,none⟩)),(2,.slice none 0 0),(3,q),(13,.slice A16 ((ws13.map Prod.fst).length) c17),(14,.int .i64 (((ws13.map Prod.fst).length:Nat):Int)),(15,.int .i64 ((k:Nat):Int))]) (fun (k,q,zs) w=>(Hd w0 F0 w [Y EO q (zs.map A_),BD zs,blk b [vS1,.int .i64 J6.parts,vM2,vC3,vR4,.int .i64 J6.chunk,.int .i64 J6.window,.int .i64 J6.fuel,vK5,.int .i64 cw7,.int .i64 ct8,.int .i64 co9,.int .i64 ((M.sp:Nat):Int),.int .i64 M.att,.int .i64 ((A0 dg J6 M.sp).2),.pointer (some ⟨cb10,0,none⟩),.slice A16 ((ws13.map Prod.fst).length) c17] 215,blk cb10 [.int .u32 1,.int .i32 0,.int .u32 0,.int .u32 1,fv11,.string (BI (A0 dg J6 M.sp).1)] 305,Y (At Ag) vS1 J6.us,Y Af vM2 J6.map,Y Af vC3 J6.comb,Y Af vR4 J6.red,Y (Ai .i64) vK5 J6.marks,Y Dx (.slice A16 ((ws13.map Prod.fst).length) c17) (ws13.map Prod.fst),BN (Dn 279) ws13] [])∧(k≤ws13.length)∧(zs.map GO=DW dg J6 M.sp M.att (M.ws.take k) 0)) (fun (k,q,zs)=>ws13.length - k) (0,.slice none 0 0,[]) ⟨rfl,rfl,rfl,rfl,rfl,rfl,trivial⟩ ⟨H,Nat.zero_le _,rfl⟩ ?_
 rintro ⟨k,q,zs⟩ w ⟨H,hk,hz⟩
 have hzl:=congrArg List.length hz
 rw [List.length_map] at hzl
 have hpl:=Lc (D:=dg) (J:=J6) (s:=M.sp) (att:=M.att) (ws:=M.ws.take k) 0 (fun x hx=>hM.1 x (List.mem_of_mem_take hx))
 rw [List.length_take] at hpl
 refine Aa (Ae (V U U (Br U U U) (Ab (Z (Aa ?_)))))
 refine AC U (fun h21=>?_) (fun h21=>?_)
 ·refine Az (Z (Aa (AW (Aa (Ae (Ad U ?_))))))
  obtain ⟨x22,hx23⟩:∃ z9,(ws13.map Prod.fst)[k]?=some z9:=⟨_,List.getElem?_eq_getElem (show k<(ws13.map Prod.fst).length by omega)⟩
  have th24:=H.thA 9 rfl hx23
  refine V U U (Bi (p:=Ba A16+k*1) U dA U U (by omega) (by omega) th24 U) (V U U (Am U eL U (H.elA 9 U hx23 (q:=0) U U)) (Ah 2 U (Ab (Z (Aa (Ae (Ad U ?_)))))))
  obtain ⟨wd25,he26⟩:=fU hx23
  have hm27:M.ws[k]?=some wd25:=by rw [←hws15];exact fW he26
  have hok_wd25:=hM.1 _ (CA hm27)
  unfold K8 at hok_wd25
  replace H:=H.pick 10 rfl|>.h3 (B:=Y EO q (zs.map A_)) (C:=BD zs)
  replace H:=Hd.bigO k he26 H
  replace H:=H.h2 (A:=blk x22 [.int .i64 wd25.c,.int .i64 wd25.s,.int .i64 wd25.e,.int .i64 wd25.x] 279) (B:=BN (Dn 279) (ws13.eraseIdx k))
  refine sc (fN x22 wd25.c wd25.s wd25.e wd25.x (by first |omega|decide) (by first |omega|decide)) H (lA 0 U (fun _ h=>h) l0) U U (Av WT U U) ?_
  rintro v28 _ w rfl H
  replace H:=H.h1 (A:=Y (Ai .i64) v28 (DS wd25.c wd25.s wd25.x))|>.p2|>.p2
  replace H:=Hd.bigI (f:=Dn 279) (x:=(x22,wd25)) k (KQ he26) H
  rw [fV he26] at H
  obtain ⟨A29,c30,rfl,hc31,hm32,hp33⟩:=H.fA 1 rfl
  refine V U U (Bj U EA U) (Ad U (Ab (Z ?_)))
  replace H:Hd _ _ _ [BN (Dn 279) ws13,Y (Ai .i64) (.slice A29 ((DS wd25.c wd25.s wd25.x).length) c30) (DS wd25.c wd25.s wd25.x),Y EO q (zs.map A_),BD zs,blk b [vS1,.int .i64 J6.parts,vM2,vC3,vR4,.int .i64 J6.chunk,.int .i64 J6.window,.int .i64 J6.fuel,vK5,.int .i64 cw7,.int .i64 ct8,.int .i64 co9,.int .i64 ((M.sp:Nat):Int),.int .i64 M.att,.int .i64 ((A0 dg J6 M.sp).2),.pointer (some ⟨cb10,0,none⟩),.slice A16 ((ws13.map Prod.fst).length) c17] 215,blk cb10 [.int .u32 1,.int .i32 0,.int .u32 0,.int .u32 1,fv11,.string (BI (A0 dg J6 M.sp).1)] 305,Y (At Ag) vS1 J6.us,Y Af vM2 J6.map,Y Af vC3 J6.comb,Y Af vR4 J6.red,Y (Ai .i64) vK5 J6.marks,Y Dx (.slice A16 ((ws13.map Prod.fst).length) c17) (ws13.map Prod.fst)] []:=H
  refine AW ?_
  replace H:=H.pick 11 rfl|>.pick 11 rfl|>.pick 11 rfl|>.pick 11 rfl|>.pick 11 rfl|>.pick 11 rfl|>.pick 11 rfl|>.pick 11 rfl|>.p9|>.pick 11 rfl|>.pick 11 rfl
  have hz0:zs.map GO=DW dg J6 M.sp M.att (M.ws.take k) 0++(Ew dg J6 M.sp M.att wd25 k).take 0:=by rw [List.take_zero,List.append_nil];exact hz
  refine B1 (σ:=Nat×Value×List (Bl CV)) (fun (j,q2,zs2)=>[(0,.pointer (some ⟨b,0,none⟩)),(2,.slice none 0 0),(3,q2),(4,.int .i64 ((k:Nat):Int)),(13,.slice A16 ((ws13.map Prod.fst).length) c17),(14,.int .i64 (((ws13.map Prod.fst).length:Nat):Int)),(15,.int .i64 ((k:Nat):Int)),(21,.slice A29 ((DS wd25.c wd25.s wd25.x).length) c30),(22,.int .i64 (((DS wd25.c wd25.s wd25.x).length:Nat):Int)),(23,.int .i64 ((j:Nat):Int))]) (fun (j,q2,zs2) w=>(Hd w0 F0 w [Y EO q2 (zs2.map A_),BD zs2,Y (Ai .i64) (.slice A29 ((DS wd25.c wd25.s wd25.x).length) c30) (DS wd25.c wd25.s wd25.x),blk b [vS1,.int .i64 J6.parts,vM2,vC3,vR4,.int .i64 J6.chunk,.int .i64 J6.window,.int .i64 J6.fuel,vK5,.int .i64 cw7,.int .i64 ct8,.int .i64 co9,.int .i64 ((M.sp:Nat):Int),.int .i64 M.att,.int .i64 ((A0 dg J6 M.sp).2),.pointer (some ⟨cb10,0,none⟩),.slice A16 ((ws13.map Prod.fst).length) c17] 215,blk cb10 [.int .u32 1,.int .i32 0,.int .u32 0,.int .u32 1,fv11,.string (BI (A0 dg J6 M.sp).1)] 305,Y (At Ag) vS1 J6.us,Y Af vM2 J6.map,Y Af vC3 J6.comb,Y Af vR4 J6.red,Y (Ai .i64) vK5 J6.marks,Y Dx (.slice A16 ((ws13.map Prod.fst).length) c17) (ws13.map Prod.fst),BN (Dn 279) ws13] [])∧(j≤(DS wd25.c wd25.s wd25.x).length)∧(zs2.map GO=DW dg J6 M.sp M.att (M.ws.take k) 0++(Ew dg J6 M.sp M.att wd25 k).take j)) (fun (j,q2,zs2)=>(DS wd25.c wd25.s wd25.x).length - j) (0,q,zs) ⟨rfl,rfl,rfl,rfl,rfl,rfl,rfl,rfl,rfl,rfl,trivial⟩ ⟨H,Nat.zero_le _,hz0⟩ ?_
  rintro ⟨j,q2,zs2⟩ w ⟨H,hj,hz2⟩
  have hzl2:=congrArg List.length hz2
  rw [List.length_map,List.length_append,List.length_take,Nk] at hzl2
  have hwl2:=RJ hok_wd25
  have htf:(zs2.map A_).length=zs2.length:=List.length_map ..
  refine Aa (Ae (V U U (Br U U U) (Ab (Z (Aa ?_)))))
  refine AC U (fun h34=>?_) (fun h34=>?_)
  ·refine Az (Z (Aa (AW (Aa (Ae ?_)))))
   obtain ⟨x35,hx36⟩:∃ z9,(DS wd25.c wd25.s wd25.x)[j]?=some z9:=⟨_,List.getElem?_eq_getElem (show j<(DS wd25.c wd25.s wd25.x).length by omega)⟩
   have th37:=H.thA 2 rfl hx36
   refine V U U (Bi (p:=Ba A29+j*1) U DE U U (by omega) (by omega) th37 U) (V U U (Am U AE U (H.elA 2 U hx36 (q:=0) U U)) (Ad U (Ab (Z ?_))))
   replace H:=H.pick 11 rfl|>.pick 11 rfl|>.pick 11 rfl|>.pick 11 rfl|>.pick 11 rfl|>.pick 11 rfl|>.pick 11 rfl|>.pick 11 rfl|>.pick 11 rfl|>.pick 11 rfl|>.pick 11 rfl
   replace H:Hd _ _ _ [BD zs2,Y (Ai .i64) (.slice A29 ((DS wd25.c wd25.s wd25.x).length) c30) (DS wd25.c wd25.s wd25.x),blk b [vS1,.int .i64 J6.parts,vM2,vC3,vR4,.int .i64 J6.chunk,.int .i64 J6.window,.int .i64 J6.fuel,vK5,.int .i64 cw7,.int .i64 ct8,.int .i64 co9,.int .i64 ((M.sp:Nat):Int),.int .i64 M.att,.int .i64 ((A0 dg J6 M.sp).2),.pointer (some ⟨cb10,0,none⟩),.slice A16 ((ws13.map Prod.fst).length) c17] 215,blk cb10 [.int .u32 1,.int .i32 0,.int .u32 0,.int .u32 1,fv11,.string (BI (A0 dg J6 M.sp).1)] 305,Y (At Ag) vS1 J6.us,Y Af vM2 J6.map,Y Af vC3 J6.comb,Y Af vR4 J6.red,Y (Ai .i64) vK5 J6.marks,Y Dx (.slice A16 ((ws13.map Prod.fst).length) c17) (ws13.map Prod.fst),BN (Dn 279) ws13,Y EO q2 (zs2.map A_)] []:=H
   refine Ce (.e 0 (.e 1 (.e 2 (.e 3 (.e 4 (.e 5 (.e 6 (.e 7 (.e 8 (.e 9 (.e 10 (.e 11 (.e 12 (.e 13 (.m 14 (.e 15 (.m 16 (.m 17 (.e 18 .z))))))))))))))))))) (fun w=>∃ Ar,Hd w0 F0 w (BD zs2::Y (Ai .i64) (.slice A29 ((DS wd25.c wd25.s wd25.x).length) c30) (DS wd25.c wd25.s wd25.x)::blk b [vS1,.int .i64 J6.parts,vM2,vC3,vR4,.int .i64 J6.chunk,.int .i64 J6.window,.int .i64 J6.fuel,vK5,.int .i64 cw7,.int .i64 ct8,.int .i64 co9,.int .i64 ((M.sp:Nat):Int),.int .i64 M.att,.int .i64 ((A0 dg J6 M.sp).2),.pointer (some ⟨cb10,0,none⟩),.slice A16 ((ws13.map Prod.fst).length) c17] 215::blk cb10 [.int .u32 1,.int .i32 0,.int .u32 0,.int .u32 1,fv11,.string (BI (A0 dg J6 M.sp).1)] 305::Y (At Ag) vS1 J6.us::Y Af vM2 J6.map::Y Af vC3 J6.comb::Y Af vR4 J6.red::Y (Ai .i64) vK5 J6.marks::Y Dx (.slice A16 ((ws13.map Prod.fst).length) c17) (ws13.map Prod.fst)::BN (Dn 279) ws13::Ar) []) mo (by kernel_rfl) (fun w H=>⟨_,H⟩) H (fun w H=>?_)
   refine Au U (Au U (Ao U U U (fun w ⟨Ar,H⟩=>AJ U U) (Ao U U U (fun w ⟨Ar,H⟩=>Aj U Vu U) (Ao U U U (fun w ⟨Ar,H⟩=>Am U AE U (H.cellI 2 U U)) (Au U (Ao U U U (fun w ⟨Ar,H⟩=>AJ U U) (Ao U U U (fun w ⟨Ar,H⟩=>Aj U Px U) (Ao U U U (fun w ⟨Ar,H⟩=>Am U AE U (H.cellI 2 U U)) (Au U (Au U (Au U (Au U (Au U (AO U ?_))))))))))))))
   replace H:=H.p3
   refine sc (Yn b vS1 vM2 vC3 vR4 vK5 J6 cw7 ct8 co9 M.sp M.att cb10 fv11 (.slice A16 ((ws13.map Prod.fst).length) c17) ((k:Nat):Int) x35 (by first |assumption|omega)) H (lA 2 U (fun _ h=>h) l0) U U (Av WV U U) ?_
   rintro v38 _ w rfl H
   obtain ⟨A39,c40,rfl,hc41,hm42,hp43⟩:=H.fA 0 rfl
   replace H:Hd _ _ _ [Y Ag (.slice A39 ((Dv dg J6 M.sp M.att ((k:Nat):Int) x35).length) c40) (Dv dg J6 M.sp M.att ((k:Nat):Int) x35),blk cb10 [.int .u32 1,.int .i32 0,.int .u32 0,.int .u32 1,fv11,.string (BI (A0 dg J6 M.sp).1)] 305,BD zs2,Y (Ai .i64) (.slice A29 ((DS wd25.c wd25.s wd25.x).length) c30) (DS wd25.c wd25.s wd25.x),blk b [vS1,.int .i64 J6.parts,vM2,vC3,vR4,.int .i64 J6.chunk,.int .i64 J6.window,.int .i64 J6.fuel,vK5,.int .i64 cw7,.int .i64 ct8,.int .i64 co9,.int .i64 ((M.sp:Nat):Int),.int .i64 M.att,.int .i64 ((A0 dg J6 M.sp).2),.pointer (some ⟨cb10,0,none⟩),.slice A16 ((ws13.map Prod.fst).length) c17] 215,Y (At Ag) vS1 J6.us,Y Af vM2 J6.map,Y Af vC3 J6.comb,Y Af vR4 J6.red,Y (Ai .i64) vK5 J6.marks,Y Dx (.slice A16 ((ws13.map Prod.fst).length) c17) (ws13.map Prod.fst),BN (Dn 279) ws13,Y EO q2 (zs2.map A_)] []:=H
   replace H:=H.pick 11 rfl|>.pick 11 rfl|>.pick 11 rfl|>.pick 11 rfl|>.pick 11 rfl|>.pick 11 rfl|>.pick 11 rfl|>.p8|>.pick 11 rfl|>.pick 11 rfl|>.pick 11 rfl
   refine AH ⟨_,H⟩ (Ao U U U (fun w ⟨Ar,H⟩=>Dl (parts:=[(0,.const (.int .i64 2)),(1,.tmp 31),(2,.tmp 35),(3,.tmp 36),(4,.tmp 37),(9,.tmp 41)]) (vs:=[.int .i64 2,.int .i64 ((M.sp:Nat):Int),.int .i64 M.att,.int .i64 ((k:Nat):Int),.int .i64 x35,.slice A39 ((Dv dg J6 M.sp M.att ((k:Nat):Int) x35).length) c40]) (cs:=[.int .i64 2,.int .i64 ((M.sp:Nat):Int),.int .i64 M.att,.int .i64 ((k:Nat):Int),.int .i64 x35,.int .i64 0,.int .i64 0,.int .i64 0,.slice none 0 0,.slice A39 ((Dv dg J6 M.sp M.att ((k:Nat):Int) x35).length) c40]) U H0 U U) (AO U (Cg (parts:=[(0,.tmp 42)]) (vs:=[.agg #[.int .i64 2,.int .i64 ((M.sp:Nat):Int),.int .i64 M.att,.int .i64 ((k:Nat):Int),.int .i64 x35,.int .i64 0,.int .i64 0,.int .i64 0,.slice none 0 0,.slice A39 ((Dv dg J6 M.sp M.att ((k:Nat):Int) x35).length) c40]]) (cs:=[.int .i64 2,.int .i64 ((M.sp:Nat):Int),.int .i64 M.att,.int .i64 ((k:Nat):Int),.int .i64 x35,.int .i64 0,.int .i64 0,.int .i64 0,.slice none 0 0,.slice A39 ((Dv dg J6 M.sp M.att ((k:Nat):Int) x35).length) c40]) U U U NI Jf U (by decide) (by decide) U U H (fun b44 w H=>?_))))
   replace H:=H.h1 (A:=blk b44 [.int .i64 2,.int .i64 ((M.sp:Nat):Int),.int .i64 M.att,.int .i64 ((k:Nat):Int),.int .i64 x35,.int .i64 0,.int .i64 0,.int .i64 0,.slice none 0 0,.slice A39 ((Dv dg J6 M.sp M.att ((k:Nat):Int) x35).length) c40] 49)|>.pick 11 rfl|>.pick 11 rfl|>.pick 11 rfl|>.pick 11 rfl|>.pick 11 rfl|>.pick 11 rfl|>.pick 11 rfl|>.pick 11 rfl|>.pick 11 rfl|>.pick 11 rfl|>.pick 11 rfl
   refine AH ⟨_,H⟩ (AO U ?_)
   replace H:=H.pick 13 rfl
   refine CE (xs:=zs2.map A_) (ys:=[(⟨⟨2,((M.sp:Nat):Int),M.att,((k:Nat):Int),x35,0,0,0⟩,⟨none,0,0⟩,⟨A39,(Dv dg J6 M.sp M.att ((k:Nat):Int) x35).length,c40⟩⟩:Di CV)]) U U U NI Jf U (by decide) U U H (by first |omega|(simp only [List.length_append,List.length_cons,List.length_nil,List.length_map];omega)) (fun F hA hR=>CC (hA _ (List.mem_of_getElem? (i:=11) U)) U (by decide) (Be.flat_eq.2 U)) (fun v45 w H=>?_)
   replace H:=H.h1 (A:=Y EO v45 ((zs2.map A_)++[(⟨⟨2,((M.sp:Nat):Int),M.att,((k:Nat):Int),x35,0,0,0⟩,⟨none,0,0⟩,⟨A39,(Dv dg J6 M.sp M.att ((k:Nat):Int) x35).length,c40⟩⟩:Di CV)]))|>.pick 11 rfl|>.pick 11 rfl|>.pick 11 rfl|>.pick 11 rfl|>.pick 11 rfl|>.pick 11 rfl|>.pick 11 rfl|>.pick 11 rfl|>.pick 11 rfl|>.pick 11 rfl|>.pick 11 rfl
   refine AH ⟨_,H⟩ (Au U (BO (Bb (Z (Ae (V U U (Bc (z:=((j+1:Nat):Int)) U U U (by rw [AI (by omega) (by omega)];omega)) (Ad U (Ab ?_))))))))
   replace H:=H.newnil (Ai .i64)|>.pick 12 rfl|>.p2|>.pick 14 rfl|>.p3|>.keep 14
   replace H:=Hd.twN (r:=(⟨(⟨2,M.sp,M.att,(k:Nat),x35,0,0,0⟩:CV),.slice none 0 0,[],.slice A39 ((Dv dg J6 M.sp M.att ((k:Nat):Int) x35).length) c40,Dv dg J6 M.sp M.att (k:Nat) x35⟩:Bl CV)) H
   replace H:Hd w0 F0 w [BD (zs2++[(⟨(⟨2,M.sp,M.att,(k:Nat),x35,0,0,0⟩:CV),.slice none 0 0,[],.slice A39 ((Dv dg J6 M.sp M.att ((k:Nat):Int) x35).length) c40,Dv dg J6 M.sp M.att (k:Nat) x35⟩:Bl CV)]),Y EO v45 ((zs2++[(⟨(⟨2,M.sp,M.att,(k:Nat),x35,0,0,0⟩:CV),.slice none 0 0,[],.slice A39 ((Dv dg J6 M.sp M.att ((k:Nat):Int) x35).length) c40,Dv dg J6 M.sp M.att (k:Nat) x35⟩:Bl CV)]).map A_),Y (Ai .i64) (.slice A29 ((DS wd25.c wd25.s wd25.x).length) c30) (DS wd25.c wd25.s wd25.x),blk b [vS1,.int .i64 J6.parts,vM2,vC3,vR4,.int .i64 J6.chunk,.int .i64 J6.window,.int .i64 J6.fuel,vK5,.int .i64 cw7,.int .i64 ct8,.int .i64 co9,.int .i64 ((M.sp:Nat):Int),.int .i64 M.att,.int .i64 ((A0 dg J6 M.sp).2),.pointer (some ⟨cb10,0,none⟩),.slice A16 ((ws13.map Prod.fst).length) c17] 215,blk cb10 [.int .u32 1,.int .i32 0,.int .u32 0,.int .u32 1,fv11,.string (BI (A0 dg J6 M.sp).1)] 305,Y (At Ag) vS1 J6.us,Y Af vM2 J6.map,Y Af vC3 J6.comb,Y Af vR4 J6.red,Y (Ai .i64) vK5 J6.marks,Y Dx (.slice A16 ((ws13.map Prod.fst).length) c17) (ws13.map Prod.fst),BN (Dn 279) ws13] []:=by rw [List.map_append];exact H
   replace H:=H.p1
   have hz3:(zs2++[(⟨(⟨2,M.sp,M.att,(k:Nat),x35,0,0,0⟩:CV),.slice none 0 0,[],.slice A39 ((Dv dg J6 M.sp M.att ((k:Nat):Int) x35).length) c40,Dv dg J6 M.sp M.att (k:Nat) x35⟩:Bl CV)]).map GO=DW dg J6 M.sp M.att (M.ws.take k) 0++(Ew dg J6 M.sp M.att wd25 k).take (j+1):=by rw [List.map_append,hz2,ZL hx36,←List.append_assoc];rfl
   exact Bo (s:=(j,undef,zs2)) (j+1,v45,zs2++[(⟨(⟨2,M.sp,M.att,(k:Nat),x35,0,0,0⟩:CV),.slice none 0 0,[],.slice A39 ((Dv dg J6 M.sp M.att ((k:Nat):Int) x35).length) c40,Dv dg J6 M.sp M.att (k:Nat) x35⟩:Bl CV)]) ⟨rfl,rfl,rfl,rfl,rfl,rfl,rfl,rfl,rfl,rfl,trivial⟩ ⟨H,by (try dsimp only);omega,hz3⟩ (by (try dsimp only);omega)
  refine BQ (AV (AV (BS (Bb (Z (Ae (V U U (Bc (z:=((k+1:Nat):Int)) U U U (by rw [AI (by omega) (by omega)];omega)) (Ad U (Ab ?_)))))))))
  replace H:=H.pick 11 rfl|>.pick 11 rfl|>.pick 11 rfl|>.pick 11 rfl|>.pick 11 rfl|>.pick 11 rfl|>.pick 11 rfl|>.pick 11 rfl|>.pick 11 rfl|>.pick 10 rfl|>.pick 10 rfl|>.keep 11|>.h2 (A:=Y EO q2 (zs2.map A_)) (B:=BD zs2)
  have hzk:zs2.map GO=DW dg J6 M.sp M.att (M.ws.take (k+1)) 0:=by rw [hz2,List.take_of_length_le (l:=Ew dg J6 M.sp M.att wd25 k) (by rw [Nk];omega),ZM hm27]
  exact Bo (s:=(k,undef,zs)) (k+1,q2,zs2) ⟨rfl,rfl,rfl,rfl,rfl,rfl,trivial⟩ ⟨H,by (try dsimp only);omega,hzk⟩ (by (try dsimp only);omega)
 refine BQ (AV (AV (BS (Z (Aa (Ae (Ah 2 U (Ab (Z (An (Ap U U ?_)))))))))))
 replace H:=H.h2 (A:=Y EO q (zs.map A_)) (B:=BD zs)
 replace H:=Hd.twI H
 replace H:=H.h1 (A:=Y Mz q zs)|>.p9|>.p9|>.p9|>.p9|>.p9|>.p9|>.p9|>.p9|>.p9
 replace H:=MZ b J M vS1 vM2 vC3 vR4 vK5 J6 cw7 ct8 co9 cb10 fv11 (.slice A16 ((ws13.map Prod.fst).length) c17) ws13 ⟨hsj14,hws15⟩ H
 replace H:=H.h1 (A:=Da b J M)|>.p1
 exact Al ⟨zs,rfl,by rw [hz,List.take_of_length_le (by omega)];exact Nn hsj14 dg M.sp M.att M.ws 0⟩ H
end Go.Proofs.YthhajcnbjiiclaaGreatDoor.X
