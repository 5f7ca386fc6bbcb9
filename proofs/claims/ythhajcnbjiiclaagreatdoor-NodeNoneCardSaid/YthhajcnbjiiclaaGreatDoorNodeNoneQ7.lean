/- NodeNone: texts N4, WK5, ND2, ND3, N5, L1, LN1, ND4, ND5, M5, M7, joined by a program of ours; what nothing names is left out. -/
import Derived.Test.YthhajcnbjiiclaaGreatDoorNodeNoneQ6
set_option linter.unusedVariables false
set_option linter.unusedSimpArgs false
set_option maxHeartbeats 8000000
namespace Go.Proofs.YthhajcnbjiiclaaGreatDoor.X
open Go
theorem aN (vS:Value) (vM:Value) (vC:Value) (vR:Value) (vK:Value) (C:Cf) (p:Int) (ep:Int) (vr:Value) (recs:List AW) (hC:DE C) (hp:AL p) (he:AL ep) (hgo:DR C p≠0∧1≤ep) (hrs:∀ r∈recs,(AL r.sp∧r.set.length≤1000)∧r.pairs.length≤1000) (hrl:recs.length≤100000):
    Cn Tryz.prog 131 [.agg #[vS,.int .i64 C.J.parts,vM,vC,vR,.int .i64 C.J.chunk,.int .i64 C.J.window,.int .i64 C.J.fuel,vK,.int .i64 C.w,.int .i64 C.t,.int .i64 C.o],.int .i64 p,.int .i64 ep,vr] [] [Ae (At Ag) vS C.J.us,Ae Af vM C.J.map,Ae Af vC C.J.comb,Ae Af vR C.J.red,Ae (Ai .i64) vK C.J.marks,Ae BI vr recs] (fun v Bs=>∃ r:Nat,∃ vS2:Value,∃ vM2:Value,∃ vC2:Value,∃ vR2:Value,∃ vK2:Value,∃ J2:AS,∃ hv:Nat→Value,∃ sb:Nat,∃ vs:Value,∃ us:List (Value×List Int),v=.tuple #[.pointer (some ⟨r,0,none⟩),.int .i64 0]∧Bs=[blk r (BF vS2 vM2 vC2 vR2 vK2 J2 C.w C.t C.o p ep ((C9 J2.us.length p ep (recs.map AW.p)).g) hv sb vs) 197,Y (At Ag) vS2 J2.us,Y Af vM2 J2.map,Y Af vC2 J2.comb,Y Af vR2 J2.red,Y (Ai .i64) vK2 J2.marks,BY ((C9 J2.us.length p ep (recs.map AW.p)).g) hv,Y (At (Ai .i64)) vs us,CO 275 sb ([])]∧(Bj J2 C.J)∧(us.map (·.2)=(C9 J2.us.length p ep (recs.map AW.p)).sets)):=by
 intro w0 F0 H
 obtain ⟨A1,c2,rfl,hc3,hm4,hp5⟩:=H.fR 0 rfl
 obtain ⟨A6,c7,rfl,hc8,hm9,hp10⟩:=H.fR 1 rfl
 obtain ⟨A11,c12,rfl,hc13,hm14,hp15⟩:=H.fR 2 rfl
 obtain ⟨A16,c17,rfl,hc18,hm19,hp20⟩:=H.fR 3 rfl
 obtain ⟨A21,c22,rfl,hc23,hm24,hp25⟩:=H.fR 4 rfl
 obtain ⟨A26,c27,rfl,hc28,hm29,hp30⟩:=H.fR 5 rfl
 refine enter Tryz.func131 U U (Nat.le_of_ble_eq_true U) (Aa (Ad (CT U U U U H (fun b31 w H=>(Ah 2 U (Ab (Z ?_)))))))
 replace H:Hd _ _ _ [blk b31 [.slice A1 C.J.us.length c2,.int .i64 C.J.parts,.slice A6 C.J.map.length c7,.slice A11 C.J.comb.length c12,.slice A16 C.J.red.length c17,.int .i64 C.J.chunk,.int .i64 C.J.window,.int .i64 C.J.fuel,.slice A21 C.J.marks.length c22,.int .i64 C.w,.int .i64 C.t,.int .i64 C.o] 28] [Ae (At Ag) (.slice A1 C.J.us.length c2) C.J.us,Ae Af (.slice A6 C.J.map.length c7) C.J.map,Ae Af (.slice A11 C.J.comb.length c12) C.J.comb,Ae Af (.slice A16 C.J.red.length c17) C.J.red,Ae (Ai .i64) (.slice A21 C.J.marks.length c22) C.J.marks,Ae BI (.slice A26 recs.length c27) recs]:=H
 refine Aa (Aa (Ad (V U U (BD (cs:=[.slice A1 C.J.us.length c2,.int .i64 C.J.parts,.slice A6 C.J.map.length c7,.slice A11 C.J.comb.length c12,.slice A16 C.J.red.length c17,.int .i64 C.J.chunk,.int .i64 C.J.window,.int .i64 C.J.fuel,.slice A21 C.J.marks.length c22,.int .i64 C.w,.int .i64 C.t,.int .i64 C.o]) U EY U U (H.cellsI 0 U U)) (Ac U (sc (Mp (.slice A1 C.J.us.length c2) (.slice A6 C.J.map.length c7) (.slice A11 C.J.comb.length c12) (.slice A16 C.J.red.length c17) (.slice A21 C.J.marks.length c22) C p (by first |assumption|omega)) H (lR 0 U (lR 1 U (lR 2 U (lR 3 U (lR 4 U l0))))) U U (Av Mr U U) ?_)))))
 rintro _ _ w ⟨rfl,rfl⟩ H
 refine V U U (Bg U U U) (Ac U ?_)
 refine AR (d:=18) U (fun h32=>?_) (fun h32=>?_)
 ·exact (hgo.1 h32).elim
 refine Ac U (V U U (Br U U U) (Ac U (Ab (Z ?_))))
 replace H:Hd _ _ _ [blk b31 [.slice A1 C.J.us.length c2,.int .i64 C.J.parts,.slice A6 C.J.map.length c7,.slice A11 C.J.comb.length c12,.slice A16 C.J.red.length c17,.int .i64 C.J.chunk,.int .i64 C.J.window,.int .i64 C.J.fuel,.slice A21 C.J.marks.length c22,.int .i64 C.w,.int .i64 C.t,.int .i64 C.o] 28] [Ae (At Ag) (.slice A1 C.J.us.length c2) C.J.us,Ae Af (.slice A6 C.J.map.length c7) C.J.map,Ae Af (.slice A11 C.J.comb.length c12) C.J.comb,Ae Af (.slice A16 C.J.red.length c17) C.J.red,Ae (Ai .i64) (.slice A21 C.J.marks.length c22) C.J.marks,Ae BI (.slice A26 recs.length c27) recs]:=H
 refine AC U (fun h33=>?_) (fun h33=>?_)
 ·exfalso;omega
 refine AB (Z (Aa (Ad (V U U (BD (cs:=[.slice A1 C.J.us.length c2,.int .i64 C.J.parts,.slice A6 C.J.map.length c7,.slice A11 C.J.comb.length c12,.slice A16 C.J.red.length c17,.int .i64 C.J.chunk,.int .i64 C.J.window,.int .i64 C.J.fuel,.slice A21 C.J.marks.length c22,.int .i64 C.w,.int .i64 C.t,.int .i64 C.o]) U EY U U (H.cellsI 0 U U)) (sc (MV (.slice A1 C.J.us.length c2) (.slice A6 C.J.map.length c7) (.slice A11 C.J.comb.length c12) (.slice A16 C.J.red.length c17) (.slice A21 C.J.marks.length c22) C (by first |assumption|omega)) H (lR 0 U (lR 1 U (lR 2 U (lR 3 U (lR 4 U l0))))) U U (Av Mw U U) ?_)))))
 rintro _ _ w ⟨J34,vS35,vM36,vC37,vR38,vK39,rfl,rfl,hf40⟩ H
 replace H:=H.h5 (A:=Y (At Ag) vS35 J34.us) (B:=Y Af vM36 J34.map) (C:=Y Af vC37 J34.comb) (D:=Y Af vR38 J34.red) (E:=Y (Ai .i64) vK39 J34.marks)
 have hsj:=hf40
 refine Ah 2 U (sc (cV) H l0 U U (Av Wg U U) ?_)
 rintro _ _ w ⟨b41,rfl,rfl⟩ H
 obtain ⟨A42,c43,rfl,hc44,hm45,hp46⟩:=H.fA 1 rfl
 obtain ⟨A47,c48,rfl,hc49,hm50,hp51⟩:=H.fA 2 rfl
 obtain ⟨A52,c53,rfl,hc54,hm55,hp56⟩:=H.fA 3 rfl
 obtain ⟨A57,c58,rfl,hc59,hm60,hp61⟩:=H.fA 4 rfl
 obtain ⟨A62,c63,rfl,hc64,hm65,hp66⟩:=H.fA 5 rfl
 refine V U U (Di (parts:=[(0,.tmp 23),(1,.tmp 24),(2,.tmp 25),(4,.tmp 26)]) (vs:=[.agg #[.slice A42 J34.us.length c43,.int .i64 J34.parts,.slice A47 J34.map.length c48,.slice A52 J34.comb.length c53,.slice A57 J34.red.length c58,.int .i64 J34.chunk,.int .i64 J34.window,.int .i64 J34.fuel,.slice A62 J34.marks.length c63,.int .i64 C.w,.int .i64 C.t,.int .i64 C.o],.int .i64 p,.int .i64 ep,.pointer (some ⟨b41,0,none⟩)]) (cs:=[.slice A42 J34.us.length c43,.int .i64 J34.parts,.slice A47 J34.map.length c48,.slice A52 J34.comb.length c53,.slice A57 J34.red.length c58,.int .i64 J34.chunk,.int .i64 J34.window,.int .i64 J34.fuel,.slice A62 J34.marks.length c63,.int .i64 C.w,.int .i64 C.t,.int .i64 C.o,.int .i64 p,.int .i64 ep,.bool false,.slice none 0 0,.bool false,.int .i64 0,.int .i64 0,.bool false,.slice none 0 0,.bool false,.int .i64 0,.int .i64 0,.bool false,.slice none 0 0,.bool false,.int .i64 0,.int .i64 0,.bool false,.slice none 0 0,.bool false,.int .i64 0,.int .i64 0,.bool false,.slice none 0 0,.bool false,.int .i64 0,.int .i64 0,.bool false,.slice none 0 0,.bool false,.int .i64 0,.int .i64 0,.pointer (some ⟨b41,0,none⟩),.slice none 0 0]) U S_ U U) ?_
 refine CT U U U U H (fun b67 w H=>(Ac U (Ab (Z ?_))))
 replace H:Hd _ _ _ [blk b67 [.slice A42 J34.us.length c43,.int .i64 J34.parts,.slice A47 J34.map.length c48,.slice A52 J34.comb.length c53,.slice A57 J34.red.length c58,.int .i64 J34.chunk,.int .i64 J34.window,.int .i64 J34.fuel,.slice A62 J34.marks.length c63,.int .i64 C.w,.int .i64 C.t,.int .i64 C.o,.int .i64 p,.int .i64 ep,.bool false,.slice none 0 0,.bool false,.int .i64 0,.int .i64 0,.bool false,.slice none 0 0,.bool false,.int .i64 0,.int .i64 0,.bool false,.slice none 0 0,.bool false,.int .i64 0,.int .i64 0,.bool false,.slice none 0 0,.bool false,.int .i64 0,.int .i64 0,.bool false,.slice none 0 0,.bool false,.int .i64 0,.int .i64 0,.bool false,.slice none 0 0,.bool false,.int .i64 0,.int .i64 0,.pointer (some ⟨b41,0,none⟩),.slice none 0 0] 197,CO 275 b41 ([]),Y (At Ag) (.slice A42 J34.us.length c43) J34.us,Y Af (.slice A47 J34.map.length c48) J34.map,Y Af (.slice A52 J34.comb.length c53) J34.comb,Y Af (.slice A57 J34.red.length c58) J34.red,Y (Ai .i64) (.slice A62 J34.marks.length c63) J34.marks,blk b31 [.slice A1 C.J.us.length c2,.int .i64 C.J.parts,.slice A6 C.J.map.length c7,.slice A11 C.J.comb.length c12,.slice A16 C.J.red.length c17,.int .i64 C.J.chunk,.int .i64 C.J.window,.int .i64 C.J.fuel,.slice A21 C.J.marks.length c22,.int .i64 C.w,.int .i64 C.t,.int .i64 C.o] 28] [Ae (At Ag) (.slice A1 C.J.us.length c2) C.J.us,Ae Af (.slice A6 C.J.map.length c7) C.J.map,Ae Af (.slice A11 C.J.comb.length c12) C.J.comb,Ae Af (.slice A16 C.J.red.length c17) C.J.red,Ae (Ai .i64) (.slice A21 C.J.marks.length c22) C.J.marks,Ae BI (.slice A26 recs.length c27) recs]:=H
 refine Aa (Aa ?_)
 have hlen:J34.us.length≤6:=by have:=hC.1.1;have:=hsj.len;omega
 replace H:=(H.newnil (At (Ai .i64))).prsN
 replace H:=H.h2 (A:=BY ((HB p ep).g) (fun _=>.slice none 0 0)) (B:=Y (At (Ai .i64)) (.slice none 0 0) [])|>.p8|>.p8|>.p8|>.p8|>.p8|>.p7|>.k9|>.h1 (A:=blk b67 (BF (.slice A42 J34.us.length c43) (.slice A47 J34.map.length c48) (.slice A52 J34.comb.length c53) (.slice A57 J34.red.length c58) (.slice A62 J34.marks.length c63) J34 C.w C.t C.o p ep ((HB p ep).g) (fun _=>.slice none 0 0) b41 (.slice none 0 0)) 197)
 refine Ad (Ac U (V U U (Bn U LB U) (Ac U (Ab (Z (AX (B1 (σ:=Nat×AV×(Nat→Value)×Value×List (Value×List Int)) (fun (k,R,hv,vs,us)=>[(1,.int .i64 p),(8,.pointer none),(9,.int .i64 0),(10,.pointer (some ⟨b67,0,none⟩)),(29,.slice A26 recs.length c27),(30,.int .i64 ((recs.length:Nat):Int)),(31,.int .i64 ((k:Nat):Int))]) (fun (k,R,hv,vs,us) w=>(Hd w0 F0 w [blk b67 (BF (.slice A42 J34.us.length c43) (.slice A47 J34.map.length c48) (.slice A52 J34.comb.length c53) (.slice A57 J34.red.length c58) (.slice A62 J34.marks.length c63) J34 C.w C.t C.o p ep R.g hv b41 vs) 197,Y (At Ag) (.slice A42 J34.us.length c43) J34.us,Y Af (.slice A47 J34.map.length c48) J34.map,Y Af (.slice A52 J34.comb.length c53) J34.comb,Y Af (.slice A57 J34.red.length c58) J34.red,Y (Ai .i64) (.slice A62 J34.marks.length c63) J34.marks,BY (R.g) hv,Y (At (Ai .i64)) vs us,CO 275 b41 ([])] [Ae (At Ag) (.slice A1 C.J.us.length c2) C.J.us,Ae Af (.slice A6 C.J.map.length c7) C.J.map,Ae Af (.slice A11 C.J.comb.length c12) C.J.comb,Ae Af (.slice A16 C.J.red.length c17) C.J.red,Ae (Ai .i64) (.slice A21 C.J.marks.length c22) C.J.marks,Ae BI (.slice A26 recs.length c27) recs])∧(R=C9 J34.us.length p ep ((recs.take k).map AW.p))∧(R.part=p)∧(us.map (·.2)=R.sets)∧(k≤recs.length)∧(us.length≤k)) (fun (k,R,hv,vs,us)=>recs.length - k) (0,HB p ep,(fun _=>.slice none 0 0),.slice none 0 0,[]) ⟨rfl,rfl,rfl,rfl,rfl,rfl,rfl,trivial⟩ ⟨H,rfl,rfl,rfl,Nat.zero_le _,Nat.le_refl _⟩ ?_)))))))
 rintro ⟨k,R,hv,vs,us⟩ w ⟨H,hR,hRp,hus,hk,hul⟩
 refine Aa (Ad (V U U (Br U U U) (Ab (Z (Aa ?_)))))
 refine AC U (fun h68=>?_) (fun h68=>?_)
 ·refine AB (Z (Aa (AX (Aa ?_))))
  obtain ⟨⟨a71,a72,a73,a74,a75,sv76,se77,pv78,pr79⟩,hx70⟩:∃ z9,recs[k]?=some z9:=⟨_,List.getElem?_eq_getElem (show k<recs.length by omega)⟩
  obtain ⟨A80,c81,A82,c83,rfl,rfl,m84,m85,m86,m87⟩:=H.nestRr 5 rfl hx70
  have hr1:=hrs _ (Cx hx70)
  unfold AL at hr1
  dsimp only at hr1
  refine Ad ?_
  have th88:=H.thRr 5 rfl hx70
  refine V U U (Bi (p:=A_ A26+k*7) U IW U U (by omega) (by omega) th88 U) (V U U (BD (cs:=[.int .i64 a71,.int .i64 a72,.int .i64 a73,.int .i64 a74,.int .i64 a75,.slice A80 se77.length c81,.slice A82 pr79.length c83]) U EZ U U (H.elsRr 5 U hx70 U)) (Dz U U U He H (fun b89 w H=>(Bx U U U EZ U U H U (Nat.le_of_ble_eq_true U) (fun u hu=>by simp [Value.cells] at hu;rcases hu with rfl|rfl|rfl|rfl|rfl|rfl|rfl<;>rfl) (fun w H=>?_)))))
  replace H:Hd _ _ _ [blk b89 [.int .i64 a71,.int .i64 a72,.int .i64 a73,.int .i64 a74,.int .i64 a75,.slice A80 se77.length c81,.slice A82 pr79.length c83] 69,blk b67 (BF (.slice A42 J34.us.length c43) (.slice A47 J34.map.length c48) (.slice A52 J34.comb.length c53) (.slice A57 J34.red.length c58) (.slice A62 J34.marks.length c63) J34 C.w C.t C.o p ep R.g hv b41 vs) 197,Y (At Ag) (.slice A42 J34.us.length c43) J34.us,Y Af (.slice A47 J34.map.length c48) J34.map,Y Af (.slice A52 J34.comb.length c53) J34.comb,Y Af (.slice A57 J34.red.length c58) J34.red,Y (Ai .i64) (.slice A62 J34.marks.length c63) J34.marks,BY (R.g) hv,Y (At (Ai .i64)) vs us,CO 275 b41 ([])] [Ae (At Ag) (.slice A1 C.J.us.length c2) C.J.us,Ae Af (.slice A6 C.J.map.length c7) C.J.map,Ae Af (.slice A11 C.J.comb.length c12) C.J.comb,Ae Af (.slice A16 C.J.red.length c17) C.J.red,Ae (Ai .i64) (.slice A21 C.J.marks.length c22) C.J.marks,Ae BI (.slice A26 recs.length c27) recs]:=H
  refine Ab (Z (Aa (Aa (Ad (V U U (Aj U Gw U) (V U U (An U AE U (H.cellI 0 U U)) (Ac U (V U U (CG U U U) (Ab (Z ?_))))))))))
  refine AC U (fun h90=>?_) (fun h90=>?_)
  ·refine BW (A8 (BX (Z (Ad (V U U (Be (z:=((k+1:Nat):Int)) U U U (by rw [AI (by omega) (by omega)];omega)) (Ac U (Ab ?_)))))))
   have hpart:(AW.p (⟨a71,a72,a73,a74,a75,.slice A80 se77.length c81,se77,.slice A82 pr79.length c83,pr79⟩:AW)).part≠R.part:=by rw [hRp];exact h90
   have hR2:=FV hR hx70 (aB hpart)
   replace H:=H.p9.p9.p9.p9.p9.p9.p9.p9.p9.k9
   exact Bo (s:=(k,R,hv,undef,us)) (k+1,R,hv,vs,us) ⟨rfl,rfl,rfl,rfl,rfl,rfl,rfl,trivial⟩ ⟨H,hR2,hRp,by (try dsimp only);exact hus,by (try dsimp only);omega,by (try dsimp only);omega⟩ (by (try dsimp only);omega)
  refine AB (Z (Aa (Aa ?_)))
  by_cases hin91:0≤a73∧a73<((J34.us.length:Nat):Int)
  ·refine Ad (Ac U (V U U (Aj U Gc U) (V U U (An U AE U (H.cellI 0 U U)) (sc (S3 b67 A42 J34.us.length c43 (.slice A47 J34.map.length c48) (.slice A52 J34.comb.length c53) (.slice A57 J34.red.length c58) (.slice A62 J34.marks.length c63) J34 C.w C.t C.o p ep R.g hv b41 vs a73 (by first |assumption|omega) (by first |assumption|omega)) H (lA 1 U (fun _ h=>h) l0) U U (Av P3 U U) ?_))))
   rintro _ _ w ⟨rfl,rfl⟩ H
   refine Ac U (Ab (Z (Aa (Ad (V U U (Aj U D8 U) (V U U (An U AE U (H.cellI 0 U U)) (V U U (Bg U U U) (Ac U ?_))))))))
   refine AR (d:=46) U (fun h92=>?_) (fun h92=>?_)
   ·refine Ac U (V U U (Hz U Sz U U) (Ah 3 U (V U U (AH U U) (V U U (Aj U Kn U) (V U U (An U D4 U (H.cellI 1 U (Nj (by omega)))) (V U U (Ek U U U) (Ac U (Ab (Z ?_)))))))))
    refine Dx (b:=!((R.g ((a73).toNat)).merged)) U (fun h93=>?_) (fun h93=>?_)
    ·refine Ad (Ah 2 U (V U U (Aj U FP U) (V U U (An U DG U (H.cellI 0 U U)) (sc (J8 (.slice A82 pr79.length c83) pr79 (by first |assumption|omega)) H (lX (fun F hA hR=>Ld (hR _ (List.mem_of_getElem? (i:=5) U)) hx70) l0) U U (Av KA U U) ?_))))
     rintro v94 _ w rfl H
     refine V U U (AH U U) (V U U (Aj U Kn U) ?_)
     replace H:=H.p2
     refine Bx U U U D4 U U H U (by show 14+((a73).toNat)*5+0+1≤46;omega) (fun u hu=>by simp [Value.cells] at hu;subst hu;rfl) (fun w H=>?_)
     replace H:Hd w0 F0 w [blk b67 (BF (.slice A42 J34.us.length c43) (.slice A47 J34.map.length c48) (.slice A52 J34.comb.length c53) (.slice A57 J34.red.length c58) (.slice A62 J34.marks.length c63) J34 C.w C.t C.o p ep (C5 R.g ((a73).toNat) { R.g ((a73).toNat) with merged:=true }) hv b41 vs) 197,Y Ag v94 pr79,blk b89 [.int .i64 a71,.int .i64 a72,.int .i64 a73,.int .i64 a74,.int .i64 a75,.slice A80 se77.length c81,.slice A82 pr79.length c83] 69,Y (At Ag) (.slice A42 J34.us.length c43) J34.us,Y Af (.slice A47 J34.map.length c48) J34.map,Y Af (.slice A52 J34.comb.length c53) J34.comb,Y Af (.slice A57 J34.red.length c58) J34.red,Y (Ai .i64) (.slice A62 J34.marks.length c63) J34.marks,BY (R.g) hv,Y (At (Ai .i64)) vs us,CO 275 b41 ([])] [Ae (At Ag) (.slice A1 C.J.us.length c2) C.J.us,Ae Af (.slice A6 C.J.map.length c7) C.J.map,Ae Af (.slice A11 C.J.comb.length c12) C.J.comb,Ae Af (.slice A16 C.J.red.length c17) C.J.red,Ae (Ai .i64) (.slice A21 C.J.marks.length c22) C.J.marks,Ae BI (.slice A26 recs.length c27) recs]:=by rw [←aJ (show (a73).toNat<6 by omega) true];exact H
     refine V U U (AH U U) (V U U (Aj U Pa U) ?_)
     obtain ⟨A95,c96,rfl,hc97,hm98,hp99⟩:=H.fA 1 rfl
     refine Bx U U U DG U U H U (by show 14+((a73).toNat)*5+1+1≤46;omega) (fun u hu=>by simp [Value.cells] at hu;subst hu;rfl) (fun w H=>?_)
     replace H:Hd w0 F0 w [blk b67 (BF (.slice A42 J34.us.length c43) (.slice A47 J34.map.length c48) (.slice A52 J34.comb.length c53) (.slice A57 J34.red.length c58) (.slice A62 J34.marks.length c63) J34 C.w C.t C.o p ep (C5 R.g ((a73).toNat) { R.g ((a73).toNat) with merged:=true }) (C5 hv ((a73).toNat) (.slice A95 pr79.length c96:Value)) b41 vs) 197,Y Ag (.slice A95 pr79.length c96) pr79,blk b89 [.int .i64 a71,.int .i64 a72,.int .i64 a73,.int .i64 a74,.int .i64 a75,.slice A80 se77.length c81,.slice A82 pr79.length c83] 69,Y (At Ag) (.slice A42 J34.us.length c43) J34.us,Y Af (.slice A47 J34.map.length c48) J34.map,Y Af (.slice A52 J34.comb.length c53) J34.comb,Y Af (.slice A57 J34.red.length c58) J34.red,Y (Ai .i64) (.slice A62 J34.marks.length c63) J34.marks,BY (R.g) hv,Y (At (Ai .i64)) vs us,CO 275 b41 ([])] [Ae (At Ag) (.slice A1 C.J.us.length c2) C.J.us,Ae Af (.slice A6 C.J.map.length c7) C.J.map,Ae Af (.slice A11 C.J.comb.length c12) C.J.comb,Ae Af (.slice A16 C.J.red.length c17) C.J.red,Ae (Ai .i64) (.slice A21 C.J.marks.length c22) C.J.marks,Ae BI (.slice A26 recs.length c27) recs]:=by rw [←aK (show (a73).toNat<6 by omega) (.slice A95 pr79.length c96:Value)];exact H
     refine Ab (Z (Aa (Ad (V U U (Aj U D8 U) (V U U (An U AE U (H.cellI 2 U U)) (V U U (Bg U U U) (Ab (Z ?_))))))))
     refine AC U (fun h100=>?_) (fun h100=>?_)
     ·exfalso;omega
     refine AB (Bb (Z (Ad (V U U (Be (z:=((k+1:Nat):Int)) U U U (by rw [AI (by omega) (by omega)];omega)) (Ac U (Ab ?_))))))
     have hpart:(AW.p (⟨a71,a72,a73,a74,a75,.slice A80 se77.length c81,se77,.slice A82 pr79.length c83,pr79⟩:AW)).part=R.part:=by rw [hRp];exact Classical.not_not.1 h90
     replace H:=H.pick 10 rfl|>.pick 10 rfl|>.p9|>.p9|>.p9|>.p9|>.p9|>.p7|>.pick 10 rfl|>.p9|>.k10|>.prsU (i:=(a73).toNat) (x:=({ R.g (a73).toNat with merged:=true,pairs:=pr79 }:DB)) (by omega)
     replace H:Hd w0 F0 w [BY (({ R with g:=C5 R.g (a73).toNat ({ R.g (a73).toNat with merged:=true,pairs:=pr79 }:DB) }:AV).g) (C5 hv (a73).toNat (.slice A95 pr79.length c96:Value)),blk b67 (BF (.slice A42 J34.us.length c43) (.slice A47 J34.map.length c48) (.slice A52 J34.comb.length c53) (.slice A57 J34.red.length c58) (.slice A62 J34.marks.length c63) J34 C.w C.t C.o p ep (({ R with g:=C5 R.g (a73).toNat ({ R.g (a73).toNat with merged:=true,pairs:=pr79 }:DB) }:AV).g) (C5 hv (a73).toNat (.slice A95 pr79.length c96:Value)) b41 vs) 197,Y (At Ag) (.slice A42 J34.us.length c43) J34.us,Y Af (.slice A47 J34.map.length c48) J34.map,Y Af (.slice A52 J34.comb.length c53) J34.comb,Y Af (.slice A57 J34.red.length c58) J34.red,Y (Ai .i64) (.slice A62 J34.marks.length c63) J34.marks,Y (At (Ai .i64)) vs us,CO 275 b41 ([])] [Ae (At Ag) (.slice A1 C.J.us.length c2) C.J.us,Ae Af (.slice A6 C.J.map.length c7) C.J.map,Ae Af (.slice A11 C.J.comb.length c12) C.J.comb,Ae Af (.slice A16 C.J.red.length c17) C.J.red,Ae (Ai .i64) (.slice A21 C.J.marks.length c22) C.J.marks,Ae BI (.slice A26 recs.length c27) recs]:=by
       rw [←aI (g:=C5 R.g (a73).toNat { R.g (a73).toNat with merged:=true }) (g':=({ R with g:=C5 R.g (a73).toNat ({ R.g (a73).toNat with merged:=true,pairs:=pr79 }:DB) }:AV).g) (fun j=>by dsimp only;by_cases e:j=(a73).toNat<;>first |(subst e;rw [H6,H6];exact ⟨rfl,rfl,rfl,rfl⟩)|(rw [H0 _ _ e,H0 _ _ e];exact ⟨rfl,rfl,rfl,rfl⟩))]
       exact H
     have hR2:=FV hR hx70 (Z_ hpart h92 hin91 (by simpa [AW.p] using h93))
     replace H:=H.sel 9 [1,2,3,4,5,6,0,7,8] [] rfl (by kernel_rfl)
     replace H:Hd _ _ _ [blk b67 (BF (.slice A42 J34.us.length c43) (.slice A47 J34.map.length c48) (.slice A52 J34.comb.length c53) (.slice A57 J34.red.length c58) (.slice A62 J34.marks.length c63) J34 C.w C.t C.o p ep (({ R with g:=C5 R.g (a73).toNat ({ R.g (a73).toNat with merged:=true,pairs:=pr79 }:DB) }:AV).g) (C5 hv (a73).toNat (.slice A95 pr79.length c96:Value)) b41 vs) 197,Y (At Ag) (.slice A42 J34.us.length c43) J34.us,Y Af (.slice A47 J34.map.length c48) J34.map,Y Af (.slice A52 J34.comb.length c53) J34.comb,Y Af (.slice A57 J34.red.length c58) J34.red,Y (Ai .i64) (.slice A62 J34.marks.length c63) J34.marks,BY (({ R with g:=C5 R.g (a73).toNat ({ R.g (a73).toNat with merged:=true,pairs:=pr79 }:DB) }:AV).g) (C5 hv (a73).toNat (.slice A95 pr79.length c96:Value)),Y (At (Ai .i64)) vs us,CO 275 b41 ([])] [Ae (At Ag) (.slice A1 C.J.us.length c2) C.J.us,Ae Af (.slice A6 C.J.map.length c7) C.J.map,Ae Af (.slice A11 C.J.comb.length c12) C.J.comb,Ae Af (.slice A16 C.J.red.length c17) C.J.red,Ae (Ai .i64) (.slice A21 C.J.marks.length c22) C.J.marks,Ae BI (.slice A26 recs.length c27) recs]:=H
     exact Bo (s:=(k,R,hv,undef,us)) (k+1,({ R with g:=C5 R.g (a73).toNat ({ R.g (a73).toNat with merged:=true,pairs:=pr79 }:DB) }:AV),C5 hv (a73).toNat (.slice A95 pr79.length c96:Value),vs,us) ⟨rfl,rfl,rfl,rfl,rfl,rfl,rfl,trivial⟩ ⟨H,hR2,hRp,by (try dsimp only);exact hus,by (try dsimp only);omega,by (try dsimp only);omega⟩ (by (try dsimp only);omega)
    refine AB (Z (Aa (Ad (V U U (Aj U D8 U) (V U U (An U AE U (H.cellI 0 U U)) (V U U (Bg U U U) (Ab (Z ?_))))))))
    refine AC U (fun h101=>?_) (fun h101=>?_)
    ·exfalso;omega
    refine AB (Bb (Z (Ad (V U U (Be (z:=((k+1:Nat):Int)) U U U (by rw [AI (by omega) (by omega)];omega)) (Ac U (Ab ?_))))))
    have hpart:(AW.p (⟨a71,a72,a73,a74,a75,.slice A80 se77.length c81,se77,.slice A82 pr79.length c83,pr79⟩:AW)).part=R.part:=by rw [hRp];exact Classical.not_not.1 h90
    have hR2:=FV hR hx70 (Lb hpart (fun h=>by have h2:=h.2.2;have h3:=h93;dsimp only [AW.p] at h2;rw [h2] at h3;exact absurd h3 (by decide)) h101)
    replace H:=H.p9.p9.p9.p9.p9.p9.p9.p9.p9.k9
    exact Bo (s:=(k,R,hv,undef,us)) (k+1,R,hv,vs,us) ⟨rfl,rfl,rfl,rfl,rfl,rfl,rfl,trivial⟩ ⟨H,hR2,hRp,by (try dsimp only);exact hus,by (try dsimp only);omega,by (try dsimp only);omega⟩ (by (try dsimp only);omega)
   refine Ah 10 U (Ab (Z (Cq U (AB (Z (Aa (Ad (V U U (Aj U D8 U) (V U U (An U AE U (H.cellI 0 U U)) (V U U (Bg U U U) (Ab (Z ?_))))))))))))
   refine AC U (fun h102=>?_) (fun h102=>?_)
   ·replace H:=H.p9.p8.p8.p8.p8.p8.p8.p7
    refine Cc (.e 0 (.e 1 (.e 2 (.e 3 (.e 5 (.e 6 (.b 4 7 (.m 7 (.m 8 (.m 9 (.e 10 (.e 11 (.m 12 .z)))))) (.b 4 8 (.m 8 (.m 9 (.e 10 (.e 11 (.m 12 .z))))) (.m 4 (.m 9 (.e 10 (.e 11 (.m 12 .z))))))))))))) (fun w=>∃ Ar,Hd w0 F0 w (blk b89 [.int .i64 a71,.int .i64 a72,.int .i64 a73,.int .i64 a74,.int .i64 a75,.slice A80 se77.length c81,.slice A82 pr79.length c83] 69::Y (At Ag) (.slice A42 J34.us.length c43) J34.us::Y Af (.slice A47 J34.map.length c48) J34.map::Y Af (.slice A52 J34.comb.length c53) J34.comb::Y Af (.slice A57 J34.red.length c58) J34.red::Y (Ai .i64) (.slice A62 J34.marks.length c63) J34.marks::BY (R.g) hv::CO 275 b41 ([])::Ar) [Ae (At Ag) (.slice A1 C.J.us.length c2) C.J.us,Ae Af (.slice A6 C.J.map.length c7) C.J.map,Ae Af (.slice A11 C.J.comb.length c12) C.J.comb,Ae Af (.slice A16 C.J.red.length c17) C.J.red,Ae (Ai .i64) (.slice A21 C.J.marks.length c22) C.J.marks,Ae BI (.slice A26 recs.length c27) recs]) mo (by kernel_rfl) (fun w H=>⟨_,H⟩) H (fun w H=>?_)
    refine Au U (Au U (Ao U U U (fun w ⟨Ar,H⟩=>AH U U) (Ao U U U (fun w ⟨Ar,H⟩=>Aj U Ho U) (Ao U U U (fun w ⟨Ar,H⟩=>Aj U Gd U) (Ao U U U (fun w ⟨Ar,H⟩=>An U DY U (H.cellI 0 U U)) ?_)))))
    refine Gu U U ?_ ?_
    ·refine V U U (An U F5 U (H.cellI 8 U U)) (AG ⟨_,H⟩ (AO U (sc (I_ (.slice A80 se77.length c81) se77 (by first |assumption|omega)) H (lX (fun F hA hR=>HX (hR _ (List.mem_of_getElem? (i:=5) U)) hx70) l0) U U (Av Jo U U) ?_)))
     rintro v103 _ w rfl H
     replace H:=H.h1 (A:=Y (Ai .i64) v103 se77)|>.p8|>.p8|>.p8|>.p8|>.p8|>.p8|>.p8|>.p8
     refine AG ⟨_,H⟩ (AO U ?_)
     obtain ⟨A105,c106,rfl,hc107,hm108,hp109⟩:=H.fA 8 rfl
     refine Cb (parts:=[(0,.tmp 76)]) (vs:=[.slice A105 se77.length c106]) (cs:=[.slice A105 se77.length c106]) U U U FX F9 U (by decide) (by decide) U U H (fun b104 w H=>?_)
     replace H:Hd _ _ _ [blk b104 [.slice A105 se77.length c106] 24,blk b89 [.int .i64 a71,.int .i64 a72,.int .i64 a73,.int .i64 a74,.int .i64 a75,.slice A80 se77.length c81,.slice A82 pr79.length c83] 69,Y (At Ag) (.slice A42 J34.us.length c43) J34.us,Y Af (.slice A47 J34.map.length c48) J34.map,Y Af (.slice A52 J34.comb.length c53) J34.comb,Y Af (.slice A57 J34.red.length c58) J34.red,Y (Ai .i64) (.slice A62 J34.marks.length c63) J34.marks,BY (R.g) hv,CO 275 b41 ([]),Y (Ai .i64) (.slice A105 se77.length c106) se77,blk b67 (BF (.slice A42 J34.us.length c43) (.slice A47 J34.map.length c48) (.slice A52 J34.comb.length c53) (.slice A57 J34.red.length c58) (.slice A62 J34.marks.length c63) J34 C.w C.t C.o p ep R.g hv b41 vs) 197,Y (At (Ai .i64)) vs us] [Ae (At Ag) (.slice A1 C.J.us.length c2) C.J.us,Ae Af (.slice A6 C.J.map.length c7) C.J.map,Ae Af (.slice A11 C.J.comb.length c12) C.J.comb,Ae Af (.slice A16 C.J.red.length c17) C.J.red,Ae (Ai .i64) (.slice A21 C.J.marks.length c22) C.J.marks,Ae BI (.slice A26 recs.length c27) recs]:=H
     replace H:=H.p8.p8.p8.p8.p8.p8.p8.p8
     refine AG ⟨_,H⟩ (AO U ?_)
     replace H:=H.pick 11 rfl|>.pick 10 rfl|>.pick 10 rfl|>.p2
     refine IT U U U FX F9 U (by decide) U U H (by first |omega|(simp only [List.length_append,List.length_cons,List.length_nil];omega)) (fun v110 w H=>?_)
     replace H:=H.h1 (A:=Y (At (Ai .i64)) v110 (us++[((.slice A105 se77.length c106:Value),se77)]))|>.p8|>.p8|>.p8|>.p8|>.p8|>.p8|>.p8|>.p8
     refine AG ⟨_,H⟩ (Ao U U U (fun w ⟨Ar,H⟩=>AH U U) (Ao U U U (fun w ⟨Ar,H⟩=>Aj U Ho U) (AO U ?_)))
     obtain ⟨A111,c112,rfl,hc113,hm114,hp115⟩:=H.fA 8 rfl
     replace H:=H.p9
     refine Bx U U U F5 U U H U (Nat.le_of_ble_eq_true U) (fun u hu=>by simp [Value.cells] at hu;subst hu;rfl) (fun w H=>?_)
     replace H:Hd _ _ _ [blk b67 (BF (.slice A42 J34.us.length c43) (.slice A47 J34.map.length c48) (.slice A52 J34.comb.length c53) (.slice A57 J34.red.length c58) (.slice A62 J34.marks.length c63) J34 C.w C.t C.o p ep R.g hv b41 (.slice A111 ((us++[((.slice A105 se77.length c106:Value),se77)]).length) c112)) 197,blk b89 [.int .i64 a71,.int .i64 a72,.int .i64 a73,.int .i64 a74,.int .i64 a75,.slice A80 se77.length c81,.slice A82 pr79.length c83] 69,Y (At Ag) (.slice A42 J34.us.length c43) J34.us,Y Af (.slice A47 J34.map.length c48) J34.map,Y Af (.slice A52 J34.comb.length c53) J34.comb,Y Af (.slice A57 J34.red.length c58) J34.red,Y (Ai .i64) (.slice A62 J34.marks.length c63) J34.marks,BY (R.g) hv,CO 275 b41 ([]),Y (At (Ai .i64)) (.slice A111 ((us++[((.slice A105 se77.length c106:Value),se77)]).length) c112) (us++[((.slice A105 se77.length c106:Value),se77)])] [Ae (At Ag) (.slice A1 C.J.us.length c2) C.J.us,Ae Af (.slice A6 C.J.map.length c7) C.J.map,Ae Af (.slice A11 C.J.comb.length c12) C.J.comb,Ae Af (.slice A16 C.J.red.length c17) C.J.red,Ae (Ai .i64) (.slice A21 C.J.marks.length c22) C.J.marks,Ae BI (.slice A26 recs.length c27) recs]:=H
     replace H:=H.p8.p8.p8.p8.p8.p8.p8.p8
     refine AG ⟨_,H⟩ (BN (Bb (Z (Ad (V U U (Be (z:=((k+1:Nat):Int)) U U U (by rw [AI (by omega) (by omega)];omega)) (Ac U (Ab ?_)))))))
     have hpart:(AW.p (⟨a71,a72,a73,a74,a75,.slice A80 se77.length c81,se77,.slice A82 pr79.length c83,pr79⟩:AW)).part=R.part:=by rw [hRp];exact Classical.not_not.1 h90
     have hR2:=FV hR hx70 (Iq9 hpart h102)
     replace H:=H.p7.p9.p8.p8.p8.p8.p8.p8.p9.k9.h7 (A:=blk b67 (BF (.slice A42 J34.us.length c43) (.slice A47 J34.map.length c48) (.slice A52 J34.comb.length c53) (.slice A57 J34.red.length c58) (.slice A62 J34.marks.length c63) J34 C.w C.t C.o p ep (({ R with sets:=R.sets++[se77] }:AV).g) hv b41 (.slice A111 ((us++[((.slice A105 se77.length c106:Value),se77)]).length) c112)) 197) (G:=BY (({ R with sets:=R.sets++[se77] }:AV).g) hv)
     exact Bo (s:=(k,R,hv,undef,us)) (k+1,({ R with sets:=R.sets++[se77] }:AV),hv,.slice A111 ((us++[((.slice A105 se77.length c106:Value),se77)]).length) c112,us++[((.slice A105 se77.length c106:Value),se77)]) ⟨rfl,rfl,rfl,rfl,rfl,rfl,rfl,trivial⟩ ⟨H,hR2,hRp,by (try dsimp only);rw [List.map_append,hus];rfl,by (try dsimp only);omega,by (try dsimp only);rw [List.length_append];simp only [List.length_cons,List.length_nil];omega⟩ (by (try dsimp only);omega)
    refine sc (I_ (.slice A80 se77.length c81) se77 (by first |assumption|omega)) H (lX (fun F hA hR=>HX (hR _ (List.mem_of_getElem? (i:=5) U)) hx70) l0) U U (Av Jo U U) ?_
    rintro v116 _ w rfl H
    replace H:=H.h1 (A:=Y (Ai .i64) v116 se77)|>.p8|>.p8|>.p8|>.p8|>.p8|>.p8|>.p8|>.p8
    refine AG ⟨_,H⟩ ?_
    refine Gu U U ?_ ?_
    ·refine V U U (An U F5 U (H.cellI 9 U U)) (AG ⟨_,H⟩ (AO U ?_))
     obtain ⟨A118,c119,rfl,hc120,hm121,hp122⟩:=H.fA 8 rfl
     refine Cb (parts:=[(0,.tmp 76)]) (vs:=[.slice A118 se77.length c119]) (cs:=[.slice A118 se77.length c119]) U U U FX F9 U (by decide) (by decide) U U H (fun b117 w H=>?_)
     replace H:Hd _ _ _ [blk b117 [.slice A118 se77.length c119] 24,blk b89 [.int .i64 a71,.int .i64 a72,.int .i64 a73,.int .i64 a74,.int .i64 a75,.slice A80 se77.length c81,.slice A82 pr79.length c83] 69,Y (At Ag) (.slice A42 J34.us.length c43) J34.us,Y Af (.slice A47 J34.map.length c48) J34.map,Y Af (.slice A52 J34.comb.length c53) J34.comb,Y Af (.slice A57 J34.red.length c58) J34.red,Y (Ai .i64) (.slice A62 J34.marks.length c63) J34.marks,BY (R.g) hv,CO 275 b41 ([]),Y (Ai .i64) (.slice A118 se77.length c119) se77,blk b67 (BF (.slice A42 J34.us.length c43) (.slice A47 J34.map.length c48) (.slice A52 J34.comb.length c53) (.slice A57 J34.red.length c58) (.slice A62 J34.marks.length c63) J34 C.w C.t C.o p ep R.g hv b41 vs) 197,Y (At (Ai .i64)) vs us] [Ae (At Ag) (.slice A1 C.J.us.length c2) C.J.us,Ae Af (.slice A6 C.J.map.length c7) C.J.map,Ae Af (.slice A11 C.J.comb.length c12) C.J.comb,Ae Af (.slice A16 C.J.red.length c17) C.J.red,Ae (Ai .i64) (.slice A21 C.J.marks.length c22) C.J.marks,Ae BI (.slice A26 recs.length c27) recs]:=H
     replace H:=H.p8.p8.p8.p8.p8.p8.p8.p8
     refine AG ⟨_,H⟩ (AO U ?_)
     replace H:=H.pick 11 rfl|>.pick 10 rfl|>.pick 10 rfl|>.p2
     refine IT U U U FX F9 U (by decide) U U H (by first |omega|(simp only [List.length_append,List.length_cons,List.length_nil];omega)) (fun v123 w H=>?_)
     replace H:=H.h1 (A:=Y (At (Ai .i64)) v123 (us++[((.slice A118 se77.length c119:Value),se77)]))|>.p8|>.p8|>.p8|>.p8|>.p8|>.p8|>.p8|>.p8
     refine AG ⟨_,H⟩ (Ao U U U (fun w ⟨Ar,H⟩=>AH U U) (Ao U U U (fun w ⟨Ar,H⟩=>Aj U Ho U) (AO U ?_)))
     obtain ⟨A124,c125,rfl,hc126,hm127,hp128⟩:=H.fA 8 rfl
     replace H:=H.p9
     refine Bx U U U F5 U U H U (Nat.le_of_ble_eq_true U) (fun u hu=>by simp [Value.cells] at hu;subst hu;rfl) (fun w H=>?_)
     replace H:Hd _ _ _ [blk b67 (BF (.slice A42 J34.us.length c43) (.slice A47 J34.map.length c48) (.slice A52 J34.comb.length c53) (.slice A57 J34.red.length c58) (.slice A62 J34.marks.length c63) J34 C.w C.t C.o p ep R.g hv b41 (.slice A124 ((us++[((.slice A118 se77.length c119:Value),se77)]).length) c125)) 197,blk b89 [.int .i64 a71,.int .i64 a72,.int .i64 a73,.int .i64 a74,.int .i64 a75,.slice A80 se77.length c81,.slice A82 pr79.length c83] 69,Y (At Ag) (.slice A42 J34.us.length c43) J34.us,Y Af (.slice A47 J34.map.length c48) J34.map,Y Af (.slice A52 J34.comb.length c53) J34.comb,Y Af (.slice A57 J34.red.length c58) J34.red,Y (Ai .i64) (.slice A62 J34.marks.length c63) J34.marks,BY (R.g) hv,CO 275 b41 ([]),Y (At (Ai .i64)) (.slice A124 ((us++[((.slice A118 se77.length c119:Value),se77)]).length) c125) (us++[((.slice A118 se77.length c119:Value),se77)])] [Ae (At Ag) (.slice A1 C.J.us.length c2) C.J.us,Ae Af (.slice A6 C.J.map.length c7) C.J.map,Ae Af (.slice A11 C.J.comb.length c12) C.J.comb,Ae Af (.slice A16 C.J.red.length c17) C.J.red,Ae (Ai .i64) (.slice A21 C.J.marks.length c22) C.J.marks,Ae BI (.slice A26 recs.length c27) recs]:=H
     replace H:=H.p8.p8.p8.p8.p8.p8.p8.p8
     refine AG ⟨_,H⟩ (BN (Bb (Z (Ad (V U U (Be (z:=((k+1:Nat):Int)) U U U (by rw [AI (by omega) (by omega)];omega)) (Ac U (Ab ?_)))))))
     have hpart:(AW.p (⟨a71,a72,a73,a74,a75,.slice A80 se77.length c81,se77,.slice A82 pr79.length c83,pr79⟩:AW)).part=R.part:=by rw [hRp];exact Classical.not_not.1 h90
     have hR2:=FV hR hx70 (Iq9 hpart h102)
     replace H:=H.p7.p9.p8.p8.p8.p8.p8.p8.p9.k9.h7 (A:=blk b67 (BF (.slice A42 J34.us.length c43) (.slice A47 J34.map.length c48) (.slice A52 J34.comb.length c53) (.slice A57 J34.red.length c58) (.slice A62 J34.marks.length c63) J34 C.w C.t C.o p ep (({ R with sets:=R.sets++[se77] }:AV).g) hv b41 (.slice A124 ((us++[((.slice A118 se77.length c119:Value),se77)]).length) c125)) 197) (G:=BY (({ R with sets:=R.sets++[se77] }:AV).g) hv)
     exact Bo (s:=(k,R,hv,undef,us)) (k+1,({ R with sets:=R.sets++[se77] }:AV),hv,.slice A124 ((us++[((.slice A118 se77.length c119:Value),se77)]).length) c125,us++[((.slice A118 se77.length c119:Value),se77)]) ⟨rfl,rfl,rfl,rfl,rfl,rfl,rfl,trivial⟩ ⟨H,hR2,hRp,by (try dsimp only);rw [List.map_append,hus];rfl,by (try dsimp only);omega,by (try dsimp only);rw [List.length_append];simp only [List.length_cons,List.length_nil];omega⟩ (by (try dsimp only);omega)
    obtain ⟨A130,c131,rfl,hc132,hm133,hp134⟩:=H.fA 8 rfl
    refine Cb (parts:=[(0,.tmp 76)]) (vs:=[.slice A130 se77.length c131]) (cs:=[.slice A130 se77.length c131]) U U U FX F9 U (by decide) (by decide) U U H (fun b129 w H=>?_)
    replace H:Hd _ _ _ [blk b129 [.slice A130 se77.length c131] 24,blk b89 [.int .i64 a71,.int .i64 a72,.int .i64 a73,.int .i64 a74,.int .i64 a75,.slice A80 se77.length c81,.slice A82 pr79.length c83] 69,Y (At Ag) (.slice A42 J34.us.length c43) J34.us,Y Af (.slice A47 J34.map.length c48) J34.map,Y Af (.slice A52 J34.comb.length c53) J34.comb,Y Af (.slice A57 J34.red.length c58) J34.red,Y (Ai .i64) (.slice A62 J34.marks.length c63) J34.marks,BY (R.g) hv,CO 275 b41 ([]),Y (Ai .i64) (.slice A130 se77.length c131) se77,blk b67 (BF (.slice A42 J34.us.length c43) (.slice A47 J34.map.length c48) (.slice A52 J34.comb.length c53) (.slice A57 J34.red.length c58) (.slice A62 J34.marks.length c63) J34 C.w C.t C.o p ep R.g hv b41 vs) 197,Y (At (Ai .i64)) vs us] [Ae (At Ag) (.slice A1 C.J.us.length c2) C.J.us,Ae Af (.slice A6 C.J.map.length c7) C.J.map,Ae Af (.slice A11 C.J.comb.length c12) C.J.comb,Ae Af (.slice A16 C.J.red.length c17) C.J.red,Ae (Ai .i64) (.slice A21 C.J.marks.length c22) C.J.marks,Ae BI (.slice A26 recs.length c27) recs]:=H
    replace H:=H.p8.p8.p8.p8.p8.p8.p8.p8
    refine AG ⟨_,H⟩ (AO U (V U U (An U F5 U (H.cellI 10 U U)) (AG ⟨_,H⟩ (AO U ?_))))
    replace H:=H.pick 11 rfl|>.pick 10 rfl|>.pick 10 rfl|>.p2
    refine IT U U U FX F9 U (by decide) U U H (by first |omega|(simp only [List.length_append,List.length_cons,List.length_nil];omega)) (fun v135 w H=>?_)
    replace H:=H.h1 (A:=Y (At (Ai .i64)) v135 (us++[((.slice A130 se77.length c131:Value),se77)]))|>.p8|>.p8|>.p8|>.p8|>.p8|>.p8|>.p8|>.p8
    refine AG ⟨_,H⟩ (Ao U U U (fun w ⟨Ar,H⟩=>AH U U) (Ao U U U (fun w ⟨Ar,H⟩=>Aj U Ho U) (AO U ?_)))
    obtain ⟨A136,c137,rfl,hc138,hm139,hp140⟩:=H.fA 8 rfl
    replace H:=H.p9
    refine Bx U U U F5 U U H U (Nat.le_of_ble_eq_true U) (fun u hu=>by simp [Value.cells] at hu;subst hu;rfl) (fun w H=>?_)
    replace H:Hd _ _ _ [blk b67 (BF (.slice A42 J34.us.length c43) (.slice A47 J34.map.length c48) (.slice A52 J34.comb.length c53) (.slice A57 J34.red.length c58) (.slice A62 J34.marks.length c63) J34 C.w C.t C.o p ep R.g hv b41 (.slice A136 ((us++[((.slice A130 se77.length c131:Value),se77)]).length) c137)) 197,blk b89 [.int .i64 a71,.int .i64 a72,.int .i64 a73,.int .i64 a74,.int .i64 a75,.slice A80 se77.length c81,.slice A82 pr79.length c83] 69,Y (At Ag) (.slice A42 J34.us.length c43) J34.us,Y Af (.slice A47 J34.map.length c48) J34.map,Y Af (.slice A52 J34.comb.length c53) J34.comb,Y Af (.slice A57 J34.red.length c58) J34.red,Y (Ai .i64) (.slice A62 J34.marks.length c63) J34.marks,BY (R.g) hv,CO 275 b41 ([]),Y (At (Ai .i64)) (.slice A136 ((us++[((.slice A130 se77.length c131:Value),se77)]).length) c137) (us++[((.slice A130 se77.length c131:Value),se77)])] [Ae (At Ag) (.slice A1 C.J.us.length c2) C.J.us,Ae Af (.slice A6 C.J.map.length c7) C.J.map,Ae Af (.slice A11 C.J.comb.length c12) C.J.comb,Ae Af (.slice A16 C.J.red.length c17) C.J.red,Ae (Ai .i64) (.slice A21 C.J.marks.length c22) C.J.marks,Ae BI (.slice A26 recs.length c27) recs]:=H
    replace H:=H.p8.p8.p8.p8.p8.p8.p8.p8
    refine AG ⟨_,H⟩ (BN (Bb (Z (Ad (V U U (Be (z:=((k+1:Nat):Int)) U U U (by rw [AI (by omega) (by omega)];omega)) (Ac U (Ab ?_)))))))
    have hpart:(AW.p (⟨a71,a72,a73,a74,a75,.slice A80 se77.length c81,se77,.slice A82 pr79.length c83,pr79⟩:AW)).part=R.part:=by rw [hRp];exact Classical.not_not.1 h90
    have hR2:=FV hR hx70 (Iq9 hpart h102)
    replace H:=H.p7.p9.p8.p8.p8.p8.p8.p8.p9.k9.h7 (A:=blk b67 (BF (.slice A42 J34.us.length c43) (.slice A47 J34.map.length c48) (.slice A52 J34.comb.length c53) (.slice A57 J34.red.length c58) (.slice A62 J34.marks.length c63) J34 C.w C.t C.o p ep (({ R with sets:=R.sets++[se77] }:AV).g) hv b41 (.slice A136 ((us++[((.slice A130 se77.length c131:Value),se77)]).length) c137)) 197) (G:=BY (({ R with sets:=R.sets++[se77] }:AV).g) hv)
    exact Bo (s:=(k,R,hv,undef,us)) (k+1,({ R with sets:=R.sets++[se77] }:AV),hv,.slice A136 ((us++[((.slice A130 se77.length c131:Value),se77)]).length) c137,us++[((.slice A130 se77.length c131:Value),se77)]) ⟨rfl,rfl,rfl,rfl,rfl,rfl,rfl,trivial⟩ ⟨H,hR2,hRp,by (try dsimp only);rw [List.map_append,hus];rfl,by (try dsimp only);omega,by (try dsimp only);rw [List.length_append];simp only [List.length_cons,List.length_nil];omega⟩ (by (try dsimp only);omega)
   refine AB (Bb (Z (Ad (V U U (Be (z:=((k+1:Nat):Int)) U U U (by rw [AI (by omega) (by omega)];omega)) (Ac U (Ab ?_))))))
   have hpart:(AW.p (⟨a71,a72,a73,a74,a75,.slice A80 se77.length c81,se77,.slice A82 pr79.length c83,pr79⟩:AW)).part=R.part:=by rw [hRp];exact Classical.not_not.1 h90
   have hR2:=FV hR hx70 (Lb hpart (fun h=>h92 h.1) h102)
   replace H:=H.p9.p9.p9.p9.p9.p9.p9.p9.p9.k9
   exact Bo (s:=(k,R,hv,undef,us)) (k+1,R,hv,vs,us) ⟨rfl,rfl,rfl,rfl,rfl,rfl,rfl,trivial⟩ ⟨H,hR2,hRp,by (try dsimp only);exact hus,by (try dsimp only);omega,by (try dsimp only);omega⟩ (by (try dsimp only);omega)
  refine Ad (Ac U (V U U (Aj U Gc U) (V U U (An U AE U (H.cellI 0 U U)) (sc (S0 b67 A42 J34.us.length c43 (.slice A47 J34.map.length c48) (.slice A52 J34.comb.length c53) (.slice A57 J34.red.length c58) (.slice A62 J34.marks.length c63) J34 C.w C.t C.o p ep R.g hv b41 vs a73 (by first |assumption|omega)) H (lA 1 U (fun _ h=>h) l0) U U (Av P3 U U) ?_))))
  rintro _ _ w ⟨rfl,rfl⟩ H
  refine Ac U (Ab (Z (Aa (Ad (V U U (Aj U D8 U) (V U U (An U AE U (H.cellI 0 U U)) (V U U (Bg U U U) (Ac U ?_))))))))
  refine AR (d:=46) U (fun h141=>?_) (fun h141=>?_)
  ·refine Ac U (V U U (Hz U Sz U U) (Ah 8 U (Ab (Z (Cq U (AB (Z (Aa (Ad (V U U (Aj U D8 U) (V U U (An U AE U (H.cellI 0 U U)) (V U U (Bg U U U) (Ab (Z ?_))))))))))))))
   refine AC U (fun h142=>?_) (fun h142=>?_)
   ·exfalso;omega
   refine AB (Bb (Z (Ad (V U U (Be (z:=((k+1:Nat):Int)) U U U (by rw [AI (by omega) (by omega)];omega)) (Ac U (Ab ?_))))))
   have hpart:(AW.p (⟨a71,a72,a73,a74,a75,.slice A80 se77.length c81,se77,.slice A82 pr79.length c83,pr79⟩:AW)).part=R.part:=by rw [hRp];exact Classical.not_not.1 h90
   have hR2:=FV hR hx70 (Lb hpart (fun h=>hin91 h.2.1) h142)
   replace H:=H.p9.p9.p9.p9.p9.p9.p9.p9.p9.k9
   exact Bo (s:=(k,R,hv,undef,us)) (k+1,R,hv,vs,us) ⟨rfl,rfl,rfl,rfl,rfl,rfl,rfl,trivial⟩ ⟨H,hR2,hRp,by (try dsimp only);exact hus,by (try dsimp only);omega,by (try dsimp only);omega⟩ (by (try dsimp only);omega)
  refine Ah 10 U (Ab (Z (Cq U (AB (Z (Aa (Ad (V U U (Aj U D8 U) (V U U (An U AE U (H.cellI 0 U U)) (V U U (Bg U U U) (Ab (Z ?_))))))))))))
  refine AC U (fun h143=>?_) (fun h143=>?_)
  ·replace H:=H.p9.p8.p8.p8.p8.p8.p8.p7
   refine Cc (.e 0 (.e 1 (.e 2 (.e 3 (.e 5 (.e 6 (.b 4 7 (.m 7 (.m 8 (.m 9 (.e 10 (.e 11 (.m 12 .z)))))) (.b 4 8 (.m 8 (.m 9 (.e 10 (.e 11 (.m 12 .z))))) (.m 4 (.m 9 (.e 10 (.e 11 (.m 12 .z))))))))))))) (fun w=>∃ Ar,Hd w0 F0 w (blk b89 [.int .i64 a71,.int .i64 a72,.int .i64 a73,.int .i64 a74,.int .i64 a75,.slice A80 se77.length c81,.slice A82 pr79.length c83] 69::Y (At Ag) (.slice A42 J34.us.length c43) J34.us::Y Af (.slice A47 J34.map.length c48) J34.map::Y Af (.slice A52 J34.comb.length c53) J34.comb::Y Af (.slice A57 J34.red.length c58) J34.red::Y (Ai .i64) (.slice A62 J34.marks.length c63) J34.marks::BY (R.g) hv::CO 275 b41 ([])::Ar) [Ae (At Ag) (.slice A1 C.J.us.length c2) C.J.us,Ae Af (.slice A6 C.J.map.length c7) C.J.map,Ae Af (.slice A11 C.J.comb.length c12) C.J.comb,Ae Af (.slice A16 C.J.red.length c17) C.J.red,Ae (Ai .i64) (.slice A21 C.J.marks.length c22) C.J.marks,Ae BI (.slice A26 recs.length c27) recs]) mo (by kernel_rfl) (fun w H=>⟨_,H⟩) H (fun w H=>?_)
   refine Au U (Au U (Ao U U U (fun w ⟨Ar,H⟩=>AH U U) (Ao U U U (fun w ⟨Ar,H⟩=>Aj U Ho U) (Ao U U U (fun w ⟨Ar,H⟩=>Aj U Gd U) (Ao U U U (fun w ⟨Ar,H⟩=>An U DY U (H.cellI 0 U U)) ?_)))))
   refine Gu U U ?_ ?_
   ·refine V U U (An U F5 U (H.cellI 8 U U)) (AG ⟨_,H⟩ (AO U (sc (I_ (.slice A80 se77.length c81) se77 (by first |assumption|omega)) H (lX (fun F hA hR=>HX (hR _ (List.mem_of_getElem? (i:=5) U)) hx70) l0) U U (Av Jo U U) ?_)))
    rintro v144 _ w rfl H
    replace H:=H.h1 (A:=Y (Ai .i64) v144 se77)|>.p8|>.p8|>.p8|>.p8|>.p8|>.p8|>.p8|>.p8
    refine AG ⟨_,H⟩ (AO U ?_)
    obtain ⟨A146,c147,rfl,hc148,hm149,hp150⟩:=H.fA 8 rfl
    refine Cb (parts:=[(0,.tmp 76)]) (vs:=[.slice A146 se77.length c147]) (cs:=[.slice A146 se77.length c147]) U U U FX F9 U (by decide) (by decide) U U H (fun b145 w H=>?_)
    replace H:Hd _ _ _ [blk b145 [.slice A146 se77.length c147] 24,blk b89 [.int .i64 a71,.int .i64 a72,.int .i64 a73,.int .i64 a74,.int .i64 a75,.slice A80 se77.length c81,.slice A82 pr79.length c83] 69,Y (At Ag) (.slice A42 J34.us.length c43) J34.us,Y Af (.slice A47 J34.map.length c48) J34.map,Y Af (.slice A52 J34.comb.length c53) J34.comb,Y Af (.slice A57 J34.red.length c58) J34.red,Y (Ai .i64) (.slice A62 J34.marks.length c63) J34.marks,BY (R.g) hv,CO 275 b41 ([]),Y (Ai .i64) (.slice A146 se77.length c147) se77,blk b67 (BF (.slice A42 J34.us.length c43) (.slice A47 J34.map.length c48) (.slice A52 J34.comb.length c53) (.slice A57 J34.red.length c58) (.slice A62 J34.marks.length c63) J34 C.w C.t C.o p ep R.g hv b41 vs) 197,Y (At (Ai .i64)) vs us] [Ae (At Ag) (.slice A1 C.J.us.length c2) C.J.us,Ae Af (.slice A6 C.J.map.length c7) C.J.map,Ae Af (.slice A11 C.J.comb.length c12) C.J.comb,Ae Af (.slice A16 C.J.red.length c17) C.J.red,Ae (Ai .i64) (.slice A21 C.J.marks.length c22) C.J.marks,Ae BI (.slice A26 recs.length c27) recs]:=H
    replace H:=H.p8.p8.p8.p8.p8.p8.p8.p8
    refine AG ⟨_,H⟩ (AO U ?_)
    replace H:=H.pick 11 rfl|>.pick 10 rfl|>.pick 10 rfl|>.p2
    refine IT U U U FX F9 U (by decide) U U H (by first |omega|(simp only [List.length_append,List.length_cons,List.length_nil];omega)) (fun v151 w H=>?_)
    replace H:=H.h1 (A:=Y (At (Ai .i64)) v151 (us++[((.slice A146 se77.length c147:Value),se77)]))|>.p8|>.p8|>.p8|>.p8|>.p8|>.p8|>.p8|>.p8
    refine AG ⟨_,H⟩ (Ao U U U (fun w ⟨Ar,H⟩=>AH U U) (Ao U U U (fun w ⟨Ar,H⟩=>Aj U Ho U) (AO U ?_)))
    obtain ⟨A152,c153,rfl,hc154,hm155,hp156⟩:=H.fA 8 rfl
    replace H:=H.p9
    refine Bx U U U F5 U U H U (Nat.le_of_ble_eq_true U) (fun u hu=>by simp [Value.cells] at hu;subst hu;rfl) (fun w H=>?_)
    replace H:Hd _ _ _ [blk b67 (BF (.slice A42 J34.us.length c43) (.slice A47 J34.map.length c48) (.slice A52 J34.comb.length c53) (.slice A57 J34.red.length c58) (.slice A62 J34.marks.length c63) J34 C.w C.t C.o p ep R.g hv b41 (.slice A152 ((us++[((.slice A146 se77.length c147:Value),se77)]).length) c153)) 197,blk b89 [.int .i64 a71,.int .i64 a72,.int .i64 a73,.int .i64 a74,.int .i64 a75,.slice A80 se77.length c81,.slice A82 pr79.length c83] 69,Y (At Ag) (.slice A42 J34.us.length c43) J34.us,Y Af (.slice A47 J34.map.length c48) J34.map,Y Af (.slice A52 J34.comb.length c53) J34.comb,Y Af (.slice A57 J34.red.length c58) J34.red,Y (Ai .i64) (.slice A62 J34.marks.length c63) J34.marks,BY (R.g) hv,CO 275 b41 ([]),Y (At (Ai .i64)) (.slice A152 ((us++[((.slice A146 se77.length c147:Value),se77)]).length) c153) (us++[((.slice A146 se77.length c147:Value),se77)])] [Ae (At Ag) (.slice A1 C.J.us.length c2) C.J.us,Ae Af (.slice A6 C.J.map.length c7) C.J.map,Ae Af (.slice A11 C.J.comb.length c12) C.J.comb,Ae Af (.slice A16 C.J.red.length c17) C.J.red,Ae (Ai .i64) (.slice A21 C.J.marks.length c22) C.J.marks,Ae BI (.slice A26 recs.length c27) recs]:=H
    replace H:=H.p8.p8.p8.p8.p8.p8.p8.p8
    refine AG ⟨_,H⟩ (BN (Bb (Z (Ad (V U U (Be (z:=((k+1:Nat):Int)) U U U (by rw [AI (by omega) (by omega)];omega)) (Ac U (Ab ?_)))))))
    have hpart:(AW.p (⟨a71,a72,a73,a74,a75,.slice A80 se77.length c81,se77,.slice A82 pr79.length c83,pr79⟩:AW)).part=R.part:=by rw [hRp];exact Classical.not_not.1 h90
    have hR2:=FV hR hx70 (Iq9 hpart h143)
    replace H:=H.p7.p9.p8.p8.p8.p8.p8.p8.p9.k9.h7 (A:=blk b67 (BF (.slice A42 J34.us.length c43) (.slice A47 J34.map.length c48) (.slice A52 J34.comb.length c53) (.slice A57 J34.red.length c58) (.slice A62 J34.marks.length c63) J34 C.w C.t C.o p ep (({ R with sets:=R.sets++[se77] }:AV).g) hv b41 (.slice A152 ((us++[((.slice A146 se77.length c147:Value),se77)]).length) c153)) 197) (G:=BY (({ R with sets:=R.sets++[se77] }:AV).g) hv)
    exact Bo (s:=(k,R,hv,undef,us)) (k+1,({ R with sets:=R.sets++[se77] }:AV),hv,.slice A152 ((us++[((.slice A146 se77.length c147:Value),se77)]).length) c153,us++[((.slice A146 se77.length c147:Value),se77)]) ⟨rfl,rfl,rfl,rfl,rfl,rfl,rfl,trivial⟩ ⟨H,hR2,hRp,by (try dsimp only);rw [List.map_append,hus];rfl,by (try dsimp only);omega,by (try dsimp only);rw [List.length_append];simp only [List.length_cons,List.length_nil];omega⟩ (by (try dsimp only);omega)
   refine sc (I_ (.slice A80 se77.length c81) se77 (by first |assumption|omega)) H (lX (fun F hA hR=>HX (hR _ (List.mem_of_getElem? (i:=5) U)) hx70) l0) U U (Av Jo U U) ?_
   rintro v157 _ w rfl H
   replace H:=H.h1 (A:=Y (Ai .i64) v157 se77)|>.p8|>.p8|>.p8|>.p8|>.p8|>.p8|>.p8|>.p8
   refine AG ⟨_,H⟩ ?_
   refine Gu U U ?_ ?_
   ·refine V U U (An U F5 U (H.cellI 9 U U)) (AG ⟨_,H⟩ (AO U ?_))
    obtain ⟨A159,c160,rfl,hc161,hm162,hp163⟩:=H.fA 8 rfl
    refine Cb (parts:=[(0,.tmp 76)]) (vs:=[.slice A159 se77.length c160]) (cs:=[.slice A159 se77.length c160]) U U U FX F9 U (by decide) (by decide) U U H (fun b158 w H=>?_)
    replace H:Hd _ _ _ [blk b158 [.slice A159 se77.length c160] 24,blk b89 [.int .i64 a71,.int .i64 a72,.int .i64 a73,.int .i64 a74,.int .i64 a75,.slice A80 se77.length c81,.slice A82 pr79.length c83] 69,Y (At Ag) (.slice A42 J34.us.length c43) J34.us,Y Af (.slice A47 J34.map.length c48) J34.map,Y Af (.slice A52 J34.comb.length c53) J34.comb,Y Af (.slice A57 J34.red.length c58) J34.red,Y (Ai .i64) (.slice A62 J34.marks.length c63) J34.marks,BY (R.g) hv,CO 275 b41 ([]),Y (Ai .i64) (.slice A159 se77.length c160) se77,blk b67 (BF (.slice A42 J34.us.length c43) (.slice A47 J34.map.length c48) (.slice A52 J34.comb.length c53) (.slice A57 J34.red.length c58) (.slice A62 J34.marks.length c63) J34 C.w C.t C.o p ep R.g hv b41 vs) 197,Y (At (Ai .i64)) vs us] [Ae (At Ag) (.slice A1 C.J.us.length c2) C.J.us,Ae Af (.slice A6 C.J.map.length c7) C.J.map,Ae Af (.slice A11 C.J.comb.length c12) C.J.comb,Ae Af (.slice A16 C.J.red.length c17) C.J.red,Ae (Ai .i64) (.slice A21 C.J.marks.length c22) C.J.marks,Ae BI (.slice A26 recs.length c27) recs]:=H
    replace H:=H.p8.p8.p8.p8.p8.p8.p8.p8
    refine AG ⟨_,H⟩ (AO U ?_)
    replace H:=H.pick 11 rfl|>.pick 10 rfl|>.pick 10 rfl|>.p2
    refine IT U U U FX F9 U (by decide) U U H (by first |omega|(simp only [List.length_append,List.length_cons,List.length_nil];omega)) (fun v164 w H=>?_)
    replace H:=H.h1 (A:=Y (At (Ai .i64)) v164 (us++[((.slice A159 se77.length c160:Value),se77)]))|>.p8|>.p8|>.p8|>.p8|>.p8|>.p8|>.p8|>.p8
    refine AG ⟨_,H⟩ (Ao U U U (fun w ⟨Ar,H⟩=>AH U U) (Ao U U U (fun w ⟨Ar,H⟩=>Aj U Ho U) (AO U ?_)))
    obtain ⟨A165,c166,rfl,hc167,hm168,hp169⟩:=H.fA 8 rfl
    replace H:=H.p9
    refine Bx U U U F5 U U H U (Nat.le_of_ble_eq_true U) (fun u hu=>by simp [Value.cells] at hu;subst hu;rfl) (fun w H=>?_)
    replace H:Hd _ _ _ [blk b67 (BF (.slice A42 J34.us.length c43) (.slice A47 J34.map.length c48) (.slice A52 J34.comb.length c53) (.slice A57 J34.red.length c58) (.slice A62 J34.marks.length c63) J34 C.w C.t C.o p ep R.g hv b41 (.slice A165 ((us++[((.slice A159 se77.length c160:Value),se77)]).length) c166)) 197,blk b89 [.int .i64 a71,.int .i64 a72,.int .i64 a73,.int .i64 a74,.int .i64 a75,.slice A80 se77.length c81,.slice A82 pr79.length c83] 69,Y (At Ag) (.slice A42 J34.us.length c43) J34.us,Y Af (.slice A47 J34.map.length c48) J34.map,Y Af (.slice A52 J34.comb.length c53) J34.comb,Y Af (.slice A57 J34.red.length c58) J34.red,Y (Ai .i64) (.slice A62 J34.marks.length c63) J34.marks,BY (R.g) hv,CO 275 b41 ([]),Y (At (Ai .i64)) (.slice A165 ((us++[((.slice A159 se77.length c160:Value),se77)]).length) c166) (us++[((.slice A159 se77.length c160:Value),se77)])] [Ae (At Ag) (.slice A1 C.J.us.length c2) C.J.us,Ae Af (.slice A6 C.J.map.length c7) C.J.map,Ae Af (.slice A11 C.J.comb.length c12) C.J.comb,Ae Af (.slice A16 C.J.red.length c17) C.J.red,Ae (Ai .i64) (.slice A21 C.J.marks.length c22) C.J.marks,Ae BI (.slice A26 recs.length c27) recs]:=H
    replace H:=H.p8.p8.p8.p8.p8.p8.p8.p8
    refine AG ⟨_,H⟩ (BN (Bb (Z (Ad (V U U (Be (z:=((k+1:Nat):Int)) U U U (by rw [AI (by omega) (by omega)];omega)) (Ac U (Ab ?_)))))))
    have hpart:(AW.p (⟨a71,a72,a73,a74,a75,.slice A80 se77.length c81,se77,.slice A82 pr79.length c83,pr79⟩:AW)).part=R.part:=by rw [hRp];exact Classical.not_not.1 h90
    have hR2:=FV hR hx70 (Iq9 hpart h143)
    replace H:=H.p7.p9.p8.p8.p8.p8.p8.p8.p9.k9.h7 (A:=blk b67 (BF (.slice A42 J34.us.length c43) (.slice A47 J34.map.length c48) (.slice A52 J34.comb.length c53) (.slice A57 J34.red.length c58) (.slice A62 J34.marks.length c63) J34 C.w C.t C.o p ep (({ R with sets:=R.sets++[se77] }:AV).g) hv b41 (.slice A165 ((us++[((.slice A159 se77.length c160:Value),se77)]).length) c166)) 197) (G:=BY (({ R with sets:=R.sets++[se77] }:AV).g) hv)
    exact Bo (s:=(k,R,hv,undef,us)) (k+1,({ R with sets:=R.sets++[se77] }:AV),hv,.slice A165 ((us++[((.slice A159 se77.length c160:Value),se77)]).length) c166,us++[((.slice A159 se77.length c160:Value),se77)]) ⟨rfl,rfl,rfl,rfl,rfl,rfl,rfl,trivial⟩ ⟨H,hR2,hRp,by (try dsimp only);rw [List.map_append,hus];rfl,by (try dsimp only);omega,by (try dsimp only);rw [List.length_append];simp only [List.length_cons,List.length_nil];omega⟩ (by (try dsimp only);omega)
   obtain ⟨A171,c172,rfl,hc173,hm174,hp175⟩:=H.fA 8 rfl
   refine Cb (parts:=[(0,.tmp 76)]) (vs:=[.slice A171 se77.length c172]) (cs:=[.slice A171 se77.length c172]) U U U FX F9 U (by decide) (by decide) U U H (fun b170 w H=>?_)
   replace H:Hd _ _ _ [blk b170 [.slice A171 se77.length c172] 24,blk b89 [.int .i64 a71,.int .i64 a72,.int .i64 a73,.int .i64 a74,.int .i64 a75,.slice A80 se77.length c81,.slice A82 pr79.length c83] 69,Y (At Ag) (.slice A42 J34.us.length c43) J34.us,Y Af (.slice A47 J34.map.length c48) J34.map,Y Af (.slice A52 J34.comb.length c53) J34.comb,Y Af (.slice A57 J34.red.length c58) J34.red,Y (Ai .i64) (.slice A62 J34.marks.length c63) J34.marks,BY (R.g) hv,CO 275 b41 ([]),Y (Ai .i64) (.slice A171 se77.length c172) se77,blk b67 (BF (.slice A42 J34.us.length c43) (.slice A47 J34.map.length c48) (.slice A52 J34.comb.length c53) (.slice A57 J34.red.length c58) (.slice A62 J34.marks.length c63) J34 C.w C.t C.o p ep R.g hv b41 vs) 197,Y (At (Ai .i64)) vs us] [Ae (At Ag) (.slice A1 C.J.us.length c2) C.J.us,Ae Af (.slice A6 C.J.map.length c7) C.J.map,Ae Af (.slice A11 C.J.comb.length c12) C.J.comb,Ae Af (.slice A16 C.J.red.length c17) C.J.red,Ae (Ai .i64) (.slice A21 C.J.marks.length c22) C.J.marks,Ae BI (.slice A26 recs.length c27) recs]:=H
   replace H:=H.p8.p8.p8.p8.p8.p8.p8.p8
   refine AG ⟨_,H⟩ (AO U (V U U (An U F5 U (H.cellI 10 U U)) (AG ⟨_,H⟩ (AO U ?_))))
   replace H:=H.pick 11 rfl|>.pick 10 rfl|>.pick 10 rfl|>.p2
   refine IT U U U FX F9 U (by decide) U U H (by first |omega|(simp only [List.length_append,List.length_cons,List.length_nil];omega)) (fun v176 w H=>?_)
   replace H:=H.h1 (A:=Y (At (Ai .i64)) v176 (us++[((.slice A171 se77.length c172:Value),se77)]))|>.p8|>.p8|>.p8|>.p8|>.p8|>.p8|>.p8|>.p8
   refine AG ⟨_,H⟩ (Ao U U U (fun w ⟨Ar,H⟩=>AH U U) (Ao U U U (fun w ⟨Ar,H⟩=>Aj U Ho U) (AO U ?_)))
   obtain ⟨A177,c178,rfl,hc179,hm180,hp181⟩:=H.fA 8 rfl
   replace H:=H.p9
   refine Bx U U U F5 U U H U (Nat.le_of_ble_eq_true U) (fun u hu=>by simp [Value.cells] at hu;subst hu;rfl) (fun w H=>?_)
   replace H:Hd _ _ _ [blk b67 (BF (.slice A42 J34.us.length c43) (.slice A47 J34.map.length c48) (.slice A52 J34.comb.length c53) (.slice A57 J34.red.length c58) (.slice A62 J34.marks.length c63) J34 C.w C.t C.o p ep R.g hv b41 (.slice A177 ((us++[((.slice A171 se77.length c172:Value),se77)]).length) c178)) 197,blk b89 [.int .i64 a71,.int .i64 a72,.int .i64 a73,.int .i64 a74,.int .i64 a75,.slice A80 se77.length c81,.slice A82 pr79.length c83] 69,Y (At Ag) (.slice A42 J34.us.length c43) J34.us,Y Af (.slice A47 J34.map.length c48) J34.map,Y Af (.slice A52 J34.comb.length c53) J34.comb,Y Af (.slice A57 J34.red.length c58) J34.red,Y (Ai .i64) (.slice A62 J34.marks.length c63) J34.marks,BY (R.g) hv,CO 275 b41 ([]),Y (At (Ai .i64)) (.slice A177 ((us++[((.slice A171 se77.length c172:Value),se77)]).length) c178) (us++[((.slice A171 se77.length c172:Value),se77)])] [Ae (At Ag) (.slice A1 C.J.us.length c2) C.J.us,Ae Af (.slice A6 C.J.map.length c7) C.J.map,Ae Af (.slice A11 C.J.comb.length c12) C.J.comb,Ae Af (.slice A16 C.J.red.length c17) C.J.red,Ae (Ai .i64) (.slice A21 C.J.marks.length c22) C.J.marks,Ae BI (.slice A26 recs.length c27) recs]:=H
   replace H:=H.p8.p8.p8.p8.p8.p8.p8.p8
   refine AG ⟨_,H⟩ (BN (Bb (Z (Ad (V U U (Be (z:=((k+1:Nat):Int)) U U U (by rw [AI (by omega) (by omega)];omega)) (Ac U (Ab ?_)))))))
   have hpart:(AW.p (⟨a71,a72,a73,a74,a75,.slice A80 se77.length c81,se77,.slice A82 pr79.length c83,pr79⟩:AW)).part=R.part:=by rw [hRp];exact Classical.not_not.1 h90
   have hR2:=FV hR hx70 (Iq9 hpart h143)
   replace H:=H.p7.p9.p8.p8.p8.p8.p8.p8.p9.k9.h7 (A:=blk b67 (BF (.slice A42 J34.us.length c43) (.slice A47 J34.map.length c48) (.slice A52 J34.comb.length c53) (.slice A57 J34.red.length c58) (.slice A62 J34.marks.length c63) J34 C.w C.t C.o p ep (({ R with sets:=R.sets++[se77] }:AV).g) hv b41 (.slice A177 ((us++[((.slice A171 se77.length c172:Value),se77)]).length) c178)) 197) (G:=BY (({ R with sets:=R.sets++[se77] }:AV).g) hv)
   exact Bo (s:=(k,R,hv,undef,us)) (k+1,({ R with sets:=R.sets++[se77] }:AV),hv,.slice A177 ((us++[((.slice A171 se77.length c172:Value),se77)]).length) c178,us++[((.slice A171 se77.length c172:Value),se77)]) ⟨rfl,rfl,rfl,rfl,rfl,rfl,rfl,trivial⟩ ⟨H,hR2,hRp,by (try dsimp only);rw [List.map_append,hus];rfl,by (try dsimp only);omega,by (try dsimp only);rw [List.length_append];simp only [List.length_cons,List.length_nil];omega⟩ (by (try dsimp only);omega)
  refine AB (Bb (Z (Ad (V U U (Be (z:=((k+1:Nat):Int)) U U U (by rw [AI (by omega) (by omega)];omega)) (Ac U (Ab ?_))))))
  have hpart:(AW.p (⟨a71,a72,a73,a74,a75,.slice A80 se77.length c81,se77,.slice A82 pr79.length c83,pr79⟩:AW)).part=R.part:=by rw [hRp];exact Classical.not_not.1 h90
  have hR2:=FV hR hx70 (Lb hpart (fun h=>h141 h.1) h143)
  replace H:=H.p9.p9.p9.p9.p9.p9.p9.p9.p9.k9
  exact Bo (s:=(k,R,hv,undef,us)) (k+1,R,hv,vs,us) ⟨rfl,rfl,rfl,rfl,rfl,rfl,rfl,trivial⟩ ⟨H,hR2,hRp,by (try dsimp only);exact hus,by (try dsimp only);omega,by (try dsimp only);omega⟩ (by (try dsimp only);omega)
 refine BW (A8 (A8 (BX (Z (Aa (Ad (Ah 3 U (Ab (Z (Am (Du U U U ?_)))))))))))
 have hkk:R=C9 J34.us.length p ep (recs.map AW.p):=by rw [hR,List.take_of_length_le (by omega)]
 clear hR
 subst hkk
 replace H:=H.h8 (A:=blk b67 (BF (.slice A42 J34.us.length c43) (.slice A47 J34.map.length c48) (.slice A52 J34.comb.length c53) (.slice A57 J34.red.length c58) (.slice A62 J34.marks.length c63) J34 C.w C.t C.o p ep ((C9 J34.us.length p ep (recs.map AW.p)).g) hv b41 vs) 197) (G:=BY ((C9 J34.us.length p ep (recs.map AW.p)).g) hv) (I:=Y (At (Ai .i64)) vs us)
 exact Al ⟨b67,(.slice A42 J34.us.length c43),(.slice A47 J34.map.length c48),(.slice A52 J34.comb.length c53),(.slice A57 J34.red.length c58),(.slice A62 J34.marks.length c63),J34,hv,b41,vs,us,rfl,rfl,hsj,hus⟩ H
theorem fD (vS:Value) (vM:Value) (vC:Value) (vR:Value) (vK:Value) (C:Cf) (id:Int) (vr:Value) (recs:List AW) (hC:DE C) (hJ:Df C.J) (hid:1≤id∧id≤C.w) (hrs:∀ r∈recs,(AL r.sp∧r.set.length≤1000)∧r.pairs.length≤1000) (hrl:recs.length≤100000):
    Cn Tryz.prog 77 [.agg #[vS,.int .i64 C.J.parts,vM,vC,vR,.int .i64 C.J.chunk,.int .i64 C.J.window,.int .i64 C.J.fuel,vK,.int .i64 C.w,.int .i64 C.t,.int .i64 C.o],.int .i64 id,vr] [] [Ae (At Ag) vS C.J.us,Ae Af vM C.J.map,Ae Af vC C.J.comb,Ae Af vR C.J.red,Ae (Ai .i64) vK C.J.marks,Ae BI vr recs] (fun v Bs=>∃ b:Nat,v=.tuple #[.pointer (some ⟨b,0,none⟩),.int .i64 0]∧Bs=[Ch b C (GC C id recs)]):=by
 intro w0 F0 H
 obtain ⟨A1,c2,rfl,hc3,hm4,hp5⟩:=H.fR 0 rfl
 obtain ⟨A6,c7,rfl,hc8,hm9,hp10⟩:=H.fR 1 rfl
 obtain ⟨A11,c12,rfl,hc13,hm14,hp15⟩:=H.fR 2 rfl
 obtain ⟨A16,c17,rfl,hc18,hm19,hp20⟩:=H.fR 3 rfl
 obtain ⟨A21,c22,rfl,hc23,hm24,hp25⟩:=H.fR 4 rfl
 obtain ⟨A26,c27,rfl,hc28,hm29,hp30⟩:=H.fR 5 rfl
 have hus:=hJ.us
 have hpt:=hJ.parts
 refine enter Tryz.func77 U U (Nat.le_of_ble_eq_true U) (Aa (Ad (CT U U U U H (fun b31 w H=>(Ah 2 U (Ab (Z ?_)))))))
 replace H:Hd _ _ _ [blk b31 [.slice A1 C.J.us.length c2,.int .i64 C.J.parts,.slice A6 C.J.map.length c7,.slice A11 C.J.comb.length c12,.slice A16 C.J.red.length c17,.int .i64 C.J.chunk,.int .i64 C.J.window,.int .i64 C.J.fuel,.slice A21 C.J.marks.length c22,.int .i64 C.w,.int .i64 C.t,.int .i64 C.o] 28] [Ae (At Ag) (.slice A1 C.J.us.length c2) C.J.us,Ae Af (.slice A6 C.J.map.length c7) C.J.map,Ae Af (.slice A11 C.J.comb.length c12) C.J.comb,Ae Af (.slice A16 C.J.red.length c17) C.J.red,Ae (Ai .i64) (.slice A21 C.J.marks.length c22) C.J.marks,Ae BI (.slice A26 recs.length c27) recs]:=H
 refine Aa (Aa (Ad (V U U (BD (cs:=[.slice A1 C.J.us.length c2,.int .i64 C.J.parts,.slice A6 C.J.map.length c7,.slice A11 C.J.comb.length c12,.slice A16 C.J.red.length c17,.int .i64 C.J.chunk,.int .i64 C.J.window,.int .i64 C.J.fuel,.slice A21 C.J.marks.length c22,.int .i64 C.w,.int .i64 C.t,.int .i64 C.o]) U EY U U (H.cellsI 0 U U)) (sc (MI (.slice A1 C.J.us.length c2) (.slice A6 C.J.map.length c7) (.slice A11 C.J.comb.length c12) (.slice A16 C.J.red.length c17) (.slice A21 C.J.marks.length c22) C) H (lR 0 U (lR 1 U (lR 2 U (lR 3 U (lR 4 U l0))))) U U (Av Mz U U) ?_))))
 rintro _ _ w ⟨rfl,rfl⟩ H
 refine V U U (D3 U U) (Ac U ?_)
 refine AR (d:=15) U (fun h32=>?_) (fun h32=>?_)
 ·exact (h32 hC).elim
 refine Ac U (V U U (Br U U U) (Ah 2 U ?_))
 refine AR (d:=19) U (fun h33=>?_) (fun h33=>?_)
 ·exfalso;omega
 refine Ac U (V U U (Aj U Kq U) (V U U (An U AE U (H.cellI 0 U U)) (V U U (CW U U U) (Ac U (Ab (Z ?_))))))
 replace H:Hd _ _ _ [blk b31 [.slice A1 C.J.us.length c2,.int .i64 C.J.parts,.slice A6 C.J.map.length c7,.slice A11 C.J.comb.length c12,.slice A16 C.J.red.length c17,.int .i64 C.J.chunk,.int .i64 C.J.window,.int .i64 C.J.fuel,.slice A21 C.J.marks.length c22,.int .i64 C.w,.int .i64 C.t,.int .i64 C.o] 28] [Ae (At Ag) (.slice A1 C.J.us.length c2) C.J.us,Ae Af (.slice A6 C.J.map.length c7) C.J.map,Ae Af (.slice A11 C.J.comb.length c12) C.J.comb,Ae Af (.slice A16 C.J.red.length c17) C.J.red,Ae (Ai .i64) (.slice A21 C.J.marks.length c22) C.J.marks,Ae BI (.slice A26 recs.length c27) recs]:=H
 refine AC U (fun h34=>?_) (fun h34=>?_)
 ·exfalso;omega
 refine AB (Z (Aa (Ad (V U U (BD (cs:=[.slice A1 C.J.us.length c2,.int .i64 C.J.parts,.slice A6 C.J.map.length c7,.slice A11 C.J.comb.length c12,.slice A16 C.J.red.length c17,.int .i64 C.J.chunk,.int .i64 C.J.window,.int .i64 C.J.fuel,.slice A21 C.J.marks.length c22,.int .i64 C.w,.int .i64 C.t,.int .i64 C.o]) U EY U U (H.cellsI 0 U U)) (sc (MV (.slice A1 C.J.us.length c2) (.slice A6 C.J.map.length c7) (.slice A11 C.J.comb.length c12) (.slice A16 C.J.red.length c17) (.slice A21 C.J.marks.length c22) C (by first |assumption|omega|exact hO2|exact ⟨hhm,by omega⟩|(unfold AL;omega))) H (lR 0 U (lR 1 U (lR 2 U (lR 3 U (lR 4 U l0))))) U U (Av Mw U U) ?_)))))
 rintro _ _ w ⟨J35,vS36,vM37,vC38,vR39,vK40,rfl,rfl,hf41⟩ H
 have hsj:=hf41
 have hlen2:=hsj.len
 have hO2:Df J35:=hsj.symm.ok hJ
 have hC2:DE (Bw J35 C):=(HY hsj).symm.may hC
 refine Sb Co U U U H (fun b42 w H=>?_)
 obtain ⟨A43,c44,rfl,hc45,hm46,hp47⟩:=H.fA 1 rfl
 obtain ⟨A48,c49,rfl,hc50,hm51,hp52⟩:=H.fA 2 rfl
 obtain ⟨A53,c54,rfl,hc55,hm56,hp57⟩:=H.fA 3 rfl
 obtain ⟨A58,c59,rfl,hc60,hm61,hp62⟩:=H.fA 4 rfl
 obtain ⟨A63,c64,rfl,hc65,hm66,hp67⟩:=H.fA 5 rfl
 refine V U U (Di (parts:=[(0,.tmp 26),(1,.const (.int .i64 1)),(3,.tmp 27)]) (vs:=[.agg #[.slice A43 J35.us.length c44,.int .i64 J35.parts,.slice A48 J35.map.length c49,.slice A53 J35.comb.length c54,.slice A58 J35.red.length c59,.int .i64 J35.chunk,.int .i64 J35.window,.int .i64 J35.fuel,.slice A63 J35.marks.length c64,.int .i64 C.w,.int .i64 C.t,.int .i64 C.o],.int .i64 1,.map (some b42)]) (cs:=[.slice A43 J35.us.length c44,.int .i64 J35.parts,.slice A48 J35.map.length c49,.slice A53 J35.comb.length c54,.slice A58 J35.red.length c59,.int .i64 J35.chunk,.int .i64 J35.window,.int .i64 J35.fuel,.slice A63 J35.marks.length c64,.int .i64 C.w,.int .i64 C.t,.int .i64 C.o,.int .i64 1,.slice none 0 0,.map (some b42),.slice none 0 0,.int .u32 0]) U S6 U U) (CT U U U U H (fun b68 w H=>(Ac U (Ab (Z ?_)))))
 replace H:Hd _ _ _ [blk b68 [.slice A43 J35.us.length c44,.int .i64 J35.parts,.slice A48 J35.map.length c49,.slice A53 J35.comb.length c54,.slice A58 J35.red.length c59,.int .i64 J35.chunk,.int .i64 J35.window,.int .i64 J35.fuel,.slice A63 J35.marks.length c64,.int .i64 C.w,.int .i64 C.t,.int .i64 C.o,.int .i64 1,.slice none 0 0,.map (some b42),.slice none 0 0,.int .u32 0] 103,B5 Co b42 [],Y (At Ag) (.slice A43 J35.us.length c44) J35.us,Y Af (.slice A48 J35.map.length c49) J35.map,Y Af (.slice A53 J35.comb.length c54) J35.comb,Y Af (.slice A58 J35.red.length c59) J35.red,Y (Ai .i64) (.slice A63 J35.marks.length c64) J35.marks,blk b31 [.slice A1 C.J.us.length c2,.int .i64 C.J.parts,.slice A6 C.J.map.length c7,.slice A11 C.J.comb.length c12,.slice A16 C.J.red.length c17,.int .i64 C.J.chunk,.int .i64 C.J.window,.int .i64 C.J.fuel,.slice A21 C.J.marks.length c22,.int .i64 C.w,.int .i64 C.t,.int .i64 C.o] 28] [Ae (At Ag) (.slice A1 C.J.us.length c2) C.J.us,Ae Af (.slice A6 C.J.map.length c7) C.J.map,Ae Af (.slice A11 C.J.comb.length c12) C.J.comb,Ae Af (.slice A16 C.J.red.length c17) C.J.red,Ae (Ai .i64) (.slice A21 C.J.marks.length c22) C.J.marks,Ae BI (.slice A26 recs.length c27) recs]:=H
 refine Aa (Aa (Ad (Ac U (V U U (Bn U LB U) (Ac U (Ab (Z (AX ?_))))))))
 replace H:=H.p7
 refine B1 (σ:=Nat) (fun k=>[(1,.int .i64 id),(2,.slice A26 recs.length c27),(3,.pointer (some ⟨b31,0,none⟩)),(6,.pointer none),(7,.int .i64 0),(8,.pointer (some ⟨b68,0,none⟩)),(30,.slice A26 recs.length c27),(31,.int .i64 ((recs.length:Nat):Int)),(32,.int .i64 ((k:Nat):Int))]) (fun k w=>(Hd w0 F0 w [blk b31 [.slice A1 C.J.us.length c2,.int .i64 C.J.parts,.slice A6 C.J.map.length c7,.slice A11 C.J.comb.length c12,.slice A16 C.J.red.length c17,.int .i64 C.J.chunk,.int .i64 C.J.window,.int .i64 C.J.fuel,.slice A21 C.J.marks.length c22,.int .i64 C.w,.int .i64 C.t,.int .i64 C.o] 28,blk b68 [.slice A43 J35.us.length c44,.int .i64 J35.parts,.slice A48 J35.map.length c49,.slice A53 J35.comb.length c54,.slice A58 J35.red.length c59,.int .i64 J35.chunk,.int .i64 J35.window,.int .i64 J35.fuel,.slice A63 J35.marks.length c64,.int .i64 C.w,.int .i64 C.t,.int .i64 C.o,.int .i64 ((1+cnt CM (recs.take k):Nat):Int),.slice none 0 0,.map (some b42),.slice none 0 0,.int .u32 0] 103,B5 Co b42 [],Y (At Ag) (.slice A43 J35.us.length c44) J35.us,Y Af (.slice A48 J35.map.length c49) J35.map,Y Af (.slice A53 J35.comb.length c54) J35.comb,Y Af (.slice A58 J35.red.length c59) J35.red,Y (Ai .i64) (.slice A63 J35.marks.length c64) J35.marks] [Ae (At Ag) (.slice A1 C.J.us.length c2) C.J.us,Ae Af (.slice A6 C.J.map.length c7) C.J.map,Ae Af (.slice A11 C.J.comb.length c12) C.J.comb,Ae Af (.slice A16 C.J.red.length c17) C.J.red,Ae (Ai .i64) (.slice A21 C.J.marks.length c22) C.J.marks,Ae BI (.slice A26 recs.length c27) recs])∧(k≤recs.length)) (fun k=>recs.length - k) 0 ⟨rfl,rfl,rfl,rfl,rfl,rfl,rfl,rfl,rfl,trivial⟩ ⟨H,Nat.zero_le _⟩ ?_
 rintro k w ⟨H,hk⟩
 have hcl9:=OC CM (recs.take k)
 rw [List.length_take] at hcl9
 refine Aa (Ad (V U U (Br U U U) (Ab (Z (Aa ?_)))))
 refine AC U (fun h69=>?_) (fun h69=>?_)
 ·refine AB (Z (Aa (AX (Aa (Ad ?_)))))
  obtain ⟨⟨a72,a73,a74,a75,a76,sv77,se78,pv79,pr80⟩,hx71⟩:∃ z9,recs[k]?=some z9:=⟨_,List.getElem?_eq_getElem (show k<recs.length by omega)⟩
  obtain ⟨A81,c82,A83,c84,rfl,rfl,m85,m86,m87,m88⟩:=H.nestRr 5 rfl hx71
  have th89:=H.thRr 5 rfl hx71
  refine V U U (Bi (p:=A_ A26+k*7) U IW U U (by omega) (by omega) th89 U) (V U U (BD (cs:=[.int .i64 a72,.int .i64 a73,.int .i64 a74,.int .i64 a75,.int .i64 a76,.slice A81 se78.length c82,.slice A83 pr80.length c84]) U EZ U U (H.elsRr 5 U hx71 U)) (Dz U U U He H (fun b90 w H=>(Bx U U U EZ U U H U (Nat.le_of_ble_eq_true U) (fun u hu=>by simp [Value.cells] at hu;rcases hu with rfl|rfl|rfl|rfl|rfl|rfl|rfl<;>rfl) (fun w H=>?_)))))
  replace H:Hd _ _ _ [blk b90 [.int .i64 a72,.int .i64 a73,.int .i64 a74,.int .i64 a75,.int .i64 a76,.slice A81 se78.length c82,.slice A83 pr80.length c84] 69,blk b31 [.slice A1 C.J.us.length c2,.int .i64 C.J.parts,.slice A6 C.J.map.length c7,.slice A11 C.J.comb.length c12,.slice A16 C.J.red.length c17,.int .i64 C.J.chunk,.int .i64 C.J.window,.int .i64 C.J.fuel,.slice A21 C.J.marks.length c22,.int .i64 C.w,.int .i64 C.t,.int .i64 C.o] 28,blk b68 [.slice A43 J35.us.length c44,.int .i64 J35.parts,.slice A48 J35.map.length c49,.slice A53 J35.comb.length c54,.slice A58 J35.red.length c59,.int .i64 J35.chunk,.int .i64 J35.window,.int .i64 J35.fuel,.slice A63 J35.marks.length c64,.int .i64 C.w,.int .i64 C.t,.int .i64 C.o,.int .i64 ((1+cnt CM (recs.take k):Nat):Int),.slice none 0 0,.map (some b42),.slice none 0 0,.int .u32 0] 103,B5 Co b42 [],Y (At Ag) (.slice A43 J35.us.length c44) J35.us,Y Af (.slice A48 J35.map.length c49) J35.map,Y Af (.slice A53 J35.comb.length c54) J35.comb,Y Af (.slice A58 J35.red.length c59) J35.red,Y (Ai .i64) (.slice A63 J35.marks.length c64) J35.marks] [Ae (At Ag) (.slice A1 C.J.us.length c2) C.J.us,Ae Af (.slice A6 C.J.map.length c7) C.J.map,Ae Af (.slice A11 C.J.comb.length c12) C.J.comb,Ae Af (.slice A16 C.J.red.length c17) C.J.red,Ae (Ai .i64) (.slice A21 C.J.marks.length c22) C.J.marks,Ae BI (.slice A26 recs.length c27) recs]:=H
  refine Ab (Z (Aa (Ad (V U U (Aj U D8 U) (V U U (An U AE U (H.cellI 0 U U)) (V U U (Bg U U U) (Ab (Z ?_))))))))
  refine AC U (fun h91=>?_) (fun h91=>?_)
  ·refine Ad (Ac U (V U U (AH U U) (V U U (Aj U L3 U) (V U U (An U AE U (H.cellI 2 U U)) (V U U (Be (z:=((1+cnt CM (recs.take k)+1:Nat):Int)) U U U (by rw [AI (by omega) (by omega)];omega)) (V U U (AH U U) (V U U (Aj U L3 U) ?_)))))))
   replace H:=H.p2
   refine Bx U U U AE U U H U (Nat.le_of_ble_eq_true U) (fun u hu=>by simp [Value.cells] at hu;subst hu;rfl) (fun w H=>?_)
   replace H:=H.h1 (A:=blk b68 [.slice A43 J35.us.length c44,.int .i64 J35.parts,.slice A48 J35.map.length c49,.slice A53 J35.comb.length c54,.slice A58 J35.red.length c59,.int .i64 J35.chunk,.int .i64 J35.window,.int .i64 J35.fuel,.slice A63 J35.marks.length c64,.int .i64 C.w,.int .i64 C.t,.int .i64 C.o,.int .i64 ((1+cnt CM (recs.take k)+1:Nat):Int),.slice none 0 0,.map (some b42),.slice none 0 0,.int .u32 0] 103)
   refine Ab (Bb (Z (Ad (V U U (Be (z:=((k+1:Nat):Int)) U U U (by rw [AI (by omega) (by omega)];omega)) (Ac U (Ab ?_))))))
   replace H:=H.p8.p8.p8.p8.p8.p8.p6.p8.k8
   have hc9:cnt CM (recs.take (k+1))=cnt CM (recs.take k)+1:=by rw [OE hx71,if_pos (show CM (⟨a72,a73,a74,a75,a76,.slice A81 se78.length c82,se78,.slice A83 pr80.length c84,pr80⟩:AW)=true from decide_eq_true h91)]
   replace H:Hd w0 F0 w [blk b31 [.slice A1 C.J.us.length c2,.int .i64 C.J.parts,.slice A6 C.J.map.length c7,.slice A11 C.J.comb.length c12,.slice A16 C.J.red.length c17,.int .i64 C.J.chunk,.int .i64 C.J.window,.int .i64 C.J.fuel,.slice A21 C.J.marks.length c22,.int .i64 C.w,.int .i64 C.t,.int .i64 C.o] 28,blk b68 [.slice A43 J35.us.length c44,.int .i64 J35.parts,.slice A48 J35.map.length c49,.slice A53 J35.comb.length c54,.slice A58 J35.red.length c59,.int .i64 J35.chunk,.int .i64 J35.window,.int .i64 J35.fuel,.slice A63 J35.marks.length c64,.int .i64 C.w,.int .i64 C.t,.int .i64 C.o,.int .i64 ((1+cnt CM (recs.take (k+1)):Nat):Int),.slice none 0 0,.map (some b42),.slice none 0 0,.int .u32 0] 103,B5 Co b42 [],Y (At Ag) (.slice A43 J35.us.length c44) J35.us,Y Af (.slice A48 J35.map.length c49) J35.map,Y Af (.slice A53 J35.comb.length c54) J35.comb,Y Af (.slice A58 J35.red.length c59) J35.red,Y (Ai .i64) (.slice A63 J35.marks.length c64) J35.marks] [Ae (At Ag) (.slice A1 C.J.us.length c2) C.J.us,Ae Af (.slice A6 C.J.map.length c7) C.J.map,Ae Af (.slice A11 C.J.comb.length c12) C.J.comb,Ae Af (.slice A16 C.J.red.length c17) C.J.red,Ae (Ai .i64) (.slice A21 C.J.marks.length c22) C.J.marks,Ae BI (.slice A26 recs.length c27) recs]:=by rw [hc9];exact H
   exact Bo (s:=k) (k+1) ⟨rfl,rfl,rfl,rfl,rfl,rfl,rfl,rfl,rfl,trivial⟩ ⟨H,by (try dsimp only);omega⟩ (by (try dsimp only);omega)
  refine AB (Bb (Z (Ad (V U U (Be (z:=((k+1:Nat):Int)) U U U (by rw [AI (by omega) (by omega)];omega)) (Ac U (Ab ?_))))))
  replace H:=H.p8.p8.p8.p8.p8.p8.p8.p8.k8
  have hc9:cnt CM (recs.take (k+1))=cnt CM (recs.take k)+0:=by rw [OE hx71,if_neg (by rw [show CM (⟨a72,a73,a74,a75,a76,.slice A81 se78.length c82,se78,.slice A83 pr80.length c84,pr80⟩:AW)=false from decide_eq_false h91];decide)]
  replace H:Hd w0 F0 w [blk b31 [.slice A1 C.J.us.length c2,.int .i64 C.J.parts,.slice A6 C.J.map.length c7,.slice A11 C.J.comb.length c12,.slice A16 C.J.red.length c17,.int .i64 C.J.chunk,.int .i64 C.J.window,.int .i64 C.J.fuel,.slice A21 C.J.marks.length c22,.int .i64 C.w,.int .i64 C.t,.int .i64 C.o] 28,blk b68 [.slice A43 J35.us.length c44,.int .i64 J35.parts,.slice A48 J35.map.length c49,.slice A53 J35.comb.length c54,.slice A58 J35.red.length c59,.int .i64 J35.chunk,.int .i64 J35.window,.int .i64 J35.fuel,.slice A63 J35.marks.length c64,.int .i64 C.w,.int .i64 C.t,.int .i64 C.o,.int .i64 ((1+cnt CM (recs.take (k+1)):Nat):Int),.slice none 0 0,.map (some b42),.slice none 0 0,.int .u32 0] 103,B5 Co b42 [],Y (At Ag) (.slice A43 J35.us.length c44) J35.us,Y Af (.slice A48 J35.map.length c49) J35.map,Y Af (.slice A53 J35.comb.length c54) J35.comb,Y Af (.slice A58 J35.red.length c59) J35.red,Y (Ai .i64) (.slice A63 J35.marks.length c64) J35.marks] [Ae (At Ag) (.slice A1 C.J.us.length c2) C.J.us,Ae Af (.slice A6 C.J.map.length c7) C.J.map,Ae Af (.slice A11 C.J.comb.length c12) C.J.comb,Ae Af (.slice A16 C.J.red.length c17) C.J.red,Ae (Ai .i64) (.slice A21 C.J.marks.length c22) C.J.marks,Ae BI (.slice A26 recs.length c27) recs]:=by rw [hc9];exact H
  exact Bo (s:=k) (k+1) ⟨rfl,rfl,rfl,rfl,rfl,rfl,rfl,rfl,rfl,trivial⟩ ⟨H,by (try dsimp only);omega⟩ (by (try dsimp only);omega)
 refine BW (A8 (A8 (BX (Z (Aa (Aa (Ad (V U U (Aj U DL U) (V U U (Aj U Ji U) (V U U (An U AE U (H.cellI 0 U U)) (Ac U (Ab (Z (AX ?_))))))))))))))
 replace H:Hd w0 F0 w [blk b31 [.slice A1 C.J.us.length c2,.int .i64 C.J.parts,.slice A6 C.J.map.length c7,.slice A11 C.J.comb.length c12,.slice A16 C.J.red.length c17,.int .i64 C.J.chunk,.int .i64 C.J.window,.int .i64 C.J.fuel,.slice A21 C.J.marks.length c22,.int .i64 C.w,.int .i64 C.t,.int .i64 C.o] 28,blk b68 [.slice A43 J35.us.length c44,.int .i64 J35.parts,.slice A48 J35.map.length c49,.slice A53 J35.comb.length c54,.slice A58 J35.red.length c59,.int .i64 J35.chunk,.int .i64 J35.window,.int .i64 J35.fuel,.slice A63 J35.marks.length c64,.int .i64 C.w,.int .i64 C.t,.int .i64 C.o,.int .i64 ((1+cnt CM recs:Nat):Int),.slice none 0 0,.map (some b42),.slice none 0 0,.int .u32 0] 103,B5 Co b42 [],Y (At Ag) (.slice A43 J35.us.length c44) J35.us,Y Af (.slice A48 J35.map.length c49) J35.map,Y Af (.slice A53 J35.comb.length c54) J35.comb,Y Af (.slice A58 J35.red.length c59) J35.red,Y (Ai .i64) (.slice A63 J35.marks.length c64) J35.marks] [Ae (At Ag) (.slice A1 C.J.us.length c2) C.J.us,Ae Af (.slice A6 C.J.map.length c7) C.J.map,Ae Af (.slice A11 C.J.comb.length c12) C.J.comb,Ae Af (.slice A16 C.J.red.length c17) C.J.red,Ae (Ai .i64) (.slice A21 C.J.marks.length c22) C.J.marks,Ae BI (.slice A26 recs.length c27) recs]:=by rw [List.take_of_length_le (l:=recs) (by omega)] at H;exact H
 have hcl9:=OC CM recs
 replace H:=H.newnil (Ai .i64)
 replace H:=Hd.big0 (fun e:Nat×AV=>Gi e.1 C e.2) H
 replace H:=H.h5 (A:=CS C ([]:List (Nat×AV))) (B:=Y (Ai .i64) (.slice none 0 0) (([]:List (Nat×AV)).map Bt)) (E:=B5 Co b42 (([]:List (Nat×AV)).map Cz))|>.p9|>.p9|>.p9|>.p9|>.p9|>.p9|>.p9|>.p9
 refine B1 (σ:=Nat×Value×List (Nat×AV)) (fun (p,q,rl)=>[(1,.int .i64 id),(2,.slice A26 recs.length c27),(3,.pointer (some ⟨b31,0,none⟩)),(6,.pointer none),(7,.int .i64 0),(8,.pointer (some ⟨b68,0,none⟩)),(49,.int .i64 C.J.parts),(50,.int .i64 ((p:Nat):Int))]) (fun (p,q,rl) w=>(Hd w0 F0 w [blk b31 [.slice A1 C.J.us.length c2,.int .i64 C.J.parts,.slice A6 C.J.map.length c7,.slice A11 C.J.comb.length c12,.slice A16 C.J.red.length c17,.int .i64 C.J.chunk,.int .i64 C.J.window,.int .i64 C.J.fuel,.slice A21 C.J.marks.length c22,.int .i64 C.w,.int .i64 C.t,.int .i64 C.o] 28,blk b68 [.slice A43 J35.us.length c44,.int .i64 J35.parts,.slice A48 J35.map.length c49,.slice A53 J35.comb.length c54,.slice A58 J35.red.length c59,.int .i64 J35.chunk,.int .i64 J35.window,.int .i64 J35.fuel,.slice A63 J35.marks.length c64,.int .i64 C.w,.int .i64 C.t,.int .i64 C.o,.int .i64 ((1+cnt CM recs:Nat):Int),q,.map (some b42),.slice none 0 0,.int .u32 0] 103,B5 Co b42 (rl.map Cz),Y (At Ag) (.slice A43 J35.us.length c44) J35.us,Y Af (.slice A48 J35.map.length c49) J35.map,Y Af (.slice A53 J35.comb.length c54) J35.comb,Y Af (.slice A58 J35.red.length c59) J35.red,Y (Ai .i64) (.slice A63 J35.marks.length c64) J35.marks,CS C rl,Y (Ai .i64) q (rl.map Bt)] [Ae (At Ag) (.slice A1 C.J.us.length c2) C.J.us,Ae Af (.slice A6 C.J.map.length c7) C.J.map,Ae Af (.slice A11 C.J.comb.length c12) C.J.comb,Ae Af (.slice A16 C.J.red.length c17) C.J.red,Ae (Ai .i64) (.slice A21 C.J.marks.length c22) C.J.marks,Ae BI (.slice A26 recs.length c27) recs])∧((p:Int)≤C.J.parts)∧(rl.map Prod.snd=Ev C id recs p)) (fun (p,q,rl)=>C.J.parts.toNat - p) (0,.slice none 0 0,[]) ⟨rfl,rfl,rfl,rfl,rfl,rfl,rfl,rfl,trivial⟩ ⟨H,by (try dsimp only);omega,rfl⟩ ?_
 rintro ⟨p,q,rl⟩ w ⟨H,hp,hrl2⟩
 have hpt4:=hJ.parts
 have hrn:rl.length≤p:=by rw [←List.length_map (f:=Prod.snd),hrl2];exact aP _ _ _ _
 have hrk:(rl.map Bt).length=rl.length:=List.length_map ..
 refine Aa (Ad (V U U (Br U U U) (Ab (Z (Aa ?_)))))
 refine AC U (fun h92=>?_) (fun h92=>?_)
 ·refine AB (Z (Aa (AX (Aa (Ad (Ah 2 U (Ab (Z (Aa ?_)))))))))
  have hp64:AL ((p:Nat):Int):=by unfold AL;omega
  refine Ad (V U U (BD (cs:=[.slice A1 C.J.us.length c2,.int .i64 C.J.parts,.slice A6 C.J.map.length c7,.slice A11 C.J.comb.length c12,.slice A16 C.J.red.length c17,.int .i64 C.J.chunk,.int .i64 C.J.window,.int .i64 C.J.fuel,.slice A21 C.J.marks.length c22,.int .i64 C.w,.int .i64 C.t,.int .i64 C.o]) U EY U U (H.cellsI 0 U U)) (Ac U (sc (Mp (.slice A1 C.J.us.length c2) (.slice A6 C.J.map.length c7) (.slice A11 C.J.comb.length c12) (.slice A16 C.J.red.length c17) (.slice A21 C.J.marks.length c22) C ((p:Nat):Int) (by first |assumption|omega|exact hO2|exact ⟨hhm,by omega⟩|(unfold AL;omega))) H (lR 0 U (lR 1 U (lR 2 U (lR 3 U (lR 4 U l0))))) U U (Av Mr U U) ?_)))
  rintro _ _ w ⟨rfl,rfl⟩ H
  replace H:=H.h10 (B:=blk b68 [.slice A43 J35.us.length c44,.int .i64 J35.parts,.slice A48 J35.map.length c49,.slice A53 J35.comb.length c54,.slice A58 J35.red.length c59,.int .i64 J35.chunk,.int .i64 J35.window,.int .i64 J35.fuel,.slice A63 J35.marks.length c64,.int .i64 C.w,.int .i64 C.t,.int .i64 C.o,.int .i64 ((1+cnt CM recs:Nat):Int),q,.map (some b42),.slice none 0 0,.int .u32 0] 103) (C:=B5 Co b42 (rl.map Cz)) (J:=CS C rl) (K:=Y (Ai .i64) q (rl.map Bt))
  refine Ac U (V U U (Bg U U U) (Ab (Z ?_)))
  refine AC U (fun h93=>?_) (fun h93=>?_)
  ·refine Aa (Ad (Ah 2 U (V U U (AH U U) (V U U (Aj U L4 U) (V U U (An U DY U (H.cellI 1 U U)) (Ac U (Cb (parts:=[(0,.tmp 63)]) (vs:=[.int .i64 ((p:Nat):Int)]) (cs:=[.int .i64 ((p:Nat):Int)]) U U U DA E2 U (by decide) (by decide) U U H (fun b94 w H=>?_))))))))
   replace H:=H.pick 10 rfl
   refine CA (xs:=rl.map Bt) (ys:=[((p:Nat):Int)]) U U U DA E2 U (by decide) U U H (by first |omega|(simp only [List.length_append,List.length_cons,List.length_nil,List.length_map];omega)) (fun F hA hR=>Cy (hA _ (List.mem_of_getElem? (i:=0) U)) U (by decide) (Bc.flat_eq.2 U)) (fun v95 w H=>(V U U (AH U U) (V U U (Aj U L4 U) ?_)))
   obtain ⟨A96,c97,rfl,hc98,hm99,hp100⟩:=H.fA 0 rfl
   replace H:=H.p3
   refine Bx U U U DY U U H U (Nat.le_of_ble_eq_true U) (fun u hu=>by simp [Value.cells] at hu;subst hu;rfl) (fun w H=>?_)
   replace H:Hd _ _ _ [blk b68 [.slice A43 J35.us.length c44,.int .i64 J35.parts,.slice A48 J35.map.length c49,.slice A53 J35.comb.length c54,.slice A58 J35.red.length c59,.int .i64 J35.chunk,.int .i64 J35.window,.int .i64 J35.fuel,.slice A63 J35.marks.length c64,.int .i64 C.w,.int .i64 C.t,.int .i64 C.o,.int .i64 ((1+cnt CM recs:Nat):Int),.slice A96 (((rl.map Bt)++[((p:Nat):Int)]).length) c97,.map (some b42),.slice none 0 0,.int .u32 0] 103,Y (Ai .i64) (.slice A96 (((rl.map Bt)++[((p:Nat):Int)]).length) c97) ((rl.map Bt)++[((p:Nat):Int)]),blk b94 [.int .i64 ((p:Nat):Int)] 3,blk b31 [.slice A1 C.J.us.length c2,.int .i64 C.J.parts,.slice A6 C.J.map.length c7,.slice A11 C.J.comb.length c12,.slice A16 C.J.red.length c17,.int .i64 C.J.chunk,.int .i64 C.J.window,.int .i64 C.J.fuel,.slice A21 C.J.marks.length c22,.int .i64 C.w,.int .i64 C.t,.int .i64 C.o] 28,B5 Co b42 (rl.map Cz),Y (At Ag) (.slice A43 J35.us.length c44) J35.us,Y Af (.slice A48 J35.map.length c49) J35.map,Y Af (.slice A53 J35.comb.length c54) J35.comb,Y Af (.slice A58 J35.red.length c59) J35.red,Y (Ai .i64) (.slice A63 J35.marks.length c64) J35.marks,CS C rl] [Ae (At Ag) (.slice A1 C.J.us.length c2) C.J.us,Ae Af (.slice A6 C.J.map.length c7) C.J.map,Ae Af (.slice A11 C.J.comb.length c12) C.J.comb,Ae Af (.slice A16 C.J.red.length c17) C.J.red,Ae (Ai .i64) (.slice A21 C.J.marks.length c22) C.J.marks,Ae BI (.slice A26 recs.length c27) recs]:=H
   refine Ab (Z ?_)
   have hhm:DR (Bw J35 C) ((p:Nat):Int)≠0:=by rw [(HY hsj).home,h93];omega
   have he64:AL ((1+cnt CM recs:Nat):Int):=by unfold AL;omega
   replace H:=H.pick 10 rfl|>.pick 10 rfl|>.pick 10 rfl|>.pick 10 rfl|>.pick 10 rfl|>.pick 10 rfl|>.p9|>.p9|>.p9|>.p9
   refine Cc (.e 0 (.e 1 (.e 2 (.e 3 (.e 4 (.e 5 (.e 6 (.e 7 (.e 8 (.e 9 (.e 10 (.e 11 (.e 12 (.e 13 (.e 14 (.m 15 (.e 16 (.e 17 (.e 18 (.m 19 .z)))))))))))))))))))) (fun w=>∃ Ar,Hd w0 F0 w (blk b68 [.slice A43 J35.us.length c44,.int .i64 J35.parts,.slice A48 J35.map.length c49,.slice A53 J35.comb.length c54,.slice A58 J35.red.length c59,.int .i64 J35.chunk,.int .i64 J35.window,.int .i64 J35.fuel,.slice A63 J35.marks.length c64,.int .i64 C.w,.int .i64 C.t,.int .i64 C.o,.int .i64 ((1+cnt CM recs:Nat):Int),.slice A96 (((rl.map Bt)++[((p:Nat):Int)]).length) c97,.map (some b42),.slice none 0 0,.int .u32 0] 103::Y (Ai .i64) (.slice A96 (((rl.map Bt)++[((p:Nat):Int)]).length) c97) ((rl.map Bt)++[((p:Nat):Int)])::blk b94 [.int .i64 ((p:Nat):Int)] 3::blk b31 [.slice A1 C.J.us.length c2,.int .i64 C.J.parts,.slice A6 C.J.map.length c7,.slice A11 C.J.comb.length c12,.slice A16 C.J.red.length c17,.int .i64 C.J.chunk,.int .i64 C.J.window,.int .i64 C.J.fuel,.slice A21 C.J.marks.length c22,.int .i64 C.w,.int .i64 C.t,.int .i64 C.o] 28::Y (At Ag) (.slice A43 J35.us.length c44) J35.us::Y Af (.slice A48 J35.map.length c49) J35.map::Y Af (.slice A53 J35.comb.length c54) J35.comb::Y Af (.slice A58 J35.red.length c59) J35.red::Y (Ai .i64) (.slice A63 J35.marks.length c64) J35.marks::CS C rl::Ar) [Ae (At Ag) (.slice A1 C.J.us.length c2) C.J.us,Ae Af (.slice A6 C.J.map.length c7) C.J.map,Ae Af (.slice A11 C.J.comb.length c12) C.J.comb,Ae Af (.slice A16 C.J.red.length c17) C.J.red,Ae (Ai .i64) (.slice A21 C.J.marks.length c22) C.J.marks,Ae BI (.slice A26 recs.length c27) recs]) mo (by kernel_rfl) (fun w H=>⟨_,H⟩) H (fun w H=>?_)
   refine Au U (Ao U U U (fun w ⟨Ar,H⟩=>AH U U) (Ao U U U (fun w ⟨Ar,H⟩=>Aj U O8 U) (Ao U U U (fun w ⟨Ar,H⟩=>An U Sw U (H.cellI 0 U U)) (Au U (Au U (Ao U U U (fun w ⟨Ar,H⟩=>AH U U) (Ao U U U (fun w ⟨Ar,H⟩=>Aj U O7 U) (Ao U U U (fun w ⟨Ar,H⟩=>BD (cs:=[.slice A43 J35.us.length c44,.int .i64 J35.parts,.slice A48 J35.map.length c49,.slice A53 J35.comb.length c54,.slice A58 J35.red.length c59,.int .i64 J35.chunk,.int .i64 J35.window,.int .i64 J35.fuel,.slice A63 J35.marks.length c64,.int .i64 C.w,.int .i64 C.t,.int .i64 C.o]) U EY U U (H.cellsI 0 U U)) (Au U (Au U (Ao U U U (fun w ⟨Ar,H⟩=>AH U U) (Ao U U U (fun w ⟨Ar,H⟩=>Aj U L3 U) (Ao U U U (fun w ⟨Ar,H⟩=>An U AE U (H.cellI 0 U U)) ?_)))))))))))))
   refine Au U (AO U (sc (aN (.slice A43 J35.us.length c44) (.slice A48 J35.map.length c49) (.slice A53 J35.comb.length c54) (.slice A58 J35.red.length c59) (.slice A63 J35.marks.length c64) (Bw J35 C) ((p:Nat):Int) ((1+cnt CM recs:Nat):Int) (.slice A26 recs.length c27) recs (by first |assumption|omega|exact hO2|exact ⟨hhm,by omega⟩|(unfold AL;omega)) (by first |assumption|omega|exact hO2|exact ⟨hhm,by omega⟩|(unfold AL;omega)) (by first |assumption|omega|exact hO2|exact ⟨hhm,by omega⟩|(unfold AL;omega)) (by first |assumption|omega|exact hO2|exact ⟨hhm,by omega⟩|(unfold AL;omega)) (by first |assumption|omega|exact hO2|exact ⟨hhm,by omega⟩|(unfold AL;omega)) (by first |assumption|omega|exact hO2|exact ⟨hhm,by omega⟩|(unfold AL;omega))) H (lA 4 U B3 (lA 5 U B3 (lA 6 U B3 (lA 7 U B3 (lA 8 U B3 (lR 5 U l0)))))) U U (Av V3 U U) ?_))
   rintro _ _ w ⟨r101,vS102,vM103,vC104,vR105,vK106,J107,hv108,sb109,vs110,us111,rfl,rfl,hf112,hf113⟩ H
   replace H:=H.h9 (A:=blk r101 (BF vS102 vM103 vC104 vR105 vK106 J107 ((Bw J35 C).w) ((Bw J35 C).t) ((Bw J35 C).o) ((p:Nat):Int) ((1+cnt CM recs:Nat):Int) ((C9 J107.us.length ((p:Nat):Int) ((1+cnt CM recs:Nat):Int) (recs.map AW.p)).g) hv108 sb109 vs110) 197) (B:=Y (At Ag) vS102 J107.us) (C:=Y Af vM103 J107.map) (D:=Y Af vC104 J107.comb) (E:=Y Af vR105 J107.red) (F:=Y (Ai .i64) vK106 J107.marks) (G:=BY ((C9 J107.us.length ((p:Nat):Int) ((1+cnt CM recs:Nat):Int) (recs.map AW.p)).g) hv108) (I:=Y (At (Ai .i64)) vs110 us111) (J:=CO 275 sb109 ([]))
   obtain ⟨R114,hR115⟩:∃ z:AV,z=C9 J107.us.length ((p:Nat):Int) ((1+cnt CM recs:Nat):Int) (recs.map AW.p):=⟨_,rfl⟩
   rw [←hR115] at H hf113
   have hRp116:R114.part=((p:Nat):Int):=by rw [hR115];exact (Ju _ _ _ _).1
   have hRe117:R114.ep=((1+cnt CM recs:Nat):Int):=by rw [hR115];exact (Ju _ _ _ _).2.1
   have hRs118:R114.st=[]:=by rw [hR115];exact (Ju _ _ _ _).2.2
   rw [show BF vS102 vM103 vC104 vR105 vK106 J107 ((Bw J35 C).w) ((Bw J35 C).t) ((Bw J35 C).o) ((p:Nat):Int) ((1+cnt CM recs:Nat):Int) R114.g hv108 sb109 vs110=BF vS102 vM103 vC104 vR105 vK106 J107 ((Bw J35 C).w) ((Bw J35 C).t) ((Bw J35 C).o) R114.part R114.ep R114.g hv108 sb109 vs110 from by rw [hRp116,hRe117],show CO 275 sb109 ([])=CO 275 sb109 (R114.st) from by rw [hRs118]] at H
   replace H:Hd _ _ _ [blk r101 (BF vS102 vM103 vC104 vR105 vK106 J107 ((Bw J35 C).w) ((Bw J35 C).t) ((Bw J35 C).o) R114.part R114.ep R114.g hv108 sb109 vs110) 197,Y (At Ag) vS102 J107.us,Y Af vM103 J107.map,Y Af vC104 J107.comb,Y Af vR105 J107.red,Y (Ai .i64) vK106 J107.marks,BY (R114.g) hv108,Y (At (Ai .i64)) vs110 us111,CO 275 sb109 (R114.st),blk b68 [.slice A43 J35.us.length c44,.int .i64 J35.parts,.slice A48 J35.map.length c49,.slice A53 J35.comb.length c54,.slice A58 J35.red.length c59,.int .i64 J35.chunk,.int .i64 J35.window,.int .i64 J35.fuel,.slice A63 J35.marks.length c64,.int .i64 C.w,.int .i64 C.t,.int .i64 C.o,.int .i64 ((1+cnt CM recs:Nat):Int),.slice A96 (((rl.map Bt)++[((p:Nat):Int)]).length) c97,.map (some b42),.slice none 0 0,.int .u32 0] 103,Y (Ai .i64) (.slice A96 (((rl.map Bt)++[((p:Nat):Int)]).length) c97) ((rl.map Bt)++[((p:Nat):Int)]),blk b94 [.int .i64 ((p:Nat):Int)] 3,blk b31 [.slice A1 C.J.us.length c2,.int .i64 C.J.parts,.slice A6 C.J.map.length c7,.slice A11 C.J.comb.length c12,.slice A16 C.J.red.length c17,.int .i64 C.J.chunk,.int .i64 C.J.window,.int .i64 C.J.fuel,.slice A21 C.J.marks.length c22,.int .i64 C.w,.int .i64 C.t,.int .i64 C.o] 28,Y (At Ag) (.slice A43 J35.us.length c44) J35.us,Y Af (.slice A48 J35.map.length c49) J35.map,Y Af (.slice A53 J35.comb.length c54) J35.comb,Y Af (.slice A58 J35.red.length c59) J35.red,Y (Ai .i64) (.slice A63 J35.marks.length c64) J35.marks,CS C rl,B5 Co b42 (rl.map Cz)] [Ae (At Ag) (.slice A1 C.J.us.length c2) C.J.us,Ae Af (.slice A6 C.J.map.length c7) C.J.map,Ae Af (.slice A11 C.J.comb.length c12) C.J.comb,Ae Af (.slice A16 C.J.red.length c17) C.J.red,Ae (Ai .i64) (.slice A21 C.J.marks.length c22) C.J.marks,Ae BI (.slice A26 recs.length c27) recs]:=H
   replace H:=RT r101 vS102 vM103 vC104 vR105 vK106 J107 ((Bw J35 C).w) ((Bw J35 C).t) ((Bw J35 C).o) sb109 R114 hv108 vs110 us111 hf113 H
   replace H:=H.h1 (A:=EA r101 vS102 vM103 vC104 vR105 vK106 J107 ((Bw J35 C).w) ((Bw J35 C).t) ((Bw J35 C).o) sb109 R114)
   have hsj_R114:=hf112
   replace H:=H.pick 10 rfl|>.pick 10 rfl|>.pick 10 rfl|>.pick 10 rfl|>.pick 10 rfl|>.pick 10 rfl|>.pick 10 rfl|>.pick 10 rfl|>.pick 10 rfl|>.pick 10 rfl
   refine AG ⟨_,H⟩ (Au U (Au U (Au U (AO U ?_))))
   replace H:=H.pick 11 rfl
   refine bW SQ U U U SD U ((p:Nat):Int) U U H (fun w H=>?_)
   replace H:=H.h1 (A:=B5 Co b42 (G7 ((p:Nat):Int) (.pointer (some ⟨r101,0,none⟩)) (rl.map Cz)))
   rw [Xv hRp116 (aQ hrl2)] at H
   replace H:Hd _ _ _ [B5 Co b42 ((rl++[(r101,R114)]).map Cz),blk b68 [.slice A43 J35.us.length c44,.int .i64 J35.parts,.slice A48 J35.map.length c49,.slice A53 J35.comb.length c54,.slice A58 J35.red.length c59,.int .i64 J35.chunk,.int .i64 J35.window,.int .i64 J35.fuel,.slice A63 J35.marks.length c64,.int .i64 C.w,.int .i64 C.t,.int .i64 C.o,.int .i64 ((1+cnt CM recs:Nat):Int),.slice A96 (((rl.map Bt)++[((p:Nat):Int)]).length) c97,.map (some b42),.slice none 0 0,.int .u32 0] 103,Y (Ai .i64) (.slice A96 (((rl.map Bt)++[((p:Nat):Int)]).length) c97) ((rl.map Bt)++[((p:Nat):Int)]),blk b94 [.int .i64 ((p:Nat):Int)] 3,blk b31 [.slice A1 C.J.us.length c2,.int .i64 C.J.parts,.slice A6 C.J.map.length c7,.slice A11 C.J.comb.length c12,.slice A16 C.J.red.length c17,.int .i64 C.J.chunk,.int .i64 C.J.window,.int .i64 C.J.fuel,.slice A21 C.J.marks.length c22,.int .i64 C.w,.int .i64 C.t,.int .i64 C.o] 28,Y (At Ag) (.slice A43 J35.us.length c44) J35.us,Y Af (.slice A48 J35.map.length c49) J35.map,Y Af (.slice A53 J35.comb.length c54) J35.comb,Y Af (.slice A58 J35.red.length c59) J35.red,Y (Ai .i64) (.slice A63 J35.marks.length c64) J35.marks,CS C rl,EA r101 vS102 vM103 vC104 vR105 vK106 J107 ((Bw J35 C).w) ((Bw J35 C).t) ((Bw J35 C).o) sb109 R114] [Ae (At Ag) (.slice A1 C.J.us.length c2) C.J.us,Ae Af (.slice A6 C.J.map.length c7) C.J.map,Ae Af (.slice A11 C.J.comb.length c12) C.J.comb,Ae Af (.slice A16 C.J.red.length c17) C.J.red,Ae (Ai .i64) (.slice A21 C.J.marks.length c22) C.J.marks,Ae BI (.slice A26 recs.length c27) recs]:=H
   replace H:=H.pick 10 rfl|>.pick 10 rfl|>.pick 10 rfl|>.pick 10 rfl|>.pick 10 rfl|>.pick 10 rfl|>.pick 10 rfl|>.pick 10 rfl|>.pick 10 rfl|>.pick 10 rfl
   refine AG ⟨_,H⟩ (BN (Bb (Z (Ad (V U U (Be (z:=((p+1:Nat):Int)) U U U (by rw [AI (by omega) (by omega)];omega)) (Ac U (Ab ?_)))))))
   replace H:=H.p8.p8.p8.p8.p8.pick 10 rfl|>.p6|>.p9|>.pick 10 rfl|>.pick 11 rfl|>.keep 11
   have h3t:Bj J107 C.J:=hf112.trans hsj
   replace H:=RS r101 C R114 vS102 vM103 vC104 vR105 vK106 J107 sb109 h3t H
   replace H:=Hd.bigN (f:=(fun e:Nat×AV=>Gi e.1 C e.2)) (x:=(r101,R114)) H
   replace H:=H.h1 (A:=CS C (rl++[(r101,R114)]))
   replace H:Hd w0 F0 w [CS C (rl++[(r101,R114)]),blk b31 [.slice A1 C.J.us.length c2,.int .i64 C.J.parts,.slice A6 C.J.map.length c7,.slice A11 C.J.comb.length c12,.slice A16 C.J.red.length c17,.int .i64 C.J.chunk,.int .i64 C.J.window,.int .i64 C.J.fuel,.slice A21 C.J.marks.length c22,.int .i64 C.w,.int .i64 C.t,.int .i64 C.o] 28,blk b68 [.slice A43 J35.us.length c44,.int .i64 J35.parts,.slice A48 J35.map.length c49,.slice A53 J35.comb.length c54,.slice A58 J35.red.length c59,.int .i64 J35.chunk,.int .i64 J35.window,.int .i64 J35.fuel,.slice A63 J35.marks.length c64,.int .i64 C.w,.int .i64 C.t,.int .i64 C.o,.int .i64 ((1+cnt CM recs:Nat):Int),.slice A96 (((rl.map Bt)++[((p:Nat):Int)]).length) c97,.map (some b42),.slice none 0 0,.int .u32 0] 103,B5 Co b42 ((rl++[(r101,R114)]).map Cz),Y (At Ag) (.slice A43 J35.us.length c44) J35.us,Y Af (.slice A48 J35.map.length c49) J35.map,Y Af (.slice A53 J35.comb.length c54) J35.comb,Y Af (.slice A58 J35.red.length c59) J35.red,Y (Ai .i64) (.slice A63 J35.marks.length c64) J35.marks,Y (Ai .i64) (.slice A96 (((rl.map Bt)++[((p:Nat):Int)]).length) c97) ((rl++[(r101,R114)]).map Bt)] [Ae (At Ag) (.slice A1 C.J.us.length c2) C.J.us,Ae Af (.slice A6 C.J.map.length c7) C.J.map,Ae Af (.slice A11 C.J.comb.length c12) C.J.comb,Ae Af (.slice A16 C.J.red.length c17) C.J.red,Ae (Ai .i64) (.slice A21 C.J.marks.length c22) C.J.marks,Ae BI (.slice A26 recs.length c27) recs]:=by rw [List.map_append (f:=Bt),show [(r101,R114)].map Bt=[((p:Nat):Int)] from by show [R114.part]=_;rw [hRp116]];exact H
   have hrl3:(rl++[(r101,R114)]).map Prod.snd=Ev C id recs (p+1):=by rw [List.map_append,hrl2,aT h93];show _++[R114]=_;rw [hR115,h3t.len];rfl
   replace H:=H.p8.p8.p8.p8.p8.p8.p8.p8
   exact Bo (s:=(p,undef,rl)) (p+1,.slice A96 (((rl.map Bt)++[((p:Nat):Int)]).length) c97,rl++[(r101,R114)]) ⟨rfl,rfl,rfl,rfl,rfl,rfl,rfl,rfl,trivial⟩ ⟨H,by (try dsimp only);omega,hrl3⟩ (by (try dsimp only);omega)
  exact AB (Bb (Z (Ad (V U U (Be (z:=((p+1:Nat):Int)) U U U (by rw [AI (by omega) (by omega)];omega)) (Ac U (Ab (Bo (s:=(p,undef,rl)) (p+1,q,rl) ⟨rfl,rfl,rfl,rfl,rfl,rfl,rfl,rfl,trivial⟩ ⟨H,by (try dsimp only);omega,by (try dsimp only);rw [aR h93];exact hrl2⟩ (by (try dsimp only);omega))))))))
 refine BW (A8 (A8 (BX (Z (Aa (Ad (Ah 3 U (Ab (Z (Am (Du U U U ?_)))))))))))
 replace H:=H.newnil Dl
 replace H:=Hd.big0 (fun e:Nat×Cu=>C8 e.1 C.J e.2) H
 replace H:Hd _ _ _ [Dt C.J ([]:List (Nat×Cu)),Y Dl (.slice none 0 0) (([]:List (Nat×Cu)).map BG),blk b31 [.slice A1 C.J.us.length c2,.int .i64 C.J.parts,.slice A6 C.J.map.length c7,.slice A11 C.J.comb.length c12,.slice A16 C.J.red.length c17,.int .i64 C.J.chunk,.int .i64 C.J.window,.int .i64 C.J.fuel,.slice A21 C.J.marks.length c22,.int .i64 C.w,.int .i64 C.t,.int .i64 C.o] 28,blk b68 [.slice A43 J35.us.length c44,.int .i64 J35.parts,.slice A48 J35.map.length c49,.slice A53 J35.comb.length c54,.slice A58 J35.red.length c59,.int .i64 J35.chunk,.int .i64 J35.window,.int .i64 J35.fuel,.slice A63 J35.marks.length c64,.int .i64 C.w,.int .i64 C.t,.int .i64 C.o,.int .i64 ((1+cnt CM recs:Nat):Int),q,.map (some b42),.slice none 0 0,.int .u32 0] 103,B5 Co b42 (rl.map Cz),Y (At Ag) (.slice A43 J35.us.length c44) J35.us,Y Af (.slice A48 J35.map.length c49) J35.map,Y Af (.slice A53 J35.comb.length c54) J35.comb,Y Af (.slice A58 J35.red.length c59) J35.red,Y (Ai .i64) (.slice A63 J35.marks.length c64) J35.marks,CS C rl,Y (Ai .i64) q (rl.map Bt)] [Ae (At Ag) (.slice A1 C.J.us.length c2) C.J.us,Ae Af (.slice A6 C.J.map.length c7) C.J.map,Ae Af (.slice A11 C.J.comb.length c12) C.J.comb,Ae Af (.slice A16 C.J.red.length c17) C.J.red,Ae (Ai .i64) (.slice A21 C.J.marks.length c22) C.J.marks,Ae BI (.slice A26 recs.length c27) recs]:=H
 replace H:=H.p1.pick 10 rfl|>.p5|>.pick 11 rfl|>.pick 11 rfl|>.pick 11 rfl|>.pick 11 rfl|>.pick 11 rfl|>.pick 11 rfl|>.pick 11 rfl|>.keep 11
 replace H:=NO b68 C (GC C id recs) (.slice A43 J35.us.length c44) (.slice A48 J35.map.length c49) (.slice A53 J35.comb.length c54) (.slice A58 J35.red.length c59) (.slice A63 J35.marks.length c64) J35 q b42 (.slice none 0 0) rl [] ⟨hsj,(by show _=Ev C id recs C.J.parts.toNat;rw [show C.J.parts.toNat=p by omega];exact hrl2),rfl⟩ H
 replace H:=H.h1 (A:=Ch b68 C (GC C id recs))
 exact Al ⟨b68,rfl,rfl⟩ H
theorem X_ (b:Nat) (vS:Value) (vM:Value) (vC:Value) (vR:Value) (vK:Value) (J2:AS) (C:Cf) (id:Int) (d:Nat) (hv:Value) (wo:Option Addr) (db:List UInt8) (dn:Nat) (hC:DE (Bw J2 C)) (hJ:Df J2) (hid:1≤id∧id≤C.w) (hdb:db.length≤90000):
    Cn Tryz.prog 44 [.pointer (some ⟨b,0,none⟩)] [blk b [vS,.int .i64 J2.parts,vM,vC,vR,.int .i64 J2.chunk,.int .i64 J2.window,.int .i64 J2.fuel,vK,.int .i64 C.w,.int .i64 C.t,.int .i64 C.o,.int .i64 id,.bool true,.pointer (some ⟨d,0,none⟩),hv,.pointer none,.pointer wo] 93,BP d db dn] [Ae (At Ag) vS J2.us,Ae Af vM J2.map,Ae Af vC J2.comb,Ae Af vR J2.red,Ae (Ai .i64) vK J2.marks] (fun v Bs=>∃ wb:Nat,v=.tuple #[]∧Bs=[blk b [vS,.int .i64 J2.parts,vM,vC,vR,.int .i64 J2.chunk,.int .i64 J2.window,.int .i64 J2.fuel,vK,.int .i64 C.w,.int .i64 C.t,.int .i64 C.o,.int .i64 id,.bool true,.pointer (some ⟨d,0,none⟩),hv,.pointer none,.pointer (some ⟨wb,0,none⟩)] 93,BP d (Hi db) ((CN db).2.toNat),Ch wb (Bw J2 C) (E1 (Bw J2 C) id (CN db).1)]):=by
 intro w0 F0 H
 obtain ⟨A1,c2,rfl,hc3,hm4,hp5⟩:=H.fR 0 rfl
 obtain ⟨A6,c7,rfl,hc8,hm9,hp10⟩:=H.fR 1 rfl
 obtain ⟨A11,c12,rfl,hc13,hm14,hp15⟩:=H.fR 2 rfl
 obtain ⟨A16,c17,rfl,hc18,hm19,hp20⟩:=H.fR 3 rfl
 obtain ⟨A21,c22,rfl,hc23,hm24,hp25⟩:=H.fR 4 rfl
 refine enter Tryz.func44 U U (Nat.le_of_ble_eq_true U) (Aa (Ad (Ac U (V U U (AH U U) (V U U (Aj U FQ U) (V U U (Aj U Iw U) (V U U (An U I0 U (H.cellI 0 U U)) ?_)))))))
 replace H:=H.p1
 replace H:Hd _ _ _ [BP d db dn,blk b [.slice A1 J2.us.length c2,.int .i64 J2.parts,.slice A6 J2.map.length c7,.slice A11 J2.comb.length c12,.slice A16 J2.red.length c17,.int .i64 J2.chunk,.int .i64 J2.window,.int .i64 J2.fuel,.slice A21 J2.marks.length c22,.int .i64 C.w,.int .i64 C.t,.int .i64 C.o,.int .i64 id,.bool true,.pointer (some ⟨d,0,none⟩),hv,.pointer none,.pointer wo] 93] [Ae (At Ag) (.slice A1 J2.us.length c2) J2.us,Ae Af (.slice A6 J2.map.length c7) J2.map,Ae Af (.slice A11 J2.comb.length c12) J2.comb,Ae Af (.slice A16 J2.red.length c17) J2.red,Ae (Ai .i64) (.slice A21 J2.marks.length c22) J2.marks]:=H
 refine sc (Uc d db dn (by first |assumption|omega)) H l0 U U (Av WF U U) ?_
 rintro v26 _ w rfl H
 replace H:=H.h1 (A:=Y AP v26 db)
 refine sc (ZV v26 db (by first |assumption|omega)) H (lA 0 U B3 l0) U U (Av WK U U) ?_
 rintro _ _ w ⟨u27,rs28,rfl,rfl,hf29⟩ H
 replace H:=H.h1 (A:=Y BI u27 rs28)
 have hrr:=hf29
 have hrm:=Z7 db
 have hrl:=Z6 db
 have hrn:rs28.length=(CN db).1.length:=by rw [←hrr,List.length_map]
 obtain ⟨kN,hkN⟩:∃ z:Nat,(CN db).2=(z:Int):=⟨(CN db).2.toNat,by omega⟩
 rw [hkN]
 have hsm:∀ r∈rs28,(AL r.sp∧r.set.length≤1000)∧r.pairs.length≤1000:=fun r hr=>by have h9:=KI (hrm (AW.p r) (by rw [←hrr];exact List.mem_map_of_mem hr));have h8:Bq r.sp 0 5:=h9.sp;have h7:r.set.length≤6:=h9.set;have h6:r.pairs.length≤40:=h9.pairs;unfold Bq at h8;exact ⟨⟨by unfold AL;omega,by omega⟩,by omega⟩
 refine Ah 5 U (Ab (Z (Aa (Ad (Ac U (V U U (AH U U) (V U U (Aj U FQ U) (V U U (Aj U Iw U) (V U U (An U I0 U (H.cellI 3 U U)) (Ac U ?_))))))))))
 replace H:=H.p2
 refine sc (Ud d db dn kN (by first |assumption|omega)) H l0 U U (Av Xo U U) ?_
 rintro _ _ w ⟨rfl,rfl⟩ H
 replace H:=H.h1 (A:=BP d (db.take kN) kN)
 refine Ab (Z (Aa (Aa (Ad (Ac U (V U U (AH U U) (V U U (Aj U FQ U) (V U U (Aj U Mg U) (V U U (An U AE U (H.cellI 3 U U)) (V U U (Bg U U U) (Ab (Z ?_))))))))))))
 refine AC U (fun h30=>?_) (fun h30=>?_)
 ·exfalso;omega
 refine AB (Z (Aa (Cc (.e 0 (.e 1 (.e 2 (.e 3 (.e 4 (.e 6 (.e 7 (.e 8 (.e 9 (.e 11 (.p 5 10 (.m 12 (.e 13 (.e 14 (.e 15 (.e 16 (.e 17 (.m 18 .z)))))))))))))))))) (fun w=>∃ Ar,Hd w0 F0 w (BP d (db.take kN) kN::Y BI u27 rs28::Y AP v26 db::Ar) [Ae (At Ag) (.slice A1 J2.us.length c2) J2.us,Ae Af (.slice A6 J2.map.length c7) J2.map,Ae Af (.slice A11 J2.comb.length c12) J2.comb,Ae Af (.slice A16 J2.red.length c17) J2.red,Ae (Ai .i64) (.slice A21 J2.marks.length c22) J2.marks]) mo (by kernel_rfl) (fun w H=>⟨_,H⟩) H (fun w H=>(Au U (Au U (Ao U U U (fun w ⟨Ar,H⟩=>AH U U) (Ao U U U (fun w ⟨Ar,H⟩=>Aj U FQ U) (Ao U U U (fun w ⟨Ar,H⟩=>Aj U U5 U) (Au U (Ao U U U (fun w ⟨Ar,H⟩=>AH U U) (Ao U U U (fun w ⟨Ar,H⟩=>Aj U FQ U) ?_))))))))))))
 refine Ao U U U (fun w ⟨Ar,H⟩=>Aj U Mg U) (Au U (Jc U U U U U U U U (by decide) (BD (cs:=[.slice A1 J2.us.length c2,.int .i64 J2.parts,.slice A6 J2.map.length c7,.slice A11 J2.comb.length c12,.slice A16 J2.red.length c17,.int .i64 J2.chunk,.int .i64 J2.window,.int .i64 J2.fuel,.slice A21 J2.marks.length c22,.int .i64 C.w,.int .i64 C.t,.int .i64 C.o]) U EY U U (H.cellsI 3 U U)) (An U AE U (H.cellI 3 U U)) (AO U (sc (fD (.slice A1 J2.us.length c2) (.slice A6 J2.map.length c7) (.slice A11 J2.comb.length c12) (.slice A16 J2.red.length c17) (.slice A21 J2.marks.length c22) (Bw J2 C) id u27 rs28 (by first |assumption|omega) (by first |assumption|omega) (by first |assumption|omega) (by first |assumption|omega) (by first |assumption|omega)) H (lR 0 U (lR 1 U (lR 2 U (lR 3 U (lR 4 U (lA 1 U B3 l0)))))) U U (Av Xp U U) ?_))))
 rintro _ _ w ⟨b31,rfl,rfl⟩ H
 replace H:=H.h1 (A:=Ch b31 (Bw J2 C) (GC (Bw J2 C) id rs28))
 rw [Yt (Bw J2 C) id hrr] at H
 replace H:Hd _ _ _ [Ch b31 (Bw J2 C) (E1 (Bw J2 C) id (CN db).1),BP d (db.take kN) kN,Y BI u27 rs28,Y AP v26 db,blk b [.slice A1 J2.us.length c2,.int .i64 J2.parts,.slice A6 J2.map.length c7,.slice A11 J2.comb.length c12,.slice A16 J2.red.length c17,.int .i64 J2.chunk,.int .i64 J2.window,.int .i64 J2.fuel,.slice A21 J2.marks.length c22,.int .i64 C.w,.int .i64 C.t,.int .i64 C.o,.int .i64 id,.bool true,.pointer (some ⟨d,0,none⟩),hv,.pointer none,.pointer wo] 93] [Ae (At Ag) (.slice A1 J2.us.length c2) J2.us,Ae Af (.slice A6 J2.map.length c7) J2.map,Ae Af (.slice A11 J2.comb.length c12) J2.comb,Ae Af (.slice A16 J2.red.length c17) J2.red,Ae (Ai .i64) (.slice A21 J2.marks.length c22) J2.marks]:=H
 replace H:=H.p3.p3.p3
 refine AG ⟨_,H⟩ (Au U (Au U (Au U (Ao U U U (fun w ⟨Ar,H⟩=>AH U U) (Ao U U U (fun w ⟨Ar,H⟩=>Aj U PA U) (AO U ?_))))))
 replace H:=H.p4
 refine Bx U U U Su U U H U (Nat.le_of_ble_eq_true U) (fun u hu=>by simp [Value.cells] at hu;subst hu;rfl) (fun w H=>?_)
 replace H:=H.h1 (A:=blk b [.slice A1 J2.us.length c2,.int .i64 J2.parts,.slice A6 J2.map.length c7,.slice A11 J2.comb.length c12,.slice A16 J2.red.length c17,.int .i64 J2.chunk,.int .i64 J2.window,.int .i64 J2.fuel,.slice A21 J2.marks.length c22,.int .i64 C.w,.int .i64 C.t,.int .i64 C.o,.int .i64 id,.bool true,.pointer (some ⟨d,0,none⟩),hv,.pointer none,.pointer (some ⟨b31,0,none⟩)] 93)|>.p3|>.p3|>.p3
 refine AG ⟨_,H⟩ (BN (Z ?_))
 replace H:=H.p4.p4.p4.p4
 refine Cc (.e 0 (.e 1 (.e 2 (.e 3 (.e 4 (.e 5 (.m 6 (.m 7 (.m 8 .z))))))))) (fun w=>∃ Ar,Hd w0 F0 w (Y BI u27 rs28::Y AP v26 db::blk b [.slice A1 J2.us.length c2,.int .i64 J2.parts,.slice A6 J2.map.length c7,.slice A11 J2.comb.length c12,.slice A16 J2.red.length c17,.int .i64 J2.chunk,.int .i64 J2.window,.int .i64 J2.fuel,.slice A21 J2.marks.length c22,.int .i64 C.w,.int .i64 C.t,.int .i64 C.o,.int .i64 id,.bool true,.pointer (some ⟨d,0,none⟩),hv,.pointer none,.pointer (some ⟨b31,0,none⟩)] 93::Ch b31 (Bw J2 C) (E1 (Bw J2 C) id (CN db).1)::Ar) [Ae (At Ag) (.slice A1 J2.us.length c2) J2.us,Ae Af (.slice A6 J2.map.length c7) J2.map,Ae Af (.slice A11 J2.comb.length c12) J2.comb,Ae Af (.slice A16 J2.red.length c17) J2.red,Ae (Ai .i64) (.slice A21 J2.marks.length c22) J2.marks]) mo (by kernel_rfl) (fun w H=>⟨_,H⟩) H (fun w H=>?_)
 refine Au U (Ao U U U (fun w ⟨Ar,H⟩=>AH U U) (Ao U U U (fun w ⟨Ar,H⟩=>Aj U FQ U) (Ao U U U (fun w ⟨Ar,H⟩=>Aj U Iw U) (Ao U U U (fun w ⟨Ar,H⟩=>An U I0 U (H.cellI 2 U U)) (Ao U U U (fun w ⟨Ar,H⟩=>Di (parts:=[(0,.const (.int .i64 6))]) (vs:=[.int .i64 6]) (cs:=[.int .i64 6,.int .i64 0,.int .i64 0,.int .i64 0,.int .i64 0,.slice none 0 0,.slice none 0 0]) U Om U U) (AO U (Cb (parts:=[(0,.tmp 63)]) (vs:=[.agg #[.int .i64 6,.int .i64 0,.int .i64 0,.int .i64 0,.int .i64 0,.slice none 0 0,.slice none 0 0]]) (cs:=[.int .i64 6,.int .i64 0,.int .i64 0,.int .i64 0,.int .i64 0,.slice none 0 0,.slice none 0 0]) U U U IW He U (by decide) (by decide) U U H (fun b32 w H=>?_))))))))
 replace H:=H.h1 (A:=blk b32 [.int .i64 6,.int .i64 0,.int .i64 0,.int .i64 0,.int .i64 0,.slice none 0 0,.slice none 0 0] 69)|>.p4|>.p4|>.p4|>.p4
 refine AG ⟨_,H⟩ (AO U ?_)
 replace H:=H.p4
 replace H:Hd w0 F0 w [Y Eg (.slice (some ⟨b32,0,none⟩) 1 1) [(⟨6,0,0,0,0,⟨none,0,0⟩,⟨none,0,0⟩⟩:Hg)],Y BI u27 rs28,Y AP v26 db,blk b [.slice A1 J2.us.length c2,.int .i64 J2.parts,.slice A6 J2.map.length c7,.slice A11 J2.comb.length c12,.slice A16 J2.red.length c17,.int .i64 J2.chunk,.int .i64 J2.window,.int .i64 J2.fuel,.slice A21 J2.marks.length c22,.int .i64 C.w,.int .i64 C.t,.int .i64 C.o,.int .i64 id,.bool true,.pointer (some ⟨d,0,none⟩),hv,.pointer none,.pointer (some ⟨b31,0,none⟩)] 93,Ch b31 (Bw J2 C) (E1 (Bw J2 C) id (CN db).1),BP d (db.take kN) kN] [Ae (At Ag) (.slice A1 J2.us.length c2) J2.us,Ae Af (.slice A6 J2.map.length c7) J2.map,Ae Af (.slice A11 J2.comb.length c12) J2.comb,Ae Af (.slice A16 J2.red.length c17) J2.red,Ae (Ai .i64) (.slice A21 J2.marks.length c22) J2.marks]:=H.turn (fun F h=>Il h rfl (by decide) rfl)
 refine sc (ZT (.slice (some ⟨b32,0,none⟩) 1 1) [IE] (by decide)) H (lX (fun F hA hR=>aG (us:=[IE]) (B3 F (hA _ (List.mem_of_getElem? (i:=0) U))) (XG (n:=1))) l0) U U (Av Xr U U) ?_
 rintro v33 _ w rfl H
 replace H:=H.h1 (A:=Y AP v33 (Fm [FT]))
 have hll:(Fm [FT]).length=64:=by rw [Qt,KB]
 have hbt:(db.take kN).length≤90000:=by rw [List.length_take];omega
 replace H:=H.p5.p5.p5.p5
 refine AG ⟨_,H⟩ (AO U ?_)
 replace H:=H.p6
 refine sc (Ub d (db.take kN) kN v33 (Fm [FT]) (by first |assumption|omega) (by first |assumption|omega)) H (lA 4 U B3 l0) U U (Av Xq U U) ?_
 rintro _ _ w ⟨rfl,rfl⟩ H
 replace H:=H.h1 (A:=BP d ((db.take kN)++(Fm [FT])) kN)|>.p4|>.p4|>.p4|>.p4
 refine AG ⟨_,H⟩ (BN (DX U ?_))
 have hke:kN=(CN db).2.toNat:=by omega
 rw [hke] at H
 rw [←hkN]
 replace H:Hd _ _ _ [Y BI u27 rs28,Y AP v26 db,blk b [.slice A1 J2.us.length c2,.int .i64 J2.parts,.slice A6 J2.map.length c7,.slice A11 J2.comb.length c12,.slice A16 J2.red.length c17,.int .i64 J2.chunk,.int .i64 J2.window,.int .i64 J2.fuel,.slice A21 J2.marks.length c22,.int .i64 C.w,.int .i64 C.t,.int .i64 C.o,.int .i64 id,.bool true,.pointer (some ⟨d,0,none⟩),hv,.pointer none,.pointer (some ⟨b31,0,none⟩)] 93,Ch b31 (Bw J2 C) (E1 (Bw J2 C) id (CN db).1),BP d (Hi db) ((CN db).2.toNat),Y AP v33 (Fm [FT]),Y Eg (.slice (some ⟨b32,0,none⟩) 1 1) [(⟨6,0,0,0,0,⟨none,0,0⟩,⟨none,0,0⟩⟩:Hg)]] [Ae (At Ag) (.slice A1 J2.us.length c2) J2.us,Ae Af (.slice A6 J2.map.length c7) J2.map,Ae Af (.slice A11 J2.comb.length c12) J2.comb,Ae Af (.slice A16 J2.red.length c17) J2.red,Ae (Ai .i64) (.slice A21 J2.marks.length c22) J2.marks]:=H
 replace H:=H.p3.p4.p4.k3
 exact Al ⟨b31,rfl,rfl⟩ H
theorem Yk (vS:Value) (vM:Value) (vC:Value) (vR:Value) (vK:Value) (C:Cf) (id:Int) (hC:DE C) (hJ:Df C.J) (hid:1≤id∧id≤C.w):
    Cn Tryz.prog 11 [.agg #[vS,.int .i64 C.J.parts,vM,vC,vR,.int .i64 C.J.chunk,.int .i64 C.J.window,.int .i64 C.J.fuel,vK,.int .i64 C.w,.int .i64 C.t,.int .i64 C.o],.int .i64 id] [] [Ae (At Ag) vS C.J.us,Ae Af vM C.J.map,Ae Af vC C.J.comb,Ae Af vR C.J.red,Ae (Ai .i64) vK C.J.marks] (fun v Bs=>∃ b:Nat,v=.tuple #[.pointer (some ⟨b,0,none⟩),.int .i64 0]∧Bs=[Dm b C (Fb C id)]):=by
 intro w0 F0 H
 obtain ⟨A1,c2,rfl,hc3,hm4,hp5⟩:=H.fR 0 rfl
 obtain ⟨A6,c7,rfl,hc8,hm9,hp10⟩:=H.fR 1 rfl
 obtain ⟨A11,c12,rfl,hc13,hm14,hp15⟩:=H.fR 2 rfl
 obtain ⟨A16,c17,rfl,hc18,hm19,hp20⟩:=H.fR 3 rfl
 obtain ⟨A21,c22,rfl,hc23,hm24,hp25⟩:=H.fR 4 rfl
 refine enter Tryz.func11 U U (Nat.le_of_ble_eq_true U) (Aa (Ad (CT U U U U H (fun b26 w H=>(Ah 2 U (Ab (Z ?_)))))))
 replace H:Hd _ _ _ [blk b26 [.slice A1 C.J.us.length c2,.int .i64 C.J.parts,.slice A6 C.J.map.length c7,.slice A11 C.J.comb.length c12,.slice A16 C.J.red.length c17,.int .i64 C.J.chunk,.int .i64 C.J.window,.int .i64 C.J.fuel,.slice A21 C.J.marks.length c22,.int .i64 C.w,.int .i64 C.t,.int .i64 C.o] 28] [Ae (At Ag) (.slice A1 C.J.us.length c2) C.J.us,Ae Af (.slice A6 C.J.map.length c7) C.J.map,Ae Af (.slice A11 C.J.comb.length c12) C.J.comb,Ae Af (.slice A16 C.J.red.length c17) C.J.red,Ae (Ai .i64) (.slice A21 C.J.marks.length c22) C.J.marks]:=H
 refine Aa (Aa (Ad (V U U (BD (cs:=[.slice A1 C.J.us.length c2,.int .i64 C.J.parts,.slice A6 C.J.map.length c7,.slice A11 C.J.comb.length c12,.slice A16 C.J.red.length c17,.int .i64 C.J.chunk,.int .i64 C.J.window,.int .i64 C.J.fuel,.slice A21 C.J.marks.length c22,.int .i64 C.w,.int .i64 C.t,.int .i64 C.o]) U EY U U (H.cellsI 0 U U)) (sc (MI (.slice A1 C.J.us.length c2) (.slice A6 C.J.map.length c7) (.slice A11 C.J.comb.length c12) (.slice A16 C.J.red.length c17) (.slice A21 C.J.marks.length c22) C) H (lR 0 U (lR 1 U (lR 2 U (lR 3 U (lR 4 U l0))))) U U (Av Mz U U) ?_))))
 rintro _ _ w ⟨rfl,rfl⟩ H
 refine V U U (D3 U U) (Ac U ?_)
 refine AR (d:=10) U (fun h27=>?_) (fun h27=>?_)
 ·exact (h27 hC).elim
 refine Ac U (V U U (Br U U U) (Ah 2 U ?_))
 refine AR (d:=14) U (fun h28=>?_) (fun h28=>?_)
 ·exfalso;omega
 refine Ac U (V U U (Aj U Kq U) (V U U (An U AE U (H.cellI 0 U U)) (V U U (CW U U U) (Ac U (Ab (Z ?_))))))
 replace H:Hd _ _ _ [blk b26 [.slice A1 C.J.us.length c2,.int .i64 C.J.parts,.slice A6 C.J.map.length c7,.slice A11 C.J.comb.length c12,.slice A16 C.J.red.length c17,.int .i64 C.J.chunk,.int .i64 C.J.window,.int .i64 C.J.fuel,.slice A21 C.J.marks.length c22,.int .i64 C.w,.int .i64 C.t,.int .i64 C.o] 28] [Ae (At Ag) (.slice A1 C.J.us.length c2) C.J.us,Ae Af (.slice A6 C.J.map.length c7) C.J.map,Ae Af (.slice A11 C.J.comb.length c12) C.J.comb,Ae Af (.slice A16 C.J.red.length c17) C.J.red,Ae (Ai .i64) (.slice A21 C.J.marks.length c22) C.J.marks]:=H
 refine AC U (fun h29=>?_) (fun h29=>?_)
 ·exfalso;omega
 refine AB (Z (Aa (Ad (V U U (BD (cs:=[.slice A1 C.J.us.length c2,.int .i64 C.J.parts,.slice A6 C.J.map.length c7,.slice A11 C.J.comb.length c12,.slice A16 C.J.red.length c17,.int .i64 C.J.chunk,.int .i64 C.J.window,.int .i64 C.J.fuel,.slice A21 C.J.marks.length c22,.int .i64 C.w,.int .i64 C.t,.int .i64 C.o]) U EY U U (H.cellsI 0 U U)) (sc (MV (.slice A1 C.J.us.length c2) (.slice A6 C.J.map.length c7) (.slice A11 C.J.comb.length c12) (.slice A16 C.J.red.length c17) (.slice A21 C.J.marks.length c22) C (by first |assumption|omega)) H (lR 0 U (lR 1 U (lR 2 U (lR 3 U (lR 4 U l0))))) U U (Av Mw U U) ?_)))))
 rintro _ _ w ⟨J30,vS31,vM32,vC33,vR34,vK35,rfl,rfl,hf36⟩ H
 replace H:=H.h5 (A:=Y (At Ag) vS31 J30.us) (B:=Y Af vM32 J30.map) (C:=Y Af vC33 J30.comb) (D:=Y Af vR34 J30.red) (E:=Y (Ai .i64) vK35 J30.marks)
 have hsj:=hf36
 have hO2:Df J30:=hsj.symm.ok hJ
 have hC2:DE (Bw J30 C):=(HY hsj).symm.may hC
 refine Ac U (sc (Ue) H l0 U U (Av Xg U U) ?_)
 rintro _ _ w ⟨d37,rfl,rfl⟩ H
 obtain ⟨A38,c39,rfl,hc40,hm41,hp42⟩:=H.fA 1 rfl
 obtain ⟨A43,c44,rfl,hc45,hm46,hp47⟩:=H.fA 2 rfl
 obtain ⟨A48,c49,rfl,hc50,hm51,hp52⟩:=H.fA 3 rfl
 obtain ⟨A53,c54,rfl,hc55,hm56,hp57⟩:=H.fA 4 rfl
 obtain ⟨A58,c59,rfl,hc60,hm61,hp62⟩:=H.fA 5 rfl
 refine V U U (Di (parts:=[(0,.tmp 21),(1,.tmp 22),(2,.const (.bool true)),(3,.tmp 23)]) (vs:=[.agg #[.slice A38 J30.us.length c39,.int .i64 J30.parts,.slice A43 J30.map.length c44,.slice A48 J30.comb.length c49,.slice A53 J30.red.length c54,.int .i64 J30.chunk,.int .i64 J30.window,.int .i64 J30.fuel,.slice A58 J30.marks.length c59,.int .i64 C.w,.int .i64 C.t,.int .i64 C.o],.int .i64 id,.bool true,.pointer (some ⟨d37,0,none⟩)]) (cs:=[.slice A38 J30.us.length c39,.int .i64 J30.parts,.slice A43 J30.map.length c44,.slice A48 J30.comb.length c49,.slice A53 J30.red.length c54,.int .i64 J30.chunk,.int .i64 J30.window,.int .i64 J30.fuel,.slice A58 J30.marks.length c59,.int .i64 C.w,.int .i64 C.t,.int .i64 C.o,.int .i64 id,.bool true,.pointer (some ⟨d37,0,none⟩),.slice none 0 0]) U Tg U U) (V U U (Di (parts:=[(0,.tmp 24)]) (vs:=[.agg #[.slice A38 J30.us.length c39,.int .i64 J30.parts,.slice A43 J30.map.length c44,.slice A48 J30.comb.length c49,.slice A53 J30.red.length c54,.int .i64 J30.chunk,.int .i64 J30.window,.int .i64 J30.fuel,.slice A58 J30.marks.length c59,.int .i64 C.w,.int .i64 C.t,.int .i64 C.o,.int .i64 id,.bool true,.pointer (some ⟨d37,0,none⟩),.slice none 0 0]]) (cs:=[.slice A38 J30.us.length c39,.int .i64 J30.parts,.slice A43 J30.map.length c44,.slice A48 J30.comb.length c49,.slice A53 J30.red.length c54,.int .i64 J30.chunk,.int .i64 J30.window,.int .i64 J30.fuel,.slice A58 J30.marks.length c59,.int .i64 C.w,.int .i64 C.t,.int .i64 C.o,.int .i64 id,.bool true,.pointer (some ⟨d37,0,none⟩),.slice none 0 0,.pointer none,.pointer none]) U Th U U) ?_)
 refine CT U U U U H (fun b63 w H=>(Ac U (Ab (Z ?_))))
 replace H:Hd _ _ _ [blk b63 [.slice A38 J30.us.length c39,.int .i64 J30.parts,.slice A43 J30.map.length c44,.slice A48 J30.comb.length c49,.slice A53 J30.red.length c54,.int .i64 J30.chunk,.int .i64 J30.window,.int .i64 J30.fuel,.slice A58 J30.marks.length c59,.int .i64 C.w,.int .i64 C.t,.int .i64 C.o,.int .i64 id,.bool true,.pointer (some ⟨d37,0,none⟩),.slice none 0 0,.pointer none,.pointer none] 93,BP d37 [] 0,Y (At Ag) (.slice A38 J30.us.length c39) J30.us,Y Af (.slice A43 J30.map.length c44) J30.map,Y Af (.slice A48 J30.comb.length c49) J30.comb,Y Af (.slice A53 J30.red.length c54) J30.red,Y (Ai .i64) (.slice A58 J30.marks.length c59) J30.marks,blk b26 [.slice A1 C.J.us.length c2,.int .i64 C.J.parts,.slice A6 C.J.map.length c7,.slice A11 C.J.comb.length c12,.slice A16 C.J.red.length c17,.int .i64 C.J.chunk,.int .i64 C.J.window,.int .i64 C.J.fuel,.slice A21 C.J.marks.length c22,.int .i64 C.w,.int .i64 C.t,.int .i64 C.o] 28] [Ae (At Ag) (.slice A1 C.J.us.length c2) C.J.us,Ae Af (.slice A6 C.J.map.length c7) C.J.map,Ae Af (.slice A11 C.J.comb.length c12) C.J.comb,Ae Af (.slice A16 C.J.red.length c17) C.J.red,Ae (Ai .i64) (.slice A21 C.J.marks.length c22) C.J.marks]:=H
 refine Aa (Ad (Ac U (sc (X_ b63 (.slice A38 J30.us.length c39) (.slice A43 J30.map.length c44) (.slice A48 J30.comb.length c49) (.slice A53 J30.red.length c54) (.slice A58 J30.marks.length c59) J30 C id d37 (.slice none 0 0) none [] 0 (by first |assumption|omega|decide) (by first |assumption|omega|decide) (by first |assumption|omega|decide) (by first |assumption|omega|decide)) H (lA 0 U B3 (lA 1 U B3 (lA 2 U B3 (lA 3 U B3 (lA 4 U B3 l0))))) U U (Av Xh U U) ?_)))
 rintro _ _ w ⟨wb64,rfl,rfl⟩ H
 replace H:=H.h3 (A:=blk b63 [.slice A38 J30.us.length c39,.int .i64 J30.parts,.slice A43 J30.map.length c44,.slice A48 J30.comb.length c49,.slice A53 J30.red.length c54,.int .i64 J30.chunk,.int .i64 J30.window,.int .i64 J30.fuel,.slice A58 J30.marks.length c59,.int .i64 C.w,.int .i64 C.t,.int .i64 C.o,.int .i64 id,.bool true,.pointer (some ⟨d37,0,none⟩),.slice none 0 0,.pointer none,.pointer (some ⟨wb64,0,none⟩)] 93) (B:=BP d37 (Hi []) ((CN []).2.toNat)) (C:=Ch wb64 (Bw J30 C) (E1 (Bw J30 C) id (CN []).1))
 rw [fF (HY hsj)] at H
 replace H:Hd _ _ _ [blk b63 [.slice A38 J30.us.length c39,.int .i64 J30.parts,.slice A43 J30.map.length c44,.slice A48 J30.comb.length c49,.slice A53 J30.red.length c54,.int .i64 J30.chunk,.int .i64 J30.window,.int .i64 J30.fuel,.slice A58 J30.marks.length c59,.int .i64 C.w,.int .i64 C.t,.int .i64 C.o,.int .i64 id,.bool true,.pointer (some ⟨d37,0,none⟩),.slice none 0 0,.pointer none,.pointer (some ⟨wb64,0,none⟩)] 93,BP d37 (Hi []) ((CN []).2.toNat),Ch wb64 (Bw J30 C) (E1 C id (CN []).1),Y (At Ag) (.slice A38 J30.us.length c39) J30.us,Y Af (.slice A43 J30.map.length c44) J30.map,Y Af (.slice A48 J30.comb.length c49) J30.comb,Y Af (.slice A53 J30.red.length c54) J30.red,Y (Ai .i64) (.slice A58 J30.marks.length c59) J30.marks,blk b26 [.slice A1 C.J.us.length c2,.int .i64 C.J.parts,.slice A6 C.J.map.length c7,.slice A11 C.J.comb.length c12,.slice A16 C.J.red.length c17,.int .i64 C.J.chunk,.int .i64 C.J.window,.int .i64 C.J.fuel,.slice A21 C.J.marks.length c22,.int .i64 C.w,.int .i64 C.t,.int .i64 C.o] 28] [Ae (At Ag) (.slice A1 C.J.us.length c2) C.J.us,Ae Af (.slice A6 C.J.map.length c7) C.J.map,Ae Af (.slice A11 C.J.comb.length c12) C.J.comb,Ae Af (.slice A16 C.J.red.length c17) C.J.red,Ae (Ai .i64) (.slice A21 C.J.marks.length c22) C.J.marks]:=H
 refine Ab (Z (Aa (Ad (Ah 3 U (Ab (Z (Am (Du U U U ?_))))))))
 replace H:=H.newnil BO|>.p2|>.p8|>.p8|>.p8|>.p8|>.p8|>.p7|>.k9
 replace H:=IG b63 C (Fb C id) (.slice A38 J30.us.length c39) (.slice A43 J30.map.length c44) (.slice A48 J30.comb.length c49) (.slice A53 J30.red.length c54) (.slice A58 J30.marks.length c59) J30 d37 (.slice none 0 0) [] wb64 ⟨hsj,rfl⟩ H
 replace H:=H.h1 (A:=Dm b63 C (Fb C id))
 exact Al ⟨b63,rfl,rfl⟩ H
theorem bY (v1 v2:Value) (xs ys:List Int):
    Cn Tryz.prog 123 [v1,v2] [] [Ae (Ai .i64) v1 xs,Ae (Ai .i64) v2 ys] (fun v Bs=>v=.bool (decide (xs=ys))∧Bs=[]):=by
 intro w0 F0 H
 obtain ⟨A1,c2,rfl,hc3,hm4,hp5⟩:=H.fR 0 rfl
 obtain ⟨A6,c7,rfl,hc8,hm9,hp10⟩:=H.fR 1 rfl
 refine enter Tryz.func123 U U (Nat.le_of_ble_eq_true U) (Aa (Ad (Ac U (Ab (Z ?_)))))
 replace H:Hd _ _ _ [] [Ae (Ai .i64) (.slice A1 xs.length c2) xs,Ae (Ai .i64) (.slice A6 ys.length c7) ys]:=H
 refine Aa (Aa (Ad (Ac U (V U U (Bn U EC U) (Ac U (V U U (Bn U EC U) (V U U (CG U U U) (Ab (Z ?_)))))))))
 refine AC U (fun h11=>?_) (fun h11=>?_)
 ·refine Aa (Ad (Ac U (Ab (Z (Am (Az (Aq U U ?_)))))))
  have e:¬ xs=ys:=fun e=>h11 (by rw [e])
  exact Al ⟨by rw [decide_eq_false e]<;>rfl,rfl⟩ H
 refine AB (Z (Aa (Aa (Ad (Ac U (Ab (Z (AX ?_))))))))
 have hle:xs.length=ys.length:=by omega
 refine B1 (σ:=Nat) (fun k=>[(0,.slice A1 xs.length c2),(1,.slice A6 ys.length c7),(5,.int .i64 ((k:Nat):Int))]) (fun k w=>(Hd w0 F0 w [] [Ae (Ai .i64) (.slice A1 xs.length c2) xs,Ae (Ai .i64) (.slice A6 ys.length c7) ys])∧(k≤xs.length)∧(xs.length=ys.length)∧(xs.take k=ys.take k)) (fun k=>xs.length - k) 0 ⟨rfl,rfl,rfl,trivial⟩ ⟨H,by omega,hle,rfl⟩ ?_
 rintro k w ⟨H,hk,hle,ht⟩
 refine Aa (Aa (Ad (Ah 2 U (V U U (Bn U EC U) (V U U (Br U U U) (Ab (Z ?_)))))))
 refine AC U (fun h12=>?_) (fun h12=>?_)
 ·refine AB (Z (Aa (AX (Aa (GP mo (by kernel_rfl) H (JU 2 U ?_))))))
  obtain ⟨x13,hx14⟩:∃ z9,xs[k]?=some z9:=⟨_,List.getElem?_eq_getElem (show k<xs.length by omega)⟩
  have th15:=H.thR 0 rfl hx14
  refine BH U U (fun w H=>Bi (p:=A_ A1+k*1) U DA U U (by omega) (by omega) th15 U) (BH U U (fun w H=>An U AE U (H.elR 0 U hx14 (q:=0) U U)) (JU 2 U ?_))
  obtain ⟨x16,hx17⟩:∃ z9,ys[k]?=some z9:=⟨_,List.getElem?_eq_getElem (show k<ys.length by omega)⟩
  have th18:=H.thR 1 rfl hx17
  refine BH U U (fun w H=>Bi (p:=A_ A6+k*1) U DA U U (by omega) (by omega) th18 U) (BH U U (fun w H=>An U AE U (H.elR 1 U hx17 (q:=0) U U)) (BH U U (fun w H=>CG U U U) (Ha (fun w H=>(Z ?_)))))
  refine AC U (fun h19=>?_) (fun h19=>?_)
  ·refine Aa (Ad (Ac U (Ab (Z (Am (AY (Az (Az (AY (Az (Aq U U ?_)))))))))))
   have e:¬ xs=ys:=fun e=>h19 (by rw [e,hx17] at hx14;exact (Option.some.inj hx14).symm)
   exact Al ⟨by rw [decide_eq_false e]<;>rfl,rfl⟩ H
  refine AB (Bb (Z (Ad (Ac U (V U U (Be (z:=((k+1:Nat):Int)) U U U (by rw [AI (by omega) (by omega)];omega)) (Ac U (Ab ?_)))))))
  have e:x13=x16:=Classical.not_not.1 h19
  subst e
  exact Bo (s:=k) (k+1) ⟨rfl,rfl,rfl,trivial⟩ ⟨H,by omega,hle,Sl hx14 hx17 ht⟩ (by (try dsimp only);omega)
 refine BW (A8 (A8 (BX (Z (Aa (Ad (Ac U (Ab (Z (Am (Aq U U ?_)))))))))))
 have e:xs=ys:=by rw [←GJ (xs:=xs) (k:=k) (by omega),←GJ (xs:=ys) (k:=k) (by omega)];exact ht
 exact Al ⟨by rw [decide_eq_true e]<;>rfl,rfl⟩ H
theorem Vh (x:CE) (xsv:Value) (xse:List Int) (xpv:Value) (xpr:List Ap):
    Cn Tryz.prog 35 [.agg #[.int .i64 x.kind,.int .i64 x.sp,.int .i64 x.att,.int .i64 x.part,.int .i64 x.seq,.int .i64 x.next,.int .i64 x.ep,.int .i64 x.why,xsv,xpv]] [] [Ae (Ai .i64) xsv xse,Ae Ag xpv xpr] (fun v Bs=>v=.bool (Ku xse xpr)∧Bs=[]):=by
 intro w0 F0 H
 obtain ⟨A1,c2,rfl,hc3,hm4,hp5⟩:=H.fR 0 rfl
 obtain ⟨A6,c7,rfl,hc8,hm9,hp10⟩:=H.fR 1 rfl
 refine enter Tryz.func35 U U (Nat.le_of_ble_eq_true U) (Aa (Ad (CT U U U U H (fun b11 w H=>(Ac U (Ab (Z ?_)))))))
 replace H:Hd _ _ _ [blk b11 [.int .i64 x.kind,.int .i64 x.sp,.int .i64 x.att,.int .i64 x.part,.int .i64 x.seq,.int .i64 x.next,.int .i64 x.ep,.int .i64 x.why,.slice A1 xse.length c2,.slice A6 xpr.length c7] 49] [Ae (Ai .i64) (.slice A1 xse.length c2) xse,Ae Ag (.slice A6 xpr.length c7) xpr]:=H
 refine Aa (Ad (V U U (Aj U Mc U) (V U U (An U DY U (H.cellI 0 U U)) (V U U (Bn U EC U) (V U U (CW U U U) (Ac U ?_))))))
 refine AR (d:=7) U (fun h12=>?_) (fun h12=>?_)
 ·refine Ah 5 U (Ab (Z (Am (Aq U U ?_))))
  replace H:=H.nil
  exact Al ⟨by unfold Ku;rw [decide_eq_true (by omega)];rfl,rfl⟩ H
 refine V U U (Aj U Md U) (V U U (An U DG U (H.cellI 0 U U)) (sc (Vi (.slice A6 xpr.length c7) xpr 50) H (lR 1 U l0) U U (Av Xc U U) ?_))
 rintro _ _ w ⟨rfl,rfl⟩ H
 refine Ah 2 U (Ab (Z (Am (Aq U U ?_))))
 replace H:=H.nil
 replace H:Hd _ _ _ [] [Ae (Ai .i64) (.slice A1 xse.length c2) xse,Ae Ag (.slice A6 xpr.length c7) xpr]:=H
 exact Al ⟨by unfold Ku;rw [decide_eq_false (by omega)];rfl,rfl⟩ H
theorem b0 (x:CE) (xsv:Value) (xse:List Int) (xpv:Value) (xpr:List Ap) (y:CE) (ysv:Value) (yse:List Int) (ypv:Value) (ypr:List Ap):
    Cn Tryz.prog 70 [.agg #[.int .i64 x.kind,.int .i64 x.sp,.int .i64 x.att,.int .i64 x.part,.int .i64 x.seq,.int .i64 x.next,.int .i64 x.ep,.int .i64 x.why,xsv,xpv],.agg #[.int .i64 y.kind,.int .i64 y.sp,.int .i64 y.att,.int .i64 y.part,.int .i64 y.seq,.int .i64 y.next,.int .i64 y.ep,.int .i64 y.why,ysv,ypv]] [] [Ae (Ai .i64) xsv xse,Ae Ag xpv xpr,Ae (Ai .i64) ysv yse,Ae Ag ypv ypr] (fun v Bs=>v=.bool (decide (x.p xse xpr=y.p yse ypr))∧Bs=[]):=by
 intro w0 F0 H
 obtain ⟨A1,c2,rfl,hc3,hm4,hp5⟩:=H.fR 0 rfl
 obtain ⟨A6,c7,rfl,hc8,hm9,hp10⟩:=H.fR 1 rfl
 obtain ⟨A11,c12,rfl,hc13,hm14,hp15⟩:=H.fR 2 rfl
 obtain ⟨A16,c17,rfl,hc18,hm19,hp20⟩:=H.fR 3 rfl
 refine enter Tryz.func70 U U (Nat.le_of_ble_eq_true U) (Aa (Ad (CT U U U U H (fun b21 w H=>(CT U U U U H (fun b22 w H=>(Ac U (Ab (Z ?_)))))))))
 replace H:Hd _ _ _ [blk b22 [.int .i64 y.kind,.int .i64 y.sp,.int .i64 y.att,.int .i64 y.part,.int .i64 y.seq,.int .i64 y.next,.int .i64 y.ep,.int .i64 y.why,.slice A11 yse.length c12,.slice A16 ypr.length c17] 49,blk b21 [.int .i64 x.kind,.int .i64 x.sp,.int .i64 x.att,.int .i64 x.part,.int .i64 x.seq,.int .i64 x.next,.int .i64 x.ep,.int .i64 x.why,.slice A1 xse.length c2,.slice A6 xpr.length c7] 49] [Ae (Ai .i64) (.slice A1 xse.length c2) xse,Ae Ag (.slice A6 xpr.length c7) xpr,Ae (Ai .i64) (.slice A11 yse.length c12) yse,Ae Ag (.slice A16 ypr.length c17) ypr]:=H
 refine Aa (Ad (V U U (Aj U Pq U) (V U U (An U AE U (H.cellI 1 U U)) (V U U (Aj U Pq U) (V U U (An U AE U (H.cellI 0 U U)) (V U U (Bg U U U) (Ac U ?_)))))))
 refine AR (d:=11) U (fun h23=>?_) (fun h23=>?_)
 ·refine V U U (Aj U Pr U) (V U U (An U AE U (H.cellI 1 U U)) (V U U (Aj U Pr U) (V U U (An U AE U (H.cellI 0 U U)) (V U U (Bg U U U) (Ah 2 U ?_)))))
  refine AR (d:=18) U (fun h24=>?_) (fun h24=>?_)
  ·refine V U U (Aj U Ps U) (V U U (An U AE U (H.cellI 1 U U)) (V U U (Aj U Ps U) (V U U (An U AE U (H.cellI 0 U U)) (V U U (Bg U U U) (Ah 2 U ?_)))))
   refine AR (d:=25) U (fun h25=>?_) (fun h25=>?_)
   ·refine V U U (Aj U Mb U) (V U U (An U AE U (H.cellI 1 U U)) (V U U (Aj U Mb U) (V U U (An U AE U (H.cellI 0 U U)) (V U U (Bg U U U) (Ah 2 U ?_)))))
    refine AR (d:=32) U (fun h26=>?_) (fun h26=>?_)
    ·refine V U U (Aj U Pt U) (V U U (An U AE U (H.cellI 1 U U)) (V U U (Aj U Pt U) (V U U (An U AE U (H.cellI 0 U U)) (V U U (Bg U U U) (Ah 2 U ?_)))))
     refine AR (d:=39) U (fun h27=>?_) (fun h27=>?_)
     ·refine V U U (Aj U Pu U) (V U U (An U AE U (H.cellI 1 U U)) (V U U (Aj U Pu U) (V U U (An U AE U (H.cellI 0 U U)) (V U U (Bg U U U) (Ah 2 U (Ab (Z (Aa (Ad (Ah 2 U ?_))))))))))
      refine AR (d:=47) U (fun h28=>?_) (fun h28=>?_)
      ·refine V U U (Aj U Pv U) (V U U (An U AE U (H.cellI 1 U U)) (V U U (Aj U Pv U) (V U U (An U AE U (H.cellI 0 U U)) (V U U (Bg U U U) (Ah 2 U ?_)))))
       refine AR (d:=54) U (fun h29=>?_) (fun h29=>?_)
       ·refine V U U (Aj U Pw U) (V U U (An U AE U (H.cellI 1 U U)) (V U U (Aj U Pw U) (V U U (An U AE U (H.cellI 0 U U)) (V U U (Bg U U U) (Ah 2 U ?_)))))
        refine AR (d:=61) U (fun h30=>?_) (fun h30=>?_)
        ·refine V U U (Aj U Mc U) (V U U (An U DY U (H.cellI 1 U U)) (V U U (Aj U Mc U) (V U U (An U DY U (H.cellI 0 U U)) (sc (bY (.slice A1 xse.length c2) (.slice A11 yse.length c12) xse yse) H (lR 0 U (lR 2 U l0)) U U (Av VX U U) ?_))))
         rintro _ _ w ⟨rfl,rfl⟩ H
         refine Ah 2 U ?_
         refine AR (d:=68) U (fun h31=>?_) (fun h31=>?_)
         ·refine V U U (Aj U Md U) (V U U (An U DG U (H.cellI 1 U U)) (V U U (Aj U Md U) (V U U (An U DG U (H.cellI 0 U U)) (sc (b_ (.slice A6 xpr.length c7) (.slice A16 ypr.length c17) xpr ypr) H (lR 1 U (lR 3 U l0)) U U (Av VY U U) ?_))))
          rintro _ _ w ⟨rfl,rfl⟩ H
          refine Ah 2 U (Ab (Z (Am (Aq U U ?_))))
          have e:xpr=ypr↔x.p xse xpr=y.p yse ypr:=⟨fun h=>FU.2 ⟨by assumption,by assumption,by assumption,by assumption,by assumption,by assumption,by assumption,by assumption,by assumption,h⟩,fun h=>(FU.1 h).2.2.2.2.2.2.2.2.2⟩
          replace H:=H.nil
          replace H:Hd _ _ _ [] [Ae (Ai .i64) (.slice A1 xse.length c2) xse,Ae Ag (.slice A6 xpr.length c7) xpr,Ae (Ai .i64) (.slice A11 yse.length c12) yse,Ae Ag (.slice A16 ypr.length c17) ypr]:=H
          exact Al ⟨congrArg Value.bool (decide_eq_decide.2 e),rfl⟩ H
         refine Ah 7 U (Ab (Z (Am (Aq U U ?_))))
         have e:¬ x.p xse xpr=y.p yse ypr:=fun h=>by obtain ⟨g1,g2,g3,g4,g5,g6,g7,g8,g9,g10⟩:=FU.1 h;first |exact absurd g1 h31|exact absurd g2 h31|exact absurd g3 h31|exact absurd g4 h31|exact absurd g5 h31|exact absurd g6 h31|exact absurd g7 h31|exact absurd g8 h31|exact absurd g9 h31|exact absurd g10 h31
         replace H:=H.nil
         replace H:Hd _ _ _ [] [Ae (Ai .i64) (.slice A1 xse.length c2) xse,Ae Ag (.slice A6 xpr.length c7) xpr,Ae (Ai .i64) (.slice A11 yse.length c12) yse,Ae Ag (.slice A16 ypr.length c17) ypr]:=H
         exact Al ⟨congrArg Value.bool (decide_eq_false e).symm,rfl⟩ H
        refine Ah 12 U (Ah 2 U (Ab (Z (Am (Aq U U ?_)))))
        have e:¬ x.p xse xpr=y.p yse ypr:=fun h=>by obtain ⟨g1,g2,g3,g4,g5,g6,g7,g8,g9,g10⟩:=FU.1 h;first |exact absurd g1 h30|exact absurd g2 h30|exact absurd g3 h30|exact absurd g4 h30|exact absurd g5 h30|exact absurd g6 h30|exact absurd g7 h30|exact absurd g8 h30|exact absurd g9 h30|exact absurd g10 h30
        replace H:=H.nil
        exact Al ⟨congrArg Value.bool (decide_eq_false e).symm,rfl⟩ H
       refine Ah 12 U (Ah 9 U (Ab (Z (Am (Aq U U ?_)))))
       have e:¬ x.p xse xpr=y.p yse ypr:=fun h=>by obtain ⟨g1,g2,g3,g4,g5,g6,g7,g8,g9,g10⟩:=FU.1 h;first |exact absurd g1 h29|exact absurd g2 h29|exact absurd g3 h29|exact absurd g4 h29|exact absurd g5 h29|exact absurd g6 h29|exact absurd g7 h29|exact absurd g8 h29|exact absurd g9 h29|exact absurd g10 h29
       replace H:=H.nil
       exact Al ⟨congrArg Value.bool (decide_eq_false e).symm,rfl⟩ H
      refine Ah 12 U (Ah 12 U (Ah 4 U (Ab (Z (Am (Aq U U ?_))))))
      have e:¬ x.p xse xpr=y.p yse ypr:=fun h=>by obtain ⟨g1,g2,g3,g4,g5,g6,g7,g8,g9,g10⟩:=FU.1 h;first |exact absurd g1 h28|exact absurd g2 h28|exact absurd g3 h28|exact absurd g4 h28|exact absurd g5 h28|exact absurd g6 h28|exact absurd g7 h28|exact absurd g8 h28|exact absurd g9 h28|exact absurd g10 h28
      replace H:=H.nil
      exact Al ⟨congrArg Value.bool (decide_eq_false e).symm,rfl⟩ H
     refine Ah 7 U (Ab (Z (Aa (Ad (Ah 12 U (Ah 12 U (Ah 6 U (Ab (Z (Am (Aq U U ?_)))))))))))
     have e:¬ x.p xse xpr=y.p yse ypr:=fun h=>by obtain ⟨g1,g2,g3,g4,g5,g6,g7,g8,g9,g10⟩:=FU.1 h;first |exact absurd g1 h27|exact absurd g2 h27|exact absurd g3 h27|exact absurd g4 h27|exact absurd g5 h27|exact absurd g6 h27|exact absurd g7 h27|exact absurd g8 h27|exact absurd g9 h27|exact absurd g10 h27
     replace H:=H.nil
     exact Al ⟨congrArg Value.bool (decide_eq_false e).symm,rfl⟩ H
    refine Ah 12 U (Ah 2 U (Ab (Z (Aa (Ad (Ah 12 U (Ah 12 U (Ah 6 U (Ab (Z (Am (Aq U U ?_))))))))))))
    have e:¬ x.p xse xpr=y.p yse ypr:=fun h=>by obtain ⟨g1,g2,g3,g4,g5,g6,g7,g8,g9,g10⟩:=FU.1 h;first |exact absurd g1 h26|exact absurd g2 h26|exact absurd g3 h26|exact absurd g4 h26|exact absurd g5 h26|exact absurd g6 h26|exact absurd g7 h26|exact absurd g8 h26|exact absurd g9 h26|exact absurd g10 h26
    replace H:=H.nil
    exact Al ⟨congrArg Value.bool (decide_eq_false e).symm,rfl⟩ H
   refine Ah 12 U (Ah 9 U (Ab (Z (Aa (Ad (Ah 12 U (Ah 12 U (Ah 6 U (Ab (Z (Am (Aq U U ?_))))))))))))
   have e:¬ x.p xse xpr=y.p yse ypr:=fun h=>by obtain ⟨g1,g2,g3,g4,g5,g6,g7,g8,g9,g10⟩:=FU.1 h;first |exact absurd g1 h25|exact absurd g2 h25|exact absurd g3 h25|exact absurd g4 h25|exact absurd g5 h25|exact absurd g6 h25|exact absurd g7 h25|exact absurd g8 h25|exact absurd g9 h25|exact absurd g10 h25
   replace H:=H.nil
   exact Al ⟨congrArg Value.bool (decide_eq_false e).symm,rfl⟩ H
  refine Ah 12 U (Ah 12 U (Ah 4 U (Ab (Z (Aa (Ad (Ah 12 U (Ah 12 U (Ah 6 U (Ab (Z (Am (Aq U U ?_)))))))))))))
  have e:¬ x.p xse xpr=y.p yse ypr:=fun h=>by obtain ⟨g1,g2,g3,g4,g5,g6,g7,g8,g9,g10⟩:=FU.1 h;first |exact absurd g1 h24|exact absurd g2 h24|exact absurd g3 h24|exact absurd g4 h24|exact absurd g5 h24|exact absurd g6 h24|exact absurd g7 h24|exact absurd g8 h24|exact absurd g9 h24|exact absurd g10 h24
  replace H:=H.nil
  exact Al ⟨congrArg Value.bool (decide_eq_false e).symm,rfl⟩ H
 refine Ah 12 U (Ah 12 U (Ah 11 U (Ab (Z (Aa (Ad (Ah 12 U (Ah 12 U (Ah 6 U (Ab (Z (Am (Aq U U ?_)))))))))))))
 have e:¬ x.p xse xpr=y.p yse ypr:=fun h=>by obtain ⟨g1,g2,g3,g4,g5,g6,g7,g8,g9,g10⟩:=FU.1 h;first |exact absurd g1 h23|exact absurd g2 h23|exact absurd g3 h23|exact absurd g4 h23|exact absurd g5 h23|exact absurd g6 h23|exact absurd g7 h23|exact absurd g8 h23|exact absurd g9 h23|exact absurd g10 h23
 replace H:=H.nil
 exact Al ⟨congrArg Value.bool (decide_eq_false e).symm,rfl⟩ H
theorem cJ  :
    Cn Tryz.prog 40 [] [] [] (fun v Bs=>∃ vS:Value,∃ vP:Value,v=.agg #[vS,.int .i64 1,vP,.slice none 0 0,vP,.int .i64 1,.int .i64 1,.int .i64 1,.slice none 0 0,.int .i64 1,.int .i64 2,.int .i64 3]∧Bs=[Y (At Ag) vS [(FW,[])],Y Af vP EG]):=by
 intro w0 F0 H
 refine enter Tryz.func40 U U (Nat.le_of_ble_eq_true U) (Aa (Ad (Dz U U U SR H (fun b1 w H=>(Ab (Z ?_))))))
 replace H:Hd _ _ _ [blk b1 [.slice none 0 0,.int .i64 0,.slice none 0 0,.slice none 0 0,.slice none 0 0,.int .i64 0,.int .i64 0,.int .i64 0,.slice none 0 0,.int .i64 0,.int .i64 0,.int .i64 0] 28] []:=H
 refine Aa (Ad (V U U (Di (parts:=[(0,.const (.int .i64 0))]) (vs:=[.int .i64 0]) (cs:=[.int .i64 0,.int .i64 0,.string ⟨#[]⟩]) U S9 U U) (Cb (parts:=[(0,.tmp 2)]) (vs:=[.agg #[.int .i64 0,.int .i64 0,.string ⟨#[]⟩]]) (cs:=[.int .i64 0,.int .i64 0,.string ⟨#[]⟩]) U U U IV LE U (by decide) (by decide) U U H (fun b2 w H=>?_))))
 replace H:=H.h1 (A:=blk b2 [.int .i64 0,.int .i64 0,.string ⟨#[]⟩] 124)
 refine Ac U (Ab (Z (Aa (Ad (Cb (parts:=[(0,.const (.slice none 0 0))]) (vs:=[.slice none 0 0]) (cs:=[.slice none 0 0]) U U U G8 LG U (by decide) (by decide) U U H (fun b3 w H=>(Ah 2 U (V U U (Di (parts:=[(0,.tmp 4),(1,.const (.int .i64 1)),(2,.tmp 5),(4,.tmp 6),(5,.const (.int .i64 1)),(6,.const (.int .i64 1)),(7,.const (.int .i64 1))]) (vs:=[.slice (some ⟨b3,0,none⟩) 1 1,.int .i64 1,.slice (some ⟨b2,0,none⟩) 1 1,.slice (some ⟨b2,0,none⟩) 1 1,.int .i64 1,.int .i64 1,.int .i64 1]) (cs:=[.slice (some ⟨b3,0,none⟩) 1 1,.int .i64 1,.slice (some ⟨b2,0,none⟩) 1 1,.slice none 0 0,.slice (some ⟨b2,0,none⟩) 1 1,.int .i64 1,.int .i64 1,.int .i64 1,.slice none 0 0]) U Tb U U) (V U U (Di (parts:=[(0,.tmp 7),(1,.const (.int .i64 1)),(2,.const (.int .i64 2)),(3,.const (.int .i64 3))]) (vs:=[.agg #[.slice (some ⟨b3,0,none⟩) 1 1,.int .i64 1,.slice (some ⟨b2,0,none⟩) 1 1,.slice none 0 0,.slice (some ⟨b2,0,none⟩) 1 1,.int .i64 1,.int .i64 1,.int .i64 1,.slice none 0 0],.int .i64 1,.int .i64 2,.int .i64 3]) (cs:=[.slice (some ⟨b3,0,none⟩) 1 1,.int .i64 1,.slice (some ⟨b2,0,none⟩) 1 1,.slice none 0 0,.slice (some ⟨b2,0,none⟩) 1 1,.int .i64 1,.int .i64 1,.int .i64 1,.slice none 0 0,.int .i64 1,.int .i64 2,.int .i64 3]) U Td U U) ?_)))))))))
 replace H:=H.p2
 refine Bx U U U EY U U H U (Nat.le_of_ble_eq_true U) (fun u hu=>by simp [Value.cells] at hu;rcases hu with rfl|rfl|rfl|rfl|rfl|rfl|rfl|rfl|rfl|rfl|rfl|rfl<;>rfl) (fun w H=>?_)
 replace H:Hd _ _ _ [blk b1 [.slice (some ⟨b3,0,none⟩) 1 1,.int .i64 1,.slice (some ⟨b2,0,none⟩) 1 1,.slice none 0 0,.slice (some ⟨b2,0,none⟩) 1 1,.int .i64 1,.int .i64 1,.int .i64 1,.slice none 0 0,.int .i64 1,.int .i64 2,.int .i64 3] 28,blk b3 [.slice none 0 0] 47,blk b2 [.int .i64 0,.int .i64 0,.string ⟨#[]⟩] 124] []:=H
 refine Ab (Z (Am (FB (cs:=[.slice (some ⟨b3,0,none⟩) 1 1,.int .i64 1,.slice (some ⟨b2,0,none⟩) 1 1,.slice none 0 0,.slice (some ⟨b2,0,none⟩) 1 1,.int .i64 1,.int .i64 1,.int .i64 1,.slice none 0 0,.int .i64 1,.int .i64 2,.int .i64 3]) U U EY U (H.cellsI 0 U U) ?_)))
 replace H:=H.p2
 replace H:Hd w0 F0 w [Y Af (.slice (some ⟨b2,0,none⟩) 1 1) EG,blk b1 [.slice (some ⟨b3,0,none⟩) 1 1,.int .i64 1,.slice (some ⟨b2,0,none⟩) 1 1,.slice none 0 0,.slice (some ⟨b2,0,none⟩) 1 1,.int .i64 1,.int .i64 1,.int .i64 1,.slice none 0 0,.int .i64 1,.int .i64 2,.int .i64 3] 28,blk b3 [.slice none 0 0] 47] []:=H.turn (fun F h=>Il h rfl (by decide) rfl)
 replace H:=H.newnil Ag|>.p3|>.k3
 replace H:Hd w0 F0 w [Y DM (.slice (some ⟨b3,0,none⟩) 1 1) (BA ([(FW,[])]:List (Value×List Ap))),Y Ag (.slice none 0 0) [],Y Af (.slice (some ⟨b2,0,none⟩) 1 1) EG] []:=H.turn (fun F h=>Il h rfl (by decide) rfl)
 replace H:=H.p1
 replace H:=Hd.stI (Bs:=[Y Ag (.slice none 0 0) []]) H
 replace H:=H.h1 (A:=Gx Ag ([(FW,[])]:List (Value×List Ap)))|>.p1|>.hdI|>.h1 (A:=Y (At Ag) (.slice (some ⟨b3,0,none⟩) 1 1) [(FW,[])])
 exact Al ⟨(.slice (some ⟨b3,0,none⟩) 1 1),(.slice (some ⟨b2,0,none⟩) 1 1),rfl,rfl⟩ H
theorem QX (b:Nat) (C:Cf) (N:Da) (vl:Value) (ls:List (Bk BB)) (hnb:N.n≤N.b.length∧N.b.length≤1000000) (hlN:ls.length≤10000000∧N.held.length≤10000000):
    Cn Tryz.prog 46 [.pointer (some ⟨b,0,none⟩),vl,.slice none 0 0] [Dm b C N,Y BO vl ls] [] (fun v Bs=>∃ z2:List (Bk BB),Bs=[Y BO v z2,Dm b C (FD N (ls.map BZ))]∧(z2.map BZ=HZ N (ls.map BZ))):=by
 intro w0 F0 H
 obtain ⟨A1,c2,rfl,hc3,hm4,hp5⟩:=H.fA 1 rfl
 replace H:Hd _ _ _ [Dm b C N,Y BO (.slice A1 ls.length c2) ls] []:=H
 obtain ⟨vS6,vM7,vC8,vR9,vK10,J11,d12,hv13,zs14,wb15,⟨hsj16,hzs17⟩,H⟩:=Jv b C N H
 replace H:=H.h9 (A:=blk b [vS6,.int .i64 J11.parts,vM7,vC8,vR9,.int .i64 J11.chunk,.int .i64 J11.window,.int .i64 J11.fuel,vK10,.int .i64 C.w,.int .i64 C.t,.int .i64 C.o,.int .i64 N.id,.bool N.up,.pointer (some ⟨d12,0,none⟩),hv13,.pointer none,.pointer (some ⟨wb15,0,none⟩)] 93) (B:=Y (At Ag) vS6 J11.us) (C:=Y Af vM7 J11.map) (D:=Y Af vC8 J11.comb) (E:=Y Af vR9 J11.red) (F:=Y (Ai .i64) vK10 J11.marks) (G:=BP d12 N.b N.n) (I:=Y BO hv13 zs14) (J:=Ch wb15 (Bw J11 C) N.W)
 obtain ⟨A18,c19,rfl,hc20,hm21,hp22⟩:=H.fA 7 rfl
 have hzl:zs14.length=N.held.length:=by rw [←hzs17,List.length_map]
 replace H:=H.p9
 replace H:=Hd.twO H
 replace H:=H.h2 (A:=Y B8 (.slice A1 ls.length c2) (ls.map A9)) (B:=BC ls)
 have hlfa:(ls.map A9).length=ls.length:=List.length_map ..
 replace H:=H.p9
 replace H:=Hd.twO H
 replace H:=H.h2 (A:=Y B8 (.slice A18 zs14.length c19) (zs14.map A9)) (B:=BC zs14)
 have hlfb:(zs14.map A9).length=zs14.length:=List.length_map ..
 refine enter Tryz.func46 U U (Nat.le_of_ble_eq_true U) (Aa (Ad (Ac U (Ab (Z (Aa (Aa (Ad (Ac U (V U U (Bn U LB U) (Ac U (Ab (Z (AX (B1 (σ:=Nat) (fun k=>[(0,.pointer (some ⟨b,0,none⟩)),(1,.slice A1 ls.length c2),(6,.slice none 0 0),(12,.slice none 0 0),(13,.int .i64 0),(14,.int .i64 ((k:Nat):Int))]) (fun k w=>(Hd w0 F0 w [Y B8 (.slice A18 zs14.length c19) (zs14.map A9),BC zs14,Y B8 (.slice A1 ls.length c2) (ls.map A9),BC ls,blk b [vS6,.int .i64 J11.parts,vM7,vC8,vR9,.int .i64 J11.chunk,.int .i64 J11.window,.int .i64 J11.fuel,vK10,.int .i64 C.w,.int .i64 C.t,.int .i64 C.o,.int .i64 N.id,.bool N.up,.pointer (some ⟨d12,0,none⟩),.slice A18 zs14.length c19,.pointer none,.pointer (some ⟨wb15,0,none⟩)] 93,Y (At Ag) vS6 J11.us,Y Af vM7 J11.map,Y Af vC8 J11.comb,Y Af vR9 J11.red,Y (Ai .i64) vK10 J11.marks,BP d12 N.b N.n,Ch wb15 (Bw J11 C) N.W] [])) (fun k=>0 - k) 0 ⟨rfl,rfl,rfl,rfl,rfl,rfl,trivial⟩ H ?_)))))))))))))))
 rintro k w H
 refine Aa (Ad (V U U (Br U U U) (Ab (Z (Aa ?_)))))
 refine AC U (fun h23=>?_) (fun h23=>?_)
 ·exfalso;omega
 refine BW (A8 (A8 (BX (Z (Aa (Aa (Ad (Ac U (V U U (Bn U Hb U) (Ac U (Ab (Z (AX ?_)))))))))))))
 replace H:Hd _ _ _ [Y B8 (.slice A18 zs14.length c19) (zs14.map A9),BC zs14,Y B8 (.slice A1 ls.length c2) (ls.map A9),BC ls,blk b [vS6,.int .i64 J11.parts,vM7,vC8,vR9,.int .i64 J11.chunk,.int .i64 J11.window,.int .i64 J11.fuel,vK10,.int .i64 C.w,.int .i64 C.t,.int .i64 C.o,.int .i64 N.id,.bool N.up,.pointer (some ⟨d12,0,none⟩),.slice A18 zs14.length c19,.pointer none,.pointer (some ⟨wb15,0,none⟩)] 93,Y (At Ag) vS6 J11.us,Y Af vM7 J11.map,Y Af vC8 J11.comb,Y Af vR9 J11.red,Y (Ai .i64) vK10 J11.marks,BP d12 N.b N.n,Ch wb15 (Bw J11 C) N.W] []:=H
 replace H:Hd w0 F0 w [Y B8 (.slice A18 zs14.length c19) ((zs14++(ls.take 0).map (CJ N.id)).map A9),BC zs14,Y B8 (.slice A1 ls.length c2) (ls.map A9),BC ls,blk b [vS6,.int .i64 J11.parts,vM7,vC8,vR9,.int .i64 J11.chunk,.int .i64 J11.window,.int .i64 J11.fuel,vK10,.int .i64 C.w,.int .i64 C.t,.int .i64 C.o,.int .i64 N.id,.bool N.up,.pointer (some ⟨d12,0,none⟩),.slice A18 zs14.length c19,.pointer none,.pointer (some ⟨wb15,0,none⟩)] 93,Y (At Ag) vS6 J11.us,Y Af vM7 J11.map,Y Af vC8 J11.comb,Y Af vR9 J11.red,Y (Ai .i64) vK10 J11.marks,BP d12 N.b N.n,Ch wb15 (Bw J11 C) N.W] []:=by rw [List.take_zero,List.map_nil,List.append_nil];exact H
 replace H:=H.p3.p3.pick 11 rfl|>.p3|>.pick 11 rfl|>.pick 11 rfl|>.pick 11 rfl|>.pick 11 rfl|>.pick 11 rfl|>.pick 11 rfl|>.pick 11 rfl
 refine B1 (σ:=Nat×Value) (fun (k,q)=>[(0,.pointer (some ⟨b,0,none⟩)),(6,.slice none 0 0),(27,.slice A1 ls.length c2),(28,.int .i64 ((ls.length:Nat):Int)),(29,.int .i64 ((k:Nat):Int))]) (fun (k,q) w=>(Hd w0 F0 w [blk b [vS6,.int .i64 J11.parts,vM7,vC8,vR9,.int .i64 J11.chunk,.int .i64 J11.window,.int .i64 J11.fuel,vK10,.int .i64 C.w,.int .i64 C.t,.int .i64 C.o,.int .i64 N.id,.bool N.up,.pointer (some ⟨d12,0,none⟩),q,.pointer none,.pointer (some ⟨wb15,0,none⟩)] 93,Y (At Ag) vS6 J11.us,Y Af vM7 J11.map,Y Af vC8 J11.comb,Y Af vR9 J11.red,Y (Ai .i64) vK10 J11.marks,BP d12 N.b N.n,Y B8 q ((zs14++(ls.take k).map (CJ N.id)).map A9),Ch wb15 (Bw J11 C) N.W,Y B8 (.slice A1 ls.length c2) (ls.map A9),BC ls,BC zs14] [])∧(k≤(ls.map A9).length)) (fun (k,q)=>(ls.map A9).length - k) (0,.slice A18 zs14.length c19) ⟨rfl,rfl,rfl,rfl,rfl,trivial⟩ ⟨H,Nat.zero_le _⟩ ?_
 rintro ⟨k,q⟩ w ⟨H,hk⟩
 have hlt9:((zs14++(ls.take k).map (CJ N.id)).map A9).length≤zs14.length+k:=by simp only [List.length_map,List.length_append,List.length_take];omega
 refine Aa (Ad (V U U (Br U U U) (Ab (Z (Aa ?_)))))
 refine AC U (fun h24=>?_) (fun h24=>?_)
 ·refine AB (Z (Aa (AX (Aa (Ad ?_)))))
  obtain ⟨x25,hx26⟩:∃ z9,(ls.map A9)[k]?=some z9:=⟨_,List.getElem?_eq_getElem (show k<(ls.map A9).length by omega)⟩
  have th27:=H.thA 9 rfl hx26
  refine V U U (Bi (p:=A_ A1+k*12) U EB U U (by omega) (by omega) th27 U) (V U U (BD (cs:=[.int .i64 x25.h.fr,.int .i64 x25.h.to,.int .i64 x25.h.m.kind,.int .i64 x25.h.m.sp,.int .i64 x25.h.m.att,.int .i64 x25.h.m.part,.int .i64 x25.h.m.seq,.int .i64 x25.h.m.next,.int .i64 x25.h.m.ep,.int .i64 x25.h.m.why,.slice x25.hs.A x25.hs.n x25.hs.c,.slice x25.hp.A x25.hp.n x25.hp.c]) U Ly U U (H.elsA 9 U hx26 U)) (Dz U U U F_ H (fun b28 w H=>(Bx U U U Ly U U H U (Nat.le_of_ble_eq_true U) (fun u hu=>by simp [Value.cells] at hu;rcases hu with rfl|rfl|rfl|rfl|rfl|rfl|rfl|rfl|rfl|rfl|rfl|rfl<;>rfl) (fun w H=>?_)))))
  replace H:=H.h9 (A:=blk b28 [.int .i64 x25.h.fr,.int .i64 x25.h.to,.int .i64 x25.h.m.kind,.int .i64 x25.h.m.sp,.int .i64 x25.h.m.att,.int .i64 x25.h.m.part,.int .i64 x25.h.m.seq,.int .i64 x25.h.m.next,.int .i64 x25.h.m.ep,.int .i64 x25.h.m.why,.slice x25.hs.A x25.hs.n x25.hs.c,.slice x25.hp.A x25.hp.n x25.hp.c] 51) (B:=blk b [vS6,.int .i64 J11.parts,vM7,vC8,vR9,.int .i64 J11.chunk,.int .i64 J11.window,.int .i64 J11.fuel,vK10,.int .i64 C.w,.int .i64 C.t,.int .i64 C.o,.int .i64 N.id,.bool N.up,.pointer (some ⟨d12,0,none⟩),q,.pointer none,.pointer (some ⟨wb15,0,none⟩)] 93) (J:=Y B8 q ((zs14++(ls.take k).map (CJ N.id)).map A9))
  refine Ab (Z (Aa (Ad (Ac U (V U U (AH U U) (V U U (Aj U Mg U) (V U U (An U AE U (H.cellI 1 U U)) (V U U (Aj U Me U) (Bx U U U AE U U H U (Nat.le_of_ble_eq_true U) (fun u hu=>by simp [Value.cells] at hu;subst hu;rfl) (fun w H=>?_))))))))))
  replace H:=H.h1 (A:=blk b28 [.int .i64 N.id,.int .i64 x25.h.to,.int .i64 x25.h.m.kind,.int .i64 x25.h.m.sp,.int .i64 x25.h.m.att,.int .i64 x25.h.m.part,.int .i64 x25.h.m.seq,.int .i64 x25.h.m.next,.int .i64 x25.h.m.ep,.int .i64 x25.h.m.why,.slice x25.hs.A x25.hs.n x25.hs.c,.slice x25.hp.A x25.hp.n x25.hp.c] 51)
  refine Ab (Z ?_)
  replace H:=H.pick 12 rfl|>.pick 12 rfl|>.pick 12 rfl|>.pick 12 rfl|>.pick 11 rfl|>.pick 11 rfl|>.pick 11 rfl|>.pick 11 rfl|>.pick 11 rfl|>.pick 11 rfl|>.pick 10 rfl
  refine Cc (.e 0 (.e 1 (.e 2 (.e 3 (.e 5 (.b 4 6 (.m 6 (.m 7 (.e 8 (.e 9 (.m 10 .z))))) (.m 4 (.m 7 (.e 8 (.e 9 (.m 10 .z))))))))))) (fun w=>∃ Ar,Hd w0 F0 w (blk b28 [.int .i64 N.id,.int .i64 x25.h.to,.int .i64 x25.h.m.kind,.int .i64 x25.h.m.sp,.int .i64 x25.h.m.att,.int .i64 x25.h.m.part,.int .i64 x25.h.m.seq,.int .i64 x25.h.m.next,.int .i64 x25.h.m.ep,.int .i64 x25.h.m.why,.slice x25.hs.A x25.hs.n x25.hs.c,.slice x25.hp.A x25.hp.n x25.hp.c] 51::Y (At Ag) vS6 J11.us::Y Af vM7 J11.map::Y Af vC8 J11.comb::Y Af vR9 J11.red::Y (Ai .i64) vK10 J11.marks::BP d12 N.b N.n::Ch wb15 (Bw J11 C) N.W::Y B8 (.slice A1 ls.length c2) (ls.map A9)::BC ls::BC zs14::Ar) []) mo (by kernel_rfl) (fun w H=>⟨_,H⟩) H (fun w H=>(Au U (Au U (Ao U U U (fun w ⟨Ar,H⟩=>AH U U) (Ao U U U (fun w ⟨Ar,H⟩=>Aj U Ix U) ?_)))))
  refine Ao U U U (fun w ⟨Ar,H⟩=>BD (cs:=[.int .i64 N.id,.int .i64 x25.h.to,.int .i64 x25.h.m.kind,.int .i64 x25.h.m.sp,.int .i64 x25.h.m.att,.int .i64 x25.h.m.part,.int .i64 x25.h.m.seq,.int .i64 x25.h.m.next,.int .i64 x25.h.m.ep,.int .i64 x25.h.m.why,.slice x25.hs.A x25.hs.n x25.hs.c,.slice x25.hp.A x25.hp.n x25.hp.c]) U Ly U U (H.cellsI 0 U U)) ?_
  refine Gu U U ?_ ?_
  ·refine V U U (An U H_ U (H.cellI 11 U U)) (AG ⟨_,H⟩ (AO U (Cb (parts:=[(0,.tmp 43)]) (vs:=[.agg #[.int .i64 N.id,.int .i64 x25.h.to,.int .i64 x25.h.m.kind,.int .i64 x25.h.m.sp,.int .i64 x25.h.m.att,.int .i64 x25.h.m.part,.int .i64 x25.h.m.seq,.int .i64 x25.h.m.next,.int .i64 x25.h.m.ep,.int .i64 x25.h.m.why,.slice x25.hs.A x25.hs.n x25.hs.c,.slice x25.hp.A x25.hp.n x25.hp.c]]) (cs:=[.int .i64 N.id,.int .i64 x25.h.to,.int .i64 x25.h.m.kind,.int .i64 x25.h.m.sp,.int .i64 x25.h.m.att,.int .i64 x25.h.m.part,.int .i64 x25.h.m.seq,.int .i64 x25.h.m.next,.int .i64 x25.h.m.ep,.int .i64 x25.h.m.why,.slice x25.hs.A x25.hs.n x25.hs.c,.slice x25.hp.A x25.hp.n x25.hp.c]) U U U EB F_ U (by decide) (by decide) U U H (fun b29 w H=>?_))))
   replace H:=H.h1 (A:=blk b29 [.int .i64 N.id,.int .i64 x25.h.to,.int .i64 x25.h.m.kind,.int .i64 x25.h.m.sp,.int .i64 x25.h.m.att,.int .i64 x25.h.m.part,.int .i64 x25.h.m.seq,.int .i64 x25.h.m.next,.int .i64 x25.h.m.ep,.int .i64 x25.h.m.why,.slice x25.hs.A x25.hs.n x25.hs.c,.slice x25.hp.A x25.hp.n x25.hp.c] 51)|>.pick 11 rfl|>.pick 11 rfl|>.pick 11 rfl|>.pick 11 rfl|>.pick 11 rfl|>.pick 11 rfl|>.pick 11 rfl|>.pick 11 rfl|>.pick 11 rfl|>.pick 11 rfl|>.pick 11 rfl
   refine AG ⟨_,H⟩ (AO U ?_)
   replace H:=H.pick 13 rfl
   refine CA (xs:=(zs14++(ls.take k).map (CJ N.id)).map A9) (ys:=[(⟨⟨N.id,x25.h.to,⟨x25.h.m.kind,x25.h.m.sp,x25.h.m.att,x25.h.m.part,x25.h.m.seq,x25.h.m.next,x25.h.m.ep,x25.h.m.why⟩⟩,⟨x25.hs.A,x25.hs.n,x25.hs.c⟩,⟨x25.hp.A,x25.hp.n,x25.hp.c⟩⟩:Dg BB)]) U U U EB F_ U (by decide) U U H (by first |omega|(simp only [List.length_append,List.length_cons,List.length_nil,List.length_map];omega)) (fun F hA hR=>Cy (hA _ (List.mem_of_getElem? (i:=11) U)) U (by decide) (Bc.flat_eq.2 U)) (fun v30 w H=>?_)
   replace H:=H.h1 (A:=Y B8 v30 (((zs14++(ls.take k).map (CJ N.id)).map A9)++[(⟨⟨N.id,x25.h.to,⟨x25.h.m.kind,x25.h.m.sp,x25.h.m.att,x25.h.m.part,x25.h.m.seq,x25.h.m.next,x25.h.m.ep,x25.h.m.why⟩⟩,⟨x25.hs.A,x25.hs.n,x25.hs.c⟩,⟨x25.hp.A,x25.hp.n,x25.hp.c⟩⟩:Dg BB)]))|>.pick 11 rfl|>.pick 11 rfl|>.pick 11 rfl|>.pick 11 rfl|>.pick 11 rfl|>.pick 11 rfl|>.pick 11 rfl|>.pick 11 rfl|>.pick 11 rfl|>.pick 11 rfl|>.pick 11 rfl
   refine AG ⟨_,H⟩ (Ao U U U (fun w ⟨Ar,H⟩=>AH U U) (Ao U U U (fun w ⟨Ar,H⟩=>Aj U Ix U) (AO U ?_)))
   obtain ⟨A31,c32,rfl,hc33,hm34,hp35⟩:=H.fA 11 rfl
   replace H:=H.pick 13 rfl
   refine Bx U U U H_ U U H U (Nat.le_of_ble_eq_true U) (fun u hu=>by simp [Value.cells] at hu;subst hu;rfl) (fun w H=>?_)
   replace H:Hd _ _ _ [blk b [vS6,.int .i64 J11.parts,vM7,vC8,vR9,.int .i64 J11.chunk,.int .i64 J11.window,.int .i64 J11.fuel,vK10,.int .i64 C.w,.int .i64 C.t,.int .i64 C.o,.int .i64 N.id,.bool N.up,.pointer (some ⟨d12,0,none⟩),.slice A31 ((((zs14++(ls.take k).map (CJ N.id)).map A9)++[(⟨⟨N.id,x25.h.to,⟨x25.h.m.kind,x25.h.m.sp,x25.h.m.att,x25.h.m.part,x25.h.m.seq,x25.h.m.next,x25.h.m.ep,x25.h.m.why⟩⟩,⟨x25.hs.A,x25.hs.n,x25.hs.c⟩,⟨x25.hp.A,x25.hp.n,x25.hp.c⟩⟩:Dg BB)]).length) c32,.pointer none,.pointer (some ⟨wb15,0,none⟩)] 93,blk b28 [.int .i64 N.id,.int .i64 x25.h.to,.int .i64 x25.h.m.kind,.int .i64 x25.h.m.sp,.int .i64 x25.h.m.att,.int .i64 x25.h.m.part,.int .i64 x25.h.m.seq,.int .i64 x25.h.m.next,.int .i64 x25.h.m.ep,.int .i64 x25.h.m.why,.slice x25.hs.A x25.hs.n x25.hs.c,.slice x25.hp.A x25.hp.n x25.hp.c] 51,Y (At Ag) vS6 J11.us,Y Af vM7 J11.map,Y Af vC8 J11.comb,Y Af vR9 J11.red,Y (Ai .i64) vK10 J11.marks,BP d12 N.b N.n,Ch wb15 (Bw J11 C) N.W,Y B8 (.slice A1 ls.length c2) (ls.map A9),BC ls,BC zs14,Y B8 (.slice A31 ((((zs14++(ls.take k).map (CJ N.id)).map A9)++[(⟨⟨N.id,x25.h.to,⟨x25.h.m.kind,x25.h.m.sp,x25.h.m.att,x25.h.m.part,x25.h.m.seq,x25.h.m.next,x25.h.m.ep,x25.h.m.why⟩⟩,⟨x25.hs.A,x25.hs.n,x25.hs.c⟩,⟨x25.hp.A,x25.hp.n,x25.hp.c⟩⟩:Dg BB)]).length) c32) (((zs14++(ls.take k).map (CJ N.id)).map A9)++[(⟨⟨N.id,x25.h.to,⟨x25.h.m.kind,x25.h.m.sp,x25.h.m.att,x25.h.m.part,x25.h.m.seq,x25.h.m.next,x25.h.m.ep,x25.h.m.why⟩⟩,⟨x25.hs.A,x25.hs.n,x25.hs.c⟩,⟨x25.hp.A,x25.hp.n,x25.hp.c⟩⟩:Dg BB)]),blk b29 [.int .i64 N.id,.int .i64 x25.h.to,.int .i64 x25.h.m.kind,.int .i64 x25.h.m.sp,.int .i64 x25.h.m.att,.int .i64 x25.h.m.part,.int .i64 x25.h.m.seq,.int .i64 x25.h.m.next,.int .i64 x25.h.m.ep,.int .i64 x25.h.m.why,.slice x25.hs.A x25.hs.n x25.hs.c,.slice x25.hp.A x25.hp.n x25.hp.c] 51] []:=H
   replace H:=H.pick 11 rfl|>.pick 11 rfl|>.pick 11 rfl|>.pick 11 rfl|>.pick 11 rfl|>.pick 11 rfl|>.pick 11 rfl|>.pick 11 rfl|>.pick 11 rfl|>.pick 11 rfl|>.pick 11 rfl
   refine AG ⟨_,H⟩ (BN (Bb (Z (Ad (V U U (Be (z:=((k+1:Nat):Int)) U U U (by rw [AI (by omega) (by omega)];omega)) (Ac U (Ab ?_)))))))
   replace H:=H.pick 10 rfl|>.pick 10 rfl|>.pick 10 rfl|>.pick 10 rfl|>.pick 12 rfl|>.pick 11 rfl|>.pick 11 rfl|>.pick 11 rfl|>.pick 11 rfl|>.pick 11 rfl|>.pick 11 rfl|>.pick 12 rfl|>.keep 12
   obtain ⟨m9,hm9,hxe9⟩:=QG hx26
   replace H:=H.p7.tellK (ys:=(zs14++(ls.take (k+1)).map (CJ N.id)).map A9) (by rw [KH hm9,←List.append_assoc,List.map_append,hxe9];rfl)|>.sel 12 [1,2,3,4,5,6,7,0,8,9,10,11] [] rfl (by kernel_rfl)
   replace H:Hd _ _ _ [blk b [vS6,.int .i64 J11.parts,vM7,vC8,vR9,.int .i64 J11.chunk,.int .i64 J11.window,.int .i64 J11.fuel,vK10,.int .i64 C.w,.int .i64 C.t,.int .i64 C.o,.int .i64 N.id,.bool N.up,.pointer (some ⟨d12,0,none⟩),.slice A31 ((((zs14++(ls.take k).map (CJ N.id)).map A9)++[(⟨⟨N.id,x25.h.to,⟨x25.h.m.kind,x25.h.m.sp,x25.h.m.att,x25.h.m.part,x25.h.m.seq,x25.h.m.next,x25.h.m.ep,x25.h.m.why⟩⟩,⟨x25.hs.A,x25.hs.n,x25.hs.c⟩,⟨x25.hp.A,x25.hp.n,x25.hp.c⟩⟩:Dg BB)]).length) c32,.pointer none,.pointer (some ⟨wb15,0,none⟩)] 93,Y (At Ag) vS6 J11.us,Y Af vM7 J11.map,Y Af vC8 J11.comb,Y Af vR9 J11.red,Y (Ai .i64) vK10 J11.marks,BP d12 N.b N.n,Y B8 (.slice A31 ((((zs14++(ls.take k).map (CJ N.id)).map A9)++[(⟨⟨N.id,x25.h.to,⟨x25.h.m.kind,x25.h.m.sp,x25.h.m.att,x25.h.m.part,x25.h.m.seq,x25.h.m.next,x25.h.m.ep,x25.h.m.why⟩⟩,⟨x25.hs.A,x25.hs.n,x25.hs.c⟩,⟨x25.hp.A,x25.hp.n,x25.hp.c⟩⟩:Dg BB)]).length) c32) ((zs14++(ls.take (k+1)).map (CJ N.id)).map A9),Ch wb15 (Bw J11 C) N.W,Y B8 (.slice A1 ls.length c2) (ls.map A9),BC ls,BC zs14] []:=H
   exact Bo (s:=(k,undef)) (k+1,.slice A31 ((((zs14++(ls.take k).map (CJ N.id)).map A9)++[(⟨⟨N.id,x25.h.to,⟨x25.h.m.kind,x25.h.m.sp,x25.h.m.att,x25.h.m.part,x25.h.m.seq,x25.h.m.next,x25.h.m.ep,x25.h.m.why⟩⟩,⟨x25.hs.A,x25.hs.n,x25.hs.c⟩,⟨x25.hp.A,x25.hp.n,x25.hp.c⟩⟩:Dg BB)]).length) c32) ⟨rfl,rfl,rfl,rfl,rfl,trivial⟩ ⟨H,by (try dsimp only);omega⟩ (by (try dsimp only);omega)
  refine Cb (parts:=[(0,.tmp 43)]) (vs:=[.agg #[.int .i64 N.id,.int .i64 x25.h.to,.int .i64 x25.h.m.kind,.int .i64 x25.h.m.sp,.int .i64 x25.h.m.att,.int .i64 x25.h.m.part,.int .i64 x25.h.m.seq,.int .i64 x25.h.m.next,.int .i64 x25.h.m.ep,.int .i64 x25.h.m.why,.slice x25.hs.A x25.hs.n x25.hs.c,.slice x25.hp.A x25.hp.n x25.hp.c]]) (cs:=[.int .i64 N.id,.int .i64 x25.h.to,.int .i64 x25.h.m.kind,.int .i64 x25.h.m.sp,.int .i64 x25.h.m.att,.int .i64 x25.h.m.part,.int .i64 x25.h.m.seq,.int .i64 x25.h.m.next,.int .i64 x25.h.m.ep,.int .i64 x25.h.m.why,.slice x25.hs.A x25.hs.n x25.hs.c,.slice x25.hp.A x25.hp.n x25.hp.c]) U U U EB F_ U (by decide) (by decide) U U H (fun b36 w H=>?_)
  replace H:=H.h1 (A:=blk b36 [.int .i64 N.id,.int .i64 x25.h.to,.int .i64 x25.h.m.kind,.int .i64 x25.h.m.sp,.int .i64 x25.h.m.att,.int .i64 x25.h.m.part,.int .i64 x25.h.m.seq,.int .i64 x25.h.m.next,.int .i64 x25.h.m.ep,.int .i64 x25.h.m.why,.slice x25.hs.A x25.hs.n x25.hs.c,.slice x25.hp.A x25.hp.n x25.hp.c] 51)|>.pick 11 rfl|>.pick 11 rfl|>.pick 11 rfl|>.pick 11 rfl|>.pick 11 rfl|>.pick 11 rfl|>.pick 11 rfl|>.pick 11 rfl|>.pick 11 rfl|>.pick 11 rfl|>.pick 11 rfl
  refine AG ⟨_,H⟩ (AO U (V U U (An U H_ U (H.cellI 12 U U)) (AG ⟨_,H⟩ (AO U ?_))))
  replace H:=H.pick 13 rfl
  refine CA (xs:=(zs14++(ls.take k).map (CJ N.id)).map A9) (ys:=[(⟨⟨N.id,x25.h.to,⟨x25.h.m.kind,x25.h.m.sp,x25.h.m.att,x25.h.m.part,x25.h.m.seq,x25.h.m.next,x25.h.m.ep,x25.h.m.why⟩⟩,⟨x25.hs.A,x25.hs.n,x25.hs.c⟩,⟨x25.hp.A,x25.hp.n,x25.hp.c⟩⟩:Dg BB)]) U U U EB F_ U (by decide) U U H (by first |omega|(simp only [List.length_append,List.length_cons,List.length_nil,List.length_map];omega)) (fun F hA hR=>Cy (hA _ (List.mem_of_getElem? (i:=11) U)) U (by decide) (Bc.flat_eq.2 U)) (fun v37 w H=>?_)
  replace H:=H.h1 (A:=Y B8 v37 (((zs14++(ls.take k).map (CJ N.id)).map A9)++[(⟨⟨N.id,x25.h.to,⟨x25.h.m.kind,x25.h.m.sp,x25.h.m.att,x25.h.m.part,x25.h.m.seq,x25.h.m.next,x25.h.m.ep,x25.h.m.why⟩⟩,⟨x25.hs.A,x25.hs.n,x25.hs.c⟩,⟨x25.hp.A,x25.hp.n,x25.hp.c⟩⟩:Dg BB)]))|>.pick 11 rfl|>.pick 11 rfl|>.pick 11 rfl|>.pick 11 rfl|>.pick 11 rfl|>.pick 11 rfl|>.pick 11 rfl|>.pick 11 rfl|>.pick 11 rfl|>.pick 11 rfl|>.pick 11 rfl
  refine AG ⟨_,H⟩ (Ao U U U (fun w ⟨Ar,H⟩=>AH U U) (Ao U U U (fun w ⟨Ar,H⟩=>Aj U Ix U) (AO U ?_)))
  obtain ⟨A38,c39,rfl,hc40,hm41,hp42⟩:=H.fA 11 rfl
  replace H:=H.pick 13 rfl
  refine Bx U U U H_ U U H U (Nat.le_of_ble_eq_true U) (fun u hu=>by simp [Value.cells] at hu;subst hu;rfl) (fun w H=>?_)
  replace H:Hd _ _ _ [blk b [vS6,.int .i64 J11.parts,vM7,vC8,vR9,.int .i64 J11.chunk,.int .i64 J11.window,.int .i64 J11.fuel,vK10,.int .i64 C.w,.int .i64 C.t,.int .i64 C.o,.int .i64 N.id,.bool N.up,.pointer (some ⟨d12,0,none⟩),.slice A38 ((((zs14++(ls.take k).map (CJ N.id)).map A9)++[(⟨⟨N.id,x25.h.to,⟨x25.h.m.kind,x25.h.m.sp,x25.h.m.att,x25.h.m.part,x25.h.m.seq,x25.h.m.next,x25.h.m.ep,x25.h.m.why⟩⟩,⟨x25.hs.A,x25.hs.n,x25.hs.c⟩,⟨x25.hp.A,x25.hp.n,x25.hp.c⟩⟩:Dg BB)]).length) c39,.pointer none,.pointer (some ⟨wb15,0,none⟩)] 93,blk b28 [.int .i64 N.id,.int .i64 x25.h.to,.int .i64 x25.h.m.kind,.int .i64 x25.h.m.sp,.int .i64 x25.h.m.att,.int .i64 x25.h.m.part,.int .i64 x25.h.m.seq,.int .i64 x25.h.m.next,.int .i64 x25.h.m.ep,.int .i64 x25.h.m.why,.slice x25.hs.A x25.hs.n x25.hs.c,.slice x25.hp.A x25.hp.n x25.hp.c] 51,Y (At Ag) vS6 J11.us,Y Af vM7 J11.map,Y Af vC8 J11.comb,Y Af vR9 J11.red,Y (Ai .i64) vK10 J11.marks,BP d12 N.b N.n,Ch wb15 (Bw J11 C) N.W,Y B8 (.slice A1 ls.length c2) (ls.map A9),BC ls,BC zs14,Y B8 (.slice A38 ((((zs14++(ls.take k).map (CJ N.id)).map A9)++[(⟨⟨N.id,x25.h.to,⟨x25.h.m.kind,x25.h.m.sp,x25.h.m.att,x25.h.m.part,x25.h.m.seq,x25.h.m.next,x25.h.m.ep,x25.h.m.why⟩⟩,⟨x25.hs.A,x25.hs.n,x25.hs.c⟩,⟨x25.hp.A,x25.hp.n,x25.hp.c⟩⟩:Dg BB)]).length) c39) (((zs14++(ls.take k).map (CJ N.id)).map A9)++[(⟨⟨N.id,x25.h.to,⟨x25.h.m.kind,x25.h.m.sp,x25.h.m.att,x25.h.m.part,x25.h.m.seq,x25.h.m.next,x25.h.m.ep,x25.h.m.why⟩⟩,⟨x25.hs.A,x25.hs.n,x25.hs.c⟩,⟨x25.hp.A,x25.hp.n,x25.hp.c⟩⟩:Dg BB)]),blk b36 [.int .i64 N.id,.int .i64 x25.h.to,.int .i64 x25.h.m.kind,.int .i64 x25.h.m.sp,.int .i64 x25.h.m.att,.int .i64 x25.h.m.part,.int .i64 x25.h.m.seq,.int .i64 x25.h.m.next,.int .i64 x25.h.m.ep,.int .i64 x25.h.m.why,.slice x25.hs.A x25.hs.n x25.hs.c,.slice x25.hp.A x25.hp.n x25.hp.c] 51] []:=H
  replace H:=H.pick 11 rfl|>.pick 11 rfl|>.pick 11 rfl|>.pick 11 rfl|>.pick 11 rfl|>.pick 11 rfl|>.pick 11 rfl|>.pick 11 rfl|>.pick 11 rfl|>.pick 11 rfl|>.pick 11 rfl
  refine AG ⟨_,H⟩ (BN (Bb (Z (Ad (V U U (Be (z:=((k+1:Nat):Int)) U U U (by rw [AI (by omega) (by omega)];omega)) (Ac U (Ab ?_)))))))
  replace H:=H.pick 10 rfl|>.pick 10 rfl|>.pick 10 rfl|>.pick 10 rfl|>.pick 12 rfl|>.pick 11 rfl|>.pick 11 rfl|>.pick 11 rfl|>.pick 11 rfl|>.pick 11 rfl|>.pick 11 rfl|>.pick 12 rfl|>.keep 12
  obtain ⟨m9,hm9,hxe9⟩:=QG hx26
  replace H:=H.p7.tellK (ys:=(zs14++(ls.take (k+1)).map (CJ N.id)).map A9) (by rw [KH hm9,←List.append_assoc,List.map_append,hxe9];rfl)|>.sel 12 [1,2,3,4,5,6,7,0,8,9,10,11] [] rfl (by kernel_rfl)
  replace H:Hd _ _ _ [blk b [vS6,.int .i64 J11.parts,vM7,vC8,vR9,.int .i64 J11.chunk,.int .i64 J11.window,.int .i64 J11.fuel,vK10,.int .i64 C.w,.int .i64 C.t,.int .i64 C.o,.int .i64 N.id,.bool N.up,.pointer (some ⟨d12,0,none⟩),.slice A38 ((((zs14++(ls.take k).map (CJ N.id)).map A9)++[(⟨⟨N.id,x25.h.to,⟨x25.h.m.kind,x25.h.m.sp,x25.h.m.att,x25.h.m.part,x25.h.m.seq,x25.h.m.next,x25.h.m.ep,x25.h.m.why⟩⟩,⟨x25.hs.A,x25.hs.n,x25.hs.c⟩,⟨x25.hp.A,x25.hp.n,x25.hp.c⟩⟩:Dg BB)]).length) c39,.pointer none,.pointer (some ⟨wb15,0,none⟩)] 93,Y (At Ag) vS6 J11.us,Y Af vM7 J11.map,Y Af vC8 J11.comb,Y Af vR9 J11.red,Y (Ai .i64) vK10 J11.marks,BP d12 N.b N.n,Y B8 (.slice A38 ((((zs14++(ls.take k).map (CJ N.id)).map A9)++[(⟨⟨N.id,x25.h.to,⟨x25.h.m.kind,x25.h.m.sp,x25.h.m.att,x25.h.m.part,x25.h.m.seq,x25.h.m.next,x25.h.m.ep,x25.h.m.why⟩⟩,⟨x25.hs.A,x25.hs.n,x25.hs.c⟩,⟨x25.hp.A,x25.hp.n,x25.hp.c⟩⟩:Dg BB)]).length) c39) ((zs14++(ls.take (k+1)).map (CJ N.id)).map A9),Ch wb15 (Bw J11 C) N.W,Y B8 (.slice A1 ls.length c2) (ls.map A9),BC ls,BC zs14] []:=H
  exact Bo (s:=(k,undef)) (k+1,.slice A38 ((((zs14++(ls.take k).map (CJ N.id)).map A9)++[(⟨⟨N.id,x25.h.to,⟨x25.h.m.kind,x25.h.m.sp,x25.h.m.att,x25.h.m.part,x25.h.m.seq,x25.h.m.next,x25.h.m.ep,x25.h.m.why⟩⟩,⟨x25.hs.A,x25.hs.n,x25.hs.c⟩,⟨x25.hp.A,x25.hp.n,x25.hp.c⟩⟩:Dg BB)]).length) c39) ⟨rfl,rfl,rfl,rfl,rfl,trivial⟩ ⟨H,by (try dsimp only);omega⟩ (by (try dsimp only);omega)
 refine BW (A8 (A8 (BX (Z (Aa (Aa (Ad (Ac U (V U U (AH U U) (V U U (Aj U Iw U) (V U U (An U I0 U (H.cellI 0 U U)) ?_)))))))))))
 replace H:=H.p6.h8 (B:=blk b [vS6,.int .i64 J11.parts,vM7,vC8,vR9,.int .i64 J11.chunk,.int .i64 J11.window,.int .i64 J11.fuel,vK10,.int .i64 C.w,.int .i64 C.t,.int .i64 C.o,.int .i64 N.id,.bool N.up,.pointer (some ⟨d12,0,none⟩),q,.pointer none,.pointer (some ⟨wb15,0,none⟩)] 93) (I:=Y B8 q ((zs14++(ls.take k).map (CJ N.id)).map A9))
 refine sc (Uh d12 N.b N.n (by first |assumption|omega)) H l0 U U (Av Ww U U) ?_
 rintro _ _ w ⟨rfl,rfl⟩ H
 refine V U U (CW U U U) (Ab (Z ?_))
 refine AC U (fun h43=>?_) (fun h43=>?_)
 ·refine Aa (Ad (Ac U (Ab (Z (Am (Az (Aq U U ?_)))))))
  replace H:Hd w0 F0 w [BP d12 N.b N.n,blk b [vS6,.int .i64 J11.parts,vM7,vC8,vR9,.int .i64 J11.chunk,.int .i64 J11.window,.int .i64 J11.fuel,vK10,.int .i64 C.w,.int .i64 C.t,.int .i64 C.o,.int .i64 N.id,.bool N.up,.pointer (some ⟨d12,0,none⟩),q,.pointer none,.pointer (some ⟨wb15,0,none⟩)] 93,Y (At Ag) vS6 J11.us,Y Af vM7 J11.map,Y Af vC8 J11.comb,Y Af vR9 J11.red,Y (Ai .i64) vK10 J11.marks,Y B8 q ((zs14++ls.map (CJ N.id)).map A9),Ch wb15 (Bw J11 C) N.W,Y B8 (.slice A1 ls.length c2) (ls.map A9),BC ls,BC zs14] []:=by rw [List.take_of_length_le (l:=ls) (by omega)] at H;exact H
  replace H:=H.p6.p6.p6.p6.p6.p6.p7.pick 10 rfl|>.pick 11 rfl|>.keep 11
  rw [←So N.id ls] at H
  replace H:=NA H
  replace H:Hd _ _ _ [BC (zs14++ls.map (CJ N.id)),Y B8 q ((zs14++ls.map (CJ N.id)).map A9),blk b [vS6,.int .i64 J11.parts,vM7,vC8,vR9,.int .i64 J11.chunk,.int .i64 J11.window,.int .i64 J11.fuel,vK10,.int .i64 C.w,.int .i64 C.t,.int .i64 C.o,.int .i64 N.id,.bool N.up,.pointer (some ⟨d12,0,none⟩),q,.pointer none,.pointer (some ⟨wb15,0,none⟩)] 93,Y (At Ag) vS6 J11.us,Y Af vM7 J11.map,Y Af vC8 J11.comb,Y Af vR9 J11.red,Y (Ai .i64) vK10 J11.marks,BP d12 N.b N.n,Ch wb15 (Bw J11 C) N.W] []:=H
  replace H:=H.p1
  replace H:=Hd.twI H
  replace H:=H.h1 (A:=Y BO q (zs14++ls.map (CJ N.id)))
  have hzm:(zs14++ls.map (CJ N.id)).map BZ=N.held++(ls.map BZ).map (GX N.id):=by rw [List.map_append,hzs17,PC]
  have e:FD N (ls.map BZ)=({ N with held:=N.held++(ls.map BZ).map (GX N.id) }:Da):=if_pos (by omega)
  have eo:HZ N (ls.map BZ)=[]:=if_pos (by omega)
  replace H:=H.p7.p7.p7.p7.p7.p7.p7
  replace H:=IG b C ({ N with held:=N.held++(ls.map BZ).map (GX N.id) }:Da) vS6 vM7 vC8 vR9 vK10 J11 d12 q (zs14++ls.map (CJ N.id)) wb15 ⟨hsj16,hzm⟩ H
  replace H:=H.h1 (A:=Dm b C ({ N with held:=N.held++(ls.map BZ).map (GX N.id) }:Da))|>.newnil BO
  exact Al ⟨[],by rw [e]<;>rfl,eo.symm⟩ H
 refine AB (Z (Aa (Ad (Ac U (V U U (AH U U) (V U U (Aj U Ix U) (V U U (An U H_ U (H.cellI 1 U U)) (Ac U (Ab (Z (Aa (Ad (Ac U (V U U (AH U U) (V U U (Aj U Ix U) ?_)))))))))))))))
 replace H:=H.p1
 refine Bx U U U H_ U U H U (Nat.le_of_ble_eq_true U) (fun u hu=>by simp [Value.cells] at hu;subst hu;rfl) (fun w H=>?_)
 replace H:=H.h1 (A:=blk b [vS6,.int .i64 J11.parts,vM7,vC8,vR9,.int .i64 J11.chunk,.int .i64 J11.window,.int .i64 J11.fuel,vK10,.int .i64 C.w,.int .i64 C.t,.int .i64 C.o,.int .i64 N.id,.bool N.up,.pointer (some ⟨d12,0,none⟩),.slice none 0 0,.pointer none,.pointer (some ⟨wb15,0,none⟩)] 93)
 refine Ab (Z (Aa (Ad (Ah 2 U (Ab (Z (Am (Aq U U ?_))))))))
 replace H:Hd w0 F0 w [blk b [vS6,.int .i64 J11.parts,vM7,vC8,vR9,.int .i64 J11.chunk,.int .i64 J11.window,.int .i64 J11.fuel,vK10,.int .i64 C.w,.int .i64 C.t,.int .i64 C.o,.int .i64 N.id,.bool N.up,.pointer (some ⟨d12,0,none⟩),.slice none 0 0,.pointer none,.pointer (some ⟨wb15,0,none⟩)] 93,BP d12 N.b N.n,Y (At Ag) vS6 J11.us,Y Af vM7 J11.map,Y Af vC8 J11.comb,Y Af vR9 J11.red,Y (Ai .i64) vK10 J11.marks,Y B8 q ((zs14++ls.map (CJ N.id)).map A9),Ch wb15 (Bw J11 C) N.W,Y B8 (.slice A1 ls.length c2) (ls.map A9),BC ls,BC zs14] []:=by rw [List.take_of_length_le (l:=ls) (by omega)] at H;exact H
 replace H:=H.p6.p6.p6.p6.p6.p5.p7.pick 10 rfl|>.pick 11 rfl|>.keep 11
 rw [←So N.id ls] at H
 replace H:=NA H
 replace H:Hd _ _ _ [BC (zs14++ls.map (CJ N.id)),Y B8 q ((zs14++ls.map (CJ N.id)).map A9),blk b [vS6,.int .i64 J11.parts,vM7,vC8,vR9,.int .i64 J11.chunk,.int .i64 J11.window,.int .i64 J11.fuel,vK10,.int .i64 C.w,.int .i64 C.t,.int .i64 C.o,.int .i64 N.id,.bool N.up,.pointer (some ⟨d12,0,none⟩),.slice none 0 0,.pointer none,.pointer (some ⟨wb15,0,none⟩)] 93,Y (At Ag) vS6 J11.us,Y Af vM7 J11.map,Y Af vC8 J11.comb,Y Af vR9 J11.red,Y (Ai .i64) vK10 J11.marks,BP d12 N.b N.n,Ch wb15 (Bw J11 C) N.W] []:=H
 replace H:=H.p1
 replace H:=Hd.twI H
 replace H:=H.h1 (A:=Y BO q (zs14++ls.map (CJ N.id)))
 have hzm:(zs14++ls.map (CJ N.id)).map BZ=N.held++(ls.map BZ).map (GX N.id):=by rw [List.map_append,hzs17,PC]
 have e:FD N (ls.map BZ)=({ N with held:=[] }:Da):=if_neg (by omega)
 have eo:HZ N (ls.map BZ)=N.held++(ls.map BZ).map (GX N.id):=if_neg (by omega)
 replace H:=H.newnil BO|>.p9|>.p1|>.p9|>.p9|>.p9|>.p9|>.p9|>.p9|>.p9
 replace H:=IG b C ({ N with held:=[] }:Da) vS6 vM7 vC8 vR9 vK10 J11 d12 (.slice none 0 0) [] wb15 ⟨hsj16,rfl⟩ H
 replace H:=H.h1 (A:=Dm b C ({ N with held:=[] }:Da))|>.p1
 exact Al ⟨(zs14++ls.map (CJ N.id)),by rw [e]<;>rfl,hzm.trans eo.symm⟩ H
theorem Ye (b:Nat) (C:Cf) (N:Da) (hup:N.up=true) (hnb:N.n≤N.b.length∧N.b.length≤1000000) (hhl:N.held.length≤10000000):
    Cn Tryz.prog 15 [.pointer (some ⟨b,0,none⟩)] [Dm b C N] [] (fun v Bs=>∃ z2:List (Bk BB),Bs=[Y BO v z2,Dm b C (Iu N)]∧(z2.map BZ=N.held)):=by
 intro w0 F0 H
 obtain ⟨vS1,vM2,vC3,vR4,vK5,J6,d7,hv8,zs9,wb10,⟨hsj11,hzs12⟩,H⟩:=Jv b C N H
 replace H:Hd _ _ _ [blk b [vS1,.int .i64 J6.parts,vM2,vC3,vR4,.int .i64 J6.chunk,.int .i64 J6.window,.int .i64 J6.fuel,vK5,.int .i64 C.w,.int .i64 C.t,.int .i64 C.o,.int .i64 N.id,.bool N.up,.pointer (some ⟨d7,0,none⟩),hv8,.pointer none,.pointer (some ⟨wb10,0,none⟩)] 93,Y (At Ag) vS1 J6.us,Y Af vM2 J6.map,Y Af vC3 J6.comb,Y Af vR4 J6.red,Y (Ai .i64) vK5 J6.marks,BP d7 N.b N.n,Y BO hv8 zs9,Ch wb10 (Bw J6 C) N.W] []:=H
 obtain ⟨A13,c14,rfl,hc15,hm16,hp17⟩:=H.fA 7 rfl
 refine enter Tryz.func15 U U (Nat.le_of_ble_eq_true U) (Aa (Ad (Ac U (Ab (Z (Aa (Aa (Ad (Ac U (sc (QY b vS1 vM2 vC3 vR4 vK5 J6 C N.id N.up d7 (.slice A13 zs9.length c14) wb10) H (lA 0 U (fun _ h=>h) l0) U U (Av HT U U) ?_))))))))))
 rintro _ _ w ⟨rfl,rfl⟩ H
 refine V U U (Ek U U U) (Ab (Z ?_))
 refine Dx (b:=!N.up) U (fun h18=>?_) (fun h18=>?_)
 ·exact absurd h18 (by rw [hup];decide)
 refine AB (Z (Aa (Ad (Ac U (V U U (AH U U) (V U U (Aj U FQ U) (V U U (Aj U Iw U) (V U U (An U I0 U (H.cellI 0 U U)) ?_))))))))
 replace H:=H.p6
 refine sc (Uf d7 N.b N.n) H l0 U U (Av Xi U U) ?_
 rintro _ _ w ⟨rfl,rfl⟩ H
 replace H:=H.h1 (A:=BP d7 N.b N.b.length)|>.p6|>.p6|>.p6|>.p6|>.p6|>.p6
 replace H:=IG b C (Gk N) vS1 vM2 vC3 vR4 vK5 J6 d7 (.slice A13 zs9.length c14) zs9 wb10 ⟨hsj11,hzs12⟩ H
 replace H:=H.h1 (A:=Dm b C (Gk N))
 refine Ab (Z (Aa (Ad (Ac U (V U U (AH U U) (V U U (Aj U FQ U) ?_))))))
 have hnb2:(Gk N).n≤(Gk N).b.length∧(Gk N).b.length≤1000000:=⟨Nat.le_refl _,hnb.2⟩
 have hlN2:([]:List (Bk BB)).length≤10000000∧(Gk N).held.length≤10000000:=⟨Nat.zero_le _,hhl⟩
 replace H:=H.newnil BO|>.p1
 refine sc (QX b C (Gk N) (.slice none 0 0) [] (by first |assumption|omega) (by first |assumption|omega)) H l0 U U (Av Ql U U) ?_
 rintro v21 _ w ⟨z19,rfl,hf20⟩ H
 replace H:=H.h2 (A:=Y BO v21 z19) (B:=Dm b C (FD (Gk N) ([].map BZ)))
 rw [show FD (Gk N) (([]:List (Bk BB)).map BZ)=Iu N from UQ N] at H
 replace H:Hd _ _ _ [Y BO v21 z19,Dm b C (Iu N)] []:=H
 have hfl:=(hf20).trans (UP N)
 exact Ac U (Ab (Z (Am (Aq U U (Al ⟨z19,rfl,hfl⟩ H)))))
theorem Ra (b:Nat) (J:AS) (M:Cu):Cn Tryz.prog 137 [.pointer (some ⟨b,0,none⟩)] [C8 b J M] [] (fun v Bs=>v=.int .i64 ((AZ dg J M.sp).2)∧Bs=[C8 b J M]):=by
 intro w0 F0 H
 obtain ⟨vS,vM,vC,vR,vK,J2,cw,ct,co,cb,fv,vw,ws,⟨hsj,hws⟩,H⟩:=MJ b J M H
 have H1:Hd w0 F0 w0 ([blk cb [.int .u32 1,.int .i32 0,.int .u32 0,.int .u32 1,fv,.string (BE (AZ dg J2 M.sp).1)] 305]++[blk b [vS,.int .i64 J2.parts,vM,vC,vR,.int .i64 J2.chunk,.int .i64 J2.window,.int .i64 J2.fuel,vK,.int .i64 cw,.int .i64 ct,.int .i64 co,.int .i64 ((M.sp:Nat):Int),.int .i64 M.att,.int .i64 ((AZ dg J2 M.sp).2),.pointer (some ⟨cb,0,none⟩),vw] 215,Y (At Ag) vS J2.us,Y Af vM J2.map,Y Af vC J2.comb,Y Af vR J2.red,Y (Ai .i64) vK J2.marks,Y Ds vw (ws.map Prod.fst),BK (Dj 279) ws]) []:=H.pick 1 rfl
 refine (Im (QM b vS vM vC vR vK J2 cw ct co M.sp M.att cb fv vw ) H1 (lA 0 U (fun _ h=>h) l0)).mono ?_
 rintro e w ⟨v,rfl,Bs,⟨rfl,rfl⟩,H⟩
 replace H:Hd w0 F0 w [blk cb [.int .u32 1,.int .i32 0,.int .u32 0,.int .u32 1,fv,.string (BE (AZ dg J2 M.sp).1)] 305,blk b [vS,.int .i64 J2.parts,vM,vC,vR,.int .i64 J2.chunk,.int .i64 J2.window,.int .i64 J2.fuel,vK,.int .i64 cw,.int .i64 ct,.int .i64 co,.int .i64 ((M.sp:Nat):Int),.int .i64 M.att,.int .i64 ((AZ dg J2 M.sp).2),.pointer (some ⟨cb,0,none⟩),vw] 215,Y (At Ag) vS J2.us,Y Af vM J2.map,Y Af vC J2.comb,Y Af vR J2.red,Y (Ai .i64) vK J2.marks,Y Ds vw (ws.map Prod.fst),BK (Dj 279) ws] []:=H
 replace H:=H.p1
 have e:=hsj.split dg M.sp
 exact ⟨_,rfl,_,⟨by rw [e],rfl⟩,MK b J M vS vM vC vR vK J2 cw ct co cb fv vw ws ⟨hsj,hws⟩ (As:=[]) H⟩
theorem Q_ (b:Nat) (J:AS) (M:Cu) (hJ:Df J):Cn Tryz.prog 136 [.pointer (some ⟨b,0,none⟩)] [C8 b J M] [] (fun v Bs=>Bs=[Y (Ai .i64) v (CU dg J M.sp M.att),C8 b J M]):=by
 intro w0 F0 H
 obtain ⟨vS,vM,vC,vR,vK,J2,cw,ct,co,cb,fv,vw,ws,⟨hsj,hws⟩,H⟩:=MJ b J M H
 have H1:Hd w0 F0 w0 ([blk cb [.int .u32 1,.int .i32 0,.int .u32 0,.int .u32 1,fv,.string (BE (AZ dg J2 M.sp).1)] 305]++[blk b [vS,.int .i64 J2.parts,vM,vC,vR,.int .i64 J2.chunk,.int .i64 J2.window,.int .i64 J2.fuel,vK,.int .i64 cw,.int .i64 ct,.int .i64 co,.int .i64 ((M.sp:Nat):Int),.int .i64 M.att,.int .i64 ((AZ dg J2 M.sp).2),.pointer (some ⟨cb,0,none⟩),vw] 215,Y (At Ag) vS J2.us,Y Af vM J2.map,Y Af vC J2.comb,Y Af vR J2.red,Y (Ai .i64) vK J2.marks,Y Ds vw (ws.map Prod.fst),BK (Dj 279) ws]) []:=H.pick 1 rfl
 refine (Im (XP b vS vM vC vR vK J2 cw ct co M.sp M.att cb fv vw  (hsj.symm.ok hJ)) H1 (lA 0 U (fun _ h=>h) l0)).mono ?_
 rintro e w ⟨v,rfl,Bs,rfl,H⟩
 replace H:Hd w0 F0 w [Y (Ai .i64) v (CU dg J2 M.sp M.att),blk cb [.int .u32 1,.int .i32 0,.int .u32 0,.int .u32 1,fv,.string (BE (AZ dg J2 M.sp).1)] 305,blk b [vS,.int .i64 J2.parts,vM,vC,vR,.int .i64 J2.chunk,.int .i64 J2.window,.int .i64 J2.fuel,vK,.int .i64 cw,.int .i64 ct,.int .i64 co,.int .i64 ((M.sp:Nat):Int),.int .i64 M.att,.int .i64 ((AZ dg J2 M.sp).2),.pointer (some ⟨cb,0,none⟩),vw] 215,Y (At Ag) vS J2.us,Y Af vM J2.map,Y Af vC J2.comb,Y Af vR J2.red,Y (Ai .i64) vK J2.marks,Y Ds vw (ws.map Prod.fst),BK (Dj 279) ws] []:=H
 replace H:=H.p9.p9.p9.p9.p9.p9.p9.p8.p9
 replace H:=MK b J M vS vM vC vR vK J2 cw ct co cb fv vw ws ⟨hsj,hws⟩ (As:=[Y (Ai .i64) v (CU dg J2 M.sp M.att)]) H
 refine ⟨v,rfl,_,rfl,?_⟩
 have e:=OH hsj dg M.sp M.att
 rw [e] at H
 exact H.pick 1 U
theorem YH (b:Nat) (J:AS) (M:Cu) (hJ:Df J) (hM:GE M):
    Cn Tryz.prog 138 [.pointer (some ⟨b,0,none⟩)] [C8 b J M] [] (fun v Bs=>∃ zs:List (Bk CE),Bs=[Y Jm v zs,C8 b J M]∧(zs.map GB=G3 dg J M)):=by
 intro w0 F0 H
 obtain ⟨vS1,vM2,vC3,vR4,vK5,J6,cw7,ct8,co9,cb10,fv11,vw12,ws13,⟨hsj14,hws15⟩,H⟩:=MJ b J M H
 replace H:Hd _ _ _ [blk b [vS1,.int .i64 J6.parts,vM2,vC3,vR4,.int .i64 J6.chunk,.int .i64 J6.window,.int .i64 J6.fuel,vK5,.int .i64 cw7,.int .i64 ct8,.int .i64 co9,.int .i64 ((M.sp:Nat):Int),.int .i64 M.att,.int .i64 ((AZ dg J6 M.sp).2),.pointer (some ⟨cb10,0,none⟩),vw12] 215,blk cb10 [.int .u32 1,.int .i32 0,.int .u32 0,.int .u32 1,fv11,.string (BE (AZ dg J6 M.sp).1)] 305,Y (At Ag) vS1 J6.us,Y Af vM2 J6.map,Y Af vC3 J6.comb,Y Af vR4 J6.red,Y (Ai .i64) vK5 J6.marks,Y Ds vw12 (ws13.map Prod.fst),BK (Dj 279) ws13] []:=H
 have hwf:(ws13.map Prod.fst).length=ws13.length:=List.length_map ..
 have hwl:M.ws.length=ws13.length:=by rw [←hws15];exact List.length_map ..
 obtain ⟨A16,c17,rfl,hc18,hm19,hp20⟩:=H.fA 7 rfl
 have hJ2:Df J6:=hsj14.symm.ok hJ
 have hml:=hM.2
 refine enter Tryz.func138 U U (Nat.le_of_ble_eq_true U) (Aa (Ad (Ac U (Ab (Z (Aa (Aa (Ad (Ac U (V U U (C1 U Lz U U) (Ab (Z (Cq U (AB (Z (Aa (Ad (Ac U (Ab (Z (Aa (Aa (Ad (Ac U (V U U (AH U U) (V U U (Aj U UV U) (V U U (An U dS U (H.cellI 0 U U)) (V U U (Bn U d9 U) (Ac U (Ab (Z (AX ?_))))))))))))))))))))))))))))))))
 replace H:=H.newnil EH
 replace H:=Hd.tw0 (α:=CE) H
 replace H:=H.h1 (A:=BC ([]:List (Bk CE)))|>.h2 (B:=Y EH (.slice none 0 0) (([]:List (Bk CE)).map A9))|>.p1
 refine B1 (σ:=Nat×Value×List (Bk CE)) (fun (k,q,zs)=>[(0,.pointer (some ⟨b,0,none⟩)),(2,.slice none 0 0),(3,q),(13,.slice A16 ((ws13.map Prod.fst).length) c17),(14,.int .i64 (((ws13.map Prod.fst).length:Nat):Int)),(15,.int .i64 ((k:Nat):Int))]) (fun (k,q,zs) w=>(Hd w0 F0 w [Y EH q (zs.map A9),BC zs,blk b [vS1,.int .i64 J6.parts,vM2,vC3,vR4,.int .i64 J6.chunk,.int .i64 J6.window,.int .i64 J6.fuel,vK5,.int .i64 cw7,.int .i64 ct8,.int .i64 co9,.int .i64 ((M.sp:Nat):Int),.int .i64 M.att,.int .i64 ((AZ dg J6 M.sp).2),.pointer (some ⟨cb10,0,none⟩),.slice A16 ((ws13.map Prod.fst).length) c17] 215,blk cb10 [.int .u32 1,.int .i32 0,.int .u32 0,.int .u32 1,fv11,.string (BE (AZ dg J6 M.sp).1)] 305,Y (At Ag) vS1 J6.us,Y Af vM2 J6.map,Y Af vC3 J6.comb,Y Af vR4 J6.red,Y (Ai .i64) vK5 J6.marks,Y Ds (.slice A16 ((ws13.map Prod.fst).length) c17) (ws13.map Prod.fst),BK (Dj 279) ws13] [])∧(k≤ws13.length)∧(zs.map GB=DS dg J6 M.sp M.att (M.ws.take k) 0)) (fun (k,q,zs)=>ws13.length - k) (0,.slice none 0 0,[]) ⟨rfl,rfl,rfl,rfl,rfl,rfl,trivial⟩ ⟨H,Nat.zero_le _,rfl⟩ ?_
 rintro ⟨k,q,zs⟩ w ⟨H,hk,hz⟩
 have hzl:=congrArg List.length hz
 rw [List.length_map] at hzl
 have hpl:=KX (D:=dg) (J:=J6) (s:=M.sp) (att:=M.att) (ws:=M.ws.take k) 0 (fun x hx=>hM.1 x (List.mem_of_mem_take hx))
 rw [List.length_take] at hpl
 refine Aa (Ad (V U U (Br U U U) (Ab (Z (Aa ?_)))))
 refine AC U (fun h21=>?_) (fun h21=>?_)
 ·refine AB (Z (Aa (AX (Aa (Ad (Ac U ?_))))))
  obtain ⟨x22,hx23⟩:∃ z9,(ws13.map Prod.fst)[k]?=some z9:=⟨_,List.getElem?_eq_getElem (show k<(ws13.map Prod.fst).length by omega)⟩
  have th24:=H.thA 9 rfl hx23
  refine V U U (Bi (p:=A_ A16+k*1) U cF U U (by omega) (by omega) th24 U) (V U U (An U dT U (H.elA 9 U hx23 (q:=0) U U)) (Ah 2 U (Ab (Z (Aa (Ad (Ac U ?_)))))))
  obtain ⟨wd25,he26⟩:=e_ hx23
  have hm27:M.ws[k]?=some wd25:=by rw [←hws15];exact fC he26
  have hok_wd25:=hM.1 _ (Cx hm27)
  unfold KT at hok_wd25
  replace H:=H.pick 10 rfl|>.h3 (B:=Y EH q (zs.map A9)) (C:=BC zs)
  replace H:=Hd.bigO k he26 H
  replace H:=H.h2 (A:=blk x22 [.int .i64 wd25.c,.int .i64 wd25.s,.int .i64 wd25.e,.int .i64 wd25.x] 279) (B:=BK (Dj 279) (ws13.eraseIdx k))
  refine sc (eU x22 wd25.c wd25.s wd25.e wd25.x (by first |omega|decide) (by first |omega|decide)) H (lA 0 U (fun _ h=>h) l0) U U (Av Wi U U) ?_
  rintro v28 _ w rfl H
  replace H:=H.h1 (A:=Y (Ai .i64) v28 (DN wd25.c wd25.s wd25.x))|>.p2|>.p2
  replace H:=Hd.bigI (f:=Dj 279) (x:=(x22,wd25)) k (KF he26) H
  rw [fB he26] at H
  obtain ⟨A29,c30,rfl,hc31,hm32,hp33⟩:=H.fA 1 rfl
  refine V U U (Bn U EC U) (Ac U (Ab (Z ?_)))
  replace H:Hd _ _ _ [BK (Dj 279) ws13,Y (Ai .i64) (.slice A29 ((DN wd25.c wd25.s wd25.x).length) c30) (DN wd25.c wd25.s wd25.x),Y EH q (zs.map A9),BC zs,blk b [vS1,.int .i64 J6.parts,vM2,vC3,vR4,.int .i64 J6.chunk,.int .i64 J6.window,.int .i64 J6.fuel,vK5,.int .i64 cw7,.int .i64 ct8,.int .i64 co9,.int .i64 ((M.sp:Nat):Int),.int .i64 M.att,.int .i64 ((AZ dg J6 M.sp).2),.pointer (some ⟨cb10,0,none⟩),.slice A16 ((ws13.map Prod.fst).length) c17] 215,blk cb10 [.int .u32 1,.int .i32 0,.int .u32 0,.int .u32 1,fv11,.string (BE (AZ dg J6 M.sp).1)] 305,Y (At Ag) vS1 J6.us,Y Af vM2 J6.map,Y Af vC3 J6.comb,Y Af vR4 J6.red,Y (Ai .i64) vK5 J6.marks,Y Ds (.slice A16 ((ws13.map Prod.fst).length) c17) (ws13.map Prod.fst)] []:=H
  refine AX ?_
  replace H:=H.pick 11 rfl|>.pick 11 rfl|>.pick 11 rfl|>.pick 11 rfl|>.pick 11 rfl|>.pick 11 rfl|>.pick 11 rfl|>.pick 11 rfl|>.p9|>.pick 11 rfl|>.pick 11 rfl
  have hz0:zs.map GB=DS dg J6 M.sp M.att (M.ws.take k) 0++(Et dg J6 M.sp M.att wd25 k).take 0:=by rw [List.take_zero,List.append_nil];exact hz
  refine B1 (σ:=Nat×Value×List (Bk CE)) (fun (j,q2,zs2)=>[(0,.pointer (some ⟨b,0,none⟩)),(2,.slice none 0 0),(3,q2),(4,.int .i64 ((k:Nat):Int)),(13,.slice A16 ((ws13.map Prod.fst).length) c17),(14,.int .i64 (((ws13.map Prod.fst).length:Nat):Int)),(15,.int .i64 ((k:Nat):Int)),(21,.slice A29 ((DN wd25.c wd25.s wd25.x).length) c30),(22,.int .i64 (((DN wd25.c wd25.s wd25.x).length:Nat):Int)),(23,.int .i64 ((j:Nat):Int))]) (fun (j,q2,zs2) w=>(Hd w0 F0 w [Y EH q2 (zs2.map A9),BC zs2,Y (Ai .i64) (.slice A29 ((DN wd25.c wd25.s wd25.x).length) c30) (DN wd25.c wd25.s wd25.x),blk b [vS1,.int .i64 J6.parts,vM2,vC3,vR4,.int .i64 J6.chunk,.int .i64 J6.window,.int .i64 J6.fuel,vK5,.int .i64 cw7,.int .i64 ct8,.int .i64 co9,.int .i64 ((M.sp:Nat):Int),.int .i64 M.att,.int .i64 ((AZ dg J6 M.sp).2),.pointer (some ⟨cb10,0,none⟩),.slice A16 ((ws13.map Prod.fst).length) c17] 215,blk cb10 [.int .u32 1,.int .i32 0,.int .u32 0,.int .u32 1,fv11,.string (BE (AZ dg J6 M.sp).1)] 305,Y (At Ag) vS1 J6.us,Y Af vM2 J6.map,Y Af vC3 J6.comb,Y Af vR4 J6.red,Y (Ai .i64) vK5 J6.marks,Y Ds (.slice A16 ((ws13.map Prod.fst).length) c17) (ws13.map Prod.fst),BK (Dj 279) ws13] [])∧(j≤(DN wd25.c wd25.s wd25.x).length)∧(zs2.map GB=DS dg J6 M.sp M.att (M.ws.take k) 0++(Et dg J6 M.sp M.att wd25 k).take j)) (fun (j,q2,zs2)=>(DN wd25.c wd25.s wd25.x).length - j) (0,q,zs) ⟨rfl,rfl,rfl,rfl,rfl,rfl,rfl,rfl,rfl,rfl,trivial⟩ ⟨H,Nat.zero_le _,hz0⟩ ?_
  rintro ⟨j,q2,zs2⟩ w ⟨H,hj,hz2⟩
  have hzl2:=congrArg List.length hz2
  rw [List.length_map,List.length_append,List.length_take,M3] at hzl2
  have hwl2:=Re hok_wd25
  have htf:(zs2.map A9).length=zs2.length:=List.length_map ..
  refine Aa (Ad (V U U (Br U U U) (Ab (Z (Aa ?_)))))
  refine AC U (fun h34=>?_) (fun h34=>?_)
  ·refine AB (Z (Aa (AX (Aa (Ad ?_)))))
   obtain ⟨x35,hx36⟩:∃ z9,(DN wd25.c wd25.s wd25.x)[j]?=some z9:=⟨_,List.getElem?_eq_getElem (show j<(DN wd25.c wd25.s wd25.x).length by omega)⟩
   have th37:=H.thA 2 rfl hx36
   refine V U U (Bi (p:=A_ A29+j*1) U DA U U (by omega) (by omega) th37 U) (V U U (An U AE U (H.elA 2 U hx36 (q:=0) U U)) (Ac U (Ab (Z ?_))))
   replace H:=H.pick 11 rfl|>.pick 11 rfl|>.pick 11 rfl|>.pick 11 rfl|>.pick 11 rfl|>.pick 11 rfl|>.pick 11 rfl|>.pick 11 rfl|>.pick 11 rfl|>.pick 11 rfl|>.pick 11 rfl
   replace H:Hd _ _ _ [BC zs2,Y (Ai .i64) (.slice A29 ((DN wd25.c wd25.s wd25.x).length) c30) (DN wd25.c wd25.s wd25.x),blk b [vS1,.int .i64 J6.parts,vM2,vC3,vR4,.int .i64 J6.chunk,.int .i64 J6.window,.int .i64 J6.fuel,vK5,.int .i64 cw7,.int .i64 ct8,.int .i64 co9,.int .i64 ((M.sp:Nat):Int),.int .i64 M.att,.int .i64 ((AZ dg J6 M.sp).2),.pointer (some ⟨cb10,0,none⟩),.slice A16 ((ws13.map Prod.fst).length) c17] 215,blk cb10 [.int .u32 1,.int .i32 0,.int .u32 0,.int .u32 1,fv11,.string (BE (AZ dg J6 M.sp).1)] 305,Y (At Ag) vS1 J6.us,Y Af vM2 J6.map,Y Af vC3 J6.comb,Y Af vR4 J6.red,Y (Ai .i64) vK5 J6.marks,Y Ds (.slice A16 ((ws13.map Prod.fst).length) c17) (ws13.map Prod.fst),BK (Dj 279) ws13,Y EH q2 (zs2.map A9)] []:=H
   refine Cc (.e 0 (.e 1 (.e 2 (.e 3 (.e 4 (.e 5 (.e 6 (.e 7 (.e 8 (.e 9 (.e 10 (.e 11 (.e 12 (.e 13 (.m 14 (.e 15 (.m 16 (.m 17 (.e 18 .z))))))))))))))))))) (fun w=>∃ Ar,Hd w0 F0 w (BC zs2::Y (Ai .i64) (.slice A29 ((DN wd25.c wd25.s wd25.x).length) c30) (DN wd25.c wd25.s wd25.x)::blk b [vS1,.int .i64 J6.parts,vM2,vC3,vR4,.int .i64 J6.chunk,.int .i64 J6.window,.int .i64 J6.fuel,vK5,.int .i64 cw7,.int .i64 ct8,.int .i64 co9,.int .i64 ((M.sp:Nat):Int),.int .i64 M.att,.int .i64 ((AZ dg J6 M.sp).2),.pointer (some ⟨cb10,0,none⟩),.slice A16 ((ws13.map Prod.fst).length) c17] 215::blk cb10 [.int .u32 1,.int .i32 0,.int .u32 0,.int .u32 1,fv11,.string (BE (AZ dg J6 M.sp).1)] 305::Y (At Ag) vS1 J6.us::Y Af vM2 J6.map::Y Af vC3 J6.comb::Y Af vR4 J6.red::Y (Ai .i64) vK5 J6.marks::Y Ds (.slice A16 ((ws13.map Prod.fst).length) c17) (ws13.map Prod.fst)::BK (Dj 279) ws13::Ar) []) mo (by kernel_rfl) (fun w H=>⟨_,H⟩) H (fun w H=>?_)
   refine Au U (Au U (Ao U U U (fun w ⟨Ar,H⟩=>AH U U) (Ao U U U (fun w ⟨Ar,H⟩=>Aj U UT U) (Ao U U U (fun w ⟨Ar,H⟩=>An U AE U (H.cellI 2 U U)) (Au U (Ao U U U (fun w ⟨Ar,H⟩=>AH U U) (Ao U U U (fun w ⟨Ar,H⟩=>Aj U Pd U) (Ao U U U (fun w ⟨Ar,H⟩=>An U AE U (H.cellI 2 U U)) (Au U (Au U (Au U (Au U (Au U (AO U ?_))))))))))))))
   replace H:=H.p3
   refine sc (XO b vS1 vM2 vC3 vR4 vK5 J6 cw7 ct8 co9 M.sp M.att cb10 fv11 (.slice A16 ((ws13.map Prod.fst).length) c17) ((k:Nat):Int) x35 (by first |assumption|omega)) H (lA 2 U (fun _ h=>h) l0) U U (Av Wj U U) ?_
   rintro v38 _ w rfl H
   obtain ⟨A39,c40,rfl,hc41,hm42,hp43⟩:=H.fA 0 rfl
   replace H:Hd _ _ _ [Y Ag (.slice A39 ((Dq dg J6 M.sp M.att ((k:Nat):Int) x35).length) c40) (Dq dg J6 M.sp M.att ((k:Nat):Int) x35),blk cb10 [.int .u32 1,.int .i32 0,.int .u32 0,.int .u32 1,fv11,.string (BE (AZ dg J6 M.sp).1)] 305,BC zs2,Y (Ai .i64) (.slice A29 ((DN wd25.c wd25.s wd25.x).length) c30) (DN wd25.c wd25.s wd25.x),blk b [vS1,.int .i64 J6.parts,vM2,vC3,vR4,.int .i64 J6.chunk,.int .i64 J6.window,.int .i64 J6.fuel,vK5,.int .i64 cw7,.int .i64 ct8,.int .i64 co9,.int .i64 ((M.sp:Nat):Int),.int .i64 M.att,.int .i64 ((AZ dg J6 M.sp).2),.pointer (some ⟨cb10,0,none⟩),.slice A16 ((ws13.map Prod.fst).length) c17] 215,Y (At Ag) vS1 J6.us,Y Af vM2 J6.map,Y Af vC3 J6.comb,Y Af vR4 J6.red,Y (Ai .i64) vK5 J6.marks,Y Ds (.slice A16 ((ws13.map Prod.fst).length) c17) (ws13.map Prod.fst),BK (Dj 279) ws13,Y EH q2 (zs2.map A9)] []:=H
   replace H:=H.pick 11 rfl|>.pick 11 rfl|>.pick 11 rfl|>.pick 11 rfl|>.pick 11 rfl|>.pick 11 rfl|>.pick 11 rfl|>.p8|>.pick 11 rfl|>.pick 11 rfl|>.pick 11 rfl
   refine AG ⟨_,H⟩ (Ao U U U (fun w ⟨Ar,H⟩=>Di (parts:=[(0,.const (.int .i64 2)),(1,.tmp 31),(2,.tmp 35),(3,.tmp 36),(4,.tmp 37),(9,.tmp 41)]) (vs:=[.int .i64 2,.int .i64 ((M.sp:Nat):Int),.int .i64 M.att,.int .i64 ((k:Nat):Int),.int .i64 x35,.slice A39 ((Dq dg J6 M.sp M.att ((k:Nat):Int) x35).length) c40]) (cs:=[.int .i64 2,.int .i64 ((M.sp:Nat):Int),.int .i64 M.att,.int .i64 ((k:Nat):Int),.int .i64 x35,.int .i64 0,.int .i64 0,.int .i64 0,.slice none 0 0,.slice A39 ((Dq dg J6 M.sp M.att ((k:Nat):Int) x35).length) c40]) U HK U U) (AO U (Cb (parts:=[(0,.tmp 42)]) (vs:=[.agg #[.int .i64 2,.int .i64 ((M.sp:Nat):Int),.int .i64 M.att,.int .i64 ((k:Nat):Int),.int .i64 x35,.int .i64 0,.int .i64 0,.int .i64 0,.slice none 0 0,.slice A39 ((Dq dg J6 M.sp M.att ((k:Nat):Int) x35).length) c40]]) (cs:=[.int .i64 2,.int .i64 ((M.sp:Nat):Int),.int .i64 M.att,.int .i64 ((k:Nat):Int),.int .i64 x35,.int .i64 0,.int .i64 0,.int .i64 0,.slice none 0 0,.slice A39 ((Dq dg J6 M.sp M.att ((k:Nat):Int) x35).length) c40]) U U U Nt I4 U (by decide) (by decide) U U H (fun b44 w H=>?_))))
   replace H:=H.h1 (A:=blk b44 [.int .i64 2,.int .i64 ((M.sp:Nat):Int),.int .i64 M.att,.int .i64 ((k:Nat):Int),.int .i64 x35,.int .i64 0,.int .i64 0,.int .i64 0,.slice none 0 0,.slice A39 ((Dq dg J6 M.sp M.att ((k:Nat):Int) x35).length) c40] 49)|>.pick 11 rfl|>.pick 11 rfl|>.pick 11 rfl|>.pick 11 rfl|>.pick 11 rfl|>.pick 11 rfl|>.pick 11 rfl|>.pick 11 rfl|>.pick 11 rfl|>.pick 11 rfl|>.pick 11 rfl
   refine AG ⟨_,H⟩ (AO U ?_)
   replace H:=H.pick 13 rfl
   refine CA (xs:=zs2.map A9) (ys:=[(⟨⟨2,((M.sp:Nat):Int),M.att,((k:Nat):Int),x35,0,0,0⟩,⟨none,0,0⟩,⟨A39,(Dq dg J6 M.sp M.att ((k:Nat):Int) x35).length,c40⟩⟩:Dg CE)]) U U U Nt I4 U (by decide) U U H (by first |omega|(simp only [List.length_append,List.length_cons,List.length_nil,List.length_map];omega)) (fun F hA hR=>Cy (hA _ (List.mem_of_getElem? (i:=11) U)) U (by decide) (Bc.flat_eq.2 U)) (fun v45 w H=>?_)
   replace H:=H.h1 (A:=Y EH v45 ((zs2.map A9)++[(⟨⟨2,((M.sp:Nat):Int),M.att,((k:Nat):Int),x35,0,0,0⟩,⟨none,0,0⟩,⟨A39,(Dq dg J6 M.sp M.att ((k:Nat):Int) x35).length,c40⟩⟩:Dg CE)]))|>.pick 11 rfl|>.pick 11 rfl|>.pick 11 rfl|>.pick 11 rfl|>.pick 11 rfl|>.pick 11 rfl|>.pick 11 rfl|>.pick 11 rfl|>.pick 11 rfl|>.pick 11 rfl|>.pick 11 rfl
   refine AG ⟨_,H⟩ (Au U (BN (Bb (Z (Ad (V U U (Be (z:=((j+1:Nat):Int)) U U U (by rw [AI (by omega) (by omega)];omega)) (Ac U (Ab ?_))))))))
   replace H:=H.newnil (Ai .i64)|>.pick 12 rfl|>.p2|>.pick 14 rfl|>.p3|>.keep 14
   replace H:=Hd.twN (r:=(⟨(⟨2,M.sp,M.att,(k:Nat),x35,0,0,0⟩:CE),.slice none 0 0,[],.slice A39 ((Dq dg J6 M.sp M.att ((k:Nat):Int) x35).length) c40,Dq dg J6 M.sp M.att (k:Nat) x35⟩:Bk CE)) H
   replace H:Hd w0 F0 w [BC (zs2++[(⟨(⟨2,M.sp,M.att,(k:Nat),x35,0,0,0⟩:CE),.slice none 0 0,[],.slice A39 ((Dq dg J6 M.sp M.att ((k:Nat):Int) x35).length) c40,Dq dg J6 M.sp M.att (k:Nat) x35⟩:Bk CE)]),Y EH v45 ((zs2++[(⟨(⟨2,M.sp,M.att,(k:Nat),x35,0,0,0⟩:CE),.slice none 0 0,[],.slice A39 ((Dq dg J6 M.sp M.att ((k:Nat):Int) x35).length) c40,Dq dg J6 M.sp M.att (k:Nat) x35⟩:Bk CE)]).map A9),Y (Ai .i64) (.slice A29 ((DN wd25.c wd25.s wd25.x).length) c30) (DN wd25.c wd25.s wd25.x),blk b [vS1,.int .i64 J6.parts,vM2,vC3,vR4,.int .i64 J6.chunk,.int .i64 J6.window,.int .i64 J6.fuel,vK5,.int .i64 cw7,.int .i64 ct8,.int .i64 co9,.int .i64 ((M.sp:Nat):Int),.int .i64 M.att,.int .i64 ((AZ dg J6 M.sp).2),.pointer (some ⟨cb10,0,none⟩),.slice A16 ((ws13.map Prod.fst).length) c17] 215,blk cb10 [.int .u32 1,.int .i32 0,.int .u32 0,.int .u32 1,fv11,.string (BE (AZ dg J6 M.sp).1)] 305,Y (At Ag) vS1 J6.us,Y Af vM2 J6.map,Y Af vC3 J6.comb,Y Af vR4 J6.red,Y (Ai .i64) vK5 J6.marks,Y Ds (.slice A16 ((ws13.map Prod.fst).length) c17) (ws13.map Prod.fst),BK (Dj 279) ws13] []:=by rw [List.map_append];exact H
   replace H:=H.p1
   have hz3:(zs2++[(⟨(⟨2,M.sp,M.att,(k:Nat),x35,0,0,0⟩:CE),.slice none 0 0,[],.slice A39 ((Dq dg J6 M.sp M.att ((k:Nat):Int) x35).length) c40,Dq dg J6 M.sp M.att (k:Nat) x35⟩:Bk CE)]).map GB=DS dg J6 M.sp M.att (M.ws.take k) 0++(Et dg J6 M.sp M.att wd25 k).take (j+1):=by rw [List.map_append,hz2,Zn hx36,←List.append_assoc];rfl
   exact Bo (s:=(j,undef,zs2)) (j+1,v45,zs2++[(⟨(⟨2,M.sp,M.att,(k:Nat),x35,0,0,0⟩:CE),.slice none 0 0,[],.slice A39 ((Dq dg J6 M.sp M.att ((k:Nat):Int) x35).length) c40,Dq dg J6 M.sp M.att (k:Nat) x35⟩:Bk CE)]) ⟨rfl,rfl,rfl,rfl,rfl,rfl,rfl,rfl,rfl,rfl,trivial⟩ ⟨H,by (try dsimp only);omega,hz3⟩ (by (try dsimp only);omega)
  refine BW (A8 (A8 (BX (Bb (Z (Ad (V U U (Be (z:=((k+1:Nat):Int)) U U U (by rw [AI (by omega) (by omega)];omega)) (Ac U (Ab ?_)))))))))
  replace H:=H.pick 11 rfl|>.pick 11 rfl|>.pick 11 rfl|>.pick 11 rfl|>.pick 11 rfl|>.pick 11 rfl|>.pick 11 rfl|>.pick 11 rfl|>.pick 11 rfl|>.pick 10 rfl|>.pick 10 rfl|>.keep 11|>.h2 (A:=Y EH q2 (zs2.map A9)) (B:=BC zs2)
  have hzk:zs2.map GB=DS dg J6 M.sp M.att (M.ws.take (k+1)) 0:=by rw [hz2,List.take_of_length_le (l:=Et dg J6 M.sp M.att wd25 k) (by rw [M3];omega),Zo hm27]
  exact Bo (s:=(k,undef,zs)) (k+1,q2,zs2) ⟨rfl,rfl,rfl,rfl,rfl,rfl,trivial⟩ ⟨H,by (try dsimp only);omega,hzk⟩ (by (try dsimp only);omega)
 refine BW (A8 (A8 (BX (Z (Aa (Ad (Ah 2 U (Ab (Z (Am (Aq U U ?_)))))))))))
 replace H:=H.h2 (A:=Y EH q (zs.map A9)) (B:=BC zs)
 replace H:=Hd.twI H
 replace H:=H.h1 (A:=Y Jm q zs)|>.p9|>.p9|>.p9|>.p9|>.p9|>.p9|>.p9|>.p9|>.p9
 replace H:=MK b J M vS1 vM2 vC3 vR4 vK5 J6 cw7 ct8 co9 cb10 fv11 (.slice A16 ((ws13.map Prod.fst).length) c17) ws13 ⟨hsj14,hws15⟩ H
 replace H:=H.h1 (A:=C8 b J M)|>.p1
 exact Al ⟨zs,rfl,by rw [hz,List.take_of_length_le (by omega)];exact M6 hsj14 dg M.sp M.att M.ws 0⟩ H
end Go.Proofs.YthhajcnbjiiclaaGreatDoor.X
