/- WorkerNone: texts N4, XOrd, N5, XRecO, XTwo, XOkR, XRedL, XRedO, XAct, L1, XWin, XCode, XMpr, XByte, XMprI, XWrk, XWrk2, XWrk3, LW1, M1, K1, K2, M2, joined by a program of ours; what nothing names is left out. -/
import Derived.Test.YthgehekecfpikaaGreatDoorWorkerNoneQ4
import Derived.KernelRfl
set_option linter.unusedVariables false
set_option linter.unusedSimpArgs false
set_option maxHeartbeats 8000000
namespace Go.Proofs.YthgehekecfpikaaGreatDoor.X
open Go
theorem XM (vS:Value) (vM:Value) (vC:Value) (vR:Value) (vK:Value) (C:Cf) (p:Int) (ep:Int) (vr:Value) (recs:List Bp) (hC:C1 C) (hp:AP p) (he:AP ep) (hgo:Du C p≠0∧1≤ep) (hrs:∀ r∈recs,(AP r.sp∧r.set.length≤1000)∧r.pairs.length≤1000) (hrl:recs.length≤100000):
    Cn Tryz.prog 56 [.agg #[vS,.int .i64 C.J.parts,vM,vC,vR,.int .i64 C.J.chunk,.int .i64 C.J.window,.int .i64 C.J.fuel,vK,.int .i64 C.w,.int .i64 C.t,.int .i64 C.o],.int .i64 p,.int .i64 ep,vr] [] [Ab (Ao Ag) vS C.J.us,Ab Af vM C.J.map,Ab Af vC C.J.comb,Ab Af vR C.J.red,Ab (Ai .i64) vK C.J.marks,Ab BZ vr recs] (fun v Bs=>∃ r:Nat,∃ vS2:Value,∃ vM2:Value,∃ vC2:Value,∃ vR2:Value,∃ vK2:Value,∃ J2:AC,∃ hv:Nat→Value,∃ sb:Nat,∃ vs:Value,∃ us:List (Value×List Int),v=.tuple #[.pointer (some ⟨r,0,none⟩),.int .i64 0]∧Bs=[blk r (Bq vS2 vM2 vC2 vR2 vK2 J2 C.w C.t C.o p ep ((CM J2.us.length p ep (recs.map Bp.p)).g) hv sb vs) 185,Y (Ao Ag) vS2 J2.us,Y Af vM2 J2.map,Y Af vC2 J2.comb,Y Af vR2 J2.red,Y (Ai .i64) vK2 J2.marks,BF ((CM J2.us.length p ep (recs.map Bp.p)).g) hv,Y (Ao (Ai .i64)) vs us,CB 253 sb ([])]∧(Bb J2 C.J)∧(us.map (·.2)=(CM J2.us.length p ep (recs.map Bp.p)).sets)):=by
 intro w0 F0 H
 obtain ⟨A1,c2,rfl,hc3,hm4,hp5⟩:=H.fR 0 rfl
 obtain ⟨A6,c7,rfl,hc8,hm9,hp10⟩:=H.fR 1 rfl
 obtain ⟨A11,c12,rfl,hc13,hm14,hp15⟩:=H.fR 2 rfl
 obtain ⟨A16,c17,rfl,hc18,hm19,hp20⟩:=H.fR 3 rfl
 obtain ⟨A21,c22,rfl,hc23,hm24,hp25⟩:=H.fR 4 rfl
 obtain ⟨A26,c27,rfl,hc28,hm29,hp30⟩:=H.fR 5 rfl
 refine enter Tryz.func56 U U (Nat.le_of_ble_eq_true U) (Aa (Ae (Cm U U U U H (fun b31 w H=>(Ah 2 U (Ac (Z ?_)))))))
 replace H:Hd _ _ _ [blk b31 [.slice A1 C.J.us.length c2,.int .i64 C.J.parts,.slice A6 C.J.map.length c7,.slice A11 C.J.comb.length c12,.slice A16 C.J.red.length c17,.int .i64 C.J.chunk,.int .i64 C.J.window,.int .i64 C.J.fuel,.slice A21 C.J.marks.length c22,.int .i64 C.w,.int .i64 C.t,.int .i64 C.o] 28] [Ab (Ao Ag) (.slice A1 C.J.us.length c2) C.J.us,Ab Af (.slice A6 C.J.map.length c7) C.J.map,Ab Af (.slice A11 C.J.comb.length c12) C.J.comb,Ab Af (.slice A16 C.J.red.length c17) C.J.red,Ab (Ai .i64) (.slice A21 C.J.marks.length c22) C.J.marks,Ab BZ (.slice A26 recs.length c27) recs]:=H
 refine Aa (Aa (Ae (V U U (Bn (cs:=[.slice A1 C.J.us.length c2,.int .i64 C.J.parts,.slice A6 C.J.map.length c7,.slice A11 C.J.comb.length c12,.slice A16 C.J.red.length c17,.int .i64 C.J.chunk,.int .i64 C.J.window,.int .i64 C.J.fuel,.slice A21 C.J.marks.length c22,.int .i64 C.w,.int .i64 C.t,.int .i64 C.o]) U DX U U (H.cellsI 0 U U)) (Ad U (sc (Lx (.slice A1 C.J.us.length c2) (.slice A6 C.J.map.length c7) (.slice A11 C.J.comb.length c12) (.slice A16 C.J.red.length c17) (.slice A21 C.J.marks.length c22) C p (by first |assumption|omega)) H (lR 0 U (lR 1 U (lR 2 U (lR 3 U (lR 4 U l0))))) U U (Au LJ U U) ?_)))))
 rintro _ _ w ⟨rfl,rfl⟩ H
 refine V U U (AW U U U) (Ad U ?_)
 refine AN (d:=18) U (fun h32=>?_) (fun h32=>?_)
 ·exact (hgo.1 h32).elim
 refine Ad U (V U U (Bd U U U) (Ad U (Ac (Z ?_))))
 replace H:Hd _ _ _ [blk b31 [.slice A1 C.J.us.length c2,.int .i64 C.J.parts,.slice A6 C.J.map.length c7,.slice A11 C.J.comb.length c12,.slice A16 C.J.red.length c17,.int .i64 C.J.chunk,.int .i64 C.J.window,.int .i64 C.J.fuel,.slice A21 C.J.marks.length c22,.int .i64 C.w,.int .i64 C.t,.int .i64 C.o] 28] [Ab (Ao Ag) (.slice A1 C.J.us.length c2) C.J.us,Ab Af (.slice A6 C.J.map.length c7) C.J.map,Ab Af (.slice A11 C.J.comb.length c12) C.J.comb,Ab Af (.slice A16 C.J.red.length c17) C.J.red,Ab (Ai .i64) (.slice A21 C.J.marks.length c22) C.J.marks,Ab BZ (.slice A26 recs.length c27) recs]:=H
 refine Aw U (fun h33=>?_) (fun h33=>?_)
 ·exfalso;omega
 refine Ax (Z (Aa (Ae (V U U (Bn (cs:=[.slice A1 C.J.us.length c2,.int .i64 C.J.parts,.slice A6 C.J.map.length c7,.slice A11 C.J.comb.length c12,.slice A16 C.J.red.length c17,.int .i64 C.J.chunk,.int .i64 C.J.window,.int .i64 C.J.fuel,.slice A21 C.J.marks.length c22,.int .i64 C.w,.int .i64 C.t,.int .i64 C.o]) U DX U U (H.cellsI 0 U U)) (sc (L5 (.slice A1 C.J.us.length c2) (.slice A6 C.J.map.length c7) (.slice A11 C.J.comb.length c12) (.slice A16 C.J.red.length c17) (.slice A21 C.J.marks.length c22) C (by first |assumption|omega)) H (lR 0 U (lR 1 U (lR 2 U (lR 3 U (lR 4 U l0))))) U U (Au LM U U) ?_)))))
 rintro _ _ w ⟨J34,vS35,vM36,vC37,vR38,vK39,rfl,rfl,hf40⟩ H
 replace H:=H.h5 (A:=Y (Ao Ag) vS35 J34.us) (B:=Y Af vM36 J34.map) (C:=Y Af vC37 J34.comb) (D:=Y Af vR38 J34.red) (E:=Y (Ai .i64) vK39 J34.marks)
 have hsj:=hf40
 refine Ah 2 U (sc (YL) H l0 U U (Au T4 U U) ?_)
 rintro _ _ w ⟨b41,rfl,rfl⟩ H
 obtain ⟨A42,c43,rfl,hc44,hm45,hp46⟩:=H.fA 1 rfl
 obtain ⟨A47,c48,rfl,hc49,hm50,hp51⟩:=H.fA 2 rfl
 obtain ⟨A52,c53,rfl,hc54,hm55,hp56⟩:=H.fA 3 rfl
 obtain ⟨A57,c58,rfl,hc59,hm60,hp61⟩:=H.fA 4 rfl
 obtain ⟨A62,c63,rfl,hc64,hm65,hp66⟩:=H.fA 5 rfl
 refine V U U (CQ (parts:=[(0,.tmp 23),(1,.tmp 24),(2,.tmp 25),(4,.tmp 26)]) (vs:=[.agg #[.slice A42 J34.us.length c43,.int .i64 J34.parts,.slice A47 J34.map.length c48,.slice A52 J34.comb.length c53,.slice A57 J34.red.length c58,.int .i64 J34.chunk,.int .i64 J34.window,.int .i64 J34.fuel,.slice A62 J34.marks.length c63,.int .i64 C.w,.int .i64 C.t,.int .i64 C.o],.int .i64 p,.int .i64 ep,.pointer (some ⟨b41,0,none⟩)]) (cs:=[.slice A42 J34.us.length c43,.int .i64 J34.parts,.slice A47 J34.map.length c48,.slice A52 J34.comb.length c53,.slice A57 J34.red.length c58,.int .i64 J34.chunk,.int .i64 J34.window,.int .i64 J34.fuel,.slice A62 J34.marks.length c63,.int .i64 C.w,.int .i64 C.t,.int .i64 C.o,.int .i64 p,.int .i64 ep,.bool false,.slice none 0 0,.bool false,.int .i64 0,.int .i64 0,.bool false,.slice none 0 0,.bool false,.int .i64 0,.int .i64 0,.bool false,.slice none 0 0,.bool false,.int .i64 0,.int .i64 0,.bool false,.slice none 0 0,.bool false,.int .i64 0,.int .i64 0,.bool false,.slice none 0 0,.bool false,.int .i64 0,.int .i64 0,.bool false,.slice none 0 0,.bool false,.int .i64 0,.int .i64 0,.pointer (some ⟨b41,0,none⟩),.slice none 0 0]) U Rq U U) ?_
 refine Cm U U U U H (fun b67 w H=>(Ad U (Ac (Z ?_))))
 replace H:Hd _ _ _ [blk b67 [.slice A42 J34.us.length c43,.int .i64 J34.parts,.slice A47 J34.map.length c48,.slice A52 J34.comb.length c53,.slice A57 J34.red.length c58,.int .i64 J34.chunk,.int .i64 J34.window,.int .i64 J34.fuel,.slice A62 J34.marks.length c63,.int .i64 C.w,.int .i64 C.t,.int .i64 C.o,.int .i64 p,.int .i64 ep,.bool false,.slice none 0 0,.bool false,.int .i64 0,.int .i64 0,.bool false,.slice none 0 0,.bool false,.int .i64 0,.int .i64 0,.bool false,.slice none 0 0,.bool false,.int .i64 0,.int .i64 0,.bool false,.slice none 0 0,.bool false,.int .i64 0,.int .i64 0,.bool false,.slice none 0 0,.bool false,.int .i64 0,.int .i64 0,.bool false,.slice none 0 0,.bool false,.int .i64 0,.int .i64 0,.pointer (some ⟨b41,0,none⟩),.slice none 0 0] 185,CB 253 b41 ([]),Y (Ao Ag) (.slice A42 J34.us.length c43) J34.us,Y Af (.slice A47 J34.map.length c48) J34.map,Y Af (.slice A52 J34.comb.length c53) J34.comb,Y Af (.slice A57 J34.red.length c58) J34.red,Y (Ai .i64) (.slice A62 J34.marks.length c63) J34.marks,blk b31 [.slice A1 C.J.us.length c2,.int .i64 C.J.parts,.slice A6 C.J.map.length c7,.slice A11 C.J.comb.length c12,.slice A16 C.J.red.length c17,.int .i64 C.J.chunk,.int .i64 C.J.window,.int .i64 C.J.fuel,.slice A21 C.J.marks.length c22,.int .i64 C.w,.int .i64 C.t,.int .i64 C.o] 28] [Ab (Ao Ag) (.slice A1 C.J.us.length c2) C.J.us,Ab Af (.slice A6 C.J.map.length c7) C.J.map,Ab Af (.slice A11 C.J.comb.length c12) C.J.comb,Ab Af (.slice A16 C.J.red.length c17) C.J.red,Ab (Ai .i64) (.slice A21 C.J.marks.length c22) C.J.marks,Ab BZ (.slice A26 recs.length c27) recs]:=H
 refine Aa (Aa ?_)
 have hlen:J34.us.length≤6:=by have:=hC.1.1;have:=hsj.len;omega
 replace H:=(H.newnil (Ao (Ai .i64))).prsN
 replace H:=H.h2 (A:=BF ((GK p ep).g) (fun _=>.slice none 0 0)) (B:=Y (Ao (Ai .i64)) (.slice none 0 0) [])|>.p8|>.p8|>.p8|>.p8|>.p8|>.p7|>.k9|>.h1 (A:=blk b67 (Bq (.slice A42 J34.us.length c43) (.slice A47 J34.map.length c48) (.slice A52 J34.comb.length c53) (.slice A57 J34.red.length c58) (.slice A62 J34.marks.length c63) J34 C.w C.t C.o p ep ((GK p ep).g) (fun _=>.slice none 0 0) b41 (.slice none 0 0)) 185)
 refine Ae (Ad U (V U U (Bf U MI U) (Ad U (Ac (Z (AS (BQ (σ:=Nat×AI×(Nat→Value)×Value×List (Value×List Int)) (fun (k,R,hv,vs,us)=>[(1,.int .i64 p),(8,.pointer none),(9,.int .i64 0),(10,.pointer (some ⟨b67,0,none⟩)),(29,.slice A26 recs.length c27),(30,.int .i64 ((recs.length:Nat):Int)),(31,.int .i64 ((k:Nat):Int))]) (fun (k,R,hv,vs,us) w=>(Hd w0 F0 w [blk b67 (Bq (.slice A42 J34.us.length c43) (.slice A47 J34.map.length c48) (.slice A52 J34.comb.length c53) (.slice A57 J34.red.length c58) (.slice A62 J34.marks.length c63) J34 C.w C.t C.o p ep R.g hv b41 vs) 185,Y (Ao Ag) (.slice A42 J34.us.length c43) J34.us,Y Af (.slice A47 J34.map.length c48) J34.map,Y Af (.slice A52 J34.comb.length c53) J34.comb,Y Af (.slice A57 J34.red.length c58) J34.red,Y (Ai .i64) (.slice A62 J34.marks.length c63) J34.marks,BF (R.g) hv,Y (Ao (Ai .i64)) vs us,CB 253 b41 ([])] [Ab (Ao Ag) (.slice A1 C.J.us.length c2) C.J.us,Ab Af (.slice A6 C.J.map.length c7) C.J.map,Ab Af (.slice A11 C.J.comb.length c12) C.J.comb,Ab Af (.slice A16 C.J.red.length c17) C.J.red,Ab (Ai .i64) (.slice A21 C.J.marks.length c22) C.J.marks,Ab BZ (.slice A26 recs.length c27) recs])∧(R=CM J34.us.length p ep ((recs.take k).map Bp.p))∧(R.part=p)∧(us.map (·.2)=R.sets)∧(k≤recs.length)∧(us.length≤k)) (fun (k,R,hv,vs,us)=>recs.length - k) (0,GK p ep,(fun _=>.slice none 0 0),.slice none 0 0,[]) ⟨rfl,rfl,rfl,rfl,rfl,rfl,rfl,trivial⟩ ⟨H,rfl,rfl,rfl,Nat.zero_le _,Nat.le_refl _⟩ ?_)))))))
 rintro ⟨k,R,hv,vs,us⟩ w ⟨H,hR,hRp,hus,hk,hul⟩
 refine Aa (Ae (V U U (Bd U U U) (Ac (Z (Aa ?_)))))
 refine Aw U (fun h68=>?_) (fun h68=>?_)
 ·refine Ax (Z (Aa (AS (Aa ?_))))
  obtain ⟨⟨a71,a72,a73,a74,a75,sv76,se77,pv78,pr79⟩,hx70⟩:∃ z9,recs[k]?=some z9:=⟨_,List.getElem?_eq_getElem (show k<recs.length by omega)⟩
  obtain ⟨A80,c81,A82,c83,rfl,rfl,m84,m85,m86,m87⟩:=H.nestRr 5 rfl hx70
  have hr1:=hrs _ (Cc hx70)
  unfold AP at hr1
  dsimp only at hr1
  refine Ae ?_
  have th88:=H.thRr 5 rfl hx70
  refine V U U (A0 (p:=AQ A26+k*7) U Mw U U (by omega) (by omega) th88 U) (V U U (Bn (cs:=[.int .i64 a71,.int .i64 a72,.int .i64 a73,.int .i64 a74,.int .i64 a75,.slice A80 se77.length c81,.slice A82 pr79.length c83]) U Kv U U (H.elsRr 5 U hx70 U)) (Dk U U U MS H (fun b89 w H=>(BD U U U Kv U U H U (Nat.le_of_ble_eq_true U) (fun u hu=>by simp [Value.cells] at hu;rcases hu with rfl|rfl|rfl|rfl|rfl|rfl|rfl<;>rfl) (fun w H=>?_)))))
  replace H:Hd _ _ _ [blk b89 [.int .i64 a71,.int .i64 a72,.int .i64 a73,.int .i64 a74,.int .i64 a75,.slice A80 se77.length c81,.slice A82 pr79.length c83] 37,blk b67 (Bq (.slice A42 J34.us.length c43) (.slice A47 J34.map.length c48) (.slice A52 J34.comb.length c53) (.slice A57 J34.red.length c58) (.slice A62 J34.marks.length c63) J34 C.w C.t C.o p ep R.g hv b41 vs) 185,Y (Ao Ag) (.slice A42 J34.us.length c43) J34.us,Y Af (.slice A47 J34.map.length c48) J34.map,Y Af (.slice A52 J34.comb.length c53) J34.comb,Y Af (.slice A57 J34.red.length c58) J34.red,Y (Ai .i64) (.slice A62 J34.marks.length c63) J34.marks,BF (R.g) hv,Y (Ao (Ai .i64)) vs us,CB 253 b41 ([])] [Ab (Ao Ag) (.slice A1 C.J.us.length c2) C.J.us,Ab Af (.slice A6 C.J.map.length c7) C.J.map,Ab Af (.slice A11 C.J.comb.length c12) C.J.comb,Ab Af (.slice A16 C.J.red.length c17) C.J.red,Ab (Ai .i64) (.slice A21 C.J.marks.length c22) C.J.marks,Ab BZ (.slice A26 recs.length c27) recs]:=H
  refine Ac (Z (Aa (Aa (Ae (V U U (Aj U Ta U) (V U U (Al U AA U (H.cellI 0 U U)) (Ad U (V U U (Dq U U U) (Ac (Z ?_))))))))))
  refine Aw U (fun h90=>?_) (fun h90=>?_)
  ·refine BH (AR (BI (Z (Ae (V U U (AX (z:=((k+1:Nat):Int)) U U U (by rw [AB (by omega) (by omega)];omega)) (Ad U (Ac ?_)))))))
   have hpart:(Bp.p (⟨a71,a72,a73,a74,a75,.slice A80 se77.length c81,se77,.slice A82 pr79.length c83,pr79⟩:Bp)).part≠R.part:=by rw [hRp];exact h90
   have hR2:=Fj hR hx70 (XC hpart)
   replace H:=H.p9.p9.p9.p9.p9.p9.p9.p9.p9.k9
   exact Bj (s:=(k,R,hv,undef,us)) (k+1,R,hv,vs,us) ⟨rfl,rfl,rfl,rfl,rfl,rfl,rfl,trivial⟩ ⟨H,hR2,hRp,by (try dsimp only);exact hus,by (try dsimp only);omega,by (try dsimp only);omega⟩ (by (try dsimp only);omega)
  refine Ax (Z (Aa (Aa ?_)))
  by_cases hin91:0≤a73∧a73<((J34.us.length:Nat):Int)
  ·refine Ae (Ad U (V U U (Aj U Oi U) (V U U (Al U AA U (H.cellI 0 U U)) (sc (Rm b67 A42 J34.us.length c43 (.slice A47 J34.map.length c48) (.slice A52 J34.comb.length c53) (.slice A57 J34.red.length c58) (.slice A62 J34.marks.length c63) J34 C.w C.t C.o p ep R.g hv b41 vs a73 (by first |assumption|omega) (by first |assumption|omega)) H (lA 1 U (fun _ h=>h) l0) U U (Au OL U U) ?_))))
   rintro _ _ w ⟨rfl,rfl⟩ H
   refine Ad U (Ac (Z (Aa (Ae (V U U (Aj U GC U) (V U U (Al U AA U (H.cellI 0 U U)) (V U U (AW U U U) (Ad U ?_))))))))
   refine AN (d:=46) U (fun h92=>?_) (fun h92=>?_)
   ·refine Ad U (V U U (IJ U QV U U) (Ah 3 U (V U U (AF U U) (V U U (Aj U Jq U) (V U U (Al U E5 U (H.cellI 1 U (Ml (by omega)))) (V U U (Fl U U U) (Ad U (Ac (Z ?_)))))))))
    refine DO (b:=!((R.g ((a73).toNat)).merged)) U (fun h93=>?_) (fun h93=>?_)
    ·refine Ae (Ah 2 U (V U U (Aj U Tb U) (V U U (Al U EF U (H.cellI 0 U U)) (sc (Jd (.slice A82 pr79.length c83) pr79 (by first |assumption|omega)) H (lX (fun F hA hR=>Qm (hR _ (List.mem_of_getElem? (i:=5) U)) hx70) l0) U U (Au JF U U) ?_))))
     rintro v94 _ w rfl H
     refine V U U (AF U U) (V U U (Aj U Jq U) ?_)
     replace H:=H.p2
     refine BD U U U E5 U U H U (by show 14+((a73).toNat)*5+0+1≤46;omega) (fun u hu=>by simp [Value.cells] at hu;subst hu;rfl) (fun w H=>?_)
     replace H:Hd w0 F0 w [blk b67 (Bq (.slice A42 J34.us.length c43) (.slice A47 J34.map.length c48) (.slice A52 J34.comb.length c53) (.slice A57 J34.red.length c58) (.slice A62 J34.marks.length c63) J34 C.w C.t C.o p ep (CN R.g ((a73).toNat) { R.g ((a73).toNat) with merged:=true }) hv b41 vs) 185,Y Ag v94 pr79,blk b89 [.int .i64 a71,.int .i64 a72,.int .i64 a73,.int .i64 a74,.int .i64 a75,.slice A80 se77.length c81,.slice A82 pr79.length c83] 37,Y (Ao Ag) (.slice A42 J34.us.length c43) J34.us,Y Af (.slice A47 J34.map.length c48) J34.map,Y Af (.slice A52 J34.comb.length c53) J34.comb,Y Af (.slice A57 J34.red.length c58) J34.red,Y (Ai .i64) (.slice A62 J34.marks.length c63) J34.marks,BF (R.g) hv,Y (Ao (Ai .i64)) vs us,CB 253 b41 ([])] [Ab (Ao Ag) (.slice A1 C.J.us.length c2) C.J.us,Ab Af (.slice A6 C.J.map.length c7) C.J.map,Ab Af (.slice A11 C.J.comb.length c12) C.J.comb,Ab Af (.slice A16 C.J.red.length c17) C.J.red,Ab (Ai .i64) (.slice A21 C.J.marks.length c22) C.J.marks,Ab BZ (.slice A26 recs.length c27) recs]:=by rw [←XI (show (a73).toNat<6 by omega) true];exact H
     refine V U U (AF U U) (V U U (Aj U N8 U) ?_)
     obtain ⟨A95,c96,rfl,hc97,hm98,hp99⟩:=H.fA 1 rfl
     refine BD U U U EF U U H U (by show 14+((a73).toNat)*5+1+1≤46;omega) (fun u hu=>by simp [Value.cells] at hu;subst hu;rfl) (fun w H=>?_)
     replace H:Hd w0 F0 w [blk b67 (Bq (.slice A42 J34.us.length c43) (.slice A47 J34.map.length c48) (.slice A52 J34.comb.length c53) (.slice A57 J34.red.length c58) (.slice A62 J34.marks.length c63) J34 C.w C.t C.o p ep (CN R.g ((a73).toNat) { R.g ((a73).toNat) with merged:=true }) (CN hv ((a73).toNat) (.slice A95 pr79.length c96:Value)) b41 vs) 185,Y Ag (.slice A95 pr79.length c96) pr79,blk b89 [.int .i64 a71,.int .i64 a72,.int .i64 a73,.int .i64 a74,.int .i64 a75,.slice A80 se77.length c81,.slice A82 pr79.length c83] 37,Y (Ao Ag) (.slice A42 J34.us.length c43) J34.us,Y Af (.slice A47 J34.map.length c48) J34.map,Y Af (.slice A52 J34.comb.length c53) J34.comb,Y Af (.slice A57 J34.red.length c58) J34.red,Y (Ai .i64) (.slice A62 J34.marks.length c63) J34.marks,BF (R.g) hv,Y (Ao (Ai .i64)) vs us,CB 253 b41 ([])] [Ab (Ao Ag) (.slice A1 C.J.us.length c2) C.J.us,Ab Af (.slice A6 C.J.map.length c7) C.J.map,Ab Af (.slice A11 C.J.comb.length c12) C.J.comb,Ab Af (.slice A16 C.J.red.length c17) C.J.red,Ab (Ai .i64) (.slice A21 C.J.marks.length c22) C.J.marks,Ab BZ (.slice A26 recs.length c27) recs]:=by rw [←XJ (show (a73).toNat<6 by omega) (.slice A95 pr79.length c96:Value)];exact H
     refine Ac (Z (Aa (Ae (V U U (Aj U GC U) (V U U (Al U AA U (H.cellI 2 U U)) (V U U (AW U U U) (Ac (Z ?_))))))))
     refine Aw U (fun h100=>?_) (fun h100=>?_)
     ·exfalso;omega
     refine Ax (AU (Z (Ae (V U U (AX (z:=((k+1:Nat):Int)) U U U (by rw [AB (by omega) (by omega)];omega)) (Ad U (Ac ?_))))))
     have hpart:(Bp.p (⟨a71,a72,a73,a74,a75,.slice A80 se77.length c81,se77,.slice A82 pr79.length c83,pr79⟩:Bp)).part=R.part:=by rw [hRp];exact Classical.not_not.1 h90
     replace H:=H.pick 10 rfl|>.pick 10 rfl|>.p9|>.p9|>.p9|>.p9|>.p9|>.p7|>.pick 10 rfl|>.p9|>.k10|>.prsU (i:=(a73).toNat) (x:=({ R.g (a73).toNat with merged:=true,pairs:=pr79 }:Dd)) (by omega)
     replace H:Hd w0 F0 w [BF (({ R with g:=CN R.g (a73).toNat ({ R.g (a73).toNat with merged:=true,pairs:=pr79 }:Dd) }:AI).g) (CN hv (a73).toNat (.slice A95 pr79.length c96:Value)),blk b67 (Bq (.slice A42 J34.us.length c43) (.slice A47 J34.map.length c48) (.slice A52 J34.comb.length c53) (.slice A57 J34.red.length c58) (.slice A62 J34.marks.length c63) J34 C.w C.t C.o p ep (({ R with g:=CN R.g (a73).toNat ({ R.g (a73).toNat with merged:=true,pairs:=pr79 }:Dd) }:AI).g) (CN hv (a73).toNat (.slice A95 pr79.length c96:Value)) b41 vs) 185,Y (Ao Ag) (.slice A42 J34.us.length c43) J34.us,Y Af (.slice A47 J34.map.length c48) J34.map,Y Af (.slice A52 J34.comb.length c53) J34.comb,Y Af (.slice A57 J34.red.length c58) J34.red,Y (Ai .i64) (.slice A62 J34.marks.length c63) J34.marks,Y (Ao (Ai .i64)) vs us,CB 253 b41 ([])] [Ab (Ao Ag) (.slice A1 C.J.us.length c2) C.J.us,Ab Af (.slice A6 C.J.map.length c7) C.J.map,Ab Af (.slice A11 C.J.comb.length c12) C.J.comb,Ab Af (.slice A16 C.J.red.length c17) C.J.red,Ab (Ai .i64) (.slice A21 C.J.marks.length c22) C.J.marks,Ab BZ (.slice A26 recs.length c27) recs]:=by
       rw [←XH (g:=CN R.g (a73).toNat { R.g (a73).toNat with merged:=true }) (g':=({ R with g:=CN R.g (a73).toNat ({ R.g (a73).toNat with merged:=true,pairs:=pr79 }:Dd) }:AI).g) (fun j=>by dsimp only;by_cases e:j=(a73).toNat<;>first |(subst e;rw [Hb,Hb];exact ⟨rfl,rfl,rfl,rfl⟩)|(rw [Ha _ _ e,Ha _ _ e];exact ⟨rfl,rfl,rfl,rfl⟩))]
       exact H
     have hR2:=Fj hR hx70 (XA hpart h92 hin91 (by simpa [Bp.p] using h93))
     replace H:=H.sel 9 [1,2,3,4,5,6,0,7,8] [] rfl (by kernel_rfl)
     replace H:Hd _ _ _ [blk b67 (Bq (.slice A42 J34.us.length c43) (.slice A47 J34.map.length c48) (.slice A52 J34.comb.length c53) (.slice A57 J34.red.length c58) (.slice A62 J34.marks.length c63) J34 C.w C.t C.o p ep (({ R with g:=CN R.g (a73).toNat ({ R.g (a73).toNat with merged:=true,pairs:=pr79 }:Dd) }:AI).g) (CN hv (a73).toNat (.slice A95 pr79.length c96:Value)) b41 vs) 185,Y (Ao Ag) (.slice A42 J34.us.length c43) J34.us,Y Af (.slice A47 J34.map.length c48) J34.map,Y Af (.slice A52 J34.comb.length c53) J34.comb,Y Af (.slice A57 J34.red.length c58) J34.red,Y (Ai .i64) (.slice A62 J34.marks.length c63) J34.marks,BF (({ R with g:=CN R.g (a73).toNat ({ R.g (a73).toNat with merged:=true,pairs:=pr79 }:Dd) }:AI).g) (CN hv (a73).toNat (.slice A95 pr79.length c96:Value)),Y (Ao (Ai .i64)) vs us,CB 253 b41 ([])] [Ab (Ao Ag) (.slice A1 C.J.us.length c2) C.J.us,Ab Af (.slice A6 C.J.map.length c7) C.J.map,Ab Af (.slice A11 C.J.comb.length c12) C.J.comb,Ab Af (.slice A16 C.J.red.length c17) C.J.red,Ab (Ai .i64) (.slice A21 C.J.marks.length c22) C.J.marks,Ab BZ (.slice A26 recs.length c27) recs]:=H
     exact Bj (s:=(k,R,hv,undef,us)) (k+1,({ R with g:=CN R.g (a73).toNat ({ R.g (a73).toNat with merged:=true,pairs:=pr79 }:Dd) }:AI),CN hv (a73).toNat (.slice A95 pr79.length c96:Value),vs,us) ⟨rfl,rfl,rfl,rfl,rfl,rfl,rfl,trivial⟩ ⟨H,hR2,hRp,by (try dsimp only);exact hus,by (try dsimp only);omega,by (try dsimp only);omega⟩ (by (try dsimp only);omega)
    refine Ax (Z (Aa (Ae (V U U (Aj U GC U) (V U U (Al U AA U (H.cellI 0 U U)) (V U U (AW U U U) (Ac (Z ?_))))))))
    refine Aw U (fun h101=>?_) (fun h101=>?_)
    ·exfalso;omega
    refine Ax (AU (Z (Ae (V U U (AX (z:=((k+1:Nat):Int)) U U U (by rw [AB (by omega) (by omega)];omega)) (Ad U (Ac ?_))))))
    have hpart:(Bp.p (⟨a71,a72,a73,a74,a75,.slice A80 se77.length c81,se77,.slice A82 pr79.length c83,pr79⟩:Bp)).part=R.part:=by rw [hRp];exact Classical.not_not.1 h90
    have hR2:=Fj hR hx70 (J5 hpart (fun h=>by have h2:=h.2.2;have h3:=h93;dsimp only [Bp.p] at h2;rw [h2] at h3;exact absurd h3 (by decide)) h101)
    replace H:=H.p9.p9.p9.p9.p9.p9.p9.p9.p9.k9
    exact Bj (s:=(k,R,hv,undef,us)) (k+1,R,hv,vs,us) ⟨rfl,rfl,rfl,rfl,rfl,rfl,rfl,trivial⟩ ⟨H,hR2,hRp,by (try dsimp only);exact hus,by (try dsimp only);omega,by (try dsimp only);omega⟩ (by (try dsimp only);omega)
   refine Ah 10 U (Ac (Z (B7 U (Ax (Z (Aa (Ae (V U U (Aj U GC U) (V U U (Al U AA U (H.cellI 0 U U)) (V U U (AW U U U) (Ac (Z ?_))))))))))))
   refine Aw U (fun h102=>?_) (fun h102=>?_)
   ·replace H:=H.p9.p8.p8.p8.p8.p8.p8.p7
    refine B1 (.e 0 (.e 1 (.e 2 (.e 3 (.e 5 (.e 6 (.b 4 7 (.m 7 (.m 8 (.m 9 (.e 10 (.e 11 (.m 12 .z)))))) (.b 4 8 (.m 8 (.m 9 (.e 10 (.e 11 (.m 12 .z))))) (.m 4 (.m 9 (.e 10 (.e 11 (.m 12 .z))))))))))))) (fun w=>∃ Ar,Hd w0 F0 w (blk b89 [.int .i64 a71,.int .i64 a72,.int .i64 a73,.int .i64 a74,.int .i64 a75,.slice A80 se77.length c81,.slice A82 pr79.length c83] 37::Y (Ao Ag) (.slice A42 J34.us.length c43) J34.us::Y Af (.slice A47 J34.map.length c48) J34.map::Y Af (.slice A52 J34.comb.length c53) J34.comb::Y Af (.slice A57 J34.red.length c58) J34.red::Y (Ai .i64) (.slice A62 J34.marks.length c63) J34.marks::BF (R.g) hv::CB 253 b41 ([])::Ar) [Ab (Ao Ag) (.slice A1 C.J.us.length c2) C.J.us,Ab Af (.slice A6 C.J.map.length c7) C.J.map,Ab Af (.slice A11 C.J.comb.length c12) C.J.comb,Ab Af (.slice A16 C.J.red.length c17) C.J.red,Ab (Ai .i64) (.slice A21 C.J.marks.length c22) C.J.marks,Ab BZ (.slice A26 recs.length c27) recs]) mo (by kernel_rfl) (fun w H=>⟨_,H⟩) H (fun w H=>?_)
    refine At U (At U (Ap U U U (fun w ⟨Ar,H⟩=>AF U U) (Ap U U U (fun w ⟨Ar,H⟩=>Aj U GB U) (Ap U U U (fun w ⟨Ar,H⟩=>Aj U Oj U) (Ap U U U (fun w ⟨Ar,H⟩=>Al U Fr U (H.cellI 0 U U)) ?_)))))
    refine Hu U U ?_ ?_
    ·refine V U U (Al U Fp U (H.cellI 8 U U)) (AJ ⟨_,H⟩ (AO U (sc (Ih (.slice A80 se77.length c81) se77 (by first |assumption|omega)) H (lX (fun F hA hR=>IM (hR _ (List.mem_of_getElem? (i:=5) U)) hx70) l0) U U (Au Iu U U) ?_)))
     rintro v103 _ w rfl H
     replace H:=H.h1 (A:=Y (Ai .i64) v103 se77)|>.p8|>.p8|>.p8|>.p8|>.p8|>.p8|>.p8|>.p8
     refine AJ ⟨_,H⟩ (AO U ?_)
     obtain ⟨A105,c106,rfl,hc107,hm108,hp109⟩:=H.fA 8 rfl
     refine BW (parts:=[(0,.tmp 76)]) (vs:=[.slice A105 se77.length c106]) (cs:=[.slice A105 se77.length c106]) U U U Fm Fu U (by decide) (by decide) U U H (fun b104 w H=>?_)
     replace H:Hd _ _ _ [blk b104 [.slice A105 se77.length c106] 24,blk b89 [.int .i64 a71,.int .i64 a72,.int .i64 a73,.int .i64 a74,.int .i64 a75,.slice A80 se77.length c81,.slice A82 pr79.length c83] 37,Y (Ao Ag) (.slice A42 J34.us.length c43) J34.us,Y Af (.slice A47 J34.map.length c48) J34.map,Y Af (.slice A52 J34.comb.length c53) J34.comb,Y Af (.slice A57 J34.red.length c58) J34.red,Y (Ai .i64) (.slice A62 J34.marks.length c63) J34.marks,BF (R.g) hv,CB 253 b41 ([]),Y (Ai .i64) (.slice A105 se77.length c106) se77,blk b67 (Bq (.slice A42 J34.us.length c43) (.slice A47 J34.map.length c48) (.slice A52 J34.comb.length c53) (.slice A57 J34.red.length c58) (.slice A62 J34.marks.length c63) J34 C.w C.t C.o p ep R.g hv b41 vs) 185,Y (Ao (Ai .i64)) vs us] [Ab (Ao Ag) (.slice A1 C.J.us.length c2) C.J.us,Ab Af (.slice A6 C.J.map.length c7) C.J.map,Ab Af (.slice A11 C.J.comb.length c12) C.J.comb,Ab Af (.slice A16 C.J.red.length c17) C.J.red,Ab (Ai .i64) (.slice A21 C.J.marks.length c22) C.J.marks,Ab BZ (.slice A26 recs.length c27) recs]:=H
     replace H:=H.p8.p8.p8.p8.p8.p8.p8.p8
     refine AJ ⟨_,H⟩ (AO U ?_)
     replace H:=H.pick 11 rfl|>.pick 10 rfl|>.pick 10 rfl|>.p2
     refine HT U U U Fm Fu U (by decide) U U H (by first |omega|(simp only [List.length_append,List.length_cons,List.length_nil];omega)) (fun v110 w H=>?_)
     replace H:=H.h1 (A:=Y (Ao (Ai .i64)) v110 (us++[((.slice A105 se77.length c106:Value),se77)]))|>.p8|>.p8|>.p8|>.p8|>.p8|>.p8|>.p8|>.p8
     refine AJ ⟨_,H⟩ (Ap U U U (fun w ⟨Ar,H⟩=>AF U U) (Ap U U U (fun w ⟨Ar,H⟩=>Aj U GB U) (AO U ?_)))
     obtain ⟨A111,c112,rfl,hc113,hm114,hp115⟩:=H.fA 8 rfl
     replace H:=H.p9
     refine BD U U U Fp U U H U (Nat.le_of_ble_eq_true U) (fun u hu=>by simp [Value.cells] at hu;subst hu;rfl) (fun w H=>?_)
     replace H:Hd _ _ _ [blk b67 (Bq (.slice A42 J34.us.length c43) (.slice A47 J34.map.length c48) (.slice A52 J34.comb.length c53) (.slice A57 J34.red.length c58) (.slice A62 J34.marks.length c63) J34 C.w C.t C.o p ep R.g hv b41 (.slice A111 ((us++[((.slice A105 se77.length c106:Value),se77)]).length) c112)) 185,blk b89 [.int .i64 a71,.int .i64 a72,.int .i64 a73,.int .i64 a74,.int .i64 a75,.slice A80 se77.length c81,.slice A82 pr79.length c83] 37,Y (Ao Ag) (.slice A42 J34.us.length c43) J34.us,Y Af (.slice A47 J34.map.length c48) J34.map,Y Af (.slice A52 J34.comb.length c53) J34.comb,Y Af (.slice A57 J34.red.length c58) J34.red,Y (Ai .i64) (.slice A62 J34.marks.length c63) J34.marks,BF (R.g) hv,CB 253 b41 ([]),Y (Ao (Ai .i64)) (.slice A111 ((us++[((.slice A105 se77.length c106:Value),se77)]).length) c112) (us++[((.slice A105 se77.length c106:Value),se77)])] [Ab (Ao Ag) (.slice A1 C.J.us.length c2) C.J.us,Ab Af (.slice A6 C.J.map.length c7) C.J.map,Ab Af (.slice A11 C.J.comb.length c12) C.J.comb,Ab Af (.slice A16 C.J.red.length c17) C.J.red,Ab (Ai .i64) (.slice A21 C.J.marks.length c22) C.J.marks,Ab BZ (.slice A26 recs.length c27) recs]:=H
     replace H:=H.p8.p8.p8.p8.p8.p8.p8.p8
     refine AJ ⟨_,H⟩ (BK (AU (Z (Ae (V U U (AX (z:=((k+1:Nat):Int)) U U U (by rw [AB (by omega) (by omega)];omega)) (Ad U (Ac ?_)))))))
     have hpart:(Bp.p (⟨a71,a72,a73,a74,a75,.slice A80 se77.length c81,se77,.slice A82 pr79.length c83,pr79⟩:Bp)).part=R.part:=by rw [hRp];exact Classical.not_not.1 h90
     have hR2:=Fj hR hx70 (HP hpart h102)
     replace H:=H.p7.p9.p8.p8.p8.p8.p8.p8.p9.k9.h7 (A:=blk b67 (Bq (.slice A42 J34.us.length c43) (.slice A47 J34.map.length c48) (.slice A52 J34.comb.length c53) (.slice A57 J34.red.length c58) (.slice A62 J34.marks.length c63) J34 C.w C.t C.o p ep (({ R with sets:=R.sets++[se77] }:AI).g) hv b41 (.slice A111 ((us++[((.slice A105 se77.length c106:Value),se77)]).length) c112)) 185) (G:=BF (({ R with sets:=R.sets++[se77] }:AI).g) hv)
     exact Bj (s:=(k,R,hv,undef,us)) (k+1,({ R with sets:=R.sets++[se77] }:AI),hv,.slice A111 ((us++[((.slice A105 se77.length c106:Value),se77)]).length) c112,us++[((.slice A105 se77.length c106:Value),se77)]) ⟨rfl,rfl,rfl,rfl,rfl,rfl,rfl,trivial⟩ ⟨H,hR2,hRp,by (try dsimp only);rw [List.map_append,hus];rfl,by (try dsimp only);omega,by (try dsimp only);rw [List.length_append];simp only [List.length_cons,List.length_nil];omega⟩ (by (try dsimp only);omega)
    refine sc (Ih (.slice A80 se77.length c81) se77 (by first |assumption|omega)) H (lX (fun F hA hR=>IM (hR _ (List.mem_of_getElem? (i:=5) U)) hx70) l0) U U (Au Iu U U) ?_
    rintro v116 _ w rfl H
    replace H:=H.h1 (A:=Y (Ai .i64) v116 se77)|>.p8|>.p8|>.p8|>.p8|>.p8|>.p8|>.p8|>.p8
    refine AJ ⟨_,H⟩ ?_
    refine Hu U U ?_ ?_
    ·refine V U U (Al U Fp U (H.cellI 9 U U)) (AJ ⟨_,H⟩ (AO U ?_))
     obtain ⟨A118,c119,rfl,hc120,hm121,hp122⟩:=H.fA 8 rfl
     refine BW (parts:=[(0,.tmp 76)]) (vs:=[.slice A118 se77.length c119]) (cs:=[.slice A118 se77.length c119]) U U U Fm Fu U (by decide) (by decide) U U H (fun b117 w H=>?_)
     replace H:Hd _ _ _ [blk b117 [.slice A118 se77.length c119] 24,blk b89 [.int .i64 a71,.int .i64 a72,.int .i64 a73,.int .i64 a74,.int .i64 a75,.slice A80 se77.length c81,.slice A82 pr79.length c83] 37,Y (Ao Ag) (.slice A42 J34.us.length c43) J34.us,Y Af (.slice A47 J34.map.length c48) J34.map,Y Af (.slice A52 J34.comb.length c53) J34.comb,Y Af (.slice A57 J34.red.length c58) J34.red,Y (Ai .i64) (.slice A62 J34.marks.length c63) J34.marks,BF (R.g) hv,CB 253 b41 ([]),Y (Ai .i64) (.slice A118 se77.length c119) se77,blk b67 (Bq (.slice A42 J34.us.length c43) (.slice A47 J34.map.length c48) (.slice A52 J34.comb.length c53) (.slice A57 J34.red.length c58) (.slice A62 J34.marks.length c63) J34 C.w C.t C.o p ep R.g hv b41 vs) 185,Y (Ao (Ai .i64)) vs us] [Ab (Ao Ag) (.slice A1 C.J.us.length c2) C.J.us,Ab Af (.slice A6 C.J.map.length c7) C.J.map,Ab Af (.slice A11 C.J.comb.length c12) C.J.comb,Ab Af (.slice A16 C.J.red.length c17) C.J.red,Ab (Ai .i64) (.slice A21 C.J.marks.length c22) C.J.marks,Ab BZ (.slice A26 recs.length c27) recs]:=H
     replace H:=H.p8.p8.p8.p8.p8.p8.p8.p8
     refine AJ ⟨_,H⟩ (AO U ?_)
     replace H:=H.pick 11 rfl|>.pick 10 rfl|>.pick 10 rfl|>.p2
     refine HT U U U Fm Fu U (by decide) U U H (by first |omega|(simp only [List.length_append,List.length_cons,List.length_nil];omega)) (fun v123 w H=>?_)
     replace H:=H.h1 (A:=Y (Ao (Ai .i64)) v123 (us++[((.slice A118 se77.length c119:Value),se77)]))|>.p8|>.p8|>.p8|>.p8|>.p8|>.p8|>.p8|>.p8
     refine AJ ⟨_,H⟩ (Ap U U U (fun w ⟨Ar,H⟩=>AF U U) (Ap U U U (fun w ⟨Ar,H⟩=>Aj U GB U) (AO U ?_)))
     obtain ⟨A124,c125,rfl,hc126,hm127,hp128⟩:=H.fA 8 rfl
     replace H:=H.p9
     refine BD U U U Fp U U H U (Nat.le_of_ble_eq_true U) (fun u hu=>by simp [Value.cells] at hu;subst hu;rfl) (fun w H=>?_)
     replace H:Hd _ _ _ [blk b67 (Bq (.slice A42 J34.us.length c43) (.slice A47 J34.map.length c48) (.slice A52 J34.comb.length c53) (.slice A57 J34.red.length c58) (.slice A62 J34.marks.length c63) J34 C.w C.t C.o p ep R.g hv b41 (.slice A124 ((us++[((.slice A118 se77.length c119:Value),se77)]).length) c125)) 185,blk b89 [.int .i64 a71,.int .i64 a72,.int .i64 a73,.int .i64 a74,.int .i64 a75,.slice A80 se77.length c81,.slice A82 pr79.length c83] 37,Y (Ao Ag) (.slice A42 J34.us.length c43) J34.us,Y Af (.slice A47 J34.map.length c48) J34.map,Y Af (.slice A52 J34.comb.length c53) J34.comb,Y Af (.slice A57 J34.red.length c58) J34.red,Y (Ai .i64) (.slice A62 J34.marks.length c63) J34.marks,BF (R.g) hv,CB 253 b41 ([]),Y (Ao (Ai .i64)) (.slice A124 ((us++[((.slice A118 se77.length c119:Value),se77)]).length) c125) (us++[((.slice A118 se77.length c119:Value),se77)])] [Ab (Ao Ag) (.slice A1 C.J.us.length c2) C.J.us,Ab Af (.slice A6 C.J.map.length c7) C.J.map,Ab Af (.slice A11 C.J.comb.length c12) C.J.comb,Ab Af (.slice A16 C.J.red.length c17) C.J.red,Ab (Ai .i64) (.slice A21 C.J.marks.length c22) C.J.marks,Ab BZ (.slice A26 recs.length c27) recs]:=H
     replace H:=H.p8.p8.p8.p8.p8.p8.p8.p8
     refine AJ ⟨_,H⟩ (BK (AU (Z (Ae (V U U (AX (z:=((k+1:Nat):Int)) U U U (by rw [AB (by omega) (by omega)];omega)) (Ad U (Ac ?_)))))))
     have hpart:(Bp.p (⟨a71,a72,a73,a74,a75,.slice A80 se77.length c81,se77,.slice A82 pr79.length c83,pr79⟩:Bp)).part=R.part:=by rw [hRp];exact Classical.not_not.1 h90
     have hR2:=Fj hR hx70 (HP hpart h102)
     replace H:=H.p7.p9.p8.p8.p8.p8.p8.p8.p9.k9.h7 (A:=blk b67 (Bq (.slice A42 J34.us.length c43) (.slice A47 J34.map.length c48) (.slice A52 J34.comb.length c53) (.slice A57 J34.red.length c58) (.slice A62 J34.marks.length c63) J34 C.w C.t C.o p ep (({ R with sets:=R.sets++[se77] }:AI).g) hv b41 (.slice A124 ((us++[((.slice A118 se77.length c119:Value),se77)]).length) c125)) 185) (G:=BF (({ R with sets:=R.sets++[se77] }:AI).g) hv)
     exact Bj (s:=(k,R,hv,undef,us)) (k+1,({ R with sets:=R.sets++[se77] }:AI),hv,.slice A124 ((us++[((.slice A118 se77.length c119:Value),se77)]).length) c125,us++[((.slice A118 se77.length c119:Value),se77)]) ⟨rfl,rfl,rfl,rfl,rfl,rfl,rfl,trivial⟩ ⟨H,hR2,hRp,by (try dsimp only);rw [List.map_append,hus];rfl,by (try dsimp only);omega,by (try dsimp only);rw [List.length_append];simp only [List.length_cons,List.length_nil];omega⟩ (by (try dsimp only);omega)
    obtain ⟨A130,c131,rfl,hc132,hm133,hp134⟩:=H.fA 8 rfl
    refine BW (parts:=[(0,.tmp 76)]) (vs:=[.slice A130 se77.length c131]) (cs:=[.slice A130 se77.length c131]) U U U Fm Fu U (by decide) (by decide) U U H (fun b129 w H=>?_)
    replace H:Hd _ _ _ [blk b129 [.slice A130 se77.length c131] 24,blk b89 [.int .i64 a71,.int .i64 a72,.int .i64 a73,.int .i64 a74,.int .i64 a75,.slice A80 se77.length c81,.slice A82 pr79.length c83] 37,Y (Ao Ag) (.slice A42 J34.us.length c43) J34.us,Y Af (.slice A47 J34.map.length c48) J34.map,Y Af (.slice A52 J34.comb.length c53) J34.comb,Y Af (.slice A57 J34.red.length c58) J34.red,Y (Ai .i64) (.slice A62 J34.marks.length c63) J34.marks,BF (R.g) hv,CB 253 b41 ([]),Y (Ai .i64) (.slice A130 se77.length c131) se77,blk b67 (Bq (.slice A42 J34.us.length c43) (.slice A47 J34.map.length c48) (.slice A52 J34.comb.length c53) (.slice A57 J34.red.length c58) (.slice A62 J34.marks.length c63) J34 C.w C.t C.o p ep R.g hv b41 vs) 185,Y (Ao (Ai .i64)) vs us] [Ab (Ao Ag) (.slice A1 C.J.us.length c2) C.J.us,Ab Af (.slice A6 C.J.map.length c7) C.J.map,Ab Af (.slice A11 C.J.comb.length c12) C.J.comb,Ab Af (.slice A16 C.J.red.length c17) C.J.red,Ab (Ai .i64) (.slice A21 C.J.marks.length c22) C.J.marks,Ab BZ (.slice A26 recs.length c27) recs]:=H
    replace H:=H.p8.p8.p8.p8.p8.p8.p8.p8
    refine AJ ⟨_,H⟩ (AO U (V U U (Al U Fp U (H.cellI 10 U U)) (AJ ⟨_,H⟩ (AO U ?_))))
    replace H:=H.pick 11 rfl|>.pick 10 rfl|>.pick 10 rfl|>.p2
    refine HT U U U Fm Fu U (by decide) U U H (by first |omega|(simp only [List.length_append,List.length_cons,List.length_nil];omega)) (fun v135 w H=>?_)
    replace H:=H.h1 (A:=Y (Ao (Ai .i64)) v135 (us++[((.slice A130 se77.length c131:Value),se77)]))|>.p8|>.p8|>.p8|>.p8|>.p8|>.p8|>.p8|>.p8
    refine AJ ⟨_,H⟩ (Ap U U U (fun w ⟨Ar,H⟩=>AF U U) (Ap U U U (fun w ⟨Ar,H⟩=>Aj U GB U) (AO U ?_)))
    obtain ⟨A136,c137,rfl,hc138,hm139,hp140⟩:=H.fA 8 rfl
    replace H:=H.p9
    refine BD U U U Fp U U H U (Nat.le_of_ble_eq_true U) (fun u hu=>by simp [Value.cells] at hu;subst hu;rfl) (fun w H=>?_)
    replace H:Hd _ _ _ [blk b67 (Bq (.slice A42 J34.us.length c43) (.slice A47 J34.map.length c48) (.slice A52 J34.comb.length c53) (.slice A57 J34.red.length c58) (.slice A62 J34.marks.length c63) J34 C.w C.t C.o p ep R.g hv b41 (.slice A136 ((us++[((.slice A130 se77.length c131:Value),se77)]).length) c137)) 185,blk b89 [.int .i64 a71,.int .i64 a72,.int .i64 a73,.int .i64 a74,.int .i64 a75,.slice A80 se77.length c81,.slice A82 pr79.length c83] 37,Y (Ao Ag) (.slice A42 J34.us.length c43) J34.us,Y Af (.slice A47 J34.map.length c48) J34.map,Y Af (.slice A52 J34.comb.length c53) J34.comb,Y Af (.slice A57 J34.red.length c58) J34.red,Y (Ai .i64) (.slice A62 J34.marks.length c63) J34.marks,BF (R.g) hv,CB 253 b41 ([]),Y (Ao (Ai .i64)) (.slice A136 ((us++[((.slice A130 se77.length c131:Value),se77)]).length) c137) (us++[((.slice A130 se77.length c131:Value),se77)])] [Ab (Ao Ag) (.slice A1 C.J.us.length c2) C.J.us,Ab Af (.slice A6 C.J.map.length c7) C.J.map,Ab Af (.slice A11 C.J.comb.length c12) C.J.comb,Ab Af (.slice A16 C.J.red.length c17) C.J.red,Ab (Ai .i64) (.slice A21 C.J.marks.length c22) C.J.marks,Ab BZ (.slice A26 recs.length c27) recs]:=H
    replace H:=H.p8.p8.p8.p8.p8.p8.p8.p8
    refine AJ ⟨_,H⟩ (BK (AU (Z (Ae (V U U (AX (z:=((k+1:Nat):Int)) U U U (by rw [AB (by omega) (by omega)];omega)) (Ad U (Ac ?_)))))))
    have hpart:(Bp.p (⟨a71,a72,a73,a74,a75,.slice A80 se77.length c81,se77,.slice A82 pr79.length c83,pr79⟩:Bp)).part=R.part:=by rw [hRp];exact Classical.not_not.1 h90
    have hR2:=Fj hR hx70 (HP hpart h102)
    replace H:=H.p7.p9.p8.p8.p8.p8.p8.p8.p9.k9.h7 (A:=blk b67 (Bq (.slice A42 J34.us.length c43) (.slice A47 J34.map.length c48) (.slice A52 J34.comb.length c53) (.slice A57 J34.red.length c58) (.slice A62 J34.marks.length c63) J34 C.w C.t C.o p ep (({ R with sets:=R.sets++[se77] }:AI).g) hv b41 (.slice A136 ((us++[((.slice A130 se77.length c131:Value),se77)]).length) c137)) 185) (G:=BF (({ R with sets:=R.sets++[se77] }:AI).g) hv)
    exact Bj (s:=(k,R,hv,undef,us)) (k+1,({ R with sets:=R.sets++[se77] }:AI),hv,.slice A136 ((us++[((.slice A130 se77.length c131:Value),se77)]).length) c137,us++[((.slice A130 se77.length c131:Value),se77)]) ⟨rfl,rfl,rfl,rfl,rfl,rfl,rfl,trivial⟩ ⟨H,hR2,hRp,by (try dsimp only);rw [List.map_append,hus];rfl,by (try dsimp only);omega,by (try dsimp only);rw [List.length_append];simp only [List.length_cons,List.length_nil];omega⟩ (by (try dsimp only);omega)
   refine Ax (AU (Z (Ae (V U U (AX (z:=((k+1:Nat):Int)) U U U (by rw [AB (by omega) (by omega)];omega)) (Ad U (Ac ?_))))))
   have hpart:(Bp.p (⟨a71,a72,a73,a74,a75,.slice A80 se77.length c81,se77,.slice A82 pr79.length c83,pr79⟩:Bp)).part=R.part:=by rw [hRp];exact Classical.not_not.1 h90
   have hR2:=Fj hR hx70 (J5 hpart (fun h=>h92 h.1) h102)
   replace H:=H.p9.p9.p9.p9.p9.p9.p9.p9.p9.k9
   exact Bj (s:=(k,R,hv,undef,us)) (k+1,R,hv,vs,us) ⟨rfl,rfl,rfl,rfl,rfl,rfl,rfl,trivial⟩ ⟨H,hR2,hRp,by (try dsimp only);exact hus,by (try dsimp only);omega,by (try dsimp only);omega⟩ (by (try dsimp only);omega)
  refine Ae (Ad U (V U U (Aj U Oi U) (V U U (Al U AA U (H.cellI 0 U U)) (sc (Rl b67 A42 J34.us.length c43 (.slice A47 J34.map.length c48) (.slice A52 J34.comb.length c53) (.slice A57 J34.red.length c58) (.slice A62 J34.marks.length c63) J34 C.w C.t C.o p ep R.g hv b41 vs a73 (by first |assumption|omega)) H (lA 1 U (fun _ h=>h) l0) U U (Au OL U U) ?_))))
  rintro _ _ w ⟨rfl,rfl⟩ H
  refine Ad U (Ac (Z (Aa (Ae (V U U (Aj U GC U) (V U U (Al U AA U (H.cellI 0 U U)) (V U U (AW U U U) (Ad U ?_))))))))
  refine AN (d:=46) U (fun h141=>?_) (fun h141=>?_)
  ·refine Ad U (V U U (IJ U QV U U) (Ah 8 U (Ac (Z (B7 U (Ax (Z (Aa (Ae (V U U (Aj U GC U) (V U U (Al U AA U (H.cellI 0 U U)) (V U U (AW U U U) (Ac (Z ?_))))))))))))))
   refine Aw U (fun h142=>?_) (fun h142=>?_)
   ·exfalso;omega
   refine Ax (AU (Z (Ae (V U U (AX (z:=((k+1:Nat):Int)) U U U (by rw [AB (by omega) (by omega)];omega)) (Ad U (Ac ?_))))))
   have hpart:(Bp.p (⟨a71,a72,a73,a74,a75,.slice A80 se77.length c81,se77,.slice A82 pr79.length c83,pr79⟩:Bp)).part=R.part:=by rw [hRp];exact Classical.not_not.1 h90
   have hR2:=Fj hR hx70 (J5 hpart (fun h=>hin91 h.2.1) h142)
   replace H:=H.p9.p9.p9.p9.p9.p9.p9.p9.p9.k9
   exact Bj (s:=(k,R,hv,undef,us)) (k+1,R,hv,vs,us) ⟨rfl,rfl,rfl,rfl,rfl,rfl,rfl,trivial⟩ ⟨H,hR2,hRp,by (try dsimp only);exact hus,by (try dsimp only);omega,by (try dsimp only);omega⟩ (by (try dsimp only);omega)
  refine Ah 10 U (Ac (Z (B7 U (Ax (Z (Aa (Ae (V U U (Aj U GC U) (V U U (Al U AA U (H.cellI 0 U U)) (V U U (AW U U U) (Ac (Z ?_))))))))))))
  refine Aw U (fun h143=>?_) (fun h143=>?_)
  ·replace H:=H.p9.p8.p8.p8.p8.p8.p8.p7
   refine B1 (.e 0 (.e 1 (.e 2 (.e 3 (.e 5 (.e 6 (.b 4 7 (.m 7 (.m 8 (.m 9 (.e 10 (.e 11 (.m 12 .z)))))) (.b 4 8 (.m 8 (.m 9 (.e 10 (.e 11 (.m 12 .z))))) (.m 4 (.m 9 (.e 10 (.e 11 (.m 12 .z))))))))))))) (fun w=>∃ Ar,Hd w0 F0 w (blk b89 [.int .i64 a71,.int .i64 a72,.int .i64 a73,.int .i64 a74,.int .i64 a75,.slice A80 se77.length c81,.slice A82 pr79.length c83] 37::Y (Ao Ag) (.slice A42 J34.us.length c43) J34.us::Y Af (.slice A47 J34.map.length c48) J34.map::Y Af (.slice A52 J34.comb.length c53) J34.comb::Y Af (.slice A57 J34.red.length c58) J34.red::Y (Ai .i64) (.slice A62 J34.marks.length c63) J34.marks::BF (R.g) hv::CB 253 b41 ([])::Ar) [Ab (Ao Ag) (.slice A1 C.J.us.length c2) C.J.us,Ab Af (.slice A6 C.J.map.length c7) C.J.map,Ab Af (.slice A11 C.J.comb.length c12) C.J.comb,Ab Af (.slice A16 C.J.red.length c17) C.J.red,Ab (Ai .i64) (.slice A21 C.J.marks.length c22) C.J.marks,Ab BZ (.slice A26 recs.length c27) recs]) mo (by kernel_rfl) (fun w H=>⟨_,H⟩) H (fun w H=>?_)
   refine At U (At U (Ap U U U (fun w ⟨Ar,H⟩=>AF U U) (Ap U U U (fun w ⟨Ar,H⟩=>Aj U GB U) (Ap U U U (fun w ⟨Ar,H⟩=>Aj U Oj U) (Ap U U U (fun w ⟨Ar,H⟩=>Al U Fr U (H.cellI 0 U U)) ?_)))))
   refine Hu U U ?_ ?_
   ·refine V U U (Al U Fp U (H.cellI 8 U U)) (AJ ⟨_,H⟩ (AO U (sc (Ih (.slice A80 se77.length c81) se77 (by first |assumption|omega)) H (lX (fun F hA hR=>IM (hR _ (List.mem_of_getElem? (i:=5) U)) hx70) l0) U U (Au Iu U U) ?_)))
    rintro v144 _ w rfl H
    replace H:=H.h1 (A:=Y (Ai .i64) v144 se77)|>.p8|>.p8|>.p8|>.p8|>.p8|>.p8|>.p8|>.p8
    refine AJ ⟨_,H⟩ (AO U ?_)
    obtain ⟨A146,c147,rfl,hc148,hm149,hp150⟩:=H.fA 8 rfl
    refine BW (parts:=[(0,.tmp 76)]) (vs:=[.slice A146 se77.length c147]) (cs:=[.slice A146 se77.length c147]) U U U Fm Fu U (by decide) (by decide) U U H (fun b145 w H=>?_)
    replace H:Hd _ _ _ [blk b145 [.slice A146 se77.length c147] 24,blk b89 [.int .i64 a71,.int .i64 a72,.int .i64 a73,.int .i64 a74,.int .i64 a75,.slice A80 se77.length c81,.slice A82 pr79.length c83] 37,Y (Ao Ag) (.slice A42 J34.us.length c43) J34.us,Y Af (.slice A47 J34.map.length c48) J34.map,Y Af (.slice A52 J34.comb.length c53) J34.comb,Y Af (.slice A57 J34.red.length c58) J34.red,Y (Ai .i64) (.slice A62 J34.marks.length c63) J34.marks,BF (R.g) hv,CB 253 b41 ([]),Y (Ai .i64) (.slice A146 se77.length c147) se77,blk b67 (Bq (.slice A42 J34.us.length c43) (.slice A47 J34.map.length c48) (.slice A52 J34.comb.length c53) (.slice A57 J34.red.length c58) (.slice A62 J34.marks.length c63) J34 C.w C.t C.o p ep R.g hv b41 vs) 185,Y (Ao (Ai .i64)) vs us] [Ab (Ao Ag) (.slice A1 C.J.us.length c2) C.J.us,Ab Af (.slice A6 C.J.map.length c7) C.J.map,Ab Af (.slice A11 C.J.comb.length c12) C.J.comb,Ab Af (.slice A16 C.J.red.length c17) C.J.red,Ab (Ai .i64) (.slice A21 C.J.marks.length c22) C.J.marks,Ab BZ (.slice A26 recs.length c27) recs]:=H
    replace H:=H.p8.p8.p8.p8.p8.p8.p8.p8
    refine AJ ⟨_,H⟩ (AO U ?_)
    replace H:=H.pick 11 rfl|>.pick 10 rfl|>.pick 10 rfl|>.p2
    refine HT U U U Fm Fu U (by decide) U U H (by first |omega|(simp only [List.length_append,List.length_cons,List.length_nil];omega)) (fun v151 w H=>?_)
    replace H:=H.h1 (A:=Y (Ao (Ai .i64)) v151 (us++[((.slice A146 se77.length c147:Value),se77)]))|>.p8|>.p8|>.p8|>.p8|>.p8|>.p8|>.p8|>.p8
    refine AJ ⟨_,H⟩ (Ap U U U (fun w ⟨Ar,H⟩=>AF U U) (Ap U U U (fun w ⟨Ar,H⟩=>Aj U GB U) (AO U ?_)))
    obtain ⟨A152,c153,rfl,hc154,hm155,hp156⟩:=H.fA 8 rfl
    replace H:=H.p9
    refine BD U U U Fp U U H U (Nat.le_of_ble_eq_true U) (fun u hu=>by simp [Value.cells] at hu;subst hu;rfl) (fun w H=>?_)
    replace H:Hd _ _ _ [blk b67 (Bq (.slice A42 J34.us.length c43) (.slice A47 J34.map.length c48) (.slice A52 J34.comb.length c53) (.slice A57 J34.red.length c58) (.slice A62 J34.marks.length c63) J34 C.w C.t C.o p ep R.g hv b41 (.slice A152 ((us++[((.slice A146 se77.length c147:Value),se77)]).length) c153)) 185,blk b89 [.int .i64 a71,.int .i64 a72,.int .i64 a73,.int .i64 a74,.int .i64 a75,.slice A80 se77.length c81,.slice A82 pr79.length c83] 37,Y (Ao Ag) (.slice A42 J34.us.length c43) J34.us,Y Af (.slice A47 J34.map.length c48) J34.map,Y Af (.slice A52 J34.comb.length c53) J34.comb,Y Af (.slice A57 J34.red.length c58) J34.red,Y (Ai .i64) (.slice A62 J34.marks.length c63) J34.marks,BF (R.g) hv,CB 253 b41 ([]),Y (Ao (Ai .i64)) (.slice A152 ((us++[((.slice A146 se77.length c147:Value),se77)]).length) c153) (us++[((.slice A146 se77.length c147:Value),se77)])] [Ab (Ao Ag) (.slice A1 C.J.us.length c2) C.J.us,Ab Af (.slice A6 C.J.map.length c7) C.J.map,Ab Af (.slice A11 C.J.comb.length c12) C.J.comb,Ab Af (.slice A16 C.J.red.length c17) C.J.red,Ab (Ai .i64) (.slice A21 C.J.marks.length c22) C.J.marks,Ab BZ (.slice A26 recs.length c27) recs]:=H
    replace H:=H.p8.p8.p8.p8.p8.p8.p8.p8
    refine AJ ⟨_,H⟩ (BK (AU (Z (Ae (V U U (AX (z:=((k+1:Nat):Int)) U U U (by rw [AB (by omega) (by omega)];omega)) (Ad U (Ac ?_)))))))
    have hpart:(Bp.p (⟨a71,a72,a73,a74,a75,.slice A80 se77.length c81,se77,.slice A82 pr79.length c83,pr79⟩:Bp)).part=R.part:=by rw [hRp];exact Classical.not_not.1 h90
    have hR2:=Fj hR hx70 (HP hpart h143)
    replace H:=H.p7.p9.p8.p8.p8.p8.p8.p8.p9.k9.h7 (A:=blk b67 (Bq (.slice A42 J34.us.length c43) (.slice A47 J34.map.length c48) (.slice A52 J34.comb.length c53) (.slice A57 J34.red.length c58) (.slice A62 J34.marks.length c63) J34 C.w C.t C.o p ep (({ R with sets:=R.sets++[se77] }:AI).g) hv b41 (.slice A152 ((us++[((.slice A146 se77.length c147:Value),se77)]).length) c153)) 185) (G:=BF (({ R with sets:=R.sets++[se77] }:AI).g) hv)
    exact Bj (s:=(k,R,hv,undef,us)) (k+1,({ R with sets:=R.sets++[se77] }:AI),hv,.slice A152 ((us++[((.slice A146 se77.length c147:Value),se77)]).length) c153,us++[((.slice A146 se77.length c147:Value),se77)]) ⟨rfl,rfl,rfl,rfl,rfl,rfl,rfl,trivial⟩ ⟨H,hR2,hRp,by (try dsimp only);rw [List.map_append,hus];rfl,by (try dsimp only);omega,by (try dsimp only);rw [List.length_append];simp only [List.length_cons,List.length_nil];omega⟩ (by (try dsimp only);omega)
   refine sc (Ih (.slice A80 se77.length c81) se77 (by first |assumption|omega)) H (lX (fun F hA hR=>IM (hR _ (List.mem_of_getElem? (i:=5) U)) hx70) l0) U U (Au Iu U U) ?_
   rintro v157 _ w rfl H
   replace H:=H.h1 (A:=Y (Ai .i64) v157 se77)|>.p8|>.p8|>.p8|>.p8|>.p8|>.p8|>.p8|>.p8
   refine AJ ⟨_,H⟩ ?_
   refine Hu U U ?_ ?_
   ·refine V U U (Al U Fp U (H.cellI 9 U U)) (AJ ⟨_,H⟩ (AO U ?_))
    obtain ⟨A159,c160,rfl,hc161,hm162,hp163⟩:=H.fA 8 rfl
    refine BW (parts:=[(0,.tmp 76)]) (vs:=[.slice A159 se77.length c160]) (cs:=[.slice A159 se77.length c160]) U U U Fm Fu U (by decide) (by decide) U U H (fun b158 w H=>?_)
    replace H:Hd _ _ _ [blk b158 [.slice A159 se77.length c160] 24,blk b89 [.int .i64 a71,.int .i64 a72,.int .i64 a73,.int .i64 a74,.int .i64 a75,.slice A80 se77.length c81,.slice A82 pr79.length c83] 37,Y (Ao Ag) (.slice A42 J34.us.length c43) J34.us,Y Af (.slice A47 J34.map.length c48) J34.map,Y Af (.slice A52 J34.comb.length c53) J34.comb,Y Af (.slice A57 J34.red.length c58) J34.red,Y (Ai .i64) (.slice A62 J34.marks.length c63) J34.marks,BF (R.g) hv,CB 253 b41 ([]),Y (Ai .i64) (.slice A159 se77.length c160) se77,blk b67 (Bq (.slice A42 J34.us.length c43) (.slice A47 J34.map.length c48) (.slice A52 J34.comb.length c53) (.slice A57 J34.red.length c58) (.slice A62 J34.marks.length c63) J34 C.w C.t C.o p ep R.g hv b41 vs) 185,Y (Ao (Ai .i64)) vs us] [Ab (Ao Ag) (.slice A1 C.J.us.length c2) C.J.us,Ab Af (.slice A6 C.J.map.length c7) C.J.map,Ab Af (.slice A11 C.J.comb.length c12) C.J.comb,Ab Af (.slice A16 C.J.red.length c17) C.J.red,Ab (Ai .i64) (.slice A21 C.J.marks.length c22) C.J.marks,Ab BZ (.slice A26 recs.length c27) recs]:=H
    replace H:=H.p8.p8.p8.p8.p8.p8.p8.p8
    refine AJ ⟨_,H⟩ (AO U ?_)
    replace H:=H.pick 11 rfl|>.pick 10 rfl|>.pick 10 rfl|>.p2
    refine HT U U U Fm Fu U (by decide) U U H (by first |omega|(simp only [List.length_append,List.length_cons,List.length_nil];omega)) (fun v164 w H=>?_)
    replace H:=H.h1 (A:=Y (Ao (Ai .i64)) v164 (us++[((.slice A159 se77.length c160:Value),se77)]))|>.p8|>.p8|>.p8|>.p8|>.p8|>.p8|>.p8|>.p8
    refine AJ ⟨_,H⟩ (Ap U U U (fun w ⟨Ar,H⟩=>AF U U) (Ap U U U (fun w ⟨Ar,H⟩=>Aj U GB U) (AO U ?_)))
    obtain ⟨A165,c166,rfl,hc167,hm168,hp169⟩:=H.fA 8 rfl
    replace H:=H.p9
    refine BD U U U Fp U U H U (Nat.le_of_ble_eq_true U) (fun u hu=>by simp [Value.cells] at hu;subst hu;rfl) (fun w H=>?_)
    replace H:Hd _ _ _ [blk b67 (Bq (.slice A42 J34.us.length c43) (.slice A47 J34.map.length c48) (.slice A52 J34.comb.length c53) (.slice A57 J34.red.length c58) (.slice A62 J34.marks.length c63) J34 C.w C.t C.o p ep R.g hv b41 (.slice A165 ((us++[((.slice A159 se77.length c160:Value),se77)]).length) c166)) 185,blk b89 [.int .i64 a71,.int .i64 a72,.int .i64 a73,.int .i64 a74,.int .i64 a75,.slice A80 se77.length c81,.slice A82 pr79.length c83] 37,Y (Ao Ag) (.slice A42 J34.us.length c43) J34.us,Y Af (.slice A47 J34.map.length c48) J34.map,Y Af (.slice A52 J34.comb.length c53) J34.comb,Y Af (.slice A57 J34.red.length c58) J34.red,Y (Ai .i64) (.slice A62 J34.marks.length c63) J34.marks,BF (R.g) hv,CB 253 b41 ([]),Y (Ao (Ai .i64)) (.slice A165 ((us++[((.slice A159 se77.length c160:Value),se77)]).length) c166) (us++[((.slice A159 se77.length c160:Value),se77)])] [Ab (Ao Ag) (.slice A1 C.J.us.length c2) C.J.us,Ab Af (.slice A6 C.J.map.length c7) C.J.map,Ab Af (.slice A11 C.J.comb.length c12) C.J.comb,Ab Af (.slice A16 C.J.red.length c17) C.J.red,Ab (Ai .i64) (.slice A21 C.J.marks.length c22) C.J.marks,Ab BZ (.slice A26 recs.length c27) recs]:=H
    replace H:=H.p8.p8.p8.p8.p8.p8.p8.p8
    refine AJ ⟨_,H⟩ (BK (AU (Z (Ae (V U U (AX (z:=((k+1:Nat):Int)) U U U (by rw [AB (by omega) (by omega)];omega)) (Ad U (Ac ?_)))))))
    have hpart:(Bp.p (⟨a71,a72,a73,a74,a75,.slice A80 se77.length c81,se77,.slice A82 pr79.length c83,pr79⟩:Bp)).part=R.part:=by rw [hRp];exact Classical.not_not.1 h90
    have hR2:=Fj hR hx70 (HP hpart h143)
    replace H:=H.p7.p9.p8.p8.p8.p8.p8.p8.p9.k9.h7 (A:=blk b67 (Bq (.slice A42 J34.us.length c43) (.slice A47 J34.map.length c48) (.slice A52 J34.comb.length c53) (.slice A57 J34.red.length c58) (.slice A62 J34.marks.length c63) J34 C.w C.t C.o p ep (({ R with sets:=R.sets++[se77] }:AI).g) hv b41 (.slice A165 ((us++[((.slice A159 se77.length c160:Value),se77)]).length) c166)) 185) (G:=BF (({ R with sets:=R.sets++[se77] }:AI).g) hv)
    exact Bj (s:=(k,R,hv,undef,us)) (k+1,({ R with sets:=R.sets++[se77] }:AI),hv,.slice A165 ((us++[((.slice A159 se77.length c160:Value),se77)]).length) c166,us++[((.slice A159 se77.length c160:Value),se77)]) ⟨rfl,rfl,rfl,rfl,rfl,rfl,rfl,trivial⟩ ⟨H,hR2,hRp,by (try dsimp only);rw [List.map_append,hus];rfl,by (try dsimp only);omega,by (try dsimp only);rw [List.length_append];simp only [List.length_cons,List.length_nil];omega⟩ (by (try dsimp only);omega)
   obtain ⟨A171,c172,rfl,hc173,hm174,hp175⟩:=H.fA 8 rfl
   refine BW (parts:=[(0,.tmp 76)]) (vs:=[.slice A171 se77.length c172]) (cs:=[.slice A171 se77.length c172]) U U U Fm Fu U (by decide) (by decide) U U H (fun b170 w H=>?_)
   replace H:Hd _ _ _ [blk b170 [.slice A171 se77.length c172] 24,blk b89 [.int .i64 a71,.int .i64 a72,.int .i64 a73,.int .i64 a74,.int .i64 a75,.slice A80 se77.length c81,.slice A82 pr79.length c83] 37,Y (Ao Ag) (.slice A42 J34.us.length c43) J34.us,Y Af (.slice A47 J34.map.length c48) J34.map,Y Af (.slice A52 J34.comb.length c53) J34.comb,Y Af (.slice A57 J34.red.length c58) J34.red,Y (Ai .i64) (.slice A62 J34.marks.length c63) J34.marks,BF (R.g) hv,CB 253 b41 ([]),Y (Ai .i64) (.slice A171 se77.length c172) se77,blk b67 (Bq (.slice A42 J34.us.length c43) (.slice A47 J34.map.length c48) (.slice A52 J34.comb.length c53) (.slice A57 J34.red.length c58) (.slice A62 J34.marks.length c63) J34 C.w C.t C.o p ep R.g hv b41 vs) 185,Y (Ao (Ai .i64)) vs us] [Ab (Ao Ag) (.slice A1 C.J.us.length c2) C.J.us,Ab Af (.slice A6 C.J.map.length c7) C.J.map,Ab Af (.slice A11 C.J.comb.length c12) C.J.comb,Ab Af (.slice A16 C.J.red.length c17) C.J.red,Ab (Ai .i64) (.slice A21 C.J.marks.length c22) C.J.marks,Ab BZ (.slice A26 recs.length c27) recs]:=H
   replace H:=H.p8.p8.p8.p8.p8.p8.p8.p8
   refine AJ ⟨_,H⟩ (AO U (V U U (Al U Fp U (H.cellI 10 U U)) (AJ ⟨_,H⟩ (AO U ?_))))
   replace H:=H.pick 11 rfl|>.pick 10 rfl|>.pick 10 rfl|>.p2
   refine HT U U U Fm Fu U (by decide) U U H (by first |omega|(simp only [List.length_append,List.length_cons,List.length_nil];omega)) (fun v176 w H=>?_)
   replace H:=H.h1 (A:=Y (Ao (Ai .i64)) v176 (us++[((.slice A171 se77.length c172:Value),se77)]))|>.p8|>.p8|>.p8|>.p8|>.p8|>.p8|>.p8|>.p8
   refine AJ ⟨_,H⟩ (Ap U U U (fun w ⟨Ar,H⟩=>AF U U) (Ap U U U (fun w ⟨Ar,H⟩=>Aj U GB U) (AO U ?_)))
   obtain ⟨A177,c178,rfl,hc179,hm180,hp181⟩:=H.fA 8 rfl
   replace H:=H.p9
   refine BD U U U Fp U U H U (Nat.le_of_ble_eq_true U) (fun u hu=>by simp [Value.cells] at hu;subst hu;rfl) (fun w H=>?_)
   replace H:Hd _ _ _ [blk b67 (Bq (.slice A42 J34.us.length c43) (.slice A47 J34.map.length c48) (.slice A52 J34.comb.length c53) (.slice A57 J34.red.length c58) (.slice A62 J34.marks.length c63) J34 C.w C.t C.o p ep R.g hv b41 (.slice A177 ((us++[((.slice A171 se77.length c172:Value),se77)]).length) c178)) 185,blk b89 [.int .i64 a71,.int .i64 a72,.int .i64 a73,.int .i64 a74,.int .i64 a75,.slice A80 se77.length c81,.slice A82 pr79.length c83] 37,Y (Ao Ag) (.slice A42 J34.us.length c43) J34.us,Y Af (.slice A47 J34.map.length c48) J34.map,Y Af (.slice A52 J34.comb.length c53) J34.comb,Y Af (.slice A57 J34.red.length c58) J34.red,Y (Ai .i64) (.slice A62 J34.marks.length c63) J34.marks,BF (R.g) hv,CB 253 b41 ([]),Y (Ao (Ai .i64)) (.slice A177 ((us++[((.slice A171 se77.length c172:Value),se77)]).length) c178) (us++[((.slice A171 se77.length c172:Value),se77)])] [Ab (Ao Ag) (.slice A1 C.J.us.length c2) C.J.us,Ab Af (.slice A6 C.J.map.length c7) C.J.map,Ab Af (.slice A11 C.J.comb.length c12) C.J.comb,Ab Af (.slice A16 C.J.red.length c17) C.J.red,Ab (Ai .i64) (.slice A21 C.J.marks.length c22) C.J.marks,Ab BZ (.slice A26 recs.length c27) recs]:=H
   replace H:=H.p8.p8.p8.p8.p8.p8.p8.p8
   refine AJ ⟨_,H⟩ (BK (AU (Z (Ae (V U U (AX (z:=((k+1:Nat):Int)) U U U (by rw [AB (by omega) (by omega)];omega)) (Ad U (Ac ?_)))))))
   have hpart:(Bp.p (⟨a71,a72,a73,a74,a75,.slice A80 se77.length c81,se77,.slice A82 pr79.length c83,pr79⟩:Bp)).part=R.part:=by rw [hRp];exact Classical.not_not.1 h90
   have hR2:=Fj hR hx70 (HP hpart h143)
   replace H:=H.p7.p9.p8.p8.p8.p8.p8.p8.p9.k9.h7 (A:=blk b67 (Bq (.slice A42 J34.us.length c43) (.slice A47 J34.map.length c48) (.slice A52 J34.comb.length c53) (.slice A57 J34.red.length c58) (.slice A62 J34.marks.length c63) J34 C.w C.t C.o p ep (({ R with sets:=R.sets++[se77] }:AI).g) hv b41 (.slice A177 ((us++[((.slice A171 se77.length c172:Value),se77)]).length) c178)) 185) (G:=BF (({ R with sets:=R.sets++[se77] }:AI).g) hv)
   exact Bj (s:=(k,R,hv,undef,us)) (k+1,({ R with sets:=R.sets++[se77] }:AI),hv,.slice A177 ((us++[((.slice A171 se77.length c172:Value),se77)]).length) c178,us++[((.slice A171 se77.length c172:Value),se77)]) ⟨rfl,rfl,rfl,rfl,rfl,rfl,rfl,trivial⟩ ⟨H,hR2,hRp,by (try dsimp only);rw [List.map_append,hus];rfl,by (try dsimp only);omega,by (try dsimp only);rw [List.length_append];simp only [List.length_cons,List.length_nil];omega⟩ (by (try dsimp only);omega)
  refine Ax (AU (Z (Ae (V U U (AX (z:=((k+1:Nat):Int)) U U U (by rw [AB (by omega) (by omega)];omega)) (Ad U (Ac ?_))))))
  have hpart:(Bp.p (⟨a71,a72,a73,a74,a75,.slice A80 se77.length c81,se77,.slice A82 pr79.length c83,pr79⟩:Bp)).part=R.part:=by rw [hRp];exact Classical.not_not.1 h90
  have hR2:=Fj hR hx70 (J5 hpart (fun h=>h141 h.1) h143)
  replace H:=H.p9.p9.p9.p9.p9.p9.p9.p9.p9.k9
  exact Bj (s:=(k,R,hv,undef,us)) (k+1,R,hv,vs,us) ⟨rfl,rfl,rfl,rfl,rfl,rfl,rfl,trivial⟩ ⟨H,hR2,hRp,by (try dsimp only);exact hus,by (try dsimp only);omega,by (try dsimp only);omega⟩ (by (try dsimp only);omega)
 refine BH (AR (AR (BI (Z (Aa (Ae (Ah 3 U (Ac (Z (Am (B_ U U U ?_)))))))))))
 have hkk:R=CM J34.us.length p ep (recs.map Bp.p):=by rw [hR,List.take_of_length_le (by omega)]
 clear hR
 subst hkk
 replace H:=H.h8 (A:=blk b67 (Bq (.slice A42 J34.us.length c43) (.slice A47 J34.map.length c48) (.slice A52 J34.comb.length c53) (.slice A57 J34.red.length c58) (.slice A62 J34.marks.length c63) J34 C.w C.t C.o p ep ((CM J34.us.length p ep (recs.map Bp.p)).g) hv b41 vs) 185) (G:=BF ((CM J34.us.length p ep (recs.map Bp.p)).g) hv) (I:=Y (Ao (Ai .i64)) vs us)
 exact Ak ⟨b67,(.slice A42 J34.us.length c43),(.slice A47 J34.map.length c48),(.slice A52 J34.comb.length c53),(.slice A57 J34.red.length c58),(.slice A62 J34.marks.length c63),J34,hv,b41,vs,us,rfl,rfl,hsj,hus⟩ H
section
variable {w:World} {F:AH}
theorem XE {v:Value} {us:List Bp} (h:(Ab FR v (us.map F9)).P w F) (hu:∀ r∈us,(Ab (Ai .i64) r.sv r.set).P w F∧(Ab Ag r.pv r.pairs).P w F):(Ab BZ v us).P w F:=by
 obtain ⟨A,m,c,e,h1,h2,h3,cs,h4,h5⟩:=h
 refine ⟨A,m,c,e,by simpa using h1,h2,h3,cs,h4,?_⟩
 have hcs:cs=(us.map F9).flatMap GA:=AV.flat_eq.1 h5
 subst hcs
 clear h5 h4 h1 e
 induction us with
 |nil=>rfl
 |cons r us ih=>
  obtain ⟨g1,g2⟩:=hu r (List.mem_cons_self ..)
  obtain ⟨A1,c1,e1,_⟩:=DK g1
  obtain ⟨A2,c2,e2,_⟩:=DK g2
  refine ⟨GA (F9 r),(us.map F9).flatMap GA,rfl,⟨?_,g1,g2⟩,ih fun q hq=>hu q (List.mem_cons_of_mem _ hq)⟩
  simp [GY,GA,F9,Fg,e1,e2]
def PD:Value:=.slice none 0 0
end
theorem Bb.out {A B:AC} (h:Bb A B) (D:A8) (R:AI):DE D A R=DE D B R:=by
 unfold DE LZ
 rw [h.len,h.red,h.fuel]
theorem Yn (v1 v2:Value) (xs ys:List Int):
    Cn Tryz.prog 33 [v1,v2] [] [Ab (Ai .i64) v1 xs,Ab (Ai .i64) v2 ys] (fun v Bs=>v=.bool (decide (xs=ys))∧Bs=[]):=by
 intro w0 F0 H
 obtain ⟨A1,c2,rfl,hc3,hm4,hp5⟩:=H.fR 0 rfl
 obtain ⟨A6,c7,rfl,hc8,hm9,hp10⟩:=H.fR 1 rfl
 refine enter Tryz.func33 U U (Nat.le_of_ble_eq_true U) (Aa (Ae (Ad U (Ac (Z ?_)))))
 replace H:Hd _ _ _ [] [Ab (Ai .i64) (.slice A1 xs.length c2) xs,Ab (Ai .i64) (.slice A6 ys.length c7) ys]:=H
 refine Aa (Aa (Ae (Ad U (V U U (Bf U E7 U) (Ad U (V U U (Bf U E7 U) (V U U (Dq U U U) (Ac (Z ?_)))))))))
 refine Aw U (fun h11=>?_) (fun h11=>?_)
 ·refine Aa (Ae (Ad U (Ac (Z (Am (Ay (Aq U U ?_)))))))
  have e:¬ xs=ys:=fun e=>h11 (by rw [e])
  exact Ak ⟨by rw [decide_eq_false e]<;>rfl,rfl⟩ H
 refine Ax (Z (Aa (Aa (Ae (Ad U (Ac (Z (AS ?_))))))))
 have hle:xs.length=ys.length:=by omega
 refine BQ (σ:=Nat) (fun k=>[(0,.slice A1 xs.length c2),(1,.slice A6 ys.length c7),(5,.int .i64 ((k:Nat):Int))]) (fun k w=>(Hd w0 F0 w [] [Ab (Ai .i64) (.slice A1 xs.length c2) xs,Ab (Ai .i64) (.slice A6 ys.length c7) ys])∧(k≤xs.length)∧(xs.length=ys.length)∧(xs.take k=ys.take k)) (fun k=>xs.length - k) 0 ⟨rfl,rfl,rfl,trivial⟩ ⟨H,by omega,hle,rfl⟩ ?_
 rintro k w ⟨H,hk,hle,ht⟩
 refine Aa (Aa (Ae (Ah 2 U (V U U (Bf U E7 U) (V U U (Bd U U U) (Ac (Z ?_)))))))
 refine Aw U (fun h12=>?_) (fun h12=>?_)
 ·refine Ax (Z (Aa (AS (Aa (Gd mo (by kernel_rfl) H (I2 2 U ?_))))))
  obtain ⟨x13,hx14⟩:∃ z9,xs[k]?=some z9:=⟨_,List.getElem?_eq_getElem (show k<xs.length by omega)⟩
  have th15:=H.thR 0 rfl hx14
  refine Bu U U (fun w H=>A0 (p:=AQ A1+k*1) U DW U U (by omega) (by omega) th15 U) (Bu U U (fun w H=>Al U AA U (H.elR 0 U hx14 (q:=0) U U)) (I2 2 U ?_))
  obtain ⟨x16,hx17⟩:∃ z9,ys[k]?=some z9:=⟨_,List.getElem?_eq_getElem (show k<ys.length by omega)⟩
  have th18:=H.thR 1 rfl hx17
  refine Bu U U (fun w H=>A0 (p:=AQ A6+k*1) U DW U U (by omega) (by omega) th18 U) (Bu U U (fun w H=>Al U AA U (H.elR 1 U hx17 (q:=0) U U)) (Bu U U (fun w H=>Dq U U U) (Gs (fun w H=>(Z ?_)))))
  refine Aw U (fun h19=>?_) (fun h19=>?_)
  ·refine Aa (Ae (Ad U (Ac (Z (Am (AY (Ay (Ay (AY (Ay (Aq U U ?_)))))))))))
   have e:¬ xs=ys:=fun e=>h19 (by rw [e,hx17] at hx14;exact (Option.some.inj hx14).symm)
   exact Ak ⟨by rw [decide_eq_false e]<;>rfl,rfl⟩ H
  refine Ax (AU (Z (Ae (Ad U (V U U (AX (z:=((k+1:Nat):Int)) U U U (by rw [AB (by omega) (by omega)];omega)) (Ad U (Ac ?_)))))))
  have e:x13=x16:=Classical.not_not.1 h19
  subst e
  exact Bj (s:=k) (k+1) ⟨rfl,rfl,rfl,trivial⟩ ⟨H,by omega,hle,QN hx14 hx17 ht⟩ (by (try dsimp only);omega)
 refine BH (AR (AR (BI (Z (Aa (Ae (Ad U (Ac (Z (Am (Aq U U ?_)))))))))))
 have e:xs=ys:=by rw [←Gq (xs:=xs) (k:=k) (by omega),←Gq (xs:=ys) (k:=k) (by omega)];exact ht
 exact Ak ⟨by rw [decide_eq_true e]<;>rfl,rfl⟩ H
section
variable {w0 w:World} {F F0:AH} {As Rs:List SP} {v:Value} {us:List Bp}
end
structure ER (α:Type) where
 sz:Nat
 enc:α→Value→Value→List Value
 len:∀ a s p,(enc a s p).length=sz
 one:∀ a s p,∀ c∈enc a s p,c=s∨c=p∨c.oneCell'=true
 pos:0<sz
structure Bi (α:Type) where
 h:α
 sv:Value
 set:List Int
 pv:Value
 pairs:List An
structure EU (α:Type) where
 h:α
 hs:Er
 hp:Er
section
variable {α:Type}
def ER.e (S:ER α) (x:Bi α):List Value:=S.enc x.h x.sv x.pv
def ER.f (S:ER α) (x:EU α):List Value:=S.enc x.h (.slice x.hs.A x.hs.n x.hs.c) (.slice x.hp.A x.hp.n x.hp.c)
def DS (S:ER α):Kd (Bi α) where
 sz:=S.sz
 O w F x cs:=cs=S.e x∧∃ F1 F2:AH,(∀ k,F1 k→F k)∧(∀ k,F2 k→F k)∧(∀ k,F1 k→¬ F2 k)∧(B4 (Ai .i64)).O w F1 x.set [x.sv]∧(B4 Ag).O w F2 x.pairs [x.pv]
 R w F x cs:=cs=S.e x∧(B4 (Ai .i64)).R w F x.set [x.sv]∧(B4 Ag).R w F x.pairs [x.pv]
 O_loc:=fun ⟨e,F1,F2,s1,s2,dj,h1,h2⟩ hk=>⟨e,F1,F2,s1,s2,dj,(B4 _).O_loc h1 (fun k x=>hk k (s1 k x)),(B4 _).O_loc h2 (fun k x=>hk k (s2 k x))⟩
 O_mono:=fun ⟨e,F1,F2,s1,s2,dj,h1,h2⟩ hk=>⟨e,F1,F2,fun k x=>hk k (s1 k x),fun k x=>hk k (s2 k x),dj,h1,h2⟩
 R_loc:=fun ⟨e,h1,h2⟩ hk=>⟨e,(B4 _).R_loc h1 hk,(B4 _).R_loc h2 hk⟩
 R_mono:=fun ⟨e,h1,h2⟩ hk=>⟨e,(B4 _).R_mono h1 hk,(B4 _).R_mono h2 hk⟩
 O_R:=fun ⟨e,F1,F2,s1,s2,dj,h1,h2⟩=>⟨e,(B4 _).R_mono ((B4 _).O_R h1) s1,(B4 _).R_mono ((B4 _).O_R h2) s2⟩
 len h:=by rw [h.1];exact S.len _ _ _
 one:=fun ⟨e,h1,h2⟩ c hc=>by
  have g1:=(B4 _).one h1
  have g2:=(B4 _).one h2
  subst e
  rcases S.one _ _ _ c hc with rfl|rfl|h
  ·exact g1 _ (List.mem_cons_self ..)
  ·exact g2 _ (List.mem_cons_self ..)
  ·exact h
 pos:=S.pos
def HE (S:ER α):Kd (EU α):=flat S.f S.sz S.pos (fun x=>S.len _ _ _) (fun x c hc=>by
 rcases S.one _ _ _ c hc with rfl|rfl|h
 ·rfl
 ·rfl
 ·exact h)
def Bv (r:Bi α):EU α:=⟨r.h,Fg r.sv,Fg r.pv⟩
variable {S:ER α} {w w0:World} {F F0:AH} {As Rs:List SP} {A:Option Addr} {m c:Nat}
theorem Hf {us:List (Bi α)} (h:(Ab (DS S) (.slice A m c) us).P w F) {i:Nat} {x:Bi α} (hx:us[i]?=some x):
  ET A∧(∀ q u,(S.e x)[q]?=some u→w.cell? ⟨DN A,AQ A+i*S.sz+q,none⟩=some u)∧(Ab (Ai .i64) x.sv x.set).P w F∧(Ab Ag x.pv x.pairs).P w F:=by
 obtain ⟨b,off,cs,e,hl,hc,h1,h2,h3⟩:=IN h hx
 subst h1 e
 exact ⟨rfl,hc,h2,h3⟩
theorem Kr {us:List (Bi α)} (h:(Ab (DS S) (.slice A m c) us).P w F) {i:Nat} {a:α} {sv pv:Value} {set:List Int} {pairs:List An} (hx:us[i]?=some ⟨a,sv,set,pv,pairs⟩):(Ab (Ai .i64) sv set).P w F:=(Hf h hx).2.2.1
theorem Kq {us:List (Bi α)} (h:(Ab (DS S) (.slice A m c) us).P w F) {i:Nat} {a:α} {sv pv:Value} {set:List Int} {pairs:List An} (hx:us[i]?=some ⟨a,sv,set,pv,pairs⟩):(Ab Ag pv pairs).P w F:=(Hf h hx).2.2.2
theorem Hd.thRt {us:List (Bi α)} (H:Hd w0 F0 w As Rs) (j:Nat) (hj:Rs[j]?=some (Ab (DS S) (.slice A m c) us)) {i:Nat} {x:Bi α} (hx:us[i]?=some x):ET A:=H.factR (List.mem_of_getElem? hj) fun _ h=>(Hf h hx).1
theorem Hd.thAt {us:List (Bi α)} (H:Hd w0 F0 w As Rs) (j:Nat) (hj:As[j]?=some (Y (DS S) (.slice A m c) us)) {i:Nat} {x:Bi α} (hx:us[i]?=some x):ET A:=H.fact (List.mem_of_getElem? hj) fun F h=>(Hf (BE F h) hx).1
theorem Hd.elRt {us:List (Bi α)} (H:Hd w0 F0 w As Rs) (j:Nat) (hj:Rs[j]?=some (Ab (DS S) (.slice A m c) us)) {i:Nat} {x:Bi α} (hx:us[i]?=some x) {q p:Nat} {u:Value} (hu:(S.e x)[q]?=some u) (hp:AQ A+i*S.sz+q=p):w.cell? ⟨DN A,p,none⟩=some u:=by
 subst hp
 exact H.factR (List.mem_of_getElem? hj) fun _ h=>(Hf h hx).2.1 q u hu
theorem Hd.elAt {us:List (Bi α)} (H:Hd w0 F0 w As Rs) (j:Nat) (hj:As[j]?=some (Y (DS S) (.slice A m c) us)) {i:Nat} {x:Bi α} (hx:us[i]?=some x) {q p:Nat} {u:Value} (hu:(S.e x)[q]?=some u) (hp:AQ A+i*S.sz+q=p):w.cell? ⟨DN A,p,none⟩=some u:=by
 subst hp
 exact H.fact (List.mem_of_getElem? hj) fun F h=>(Hf (BE F h) hx).2.1 q u hu
theorem WO {l cs:List Value} {d n q:Nat} {v:Value} (h:(l.drop d).take n=cs) (hq:cs[q]?=some v):l[d+q]?=some v:=by
 subst h
 rw [List.getElem?_take] at hq
 split at hq
 ·rwa [List.getElem?_drop] at hq
 ·cases hq
theorem Hd.elsRt {us:List (Bi α)} (H:Hd w0 F0 w As Rs) (j:Nat) (hj:Rs[j]?=some (Ab (DS S) (.slice A m c) us)) {i:Nat} {x:Bi α} (hx:us[i]?=some x) {p:Nat} (d n:Nat) {cs:List Value} (hc:((S.e x).drop d).take n=cs) (hpj:AQ A+i*S.sz+d=p):∀ q v,cs[q]?=some v→w.cell? ((⟨DN A,p,none⟩:Addr).add q)=some v:=by
 intro q v hq
 rw [D_,←hpj,Nat.add_assoc]
 exact H.factR (List.mem_of_getElem? hj) fun F h=>(Hf h hx).2.1 _ v (WO hc hq)
theorem Hd.nestRt {us:List (Bi α)} (H:Hd w0 F0 w As Rs) (j:Nat) (hj:Rs[j]?=some (Ab (DS S) (.slice A m c) us)) {i:Nat} {a:α} {sv pv:Value} {set:List Int} {pairs:List An} (hx:us[i]?=some ⟨a,sv,set,pv,pairs⟩):
  ∃ A1 c1 A2 c2,sv=.slice A1 set.length c1∧pv=.slice A2 pairs.length c2∧set.length≤c1∧c1≤9223372036854775807∧pairs.length≤c2∧c2≤9223372036854775807:=by
 refine H.factR (List.mem_of_getElem? hj) fun _ h=>?_
 obtain ⟨A1,c1,e1,g1,g2,_⟩:=DK (Kr h hx)
 obtain ⟨A2,c2,e2,g3,g4,_⟩:=DK (Kq h hx)
 exact ⟨A1,c1,A2,c2,e1,e2,g1,g2,g3,g4⟩
theorem Hd.nestAt {us:List (Bi α)} (H:Hd w0 F0 w As Rs) (j:Nat) (hj:As[j]?=some (Y (DS S) (.slice A m c) us)) {i:Nat} {a:α} {sv pv:Value} {set:List Int} {pairs:List An} (hx:us[i]?=some ⟨a,sv,set,pv,pairs⟩):
  ∃ A1 c1 A2 c2,sv=.slice A1 set.length c1∧pv=.slice A2 pairs.length c2∧set.length≤c1∧c1≤9223372036854775807∧pairs.length≤c2∧c2≤9223372036854775807:=by
 refine H.fact (List.mem_of_getElem? hj) fun F h=>?_
 obtain ⟨A1,c1,e1,g1,g2,_⟩:=DK (Kr (BE F h) hx)
 obtain ⟨A2,c2,e2,g3,g4,_⟩:=DK (Kq (BE F h) hx)
 exact ⟨A1,c1,A2,c2,e1,e2,g1,g2,g3,g4⟩
/-! ### Held: the cells in one row, the slices apart -/
theorem QR {r:Bi α} {A1 A2:Option Addr} {n1 c1 n2 c2:Nat} (e1:r.sv=.slice A1 n1 c1) (e2:r.pv=.slice A2 n2 c2):S.e r=S.f (Bv r):=by
 simp [ER.e,ER.f,Bv,Fg,e1,e2]
theorem Y8 {v:Value} {us:List (Bi α)} (h:(Ab (HE S) v (us.map Bv)).P w F) (hu:∀ r∈us,(Ab (Ai .i64) r.sv r.set).P w F∧(Ab Ag r.pv r.pairs).P w F):(Ab (DS S) v us).P w F:=by
 obtain ⟨A,m,c,e,h1,h2,h3,cs,h4,h5⟩:=h
 refine ⟨A,m,c,e,by simpa using h1,h2,h3,cs,h4,?_⟩
 have hcs:cs=(us.map Bv).flatMap S.f:=AV.flat_eq.1 h5
 subst hcs
 clear h5 h4 h1 e
 induction us with
 |nil=>rfl
 |cons r us ih=>
  obtain ⟨g1,g2⟩:=hu r (List.mem_cons_self ..)
  obtain ⟨A1,c1,e1,_⟩:=DK g1
  obtain ⟨A2,c2,e2,_⟩:=DK g2
  exact ⟨S.f (Bv r),(us.map Bv).flatMap S.f,rfl,⟨(QR e1 e2).symm,g1,g2⟩,ih fun q hq=>hu q (List.mem_cons_of_mem _ hq)⟩
def En (r:Bi α):SP:=BU [Y (Ai .i64) r.sv r.set,Y Ag r.pv r.pairs]
def BX (us:List (Bi α)):SP:=Bm En us
theorem QQ {r:Bi α} (h:(En r).P w F):S.e r=S.f (Bv r):=by
 obtain ⟨F1,F2,_,_,_,a,F3,F4,_,_,_,b,_⟩:=h
 obtain ⟨A1,c1,e1,_⟩:=DK (BE _ a)
 obtain ⟨A2,c2,e2,_⟩:=DK (BE _ b)
 exact QR e1 e2
theorem Y5 {r:Bi α} (h:(En r).P w F):(DS S).O w F r (S.f (Bv r)):=by
 have e:=QQ (S:=S) h
 obtain ⟨F1,F2,h1,h2,h3,a,F3,F4,g1,g2,g3,b,_⟩:=h
 exact ⟨e.symm,F1,F3,h1,fun k hk=>h2 k (g1 k hk),fun k hk hk2=>h3 k hk (g1 k hk2),a,b⟩
theorem Y6 {r:Bi α} {cs:List Value} (h:(DS S).O w F r cs):(En r).P w F∧cs=S.e r:=by
 obtain ⟨e,F1,F2,h1,h2,h3,a,b⟩:=h
 exact ⟨⟨F1,F2,h1,h2,h3,a,F2,none_,fun _ q=>q,fun _ q=>q.elim,fun _ _ q=>q,b,trivial⟩,e⟩
theorem Qs:∀ {us:List (Bi α)} {F:AH},(BX us).P w F→Cx (DS S) w F us ((us.map Bv).flatMap S.f)
 |[],_,_=>rfl
 |u::us,F,⟨F1,F2,h1,h2,h3,a,s⟩=>⟨F1,F2,S.f (Bv u),(us.map Bv).flatMap S.f,h1,h2,h3,rfl,Y5 a,Qs (us:=us) s⟩
variable {v:Value} {us:List (Bi α)}
theorem Hd.twI (H:Hd w0 F0 w (Y (HE S) v (us.map Bv)::BX us::As) Rs):Hd w0 F0 w (Y (DS S) v us::As) Rs:=by
 refine H.turn2 fun F1 F2 hd h1 h2=>?_
 obtain ⟨A,n,c,e,hl,cs,G1,G2,s1,s2,dj,row,reps⟩:=h1
 have hcs:cs=(us.map Bv).flatMap S.f:=AV.flat_eq.1 reps.toR
 subst hcs
 exact ⟨A,n,c,e,by simpa using hl,_,G1,F2,fun k hk=>.inl (s1 k hk),fun k hk=>.inr hk,fun k hk hg=>hd k (s1 k hk) hg,row,Qs h2⟩
theorem Qt:∀ {us:List (Bi α)} {F:AH} {cs:List Value},Cx (DS S) w F us cs→(BX us).P w F∧cs=(us.map Bv).flatMap S.f
 |[],_,_,h=>⟨trivial,h⟩
 |u::us,F,cs,⟨F1,F2,c,cs',h1,h2,h3,e,a,s⟩=>by
  obtain ⟨g1,g2⟩:=Qt s
  obtain ⟨b1,b2⟩:=Y6 a
  refine ⟨⟨F1,F2,h1,h2,h3,b1,g1⟩,?_⟩
  rw [e,b2,g2,QQ b1];rfl
theorem Hd.twO (H:Hd w0 F0 w (Y (DS S) v us::As) Rs):Hd w0 F0 w (Y (HE S) v (us.map Bv)::BX us::As) Rs:=by
 have:Hd w0 F0 w ([Y (HE S) v (us.map Bv),BX us]++As) Rs:=H.open_ fun F h=>by
  obtain ⟨A,n,c,e,hl,cs,G1,G2,s1,s2,dj,row,reps⟩:=h
  obtain ⟨g1,rfl⟩:=Qt reps
  exact ⟨G1,G2,s1,s2,dj,⟨A,n,c,e,by simpa using hl,_,G1,none_,fun _ h=>h,fun _ h=>h.elim,fun _ _ h=>h,row,Cx.flatR (F:=none_) (AV.flat_eq.2 U)⟩,G2,none_,fun _ h=>h,fun _ h=>h.elim,fun _ _ h=>h,g1,trivial⟩
 exact this
theorem Hd.twN {r:Bi α} (H:Hd w0 F0 w (Y (Ai .i64) r.sv r.set::Y Ag r.pv r.pairs::BX us::As) Rs):Hd w0 F0 w (BX (us++[r])::As) Rs:=
 Hd.bigN (f:=En) (x:=r) (Hd.stI (Bs:=[Y (Ai .i64) r.sv r.set,Y Ag r.pv r.pairs]) H)
theorem Hd.tw0 (H:Hd w0 F0 w As Rs):Hd w0 F0 w (BX ([]:List (Bi α))::As) Rs:=H.big0 En
end
/-! ### Messages, letters, acts, snapshots -/
structure Cj where
 kind:Int
 sp:Int
 att:Int
 part:Int
 seq:Int
 next:Int
 ep:Int
 why:Int
def Kj:ER Cj where
 sz:=10
 enc m s p:=[.int .i64 m.kind,.int .i64 m.sp,.int .i64 m.att,.int .i64 m.part,.int .i64 m.seq,.int .i64 m.next,.int .i64 m.ep,.int .i64 m.why,s,p]
 len _ _ _:=rfl
 one _ _ _ c h:=by
  simp only [List.mem_cons,List.not_mem_nil,or_false] at h
  rcases h with rfl|rfl|rfl|rfl|rfl|rfl|rfl|rfl|rfl|rfl<;>first |exact .inr (.inr rfl)|exact .inl rfl|exact .inr (.inl rfl)
 pos:=by omega
structure Z5 where
 won:Bool
 m:Cj
 n:Int
structure KE where
 hear:Bool
 fr:Int
 m:Cj
def Yt:ER KE where
 sz:=12
 enc a s p:=[.bool a.hear,.int .i64 a.fr,.int .i64 a.m.kind,.int .i64 a.m.sp,.int .i64 a.m.att,.int .i64 a.m.part,.int .i64 a.m.seq,.int .i64 a.m.next,.int .i64 a.m.ep,.int .i64 a.m.why,s,p]
 len _ _ _:=rfl
 one _ _ _ c h:=by
  simp only [List.mem_cons,List.not_mem_nil,or_false] at h
  rcases h with rfl|rfl|rfl|rfl|rfl|rfl|rfl|rfl|rfl|rfl|rfl|rfl<;>first |exact .inr (.inr rfl)|exact .inl rfl|exact .inr (.inl rfl)
 pos:=by omega
structure Ci where
 fr:Int
 to:Int
 m:Cj
def QI:ER Ci where
 sz:=12
 enc a s p:=[.int .i64 a.fr,.int .i64 a.to,.int .i64 a.m.kind,.int .i64 a.m.sp,.int .i64 a.m.att,.int .i64 a.m.part,.int .i64 a.m.seq,.int .i64 a.m.next,.int .i64 a.m.ep,.int .i64 a.m.why,s,p]
 len _ _ _:=rfl
 one _ _ _ c h:=by
  simp only [List.mem_cons,List.not_mem_nil,or_false] at h
  rcases h with rfl|rfl|rfl|rfl|rfl|rfl|rfl|rfl|rfl|rfl|rfl|rfl<;>first |exact .inr (.inr rfl)|exact .inl rfl|exact .inr (.inl rfl)
 pos:=by omega
abbrev Is:=DS Kj
abbrev Ea:=HE Kj
abbrev TR:=DS Yt
abbrev CZ:=DS QI
abbrev Da:=HE QI
def Cj.p (m:Cj) (set:List Int) (ps:List An):Dl:=⟨m.kind,m.sp,m.att,m.part,m.seq,m.next,m.ep,m.why,set,ps⟩
def FV (x:Bi Cj):Dl:=x.h.p x.set x.pairs
theorem Fi {a b:Dl}:a=b↔a.kind=b.kind∧a.sp=b.sp∧a.att=b.att∧a.part=b.part∧a.seq=b.seq∧a.next=b.next∧a.ep=b.ep∧a.why=b.why∧a.set=b.set∧a.pairs=b.pairs:=by
 constructor
 ·rintro rfl;exact ⟨rfl,rfl,rfl,rfl,rfl,rfl,rfl,rfl,rfl,rfl⟩
 ·rintro ⟨h1,h2,h3,h4,h5,h6,h7,h8,h9,h10⟩
  cases a;cases b
  simp only at h1 h2 h3 h4 h5 h6 h7 h8 h9 h10
  subst h1 h2 h3 h4 h5 h6 h7 h8 h9 h10
  rfl
instance msgD (a b:Dl):Decidable (a=b):=decidable_of_iff _ Fi.symm
/-! ### How they come in -/
section
variable {P:Program} {t:TypeId}
abbrev I6 (m:Cj):Prop:=AP m.kind∧AP m.sp∧AP m.att∧AP m.part∧AP m.seq∧AP m.next∧AP m.ep∧AP m.why
def I7 {α:Type} (Q:α→Prop) (W2:An→Prop) (x:Bi α):Prop:=Q x.h∧((∀ i∈x.set,AP i)∧x.set.length≤9223372036854775807)∧((∀ p∈x.pairs,W2 p)∧x.pairs.length≤9223372036854775807)
theorem Wl {i s p:TypeId} {W2:An→Prop} (hs:GQ P t=some [(i,0,1),(i,1,1),(i,2,1),(i,3,1),(i,4,1),(i,5,1),(i,6,1),(i,7,1),(s,8,1),(p,9,1)]) (hc:P.cellsOf t=10) (hi:P.underlying i=some (.int .i64))
  (h1:FM P s (B4 (Ai .i64)) (fun xs=>(∀ x∈xs,AP x)∧xs.length≤9223372036854775807)) (h2:FM P p (B4 Ag) (fun xs=>(∀ x∈xs,W2 x)∧xs.length≤9223372036854775807)):
  FM P t Is (I7 I6 W2):=by
 intro H enc w fuel cs x h
 obtain ⟨hl,n,hf⟩:=L3 hs h
 rw [hc] at hl
 match cs,hl with
 |[c0,c1,c2,c3,c4,c5,c6,c7,c8,c9],_=>
  obtain ⟨y0,g0⟩:=hf 0 _ _ _ rfl
  obtain ⟨y1,g1⟩:=hf 1 _ _ _ rfl
  obtain ⟨y2,g2⟩:=hf 2 _ _ _ rfl
  obtain ⟨y3,g3⟩:=hf 3 _ _ _ rfl
  obtain ⟨y4,g4⟩:=hf 4 _ _ _ rfl
  obtain ⟨y5,g5⟩:=hf 5 _ _ _ rfl
  obtain ⟨y6,g6⟩:=hf 6 _ _ _ rfl
  obtain ⟨y7,g7⟩:=hf 7 _ _ _ rfl
  obtain ⟨y8,g8⟩:=hf 8 _ _ _ rfl
  obtain ⟨y9,g9⟩:=hf 9 _ _ _ rfl
  obtain ⟨a0,r0,w0⟩:=FX hi enc w n _ _ g0
  obtain ⟨a1,r1,w1⟩:=FX hi enc w n _ _ g1
  obtain ⟨a2,r2,w2⟩:=FX hi enc w n _ _ g2
  obtain ⟨a3,r3,w3⟩:=FX hi enc w n _ _ g3
  obtain ⟨a4,r4,w4⟩:=FX hi enc w n _ _ g4
  obtain ⟨a5,r5,w5⟩:=FX hi enc w n _ _ g5
  obtain ⟨a6,r6,w6⟩:=FX hi enc w n _ _ g6
  obtain ⟨a7,r7,w7⟩:=FX hi enc w n _ _ g7
  obtain ⟨a8,r8,w8⟩:=h1 enc w n _ _ g8
  obtain ⟨a9,r9,w9⟩:=h2 enc w n _ _ g9
  have r8':(B4 (Ai .i64)).R w (FL w) a8 [c8]:=r8
  have r9':(B4 Ag).R w (FL w) a9 [c9]:=r9
  refine ⟨⟨⟨a0,a1,a2,a3,a4,a5,a6,a7⟩,c8,a8,c9,a9⟩,⟨?_,r8',r9'⟩,⟨w0,w1,w2,w3,w4,w5,w6,w7⟩,w8,w9⟩
  have q0:[c0]=[Value.int .i64 a0]:=r0
  have q1:[c1]=[Value.int .i64 a1]:=r1
  have q2:[c2]=[Value.int .i64 a2]:=r2
  have q3:[c3]=[Value.int .i64 a3]:=r3
  have q4:[c4]=[Value.int .i64 a4]:=r4
  have q5:[c5]=[Value.int .i64 a5]:=r5
  have q6:[c6]=[Value.int .i64 a6]:=r6
  have q7:[c7]=[Value.int .i64 a7]:=r7
  simp only [List.cons.injEq,and_true] at q0 q1 q2 q3 q4 q5 q6 q7
  subst q0 q1 q2 q3 q4 q5 q6 q7
  rfl
theorem Wj {b j i:TypeId} {W2:An→Prop} (hs:GQ P t=some [(b,0,1),(i,1,1),(j,2,10)]) (hc:P.cellsOf t=12) (hb:P.underlying b=some .bool) (hi:P.underlying i=some (.int .i64)) (hm:FM P j Is (I7 I6 W2)):
  FM P t TR (I7 (fun a=>AP a.fr∧I6 a.m) W2):=by
 intro H enc w fuel cs x h
 obtain ⟨hl,n,hf⟩:=L3 hs h
 rw [hc] at hl
 match cs,hl with
 |[c0,c11,c1,c2,c3,c4,c5,c6,c7,c8,c9,c10],_=>
  obtain ⟨y0,g0⟩:=hf 0 _ _ _ rfl
  obtain ⟨y2,g2⟩:=hf 1 _ _ _ rfl
  obtain ⟨y1,g1⟩:=hf 2 _ _ _ rfl
  obtain ⟨a0,r0,w0⟩:=Wk hb enc w n _ _ g0
  obtain ⟨a1,r1,w1⟩:=hm enc w n _ _ g1
  obtain ⟨a2,r2,w2⟩:=FX hi enc w n _ _ g2
  have q0:[c0]=[Value.bool a0]:=r0
  have q2:[c11]=[Value.int .i64 a2]:=r2
  obtain ⟨e,r3,r4⟩:=r1
  have e':[c1,c2,c3,c4,c5,c6,c7,c8,c9,c10]=Kj.e a1:=e
  simp only [List.cons.injEq,and_true] at q0 q2
  refine ⟨⟨⟨a0,a2,a1.h⟩,a1.sv,a1.set,a1.pv,a1.pairs⟩,⟨?_,r3,r4⟩,⟨w2,w1.1⟩,w1.2⟩
  simp only [Kj,ER.e,List.cons.injEq,and_true] at e'
  obtain ⟨e1,e2,e3,e4,e5,e6,e7,e8,e9,e10⟩:=e'
  rw [q0,q2,e1,e2,e3,e4,e5,e6,e7,e8,e9,e10]
  rfl
end
/-! ### A result in cells, and another one -/
section
variable {P:Program} {fn:Func} {R:Ending→World→Prop} {n:Nat} {l:Bz} {w:World} {t:TypeId} {a:Act}
end
def Hc (st:DH):Prop:=∀ a b,(DL st a b).length≤40∧∀ x∈DL st a b,x.length≤8
structure CG (n:Nat) (R:AI):Prop where
 pairs:∀ i,(R.g i).pairs.length≤1000
 st:Hc R.st
 sets:R.sets.length≤n
 setl:∀ s∈R.sets,s.length≤1000
theorem CG.mono {n m:Nat} {R:AI} (h:CG n R) (hm:n≤m):CG m R:=⟨h.pairs,h.st,Nat.le_trans h.sets hm,h.setl⟩
theorem SZ {l:List (List An)} {n m:Nat} (h1:l.length≤n) (h2:∀ x∈l,x.length≤m):l.flatten.length≤n*m:=by
 have:∀ l:List (List An),(∀ x∈l,x.length≤m)→l.flatten.length≤l.length*m:=by
  intro l
  induction l with
  |nil=>intro _;simp
  |cons x l ih=>
   intro h
   have h3:=ih fun y hy=>h y (List.mem_cons_of_mem _ hy)
   have h4:=h x (List.mem_cons_self ..)
   rw [List.flatten_cons,List.length_append,List.length_cons,Nat.succ_mul]
   omega
 exact Nat.le_trans (this l h2) (Nat.mul_le_mul_right _ h1)
theorem CG.flat {n:Nat} {R:AI} (h:CG n R) (a b:Int):(DL R.st a b).flatten.length≤320:=SZ (h.st a b).1 (h.st a b).2
theorem QH (c a b:Int):∀ st:DH,DL (IR st c) a b=if a=c then [] else DL st a b
 |[]=>by unfold IR;simp [DL]
 |e::s=>by
  have ih:=QH c a b s
  unfold IR at ih ⊢
  by_cases h:e.1.1=c
  ·rw [List.filter_cons_of_neg (by simpa using h),ih]
   by_cases h2:a=c
   ·rw [if_pos h2,if_pos h2]
   ·rw [if_neg h2,if_neg h2]
    exact (if_neg (fun h3=>h2 (h3.1.symm.trans h))).symm
  ·rw [List.filter_cons_of_pos (p:=fun e:(Int×Int)×List (List An)=>decide (e.1.1≠c)) (decide_eq_true h)]
   show (if e.1.1=a∧e.1.2=b then e.2 else DL (List.filter _ s) a b)=if a=c then [] else (if e.1.1=a∧e.1.2=b then e.2 else DL s a b)
   rw [ih]
   by_cases h2:a=c
   ·rw [if_pos h2,if_pos h2,if_neg fun h3=>h (h3.1.trans h2)]
   ·rw [if_neg h2,if_neg h2]
theorem QG (c d a b:Int) (x:List An):∀ st:DH,DL (IQ st c d x) a b=if c=a∧d=b then DL st a b++[x] else DL st a b
 |[]=>by
  show (if c=a∧d=b then [x] else DL [] a b)=_
  split<;>rfl
 |e::s=>by
  have ih:=QG c d a b x s
  show DL (if e.1.1=c∧e.1.2=d then (e.1,e.2++[x])::s else e::IQ s c d x) a b=if c=a∧d=b then (if e.1.1=a∧e.1.2=b then e.2 else DL s a b)++[x] else (if e.1.1=a∧e.1.2=b then e.2 else DL s a b)
  by_cases h:e.1.1=c∧e.1.2=d
  ·rw [if_pos h]
   show (if e.1.1=a∧e.1.2=b then e.2++[x] else DL s a b)=_
   by_cases h2:c=a∧d=b
   ·have h3:e.1.1=a∧e.1.2=b:=⟨h.1.trans h2.1,h.2.trans h2.2⟩
    rw [if_pos h2,if_pos h3,if_pos h3]
   ·have h3:¬ (e.1.1=a∧e.1.2=b):=fun h4=>h2 ⟨h.1.symm.trans h4.1,h.2.symm.trans h4.2⟩
    rw [if_neg h2,if_neg h3,if_neg h3]
  ·rw [if_neg h]
   show (if e.1.1=a∧e.1.2=b then e.2 else DL (IQ s c d x) a b)=_
   rw [ih]
   by_cases h2:c=a∧d=b
   ·have h3:¬ (e.1.1=a∧e.1.2=b):=fun h4=>h ⟨h4.1.trans h2.1.symm,h4.2.trans h2.2.symm⟩
    rw [if_pos h2,if_neg h3,if_neg h3,if_pos h2]
   ·rw [if_neg h2,if_neg h2]
theorem Hc.drop {st:DH} (h:Hc st) (c:Int):Hc (IR st c):=by
 intro a b
 rw [QH]
 split
 ·exact ⟨by simp,fun x hx=>by cases hx⟩
 ·exact h a b
theorem Hc.put {st:DH} (h:Hc st) {a b q:Int} {x:List An} (hx:x.length≤8):Hc (Ki st a b q x):=by
 unfold Ki
 split
 ·rename_i hm
  intro c d
  rw [QG]
  split
  ·rename_i e
   obtain ⟨rfl,rfl⟩:=e
   have h1:=hm.1
   have h2:=hm.2.2.2
   unfold Kh at h1
   refine ⟨by rw [List.length_append,List.length_singleton];omega,fun y hy=>?_⟩
   rcases List.mem_append.1 hy with hy|hy
   ·exact (h _ _).2 y hy
   ·rw [List.mem_singleton.1 hy];exact hx
  ·exact h c d
 ·exact h
theorem CG.looks {n:Nat} {J:AC} {R:AI} (h:CG n R) (h6:J.us.length≤6) (k:Nat):CG (n+1) (JO J R k).1:=by
 have hg:∀ ps:List An,ps.length≤40→∀ i,((CN R.g k { R.g k with merged:=true,pairs:=ps }:Nat→Dd) i).pairs.length≤1000:=fun ps hps i=>by
  by_cases e:i=k
  ·subst e
   rw [Hb]
   show ps.length≤1000
   omega
  ·rw [Ha _ _ e]
   exact h.pairs i
 have h':CG (n+1) R:=h.mono (Nat.le_succ n)
 unfold JO
 split
 ·exact h'
 ·split
  ·exact h'
  ·split
   ·exact h'
   ·rename_i hl
    dsimp only
    split
    ·refine ⟨hg _ (by omega),h.st.drop _,by show (R.sets++[_]).length≤n+1;rw [List.length_append,List.length_singleton];have:=h.sets;omega,fun s hs=>?_⟩
     rcases List.mem_append.1 hs with hs|hs
     ·exact h.setl s hs
     ·rw [List.mem_singleton.1 hs]
      exact Nat.le_trans (Pu _ _) (by omega)
    ·exact ⟨hg _ (by omega),h.st.drop _,Nat.le_succ_of_le h.sets,h.setl⟩
theorem CG.push {n:Nat} {J:AC} {R:AI} (h:CG n R) (h6:J.us.length≤6) (m:Dl):CG (n+1) (P3 J R m).1:=by
 unfold P3
 split
 ·exact h.mono (Nat.le_succ n)
 ·show CG (n+1) (IE J R m).1
  unfold IE
  split
  ·rename_i ht
   exact CG.looks (R:={ R with st:=Ki R.st m.sp m.att m.seq m.pairs }) ⟨h.pairs,h.st.put ht.2.1,h.sets,h.setl⟩ h6 _
  ·exact h.mono (Nat.le_succ n)
theorem CG.won {n:Nat} {J:AC} {t:Int} {R:AI} (h:CG n R) (h6:J.us.length≤6) (sp att cnt:Int):CG (n+1) (Q8 J t R sp att cnt).1:=by
 unfold Q8
 split
 ·exact h.mono (Nat.le_succ n)
 ·refine CG.looks (R:={ R with g:=CN R.g sp.toNat { R.g sp.toNat with told:=true,att:=att,cnt:=cnt } }) ⟨fun i=>?_,h.st,h.sets,h.setl⟩ h6 _
  show ((CN R.g sp.toNat { R.g sp.toNat with told:=true,att:=att,cnt:=cnt }:Nat→Dd) i).pairs.length≤1000
  by_cases e:i=sp.toNat
  ·subst e;rw [Hb];exact h.pairs _
  ·rw [Ha _ _ e];exact h.pairs i
theorem VZ (n:Nat) (p ep:Int) (rs:List Dy):(CM n p ep rs).sets.length≤rs.length:=by
 have key:∀ rs:List Dy,(CM n p ep rs.reverse).sets.length≤rs.length:=by
  intro rs
  induction rs with
  |nil=>simp [CM,GK]
  |cons x rs ih=>
   rw [List.reverse_cons,Pz,List.length_cons]
   have hx:∀ R:AI,(Dj n R x).sets.length≤R.sets.length+1:=by
    intro R
    unfold Dj
    dsimp only
    split
    ·omega
    ·split<;>split<;>simp
   have:=hx (CM n p ep rs.reverse)
   omega
 have:=key rs.reverse
 rwa [List.reverse_reverse,List.length_reverse] at this
theorem VY (n:Nat) (p ep:Int) (b:Nat) (rs:List Dy) (h:∀ r∈rs,r.set.length≤b):∀ s∈(CM n p ep rs).sets,s.length≤b:=by
 have key:∀ (rs:List Dy) (R:AI),(∀ r∈rs,r.set.length≤b)→(∀ s∈R.sets,s.length≤b)→∀ s∈(rs.foldl (Dj n) R).sets,s.length≤b:=by
  intro rs
  induction rs with
  |nil=>intro R _ h;exact h
  |cons x rs ih=>
   intro R hr hR
   refine ih (Dj n R x) (fun r hq=>hr r (List.mem_cons_of_mem _ hq)) ?_
   have hx:=hr x (List.mem_cons_self ..)
   have hc:∀ R1:AI,R1.sets=R.sets→∀ s∈(if x.kind=5 then ({ R1 with sets:=R1.sets++[x.set] }:AI) else R1).sets,s.length≤b:=by
    intro R1 e s hs
    split at hs
    ·rcases List.mem_append.1 hs with hs|hs
     ·rw [e] at hs;exact hR s hs
     ·rw [List.mem_singleton.1 hs];exact hx
    ·rw [e] at hs;exact hR s hs
   unfold Dj
   dsimp only
   split
   ·exact hR
   ·refine hc _ ?_
    split<;>rfl
 exact key rs (GK p ep) h fun s hs=>by cases hs
theorem CG.new {n:Nat} {p ep:Int} {rs:List Dy} (h:∀ r∈rs,r.pairs.length≤1000∧r.set.length≤1000):CG rs.length (CM n p ep rs):=⟨VX fun r hr=>(h r hr).1,by rw [(IA n p ep rs).2.2];exact fun a b=>⟨by simp [DL],fun x hx=>by cases hx⟩,VZ n p ep rs,VY n p ep 1000 rs fun r hr=>(h r hr).2⟩
section
variable {J:AC} {R R1:AI} {k:Nat} {n:Int} {ps:List An}
end
/-! ### Once -/
/-! ### Records -/
structure Z9 (n:Nat) (R N:AI):Prop where
 part:N.part=R.part
 g:∀ s,s<n→(N.g s).merged=(R.g s).merged∧(N.g s).pairs=(R.g s).pairs
 sets:N.sets=R.sets
theorem TA {D:A8} {J:AC} {R:AI} (h:(DE D J R).2.2=true):AD D J R=⟨8,0,0,R.part,0,0,R.ep,(DE D J R).2.1,[],[]⟩:=if_pos h
theorem Tx {D:A8} {J:AC} {R:AI} (h:¬ (DE D J R).2.2=true):AD D J R=⟨6,0,0,R.part,0,0,R.ep,0,CT J.us.length R,[]⟩:=if_neg h
/-! ### Six slices in a row -/
def JD (set:List Int) (pairs:List An):Bool:=decide (20<(set.length:Int))||JC pairs 50
section
variable {α:Type} {J:AC} {rs:List Bp} {acts:List (Bi α)} {most:Int}
end
/-! ### Lists of structs held against one another -/
theorem YB {a b:MV}:a=b↔a.why=b.why∧a.set=b.set∧a.pairs=b.pairs:=by
 constructor
 ·rintro rfl;exact ⟨rfl,rfl,rfl⟩
 ·rintro ⟨h1,h2,h3⟩
  cases a;cases b
  simp only at h1 h2 h3
  subst h1 h2 h3
  rfl
instance snapPD (a b:MV):Decidable (a=b):=decidable_of_iff _ YB.symm
theorem Vz {α β γ:Type} {f:α→γ} {g:β→γ} {a:List α} {b:List β} {k:Nat} {x:α} {y:β} (hx:a[k]?=some x) (hy:b[k]?=some y) (e:f x=g y) (h:(a.take k).map f=(b.take k).map g):(a.take (k+1)).map f=(b.take (k+1)).map g:=by
 rw [D9 hx,D9 hy,List.map_append,List.map_append,h]
 simp [e]
theorem LU {α β γ:Type} {f:α→γ} {g:β→γ} {a:List α} {b:List β} {k:Nat} {x:α} {y:β} (hx:a[k]?=some x) (hy:b[k]?=some y) (e:a.map f=b.map g):f x=g y:=by
 have h:=congrArg (·[k]?) e
 simp only [List.getElem?_map,hx,hy,Option.map_some] at h
 exact Option.some.inj h
/-! ### A small configuration -/
def Dv:List An:=[⟨⟨#[98]⟩,⟨#[49]⟩⟩]
theorem To (x:Cj) (xsv:Value) (xse:List Int) (xpv:Value) (xpr:List An):
    Cn Tryz.prog 62 [.agg #[.int .i64 x.kind,.int .i64 x.sp,.int .i64 x.att,.int .i64 x.part,.int .i64 x.seq,.int .i64 x.next,.int .i64 x.ep,.int .i64 x.why,xsv,xpv]] [] [Ab (Ai .i64) xsv xse,Ab Ag xpv xpr] (fun v Bs=>v=.bool (JD xse xpr)∧Bs=[]):=by
 intro w0 F0 H
 obtain ⟨A1,c2,rfl,hc3,hm4,hp5⟩:=H.fR 0 rfl
 obtain ⟨A6,c7,rfl,hc8,hm9,hp10⟩:=H.fR 1 rfl
 refine enter Tryz.func62 U U (Nat.le_of_ble_eq_true U) (Aa (Ae (Cm U U U U H (fun b11 w H=>(Ad U (Ac (Z ?_)))))))
 replace H:Hd _ _ _ [blk b11 [.int .i64 x.kind,.int .i64 x.sp,.int .i64 x.att,.int .i64 x.part,.int .i64 x.seq,.int .i64 x.next,.int .i64 x.ep,.int .i64 x.why,.slice A1 xse.length c2,.slice A6 xpr.length c7] 64] [Ab (Ai .i64) (.slice A1 xse.length c2) xse,Ab Ag (.slice A6 xpr.length c7) xpr]:=H
 refine Aa (Ae (V U U (Aj U Ln U) (V U U (Al U Fr U (H.cellI 0 U U)) (V U U (Bf U E7 U) (V U U (CK U U U) (Ad U ?_))))))
 refine AN (d:=7) U (fun h12=>?_) (fun h12=>?_)
 ·refine Ah 5 U (Ac (Z (Am (Aq U U ?_))))
  replace H:=H.nil
  exact Ak ⟨by unfold JD;rw [decide_eq_true (by omega)];rfl,rfl⟩ H
 refine V U U (Aj U Lo U) (V U U (Al U EF U (H.cellI 0 U U)) (sc (Tp (.slice A6 xpr.length c7) xpr 50) H (lR 1 U l0) U U (Au Ut U U) ?_))
 rintro _ _ w ⟨rfl,rfl⟩ H
 refine Ah 2 U (Ac (Z (Am (Aq U U ?_))))
 replace H:=H.nil
 replace H:Hd _ _ _ [] [Ab (Ai .i64) (.slice A1 xse.length c2) xse,Ab Ag (.slice A6 xpr.length c7) xpr]:=H
 exact Ak ⟨by unfold JD;rw [decide_eq_false (by omega)];rfl,rfl⟩ H
theorem Yp (x:Cj) (xsv:Value) (xse:List Int) (xpv:Value) (xpr:List An) (y:Cj) (ysv:Value) (yse:List Int) (ypv:Value) (ypr:List An):
    Cn Tryz.prog 63 [.agg #[.int .i64 x.kind,.int .i64 x.sp,.int .i64 x.att,.int .i64 x.part,.int .i64 x.seq,.int .i64 x.next,.int .i64 x.ep,.int .i64 x.why,xsv,xpv],.agg #[.int .i64 y.kind,.int .i64 y.sp,.int .i64 y.att,.int .i64 y.part,.int .i64 y.seq,.int .i64 y.next,.int .i64 y.ep,.int .i64 y.why,ysv,ypv]] [] [Ab (Ai .i64) xsv xse,Ab Ag xpv xpr,Ab (Ai .i64) ysv yse,Ab Ag ypv ypr] (fun v Bs=>v=.bool (decide (x.p xse xpr=y.p yse ypr))∧Bs=[]):=by
 intro w0 F0 H
 obtain ⟨A1,c2,rfl,hc3,hm4,hp5⟩:=H.fR 0 rfl
 obtain ⟨A6,c7,rfl,hc8,hm9,hp10⟩:=H.fR 1 rfl
 obtain ⟨A11,c12,rfl,hc13,hm14,hp15⟩:=H.fR 2 rfl
 obtain ⟨A16,c17,rfl,hc18,hm19,hp20⟩:=H.fR 3 rfl
 refine enter Tryz.func63 U U (Nat.le_of_ble_eq_true U) (Aa (Ae (Cm U U U U H (fun b21 w H=>(Cm U U U U H (fun b22 w H=>(Ad U (Ac (Z ?_)))))))))
 replace H:Hd _ _ _ [blk b22 [.int .i64 y.kind,.int .i64 y.sp,.int .i64 y.att,.int .i64 y.part,.int .i64 y.seq,.int .i64 y.next,.int .i64 y.ep,.int .i64 y.why,.slice A11 yse.length c12,.slice A16 ypr.length c17] 64,blk b21 [.int .i64 x.kind,.int .i64 x.sp,.int .i64 x.att,.int .i64 x.part,.int .i64 x.seq,.int .i64 x.next,.int .i64 x.ep,.int .i64 x.why,.slice A1 xse.length c2,.slice A6 xpr.length c7] 64] [Ab (Ai .i64) (.slice A1 xse.length c2) xse,Ab Ag (.slice A6 xpr.length c7) xpr,Ab (Ai .i64) (.slice A11 yse.length c12) yse,Ab Ag (.slice A16 ypr.length c17) ypr]:=H
 refine Aa (Ae (V U U (Aj U Fe U) (V U U (Al U AA U (H.cellI 1 U U)) (V U U (Aj U Fe U) (V U U (Al U AA U (H.cellI 0 U U)) (V U U (AW U U U) (Ad U ?_)))))))
 refine AN (d:=11) U (fun h23=>?_) (fun h23=>?_)
 ·refine V U U (Aj U Ll U) (V U U (Al U AA U (H.cellI 1 U U)) (V U U (Aj U Ll U) (V U U (Al U AA U (H.cellI 0 U U)) (V U U (AW U U U) (Ah 2 U ?_)))))
  refine AN (d:=18) U (fun h24=>?_) (fun h24=>?_)
  ·refine V U U (Aj U Lm U) (V U U (Al U AA U (H.cellI 1 U U)) (V U U (Aj U Lm U) (V U U (Al U AA U (H.cellI 0 U U)) (V U U (AW U U U) (Ah 2 U ?_)))))
   refine AN (d:=25) U (fun h25=>?_) (fun h25=>?_)
   ·refine V U U (Aj U JB U) (V U U (Al U AA U (H.cellI 1 U U)) (V U U (Aj U JB U) (V U U (Al U AA U (H.cellI 0 U U)) (V U U (AW U U U) (Ah 2 U ?_)))))
    refine AN (d:=32) U (fun h26=>?_) (fun h26=>?_)
    ·refine V U U (Aj U Ok U) (V U U (Al U AA U (H.cellI 1 U U)) (V U U (Aj U Ok U) (V U U (Al U AA U (H.cellI 0 U U)) (V U U (AW U U U) (Ah 2 U ?_)))))
     refine AN (d:=39) U (fun h27=>?_) (fun h27=>?_)
     ·refine V U U (Aj U Ol U) (V U U (Al U AA U (H.cellI 1 U U)) (V U U (Aj U Ol U) (V U U (Al U AA U (H.cellI 0 U U)) (V U U (AW U U U) (Ah 2 U (Ac (Z (Aa (Ae (Ah 2 U ?_))))))))))
      refine AN (d:=47) U (fun h28=>?_) (fun h28=>?_)
      ·refine V U U (Aj U Om U) (V U U (Al U AA U (H.cellI 1 U U)) (V U U (Aj U Om U) (V U U (Al U AA U (H.cellI 0 U U)) (V U U (AW U U U) (Ah 2 U ?_)))))
       refine AN (d:=54) U (fun h29=>?_) (fun h29=>?_)
       ·refine V U U (Aj U On U) (V U U (Al U AA U (H.cellI 1 U U)) (V U U (Aj U On U) (V U U (Al U AA U (H.cellI 0 U U)) (V U U (AW U U U) (Ah 2 U ?_)))))
        refine AN (d:=61) U (fun h30=>?_) (fun h30=>?_)
        ·refine V U U (Aj U Ln U) (V U U (Al U Fr U (H.cellI 1 U U)) (V U U (Aj U Ln U) (V U U (Al U Fr U (H.cellI 0 U U)) (sc (Yn (.slice A1 xse.length c2) (.slice A11 yse.length c12) xse yse) H (lR 0 U (lR 2 U l0)) U U (Au UU U U) ?_))))
         rintro _ _ w ⟨rfl,rfl⟩ H
         refine Ah 2 U ?_
         refine AN (d:=68) U (fun h31=>?_) (fun h31=>?_)
         ·refine V U U (Aj U Lo U) (V U U (Al U EF U (H.cellI 1 U U)) (V U U (Aj U Lo U) (V U U (Al U EF U (H.cellI 0 U U)) (sc (Yq (.slice A6 xpr.length c7) (.slice A16 ypr.length c17) xpr ypr) H (lR 1 U (lR 3 U l0)) U U (Au UB U U) ?_))))
          rintro _ _ w ⟨rfl,rfl⟩ H
          refine Ah 2 U (Ac (Z (Am (Aq U U ?_))))
          have e:xpr=ypr↔x.p xse xpr=y.p yse ypr:=⟨fun h=>Fi.2 ⟨by assumption,by assumption,by assumption,by assumption,by assumption,by assumption,by assumption,by assumption,by assumption,h⟩,fun h=>(Fi.1 h).2.2.2.2.2.2.2.2.2⟩
          replace H:=H.nil
          replace H:Hd _ _ _ [] [Ab (Ai .i64) (.slice A1 xse.length c2) xse,Ab Ag (.slice A6 xpr.length c7) xpr,Ab (Ai .i64) (.slice A11 yse.length c12) yse,Ab Ag (.slice A16 ypr.length c17) ypr]:=H
          exact Ak ⟨congrArg Value.bool (decide_eq_decide.2 e),rfl⟩ H
         refine Ah 7 U (Ac (Z (Am (Aq U U ?_))))
         have e:¬ x.p xse xpr=y.p yse ypr:=fun h=>by obtain ⟨g1,g2,g3,g4,g5,g6,g7,g8,g9,g10⟩:=Fi.1 h;first |exact absurd g1 h31|exact absurd g2 h31|exact absurd g3 h31|exact absurd g4 h31|exact absurd g5 h31|exact absurd g6 h31|exact absurd g7 h31|exact absurd g8 h31|exact absurd g9 h31|exact absurd g10 h31
         replace H:=H.nil
         replace H:Hd _ _ _ [] [Ab (Ai .i64) (.slice A1 xse.length c2) xse,Ab Ag (.slice A6 xpr.length c7) xpr,Ab (Ai .i64) (.slice A11 yse.length c12) yse,Ab Ag (.slice A16 ypr.length c17) ypr]:=H
         exact Ak ⟨congrArg Value.bool (decide_eq_false e).symm,rfl⟩ H
        refine Ah 12 U (Ah 2 U (Ac (Z (Am (Aq U U ?_)))))
        have e:¬ x.p xse xpr=y.p yse ypr:=fun h=>by obtain ⟨g1,g2,g3,g4,g5,g6,g7,g8,g9,g10⟩:=Fi.1 h;first |exact absurd g1 h30|exact absurd g2 h30|exact absurd g3 h30|exact absurd g4 h30|exact absurd g5 h30|exact absurd g6 h30|exact absurd g7 h30|exact absurd g8 h30|exact absurd g9 h30|exact absurd g10 h30
        replace H:=H.nil
        exact Ak ⟨congrArg Value.bool (decide_eq_false e).symm,rfl⟩ H
       refine Ah 12 U (Ah 9 U (Ac (Z (Am (Aq U U ?_)))))
       have e:¬ x.p xse xpr=y.p yse ypr:=fun h=>by obtain ⟨g1,g2,g3,g4,g5,g6,g7,g8,g9,g10⟩:=Fi.1 h;first |exact absurd g1 h29|exact absurd g2 h29|exact absurd g3 h29|exact absurd g4 h29|exact absurd g5 h29|exact absurd g6 h29|exact absurd g7 h29|exact absurd g8 h29|exact absurd g9 h29|exact absurd g10 h29
       replace H:=H.nil
       exact Ak ⟨congrArg Value.bool (decide_eq_false e).symm,rfl⟩ H
      refine Ah 12 U (Ah 12 U (Ah 4 U (Ac (Z (Am (Aq U U ?_))))))
      have e:¬ x.p xse xpr=y.p yse ypr:=fun h=>by obtain ⟨g1,g2,g3,g4,g5,g6,g7,g8,g9,g10⟩:=Fi.1 h;first |exact absurd g1 h28|exact absurd g2 h28|exact absurd g3 h28|exact absurd g4 h28|exact absurd g5 h28|exact absurd g6 h28|exact absurd g7 h28|exact absurd g8 h28|exact absurd g9 h28|exact absurd g10 h28
      replace H:=H.nil
      exact Ak ⟨congrArg Value.bool (decide_eq_false e).symm,rfl⟩ H
     refine Ah 7 U (Ac (Z (Aa (Ae (Ah 12 U (Ah 12 U (Ah 6 U (Ac (Z (Am (Aq U U ?_)))))))))))
     have e:¬ x.p xse xpr=y.p yse ypr:=fun h=>by obtain ⟨g1,g2,g3,g4,g5,g6,g7,g8,g9,g10⟩:=Fi.1 h;first |exact absurd g1 h27|exact absurd g2 h27|exact absurd g3 h27|exact absurd g4 h27|exact absurd g5 h27|exact absurd g6 h27|exact absurd g7 h27|exact absurd g8 h27|exact absurd g9 h27|exact absurd g10 h27
     replace H:=H.nil
     exact Ak ⟨congrArg Value.bool (decide_eq_false e).symm,rfl⟩ H
    refine Ah 12 U (Ah 2 U (Ac (Z (Aa (Ae (Ah 12 U (Ah 12 U (Ah 6 U (Ac (Z (Am (Aq U U ?_))))))))))))
    have e:¬ x.p xse xpr=y.p yse ypr:=fun h=>by obtain ⟨g1,g2,g3,g4,g5,g6,g7,g8,g9,g10⟩:=Fi.1 h;first |exact absurd g1 h26|exact absurd g2 h26|exact absurd g3 h26|exact absurd g4 h26|exact absurd g5 h26|exact absurd g6 h26|exact absurd g7 h26|exact absurd g8 h26|exact absurd g9 h26|exact absurd g10 h26
    replace H:=H.nil
    exact Ak ⟨congrArg Value.bool (decide_eq_false e).symm,rfl⟩ H
   refine Ah 12 U (Ah 9 U (Ac (Z (Aa (Ae (Ah 12 U (Ah 12 U (Ah 6 U (Ac (Z (Am (Aq U U ?_))))))))))))
   have e:¬ x.p xse xpr=y.p yse ypr:=fun h=>by obtain ⟨g1,g2,g3,g4,g5,g6,g7,g8,g9,g10⟩:=Fi.1 h;first |exact absurd g1 h25|exact absurd g2 h25|exact absurd g3 h25|exact absurd g4 h25|exact absurd g5 h25|exact absurd g6 h25|exact absurd g7 h25|exact absurd g8 h25|exact absurd g9 h25|exact absurd g10 h25
   replace H:=H.nil
   exact Ak ⟨congrArg Value.bool (decide_eq_false e).symm,rfl⟩ H
  refine Ah 12 U (Ah 12 U (Ah 4 U (Ac (Z (Aa (Ae (Ah 12 U (Ah 12 U (Ah 6 U (Ac (Z (Am (Aq U U ?_)))))))))))))
  have e:¬ x.p xse xpr=y.p yse ypr:=fun h=>by obtain ⟨g1,g2,g3,g4,g5,g6,g7,g8,g9,g10⟩:=Fi.1 h;first |exact absurd g1 h24|exact absurd g2 h24|exact absurd g3 h24|exact absurd g4 h24|exact absurd g5 h24|exact absurd g6 h24|exact absurd g7 h24|exact absurd g8 h24|exact absurd g9 h24|exact absurd g10 h24
  replace H:=H.nil
  exact Ak ⟨congrArg Value.bool (decide_eq_false e).symm,rfl⟩ H
 refine Ah 12 U (Ah 12 U (Ah 11 U (Ac (Z (Aa (Ae (Ah 12 U (Ah 12 U (Ah 6 U (Ac (Z (Am (Aq U U ?_)))))))))))))
 have e:¬ x.p xse xpr=y.p yse ypr:=fun h=>by obtain ⟨g1,g2,g3,g4,g5,g6,g7,g8,g9,g10⟩:=Fi.1 h;first |exact absurd g1 h23|exact absurd g2 h23|exact absurd g3 h23|exact absurd g4 h23|exact absurd g5 h23|exact absurd g6 h23|exact absurd g7 h23|exact absurd g8 h23|exact absurd g9 h23|exact absurd g10 h23
 replace H:=H.nil
 exact Ak ⟨congrArg Value.bool (decide_eq_false e).symm,rfl⟩ H
def Gu (x:Int) (k:Nat):List Int:=(List.range k).map fun (i:Nat)=>x+(i:Int)
theorem Q2 (x:Int) (k:Nat):(Gu x k).length=k:=by simp [Gu]
theorem Zm (x:Int) (k:Nat):Gu x (k+1)=Gu x k++[x+(k:Int)]:=by simp [Gu,List.range_succ]
def Do (c s x:Int):List Int:=Gu x (min s (c - x)).toNat
theorem Wi (c s x:Int):(Do c s x).length=(min s (c - x)).toNat:=Q2 _ _
def Cd (n:Nat):List UInt8:=(List.range 8).map fun i=>UInt8.ofNat (n / 256^(7 - i))
def ED (l:List UInt8):Nat:=l.foldl (fun n x=>n*256+x.toNat) 0
theorem Fv (n:Nat):(Cd n).length=8:=by simp [Cd]
theorem RC (n:Nat):Cd n=[UInt8.ofNat (n / 72057594037927936),UInt8.ofNat (n / 281474976710656),UInt8.ofNat (n / 1099511627776),UInt8.ofNat (n / 4294967296),UInt8.ofNat (n / 16777216),UInt8.ofNat (n / 65536),UInt8.ofNat (n / 256),UInt8.ofNat (n / 1)]:=rfl
theorem Xt {n:Nat} (h:n<18446744073709551616):ED (Cd n)=n:=by
 rw [RC]
 simp only [ED,List.foldl_cons,List.foldl_nil,UInt8.toNat_ofNat']
 omega
theorem Xu:∀ (l:List UInt8) (k:Nat),ED l<256^l.length:=by
 intro l _
 have:∀ (l:List UInt8) (n m:Nat),n<256^m→l.foldl (fun n x=>n*256+x.toNat) n<256^(m+l.length):=by
  intro l
  induction l with
  |nil=>intro n m h;exact h
  |cons x l ih=>
   intro n m h
   have hx:=UInt8.toNat_lt x
   have:=ih (n*256+x.toNat) (m+1) (by rw [Nat.pow_succ];omega)
   rw [List.foldl_cons,List.length_cons,show m+(l.length+1)=m+1+l.length by omega]
   exact this
 have:=this l 0 0 (by decide)
 rwa [Nat.zero_add] at this
theorem Xv (l:List UInt8) (x:UInt8):ED (l++[x])=ED l*256+x.toNat:=by
 unfold ED;rw [List.foldl_append];rfl
def Cu (s:ByteArray):List UInt8:=s.data.toList
def Dc (s:ByteArray):List UInt8:=Cd s.size++Cu s
theorem Gc (s:ByteArray):(Cu s).length=s.size:=by unfold Cu;exact Array.length_toList
theorem HZ (s:ByteArray):(Dc s).length=8+s.size:=by unfold Dc;rw [List.length_append,Fv,Gc]
def FG (l:List UInt8):ByteArray:=⟨l.toArray⟩
theorem YP (s:ByteArray):FG (Cu s)=s:=by cases s;simp [FG,Cu]
theorem RO (l:List UInt8):Cu (FG l)=l:=by simp [FG,Cu]
def Gl (b:List UInt8) (at_:Int):Option (Int×Int):=
 if at_<0∨(b.length:Int)<at_∨(b.length:Int) - at_<8 then none else some (IntKind.i64.wrap (ED ((b.drop at_.toNat).take 8):Nat),at_+8)
def IL (b:List UInt8) (at_:Int):Option (ByteArray×Int):=
 match Gl b at_ with
 |none=>none
 |some (n,next)=>if n<0∨(b.length:Int) - next<n then none else some (FG ((b.drop next.toNat).take n.toNat),next+n)
theorem Qi {a c:List UInt8} {n k:Nat} (hn:n<9223372036854775808) (hk:a.length=k):Gl (a++(Cd n++c)) (k:Int)=some ((n:Int),((k+8:Nat):Int)):=by
 subst hk
 unfold Gl
 rw [if_neg (by rw [List.length_append,List.length_append,Fv];omega)]
 have h1:((a++(Cd n++c)).drop ((a.length:Nat):Int).toNat).take 8=Cd n:=by
  rw [Int.toNat_natCast,List.drop_left,←Fv n,List.take_left]
 rw [h1,Xt (by omega),AB (by omega) (by omega)]
 rfl
theorem Qj {a c:List UInt8} {s:ByteArray} {k:Nat} (hs:s.size<9223372036854775808) (hk:a.length=k):IL (a++(Dc s++c)) (k:Int)=some (s,((k+8+s.size:Nat):Int)):=by
 unfold IL
 have h:a++(Dc s++c)=a++(Cd s.size++(Cu s++c)):=by unfold Dc;rw [List.append_assoc]
 rw [h,Qi hs hk]
 dsimp only
 rw [if_neg (by rw [List.length_append,List.length_append,List.length_append,Fv,Gc];omega)]
 have h2:(a++(Cd s.size++(Cu s++c))).drop ((k+8:Nat):Int).toNat=Cu s++c:=by
  rw [Int.toNat_natCast,←List.append_assoc,show k+8=(a++Cd s.size).length by rw [List.length_append,Fv,hk],List.drop_left]
 rw [h2,Int.toNat_natCast,←Gc s,List.take_left,YP,Gc]
 rfl
def CD (ps:List An):List UInt8:=ps.flatMap fun p=>Dc p.key++Dc p.val
def FD (ps:List An):List UInt8:=Cd ps.length++CD ps
theorem PQ (ps:List An) (p:An):CD (ps++[p])=CD ps++(Dc p.key++Dc p.val):=by unfold CD;rw [List.flatMap_append];simp
theorem PR {ps:List An} {k:Nat} {p:An} (h:ps[k]?=some p):CD ps=CD (ps.take k)++(Dc p.key++(Dc p.val++CD (ps.drop (k+1)))):=by
 obtain ⟨hl,e⟩:=List.getElem?_eq_some_iff.1 h
 have:ps=ps.take k++p::ps.drop (k+1):=by rw [←e,←List.drop_eq_getElem_cons hl,List.take_append_drop]
 conv=>lhs;rw [this]
 unfold CD
 rw [List.flatMap_append,List.flatMap_cons,List.append_assoc]
def Ey (x:UInt8):List Value:=[.int .u8 x.toNat]
def B2:Kd UInt8:=flat Ey 1 (by omega) (fun _=>rfl) (fun _ c h=>by simp [Ey] at h;subst h;rfl)
structure B0 where
 c:Int
 s:Int
 e:Int
 x:Int
def IB (w:B0):Prop:=(0≤w.c∧w.c≤40∧1≤w.s∧w.s≤4)∧(0≤w.x∧w.x≤w.c)∧0≤w.e∧w.e≤9223372036854775807
def Df (chunk att:Int):Int:=if att.tmod 2≠0 then chunk+1 else chunk
def De (n size:Int):Int:=if n<1∨size<1 then 0 else (n - 1).tdiv size+1
def EV (ps:List An) (size q:Int):List An:=if q<0∨De ps.length size≤q then [] else (ps.drop (q*size).toNat).take size.toNat
def Br (D:A8) (J:AC) (s:Nat) (att:Int):List Int:=
 if (Az D J s).2≠0 then [] else (List.range J.parts.toNat).map fun (p:Nat)=>De ((Cr D J s p).length:Nat) (Df J.chunk att)
structure BJ where
 sp:Nat
 att:Int
 ws:List B0
def Db (D:A8) (J:AC) (s:Nat) (att:Int):BJ:=⟨s,att,(Br D J s att).map fun n=>⟨n,J.window,0,0⟩⟩
def C3 (D:A8) (J:AC) (s:Nat) (att p q:Int):List An:=if p<0 then [] else EV (Cr D J s p) (Df J.chunk att) q
def D2 (D:A8) (J:AC) (s:Nat) (att:Int) (w:B0) (p:Nat):List Dl:=
 (Do w.c w.s w.x).map fun q=>⟨2,s,att,p,q,0,0,0,[],C3 D J s att p q⟩
def Dw (D:A8) (J:AC) (s:Nat) (att:Int):List B0→Nat→List Dl
 |[],_=>[]
 |w::ws,p=>D2 D J s att w p++Dw D J s att ws (p+1)
def GH (D:A8) (J:AC) (m:BJ):List Dl:=Dw D J m.sp m.att m.ws 0
def MW (m:BJ) (p:Int):Prop:=0≤p∧p<m.ws.length
instance (m:BJ) (p:Int):Decidable (MW m p):=by unfold MW;infer_instance
theorem R3 {n size:Int} (h1:1≤n) (h2:1≤size):1≤De n size∧De n size≤n:=by
 unfold De
 rw [if_neg (by omega)]
 have h3:(n - 1).tdiv size=(n - 1) / size:=Int.tdiv_eq_ediv_of_nonneg (by omega)
 rw [h3]
 have h4:0≤(n - 1) / size:=Int.ediv_nonneg (by omega) (by omega)
 have h5:(n - 1) / size≤n - 1:=Int.ediv_le_self _ (by omega)
 omega
theorem R0 {n size:Int} (h:0≤n):0≤De n size∧De n size≤n:=by
 by_cases h1:n<1∨size<1
 ·unfold De;rw [if_pos h1];omega
 ·have:=R3 (n:=n) (size:=size) (by omega) (by omega);omega
theorem Sl {chunk att:Int} (h:1≤chunk∧chunk≤7):1≤Df chunk att∧Df chunk att≤8:=by
 unfold Df;split<;>omega
theorem NG (D:A8) (J:AC) (s:Nat) (att:Int):(Br D J s att).length=if (Az D J s).2≠0 then 0 else J.parts.toNat:=by
 unfold Br
 split
 ·rfl
 ·simp
theorem NF {D:A8} {J:AC} {s:Nat} {att n:Int} (h:n∈Br D J s att):0≤n∧n≤40:=by
 unfold Br at h
 split at h
 ·cases h
 ·obtain ⟨p,_,rfl⟩:=List.mem_map.1 h
  have h1:=R0 (n:=((Cr D J s p).length:Nat)) (size:=Df J.chunk att) (by omega)
  have h2:=IC D J s p
  omega
theorem VW {D:A8} {J:AC} (hJ:B5 J) (s:Nat) (att:Int):∀ w∈(Db D J s att).ws,IB w:=by
 intro w hw
 obtain ⟨n,hn,rfl⟩:=List.mem_map.1 hw
 have:=NF hn
 have:=hJ.window1
 exact ⟨⟨by (try dsimp only);omega,by (try dsimp only);omega,by (try dsimp only);omega,by (try dsimp only);omega⟩,⟨by (try dsimp only);omega,by (try dsimp only);omega⟩,by (try dsimp only);omega,by (try dsimp only);omega⟩
theorem Gz:∀ l:List UInt8,l.flatMap Ey=l.map fun b=>Value.int .u8 b.toNat
 |[]=>rfl
 |x::l=>by rw [List.flatMap_cons,Gz l];rfl
section
variable {P:Program} {ops:Array Oper} {Q:Exit→Act→World→Prop} {rest:List Oper} {n:Nat} {l:Bz} {w0 w:World} {F F0:AH} {o:Oper} {v:Value} {As Rs:List SP} {x y z:Operand} {t:TypeId}
section
variable {α:Type} {enc:α→List Value} {sz:Nat} {hp:0<sz} {hl:∀ x,(enc x).length=sz} {h1:∀ x,∀ c∈enc x,c.oneCell'=true}
theorem Yg {e bytes:Nat} {b bt:Nat} {xs ys:List α} {B:Option Addr} {m c c2:Nat} (hg:gd ops l o=some true) (hd:CI n o.dst=true) (ho:o.op=.call { callee:=.builtin .copy,args:=#[x,y],argTypes:=#[t,t] }) (hs:C2 P t=some (e,sz,bytes))
  (hx:ev l x=some (.slice (some ⟨b,0,none⟩) m c)) (hy:ev l y=some (.slice B m c2)) (H:Hd w0 F0 w (HQ enc b bt xs::As) Rs) (hc:xs.length=c) (hmc:m≤c)
  (hn:∀ F,(∀ A∈As,A.P w F)→(∀ R∈Rs,R.P w F)→(Ab (flat enc sz hp hl h1) (.slice B m c2) ys).P w F)
  (h:∀ w',Hd w0 F0 w' (HQ enc b bt (ys++xs.drop m)::As) Rs→WL P ops Q rest n (Ct l o.dst (.int .i64 (m:Int))) w'):WL P ops Q (o::rest) n l w:=by
 obtain ⟨F,hF1,hF2⟩:∃ F,(∀ A∈As,A.P w F)∧(∀ R∈Rs,R.P w F):=H.read fun F a r=>⟨F,fun A hA=>a A (List.mem_cons_of_mem _ hA),r⟩
 obtain ⟨hyl,_,_,news,hnr,hnR⟩:My (flat enc sz hp hl h1) w F ys B m c2:=by
  obtain ⟨A',n',c',e',h'⟩:=hn F hF1 hF2
  cases e'
  exact h'
 have hnl:news.length=m*sz:=by rw [hnR.len,hyl];rfl
 have hm0:B=none→m=0:=by
  intro hB
  rcases hnr.2 with rfl|⟨b,off,C,t',fr,e',_⟩
  ·have:m*sz=0:=by rw [←hnl];rfl
   exact (Nat.mul_eq_zero.1 this).resolve_right (by omega)
  ·rw [hB] at e';cases e'
 obtain ⟨hu,i,hi,hi1,hi2⟩:=E4 hs
 have hfc:=K0 (P:=P) (c:=c2) hnr hnl hm0
 have hnews:news=ys.flatMap enc:=AV.flat_eq.1 hnR
 obtain ⟨F1,hb⟩:∃ F,(HQ enc b bt xs).P w F:=H.fact (List.mem_cons_self ..) fun F hb=>⟨F,hb⟩
 have hfit:0+0+news.length≤(xs.flatMap enc).length:=by rw [hnl,Gg hl,Nat.add_zero,Nat.zero_add];exact Nat.mul_le_mul_right _ (by omega)
 obtain ⟨w',hr,_,_⟩:=IO (P:=P) news (xs.flatMap enc) 0 0 w hb hfit hnR.one
 have hnew:Ej (xs.flatMap enc) (0+0) news=(ys++xs.drop m).flatMap enc:=by
  rw [Nat.add_zero,IF _ _ _ (by rw [Nat.zero_add] at hfit ⊢;simpa using hfit),hnews,List.take_zero,Gg hl,hyl,Nat.zero_add,Jm hl]
  simp
 refine V hg hd (v:=.int .i64 (m:Int)) (w':=w') (fun a ha=>?_) (h w' (H.write fun F' hb'=>?_))
 ·simp [execOp,ho,resolve,ha.eval hx,ha.eval hy,invoke,builtin,Builtin.copy_,run_underlying hu,sizeOf,typeInfo,hi,hi1,Builtin.lenOf,hfc w rfl,hr,goInt]
 ·obtain ⟨w'',hr',h2,h3⟩:=IO (P:=P) news (xs.flatMap enc) 0 0 w hb' hfit hnR.one
  rw [hr] at hr'
  cases hr'
  refine ⟨?_,h3⟩
  show (blk b _ bt).P w' F'
  rw [←hnew]
  exact h2
end
theorem Yd {e bytes:Nat} {zv u:Value} {xs:List UInt8} {s:ByteArray} {ts:TypeId}
  (hg:gd ops l o=some true) (hd:CI n o.dst=true) (ho:o.op=.call { callee:=.builtin .append,args:=#[x,y],argTypes:=#[t,ts] }) (hs:C2 P t=some (e,1,bytes)) (hz:CV P e=some zv) (hzs:zv.cells.size=1) (hb0:0<bytes) (hts:P.underlying ts=some .string)
  (hx:ev l x=some u) (hy:ev l y=some (.string s)) (H:Hd w0 F0 w (Y B2 u xs::As) Rs) (hb:(xs.length+s.size)*bytes≤140737488355328)
  (h:∀ u' w',Hd w0 F0 w' (Y B2 u' (xs++Cu s)::As) Rs→WL P ops Q rest n (Ct l o.dst u') w'):WL P ops Q (o::rest) n l w:=by
 obtain ⟨hu,i,hi,hi1,hi2⟩:=E4 hs
 have hfc:∀ w':World,w'.heap=w.heap→(Builtin.firstCells 1 s.size (.string s)).run P w'=.ok ((Cu s).flatMap Ey).toArray w':=by
  intro w' _
  have e1:s.extract 0 s.size=s:=by simp
  simp only [Builtin.firstCells,e1,Sem.run_pure]
  rw [Gz]
  congr 1
  apply Array.ext'
  simp [Cu]
 have hnl:((Cu s).flatMap Ey).length=s.size*1:=by rw [Gz,List.length_map,Gc,Nat.mul_one]
 have h1:∀ c∈(Cu s).flatMap Ey,c.oneCell'=true:=by
  rw [Gz]
  intro c hc
  obtain ⟨b,_,rfl⟩:=List.mem_map.1 hc
  rfl
 have key:∀ F1,(Y B2 u xs).P w F1→(∀ k,F1 k→k<w.heap.size)→∃ A c A' c' w' F',u=.slice A xs.length c∧(Builtin.append_ #[t,ts] o.type #[u,.string s]).run P w=.ok (.slice A' (xs.length+s.size) c') w'∧(Y B2 (.slice A' (xs.length+s.size) c') (xs++Cu s)).P w' F'∧B9 F1 w w'∧(∀ k,F' k→k<w'.heap.size∧(F1 k∨w.heap.size≤k)):=by
  rintro F1 ⟨A,n',c,e',hxl,cs,G1,G2,g1,g2,gd,hr,hR⟩ hlt
  cases e'
  subst hxl
  obtain ⟨A',c',w',F',hrun,hrow,hupd,hF'⟩:=Mp (P:=P) (tx:=ts) (ty:=o.type) (x:=.string s) (m:=s.size) (news:=(Cu s).flatMap Ey) hs hz hzs hts (.inr rfl) hr (fun k hk=>hlt k (g1 k hk)) (by simp [Builtin.lenOf]) hfc hnl h1 hb0 hb
  refine ⟨A,c,A',c',w',F',rfl,hrun,?_,⟨hupd.os,hupd.tape,hupd.output,hupd.size,fun k hk hn'=>hupd.block k hk (fun q=>hn' (g1 k q))⟩,fun k hk=>⟨(hF' k hk).1,(hF' k hk).2.imp (g1 k) id⟩⟩
  exact ⟨A',_,c',rfl,by rw [List.length_append,Gc],cs++(Cu s).flatMap Ey,F',none_,fun _ q=>q,fun _ q=>q.elim,fun _ _ q=>q,hrow,Cx.flatR (F:=none_) (AV.flat_eq.2 (by rw [AV.flat_eq.1 hR.toR];simp))⟩
 have hall:∃ F1,(Y B2 u xs).P w F1∧∀ k,F1 k→k<w.heap.size:=by
  obtain ⟨F,G,⟨F1,F2,a1,a2,a3,a,s⟩,r,d,f,g,u⟩:=H
  exact ⟨F1,a,fun k hk=>(f k (a1 k hk)).1⟩
 obtain ⟨F1,hO,hlt⟩:=hall
 obtain ⟨A,c,A',c',w',F',hue,hrun,_,_,_⟩:=key F1 hO hlt
 refine V hg hd (v:=.slice A' (xs.length+s.size) c') (w':=w') (fun a ha=>?_) (h _ _ (H.grow fun F2 hO2 hlt2=>?_))
 ·simp [execOp,ho,resolve,ha.eval hx,ha.eval hy,invoke,builtin,hrun]
 ·obtain ⟨A3,c3,A4,c4,w4,F4,_,hrun4,h4,h5,h6⟩:=key F2 hO2 hlt2
  rw [hrun] at hrun4
  cases hrun4
  exact ⟨F4,h4,h5,h6⟩
theorem Ym {src dst e:TypeId} {s:ByteArray} (hg:gd ops l o=some true) (hd:CI n o.dst=true) (ho:o.op=.convert src dst x) (hs:P.underlying src=some .string) (hd':P.underlying dst=some (.slice e)) (he:P.underlying e=some (.int .u8)) (hx:ev l x=some (.string s))
  (hb:s.size≤140737488355328) (H:Hd w0 F0 w As Rs)
  (h:∀ b c w',s.size≤c→c≤9223372036854775807→Hd w0 F0 w' As (Ab B2 (.slice (some ⟨b,0,none⟩) s.size c) (Cu s)::Rs)→WL P ops Q rest n (Ct l o.dst (.slice (some ⟨b,0,none⟩) s.size c)) w'):WL P ops Q (o::rest) n l w:=by
 have hr:=run_bytes_of_string w src dst e s hs hd' he
 have hge:=grownCap_ge w s.size 0 e
 have hle:grownCap w s.size 0 e≤9223372036854775807:=by
  have:=grownCap_le_maxLen w s.size 0 e (by simp only [maxLen];omega)
  simpa [maxLen] using this
 generalize hc:grownCap w s.size 0 e=c at hr hge hle
 generalize hC:bytesRow s c=C at hr
 have hCl:C.toList.take s.size=(Cu s).flatMap Ey:=by
  rw [←hC,Gz]
  unfold bytesRow
  rw [Array.toList_append,List.take_append_of_le_length (by simp)]
  rw [List.take_of_length_le (by simp)]
  simp [Cu]
 refine V hg hd (v:=.slice (some ⟨w.heap.size,0,none⟩) s.size c) (w':=w.drew.alloc (.cells C e (C.size,C.size+1))) (fun a ha=>?_) (h _ c _ hge hle (Hd.lend (A:=Ab B2 (.slice (some ⟨w.heap.size,0,none⟩) s.size c) (Cu s)) (H.new (F':=fun k=>k=w.heap.size) ?_ ?_ ?_) fun _ h=>h))
 ·simp [execOp,ho,ha.eval hx,hr]
 ·exact (B9.alloc none_ w.drew _).trans (B9.refl none_ _) (fun _ _ x=>x)|>fun u=>⟨u.os,u.tape,u.output,u.size,u.block⟩
 ·refine ⟨_,_,_,rfl,Gc s,hge,hle,(Cu s).flatMap Ey,⟨trivial,.inr ⟨w.heap.size,0,C,e,(C.size,C.size+1),rfl,rfl,?_,?_⟩⟩,AV.flat_eq.2 rfl⟩
  ·show (w.heap.push _)[w.heap.size]?=_
   simp
  ·rw [List.drop_zero,show ((Cu s).flatMap Ey).length=s.size by rw [Gz,List.length_map,Gc]]
   exact hCl
 ·intro k hk
  subst hk
  simp
theorem P7 {src dst e:TypeId} {A:Option Addr} {m c:Nat} {bs:List UInt8} (ho:o.op=.convert src dst x) (hs:P.underlying src=some (.slice e)) (he:P.underlying e=some (.int .u8)) (hd:P.underlying dst=some .string) (hx:ev l x=some (.slice A m c)) {r:ByteArray} (hr:FG bs=r) (h:(Ab B2 (.slice A m c) bs).P w F):Bw P n l w o (.string r) w:=by
 subst hr
 obtain ⟨A',c',e',_,_,_,cs,h4,h5⟩:=Mn h
 cases e'
 have hcs:cs=bs.flatMap Ey:=AV.flat_eq.1 h5
 intro a ha
 cases A with
 |none=>
  have:bs=[]:=by
   rcases h4.2 with h6|⟨b,off,C,t',fr,e',_⟩
   ·rw [hcs,Gz] at h6;simpa using h6
   ·cases e'
  subst this
  have:=run_convert_bytes_nil (P:=P) w src e hs he 0 c dst hd
  simp [execOp,ho,ha.eval hx,this]
  rfl
 |some ad=>
  have:=run_convert_bytes_back (P:=P) w src dst e ad c bs hs he hd (fun j hj=>by
   have hv:cs[j]?=some (.int .u8 (bs[j].toNat:Int)):=by rw [hcs,Gz,List.getElem?_map,List.getElem?_eq_getElem hj];rfl
   obtain ⟨b,off,e1,h6⟩:=h4.cell hv
   cases e1
   rw [D_]
   exact h6)
  simp [execOp,ho,ha.eval hx,this,FG]
theorem Hd.rd {p:Prop} (H:Hd w0 F0 w As Rs) {S:SP} (hS:∀ F,(∀ A∈As,A.P w F)→(∀ R∈Rs,R.P w F)→S.P w F) (h:∀ F,S.P w F→p):p:=H.read fun F a r=>h F (hS F a r)
theorem P8 {tt e size bytes:TypeId} {A:Option Addr} {m c i' j' m':Nat} {k k':IntKind} {i j:Int} (ho:o.op=.slice tt x (some y) (some z) none) (hs:C2 P tt=some (e,size,bytes)) (hx:ev l x=some (.slice A m c)) (hy:ev l y=some (.int k i)) (hz:ev l z=some (.int k' j))
  (h0:0≤i) (h1:i≤j) (h2:j≤(c:Int)) (hi':i.toNat=i') (hj':j.toNat=j') (hm':j' - i'=m'):Bw P n l w o (.slice (DC A c i' size) m' (c - i')) w:=by
 intro a ha
 obtain ⟨hu,inf,hi,hzz,_⟩:=E4 hs
 subst hi' hj' hm'
 have h3:0≤j:=by omega
 have h4:i≤max j 0:=by omega
 have hb:(Instr.sliceBounds true m c (some (.int k i)) (some (.int k' j)) none).run P w=.ok (i.toNat,j.toNat,c) w:=by
  simp [Instr.sliceBounds,Instr.sliceBound,asIntOf,h0,h2,h3,h4]
 unfold DC
 by_cases e1:c=i.toNat
 ·rw [e1] at hb
  cases A<;>simp [execOp,ho,ha.eval hx,ha.eval hy,ha.eval hz,Instr.sliceAt,Instr.slice,hb,run_underlying hu,sizeOf,typeInfo,hi,hzz,e1]
 ·cases A<;>simp [execOp,ho,ha.eval hx,ha.eval hy,ha.eval hz,Instr.sliceAt,Instr.slice,hb,run_underlying hu,sizeOf,typeInfo,hi,hzz,e1]
end
theorem J_ {α:Type} {d:Kd α} {w:World} {F:AH} {A:Option Addr} {m c:Nat} {xs:List α} (h:(Ab d (.slice A m c) xs).P w F) {i m':Nat} (hi:i+m'≤m):(Ab d (.slice (DC A c i d.sz) m' (c - i)) ((xs.drop i).take m')).P w F:=X0 (HR h (i:=i) (by omega)) (by omega)
theorem TB:∀ x,(Ey x).length=1:=fun _=>rfl
/-! ### Numbers, byte by byte -/
theorem Yv (n:Nat) {i:Nat} (h:i<8):((n:Nat):Int).fdiv (2^(min ((8:Int)*(7 - ((i:Nat):Int))).toNat IntKind.u64.bits))=((n / 256^(7 - i):Nat):Int):=by
 have e:(2:Int)^(min ((8:Int)*(7 - ((i:Nat):Int))).toNat IntKind.u64.bits)=((256^(7 - i):Nat):Int):=by
  match i,h with
  |0,_=>decide
  |1,_=>decide
  |2,_=>decide
  |3,_=>decide
  |4,_=>decide
  |5,_=>decide
  |6,_=>decide
  |7,_=>decide
 rw [e,Int.fdiv_eq_ediv_of_nonneg _ (Int.natCast_nonneg _),Int.natCast_ediv]
theorem Z1 (m:Nat):IntKind.u8.wrap ((m:Nat):Int)=((UInt8.ofNat m).toNat:Int):=by
 unfold IntKind.wrap
 simp [IntKind.bits,IntKind.signed,UInt8.toNat_ofNat']
theorem Yu {m:Nat} (h:m<72057594037927936):IntKind.u64.wrap (((m:Nat):Int)*2^(min (8:Int).toNat IntKind.u64.bits))=((m*256:Nat):Int):=by
 have e:(2:Int)^(min (8:Int).toNat IntKind.u64.bits)=256:=by decide
 rw [e,Ft (by omega) (by omega)]
 omega
theorem Wn {P:Program} {w:World} {m:Nat} (h:m<72057594037927936) (x:UInt8):(Op.intBits .or .u64 ((m*256:Nat):Int) ((x.toNat:Nat):Int)).run P w=.ok (.int .u64 ((m*256+x.toNat:Nat):Int)) w:=by
 have hx:=UInt8.toNat_lt x
 have h1:m*256|||x.toNat=m*256+x.toNat:=by
  have:=Nat.shiftLeft_add_eq_or_of_lt (b:=x.toNat) (i:=8) (by omega) m
  rw [Nat.shiftLeft_eq] at this
  exact this.symm
 have h2:(BitVec.ofInt 64 ((m*256:Nat):Int)|||BitVec.ofInt 64 ((x.toNat:Nat):Int)).toNat=m*256+x.toNat:=by
  rw [BitVec.toNat_or]
  simp only [BitVec.ofInt_natCast,BitVec.toNat_ofNat]
  rw [Nat.mod_eq_of_lt (by omega),Nat.mod_eq_of_lt (by omega),h1]
 unfold Op.intBits
 show (pure (Value.int .u64 (IntKind.u64.wrap ((BitVec.ofInt 64 ((m*256:Nat):Int)|||BitVec.ofInt 64 ((x.toNat:Nat):Int)).toNat:Nat))):Sem Value).run P w=_
 rw [h2,Ft (by omega) (by omega)]
 rfl
/-! ### What the program tells of bytes -/
def Cv (b:List UInt8) (at_:Int):Int×Int×Bool:=match Gl b at_ with
 |some x=>(x.1,x.2,true)
 |none=>(0,0,false)
def E2 (b:List UInt8) (at_:Int):ByteArray×Int×Bool:=match IL b at_ with
 |some x=>(x.1,x.2,true)
 |none=>(⟨#[]⟩,0,false)
theorem IK {b:List UInt8} {at_:Int} (h:at_<0∨(b.length:Int)<at_∨(b.length:Int) - at_<8):Cv b at_=(0,0,false):=by
 unfold Cv Gl;rw [if_pos h]
theorem Mj {b:List UInt8} {at_:Int} (h:¬ (at_<0∨(b.length:Int)<at_∨(b.length:Int) - at_<8)):Cv b at_=(IntKind.i64.wrap (ED ((b.drop at_.toNat).take 8):Nat),at_+8,true):=by
 unfold Cv Gl;rw [if_neg h]
theorem Xz {b:List UInt8} {at_:Int} (h:(Cv b at_).2.2=false):E2 b at_=(⟨#[]⟩,0,false):=by
 unfold Cv at h
 unfold E2 IL
 cases e:Gl b at_ with
 |none=>rfl
 |some x=>rw [e] at h;cases h
theorem Mk {b:List UInt8} {at_:Int} (h:(Cv b at_).2.2=true):E2 b at_=if (Cv b at_).1<0∨(b.length:Int) - (Cv b at_).2.1<(Cv b at_).1 then (⟨#[]⟩,0,false) else (FG ((b.drop (Cv b at_).2.1.toNat).take (Cv b at_).1.toNat),(Cv b at_).2.1+(Cv b at_).1,true):=by
 unfold Cv at h ⊢
 unfold E2 IL
 cases e:Gl b at_ with
 |none=>rw [e] at h;cases h
 |some x=>
  dsimp only
  by_cases g:x.1<0∨(b.length:Int) - x.2<x.1
  ·rw [if_pos g,if_pos g]
  ·rw [if_neg g,if_neg g]
theorem Xy {b:List UInt8} {at_:Int} (h:(Cv b at_).2.2=true):8≤(Cv b at_).2.1∧(Cv b at_).2.1≤(b.length:Int)∧(Cv b at_).2.1=at_+8∧0≤at_:=by
 by_cases g:at_<0∨(b.length:Int)<at_∨(b.length:Int) - at_<8
 ·rw [IK g] at h;cases h
 ·rw [Mj g];dsimp only;omega
theorem Xx {b:List UInt8} {at_:Int}: -9223372036854775808≤(Cv b at_).1∧(Cv b at_).1≤9223372036854775807:=by
 by_cases g:at_<0∨(b.length:Int)<at_∨(b.length:Int) - at_<8
 ·rw [IK g];decide
 ·rw [Mj g]
  dsimp only
  unfold IntKind.wrap
  simp [IntKind.bits,IntKind.signed]
  omega
theorem RB (n:Nat) {i:Nat} (h:i<8):(Cd n)[i]?=some (UInt8.ofNat (n / 256^(7 - i))):=by
 unfold Cd;rw [List.getElem?_map,List.getElem?_range h];rfl
theorem RD (n:Nat) {i:Nat} (h:i<8):(Cd n).take (i+1)=(Cd n).take i++[UInt8.ofNat (n / 256^(7 - i))]:=D9 (RB n h)
theorem Xw {l:List UInt8} {i:Nat} {x:UInt8} (h:l[i]?=some x):ED (l.take (i+1))=ED (l.take i)*256+x.toNat:=by rw [D9 h,Xv]
def NS (b:Nat):List Value:=[.pointer (some ⟨b,0,none⟩)]
def Cq:Kd Nat:=flat NS 1 (by omega) (fun _=>rfl) (fun _ c h=>by simp [NS] at h;subst h;rfl)
def Cg (t:Nat) (e:Nat×B0):SP:=blk e.1 [.int .i64 e.2.c,.int .i64 e.2.s,.int .i64 e.2.e,.int .i64 e.2.x] t
def AZ (ps:List An):ByteArray:=FG (FD ps)
theorem YQ (l:List UInt8):(FG l).size=l.length:=by simp [FG,ByteArray.size]
theorem L7 {ps:List An} (h:∀ p∈ps,p.key.size≤100∧p.val.size≤100):(CD ps).length≤ps.length*216:=by
 induction ps with
 |nil=>exact Nat.zero_le _
 |cons p ps ih=>
  have h1:=h p (List.mem_cons_self ..)
  have h2:=ih fun q hq=>h q (List.mem_cons_of_mem _ hq)
  have e:CD (p::ps)=(Dc p.key++Dc p.val)++CD ps:=by unfold CD;rw [List.flatMap_cons]
  rw [e,List.length_append,List.length_append,HZ,HZ,List.length_cons,Nat.succ_mul]
  omega
theorem WA {ps:List An} (h:∀ p∈ps,p.key.size≤100∧p.val.size≤100) (hl:ps.length≤1000):(AZ ps).size≤300000:=by
 have:=L7 h
 unfold AZ
 rw [YQ]
 unfold FD
 rw [List.length_append,Fv]
 omega
theorem L8 (ps:List An):Cu (AZ ps)=FD ps:=RO _
def DF (ps:List An) (k:Nat):Nat:=8+(CD (ps.take k)).length
theorem Wz {ps:List An} {k:Nat} {p:An} (h:ps[k]?=some p):DF ps (k+1)=DF ps k+8+p.key.size+8+p.val.size:=by
 unfold DF
 rw [D9 h,PQ,List.length_append,List.length_append,HZ,HZ]
 omega
theorem WE {ps:List An} (hl:ps.length<9223372036854775808):Cv (FD ps) 0=(((ps.length:Nat):Int),8,true):=by
 have h:=Qi (a:=[]) (c:=CD ps) (n:=ps.length) (k:=0) hl rfl
 unfold Cv FD
 have h2:Gl (Cd ps.length++CD ps) 0=some (((ps.length:Nat):Int),((0+8:Nat):Int)):=h
 rw [h2]
 rfl
theorem WB {ps:List An} {k:Nat} {p:An} (h:ps[k]?=some p) (hk:p.key.size<9223372036854775808):E2 (FD ps) (DF ps k:Nat)=(p.key,((DF ps k+8+p.key.size:Nat):Int),true):=by
 have e:FD ps=(Cd ps.length++CD (ps.take k))++(Dc p.key++(Dc p.val++CD (ps.drop (k+1)))):=by unfold FD;rw [PR h,List.append_assoc]
 have h1:=Qj (a:=Cd ps.length++CD (ps.take k)) (c:=Dc p.val++CD (ps.drop (k+1))) (s:=p.key) (k:=DF ps k) hk (by rw [List.length_append,Fv];rfl)
 unfold E2
 rw [e,h1]
theorem WF {ps:List An} {k:Nat} {p:An} (h:ps[k]?=some p) (hk:p.val.size<9223372036854775808):E2 (FD ps) ((DF ps k+8+p.key.size:Nat):Int)=(p.val,((DF ps (k+1):Nat):Int),true):=by
 have e:FD ps=(Cd ps.length++CD (ps.take k)++Dc p.key)++(Dc p.val++CD (ps.drop (k+1))):=by unfold FD;rw [PR h];simp only [List.append_assoc]
 have h1:=Qj (a:=Cd ps.length++CD (ps.take k)++Dc p.key) (c:=CD (ps.drop (k+1))) (s:=p.val) (k:=DF ps k+8+p.key.size) hk (by rw [List.length_append,List.length_append,Fv,HZ];unfold DF;omega)
 unfold E2
 rw [e,h1,Wz h]
theorem Wy {ps:List An} (h:∀ p∈ps,p.key.size≤100∧p.val.size≤100) (hl:ps.length≤1000) (i:Nat):DF ps i≤300000:=by
 have h1:=L7 (ps:=ps.take i) fun p hp=>h p (List.mem_of_mem_take hp)
 have h2:(ps.take i).length≤ps.length:=by rw [List.length_take];omega
 unfold DF
 omega
def DP (D:A8) (J:AC) (s:Nat) (att:Int) (k:Nat):List Int:=(List.range k).map fun (p:Nat)=>De ((Cr D J s p).length:Nat) (Df J.chunk att)
theorem Ny (D:A8) (J:AC) (s:Nat) (att:Int) (k:Nat):DP D J s att (k+1)=DP D J s att k++[De ((Cr D J s k).length:Nat) (Df J.chunk att)]:=by
 unfold DP;rw [List.range_succ,List.map_append];rfl
theorem Nx (D:A8) (J:AC) (s:Nat) (att:Int) (k:Nat):(DP D J s att k).length=k:=by simp [DP]
theorem NJ {D:A8} {J:AC} {s:Nat} {att:Int} (h:(Az D J s).2=0):Br D J s att=DP D J s att J.parts.toNat:=by
 unfold Br;rw [if_neg (fun g=>g h)];rfl
theorem NH {D:A8} {J:AC} {s:Nat} {att:Int} (h:(Az D J s).2≠0):Br D J s att=[]:=by
 unfold Br;rw [if_pos h]
/-! ### Windows, in a row of pointers -/
def Q7 (J:AC) (n:Int):B0:=⟨n,J.window,0,0⟩
theorem ZX {ws:List (Nat×B0)} {k:Nat} {e:Nat×B0} (h:ws[k]?=some e):(ws.map Prod.snd)[k]?=some e.2:=by rw [List.getElem?_map,h];rfl
theorem ZW {ws:List (Nat×B0)} {k:Nat} {e:Nat×B0} (h:ws[k]?=some e):ws.set k e=ws:=Kf h
theorem RZ {n size q:Int} (h0:0≤q) (h1:q<De n size) (hs:1≤size):0≤q*size∧q*size≤n - 1:=by
 unfold De at h1
 by_cases h:n<1∨size<1
 ·rw [if_pos h] at h1;omega
 ·rw [if_neg h,Int.tdiv_eq_ediv_of_nonneg (by omega)] at h1
  exact ⟨Int.mul_nonneg h0 (by omega),(Int.le_ediv_iff_mul_le (by omega)).1 (by omega)⟩
theorem Sj {ps:List An} {size q:Int} {m k:Nat} (h0:0≤q) (h1:q<De ps.length size) (hs:1≤size) (hm:q*size=(m:Int)) (hk:min size (((ps.length - m:Nat):Int))=(k:Int)):EV ps size q=(ps.drop m).take k:=by
 unfold EV
 rw [if_neg (by omega),hm,Int.toNat_natCast]
 refine (List.take_eq_take_iff).2 ?_
 rw [List.length_drop]
 omega
theorem NK {ps:List An} {size q:Int} (h:q<0∨De ps.length size≤q):EV ps size q=[]:=if_pos h
theorem YX {n size:Int} (h:0≤n) (hs:1≤size):0≤n.tdiv size∧n.tdiv size≤n:=by
 rw [Int.tdiv_eq_ediv_of_nonneg h]
 exact ⟨Int.ediv_nonneg h (by omega),Int.ediv_le_self _ h⟩
/-! ### What is pushed, window by window -/
theorem P2 (D:A8) (J:AC) (s:Nat) (att:Int):∀ (a b:List B0) (p:Nat),Dw D J s att (a++b) p=Dw D J s att a p++Dw D J s att b (p+a.length)
 |[],b,p=>rfl
 |w::a,b,p=>by
  show D2 D J s att w p++Dw D J s att (a++b) (p+1)=D2 D J s att w p++Dw D J s att a (p+1)++_
  rw [P2 D J s att a b (p+1),List.append_assoc,List.length_cons,show p+1+a.length=p+(a.length+1) by omega]
theorem WZ {D:A8} {J:AC} {s:Nat} {att:Int} {ws:List B0} {k:Nat} {w:B0} (h:ws[k]?=some w):Dw D J s att (ws.take (k+1)) 0=Dw D J s att (ws.take k) 0++D2 D J s att w k:=by
 rw [D9 h,P2,List.length_take,Nat.zero_add,Nat.min_eq_left (Nat.le_of_lt (JQ h))]
 show _++(D2 D J s att w k++[])=_
 rw [List.append_nil]
theorem Mc (D:A8) (J:AC) (s:Nat) (att:Int) (w:B0) (p:Nat):(D2 D J s att w p).length=(Do w.c w.s w.x).length:=by unfold D2;rw [List.length_map]
theorem WY {D:A8} {J:AC} {s:Nat} {att:Int} {w:B0} {p j:Nat} {q:Int} (h:(Do w.c w.s w.x)[j]?=some q):(D2 D J s att w p).take (j+1)=(D2 D J s att w p).take j++[⟨2,s,att,p,q,0,0,0,[],C3 D J s att p q⟩]:=
 D9 (by unfold D2;rw [List.getElem?_map,h];rfl)
theorem PM {w:B0} (h:IB w):(Do w.c w.s w.x).length≤4:=by
 rw [Wi]
 have:=h.1
 have:=h.2.1
 omega
theorem JZ {D:A8} {J:AC} {s:Nat} {att:Int}:∀ {ws:List B0} (p:Nat),(∀ w∈ws,IB w)→(Dw D J s att ws p).length≤4*ws.length
 |[],_,_=>Nat.zero_le _
 |w::ws,p,h=>by
  have h1:=PM (h w (List.mem_cons_self ..))
  have h2:=JZ (D:=D) (J:=J) (s:=s) (att:=att) (p+1) fun x hx=>h x (List.mem_cons_of_mem _ hx)
  show (D2 D J s att w p++Dw D J s att ws (p+1)).length≤_
  rw [List.length_append,Mc,List.length_cons]
  omega
theorem NI {A B:AC} (h:Bb A B) (D:A8) (s:Nat) (att:Int):Br D A s att=Br D B s att:=by
 unfold Br
 rw [h.split,h.parts,h.chunk]
 simp only [h.only]
theorem Py {A B:AC} (h:Bb A B) (D:A8) (s:Nat) (att:Int):Db D A s att=Db D B s att:=by
 unfold Db Br
 rw [h.split,h.parts,h.chunk,h.window]
 simp only [h.only]
theorem V0 {A B:AC} (h:Bb A B) {D:A8} {s:Nat} {att:Int} {ws:List (Nat×B0)} {k:Nat} (hw:ws.map Prod.snd=((Br D A s att).take k).map (Q7 A)) (hk:(Br D A s att).length≤k):ws.map Prod.snd=(Db D B s att).ws:=by
 rw [hw,List.take_of_length_le hk,←Py h];rfl
theorem P5 {A B:AC} (h:Bb A B) (D:A8) (s:Nat) (att:Int):∀ (ws:List B0) (p:Nat),Dw D A s att ws p=Dw D B s att ws p
 |[],_=>rfl
 |w::ws,p=>by
  show D2 D A s att w p++Dw D A s att ws (p+1)=D2 D B s att w p++Dw D B s att ws (p+1)
  rw [P5 h D s att ws]
  unfold D2 C3
  rw [h.chunk]
  simp only [h.only]
theorem ZV {ws:List (Nat×B0)} {k x:Nat} (h:(ws.map Prod.fst)[k]?=some x):∃ wd,ws[k]?=some (x,wd):=by
 rw [List.getElem?_map] at h
 obtain ⟨e,he,rfl⟩:=Option.map_eq_some_iff.1 h
 exact ⟨e.2,he⟩
def FW (M:BJ):Prop:=(∀ w∈M.ws,IB w)∧M.ws.length≤1000
theorem Wd {D:A8} {J:AC} (hJ:B5 J) (s:Nat) (att:Int):FW (Db D J s att):=by
 refine ⟨VW hJ s att,?_⟩
 have:=hJ.parts
 show ((Br D J s att).map _).length≤_
 rw [List.length_map,NG]
 split<;>omega
theorem Hd.tellK {α:Type} {w0 w:World} {F0:AH} {K:Kd α} {v:Value} {xs ys:List α} {As Rs:List SP} (H:Hd w0 F0 w (Y K v xs::As) Rs) (e:ys=xs):Hd w0 F0 w (Y K v ys::As) Rs:=by rw [e];exact H
structure Es where
 fr:Int
 to:Int
 m:Dl
def C0 (x:Bi Ci):Es:=⟨x.h.fr,x.h.to,x.h.m.p x.set x.pairs⟩
theorem Iv {a b:Es}:a=b↔a.fr=b.fr∧a.to=b.to∧a.m=b.m:=by
 constructor
 ·rintro rfl;exact ⟨rfl,rfl,rfl⟩
 ·rintro ⟨h1,h2,h3⟩
  cases a;cases b
  simp only at h1 h2 h3
  subst h1 h2 h3
  rfl
instance letPD (a b:Es):Decidable (a=b):=decidable_of_iff _ Iv.symm
structure Ds where
 ep:Int
 rs:List AI
 ts:List BJ
 over:Bool
def CS (r:Bp):Bool:=decide (r.kind=6)
def KS (recs:List Bp):Int:=((1+cnt CS recs:Nat):Int)
def Fy (C:Cf) (id:Int) (k:Nat):List Nat:=(List.range k).filter fun (p:Nat)=>decide (Du C (p:Int)=id)
def El (C:Cf) (id:Int) (recs:List Bp) (k:Nat):List AI:=(Fy C id k).map fun (p:Nat)=>CM C.J.us.length p (KS recs) (recs.map Bp.p)
def G5 (C:Cf) (id:Int) (recs:List Bp):Ds:=⟨KS recs,El C id recs C.J.parts.toNat,[],false⟩
theorem OC {C:Cf} {id:Int} {k:Nat} (h:Du C (k:Int)=id):Fy C id (k+1)=Fy C id k++[k]:=by
 unfold Fy
 rw [List.range_succ,List.filter_append]
 congr 1
 exact List.filter_cons_of_pos (decide_eq_true h)
theorem TE {C:Cf} {id:Int} {k:Nat} (h:¬ Du C (k:Int)=id):Fy C id (k+1)=Fy C id k:=by
 unfold Fy
 rw [List.range_succ,List.filter_append]
 have e:[k].filter (fun (p:Nat)=>decide (Du C (p:Int)=id))=[]:=List.filter_cons_of_neg (by rw [decide_eq_false h];decide)
 rw [e,List.append_nil]
theorem TD {C:Cf} {id:Int} {k p:Nat} (h:p∈Fy C id k):p<k:=List.mem_range.1 (List.mem_filter.1 h).1
theorem TC (C:Cf) (id:Int) (k:Nat):(Fy C id k).length≤k:=Nat.le_trans (List.length_filter_le _ _) (by simp)
theorem XS {C:Cf} {id:Int} {recs:List Bp} {k:Nat} (h:Du C (k:Int)=id):El C id recs (k+1)=El C id recs k++[CM C.J.us.length k (KS recs) (recs.map Bp.p)]:=by
 unfold El;rw [OC h,List.map_append];rfl
theorem XQ {C:Cf} {id:Int} {recs:List Bp} {k:Nat} (h:¬ Du C (k:Int)=id):El C id recs (k+1)=El C id recs k:=by
 unfold El;rw [TE h]
def PS (R:AI):Int:=R.part
theorem XR (C:Cf) (id:Int) (recs:List Bp) (k:Nat):(El C id recs k).map PS=(Fy C id k).map fun (p:Nat)=>(p:Int):=by
 unfold El
 rw [List.map_map]
 exact List.map_congr_left fun p _=>(IA _ _ _ _).1
theorem XO (C:Cf) (id:Int) (recs:List Bp) (k:Nat):(El C id recs k).length≤k:=by
 unfold El;rw [List.length_map];exact TC C id k
/-! ### What it does -/
def Fz (sp att:Int) (M:BJ):Bool:=decide ((M.sp:Int)=sp) && decide (M.att=att)
def EL (ts:List BJ) (sp att:Int):Bool:=ts.any (Fz sp att)
def HS (C:Cf) (sp att:Int):Prop:=0≤sp∧sp<((C.J.us.length:Nat):Int)∧1≤att∧att≤C.t
instance runMayD (C:Cf) (sp att:Int):Decidable (HS C sp att):=by unfold HS;infer_instance
def FZ (D:A8) (C:Cf) (W:Ds) (sp att:Int):Ds:=if (W.over||EL W.ts sp att)=true then W else if HS C sp att then { W with ts:=W.ts++[Db D C.J sp.toNat att] } else W
def Fh (D:A8) (C:Cf) (W:Ds) (fr kind sp att:Int):Ds:=if fr≠0 then W else if kind=1 then FZ D C W sp att else { W with ts:=[],over:=true }
def doneL (D:A8) (J:AC) (M:BJ):Es:=
 if (Az D J M.sp).2≠0 then ⟨0,0,⟨5,M.sp,M.att,0,0,0,0,(Az D J M.sp).2,[],[]⟩⟩ else ⟨0,0,⟨4,M.sp,M.att,0,0,0,0,0,Br D J M.sp M.att,[]⟩⟩
def W3 (C:Cf) (m:Dl):Es:=⟨0,Du C m.part,m⟩
def F8 (D:A8) (C:Cf) (M:BJ):List Es:=doneL D C.J M::(GH D C.J M).map (W3 C)
def JE (D:A8) (J:AC) (R:AI):Es:=⟨0,0,AD D J R⟩
def Hk (D:A8) (C:Cf) (W:Ds):List Es:=if W.over=true then [] else W.ts.flatMap (F8 D C)++W.rs.map (JE D C.J)
/-! ### In memory -/
def BC (b:Bool):Int:=if b then 1 else 0
theorem Wr (b:Bool):decide (BC b≠0)=b:=by cases b<;>rfl
structure ES where
 sp:Int
 att:Int
 b:Nat
def NT (t:ES):List Value:=[.int .i64 t.sp,.int .i64 t.att,.pointer (some ⟨t.b,0,none⟩)]
def B6:Kd ES:=flat NT 3 (by omega) (fun _=>rfl) (fun _ c h=>by simp [NT] at h;rcases h with rfl|rfl|rfl<;>rfl)
def AG (e:Nat×BJ):ES:=⟨(e.2.sp:Int),e.2.att,e.1⟩
def AE (e:Nat×AI):Int:=e.2.part
def BM (e:Nat×AI):Int×Value:=(e.2.part,.pointer (some ⟨e.1,0,none⟩))
def Mm (rl:List (Nat×AI)) (p:Int):Option Addr:=match rl.find? (fun e=>decide (e.2.part=p)) with
 |some e=>some ⟨e.1,0,none⟩
 |none=>none
theorem JN (p:Int):∀ rl:List (Nat×AI),(FB p (rl.map BM)).getD (.pointer none)=.pointer (Mm rl p)
 |[]=>rfl
 |e::rl=>by
  have ih:=JN p rl
  rw [List.map_cons]
  unfold Mm at ih ⊢
  by_cases h:e.2.part=p
  ·have h1:(BM e).1=p:=h
   unfold FB
   rw [if_pos h1,List.find?_cons_of_pos (p:=fun e:Nat×AI=>decide (e.2.part=p)) (decide_eq_true h)]
   rfl
  ·have h1:¬ (BM e).1=p:=h
   unfold FB
   rw [if_neg h1,List.find?_cons_of_neg (p:=fun e:Nat×AI=>decide (e.2.part=p)) (by rw [decide_eq_false h];decide)]
   exact ih
theorem XN {rl:List (Nat×AI)} {i:Nat} {e:Nat×AI} (hn:((rl.map BM).map fun p=>p.1).Nodup) (h:rl[i]?=some e):Mm rl (e.2.part)=some ⟨e.1,0,none⟩:=by
 have h1:(rl.map BM)[i]?=some (e.2.part,.pointer (some ⟨e.1,0,none⟩)):=by rw [List.getElem?_map,h];rfl
 have h2:=LP hn h1
 have h3:=JN e.2.part rl
 rw [h2] at h3
 simpa using h3.symm
theorem U9 {rl:List (Nat×AI)} {b:Nat} {R:AI} {p:Int} (hp:R.part=p) (h:¬ p∈rl.map AE):Gn p (.pointer (some ⟨b,0,none⟩)) (rl.map BM)=(rl++[(b,R)]).map BM:=by
 rw [Ke]
 ·rw [List.map_append]
  subst hp
  rfl
 ·intro q hq
  obtain ⟨e,he,rfl⟩:=List.mem_map.1 hq
  exact fun g=>h (List.mem_map.2 ⟨e,he,g⟩)
theorem WP {rl:List (Nat×AI)} {rs:List AI} (h:rl.map Prod.snd=rs):rl.map AE=rs.map PS:=by
 rw [←h,List.map_map];rfl
theorem Sa {ts:List BJ} {sp att:Int} {k:Nat} {M:BJ} (hx:ts[k]?=some M) (h:Fz sp att M=true):EL ts sp att=true:=List.any_eq_true.2 ⟨M,Cc hx,h⟩
theorem SV {ts:List BJ} {sp att:Int} (h:∀ M∈ts,Fz sp att M=false):EL ts sp att=false:=by
 unfold EL
 rw [List.any_eq_false]
 exact fun M hM=>by rw [h M hM];decide
theorem Bb.doneL {A B:AC} (h:Bb A B) (D:A8) (M:BJ):doneL D A M=doneL D B M:=by
 unfold X.doneL
 rw [h.split,NI h]
theorem EJ.home {A B:Cf} (h:EJ A B) (p:Int):Du A p=Du B p:=by
 unfold Du
 have h1:C1 A↔C1 B:=⟨h.may,h.symm.may⟩
 rw [h.J.parts,h.w]
 by_cases g:¬ C1 B∨¬ (0≤p∧p≤B.J.parts - 1)
 ·rw [if_pos g,if_pos (by rw [h1];exact g)]
 ·rw [if_neg g,if_neg (by rw [h1];exact g)]
def Co (J:AC) (C:Cf):Cf:=⟨J,C.w,C.t,C.o⟩
theorem IP {J:AC} {C:Cf} (h:Bb J C.J):EJ (Co J C) C:=⟨h,rfl,rfl,rfl⟩
def lf (C:Cf) (m:Bi Cj):Bi Ci:=⟨⟨0,Du C m.h.part,m.h⟩,m.sv,m.set,m.pv,m.pairs⟩
theorem Y4 (C:Cf) (zs:List (Bi Cj)):BX (zs.map (lf C))=BX zs:=by
 unfold BX Bm
 rw [List.map_map]
 rfl
section
variable {w0 w:World} {F0:AH} {As Rs:List SP}
theorem Hd.bigC {α:Type} {f:α→SP} {l:List α} {x:α} (h:Hd w0 F0 w (f x::Bm f l::As) Rs):Hd w0 F0 w (Bm f (x::l)::As) Rs:=by
 have h1:Hd w0 F0 w (Bm f l::(As++[f x])) Rs:=h.perm (List.perm_append_comm (l₁:=[f x]) (l₂:=Bm f l::As))
 have h2:Hd w0 F0 w (l.map f++As++[f x]) Rs:=by rw [List.append_assoc];exact h1.stA
 have h3:Hd w0 F0 w ((x::l).map f++As) Rs:=h2.perm (List.perm_append_comm (l₁:=l.map f++As) (l₂:=[f x]))
 exact h3.stI
theorem Hd.twC {α:Type} {r:Bi α} {us:List (Bi α)} (H:Hd w0 F0 w (Y (Ai .i64) r.sv r.set::Y Ag r.pv r.pairs::BX us::As) Rs):Hd w0 F0 w (BX (r::us)::As) Rs:=
 Hd.bigC (f:=En) (show Hd w0 F0 w (En r::Bm En us::As) Rs from Hd.stI (Bs:=[Y (Ai .i64) r.sv r.set,Y Ag r.pv r.pairs]) H)
theorem Y7 {α:Type} {a b:List (Bi α)} (H:Hd w0 F0 w (BX a::BX b::As) Rs):Hd w0 F0 w (BX (a++b)::As) Rs:=by
 have h1:Hd w0 F0 w (a.map En++(BX b::As)) Rs:=Hd.stA (Bs:=a.map En) H
 have h2:Hd w0 F0 w (BX b::(a.map En++As)) Rs:=h1.perm List.perm_middle
 have h3:Hd w0 F0 w (b.map En++(a.map En++As)) Rs:=Hd.stA (Bs:=b.map En) h2
 have h4:Hd w0 F0 w ((a++b).map En++As) Rs:=h3.perm (by
  rw [List.map_append,List.append_assoc]
  exact (List.perm_append_comm_assoc _ _ _))
 exact h4.stI
end
theorem VO {zs:List (Bi Cj)} {k:Nat} {x:EU Cj} (hx:(zs.map Bv)[k]?=some x):∃ m,zs[k]?=some m∧x=Bv m:=by
 rw [List.getElem?_map] at hx
 obtain ⟨m,hm,rfl⟩:=Option.map_eq_some_iff.1 hx
 exact ⟨m,hm,rfl⟩
theorem P4 (D:A8) (J:AC) (s:Nat) (att:Int):∀ (ws:List B0) (p:Nat) (m:Dl),m∈Dw D J s att ws p→∃ q:Nat,m.part=(q:Int)∧q<p+ws.length
 |[],_,_,h=>by cases h
 |w::ws,p,m,h=>by
  have h':m∈D2 D J s att w p++Dw D J s att ws (p+1):=h
  rcases List.mem_append.1 h' with g|g
  ·obtain ⟨q,_,rfl⟩:=List.mem_map.1 g
   exact ⟨p,rfl,by rw [List.length_cons];omega⟩
  ·obtain ⟨q,h1,h2⟩:=P4 D J s att ws (p+1) m g
   exact ⟨q,h1,by rw [List.length_cons];omega⟩
theorem W7 {D:A8} {J:AC} {M:BJ} (hM:FW M) {zs:List (Bi Cj)} (hz:zs.map FV=GH D J M) {k:Nat} {m:Bi Cj} (hm:zs[k]?=some m):AP m.h.part:=by
 have h1:FV m∈GH D J M:=by rw [←hz];exact List.mem_map_of_mem (List.mem_of_getElem? hm)
 obtain ⟨q,h2,h3⟩:=P4 D J M.sp M.att M.ws 0 _ h1
 have h4:=hM.2
 have h5:m.h.part=(q:Int):=h2
 unfold AP
 omega
theorem VP {D:A8} {J:AC} {M:BJ} (hM:FW M) {zs:List (Bi Cj)} (hz:zs.map FV=GH D J M):zs.length≤4000:=by
 have h1:=congrArg List.length hz
 rw [List.length_map] at h1
 have h2:=JZ (D:=D) (J:=J) (s:=M.sp) (att:=M.att) 0 hM.1
 have h3:=hM.2
 have h4:(GH D J M).length=(Dw D J M.sp M.att M.ws 0).length:=rfl
 omega
theorem YY {D:A8} {C:Cf} {M:BJ} {z0:Bi Ci} {zs:List (Bi Cj)} (h0:C0 z0=doneL D C.J M) (hz:zs.map FV=GH D C.J M):(z0::zs.map (lf C)).map C0=F8 D C M:=by
 unfold F8
 rw [List.map_cons,h0,←hz,List.map_map,List.map_map]
 rfl
theorem YZ {D:A8} {C:Cf} {M:BJ} (hM:FW M):(F8 D C M).length≤4001:=by
 have h2:=JZ (D:=D) (J:=C.J) (s:=M.sp) (att:=M.att) 0 hM.1
 have h3:=hM.2
 have h4:(GH D C.J M).length=(Dw D C.J M.sp M.att M.ws 0).length:=rfl
 unfold F8
 rw [List.length_cons,List.length_map]
 omega
theorem Bb.hello {A B:AC} (h:Bb A B) (D:A8) (R:AI):AD D A R=AD D B R:=by
 unfold AD
 rw [h.out,h.len]
theorem S0 {α β:Type} {f:α→List β} {l:List α} {k:Nat} {x:α} (h:l[k]?=some x):(l.take (k+1)).flatMap f=(l.take k).flatMap f++f x:=by
 rw [D9 h,List.flatMap_append]
 simp
theorem Pr {α β:Type} {f:α→β} {l:List α} {k:Nat} {x:α} (h:l[k]?=some x):(l.take (k+1)).map f=(l.take k).map f++[f x]:=by
 rw [D9 h,List.map_append]
 rfl
theorem Tz {D:A8} {J:AC} {R:AI}:(AD D J R).pairs=[]:=by
 unfold AD
 split<;>rfl
theorem VS {m:Dl} (h:m.pairs=[]):(⟨m.kind,m.sp,m.att,m.part,m.seq,m.next,m.ep,m.why,m.set,[]⟩:Dl)=m:=by
 cases m
 simp only at h
 subst h
 rfl
theorem WN {rl:List (Nat×AI)} {rs:List AI} (hrl:rl.map Prod.snd=rs) {k:Nat} {x:Int} (hx:(rl.map AE)[k]?=some x):∃ e,rl[k]?=some e∧rs[k]?=some e.2∧x=AE e:=by
 rw [List.getElem?_map] at hx
 obtain ⟨e,he,rfl⟩:=Option.map_eq_some_iff.1 hx
 exact ⟨e,he,by rw [←hrl,List.getElem?_map,he];rfl,rfl⟩
theorem XP {C:Cf} {id:Int} {recs:List Bp} {p:Nat} {rl:List (Nat×AI)} (hrl:rl.map Prod.snd=El C id recs p):¬ ((p:Nat):Int)∈rl.map AE:=fun h=>by
 rw [WP hrl,XR] at h
 obtain ⟨q,hq,e⟩:=List.mem_map.1 h
 have:=TD hq
 omega
def CL (u:Value):Cf:=⟨⟨[(u,Dv)],1,DD,[],DD,1,1,9,[]⟩,1,2,1⟩
theorem Mz (u:Value):C1 (CL u):=by
 refine ⟨⟨(show 1≤((1:Nat):Int)∧((1:Nat):Int)≤6 by decide),(show (1:Int)≤1∧(1:Int)≤4 by decide),(show 0≤4 by decide),?_,?_,(show 0<DD.length∧Dt DD<0 by decide+kernel),(show 0<DD.length∧Dt DD<0 by decide+kernel),(show Dt []<0 by decide+kernel),
  (show (1:Int)≤1∧(1:Int)≤7 by decide),(show (1:Int)≤1∧(1:Int)≤4 by decide),(show (1:Int)≤9∧(9:Int)≤2000 by decide)⟩,(show (1:Int)≤1∧(1:Int)≤4 by decide),(show (1:Int)≤2∧(2:Int)≤3 by decide),(show (1:Int)≤1∧(1:Int)≤50 by decide)⟩
 ·intro x hx
  rw [List.mem_singleton.1 hx]
  show GG Dv
  decide
 ·show Gi ((1:Nat):Int) 0 []
  decide
theorem Yy (u:Value):B5 (CL u).J:=⟨(Mz u).1,Ly,(fun i h=>by cases h),Ly⟩
theorem X9 (D:A8) (a:Value):mapM D ⟨[(a,Dv)],1,DD,[],DD,1,1,9,[]⟩ 0=(Dv,0):=by kernel_rfl
theorem QC (D:A8) (a:Value):Az D (CL a).J 0=(Dv,0):=by
 show Az D ⟨[(a,Dv)],1,DD,[],DD,1,1,9,[]⟩ 0=_
 unfold Az
 rw [X9]
 show (srt Dv,(0:Int))=_
 rw [show srt Dv=Dv by decide]
theorem Ya (D:A8) (a:Value):(Cr D (CL a).J 0 0).length=1:=by
 unfold Cr
 rw [QC]
 kernel_rfl
theorem X8 {D:A8} {u:Value} (att:Int):Br D (CL u).J 0 att=[De 1 (Df 1 att)]:=by
 unfold Br
 rw [QC]
 show [De ((Cr D (CL u).J 0 0).length:Nat) (Df 1 att)]=_
 rw [Ya]
 rfl
theorem X_ {D:A8} {u:Value}:Db D (CL u).J 0 1=⟨0,1,[⟨1,1,0,0⟩]⟩:=by
 unfold Db
 rw [X8]
 rfl
theorem QB (u:Value):Du (CL u) 0=1:=by
 unfold Du
 rw [if_neg (fun h=>h.elim (fun g=>g (Mz u)) (fun g=>g ⟨by decide,show (0:Int)≤1 - 1 by decide⟩))]
 rfl
def EB:Bp:=⟨6,0,0,0,0,PD,[],PD,[]⟩
theorem Ve {w:World} {F:AH} {n:Nat}:∀ r∈List.replicate n EB,(Ab (Ai .i64) r.sv r.set).P w F∧(Ab Ag r.pv r.pairs).P w F:=fun r hr=>by
 rw [List.eq_of_mem_replicate hr]
 exact ⟨G_ _ _ _ trivial (by decide),G_ _ _ _ trivial (by decide)⟩
theorem Vf {n:Nat}:∀ r∈List.replicate n EB,(AP r.sp∧r.set.length≤1000)∧r.pairs.length≤1000:=fun r hr=>by
 rw [List.eq_of_mem_replicate hr]
 exact ⟨⟨by unfold AP EB;decide,Nat.zero_le _⟩,Nat.zero_le _⟩
theorem ZA (u:Value):G5 (CL u) 1 [EB]=⟨2,[CM 1 0 2 [EB.p]],[],false⟩:=by
 have h:Fy (CL u) 1 1=[0]:=OC (k:=0) (QB u)
 unfold G5 El
 rw [show (CL u).J.parts.toNat=1 from rfl,h]
 rfl
theorem ZB (D:A8) (u:Value):Hk D (CL u) ⟨2,[CM 1 0 2 [EB.p]],[],false⟩=[⟨0,0,⟨6,0,0,0,0,0,2,0,[],[]⟩⟩]:=rfl
theorem Zz (D:A8) (u:Value) (R:List AI):Fh D (CL u) ⟨2,R,[],false⟩ 0 1 0 1=⟨2,R,[Db D (CL u).J 0 1],false⟩:=rfl
theorem ZC (D:A8) (u:Value):∃ a y c,Hk D (CL u) ⟨2,[CM 1 0 2 [EB.p]],[Db D (CL u).J 0 1],false⟩=[a,y,c]∧y.to=1∧y.m.kind=2:=by
 rw [X_]
 exact ⟨_,_,_,rfl,QB u,rfl⟩
theorem Pd {zs:List (Bi Ci)} {l:List Es} (h:zs.map C0=l) {k:Nat} {x:Bi Ci} (hx:zs[k]?=some x):l[k]?=some (C0 x):=by
 rw [←h,List.getElem?_map,hx];rfl
/-! ### Each part has one home -/
theorem Yo (va:Value) (a:List (Bi Ci)) (vb:Value) (b:List (Bi Ci)):
    Cn Tryz.prog 75 [va,vb] [] [Ab CZ va a,Ab CZ vb b] (fun v Bs=>v=.bool (decide (a.map C0=b.map C0))∧Bs=[]):=by
 intro w0 F0 H
 obtain ⟨A1,c2,rfl,hc3,hm4,hp5⟩:=H.fR 0 rfl
 obtain ⟨A6,c7,rfl,hc8,hm9,hp10⟩:=H.fR 1 rfl
 refine enter Tryz.func75 U U (Nat.le_of_ble_eq_true U) (Aa (Ae (Ad U (Ac (Z ?_)))))
 replace H:Hd _ _ _ [] [Ab CZ (.slice A1 a.length c2) a,Ab CZ (.slice A6 b.length c7) b]:=H
 refine Aa (Aa (Ae (Ad U (V U U (Bf U H7 U) (Ad U (V U U (Bf U H7 U) (V U U (Dq U U U) (Ac (Z ?_)))))))))
 refine Aw U (fun h11=>?_) (fun h11=>?_)
 ·refine Aa (Ae (Ad U (Ac (Z (Am (Ay (Aq U U ?_)))))))
  have e:¬ a.map C0=b.map C0:=fun e=>by have:=congrArg List.length e;rw [List.length_map,List.length_map] at this;omega
  exact Ak ⟨by rw [decide_eq_false e]<;>rfl,rfl⟩ H
 refine Ax (Z (Aa (Aa (Ae (Ad U (Ac (Z (AS ?_))))))))
 have hle:a.length=b.length:=by omega
 refine BQ (σ:=Nat) (fun k=>[(0,.slice A1 a.length c2),(1,.slice A6 b.length c7),(5,.int .i64 ((k:Nat):Int))]) (fun k w=>(Hd w0 F0 w [] [Ab CZ (.slice A1 a.length c2) a,Ab CZ (.slice A6 b.length c7) b])∧(k≤a.length)∧(a.length=b.length)∧((a.take k).map C0=(b.take k).map C0)) (fun k=>a.length - k) 0 ⟨rfl,rfl,rfl,trivial⟩ ⟨H,by omega,hle,rfl⟩ ?_
 rintro k w ⟨H,hk,hle,ht⟩
 refine Aa (Aa (Ae (Ah 2 U (V U U (Bf U H7 U) (V U U (Bd U U U) (Ac (Z ?_)))))))
 refine Aw U (fun h12=>?_) (fun h12=>?_)
 ·refine Ax (Z (Aa (AS (Aa (B1 (.e 0 (.e 1 (.e 2 (.e 3 (.e 4 (.e 5 (.e 6 (.e 7 (.e 8 (.e 9 (.e 10 (.e 11 (.e 12 (.e 13 (.e 14 (.e 15 (.e 16 (.e 17 (.e 18 (.e 19 (.e 20 (.e 21 (.e 22 (.e 23 (.e 24 (.e 25 (.e 26 (.e 27 (.e 28 (.e 29 (.e 30 (.e 31 (.e 32 (.e 33 (.e 34 (.m 35 (.e 36 (.e 37 .z)))))))))))))))))))))))))))))))))))))) (fun w=>∃ Ar,Hd w0 F0 w (Ar) [Ab CZ (.slice A1 a.length c2) a,Ab CZ (.slice A6 b.length c7) b]) mo (by kernel_rfl) (fun w H=>⟨_,H⟩) H (fun w H=>(At U (At U ?_))))))))
  obtain ⟨⟨⟨a15,a16,⟨a17,a18,a19,a20,a21,a22,a23,a24⟩⟩,sv25,se26,pv27,pr28⟩,hx14⟩:∃ z9,a[k]?=some z9:=⟨_,List.getElem?_eq_getElem (show k<a.length by omega)⟩
  obtain ⟨A29,c30,A31,c32,rfl,rfl,m33,m34,m35,m36⟩:=H.nestRt 0 rfl hx14
  have th37:=H.thRt 0 rfl hx14
  refine Ap U U U (fun w ⟨Ar,H⟩=>A0 (p:=AQ A1+k*12) U EE U U (by omega) (by omega) th37 U) (Ap U U U (fun w ⟨Ar,H⟩=>Aj U N5 U) (Ap U U U (fun w ⟨Ar,H⟩=>Al U AA U (H.elRt 0 U hx14 (q:=0) U U)) (At U (At U ?_))))
  obtain ⟨⟨⟨a40,a41,⟨a42,a43,a44,a45,a46,a47,a48,a49⟩⟩,sv50,se51,pv52,pr53⟩,hx39⟩:∃ z9,b[k]?=some z9:=⟨_,List.getElem?_eq_getElem (show k<b.length by omega)⟩
  obtain ⟨A54,c55,A56,c57,rfl,rfl,m58,m59,m60,m61⟩:=H.nestRt 1 rfl hx39
  have th62:=H.thRt 1 rfl hx39
  refine Ap U U U (fun w ⟨Ar,H⟩=>A0 (p:=AQ A6+k*12) U EE U U (by omega) (by omega) th62 U) (Ap U U U (fun w ⟨Ar,H⟩=>Aj U N5 U) (Ap U U U (fun w ⟨Ar,H⟩=>Al U AA U (H.elRt 1 U hx39 (q:=0) U U)) (Ap U U U (fun w ⟨Ar,H⟩=>Dq U U U) (At U ?_))))
  refine KN (d:=28) U (fun h63=>?_) (fun h63=>?_)
  ·refine At U (At U (At U (At U (At U (At U (At U (At U (At U (At U (At U (At U (At U (At U (At U (At U (At U (At U (At U (At U (At U (At U (At U (KO U ⟨_,H⟩ U U (At U (At U (BK (Z (Ck U (Aa (Ae (Ad U (Ac (Z (Am (AY (Ay (Ay (AY (Ay (Aq U U ?_))))))))))))))))))))))))))))))))))))))))
   have e:¬ a.map C0=b.map C0:=fun e=>by obtain ⟨g1,g2,g3⟩:=Iv.1 (LU hx14 hx39 e);first |exact absurd g1 h63|exact absurd g2 h63|exact absurd g3 h63
   replace H:Hd _ _ _ [] [Ab CZ (.slice A1 a.length c2) a,Ab CZ (.slice A6 b.length c7) b]:=H
   exact Ak ⟨by rw [decide_eq_false e]<;>rfl,rfl⟩ H
  refine At U (At U ?_)
  have th64:=H.thRt 0 rfl hx14
  refine Ap U U U (fun w ⟨Ar,H⟩=>A0 (p:=AQ A1+k*12) U EE U U (by omega) (by omega) th64 U) (Ap U U U (fun w ⟨Ar,H⟩=>Aj U K9 U) (Ap U U U (fun w ⟨Ar,H⟩=>Al U AA U (H.elRt 0 U hx14 (q:=1) U U)) (At U (At U ?_))))
  have th65:=H.thRt 1 rfl hx39
  refine Ap U U U (fun w ⟨Ar,H⟩=>A0 (p:=AQ A6+k*12) U EE U U (by omega) (by omega) th65 U) (Ap U U U (fun w ⟨Ar,H⟩=>Aj U K9 U) (Ap U U U (fun w ⟨Ar,H⟩=>Al U AA U (H.elRt 1 U hx39 (q:=1) U U)) (Ap U U U (fun w ⟨Ar,H⟩=>Dq U U U) (At U (At U ?_)))))
  refine KN (d:=41) U (fun h66=>?_) (fun h66=>?_)
  ·refine At U (At U (At U (At U (At U (At U (At U (At U (At U (At U (KO U ⟨_,H⟩ U U (At U (At U (BK (Z (Ck U (Aa (Ae (Ad U (Ac (Z (Am (AY (Ay (Ay (AY (Ay (Aq U U ?_)))))))))))))))))))))))))))
   have e:¬ a.map C0=b.map C0:=fun e=>by obtain ⟨g1,g2,g3⟩:=Iv.1 (LU hx14 hx39 e);first |exact absurd g1 h66|exact absurd g2 h66|exact absurd g3 h66
   replace H:Hd _ _ _ [] [Ab CZ (.slice A1 a.length c2) a,Ab CZ (.slice A6 b.length c7) b]:=H
   exact Ak ⟨by rw [decide_eq_false e]<;>rfl,rfl⟩ H
  refine At U (At U ?_)
  have th67:=H.thRt 0 rfl hx14
  refine Ap U U U (fun w ⟨Ar,H⟩=>A0 (p:=AQ A1+k*12) U EE U U (by omega) (by omega) th67 U) (Ap U U U (fun w ⟨Ar,H⟩=>Aj U K_ U) (Ap U U U (fun w ⟨Ar,H⟩=>Bn (cs:=[.int .i64 a17,.int .i64 a18,.int .i64 a19,.int .i64 a20,.int .i64 a21,.int .i64 a22,.int .i64 a23,.int .i64 a24,.slice A29 se26.length c30,.slice A31 pr28.length c32]) U EG U U (H.elsRt 0 U hx14 2 10 U U)) (At U (At U ?_))))
  have th68:=H.thRt 1 rfl hx39
  refine Ap U U U (fun w ⟨Ar,H⟩=>A0 (p:=AQ A6+k*12) U EE U U (by omega) (by omega) th68 U) (Ap U U U (fun w ⟨Ar,H⟩=>Aj U K_ U) (Ap U U U (fun w ⟨Ar,H⟩=>Bn (cs:=[.int .i64 a42,.int .i64 a43,.int .i64 a44,.int .i64 a45,.int .i64 a46,.int .i64 a47,.int .i64 a48,.int .i64 a49,.slice A54 se51.length c55,.slice A56 pr53.length c57]) U EG U U (H.elsRt 1 U hx39 2 10 U U)) (AO U (sc (Yp (⟨a17,a18,a19,a20,a21,a22,a23,a24⟩:Cj) (.slice A29 se26.length c30) se26 (.slice A31 pr28.length c32) pr28 (⟨a42,a43,a44,a45,a46,a47,a48,a49⟩:Cj) (.slice A54 se51.length c55) se51 (.slice A56 pr53.length c57) pr53) H (lX (fun F hA hR=>Kr (hR _ (List.mem_of_getElem? (i:=0) U)) hx14) (lX (fun F hA hR=>Kq (hR _ (List.mem_of_getElem? (i:=0) U)) hx14) (lX (fun F hA hR=>Kr (hR _ (List.mem_of_getElem? (i:=1) U)) hx39) (lX (fun F hA hR=>Kq (hR _ (List.mem_of_getElem? (i:=1) U)) hx39) l0)))) U U (Au U1 U U) ?_))))
  rintro _ _ w ⟨rfl,rfl⟩ H
  replace H:Hd _ _ _ [] [Ab CZ (.slice A1 a.length c2) a,Ab CZ (.slice A6 b.length c7) b]:=H
  refine AJ ⟨_,H⟩ (Ap U U U (fun w ⟨Ar,H⟩=>D7 U U) (At U (BK (Z ?_))))
  refine Aw U (fun h69=>?_) (fun h69=>?_)
  ·refine Aa (Ae (Ad U (Ac (Z (Am (AY (Ay (Ay (AY (Ay (Aq U U ?_)))))))))))
   have e:¬ a.map C0=b.map C0:=fun e=>by obtain ⟨g1,g2,g3⟩:=Iv.1 (LU hx14 hx39 e);first |exact absurd g1 h69|exact absurd g2 h69|exact absurd g3 h69
   exact Ak ⟨by rw [decide_eq_false e]<;>rfl,rfl⟩ H
  refine Ax (AU (Z (Ae (Ad U (V U U (AX (z:=((k+1:Nat):Int)) U U U (by rw [AB (by omega) (by omega)];omega)) (Ad U (Ac ?_)))))))
  have e3:C0 (⟨⟨a15,a16,⟨a17,a18,a19,a20,a21,a22,a23,a24⟩⟩,.slice A29 se26.length c30,se26,.slice A31 pr28.length c32,pr28⟩:Bi Ci)=C0 (⟨⟨a40,a41,⟨a42,a43,a44,a45,a46,a47,a48,a49⟩⟩,.slice A54 se51.length c55,se51,.slice A56 pr53.length c57,pr53⟩:Bi Ci):=Iv.2 ⟨by first |assumption|exact Classical.not_not.1 (by assumption),by first |assumption|exact Classical.not_not.1 (by assumption),by first |assumption|exact Classical.not_not.1 (by assumption)⟩
  exact Bj (s:=k) (k+1) ⟨rfl,rfl,rfl,trivial⟩ ⟨H,by (try dsimp only);omega,hle,Vz hx14 hx39 e3 ht⟩ (by (try dsimp only);omega)
 refine BH (AR (AR (BI (Z (Aa (Ae (Ad U (Ac (Z (Am (Aq U U ?_)))))))))))
 have e:a.map C0=b.map C0:=by rw [←Gq (xs:=a) (k:=k) (by omega),←Gq (xs:=b) (k:=k) (by omega)];exact ht
 exact Ak ⟨by rw [decide_eq_true e]<;>rfl,rfl⟩ H
theorem Sk (c:Int) (a:Int) (hc:1≤c∧c≤7):
    Cn Tryz.prog 168 [.int .i64 c,.int .i64 a] [] [] (fun v Bs=>v=.int .i64 (Df c a)∧Bs=[]):=by
 intro w0 F0 H
 refine enter Tryz.func168 U U (Nat.le_of_ble_eq_true U) (Aa (Ae (Ad U (Ac (Z (Aa (Aa (Ae (Ad U (V U U (Mi (z:=a.tmod 2) U U U (by omega) U) (V U U (Dq U U U) (Ac (Z ?_)))))))))))))
 refine Aw U (fun h1=>?_) (fun h1=>?_)
 ·refine Aa (Ae (Ad U (V U U (AX (z:=c+1) U U U (AB (by omega) (by omega))) (Ad U (Ac (Z (Am (Ay (Aq U U ?_)))))))))
  replace H:Hd _ _ _ [] []:=H
  exact Ak ⟨congrArg (Value.int .i64) (if_pos h1).symm,rfl⟩ H
 refine Ax (Z (Aa (Ae (Ah 2 U (Ac (Z (Am (Aq U U ?_))))))))
 replace H:Hd _ _ _ [] []:=H
 exact Ak ⟨congrArg (Value.int .i64) (if_neg h1).symm,rfl⟩ H
theorem KM (n:Int) (size:Int) (hn:0≤n∧n≤1000000):
    Cn Tryz.prog 105 [.int .i64 n,.int .i64 size] [] [] (fun v Bs=>v=.int .i64 (De n size)∧Bs=[]):=by
 intro w0 F0 H
 refine enter Tryz.func105 U U (Nat.le_of_ble_eq_true U) (Aa (Ae (Ad U (Ac (Z (Aa (Aa (Ae (Ad U (V U U (Bd U U U) (Ad U ?_)))))))))))
 refine AN (d:=7) U (fun h1=>?_) (fun h1=>?_)
 ·refine Ah 3 U (Ac (Z (Ck U (Aa (Ae (Ad U (Ac (Z (Am (Ay (Aq U U ?_)))))))))))
  replace H:Hd _ _ _ [] []:=H
  exact Ak ⟨congrArg (Value.int .i64) (if_pos (by omega)).symm,rfl⟩ H
 refine Ad U (V U U (Bd U U U) (Ad U (Ac (Z ?_))))
 refine Aw U (fun h2=>?_) (fun h2=>?_)
 ·refine Aa (Ae (Ad U (Ac (Z (Am (Ay (Aq U U ?_)))))))
  replace H:Hd _ _ _ [] []:=H
  exact Ak ⟨congrArg (Value.int .i64) (if_pos (by omega)).symm,rfl⟩ H
 refine Ax (Z (Aa ?_))
 have htd:=YX (n:=n - 1) (size:=size) (by omega) (by omega)
 refine Ae (Ad U (V U U (Cz (z:=n - 1) U U U (AB (by omega) (by omega))) (Ad U (V U U (Xq (z:=(n - 1).tdiv size) U U U (by omega) (AB (by omega) (by omega))) (V U U (AX (z:=((n - 1).tdiv size)+1) U U U (AB (by omega) (by omega))) (Ad U (Ac (Z (Am (Aq U U ?_))))))))))
 replace H:Hd _ _ _ [] []:=H
 exact Ak ⟨congrArg (Value.int .i64) (if_neg (by omega)).symm,rfl⟩ H
theorem Si (vps:Value) (ps:List An) (size:Int) (q:Int) (hl:ps.length≤1000) (hs:1≤size∧size≤8):
    Cn Tryz.prog 113 [vps,.int .i64 size,.int .i64 q] [] [Ab Ag vps ps] (fun v Bs=>Bs=[Y Ag v (EV ps size q)]):=by
 intro w0 F0 H
 obtain ⟨A1,c2,rfl,hc3,hm4,hp5⟩:=H.fR 0 rfl
 refine enter Tryz.func113 U U (Nat.le_of_ble_eq_true U) (Aa (Ae (Ad U (Ac (Z ?_)))))
 replace H:Hd _ _ _ [] [Ab Ag (.slice A1 ps.length c2) ps]:=H
 refine Aa (Aa (Ae (Ad U (V U U (Bd U U U) (Ad U ?_)))))
 refine AN (d:=10) U (fun h6=>?_) (fun h6=>?_)
 ·refine Ah 7 U (Ac (Z (Ck U (Aa (Ae (Ad U (Ac (Z (Am (Ay (Aq U U ?_)))))))))))
  replace H:=H.newnil Ag|>.tellK (ys:=EV ps size q) (by rw [NK (by omega)])|>.h1 (A:=Y Ag (.slice none 0 0) (EV ps size q))
  exact Ak U H
 refine Ah 2 U (V U U (Bf U C7 U) (Ad U (sc (KM ((ps.length:Nat):Int) size (by first |assumption|omega|(simp only [List.length_take,List.length_drop];omega))) H l0 U U (Au Lz U U) ?_)))
 rintro _ _ w ⟨rfl,rfl⟩ H
 refine V U U (CJ U U U) (Ad U (Ac (Z ?_)))
 refine Aw U (fun h7=>?_) (fun h7=>?_)
 ·refine Aa (Ae (Ad U (Ac (Z (Am (Ay (Aq U U ?_)))))))
  replace H:=H.newnil Ag|>.tellK (ys:=EV ps size q) (by rw [NK (by omega)])|>.h1 (A:=Y Ag (.slice none 0 0) (EV ps size q))
  exact Ak U H
 refine Ax (Z (Aa ?_))
 have hlo:=RZ (n:=ps.length) (size:=size) (q:=q) (by omega) (by omega) hs.1
 obtain ⟨m,hm⟩:∃ m:Nat,q*size=(m:Int):=⟨(q*size).toNat,by omega⟩
 obtain ⟨k,hk⟩:∃ k:Nat,min size (((ps.length - m:Nat):Int))=(k:Int):=⟨(min size (((ps.length - m:Nat):Int))).toNat,by omega⟩
 refine Ae (Ah 3 U (V U U (GJ (z:=((m:Nat):Int)) U U U (by rw [hm];exact AB (by omega) (by omega))) (V U U (IH U By U U (by omega) (by omega) U) (Ad U (Ac (Z (Aa (Ae (Ah 3 U (V U U (Bf U C7 U) (V U U (G9 (z:=((k:Nat):Int)) U U U hk) (V U U (Mf U By U U (by omega) (by omega) U) (sc (Jd (.slice (DC A1 c2 m 2) k (c2 - m)) ((ps.drop m).take k) (by first |assumption|omega|(simp only [List.length_take,List.length_drop];omega))) H (lX (fun F hA hR=>J_ (hR _ (List.mem_of_getElem? (i:=0) U)) (i:=m) (m':=k) (by omega)) l0) U U (Au JF U U) ?_)))))))))))))
 rintro v8 _ w rfl H
 replace H:=H.h1 (A:=Y Ag v8 ((ps.drop m).take k))
 refine Ad U (Ac (Z (Am (Aq U U ?_))))
 replace H:=H.tellK (ys:=EV ps size q) (by rw [Sj (by omega) (by omega) hs.1 hm hk])|>.h1 (A:=Y Ag v8 (EV ps size q))
 exact Ak U H
theorem NB (vb:Value) (bs:List UInt8) (n:Nat) (hb:bs.length≤1000000) (hn:n<9223372036854775808):
    Cn Tryz.prog 159 [vb,.int .i64 ((n:Nat):Int)] [] [Ab B2 vb bs] (fun v Bs=>Bs=[Y B2 v (bs++Cd n)]):=by
 intro w0 F0 H
 obtain ⟨A1,c2,rfl,hc3,hm4,hp5⟩:=H.fR 0 rfl
 refine enter Tryz.func159 U U (Nat.le_of_ble_eq_true U) (Aa (Ae (Ad U (Ac (Z ?_)))))
 replace H:Hd _ _ _ [] [Ab B2 (.slice A1 bs.length c2) bs]:=H
 refine Aa (Ae (Ad U (V U U (Bf U Gt U) (Ad U (V U U (Bf U Gt U) (V U U (AX (z:=((bs.length+8:Nat):Int)) U U U (by rw [AB (by omega) (by omega)];omega)) (Yh (m:=bs.length) (c:=bs.length+8) (a0:=(0:UInt8)) (enc:=Ey) U U U GN KD U (by decide) TB U U (by omega) (by omega) (by omega) H (fun b6 w H=>?_))))))))
 replace H:=H.h1 (A:=HQ Ey b6 5 (List.replicate (bs.length+8) (0:UInt8)))
 refine Ad U (Ac (Z (Aa (Ae (Ah 2 U (Yg (ys:=bs) U U U GN U U H (by simp) (by omega) (fun F hA hR=>hR _ (List.mem_of_getElem? (i:=0) U)) (fun w H=>?_)))))))
 replace H:Hd w0 F0 w [Y B2 (.slice (some ⟨b6,0,none⟩) bs.length (bs.length+8)) bs] [Ab B2 (.slice A1 bs.length c2) bs]:=H.turn (fun F h=>XY h (by simp) rfl (by simp) (by omega))
 refine Ac (Z (Aa (Aa (Ae (Ad U (Ac (Z (AS ?_))))))))
 replace H:Hd w0 F0 w [Y B2 (.slice (some ⟨b6,0,none⟩) bs.length (bs.length+8)) (bs++(Cd n).take 0)] [Ab B2 (.slice A1 bs.length c2) bs]:=by rw [List.take_zero,List.append_nil];exact H
 refine BQ (σ:=Nat×Value) (fun (i,q)=>[(1,.int .i64 ((n:Nat):Int)),(4,.slice none 0 0),(5,q),(16,.int .i64 ((i:Nat):Int))]) (fun (i,q) w=>(Hd w0 F0 w [Y B2 q (bs++(Cd n).take i)] [Ab B2 (.slice A1 bs.length c2) bs])∧(i≤8)) (fun (i,q)=>8 - i) (0,.slice (some ⟨b6,0,none⟩) bs.length (bs.length+8)) ⟨rfl,rfl,rfl,rfl,trivial⟩ ⟨H,Nat.zero_le _⟩ ?_
 rintro ⟨i,q⟩ w ⟨H,hi⟩
 have hbl:=Fv n
 have htl:((Cd n).take i).length≤8:=by rw [List.length_take];omega
 refine Aa (Ae (V U U (Bd U U U) (Ac (Z (Aa ?_)))))
 refine Aw U (fun h7=>?_) (fun h7=>?_)
 ·refine Ax (Z (Aa (AS (Aa (Ae (Ah 2 U (Ac (Z (Ae (Ah 2 U (V U U (DV (z:=((n:Nat):Int)) U U D5 Hg (Ft (by omega) (by omega))) (Ad U (V U U (Cz (z:=7 - ((i:Nat):Int)) U U U (AB (by omega) (by omega))) (V U U (GJ (z:=8*(7 - ((i:Nat):Int))) U U U (AB (by omega) (by omega))) (V U U (DV (z:=8*(7 - ((i:Nat):Int))) U U D5 FH (Ft (by omega) (by omega))) (V U U (HO (z:=((n / 256^(7 - i):Nat):Int)) U U U (by omega) (Yv n (by omega))) (V U U (DV (z:=((UInt8.ofNat (n / 256^(7 - i))).toNat:Int)) U U Hg Hj (Z1 _)) (BW (parts:=[(0,.tmp 27)]) (vs:=[.int .u8 ((UInt8.ofNat (n / 256^(7 - i))).toNat:Int)]) (cs:=[.int .u8 ((UInt8.ofNat (n / 256^(7 - i))).toNat:Int)]) U U U GN KD U (by decide) (by decide) U U H (fun b8 w H=>?_)))))))))))))))))))
  replace H:=H.p1
  refine CA (xs:=bs++(Cd n).take i) (ys:=[UInt8.ofNat (n / 256^(7 - i))]) U U U GN KD U (by decide) U U H (by first |omega|(simp only [List.length_append,List.length_cons,List.length_nil];omega)) (fun F hA hR=>Cp (hA _ (List.mem_of_getElem? (i:=0) U)) U (by decide) (AV.flat_eq.2 U)) (fun v9 w H=>(Ad U (Ac (AU (Z ?_)))))
  replace H:Hd _ _ _ [Y B2 v9 ((bs++(Cd n).take i)++[UInt8.ofNat (n / 256^(7 - i))]),blk b8 [.int .u8 ((UInt8.ofNat (n / 256^(7 - i))).toNat:Int)] 5] [Ab B2 (.slice A1 bs.length c2) bs]:=H
  refine Ae (V U U (AX (z:=((i+1:Nat):Int)) U U U (by rw [AB (by omega) (by omega)];omega)) (Ad U (Ac ?_)))
  replace H:=H.k1
  replace H:Hd w0 F0 w [Y B2 v9 (bs++(Cd n).take (i+1))] [Ab B2 (.slice A1 bs.length c2) bs]:=by rw [RD n (by omega),←List.append_assoc];exact H
  exact Bj (s:=(i,undef)) (i+1,v9) ⟨rfl,rfl,rfl,rfl,trivial⟩ ⟨H,by (try dsimp only);omega⟩ (by (try dsimp only);omega)
 refine BH (AR (AR (BI (Z (Aa (Ae (Ah 2 U (Ac (Z (Am (Aq U U ?_)))))))))))
 replace H:=H.h1 (A:=Y B2 q (bs++(Cd n).take i))
 replace H:Hd w0 F0 w [Y B2 q (bs++Cd n)] [Ab B2 (.slice A1 bs.length c2) bs]:=by rw [List.take_of_length_le (by omega)] at H;exact H
 exact Ak U H
theorem NC (vb:Value) (bs:List UInt8) (s:ByteArray) (hb:bs.length≤900000) (hs:s.size≤900000):
    Cn Tryz.prog 160 [vb,.string s] [] [Ab B2 vb bs] (fun v Bs=>Bs=[Y B2 v (bs++Dc s)]):=by
 intro w0 F0 H
 refine enter Tryz.func160 U U (Nat.le_of_ble_eq_true U) (Aa (Ae (Ad U (Ac (Z (Aa (Ae (Ah 2 U (V U U (Dp U CF U) (sc (NB vb bs s.size (by first |assumption|omega) (by first |assumption|omega)) H (lR 0 U l0) U U (Au ON U U) ?_))))))))))
 rintro v1 _ w rfl H
 refine Ad U (Yd U U U GN KD U (by decide) CF U U H (by rw [List.length_append,Fv];omega) (fun v2 w H=>(Ad U (Ac (Z ?_)))))
 replace H:Hd _ _ _ [Y B2 v2 ((bs++Cd s.size)++Cu s)] [Ab B2 vb bs]:=H
 refine Am (Aq U U ?_)
 replace H:Hd w0 F0 w [Y B2 v2 (bs++Dc s)] [Ab B2 vb bs]:=by unfold Dc;rw [←List.append_assoc];exact H
 exact Ak U H
theorem Qk (vb:Value) (bs:List UInt8) (a:Int) (hb:bs.length≤1000000) (ha:AP a):
    Cn Tryz.prog 203 [vb,.int .i64 a] [] [Ab B2 vb bs] (fun v Bs=>v=.tuple #[.int .i64 ((Cv bs a).1),.int .i64 ((Cv bs a).2.1),.bool ((Cv bs a).2.2)]∧Bs=[]):=by
 intro w0 F0 H
 obtain ⟨A1,c2,rfl,hc3,hm4,hp5⟩:=H.fR 0 rfl
 unfold AP at ha
 refine enter Tryz.func203 U U (Nat.le_of_ble_eq_true U) (Aa (Ae (Ah 3 U (Ac (Z ?_)))))
 replace H:Hd _ _ _ [] [Ab B2 (.slice A1 bs.length c2) bs]:=H
 refine Aa (Aa (Ae (Ad U (V U U (Bd U U U) (Ad U ?_)))))
 refine AN (d:=12) U (fun h6=>?_) (fun h6=>?_)
 ·refine Ah 12 U (Ac (Z (Ck U (Aa (Ae (Ah 3 U (Ac (Z (Am (Ay (FY U U U U ?_)))))))))))
  have e:=IK (b:=bs) (at_:=a) (by omega)
  exact Ak ⟨by rw [e]<;>rfl,rfl⟩ H
 refine Ah 2 U (V U U (Bf U Gt U) (V U U (CK U U U) (Ah 2 U ?_)))
 refine AN (d:=18) U (fun h7=>?_) (fun h7=>?_)
 ·refine Ah 6 U (Ac (Z (Ck U (Aa (Ae (Ah 3 U (Ac (Z (Am (Ay (FY U U U U ?_)))))))))))
  have e:=IK (b:=bs) (at_:=a) (by omega)
  exact Ak ⟨by rw [e]<;>rfl,rfl⟩ H
 refine Ad U (V U U (Bf U Gt U) (Ad U (V U U (Cz (z:=((bs.length:Nat):Int) - a) U U U (AB (by omega) (by omega))) (V U U (Bd U U U) (Ad U (Ac (Z ?_)))))))
 refine Aw U (fun h8=>?_) (fun h8=>?_)
 ·refine Aa (Ae (Ah 3 U (Ac (Z (Am (Ay (FY U U U U ?_)))))))
  have e:=IK (b:=bs) (at_:=a) (by omega)
  exact Ak ⟨by rw [e]<;>rfl,rfl⟩ H
 refine Ax (Z (Aa (Ae (Ad U (Ac (Z (Aa (Aa (Ae (Ah 3 U (V U U (AX (z:=a+8) U U U (AB (by omega) (by omega))) (V U U (P8 (i':=(a).toNat) (j':=(a+8).toNat) (m':=8) U GN U U U (by omega) (by omega) (by omega) U U (by omega)) (V U U (Bf U Gt U) (Ad U (Ac (Z (AS (BQ (σ:=Nat) (fun i=>[(1,.int .i64 a),(4,.int .i64 0),(5,.int .i64 0),(6,.bool false),(7,.int .u64 ((ED (((bs.drop (a).toNat).take 8).take i):Nat):Int)),(29,.slice (DC A1 c2 ((a).toNat) 1) 8 (c2 - ((a).toNat))),(30,.int .i64 ((8:Nat):Int)),(31,.int .i64 ((i:Nat):Int))]) (fun i w=>(Hd w0 F0 w [] [Ab B2 (.slice A1 bs.length c2) bs])∧(i≤8)) (fun i=>8 - i) 0 ⟨rfl,rfl,rfl,rfl,rfl,rfl,rfl,rfl,trivial⟩ ⟨H,Nat.zero_le _⟩ ?_))))))))))))))))))
 rintro i w ⟨H,hi⟩
 have hlt:=Xu (((bs.drop (a).toNat).take 8).take i) 0
 have hle8:(((bs.drop (a).toNat).take 8).take i).length≤i:=by rw [List.length_take];omega
 refine Aa (Ae (V U U (Bd U U U) (Ac (Z (Aa ?_)))))
 refine Aw U (fun h9=>?_) (fun h9=>?_)
 ·refine Ax (Z (Aa (AS (Aa (Ae ?_)))))
  obtain ⟨x10,hx11⟩:∃ z9,((bs.drop ((a).toNat)).take 8)[i]?=some z9:=⟨_,List.getElem?_eq_getElem (show i<((bs.drop ((a).toNat)).take 8).length by simp only [List.length_take,List.length_drop];omega)⟩
  have th12:=H.thX (fun F hA hR=>J_ (hR _ (List.mem_of_getElem? (i:=0) rfl)) (i:=(a).toNat) (m':=8) (by omega)) hx11
  refine V U U (A0 (p:=AQ (DC A1 c2 ((a).toNat) 1)+i*1) U GN U U (by omega) (by omega) th12 U) (V U U (Al U Zb U (H.elX (fun F hA hR=>J_ (hR _ (List.mem_of_getElem? (i:=0) U)) (i:=(a).toNat) (m':=8) (by omega)) hx11 (q:=0) U U)) (Ad U (Ac (Z ?_))))
  have hx8:=UInt8.toNat_lt x10
  have hm7:ED (((bs.drop (a).toNat).take 8).take i)<72057594037927936:=Nat.lt_of_lt_of_le hlt (Nat.le_trans (Nat.pow_le_pow_right (by omega) (show _≤7 by omega)) (by decide))
  refine Ae (Ad U (V U U (Xr (z:=((ED (((bs.drop (a).toNat).take 8).take i)*256:Nat):Int)) U U U (by omega) (Yu hm7)) (Ad U (V U U (DV (z:=((x10.toNat:Nat):Int)) U U Hj Hg (Ft (by omega) (by omega))) (V U U (Xd (z:=((ED (((bs.drop (a).toNat).take 8).take i)*256+x10.toNat:Nat):Int)) U (by simp) U U (Wn hm7 _)) (Ad U (Ac (AU (Z (Ae (V U U (AX (z:=((i+1:Nat):Int)) U U U (by rw [AB (by omega) (by omega)];omega)) (Ad U (Ac ?_)))))))))))))
  have hst:=Xw hx11
  exact Bj (s:=i) (i+1) ⟨rfl,rfl,rfl,rfl,(by (try dsimp only);rw [hst];rfl),rfl,rfl,rfl,trivial⟩ ⟨H,by (try dsimp only);omega⟩ (by (try dsimp only);omega)
 refine BH (AR (AR (BI (Z (Aa (Ae (Ad U (V U U (DV (z:=IntKind.i64.wrap ((ED ((bs.drop (a).toNat).take 8):Nat):Int)) U U Hg D5 (by rw [List.take_of_length_le (by rw [List.length_take];omega)])) (Ad U (V U U (AX (z:=a+8) U U U (AB (by omega) (by omega))) (Ah 3 U (Ac (Z (Am (FY U U U U ?_)))))))))))))))
 have e:=Mj (b:=bs) (at_:=a) (by omega)
 exact Ak ⟨by rw [e]<;>rfl,rfl⟩ H
theorem Ql (vb:Value) (bs:List UInt8) (a:Int) (hb:bs.length≤1000000) (ha:AP a):
    Cn Tryz.prog 204 [vb,.int .i64 a] [] [Ab B2 vb bs] (fun v Bs=>v=.tuple #[.string ((E2 bs a).1),.int .i64 ((E2 bs a).2.1),.bool ((E2 bs a).2.2)]∧Bs=[]):=by
 intro w0 F0 H
 obtain ⟨A1,c2,rfl,hc3,hm4,hp5⟩:=H.fR 0 rfl
 refine enter Tryz.func204 U U (Nat.le_of_ble_eq_true U) (Aa (Ae (Ah 3 U (Ac (Z ?_)))))
 replace H:Hd _ _ _ [] [Ab B2 (.slice A1 bs.length c2) bs]:=H
 refine Aa (Ae (Ah 2 U (sc (Qk (.slice A1 bs.length c2) bs a (by first |assumption|omega) (by first |assumption|omega)) H (lR 0 U l0) U U (Au OS U U) ?_)))
 rintro _ _ w ⟨rfl,rfl⟩ H
 refine Ah 7 U (Ac (Z (Aa (Aa ?_))))
 have hi6:=@Xx bs a
 have hin:=@Xy bs a
 refine Ae (Ad U (V U U (Fl U U U) (Ad U ?_)))
 refine GM (d:=19) (b:=!((Cv bs a).2.2)) U (fun h6=>?_) (fun h6=>?_)
 ·refine Ah 11 U (Ac (Z (Ck U (Aa (Ae (Ah 3 U (Ac (Z (Am (Ay (FY U U U U ?_)))))))))))
  have e:=Xz (b:=bs) (at_:=a) (by simpa using h6)
  exact Ak ⟨by rw [e]<;>rfl,rfl⟩ H
 have hii:=hin (by simpa using h6)
 refine Ad U (V U U (Bd U U U) (Ah 2 U ?_))
 refine AN (d:=23) U (fun h7=>?_) (fun h7=>?_)
 ·refine Ah 7 U (Ac (Z (Ck U (Aa (Ae (Ah 3 U (Ac (Z (Am (Ay (FY U U U U ?_)))))))))))
  have e:=(Mk (b:=bs) (at_:=a) (by simpa using h6)).trans (if_pos (by omega))
  exact Ak ⟨by rw [e]<;>rfl,rfl⟩ H
 refine Ah 2 U (V U U (Bf U Gt U) (Ad U (V U U (Cz (z:=((bs.length:Nat):Int) - ((Cv bs a).2.1)) U U U (AB (by omega) (by omega))) (V U U (CK U U U) (Ad U (Ac (Z ?_)))))))
 refine Aw U (fun h8=>?_) (fun h8=>?_)
 ·refine Aa (Ae (Ah 3 U (Ac (Z (Am (Ay (FY U U U U ?_)))))))
  have e:=(Mk (b:=bs) (at_:=a) (by simpa using h6)).trans (if_pos (by omega))
  exact Ak ⟨by rw [e]<;>rfl,rfl⟩ H
 refine Ax (Z (Aa (Ae (Ah 4 U (V U U (AX (z:=((Cv bs a).2.1)+((Cv bs a).1)) U U U (AB (by omega) (by omega))) (V U U (P8 (i':=((Cv bs a).2.1).toNat) (j':=((Cv bs a).2.1+(Cv bs a).1).toNat) (m':=((Cv bs a).1).toNat) U GN U U U (by omega) (by omega) (by omega) U U (by omega)) (V U U (H.read fun F hA hR=>P7 U Gt Hj CF U U (J_ (hR _ (List.mem_of_getElem? (i:=0) U)) (i:=((Cv bs a).2.1).toNat) (m':=((Cv bs a).1).toNat) (by omega))) (Ah 2 U (V U U (AX (z:=((Cv bs a).2.1)+((Cv bs a).1)) U U U (AB (by omega) (by omega))) (Ah 3 U (Ac (Z (Am (FY U U U U ?_))))))))))))))
 have e:=(Mk (b:=bs) (at_:=a) (by simpa using h6)).trans (if_neg (by omega))
 exact Ak ⟨by rw [e]<;>rfl,rfl⟩ H
theorem WH (vps:Value) (ps:List An) (hl:ps.length≤1000) (hsz:∀ p∈ps,p.key.size≤100∧p.val.size≤100):
    Cn Tryz.prog 97 [vps] [] [Ab Ag vps ps] (fun v Bs=>v=.string (AZ ps)∧Bs=[]):=by
 intro w0 F0 H
 obtain ⟨A1,c2,rfl,hc3,hm4,hp5⟩:=H.fR 0 rfl
 refine enter Tryz.func97 U U (Nat.le_of_ble_eq_true U) (Aa (Ae (Ad U (Ac (Z ?_)))))
 replace H:Hd _ _ _ [] [Ab Ag (.slice A1 ps.length c2) ps]:=H
 refine Aa (Ae (Ad U (V U U (Bf U C7 U) (sc (NB (.slice none 0 0) [] ps.length (by first |assumption|omega|(simp only [List.length_nil];omega)) (by first |assumption|omega|(simp only [List.length_nil];omega))) H (lX (fun F _ _=>G_ _ _ F trivial (by decide)) l0) U U (Au ON U U) ?_))))
 rintro v6 _ w rfl H
 replace H:=H.h1 (A:=Y B2 v6 ([]++Cd ps.length))
 refine Ad U (Ac (Z (Aa (Aa (Ae (Ad U (V U U (Bf U C7 U) (Ad U (Ac (Z (AS ?_)))))))))))
 replace H:Hd w0 F0 w [Y B2 v6 (Cd ps.length++CD (ps.take 0))] [Ab Ag (.slice A1 ps.length c2) ps]:=by rw [List.take_zero];simpa [CD] using H
 refine BQ (σ:=Nat×Value) (fun (i,q)=>[(2,.string ⟨#[]⟩),(3,q),(9,.slice A1 ps.length c2),(10,.int .i64 ((ps.length:Nat):Int)),(11,.int .i64 ((i:Nat):Int))]) (fun (i,q) w=>(Hd w0 F0 w [Y B2 q (Cd ps.length++CD (ps.take i))] [Ab Ag (.slice A1 ps.length c2) ps])∧(i≤ps.length)) (fun (i,q)=>ps.length - i) (0,v6) ⟨rfl,rfl,rfl,rfl,rfl,trivial⟩ ⟨H,Nat.zero_le _⟩ ?_
 rintro ⟨i,q⟩ w ⟨H,hi⟩
 have hpl:=L7 (ps:=ps.take i) (fun p hp=>hsz p (List.mem_of_mem_take hp))
 have hpi:(ps.take i).length≤i:=by rw [List.length_take];omega
 have hbl:(Cd ps.length++CD (ps.take i)).length=8+(CD (ps.take i)).length:=by rw [List.length_append,Fv]
 refine Aa (Ae (V U U (Bd U U U) (Ac (Z (Aa ?_)))))
 refine Aw U (fun h7=>?_) (fun h7=>?_)
 ·refine Ax (Z (Aa (AS (Aa (Ae ?_)))))
  obtain ⟨x8,hx9⟩:∃ z9,ps[i]?=some z9:=⟨_,List.getElem?_eq_getElem (show i<ps.length by omega)⟩
  have th10:=H.thR 0 rfl hx9
  refine V U U (A0 (p:=AQ A1+i*2) U By U U (by omega) (by omega) th10 U) (V U U (Bn (cs:=[.string x8.key,.string x8.val]) U Ca U U (H.elsR 0 U hx9 U)) (Dk U U U C9 H (fun b11 w H=>(BD U U U Ca U U H U (Nat.le_of_ble_eq_true U) (fun u hu=>by simp [Value.cells] at hu;rcases hu with rfl|rfl<;>rfl) (fun w H=>?_)))))
  replace H:=H.h2 (A:=blk b11 [.string x8.key,.string x8.val] 106) (B:=Y B2 q (Cd ps.length++CD (ps.take i)))
  refine Ac (Z ?_)
  have hxs:=hsz _ (Cc hx9)
  have htk:=HZ x8.key
  have hbl2:((Cd ps.length++CD (ps.take i))++Dc x8.key).length=(Cd ps.length++CD (ps.take i)).length+(Dc x8.key).length:=List.length_append
  refine B1 (.e 0 (.e 1 (.e 2 (.e 4 (.e 5 (.m 3 (.m 6 (.e 7 .z)))))))) (fun w=>∃ Ar,Hd w0 F0 w (blk b11 [.string x8.key,.string x8.val] 106::Y B2 q (Cd ps.length++CD (ps.take i))::Ar) [Ab Ag (.slice A1 ps.length c2) ps]) mo (by kernel_rfl) (fun w H=>⟨_,H⟩) H (fun w H=>(At U (Ap U U U (fun w ⟨Ar,H⟩=>Aj U EY U) (Ap U U U (fun w ⟨Ar,H⟩=>Al U BR U (H.cellI 0 U U)) (Ap U U U (fun w ⟨Ar,H⟩=>Aj U Hz U) (Ap U U U (fun w ⟨Ar,H⟩=>Al U BR U (H.cellI 0 U U)) (AO U (sc (NC q (Cd ps.length++CD (ps.take i)) x8.key (by first |assumption|omega|(simp only [List.length_nil];omega)) (by first |assumption|omega|(simp only [List.length_nil];omega))) H (lA 1 U BE l0) U U (Au OO U U) ?_))))))))
  rintro v12 _ w rfl H
  replace H:=H.h1 (A:=Y B2 v12 ((Cd ps.length++CD (ps.take i))++Dc x8.key))|>.p2|>.p2
  refine AJ ⟨_,H⟩ (AO U (sc (NC v12 ((Cd ps.length++CD (ps.take i))++Dc x8.key) x8.val (by first |assumption|omega|(simp only [List.length_nil];omega)) (by first |assumption|omega|(simp only [List.length_nil];omega))) H (lA 2 U BE l0) U U (Au OO U U) ?_))
  rintro v13 _ w rfl H
  replace H:=H.h1 (A:=Y B2 v13 (((Cd ps.length++CD (ps.take i))++Dc x8.key)++Dc x8.val))|>.p2|>.p2
  refine AJ ⟨_,H⟩ (At U (BK (AU (Z (Ae (V U U (AX (z:=((i+1:Nat):Int)) U U U (by rw [AB (by omega) (by omega)];omega)) (Ad U (Ac ?_))))))))
  replace H:=H.p2.k1
  replace H:Hd w0 F0 w [Y B2 v13 (Cd ps.length++CD (ps.take (i+1)))] [Ab Ag (.slice A1 ps.length c2) ps]:=by rw [D9 hx9,PQ,←List.append_assoc,←List.append_assoc];exact H
  exact Bj (s:=(i,undef)) (i+1,v13) ⟨rfl,rfl,rfl,rfl,rfl,trivial⟩ ⟨H,by (try dsimp only);omega⟩ (by (try dsimp only);omega)
 refine BH (AR (AR (BI (Z (Aa (Ae (Ad U ?_)))))))
 obtain ⟨A14,c15,rfl,hc16,hm17,hp18⟩:=H.fA 0 rfl
 refine V U U (H.read fun F hA hR=>P7 U Gt Hj CF U U (BE F (hA _ (List.mem_of_getElem? (i:=0) U)))) (Ad U (Ac (Z (Am (Aq U U ?_)))))
 replace H:=H.nil
 have e:ps.take i=ps:=List.take_of_length_le (by omega)
 exact Ak ⟨by rw [e];rfl,rfl⟩ H
theorem Zl (ps:List An) (hl:ps.length≤1000) (hsz:∀ p∈ps,p.key.size≤100∧p.val.size≤100):
    Cn Tryz.prog 167 [.string (AZ ps)] [] [] (fun v Bs=>Bs=[Y Ag v ps]):=by
 intro w0 F0 H
 have hps:=WA hsz hl
 have hbb:(Cu (AZ ps)).length≤300000:=by rw [Gc];exact hps
 have h064:AP (0:Int):=by unfold AP;omega
 refine enter Tryz.func167 U U (Nat.le_of_ble_eq_true U) (Aa (Ae (Ad U (Ac (Z (Aa (Ae (Ad U (Ym U U U CF Gt Hj U (by omega) H (fun b1 c2 w hc3 hc4 H=>(Ad U (Ac (Z (Aa (Ae (Ad U (sc (Qk (.slice (some ⟨b1,0,none⟩) ((AZ ps).size) c2) (Cu (AZ ps)) 0 (by first |assumption|omega|(simp only [List.length_nil];omega)) (by first |assumption|omega|(simp only [List.length_nil];omega))) H (lR 0 U l0) U U (Au OS U U) ?_)))))))))))))))))
 rintro _ _ w ⟨rfl,rfl⟩ H
 have hq:Cv (Cu (AZ ps)) 0=(((ps.length:Nat):Int),8,true):=by rw [L8];exact WE (by omega)
 rw [hq]
 refine Ah 7 U (Ac (Z ?_))
 replace H:Hd _ _ _ [] [Ab B2 (.slice (some ⟨b1,0,none⟩) ((AZ ps).size) c2) (Cu (AZ ps))]:=H
 refine Aa (Ae (Ad U (Ac (Z (Aa (Aa (Ae (Ah 2 U (Ac (Z (AS ?_)))))))))))
 replace H:=H.newnil Ag
 replace H:Hd w0 F0 w [Y Ag (.slice none 0 0) (ps.take 0)] [Ab B2 (.slice (some ⟨b1,0,none⟩) ((AZ ps).size) c2) (Cu (AZ ps))]:=by rw [List.take_zero];exact H
 refine BQ (σ:=Nat×Value) (fun (i,q)=>[(2,.slice none 0 0),(3,.slice (some ⟨b1,0,none⟩) ((AZ ps).size) c2),(5,.int .i64 ((DF ps i:Nat):Int)),(7,q),(17,.int .i64 ((ps.length:Nat):Int)),(18,.int .i64 ((i:Nat):Int))]) (fun (i,q) w=>(Hd w0 F0 w [Y Ag q (ps.take i)] [Ab B2 (.slice (some ⟨b1,0,none⟩) ((AZ ps).size) c2) (Cu (AZ ps))])∧(i≤ps.length)) (fun (i,q)=>ps.length - i) (0,.slice none 0 0) ⟨rfl,rfl,rfl,rfl,rfl,rfl,trivial⟩ ⟨H,Nat.zero_le _⟩ ?_
 rintro ⟨i,q⟩ w ⟨H,hi⟩
 have htl:(ps.take i).length≤i:=by rw [List.length_take];omega
 refine Aa (Ae (V U U (Bd U U U) (Ac (Z (Aa ?_)))))
 refine Aw U (fun h5=>?_) (fun h5=>?_)
 ·refine Ax (Z (Aa (AS (Aa (Ae (Dk U U U C9 H (fun b6 w H=>?_)))))))
  replace H:=H.h2 (A:=blk b6 [.string ⟨#[]⟩,.string ⟨#[]⟩] 106) (B:=Y Ag q (ps.take i))
  refine Ac (Z (Aa ?_))
  obtain ⟨x7,hx8⟩:∃ z9,ps[i]?=some z9:=⟨_,List.getElem?_eq_getElem (show i<ps.length by omega)⟩
  have hxs:=hsz _ (Cc hx8)
  have hkey:E2 (Cu (AZ ps)) ((DF ps i:Nat):Int)=(x7.key,((DF ps i+8+x7.key.size:Nat):Int),true):=by rw [L8];exact WB hx8 (by omega)
  have hval:E2 (Cu (AZ ps)) ((DF ps i+8+x7.key.size:Nat):Int)=(x7.val,((DF ps (i+1):Nat):Int),true):=by rw [L8];exact WF hx8 (by omega)
  have hpa:DF ps i≤300000:=Wy hsz hl i
  have hi64:AP ((DF ps i:Nat):Int):=by unfold AP;omega
  have hj64:AP ((DF ps i+8+x7.key.size:Nat):Int):=by unfold AP;omega
  refine Ae (Ah 2 U (sc (Ql (.slice (some ⟨b1,0,none⟩) ((AZ ps).size) c2) (Cu (AZ ps)) ((DF ps i:Nat):Int) (by first |assumption|omega|(simp only [List.length_nil];omega)) (by first |assumption|omega|(simp only [List.length_nil];omega))) H (lR 0 U l0) U U (Au OT U U) ?_))
  rintro _ _ w ⟨rfl,rfl⟩ H
  rw [hkey]
  refine Ah 4 U (V U U (Aj U EY U) (BD U U U BR U U H U (Nat.le_of_ble_eq_true U) (fun u hu=>by simp [Value.cells] at hu;subst hu;rfl) (fun w H=>?_)))
  replace H:=H.h1 (A:=blk b6 [.string x7.key,.string ⟨#[]⟩] 106)
  refine Ad U (Ac (Z (Aa (Ae (Ah 2 U (sc (Ql (.slice (some ⟨b1,0,none⟩) ((AZ ps).size) c2) (Cu (AZ ps)) ((DF ps i+8+x7.key.size:Nat):Int) (by first |assumption|omega|(simp only [List.length_nil];omega)) (by first |assumption|omega|(simp only [List.length_nil];omega))) H (lR 0 U l0) U U (Au OT U U) ?_))))))
  rintro _ _ w ⟨rfl,rfl⟩ H
  rw [hval]
  refine Ah 4 U (V U U (Aj U Hz U) (BD U U U BR U U H U (Nat.le_of_ble_eq_true U) (fun u hu=>by simp [Value.cells] at hu;subst hu;rfl) (fun w H=>?_)))
  replace H:=H.h1 (A:=blk b6 [.string x7.key,.string x7.val] 106)
  refine Ad U (Ac (Z (Ae (Ad U (V U U (Bn (cs:=[.string x7.key,.string x7.val]) U Ca U U (H.cellsI 0 U U)) (BW (parts:=[(0,.tmp 37)]) (vs:=[.agg #[.string x7.key,.string x7.val]]) (cs:=[.string x7.key,.string x7.val]) U U U By C9 U (by decide) (by decide) U U H (fun b9 w H=>?_)))))))
  replace H:=H.p2
  refine CA (xs:=ps.take i) (ys:=[x7]) U U U By C9 U (by decide) U U H (by first |omega|(simp only [List.length_append,List.length_cons,List.length_nil];omega)) (fun F hA hR=>Cp (hA _ (List.mem_of_getElem? (i:=0) U)) U (by decide) (AV.flat_eq.2 U)) (fun v10 w H=>(Ad U (Ac (AU (Z ?_)))))
  replace H:Hd _ _ _ [Y Ag v10 ((ps.take i)++[x7]),blk b9 [.string x7.key,.string x7.val] 106,blk b6 [.string x7.key,.string x7.val] 106] [Ab B2 (.slice (some ⟨b1,0,none⟩) ((AZ ps).size) c2) (Cu (AZ ps))]:=H
  refine Ae (V U U (AX (z:=((i+1:Nat):Int)) U U U (by rw [AB (by omega) (by omega)];omega)) (Ad U (Ac ?_)))
  replace H:=H.k1
  replace H:Hd w0 F0 w [Y Ag v10 (ps.take (i+1))] [Ab B2 (.slice (some ⟨b1,0,none⟩) ((AZ ps).size) c2) (Cu (AZ ps))]:=by rw [D9 hx8];exact H
  exact Bj (s:=(i,undef)) (i+1,v10) ⟨rfl,rfl,rfl,rfl,rfl,rfl,trivial⟩ ⟨H,by (try dsimp only);omega⟩ (by (try dsimp only);omega)
 refine BH (AR (AR (BI (Z (Aa (Ae (Ah 2 U (Ac (Z (Am (Aq U U ?_)))))))))))
 replace H:=H.h1 (A:=Y Ag q (ps.take i))
 replace H:Hd w0 F0 w [Y Ag q ps] [Ab B2 (.slice (some ⟨b1,0,none⟩) ((AZ ps).size) c2) (Cu (AZ ps))]:=by rw [List.take_of_length_le (by omega)] at H;exact H
 replace H:=H.dropR
 replace H:Hd _ _ _ [Y Ag q ps] []:=H
 exact Ak U H
theorem Po (b:Nat) (vS:Value) (vM:Value) (vC:Value) (vR:Value) (vK:Value) (J:AC) (cw:Int) (ct:Int) (co:Int) (s:Nat) (att:Int) (cb:Nat) (fv:Value) (vw:Value):
    Cn Tryz.prog 32 [.pointer (some ⟨b,0,none⟩)] [blk cb [.int .u32 1,.int .i32 0,.int .u32 0,.int .u32 1,fv,.string (AZ (Az dg J s).1)] 234] [blk b [vS,.int .i64 J.parts,vM,vC,vR,.int .i64 J.chunk,.int .i64 J.window,.int .i64 J.fuel,vK,.int .i64 cw,.int .i64 ct,.int .i64 co,.int .i64 ((s:Nat):Int),.int .i64 att,.int .i64 ((Az dg J s).2),.pointer (some ⟨cb,0,none⟩),vw] 164] (fun v Bs=>v=.int .i64 ((Az dg J s).2)∧Bs=[blk cb [.int .u32 1,.int .i32 0,.int .u32 0,.int .u32 1,fv,.string (AZ (Az dg J s).1)] 234]):=by
 intro w0 F0 H
 refine enter Tryz.func32 U U (Nat.le_of_ble_eq_true U) (Aa (Ae (Ad U (Ac (Z (Aa (Aa (Ae (Ad U (V U U (CW U Hi U U) (Ac (Z (B7 U (Ax (Z (Aa (Ae (Ad U (V U U (AF U U) (V U U (Aj U Jo U) (V U U (Al U DG U (H.cellRI 0 U U)) (sc (Lr cb fv (AZ (Az dg J s).1)) H l0 U U (Au It U U) ?_))))))))))))))))))))))
 rintro _ _ w ⟨rfl,rfl⟩ H
 refine Ac (Z ?_)
 replace H:Hd _ _ _ [blk cb [.int .u32 1,.int .i32 0,.int .u32 0,.int .u32 1,fv,.string (AZ (Az dg J s).1)] 234] [blk b [vS,.int .i64 J.parts,vM,vC,vR,.int .i64 J.chunk,.int .i64 J.window,.int .i64 J.fuel,vK,.int .i64 cw,.int .i64 ct,.int .i64 co,.int .i64 ((s:Nat):Int),.int .i64 att,.int .i64 ((Az dg J s).2),.pointer (some ⟨cb,0,none⟩),vw] 164]:=H
 exact Aa (Ae (Ad U (V U U (AF U U) (V U U (Aj U La U) (V U U (Al U AA U (H.cellRI 0 U U)) (Ad U (Ac (Z (Am (Aq U U (Ak ⟨rfl,rfl⟩ H)))))))))))
theorem LS (b:Nat) (vS:Value) (vM:Value) (vC:Value) (vR:Value) (vK:Value) (J:AC) (cw:Int) (ct:Int) (co:Int) (s:Nat) (att:Int) (cb:Nat) (fv:Value) (vw:Value) (p:Int) (hJ:B5 J):
    Cn Tryz.prog 106 [.pointer (some ⟨b,0,none⟩),.int .i64 p] [blk cb [.int .u32 1,.int .i32 0,.int .u32 0,.int .u32 1,fv,.string (AZ (Az dg J s).1)] 234] [blk b [vS,.int .i64 J.parts,vM,vC,vR,.int .i64 J.chunk,.int .i64 J.window,.int .i64 J.fuel,vK,.int .i64 cw,.int .i64 ct,.int .i64 co,.int .i64 ((s:Nat):Int),.int .i64 att,.int .i64 ((Az dg J s).2),.pointer (some ⟨cb,0,none⟩),vw] 164] (fun v Bs=>Bs=[Y Ag v (Cr dg J s p),blk cb [.int .u32 1,.int .i32 0,.int .u32 0,.int .u32 1,fv,.string (AZ (Az dg J s).1)] 234]):=by
 intro w0 F0 H
 have hlen:(Az dg J s).1.length≤1000:=by have:=HW dg J s;omega
 have hszs:∀ p∈(Az dg J s).1,p.key.size≤100∧p.val.size≤100:=fun x hx=>by have:=IT HJ hJ s x hx;unfold C5 at this;omega
 have hsk:∀ x∈(Az dg J s).1,x.key.size≤9223372036854775807:=fun x hx=>by have:=(hszs x hx).1;omega
 have hpt:=hJ.parts
 have hck:=hJ.chunk1
 have hol:=IC dg J s
 refine enter Tryz.func106 U U (Nat.le_of_ble_eq_true U) (Aa (Ae (Ad U (Ac (Z (Aa (B1 (.e 0 (.e 1 (.e 2 (.e 3 (.e 6 (.e 7 (.e 8 (.e 9 (.e 10 (.e 11 (.e 12 (.m 4 (.m 5 (.m 13 (.e 14 .z))))))))))))))) (fun w=>∃ Ar,Hd w0 F0 w (blk cb [.int .u32 1,.int .i32 0,.int .u32 0,.int .u32 1,fv,.string (AZ (Az dg J s).1)] 234::Ar) [blk b [vS,.int .i64 J.parts,vM,vC,vR,.int .i64 J.chunk,.int .i64 J.window,.int .i64 J.fuel,vK,.int .i64 cw,.int .i64 ct,.int .i64 co,.int .i64 ((s:Nat):Int),.int .i64 att,.int .i64 ((Az dg J s).2),.pointer (some ⟨cb,0,none⟩),vw] 164]) mo (by kernel_rfl) (fun w H=>⟨_,H⟩) H (fun w H=>(At U (Ap U U U (fun w ⟨Ar,H⟩=>AF U U) (Ap U U U (fun w ⟨Ar,H⟩=>Aj U Jo U) (Ap U U U (fun w ⟨Ar,H⟩=>Al U DG U (H.cellRI 0 U U)) (At U ?_)))))))))))))
 refine Ap U U U (fun w ⟨Ar,H⟩=>AF U U) (Ap U U U (fun w ⟨Ar,H⟩=>Aj U Jn U) (Ap U U U (fun w ⟨Ar,H⟩=>Aj U CY U) (Ap U U U (fun w ⟨Ar,H⟩=>Aj U HC U) (Ap U U U (fun w ⟨Ar,H⟩=>Al U AA U (H.cellRI 0 U U)) (At U (AO U (sc (Lr cb fv (AZ (Az dg J s).1)) H l0 U U (Au It U U) ?_)))))))
 rintro _ _ w ⟨rfl,rfl⟩ H
 replace H:Hd _ _ _ [blk cb [.int .u32 1,.int .i32 0,.int .u32 0,.int .u32 1,fv,.string (AZ (Az dg J s).1)] 234] [blk b [vS,.int .i64 J.parts,vM,vC,vR,.int .i64 J.chunk,.int .i64 J.window,.int .i64 J.fuel,vK,.int .i64 cw,.int .i64 ct,.int .i64 co,.int .i64 ((s:Nat):Int),.int .i64 att,.int .i64 ((Az dg J s).2),.pointer (some ⟨cb,0,none⟩),vw] 164]:=H
 refine AJ ⟨_,H⟩ (AO U (sc (Zl ((Az dg J s).1) (by first |assumption|omega|exact hlen|exact hszs) (by first |assumption|omega|exact hlen|exact hszs)) H l0 U U (Au Ud U U) ?_))
 rintro v1 _ w rfl H
 replace H:=H.h1 (A:=Y Ag v1 ((Az dg J s).1))|>.p1
 refine AJ ⟨_,H⟩ (AO U (sc (Wg v1 ((Az dg J s).1) J.parts p (by first |omega|(rw [F6];omega)) (by omega) (by assumption)) H (lA 1 U BE l0) U U (Au T3 U U) ?_))
 rintro v2 _ w rfl H
 replace H:=H.h1 (A:=Y Ag v2 (EN ((Az dg J s).1) J.parts p))|>.p1
 refine AJ ⟨_,H⟩ (At U (BK (Z (Am (Aq U U ?_)))))
 replace H:=H.p1.k2.h1 (A:=Y Ag v2 (Cr dg J s p))
 exact Ak U H
theorem LT (b:Nat) (vS:Value) (vM:Value) (vC:Value) (vR:Value) (vK:Value) (J:AC) (cw:Int) (ct:Int) (co:Int) (s:Nat) (att:Int) (cb:Nat) (vw:Value) (hJ:B5 J):
    Cn Tryz.prog 107 [.pointer (some ⟨b,0,none⟩)] [] [blk b [vS,.int .i64 J.parts,vM,vC,vR,.int .i64 J.chunk,.int .i64 J.window,.int .i64 J.fuel,vK,.int .i64 cw,.int .i64 ct,.int .i64 co,.int .i64 ((s:Nat):Int),.int .i64 att,.int .i64 ((Az dg J s).2),.pointer (some ⟨cb,0,none⟩),vw] 164] (fun v Bs=>v=.int .i64 (Df J.chunk att)∧Bs=[]):=by
 intro w0 F0 H
 have hck:=hJ.chunk1
 refine enter Tryz.func107 U U (Nat.le_of_ble_eq_true U) (Aa (Ae (Ad U (Ac (Z (Aa (B1 (.e 0 (.e 1 (.e 2 (.e 3 (.e 4 (.e 5 (.e 6 (.e 7 (.e 8 (.e 9 (.m 10 (.e 11 .z)))))))))))) (fun w=>∃ Ar,Hd w0 F0 w (Ar) [blk b [vS,.int .i64 J.parts,vM,vC,vR,.int .i64 J.chunk,.int .i64 J.window,.int .i64 J.fuel,vK,.int .i64 cw,.int .i64 ct,.int .i64 co,.int .i64 ((s:Nat):Int),.int .i64 att,.int .i64 ((Az dg J s).2),.pointer (some ⟨cb,0,none⟩),vw] 164]) mo (by kernel_rfl) (fun w H=>⟨_,H⟩) H (fun w H=>(At U (Ap U U U (fun w ⟨Ar,H⟩=>AF U U) (Ap U U U (fun w ⟨Ar,H⟩=>Aj U Jn U) (Ap U U U (fun w ⟨Ar,H⟩=>Aj U CY U) (Ap U U U (fun w ⟨Ar,H⟩=>Aj U Od U) (Ap U U U (fun w ⟨Ar,H⟩=>Al U AA U (H.cellRI 0 U U)) (At U (Ap U U U (fun w ⟨Ar,H⟩=>AF U U) ?_))))))))))))))))
 refine Ap U U U (fun w ⟨Ar,H⟩=>Aj U N7 U) (Ap U U U (fun w ⟨Ar,H⟩=>Al U AA U (H.cellRI 0 U U)) (AO U (sc (Sk J.chunk att (by first |assumption|omega|exact hlen|exact hszs)) H l0 U U (Au Ue U U) ?_)))
 rintro _ _ w ⟨rfl,rfl⟩ H
 replace H:Hd _ _ _ [] [blk b [vS,.int .i64 J.parts,vM,vC,vR,.int .i64 J.chunk,.int .i64 J.window,.int .i64 J.fuel,vK,.int .i64 cw,.int .i64 ct,.int .i64 co,.int .i64 ((s:Nat):Int),.int .i64 att,.int .i64 ((Az dg J s).2),.pointer (some ⟨cb,0,none⟩),vw] 164]:=H
 exact AJ ⟨_,H⟩ (At U (BK (Z (Am (Aq U U (Ak ⟨rfl,rfl⟩ H))))))
theorem Vm (b:Nat) (vS:Value) (vM:Value) (vC:Value) (vR:Value) (vK:Value) (J:AC) (cw:Int) (ct:Int) (co:Int) (s:Nat) (att:Int) (cb:Nat) (fv:Value) (vw:Value) (hJ:B5 J):
    Cn Tryz.prog 30 [.pointer (some ⟨b,0,none⟩)] [blk cb [.int .u32 1,.int .i32 0,.int .u32 0,.int .u32 1,fv,.string (AZ (Az dg J s).1)] 234] [blk b [vS,.int .i64 J.parts,vM,vC,vR,.int .i64 J.chunk,.int .i64 J.window,.int .i64 J.fuel,vK,.int .i64 cw,.int .i64 ct,.int .i64 co,.int .i64 ((s:Nat):Int),.int .i64 att,.int .i64 ((Az dg J s).2),.pointer (some ⟨cb,0,none⟩),vw] 164] (fun v Bs=>Bs=[Y (Ai .i64) v (Br dg J s att),blk cb [.int .u32 1,.int .i32 0,.int .u32 0,.int .u32 1,fv,.string (AZ (Az dg J s).1)] 234]):=by
 intro w0 F0 H
 have hlen:(Az dg J s).1.length≤1000:=by have:=HW dg J s;omega
 have hszs:∀ p∈(Az dg J s).1,p.key.size≤100∧p.val.size≤100:=fun x hx=>by have:=IT HJ hJ s x hx;unfold C5 at this;omega
 have hsk:∀ x∈(Az dg J s).1,x.key.size≤9223372036854775807:=fun x hx=>by have:=(hszs x hx).1;omega
 have hpt:=hJ.parts
 have hck:=hJ.chunk1
 have hol:=IC dg J s
 refine enter Tryz.func30 U U (Nat.le_of_ble_eq_true U) (Aa (Ae (Ad U (Ac (Z (Aa (Aa (Ae (Ad U (V U U (CW U Hi U U) (Ah 2 U (sc (Po b vS vM vC vR vK J cw ct co s att cb fv vw) H (lR 0 U l0) U U (Au JK U U) ?_))))))))))))
 rintro _ _ w ⟨rfl,rfl⟩ H
 refine V U U (Dq U U U) (Ad U (Ac (Z ?_)))
 replace H:Hd _ _ _ [blk cb [.int .u32 1,.int .i32 0,.int .u32 0,.int .u32 1,fv,.string (AZ (Az dg J s).1)] 234] [blk b [vS,.int .i64 J.parts,vM,vC,vR,.int .i64 J.chunk,.int .i64 J.window,.int .i64 J.fuel,vK,.int .i64 cw,.int .i64 ct,.int .i64 co,.int .i64 ((s:Nat):Int),.int .i64 att,.int .i64 ((Az dg J s).2),.pointer (some ⟨cb,0,none⟩),vw] 164]:=H
 refine Aw U (fun h1=>?_) (fun h1=>?_)
 ·refine Aa (Ae (Ad U (Ac (Z (Am (Ay (Aq U U ?_)))))))
  replace H:=H.newnil (Ai .i64)|>.tellK (ys:=Br dg J s att) (by rw [NH h1])|>.h1 (A:=Y (Ai .i64) (.slice none 0 0) (Br dg J s att))
  exact Ak U H
 refine Ax (Z (Aa (Ae (Ad U (Ac (Z (Aa (Aa (Ae (Ad U (V U U (AF U U) (V U U (Aj U Jn U) (V U U (Aj U CY U) (V U U (Aj U HC U) (V U U (Al U AA U (H.cellRI 0 U U)) (Ad U (Ac (Z (AS ?_)))))))))))))))))))
 replace H:=H.newnil (Ai .i64)|>.tellK (ys:=DP dg J s att 0) (by rfl)
 refine BQ (σ:=Nat×Value) (fun (k,q)=>[(0,.pointer (some ⟨b,0,none⟩)),(2,.slice none 0 0),(3,q),(17,.int .i64 J.parts),(18,.int .i64 ((k:Nat):Int))]) (fun (k,q) w=>(Hd w0 F0 w [Y (Ai .i64) q (DP dg J s att k),blk cb [.int .u32 1,.int .i32 0,.int .u32 0,.int .u32 1,fv,.string (AZ (Az dg J s).1)] 234] [blk b [vS,.int .i64 J.parts,vM,vC,vR,.int .i64 J.chunk,.int .i64 J.window,.int .i64 J.fuel,vK,.int .i64 cw,.int .i64 ct,.int .i64 co,.int .i64 ((s:Nat):Int),.int .i64 att,.int .i64 ((Az dg J s).2),.pointer (some ⟨cb,0,none⟩),vw] 164])∧((k:Int)≤J.parts)) (fun (k,q)=>J.parts.toNat - k) (0,.slice none 0 0) ⟨rfl,rfl,rfl,rfl,rfl,trivial⟩ ⟨H,by omega⟩ ?_
 rintro ⟨k,q⟩ w ⟨H,hk⟩
 have hcl:=Nx dg J s att k
 have holk:=hol ((k:Nat):Int)
 refine Aa (Ae (V U U (Bd U U U) (Ac (Z (Aa ?_)))))
 refine Aw U (fun h2=>?_) (fun h2=>?_)
 ·refine Ax (Z (Aa (AS (Aa (Ae (Ah 2 U (Ac (Z (Ae (Ah 3 U ?_))))))))))
  replace H:=H.p1
  replace H:Hd _ _ _ [blk cb [.int .u32 1,.int .i32 0,.int .u32 0,.int .u32 1,fv,.string (AZ (Az dg J s).1)] 234,Y (Ai .i64) q (DP dg J s att k)] [blk b [vS,.int .i64 J.parts,vM,vC,vR,.int .i64 J.chunk,.int .i64 J.window,.int .i64 J.fuel,vK,.int .i64 cw,.int .i64 ct,.int .i64 co,.int .i64 ((s:Nat):Int),.int .i64 att,.int .i64 ((Az dg J s).2),.pointer (some ⟨cb,0,none⟩),vw] 164]:=H
  refine sc (LS b vS vM vC vR vK J cw ct co s att cb fv vw ((k:Nat):Int) (by first |assumption|omega|exact hlen|exact hszs)) H (lR 0 U l0) U U (Au LA U U) ?_
  rintro v3 _ w rfl H
  obtain ⟨A4,c5,rfl,hc6,hm7,hp8⟩:=H.fA 0 rfl
  refine V U U (Bf U C7 U) (Ad U ?_)
  replace H:Hd _ _ _ [Y Ag (.slice A4 ((Cr dg J s ((k:Nat):Int)).length) c5) (Cr dg J s ((k:Nat):Int)),blk cb [.int .u32 1,.int .i32 0,.int .u32 0,.int .u32 1,fv,.string (AZ (Az dg J s).1)] 234,Y (Ai .i64) q (DP dg J s att k)] [blk b [vS,.int .i64 J.parts,vM,vC,vR,.int .i64 J.chunk,.int .i64 J.window,.int .i64 J.fuel,vK,.int .i64 cw,.int .i64 ct,.int .i64 co,.int .i64 ((s:Nat):Int),.int .i64 att,.int .i64 ((Az dg J s).2),.pointer (some ⟨cb,0,none⟩),vw] 164]:=H
  refine sc (LT b vS vM vC vR vK J cw ct co s att cb vw (by first |assumption|omega|exact hlen|exact hszs)) H (lR 0 U l0) U U (Au LB U U) ?_
  rintro _ _ w ⟨rfl,rfl⟩ H
  refine sc (KM (((Cr dg J s ((k:Nat):Int)).length:Nat):Int) (Df J.chunk att) (by first |assumption|omega|exact hlen|exact hszs)) H l0 U U (Au Lz U U) ?_
  rintro _ _ w ⟨rfl,rfl⟩ H
  refine BW (parts:=[(0,.tmp 28)]) (vs:=[.int .i64 (De (((Cr dg J s ((k:Nat):Int)).length:Nat):Int) (Df J.chunk att))]) (cs:=[.int .i64 (De (((Cr dg J s ((k:Nat):Int)).length:Nat):Int) (Df J.chunk att))]) U U U DW FK U (by decide) (by decide) U U H (fun b9 w H=>?_)
  replace H:=H.p3
  refine CA (xs:=DP dg J s att k) (ys:=[De (((Cr dg J s ((k:Nat):Int)).length:Nat):Int) (Df J.chunk att)]) U U U DW FK U (by decide) U U H (by first |omega|(simp only [List.length_append,List.length_cons,List.length_nil];omega)) (fun F hA hR=>Cp (hA _ (List.mem_of_getElem? (i:=0) U)) U (by decide) (AV.flat_eq.2 U)) (fun v10 w H=>(Ad U (Ac (AU (Z ?_)))))
  replace H:Hd _ _ _ [Y (Ai .i64) v10 ((DP dg J s att k)++[De (((Cr dg J s ((k:Nat):Int)).length:Nat):Int) (Df J.chunk att)]),blk b9 [.int .i64 (De (((Cr dg J s ((k:Nat):Int)).length:Nat):Int) (Df J.chunk att))] 3,Y Ag (.slice A4 ((Cr dg J s ((k:Nat):Int)).length) c5) (Cr dg J s ((k:Nat):Int)),blk cb [.int .u32 1,.int .i32 0,.int .u32 0,.int .u32 1,fv,.string (AZ (Az dg J s).1)] 234] [blk b [vS,.int .i64 J.parts,vM,vC,vR,.int .i64 J.chunk,.int .i64 J.window,.int .i64 J.fuel,vK,.int .i64 cw,.int .i64 ct,.int .i64 co,.int .i64 ((s:Nat):Int),.int .i64 att,.int .i64 ((Az dg J s).2),.pointer (some ⟨cb,0,none⟩),vw] 164]:=H
  refine Ae (V U U (AX (z:=((k+1:Nat):Int)) U U U (by rw [AB (by omega) (by omega)];omega)) (Ad U (Ac ?_)))
  replace H:=H.p3.p1.k2.tellK (ys:=DP dg J s att (k+1)) (by rw [Ny])
  exact Bj (s:=(k,undef)) (k+1,v10) ⟨rfl,rfl,rfl,rfl,rfl,trivial⟩ ⟨H,by (try dsimp only);omega⟩ (by (try dsimp only);omega)
 refine BH (AR (AR (BI (Z (Aa (Ae (Ah 2 U (Ac (Z (Am (Aq U U ?_)))))))))))
 have hkk:k=J.parts.toNat:=by omega
 replace H:=H.tellK (ys:=Br dg J s att) (by rw [NJ (Classical.not_not.1 h1),←hkk])
 replace H:Hd _ _ _ [Y (Ai .i64) q (Br dg J s att),blk cb [.int .u32 1,.int .i32 0,.int .u32 0,.int .u32 1,fv,.string (AZ (Az dg J s).1)] 234] [blk b [vS,.int .i64 J.parts,vM,vC,vR,.int .i64 J.chunk,.int .i64 J.window,.int .i64 J.fuel,vK,.int .i64 cw,.int .i64 ct,.int .i64 co,.int .i64 ((s:Nat):Int),.int .i64 att,.int .i64 ((Az dg J s).2),.pointer (some ⟨cb,0,none⟩),vw] 164]:=H
 exact Ak U H
theorem Vk (b:Nat) (vS:Value) (vM:Value) (vC:Value) (vR:Value) (vK:Value) (J:AC) (cw:Int) (ct:Int) (co:Int) (s:Nat) (att:Int) (cb:Nat) (fv:Value) (vw:Value) (p:Int) (q:Int) (hJ:B5 J):
    Cn Tryz.prog 41 [.pointer (some ⟨b,0,none⟩),.int .i64 p,.int .i64 q] [blk cb [.int .u32 1,.int .i32 0,.int .u32 0,.int .u32 1,fv,.string (AZ (Az dg J s).1)] 234] [blk b [vS,.int .i64 J.parts,vM,vC,vR,.int .i64 J.chunk,.int .i64 J.window,.int .i64 J.fuel,vK,.int .i64 cw,.int .i64 ct,.int .i64 co,.int .i64 ((s:Nat):Int),.int .i64 att,.int .i64 ((Az dg J s).2),.pointer (some ⟨cb,0,none⟩),vw] 164] (fun v Bs=>Bs=[Y Ag v (C3 dg J s att p q),blk cb [.int .u32 1,.int .i32 0,.int .u32 0,.int .u32 1,fv,.string (AZ (Az dg J s).1)] 234]):=by
 intro w0 F0 H
 have hlen:(Az dg J s).1.length≤1000:=by have:=HW dg J s;omega
 have hszs:∀ p∈(Az dg J s).1,p.key.size≤100∧p.val.size≤100:=fun x hx=>by have:=IT HJ hJ s x hx;unfold C5 at this;omega
 have hsk:∀ x∈(Az dg J s).1,x.key.size≤9223372036854775807:=fun x hx=>by have:=(hszs x hx).1;omega
 have hpt:=hJ.parts
 have hck:=hJ.chunk1
 have hol:=IC dg J s
 have hcs:=Sl (att:=att) hck
 have holp:=hol p
 refine enter Tryz.func41 U U (Nat.le_of_ble_eq_true U) (Aa (Ae (Ad U (Ac (Z (Aa (Aa (Ae (Ad U (V U U (CW U Hi U U) (Ah 2 U (V U U (Bd U U U) (Ad U (Ac (Z ?_)))))))))))))))
 refine Aw U (fun h1=>?_) (fun h1=>?_)
 ·refine Aa (Ae (Ad U (Ac (Z (Am (Ay (Aq U U ?_)))))))
  replace H:=H.newnil Ag
  replace H:Hd _ _ _ [Y Ag (.slice none 0 0) [],blk cb [.int .u32 1,.int .i32 0,.int .u32 0,.int .u32 1,fv,.string (AZ (Az dg J s).1)] 234] [blk b [vS,.int .i64 J.parts,vM,vC,vR,.int .i64 J.chunk,.int .i64 J.window,.int .i64 J.fuel,vK,.int .i64 cw,.int .i64 ct,.int .i64 co,.int .i64 ((s:Nat):Int),.int .i64 att,.int .i64 ((Az dg J s).2),.pointer (some ⟨cb,0,none⟩),vw] 164]:=H
  replace H:=H.tellK (ys:=C3 dg J s att p q) (by rw [show C3 dg J s att p q=[] from if_pos h1])|>.h1 (A:=Y Ag (.slice none 0 0) (C3 dg J s att p q))
  exact Ak U H
 refine Ax (Z (Aa (Ae (Ah 2 U (sc (LS b vS vM vC vR vK J cw ct co s att cb fv vw p (by first |assumption|omega|exact hlen|exact hszs)) H (lR 0 U l0) U U (Au LA U U) ?_)))))
 rintro v2 _ w rfl H
 refine Ad U ?_
 replace H:Hd _ _ _ [Y Ag v2 (Cr dg J s p),blk cb [.int .u32 1,.int .i32 0,.int .u32 0,.int .u32 1,fv,.string (AZ (Az dg J s).1)] 234] [blk b [vS,.int .i64 J.parts,vM,vC,vR,.int .i64 J.chunk,.int .i64 J.window,.int .i64 J.fuel,vK,.int .i64 cw,.int .i64 ct,.int .i64 co,.int .i64 ((s:Nat):Int),.int .i64 att,.int .i64 ((Az dg J s).2),.pointer (some ⟨cb,0,none⟩),vw] 164]:=H
 refine sc (LT b vS vM vC vR vK J cw ct co s att cb vw (by first |assumption|omega|exact hlen|exact hszs)) H (lR 0 U l0) U U (Au LB U U) ?_
 rintro _ _ w ⟨rfl,rfl⟩ H
 refine Ad U (sc (Si v2 (Cr dg J s p) (Df J.chunk att) q (by first |assumption|omega|exact hlen|exact hszs) (by first |assumption|omega|exact hlen|exact hszs)) H (lA 0 U BE l0) U U (Au TZ U U) ?_)
 rintro v3 _ w rfl H
 replace H:=H.h1 (A:=Y Ag v3 (EV (Cr dg J s p) (Df J.chunk att) q))
 refine Ad U (Ac (Z (Am (Aq U U ?_))))
 replace H:=H.p2.p1.k2.tellK (ys:=C3 dg J s att p q) (by rw [show C3 dg J s att p q=EV (Cr dg J s p) (Df J.chunk att) q from if_neg h1])|>.h1 (A:=Y Ag v3 (C3 dg J s att p q))
 exact Ak U H
end Go.Proofs.YthgehekecfpikaaGreatDoor.X
