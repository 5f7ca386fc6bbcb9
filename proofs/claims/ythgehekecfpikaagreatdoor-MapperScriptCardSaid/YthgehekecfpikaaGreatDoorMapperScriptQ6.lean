/- MapperScript: texts RA1, RA2, RA4, M1, RA3, RA5, W1, RA6, RA7, RA8, K1, K2, M2, M3, joined by a program of ours; what nothing names is left out. -/
import Derived.Test.YthgehekecfpikaaGreatDoorMapperScriptQ5
set_option linter.unusedVariables false
set_option linter.unusedSimpArgs false
set_option maxHeartbeats 8000000
namespace Go.Proofs.YthgehekecfpikaaGreatDoor.X
open Go
theorem Gv (n:Int) (l:Int) (m:Int):
    Cn Tryz.prog 162 [.int .i64 n,.int .i64 l,.int .i64 m] [] [] (fun v Bs=>v=.bool (decide (l≤n∧n≤m))∧Bs=[]):=by
 intro w0 F0 H
 refine enter Tryz.func162 U U (Nat.le_of_ble_eq_true U) (Z (Ac (Ab U (Aa (Y (Z (Ac (Ad 2 U (V U U (BN U U U) (Ab U ?_))))))))))
 refine AD (d:=10) U (fun h1=>?_) (fun h1=>?_)
 ·exact Ad 2 U (V U U (BX U U U) (Ad 2 U (Aa (Y (Ai (Am U U (Ag ⟨congrArg Value.bool (decide_eq_decide.2 (by omega)),rfl⟩ H)))))))
 exact Ad 5 U (Aa (Y (Ai (Am U U (Ag ⟨congrArg Value.bool ((decide_eq_false (by omega)).symm),rfl⟩ H)))))
theorem QW (vS vM vC vR vK:Value) (J:AR):
    Cn Tryz.prog 161 [.agg #[vS,.int .i64 J.parts,vM,vC,vR,.int .i64 J.chunk,.int .i64 J.window,.int .i64 J.fuel,vK]] [] [Af (AU Al) vS J.us,Af Au vM J.map,Af Au vC J.comb,Af Au vR J.red,Af (AN .i64) vK J.marks] (fun v Bs=>v=.bool (decide (Cv J))∧Bs=[]):=by
 intro w0 F0 H
 obtain ⟨A1,c2,rfl,hc3,hm4,hp5⟩:=H.fR 0 rfl
 obtain ⟨A6,c7,rfl,hc8,hm9,hp10⟩:=H.fR 1 rfl
 obtain ⟨A11,c12,rfl,hc13,hm14,hp15⟩:=H.fR 2 rfl
 obtain ⟨A16,c17,rfl,hc18,hm19,hp20⟩:=H.fR 3 rfl
 obtain ⟨A21,c22,rfl,hc23,hm24,hp25⟩:=H.fR 4 rfl
 refine enter Tryz.func161 U U (Nat.le_of_ble_eq_true U) (Z (Ac (B4 U U U U H (fun b26 w H=>(Ab U (Aa (Y (Z (Z (Ac (V U U (Ah U C4 U) (V U U (Aj U CM U (H.cellI 0 U U)) (V U U (AO U D4 U) (sc (Gv ((J.us.length:Nat):Int) 1 6) H l0 U U (At Gr U U) ?_))))))))))))))
 rintro _ _ w ⟨rfl,rfl⟩ H
 refine V U U (CX U U) (Ab U ?_)
 refine AD (d:=10) U (fun h27=>?_) (fun h27=>?_)
 ·refine Ad 12 U (Ad 12 U (Ad 11 U (Aa (Y (BM U (Z (Ac (Ab U (Aa (Y (Ai (Ao (Am U U ?_)))))))))))))
  replace H:=H.nil
  have e:¬ Cv J:=by
    rintro ⟨g1,g2,g3,g4,g5,g6,g7,g8,g9,g10,g11⟩
    omega
  exact Ag ⟨congrArg Value.bool (decide_eq_false e).symm,rfl⟩ H
 refine V U U (Ah U G9 U) (V U U (Aj U Aw U (H.cellI 0 U U)) (sc (Gv J.parts 1 4) H l0 U U (At Gr U U) ?_))
 rintro _ _ w ⟨rfl,rfl⟩ H
 refine V U U (CX U U) (Ad 2 U ?_)
 refine AD (d:=16) U (fun h28=>?_) (fun h28=>?_)
 ·refine Ad 12 U (Ad 12 U (Ad 5 U (Aa (Y (BM U (Z (Ac (Ab U (Aa (Y (Ai (Ao (Am U U ?_)))))))))))))
  replace H:=H.nil
  have e:¬ Cv J:=by
    rintro ⟨g1,g2,g3,g4,g5,g6,g7,g8,g9,g10,g11⟩
    omega
  exact Ag ⟨congrArg Value.bool (decide_eq_false e).symm,rfl⟩ H
 refine V U U (Ah U Gn U) (V U U (Aj U Dk U (H.cellI 0 U U)) (V U U (AO U DX U) (V U U (AT U U U) (Ad 2 U ?_))))
 refine AD (d:=22) U (fun h29=>?_) (fun h29=>?_)
 ·refine Ad 12 U (Ad 11 U (Aa (Y (BM U (Z (Ac (Ab U (Aa (Y (Ai (Ao (Am U U ?_))))))))))))
  replace H:=H.nil
  have e:¬ Cv J:=by
    rintro ⟨g1,g2,g3,g4,g5,g6,g7,g8,g9,g10,g11⟩
    omega
  exact Ag ⟨congrArg Value.bool (decide_eq_false e).symm,rfl⟩ H
 refine V U U (Ah U G_ U) (V U U (Aj U Dk U (H.cellI 0 U U)) (V U U (AO U DX U) (V U U (AT U U U) (Ad 2 U ?_))))
 refine AD (d:=28) U (fun h30=>?_) (fun h30=>?_)
 ·refine Ad 12 U (Ad 5 U (Aa (Y (BM U (Z (Ac (Ab U (Aa (Y (Ai (Ao (Am U U ?_))))))))))))
  replace H:=H.nil
  have e:¬ Cv J:=by
    rintro ⟨g1,g2,g3,g4,g5,g6,g7,g8,g9,g10,g11⟩
    omega
  exact Ag ⟨congrArg Value.bool (decide_eq_false e).symm,rfl⟩ H
 refine V U U (Ah U Gn U) (V U U (Aj U Dk U (H.cellI 0 U U)) (sc (Kj (.slice A6 J.map.length c7) J.map) H (lR 1 U l0) U U (At JQ U U) ?_))
 rintro _ _ w ⟨rfl,rfl⟩ H
 refine V U U (BN U U U) (Ad 2 U ?_)
 refine AD (d:=34) U (fun h31=>?_) (fun h31=>?_)
 ·refine Ad 11 U (Aa (Y (BM U (Z (Ac (Ab U (Aa (Y (Ai (Ao (Am U U ?_)))))))))))
  replace H:=H.nil
  have e:¬ Cv J:=by
    rintro ⟨g1,g2,g3,g4,g5,g6,g7,g8,g9,g10,g11⟩
    omega
  exact Ag ⟨congrArg Value.bool (decide_eq_false e).symm,rfl⟩ H
 refine V U U (Ah U GI U) (V U U (Aj U Dk U (H.cellI 0 U U)) (sc (Kj (.slice A11 J.comb.length c12) J.comb) H (lR 2 U l0) U U (At JQ U U) ?_))
 rintro _ _ w ⟨rfl,rfl⟩ H
 refine V U U (BN U U U) (Ad 2 U ?_)
 refine AD (d:=40) U (fun h32=>?_) (fun h32=>?_)
 ·refine Ad 5 U (Aa (Y (BM U (Z (Ac (Ab U (Aa (Y (Ai (Ao (Am U U ?_)))))))))))
  replace H:=H.nil
  have e:¬ Cv J:=by
    rintro ⟨g1,g2,g3,g4,g5,g6,g7,g8,g9,g10,g11⟩
    omega
  exact Ag ⟨congrArg Value.bool (decide_eq_false e).symm,rfl⟩ H
 refine V U U (Ah U G_ U) (V U U (Aj U Dk U (H.cellI 0 U U)) (sc (Kj (.slice A16 J.red.length c17) J.red) H (lR 3 U l0) U U (At JQ U U) ?_))
 rintro _ _ w ⟨rfl,rfl⟩ H
 refine V U U (BN U U U) (Ab U (Aa (Y ?_)))
 refine Aq U (fun h33=>?_) (fun h33=>?_)
 ·refine Z (Ac (Ab U (Aa (Y (Ai (Ao (Am U U ?_)))))))
  replace H:=H.nil
  have e:¬ Cv J:=by
    rintro ⟨g1,g2,g3,g4,g5,g6,g7,g8,g9,g10,g11⟩
    omega
  exact Ag ⟨congrArg Value.bool (decide_eq_false e).symm,rfl⟩ H
 refine Av (Y (Z (Z (Ac (Ab U (Aa (Y (AK (Br (σ:=Nat) (fun k=>[(1,.pointer (some ⟨b26,0,none⟩)),(3,.int .i64 ((k:Nat):Int))]) (fun k w=>(Hd w0 F0 w [blk b26 [.slice A1 J.us.length c2,.int .i64 J.parts,.slice A6 J.map.length c7,.slice A11 J.comb.length c12,.slice A16 J.red.length c17,.int .i64 J.chunk,.int .i64 J.window,.int .i64 J.fuel,.slice A21 J.marks.length c22] 26] [Af (AU Al) (.slice A1 J.us.length c2) J.us,Af Au (.slice A6 J.map.length c7) J.map,Af Au (.slice A11 J.comb.length c12) J.comb,Af Au (.slice A16 J.red.length c17) J.red,Af (AN .i64) (.slice A21 J.marks.length c22) J.marks])∧(k≤J.us.length)∧(∀ u∈J.us.take k,FI u.2)) (fun k=>J.us.length - k) 0 ⟨rfl,rfl,trivial⟩ ⟨H,by omega,by simp⟩ ?_)))))))))
 rintro k w ⟨H,hk,hn⟩
 refine Z (Z (Ac (Ab U (V U U (Ah U C4 U) (V U U (Aj U CM U (H.cellI 0 U U)) (V U U (AO U D4 U) (V U U (AQ U U U) (Aa (Y ?_)))))))))
 refine Aq U (fun h34=>?_) (fun h34=>?_)
 ·refine Av (Y (Z (AK (Z (Ac (V U U (Ah U C4 U) (V U U (Aj U CM U (H.cellI 0 U U)) (Ab U ?_))))))))
  obtain ⟨⟨u37,x35⟩,hx36⟩:∃ z9,J.us[k]?=some z9:=⟨_,List.getElem?_eq_getElem (show k<J.us.length by omega)⟩
  obtain ⟨A38,c39,rfl,hc40,hm41⟩:=H.nestR 0 rfl hx36
  have th42:=H.thRd 0 rfl hx36
  refine V U U (AG (p:=AA A1+k*1) U Ei U U (by omega) (by omega) th42 U) (V U U (Aj U Db U (H.elRd 0 U hx36 U)) (V U U (AO U B_ U) (V U U (BP U U U) (Ab U ?_))))
  refine AD (d:=60) U (fun h43=>?_) (fun h43=>?_)
  ·refine Ad 8 U (Aa (Y (BM U (Z (Ac (Ab U (Aa (Y (Ai (Ax (Ao (Ao (Ax (Ao (Am U U ?_)))))))))))))))
   replace H:=H.nil
   have e:¬ Cv J:=by
     rintro ⟨g1,g2,g3,g4,g5,g6,g7,g8,g9,g10,g11⟩
     have g:=g4 _ (Bl hx36);have ga:x35.length≤8:=g.1;first |exact (h43 g.2).elim|omega
   exact Ag ⟨congrArg Value.bool (decide_eq_false e).symm,rfl⟩ H
  refine V U U (Ah U C4 U) (V U U (Aj U CM U (H.cellI 0 U U)) (Ab U ?_))
  have th44:=H.thRd 0 rfl hx36
  refine V U U (AG (p:=AA A1+k*1) U Ei U U (by omega) (by omega) th44 U) (V U U (Aj U Db U (H.elRd 0 U hx36 U)) (sc (Yi (.slice A38 x35.length c39) x35) H (lX (fun F hA hR=>GP (hR _ (List.mem_of_getElem? (i:=0) U)) hx36) l0) U U (At Vk U U) ?_))
  rintro _ _ w ⟨rfl,rfl⟩ H
  refine V U U (CX U U) (Ab U (Aa (Y ?_)))
  refine Aq U (fun h45=>?_) (fun h45=>?_)
  ·refine Z (Ac (Ab U (Aa (Y (Ai (Ax (Ao (Ao (Ax (Ao (Am U U ?_)))))))))))
   replace H:=H.nil
   have e:¬ Cv J:=by
     rintro ⟨g1,g2,g3,g4,g5,g6,g7,g8,g9,g10,g11⟩
     have g:=g4 _ (Bl hx36);have ga:x35.length≤8:=g.1;first |exact (h45 g.2).elim|omega
   exact Ag ⟨congrArg Value.bool (decide_eq_false e).symm,rfl⟩ H
  refine Av (AS (Y (Ac (Ab U (V U U (AP (z:=((k+1:Nat):Int)) U U U (by rw [Ay (by omega) (by omega)];omega)) (Ab U (Aa ?_)))))))
  have hn2:=Fd (Q:=fun u:Value×List An=>FI u.2) hn hx36 ⟨(show x35.length≤8 by omega),Classical.not_not.1 h45⟩
  exact Bb (s:=k) (k+1) ⟨rfl,rfl,trivial⟩ ⟨H,by (try dsimp only);omega,hn2⟩ (by (try dsimp only);omega)
 refine Bj (AE (AE (Bk (Y (Z (Z (Ac (V U U (Ah U JC U) (V U U (Aj U Aw U (H.cellI 0 U U)) (sc (Gv J.chunk 1 7) H l0 U U (At Gr U U) ?_))))))))))
 rintro _ _ w ⟨rfl,rfl⟩ H
 refine V U U (CX U U) (Ab U ?_)
 refine AD (d:=73) U (fun h46=>?_) (fun h46=>?_)
 ·refine Ad 12 U (Ad 5 U (Aa (Y (BM U (Z (Ac (Ab U (Aa (Y (Ai (Ao (Am U U ?_))))))))))))
  replace H:=H.nil
  have e:¬ Cv J:=by
    rintro ⟨g1,g2,g3,g4,g5,g6,g7,g8,g9,g10,g11⟩
    omega
  exact Ag ⟨congrArg Value.bool (decide_eq_false e).symm,rfl⟩ H
 refine V U U (Ah U JD U) (V U U (Aj U Aw U (H.cellI 0 U U)) (sc (Gv J.window 1 4) H l0 U U (At Gr U U) ?_))
 rintro _ _ w ⟨rfl,rfl⟩ H
 refine V U U (CX U U) (Ad 2 U ?_)
 refine AD (d:=79) U (fun h47=>?_) (fun h47=>?_)
 ·refine Ad 11 U (Aa (Y (BM U (Z (Ac (Ab U (Aa (Y (Ai (Ao (Am U U ?_)))))))))))
  replace H:=H.nil
  have e:¬ Cv J:=by
    rintro ⟨g1,g2,g3,g4,g5,g6,g7,g8,g9,g10,g11⟩
    omega
  exact Ag ⟨congrArg Value.bool (decide_eq_false e).symm,rfl⟩ H
 refine V U U (Ah U HI U) (V U U (Aj U Aw U (H.cellI 0 U U)) (sc (Gv J.fuel 1 2000) H l0 U U (At Gr U U) ?_))
 rintro _ _ w ⟨rfl,rfl⟩ H
 refine V U U (CX U U) (Ad 2 U ?_)
 refine AD (d:=85) U (fun h48=>?_) (fun h48=>?_)
 ·refine Ad 5 U (Aa (Y (BM U (Z (Ac (Ab U (Aa (Y (Ai (Ao (Am U U ?_)))))))))))
  replace H:=H.nil
  have e:¬ Cv J:=by
    rintro ⟨g1,g2,g3,g4,g5,g6,g7,g8,g9,g10,g11⟩
    omega
  exact Ag ⟨congrArg Value.bool (decide_eq_false e).symm,rfl⟩ H
 refine V U U (Ah U FB U) (V U U (Aj U EY U (H.cellI 0 U U)) (V U U (AO U EO U) (V U U (BP U U U) (Ab U (Aa (Y ?_))))))
 refine Aq U (fun h49=>?_) (fun h49=>?_)
 ·refine Z (Ac (Ab U (Aa (Y (Ai (Ao (Am U U ?_)))))))
  replace H:=H.nil
  have e:¬ Cv J:=by
    rintro ⟨g1,g2,g3,g4,g5,g6,g7,g8,g9,g10,g11⟩
    omega
  exact Ag ⟨congrArg Value.bool (decide_eq_false e).symm,rfl⟩ H
 refine Av (Y (Z (Z (Ac (Ab U (Aa (Y (AK ?_))))))))
 have hal:∀ u∈J.us,FI u.2:=by rw [←Gy (xs:=J.us) (k:=k) (by omega)];exact hn
 refine Br (σ:=Nat×Int) (fun (j,last)=>[(1,.pointer (some ⟨b26,0,none⟩)),(4,.int .i64 ((j:Nat):Int))]) (fun (j,last) w=>(Hd w0 F0 w [blk b26 [.slice A1 J.us.length c2,.int .i64 J.parts,.slice A6 J.map.length c7,.slice A11 J.comb.length c12,.slice A16 J.red.length c17,.int .i64 J.chunk,.int .i64 J.window,.int .i64 J.fuel,.slice A21 J.marks.length c22] 26] [Af (AU Al) (.slice A1 J.us.length c2) J.us,Af Au (.slice A6 J.map.length c7) J.map,Af Au (.slice A11 J.comb.length c12) J.comb,Af Au (.slice A16 J.red.length c17) J.red,Af (AN .i64) (.slice A21 J.marks.length c22) J.marks])∧(j≤J.marks.length∧0≤last)∧(Ey J.us.length last (J.marks.drop j)↔Ey J.us.length 0 J.marks)∧((j=0∧last=0)∨(0<j∧∀ y,J.marks[j - 1]?=some y→y=last))) (fun (j,last)=>J.marks.length - j) (0,0) ⟨rfl,rfl,trivial⟩ ⟨H,by (try dsimp only);omega,Iff.rfl,.inl ⟨rfl,rfl⟩⟩ ?_
 rintro ⟨j,last⟩ w ⟨H,hj,hm,hla⟩
 refine Z (Z (Ac (Ab U (V U U (Ah U FB U) (V U U (Aj U EY U (H.cellI 0 U U)) (V U U (AO U EO U) (V U U (AQ U U U) (Aa (Y ?_)))))))))
 refine Aq U (fun h50=>?_) (fun h50=>?_)
 ·refine Av (Y (Z (AK (Z (BD (.e 0 (.e 1 (.e 2 (.e 3 (.e 4 (.e 5 (.e 6 (.e 7 (.m 8 (.e 9 (.e 10 (.e 11 (.e 12 (.e 13 (.e 14 (.e 15 (.e 16 (.e 17 (.e 18 (.e 19 (.e 20 (.e 21 (.e 22 (.e 23 (.e 24 (.e 25 (.e 26 (.e 27 .z)))))))))))))))))))))))))))) (fun w=>∃ Ar,Hd w0 F0 w (blk b26 [.slice A1 J.us.length c2,.int .i64 J.parts,.slice A6 J.map.length c7,.slice A11 J.comb.length c12,.slice A16 J.red.length c17,.int .i64 J.chunk,.int .i64 J.window,.int .i64 J.fuel,.slice A21 J.marks.length c22] 26::Ar) [Af (AU Al) (.slice A1 J.us.length c2) J.us,Af Au (.slice A6 J.map.length c7) J.map,Af Au (.slice A11 J.comb.length c12) J.comb,Af Au (.slice A16 J.red.length c17) J.red,Af (AN .i64) (.slice A21 J.marks.length c22) J.marks]) mo (by kernel_rfl) (fun w H=>⟨_,H⟩) H (fun w H=>(Ak U U U (fun w ⟨Ar,H⟩=>Ah U FB U) (Ak U U U (fun w ⟨Ar,H⟩=>Aj U EY U (H.cellI 0 U U)) (Ap U ?_)))))))))
  obtain ⟨x51,hx52⟩:∃ z9,J.marks[j]?=some z9:=⟨_,List.getElem?_eq_getElem (show j<J.marks.length by omega)⟩
  have th53:=H.thR 4 rfl hx52
  refine Ak U U U (fun w ⟨Ar,H⟩=>AG (p:=AA A21+j*1) U CZ U U (by omega) (by omega) th53 U) (Ak U U U (fun w ⟨Ar,H⟩=>Aj U Aw U (H.elR 4 U hx52 (q:=0) U U)) (Ak U U U (fun w ⟨Ar,H⟩=>Ah U C4 U) (Ak U U U (fun w ⟨Ar,H⟩=>Aj U CM U (H.cellI 0 U U)) (Ak U U U (fun w ⟨Ar,H⟩=>AO U D4 U) (AL U (sc (Gv x51 1 ((J.us.length:Nat):Int)) H l0 U U (At Gr U U) ?_))))))
  rintro _ _ w ⟨rfl,rfl⟩ H
  refine AH ⟨_,H⟩ (Ak U U U (fun w ⟨Ar,H⟩=>CX U U) (Ap U ?_))
  refine G6 (d:=108) U (fun h54=>?_) (fun h54=>?_)
  ·refine Ap U (Ap U (Ap U (Ap U (Ap U (Ap U (Ap U (Ap U (Ap U (Ap U (Ap U (Ap U (Ap U (Ap U (Ap U (Ap U (Ap U (Bx (Y (BM U (Z (Ac (Ab U (Aa (Y (Ai (Ax (Ao (Ao (Ax (Ao (Am U U ?_)))))))))))))))))))))))))))))))
   replace H:=H.nil
   have e:¬ Cv J:=by
     rintro ⟨g1,g2,g3,g4,g5,g6,g7,g8,g9,g10,g11⟩
     have g:=hm.2 g5;rw [Dv hx52] at g;have g0:=g.1;omega
   exact Ag ⟨congrArg Value.bool (decide_eq_false e).symm,rfl⟩ H
  refine Ap U (Ak U U U (fun w ⟨Ar,H⟩=>BP U U U) (Ap U ?_))
  refine G6 (d:=111) U (fun h55=>?_) (fun h55=>?_)
  ·refine Ak U U U (fun w ⟨Ar,H⟩=>Ah U FB U) (Ak U U U (fun w ⟨Ar,H⟩=>Aj U EY U (H.cellI 0 U U)) (Ap U (Ak U U U (fun w ⟨Ar,H⟩=>Cm (z:=((j:Nat):Int) - 1) U U U (Ay (by omega) (by omega))) ?_)))
   obtain ⟨x56,hx57⟩:∃ z9,J.marks[(((j:Nat):Int) - 1).toNat]?=some z9:=⟨_,List.getElem?_eq_getElem (show (((j:Nat):Int) - 1).toNat<J.marks.length by omega)⟩
   have th58:=H.thR 4 rfl hx57
   refine Ak U U U (fun w ⟨Ar,H⟩=>AG (p:=AA A21+((((j:Nat):Int) - 1).toNat)*1) U CZ U U (by omega) (by omega) th58 (by omega)) (Ak U U U (fun w ⟨Ar,H⟩=>Aj U Aw U (H.elR 4 U hx57 (q:=0) U U)) (Ak U U U (fun w ⟨Ar,H⟩=>Ah U FB U) (Ak U U U (fun w ⟨Ar,H⟩=>Aj U EY U (H.cellI 0 U U)) (Ap U ?_))))
   have th59:=H.thR 4 rfl hx52
   refine Ak U U U (fun w ⟨Ar,H⟩=>AG (p:=AA A21+j*1) U CZ U U (by omega) (by omega) th59 U) (Ak U U U (fun w ⟨Ar,H⟩=>Aj U Aw U (H.elR 4 U hx52 (q:=0) U U)) (Ak U U U (fun w ⟨Ar,H⟩=>BN U U U) (Ap U (Ap U (Bx (Y ?_))))))
   refine Aq U (fun h60=>?_) (fun h60=>?_)
   ·refine Z (Ac (Ab U (Aa (Y (Ai (Ax (Ao (Ao (Ax (Ao (Am U U ?_)))))))))))
    replace H:=H.nil
    have e:¬ Cv J:=by
      rintro ⟨g1,g2,g3,g4,g5,g6,g7,g8,g9,g10,g11⟩
      have hly:x56=last:=(hla.resolve_left (by omega)).2 _ (by rw [←hx57];congr 1;omega)
      have g:=hm.2 g5;rw [Dv hx52] at g;have g0:=g.1;omega
    exact Ag ⟨congrArg Value.bool (decide_eq_false e).symm,rfl⟩ H
   refine Av (AS (Y (Ac (Ab U (V U U (AP (z:=((j+1:Nat):Int)) U U U (by rw [Ay (by omega) (by omega)];omega)) (Ab U (Aa ?_)))))))
   have hly:x56=last:=(hla.resolve_left (by omega)).2 _ (by rw [←hx57];congr 1;omega)
   have hm2:Ey J.us.length x51 (J.marks.drop (j+1))↔Ey J.us.length 0 J.marks:=by rw [←hm,Dv hx52];exact ⟨fun g=>⟨by omega,g⟩,fun g=>g.2⟩
   exact Bb (s:=(j,last)) (j+1,x51) ⟨rfl,rfl,trivial⟩ ⟨H,by (try dsimp only);omega,hm2,.inr ⟨by omega,fun y hy=>by rw [Nat.add_sub_cancel,hx52] at hy;exact (Option.some.inj hy).symm⟩⟩ (by (try dsimp only);omega)
  refine Ap U (Ap U (Ap U (Ap U (Ap U (Ap U (Ap U (Ap U (Ap U (Ap U (Ap U (Ap U (Ap U (Ap U (Bx (Y (B0 U (Av (AS (Y (Ac (Ab U (V U U (AP (z:=((j+1:Nat):Int)) U U U (by rw [Ay (by omega) (by omega)];omega)) (Ab U (Aa ?_))))))))))))))))))))))))
  have hm2:Ey J.us.length x51 (J.marks.drop (j+1))↔Ey J.us.length 0 J.marks:=by rw [←hm,Dv hx52];exact ⟨fun g=>⟨by omega,g⟩,fun g=>g.2⟩
  exact Bb (s:=(j,last)) (j+1,x51) ⟨rfl,rfl,trivial⟩ ⟨H,by (try dsimp only);omega,hm2,.inr ⟨by omega,fun y hy=>by rw [Nat.add_sub_cancel,hx52] at hy;exact (Option.some.inj hy).symm⟩⟩ (by (try dsimp only);omega)
 refine Bj (AE (AE (Bk (Y (Z (Ac (Ab U (Aa (Y (Ai (Am U U ?_)))))))))))
 replace H:=H.nil
 have hmk:Ey J.us.length 0 J.marks:=hm.1 (by rw [List.drop_eq_nil_of_le (by omega)];trivial)
 have e:Cv J:=⟨by omega,by omega,by omega,hal,hmk,by omega,by omega,by omega,by omega,by omega,by omega⟩
 exact Ag ⟨congrArg Value.bool (decide_eq_true e).symm,rfl⟩ H
theorem QV (vS:Value) (vM:Value) (vC:Value) (vR:Value) (vK:Value) (C:Cf):
    Cn Tryz.prog 99 [.agg #[vS,.int .i64 C.J.parts,vM,vC,vR,.int .i64 C.J.chunk,.int .i64 C.J.window,.int .i64 C.J.fuel,vK,.int .i64 C.w,.int .i64 C.t,.int .i64 C.o]] [] [Af (AU Al) vS C.J.us,Af Au vM C.J.map,Af Au vC C.J.comb,Af Au vR C.J.red,Af (AN .i64) vK C.J.marks] (fun v Bs=>v=.bool (decide (Dm C))∧Bs=[]):=by
 intro w0 F0 H
 obtain ⟨A1,c2,rfl,hc3,hm4,hp5⟩:=H.fR 0 rfl
 obtain ⟨A6,c7,rfl,hc8,hm9,hp10⟩:=H.fR 1 rfl
 obtain ⟨A11,c12,rfl,hc13,hm14,hp15⟩:=H.fR 2 rfl
 obtain ⟨A16,c17,rfl,hc18,hm19,hp20⟩:=H.fR 3 rfl
 obtain ⟨A21,c22,rfl,hc23,hm24,hp25⟩:=H.fR 4 rfl
 refine enter Tryz.func99 U U (Nat.le_of_ble_eq_true U) (Z (Ac (B4 U U U U H (fun b26 w H=>(Ab U (Aa (Y (Z (Ac (V U U (Ah U CP U) (V U U (Bp (cs:=[.slice A1 C.J.us.length c2,.int .i64 C.J.parts,.slice A6 C.J.map.length c7,.slice A11 C.J.comb.length c12,.slice A16 C.J.red.length c17,.int .i64 C.J.chunk,.int .i64 C.J.window,.int .i64 C.J.fuel,.slice A21 C.J.marks.length c22]) U Gc U U (H.cellsI 0 U U)) (sc (QW (.slice A1 C.J.us.length c2) (.slice A6 C.J.map.length c7) (.slice A11 C.J.comb.length c12) (.slice A16 C.J.red.length c17) (.slice A21 C.J.marks.length c22) C.J) H (lR 0 U (lR 1 U (lR 2 U (lR 3 U (lR 4 U l0))))) U U (At Pk U U) ?_))))))))))))
 rintro _ _ w ⟨rfl,rfl⟩ H
 refine Ab U ?_
 refine AD (d:=6) U (fun h27=>?_) (fun h27=>?_)
 ·refine V U U (Ah U OB U) (V U U (Aj U Aw U (H.cellI 0 U U)) (sc (Gv C.w 1 4) H l0 U U (At Gr U U) ?_))
  rintro _ _ w ⟨rfl,rfl⟩ H
  refine Ad 2 U ?_
  refine AD (d:=11) U (fun h28=>?_) (fun h28=>?_)
  ·refine V U U (Ah U HK U) (V U U (Aj U Aw U (H.cellI 0 U U)) (sc (Gv C.t 1 3) H l0 U U (At Gr U U) ?_))
   rintro _ _ w ⟨rfl,rfl⟩ H
   refine Ad 2 U ?_
   refine AD (d:=16) U (fun h29=>?_) (fun h29=>?_)
   ·refine V U U (Ah U OC U) (V U U (Aj U Aw U (H.cellI 0 U U)) (sc (Gv C.o 1 50) H l0 U U (At Gr U U) ?_))
    rintro _ _ w ⟨rfl,rfl⟩ H
    refine Ad 2 U (Aa (Y (Ai (Am U U ?_))))
    replace H:=H.nil
    have e:(1≤C.o∧C.o≤50)↔Dm C:=⟨fun g=>⟨h27,by omega,by omega,by omega⟩,fun g=>by have g2:=g.2;omega⟩
    exact Ag ⟨congrArg Value.bool (decide_eq_decide.2 e),rfl⟩ H
   refine Ad 5 U (Aa (Y (Ai (Am U U ?_))))
   replace H:=H.nil
   have e:¬ Dm C:=fun h=>by have h1:=h.1;have h2:=h.2;first |exact absurd h1 h27|omega
   exact Ag ⟨congrArg Value.bool (decide_eq_false e).symm,rfl⟩ H
  refine Ad 10 U (Aa (Y (Ai (Am U U ?_))))
  replace H:=H.nil
  have e:¬ Dm C:=fun h=>by have h1:=h.1;have h2:=h.2;first |exact absurd h1 h27|omega
  exact Ag ⟨congrArg Value.bool (decide_eq_false e).symm,rfl⟩ H
 refine Ad 12 U (Ad 3 U (Aa (Y (Ai (Am U U ?_)))))
 replace H:=H.nil
 have e:¬ Dm C:=fun h=>by have h1:=h.1;have h2:=h.2;first |exact absurd h1 h27|omega
 exact Ag ⟨congrArg Value.bool (decide_eq_false e).symm,rfl⟩ H
theorem Yj (key:ByteArray) (hb0:key.size≤9223372036854775807):
    Cn Tryz.prog 240 [.string key] [] [] (fun v Bs=>v=.int .u32 (CU key key.size)∧Bs=[]):=by
 intro w0 F0 H
 refine enter Tryz.func240 U U (Nat.le_of_ble_eq_true U) (Z (Ac (Ab U (Aa (Y (Z (Ac (Ab U (Aa (Y (Z (Z (Ac (Ab U (Aa (Y (AK (Br (σ:=Nat) (fun k=>[(0,.string key),(2,.int .u32 0),(3,.int .u32 (CU key k)),(4,.int .i64 ((k:Nat):Int))]) (fun k w=>(Hd w0 F0 w [] [])∧(k≤key.size)) (fun k=>key.size - k) 0 ⟨rfl,rfl,rfl,rfl,trivial⟩ ⟨H,by (try dsimp only);omega⟩ ?_))))))))))))))))))
 rintro k w ⟨H,hk⟩
 refine Z (Z (Ac (Ad 2 U (V U U (Cl U BJ U) (V U U (AQ U U U) (Aa (Y ?_)))))))
 refine Aq U (fun h1=>?_) (fun h1=>?_)
 ·refine Av (Y (Z (AK (Ac (Ab U (V U U (Fs (z:=IntKind.u32.wrap (CU key k*31)) U U U U) (Ad 2 U ?_)))))))
  obtain ⟨b,hb⟩:∃ b,key[k]?=some b:=⟨_,getElem?_pos key k (by omega)⟩
  exact V U U (E8 U BJ U U (by omega) hb) (V U U (CW (z:=((b).toNat:Int)) U U Ge KG (Sn b)) (V U U (AP (z:=IntKind.u32.wrap (IntKind.u32.wrap (CU key k*31)+(b.toNat:Int))) U U U U) (Ab U (Aa (AS (Y (Ac (Ab U (V U U (AP (z:=((k+1:Nat):Int)) U U U (by rw [Ay (by omega) (by omega)];omega)) (Ab U (Aa (Bb (s:=k) (k+1) ⟨rfl,rfl,congrArg (fun z=>some (Value.int .u32 z)) ((congrArg (fun z=>IntKind.u32.wrap (IntKind.u32.wrap z+(b.toNat:Int))) (Int.mul_comm _ _)).trans (Qh hb).symm),rfl,trivial⟩ ⟨H,by (try dsimp only);omega⟩ (by (try dsimp only);omega)))))))))))))
 refine Bj (AE (AE (Bk (Y (Z (Ac (Ad 2 U (Aa (Y (Ai (Am U U ?_)))))))))))
 obtain rfl:k=key.size:=by omega
 exact Ag ⟨rfl,rfl⟩ H
theorem Ym (key:ByteArray) (n:Int) (hb0:key.size≤9223372036854775807) (hn:n≤9223372036854775807):
    Cn Tryz.prog 202 [.string key,.int .i64 n] [] [] (fun v Bs=>v=.int .i64 (H0 key n)∧Bs=[]):=by
 intro w0 F0 H
 refine enter Tryz.func202 U U (Nat.le_of_ble_eq_true U) (Z (Ac (Ab U (Aa (Y (Z (Z (Ac (Ab U (V U U (AQ U U U) (Aa (Y ?_))))))))))))
 refine Aq U (fun h1=>?_) (fun h1=>?_)
 ·exact Z (Ac (Ab U (Aa (Y (Ai (Ao (Am U U (Ag ⟨congrArg (Value.int .i64) (if_pos h1).symm,rfl⟩ H))))))))
 refine Av (Y (Z (Ac (Ab U (sc (Yj key (by first |omega|decide)) H l0 U U (At VB U U) ?_)))))
 rintro _ _ w ⟨rfl,rfl⟩ H
 exact V U U (CW (z:=CU key key.size) U U KG Fv (D5 (HV key key.size).1 (by have:=(HV key key.size).2;omega))) (Ab U (V U U (CW (z:=n) U U Dl Fv (D5 (by omega) (by omega))) (V U U (IQ (z:=(CU key key.size)%n) U U U (by omega) (Int.tmod_eq_emod_of_nonneg (HV key key.size).1)) (V U U (CW (z:=(CU key key.size)%n) U U Fv Dl (Ay (by have:=Int.emod_nonneg (CU key key.size) (show n≠0 by omega);omega) (by have:=Int.emod_lt_of_pos (CU key key.size) (show 0<n by omega);omega))) (Ab U (Aa (Y (Ai (Am U U (Ag ⟨congrArg (Value.int .i64) (if_neg h1).symm,rfl⟩ H))))))))))
theorem Yl (vxs:Value) (xs:List An) (n:Int) (p:Int) (hb:xs.length≤1000000) (hn:n≤9223372036854775807) (hk:∀ x∈xs,x.key.size≤9223372036854775807):
    Cn Tryz.prog 165 [vxs,.int .i64 n,.int .i64 p] [] [Af Al vxs xs] (fun v Bs=>Bs=[Ae Al v (EA xs n p)]):=by
 intro w0 F0 H
 obtain ⟨A1,c2,rfl,hc3,hm4,hp5⟩:=H.fR 0 rfl
 refine enter Tryz.func165 U U (Nat.le_of_ble_eq_true U) (Z (Ac (Ab U (Aa (Y (Z (Ac (Ab U (Aa (Y (Z (Z (Ac (Ab U (Aa (Y (AK ?_)))))))))))))))))
 replace H:=H.newnil Al
 refine Br (σ:=Nat×Value) (fun (k,l)=>[(0,.slice A1 xs.length c2),(1,.int .i64 n),(2,.int .i64 p),(6,.slice none 0 0),(7,l),(8,.int .i64 ((k:Nat):Int))]) (fun (k,l) w=>(Hd w0 F0 w [Ae Al l (EA (xs.take k) n p)] [Af Al (.slice A1 xs.length c2) xs])∧(k≤xs.length)) (fun (k,l)=>xs.length - k) (0,.slice none 0 0) ⟨rfl,rfl,rfl,rfl,rfl,rfl,trivial⟩ ⟨H,by (try dsimp only);omega⟩ ?_
 rintro ⟨k,l⟩ w ⟨H,hk0⟩
 have hjl:=My (xs.take k) n p
 have hjt:(xs.take k).length≤xs.length:=by simp;omega
 refine Z (Z (Ac (Ad 2 U (V U U (AO U B_ U) (V U U (AQ U U U) (Aa (Y ?_)))))))
 refine Aq U (fun h6=>?_) (fun h6=>?_)
 ·refine Av (Y (Z (AK (Z ?_))))
  obtain ⟨x7,hx8⟩:∃ z9,xs[k]?=some z9:=⟨_,List.getElem?_eq_getElem (show k<xs.length by omega)⟩
  have hkx:=hk _ (Bl hx8)
  refine Ac (Ad 2 U ?_)
  have th9:=H.thR 0 rfl hx8
  refine V U U (AG (p:=AA A1+k*2) U Bq U U (by omega) (by omega) th9 U) (V U U (Ah U DO U) (V U U (Aj U Bd U (H.elR 0 U hx8 (q:=0) U U)) (Ab U (sc (Ym x7.key n (by first |omega|decide) (by first |omega|decide)) H l0 U U (At Vp U U) ?_))))
  rintro _ _ w ⟨rfl,rfl⟩ H
  refine Ab U (V U U (AT U U U) (Aa (Y ?_)))
  refine Aq U (fun h10=>?_) (fun h10=>?_)
  ·refine Ac (Ad 3 U ?_)
   have th11:=H.thR 0 rfl hx8
   refine V U U (AG (p:=AA A1+k*2) U Bq U U (by omega) (by omega) th11 U) (V U U (Bp (cs:=[.string x7.key,.string x7.val]) U B8 U U (H.elsR 0 U hx8 U)) (Bv (parts:=[(0,.tmp 28)]) (vs:=[.agg #[.string x7.key,.string x7.val]]) (cs:=[.string x7.key,.string x7.val]) U U U Bq CJ U (by decide) (by decide) U U H (fun b12 w H=>?_)))
   replace H:=H.p1
   refine BY (xs:=EA (xs.take k) n p) (ys:=[x7]) U U U Bq CJ U (by decide) U U H (by omega) (fun F hA hR=>BZ (hA _ (List.mem_of_getElem? (i:=0) U)) U (by decide) (AX.flat_eq.2 U)) (fun v13 w H=>(Ab U (Aa (AS (Y (Ac (Ab U (V U U (AP (z:=((k+1:Nat):Int)) U U U (by rw [Ay (by omega) (by omega)];omega)) (Ab U (Aa ?_))))))))))
   rw [←Qs hx8 h10] at H
   replace H:=H.k1
   exact Bb (s:=(k,undef)) (k+1,v13) ⟨rfl,rfl,rfl,rfl,rfl,rfl,trivial⟩ ⟨H,by (try dsimp only);omega⟩ (by (try dsimp only);omega)
  refine Av (AS (Y (Ac (Ab U (V U U (AP (z:=((k+1:Nat):Int)) U U U (by rw [Ay (by omega) (by omega)];omega)) (Ab U (Aa ?_)))))))
  rw [←Qr hx8 h10] at H
  exact Bb (s:=(k,undef)) (k+1,l) ⟨rfl,rfl,rfl,rfl,rfl,rfl,trivial⟩ ⟨H,by (try dsimp only);omega⟩ (by (try dsimp only);omega)
 refine Bj (AE (AE (Bk (Y (Z (Ac (Ad 2 U (Aa (Y (Ai (Am U U ?_)))))))))))
 rw [List.take_of_length_le (show xs.length≤k by omega)] at H
 exact Ag U H
theorem Ya (vp:Value) (p:List Bm) (vps:Value) (ps:List An) (fuel:Int) (hpa:∀ i∈p,AF i.a) (hfu:AF fuel) (hb:ps.length≤1000000):
    Cn Tryz.prog 164 [vp,vps,.int .i64 fuel] [] [Af Au vp p,Af Al vps ps] (fun v Bs=>∃ u:Value,v=.tuple #[u,.int .i64 ((Eu dg p ps fuel).2)]∧Bs=[Ae Al u ((Eu dg p ps fuel).1)]):=by
 intro w0 F0 H
 obtain ⟨A1,c2,rfl,hc3,hm4,hp5⟩:=H.fR 0 rfl
 obtain ⟨A6,c7,rfl,hc8,hm9,hp10⟩:=H.fR 1 rfl
 refine enter Tryz.func164 U U (Nat.le_of_ble_eq_true U) (Z (Ac (Ad 2 U (Aa (Y (Z (Z (Ac (Ab U (V U U (AO U DX U) (V U U (AT U U U) (Aa (Y ?_)))))))))))))
 refine Aq U (fun h11=>?_) (fun h11=>?_)
 ·refine Z (Ac (Ab U (sc (Yt (.slice A6 ps.length c7) ps (by first |omega|decide|assumption)) H (lR 1 U l0) U U (At Vn U U) ?_)))
  rintro v12 _ w rfl H
  refine Ad 2 U (Aa (Y (Ai (Ao (Bg U U U ?_)))))
  have e:Eu dg p ps fuel=(srt ps,0):=if_pos (by omega)
  exact Ag ⟨v12,by rw [e]<;>rfl,by rw [e]<;>rfl⟩ H
 refine Av (Y (Z (Ac (Ad 3 U (sc (Ye (.slice A1 p.length c2) p (.slice A6 ps.length c7) ps fuel true (by first |exact hpa|exact JM|assumption) (by first |assumption|(unfold AF;omega)) (by first |omega|(simp only [Ky];omega))) H (lR 0 U (lR 1 U l0)) U U (At Vo U U) ?_)))))
 rintro _ _ w ⟨u13,rfl,rfl⟩ H
 refine Ad 4 U (Aa (Y (Ai (Bg U U U ?_))))
 have e:Eu dg p ps fuel=DC dg p ps fuel true:=if_neg (by omega)
 exact Ag ⟨u13,by rw [e]<;>rfl,by rw [e]<;>rfl⟩ H
theorem Q0 (vS:Value) (vM:Value) (vC:Value) (vR:Value) (vK:Value) (J:AR) (s:Nat) (hJ:B3 J) (hs:s<J.us.length):
    Cn Tryz.prog 100 [.agg #[vS,.int .i64 J.parts,vM,vC,vR,.int .i64 J.chunk,.int .i64 J.window,.int .i64 J.fuel,vK],.int .i64 ((s:Nat):Int)] [] [Af (AU Al) vS J.us,Af Au vM J.map,Af Au vC J.comb,Af Au vR J.red,Af (AN .i64) vK J.marks] (fun v Bs=>∃ u:Value,v=.tuple #[u,.int .i64 ((AB dg J s).2)]∧Bs=[Ae Al u ((AB dg J s).1)]):=by
 intro w0 F0 H
 obtain ⟨A1,c2,rfl,hc3,hm4,hp5⟩:=H.fR 0 rfl
 obtain ⟨A6,c7,rfl,hc8,hm9,hp10⟩:=H.fR 1 rfl
 obtain ⟨A11,c12,rfl,hc13,hm14,hp15⟩:=H.fR 2 rfl
 obtain ⟨A16,c17,rfl,hc18,hm19,hp20⟩:=H.fR 3 rfl
 obtain ⟨A21,c22,rfl,hc23,hm24,hp25⟩:=H.fR 4 rfl
 have hus:=hJ.us
 have hfu:=hJ.fuel
 refine enter Tryz.func100 U U (Nat.le_of_ble_eq_true U) (Z (Ac (B4 U U U U H (fun b26 w H=>(Ad 2 U (Aa (Y (Z (Z (Ac (V U U (Bp (cs:=[.slice A1 J.us.length c2,.int .i64 J.parts,.slice A6 J.map.length c7,.slice A11 J.comb.length c12,.slice A16 J.red.length c17,.int .i64 J.chunk,.int .i64 J.window,.int .i64 J.fuel,.slice A21 J.marks.length c22]) U Gc U U (H.cellsI 0 U U)) (sc (QW (.slice A1 J.us.length c2) (.slice A6 J.map.length c7) (.slice A11 J.comb.length c12) (.slice A16 J.red.length c17) (.slice A21 J.marks.length c22) J) H (lR 0 U (lR 1 U (lR 2 U (lR 3 U (lR 4 U l0))))) U U (At Pk U U) ?_))))))))))))
 rintro _ _ w ⟨rfl,rfl⟩ H
 refine V U U (CX U U) (Ab U ?_)
 refine AD (d:=13) U (fun h27=>?_) (fun h27=>?_)
 ·exact (h27 hJ.may).elim
 refine Ab U (V U U (AQ U U U) (Ad 2 U ?_))
 refine AD (d:=17) U (fun h28=>?_) (fun h28=>?_)
 ·exfalso;omega
 refine Ab U (V U U (Ah U C4 U) (V U U (Aj U CM U (H.cellI 0 U U)) (V U U (AO U D4 U) (V U U (BN U U U) (Ab U (Aa (Y ?_)))))))
 refine Aq U (fun h29=>?_) (fun h29=>?_)
 ·exfalso;omega
 refine Av (Y (Z (Ac (Ab U (Aa (Y (Z (Z (Ac (Ab U (Aa (Y (AK ?_)))))))))))))
 obtain ⟨⟨u32,x30⟩,hx31⟩:∃ z9,J.us[s]?=some z9:=⟨_,List.getElem?_eq_getElem (show s<J.us.length by omega)⟩
 obtain ⟨A33,c34,rfl,hc35,hm36⟩:=H.nestR 0 rfl hx31
 have hrec:=Rb hx31
 have hrl:x30.length≤8:=(hJ.split _ (Bl hx31)).1
 replace H:=H.addR (R:=Af Al (.slice A33 x30.length c34) x30) fun _ h=>GP (h _ (List.mem_of_getElem? (i:=0) rfl)) hx31
 replace H:=H.newnil Al
 refine Br (σ:=Nat×Value×List An) (fun (i,q,out)=>[(1,.int .i64 ((s:Nat):Int)),(2,.pointer (some ⟨b26,0,none⟩)),(6,q),(7,.int .i64 ((i:Nat):Int))]) (fun (i,q,out) w=>(Hd w0 F0 w [Ae Al q out,blk b26 [.slice A1 J.us.length c2,.int .i64 J.parts,.slice A6 J.map.length c7,.slice A11 J.comb.length c12,.slice A16 J.red.length c17,.int .i64 J.chunk,.int .i64 J.window,.int .i64 J.fuel,.slice A21 J.marks.length c22] 26] [Af Al (.slice A33 x30.length c34) x30,Af (AU Al) (.slice A1 J.us.length c2) J.us,Af Au (.slice A6 J.map.length c7) J.map,Af Au (.slice A11 J.comb.length c12) J.comb,Af Au (.slice A16 J.red.length c17) J.red,Af (AN .i64) (.slice A21 J.marks.length c22) J.marks])∧(i≤x30.length)∧(Ef dg J.map J.fuel (x30.drop i) out=Ef dg J.map J.fuel x30 [])∧(out.length≤40)) (fun (i,q,out)=>x30.length - i) (0,.slice none 0 0,[]) ⟨rfl,rfl,rfl,rfl,trivial⟩ ⟨H,Nat.zero_le _,rfl,Nat.zero_le _⟩ ?_
 rintro ⟨i,q,out⟩ w ⟨H,hi,hgo,ho⟩
 refine Z (Z (Ac (Ab U (V U U (Ah U C4 U) (V U U (Aj U CM U (H.cellI 1 U U)) (Ab U ?_))))))
 have th37:=H.thRd 1 rfl hx31
 refine V U U (AG (p:=AA A1+s*1) U Ei U U (by omega) (by omega) th37 U) (V U U (Aj U Db U (H.elRd 1 U hx31 U)) (V U U (AO U B_ U) (V U U (AQ U U U) (Aa (Y ?_)))))
 refine Aq U (fun h38=>?_) (fun h38=>?_)
 ·refine Av (Y (Z (AK (Z (BD (.e 0 (.e 1 (.e 2 (.e 3 (.e 4 (.e 5 (.e 6 (.e 7 (.e 8 (.e 9 (.e 10 (.e 11 (.e 12 (.e 13 (.e 14 (.e 15 (.e 16 (.e 17 (.e 18 (.e 19 (.e 21 (.e 22 (.m 20 (.m 23 (.e 24 (.e 25 (.e 26 (.e 27 (.e 28 .z))))))))))))))))))))))))))))) (fun w=>∃ Ar,Hd w0 F0 w (Ae Al q out::blk b26 [.slice A1 J.us.length c2,.int .i64 J.parts,.slice A6 J.map.length c7,.slice A11 J.comb.length c12,.slice A16 J.red.length c17,.int .i64 J.chunk,.int .i64 J.window,.int .i64 J.fuel,.slice A21 J.marks.length c22] 26::Ar) [Af Al (.slice A33 x30.length c34) x30,Af (AU Al) (.slice A1 J.us.length c2) J.us,Af Au (.slice A6 J.map.length c7) J.map,Af Au (.slice A11 J.comb.length c12) J.comb,Af Au (.slice A16 J.red.length c17) J.red,Af (AN .i64) (.slice A21 J.marks.length c22) J.marks]) mo (by kernel_rfl) (fun w H=>⟨_,H⟩) H (fun w H=>(Ak U U U (fun w ⟨Ar,H⟩=>Ah U Gn U) (Ak U U U (fun w ⟨Ar,H⟩=>Aj U Dk U (H.cellI 1 U U)) (Ak U U U (fun w ⟨Ar,H⟩=>Ah U C4 U) (Ak U U U (fun w ⟨Ar,H⟩=>Aj U CM U (H.cellI 1 U U)) (Ap U ?_)))))))))))
  have th39:=H.thRd 1 rfl hx31
  refine Ak U U U (fun w ⟨Ar,H⟩=>AG (p:=AA A1+s*1) U Ei U U (by omega) (by omega) th39 U) (Ak U U U (fun w ⟨Ar,H⟩=>Aj U Db U (H.elRd 1 U hx31 U)) (Ap U ?_))
  obtain ⟨x40,hx41⟩:∃ z9,x30[i]?=some z9:=⟨_,List.getElem?_eq_getElem (show i<x30.length by omega)⟩
  have th42:=H.thR 0 rfl hx41
  refine Ak U U U (fun w ⟨Ar,H⟩=>AG (p:=AA A33+i*2) U Bq U U (by omega) (by omega) th42 U) (Ak U U U (fun w ⟨Ar,H⟩=>Ah U DO U) (Ak U U U (fun w ⟨Ar,H⟩=>Aj U Bd U (H.elR 0 U hx41 (q:=0) U U)) (Ak U U U (fun w ⟨Ar,H⟩=>Ah U C4 U) (Ak U U U (fun w ⟨Ar,H⟩=>Aj U CM U (H.cellI 1 U U)) (Ap U ?_)))))
  have th43:=H.thRd 1 rfl hx31
  refine Ak U U U (fun w ⟨Ar,H⟩=>AG (p:=AA A1+s*1) U Ei U U (by omega) (by omega) th43 U) (Ak U U U (fun w ⟨Ar,H⟩=>Aj U Db U (H.elRd 1 U hx31 U)) (Ap U ?_))
  have th44:=H.thR 0 rfl hx41
  refine Ak U U U (fun w ⟨Ar,H⟩=>AG (p:=AA A33+i*2) U Bq U U (by omega) (by omega) th44 U) (Ak U U U (fun w ⟨Ar,H⟩=>Ah U Gm U) (Ak U U U (fun w ⟨Ar,H⟩=>Aj U Bd U (H.elR 0 U hx41 (q:=1) U U)) (Ak U U U (fun w ⟨Ar,H⟩=>Ah U HI U) (Ak U U U (fun w ⟨Ar,H⟩=>Aj U Aw U (H.cellI 1 U U)) (AL U (Bv (parts:=[(0,.tmp 54)]) (vs:=[.string x40.val]) (cs:=[.string x40.val]) U U U Ck Dc U (by decide) (by decide) U U H (fun b45 w H=>?_)))))))
  replace H:=H.p2|>.p2
  refine AH ⟨_,H⟩ (AL U (sc (QY (.slice A6 J.map.length c7) J.map x40.key (.slice (some ⟨b45,0,none⟩) 1 1) [x40.val] J.fuel hJ.map hJ.f64) H (lR 2 U (lA 2 U (fun F h=>BZ h rfl (by decide) (AX.flat_eq.2 U)) l0)) U U (At Pl U U) ?_))
  rintro _ _ w ⟨u46,rfl,rfl⟩ H
  have hrt:=Kq dg J.map x40.key [x40.val] J.fuel
  replace H:=H.p2.p2
  refine AH ⟨_,H⟩ (Ap U (Ap U (Ap U (Ap U (Ap U (Bx (Y (Z (Z (Ac (Ab U (V U U (CL U U U) (Aa (Y ?_))))))))))))))
  refine Aq U (fun h47=>?_) (fun h47=>?_)
  ·refine Z (Ac (Ad 3 U (Aa (Y (Ai (Ao (Ax (Ao (Ao (Ax (Ao (Bg U U U ?_))))))))))))
   have em:mapM dg J s=([],(A_ dg J.map x40.key [x40.val] J.fuel).2):=by unfold mapM;rw [hrec];exact hgo.symm.trans (P9 hx41 h47)
   have e:AB dg J s=([],(A_ dg J.map x40.key [x40.val] J.fuel).2):=by unfold AB;rw [em];exact if_pos h47
   replace H:=H.newnil Al|>.k1|>.dropR
   exact Ag ⟨(.slice none 0 0),by rw [e]<;>rfl,by rw [e]<;>rfl⟩ H
  refine Av (Y (Z (Z (Ac (Ab U ?_)))))
  obtain ⟨A48,c49,rfl,hc50,hm51,hp52⟩:=H.fA 0 rfl
  refine V U U (AO U B_ U) (Ab U ?_)
  obtain ⟨A53,c54,rfl,hc55,hm56,hp57⟩:=H.fA 2 rfl
  refine V U U (AO U B_ U) (V U U (AP (z:=((out.length+((A_ dg J.map x40.key [x40.val] J.fuel).1).length:Nat):Int)) U U U (by rw [Ay (by omega) (by omega)];omega)) (V U U (BP U U U) (Aa (Y ?_))))
  refine Aq U (fun h58=>?_) (fun h58=>?_)
  ·refine Z (Ac (Ad 2 U (Aa (Y (Ai (Ao (Ax (Ao (Ao (Ax (Ao (Bg U U U ?_))))))))))))
   have hap:(out++(A_ dg J.map x40.key [x40.val] J.fuel).1).length=out.length+(A_ dg J.map x40.key [x40.val] J.fuel).1.length:=List.length_append
   have em:mapM dg J s=([],5):=by unfold mapM;rw [hrec];exact hgo.symm.trans (P6 hx41 h47 (by omega))
   have e:AB dg J s=([],5):=by unfold AB;rw [em];exact if_pos (show (5:Int)≠0 by decide)
   replace H:=H.newnil Al|>.k1|>.dropR
   exact Ag ⟨(.slice none 0 0),by rw [e]<;>rfl,by rw [e]<;>rfl⟩ H
  refine Av (Y (Ac (Ad 2 U (BY (xs:=out) (ys:=(A_ dg J.map x40.key [x40.val] J.fuel).1) U U U Bq CJ U (by decide) U U H (by first |omega|(rw [List.length_append];omega)) (fun F hA hR=>BI F (hA _ (List.mem_of_getElem? (i:=1) U))) (fun v59 w H=>(Ab U (Aa (AS (Y (Ac (Ab U (V U U (AP (z:=((i+1:Nat):Int)) U U U (by rw [Ay (by omega) (by omega)];omega)) (Ab U (Aa ?_))))))))))))))
  replace H:=H.k2
  have hap:(out++(A_ dg J.map x40.key [x40.val] J.fuel).1).length=out.length+(A_ dg J.map x40.key [x40.val] J.fuel).1.length:=List.length_append
  have hl2:(out++(A_ dg J.map x40.key [x40.val] J.fuel).1).length≤40:=by omega
  have hg2:=(P7 (out:=out) hx41 h47 (by omega)).trans hgo
  exact Bb (s:=(i,undef,out)) (i+1,v59,out++(A_ dg J.map x40.key [x40.val] J.fuel).1) ⟨rfl,rfl,rfl,rfl,trivial⟩ ⟨H,by (try dsimp only);omega,hg2,hl2⟩ (by (try dsimp only);omega)
 refine Bj (AE (AE (Bk (Y (Z ?_)))))
 have em:mapM dg J s=(out,0):=by unfold mapM;rw [hrec];exact hgo.symm.trans (P4 (by omega))
 refine Ac (V U U (Ah U GI U) (V U U (Aj U Dk U (H.cellI 1 U U)) (Ab U (V U U (Ah U HI U) (V U U (Aj U Aw U (H.cellI 1 U U)) (sc (Ya (.slice A11 J.comb.length c12) J.comb q out J.fuel hJ.comb hJ.f64 (by omega)) H (lR 3 U (lA 0 U BI l0)) U U (At Va U U) ?_))))))
 rintro _ _ w ⟨u60,rfl,rfl⟩ H
 refine Ad 4 U (Aa (Y (Ai (Bg U U U ?_))))
 have e:AB dg J s=Eu dg J.comb out J.fuel:=by unfold AB;rw [em];exact if_neg (fun g=>g rfl)
 replace H:=H.k1.dropR
 exact Ag ⟨u60,by rw [e]<;>rfl,by rw [e]<;>rfl⟩ H
theorem Yp (vS:Value) (vM:Value) (vC:Value) (vR:Value) (vK:Value) (J:AR) (s:Nat) (p:Int) (hJ:B3 J) (hs:s<J.us.length):
    Cn Tryz.prog 101 [.agg #[vS,.int .i64 J.parts,vM,vC,vR,.int .i64 J.chunk,.int .i64 J.window,.int .i64 J.fuel,vK],.int .i64 ((s:Nat):Int),.int .i64 p] [] [Af (AU Al) vS J.us,Af Au vM J.map,Af Au vC J.comb,Af Au vR J.red,Af (AN .i64) vK J.marks] (fun v Bs=>∃ u:Value,v=.tuple #[u,.int .i64 ((GS dg J s p).2)]∧Bs=[Ae Al u ((GS dg J s p).1)]):=by
 intro w0 F0 H
 obtain ⟨A1,c2,rfl,hc3,hm4,hp5⟩:=H.fR 0 rfl
 obtain ⟨A6,c7,rfl,hc8,hm9,hp10⟩:=H.fR 1 rfl
 obtain ⟨A11,c12,rfl,hc13,hm14,hp15⟩:=H.fR 2 rfl
 obtain ⟨A16,c17,rfl,hc18,hm19,hp20⟩:=H.fR 3 rfl
 obtain ⟨A21,c22,rfl,hc23,hm24,hp25⟩:=H.fR 4 rfl
 have hpt:=hJ.parts
 refine enter Tryz.func101 U U (Nat.le_of_ble_eq_true U) (Z (Ac (B4 U U U U H (fun b26 w H=>(Ad 2 U (Aa (Y (Z (Ac (V U U (Bp (cs:=[.slice A1 J.us.length c2,.int .i64 J.parts,.slice A6 J.map.length c7,.slice A11 J.comb.length c12,.slice A16 J.red.length c17,.int .i64 J.chunk,.int .i64 J.window,.int .i64 J.fuel,.slice A21 J.marks.length c22]) U Gc U U (H.cellsI 0 U U)) (Ab U (sc (Q0 (.slice A1 J.us.length c2) (.slice A6 J.map.length c7) (.slice A11 J.comb.length c12) (.slice A16 J.red.length c17) (.slice A21 J.marks.length c22) J s (by first |omega|decide|assumption) (by first |omega|decide|assumption)) H (lR 0 U (lR 1 U (lR 2 U (lR 3 U (lR 4 U l0))))) U U (At Pe U U) ?_))))))))))))
 rintro _ _ w ⟨u27,rfl,rfl⟩ H
 refine Ad 5 U (Aa (Y (Z (Z (Ac (Ab U (V U U (CL U U U) (Aa (Y ?_)))))))))
 refine Aq U (fun h28=>?_) (fun h28=>?_)
 ·refine Z (Ac (Ad 3 U (Aa (Y (Ai (Ao (Bg U U U ?_)))))))
  have e:GS dg J s p=([],(AB dg J s).2):=if_pos h28
  replace H:=H.newnil Al|>.k1
  exact Ag ⟨(.slice none 0 0),by rw [e]<;>rfl,by rw [e]<;>rfl⟩ H
 refine Av (Y (Z (Ac (Ab U (V U U (Ah U G9 U) (V U U (Aj U Aw U (H.cellI 1 U U)) (Ab U ?_)))))))
 have hsl:=Hl dg J s
 have hsk:∀ x∈(AB dg J s).1,x.key.size≤9223372036854775807:=fun x hx=>by have:=(Id Gu hJ s x hx).1;omega
 refine sc (Yl u27 ((AB dg J s).1) J.parts p (by omega) (by omega) hsk) H (lA 0 U BI l0) U U (At Vb U U) ?_
 rintro u29 _ w rfl H
 refine Ad 2 U (Aa (Y (Ai (Bg U U U ?_))))
 have e:GS dg J s p=(BE dg J s p,0):=if_neg h28
 replace H:=H.k1
 exact Ag ⟨u29,by rw [e]<;>rfl,by rw [e]<;>rfl⟩ H
theorem Tw (c:Int) (a:Int) (hc:1≤c∧c≤7):
    Cn Tryz.prog 168 [.int .i64 c,.int .i64 a] [] [] (fun v Bs=>v=.int .i64 (CA c a)∧Bs=[]):=by
 intro w0 F0 H
 refine enter Tryz.func168 U U (Nat.le_of_ble_eq_true U) (Z (Ac (Ab U (Aa (Y (Z (Z (Ac (Ab U (V U U (IQ (z:=a.tmod 2) U U U (by omega) U) (V U U (CL U U U) (Aa (Y ?_)))))))))))))
 refine Aq U (fun h1=>?_) (fun h1=>?_)
 ·exact Z (Ac (Ab U (V U U (AP (z:=c+1) U U U (Ay (by omega) (by omega))) (Ab U (Aa (Y (Ai (Ao (Am U U (Ag ⟨congrArg (Value.int .i64) (if_pos h1).symm,rfl⟩ H))))))))))
 exact Av (Y (Z (Ac (Ad 2 U (Aa (Y (Ai (Am U U (Ag ⟨congrArg (Value.int .i64) (if_neg h1).symm,rfl⟩ H)))))))))
theorem Lr (n:Int) (size:Int) (hn:0≤n∧n≤1000000):
    Cn Tryz.prog 105 [.int .i64 n,.int .i64 size] [] [] (fun v Bs=>v=.int .i64 (CK n size)∧Bs=[]):=by
 intro w0 F0 H
 refine enter Tryz.func105 U U (Nat.le_of_ble_eq_true U) (Z (Ac (Ab U (Aa (Y (Z (Z (Ac (Ab U (V U U (AQ U U U) (Ab U ?_)))))))))))
 refine AD (d:=7) U (fun h1=>?_) (fun h1=>?_)
 ·exact Ad 3 U (Aa (Y (BM U (Z (Ac (Ab U (Aa (Y (Ai (Ao (Am U U (Ag ⟨congrArg (Value.int .i64) (if_pos (by omega)).symm,rfl⟩ H))))))))))))
 refine Ab U (V U U (AQ U U U) (Ab U (Aa (Y ?_))))
 refine Aq U (fun h2=>?_) (fun h2=>?_)
 ·exact Z (Ac (Ab U (Aa (Y (Ai (Ao (Am U U (Ag ⟨congrArg (Value.int .i64) (if_pos (by omega)).symm,rfl⟩ H))))))))
 refine Av (Y (Z ?_))
 have htd:=R6 (n:=n - 1) (size:=size) (by omega) (by omega)
 exact Ac (Ab U (V U U (Cm (z:=n - 1) U U U (Ay (by omega) (by omega))) (Ab U (V U U (MO (z:=(n - 1).tdiv size) U U U (by omega) (Ay (by omega) (by omega))) (V U U (AP (z:=((n - 1).tdiv size)+1) U U U (Ay (by omega) (by omega))) (Ab U (Aa (Y (Ai (Am U U (Ag ⟨congrArg (Value.int .i64) (if_neg (by omega)).symm,rfl⟩ H)))))))))))
theorem Tu (vps:Value) (ps:List An) (size:Int) (q:Int) (hl:ps.length≤1000) (hs:1≤size∧size≤8):
    Cn Tryz.prog 113 [vps,.int .i64 size,.int .i64 q] [] [Af Al vps ps] (fun v Bs=>Bs=[Ae Al v (C9 ps size q)]):=by
 intro w0 F0 H
 obtain ⟨A1,c2,rfl,hc3,hm4,hp5⟩:=H.fR 0 rfl
 refine enter Tryz.func113 U U (Nat.le_of_ble_eq_true U) (Z (Ac (Ab U (Aa (Y (Z (Z (Ac (Ab U (V U U (AQ U U U) (Ab U ?_)))))))))))
 refine AD (d:=10) U (fun h6=>?_) (fun h6=>?_)
 ·refine Ad 7 U (Aa (Y (BM U (Z (Ac (Ab U (Aa (Y (Ai (Ao (Am U U ?_)))))))))))
  replace H:=H.newnil Al|>.tellK (ys:=C9 ps size q) (by rw [Jm (by omega)])|>.h1 (A:=Ae Al (.slice none 0 0) (C9 ps size q))
  exact Ag U H
 refine Ad 2 U (V U U (AO U B_ U) (Ab U (sc (Lr ((ps.length:Nat):Int) size (by first |assumption|omega|(simp only [List.length_take,List.length_drop];omega))) H l0 U U (At L7 U U) ?_)))
 rintro _ _ w ⟨rfl,rfl⟩ H
 refine V U U (BN U U U) (Ab U (Aa (Y ?_)))
 refine Aq U (fun h7=>?_) (fun h7=>?_)
 ·refine Z (Ac (Ab U (Aa (Y (Ai (Ao (Am U U ?_)))))))
  replace H:=H.newnil Al|>.tellK (ys:=C9 ps size q) (by rw [Jm (by omega)])|>.h1 (A:=Ae Al (.slice none 0 0) (C9 ps size q))
  exact Ag U H
 refine Av (Y (Z ?_))
 have hlo:=NR (n:=ps.length) (size:=size) (q:=q) (by omega) (by omega) hs.1
 obtain ⟨m,hm⟩:∃ m:Nat,q*size=(m:Int):=⟨(q*size).toNat,by omega⟩
 obtain ⟨k,hk⟩:∃ k:Nat,min size (((ps.length - m:Nat):Int))=(k:Int):=⟨(min size (((ps.length - m:Nat):Int))).toNat,by omega⟩
 refine Ac (Ad 3 U (V U U (Fs (z:=((m:Nat):Int)) U U U (by rw [hm];exact Ay (by omega) (by omega))) (V U U (H8 U Bq U U (by omega) (by omega) U) (Ab U (Aa (Y (Z (Ac (Ad 3 U (V U U (AO U B_ U) (V U U (Fr (z:=((k:Nat):Int)) U U U hk) (V U U (H7 U Bq U U (by omega) (by omega) U) (sc (Ll (.slice (EF A1 c2 m 2) k (c2 - m)) ((ps.drop m).take k) (by first |assumption|omega|(simp only [List.length_take,List.length_drop];omega))) H (lX (fun F hA hR=>Ko (hR _ (List.mem_of_getElem? (i:=0) U)) (i:=m) (m':=k) (by omega)) l0) U U (At L_ U U) ?_)))))))))))))
 rintro v8 _ w rfl H
 refine Ab U (Aa (Y (Ai (Am U U ?_))))
 replace H:=H.tellK (ys:=C9 ps size q) (by rw [Tv (by omega) (by omega) hs.1 hm hk])|>.h1 (A:=Ae Al v8 (C9 ps size q))
 exact Ag U H
theorem Yr (c:Int) (a:Int) (hc:1≤c∧c≤7):
    Cn Tryz.prog 166 [.int .i64 c,.int .i64 a] [] [] (fun v Bs=>v=.int .i64 (CA c a)∧Bs=[]):=by
 intro w0 F0 H
 refine enter Tryz.func166 U U (Nat.le_of_ble_eq_true U) (Z (Ac (Ab U (Aa (Y (Z (Z (Ac (Ab U (V U U (IQ (z:=a.tmod 2) U U U (by omega) U) (V U U (CL U U U) (Aa (Y ?_)))))))))))))
 refine Aq U (fun h1=>?_) (fun h1=>?_)
 ·exact Z (Ac (Ab U (V U U (AP (z:=c+1) U U U (Ay (by omega) (by omega))) (Ab U (Aa (Y (Ai (Ao (Am U U (Ag ⟨congrArg (Value.int .i64) (if_pos h1).symm,rfl⟩ H))))))))))
 exact Av (Y (Z (Ac (Ad 2 U (Aa (Y (Ai (Am U U (Ag ⟨congrArg (Value.int .i64) (if_neg h1).symm,rfl⟩ H)))))))))
theorem QR (n:Int) (size:Int) (hn:0≤n∧n≤1000000):
    Cn Tryz.prog 103 [.int .i64 n,.int .i64 size] [] [] (fun v Bs=>v=.int .i64 (CK n size)∧Bs=[]):=by
 intro w0 F0 H
 refine enter Tryz.func103 U U (Nat.le_of_ble_eq_true U) (Z (Ac (Ab U (Aa (Y (Z (Z (Ac (Ab U (V U U (AQ U U U) (Ab U ?_)))))))))))
 refine AD (d:=7) U (fun h1=>?_) (fun h1=>?_)
 ·exact Ad 3 U (Aa (Y (BM U (Z (Ac (Ab U (Aa (Y (Ai (Ao (Am U U (Ag ⟨congrArg (Value.int .i64) (if_pos (by omega)).symm,rfl⟩ H))))))))))))
 refine Ab U (V U U (AQ U U U) (Ab U (Aa (Y ?_))))
 refine Aq U (fun h2=>?_) (fun h2=>?_)
 ·exact Z (Ac (Ab U (Aa (Y (Ai (Ao (Am U U (Ag ⟨congrArg (Value.int .i64) (if_pos (by omega)).symm,rfl⟩ H))))))))
 refine Av (Y (Z ?_))
 have htd:=R6 (n:=n - 1) (size:=size) (by omega) (by omega)
 exact Ac (Ab U (V U U (Cm (z:=n - 1) U U U (Ay (by omega) (by omega))) (Ab U (V U U (MO (z:=(n - 1).tdiv size) U U U (by omega) (Ay (by omega) (by omega))) (V U U (AP (z:=((n - 1).tdiv size)+1) U U U (Ay (by omega) (by omega))) (Ab U (Aa (Y (Ai (Am U U (Ag ⟨congrArg (Value.int .i64) (if_neg (by omega)).symm,rfl⟩ H)))))))))))
theorem N1 {ps:List An} {size q:Int} {m z k:Nat} (hm:q*size=(m:Int)) (hz:size=(z:Int)) (h:¬ (q<0∨CK ps.length size≤q)) (hk:k=z∨k≤z∧m+k=ps.length):(ps.drop m).take k=C9 ps size q:=by
 unfold C9
 rw [if_neg h,hm,hz,Int.toNat_natCast,Int.toNat_natCast]
 rcases hk with rfl|⟨h1,h2⟩
 ·rfl
 ·rw [List.take_of_length_le (by rw [List.length_drop];omega),List.take_of_length_le (by rw [List.length_drop];omega)]
theorem X_ (vps:Value) (ps:List An) (size:Int) (q:Int) (hl:ps.length≤1000) (hs:1≤size∧size≤8):
    Cn Tryz.prog 114 [vps,.int .i64 size,.int .i64 q] [] [Af Al vps ps] (fun v Bs=>Bs=[Ae Al v (C9 ps size q)]):=by
 intro w0 F0 H
 obtain ⟨A1,c2,rfl,hc3,hm4,hp5⟩:=H.fR 0 rfl
 refine enter Tryz.func114 U U (Nat.le_of_ble_eq_true U) (Z (Ac (Ab U (Aa (Y (Z (Z (Ac (Ab U (V U U (AQ U U U) (Ab U ?_)))))))))))
 refine AD (d:=11) U (fun h6=>?_) (fun h6=>?_)
 ·refine Ad 7 U (Aa (Y (BM U (Z (Ac (Ab U (Aa (Y (Ai (Ao (Am U U ?_)))))))))))
  replace H:=H.newnil Al|>.tellK (ys:=C9 ps size q) (by rw [Jm (by omega)])|>.h1 (A:=Ae Al (.slice none 0 0) (C9 ps size q))
  exact Ag U H
 refine Ad 2 U (V U U (AO U B_ U) (Ab U (sc (QR ((ps.length:Nat):Int) size (by first |assumption|omega)) H l0 U U (At Pf U U) ?_)))
 rintro _ _ w ⟨rfl,rfl⟩ H
 refine V U U (BN U U U) (Ab U (Aa (Y ?_)))
 refine Aq U (fun h7=>?_) (fun h7=>?_)
 ·refine Z (Ac (Ab U (Aa (Y (Ai (Ao (Am U U ?_)))))))
  replace H:=H.newnil Al|>.tellK (ys:=C9 ps size q) (by rw [Jm (by omega)])|>.h1 (A:=Ae Al (.slice none 0 0) (C9 ps size q))
  exact Ag U H
 refine Av (Y (Z (Ac (Ab U (Aa (Y (Z (Z ?_))))))))
 have hlo:=NR (n:=ps.length) (size:=size) (q:=q) (by omega) (by omega) hs.1
 obtain ⟨m,hm⟩:∃ m:Nat,q*size=(m:Int):=⟨(q*size).toNat,by omega⟩
 obtain ⟨z,hz⟩:∃ z:Nat,size=(z:Int):=⟨size.toNat,by omega⟩
 refine Ac (Ad 2 U (V U U (Fs (z:=((m+0:Nat):Int)) U U U (by rw [hm];exact Ay (by omega) (by omega))) (Ab U (Aa (Y (AK ?_))))))
 replace H:=H.newnil Al
 refine Br (σ:=Nat×Value) (fun (k,l)=>[(0,.slice A1 ps.length c2),(1,.int .i64 size),(6,.slice none 0 0),(7,l),(8,.int .i64 ((m+k:Nat):Int))]) (fun (k,l) w=>(Hd w0 F0 w [Ae Al l ((ps.drop m).take k)] [Af Al (.slice A1 ps.length c2) ps])∧(k≤z∧m+k≤ps.length)) (fun (k,l)=>ps.length - k) (0,.slice none 0 0) ⟨rfl,rfl,rfl,rfl,rfl,trivial⟩ ⟨H,by (try dsimp only);omega⟩ ?_
 rintro ⟨k,l⟩ w ⟨H,hk⟩
 have hjt:((ps.drop m).take k).length=k:=by rw [List.length_take,List.length_drop];omega
 refine Z (Z (Ac (Ad 2 U (V U U (AO U B_ U) (V U U (AQ U U U) (Ab U ?_))))))
 refine AD (d:=26) U (fun h8=>?_) (fun h8=>?_)
 ·refine Ab U ?_
  obtain ⟨A9,c10,rfl,hc11,hm12,hp13⟩:=H.fA 0 rfl
  refine V U U (AO U B_ U) (Ab U (V U U (AQ U U U) (Ab U (Aa (Y ?_)))))
  refine Aq U (fun h14=>?_) (fun h14=>?_)
  ·refine Av (Y (Z (AK (Ac (Ad 3 U ?_)))))
   obtain ⟨x15,hx16⟩:∃ z9,ps[m+k]?=some z9:=⟨_,List.getElem?_eq_getElem (show m+k<ps.length by omega)⟩
   have th17:=H.thR 0 rfl hx16
   refine V U U (AG (p:=AA A1+(m+k)*2) U Bq U U (by omega) (by omega) th17 U) (V U U (Bp (cs:=[.string x15.key,.string x15.val]) U B8 U U (H.elsR 0 U hx16 U)) (Bv (parts:=[(0,.tmp 38)]) (vs:=[.agg #[.string x15.key,.string x15.val]]) (cs:=[.string x15.key,.string x15.val]) U U U Bq CJ U (by decide) (by decide) U U H (fun b18 w H=>?_)))
   replace H:=H.p1
   refine BY (xs:=(ps.drop m).take k) (ys:=[x15]) U U U Bq CJ U (by decide) U U H (by first |omega|(simp only [List.length_cons,List.length_nil];omega)) (fun F hA hR=>BZ (hA _ (List.mem_of_getElem? (i:=0) U)) U (by decide) (AX.flat_eq.2 U)) (fun v19 w H=>(Ab U (Aa (AS (Y (Ac (Ab U (V U U (AP (z:=((m+k+1:Nat):Int)) U U U (by rw [Ay (by omega) (by omega)];omega)) (Ab U (Aa ?_))))))))))
   replace H:=H.tellK (ys:=(ps.drop m).take (k+1)) (by exact DV (by rw [List.getElem?_drop];exact hx16))|>.k1
   exact Bb (s:=(k,undef)) (k+1,v19) ⟨rfl,rfl,rfl,rfl,rfl,trivial⟩ ⟨H,by (try dsimp only);omega⟩ (by (try dsimp only);omega)
  refine Bj (AE (AE (Bk (Y (Z (Ac (Ad 2 U (Aa (Y (Ai (Am U U ?_)))))))))))
  replace H:=H.tellK (ys:=C9 ps size q) (by exact (N1 (ps:=ps) (size:=size) (q:=q) hm hz (by omega) (by omega)).symm)|>.h1 (A:=Ae Al (.slice A9 (((ps.drop m).take k).length) c10) (C9 ps size q))
  exact Ag U H
 refine Ad 5 U (Aa (Y (B0 U (Bj (AE (AE (Bk (Y (Z (Ac (Ad 2 U (Aa (Y (Ai (Am U U ?_)))))))))))))))
 replace H:=H.tellK (ys:=C9 ps size q) (by exact (N1 (ps:=ps) (size:=size) (q:=q) hm hz (by omega) (by omega)).symm)|>.h1 (A:=Ae Al l (C9 ps size q))
 exact Ag U H
theorem QZ (b:Nat) (vS:Value) (vM:Value) (vC:Value) (vR:Value) (vK:Value) (C:Cf) (s:Nat) (att:Int) (why:Int) (vr:Value) (vw:Value) (hJ:B3 C.J):
    Cn Tryz.prog 104 [.pointer (some ⟨b,0,none⟩)] [] [blk b [vS,.int .i64 C.J.parts,vM,vC,vR,.int .i64 C.J.chunk,.int .i64 C.J.window,.int .i64 C.J.fuel,vK,.int .i64 C.w,.int .i64 C.t,.int .i64 C.o,.int .i64 ((s:Nat):Int),.int .i64 att,.int .i64 why,vr,vw] 58] (fun v Bs=>v=.int .i64 (CA C.J.chunk att)∧Bs=[]):=by
 intro w0 F0 H
 have hck:=hJ.chunk1
 refine enter Tryz.func104 U U (Nat.le_of_ble_eq_true U) (Z (Ac (Ab U (Aa (Y (Z (BD (.e 0 (.e 1 (.e 2 (.e 3 (.e 4 (.e 5 (.e 6 (.e 7 (.e 8 (.e 9 (.m 10 (.e 11 .z)))))))))))) (fun w=>∃ Ar,Hd w0 F0 w (Ar) [blk b [vS,.int .i64 C.J.parts,vM,vC,vR,.int .i64 C.J.chunk,.int .i64 C.J.window,.int .i64 C.J.fuel,vK,.int .i64 C.w,.int .i64 C.t,.int .i64 C.o,.int .i64 ((s:Nat):Int),.int .i64 att,.int .i64 why,vr,vw] 58]) mo (by kernel_rfl) (fun w H=>⟨_,H⟩) H (fun w H=>(Ap U (Ak U U U (fun w ⟨Ar,H⟩=>AI U U) (Ak U U U (fun w ⟨Ar,H⟩=>Ah U Uk U) (Ak U U U (fun w ⟨Ar,H⟩=>Ah U CP U) (Ak U U U (fun w ⟨Ar,H⟩=>Ah U JC U) (Ak U U U (fun w ⟨Ar,H⟩=>Aj U Aw U (H.cellRI 0 U U)) (Ap U (Ak U U U (fun w ⟨Ar,H⟩=>AI U U) (Ak U U U (fun w ⟨Ar,H⟩=>Ah U OG U) (Ak U U U (fun w ⟨Ar,H⟩=>Aj U Aw U (H.cellRI 0 U U)) (AL U (sc (Yr C.J.chunk att (by first |assumption|omega)) H l0 U U (At Vc U U) ?_))))))))))))))))))))
 rintro _ _ w ⟨rfl,rfl⟩ H
 exact AH ⟨_,H⟩ (Ap U (Bx (Y (Ai (Am U U (Ag ⟨rfl,rfl⟩ H))))))
theorem aX (c:Int) (s:Int) (h:0≤c∧c≤40∧1≤s∧s≤4):
    Cn Tryz.prog 98 [.int .i64 c,.int .i64 s] [] [] (fun v Bs=>∃ b,v=.tuple #[.pointer (some ⟨b,0,none⟩),.int .i64 0]∧Bs=[blk b [.int .i64 c,.int .i64 s,.int .i64 0,.int .i64 0] 239]):=by
 intro w0 F0 H
 refine enter Tryz.func98 U U (Nat.le_of_ble_eq_true U) (Z (Ac (Ad 2 U (Aa (Y (Z (Z (Ac (Ab U (V U U (AQ U U U) (Ab U ?_)))))))))))
 refine AD (d:=8) U (fun h1=>?_) (fun h1=>?_)
 ·exact absurd h1 (by omega)
 refine Ab U (V U U (BP U U U) (Ad 2 U ?_))
 refine AD (d:=12) U (fun h2=>?_) (fun h2=>?_)
 ·exact absurd h2 (by omega)
 refine Ab U (V U U (AQ U U U) (Ad 2 U ?_))
 refine AD (d:=16) U (fun h3=>?_) (fun h3=>?_)
 ·exact absurd h3 (by omega)
 refine Ab U (V U U (BP U U U) (Ab U (Aa (Y ?_))))
 refine Aq U (fun h4=>?_) (fun h4=>?_)
 ·exact absurd h4 (by omega)
 exact Av (Y (Z (Ac (Ad 2 U (V U U (CV (parts:=[(0,.tmp 20),(1,.tmp 21)]) (vs:=[.int .i64 c,.int .i64 s]) (cs:=[.int .i64 c,.int .i64 s,.int .i64 0,.int .i64 0]) U SC U U) (B4 U U U U H (fun b5 w H=>(Ad 2 U (Aa (Y (Ai (Bg U U U (Ag ⟨_,rfl,rfl⟩ H)))))))))))))
theorem aV (b:Nat) (c:Int) (s:Int) (e:Int) (x:Int) (ep:Int) (n:Int):
    Cn Tryz.prog 115 [.pointer (some ⟨b,0,none⟩),.int .i64 ep,.int .i64 n] [blk b [.int .i64 c,.int .i64 s,.int .i64 e,.int .i64 x] 239] [] (fun v Bs=>v=.bool (FX c e x ep n)∧Bs=[blk b [.int .i64 c,.int .i64 s,.int .i64 (G0 c e x ep n),.int .i64 (G3 c e x ep n)] 239]):=by
 intro w0 F0 H
 refine enter Tryz.func115 U U (Nat.le_of_ble_eq_true U) (Z (Ac (Ab U (Aa (Y (Z (Z (Ac (Ab U (V U U (Dh U Nj U U) (Ad 3 U (V U U (AI U U) (V U U (Ah U JB U) (V U U (Aj U Aw U (H.cellI 0 U U)) (V U U (Hi (z:=max e 1) U U U U) (V U U (AQ U U U) (Ab U (Aa (Y ?_)))))))))))))))))))
 refine Aq U (fun h1=>?_) (fun h1=>?_)
 ·refine Z (Ac (Ab U (Aa (Y (Ai (Ao (Am U U ?_)))))))
  obtain ⟨a1,a2,a3⟩:=Hz (c:=c) (e:=e) (x:=x) (ep:=ep) (n:=n) (by unfold En;omega)
  exact Ag ⟨by rw [a1]<;>rfl,by rw [a2,a3];first |done|rfl⟩ H
 refine Av (Y (Z (Ac (Ab U (V U U (Hi (z:=max n 0) U U U U) (Ab U (V U U (AI U U) (V U U (Ah U LQ U) (V U U (Aj U Aw U (H.cellI 0 U U)) (V U U (Fr (z:=min (max n 0) c) U U U U) (Ab U (Aa (Y (Z (Z (Ac (Ad 2 U (V U U (AI U U) (V U U (Ah U JB U) (V U U (Aj U Aw U (H.cellI 0 U U)) (V U U (AT U U U) (Ab U ?_))))))))))))))))))))))
 refine AD (d:=31) U (fun h2=>?_) (fun h2=>?_)
 ·refine Ad 2 U (V U U (AI U U) (V U U (Ah U HH U) (V U U (Aj U Aw U (H.cellI 0 U U)) (V U U (BX U U U) (Ab U (Aa (Y ?_)))))))
  refine Aq U (fun h3=>?_) (fun h3=>?_)
  ·refine Z (Ac (Ab U (Aa (Y (Ai (Ao (Am U U ?_)))))))
   obtain ⟨a1,a2,a3⟩:=Hz (c:=c) (e:=e) (x:=x) (ep:=ep) (n:=n) (by unfold En;omega)
   exact Ag ⟨by rw [a1]<;>rfl,by rw [a2,a3];first |done|rfl⟩ H
  refine Av (Y (Z (Ac (Ad 4 U (V U U (AI U U) (V U U (Ah U JB U) (By U U U Aw U U H U (Nat.le_of_ble_eq_true U) (fun u hu=>by simp [Value.cells] at hu;subst hu;rfl) (fun w H=>(V U U (AI U U) (V U U (Ah U HH U) (By U U U Aw U U H U (Nat.le_of_ble_eq_true U) (fun u hu=>by simp [Value.cells] at hu;subst hu;rfl) (fun w H=>(Aa (Y (Z (Ac (Ab U (Aa (Y (Ai (Am U U ?_)))))))))))))))))))))
  obtain ⟨a1,a2,a3⟩:=Im (c:=c) (e:=e) (x:=x) (ep:=ep) (n:=n) (by unfold En;omega)
  exact Ag ⟨by rw [a1]<;>rfl,by rw [a2,a3];first |done|rfl⟩ H
 refine Ad 7 U (Aa (Y (B0 U (Av (Y (Z (Ac (Ad 4 U (V U U (AI U U) (V U U (Ah U JB U) (By U U U Aw U U H U (Nat.le_of_ble_eq_true U) (fun u hu=>by simp [Value.cells] at hu;subst hu;rfl) (fun w H=>(V U U (AI U U) (V U U (Ah U HH U) (By U U U Aw U U H U (Nat.le_of_ble_eq_true U) (fun u hu=>by simp [Value.cells] at hu;subst hu;rfl) (fun w H=>(Aa (Y (Z (Ac (Ab U (Aa (Y (Ai (Am U U ?_)))))))))))))))))))))))))
 obtain ⟨a1,a2,a3⟩:=Im (c:=c) (e:=e) (x:=x) (ep:=ep) (n:=n) (by unfold En;omega)
 exact Ag ⟨by rw [a1]<;>rfl,by rw [a2,a3];first |done|rfl⟩ H
theorem aY (b:Nat) (c:Int) (s:Int) (e:Int) (x:Int) (h:0≤c∧c≤40∧1≤s∧s≤4) (hx:0≤x∧x≤c):
    Cn Tryz.prog 108 [.pointer (some ⟨b,0,none⟩)] [] [blk b [.int .i64 c,.int .i64 s,.int .i64 e,.int .i64 x] 239] (fun v Bs=>Bs=[Ae (AN .i64) v (CQ c s x)]):=by
 intro w0 F0 H
 refine enter Tryz.func108 U U (Nat.le_of_ble_eq_true U) (Z (Ac (Ab U (Aa (Y (Z (Z (Ac (Ab U (V U U (Dh U Nj U U) (Aa (Y (B0 U (Av (Y (Z (Ac (Ab U (Aa (Y (Z (Z (Et mo (by kernel_rfl) H (C7 U (Ba U U (fun w H=>AI U U) (Ba U U (fun w H=>Ah U Uf U) (Ba U U (fun w H=>Aj U Aw U (H.cellRI 0 U U)) (C7 U (Ba U U (fun w H=>AI U U) (Ba U U (fun w H=>Ah U LQ U) (Ba U U (fun w H=>Aj U Aw U (H.cellRI 0 U U)) (C7 U (Ba U U (fun w H=>AI U U) (Ba U U (fun w H=>Ah U HH U) (Ba U U (fun w H=>Aj U Aw U (H.cellRI 0 U U)) (Ba U U (fun w H=>Cm (z:=c - x) U U U (Ay (by omega) (by omega))) (Ba U U (fun w H=>Fr (z:=min s (c - x)) U U U U) (C7 U (El (fun w H=>(Y (AK ?_))))))))))))))))))))))))))))))))))))))))))
 replace H:=H.newnil (AN .i64)
 refine Br (σ:=Nat×Value) (fun (k,l)=>[(0,.pointer (some ⟨b,0,none⟩)),(2,.slice none 0 0),(3,l),(20,.int .i64 (min s (c - x))),(21,.int .i64 ((k:Nat):Int))]) (fun (k,l) w=>(Hd w0 F0 w [Ae (AN .i64) l (Gf x k)] [blk b [.int .i64 c,.int .i64 s,.int .i64 e,.int .i64 x] 239])∧(k≤(min s (c - x)).toNat)) (fun (k,l)=>(min s (c - x)).toNat - k) (0,.slice none 0 0) ⟨rfl,rfl,rfl,rfl,rfl,trivial⟩ ⟨H,by omega⟩ ?_
 rintro ⟨k,l⟩ w ⟨H,hk⟩
 refine Z (Ac (V U U (AQ U U U) (Aa (Y (Z ?_)))))
 refine Aq U (fun h1=>?_) (fun h1=>?_)
 ·refine Av (Y (Z (AK (Z (Ac (Ad 2 U (Aa (Y (Ac (Ad 2 U (V U U (AI U U) (V U U (Ah U HH U) (V U U (Aj U Aw U (H.cellRI 0 U U)) (Ab U (V U U (AP (z:=x+((k:Nat):Int)) U U U (Ay (by omega) (by omega))) (Bv (parts:=[(0,.tmp 30)]) (vs:=[.int .i64 (x+((k:Nat):Int))]) (cs:=[.int .i64 (x+((k:Nat):Int))]) U U U CZ EQ U (by decide) (by decide) U U H (fun b2 w H=>?_)))))))))))))))))
  replace H:=H.p1
  refine BY (xs:=Gf x k) (ys:=[x+((k:Nat):Int)]) U U U CZ EQ U (by decide) U U H (by simp only [KJ,List.length_cons,List.length_nil];omega) (fun F hA hR=>BZ (hA _ (List.mem_of_getElem? (i:=0) U)) U (by decide) (AX.flat_eq.2 U)) (fun v3 w H=>(Ab U (Aa (AS (Y (Ac (V U U (AP (z:=((k+1:Nat):Int)) U U U (by rw [Ay (by omega) (by omega)];omega)) (Ab U (Aa ?_)))))))))
  rw [←Sf] at H
  replace H:=H.k1
  exact Bb (s:=(k,undef)) (k+1,v3) ⟨rfl,rfl,rfl,rfl,rfl,trivial⟩ ⟨H,by omega⟩ (by (try dsimp only);omega)
 refine Bj (AE (AE (Bk (Y (Z (Ac (Ad 2 U (Aa (Y (Ai (Am U U ?_)))))))))))
 obtain rfl:k=(min s (c - x)).toNat:=by omega
 exact Ag U H
theorem aW (b:Nat) (c:Int) (s:Int) (e:Int) (x:Int):
    Cn Tryz.prog 111 [.pointer (some ⟨b,0,none⟩)] [] [blk b [.int .i64 c,.int .i64 s,.int .i64 e,.int .i64 x] 239] (fun v Bs=>v=.bool (decide (x=c))∧Bs=[]):=by
 intro w0 F0 H
 exact enter Tryz.func111 U U (Nat.le_of_ble_eq_true U) (Z (Ac (Ab U (Aa (Y (Z (Et mo (by kernel_rfl) H (C7 U (Ba U U (fun w H=>MN U Nj U U) (DW 2 U (Ba U U (fun w H=>AI U U) (Ba U U (fun w H=>Ah U HH U) (Ba U U (fun w H=>Aj U Aw U (H.cellRI 0 U U)) (C7 U (Ba U U (fun w H=>AI U U) (Ba U U (fun w H=>Ah U LQ U) (Ba U U (fun w H=>Aj U Aw U (H.cellRI 0 U U)) (Ba U U (fun w H=>AT U U U) (DW 2 U (El (fun w H=>(Y (Ai (Am U U (Ag ⟨rfl,rfl⟩ H)))))))))))))))))))))))))
theorem aK (c:Int) (s:Int) (h:0≤c∧c≤40∧1≤s∧s≤4):
    Cn Tryz.prog 102 [.int .i64 c,.int .i64 s] [] [] (fun v Bs=>∃ b,v=.tuple #[.pointer (some ⟨b,0,none⟩),.int .i64 0]∧Bs=[blk b [.int .i64 c,.int .i64 s,.int .i64 0,.int .i64 0] 175]):=by
 intro w0 F0 H
 refine enter Tryz.func102 U U (Nat.le_of_ble_eq_true U) (Z (Ac (Ad 2 U (Aa (Y (Z (Z (Ac (Ab U (V U U (AQ U U U) (Ab U ?_)))))))))))
 refine AD (d:=8) U (fun h1=>?_) (fun h1=>?_)
 ·exact absurd h1 (by omega)
 refine Ab U (V U U (BP U U U) (Ad 2 U ?_))
 refine AD (d:=12) U (fun h2=>?_) (fun h2=>?_)
 ·exact absurd h2 (by omega)
 refine Ab U (V U U (AQ U U U) (Ad 2 U ?_))
 refine AD (d:=16) U (fun h3=>?_) (fun h3=>?_)
 ·exact absurd h3 (by omega)
 refine Ab U (V U U (BP U U U) (Ab U (Aa (Y ?_))))
 refine Aq U (fun h4=>?_) (fun h4=>?_)
 ·exact absurd h4 (by omega)
 exact Av (Y (Z (Ac (Ad 2 U (V U U (CV (parts:=[(0,.tmp 20),(1,.tmp 21)]) (vs:=[.int .i64 c,.int .i64 s]) (cs:=[.int .i64 c,.int .i64 s,.int .i64 0,.int .i64 0]) U SB U U) (B4 U U U U H (fun b5 w H=>(Ad 2 U (Aa (Y (Ai (Bg U U U (Ag ⟨_,rfl,rfl⟩ H)))))))))))))
theorem aG (b:Nat) (c:Int) (s:Int) (e:Int) (x:Int) (ep:Int) (n:Int):
    Cn Tryz.prog 116 [.pointer (some ⟨b,0,none⟩),.int .i64 ep,.int .i64 n] [blk b [.int .i64 c,.int .i64 s,.int .i64 e,.int .i64 x] 175] [] (fun v Bs=>v=.bool (FX c e x ep n)∧Bs=[blk b [.int .i64 c,.int .i64 s,.int .i64 (G0 c e x ep n),.int .i64 (G3 c e x ep n)] 175]):=by
 intro w0 F0 H
 refine enter Tryz.func116 U U (Nat.le_of_ble_eq_true U) (Z (Ac (Ab U (Aa (Y (Z (Ac (Ab U (V U U (Hi (z:=max n 0) U U U U) (Ab U (V U U (AI U U) (V U U (Ah U Jy U) (V U U (Aj U Aw U (H.cellI 0 U U)) (V U U (Fr (z:=min (max n 0) c) U U U U) (Ab U (Aa (Y (Z (Z (Ac (Ab U (V U U (AQ U U U) (Ab U ?_)))))))))))))))))))))))
 refine AD (d:=16) U (fun h1=>?_) (fun h1=>?_)
 ·refine Ad 7 U (Aa (Y (BM U (Z (Ac (Ab U (Aa (Y (Ai (Ao (Am U U ?_)))))))))))
  obtain ⟨a1,a2,a3⟩:=Hz (c:=c) (e:=e) (x:=x) (ep:=ep) (n:=n) (by unfold En;omega)
  exact Ag ⟨by rw [a1]<;>rfl,by rw [a2,a3];first |done|rfl⟩ H
 refine Ad 2 U (V U U (AI U U) (V U U (Ah U LL U) (V U U (Aj U Aw U (H.cellI 0 U U)) (V U U (AQ U U U) (Ab U (Aa (Y ?_)))))))
 refine Aq U (fun h2=>?_) (fun h2=>?_)
 ·refine Z (Ac (Ab U (Aa (Y (Ai (Ao (Am U U ?_)))))))
  obtain ⟨a1,a2,a3⟩:=Hz (c:=c) (e:=e) (x:=x) (ep:=ep) (n:=n) (by unfold En;omega)
  exact Ag ⟨by rw [a1]<;>rfl,by rw [a2,a3];first |done|rfl⟩ H
 refine Av (Y (Z (Z (Ac (Ad 2 U (V U U (AI U U) (V U U (Ah U LL U) (V U U (Aj U Aw U (H.cellI 0 U U)) (V U U (BP U U U) (Aa (Y ?_)))))))))))
 refine Aq U (fun h3=>?_) (fun h3=>?_)
 ·refine Z (Ac (Ad 4 U (V U U (AI U U) (V U U (Ah U LL U) (By U U U Aw U U H U (Nat.le_of_ble_eq_true U) (fun u hu=>by simp [Value.cells] at hu;subst hu;rfl) (fun w H=>(V U U (AI U U) (V U U (Ah U It U) (By U U U Aw U U H U (Nat.le_of_ble_eq_true U) (fun u hu=>by simp [Value.cells] at hu;subst hu;rfl) (fun w H=>(Aa (Y (Z (Ac (Ab U (Aa (Y (Ai (Ao (Am U U ?_))))))))))))))))))))
  obtain ⟨a1,a2,a3⟩:=Im (c:=c) (e:=e) (x:=x) (ep:=ep) (n:=n) (by unfold En;omega)
  exact Ag ⟨by rw [a1]<;>rfl,by rw [a2,a3];first |done|rfl⟩ H
 refine Av (Y (Z (Z (Ac (Ad 2 U (V U U (AI U U) (V U U (Ah U It U) (V U U (Aj U Aw U (H.cellI 0 U U)) (V U U (BX U U U) (Aa (Y ?_)))))))))))
 refine Aq U (fun h4=>?_) (fun h4=>?_)
 ·refine Z (Ac (Ab U (Aa (Y (Ai (Ao (Am U U ?_)))))))
  obtain ⟨a1,a2,a3⟩:=Hz (c:=c) (e:=e) (x:=x) (ep:=ep) (n:=n) (by unfold En;omega)
  exact Ag ⟨by rw [a1]<;>rfl,by rw [a2,a3];first |done|rfl⟩ H
 refine Av (Y (Z (Ac (Ad 2 U (V U U (AI U U) (V U U (Ah U It U) (By U U U Aw U U H U (Nat.le_of_ble_eq_true U) (fun u hu=>by simp [Value.cells] at hu;subst hu;rfl) (fun w H=>(Aa (Y (Z (Ac (Ab U (Aa (Y (Ai (Am U U ?_)))))))))))))))))
 obtain ⟨a1,a2,a3⟩:=Im (c:=c) (e:=e) (x:=x) (ep:=ep) (n:=n) (by unfold En;omega)
 obtain rfl:ep=e:=by omega
 exact Ag ⟨by rw [a1]<;>rfl,by rw [a2,a3];first |done|rfl⟩ H
theorem aL (b:Nat) (c:Int) (s:Int) (e:Int) (x:Int) (h:0≤c∧c≤40∧1≤s∧s≤4) (hx:0≤x∧x≤c):
    Cn Tryz.prog 110 [.pointer (some ⟨b,0,none⟩)] [] [blk b [.int .i64 c,.int .i64 s,.int .i64 e,.int .i64 x] 175] (fun v Bs=>Bs=[Ae (AN .i64) v (CQ c s x)]):=by
 intro w0 F0 H
 refine enter Tryz.func110 U U (Nat.le_of_ble_eq_true U) (Z (Ac (Ab U (Aa (Y (Z (Ac (Ab U (Aa (Y (Z (Z (Ac (Ab U (V U U (AI U U) (V U U (Ah U It U) (V U U (Aj U Aw U (H.cellRI 0 U U)) (Ab U (Aa (Y (AK ?_)))))))))))))))))))))
 replace H:=H.newnil (AN .i64)
 refine Br (σ:=Nat×Value) (fun (k,l)=>[(0,.pointer (some ⟨b,0,none⟩)),(2,.slice none 0 0),(3,l),(4,.int .i64 (x+((k:Nat):Int)))]) (fun (k,l) w=>(Hd w0 F0 w [Ae (AN .i64) l (Gf x k)] [blk b [.int .i64 c,.int .i64 s,.int .i64 e,.int .i64 x] 175])∧(k≤(min s (c - x)).toNat)) (fun (k,l)=>(min s (c - x)).toNat - k) (0,.slice none 0 0) ⟨rfl,rfl,rfl,congrArg (fun z=>some (Value.int .i64 z)) (by omega:x=x+((0:Nat):Int)),trivial⟩ ⟨H,by omega⟩ ?_
 rintro ⟨k,l⟩ w ⟨H,hk⟩
 have hlen:=KJ x k
 refine Z (Z (Ac (Ad 2 U (V U U (AI U U) (V U U (Ah U Jy U) (V U U (Aj U Aw U (H.cellRI 0 U U)) (V U U (AQ U U U) (Ab U ?_))))))))
 refine AD (d:=15) U (fun h1=>?_) (fun h1=>?_)
 ·refine Ab U ?_
  obtain ⟨A2,c3,rfl,hc4,hm5,hp6⟩:=H.fA 0 rfl
  refine V U U (AO U EO U) (Ab U (V U U (AI U U) (V U U (Ah U Ue U) (V U U (Aj U Aw U (H.cellRI 0 U U)) (V U U (AQ U U U) (Ab U (Aa (Y ?_))))))))
  refine Aq U (fun h7=>?_) (fun h7=>?_)
  ·refine Av (Y (Z (AK (Ac (Ad 2 U (Bv (parts:=[(0,.tmp 27)]) (vs:=[.int .i64 (x+((k:Nat):Int))]) (cs:=[.int .i64 (x+((k:Nat):Int))]) U U U CZ EQ U (by decide) (by decide) U U H (fun b8 w H=>?_)))))))
   replace H:=H.p1
   refine BY (xs:=Gf x k) (ys:=[x+((k:Nat):Int)]) U U U CZ EQ U (by decide) U U H (by simp only [KJ,List.length_cons,List.length_nil];omega) (fun F hA hR=>BZ (hA _ (List.mem_of_getElem? (i:=0) U)) U (by decide) (AX.flat_eq.2 U)) (fun v9 w H=>(Ab U (Aa (AS (Y (Ac (Ab U (V U U (AP (z:=x+((k+1:Nat):Int)) U U U (by rw [Ay (by omega) (by omega)];omega)) (Ab U (Aa ?_))))))))))
   rw [←Sf] at H
   replace H:=H.k1
   exact Bb (s:=(k,undef)) (k+1,v9) ⟨rfl,rfl,rfl,rfl,trivial⟩ ⟨H,by omega⟩ (by (try dsimp only);omega)
  refine Bj (AE (AE (Bk (Y (Z (Ac (Ad 2 U (Aa (Y (Ai (Am U U ?_)))))))))))
  obtain rfl:k=(min s (c - x)).toNat:=by omega
  exact Ag U H
 refine Ad 8 U (Aa (Y (B0 U (Bj (AE (AE (Bk (Y (Z (Ac (Ad 2 U (Aa (Y (Ai (Am U U ?_)))))))))))))))
 obtain rfl:k=(min s (c - x)).toNat:=by omega
 exact Ag U H
theorem aJ (b:Nat) (c:Int) (s:Int) (e:Int) (x:Int):
    Cn Tryz.prog 112 [.pointer (some ⟨b,0,none⟩)] [] [blk b [.int .i64 c,.int .i64 s,.int .i64 e,.int .i64 x] 175] (fun v Bs=>v=.bool (decide (c≤x))∧Bs=[]):=by
 intro w0 F0 H
 exact enter Tryz.func112 U U (Nat.le_of_ble_eq_true U) (Z (Ac (Ab U (Aa (Y (Z (Et mo (by kernel_rfl) H (C7 U (Ba U U (fun w H=>AI U U) (Ba U U (fun w H=>Ah U It U) (Ba U U (fun w H=>Aj U Aw U (H.cellRI 0 U U)) (C7 U (Ba U U (fun w H=>AI U U) (Ba U U (fun w H=>Ah U Jy U) (Ba U U (fun w H=>Aj U Aw U (H.cellRI 0 U U)) (Ba U U (fun w H=>BN U U U) (C7 U (El (fun w H=>(Y (Ai (Am U U (Ag ⟨rfl,rfl⟩ H)))))))))))))))))))))))
theorem Qi (n:Int):
    Cn Tryz.prog 29 [.int .i64 n] [] [] (fun v Bs=>v=.int .i64 n∧Bs=[]):=by
 intro w0 F0 H
 exact enter Tryz.func29 U U (Nat.le_of_ble_eq_true U) (Z (Ac (Ab U (Aa (Y (Z (Ac (Ad 2 U (Aa (Y (Ai (Am U U (Ag ⟨rfl,rfl⟩ H)))))))))))))
def Eh (b:Nat) (C:Cf) (M:Ca):SP:=ex fun vS:Value=>ex fun vM:Value=>ex fun vC:Value=>ex fun vR:Value=>ex fun vK:Value=>ex fun vr:Value=>ex fun rs:List (Value×List An)=>ex fun vw:Value=>ex fun ws:List (Nat×Bh)=>Cz [CH ((rs.map (·.2)=CY dg C.J M.sp)∧(ws.map Prod.snd=M.ws)),blk b [vS,.int .i64 C.J.parts,vM,vC,vR,.int .i64 C.J.chunk,.int .i64 C.J.window,.int .i64 C.J.fuel,vK,.int .i64 C.w,.int .i64 C.t,.int .i64 C.o,.int .i64 ((M.sp:Nat):Int),.int .i64 M.att,.int .i64 ((AB dg C.J M.sp).2),vr,vw] 58,Ae (AU Al) vr rs,Ae BW vw (ws.map Prod.fst),BB (BG 175) ws]
theorem Ia (b:Nat) (C:Cf) (M:Ca) {w0 w:World} {F0:AV} {As Rs:List SP} (H:Hd w0 F0 w (Eh b C M::As) Rs):∃ vS:Value,∃ vM:Value,∃ vC:Value,∃ vR:Value,∃ vK:Value,∃ vr:Value,∃ rs:List (Value×List An),∃ vw:Value,∃ ws:List (Nat×Bh),((rs.map (·.2)=CY dg C.J M.sp)∧(ws.map Prod.snd=M.ws))∧Hd w0 F0 w ([blk b [vS,.int .i64 C.J.parts,vM,vC,vR,.int .i64 C.J.chunk,.int .i64 C.J.window,.int .i64 C.J.fuel,vK,.int .i64 C.w,.int .i64 C.t,.int .i64 C.o,.int .i64 ((M.sp:Nat):Int),.int .i64 M.att,.int .i64 ((AB dg C.J M.sp).2),vr,vw] 58,Ae (AU Al) vr rs,Ae BW vw (ws.map Prod.fst),BB (BG 175) ws]++As) Rs:=by
 obtain ⟨vS,H⟩:=Hd.exA H
 obtain ⟨vM,H⟩:=Hd.exA H
 obtain ⟨vC,H⟩:=Hd.exA H
 obtain ⟨vR,H⟩:=Hd.exA H
 obtain ⟨vK,H⟩:=Hd.exA H
 obtain ⟨vr,H⟩:=Hd.exA H
 obtain ⟨rs,H⟩:=Hd.exA H
 obtain ⟨vw,H⟩:=Hd.exA H
 obtain ⟨ws,H⟩:=Hd.exA H
 exact ⟨vS,vM,vC,vR,vK,vr,rs,vw,ws,H.stA.puA⟩
theorem F9 (b:Nat) (C:Cf) (M:Ca) (vS:Value) (vM:Value) (vC:Value) (vR:Value) (vK:Value) (vr:Value) (rs:List (Value×List An)) (vw:Value) (ws:List (Nat×Bh)) {w0 w:World} {F0:AV} {As Rs:List SP} (hp:(rs.map (·.2)=CY dg C.J M.sp)∧(ws.map Prod.snd=M.ws)) (H:Hd w0 F0 w ([blk b [vS,.int .i64 C.J.parts,vM,vC,vR,.int .i64 C.J.chunk,.int .i64 C.J.window,.int .i64 C.J.fuel,vK,.int .i64 C.w,.int .i64 C.t,.int .i64 C.o,.int .i64 ((M.sp:Nat):Int),.int .i64 M.att,.int .i64 ((AB dg C.J M.sp).2),vr,vw] 58,Ae (AU Al) vr rs,Ae BW vw (ws.map Prod.fst),BB (BG 175) ws]++As) Rs):Hd w0 F0 w (Eh b C M::As) Rs:=by
 have H1:=(show Hd w0 F0 w ([CH ((rs.map (·.2)=CY dg C.J M.sp)∧(ws.map Prod.snd=M.ws)),blk b [vS,.int .i64 C.J.parts,vM,vC,vR,.int .i64 C.J.chunk,.int .i64 C.J.window,.int .i64 C.J.fuel,vK,.int .i64 C.w,.int .i64 C.t,.int .i64 C.o,.int .i64 ((M.sp:Nat):Int),.int .i64 M.att,.int .i64 ((AB dg C.J M.sp).2),vr,vw] 58,Ae (AU Al) vr rs,Ae BW vw (ws.map Prod.fst),BB (BG 175) ws]++As) Rs from H.puI hp).stI
 replace H1:=Hd.exI (A:=fun ws:List (Nat×Bh)=>Cz [CH ((rs.map (·.2)=CY dg C.J M.sp)∧(ws.map Prod.snd=M.ws)),blk b [vS,.int .i64 C.J.parts,vM,vC,vR,.int .i64 C.J.chunk,.int .i64 C.J.window,.int .i64 C.J.fuel,vK,.int .i64 C.w,.int .i64 C.t,.int .i64 C.o,.int .i64 ((M.sp:Nat):Int),.int .i64 M.att,.int .i64 ((AB dg C.J M.sp).2),vr,vw] 58,Ae (AU Al) vr rs,Ae BW vw (ws.map Prod.fst),BB (BG 175) ws]) ws H1
 replace H1:=Hd.exI (A:=fun vw:Value=>ex fun ws:List (Nat×Bh)=>Cz [CH ((rs.map (·.2)=CY dg C.J M.sp)∧(ws.map Prod.snd=M.ws)),blk b [vS,.int .i64 C.J.parts,vM,vC,vR,.int .i64 C.J.chunk,.int .i64 C.J.window,.int .i64 C.J.fuel,vK,.int .i64 C.w,.int .i64 C.t,.int .i64 C.o,.int .i64 ((M.sp:Nat):Int),.int .i64 M.att,.int .i64 ((AB dg C.J M.sp).2),vr,vw] 58,Ae (AU Al) vr rs,Ae BW vw (ws.map Prod.fst),BB (BG 175) ws]) vw H1
 replace H1:=Hd.exI (A:=fun rs:List (Value×List An)=>ex fun vw:Value=>ex fun ws:List (Nat×Bh)=>Cz [CH ((rs.map (·.2)=CY dg C.J M.sp)∧(ws.map Prod.snd=M.ws)),blk b [vS,.int .i64 C.J.parts,vM,vC,vR,.int .i64 C.J.chunk,.int .i64 C.J.window,.int .i64 C.J.fuel,vK,.int .i64 C.w,.int .i64 C.t,.int .i64 C.o,.int .i64 ((M.sp:Nat):Int),.int .i64 M.att,.int .i64 ((AB dg C.J M.sp).2),vr,vw] 58,Ae (AU Al) vr rs,Ae BW vw (ws.map Prod.fst),BB (BG 175) ws]) rs H1
 replace H1:=Hd.exI (A:=fun vr:Value=>ex fun rs:List (Value×List An)=>ex fun vw:Value=>ex fun ws:List (Nat×Bh)=>Cz [CH ((rs.map (·.2)=CY dg C.J M.sp)∧(ws.map Prod.snd=M.ws)),blk b [vS,.int .i64 C.J.parts,vM,vC,vR,.int .i64 C.J.chunk,.int .i64 C.J.window,.int .i64 C.J.fuel,vK,.int .i64 C.w,.int .i64 C.t,.int .i64 C.o,.int .i64 ((M.sp:Nat):Int),.int .i64 M.att,.int .i64 ((AB dg C.J M.sp).2),vr,vw] 58,Ae (AU Al) vr rs,Ae BW vw (ws.map Prod.fst),BB (BG 175) ws]) vr H1
 replace H1:=Hd.exI (A:=fun vK:Value=>ex fun vr:Value=>ex fun rs:List (Value×List An)=>ex fun vw:Value=>ex fun ws:List (Nat×Bh)=>Cz [CH ((rs.map (·.2)=CY dg C.J M.sp)∧(ws.map Prod.snd=M.ws)),blk b [vS,.int .i64 C.J.parts,vM,vC,vR,.int .i64 C.J.chunk,.int .i64 C.J.window,.int .i64 C.J.fuel,vK,.int .i64 C.w,.int .i64 C.t,.int .i64 C.o,.int .i64 ((M.sp:Nat):Int),.int .i64 M.att,.int .i64 ((AB dg C.J M.sp).2),vr,vw] 58,Ae (AU Al) vr rs,Ae BW vw (ws.map Prod.fst),BB (BG 175) ws]) vK H1
 replace H1:=Hd.exI (A:=fun vR:Value=>ex fun vK:Value=>ex fun vr:Value=>ex fun rs:List (Value×List An)=>ex fun vw:Value=>ex fun ws:List (Nat×Bh)=>Cz [CH ((rs.map (·.2)=CY dg C.J M.sp)∧(ws.map Prod.snd=M.ws)),blk b [vS,.int .i64 C.J.parts,vM,vC,vR,.int .i64 C.J.chunk,.int .i64 C.J.window,.int .i64 C.J.fuel,vK,.int .i64 C.w,.int .i64 C.t,.int .i64 C.o,.int .i64 ((M.sp:Nat):Int),.int .i64 M.att,.int .i64 ((AB dg C.J M.sp).2),vr,vw] 58,Ae (AU Al) vr rs,Ae BW vw (ws.map Prod.fst),BB (BG 175) ws]) vR H1
 replace H1:=Hd.exI (A:=fun vC:Value=>ex fun vR:Value=>ex fun vK:Value=>ex fun vr:Value=>ex fun rs:List (Value×List An)=>ex fun vw:Value=>ex fun ws:List (Nat×Bh)=>Cz [CH ((rs.map (·.2)=CY dg C.J M.sp)∧(ws.map Prod.snd=M.ws)),blk b [vS,.int .i64 C.J.parts,vM,vC,vR,.int .i64 C.J.chunk,.int .i64 C.J.window,.int .i64 C.J.fuel,vK,.int .i64 C.w,.int .i64 C.t,.int .i64 C.o,.int .i64 ((M.sp:Nat):Int),.int .i64 M.att,.int .i64 ((AB dg C.J M.sp).2),vr,vw] 58,Ae (AU Al) vr rs,Ae BW vw (ws.map Prod.fst),BB (BG 175) ws]) vC H1
 replace H1:=Hd.exI (A:=fun vM:Value=>ex fun vC:Value=>ex fun vR:Value=>ex fun vK:Value=>ex fun vr:Value=>ex fun rs:List (Value×List An)=>ex fun vw:Value=>ex fun ws:List (Nat×Bh)=>Cz [CH ((rs.map (·.2)=CY dg C.J M.sp)∧(ws.map Prod.snd=M.ws)),blk b [vS,.int .i64 C.J.parts,vM,vC,vR,.int .i64 C.J.chunk,.int .i64 C.J.window,.int .i64 C.J.fuel,vK,.int .i64 C.w,.int .i64 C.t,.int .i64 C.o,.int .i64 ((M.sp:Nat):Int),.int .i64 M.att,.int .i64 ((AB dg C.J M.sp).2),vr,vw] 58,Ae (AU Al) vr rs,Ae BW vw (ws.map Prod.fst),BB (BG 175) ws]) vM H1
 replace H1:=Hd.exI (A:=fun vS:Value=>ex fun vM:Value=>ex fun vC:Value=>ex fun vR:Value=>ex fun vK:Value=>ex fun vr:Value=>ex fun rs:List (Value×List An)=>ex fun vw:Value=>ex fun ws:List (Nat×Bh)=>Cz [CH ((rs.map (·.2)=CY dg C.J M.sp)∧(ws.map Prod.snd=M.ws)),blk b [vS,.int .i64 C.J.parts,vM,vC,vR,.int .i64 C.J.chunk,.int .i64 C.J.window,.int .i64 C.J.fuel,vK,.int .i64 C.w,.int .i64 C.t,.int .i64 C.o,.int .i64 ((M.sp:Nat):Int),.int .i64 M.att,.int .i64 ((AB dg C.J M.sp).2),vr,vw] 58,Ae (AU Al) vr rs,Ae BW vw (ws.map Prod.fst),BB (BG 175) ws]) vS H1
 exact H1
theorem Y0 {w0 w:World} {F0:AV} {As Rs:List SP} {b:Nat} {C:Cf} {M:Ca} (H:Hd w0 F0 w As Rs) (i:Nat) (h:As[i]?=some (Eh b C M)):w.cell? ⟨b,14,none⟩=some (.int .i64 (AB dg C.J M.sp).2):=by
 obtain ⟨vS,vM,vC,vR,vK,vr,rs,vw,ws,_,H⟩:=Ia b C M (H.pick i h)
 exact H.cellI 0 U U
theorem Yg (vS:Value) (vM:Value) (vC:Value) (vR:Value) (vK:Value) (C:Cf) (s:Int) (att:Int) (hgo:¬ (Dm C∧0≤s∧s<((C.J.us.length:Nat):Int)∧1≤att∧att≤C.t)):
    Cn Tryz.prog 28 [.agg #[vS,.int .i64 C.J.parts,vM,vC,vR,.int .i64 C.J.chunk,.int .i64 C.J.window,.int .i64 C.J.fuel,vK,.int .i64 C.w,.int .i64 C.t,.int .i64 C.o],.int .i64 s,.int .i64 att] [] [Af (AU Al) vS C.J.us,Af Au vM C.J.map,Af Au vC C.J.comb,Af Au vR C.J.red,Af (AN .i64) vK C.J.marks] (fun v Bs=>v=.tuple #[.pointer none,.int .i64 2]∧Bs=[]):=by
 intro w0 F0 H
 obtain ⟨A1,c2,rfl,hc3,hm4,hp5⟩:=H.fR 0 rfl
 obtain ⟨A6,c7,rfl,hc8,hm9,hp10⟩:=H.fR 1 rfl
 obtain ⟨A11,c12,rfl,hc13,hm14,hp15⟩:=H.fR 2 rfl
 obtain ⟨A16,c17,rfl,hc18,hm19,hp20⟩:=H.fR 3 rfl
 obtain ⟨A21,c22,rfl,hc23,hm24,hp25⟩:=H.fR 4 rfl
 refine enter Tryz.func28 U U (Nat.le_of_ble_eq_true U) (Z (Ac (B4 U U U U H (fun b26 w H=>(Ad 2 U (Aa (Y (Z (Z (Ac (V U U (Bp (cs:=[.slice A1 C.J.us.length c2,.int .i64 C.J.parts,.slice A6 C.J.map.length c7,.slice A11 C.J.comb.length c12,.slice A16 C.J.red.length c17,.int .i64 C.J.chunk,.int .i64 C.J.window,.int .i64 C.J.fuel,.slice A21 C.J.marks.length c22,.int .i64 C.w,.int .i64 C.t,.int .i64 C.o]) U Ej U U (H.cellsI 0 U U)) (sc (QV (.slice A1 C.J.us.length c2) (.slice A6 C.J.map.length c7) (.slice A11 C.J.comb.length c12) (.slice A16 C.J.red.length c17) (.slice A21 C.J.marks.length c22) C) H (lR 0 U (lR 1 U (lR 2 U (lR 3 U (lR 4 U l0))))) U U (At PR U U) ?_))))))))))))
 rintro _ _ w ⟨rfl,rfl⟩ H
 refine V U U (CX U U) (Ab U ?_)
 refine AD (d:=17) U (fun h27=>?_) (fun h27=>?_)
 ·refine Ad 12 U (Ad 9 U (Aa (Y (BM U (Z (Ac (Ad 2 U (Aa (Y (Ai (Ao (Bg U U U ?_))))))))))))
  replace H:=H.nil
  exact Ag ⟨rfl,rfl⟩ H
 refine Ab U (V U U (AQ U U U) (Ad 2 U ?_))
 refine AD (d:=21) U (fun h28=>?_) (fun h28=>?_)
 ·refine Ad 12 U (Ad 5 U (Aa (Y (BM U (Z (Ac (Ad 2 U (Aa (Y (Ai (Ao (Bg U U U ?_))))))))))))
  replace H:=H.nil
  exact Ag ⟨rfl,rfl⟩ H
 refine Ab U (V U U (Ah U CP U) (V U U (Ah U C4 U) (V U U (Aj U CM U (H.cellI 0 U U)) (V U U (AO U D4 U) (V U U (BN U U U) (Ad 2 U ?_))))))
 refine AD (d:=29) U (fun h29=>?_) (fun h29=>?_)
 ·refine Ad 9 U (Aa (Y (BM U (Z (Ac (Ad 2 U (Aa (Y (Ai (Ao (Bg U U U ?_)))))))))))
  replace H:=H.nil
  exact Ag ⟨rfl,rfl⟩ H
 refine Ab U (V U U (AQ U U U) (Ad 2 U ?_))
 refine AD (d:=33) U (fun h30=>?_) (fun h30=>?_)
 ·refine Ad 5 U (Aa (Y (BM U (Z (Ac (Ad 2 U (Aa (Y (Ai (Ao (Bg U U U ?_)))))))))))
  replace H:=H.nil
  exact Ag ⟨rfl,rfl⟩ H
 refine Ab U (V U U (Ah U HK U) (V U U (Aj U Aw U (H.cellI 0 U U)) (V U U (BP U U U) (Ab U (Aa (Y ?_))))))
 refine Aq U (fun h31=>?_) (fun h31=>?_)
 ·refine Z (Ac (Ad 2 U (Aa (Y (Ai (Ao (Bg U U U ?_)))))))
  replace H:=H.nil
  exact Ag ⟨rfl,rfl⟩ H
 exact absurd ⟨by first |assumption|exact Classical.not_not.1 (by assumption),by omega,by omega,by omega,by omega⟩ hgo
theorem Yh (vS:Value) (vM:Value) (vC:Value) (vR:Value) (vK:Value) (C:Cf) (s:Nat) (att:Int) (hC:Dm C) (hJ:B3 C.J) (hgo:s<C.J.us.length∧1≤att∧att≤C.t):
    Cn Tryz.prog 28 [.agg #[vS,.int .i64 C.J.parts,vM,vC,vR,.int .i64 C.J.chunk,.int .i64 C.J.window,.int .i64 C.J.fuel,vK,.int .i64 C.w,.int .i64 C.t,.int .i64 C.o],.int .i64 ((s:Nat):Int),.int .i64 att] [] [Af (AU Al) vS C.J.us,Af Au vM C.J.map,Af Au vC C.J.comb,Af Au vR C.J.red,Af (AN .i64) vK C.J.marks] (fun v Bs=>∃ b:Nat,v=.tuple #[.pointer (some ⟨b,0,none⟩),.int .i64 0]∧Bs=[Eh b C (Df dg C.J s att)]):=by
 intro w0 F0 H
 have hpt:=hJ.parts
 have hck:=hJ.chunk1
 have hwi:=hJ.window1
 obtain ⟨hg1,hg2,hg3⟩:=hgo
 have hcs:=Ls (att:=att) hck
 refine enter Tryz.func28 U U (Nat.le_of_ble_eq_true U) (Z (Ac (B4 U U U U H (fun b1 w H=>(Ad 2 U (Aa (Y (Z (Z (Ac (V U U (Bp (cs:=[vS,.int .i64 C.J.parts,vM,vC,vR,.int .i64 C.J.chunk,.int .i64 C.J.window,.int .i64 C.J.fuel,vK,.int .i64 C.w,.int .i64 C.t,.int .i64 C.o]) U Ej U U (H.cellsI 0 U U)) (sc (QV vS vM vC vR vK C) H (lR 0 U (lR 1 U (lR 2 U (lR 3 U (lR 4 U l0))))) U U (At PR U U) ?_))))))))))))
 rintro _ _ w ⟨rfl,rfl⟩ H
 refine V U U (CX U U) (Ab U ?_)
 refine AD (d:=17) U (fun h2=>?_) (fun h2=>?_)
 ·first |exact (h2 hC).elim|(exfalso;omega)
 refine Ab U (V U U (AQ U U U) (Ad 2 U ?_))
 refine AD (d:=21) U (fun h3=>?_) (fun h3=>?_)
 ·first |exact (h3 hC).elim|(exfalso;omega)
 refine Ab U (V U U (Ah U CP U) (V U U (Ah U C4 U) (V U U (Aj U CM U (H.cellI 0 U U)) ?_)))
 obtain ⟨A4,c5,rfl,hc6,hm7,hp8⟩:=H.fR 0 rfl
 refine V U U (AO U D4 U) (V U U (BN U U U) (Ad 2 U ?_))
 refine AD (d:=29) U (fun h9=>?_) (fun h9=>?_)
 ·first |exact (h9 hC).elim|(exfalso;omega)
 refine Ab U (V U U (AQ U U U) (Ad 2 U ?_))
 refine AD (d:=33) U (fun h10=>?_) (fun h10=>?_)
 ·first |exact (h10 hC).elim|(exfalso;omega)
 refine Ab U (V U U (Ah U HK U) (V U U (Aj U Aw U (H.cellI 0 U U)) (V U U (BP U U U) (Ab U (Aa (Y ?_))))))
 refine Aq U (fun h11=>?_) (fun h11=>?_)
 ·first |exact (h11 hC).elim|(exfalso;omega)
 refine Av (Y (Z (Ac (V U U (Bp (cs:=[.slice A4 C.J.us.length c5,.int .i64 C.J.parts,vM,vC,vR,.int .i64 C.J.chunk,.int .i64 C.J.window,.int .i64 C.J.fuel,vK,.int .i64 C.w,.int .i64 C.t,.int .i64 C.o]) U Ej U U (H.cellsI 0 U U)) (Ad 2 U ?_)))))
 obtain ⟨A12,c13,rfl,hc14,hm15,hp16⟩:=H.fR 1 rfl
 obtain ⟨A17,c18,rfl,hc19,hm20,hp21⟩:=H.fR 2 rfl
 obtain ⟨A22,c23,rfl,hc24,hm25,hp26⟩:=H.fR 3 rfl
 obtain ⟨A27,c28,rfl,hc29,hm30,hp31⟩:=H.fR 4 rfl
 refine V U U (CV (parts:=[(0,.tmp 39),(1,.tmp 40),(2,.tmp 41)]) (vs:=[.agg #[.slice A4 C.J.us.length c5,.int .i64 C.J.parts,.slice A12 C.J.map.length c13,.slice A17 C.J.comb.length c18,.slice A22 C.J.red.length c23,.int .i64 C.J.chunk,.int .i64 C.J.window,.int .i64 C.J.fuel,.slice A27 C.J.marks.length c28,.int .i64 C.w,.int .i64 C.t,.int .i64 C.o],.int .i64 ((s:Nat):Int),.int .i64 att]) (cs:=[.slice A4 C.J.us.length c5,.int .i64 C.J.parts,.slice A12 C.J.map.length c13,.slice A17 C.J.comb.length c18,.slice A22 C.J.red.length c23,.int .i64 C.J.chunk,.int .i64 C.J.window,.int .i64 C.J.fuel,.slice A27 C.J.marks.length c28,.int .i64 C.w,.int .i64 C.t,.int .i64 C.o,.int .i64 ((s:Nat):Int),.int .i64 att,.int .i64 0,.slice none 0 0,.slice none 0 0]) U SI U U) (B4 U U U U H (fun b32 w H=>(Ab U (Aa (Y (Z (Ac (Ab U (V U U (Ah U CP U) (V U U (Bp (cs:=[.slice A4 C.J.us.length c5,.int .i64 C.J.parts,.slice A12 C.J.map.length c13,.slice A17 C.J.comb.length c18,.slice A22 C.J.red.length c23,.int .i64 C.J.chunk,.int .i64 C.J.window,.int .i64 C.J.fuel,.slice A27 C.J.marks.length c28]) U Gc U U (H.cellsI 1 U U)) (Ab U (sc (Q0 (.slice A4 C.J.us.length c5) (.slice A12 C.J.map.length c13) (.slice A17 C.J.comb.length c18) (.slice A22 C.J.red.length c23) (.slice A27 C.J.marks.length c28) C.J s (by first |assumption|omega) (by first |assumption|omega)) H (lR 0 U (lR 1 U (lR 2 U (lR 3 U (lR 4 U l0))))) U U (At Pe U U) ?_))))))))))))
 rintro _ _ w ⟨u33,rfl,rfl⟩ H
 refine Ad 3 U (V U U (AI U U) (V U U (Ah U LS U) ?_))
 replace H:=H.p1
 refine By U U U Aw U U H U (Nat.le_of_ble_eq_true U) (fun u hu=>by simp [Value.cells] at hu;subst hu;rfl) (fun w H=>(Aa (Y (Z (Z (Ac (Ab U (Aa (Y (AK ?_))))))))))
 replace H:=H.p2.k2.newnil BW
 replace H:=Hd.tellK (ys:=([]:List (Nat×Bh)).map Prod.fst) H rfl
 replace H:=Hd.big0 (BG 175) H
 replace H:=H.newnil (AU Al)
 refine Br (σ:=Nat×Value×List (Value×List An)×Value×List (Nat×Bh)) (fun (k,vr,rs,vw,ws)=>[(1,.int .i64 ((s:Nat):Int)),(3,.pointer (some ⟨b1,0,none⟩)),(6,.pointer none),(7,.int .i64 0),(8,.pointer (some ⟨b32,0,none⟩)),(9,.int .i64 ((k:Nat):Int))]) (fun (k,vr,rs,vw,ws) w=>(Hd w0 F0 w [Ae (AU Al) vr rs,BB (BG 175) ws,Ae BW vw (ws.map Prod.fst),blk b1 [.slice A4 C.J.us.length c5,.int .i64 C.J.parts,.slice A12 C.J.map.length c13,.slice A17 C.J.comb.length c18,.slice A22 C.J.red.length c23,.int .i64 C.J.chunk,.int .i64 C.J.window,.int .i64 C.J.fuel,.slice A27 C.J.marks.length c28,.int .i64 C.w,.int .i64 C.t,.int .i64 C.o] 28,blk b32 [.slice A4 C.J.us.length c5,.int .i64 C.J.parts,.slice A12 C.J.map.length c13,.slice A17 C.J.comb.length c18,.slice A22 C.J.red.length c23,.int .i64 C.J.chunk,.int .i64 C.J.window,.int .i64 C.J.fuel,.slice A27 C.J.marks.length c28,.int .i64 C.w,.int .i64 C.t,.int .i64 C.o,.int .i64 ((s:Nat):Int),.int .i64 att,.int .i64 ((AB dg C.J s).2),vr,vw] 58] [Af (AU Al) (.slice A4 C.J.us.length c5) C.J.us,Af Au (.slice A12 C.J.map.length c13) C.J.map,Af Au (.slice A17 C.J.comb.length c18) C.J.comb,Af Au (.slice A22 C.J.red.length c23) C.J.red,Af (AN .i64) (.slice A27 C.J.marks.length c28) C.J.marks])∧(((k:Nat):Int)≤C.J.parts)∧(rs.map (·.2)=(List.range k).map fun (p:Nat)=>BE dg C.J s p)∧(ws.map Prod.snd=(D9 dg C.J s att k).map (Hp C.J))∧(0<k→(AB dg C.J s).2=0)) (fun (k,vr,rs,vw,ws)=>C.J.parts.toNat - k) (0,.slice none 0 0,[],.slice none 0 0,[]) ⟨rfl,rfl,rfl,rfl,rfl,rfl,trivial⟩ ⟨H,by (try dsimp only);omega,rfl,rfl,fun g=>absurd g (Nat.lt_irrefl _)⟩ ?_
 rintro ⟨k,vr,rs,vw,ws⟩ w ⟨H,hk,hrs,hws,hgd⟩
 have hwl:=congrArg List.length hws
 rw [List.length_map,List.length_map,Lm] at hwl
 have hwf:(ws.map Prod.fst).length=ws.length:=List.length_map ..
 have hrl:=congrArg List.length hrs
 rw [List.length_map,List.length_map,List.length_range] at hrl
 refine Z (Z (Ac (Ab U (V U U (Ah U CP U) (V U U (Ah U G9 U) (V U U (Aj U Aw U (H.cellI 3 U U)) (V U U (AQ U U U) (Ab U ?_))))))))
 refine AD (d:=59) U (fun h34=>?_) (fun h34=>?_)
 ·refine Ab U (V U U (AI U U) (V U U (Ah U LS U) (V U U (Aj U Aw U (H.cellI 4 U U)) (V U U (AT U U U) (Ab U (Aa (Y ?_)))))))
  refine Aq U (fun h35=>?_) (fun h35=>?_)
  ·refine Av (Y (Z (AK (Z (Ac (V U U (Ah U CP U) (V U U (Bp (cs:=[.slice A4 C.J.us.length c5,.int .i64 C.J.parts,.slice A12 C.J.map.length c13,.slice A17 C.J.comb.length c18,.slice A22 C.J.red.length c23,.int .i64 C.J.chunk,.int .i64 C.J.window,.int .i64 C.J.fuel,.slice A27 C.J.marks.length c28]) U Gc U U (H.cellsI 3 U U)) (Ad 2 U (sc (Yp (.slice A4 C.J.us.length c5) (.slice A12 C.J.map.length c13) (.slice A17 C.J.comb.length c18) (.slice A22 C.J.red.length c23) (.slice A27 C.J.marks.length c28) C.J s ((k:Nat):Int) (by first |assumption|omega) (by first |assumption|omega)) H (lR 0 U (lR 1 U (lR 2 U (lR 3 U (lR 4 U l0))))) U U (At UV U U) ?_)))))))))
   rintro _ _ w ⟨u36,rfl,rfl⟩ H
   have hrj:GS dg C.J s ((k:Nat):Int)=(BE dg C.J s ((k:Nat):Int),0):=if_neg (fun g=>g h35)
   rw [hrj] at H ⊢
   refine Ad 5 U (Aa (Y (Z (Ac (Ad 2 U (V U U (AI U U) (V U U (Ah U JH U) (V U U (Aj U CM U (H.cellI 5 U U)) (Ab U ?_)))))))))
   obtain ⟨A38,c39,rfl,hc40,hm41,hp42⟩:=H.fA 0 rfl
   refine Bv (parts:=[(0,.tmp 81)]) (vs:=[.slice A38 ((BE dg C.J s ((k:Nat):Int)).length) c39]) (cs:=[.slice A38 ((BE dg C.J s ((k:Nat):Int)).length) c39]) U U U Ei KQ U (by decide) (by decide) U U H (fun b37 w H=>?_)
   replace H:=H.p2
   refine Zh U U U Ei KQ U (by decide) U U H (by first |omega|(simp only [List.length_append,List.length_cons,List.length_nil];omega)) (fun v43 w H=>(V U U (AI U U) (V U U (Ah U JH U) ?_)))
   obtain ⟨A44,c45,rfl,hc46,hm47,hp48⟩:=H.fA 0 rfl
   replace H:=H.p4
   refine By U U U CM U U H U (Nat.le_of_ble_eq_true U) (fun u hu=>by simp [Value.cells] at hu;subst hu;rfl) (fun w H=>(Aa (Y (Z ?_))))
   have hol:=GQ dg C.J s ((k:Nat):Int)
   have hci:=NT (n:=(((BE dg C.J s ((k:Nat):Int)).length:Nat):Int)) (size:=CA C.J.chunk att) (by omega)
   refine BD (.e 0 (.e 1 (.e 2 (.e 5 (.e 6 (.e 7 (.m 3 (.m 4 (.m 8 (.e 9 (.e 10 (.e 11 (.e 12 (.e 13 .z)))))))))))))) (fun w=>∃ Ar,Hd w0 F0 w (blk b32 [.slice A4 C.J.us.length c5,.int .i64 C.J.parts,.slice A12 C.J.map.length c13,.slice A17 C.J.comb.length c18,.slice A22 C.J.red.length c23,.int .i64 C.J.chunk,.int .i64 C.J.window,.int .i64 C.J.fuel,.slice A27 C.J.marks.length c28,.int .i64 C.w,.int .i64 C.t,.int .i64 C.o,.int .i64 ((s:Nat):Int),.int .i64 att,.int .i64 ((AB dg C.J s).2),.slice A44 ((rs++[((.slice A38 ((BE dg C.J s ((k:Nat):Int)).length) c39:Value),BE dg C.J s ((k:Nat):Int))]).length) c45,vw] 58::Ae (AU Al) (.slice A44 ((rs++[((.slice A38 ((BE dg C.J s ((k:Nat):Int)).length) c39:Value),BE dg C.J s ((k:Nat):Int))]).length) c45) (rs++[((.slice A38 ((BE dg C.J s ((k:Nat):Int)).length) c39:Value),BE dg C.J s ((k:Nat):Int))])::BB (BG 175) ws::Ae BW vw (ws.map Prod.fst)::blk b1 [.slice A4 C.J.us.length c5,.int .i64 C.J.parts,.slice A12 C.J.map.length c13,.slice A17 C.J.comb.length c18,.slice A22 C.J.red.length c23,.int .i64 C.J.chunk,.int .i64 C.J.window,.int .i64 C.J.fuel,.slice A27 C.J.marks.length c28,.int .i64 C.w,.int .i64 C.t,.int .i64 C.o] 28::Ar) [Af (AU Al) (.slice A4 C.J.us.length c5) C.J.us,Af Au (.slice A12 C.J.map.length c13) C.J.map,Af Au (.slice A17 C.J.comb.length c18) C.J.comb,Af Au (.slice A22 C.J.red.length c23) C.J.red,Af (AN .i64) (.slice A27 C.J.marks.length c28) C.J.marks]) mo (by kernel_rfl) (fun w H=>⟨_,H⟩) H (fun w H=>(Ap U (Ak U U U (fun w ⟨Ar,H⟩=>AO U B_ U) (Ap U (Ak U U U (fun w ⟨Ar,H⟩=>Ah U CP U) (Ak U U U (fun w ⟨Ar,H⟩=>Ah U JD U) (Ak U U U (fun w ⟨Ar,H⟩=>Aj U Aw U (H.cellI 4 U U)) (AL U (sc (QZ b32 (.slice A4 C.J.us.length c5) (.slice A12 C.J.map.length c13) (.slice A17 C.J.comb.length c18) (.slice A22 C.J.red.length c23) (.slice A27 C.J.marks.length c28) C s att ((AB dg C.J s).2) (.slice A44 ((rs++[((.slice A38 ((BE dg C.J s ((k:Nat):Int)).length) c39:Value),BE dg C.J s ((k:Nat):Int))]).length) c45) vw (by first |assumption|omega)) H (lA 0 U (fun _ h=>h) l0) U U (At Pg U U) ?_)))))))))
   rintro _ _ w ⟨rfl,rfl⟩ H
   refine AH ⟨_,H⟩ (AL U (sc (QR (((BE dg C.J s ((k:Nat):Int)).length:Nat):Int) (CA C.J.chunk att) (by first |assumption|omega)) H l0 U U (At Pf U U) ?_))
   rintro _ _ w ⟨rfl,rfl⟩ H
   refine AH ⟨_,H⟩ (AL U (sc (aK (CK (((BE dg C.J s ((k:Nat):Int)).length:Nat):Int) (CA C.J.chunk att)) C.J.window (by omega)) H l0 U U (At UW U U) ?_))
   rintro _ _ w ⟨b49,rfl,rfl⟩ H
   replace H:=H.p5|>.p5|>.p5|>.p5|>.p5
   refine AH ⟨_,H⟩ (Ap U (Ap U (Ap U (Ap U (Ap U (Bx (Y (Ac (Ad 2 U (V U U (AI U U) (V U U (Ah U FC U) (V U U (Aj U FQ U (H.cellI 0 U U)) (Ab U (Bv (parts:=[(0,.tmp 103)]) (vs:=[.pointer (some ⟨b49,0,none⟩)]) (cs:=[.pointer (some ⟨b49,0,none⟩)]) U U U Ic So U (by decide) (by decide) U U H (fun b50 w H=>?_)))))))))))))))
   replace H:=H.p4
   refine BY (xs:=ws.map Prod.fst) (ys:=[b49]) U U U Ic So U (by decide) U U H (by first |omega|(simp only [List.length_append,List.length_cons,List.length_nil];omega)) (fun F hA hR=>BZ (hA _ (List.mem_of_getElem? (i:=0) U)) U (by decide) (AX.flat_eq.2 U)) (fun v51 w H=>(V U U (AI U U) (V U U (Ah U FC U) ?_)))
   obtain ⟨A52,c53,rfl,hc54,hm55,hp56⟩:=H.fA 0 rfl
   replace H:=H.p2
   refine By U U U FQ U U H U (Nat.le_of_ble_eq_true U) (fun u hu=>by simp [Value.cells] at hu;subst hu;rfl) (fun w H=>(Aa (AS (Y (Ac (Ab U (V U U (AP (z:=((k+1:Nat):Int)) U U U (by rw [Ay (by omega) (by omega)];omega)) (Ab U (Aa ?_)))))))))
   have hgd2:0<k+1→(AB dg C.J s).2=0:=fun _=>h35
   replace H:=H.p5.p1.p4.p3.p5.p6.k6
   replace H:=Hd.bigN (f:=BG 175) (x:=(b49,(⟨CK (((BE dg C.J s ((k:Nat):Int)).length:Nat):Int) (CA C.J.chunk att),C.J.window,0,0⟩:Bh))) H
   replace H:Hd w0 F0 w [BB (BG 175) (ws++[(b49,(⟨CK (((BE dg C.J s ((k:Nat):Int)).length:Nat):Int) (CA C.J.chunk att),C.J.window,0,0⟩:Bh))]),Ae BW (.slice A52 (((ws.map Prod.fst)++[b49]).length) c53) ((ws++[(b49,(⟨CK (((BE dg C.J s ((k:Nat):Int)).length:Nat):Int) (CA C.J.chunk att),C.J.window,0,0⟩:Bh))]).map Prod.fst),Ae (AU Al) (.slice A44 ((rs++[((.slice A38 ((BE dg C.J s ((k:Nat):Int)).length) c39:Value),BE dg C.J s ((k:Nat):Int))]).length) c45) (rs++[((.slice A38 ((BE dg C.J s ((k:Nat):Int)).length) c39:Value),BE dg C.J s ((k:Nat):Int))]),blk b32 [.slice A4 C.J.us.length c5,.int .i64 C.J.parts,.slice A12 C.J.map.length c13,.slice A17 C.J.comb.length c18,.slice A22 C.J.red.length c23,.int .i64 C.J.chunk,.int .i64 C.J.window,.int .i64 C.J.fuel,.slice A27 C.J.marks.length c28,.int .i64 C.w,.int .i64 C.t,.int .i64 C.o,.int .i64 ((s:Nat):Int),.int .i64 att,.int .i64 ((AB dg C.J s).2),.slice A44 ((rs++[((.slice A38 ((BE dg C.J s ((k:Nat):Int)).length) c39:Value),BE dg C.J s ((k:Nat):Int))]).length) c45,.slice A52 (((ws.map Prod.fst)++[b49]).length) c53] 58,blk b1 [.slice A4 C.J.us.length c5,.int .i64 C.J.parts,.slice A12 C.J.map.length c13,.slice A17 C.J.comb.length c18,.slice A22 C.J.red.length c23,.int .i64 C.J.chunk,.int .i64 C.J.window,.int .i64 C.J.fuel,.slice A27 C.J.marks.length c28,.int .i64 C.w,.int .i64 C.t,.int .i64 C.o] 28] [Af (AU Al) (.slice A4 C.J.us.length c5) C.J.us,Af Au (.slice A12 C.J.map.length c13) C.J.map,Af Au (.slice A17 C.J.comb.length c18) C.J.comb,Af Au (.slice A22 C.J.red.length c23) C.J.red,Af (AN .i64) (.slice A27 C.J.marks.length c28) C.J.marks]:=by rw [List.map_append];exact H
   replace H:=H.p4.p2.p2.p3
   exact Bb (s:=(k,undef,rs,undef,ws)) (k+1,.slice A44 ((rs++[((.slice A38 ((BE dg C.J s ((k:Nat):Int)).length) c39:Value),BE dg C.J s ((k:Nat):Int))]).length) c45,rs++[((.slice A38 ((BE dg C.J s ((k:Nat):Int)).length) c39:Value),BE dg C.J s ((k:Nat):Int))],.slice A52 (((ws.map Prod.fst)++[b49]).length) c53,ws++[(b49,(⟨CK (((BE dg C.J s ((k:Nat):Int)).length:Nat):Int) (CA C.J.chunk att),C.J.window,0,0⟩:Bh))]) ⟨rfl,rfl,rfl,rfl,rfl,rfl,trivial⟩ ⟨H,by (try dsimp only);omega,Y9 hrs,bC hws,hgd2⟩ (by (try dsimp only);omega)
  refine Bj (AE (AE (Bk (Y (Z (Ac (Ad 3 U (Aa (Y (Ai (Bg U U U ?_)))))))))))
  have hbad:(AB dg C.J s).2≠0:=h35
  have hk0:k=0:=Classical.byContradiction fun g=>hbad (hgd (by omega))
  subst hk0
  replace H:=H.p2.p1.p4.k4
  replace H:=F9 b32 C (Df dg C.J s att) (.slice A4 C.J.us.length c5) (.slice A12 C.J.map.length c13) (.slice A17 C.J.comb.length c18) (.slice A22 C.J.red.length c23) (.slice A27 C.J.marks.length c28) vr rs vw ws ⟨hrs.trans (Y8 hbad).symm,hws.trans (a_ hbad).symm⟩ H
  exact Ag ⟨_,rfl,rfl⟩ H
 refine Ad 6 U (Aa (Y (B0 U (Bj (AE (AE (Bk (Y (Z (Ac (Ad 3 U (Aa (Y (Ai (Bg U U U ?_)))))))))))))))
 have hkp:k=C.J.parts.toNat:=by omega
 have hgood:(AB dg C.J s).2=0:=hgd (by omega)
 replace H:=H.p2.p1.p4.k4
 replace H:=F9 b32 C (Df dg C.J s att) (.slice A4 C.J.us.length c5) (.slice A12 C.J.map.length c13) (.slice A17 C.J.comb.length c18) (.slice A22 C.J.red.length c23) (.slice A27 C.J.marks.length c28) vr rs vw ws ⟨Y7 hgood hrs hkp,bA hgood hws hkp⟩ H
 exact Ag ⟨_,rfl,rfl⟩ H
theorem Yb (b:Nat) (C:Cf) (M:Ca) (hM:Ez M):
    Cn Tryz.prog 34 [.pointer (some ⟨b,0,none⟩)] [Eh b C M] [] (fun v Bs=>Bs=[Ae (AN .i64) v (M.ws.map Bh.c),Eh b C M]):=by
 intro w0 F0 H
 obtain ⟨vS1,vM2,vC3,vR4,vK5,vr6,rs7,vw8,ws9,⟨hrs10,hws11⟩,H⟩:=Ia b C M H
 have hwf:(ws9.map Prod.fst).length=ws9.length:=List.length_map ..
 have hwl:M.ws.length=ws9.length:=by rw [←hws11];exact List.length_map ..
 have hrl:rs7.length=(CY dg C.J M.sp).length:=by rw [←hrs10];exact (List.length_map ..).symm
 obtain ⟨A12,c13,rfl,hc14,hm15,hp16⟩:=H.fA 2 rfl
 obtain ⟨A17,c18,rfl,hc19,hm20,hp21⟩:=H.fA 1 rfl
 have hml:=hM.2
 refine enter Tryz.func34 U U (Nat.le_of_ble_eq_true U) (Z (Ac (Ab U (Aa (Y (Z (Ac (Ab U (Aa (Y (Z (Z (Ac (Ab U (Aa (Y (AK ?_)))))))))))))))))
 replace H:=H.newnil (AN .i64)|>.tellK (ys:=(M.ws.take 0).map Bh.c) (by rfl)
 refine Br (σ:=Nat×Value) (fun (k,q)=>[(0,.pointer (some ⟨b,0,none⟩)),(2,.slice none 0 0),(3,q),(4,.int .i64 ((k:Nat):Int))]) (fun (k,q) w=>(Hd w0 F0 w [Ae (AN .i64) q ((M.ws.take k).map Bh.c),blk b [vS1,.int .i64 C.J.parts,vM2,vC3,vR4,.int .i64 C.J.chunk,.int .i64 C.J.window,.int .i64 C.J.fuel,vK5,.int .i64 C.w,.int .i64 C.t,.int .i64 C.o,.int .i64 ((M.sp:Nat):Int),.int .i64 M.att,.int .i64 ((AB dg C.J M.sp).2),.slice A17 rs7.length c18,.slice A12 ((ws9.map Prod.fst).length) c13] 58,Ae (AU Al) (.slice A17 rs7.length c18) rs7,Ae BW (.slice A12 ((ws9.map Prod.fst).length) c13) (ws9.map Prod.fst),BB (BG 175) ws9] [])∧(k≤ws9.length)) (fun (k,q)=>ws9.length - k) (0,.slice none 0 0) ⟨rfl,rfl,rfl,rfl,trivial⟩ ⟨H,Nat.zero_le _⟩ ?_
 rintro ⟨k,q⟩ w ⟨H,hk⟩
 have hcl:((M.ws.take k).map Bh.c).length=k:=by rw [List.length_map,List.length_take];omega
 refine Z (Z (Ac (Ad 2 U (V U U (AI U U) (V U U (Ah U FC U) (V U U (Aj U FQ U (H.cellI 1 U U)) (V U U (AO U I9 U) (V U U (AQ U U U) (Aa (Y ?_))))))))))
 refine Aq U (fun h22=>?_) (fun h22=>?_)
 ·refine Av (Y (Z (AK ?_)))
  obtain ⟨x23,hx24⟩:∃ z9,(ws9.map Prod.fst)[k]?=some z9:=⟨_,List.getElem?_eq_getElem (show k<(ws9.map Prod.fst).length by omega)⟩
  obtain ⟨wd25,he26⟩:=Hq hx24
  have hm27:M.ws[k]?=some wd25:=by rw [←hws11];exact Hr he26
  replace H:=H.p4
  replace H:=Hd.bigO k he26 H
  refine Ac (Ad 2 U (V U U (AI U U) (V U U (Ah U FC U) (V U U (Aj U FQ U (H.cellI 3 U U)) (Ab U ?_)))))
  have th28:=H.thA 5 rfl hx24
  refine V U U (AG (p:=AA A12+k*1) U Ic U U (by omega) (by omega) th28 U) (V U U (Aj U KE U (H.elA 5 U hx24 (q:=0) U U)) (V U U (AI U U) (V U U (Ah U Jy U) (V U U (Aj U Aw U (H.cellI 0 U U)) (Bv (parts:=[(0,.tmp 24)]) (vs:=[.int .i64 wd25.c]) (cs:=[.int .i64 wd25.c]) U U U CZ EQ U (by decide) (by decide) U U H (fun b29 w H=>?_))))))
  replace H:=H.p3
  refine BY (xs:=(M.ws.take k).map Bh.c) (ys:=[wd25.c]) U U U CZ EQ U (by decide) U U H (by first |omega|(simp only [List.length_append,List.length_cons,List.length_nil];omega)) (fun F hA hR=>BZ (hA _ (List.mem_of_getElem? (i:=0) U)) U (by decide) (AX.flat_eq.2 U)) (fun v30 w H=>(Ab U (Aa (AS (Y (Ac (Ab U (V U U (AP (z:=((k+1:Nat):Int)) U U U (by rw [Ay (by omega) (by omega)];omega)) (Ab U (Aa ?_))))))))))
  replace H:=H.p3.p3
  replace H:=Hd.bigI (f:=BG 175) (x:=(x23,wd25)) k (Gt he26) H
  rw [I_ he26] at H
  replace H:=H.p5.p5.p5.p4.k5.tellK (ys:=(M.ws.take (k+1)).map Bh.c) (by rw [DV hm27,List.map_append];rfl)
  exact Bb (s:=(k,undef)) (k+1,v30) ⟨rfl,rfl,rfl,rfl,trivial⟩ ⟨H,by (try dsimp only);omega⟩ (by (try dsimp only);omega)
 refine Bj (AE (AE (Bk (Y (Z (Ac (Ad 2 U (Aa (Y (Ai (Am U U ?_)))))))))))
 replace H:=H.tellK (ys:=M.ws.map Bh.c) (by rw [List.take_of_length_le (by omega)])|>.sel 5 [1,2,3,4,0] [] rfl (by kernel_rfl)
 replace H:=F9 b C M vS1 vM2 vC3 vR4 vK5 (.slice A17 rs7.length c18) rs7 (.slice A12 ((ws9.map Prod.fst).length) c13) ws9 ⟨hrs10,hws11⟩ H
 replace H:=H.p1
 exact Ag U H
theorem QQ (b:Nat) (vS:Value) (vM:Value) (vC:Value) (vR:Value) (vK:Value) (C:Cf) (s:Nat) (att:Int) (why:Int) (vr:Value) (vw:Value) (rs:List (Value×List An)) (p:Int) (q:Int) (hJ:B3 C.J) (hrs:rs.map (·.2)=CY dg C.J s):
    Cn Tryz.prog 42 [.pointer (some ⟨b,0,none⟩),.int .i64 p,.int .i64 q] [] [blk b [vS,.int .i64 C.J.parts,vM,vC,vR,.int .i64 C.J.chunk,.int .i64 C.J.window,.int .i64 C.J.fuel,vK,.int .i64 C.w,.int .i64 C.t,.int .i64 C.o,.int .i64 ((s:Nat):Int),.int .i64 att,.int .i64 why,vr,vw] 58,Af (AU Al) vr rs] (fun v Bs=>Bs=[Ae Al v (BF dg C.J s att p q)]):=by
 intro w0 F0 H
 obtain ⟨A1,c2,rfl,hc3,hm4,hp5⟩:=H.fR 1 rfl
 have hpt:=hJ.parts
 have hck:=hJ.chunk1
 have hcs:=Ls (att:=att) hck
 have hrl:rs.length=(CY dg C.J s).length:=by rw [←hrs];exact (List.length_map ..).symm
 refine enter Tryz.func42 U U (Nat.le_of_ble_eq_true U) (Z (Ac (Ab U (Aa (Y (Z (Z (Ac (Ab U (V U U (AQ U U U) (Ab U ?_)))))))))))
 refine AD (d:=9) U (fun h6=>?_) (fun h6=>?_)
 ·refine Ad 8 U (Aa (Y (BM U (Z (Ac (Ab U (Aa (Y (Ai (Ao (Am U U ?_)))))))))))
  replace H:=H.newnil Al|>.tellK (ys:=BF dg C.J s att p q) (by rw [NS (by omega) (by omega)])|>.h1 (A:=Ae Al (.slice none 0 0) (BF dg C.J s att p q))
  exact Ag U H
 refine Ad 2 U (V U U (AI U U) (V U U (Ah U JH U) (V U U (Aj U CM U (H.cellRI 0 U U)) (V U U (AO U D4 U) (V U U (BN U U U) (Ab U (Aa (Y ?_))))))))
 refine Aq U (fun h7=>?_) (fun h7=>?_)
 ·refine Z (Ac (Ab U (Aa (Y (Ai (Ao (Am U U ?_)))))))
  replace H:=H.newnil Al|>.tellK (ys:=BF dg C.J s att p q) (by rw [NS (by omega) (by omega)])|>.h1 (A:=Ae Al (.slice none 0 0) (BF dg C.J s att p q))
  exact Ag U H
 refine Av (Y (Z (BD (.e 0 (.e 1 (.e 2 (.e 3 (.e 4 (.e 5 (.e 6 (.e 7 (.e 9 (.m 8 (.m 10 (.e 11 .z)))))))))))) (fun w=>∃ Ar,Hd w0 F0 w (Ar) [blk b [vS,.int .i64 C.J.parts,vM,vC,vR,.int .i64 C.J.chunk,.int .i64 C.J.window,.int .i64 C.J.fuel,vK,.int .i64 C.w,.int .i64 C.t,.int .i64 C.o,.int .i64 ((s:Nat):Int),.int .i64 att,.int .i64 why,.slice A1 rs.length c2,vw] 58,Af (AU Al) (.slice A1 rs.length c2) rs]) mo (by kernel_rfl) (fun w H=>⟨_,H⟩) H (fun w H=>(Ap U (Ak U U U (fun w ⟨Ar,H⟩=>AI U U) (Ak U U U (fun w ⟨Ar,H⟩=>Ah U JH U) (Ak U U U (fun w ⟨Ar,H⟩=>Aj U CM U (H.cellRI 0 U U)) (Ap U ?_)))))))))
 obtain ⟨⟨u10,x8⟩,hx9⟩:∃ z9,rs[(p).toNat]?=some z9:=⟨_,List.getElem?_eq_getElem (show (p).toNat<rs.length by omega)⟩
 obtain ⟨A11,c12,rfl,hc13,hm14⟩:=H.nestR 1 rfl hx9
 have hrx:(CY dg C.J s)[(p).toNat]?=some x8:=by rw [←hrs,List.getElem?_map,hx9];rfl
 have hxl:x8.length≤40:=by rw [RH hrx];exact GQ ..
 have th15:=H.thRd 1 rfl hx9
 refine Ak U U U (fun w ⟨Ar,H⟩=>AG (p:=AA A1+((p).toNat)*1) U Ei U U (by omega) (by omega) th15 (by omega)) (Ak U U U (fun w ⟨Ar,H⟩=>Aj U Db U (H.elRd 1 U hx9 U)) (Ap U (Ap U (AL U (sc (QZ b vS vM vC vR vK C s att why (.slice A1 rs.length c2) vw (by first |assumption|omega)) H (lR 0 U l0) U U (At Pg U U) ?_)))))
 rintro _ _ w ⟨rfl,rfl⟩ H
 refine AH ⟨_,H⟩ (AL U (sc (X_ (.slice A11 x8.length c12) x8 (CA C.J.chunk att) q (by first |assumption|omega) (by first |assumption|omega)) H (lX (fun F hA hR=>GP (hR _ (List.mem_of_getElem? (i:=1) U)) hx9) l0) U U (At U2 U U) ?_))
 rintro v16 _ w rfl H
 refine AH ⟨_,H⟩ (Ap U (Bx (Y (Ai (Am U U ?_)))))
 have e:=Ta (att:=att) (q:=q) hrx
 rw [Int.toNat_of_nonneg (by omega)] at e
 replace H:=H.tellK (ys:=BF dg C.J s att p q) (by rw [e])|>.h1 (A:=Ae Al v16 (BF dg C.J s att p q))
 exact Ag U H
theorem X9 (b:Nat) (C:Cf) (M:Ca) (p:Int) (q:Int) (hJ:B3 C.J):Cn Tryz.prog 42 [.pointer (some ⟨b,0,none⟩),.int .i64 p,.int .i64 q] [Eh b C M] [] (fun v Bs=>Bs=[Ae Al v (BF dg C.J M.sp M.att p q),Eh b C M]):=by
 intro w0 F0 H
 obtain ⟨vS,vM,vC,vR,vK,vr,rs,vw,ws,⟨hrs,hws⟩,H⟩:=Ia b C M H
 refine (Fz (Cs:=[]) (QQ b vS vM vC vR vK C M.sp M.att _ vr vw rs p q hJ hrs) H (lA 0 U (fun _ h=>h) (lA 1 U BI l0))).mono ?_
 rintro e w ⟨v,rfl,Bs,rfl,H⟩
 replace H:=H.p4.p4.p4.p4
 exact ⟨v,rfl,_,rfl,(F9 b C M vS vM vC vR vK vr rs vw ws ⟨hrs,hws⟩ (As:=[Ae Al v (BF dg C.J M.sp M.att p q)]) H).pick 1 rfl⟩
theorem Yd (b:Nat) (C:Cf) (M:Ca) (hM:Ez M):
    Cn Tryz.prog 38 [.pointer (some ⟨b,0,none⟩)] [Eh b C M] [] (fun v Bs=>v=.bool (E2 M)∧Bs=[Eh b C M]):=by
 intro w0 F0 H
 obtain ⟨vS1,vM2,vC3,vR4,vK5,vr6,rs7,vw8,ws9,⟨hrs10,hws11⟩,H⟩:=Ia b C M H
 have hwf:(ws9.map Prod.fst).length=ws9.length:=List.length_map ..
 have hwl:M.ws.length=ws9.length:=by rw [←hws11];exact List.length_map ..
 have hrl:rs7.length=(CY dg C.J M.sp).length:=by rw [←hrs10];exact (List.length_map ..).symm
 obtain ⟨A12,c13,rfl,hc14,hm15,hp16⟩:=H.fA 2 rfl
 obtain ⟨A17,c18,rfl,hc19,hm20,hp21⟩:=H.fA 1 rfl
 refine enter Tryz.func38 U U (Nat.le_of_ble_eq_true U) (Z (Ac (Ab U (Aa (Y (Z (Z (Ac (Ab U (Aa (Y (AK (Br (σ:=Nat) (fun k=>[(0,.pointer (some ⟨b,0,none⟩)),(3,.int .i64 ((k:Nat):Int))]) (fun k w=>(Hd w0 F0 w [blk b [vS1,.int .i64 C.J.parts,vM2,vC3,vR4,.int .i64 C.J.chunk,.int .i64 C.J.window,.int .i64 C.J.fuel,vK5,.int .i64 C.w,.int .i64 C.t,.int .i64 C.o,.int .i64 ((M.sp:Nat):Int),.int .i64 M.att,.int .i64 ((AB dg C.J M.sp).2),.slice A17 rs7.length c18,.slice A12 ((ws9.map Prod.fst).length) c13] 58,Ae (AU Al) (.slice A17 rs7.length c18) rs7,Ae BW (.slice A12 ((ws9.map Prod.fst).length) c13) (ws9.map Prod.fst),BB (BG 175) ws9] [])∧(k≤ws9.length)∧((M.ws.take k).all (fun w=>decide (w.x=w.c))=true)) (fun k=>ws9.length - k) 0 ⟨rfl,rfl,trivial⟩ ⟨H,Nat.zero_le _,rfl⟩ ?_)))))))))))))
 rintro k w ⟨H,hk,hd⟩
 refine Z (Z (Ac (Ad 2 U (V U U (AI U U) (V U U (Ah U FC U) (V U U (Aj U FQ U (H.cellI 0 U U)) (V U U (AO U I9 U) (V U U (AQ U U U) (Aa (Y ?_))))))))))
 refine Aq U (fun h22=>?_) (fun h22=>?_)
 ·refine Av (Y (Z (AK (Z (Ac (Ab U (V U U (AI U U) (V U U (Ah U FC U) (V U U (Aj U FQ U (H.cellI 0 U U)) (Ab U ?_))))))))))
  obtain ⟨x23,hx24⟩:∃ z9,(ws9.map Prod.fst)[k]?=some z9:=⟨_,List.getElem?_eq_getElem (show k<(ws9.map Prod.fst).length by omega)⟩
  have th25:=H.thA 2 rfl hx24
  refine V U U (AG (p:=AA A12+k*1) U Ic U U (by omega) (by omega) th25 U) (V U U (Aj U KE U (H.elA 2 U hx24 (q:=0) U U)) ?_)
  obtain ⟨wd26,he27⟩:=Hq hx24
  have hm28:M.ws[k]?=some wd26:=by rw [←hws11];exact Hr he27
  have hok_wd26:=hM.1 _ (Bl hm28)
  unfold Fp at hok_wd26
  replace H:=H.p3
  replace H:=Hd.bigO k he27 H
  refine sc (aJ x23 wd26.c wd26.s wd26.e wd26.x) H (lA 0 U (fun _ h=>h) l0) U U (At U0 U U) ?_
  rintro _ _ w ⟨rfl,rfl⟩ H
  replace H:=Hd.bigI (f:=BG 175) (x:=(x23,wd26)) k (Gt he27) H
  rw [I_ he27] at H
  refine V U U (CX U U) (Aa (Y ?_))
  refine Aq U (fun h29=>?_) (fun h29=>?_)
  ·refine Z (Ac (Ab U (Aa (Y (Ai (Ax (Ao (Ao (Ax (Ao (Am U U ?_)))))))))))
   have e:E2 M=false:=NA hm28 (fun g=>by have:=of_decide_eq_true g;omega)
   replace H:=H.p3.p3.p3
   replace H:=F9 b C M vS1 vM2 vC3 vR4 vK5 (.slice A17 rs7.length c18) rs7 (.slice A12 ((ws9.map Prod.fst).length) c13) ws9 ⟨hrs10,hws11⟩ H
   exact Ag ⟨by rw [e]<;>rfl,rfl⟩ H
  refine Av (AS (Y (Ac (Ab U (V U U (AP (z:=((k+1:Nat):Int)) U U U (by rw [Ay (by omega) (by omega)];omega)) (Ab U (Aa ?_)))))))
  replace H:=H.p3.p3.p3
  exact Bb (s:=k) (k+1) ⟨rfl,rfl,trivial⟩ ⟨H,by (try dsimp only);omega,NB hd hm28 (by have:=hok_wd26.2.1;exact decide_eq_true (by omega))⟩ (by (try dsimp only);omega)
 refine Bj (AE (AE (Bk (Y (Z (Ac (Ab U (Aa (Y (Ai (Am U U ?_)))))))))))
 have e:E2 M=true:=by unfold E2;rw [←List.take_of_length_le (show M.ws.length≤k by omega)];exact hd
 replace H:=F9 b C M vS1 vM2 vC3 vR4 vK5 (.slice A17 rs7.length c18) rs7 (.slice A12 ((ws9.map Prod.fst).length) c13) ws9 ⟨hrs10,hws11⟩ H
 exact Ag ⟨by rw [e]<;>rfl,rfl⟩ H
theorem X7 (b:Nat) (C:Cf) (M:Ca) (p:Int) (ep:Int) (n:Int) (hM:Ez M):
    Cn Tryz.prog 45 [.pointer (some ⟨b,0,none⟩),.int .i64 p,.int .i64 ep,.int .i64 n] [Eh b C M] [] (fun v Bs=>v=.bool ((D7 M p ep n).2)∧Bs=[Eh b C ((D7 M p ep n).1)]):=by
 intro w0 F0 H
 obtain ⟨vS1,vM2,vC3,vR4,vK5,vr6,rs7,vw8,ws9,⟨hrs10,hws11⟩,H⟩:=Ia b C M H
 have hwf:(ws9.map Prod.fst).length=ws9.length:=List.length_map ..
 have hwl:M.ws.length=ws9.length:=by rw [←hws11];exact List.length_map ..
 have hrl:rs7.length=(CY dg C.J M.sp).length:=by rw [←hrs10];exact (List.length_map ..).symm
 obtain ⟨A12,c13,rfl,hc14,hm15,hp16⟩:=H.fA 2 rfl
 obtain ⟨A17,c18,rfl,hc19,hm20,hp21⟩:=H.fA 1 rfl
 refine enter Tryz.func45 U U (Nat.le_of_ble_eq_true U) (Z (Ac (Ab U (Aa (Y (Z ?_))))))
 by_cases hin22:0≤p∧p<((M.ws.length:Nat):Int)
 ·refine Ac (Ab U (V U U (BN U U U) (Ab U ?_)))
  refine AD (d:=11) U (fun h23=>?_) (fun h23=>?_)
  ·refine Ad 2 U (V U U (AI U U) (V U U (Ah U FC U) (V U U (Aj U FQ U (H.cellI 0 U U)) (V U U (AO U I9 U) (V U U (AQ U U U) (Ad 2 U ?_))))))
   refine AD (d:=20) U (fun h24=>?_) (fun h24=>?_)
   ·refine Ab U (V U U (AI U U) (V U U (Ah U FC U) (V U U (Aj U FQ U (H.cellI 0 U U)) (Ab U ?_))))
    obtain ⟨x25,hx26⟩:∃ z9,(ws9.map Prod.fst)[(p).toNat]?=some z9:=⟨_,List.getElem?_eq_getElem (show (p).toNat<(ws9.map Prod.fst).length by omega)⟩
    have th27:=H.thA 2 rfl hx26
    refine V U U (AG (p:=AA A12+((p).toNat)*1) U Ic U U (by omega) (by omega) th27 (by omega)) (V U U (Aj U KE U (H.elA 2 U hx26 (q:=0) U U)) (Ad 2 U ?_))
    obtain ⟨wd28,he29⟩:=Hq hx26
    have hm30:M.ws[(p).toNat]?=some wd28:=by rw [←hws11];exact Hr he29
    have hok_wd28:=hM.1 _ (Bl hm30)
    unfold Fp at hok_wd28
    replace H:=H.p3
    replace H:=Hd.bigO ((p).toNat) he29 H
    refine sc (aG x25 wd28.c wd28.s wd28.e wd28.x ep n) H l0 U U (At U4 U U) ?_
    rintro _ _ w ⟨rfl,rfl⟩ H
    replace H:=Hd.bigI (f:=BG 175) (x:=(x25,Fk wd28 ep n)) ((p).toNat) (Gt he29) H
    replace H:=H.p3
    replace H:=Hd.tellK (ys:=(ws9.set ((p).toNat) (x25,Fk wd28 ep n)).map Prod.fst) H (KM he29).1
    refine Ad 2 U (Aa (Y (Ai (Am U U ?_))))
    have e:=Jc (m:=M) (p:=p) (ep:=ep) (n:=n) (by omega) hm30
    replace H:=H.p3.p3
    replace H:=F9 b C ({ M with ws:=M.ws.set (p).toNat (Fk wd28 ep n) }:Ca) vS1 vM2 vC3 vR4 vK5 (.slice A17 rs7.length c18) rs7 (.slice A12 ((ws9.map Prod.fst).length) c13) (ws9.set ((p).toNat) (x25,Fk wd28 ep n)) ⟨hrs10,(by rw [(KM he29).2,hws11])⟩ H
    exact Ag ⟨by rw [e]<;>rfl,by rw [e]<;>rfl⟩ H
   exfalso;omega
  exfalso;omega
 refine Ac (Ab U (V U U (BN U U U) (Ab U ?_)))
 refine AD (d:=11) U (fun h31=>?_) (fun h31=>?_)
 ·refine Ad 2 U (V U U (AI U U) (V U U (Ah U FC U) (V U U (Aj U FQ U (H.cellI 0 U U)) (V U U (AO U I9 U) (V U U (AQ U U U) (Ad 2 U ?_))))))
  refine AD (d:=20) U (fun h32=>?_) (fun h32=>?_)
  ·exfalso;omega
  refine Ad 12 U (Aa (Y (Ai (Am U U ?_))))
  have e:=Hy (m:=M) (p:=p) (ep:=ep) (n:=n) (by omega)
  replace H:=F9 b C M vS1 vM2 vC3 vR4 vK5 (.slice A17 rs7.length c18) rs7 (.slice A12 ((ws9.map Prod.fst).length) c13) ws9 ⟨hrs10,hws11⟩ H
  exact Ag ⟨by rw [e]<;>rfl,by rw [e]<;>rfl⟩ H
 refine Ad 12 U (Ad 9 U (Aa (Y (Ai (Am U U ?_)))))
 have e:=Hy (m:=M) (p:=p) (ep:=ep) (n:=n) (by omega)
 replace H:=F9 b C M vS1 vM2 vC3 vR4 vK5 (.slice A17 rs7.length c18) rs7 (.slice A12 ((ws9.map Prod.fst).length) c13) ws9 ⟨hrs10,hws11⟩ H
 exact Ag ⟨by rw [e]<;>rfl,by rw [e]<;>rfl⟩ H
theorem Yn (b:Nat) (C:Cf) (M:Ca) (hJ:B3 C.J) (hM:Ez M):
    Cn Tryz.prog 36 [.pointer (some ⟨b,0,none⟩)] [Eh b C M] [] (fun v Bs=>∃ zs:List (BU BQ),Bs=[Ae Gq v zs,Eh b C M]∧(zs.map C5=Hg dg C.J M)):=by
 intro w0 F0 H
 obtain ⟨vS1,vM2,vC3,vR4,vK5,vr6,rs7,vw8,ws9,⟨hrs10,hws11⟩,H⟩:=Ia b C M H
 have hwf:(ws9.map Prod.fst).length=ws9.length:=List.length_map ..
 have hwl:M.ws.length=ws9.length:=by rw [←hws11];exact List.length_map ..
 have hrl:rs7.length=(CY dg C.J M.sp).length:=by rw [←hrs10];exact (List.length_map ..).symm
 obtain ⟨A12,c13,rfl,hc14,hm15,hp16⟩:=H.fA 2 rfl
 obtain ⟨A17,c18,rfl,hc19,hm20,hp21⟩:=H.fA 1 rfl
 have hml:=hM.2
 refine enter Tryz.func36 U U (Nat.le_of_ble_eq_true U) (Z (Ac (Ab U (Aa (Y (Z (Ac (Ab U (Aa (Y (Z (Z (Ac (Ab U (Aa (Y (AK ?_)))))))))))))))))
 replace H:=H.newnil EU
 replace H:=Hd.tw0 (α:=BQ) H
 replace H:=H.h2 (B:=Ae EU (.slice none 0 0) (([]:List (BU BQ)).map CD))|>.p1
 refine Br (σ:=Nat×Value×List (BU BQ)) (fun (k,q,zs)=>[(0,.pointer (some ⟨b,0,none⟩)),(2,.slice none 0 0),(3,q),(4,.int .i64 ((k:Nat):Int))]) (fun (k,q,zs) w=>(Hd w0 F0 w [Ae EU q (zs.map CD),Dp zs,blk b [vS1,.int .i64 C.J.parts,vM2,vC3,vR4,.int .i64 C.J.chunk,.int .i64 C.J.window,.int .i64 C.J.fuel,vK5,.int .i64 C.w,.int .i64 C.t,.int .i64 C.o,.int .i64 ((M.sp:Nat):Int),.int .i64 M.att,.int .i64 ((AB dg C.J M.sp).2),.slice A17 rs7.length c18,.slice A12 ((ws9.map Prod.fst).length) c13] 58,Ae (AU Al) (.slice A17 rs7.length c18) rs7,Ae BW (.slice A12 ((ws9.map Prod.fst).length) c13) (ws9.map Prod.fst),BB (BG 175) ws9] [])∧(k≤ws9.length)∧(zs.map C5=C6 dg C.J M.sp M.att (M.ws.take k) 0)) (fun (k,q,zs)=>ws9.length - k) (0,.slice none 0 0,[]) ⟨rfl,rfl,rfl,rfl,trivial⟩ ⟨H,Nat.zero_le _,rfl⟩ ?_
 rintro ⟨k,q,zs⟩ w ⟨H,hk,hz⟩
 have hzl:=congrArg List.length hz
 rw [List.length_map] at hzl
 have hpl:=Kb (D:=dg) (J:=C.J) (s:=M.sp) (att:=M.att) (ws:=M.ws.take k) 0 (fun x hx=>hM.1 x (List.mem_of_mem_take hx))
 rw [List.length_take] at hpl
 refine Z (Z (Ac (Ad 2 U (V U U (AI U U) (V U U (Ah U FC U) (V U U (Aj U FQ U (H.cellI 2 U U)) (V U U (AO U I9 U) (V U U (AQ U U U) (Aa (Y ?_))))))))))
 refine Aq U (fun h22=>?_) (fun h22=>?_)
 ·refine Av (Y (Z (AK (Z (Ac (Ab U (V U U (AI U U) (V U U (Ah U FC U) (V U U (Aj U FQ U (H.cellI 2 U U)) (Ab U ?_))))))))))
  obtain ⟨x23,hx24⟩:∃ z9,(ws9.map Prod.fst)[k]?=some z9:=⟨_,List.getElem?_eq_getElem (show k<(ws9.map Prod.fst).length by omega)⟩
  have th25:=H.thA 4 rfl hx24
  refine V U U (AG (p:=AA A12+k*1) U Ic U U (by omega) (by omega) th25 U) (V U U (Aj U KE U (H.elA 4 U hx24 (q:=0) U U)) ?_)
  obtain ⟨wd26,he27⟩:=Hq hx24
  have hm28:M.ws[k]?=some wd26:=by rw [←hws11];exact Hr he27
  have hok_wd26:=hM.1 _ (Bl hm28)
  unfold Fp at hok_wd26
  replace H:=H.p5.h3 (B:=Ae EU q (zs.map CD)) (C:=Dp zs)
  replace H:=Hd.bigO k he27 H
  refine sc (aL x23 wd26.c wd26.s wd26.e wd26.x (by first |omega|decide) (by first |omega|decide)) H (lA 0 U (fun _ h=>h) l0) U U (At UY U U) ?_
  rintro v29 _ w rfl H
  replace H:=H.p2|>.p2
  replace H:=Hd.bigI (f:=BG 175) (x:=(x23,wd26)) k (Gt he27) H
  rw [I_ he27] at H
  refine Ab U (Aa (Y (Z (Ac (Ab U (Aa (Y (AK ?_))))))))
  replace H:=H.p6.p6.p6.p4.p6.p6
  obtain ⟨A30,c31,rfl,hc32,hm33,hp34⟩:=H.fA 2 rfl
  have hz0:zs.map C5=C6 dg C.J M.sp M.att (M.ws.take k) 0++(Dz dg C.J M.sp M.att wd26 k).take 0:=by rw [List.take_zero,List.append_nil];exact hz
  refine Br (σ:=Nat×Value×List (BU BQ)) (fun (j,q2,zs2)=>[(0,.pointer (some ⟨b,0,none⟩)),(2,.slice none 0 0),(3,q2),(4,.int .i64 ((k:Nat):Int)),(5,.slice A30 ((CQ wd26.c wd26.s wd26.x).length) c31),(6,.int .i64 ((j:Nat):Int))]) (fun (j,q2,zs2) w=>(Hd w0 F0 w [Ae EU q2 (zs2.map CD),Dp zs2,Ae (AN .i64) (.slice A30 ((CQ wd26.c wd26.s wd26.x).length) c31) (CQ wd26.c wd26.s wd26.x),blk b [vS1,.int .i64 C.J.parts,vM2,vC3,vR4,.int .i64 C.J.chunk,.int .i64 C.J.window,.int .i64 C.J.fuel,vK5,.int .i64 C.w,.int .i64 C.t,.int .i64 C.o,.int .i64 ((M.sp:Nat):Int),.int .i64 M.att,.int .i64 ((AB dg C.J M.sp).2),.slice A17 rs7.length c18,.slice A12 ((ws9.map Prod.fst).length) c13] 58,Ae (AU Al) (.slice A17 rs7.length c18) rs7,Ae BW (.slice A12 ((ws9.map Prod.fst).length) c13) (ws9.map Prod.fst),BB (BG 175) ws9] [])∧(j≤(CQ wd26.c wd26.s wd26.x).length)∧(zs2.map C5=C6 dg C.J M.sp M.att (M.ws.take k) 0++(Dz dg C.J M.sp M.att wd26 k).take j)) (fun (j,q2,zs2)=>(CQ wd26.c wd26.s wd26.x).length - j) (0,q,zs) ⟨rfl,rfl,rfl,rfl,rfl,rfl,trivial⟩ ⟨H,Nat.zero_le _,hz0⟩ ?_
  rintro ⟨j,q2,zs2⟩ w ⟨H,hj,hz2⟩
  have hzl2:=congrArg List.length hz2
  rw [List.length_map,List.length_append,List.length_take,IK] at hzl2
  have hwl2:=Mz hok_wd26
  have htf:(zs2.map CD).length=zs2.length:=List.length_map ..
  refine Z (Z (Ac (Ad 2 U (V U U (AO U EO U) (V U U (AQ U U U) (Aa (Y ?_)))))))
  refine Aq U (fun h35=>?_) (fun h35=>?_)
  ·refine Av (Y (Z (AK ?_)))
   replace H:=H.p6.p6.p6.p6.p6.p6
   refine BD (.e 0 (.e 1 (.e 2 (.e 3 (.e 4 (.e 5 (.e 6 (.e 7 (.e 8 (.e 9 (.e 10 (.e 11 (.e 12 (.e 13 (.e 14 (.e 15 (.e 16 (.e 17 (.e 18 (.e 19 (.m 20 (.e 21 (.m 22 (.m 23 (.e 24 .z))))))))))))))))))))))))) (fun w=>∃ Ar,Hd w0 F0 w (Dp zs2::Ae (AN .i64) (.slice A30 ((CQ wd26.c wd26.s wd26.x).length) c31) (CQ wd26.c wd26.s wd26.x)::blk b [vS1,.int .i64 C.J.parts,vM2,vC3,vR4,.int .i64 C.J.chunk,.int .i64 C.J.window,.int .i64 C.J.fuel,vK5,.int .i64 C.w,.int .i64 C.t,.int .i64 C.o,.int .i64 ((M.sp:Nat):Int),.int .i64 M.att,.int .i64 ((AB dg C.J M.sp).2),.slice A17 rs7.length c18,.slice A12 ((ws9.map Prod.fst).length) c13] 58::Ae (AU Al) (.slice A17 rs7.length c18) rs7::Ae BW (.slice A12 ((ws9.map Prod.fst).length) c13) (ws9.map Prod.fst)::BB (BG 175) ws9::Ar) []) mo (by kernel_rfl) (fun w H=>⟨_,H⟩) H (fun w H=>(Ap U (Ap U (Ak U U U (fun w ⟨Ar,H⟩=>AI U U) (Ak U U U (fun w ⟨Ar,H⟩=>Ah U Ul U) (Ak U U U (fun w ⟨Ar,H⟩=>Aj U Aw U (H.cellI 2 U U)) (Ap U (Ak U U U (fun w ⟨Ar,H⟩=>AI U U) (Ak U U U (fun w ⟨Ar,H⟩=>Ah U OG U) (Ak U U U (fun w ⟨Ar,H⟩=>Aj U Aw U (H.cellI 2 U U)) (Ap U (Ap U (Ap U ?_)))))))))))))
   obtain ⟨x36,hx37⟩:∃ z9,(CQ wd26.c wd26.s wd26.x)[j]?=some z9:=⟨_,List.getElem?_eq_getElem (show j<(CQ wd26.c wd26.s wd26.x).length by omega)⟩
   have th38:=H.thA 1 rfl hx37
   refine Ak U U U (fun w ⟨Ar,H⟩=>AG (p:=AA A30+j*1) U CZ U U (by omega) (by omega) th38 U) (Ak U U U (fun w ⟨Ar,H⟩=>Aj U Aw U (H.elA 1 U hx37 (q:=0) U U)) (Ap U (Ap U (Ap U (Ap U ?_)))))
   have th39:=H.thA 1 rfl hx37
   refine Ak U U U (fun w ⟨Ar,H⟩=>AG (p:=AA A30+j*1) U CZ U U (by omega) (by omega) th39 U) (Ak U U U (fun w ⟨Ar,H⟩=>Aj U Aw U (H.elA 1 U hx37 (q:=0) U U)) (AL U (sc (QQ b vS1 vM2 vC3 vR4 vK5 C M.sp M.att ((AB dg C.J M.sp).2) (.slice A17 rs7.length c18) (.slice A12 ((ws9.map Prod.fst).length) c13) rs7 ((k:Nat):Int) x36 (by first |assumption|omega) (by first |assumption|omega)) H (lA 2 U (fun _ h=>h) (lA 3 U BI l0)) U U (At PL U U) ?_)))
   rintro v40 _ w rfl H
   obtain ⟨A41,c42,rfl,hc43,hm44,hp45⟩:=H.fA 0 rfl
   replace H:=H.p6.p6.p6.p6.p6.p6
   refine AH ⟨_,H⟩ (Ak U U U (fun w ⟨Ar,H⟩=>CV (parts:=[(0,.const (.int .i64 2)),(1,.tmp 34),(2,.tmp 38),(3,.tmp 39),(4,.tmp 43),(9,.tmp 50)]) (vs:=[.int .i64 2,.int .i64 ((M.sp:Nat):Int),.int .i64 M.att,.int .i64 ((k:Nat):Int),.int .i64 x36,.slice A41 ((BF dg C.J M.sp M.att ((k:Nat):Int) x36).length) c42]) (cs:=[.int .i64 2,.int .i64 ((M.sp:Nat):Int),.int .i64 M.att,.int .i64 ((k:Nat):Int),.int .i64 x36,.int .i64 0,.int .i64 0,.int .i64 0,.slice none 0 0,.slice A41 ((BF dg C.J M.sp M.att ((k:Nat):Int) x36).length) c42]) U NK U U) (AL U (Bv (parts:=[(0,.tmp 51)]) (vs:=[.agg #[.int .i64 2,.int .i64 ((M.sp:Nat):Int),.int .i64 M.att,.int .i64 ((k:Nat):Int),.int .i64 x36,.int .i64 0,.int .i64 0,.int .i64 0,.slice none 0 0,.slice A41 ((BF dg C.J M.sp M.att ((k:Nat):Int) x36).length) c42]]) (cs:=[.int .i64 2,.int .i64 ((M.sp:Nat):Int),.int .i64 M.att,.int .i64 ((k:Nat):Int),.int .i64 x36,.int .i64 0,.int .i64 0,.int .i64 0,.slice none 0 0,.slice A41 ((BF dg C.J M.sp M.att ((k:Nat):Int) x36).length) c42]) U U U Hk KS U (by decide) (by decide) U U H (fun b46 w H=>?_))))
   replace H:=H.p6|>.p6|>.p6|>.p6|>.p6|>.p6
   refine AH ⟨_,H⟩ (AL U ?_)
   replace H:=H.p8
   refine BY (xs:=zs2.map CD) (ys:=[(⟨⟨2,((M.sp:Nat):Int),M.att,((k:Nat):Int),x36,0,0,0⟩,⟨none,0,0⟩,⟨A41,(BF dg C.J M.sp M.att ((k:Nat):Int) x36).length,c42⟩⟩:GF BQ)]) U U U Hk KS U (by decide) U U H (by first |omega|(simp only [List.length_append,List.length_cons,List.length_nil,List.length_map];omega)) (fun F hA hR=>BZ (hA _ (List.mem_of_getElem? (i:=6) U)) U (by decide) (AX.flat_eq.2 U)) (fun v47 w H=>?_)
   replace H:=H.p6|>.p6|>.p6|>.p6|>.p6|>.p6
   refine AH ⟨_,H⟩ (Ap U (Bx (AS (Y (Ac (Ab U (V U U (AP (z:=((j+1:Nat):Int)) U U U (by rw [Ay (by omega) (by omega)];omega)) (Ab U (Aa ?_)))))))))
   replace H:=H.newnil (AN .i64)|>.p7|>.p2|>.p9|>.p3|>.k9
   replace H:=Hd.twN (r:=(⟨(⟨2,M.sp,M.att,(k:Nat),x36,0,0,0⟩:BQ),.slice none 0 0,[],.slice A41 ((BF dg C.J M.sp M.att ((k:Nat):Int) x36).length) c42,BF dg C.J M.sp M.att (k:Nat) x36⟩:BU BQ)) H
   replace H:Hd w0 F0 w [Dp (zs2++[(⟨(⟨2,M.sp,M.att,(k:Nat),x36,0,0,0⟩:BQ),.slice none 0 0,[],.slice A41 ((BF dg C.J M.sp M.att ((k:Nat):Int) x36).length) c42,BF dg C.J M.sp M.att (k:Nat) x36⟩:BU BQ)]),Ae EU v47 ((zs2++[(⟨(⟨2,M.sp,M.att,(k:Nat),x36,0,0,0⟩:BQ),.slice none 0 0,[],.slice A41 ((BF dg C.J M.sp M.att ((k:Nat):Int) x36).length) c42,BF dg C.J M.sp M.att (k:Nat) x36⟩:BU BQ)]).map CD),Ae (AN .i64) (.slice A30 ((CQ wd26.c wd26.s wd26.x).length) c31) (CQ wd26.c wd26.s wd26.x),blk b [vS1,.int .i64 C.J.parts,vM2,vC3,vR4,.int .i64 C.J.chunk,.int .i64 C.J.window,.int .i64 C.J.fuel,vK5,.int .i64 C.w,.int .i64 C.t,.int .i64 C.o,.int .i64 ((M.sp:Nat):Int),.int .i64 M.att,.int .i64 ((AB dg C.J M.sp).2),.slice A17 rs7.length c18,.slice A12 ((ws9.map Prod.fst).length) c13] 58,Ae (AU Al) (.slice A17 rs7.length c18) rs7,Ae BW (.slice A12 ((ws9.map Prod.fst).length) c13) (ws9.map Prod.fst),BB (BG 175) ws9] []:=by rw [List.map_append];exact H
   replace H:=H.p1
   have hz3:(zs2++[(⟨(⟨2,M.sp,M.att,(k:Nat),x36,0,0,0⟩:BQ),.slice none 0 0,[],.slice A41 ((BF dg C.J M.sp M.att ((k:Nat):Int) x36).length) c42,BF dg C.J M.sp M.att (k:Nat) x36⟩:BU BQ)]).map C5=C6 dg C.J M.sp M.att (M.ws.take k) 0++(Dz dg C.J M.sp M.att wd26 k).take (j+1):=by rw [List.map_append,hz2,QH hx37,←List.append_assoc];rfl
   exact Bb (s:=(j,undef,zs2)) (j+1,v47,zs2++[(⟨(⟨2,M.sp,M.att,(k:Nat),x36,0,0,0⟩:BQ),.slice none 0 0,[],.slice A41 ((BF dg C.J M.sp M.att ((k:Nat):Int) x36).length) c42,BF dg C.J M.sp M.att (k:Nat) x36⟩:BU BQ)]) ⟨rfl,rfl,rfl,rfl,rfl,rfl,trivial⟩ ⟨H,by (try dsimp only);omega,hz3⟩ (by (try dsimp only);omega)
  refine Bj (AE (AE (Bk (AS (Y (Ac (Ab U (V U U (AP (z:=((k+1:Nat):Int)) U U U (by rw [Ay (by omega) (by omega)];omega)) (Ab U (Aa ?_))))))))))
  replace H:=H.p6.p6.p6.p6.p5.p5.k6
  have hzk:zs2.map C5=C6 dg C.J M.sp M.att (M.ws.take (k+1)) 0:=by rw [hz2,List.take_of_length_le (l:=Dz dg C.J M.sp M.att wd26 k) (by rw [IK];omega),QJ hm28]
  exact Bb (s:=(k,undef,zs)) (k+1,q2,zs2) ⟨rfl,rfl,rfl,rfl,trivial⟩ ⟨H,by (try dsimp only);omega,hzk⟩ (by (try dsimp only);omega)
 refine Bj (AE (AE (Bk (Y (Z (Ac (Ad 2 U (Aa (Y (Ai (Am U U ?_)))))))))))
 replace H:=Hd.twI H
 replace H:=H.p4|>.p4|>.p4|>.p4
 replace H:=F9 b C M vS1 vM2 vC3 vR4 vK5 (.slice A17 rs7.length c18) rs7 (.slice A12 ((ws9.map Prod.fst).length) c13) ws9 ⟨hrs10,hws11⟩ H
 replace H:=H.p1
 exact Ag ⟨zs,rfl,by rw [hz,List.take_of_length_le (by omega)];rfl⟩ H
theorem NU (vb:Value) (bs:List UInt8) (n:Nat) (hb:bs.length≤1000000) (hn:n<9223372036854775808):
    Cn Tryz.prog 159 [vb,.int .i64 ((n:Nat):Int)] [] [Af Cx vb bs] (fun v Bs=>Bs=[Ae Cx v (bs++Ct n)]):=by
 intro w0 F0 H
 obtain ⟨A1,c2,rfl,hc3,hm4,hp5⟩:=H.fR 0 rfl
 refine enter Tryz.func159 U U (Nat.le_of_ble_eq_true U) (Z (Ac (Ab U (Aa (Y (Z (Ac (Ab U (V U U (AO U GA U) (Ab U (V U U (AO U GA U) (V U U (AP (z:=((bs.length+8:Nat):Int)) U U U (by rw [Ay (by omega) (by omega)];omega)) (Zn (m:=bs.length) (c:=bs.length+8) (a0:=(0:UInt8)) (enc:=ET) U U U GV KR U (by decide) UE U U (by omega) (by omega) (by omega) H (fun b6 w H=>(Ab U (Aa (Y (Z (Ac (Ad 2 U (Zm (ys:=bs) U U U GV U U H (by simp) (by omega) (fun F hA hR=>hR _ (List.mem_of_getElem? (i:=0) U)) (fun w H=>?_))))))))))))))))))))))
 replace H:Hd w0 F0 w [Ae Cx (.slice (some ⟨b6,0,none⟩) bs.length (bs.length+8)) bs] [Af Cx (.slice A1 bs.length c2) bs]:=H.turn (fun F h=>YY h (by simp) rfl (by simp) (by omega))
 refine Aa (Y (Z (Z (Ac (Ab U (Aa (Y (AK ?_))))))))
 replace H:Hd w0 F0 w [Ae Cx (.slice (some ⟨b6,0,none⟩) bs.length (bs.length+8)) (bs++(Ct n).take 0)] [Af Cx (.slice A1 bs.length c2) bs]:=by rw [List.take_zero,List.append_nil];exact H
 refine Br (σ:=Nat×Value) (fun (i,q)=>[(1,.int .i64 ((n:Nat):Int)),(4,.slice none 0 0),(5,q),(16,.int .i64 ((i:Nat):Int))]) (fun (i,q) w=>(Hd w0 F0 w [Ae Cx q (bs++(Ct n).take i)] [Af Cx (.slice A1 bs.length c2) bs])∧(i≤8)) (fun (i,q)=>8 - i) (0,.slice (some ⟨b6,0,none⟩) bs.length (bs.length+8)) ⟨rfl,rfl,rfl,rfl,trivial⟩ ⟨H,Nat.zero_le _⟩ ?_
 rintro ⟨i,q⟩ w ⟨H,hi⟩
 have hbl:=Fy n
 have htl:((Ct n).take i).length≤8:=by rw [List.length_take];omega
 refine Z (Ac (V U U (AQ U U U) (Aa (Y (Z ?_)))))
 refine Aq U (fun h7=>?_) (fun h7=>?_)
 ·refine Av (Y (Z (AK (Z (Ac (Ad 2 U (Aa (Y (Ac (Ad 2 U (V U U (CW (z:=((n:Nat):Int)) U U Dl Fv (D5 (by omega) (by omega))) (Ab U (V U U (Cm (z:=7 - ((i:Nat):Int)) U U U (Ay (by omega) (by omega))) (V U U (Fs (z:=8*(7 - ((i:Nat):Int))) U U U (Ay (by omega) (by omega))) (V U U (CW (z:=8*(7 - ((i:Nat):Int))) U U Dl FR (D5 (by omega) (by omega))) (V U U (H_ (z:=((n / 256^(7 - i):Nat):Int)) U U U (by omega) (Zw n (by omega))) (V U U (CW (z:=((UInt8.ofNat (n / 256^(7 - i))).toNat:Int)) U U Fv Ge (bE _)) (Bv (parts:=[(0,.tmp 27)]) (vs:=[.int .u8 ((UInt8.ofNat (n / 256^(7 - i))).toNat:Int)]) (cs:=[.int .u8 ((UInt8.ofNat (n / 256^(7 - i))).toNat:Int)]) U U U GV KR U (by decide) (by decide) U U H (fun b8 w H=>?_)))))))))))))))))))
  replace H:=H.p1
  refine BY (xs:=bs++(Ct n).take i) (ys:=[UInt8.ofNat (n / 256^(7 - i))]) U U U GV KR U (by decide) U U H (by first |omega|(simp only [List.length_append,List.length_cons,List.length_nil];omega)) (fun F hA hR=>BZ (hA _ (List.mem_of_getElem? (i:=0) U)) U (by decide) (AX.flat_eq.2 U)) (fun v9 w H=>(Ab U (Aa (AS (Y (Ac (V U U (AP (z:=((i+1:Nat):Int)) U U U (by rw [Ay (by omega) (by omega)];omega)) (Ab U (Aa ?_)))))))))
  replace H:=H.k1
  replace H:Hd w0 F0 w [Ae Cx v9 (bs++(Ct n).take (i+1))] [Af Cx (.slice A1 bs.length c2) bs]:=by rw [SL n (by omega),←List.append_assoc];exact H
  exact Bb (s:=(i,undef)) (i+1,v9) ⟨rfl,rfl,rfl,rfl,trivial⟩ ⟨H,by (try dsimp only);omega⟩ (by (try dsimp only);omega)
 refine Bj (AE (AE (Bk (Y (Z (Ac (Ad 2 U (Aa (Y (Ai (Am U U ?_)))))))))))
 replace H:Hd w0 F0 w [Ae Cx q (bs++Ct n)] [Af Cx (.slice A1 bs.length c2) bs]:=by rw [List.take_of_length_le (by omega)] at H;exact H
 exact Ag U H
theorem NV (vb:Value) (bs:List UInt8) (s:ByteArray) (hb:bs.length≤900000) (hs:s.size≤900000):
    Cn Tryz.prog 160 [vb,.string s] [] [Af Cx vb bs] (fun v Bs=>Bs=[Ae Cx v (bs++Da s)]):=by
 intro w0 F0 H
 refine enter Tryz.func160 U U (Nat.le_of_ble_eq_true U) (Z (Ac (Ab U (Aa (Y (Z (Ac (Ad 2 U (V U U (Cl U BJ U) (sc (NU vb bs s.size (by first |assumption|omega) (by first |assumption|omega)) H (lR 0 U l0) U U (At Pi U U) ?_))))))))))
 rintro v1 _ w rfl H
 refine Ab U (Zj U U U GV KR U (by decide) BJ U U H (by rw [List.length_append,Fy];omega) (fun v2 w H=>(Ab U (Aa (Y (Ai (Am U U ?_)))))))
 replace H:Hd w0 F0 w [Ae Cx v2 (bs++Da s)] [Af Cx vb bs]:=by unfold Da;rw [←List.append_assoc];exact H
 exact Ag U H
theorem Q_ (vb:Value) (bs:List UInt8) (a:Int) (hb:bs.length≤1000000) (ha:AF a):
    Cn Tryz.prog 203 [vb,.int .i64 a] [] [Af Cx vb bs] (fun v Bs=>v=.tuple #[.int .i64 ((Co bs a).1),.int .i64 ((Co bs a).2.1),.bool ((Co bs a).2.2)]∧Bs=[]):=by
 intro w0 F0 H
 obtain ⟨A1,c2,rfl,hc3,hm4,hp5⟩:=H.fR 0 rfl
 unfold AF at ha
 refine enter Tryz.func203 U U (Nat.le_of_ble_eq_true U) (Z (Ac (Ad 3 U (Aa (Y (Z (Z (Ac (Ab U (V U U (AQ U U U) (Ab U ?_)))))))))))
 refine AD (d:=12) U (fun h6=>?_) (fun h6=>?_)
 ·refine Ad 12 U (Aa (Y (BM U (Z (Ac (Ad 3 U (Aa (Y (Ai (Ao (EV U U U U ?_)))))))))))
  have e:=IR (b:=bs) (at_:=a) (by omega)
  exact Ag ⟨by rw [e]<;>rfl,rfl⟩ H
 refine Ad 2 U (V U U (AO U GA U) (V U U (BP U U U) (Ad 2 U ?_)))
 refine AD (d:=18) U (fun h7=>?_) (fun h7=>?_)
 ·refine Ad 6 U (Aa (Y (BM U (Z (Ac (Ad 3 U (Aa (Y (Ai (Ao (EV U U U U ?_)))))))))))
  have e:=IR (b:=bs) (at_:=a) (by omega)
  exact Ag ⟨by rw [e]<;>rfl,rfl⟩ H
 refine Ab U (V U U (AO U GA U) (Ab U (V U U (Cm (z:=((bs.length:Nat):Int) - a) U U U (Ay (by omega) (by omega))) (V U U (AQ U U U) (Ab U (Aa (Y ?_)))))))
 refine Aq U (fun h8=>?_) (fun h8=>?_)
 ·refine Z (Ac (Ad 3 U (Aa (Y (Ai (Ao (EV U U U U ?_)))))))
  have e:=IR (b:=bs) (at_:=a) (by omega)
  exact Ag ⟨by rw [e]<;>rfl,rfl⟩ H
 refine Av (Y (Z (Ac (Ab U (Aa (Y (Z (Z (Ac (Ad 3 U (V U U (AP (z:=a+8) U U U (Ay (by omega) (by omega))) (V U U (Q2 (i':=(a).toNat) (j':=(a+8).toNat) (m':=8) U GV U U U (by omega) (by omega) (by omega) U U (by omega)) (V U U (AO U GA U) (Ab U (Aa (Y (AK (Br (σ:=Nat) (fun i=>[(1,.int .i64 a),(4,.int .i64 0),(5,.int .i64 0),(6,.bool false),(7,.int .u64 ((EM (((bs.drop (a).toNat).take 8).take i):Nat):Int)),(29,.slice (EF A1 c2 ((a).toNat) 1) 8 (c2 - ((a).toNat))),(30,.int .i64 ((8:Nat):Int)),(31,.int .i64 ((i:Nat):Int))]) (fun i w=>(Hd w0 F0 w [] [Af Cx (.slice A1 bs.length c2) bs])∧(i≤8)) (fun i=>8 - i) 0 ⟨rfl,rfl,rfl,rfl,rfl,rfl,rfl,rfl,trivial⟩ ⟨H,Nat.zero_le _⟩ ?_))))))))))))))))))
 rintro i w ⟨H,hi⟩
 have hlt:=YK (((bs.drop (a).toNat).take 8).take i) 0
 have hle8:(((bs.drop (a).toNat).take 8).take i).length≤i:=by rw [List.length_take];omega
 refine Z (Ac (V U U (AQ U U U) (Aa (Y (Z ?_)))))
 refine Aq U (fun h9=>?_) (fun h9=>?_)
 ·refine Av (Y (Z (AK (Z (Ac ?_)))))
  obtain ⟨x10,hx11⟩:∃ z9,((bs.drop ((a).toNat)).take 8)[i]?=some z9:=⟨_,List.getElem?_eq_getElem (show i<((bs.drop ((a).toNat)).take 8).length by simp only [List.length_take,List.length_drop];omega)⟩
  have th12:=H.thX (fun F hA hR=>Ko (hR _ (List.mem_of_getElem? (i:=0) rfl)) (i:=(a).toNat) (m':=8) (by omega)) hx11
  refine V U U (AG (p:=AA (EF A1 c2 ((a).toNat) 1)+i*1) U GV U U (by omega) (by omega) th12 U) (V U U (Aj U Z8 U (H.elX (fun F hA hR=>Ko (hR _ (List.mem_of_getElem? (i:=0) U)) (i:=(a).toNat) (m':=8) (by omega)) hx11 (q:=0) U U)) (Ab U (Aa (Y ?_))))
  have hx8:=UInt8.toNat_lt x10
  have hm7:EM (((bs.drop (a).toNat).take 8).take i)<72057594037927936:=Nat.lt_of_lt_of_le hlt (Nat.le_trans (Nat.pow_le_pow_right (by omega) (show _≤7 by omega)) (by decide))
  refine Ac (Ab U (V U U (YI (z:=((EM (((bs.drop (a).toNat).take 8).take i)*256:Nat):Int)) U U U (by omega) (Zv hm7)) (Ab U (V U U (CW (z:=((x10.toNat:Nat):Int)) U U Ge Fv (D5 (by omega) (by omega))) (V U U (Yx (z:=((EM (((bs.drop (a).toNat).take 8).take i)*256+x10.toNat:Nat):Int)) U (by simp) U U (Xw hm7 _)) (Ab U (Aa (AS (Y (Ac (V U U (AP (z:=((i+1:Nat):Int)) U U U (by rw [Ay (by omega) (by omega)];omega)) (Ab U (Aa ?_)))))))))))))
  have hst:=YM hx11
  exact Bb (s:=i) (i+1) ⟨rfl,rfl,rfl,rfl,(by (try dsimp only);rw [hst];rfl),rfl,rfl,rfl,trivial⟩ ⟨H,by (try dsimp only);omega⟩ (by (try dsimp only);omega)
 refine Bj (AE (AE (Bk (Y (Z (Ac (Ab U (V U U (CW (z:=IntKind.i64.wrap ((EM ((bs.drop (a).toNat).take 8):Nat):Int)) U U Fv Dl (by rw [List.take_of_length_le (by rw [List.length_take];omega)])) (Ab U (V U U (AP (z:=a+8) U U U (Ay (by omega) (by omega))) (Ad 3 U (Aa (Y (Ai (EV U U U U ?_)))))))))))))))
 have e:=MP (b:=bs) (at_:=a) (by omega)
 exact Ag ⟨by rw [e]<;>rfl,rfl⟩ H
theorem Ra (vb:Value) (bs:List UInt8) (a:Int) (hb:bs.length≤1000000) (ha:AF a):
    Cn Tryz.prog 204 [vb,.int .i64 a] [] [Af Cx vb bs] (fun v Bs=>v=.tuple #[.string ((E_ bs a).1),.int .i64 ((E_ bs a).2.1),.bool ((E_ bs a).2.2)]∧Bs=[]):=by
 intro w0 F0 H
 obtain ⟨A1,c2,rfl,hc3,hm4,hp5⟩:=H.fR 0 rfl
 refine enter Tryz.func204 U U (Nat.le_of_ble_eq_true U) (Z (Ac (Ad 3 U (Aa (Y (Z (Ac (Ad 2 U (sc (Q_ (.slice A1 bs.length c2) bs a (by first |assumption|omega) (by first |assumption|omega)) H (lR 0 U l0) U U (At Pq U U) ?_)))))))))
 rintro _ _ w ⟨rfl,rfl⟩ H
 refine Ad 7 U (Aa (Y (Z (Z ?_))))
 have hi6:=@YN bs a
 have hin:=@YO bs a
 refine Ac (Ab U (V U U (E9 U U U) (Ab U ?_)))
 refine EC (d:=19) (b:=!((Co bs a).2.2)) U (fun h6=>?_) (fun h6=>?_)
 ·refine Ad 11 U (Aa (Y (BM U (Z (Ac (Ad 3 U (Aa (Y (Ai (Ao (EV U U U U ?_)))))))))))
  have e:=YP (b:=bs) (at_:=a) (by simpa using h6)
  exact Ag ⟨by rw [e]<;>rfl,rfl⟩ H
 have hii:=hin (by simpa using h6)
 refine Ab U (V U U (AQ U U U) (Ad 2 U ?_))
 refine AD (d:=23) U (fun h7=>?_) (fun h7=>?_)
 ·refine Ad 7 U (Aa (Y (BM U (Z (Ac (Ad 3 U (Aa (Y (Ai (Ao (EV U U U U ?_)))))))))))
  have e:=(MQ (b:=bs) (at_:=a) (by simpa using h6)).trans (if_pos (by omega))
  exact Ag ⟨by rw [e]<;>rfl,rfl⟩ H
 refine Ad 2 U (V U U (AO U GA U) (Ab U (V U U (Cm (z:=((bs.length:Nat):Int) - ((Co bs a).2.1)) U U U (Ay (by omega) (by omega))) (V U U (BP U U U) (Ab U (Aa (Y ?_)))))))
 refine Aq U (fun h8=>?_) (fun h8=>?_)
 ·refine Z (Ac (Ad 3 U (Aa (Y (Ai (Ao (EV U U U U ?_)))))))
  have e:=(MQ (b:=bs) (at_:=a) (by simpa using h6)).trans (if_pos (by omega))
  exact Ag ⟨by rw [e]<;>rfl,rfl⟩ H
 refine Av (Y (Z (Ac (Ad 4 U (V U U (AP (z:=((Co bs a).2.1)+((Co bs a).1)) U U U (Ay (by omega) (by omega))) (V U U (Q2 (i':=((Co bs a).2.1).toNat) (j':=((Co bs a).2.1+(Co bs a).1).toNat) (m':=((Co bs a).1).toNat) U GV U U U (by omega) (by omega) (by omega) U U (by omega)) (V U U (H.read fun F hA hR=>Q1 U GA Ge BJ U U (Ko (hR _ (List.mem_of_getElem? (i:=0) U)) (i:=((Co bs a).2.1).toNat) (m':=((Co bs a).1).toNat) (by omega))) (Ad 2 U (V U U (AP (z:=((Co bs a).2.1)+((Co bs a).1)) U U U (Ay (by omega) (by omega))) (Ad 3 U (Aa (Y (Ai (EV U U U U ?_))))))))))))))
 have e:=(MQ (b:=bs) (at_:=a) (by simpa using h6)).trans (if_neg (by omega))
 exact Ag ⟨by rw [e]<;>rfl,rfl⟩ H
theorem XM (vps:Value) (ps:List An) (hl:ps.length≤1000) (hsz:∀ p∈ps,p.key.size≤100∧p.val.size≤100):
    Cn Tryz.prog 97 [vps] [] [Af Al vps ps] (fun v Bs=>v=.string (Bu ps)∧Bs=[]):=by
 intro w0 F0 H
 obtain ⟨A1,c2,rfl,hc3,hm4,hp5⟩:=H.fR 0 rfl
 refine enter Tryz.func97 U U (Nat.le_of_ble_eq_true U) (Z (Ac (Ab U (Aa (Y (Z (Ac (Ab U (V U U (AO U B_ U) (sc (NU (.slice none 0 0) [] ps.length (by first |assumption|omega|(simp only [List.length_nil];omega)) (by first |assumption|omega|(simp only [List.length_nil];omega))) H (lX (fun F _ _=>IY _ _ F trivial (by decide)) l0) U U (At Pi U U) ?_))))))))))
 rintro v6 _ w rfl H
 refine Ab U (Aa (Y (Z (Z (Ac (Ab U (V U U (AO U B_ U) (Ab U (Aa (Y (AK ?_)))))))))))
 replace H:Hd w0 F0 w [Ae Cx v6 (Ct ps.length++CC (ps.take 0))] [Af Al (.slice A1 ps.length c2) ps]:=by rw [List.take_zero];simpa [CC] using H
 refine Br (σ:=Nat×Value) (fun (i,q)=>[(2,.string ⟨#[]⟩),(3,q),(9,.slice A1 ps.length c2),(10,.int .i64 ((ps.length:Nat):Int)),(11,.int .i64 ((i:Nat):Int))]) (fun (i,q) w=>(Hd w0 F0 w [Ae Cx q (Ct ps.length++CC (ps.take i))] [Af Al (.slice A1 ps.length c2) ps])∧(i≤ps.length)) (fun (i,q)=>ps.length - i) (0,v6) ⟨rfl,rfl,rfl,rfl,rfl,trivial⟩ ⟨H,Nat.zero_le _⟩ ?_
 rintro ⟨i,q⟩ w ⟨H,hi⟩
 have hpl:=MC (ps:=ps.take i) (fun p hp=>hsz p (List.mem_of_mem_take hp))
 have hpi:(ps.take i).length≤i:=by rw [List.length_take];omega
 have hbl:(Ct ps.length++CC (ps.take i)).length=8+(CC (ps.take i)).length:=by rw [List.length_append,Fy]
 refine Z (Ac (V U U (AQ U U U) (Aa (Y (Z ?_)))))
 refine Aq U (fun h7=>?_) (fun h7=>?_)
 ·refine Av (Y (Z (AK (Z (Ac ?_)))))
  obtain ⟨x8,hx9⟩:∃ z9,ps[i]?=some z9:=⟨_,List.getElem?_eq_getElem (show i<ps.length by omega)⟩
  have th10:=H.thR 0 rfl hx9
  refine V U U (AG (p:=AA A1+i*2) U Bq U U (by omega) (by omega) th10 U) (V U U (Bp (cs:=[.string x8.key,.string x8.val]) U B8 U U (H.elsR 0 U hx9 U)) (Do U U U CJ H (fun b11 w H=>(By U U U B8 U U H U (Nat.le_of_ble_eq_true U) (fun u hu=>by simp [Value.cells] at hu;rcases hu with rfl|rfl<;>rfl) (fun w H=>(Aa (Y ?_)))))))
  have hxs:=hsz _ (Bl hx9)
  have htk:=If x8.key
  have hbl2:((Ct ps.length++CC (ps.take i))++Da x8.key).length=(Ct ps.length++CC (ps.take i)).length+(Da x8.key).length:=List.length_append
  refine BD (.e 0 (.e 1 (.e 2 (.e 4 (.e 5 (.m 3 (.m 6 (.e 7 .z)))))))) (fun w=>∃ Ar,Hd w0 F0 w (blk b11 [.string x8.key,.string x8.val] 106::Ae Cx q (Ct ps.length++CC (ps.take i))::Ar) [Af Al (.slice A1 ps.length c2) ps]) mo (by kernel_rfl) (fun w H=>⟨_,H⟩) H (fun w H=>(Ap U (Ak U U U (fun w ⟨Ar,H⟩=>Ah U DO U) (Ak U U U (fun w ⟨Ar,H⟩=>Aj U Bd U (H.cellI 0 U U)) (Ak U U U (fun w ⟨Ar,H⟩=>Ah U Gm U) (Ak U U U (fun w ⟨Ar,H⟩=>Aj U Bd U (H.cellI 0 U U)) (AL U (sc (NV q (Ct ps.length++CC (ps.take i)) x8.key (by first |assumption|omega|(simp only [List.length_nil];omega)) (by first |assumption|omega|(simp only [List.length_nil];omega))) H (lA 1 U BI l0) U U (At Pj U U) ?_))))))))
  rintro v12 _ w rfl H
  replace H:=H.p2|>.p2
  refine AH ⟨_,H⟩ (AL U (sc (NV v12 ((Ct ps.length++CC (ps.take i))++Da x8.key) x8.val (by first |assumption|omega|(simp only [List.length_nil];omega)) (by first |assumption|omega|(simp only [List.length_nil];omega))) H (lA 2 U BI l0) U U (At Pj U U) ?_))
  rintro v13 _ w rfl H
  replace H:=H.p2|>.p2
  refine AH ⟨_,H⟩ (Ap U (Bx (AS (Y (Ac (V U U (AP (z:=((i+1:Nat):Int)) U U U (by rw [Ay (by omega) (by omega)];omega)) (Ab U (Aa ?_))))))))
  replace H:=H.p2.k1
  replace H:Hd w0 F0 w [Ae Cx v13 (Ct ps.length++CC (ps.take (i+1)))] [Af Al (.slice A1 ps.length c2) ps]:=by rw [DV hx9,Qy,←List.append_assoc,←List.append_assoc];exact H
  exact Bb (s:=(i,undef)) (i+1,v13) ⟨rfl,rfl,rfl,rfl,rfl,trivial⟩ ⟨H,by (try dsimp only);omega⟩ (by (try dsimp only);omega)
 refine Bj (AE (AE (Bk (Y (Z (Ac (Ab U ?_)))))))
 obtain ⟨A14,c15,rfl,hc16,hm17,hp18⟩:=H.fA 0 rfl
 refine V U U (H.read fun F hA hR=>Q1 U GA Ge BJ U U (BI F (hA _ (List.mem_of_getElem? (i:=0) U)))) (Ab U (Aa (Y (Ai (Am U U ?_)))))
 replace H:=H.nil
 have e:ps.take i=ps:=List.take_of_length_le (by omega)
 exact Ag ⟨by rw [e];rfl,rfl⟩ H
theorem aD (ps:List An) (hl:ps.length≤1000) (hsz:∀ p∈ps,p.key.size≤100∧p.val.size≤100):
    Cn Tryz.prog 167 [.string (Bu ps)] [] [] (fun v Bs=>Bs=[Ae Al v ps]):=by
 intro w0 F0 H
 have hps:=XI hsz hl
 have hbb:(Cu (Bu ps)).length≤300000:=by rw [Gj];exact hps
 have h064:AF (0:Int):=by unfold AF;omega
 refine enter Tryz.func167 U U (Nat.le_of_ble_eq_true U) (Z (Ac (Ab U (Aa (Y (Z (Ac (Ab U (Zr U U U BJ GA Ge U (by omega) H (fun b1 c2 w hc3 hc4 H=>(Ab U (Aa (Y (Z (Ac (Ab U (sc (Q_ (.slice (some ⟨b1,0,none⟩) ((Bu ps).size) c2) (Cu (Bu ps)) 0 (by first |assumption|omega|(simp only [List.length_nil];omega)) (by first |assumption|omega|(simp only [List.length_nil];omega))) H (lR 0 U l0) U U (At Pq U U) ?_)))))))))))))))))
 rintro _ _ w ⟨rfl,rfl⟩ H
 have hq:Co (Cu (Bu ps)) 0=(((ps.length:Nat):Int),8,true):=by rw [MD];exact XK (by omega)
 rw [hq]
 refine Ad 7 U (Aa (Y (Z (Ac (Ab U (Aa (Y (Z (Z (Ac (Ad 2 U (Aa (Y (AK ?_))))))))))))))
 replace H:=H.newnil Al
 replace H:Hd w0 F0 w [Ae Al (.slice none 0 0) (ps.take 0)] [Af Cx (.slice (some ⟨b1,0,none⟩) ((Bu ps).size) c2) (Cu (Bu ps))]:=by rw [List.take_zero];exact H
 refine Br (σ:=Nat×Value) (fun (i,q)=>[(2,.slice none 0 0),(3,.slice (some ⟨b1,0,none⟩) ((Bu ps).size) c2),(5,.int .i64 ((Dy ps i:Nat):Int)),(7,q),(17,.int .i64 ((ps.length:Nat):Int)),(18,.int .i64 ((i:Nat):Int))]) (fun (i,q) w=>(Hd w0 F0 w [Ae Al q (ps.take i)] [Af Cx (.slice (some ⟨b1,0,none⟩) ((Bu ps).size) c2) (Cu (Bu ps))])∧(i≤ps.length)) (fun (i,q)=>ps.length - i) (0,.slice none 0 0) ⟨rfl,rfl,rfl,rfl,rfl,rfl,trivial⟩ ⟨H,Nat.zero_le _⟩ ?_
 rintro ⟨i,q⟩ w ⟨H,hi⟩
 have htl:(ps.take i).length≤i:=by rw [List.length_take];omega
 refine Z (Ac (V U U (AQ U U U) (Aa (Y (Z ?_)))))
 refine Aq U (fun h5=>?_) (fun h5=>?_)
 ·refine Av (Y (Z (AK (Z (Ac (Do U U U CJ H (fun b6 w H=>(Aa (Y (Z ?_))))))))))
  obtain ⟨x7,hx8⟩:∃ z9,ps[i]?=some z9:=⟨_,List.getElem?_eq_getElem (show i<ps.length by omega)⟩
  have hxs:=hsz _ (Bl hx8)
  have hkey:E_ (Cu (Bu ps)) ((Dy ps i:Nat):Int)=(x7.key,((Dy ps i+8+x7.key.size:Nat):Int),true):=by rw [MD];exact XJ hx8 (by omega)
  have hval:E_ (Cu (Bu ps)) ((Dy ps i+8+x7.key.size:Nat):Int)=(x7.val,((Dy ps (i+1):Nat):Int),true):=by rw [MD];exact XL hx8 (by omega)
  have hpa:Dy ps i≤300000:=XG hsz hl i
  have hi64:AF ((Dy ps i:Nat):Int):=by unfold AF;omega
  have hj64:AF ((Dy ps i+8+x7.key.size:Nat):Int):=by unfold AF;omega
  refine Ac (Ad 2 U (sc (Ra (.slice (some ⟨b1,0,none⟩) ((Bu ps).size) c2) (Cu (Bu ps)) ((Dy ps i:Nat):Int) (by first |assumption|omega|(simp only [List.length_nil];omega)) (by first |assumption|omega|(simp only [List.length_nil];omega))) H (lR 0 U l0) U U (At Pr U U) ?_))
  rintro _ _ w ⟨rfl,rfl⟩ H
  rw [hkey]
  refine Ad 4 U (V U U (Ah U DO U) (By U U U Bd U U H U (Nat.le_of_ble_eq_true U) (fun u hu=>by simp [Value.cells] at hu;subst hu;rfl) (fun w H=>(Ab U (Aa (Y (Z (Ac (Ad 2 U (sc (Ra (.slice (some ⟨b1,0,none⟩) ((Bu ps).size) c2) (Cu (Bu ps)) ((Dy ps i+8+x7.key.size:Nat):Int) (by first |assumption|omega|(simp only [List.length_nil];omega)) (by first |assumption|omega|(simp only [List.length_nil];omega))) H (lR 0 U l0) U U (At Pr U U) ?_))))))))))
  rintro _ _ w ⟨rfl,rfl⟩ H
  rw [hval]
  refine Ad 4 U (V U U (Ah U Gm U) (By U U U Bd U U H U (Nat.le_of_ble_eq_true U) (fun u hu=>by simp [Value.cells] at hu;subst hu;rfl) (fun w H=>(Ab U (Aa (Y (Ac (Ab U (V U U (Bp (cs:=[.string x7.key,.string x7.val]) U B8 U U (H.cellsI 0 U U)) (Bv (parts:=[(0,.tmp 37)]) (vs:=[.agg #[.string x7.key,.string x7.val]]) (cs:=[.string x7.key,.string x7.val]) U U U Bq CJ U (by decide) (by decide) U U H (fun b9 w H=>?_)))))))))))
  replace H:=H.p2
  refine BY (xs:=ps.take i) (ys:=[x7]) U U U Bq CJ U (by decide) U U H (by first |omega|(simp only [List.length_append,List.length_cons,List.length_nil];omega)) (fun F hA hR=>BZ (hA _ (List.mem_of_getElem? (i:=0) U)) U (by decide) (AX.flat_eq.2 U)) (fun v10 w H=>(Ab U (Aa (AS (Y (Ac (V U U (AP (z:=((i+1:Nat):Int)) U U U (by rw [Ay (by omega) (by omega)];omega)) (Ab U (Aa ?_)))))))))
  replace H:=H.k1
  replace H:Hd w0 F0 w [Ae Al v10 (ps.take (i+1))] [Af Cx (.slice (some ⟨b1,0,none⟩) ((Bu ps).size) c2) (Cu (Bu ps))]:=by rw [DV hx8];exact H
  exact Bb (s:=(i,undef)) (i+1,v10) ⟨rfl,rfl,rfl,rfl,rfl,rfl,trivial⟩ ⟨H,by (try dsimp only);omega⟩ (by (try dsimp only);omega)
 refine Bj (AE (AE (Bk (Y (Z (Ac (Ad 2 U (Aa (Y (Ai (Am U U ?_)))))))))))
 replace H:Hd w0 F0 w [Ae Al q ps] [Af Cx (.slice (some ⟨b1,0,none⟩) ((Bu ps).size) c2) (Cu (Bu ps))]:=by rw [List.take_of_length_le (by omega)] at H;exact H
 replace H:=H.dropR
 exact Ag U H
theorem P2 (b:Nat) (vS:Value) (vM:Value) (vC:Value) (vR:Value) (vK:Value) (J:AR) (cw:Int) (ct:Int) (co:Int) (s:Nat) (att:Int) (cb:Nat) (fv:Value) (vw:Value):
    Cn Tryz.prog 32 [.pointer (some ⟨b,0,none⟩)] [blk cb [.int .u32 1,.int .i32 0,.int .u32 0,.int .u32 1,fv,.string (Bu (AB dg J s).1)] 234] [blk b [vS,.int .i64 J.parts,vM,vC,vR,.int .i64 J.chunk,.int .i64 J.window,.int .i64 J.fuel,vK,.int .i64 cw,.int .i64 ct,.int .i64 co,.int .i64 ((s:Nat):Int),.int .i64 att,.int .i64 ((AB dg J s).2),.pointer (some ⟨cb,0,none⟩),vw] 164] (fun v Bs=>v=.int .i64 ((AB dg J s).2)∧Bs=[blk cb [.int .u32 1,.int .i32 0,.int .u32 0,.int .u32 1,fv,.string (Bu (AB dg J s).1)] 234]):=by
 intro w0 F0 H
 refine enter Tryz.func32 U U (Nat.le_of_ble_eq_true U) (Z (Ac (Ab U (Aa (Y (Z (Z (Ac (Ab U (V U U (Dh U Fe U U) (Aa (Y (B0 U (Av (Y (Z (Ac (Ab U (V U U (AI U U) (V U U (Ah U Jx U) (V U U (Aj U DA U (H.cellRI 0 U U)) (sc (LX cb fv (Bu (AB dg J s).1)) H l0 U U (At Iz U U) ?_))))))))))))))))))))))
 rintro _ _ w ⟨rfl,rfl⟩ H
 exact Aa (Y (Z (Ac (Ab U (V U U (AI U U) (V U U (Ah U LK U) (V U U (Aj U Aw U (H.cellRI 0 U U)) (Ab U (Aa (Y (Ai (Am U U (Ag ⟨rfl,rfl⟩ H)))))))))))))
theorem Ml (b:Nat) (vS:Value) (vM:Value) (vC:Value) (vR:Value) (vK:Value) (J:AR) (cw:Int) (ct:Int) (co:Int) (s:Nat) (att:Int) (cb:Nat) (fv:Value) (vw:Value) (p:Int) (hJ:B3 J):
    Cn Tryz.prog 106 [.pointer (some ⟨b,0,none⟩),.int .i64 p] [blk cb [.int .u32 1,.int .i32 0,.int .u32 0,.int .u32 1,fv,.string (Bu (AB dg J s).1)] 234] [blk b [vS,.int .i64 J.parts,vM,vC,vR,.int .i64 J.chunk,.int .i64 J.window,.int .i64 J.fuel,vK,.int .i64 cw,.int .i64 ct,.int .i64 co,.int .i64 ((s:Nat):Int),.int .i64 att,.int .i64 ((AB dg J s).2),.pointer (some ⟨cb,0,none⟩),vw] 164] (fun v Bs=>Bs=[Ae Al v (BE dg J s p),blk cb [.int .u32 1,.int .i32 0,.int .u32 0,.int .u32 1,fv,.string (Bu (AB dg J s).1)] 234]):=by
 intro w0 F0 H
 have hlen:(AB dg J s).1.length≤1000:=by have:=Hl dg J s;omega
 have hszs:∀ p∈(AB dg J s).1,p.key.size≤100∧p.val.size≤100:=fun x hx=>by have:=Id Gu hJ s x hx;unfold CG at this;omega
 have hsk:∀ x∈(AB dg J s).1,x.key.size≤9223372036854775807:=fun x hx=>by have:=(hszs x hx).1;omega
 have hpt:=hJ.parts
 have hck:=hJ.chunk1
 have hol:=GQ dg J s
 refine enter Tryz.func106 U U (Nat.le_of_ble_eq_true U) (Z (Ac (Ab U (Aa (Y (Z (BD (.e 0 (.e 1 (.e 2 (.e 3 (.e 6 (.e 7 (.e 8 (.e 9 (.e 10 (.e 11 (.e 12 (.m 4 (.m 5 (.m 13 (.e 14 .z))))))))))))))) (fun w=>∃ Ar,Hd w0 F0 w (blk cb [.int .u32 1,.int .i32 0,.int .u32 0,.int .u32 1,fv,.string (Bu (AB dg J s).1)] 234::Ar) [blk b [vS,.int .i64 J.parts,vM,vC,vR,.int .i64 J.chunk,.int .i64 J.window,.int .i64 J.fuel,vK,.int .i64 cw,.int .i64 ct,.int .i64 co,.int .i64 ((s:Nat):Int),.int .i64 att,.int .i64 ((AB dg J s).2),.pointer (some ⟨cb,0,none⟩),vw] 164]) mo (by kernel_rfl) (fun w H=>⟨_,H⟩) H (fun w H=>(Ap U (Ak U U U (fun w ⟨Ar,H⟩=>AI U U) (Ak U U U (fun w ⟨Ar,H⟩=>Ah U Jx U) (Ak U U U (fun w ⟨Ar,H⟩=>Aj U DA U (H.cellRI 0 U U)) (Ap U (Ak U U U (fun w ⟨Ar,H⟩=>AI U U) (Ak U U U (fun w ⟨Ar,H⟩=>Ah U Jw U) (Ak U U U (fun w ⟨Ar,H⟩=>Ah U CP U) (Ak U U U (fun w ⟨Ar,H⟩=>Ah U G9 U) (Ak U U U (fun w ⟨Ar,H⟩=>Aj U Aw U (H.cellRI 0 U U)) (Ap U (AL U (sc (LX cb fv (Bu (AB dg J s).1)) H l0 U U (At Iz U U) ?_)))))))))))))))))))))
 rintro _ _ w ⟨rfl,rfl⟩ H
 refine AH ⟨_,H⟩ (AL U (sc (aD ((AB dg J s).1) (by first |assumption|omega|exact hlen|exact hszs) (by first |assumption|omega|exact hlen|exact hszs)) H l0 U U (At Vd U U) ?_))
 rintro v1 _ w rfl H
 replace H:=H.p1
 refine AH ⟨_,H⟩ (AL U (sc (Xn v1 ((AB dg J s).1) J.parts p (by first |omega|(rw [Ky];omega)) (by omega) (by assumption)) H (lA 1 U BI l0) U U (At U8 U U) ?_))
 rintro v2 _ w rfl H
 replace H:=H.p1
 refine AH ⟨_,H⟩ (Ap U (Bx (Y (Ai (Am U U ?_)))))
 replace H:=H.p1.k2
 exact Ag U H
theorem Mm (b:Nat) (vS:Value) (vM:Value) (vC:Value) (vR:Value) (vK:Value) (J:AR) (cw:Int) (ct:Int) (co:Int) (s:Nat) (att:Int) (cb:Nat) (vw:Value) (hJ:B3 J):
    Cn Tryz.prog 107 [.pointer (some ⟨b,0,none⟩)] [] [blk b [vS,.int .i64 J.parts,vM,vC,vR,.int .i64 J.chunk,.int .i64 J.window,.int .i64 J.fuel,vK,.int .i64 cw,.int .i64 ct,.int .i64 co,.int .i64 ((s:Nat):Int),.int .i64 att,.int .i64 ((AB dg J s).2),.pointer (some ⟨cb,0,none⟩),vw] 164] (fun v Bs=>v=.int .i64 (CA J.chunk att)∧Bs=[]):=by
 intro w0 F0 H
 have hck:=hJ.chunk1
 refine enter Tryz.func107 U U (Nat.le_of_ble_eq_true U) (Z (Ac (Ab U (Aa (Y (Z (BD (.e 0 (.e 1 (.e 2 (.e 3 (.e 4 (.e 5 (.e 6 (.e 7 (.e 8 (.e 9 (.m 10 (.e 11 .z)))))))))))) (fun w=>∃ Ar,Hd w0 F0 w (Ar) [blk b [vS,.int .i64 J.parts,vM,vC,vR,.int .i64 J.chunk,.int .i64 J.window,.int .i64 J.fuel,vK,.int .i64 cw,.int .i64 ct,.int .i64 co,.int .i64 ((s:Nat):Int),.int .i64 att,.int .i64 ((AB dg J s).2),.pointer (some ⟨cb,0,none⟩),vw] 164]) mo (by kernel_rfl) (fun w H=>⟨_,H⟩) H (fun w H=>(Ap U (Ak U U U (fun w ⟨Ar,H⟩=>AI U U) (Ak U U U (fun w ⟨Ar,H⟩=>Ah U Jw U) (Ak U U U (fun w ⟨Ar,H⟩=>Ah U CP U) (Ak U U U (fun w ⟨Ar,H⟩=>Ah U JC U) (Ak U U U (fun w ⟨Ar,H⟩=>Aj U Aw U (H.cellRI 0 U U)) (Ap U (Ak U U U (fun w ⟨Ar,H⟩=>AI U U) (Ak U U U (fun w ⟨Ar,H⟩=>Ah U Ox U) (Ak U U U (fun w ⟨Ar,H⟩=>Aj U Aw U (H.cellRI 0 U U)) (AL U (sc (Tw J.chunk att (by first |assumption|omega|exact hlen|exact hszs)) H l0 U U (At Ve U U) ?_))))))))))))))))))))
 rintro _ _ w ⟨rfl,rfl⟩ H
 exact AH ⟨_,H⟩ (Ap U (Bx (Y (Ai (Am U U (Ag ⟨rfl,rfl⟩ H))))))
theorem Ws (b:Nat) (vS:Value) (vM:Value) (vC:Value) (vR:Value) (vK:Value) (J:AR) (cw:Int) (ct:Int) (co:Int) (s:Nat) (att:Int) (cb:Nat) (fv:Value) (vw:Value) (hJ:B3 J):
    Cn Tryz.prog 30 [.pointer (some ⟨b,0,none⟩)] [blk cb [.int .u32 1,.int .i32 0,.int .u32 0,.int .u32 1,fv,.string (Bu (AB dg J s).1)] 234] [blk b [vS,.int .i64 J.parts,vM,vC,vR,.int .i64 J.chunk,.int .i64 J.window,.int .i64 J.fuel,vK,.int .i64 cw,.int .i64 ct,.int .i64 co,.int .i64 ((s:Nat):Int),.int .i64 att,.int .i64 ((AB dg J s).2),.pointer (some ⟨cb,0,none⟩),vw] 164] (fun v Bs=>Bs=[Ae (AN .i64) v (BO dg J s att),blk cb [.int .u32 1,.int .i32 0,.int .u32 0,.int .u32 1,fv,.string (Bu (AB dg J s).1)] 234]):=by
 intro w0 F0 H
 have hlen:(AB dg J s).1.length≤1000:=by have:=Hl dg J s;omega
 have hszs:∀ p∈(AB dg J s).1,p.key.size≤100∧p.val.size≤100:=fun x hx=>by have:=Id Gu hJ s x hx;unfold CG at this;omega
 have hsk:∀ x∈(AB dg J s).1,x.key.size≤9223372036854775807:=fun x hx=>by have:=(hszs x hx).1;omega
 have hpt:=hJ.parts
 have hck:=hJ.chunk1
 have hol:=GQ dg J s
 refine enter Tryz.func30 U U (Nat.le_of_ble_eq_true U) (Z (Ac (Ab U (Aa (Y (Z (Z (Ac (Ab U (V U U (Dh U Fe U U) (Ad 2 U (sc (P2 b vS vM vC vR vK J cw ct co s att cb fv vw) H (lR 0 U l0) U U (At Mf U U) ?_))))))))))))
 rintro _ _ w ⟨rfl,rfl⟩ H
 refine V U U (CL U U U) (Ab U (Aa (Y ?_)))
 refine Aq U (fun h1=>?_) (fun h1=>?_)
 ·refine Z (Ac (Ab U (Aa (Y (Ai (Ao (Am U U ?_)))))))
  replace H:=H.newnil (AN .i64)|>.tellK (ys:=BO dg J s att) (by rw [Lp h1])|>.h1 (A:=Ae (AN .i64) (.slice none 0 0) (BO dg J s att))
  exact Ag U H
 refine Av (Y (Z (Ac (Ab U (Aa (Y (Z (Z (Ac (Ab U (V U U (AI U U) (V U U (Ah U Jw U) (V U U (Ah U CP U) (V U U (Ah U G9 U) (V U U (Aj U Aw U (H.cellRI 0 U U)) (Ab U (Aa (Y (AK ?_)))))))))))))))))))
 replace H:=H.newnil (AN .i64)|>.tellK (ys:=D9 dg J s att 0) (by rfl)
 refine Br (σ:=Nat×Value) (fun (k,q)=>[(0,.pointer (some ⟨b,0,none⟩)),(2,.slice none 0 0),(3,q),(17,.int .i64 J.parts),(18,.int .i64 ((k:Nat):Int))]) (fun (k,q) w=>(Hd w0 F0 w [Ae (AN .i64) q (D9 dg J s att k),blk cb [.int .u32 1,.int .i32 0,.int .u32 0,.int .u32 1,fv,.string (Bu (AB dg J s).1)] 234] [blk b [vS,.int .i64 J.parts,vM,vC,vR,.int .i64 J.chunk,.int .i64 J.window,.int .i64 J.fuel,vK,.int .i64 cw,.int .i64 ct,.int .i64 co,.int .i64 ((s:Nat):Int),.int .i64 att,.int .i64 ((AB dg J s).2),.pointer (some ⟨cb,0,none⟩),vw] 164])∧((k:Int)≤J.parts)) (fun (k,q)=>J.parts.toNat - k) (0,.slice none 0 0) ⟨rfl,rfl,rfl,rfl,rfl,trivial⟩ ⟨H,by omega⟩ ?_
 rintro ⟨k,q⟩ w ⟨H,hk⟩
 have hcl:=Lm dg J s att k
 have holk:=hol ((k:Nat):Int)
 refine Z (Ac (V U U (AQ U U U) (Aa (Y (Z ?_)))))
 refine Aq U (fun h2=>?_) (fun h2=>?_)
 ·refine Av (Y (Z (AK (Z (Ac (Ad 2 U (Aa (Y (Ac (Ad 3 U ?_))))))))))
  replace H:=H.p1
  refine sc (Ml b vS vM vC vR vK J cw ct co s att cb fv vw ((k:Nat):Int) (by first |assumption|omega|exact hlen|exact hszs)) H (lR 0 U l0) U U (At L8 U U) ?_
  rintro v3 _ w rfl H
  obtain ⟨A4,c5,rfl,hc6,hm7,hp8⟩:=H.fA 0 rfl
  refine V U U (AO U B_ U) (Ab U (sc (Mm b vS vM vC vR vK J cw ct co s att cb vw (by first |assumption|omega|exact hlen|exact hszs)) H (lR 0 U l0) U U (At L9 U U) ?_))
  rintro _ _ w ⟨rfl,rfl⟩ H
  refine sc (Lr (((BE dg J s ((k:Nat):Int)).length:Nat):Int) (CA J.chunk att) (by first |assumption|omega|exact hlen|exact hszs)) H l0 U U (At L7 U U) ?_
  rintro _ _ w ⟨rfl,rfl⟩ H
  refine Bv (parts:=[(0,.tmp 28)]) (vs:=[.int .i64 (CK (((BE dg J s ((k:Nat):Int)).length:Nat):Int) (CA J.chunk att))]) (cs:=[.int .i64 (CK (((BE dg J s ((k:Nat):Int)).length:Nat):Int) (CA J.chunk att))]) U U U CZ EQ U (by decide) (by decide) U U H (fun b9 w H=>?_)
  replace H:=H.p3
  refine BY (xs:=D9 dg J s att k) (ys:=[CK (((BE dg J s ((k:Nat):Int)).length:Nat):Int) (CA J.chunk att)]) U U U CZ EQ U (by decide) U U H (by first |omega|(simp only [List.length_append,List.length_cons,List.length_nil];omega)) (fun F hA hR=>BZ (hA _ (List.mem_of_getElem? (i:=0) U)) U (by decide) (AX.flat_eq.2 U)) (fun v10 w H=>(Ab U (Aa (AS (Y (Ac (V U U (AP (z:=((k+1:Nat):Int)) U U U (by rw [Ay (by omega) (by omega)];omega)) (Ab U (Aa ?_)))))))))
  replace H:=H.p3.p1.k2.tellK (ys:=D9 dg J s att (k+1)) (by rw [Ln])
  exact Bb (s:=(k,undef)) (k+1,v10) ⟨rfl,rfl,rfl,rfl,rfl,trivial⟩ ⟨H,by (try dsimp only);omega⟩ (by (try dsimp only);omega)
 refine Bj (AE (AE (Bk (Y (Z (Ac (Ad 2 U (Aa (Y (Ai (Am U U ?_)))))))))))
 have hkk:k=J.parts.toNat:=by omega
 replace H:=H.tellK (ys:=BO dg J s att) (by rw [Lq (Classical.not_not.1 h1),←hkk])
 exact Ag U H
theorem P1 (b:Nat) (vS:Value) (vM:Value) (vC:Value) (vR:Value) (vK:Value) (J:AR) (cw:Int) (ct:Int) (co:Int) (s:Nat) (att:Int) (cb:Nat) (fv:Value) (vw:Value) (p:Int) (q:Int) (hJ:B3 J):
    Cn Tryz.prog 41 [.pointer (some ⟨b,0,none⟩),.int .i64 p,.int .i64 q] [blk cb [.int .u32 1,.int .i32 0,.int .u32 0,.int .u32 1,fv,.string (Bu (AB dg J s).1)] 234] [blk b [vS,.int .i64 J.parts,vM,vC,vR,.int .i64 J.chunk,.int .i64 J.window,.int .i64 J.fuel,vK,.int .i64 cw,.int .i64 ct,.int .i64 co,.int .i64 ((s:Nat):Int),.int .i64 att,.int .i64 ((AB dg J s).2),.pointer (some ⟨cb,0,none⟩),vw] 164] (fun v Bs=>Bs=[Ae Al v (BF dg J s att p q),blk cb [.int .u32 1,.int .i32 0,.int .u32 0,.int .u32 1,fv,.string (Bu (AB dg J s).1)] 234]):=by
 intro w0 F0 H
 have hlen:(AB dg J s).1.length≤1000:=by have:=Hl dg J s;omega
 have hszs:∀ p∈(AB dg J s).1,p.key.size≤100∧p.val.size≤100:=fun x hx=>by have:=Id Gu hJ s x hx;unfold CG at this;omega
 have hsk:∀ x∈(AB dg J s).1,x.key.size≤9223372036854775807:=fun x hx=>by have:=(hszs x hx).1;omega
 have hpt:=hJ.parts
 have hck:=hJ.chunk1
 have hol:=GQ dg J s
 have hcs:=Ls (att:=att) hck
 have holp:=hol p
 refine enter Tryz.func41 U U (Nat.le_of_ble_eq_true U) (Z (Ac (Ab U (Aa (Y (Z (Z (Ac (Ab U (V U U (Dh U Fe U U) (Ad 2 U (V U U (AQ U U U) (Ab U (Aa (Y ?_)))))))))))))))
 refine Aq U (fun h1=>?_) (fun h1=>?_)
 ·refine Z (Ac (Ab U (Aa (Y (Ai (Ao (Am U U ?_)))))))
  replace H:=H.newnil Al
  replace H:=H.tellK (ys:=BF dg J s att p q) (by rw [show BF dg J s att p q=[] from if_pos h1])|>.h1 (A:=Ae Al (.slice none 0 0) (BF dg J s att p q))
  exact Ag U H
 refine Av (Y (Z (Ac (Ad 2 U (sc (Ml b vS vM vC vR vK J cw ct co s att cb fv vw p (by first |assumption|omega|exact hlen|exact hszs)) H (lR 0 U l0) U U (At L8 U U) ?_)))))
 rintro v2 _ w rfl H
 refine Ab U (sc (Mm b vS vM vC vR vK J cw ct co s att cb vw (by first |assumption|omega|exact hlen|exact hszs)) H (lR 0 U l0) U U (At L9 U U) ?_)
 rintro _ _ w ⟨rfl,rfl⟩ H
 refine Ab U (sc (Tu v2 (BE dg J s p) (CA J.chunk att) q (by first |assumption|omega|exact hlen|exact hszs) (by first |assumption|omega|exact hlen|exact hszs)) H (lA 0 U BI l0) U U (At U1 U U) ?_)
 rintro v3 _ w rfl H
 refine Ab U (Aa (Y (Ai (Am U U ?_))))
 replace H:=H.p2.p1.k2.tellK (ys:=BF dg J s att p q) (by rw [show BF dg J s att p q=C9 (BE dg J s p) (CA J.chunk att) q from if_neg h1])|>.h1 (A:=Ae Al v3 (BF dg J s att p q))
 exact Ag U H
theorem UC {w0 w:World} {F0:AV} {As Rs:List SP} (H:Hd w0 F0 w As Rs):Hd w0 F0 w (As++[]) Rs:=by rw [List.append_nil];exact H
theorem Xg {w0 w:World} {F0:AV} {As Rs:List SP} (H:Hd w0 F0 w (As++[]) Rs):Hd w0 F0 w As Rs:=by rw [List.append_nil] at H;exact H
set_option maxRecDepth 100000 in
theorem TM (c pl:Nat) (sm:Value) (md:Int) (fv:Value) (tx tx2:ByteArray) (Xs Ys Rs:List SP)
  (hcl:Cn Tryz.prog 170 [.pointer (some ⟨pl,0,none⟩)] (blk c [.int .u32 0,.int .i32 1,sm,.int .u32 md,fv,.string tx] 234::Xs) Rs (fun v Bs=>v=.tuple #[]∧Bs=blk c [.int .u32 0,.int .i32 1,sm,.int .u32 md,fv,.string tx2] 234::Ys)):
  Cn Tryz.prog 205 [.pointer (some ⟨c,0,none⟩),.func (.func 170) #[] #[.pointer (some ⟨pl,0,none⟩)]] (blk c [.int .u32 0,.int .i32 0,sm,.int .u32 md,fv,.string tx] 234::Xs) Rs (fun v Bs=>v=.tuple #[]∧Bs=blk c [.int .u32 1,.int .i32 0,sm,.int .u32 md,fv,.string tx2] 234::Ys):=by
 intro w F H
 have hnot:∀ (x:Bool) (w:World),(Op.unary .not (.bool x)).run Tryz.prog w=.ok (.bool (!x)) w:=fun _ _=>rfl
 go_enter_defers Tryz.func205,Tryz.ntmps205
 go_wp2_with (first
  |(go_at_call 241;refine (Fz (As:=Xs) (PV c 0 sm md fv tx) H l0).mono ?_;rintro e w1 ⟨v,rfl,Bs,⟨rfl,rfl⟩,H1⟩)
  |(go_at_call 144;refine (Fz (Cs:=[]) (JY c 1 sm md fv tx) H1 (lA 0 rfl (fun _ h=>h) l0)).mono ?_;rintro e w2 ⟨v,rfl,Bs,⟨rfl,rfl⟩,H2⟩)
  |(go_at_call 170;refine (Fz (As:=[]) hcl (UC H2) Mi).mono ?_;rintro e w3 ⟨v,rfl,Bs,⟨rfl,rfl⟩,H3n⟩;have H3:=Xg H3n))
 refine leaves_cons (f:=142) (args:=#[.pointer (some ⟨c,0,none⟩),.bool true]) (by simp) (by simp [go_sem]) ((Jl (As:=Ys) (R2 c 0 1 sm md fv tx2) H3 l0).mono ?_)
 rintro e u' w4 ⟨rfl,v,rfl,Bs,⟨rfl,rfl⟩,H4⟩
 refine leaves_cons (f:=242) (args:=#[.pointer (some ⟨c,1,none⟩)]) (by simp [settle]) (by simp [go_sem]) ((Jl (As:=Ys) (Sd c 1 sm md fv tx2) H4 l0).mono ?_)
 rintro e u' w5 ⟨rfl,v,rfl,Bs,⟨rfl,rfl⟩,H5⟩
 exact ⟨.tuple #[],by simp [results,Tryz.results205],.tuple #[],rfl,_,⟨rfl,rfl⟩,H5⟩
theorem Wy (b ba bb bc cb:Nat) (vS:Value) (vM:Value) (vC:Value) (vR:Value) (vK:Value) (J:AR) (cw ct co:Int) (s:Nat) (att:Int) (hJ:B3 J) (hs:s<J.us.length):
    Cn Tryz.prog 96 [.pointer (some ⟨ba,0,none⟩),.pointer (some ⟨bb,0,none⟩),.pointer (some ⟨bc,0,none⟩)] [blk b [vS,.int .i64 J.parts,vM,vC,vR,.int .i64 J.chunk,.int .i64 J.window,.int .i64 J.fuel,vK,.int .i64 cw,.int .i64 ct,.int .i64 co,.int .i64 ((s:Nat):Int),.int .i64 att,.int .i64 0,.pointer (some ⟨cb,0,none⟩),.slice none 0 0] 164] [blk ba [vS,.int .i64 J.parts,vM,vC,vR,.int .i64 J.chunk,.int .i64 J.window,.int .i64 J.fuel,vK,.int .i64 cw,.int .i64 ct,.int .i64 co] 28,blk bb [.int .i64 ((s:Nat):Int)] 3,blk bc [.pointer (some ⟨b,0,none⟩)] 44,Af (AU Al) vS J.us,Af Au vM J.map,Af Au vC J.comb,Af Au vR J.red,Af (AN .i64) vK J.marks,gl] (fun v Bs=>v=.string (Bu (AB dg J s).1)∧Bs=[blk b [vS,.int .i64 J.parts,vM,vC,vR,.int .i64 J.chunk,.int .i64 J.window,.int .i64 J.fuel,vK,.int .i64 cw,.int .i64 ct,.int .i64 co,.int .i64 ((s:Nat):Int),.int .i64 att,.int .i64 ((AB dg J s).2),.pointer (some ⟨cb,0,none⟩),.slice none 0 0] 164]):=by
 intro w0 F0 H
 have hlen:(AB dg J s).1.length≤1000:=by have:=Hl dg J s;omega
 have hszs:∀ p∈(AB dg J s).1,p.key.size≤100∧p.val.size≤100:=fun x hx=>by have:=Id Gu hJ s x hx;unfold CG at this;omega
 refine enter Tryz.func96 U U (Nat.le_of_ble_eq_true U) (Z (Ac (Ab U (Aa (Y (Z (Ac (V U U (Ah U CP U) (V U U (Bp (cs:=[vS,.int .i64 J.parts,vM,vC,vR,.int .i64 J.chunk,.int .i64 J.window,.int .i64 J.fuel,vK]) U Gc U U (H.cellsRI 0 U U)) (V U U (Aj U Aw U (H.cellRI 1 U U)) (sc (ZG vS vM vC vR vK J hJ s (by first |assumption|omega|exact hlen|exact hszs)) H (lR 3 U (lR 4 U (lR 5 U (lR 6 U (lR 7 U (lR 8 U l0)))))) U U (At Wa U U) ?_)))))))))))
 rintro _ _ w ⟨u1,rfl,rfl⟩ H
 refine Ad 5 U (Aa (Y (Z (Ac (V U U (Aj U Ho U (H.cellRI 2 U U)) (Ab U (V U U (AI U U) (V U U (Ah U LK U) ?_))))))))
 replace H:=H.p1
 refine By U U U Aw U U H U (Nat.le_of_ble_eq_true U) (fun u hu=>by simp [Value.cells] at hu;subst hu;rfl) (fun w H=>(Aa (Y (Z (Ac (Ab U (sc (XM u1 ((AB dg J s).1) (by first |assumption|omega|exact hlen|exact hszs) (by first |assumption|omega|exact hlen|exact hszs)) H (lA 1 U BI l0) U U (At We U U) ?_)))))))
 rintro _ _ w ⟨rfl,rfl⟩ H
 refine Ab U (Aa (Y (Ai (Am U U ?_))))
 replace H:=H.k1
 exact Ag ⟨rfl,rfl⟩ H
theorem Wv (b ba bb bc cb:Nat) (vS:Value) (vM:Value) (vC:Value) (vR:Value) (vK:Value) (J:AR) (cw ct co:Int) (s:Nat) (att:Int) (hJ:B3 J) (hs:s<J.us.length) (pl:Nat) (sm:Value) (md:Int) (tx:ByteArray):
    Cn Tryz.prog 170 [.pointer (some ⟨pl,0,none⟩)] [blk cb [.int .u32 0,.int .i32 1,sm,.int .u32 md,.func (.func 96) #[] #[.pointer (some ⟨ba,0,none⟩),.pointer (some ⟨bb,0,none⟩),.pointer (some ⟨bc,0,none⟩)],.string tx] 234,blk b [vS,.int .i64 J.parts,vM,vC,vR,.int .i64 J.chunk,.int .i64 J.window,.int .i64 J.fuel,vK,.int .i64 cw,.int .i64 ct,.int .i64 co,.int .i64 ((s:Nat):Int),.int .i64 att,.int .i64 0,.pointer (some ⟨cb,0,none⟩),.slice none 0 0] 164] [blk pl [.pointer (some ⟨cb,0,none⟩)] 161,blk ba [vS,.int .i64 J.parts,vM,vC,vR,.int .i64 J.chunk,.int .i64 J.window,.int .i64 J.fuel,vK,.int .i64 cw,.int .i64 ct,.int .i64 co] 28,blk bb [.int .i64 ((s:Nat):Int)] 3,blk bc [.pointer (some ⟨b,0,none⟩)] 44,Af (AU Al) vS J.us,Af Au vM J.map,Af Au vC J.comb,Af Au vR J.red,Af (AN .i64) vK J.marks,gl] (fun v Bs=>v=.tuple #[]∧Bs=[blk cb [.int .u32 0,.int .i32 1,sm,.int .u32 md,.func (.func 96) #[] #[.pointer (some ⟨ba,0,none⟩),.pointer (some ⟨bb,0,none⟩),.pointer (some ⟨bc,0,none⟩)],.string (Bu (AB dg J s).1)] 234,blk b [vS,.int .i64 J.parts,vM,vC,vR,.int .i64 J.chunk,.int .i64 J.window,.int .i64 J.fuel,vK,.int .i64 cw,.int .i64 ct,.int .i64 co,.int .i64 ((s:Nat):Int),.int .i64 att,.int .i64 ((AB dg J s).2),.pointer (some ⟨cb,0,none⟩),.slice none 0 0] 164]):=by
 intro w0 F0 H
 refine enter Tryz.func170 U U (Nat.le_of_ble_eq_true U) (Z (Ac (V U U (Aj U DA U (H.cellRI 0 U U)) (V U U (AI U U) (V U U (Ah U JA U) (V U U (Aj U KD U (H.cellI 0 U U)) (V U U (Q3 U Sb U U) (Aa (Y (BM U (BD (.e 0 (.e 1 (.e 2 (.e 3 (.m 4 (.m 5 (.e 6 (.e 7 (.m 8 .z))))))))) (fun w=>∃ Ar,Hd w0 F0 w (Ar) [blk pl [.pointer (some ⟨cb,0,none⟩)] 161,blk ba [vS,.int .i64 J.parts,vM,vC,vR,.int .i64 J.chunk,.int .i64 J.window,.int .i64 J.fuel,vK,.int .i64 cw,.int .i64 ct,.int .i64 co] 28,blk bb [.int .i64 ((s:Nat):Int)] 3,blk bc [.pointer (some ⟨b,0,none⟩)] 44,Af (AU Al) vS J.us,Af Au vM J.map,Af Au vC J.comb,Af Au vR J.red,Af (AN .i64) vK J.marks,gl]) mo (by kernel_rfl) (fun w H=>⟨_,H⟩) H (fun w H=>(Ak U U U (fun w ⟨Ar,H⟩=>Aj U DA U (H.cellRI 0 U U)) (Ak U U U (fun w ⟨Ar,H⟩=>Aj U DA U (H.cellRI 0 U U)) (Ak U U U (fun w ⟨Ar,H⟩=>AI U U) (Ak U U U (fun w ⟨Ar,H⟩=>Ah U JA U) (AL U (V U U (Aj U KD U (H.cellI 0 U U)) (AH ⟨_,H⟩ (AL U ?_))))))))))))))))))))
 replace H:=H.p1
 refine sc (Wy b ba bb bc cb vS vM vC vR vK J cw ct co s att hJ hs) H (lR 1 U (lR 2 U (lR 3 U (lR 4 U (lR 5 U (lR 6 U (lR 7 U (lR 8 U (lR 9 U l0))))))))) U U (Gk (vs:=[]) (fs:=#[]) (cs:=#[.pointer (some ⟨ba,0,none⟩),.pointer (some ⟨bb,0,none⟩),.pointer (some ⟨bc,0,none⟩)]) Wd U U U) ?_
 rintro _ _ w ⟨rfl,rfl⟩ H
 refine AH ⟨_,H⟩ (Ak U U U (fun w ⟨Ar,H⟩=>AI U U) (Ak U U U (fun w ⟨Ar,H⟩=>Ah U Iu U) (AL U ?_)))
 replace H:=H.p1
 exact By U U U Bd U U H U (Nat.le_of_ble_eq_true U) (fun u hu=>by simp [Value.cells] at hu;subst hu;rfl) (fun w H=>(AH ⟨_,H⟩ (Bx (Dg U (Ag ⟨rfl,rfl⟩ H)))))
theorem Wt (b ba bb bc cb:Nat) (vS:Value) (vM:Value) (vC:Value) (vR:Value) (vK:Value) (J:AR) (cw ct co:Int) (s:Nat) (att:Int) (hJ:B3 J) (hs:s<J.us.length) (pl:Nat) (sm:Value) (md:Int) (tx:ByteArray):
    Cn Tryz.prog 169 [.pointer (some ⟨cb,0,none⟩),.func (.func 170) #[] #[.pointer (some ⟨pl,0,none⟩)]] [blk cb [.int .u32 0,.int .i32 0,sm,.int .u32 md,.func (.func 96) #[] #[.pointer (some ⟨ba,0,none⟩),.pointer (some ⟨bb,0,none⟩),.pointer (some ⟨bc,0,none⟩)],.string tx] 234,blk b [vS,.int .i64 J.parts,vM,vC,vR,.int .i64 J.chunk,.int .i64 J.window,.int .i64 J.fuel,vK,.int .i64 cw,.int .i64 ct,.int .i64 co,.int .i64 ((s:Nat):Int),.int .i64 att,.int .i64 0,.pointer (some ⟨cb,0,none⟩),.slice none 0 0] 164] [blk pl [.pointer (some ⟨cb,0,none⟩)] 161,blk ba [vS,.int .i64 J.parts,vM,vC,vR,.int .i64 J.chunk,.int .i64 J.window,.int .i64 J.fuel,vK,.int .i64 cw,.int .i64 ct,.int .i64 co] 28,blk bb [.int .i64 ((s:Nat):Int)] 3,blk bc [.pointer (some ⟨b,0,none⟩)] 44,Af (AU Al) vS J.us,Af Au vM J.map,Af Au vC J.comb,Af Au vR J.red,Af (AN .i64) vK J.marks,gl] (fun v Bs=>v=.tuple #[]∧Bs=[blk cb [.int .u32 1,.int .i32 0,sm,.int .u32 md,.func (.func 96) #[] #[.pointer (some ⟨ba,0,none⟩),.pointer (some ⟨bb,0,none⟩),.pointer (some ⟨bc,0,none⟩)],.string (Bu (AB dg J s).1)] 234,blk b [vS,.int .i64 J.parts,vM,vC,vR,.int .i64 J.chunk,.int .i64 J.window,.int .i64 J.fuel,vK,.int .i64 cw,.int .i64 ct,.int .i64 co,.int .i64 ((s:Nat):Int),.int .i64 att,.int .i64 ((AB dg J s).2),.pointer (some ⟨cb,0,none⟩),.slice none 0 0] 164]):=by
 intro w0 F0 H
 refine enter Tryz.func169 U U (Nat.le_of_ble_eq_true U) (Z (Ac (Ab U (V U U (AI U U) (V U U (Ah U LN U) (sc (JY cb 0 sm md (.func (.func 96) #[] #[.pointer (some ⟨ba,0,none⟩),.pointer (some ⟨bb,0,none⟩),.pointer (some ⟨bc,0,none⟩)]) tx) H (lA 0 U (fun _ h=>h) l0) U U (At Mb U U) ?_))))))
 rintro _ _ w ⟨rfl,rfl⟩ H
 refine V U U (E9 U U U) (Aa (Y (BM U (Ac (Ad 2 U (sc (TM cb pl sm md (.func (.func 96) #[] #[.pointer (some ⟨ba,0,none⟩),.pointer (some ⟨bb,0,none⟩),.pointer (some ⟨bc,0,none⟩)]) tx (Bu (AB dg J s).1) [blk b [vS,.int .i64 J.parts,vM,vC,vR,.int .i64 J.chunk,.int .i64 J.window,.int .i64 J.fuel,vK,.int .i64 cw,.int .i64 ct,.int .i64 co,.int .i64 ((s:Nat):Int),.int .i64 att,.int .i64 0,.pointer (some ⟨cb,0,none⟩),.slice none 0 0] 164] [blk b [vS,.int .i64 J.parts,vM,vC,vR,.int .i64 J.chunk,.int .i64 J.window,.int .i64 J.fuel,vK,.int .i64 cw,.int .i64 ct,.int .i64 co,.int .i64 ((s:Nat):Int),.int .i64 att,.int .i64 ((AB dg J s).2),.pointer (some ⟨cb,0,none⟩),.slice none 0 0] 164] [blk pl [.pointer (some ⟨cb,0,none⟩)] 161,blk ba [vS,.int .i64 J.parts,vM,vC,vR,.int .i64 J.chunk,.int .i64 J.window,.int .i64 J.fuel,vK,.int .i64 cw,.int .i64 ct,.int .i64 co] 28,blk bb [.int .i64 ((s:Nat):Int)] 3,blk bc [.pointer (some ⟨b,0,none⟩)] 44,Af (AU Al) vS J.us,Af Au vM J.map,Af Au vC J.comb,Af Au vR J.red,Af (AN .i64) vK J.marks,gl] (Wv b ba bb bc cb vS vM vC vR vK J cw ct co s att hJ hs pl sm md tx)) H (lR 0 U (lR 1 U (lR 2 U (lR 3 U (lR 4 U (lR 5 U (lR 6 U (lR 7 U (lR 8 U (lR 9 U l0)))))))))) U U (At Ps U U) ?_))))))
 rintro _ _ w ⟨rfl,rfl⟩ H
 exact Aa (Dg U (Ag ⟨rfl,rfl⟩ H))
theorem Wu (b ba bb bc cb:Nat) (vS:Value) (vM:Value) (vC:Value) (vR:Value) (vK:Value) (J:AR) (cw ct co:Int) (s:Nat) (att:Int) (hJ:B3 J) (hs:s<J.us.length):
    Cn Tryz.prog 109 [.pointer (some ⟨cb,0,none⟩)] [blk cb [.int .u32 0,.int .i32 0,.int .u32 0,.int .u32 0,.func (.func 96) #[] #[.pointer (some ⟨ba,0,none⟩),.pointer (some ⟨bb,0,none⟩),.pointer (some ⟨bc,0,none⟩)],.string ⟨#[]⟩] 234,blk b [vS,.int .i64 J.parts,vM,vC,vR,.int .i64 J.chunk,.int .i64 J.window,.int .i64 J.fuel,vK,.int .i64 cw,.int .i64 ct,.int .i64 co,.int .i64 ((s:Nat):Int),.int .i64 att,.int .i64 0,.pointer (some ⟨cb,0,none⟩),.slice none 0 0] 164] [blk ba [vS,.int .i64 J.parts,vM,vC,vR,.int .i64 J.chunk,.int .i64 J.window,.int .i64 J.fuel,vK,.int .i64 cw,.int .i64 ct,.int .i64 co] 28,blk bb [.int .i64 ((s:Nat):Int)] 3,blk bc [.pointer (some ⟨b,0,none⟩)] 44,Af (AU Al) vS J.us,Af Au vM J.map,Af Au vC J.comb,Af Au vR J.red,Af (AN .i64) vK J.marks,gl] (fun v Bs=>v=.string (Bu (AB dg J s).1)∧Bs=[blk cb [.int .u32 1,.int .i32 0,.int .u32 0,.int .u32 1,.func (.func 96) #[] #[.pointer (some ⟨ba,0,none⟩),.pointer (some ⟨bb,0,none⟩),.pointer (some ⟨bc,0,none⟩)],.string (Bu (AB dg J s).1)] 234,blk b [vS,.int .i64 J.parts,vM,vC,vR,.int .i64 J.chunk,.int .i64 J.window,.int .i64 J.fuel,vK,.int .i64 cw,.int .i64 ct,.int .i64 co,.int .i64 ((s:Nat):Int),.int .i64 att,.int .i64 ((AB dg J s).2),.pointer (some ⟨cb,0,none⟩),.slice none 0 0] 164]):=by
 intro w0 F0 H
 refine enter Tryz.func109 U U (Nat.le_of_ble_eq_true U) (Z (Ac (B4 U U U U H (fun b1 w H=>(Ab U (Aa (Y (Z (Z (Ac (V U U (Aj U DA U (H.cellI 0 U U)) (V U U (Dh U I5 U U) (Aa (Y (B0 U (Av (Y (Z (Ac (V U U (Aj U DA U (H.cellI 0 U U)) (V U U (AI U U) (V U U (Ah U LP U) ?_))))))))))))))))))))))
 replace H:=H.p1
 refine sc (M_ cb 0 0 (.int .u32 0) 0 (.func (.func 96) #[] #[.pointer (some ⟨ba,0,none⟩),.pointer (some ⟨bb,0,none⟩),.pointer (some ⟨bc,0,none⟩)]) (⟨#[]⟩:ByteArray)) H l0 U U (At Ma U U) ?_
 rintro _ _ w ⟨rfl,rfl⟩ H
 refine Aa (Y (Z (Ac (V U U (Aj U DA U (H.cellI 1 U U)) (V U U (AI U U) (V U U (Ah U LO U) (V U U (Hh (fs:=#[]) (cs:=#[.pointer (some ⟨b1,0,none⟩)]) U U U) ?_)))))))
 replace H:=H.p2.p1
 refine sc (Wt b ba bb bc cb vS vM vC vR vK J cw ct co s att hJ hs b1 (.int .u32 0) 1 ⟨#[]⟩) H (lA 0 U (fun _ h=>h) (lR 0 U (lR 1 U (lR 2 U (lR 3 U (lR 4 U (lR 5 U (lR 6 U (lR 7 U (lR 8 U l0)))))))))) U U (At Me U U) ?_
 rintro _ _ w ⟨rfl,rfl⟩ H
 refine Aa (Y (Z (Ac (V U U (Aj U DA U (H.cellI 2 U U)) (V U U (AI U U) (V U U (Ah U Iu U) (V U U (Aj U Bd U (H.cellI 0 U U)) (Ab U (Aa (Y (Ai (Am U U ?_))))))))))))
 replace H:=H.k2
 exact Ag ⟨rfl,rfl⟩ H
theorem Wx (b ba bb bc cb:Nat) (vS:Value) (vM:Value) (vC:Value) (vR:Value) (vK:Value) (J:AR) (cw ct co:Int) (s:Nat) (att:Int) (hJ:B3 J) (hs:s<J.us.length):
    Cn Tryz.prog 32 [.pointer (some ⟨b,0,none⟩)] [blk cb [.int .u32 0,.int .i32 0,.int .u32 0,.int .u32 0,.func (.func 96) #[] #[.pointer (some ⟨ba,0,none⟩),.pointer (some ⟨bb,0,none⟩),.pointer (some ⟨bc,0,none⟩)],.string ⟨#[]⟩] 234,blk b [vS,.int .i64 J.parts,vM,vC,vR,.int .i64 J.chunk,.int .i64 J.window,.int .i64 J.fuel,vK,.int .i64 cw,.int .i64 ct,.int .i64 co,.int .i64 ((s:Nat):Int),.int .i64 att,.int .i64 0,.pointer (some ⟨cb,0,none⟩),.slice none 0 0] 164] [blk ba [vS,.int .i64 J.parts,vM,vC,vR,.int .i64 J.chunk,.int .i64 J.window,.int .i64 J.fuel,vK,.int .i64 cw,.int .i64 ct,.int .i64 co] 28,blk bb [.int .i64 ((s:Nat):Int)] 3,blk bc [.pointer (some ⟨b,0,none⟩)] 44,Af (AU Al) vS J.us,Af Au vM J.map,Af Au vC J.comb,Af Au vR J.red,Af (AN .i64) vK J.marks,gl] (fun v Bs=>v=.int .i64 ((AB dg J s).2)∧Bs=[blk cb [.int .u32 1,.int .i32 0,.int .u32 0,.int .u32 1,.func (.func 96) #[] #[.pointer (some ⟨ba,0,none⟩),.pointer (some ⟨bb,0,none⟩),.pointer (some ⟨bc,0,none⟩)],.string (Bu (AB dg J s).1)] 234,blk b [vS,.int .i64 J.parts,vM,vC,vR,.int .i64 J.chunk,.int .i64 J.window,.int .i64 J.fuel,vK,.int .i64 cw,.int .i64 ct,.int .i64 co,.int .i64 ((s:Nat):Int),.int .i64 att,.int .i64 ((AB dg J s).2),.pointer (some ⟨cb,0,none⟩),.slice none 0 0] 164]):=by
 intro w0 F0 H
 refine enter Tryz.func32 U U (Nat.le_of_ble_eq_true U) (Z (Ac (Ab U (Aa (Y (Z (Z (Ac (Ab U (V U U (Dh U Fe U U) (Aa (Y (B0 U (Av (Y (Z (Ac (Ab U (V U U (AI U U) (V U U (Ah U Jx U) (V U U (Aj U DA U (H.cellI 1 U U)) (sc (Wu b ba bb bc cb vS vM vC vR vK J cw ct co s att hJ hs) H (lR 0 U (lR 1 U (lR 2 U (lR 3 U (lR 4 U (lR 5 U (lR 6 U (lR 7 U (lR 8 U l0))))))))) U U (At Iz U U) ?_))))))))))))))))))))))
 rintro _ _ w ⟨rfl,rfl⟩ H
 exact Aa (Y (Z (Ac (Ab U (V U U (AI U U) (V U U (Ah U LK U) (V U U (Aj U Aw U (H.cellI 1 U U)) (Ab U (Aa (Y (Ai (Am U U (Ag ⟨rfl,rfl⟩ H)))))))))))))
theorem Wr (b ba bb bc cb:Nat) (vS:Value) (vM:Value) (vC:Value) (vR:Value) (vK:Value) (J:AR) (cw ct co:Int) (s:Nat) (att:Int) (hJ:B3 J) (hs:s<J.us.length):
    Cn Tryz.prog 30 [.pointer (some ⟨b,0,none⟩)] [blk cb [.int .u32 0,.int .i32 0,.int .u32 0,.int .u32 0,.func (.func 96) #[] #[.pointer (some ⟨ba,0,none⟩),.pointer (some ⟨bb,0,none⟩),.pointer (some ⟨bc,0,none⟩)],.string ⟨#[]⟩] 234,blk b [vS,.int .i64 J.parts,vM,vC,vR,.int .i64 J.chunk,.int .i64 J.window,.int .i64 J.fuel,vK,.int .i64 cw,.int .i64 ct,.int .i64 co,.int .i64 ((s:Nat):Int),.int .i64 att,.int .i64 0,.pointer (some ⟨cb,0,none⟩),.slice none 0 0] 164] [blk ba [vS,.int .i64 J.parts,vM,vC,vR,.int .i64 J.chunk,.int .i64 J.window,.int .i64 J.fuel,vK,.int .i64 cw,.int .i64 ct,.int .i64 co] 28,blk bb [.int .i64 ((s:Nat):Int)] 3,blk bc [.pointer (some ⟨b,0,none⟩)] 44,Af (AU Al) vS J.us,Af Au vM J.map,Af Au vC J.comb,Af Au vR J.red,Af (AN .i64) vK J.marks,gl] (fun v Bs=>Bs=[Ae (AN .i64) v (BO dg J s att),blk cb [.int .u32 1,.int .i32 0,.int .u32 0,.int .u32 1,.func (.func 96) #[] #[.pointer (some ⟨ba,0,none⟩),.pointer (some ⟨bb,0,none⟩),.pointer (some ⟨bc,0,none⟩)],.string (Bu (AB dg J s).1)] 234,blk b [vS,.int .i64 J.parts,vM,vC,vR,.int .i64 J.chunk,.int .i64 J.window,.int .i64 J.fuel,vK,.int .i64 cw,.int .i64 ct,.int .i64 co,.int .i64 ((s:Nat):Int),.int .i64 att,.int .i64 ((AB dg J s).2),.pointer (some ⟨cb,0,none⟩),.slice none 0 0] 164]):=by
 intro w0 F0 H
 have hlen:(AB dg J s).1.length≤1000:=by have:=Hl dg J s;omega
 have hszs:∀ p∈(AB dg J s).1,p.key.size≤100∧p.val.size≤100:=fun x hx=>by have:=Id Gu hJ s x hx;unfold CG at this;omega
 have hsk:∀ x∈(AB dg J s).1,x.key.size≤9223372036854775807:=fun x hx=>by have:=(hszs x hx).1;omega
 have hpt:=hJ.parts
 have hck:=hJ.chunk1
 have hol:=GQ dg J s
 refine enter Tryz.func30 U U (Nat.le_of_ble_eq_true U) (Z (Ac (Ab U (Aa (Y (Z (Z (Ac (Ab U (V U U (Dh U Fe U U) (Ad 2 U (sc (Wx b ba bb bc cb vS vM vC vR vK J cw ct co s att hJ hs) H (lR 0 U (lR 1 U (lR 2 U (lR 3 U (lR 4 U (lR 5 U (lR 6 U (lR 7 U (lR 8 U l0))))))))) U U (At Mf U U) ?_))))))))))))
 rintro _ _ w ⟨rfl,rfl⟩ H
 refine V U U (CL U U U) (Ab U (Aa (Y ?_)))
 refine Aq U (fun h1=>?_) (fun h1=>?_)
 ·refine Z (Ac (Ab U (Aa (Y (Ai (Ao (Am U U ?_)))))))
  replace H:=H.newnil (AN .i64)|>.tellK (ys:=BO dg J s att) (by rw [Lp h1])|>.h1 (A:=Ae (AN .i64) (.slice none 0 0) (BO dg J s att))
  exact Ag U H
 refine Av (Y (Z (Ac (Ab U (Aa (Y (Z (Z (Ac (Ab U (V U U (AI U U) (V U U (Ah U Jw U) (V U U (Ah U CP U) (V U U (Ah U G9 U) (V U U (Aj U Aw U (H.cellI 1 U U)) (Ab U (Aa (Y (AK ?_)))))))))))))))))))
 replace H:=H.newnil (AN .i64)|>.tellK (ys:=D9 dg J s att 0) (by rfl)
 refine Br (σ:=Nat×Value) (fun (k,q)=>[(0,.pointer (some ⟨b,0,none⟩)),(2,.slice none 0 0),(3,q),(17,.int .i64 J.parts),(18,.int .i64 ((k:Nat):Int))]) (fun (k,q) w=>(Hd w0 F0 w [Ae (AN .i64) q (D9 dg J s att k),blk cb [.int .u32 1,.int .i32 0,.int .u32 0,.int .u32 1,.func (.func 96) #[] #[.pointer (some ⟨ba,0,none⟩),.pointer (some ⟨bb,0,none⟩),.pointer (some ⟨bc,0,none⟩)],.string (Bu (AB dg J s).1)] 234,blk b [vS,.int .i64 J.parts,vM,vC,vR,.int .i64 J.chunk,.int .i64 J.window,.int .i64 J.fuel,vK,.int .i64 cw,.int .i64 ct,.int .i64 co,.int .i64 ((s:Nat):Int),.int .i64 att,.int .i64 ((AB dg J s).2),.pointer (some ⟨cb,0,none⟩),.slice none 0 0] 164] [blk ba [vS,.int .i64 J.parts,vM,vC,vR,.int .i64 J.chunk,.int .i64 J.window,.int .i64 J.fuel,vK,.int .i64 cw,.int .i64 ct,.int .i64 co] 28,blk bb [.int .i64 ((s:Nat):Int)] 3,blk bc [.pointer (some ⟨b,0,none⟩)] 44,Af (AU Al) vS J.us,Af Au vM J.map,Af Au vC J.comb,Af Au vR J.red,Af (AN .i64) vK J.marks,gl])∧((k:Int)≤J.parts)) (fun (k,q)=>J.parts.toNat - k) (0,.slice none 0 0) ⟨rfl,rfl,rfl,rfl,rfl,trivial⟩ ⟨H,by omega⟩ ?_
 rintro ⟨k,q⟩ w ⟨H,hk⟩
 have hcl:=Lm dg J s att k
 have holk:=hol ((k:Nat):Int)
 refine Z (Ac (V U U (AQ U U U) (Aa (Y (Z ?_)))))
 refine Aq U (fun h2=>?_) (fun h2=>?_)
 ·refine Av (Y (Z (AK (Z (Ac (Ad 2 U (Aa (Y (Ac (Ad 3 U ?_))))))))))
  replace H:=H.p1
  refine sc (Ml b vS vM vC vR vK J cw ct co s att cb (.func (.func 96) #[] #[.pointer (some ⟨ba,0,none⟩),.pointer (some ⟨bb,0,none⟩),.pointer (some ⟨bc,0,none⟩)]) (.slice none 0 0) ((k:Nat):Int) (by first |assumption|omega|exact hlen|exact hszs)) H (lA 1 U (fun _ h=>h) l0) U U (At L8 U U) ?_
  rintro v3 _ w rfl H
  obtain ⟨A4,c5,rfl,hc6,hm7,hp8⟩:=H.fA 0 rfl
  refine V U U (AO U B_ U) (Ab U (sc (Mm b vS vM vC vR vK J cw ct co s att cb (.slice none 0 0) (by first |assumption|omega|exact hlen|exact hszs)) H (lA 3 U (fun _ h=>h) l0) U U (At L9 U U) ?_))
  rintro _ _ w ⟨rfl,rfl⟩ H
  refine sc (Lr (((BE dg J s ((k:Nat):Int)).length:Nat):Int) (CA J.chunk att) (by first |assumption|omega|exact hlen|exact hszs)) H l0 U U (At L7 U U) ?_
  rintro _ _ w ⟨rfl,rfl⟩ H
  refine Bv (parts:=[(0,.tmp 28)]) (vs:=[.int .i64 (CK (((BE dg J s ((k:Nat):Int)).length:Nat):Int) (CA J.chunk att))]) (cs:=[.int .i64 (CK (((BE dg J s ((k:Nat):Int)).length:Nat):Int) (CA J.chunk att))]) U U U CZ EQ U (by decide) (by decide) U U H (fun b9 w H=>?_)
  replace H:=H.p3
  refine BY (xs:=D9 dg J s att k) (ys:=[CK (((BE dg J s ((k:Nat):Int)).length:Nat):Int) (CA J.chunk att)]) U U U CZ EQ U (by decide) U U H (by first |omega|(simp only [List.length_append,List.length_cons,List.length_nil];omega)) (fun F hA hR=>BZ (hA _ (List.mem_of_getElem? (i:=0) U)) U (by decide) (AX.flat_eq.2 U)) (fun v10 w H=>(Ab U (Aa (AS (Y (Ac (V U U (AP (z:=((k+1:Nat):Int)) U U U (by rw [Ay (by omega) (by omega)];omega)) (Ab U (Aa ?_)))))))))
  replace H:=H.p4.p4.p2.k3.tellK (ys:=D9 dg J s att (k+1)) (by rw [Ln])
  exact Bb (s:=(k,undef)) (k+1,v10) ⟨rfl,rfl,rfl,rfl,rfl,trivial⟩ ⟨H,by (try dsimp only);omega⟩ (by (try dsimp only);omega)
 refine Bj (AE (AE (Bk (Y (Z (Ac (Ad 2 U (Aa (Y (Ai (Am U U ?_)))))))))))
 have hkk:k=J.parts.toNat:=by omega
 replace H:=H.tellK (ys:=BO dg J s att) (by rw [Lq (Classical.not_not.1 h1),←hkk])
 exact Ag U H
theorem Ww (ba bb bc:Nat):
    Cn Tryz.prog 95 [.func (.func 96) #[] #[.pointer (some ⟨ba,0,none⟩),.pointer (some ⟨bb,0,none⟩),.pointer (some ⟨bc,0,none⟩)]] [] [] (fun v Bs=>∃ cb,v=.pointer (some ⟨cb,0,none⟩)∧Bs=[blk cb [.int .u32 0,.int .i32 0,.int .u32 0,.int .u32 0,.func (.func 96) #[] #[.pointer (some ⟨ba,0,none⟩),.pointer (some ⟨bb,0,none⟩),.pointer (some ⟨bc,0,none⟩)],.string ⟨#[]⟩] 234]):=by
 intro w0 F0 H
 exact enter Tryz.func95 U U (Nat.le_of_ble_eq_true U) (Z (Ac (Ab U (Aa (Y (Z (Ac (Ab U (V U U (CV (parts:=[(2,.tmp 3)]) (vs:=[.func (.func 96) #[] #[.pointer (some ⟨ba,0,none⟩),.pointer (some ⟨bb,0,none⟩),.pointer (some ⟨bc,0,none⟩)]]) (cs:=[.int .u32 0,.int .i32 0,.int .u32 0,.int .u32 0,.func (.func 96) #[] #[.pointer (some ⟨ba,0,none⟩),.pointer (some ⟨bb,0,none⟩),.pointer (some ⟨bc,0,none⟩)],.string ⟨#[]⟩]) U NJ U U) (B4 U U U U H (fun b1 w H=>(Ab U (Aa (Y (Ai (Am U U (Ag ⟨_,rfl,rfl⟩ H)))))))))))))))))
end Go.Proofs.YthgehekecfpikaaGreatDoor.X
